/- Parts, joined: Rows that a call builds by append, of data of any make. Plain. No condition. commonplaceref01.Runes: a text's runes and their places. Condition: a text of at most 10^9 bytes. commonplaceref01.Bytes: a rune's bytes. Condition: a rune of Unicode, no surrogate. How the reference writes a rune, against how the program does. Plain. No condition. A range over an iterator that yields a known list, by a body that may leave the function: the law that the walks use. No condition. utf.Runes: the iterator over a text's runes and their places, by rounds that may end it. Condition: a text shorter than 10^9. -/
import Derived.Test.YtackmnbpfbaemaaGreatDoorProg
import Derived.Maps.AppendAt
import Derived.WalkKit
import Derived.Below
import Derived.Lib.RuneBytes
import Derived.Lib.Hide
import Derived.IntWalk
import Derived.Laws.IdiomStrings
import Derived.Lib.Builder
import Derived.Test.YtackmnbpfbaemaaGreatDoorKAs1
import Derived.Test.YtackmnbpfbaemaaGreatDoorKAs2
import Derived.Test.YtackmnbpfbaemaaGreatDoorKAs3
import Derived.Test.YtackmnbpfbaemaaGreatDoorKAs6
import Derived.Test.YtackmnbpfbaemaaGreatDoorKAs7
import Derived.Test.YtackmnbpfbaemaaGreatDoorKAs8
import Derived.Test.YtackmnbpfbaemaaGreatDoorKAs12
namespace Go.Proofs.YtackmnbpfbaemaaGreatDoor
open Go Go.RowKit
theorem add_plain' (g off i:Nat):(⟨g,off,none⟩:Addr).add i=⟨g,off+i,none⟩:=Go.WideShapes.add_plain g off i
theorem Holds.reads {w:World} {B s:Nat} {l:List D} {a:Option Addr} {n c:Nat} (h:Holds w B (.row s l) [.slice a n c]): ∃ns,Reads w B s a n ns∧HoldsA w B l ns∧ ∀u ∈ ns,u.oneCell'=true:=by
 have hn:=h.row_len
 obtain⟨a',c',e,hs,ns,h1,h2⟩:=h
 simp only[List.cons.injEq,Value.slice.injEq,and_true]at e
 obtain⟨rfl,rfl,rfl⟩:=e
 refine⟨ns,⟨by rw[h1.len.1,cellsA_all hs],fun h0=> ?_⟩,h1,h1.len.2⟩
 rcases h2 with rfl|⟨g,off,e,hg,hc⟩
 · simp at h0
 · exact⟨_,e,hg,fun j u hu=>by rw[add_plain'];exact hc j u hu⟩
def RowD (b:Nat) (t:TypeId) (s:Nat) (wr:World) (l:List D) (V:Value):Prop:=
 ∃ns,wr.ownsRow b t s V l.length ns∧(∀d ∈ l,d.cells=s)∧ ∀w'':World,wr.heap.size≤w''.heap.size→
  (∀p:Addr,b≤p.block→p.block<wr.heap.size→V.ownBlock≠some p.block→w''.cell? p=wr.cell? p)→HoldsA w'' wr.heap.size l ns
theorem RowD.nil (b:Nat) (t:TypeId) (s:Nat) (wr:World):RowD b t s wr [] (.slice none 0 0):=⟨[],World.ownsRow_nil _ _ _ _,fun d hd=>(by cases hd),fun _ _ _=>rfl⟩
theorem RowD.base {b:Nat} {t:TypeId} {s:Nat} {wr:World} {l:List D} {V:Value} (h:RowD b t s wr l V): ∀g,V.ownBlock=some g→b≤g∧g<wr.heap.size:=by
 obtain⟨ns,h1,_⟩:=h
 exact h1.lt
theorem RowD.keep {b:Nat} {t:TypeId} {s:Nat} {wr w':World} {l:List D} {V:Value} (h:RowD b t s wr l V) (hs:wr.heap.size≤w'.heap.size) (hk: ∀i,b≤i→i<wr.heap.size→w'.heap[i]? =wr.heap[i]?):RowD b t s w' l V:=by
 obtain⟨ns,h1,h2,h3⟩:=h
 refine⟨ns,⟨h1.1, ?_⟩,h2,fun w'' k1 k2=>HoldsA.more (h3 w'' (by omega) (fun p p1 p2 p3=>(k2 p p1 (by omega) p3).trans (World.cell?_of_block (hk p.block p1 p2)))) hs⟩
 rcases h1.2 with⟨rfl,h0⟩|⟨g,cap,cur,rfl,hbg,hg,h5⟩
 · exact .inl ⟨rfl,h0⟩
 · exact .inr ⟨g,cap,cur,rfl,hbg,(hk g hbg (Array.getElem?_eq_some_iff.1 hg).1).trans hg,h5⟩
theorem RowD.below {b:Nat} {t:TypeId} {s:Nat} {wr w':World} {l:List D} {V:Value} (h:RowD b t s wr l V) (hb:Below wr.heap.size wr w'):RowD b t s w' l V:=h.keep hb.size fun i _ hi=>hb.block i hi
theorem RowD.step {b:Nat} {t:TypeId} {s:Nat} {wr w4 w6:World} {l:List D} {V V':Value} {d:D} {cs ns:List Value} (hbw:b≤wr.heap.size)
 (hns: ∀w'':World,wr.heap.size≤w''.heap.size→(∀p:Addr,b≤p.block→p.block<wr.heap.size→V.ownBlock≠some p.block→w''.cell? p=wr.cell? p)→HoldsA w'' wr.heap.size l ns)
 (hall: ∀d ∈ l,d.cells=s) (hd:d.cells=s) (hx:Fresh wr.heap.size w4 d cs) (hlt: ∀g,V.ownBlock=some g→g<wr.heap.size)
 (hown:w6.ownsRow b t s V' (l.length+1) (ns++cs)) (hV:V'.ownBlock=V.ownBlock∨ ∃N,V'.ownBlock=some N∧w4.heap.size≤N)
 (hs4:wr.heap.size≤w4.heap.size) (hs6:w4.heap.size≤w6.heap.size) (h4: ∀p:Addr,b≤p.block→p.block<wr.heap.size→w4.cell? p=wr.cell? p)
 (h6: ∀p:Addr,b≤p.block→p.block<w4.heap.size→V.ownBlock≠some p.block→w6.cell? p=w4.cell? p):RowD b t s w6 (l++ [d]) V':=by
 refine⟨ns++cs,by rw[List.length_append];exact hown, ?_,fun w'' hsz hag=> ?_⟩
 · intro x hx'
   rcases List.mem_append.1 hx' with hx'|hx'
   · exact hall x hx'
   · simp only[List.mem_cons,List.not_mem_nil,or_false]at hx'
     rw[hx'];exact hd
 · have hnew: ∀p:Addr,p.block<w4.heap.size→V.ownBlock≠some p.block→V'.ownBlock≠some p.block:=by
    intro p p2 p3
    rcases hV with e|⟨N,e,hN⟩
    · rw[e];exact p3
    · rw[e];intro e2;have:=Option.some.inj e2;omega
   have a1:HoldsA w'' w6.heap.size l ns:=HoldsA.more (hns w'' (by omega) (fun p p1 p2 p3=>by
    rw[hag p p1 (by omega) (hnew p (by omega) p3),h6 p p1 (by omega) p3,h4 p p1 p2])) (by omega)
   have a2:Holds w'' w6.heap.size d cs:=Holds.more (hx w'' (by omega) (fun p p1 p2=>by
    have p3:V.ownBlock≠some p.block:=fun e=>by have:=hlt _ e;omega
    rw[hag p (by omega) (by omega) (hnew p p2 p3),h6 p (by omega) p2 p3])) hs6
   exact a1.snoc a2
theorem RowD.close {b:Nat} {t:TypeId} {s:Nat} {wr:World} {l:List D} {V:Value} (h:RowD b t s wr l V):
 ∃a c,V= .slice a l.length c∧l.length≤c∧Fresh b wr (.row s l) [.slice a l.length c]∧((l= []∧a=none∧c=0)∨ ∃g,a=some ⟨g,0,none⟩∧b≤g∧g<wr.heap.size):=by
 obtain⟨ns,h1,h2,h3⟩:=h
 have h1':=h1
 rcases h1.2 with⟨rfl,h0⟩|⟨g,cap,cur,rfl,hbg,hg,hnc,_⟩
 · have hl:l= []:=List.eq_nil_of_length_eq_zero h0
   subst hl
   exact⟨none,0,rfl,Nat.le_refl _,fun _ _ _=>⟨none,0,rfl,h2, [],rfl, .inl rfl⟩, .inl ⟨rfl,rfl,rfl⟩⟩
 · have hgl:=(Array.getElem?_eq_some_iff.1 hg).1
   refine⟨_,cap,rfl,hnc,fun w'' k1 k2=>⟨_,cap,rfl,h2,ns,h3 w'' k1 (fun p p1 p2 _=>k2 p p1 p2), .inr ⟨g,0,rfl,hgl,fun j u hu=> ?_⟩⟩, .inr ⟨g,rfl,hbg,hgl⟩⟩
   have h5:=h1'.cells (g:=g) rfl j u hu
   rw[add_plain']at h5
   exact(k2 _ hbg hgl).trans h5
end Go.Proofs.YtackmnbpfbaemaaGreatDoor

namespace Go.Proofs.YtackmnbpfbaemaaGreatDoor
open Go.RowKit
theorem runesFrom_step {l:List UInt8} (h:l≠ []) (f p:Nat):
 ((atSpec l).2=0∧runesFrom (f+1) l p= [])∨(∃n r:Nat,atSpec l=((r:Int),(n:Int))∧1≤n∧n≤l.length∧runesFrom (f+1) l p=(p,r)::runesFrom f (l.drop n) (p+n)):=by
 have hg:=atSpec_dec l h
 unfold goodAt at hg
 by_cases hb:(Lib.decodeL l).1=65533∧(Lib.decodeL l).2=1
 · rw[if_pos hb]at hg
   rw[hg]
   refine .inl ⟨rfl, ?_⟩
   simp only[runesFrom]
   rw[if_neg h,if_pos hb]
 · rw[if_neg hb]at hg
   have hw:=Lib.decodeL_width l
   refine .inr ⟨(Lib.decodeL l).2,(Lib.decodeL l).1,hg,hw,Lib.decodeL_le l h, ?_⟩
   simp only[runesFrom]
   rw[if_neg h,if_neg hb]
def Apart (v1 v2:Value):Prop:= ∀g,v1.ownBlock=some g→v2.ownBlock≠some g
theorem Apart.ne {v1 v2:Value} (h:Apart v1 v2):v1.ownBlock=none∨v1.ownBlock≠v2.ownBlock:=by
 cases e:v1.ownBlock with
 |none=>exact .inl rfl
 |some g=>exact .inr fun e'=>h g e (by rw[←e'])
theorem Apart.symm {v1 v2:Value} (h:Apart v1 v2):Apart v2 v1:=fun g e e'=>h g e' e
theorem Apart.step {v1 v1' v2:Value} {w:World} {B n N:Nat} {e:TypeId} {size:Nat} {xs:List Value} (h:Apart v1 v2) (h2:w.ownsRow B e size v2 n xs) (h4:v1'.ownBlock=v1.ownBlock∨v1'.ownBlock=some N) (hN:w.heap.size≤N):Apart v1' v2:=by
 intro g e1 e2
 rcases h4 with h4|h4
 · exact h g (by rw[←h4];exact e1) e2
 · rw[h4]at e1
   obtain rfl:=Option.some.inj e1
   have:=(h2.lt _ e2).2
   omega
theorem info_int:(Tryz.prog.info? 3).map (fun i=>(i.zero,i.size,i.bytes))=some (some (.int .i64 0),1,8):=by kernel_rfl
set_option maxRecDepth 20000 in
set_option maxHeartbeats 2000000 in
theorem RRunes_calls (s:ByteArray) (w:World) (hs:s.size≤1000000000):
 Calls Tryz.prog 86 #[.string s] w fun e w'=>(∃v1 v2,e= .returned (.tuple #[v1,v2])∧w'.ownsRow w.heap.size 3 1 v1 (runes s).length ((runes s).map fun x=>Value.int .i64 x.2))∧Below w.heap.size w w':=by
 obtain⟨i0,hi,hz0,hz1,hz2⟩:=info_parts info_int
 have HI:=Lib.hid hi
 have HZ0:=Lib.hid hz0
 have HZ1:=Lib.hid hz1
 have HZ2:=Lib.hid hz2
 clear hi hz0 hz1 hz2
 have Hown0:Hid (w.ownsRow w.heap.size 3 1 (.slice none 0 0) 0 []):=World.ownsRow_nil _ _ _ _
 have Hap0:Hid (Apart (.slice none 0 0) (.slice none 0 0)):=Lib.hid (fun g e=>by simp[Value.ownBlock]at e)
 go_enter Tryz.func86,Tryz.ntmps86
 go_wp2
 go_loopw [4,5,6] (fun v1 v2 i wr=> ∃(pre:List (Nat×Nat)) (f k:Nat),i= .int .i64 k∧k≤s.size∧s.size - k≤f∧Hid (runes s=pre++runesFrom f (s.data.toList.drop k) k)∧pre.length≤k∧
  Hid (wr.ownsRow w.heap.size 3 1 v1 pre.length (pre.map fun x=>Value.int .i64 x.2))∧Hid (wr.ownsRow w.heap.size 3 1 v2 pre.length (pre.map fun x=>Value.int .i64 x.1))∧Hid (Apart v1 v2)∧Hid (Below w.heap.size w wr)) (fun _ _ i _=>s.size - (intOf i).toNat)
 case atStart=>exact⟨[],s.size,0,rfl,Nat.zero_le _,by omega,rfl,Nat.le_refl _,Hown0,Hown0,Hap0,Below.refl _ _⟩
 case round=>
  obtain⟨pre,f,k,rfl,hk,hf,hr,hpk,ho1,ho2,hap,hbw⟩:=hrel
  clear Hown0 Hap0
  by_cases hlt:k<s.size
  · have hne:s.data.toList.drop k≠ []:=by
     intro e
     have:=congrArg List.length e
     rw[List.length_drop,←Lib.size_eq]at this
     simp at this
     omega
    obtain⟨f,rfl⟩: ∃f',f=f'+1:=⟨f - 1,by omega⟩
    have hA:=At_calls s k wr (by omega) (by omega)
    rcases runesFrom_step hne f k with⟨h0,hv⟩|⟨n,r,hn,hn1,hn2,hv⟩
    · have hr':=hr.out
      rw[hv,List.append_nil]at hr'
      rw[h0]at hA
      generalize (atSpec (s.data.toList.drop k)).1=R at hA
      have HA:=Lib.hid hA
      have HR:=Lib.hid hr'
      clear hA h0 hv hne hr hr'
      go_wp2_with (fail)
      with_reducible refine HA.out.mono ?_
      rintro e w' ⟨rfl,rfl⟩
      clear HA
      go_wp2
      go_ret2
      exact⟨⟨u4,u5,rfl,by rw[HR.out];exact ho1.out⟩,hbw.out⟩
    · have hr':=hr.out
      rw[hv,List.drop_drop]at hr'
      rw[hn]at hA
      rw[List.length_drop,←Lib.size_eq]at hn2
      have HA:=Lib.hid hA
      have HR:=Lib.hid hr'
      have hb1:w.heap.size≤wr.heap.size:=hbw.out.size
      clear hA hn hv hne hr hr'
      have e0:((n:Int)==0)=false:=by simp;omega
      go_wp2_with (fail)
      with_reducible refine HA.out.mono ?_
      rintro e w' ⟨rfl,rfl⟩
      clear HA
      go_wp2_with (at_builtin;refine wpList_append_own_at _ rfl (.tmp 21) (.tmp 23) 150 rfl w.heap.size 3 i0 (.int .i64 0) 1 8 Tryz.underlying150 HI.out HZ0.out HZ1.out HZ2.out rfl (by decide) u4 pre.length _ rfl (ho1.out.alloc _) ⟨wr.heap.size,0,none⟩ 1 1 [.int .i64 r] rfl rfl ?c1 ?c2 ?c3 ?c4 ?c5 ?_)
      case c1=>
       intro j u hj
       match j,hj with
       |0,hj=>simp at hj;subst hj;simp[Addr.add]
      case c2=>intro u hu;simp at hu;subst hu;rfl
      case c3=>unfold maxLen;omega
      case c4=>omega
      case c5=>simp;omega
      intro v1' w2 hown1 hgrow1 _ hat1
      have ho1':=Lib.hid hown1
      have ho2':=Lib.hid ((ho2.out.alloc (.cells #[.int .i64 r] 3)).kept hgrow1 hap.out.symm.ne)
      have hap':=Lib.hid (Apart.step hap.out ho2.out hat1 (by omega))
      have hbw2:=Lib.hid ((hbw.out.alloc hb1 (.cells #[.int .i64 r] 3)).grown hgrow1 (by simp;omega) (fun k hk=>(ho1.out.lt k hk).1))
      have hb2:w.heap.size≤w2.heap.size:=hbw2.out.size
      clear hown1 hgrow1 hat1 ho1 ho2 hap hbw hb1
      go_wp2_with (at_builtin;refine wpList_append_own_at _ rfl (.tmp 25) (.tmp 27) 150 rfl w.heap.size 3 i0 (.int .i64 0) 1 8 Tryz.underlying150 HI.out HZ0.out HZ1.out HZ2.out rfl (by decide) u5 pre.length _ rfl (ho2'.out.alloc _) ⟨w2.heap.size,0,none⟩ 1 1 [.int .i64 k] rfl rfl ?d1 ?d2 ?d3 ?d4 ?d5 ?_)
      case d1=>
       intro j u hj
       match j,hj with
       |0,hj=>simp at hj;subst hj;simp[Addr.add]
      case d2=>intro u hu;simp at hu;subst hu;rfl
      case d3=>unfold maxLen;omega
      case d4=>omega
      case d5=>simp;omega
      intro v2' w3 hown2 hgrow2 _ hat2
      have ho2'':=Lib.hid hown2
      have ho1'':=Lib.hid ((ho1'.out.alloc (.cells #[.int .i64 k] 3)).kept hgrow2 hap'.out.ne)
      have hap'':=Lib.hid (Apart.step hap'.out.symm ho1'.out hat2 (by omega)).symm
      have hbw3:=Lib.hid ((hbw2.out.alloc hb2 (.cells #[.int .i64 k] 3)).grown hgrow2 (by simp;omega) (fun k hk=>(ho2'.out.lt k hk).1))
      clear hown2 hgrow2 hat2 ho1' ho2' hap' hbw2 hb2
      go_wp2
      go_roundw
      case rel=>exact⟨pre++ [(k,r)],f,k+n,by go_num,by omega,by omega,Lib.hid (by rw[List.append_assoc];exact HR.out),by simp;omega,Lib.hid (by rw[List.length_append,List.map_append];exact ho1''.out),Lib.hid (by rw[List.length_append,List.map_append];exact ho2''.out),hap'',hbw3⟩
      case measure=>simp only[intOf];omega
  · obtain rfl:k=s.size:=by omega
    have hr':=hr.out
    have e:runesFrom f (s.data.toList.drop s.size) s.size= []:=by
     rw[List.drop_eq_nil_of_le (by rw[←Lib.size_eq];omega)]
     cases f<;>simp[runesFrom]
    rw[e,List.append_nil]at hr'
    have HR:=Lib.hid hr'
    clear hr hr' e
    go_wp2
    go_ret2
    exact⟨⟨u4,u5,rfl,by rw[HR.out];exact ho1.out⟩,hbw.out⟩
end Go.Proofs.YtackmnbpfbaemaaGreatDoor

namespace Go.Proofs.YtackmnbpfbaemaaGreatDoor
open Go.RowKit
theorem u8_back {z:Int} (h0:0≤z) (h1:z<256):((z.toNat.toUInt8).toNat:Int)=z:=by
 have:z.toNat<256:=by omega
 simp[Nat.toUInt8,UInt8.toNat_ofNat',Nat.mod_eq_of_lt this]
 omega
theorem run_bytes (w:World) (zs:List Int) (hz: ∀z ∈ zs,0≤z∧z<256) (t:TypeId):
 (convert 25 9 (.slice (some ⟨w.heap.size,0,none⟩) zs.length zs.length)).run Tryz.prog (w.alloc (.cells (zs.map (Value.int .u8)).toArray t))= .ok (.string ⟨(zs.map fun z=>z.toNat.toUInt8).toArray⟩) (w.alloc (.cells (zs.map (Value.int .u8)).toArray t)):=by
 have:=run_convert_bytes_back (P:=Tryz.prog) (w.alloc (.cells (zs.map (Value.int .u8)).toArray t)) 25 9 5 ⟨w.heap.size,0,none⟩ zs.length (zs.map fun z=>z.toNat.toUInt8) Tryz.underlying25 Tryz.underlying5 Tryz.underlying9 (by
  intro j hj
  rw[List.length_map]at hj
  have hh:(w.alloc (.cells (zs.map (Value.int .u8)).toArray t)).heap[w.heap.size]? =some (.cells (zs.map (Value.int .u8)).toArray t (0,0)):=heap_alloc_new _ _
  rw[show(⟨w.heap.size,0,none⟩:Addr).add j=⟨w.heap.size,j,none⟩from by unfold Addr.add;split<;>simp_all]
  rw[Lib.cell_of_heap hh]
  simp only[List.getElem?_toArray,List.getElem?_map,List.getElem?_eq_getElem hj,Option.map_some,List.getElem_map]
  rw[u8_back (hz _ (List.getElem_mem hj)).1 (hz _ (List.getElem_mem hj)).2])
 rwa [List.length_map]at this
set_option maxRecDepth 20000 in
set_option maxHeartbeats 1000000 in
theorem RBytes_calls (r:Int) (h0:0≤r) (h1:r≤1114111) (hs: ¬(55296≤r∧r<57344)) (w:World):
 Calls Tryz.prog 88 #[.int .i64 r] w fun e w'=>e= .returned (.string ⟨(Lib.encodeRune r).toArray⟩)∧Below w.heap.size w w':=by
 by_cases c1:r<128
 · have e:Lib.encodeRune r= [r].map fun z=>z.toNat.toUInt8:=by unfold Lib.encodeRune;rw[Lib.encodeRuneZ_one h0 (by omega)]
   have hB:=run_bytes w [r] (by intro z hz;simp at hz;omega) 5
   rw[e]
   simp only[List.map_cons,List.map_nil,List.length_cons,List.length_nil]at hB ⊢
   go_enter Tryz.func88,Tryz.ntmps88
   go_wp2
   go_ret
   exact⟨rfl,(Below.refl _ _).alloc (Nat.le_refl _) _⟩
 by_cases c2:r<2048
 · have e:Lib.encodeRune r= [192+r / 64,128+r % 64].map fun z=>z.toNat.toUInt8:=by unfold Lib.encodeRune;rw[Lib.encodeRuneZ_two (by omega) (by omega)]
   have hB:=run_bytes w [192+r / 64,128+r % 64] (by intro z hz;simp at hz;omega) 5
   rw[e]
   have b1:0≤r / 64:=by omega
   have b2:r / 64<32:=by omega
   have b3:0≤r % 64:=by omega
   have b4:r % 64<64:=by omega
   simp only[List.map_cons,List.map_nil,List.length_cons,List.length_nil]at hB ⊢
   obtain⟨z1,hz1⟩: ∃z,192+r / 64=z:=⟨_,rfl⟩
   obtain⟨z2,hz2⟩: ∃z,128+r % 64=z:=⟨_,rfl⟩
   have d1:0≤z1∧z1<256:=by omega
   have d2:0≤z2∧z2<256:=by omega
   rw[hz1,hz2]at hB ⊢
   go_enter Tryz.func88,Tryz.ntmps88
   go_wp2
   go_ret
   exact⟨rfl,(Below.refl _ _).alloc (Nat.le_refl _) _⟩
 by_cases c3:r<65536
 · have e:Lib.encodeRune r= [224+r / 4096,128+r / 64 % 64,128+r % 64].map fun z=>z.toNat.toUInt8:=by unfold Lib.encodeRune;rw[Lib.encodeRuneZ_three (by omega)]
   have hB:=run_bytes w [224+r / 4096,128+r / 64 % 64,128+r % 64] (by intro z hz;simp at hz;omega) 5
   rw[e]
   have b1:0≤r / 4096:=by omega
   have b2:r / 4096<16:=by omega
   have b3:0≤r % 64:=by omega
   have b4:r % 64<64:=by omega
   have b5:0≤r / 64:=by omega
   have b6:0≤r / 64 % 64:=by omega
   have b7:r / 64 % 64<64:=by omega
   simp only[List.map_cons,List.map_nil,List.length_cons,List.length_nil]at hB ⊢
   obtain⟨z1,hz1⟩: ∃z,224+r / 4096=z:=⟨_,rfl⟩
   obtain⟨z2,hz2⟩: ∃z,128+r / 64 % 64=z:=⟨_,rfl⟩
   obtain⟨z3,hz3⟩: ∃z,128+r % 64=z:=⟨_,rfl⟩
   have d1:0≤z1∧z1<256:=by omega
   have d2:0≤z2∧z2<256:=by omega
   have d3:0≤z3∧z3<256:=by omega
   rw[hz1,hz2,hz3]at hB ⊢
   go_enter Tryz.func88,Tryz.ntmps88
   go_wp2
   go_ret
   exact⟨rfl,(Below.refl _ _).alloc (Nat.le_refl _) _⟩
 · have e:Lib.encodeRune r= [240+r / 262144,128+r / 4096 % 64,128+r / 64 % 64,128+r % 64].map fun z=>z.toNat.toUInt8:=by unfold Lib.encodeRune;rw[Lib.encodeRuneZ_four (by omega) (by omega)]
   have hB:=run_bytes w [240+r / 262144,128+r / 4096 % 64,128+r / 64 % 64,128+r % 64] (by intro z hz;simp at hz;omega) 5
   rw[e]
   have b1:0≤r / 262144:=by omega
   have b2:r / 262144<8:=by omega
   have b3:0≤r % 64:=by omega
   have b4:r % 64<64:=by omega
   have b5:0≤r / 64:=by omega
   have b6:0≤r / 64 % 64:=by omega
   have b7:r / 64 % 64<64:=by omega
   have b8:0≤r / 4096:=by omega
   have b9:0≤r / 4096 % 64:=by omega
   have b10:r / 4096 % 64<64:=by omega
   simp only[List.map_cons,List.map_nil,List.length_cons,List.length_nil]at hB ⊢
   obtain⟨z0,hz0⟩: ∃z,240+r / 262144=z:=⟨_,rfl⟩
   obtain⟨z1,hz1⟩: ∃z,128+r / 4096 % 64=z:=⟨_,rfl⟩
   obtain⟨z2,hz2⟩: ∃z,128+r / 64 % 64=z:=⟨_,rfl⟩
   obtain⟨z3,hz3⟩: ∃z,128+r % 64=z:=⟨_,rfl⟩
   have d0:0≤z0∧z0<256:=by omega
   have d1:0≤z1∧z1<256:=by omega
   have d2:0≤z2∧z2<256:=by omega
   have d3:0≤z3∧z3<256:=by omega
   rw[hz0,hz1,hz2,hz3]at hB ⊢
   go_enter Tryz.func88,Tryz.ntmps88
   go_wp2
   go_ret
   exact⟨rfl,(Below.refl _ _).alloc (Nat.le_refl _) _⟩
end Go.Proofs.YtackmnbpfbaemaaGreatDoor

namespace Go.Proofs.YtackmnbpfbaemaaGreatDoor
open Go.RowKit
def letTab:List UInt8:= [34,92,47,98,102,110,114,116]
theorem quoteRune_let: ∀j:Fin 8,j.val≠2→quoteRune ((codeTab.getD j.val 0).toNat)= [92,letTab.getD j.val 0]:=by decide
def NoLet (r:Nat) (j:Nat):Prop:= ∀i:Nat,i<j→i≠2→codeTab.getD i 0≠(r:Int)
theorem NoLet.all {r:Nat} (h:NoLet r 8):r≠34∧r≠92∧r≠8∧r≠12∧r≠10∧r≠13∧r≠9:=by
 have h0:=h 0 (by omega) (by omega)
 have h1:=h 1 (by omega) (by omega)
 have h3:=h 3 (by omega) (by omega)
 have h4:=h 4 (by omega) (by omega)
 have h5:=h 5 (by omega) (by omega)
 have h6:=h 6 (by omega) (by omega)
 have h7:=h 7 (by omega) (by omega)
 simp[codeTab]at h0 h1 h3 h4 h5 h6 h7
 omega
theorem quoteRune_no {r:Nat} (h:NoLet r 8):quoteRune r=if r<32 then [92,117,48,48,hexd (r / 16),hexd (r % 16)]else Lib.encodeRune r:=by
 obtain⟨a1,a2,a3,a4,a5,a6,a7⟩:=h.all
 unfold quoteRune
 by_cases h32:r<32
 · rw[if_neg (by omega),if_pos h32]
   have:findKV (r:Int) letterTab=none:=by
    simp only[letterTab,findKV]
    repeat rw[if_neg (by omega)]
   rw[this]
 · rw[if_pos (by omega),if_neg h32]
theorem NoLet.step {r j:Nat} (h:NoLet r j) (hj:j=2∨codeTab.getD j 0≠(r:Int)):NoLet r (j+1):=by
 intro i hi h2
 by_cases he:i=j
 · subst he
   rcases hj with hj|hj
   · exact absurd hj h2
   · exact hj
 · exact h i (by omega) h2
def scalar (r:Nat):Prop:=r≤1114111∧ ¬(55296≤r∧r<57344)
theorem atEnd_range (F:Option Int) (n:Nat) (least:Int):(atEnd F n least).2=0∨((atEnd F n least).1≤1114111∧ ¬(55296≤(atEnd F n least).1∧(atEnd F n least).1<57344)):=by
 unfold atEnd
 split
 · simp
 · split
   · simp
   · rename_i h
     right
     simp only
     omega
theorem atTail_range (rest:List UInt8) (n:Nat) (r0 least:Int):(atTail rest n r0 least).2=0∨((atTail rest n r0 least).1≤1114111∧ ¬(55296≤(atTail rest n r0 least).1∧(atTail rest n r0 least).1<57344)):=by
 unfold atTail
 split
 · exact .inl rfl
 · exact atEnd_range _ _ _
theorem atSpec_range (l:List UInt8):(atSpec l).2=0∨((atSpec l).1≤1114111∧ ¬(55296≤(atSpec l).1∧(atSpec l).1<57344)):=by
 cases l with
 |nil=>exact .inl rfl
 |cons c rest=>
  rw[atSpec_cons]
  by_cases h1:(c.toNat:Int)<128
  · rw[if_pos h1]
    right
    simp only
    omega
  rw[if_neg h1]
  split
  · exact atTail_range _ _ _ _
  split
  · exact atTail_range _ _ _ _
  split
  · exact atTail_range _ _ _ _
  · exact .inl rfl
theorem runesFrom_scalar: ∀(n:Nat) (l:List UInt8) (p:Nat),∀x ∈ runesFrom n l p,scalar x.2
 |0,_,_,x,hx=>by simp[runesFrom]at hx
 |n+1,l,p,x,hx=>by
  by_cases h:l= []
  · subst h
    simp[runesFrom]at hx
  · rcases runesFrom_step h n p with⟨_,e⟩|⟨m,r,hn,h1,_,e⟩
    · rw[e]at hx
      cases hx
    · rw[e]at hx
      rcases List.mem_cons.1 hx with rfl|hx
      · have:=atSpec_range l
        rw[hn]at this
        unfold scalar
        simp only at this ⊢
        omega
      · exact runesFrom_scalar n _ _ x hx
theorem run_hex (d:Nat) (hd:d<16) (w:World):(Instr.slice 9 (.string ⟨#[48,49,50,51,52,53,54,55,56,57,97,98,99,100,101,102]⟩) (some (.int .i64 d)) (some (.int .i64 ((d:Int)+1))) none).run Tryz.prog w= .ok (.string ⟨#[hexd d]⟩) w:=by
 have:=run_cut ⟨#[48,49,50,51,52,53,54,55,56,57,97,98,99,100,101,102]⟩ d (d+1) (by omega) (by show d+1≤16;omega) w
 have e: ∀d:Fin 16,(⟨#[48,49,50,51,52,53,54,55,56,57,97,98,99,100,101,102]⟩:ByteArray).extract d.val (d.val+1)=⟨#[hexd d.val]⟩:=by decide
 rw[e ⟨d,hd⟩]at this
 exact this
theorem run_let (d:Nat) (hd:d<8) (w:World):(Instr.slice 9 (.string ⟨#[34,92,47,98,102,110,114,116]⟩) (some (.int .i64 d)) (some (.int .i64 ((d:Int)+1))) none).run Tryz.prog w= .ok (.string ⟨#[letTab.getD d 0]⟩) w:=by
 have:=run_cut ⟨#[34,92,47,98,102,110,114,116]⟩ d (d+1) (by omega) (by show d+1≤8;omega) w
 have e: ∀d:Fin 8,(⟨#[34,92,47,98,102,110,114,116]⟩:ByteArray).extract d.val (d.val+1)=⟨#[letTab.getD d.val 0]⟩:=by decide
 rw[e ⟨d,hd⟩]at this
 exact this
end Go.Proofs.YtackmnbpfbaemaaGreatDoor

namespace Go.Proofs.YtackmnbpfbaemaaGreatDoor
open Go.RowKit
def YieldsS {α:Type} (P:Program) (gf:Nat) (lb:Array Value) (encs:α→Array Value) (xs:List α) (N:World→Prop):Prop:=
 ∀(n l:Nat) (J:List α→World→Prop) (Jx:World→Prop) (W:World),(∀s A B,J s A→Below A.heap.size A B→J s B)→(∀A B,Jx A→Below A.heap.size A B→Jx B)→(∀s A,J s A→N A)→
  (∀pre x rest A,xs=pre++x::rest→J pre A→YieldAt Fence.wide n P l (encs x) A fun e B=>(e= .returned (.bool true)∧J (pre++ [x]) B)∨(e= .returned (.bool false)∧Jx B))→
  J [] W→CallsIn Fence.wide (n+1) P gf (#[.func (.yield l) #[] #[]]++lb) W fun e B=>(∃v,e= .returned v)∧(J xs B∨Jx B)
def goesOnS (I Ix:World→Prop) (d:Nat) (W:World):Exit→Act→World→Prop
 | .normal,_,W'=>W'.heap[d]? =W.heap[d]? ∧W'.heap[d+1]? =W.heap[d+1]? ∧I W'
 | .ret,_,W'=>W'.heap[d]? =W.heap[d]? ∧W'.heap[d+1]? =W.heap[d+1]? ∧Ix W'
 |_,_,_=>False
theorem wp_range_stop {α:Type} {P:Program} {g:Operand} {ps:Array Tmp} {assign body:Code} {Q:Exit→Act→World→Prop} {a:Act} {w:World} {n:Nat}
 {gf:Nat} {lb:Array Value} (hg:a.eval g= .func (.func gf) #[] lb) (eg: ∀args w,(callFunc gf args).run P w= .ok (.enter gf args) w)
 {encs:α→Array Value} {xs:List α} {N:World→Prop} (hit:YieldsS P gf lb encs xs N) (hps: ∀x,(encs x).size=ps.size)
 (I:List α→World→Prop) (Ix:World→Prop) (hIn: ∀s A B,I s A→Below A.heap.size A B→I s B) (hXn: ∀A B,Ix A→Below A.heap.size A B→Ix B)
 (hXp: ∀A k o o',Ix A→A.heap[k]? =some o→o.isCells=false→(k=w.heap.size∨k=w.heap.size+1)→Ix (A.putObj k o'))
 (hIp: ∀s A k o o',I s A→A.heap[k]? =some o→o.isCells=false→(k=w.heap.size∨k=w.heap.size+1)→I s (A.putObj k o'))
 (hIb: ∀s A,I s A→N A) (h0:I [] w) (a₁:α→Act)
 (hassign: ∀(l:Nat) (x:α) (W:World) (K:Act→World→Prop),K (a₁ x) W→
   assign.wpIn (Fence.wide.inRound l) n P (Exit.then K (fun _ _ _=>False)) {tmps:=(ps.zip (encs x)).foldl (fun t (p,v)=>t.setIfInBounds p v) a.tmps,defers:= []} W)
 (hbody: ∀(l:Nat) (pre:List α) (x:α) (rest:List α) (W:World),xs=pre++x::rest→I pre W→(∃ds,W.heap[w.heap.size]? =some (.deferred ds))→(∃r,W.heap[w.heap.size+1]? =some (.loop r))→
   body.wpIn (Fence.wide.inRound l) n P (goesOnS (I (pre++ [x])) Ix w.heap.size W) (a₁ x) W)
 (hstop: ∀(W:World),Ix W→W.heap[w.heap.size]? =some (.deferred (some []))→Code.ret.wpIn Fence.wide (n+1+1) P Q {a with defers:={target:= .collected w.heap.size,args:= #[]}::a.defers} W)
 (hdone: ∀(W:World),I xs W→W.heap[w.heap.size]? =some (.deferred (some []))→Q .normal {a with defers:={target:= .collected w.heap.size,args:= #[]}::a.defers} W):
 (Code.rangeFunc g ps assign body).wpIn Fence.wide (n+1+1) P Q a w:=by
 refine wpIn_rangeFunc ?_
 intro fn hfn
 have hro:Fence.wide.round=none:=rfl
 rw[hro]
 obtain⟨rec,hrec⟩: ∃rec:LoopState→Option Code→Loop,rec=fun st pe=>{state:=st,pending:=pe,fn,tmps:=a.tmps,params:=ps,assign,body,defers:=w.heap.size}:=⟨_,rfl⟩
 obtain⟨W1,hW1⟩: ∃W1,(w.alloc (.deferred (some []))).alloc (.loop (rec .ready none))=W1:=⟨_,rfl⟩
 have hL1:W1.heap[w.heap.size+1]? =some (.loop (rec .ready none)):=by
  rw[←hW1];have:=World.alloc_heap_new (w.alloc (.deferred (some []))) (.loop (rec .ready none));rwa [World.size_alloc]at this
 have hK1:W1.heap[w.heap.size]? =some (.deferred (some [])):=by
  rw[←hW1];exact(Below.heap_alloc _ _ _ (by simp)).trans (World.alloc_heap_new w _)
 have hI1:I [] W1:=by
  rw[←hW1];exact hIn _ _ _ h0 (((Below.refl _ w).alloc (Nat.le_refl _) _).alloc (by simp) _)
 refine⟨w.heap.size+1, [{target:= .collected w.heap.size,args:= #[]}],W1,{target:= .fn (.func gf) lb,args:= #[.func (.yield (w.heap.size+1)) #[] #[]]},W1,gf,
  #[.func (.yield (w.heap.size+1)) #[] #[]]++lb,W1, ?_, ?_, ?_, ?_,fun h=>by simp[Fence.wide]at h, ?_⟩
 · rw[←hW1,hrec];exact run_enterLoop_outer _ _ _ _ _
 · simp only[resolve,hg]
   simp[go_sem]
 · intro f' _;trivial
 · simp[invoke,go_sem,eg]
 · refine(hit n (w.heap.size+1)
    (fun pre W=>I pre W∧W.heap[w.heap.size+1]? =some (.loop (rec .ready none))∧W.heap[w.heap.size]? =some (.deferred (some [])))
    (fun W=>Ix W∧W.heap[w.heap.size+1]? =some (.loop (rec .done (some .ret)))∧W.heap[w.heap.size]? =some (.deferred (some [])))
    W1 (fun s A B hs hb=>⟨hIn s A B hs.1 hb,(hb.block _ (Array.getElem?_eq_some_iff.1 hs.2.1).1).trans hs.2.1,(hb.block _ (Array.getElem?_eq_some_iff.1 hs.2.2).1).trans hs.2.2⟩)
    (fun A B hs hb=>⟨hXn A B hs.1 hb,(hb.block _ (Array.getElem?_eq_some_iff.1 hs.2.1).1).trans hs.2.1,(hb.block _ (Array.getElem?_eq_some_iff.1 hs.2.2).1).trans hs.2.2⟩)
    (fun s A hs=>hIb s A hs.1) ?_ ⟨hI1,hL1,hK1⟩).mono ?_
   ·
    rintro pre x rest W hx ⟨hi,hl,hk⟩
    have hlt:w.heap.size+1<W.heap.size:=(Array.getElem?_eq_some_iff.1 hl).1
    have hy:=run_yield (P:=P) (args:=encs x) hl (by rw[hrec];exact hps x)
    rw[hrec]at hy
    refine⟨fn,_,assign,body,hy,roundIn_of_wpIn trivial (hassign _ x W _ ⟨_,run_beginRound hl (by rw[hrec]), ?_⟩)⟩
    have hl2:(W.putObj (w.heap.size+1) (.loop {rec .ready none with state:= .busy})).heap[w.heap.size+1]? =some (.loop {rec .ready none with state:= .busy}):=World.putObj_heap_same hlt
    have hk2:(W.putObj (w.heap.size+1) (.loop {rec .ready none with state:= .busy})).heap[w.heap.size]? =some (.deferred (some [])):=(World.putObj_heap_other (by omega)).trans hk
    refine wpIn_mono (hbody _ pre x rest _ hx (hIp _ _ _ _ _ hi hl rfl (.inr rfl)) ⟨_,hk2⟩ ⟨_,hl2⟩) ?_
    rintro e a3 W3 hp
    cases e with
    |normal=>
     obtain⟨h1,h2,hi3⟩:=hp
     have hl3:=h2.trans hl2
     have hk3:=h1.trans hk2
     have hr:=run_endRound (P:=P) none hl3
     rw[hrec]at hr
     refine⟨_,_,hr, .inl ⟨rfl,hIp _ _ _ _ _ hi3 hl3 rfl (.inr rfl), ?_, ?_⟩⟩
     · rw[World.putObj_heap_same (Array.getElem?_eq_some_iff.1 hl3).1,hrec];rfl
     · exact(World.putObj_heap_other (by omega)).trans hk3
    |ret=>
     obtain⟨h1,h2,hi3⟩:=hp
     have hl3:=h2.trans hl2
     have hk3:=h1.trans hk2
     have hr:=run_endRound (P:=P) (some .ret) hl3
     rw[hrec]at hr
     refine⟨_,_,hr, .inr ⟨rfl,hXp _ _ _ _ hi3 hl3 rfl (.inr rfl), ?_, ?_⟩⟩
     · rw[World.putObj_heap_same (Array.getElem?_eq_some_iff.1 hl3).1,hrec];rfl
     · exact(World.putObj_heap_other (by omega)).trans hk3
    |exit id=>exact hp.elim
    |goto t=>exact hp.elim
    |panic ch=>exact hp.elim
    |outgrown=>exact hp.elim
   ·
    rintro e W2 ⟨⟨v,rfl⟩,⟨hi,hl,hk⟩|⟨hi,hl,hk⟩⟩
    · exact⟨none,_,by have:=run_endLoop (P:=P) hl (by rw[hrec];simp);rw[hrec]at this;exact this,hdone _ (hIp _ _ _ _ _ hi hl rfl (.inr rfl)) ((World.putObj_heap_other (by omega)).trans hk)⟩
    · exact⟨some .ret,_,by have:=run_endLoop (P:=P) hl (by rw[hrec];simp);rw[hrec]at this;exact this,hstop _ (hXp _ _ _ _ hi hl rfl (.inr rfl)) ((World.putObj_heap_other (by omega)).trans hk)⟩
end Go.Proofs.YtackmnbpfbaemaaGreatDoor

namespace Go.Proofs.YtackmnbpfbaemaaGreatDoor
open Go.RowKit
attribute [local go_sem] Oper.semAt_some
set_option maxRecDepth 100000 in
set_option maxHeartbeats 2000000 in
theorem runes_stops (s:ByteArray) (b:Nat) (hs:s.size≤1000000000):
 YieldsS Tryz.prog 218 #[.pointer (some ⟨b,0,none⟩)] (fun x:Nat×Nat=> #[.int .i64 x.1, .int .i32 x.2]) (runes s) (fun A=>A.cell? ⟨b,0,none⟩=some (.string s)∧Tabs A):=by
 intro n l J Jx W hJn hJx hJb hY h0
 refine callsIn_of_wp Tryz.func218 rfl trivial ?_ rfl
 simp only[Tryz.ntmps218,List.size_toArray,List.length_cons,List.length_nil,Nat.reduceAdd,Nat.reduceSub,Array.replicate_succ,Array.replicate_zero,List.push_toArray,List.append_toArray,List.nil_append,List.cons_append]
 gi_wp2
 gi_loopw [3] (fun i wr=> ∃(pre:List (Nat×Nat)) (f k:Nat),i= .int .i64 k∧k≤s.size∧s.size - k≤f∧Hid (runes s=pre++runesFrom f (s.data.toList.drop k) k)∧J pre wr) (fun i _=>s.size - (intOf i).toNat)
 case atStart=>exact⟨[],s.size,0,rfl,Nat.zero_le _,by omega,rfl,h0⟩
 case round=>
  obtain⟨pre,f,k,rfl,hk,hf,hr,hJ⟩:=hrel
  have hcr:wr.cell? ⟨b,0,none⟩=some (.string s):=(hJb _ _ hJ).1
  have hTr:Tabs wr:=(hJb _ _ hJ).2
  by_cases hlt:k<s.size
  · have hne:s.data.toList.drop k≠ []:=by
     intro e
     have:=congrArg List.length e
     rw[List.length_drop,←Lib.size_eq]at this
     simp at this
     omega
    obtain⟨f,rfl⟩: ∃f',f=f'+1:=⟨f - 1,by omega⟩
    have cD:=Tryz.utf8_DecodeRuneInString (s.extract k s.size) wr hTr.2.1
    have hdc:Lib.decodeGo (s.extract k s.size)=Lib.decodeL (s.data.toList.drop k):=decode_tail s k hlt
    have hw1:=Lib.decodeL_width (s.data.toList.drop k)
    have hw2:=Lib.decodeL_le _ hne
    have hw3:=Lib.decodeL_rune (s.data.toList.drop k)
    rw[List.length_drop,←Lib.size_eq]at hw2
    have hr':=hr.out
    simp only[runesFrom]at hr'
    rw[if_neg hne,List.drop_drop]at hr'
    rw[hdc]at cD
    generalize Lib.decodeL (s.data.toList.drop k)=D at cD hw1 hw2 hw3 hr'
    obtain⟨r,z⟩:=D
    simp only at cD hw1 hw2 hw3 hr'
    have CD:=Lib.hid cD
    clear cD hdc hne hr
    by_cases hbad:r=65533∧z=1
    · rw[if_pos hbad,List.append_nil]at hr'
      have Hr:=Lib.hid hr'
      obtain⟨hr1,hz1⟩:=hbad
      have e1:((r:Int)==65533)=true:=by simp;omega
      have e2:((z:Int)==1)=true:=by simp;omega
      clear hr' hr1 hz1
      gi_wp2_with (refine⟨trivial, ?_⟩;gi_at_call 219;refine(callsIn_wide.2 CD.out).mono ?_;rintro e w2 ⟨rfl,hb2⟩;have hJ2:=hJn _ _ _ hJ hb2)
      refine bodyPost_ret (results_none rfl _ _ _) rfl ?_
      exact⟨⟨_,rfl⟩, .inl (by rw[Hr.out];exact hJ2)⟩
    · rw[if_neg hbad]at hr'
      have Hr:=Lib.hid hr'
      have Hr2:Hid (runes s=(pre++ [(k,r)])++runesFrom f (s.data.toList.drop (k+z)) (k+z)):=by
       show runes s=_
       rw[hr'];simp
      clear hr'
      rcases(by omega:r≠65533∨(r=65533∧z≠1))with h1|⟨h1,h2⟩
      · have e1:((r:Int)==65533)=false:=by simp;omega
        clear h1 hbad
        gi_wp2_with (refine⟨trivial, ?_⟩;gi_at_call 219;refine(callsIn_wide.2 CD.out).mono ?_;rintro e w2 ⟨rfl,hb2⟩;obtain⟨fn,tmps,assign,body,hy,hR⟩:=hY pre (k,r) _ w2 Hr.out (hJn _ _ _ hJ hb2);dsimp only at hy)
        refine hR.mono ?_
        rintro e W3 (⟨rfl,hJ3⟩|⟨rfl,hJ3⟩)
        rotate_left
        · clear hy hR
          gi_wp2
          refine bodyPost_ret (results_none rfl _ _ _) rfl ?_
          exact⟨⟨_,rfl⟩, .inr hJ3⟩
        clear hy hR
        gi_wp2
        go_roundw
        case rel=>exact⟨pre++ [(k,r)],f,k+z,by go_num,by omega,by omega,Hr2,hJ3⟩
        case measure=>simp[intOf];omega
      · have e1:((r:Int)==65533)=true:=by simp;omega
        have e2:((z:Int)==1)=false:=by simp;omega
        clear h1 h2 hbad
        gi_wp2_with (refine⟨trivial, ?_⟩;gi_at_call 219;refine(callsIn_wide.2 CD.out).mono ?_;rintro e w2 ⟨rfl,hb2⟩;obtain⟨fn,tmps,assign,body,hy,hR⟩:=hY pre (k,r) _ w2 Hr.out (hJn _ _ _ hJ hb2);dsimp only at hy)
        refine hR.mono ?_
        rintro e W3 (⟨rfl,hJ3⟩|⟨rfl,hJ3⟩)
        rotate_left
        · clear hy hR
          gi_wp2
          refine bodyPost_ret (results_none rfl _ _ _) rfl ?_
          exact⟨⟨_,rfl⟩, .inr hJ3⟩
        clear hy hR
        gi_wp2
        go_roundw
        case rel=>exact⟨pre++ [(k,r)],f,k+z,by go_num,by omega,by omega,Hr2,hJ3⟩
        case measure=>simp[intOf];omega
  · obtain rfl:k=s.size:=by omega
    have hr':=hr.out
    rw[List.drop_eq_nil_of_le (by rw[←Lib.size_eq];omega)]at hr'
    have hz:runesFrom f [] s.size= []:=by cases f<;>simp[runesFrom]
    rw[hz,List.append_nil]at hr'
    have Hr:=Lib.hid hr'
    clear hr hr'
    gi_wp2
    go_end0
    exact⟨⟨_,rfl⟩, .inl (by rw[Hr.out];exact hJ)⟩
end Go.Proofs.YtackmnbpfbaemaaGreatDoor
