/- Parts, joined: commonplaceref01.Runes: a text's runes and their places. Condition: a text of at most 10^9 bytes. What writes a value's text: the functions that own hands back. Condition: a bulk of at most 10^9. What writes a value's text: the plain kinds. Condition: a bulk of at most 10^9. utf: digit, unit, paired, refused. Condition: a text of at most 10^9 bytes. -/
import Derived.Test.YtkkbplakgldlpaaGreatDoorProg
import Derived.Maps.AppendAt
import Derived.Lib.ItoaLen
import Derived.Test.YtkkbplakgldlpaaGreatDoorKMu3
import Derived.Test.YtkkbplakgldlpaaGreatDoorKMu5
import Derived.Test.YtkkbplakgldlpaaGreatDoorKMu6
import Derived.Test.YtkkbplakgldlpaaGreatDoorKMu7
import Derived.Test.YtkkbplakgldlpaaGreatDoorKMu8
namespace Go.Proofs.YtkkbplakgldlpaaGreatDoor
open Go.RowKit
theorem runesFrom_step {l:List UInt8} (h:l≠ []) (f p:Nat):
 ((atSpec l).2=0∧runesFrom (f+1) l p= [])∨(∃n r:Nat,atSpec l=((r:Int),(n:Int))∧1≤n∧n≤l.length∧runesFrom (f+1) l p=(p,r)::runesFrom f (l.drop n) (p+n)):=by
 have hg:=atSpec_dec l h
 unfold goodAt at hg
 by_cases hb:(Lib.decodeL l).1=65533∧(Lib.decodeL l).2=1
 · rw[if_pos hb]at hg
   rw[hg]
   refine .inl ⟨rfl, ?_⟩
   simp only[runesFrom]
   rw[if_neg h,if_pos hb]
 · rw[if_neg hb]at hg
   have hw:=Lib.decodeL_width l
   refine .inr ⟨(Lib.decodeL l).2,(Lib.decodeL l).1,hg,hw,Lib.decodeL_le l h, ?_⟩
   simp only[runesFrom]
   rw[if_neg h,if_neg hb]
def Apart (v1 v2:Value):Prop:= ∀g,v1.ownBlock=some g→v2.ownBlock≠some g
theorem Apart.ne {v1 v2:Value} (h:Apart v1 v2):v1.ownBlock=none∨v1.ownBlock≠v2.ownBlock:=by
 cases e:v1.ownBlock with
 |none=>exact .inl rfl
 |some g=>exact .inr fun e'=>h g e (by rw[←e'])
theorem Apart.symm {v1 v2:Value} (h:Apart v1 v2):Apart v2 v1:=fun g e e'=>h g e' e
theorem Apart.step {v1 v1' v2:Value} {w:World} {B n N:Nat} {e:TypeId} {size:Nat} {xs:List Value} (h:Apart v1 v2) (h2:w.ownsRow B e size v2 n xs) (h4:v1'.ownBlock=v1.ownBlock∨v1'.ownBlock=some N) (hN:w.heap.size≤N):Apart v1' v2:=by
 intro g e1 e2
 rcases h4 with h4|h4
 · exact h g (by rw[←h4];exact e1) e2
 · rw[h4]at e1
   obtain rfl:=Option.some.inj e1
   have:=(h2.lt _ e2).2
   omega
theorem info_int:(Tryz.prog.info? 3).map (fun i=>(i.zero,i.size,i.bytes))=some (some (.int .i64 0),1,8):=by kernel_rfl
set_option maxRecDepth 20000 in
set_option maxHeartbeats 2000000 in
theorem RRunes_calls (s:ByteArray) (w:World) (hs:s.size≤1000000000):
 Calls Tryz.prog 85 #[.string s] w fun e w'=>(∃v1 v2,e=.returned (.tuple #[v1,v2])∧w'.ownsRow w.heap.size 3 1 v1 (runes s).length ((runes s).map fun x=>Value.int .i64 x.2))∧Below w.heap.size w w':=by
 obtain⟨i0,hi,hz0,hz1,hz2⟩:=info_parts info_int
 have HI:=Lib.hid hi
 have HZ0:=Lib.hid hz0
 have HZ1:=Lib.hid hz1
 have HZ2:=Lib.hid hz2
 clear hi hz0 hz1 hz2
 have Hown0:Hid (w.ownsRow w.heap.size 3 1 (.slice none 0 0) 0 []):=World.ownsRow_nil _ _ _ _
 have Hap0:Hid (Apart (.slice none 0 0) (.slice none 0 0)):=Lib.hid (fun g e=>by simp[Value.ownBlock]at e)
 go_enter Tryz.func85,Tryz.ntmps85
 go_wp2
 go_loopw [4,5,6] (fun v1 v2 i wr=> ∃(pre:List (Nat×Nat)) (f k:Nat),i=.int .i64 k∧k≤s.size∧s.size - k≤f∧Hid (runes s=pre++runesFrom f (s.data.toList.drop k) k)∧pre.length≤k∧
  Hid (wr.ownsRow w.heap.size 3 1 v1 pre.length (pre.map fun x=>Value.int .i64 x.2))∧Hid (wr.ownsRow w.heap.size 3 1 v2 pre.length (pre.map fun x=>Value.int .i64 x.1))∧Hid (Apart v1 v2)∧Hid (Below w.heap.size w wr)) (fun _ _ i _=>s.size - (intOf i).toNat)
 case atStart=>exact⟨[],s.size,0,rfl,Nat.zero_le _,by omega,rfl,Nat.le_refl _,Hown0,Hown0,Hap0,Below.refl _ _⟩
 case round=>
  obtain⟨pre,f,k,rfl,hk,hf,hr,hpk,ho1,ho2,hap,hbw⟩:=hrel
  clear Hown0 Hap0
  by_cases hlt:k<s.size
  · have hne:s.data.toList.drop k≠ []:=by
     intro e
     have:=congrArg List.length e
     rw[List.length_drop,←Lib.size_eq]at this
     simp at this
     omega
    obtain⟨f,rfl⟩: ∃f',f=f'+1:=⟨f - 1,by omega⟩
    have hA:=At_calls s k wr (by omega) (by omega)
    rcases runesFrom_step hne f k with⟨h0,hv⟩|⟨n,r,hn,hn1,hn2,hv⟩
    · have hr':=hr.out
      rw[hv,List.append_nil]at hr'
      rw[h0]at hA
      generalize (atSpec (s.data.toList.drop k)).1=R at hA
      have HA:=Lib.hid hA
      have HR:=Lib.hid hr'
      clear hA h0 hv hne hr hr'
      go_wp2_with (fail)
      with_reducible refine HA.out.mono ?_
      rintro e w' ⟨rfl,rfl⟩
      clear HA
      go_wp2
      go_ret2
      exact⟨⟨u4,u5,rfl,by rw[HR.out];exact ho1.out⟩,hbw.out⟩
    · have hr':=hr.out
      rw[hv,List.drop_drop]at hr'
      rw[hn]at hA
      rw[List.length_drop,←Lib.size_eq]at hn2
      have HA:=Lib.hid hA
      have HR:=Lib.hid hr'
      have hb1:w.heap.size≤wr.heap.size:=hbw.out.size
      clear hA hn hv hne hr hr'
      have e0:((n:Int)==0)=false:=by simp;omega
      go_wp2_with (fail)
      with_reducible refine HA.out.mono ?_
      rintro e w' ⟨rfl,rfl⟩
      clear HA
      go_wp2_with (at_builtin;refine wpList_append_own_at _ rfl (.tmp 21) (.tmp 23) 121 rfl w.heap.size 3 i0 (.int .i64 0) 1 8 Tryz.underlying121 HI.out HZ0.out HZ1.out HZ2.out rfl (by decide) u4 pre.length _ rfl (ho1.out.alloc _) ⟨wr.heap.size,0,none⟩ 1 1 [.int .i64 r] rfl rfl ?c1 ?c2 ?c3 ?c4 ?c5 ?_)
      case c1=>
       intro j u hj
       match j,hj with
       |0,hj=>simp at hj;subst hj;simp[Addr.add]
      case c2=>intro u hu;simp at hu;subst hu;rfl
      case c3=>unfold maxLen;omega
      case c4=>omega
      case c5=>simp;omega
      intro v1' w2 hown1 hgrow1 _ hat1
      have ho1':=Lib.hid hown1
      have ho2':=Lib.hid ((ho2.out.alloc (.cells #[.int .i64 r] 3)).kept hgrow1 hap.out.symm.ne)
      have hap':=Lib.hid (Apart.step hap.out ho2.out hat1 (by omega))
      have hbw2:=Lib.hid ((hbw.out.alloc hb1 (.cells #[.int .i64 r] 3)).grown hgrow1 (by simp;omega) (fun k hk=>(ho1.out.lt k hk).1))
      have hb2:w.heap.size≤w2.heap.size:=hbw2.out.size
      clear hown1 hgrow1 hat1 ho1 ho2 hap hbw hb1
      go_wp2_with (at_builtin;refine wpList_append_own_at _ rfl (.tmp 25) (.tmp 27) 121 rfl w.heap.size 3 i0 (.int .i64 0) 1 8 Tryz.underlying121 HI.out HZ0.out HZ1.out HZ2.out rfl (by decide) u5 pre.length _ rfl (ho2'.out.alloc _) ⟨w2.heap.size,0,none⟩ 1 1 [.int .i64 k] rfl rfl ?d1 ?d2 ?d3 ?d4 ?d5 ?_)
      case d1=>
       intro j u hj
       match j,hj with
       |0,hj=>simp at hj;subst hj;simp[Addr.add]
      case d2=>intro u hu;simp at hu;subst hu;rfl
      case d3=>unfold maxLen;omega
      case d4=>omega
      case d5=>simp;omega
      intro v2' w3 hown2 hgrow2 _ hat2
      have ho2'':=Lib.hid hown2
      have ho1'':=Lib.hid ((ho1'.out.alloc (.cells #[.int .i64 k] 3)).kept hgrow2 hap'.out.ne)
      have hap'':=Lib.hid (Apart.step hap'.out.symm ho1'.out hat2 (by omega)).symm
      have hbw3:=Lib.hid ((hbw2.out.alloc hb2 (.cells #[.int .i64 k] 3)).grown hgrow2 (by simp;omega) (fun k hk=>(ho2'.out.lt k hk).1))
      clear hown2 hgrow2 hat2 ho1' ho2' hap' hbw2 hb2
      go_wp2
      go_roundw
      case rel=>exact⟨pre++ [(k,r)],f,k+n,by go_num,by omega,by omega,Lib.hid (by rw[List.append_assoc];exact HR.out),by simp;omega,Lib.hid (by rw[List.length_append,List.map_append];exact ho1''.out),Lib.hid (by rw[List.length_append,List.map_append];exact ho2''.out),hap'',hbw3⟩
      case measure=>simp only[intOf];omega
  · obtain rfl:k=s.size:=by omega
    have hr':=hr.out
    have e:runesFrom f (s.data.toList.drop s.size) s.size= []:=by
     rw[List.drop_eq_nil_of_le (by rw[←Lib.size_eq];omega)]
     cases f<;>simp[runesFrom]
    rw[e,List.append_nil]at hr'
    have HR:=Lib.hid hr'
    clear hr hr' e
    go_wp2
    go_ret2
    exact⟨⟨u4,u5,rfl,by rw[HR.out];exact ho1.out⟩,hbw.out⟩
end Go.Proofs.YtkkbplakgldlpaaGreatDoor

namespace Go.Proofs.YtkkbplakgldlpaaGreatDoor
open Go.RowKit
def quoteB (s:ByteArray):List UInt8:=34::quoteRunes (runes s)++ [34]
mutual
def textV:Val→List UInt8
 | .mk k b n t l o=>
   if k=2 then Lib.formatBool b else if k=3 then Lib.itoa n else if k=4 then quoteB t
   else if k=5 then 91::(textL l true++ [93])else if k=6 then 123::(textO o true++ [125])else [110,117,108,108]
def textL:List Val→Bool→List UInt8
 | [],_=> []
 |v::r,f=>(if f then []else [44])++(textV v++textL r false)
def textO:List (ByteArray×Val)→Bool→List UInt8
 | [],_=> []
 |p::r,f=>(if f then []else [44])++(textP p++textO r false)
def textP:ByteArray×Val→List UInt8
 |(key,v)=>quoteB key++(58::textV v)
end
mutual
def okV:Val→Prop
 | .mk _ _ n t l o=>validB t=true∧(-9223372036854775808≤n∧n≤9223372036854775807)∧okL l∧okO o
def okL:List Val→Prop
 | []=>True
 |v::r=>okV v∧okL r
def okO:List (ByteArray×Val)→Prop
 | []=>True
 |p::r=>okP p∧okO r
def okP:ByteArray×Val→Prop
 |(key,v)=>validB key=true∧okV v
end
def ownF (k:Int):Nat:=
 if k=2 then 119 else if k=3 then 122 else if k=4 then 124 else if k=5 then 126 else if k=6 then 128 else 130
def ownCaps (k:Int) (p:Nat):Array Value:=
 if k=2∨k=3∨k=4∨k=5∨k=6 then #[.pointer (some ⟨p,0,none⟩)]else #[]
theorem enters_ownF (k:Int) (args:Array Value) (w:World):(callFunc (ownF k) args).run Tryz.prog w=.ok (.enter (ownF k) args) w:=by
 unfold ownF
 split
 · exact enters_of Tryz.func119 (by kernel_rfl) rfl args w
 split
 · exact enters_of Tryz.func122 (by kernel_rfl) rfl args w
 split
 · exact enters_of Tryz.func124 (by kernel_rfl) rfl args w
 split
 · exact enters_of Tryz.func126 (by kernel_rfl) rfl args w
 split
 · exact enters_of Tryz.func128 (by kernel_rfl) rfl args w
 · exact enters_of Tryz.func130 (by kernel_rfl) rfl args w
set_option maxHeartbeats 1000000 in
theorem own_calls (k:Int) (b:Bool) (n:Int) (t:ByteArray) (la oa:Option Addr) (ln lc on oc:Nat) (w:World):
 Calls Tryz.prog 82 #[.agg #[.int .i64 k,.bool b,.int .i64 n,.string t,.slice la ln lc,.slice oa on oc]] w fun e w'=>
  e=.returned (.func (.func (ownF k)) #[] (ownCaps k w.heap.size))∧w.alloc (.cells #[.int .i64 k,.bool b,.int .i64 n,.string t,.slice la ln lc,.slice oa on oc] 27)=w':=by
 rcases(by omega:k=2∨k=3∨k=4∨k=5∨k=6∨(k≠2∧k≠3∧k≠4∧k≠5∧k≠6))with rfl|rfl|rfl|rfl|rfl|⟨h2,h3,h4,h5,h6⟩
 all_goals
  try have e2:(k==2)=false:=by simpa using h2
  try have e3:(k==3)=false:=by simpa using h3
  try have e4:(k==4)=false:=by simpa using h4
  try have e5:(k==5)=false:=by simpa using h5
  try have e6:(k==6)=false:=by simpa using h6
  try have hf:Hid (ownF k=130):=by show _=_;simp[ownF,h2,h3,h4,h5,h6]
  try have hc:Hid (ownCaps k w.heap.size= #[]):=by show _=_;simp[ownCaps,h2,h3,h4,h5,h6]
  try clear h2 h3 h4 h5 h6
  go_enter Tryz.func82,Tryz.ntmps82
  go_wp2
  go_ret
 all_goals first|exact⟨rfl,rfl⟩|exact⟨by rw[hf.out,hc.out];rfl,rfl⟩
def WritesC (v:Val):Prop:= ∀(W:World) (B g p:Nat) (keeps:Bool) (acc:List UInt8) (cs:List Value) (k:Int) (b:Bool) (n:Int) (t:ByteArray) (l:List Val) (o:List (ByteArray×Val)),v=.mk k b n t l o→5≤B→Tabs W→HoldsV W B v cs→
    W.heap[p]? =some (.cells cs.toArray 27 (0,0))→p≠g→Wr W B g keeps acc→okV v→v.bulk≤1000000000→acc.length+6*v.bulk≤20000000000→
    Calls Tryz.prog (ownF k) (#[.pointer (some ⟨g,0,none⟩)]++ownCaps k p) W fun e W'=>e=.returned (.tuple #[])∧Wr W' B g keeps (acc++textV v)∧Below B W W'∧Kept g W W'
end Go.Proofs.YtkkbplakgldlpaaGreatDoor

namespace Go.Proofs.YtkkbplakgldlpaaGreatDoor
open Go.RowKit
theorem Tabs.keep {w w':World} {B:Nat} (h:Tabs w) (hb:Below B w w') (h5B:5≤B):Tabs w':=by
 obtain⟨h5,⟨h1,h2⟩,h3⟩:=h
 refine⟨Nat.le_trans h5 hb.size,⟨fun c hc=> ?_,fun i hi=>⟨?_, ?_⟩⟩, ?_⟩
 · exact(hb.cell (p:=⟨1,c,none⟩) (by show 1<_;omega)).trans (h1 c hc)
 · exact(hb.cell (p:=⟨2,2*i,none⟩) (by show 2<_;omega)).trans (h2 i hi).1
 · exact(hb.cell (p:=⟨2,2*i+1,none⟩) (by show 2<_;omega)).trans (h2 i hi).2
 · have hg:Tryz.prog.globalNamed "internal/strconv.uint64pow10" =some 4:=by kernel_rfl
   unfold Lib.TabIs World.var? at h3 ⊢
   rw[hg]at h3 ⊢
   simp only[Option.bind_some]at h3 ⊢
   rw[hb.block 4 (by omega)]
   exact h3
theorem grow_below (W:World) (k:Nat) (os:Array Obj):Below W.heap.size W (Sort.grow (W.drewN k) os):=
 ⟨rfl,rfl,rfl,by show W.heap.size≤(W.heap++os).size;simp,fun i hi=>by show(W.heap++os)[i]? =W.heap[i]?;rw[Array.getElem?_append_left hi]⟩
theorem formatBool_len (b:Bool):(Lib.formatBool b).length≤5:=by cases b<;>decide
theorem flat_one (l:List UInt8):flat [⟨l.toArray⟩]=l:=by simp[flat]
theorem join_new {B g:Nat} {keeps:Bool} {acc:List UInt8} {w:World} (ss:List ByteArray) (c:Nat) (h:Wr w B g keeps acc) (hlen:acc.length+(flat ss).length≤50000000000) (hn:ss.length≤1000):
 Calls Tryz.prog 120 #[.pointer (some ⟨g,0,none⟩),.slice (some ⟨w.heap.size,0,none⟩) ss.length c] (w.alloc (.cells (ss.map Value.string).toArray 9 (0,0))) fun e w'=>e=.returned (.tuple #[])∧Wr w' B g keeps (acc++flat ss)∧Below B w w'∧Kept g w w':=by
 have hlt:=h.lt
 have hb:=h.base
 refine(join_calls B g keeps acc ss w.heap.size c _ (h.below ((Below.refl _ _).alloc (Nat.le_refl _) _)) (heap_alloc_new _ _) (by omega) hlen hn).mono ?_
 rintro e w' ⟨rfl,h1,h2,h3⟩
 exact⟨rfl,h1,((Below.refl B w).alloc (by omega) _).trans h2,((Lib.OthersKept.refl _ _ w).alloc _).trans h3⟩
set_option maxHeartbeats 1000000 in
theorem writes_bool (W:World) (B g p:Nat) (keeps:Bool) (acc:List UInt8) (b:Bool) (v2 v3 v4 v5:Value) (k:Value) (hp:W.heap[p]? =some (.cells #[k,.bool b,v2,v3,v4,v5] 27 (0,0)))
 (hW:Wr W B g keeps acc) (hlen:acc.length≤20000000000):
 Calls Tryz.prog 119 #[.pointer (some ⟨g,0,none⟩),.pointer (some ⟨p,0,none⟩)] W fun e W'=>e=.returned (.tuple #[])∧Wr W' B g keeps (acc++Lib.formatBool b)∧Below B W W'∧Kept g W W':=by
 have c1:W.cell? ⟨p,1,none⟩=some (.bool b):=(Lib.cell_of_heap hp 1).trans rfl
 have hj:=join_new [⟨(Lib.formatBool b).toArray⟩] 1 hW (by rw[flat_one];have:=formatBool_len b;omega) (by simp)
 rw[flat_one]at hj
 have cB:=Tryz.strconv_FormatBool b W
 generalize Lib.formatBool b=L at hj cB ⊢
 have HJ:=Lib.hid hj
 have CB:=Lib.hid cB
 clear hj cB
 go_enter Tryz.func119,Tryz.ntmps119
 go_wp2_with (first|(go_at_call 121;refine(CB.out).mono ?_;rintro e wx ⟨rfl,hwx⟩;subst hwx)|(go_at_call 120;refine(HJ.out).mono ?_;rintro e w2 ⟨rfl,h1,h2,h3⟩))
 go_end0
 exact⟨rfl,h1,h2,h3⟩
set_option maxHeartbeats 1000000 in
theorem writes_int (W:World) (B g p:Nat) (keeps:Bool) (acc:List UInt8) (n:Int) (v1 v3 v4 v5:Value) (k:Value) (hp:W.heap[p]? =some (.cells #[k,v1,.int .i64 n,v3,v4,v5] 27 (0,0)))
 (hT:Tabs W) (hn0: -9223372036854775808≤n) (hn1:n≤9223372036854775807) (_hpg:p≠g) (hW:Wr W B g keeps acc) (hlen:acc.length≤20000000000):
 Calls Tryz.prog 122 #[.pointer (some ⟨g,0,none⟩),.pointer (some ⟨p,0,none⟩)] W fun e W'=>e=.returned (.tuple #[])∧Wr W' B g keeps (acc++Lib.itoa n)∧Below B W W'∧Kept g W W':=by
 have c1:W.cell? ⟨p,2,none⟩=some (.int .i64 n):=(Lib.cell_of_heap hp 2).trans rfl
 have hl:=Lib.itoa_length_le n hn0 hn1
 have cB:=Tryz.strconv_FormatInt_10 n hn0 hn1 W hT.2.2
 have hj: ∀w1,Below W.heap.size W w1→Calls Tryz.prog 120 #[.pointer (some ⟨g,0,none⟩),.slice (some ⟨w1.heap.size,0,none⟩) 1 1] (w1.alloc (.cells #[.string ⟨(Lib.itoa n).toArray⟩] 9 (0,0))) fun e w'=>e=.returned (.tuple #[])∧Wr w' B g keeps (acc++Lib.itoa n)∧Below B w1 w'∧Kept g w1 w':=fun w1 hb=>by
  have:=join_new [⟨(Lib.itoa n).toArray⟩] 1 (hW.below hb) (by rw[flat_one];omega) (by simp)
  rwa [flat_one]at this
 have hB:=hW.base
 have hlt:=hW.lt
 generalize Lib.itoa n=L at hj cB ⊢
 have HJ:=Lib.hid hj
 have CB:=Lib.hid cB
 clear hj cB hl hp
 go_enter Tryz.func122,Tryz.ntmps122
 go_wp2_with (first|(go_at_call 123;refine(CB.out).mono ?_;rintro e w1 ⟨rfl,kk,os,hwx⟩;have hb1:Below W.heap.size W w1:=hwx▸grow_below W kk os;clear hwx)|(go_at_call 120;refine(HJ.out _ hb1).mono ?_;rintro e w2 ⟨rfl,h1,h2,h3⟩))
 go_end0
 exact⟨rfl,h1,(hb1.mono (by omega)).trans h2,fun j o hj hg ho=>h3 j o ((hb1.block j (Array.getElem?_eq_some_iff.1 hj).1).trans hj) hg ho⟩
set_option maxHeartbeats 1000000 in
theorem writes_null (W:World) (B g:Nat) (keeps:Bool) (acc:List UInt8) (hW:Wr W B g keeps acc) (hlen:acc.length≤20000000000):
 Calls Tryz.prog 130 #[.pointer (some ⟨g,0,none⟩)] W fun e W'=>e=.returned (.tuple #[])∧Wr W' B g keeps (acc++ [110,117,108,108])∧Below B W W'∧Kept g W W':=by
 have hj:=join_new [⟨#[110,117,108,108]⟩] 1 hW (by simp[flat];omega) (by simp)
 have HJ:=Lib.hid hj
 clear hj
 go_enter Tryz.func130,Tryz.ntmps130
 go_wp2_with (go_at_call 120;refine(HJ.out).mono ?_;rintro e w2 ⟨rfl,h1,h2,h3⟩)
 go_end0
 exact⟨rfl,h1,h2,h3⟩
theorem quote_calls (s:ByteArray) (w:World) (hT:Tabs w) (hs:s.size≤1000000000) (hv:validB s=true):
 Calls Tryz.prog 125 #[.string s] w fun e w'=>e=.returned (.string ⟨(quoteB s).toArray⟩)∧Below w.heap.size w w':=by
 have cQ:=Quote_valid s w hT hs hv
 unfold quoteB
 generalize 34::quoteRunes (runes s)++ [34]=L at cQ ⊢
 have CQ:=Lib.hid cQ
 clear cQ
 go_enter Tryz.func125,Tryz.ntmps125
 go_wp2_with (go_at_call 166;refine(CQ.out).mono ?_;rintro e w2 ⟨rfl,h1⟩)
 go_ret
 exact⟨rfl,h1⟩
theorem quoteB_len (s:ByteArray):(quoteB s).length≤6*s.size+2:=by
 have e1:=quoteRunes_len (runes s)
 have e3:=runesFrom_len s.size s.data.toList 0
 unfold runes at e1
 unfold quoteB runes
 simp only[List.length_cons,List.length_append,List.length_nil]
 omega
set_option maxHeartbeats 1000000 in
theorem writes_text (W:World) (B g p:Nat) (keeps:Bool) (acc:List UInt8) (t:ByteArray) (v1 v2 v4 v5:Value) (k:Value) (hp:W.heap[p]? =some (.cells #[k,v1,v2,.string t,v4,v5] 27 (0,0)))
 (hT:Tabs W) (hv:validB t=true) (ht:t.size≤1000000000) (_hpg:p≠g) (hW:Wr W B g keeps acc) (hlen:acc.length≤20000000000):
 Calls Tryz.prog 124 #[.pointer (some ⟨g,0,none⟩),.pointer (some ⟨p,0,none⟩)] W fun e W'=>e=.returned (.tuple #[])∧Wr W' B g keeps (acc++quoteB t)∧Below B W W'∧Kept g W W':=by
 have c1:W.cell? ⟨p,3,none⟩=some (.string t):=(Lib.cell_of_heap hp 3).trans rfl
 have hl:=quoteB_len t
 have cB:=quote_calls t W hT ht hv
 have hj: ∀w1,Below W.heap.size W w1→Calls Tryz.prog 120 #[.pointer (some ⟨g,0,none⟩),.slice (some ⟨w1.heap.size,0,none⟩) 1 1] (w1.alloc (.cells #[.string ⟨(quoteB t).toArray⟩] 9 (0,0))) fun e w'=>e=.returned (.tuple #[])∧Wr w' B g keeps (acc++quoteB t)∧Below B w1 w'∧Kept g w1 w':=fun w1 hb=>by
  have:=join_new [⟨(quoteB t).toArray⟩] 1 (hW.below hb) (by rw[flat_one];omega) (by simp)
  rwa [flat_one]at this
 have hB:=hW.base
 have hlt:=hW.lt
 generalize quoteB t=L at hj cB ⊢
 have HJ:=Lib.hid hj
 have CB:=Lib.hid cB
 clear hj cB hl hp
 go_enter Tryz.func124,Tryz.ntmps124
 go_wp2_with (first|(go_at_call 125;refine(CB.out).mono ?_;rintro e w1 ⟨rfl,hb1⟩)|(go_at_call 120;refine(HJ.out _ hb1).mono ?_;rintro e w2 ⟨rfl,h1,h2,h3⟩))
 go_end0
 exact⟨rfl,h1,(hb1.mono (by omega)).trans h2,fun j o hj hg ho=>h3 j o ((hb1.block j (Array.getElem?_eq_some_iff.1 hj).1).trans hj) hg ho⟩
theorem between_calls (i:Int) (w:World):Calls Tryz.prog 127 #[.int .i64 i] w fun e w'=>e=.returned (.string ⟨(if i=0 then []else [44]:List UInt8).toArray⟩)∧w=w':=by
 by_cases h:i=0
 · subst h
   go_enter Tryz.func127,Tryz.ntmps127
   go_wp2
   go_ret
   exact⟨rfl,rfl⟩
 · have e:(i==0)=false:=by simpa using h
   rw[if_neg h]
   clear h
   go_enter Tryz.func127,Tryz.ntmps127
   go_wp2
   go_ret
   exact⟨rfl,rfl⟩
end Go.Proofs.YtkkbplakgldlpaaGreatDoor

namespace Go.Proofs.YtkkbplakgldlpaaGreatDoor
open Go Go.RowKit
set_option maxRecDepth 100000 in
set_option maxHeartbeats 2000000 in
theorem dgt_yes {c:UInt8} {d:Nat} (h:hexD c=some d) (w:World):Calls Tryz.prog 250 #[.int .u8 c.toNat] w fun e w'=>e=.returned (.tuple #[.int .i32 d,.bool true])∧w=w':=by
 have hcl:=byte_lt c
 unfold hexD at h
 split at h
 · rename_i hr
   obtain⟨h1,h2⟩:=hr
   have e:(d:Int)=(c.toNat:Int) - 48:=by have:=Option.some.inj h;omega
   have l1:(48:Int)≤(c.toNat:Int):=by omega
   have l2:(c.toNat:Int)≤57:=by omega
   rw[e]
   clear h e h1 h2
   go_enter Tryz.func250,Tryz.ntmps250
   go_wp2
   go_ret2
   exact⟨rfl,rfl⟩
 split at h
 · rename_i hn hr
   obtain⟨h1,h2⟩:=hr
   have e:(d:Int)=(c.toNat:Int) - 97+10:=by have:=Option.some.inj h;omega
   have l0: ¬((c.toNat:Int)≤57):=by omega
   have l1:(97:Int)≤(c.toNat:Int):=by omega
   have l2:(c.toNat:Int)≤102:=by omega
   rw[e]
   clear h e h1 h2 hn
   go_enter Tryz.func250,Tryz.ntmps250
   go_wp2
   go_ret2
   exact⟨rfl,rfl⟩
 split at h
 · rename_i hn1 hn hr
   obtain⟨h1,h2⟩:=hr
   have e:(d:Int)=(c.toNat:Int) - 65+10:=by have:=Option.some.inj h;omega
   have l0: ¬((c.toNat:Int)≤57):=by omega
   have l3: ¬((97:Int)≤(c.toNat:Int)):=by omega
   have l1:(65:Int)≤(c.toNat:Int):=by omega
   have l2:(c.toNat:Int)≤70:=by omega
   rw[e]
   clear h e h1 h2 hn hn1
   go_enter Tryz.func250,Tryz.ntmps250
   go_wp2
   go_ret2
   exact⟨rfl,rfl⟩
 · cases h
set_option maxRecDepth 100000 in
set_option maxHeartbeats 2000000 in
theorem dgt_no {c:UInt8} (h:hexD c=none) (w:World):Calls Tryz.prog 250 #[.int .u8 c.toNat] w fun e w'=>e=.returned (.tuple #[.int .i32 0,.bool false])∧w=w':=by
 have hcl:=byte_lt c
 unfold hexD at h
 split at h
 · cases h
 split at h
 · cases h
 split at h
 · cases h
 rename_i h1 h2 h3
 by_cases a1:(48:Int)≤(c.toNat:Int)<;>by_cases a2:(c.toNat:Int)≤57<;>by_cases a3:(97:Int)≤(c.toNat:Int)<;>by_cases a4:(c.toNat:Int)≤102<;>by_cases a5:(65:Int)≤(c.toNat:Int)<;>by_cases a6:(c.toNat:Int)≤70
 all_goals first|(exfalso;omega)|(clear h h1 h2 h3;go_enter Tryz.func250,Tryz.ntmps250;go_wp2;go_ret2;exact⟨rfl,rfl⟩)
theorem refused_calls (c:UInt8) (w:World):Calls Tryz.prog 221 #[.int .u8 c.toNat] w fun e w'=>e=.returned (.int .i64 (if c.toNat<32 then 4 else 3))∧w=w':=by
 have hcl:=byte_lt c
 by_cases h:c.toNat<32
 · rw[if_pos h]
   have h':(c.toNat:Int)<32:=by omega
   clear h
   go_enter Tryz.func221,Tryz.ntmps221
   go_wp2
   go_ret
   exact⟨rfl,rfl⟩
 · rw[if_neg h]
   have h': ¬((c.toNat:Int)<32):=by omega
   clear h
   go_enter Tryz.func221,Tryz.ntmps221
   go_wp2
   go_ret
   exact⟨rfl,rfl⟩
theorem ofInt_i32 (a:Nat) (ha:a<2147483648):(BitVec.ofInt 32 (a:Int)).toNat=a:=by
 rw[BitVec.ofInt_natCast,BitVec.toNat_ofNat];exact Nat.mod_eq_of_lt (by omega)
theorem or16 {n d:Nat} (hn:n<4096) (hd:d<16):bits .or .i32 ((n:Int)*16) (d:Int)=((16*n+d:Nat):Int):=by
 have e:(n:Int)*16=((n*16:Nat):Int):=by omega
 have h:n*16 ||| d=n*16+d:=by
  have:=Nat.shiftLeft_add_eq_or_of_lt (i:=4) (b:=d) (by omega) n
  rw[Nat.shiftLeft_eq]at this
  exact this.symm
 rw[e]
 show IntKind.i32.wrap ((BitVec.ofInt 32 ((n*16:Nat):Int) ||| BitVec.ofInt 32 (d:Int)).toNat:Int)=_
 rw[BitVec.toNat_or,ofInt_i32 _ (by omega),ofInt_i32 _ (by omega),h,IntKind.wrap_i32]
 omega
def unitR (u:Option Nat):Value:=match u with
 |some n=> .tuple #[.int .i32 n,.bool true]
 |none=> .tuple #[.int .i32 0,.bool false]
set_option maxRecDepth 100000 in
set_option maxHeartbeats 4000000 in
theorem unit_calls (t:ByteArray) (w:World) (hs:t.size≤1000000000):Calls Tryz.prog 239 #[.string t] w fun e w'=>e=.returned (unitR (unitL t.data.toList))∧w=w':=by
 have hlen:=size_toList t
 by_cases h6:t.size<6
 · have e:unitL t.data.toList=none:=by unfold unitL;rw[if_pos (by omega)]
   rw[e]
   have l:(t.size:Int)<6:=by omega
   clear e hlen
   go_enter Tryz.func239,Tryz.ntmps239
   go_wp2
   go_ret2
   exact⟨rfl,rfl⟩
 have l6: ¬((t.size:Int)<6):=by omega
 have q0:0<t.size:=by omega
 have q1:1<t.size:=by omega
 obtain⟨a,ha⟩: ∃a,t[0]=a:=⟨_,rfl⟩
 obtain⟨b,hb⟩: ∃b,t[1]=b:=⟨_,rfl⟩
 have ga:t.data.toList[0]? =some a:=by rw[get_byte t q0,ha]
 have gb:t.data.toList[1]? =some b:=by rw[get_byte t q1,hb]
 have hal:=byte_lt a
 have hbl:=byte_lt b
 have ne: ∀(c:UInt8) (n:Nat),n<256→c≠UInt8.ofNat n→((c.toNat:Int)==(n:Int))=false:=fun c n hn h=>by rw[byte_eq hn];simpa using h
 by_cases h92:a=92
 rotate_left
 · have e:unitL t.data.toList=none:=by unfold unitL;rw[if_pos];right;left;rw[ga];simpa using h92
   have e1:=ne a 92 (by decide) h92
   rw[e]
   clear e hlen ga gb ne h92 h6
   go_enter Tryz.func239,Tryz.ntmps239
   go_wp2
   go_ret2
   exact⟨rfl,rfl⟩
 by_cases h117:b=117
 rotate_left
 · have e:unitL t.data.toList=none:=by unfold unitL;rw[if_pos];right;right;rw[gb];simpa using h117
   have e1:=ne b 117 (by decide) h117
   rw[e]
   subst h92
   clear e hlen ga gb ne h117 h6
   go_enter Tryz.func239,Tryz.ntmps239
   go_wp2
   go_ret2
   exact⟨rfl,rfl⟩
 subst h92 h117
 have e:unitL t.data.toList=hexF (t.data.toList.drop 2) 4 0:=by
  unfold unitL
  rw[if_neg]
  rw[ga,gb]
  simp;omega
 rw[e]
 obtain⟨F,hF⟩: ∃F,hexF (t.data.toList.drop 2) 4 0=F:=⟨_,rfl⟩
 rw[hF]
 have H0:=Lib.hid hF
 clear e hF ga gb ne hlen
 go_enter Tryz.func239,Tryz.ntmps239
 go_wp2
 go_loop [4,5] (fun x i=> ∃k n:Nat,2≤k∧k≤6∧i=.int .i64 k∧x=.int .i32 n∧n<16 ^ (k - 2)∧Hid (hexF (t.data.toList.drop k) (6 - k) n=F)) (fun _ i=>6 - (intOf i).toNat)
 case atStart=>exact⟨2,0,by omega,by omega,rfl,rfl,by decide,H0⟩
 case round=>
  obtain⟨k,n,hk2,hk6,rfl,rfl,hn,hf⟩:=hrel
  clear H0
  by_cases hlt:k<6
  · have hkt:k<t.size:=by omega
    obtain⟨c,hc⟩: ∃c,t[k]=c:=⟨_,rfl⟩
    have hg:t.data.toList[k]? =some c:=by rw[get_byte t hkt,hc]
    have hcl:=byte_lt c
    have hn':n<4096:=by
     have:16 ^ (k - 2)≤16 ^ 3:=Nat.pow_le_pow_right (by decide) (by omega)
     omega
    have hf':=hf.out
    rw[drop_at hg,show 6 - k=(6 - (k+1))+1 from by omega]at hf'
    simp only[hexF]at hf'
    cases hd:hexD c with
    |none=>
     rw[hd]at hf'
     subst hf'
     have hD:=fun W=>dgt_no hd W
     have HD:=Lib.hid hD
     clear hD
     clear hf hd hg
     go_wp2_with (fail)
     with_reducible refine(HD.out _).mono ?_
     rintro e w1 ⟨rfl,rfl⟩
     go_wp2
     go_ret2
     exact⟨rfl,rfl⟩
    |some d=>
     rw[hd]at hf'
     simp only at hf'
     have hD:=fun W=>dgt_yes hd W
     have hd16:=hexD_lt hd
     have HF:=Lib.hid hf'
     have hpow:16*n+d<16 ^ (k+1 - 2):=by
      rw[show k+1 - 2=(k - 2)+1 from by omega,Nat.pow_succ];omega
     have HP:=Lib.hid hpow
     have HD:=Lib.hid hD
     clear hD
     clear hf hd hg hf' hn hpow
     go_wp2_with (fail)
     with_reducible refine(HD.out _).mono ?_
     rintro e w1 ⟨rfl,rfl⟩
     go_wp2
     go_round
     case rel=>exact⟨k+1,16*n+d,by omega,by omega,by go_num,by rw[or16 (by omega) (by omega)],HP.out,HF⟩
     case measure=>simp[intOf];omega
  · obtain rfl:k=6:=by omega
    have hf':=hf.out
    have e:hexF (t.data.toList.drop 6) (6 - 6) n=some n:=by cases t.data.toList.drop 6<;>rfl
    rw[e]at hf'
    subst hf'
    clear hf e
    go_wp2
    go_ret2
    exact⟨rfl,rfl⟩
end Go.Proofs.YtkkbplakgldlpaaGreatDoor
