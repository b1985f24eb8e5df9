/- Parts: Maps cell by cell, whatever their elements: an entry stored, an entry looked up. Plain. No condition. -/
import Derived.Lib.ItoaLen
import Derived.Stop.RegionWithIn
import Derived.Shelf.AbstractIn
import Derived.Maps.OwnSet
import Derived.Test.YtackmnbpfbaemaaGreatDoorKPr2
set_option maxHeartbeats 20000000
namespace Go.Proofs.YtackmnbpfbaemaaGreatDoor
open Go.RowKit
def Wr (W:World) (B g:Nat) (keeps:Bool) (acc:List UInt8):Prop:=
 ∃p v,O8 W B g 1 130 #[.bool keeps,p,v,.int .i64 (acc.length:Int)] (if keeps then acc else [])
theorem Aoa:liesAt Tryz.prog Tryz.prog.depth 130 (4 / Tryz.prog.cellsOf 130) 1 128 1=true:=by kernel_rfl
theorem O8.other {w:World} {B g o:Nat} {t:TypeId} {cs:Array Value} {bs:List UInt8} (h:O8 w B g o t cs bs) (i:Nat) (hi:i≠o) (hi2:i≠o+1) (u:Value):
 O8 (w.setCell ⟨g,i,none⟩ u) B g o t (cs.setIfInBounds i u) bs:=by
 obtain⟨hB,hb,ht,hs,h0,v,h1,hown⟩:=h;refine⟨hB,Cp hb _,ht,by simpa using hs, ?_,v,by rw[Array.getElem?_setIfInBounds,if_neg hi2];exact h1, ?_⟩
 . rw[Array.getElem?_setIfInBounds,if_neg hi];exact h0
 . exact hown.kept (row:=some g) ⟨rfl,rfl,rfl,by simp[World.setCell],fun k _ hk=>Below.heap_setCell _ _ _ _ (fun e=>hk (by simp[e]))⟩ (Or.inr (Lib.ownBlock_ne hown hb ht))
theorem Wr.below {A W:World} {B g:Nat} {k:Bool} {acc:List UInt8} (h:Wr A B g k acc) (hb:Below A.heap.size A W):Wr W B g k acc:=by
 obtain⟨p,v,h⟩:=h;exact⟨p,v,h.keep (Ko hb) (fun k e=>by cases e)⟩
theorem Wr.put {A:World} {B g k:Nat} {b:Bool} {acc:List UInt8} {o o':Obj} (h:Wr A B g b acc) (ho:A.heap[k]? =some o) (hc:o.isCells=false):Wr (A.putObj k o') B g b acc:=by
 obtain⟨p,v,h⟩:=h;exact⟨p,v,h.keep (grownBy_putObj' A k o') (fun j e=>by cases e;exact⟨o,ho,hc⟩)⟩
theorem Wr.lt {A:World} {B g:Nat} {k:Bool} {acc:List UInt8} (h:Wr A B g k acc):g<A.heap.size:=by
 obtain⟨p,v,h⟩:=h;exact h.lt
theorem Wr.base {A:World} {B g:Nat} {k:Bool} {acc:List UInt8} (h:Wr A B g k acc):B<=g:=by
 obtain⟨p,v,h⟩:=h;exact h.1
def Fd (ss:List ByteArray):List UInt8:=ss.flatMap fun s=>s.data.toList
theorem Agq (ss:List ByteArray) (s:ByteArray):Fd (ss++ [s])=Fd ss++s.data.toList:=by simp[Fd]
set_option maxRecDepth 100000 in
theorem Adl (B g:Nat) (keeps:Bool) (acc:List UInt8) (ss:List ByteArray) (b c:Nat) (w:World) (h:Wr w B g keeps acc) (hp:w.heap[b]? =some (.cells (ss.map Value.string).toArray 9 (0,0))) (hbg:b≠g)
 (hlen:acc.length+(Fd ss).length<=50000000000) (hn:ss.length<=1000):
 Calls Tryz.prog 107 #[.pointer (some ⟨g,0,none⟩),.slice (some ⟨b,0,none⟩) ss.length c] w fun e w'=>e=.returned (.tuple #[])/\Wr w' B g keeps (acc++Fd ss)/\Below B w w'/\E8 g w w':=by
 go_enter Tryz.func107,Tryz.ntmps107;go_wp2;go_loopw [8] (fun i wr=> ∃k:Nat,k<=ss.length/\i=.int .i64 k/\Wr wr B g keeps (acc++Fd (ss.take k))/\Below B w wr/\E8 g w wr) (fun i _=>ss.length - (intOf i).toNat)
 case atStart=>exact⟨0,Nat.zero_le _,rfl,by simpa[Fd]using h,Below.refl _ _,Lib.OthersKept.refl _ _ _⟩
 case round=>
  obtain⟨k,hk,rfl,hw,hb,hkp⟩:=hrel;by_cases hlt:k<ss.length
  . obtain⟨s,hs⟩: ∃s,ss[k]? =some s:=⟨_,List.getElem?_eq_getElem hlt⟩;have htk:ss.take (k+1)=ss.take k++ [s]:=by rw[List.take_add_one,hs];rfl
    have hfl:(Fd ss).length=(Fd (ss.take k)).length+s.size+(Fd (ss.drop (k+1))).length:=by
     have:ss=ss.take k++ [s]++ss.drop (k+1):=by rw[<-htk,List.take_append_drop]
     have h2:=congrArg (fun l=>(Fd l).length) this;simp only[Fd,List.flatMap_append,List.length_append,List.flatMap_cons,List.flatMap_nil,List.append_nil]at h2 ⊢;rw[h2,Lib.size_eq]
    have hpr:=hkp _ _ hp (by simpa using hbg) (fun c fz e=>by cases e);have cp:wr.cell? ⟨b,k,none⟩=some (.string s):=by rw[Lib.cell_of_heap hpr];simp[hs]
    obtain⟨p,v,hbl⟩:=hw;have hbl':=hbl;obtain⟨hB,hbk,ht,_,_,_⟩:=hbl';have g0:wr.cell? ⟨g,0,none⟩=some (.bool keeps):=by rw[Lib.cell_of_heap hbk];rfl
    have g3:wr.cell? ⟨g,3,none⟩=some (.int .i64 ((acc++Fd (ss.take k)).length:Int)):=by rw[Lib.cell_of_heap hbk];rfl
    have f3:wr.frozen? ⟨g,3,none⟩=false:=Lib.frozen_of_heap hbk 3;have hln:(acc++Fd (ss.take k)).length<=50000000000:=by rw[List.length_append];omega
    have hln2:(acc++Fd (ss.take k)).length+s.size<=50000000000:=by rw[List.length_append];omega
    have hz:=hbl.lt;have hfin:acc++Fd (ss.take (k+1))=(acc++Fd (ss.take k))++s.data.toList:=by rw[htk,Agq,List.append_assoc]
    generalize acc++Fd (ss.take k)=L at*
    have Hfin:=Lib.hid hfin;have he:((L.length:Int)+(s.size:Int))=((L++s.data.toList).length:Int):=by rw[List.length_append,<-Lib.size_eq];omega
    have He:=Lib.hid he;clear hfin he hbk htk hfl
    cases keeps
    . have hbs:O8 (wr.setCell ⟨g,3,none⟩ (.int .i64 ((L.length:Int)+(s.size:Int)))) B g 1 130 #[.bool false,p,v,.int .i64 ((L.length:Int)+(s.size:Int))] []:=hbl.other 3 (by omega) (by omega) _;go_wp2;go_roundw
      case rel=>
       refine⟨k+1,by omega,by go_num, ?_,hb.setCell (p:=⟨g,3,none⟩) hB _,hkp.setCell ⟨g,3,none⟩ rfl _⟩;rw[Hfin.out];rw[He.out]at hbs ⊢;exact⟨p,v,hbs⟩
      case measure=>simp[intOf];omega
    . have hbs:O8 (wr.setCell ⟨g,3,none⟩ (.int .i64 ((L.length:Int)+(s.size:Int)))) B g 1 130 #[.bool true,p,v,.int .i64 ((L.length:Int)+(s.size:Int))] L:=hbl.other 3 (by omega) (by omega) _;go_wp2_with (go_at_call 160;refine(Kn B g 1 _ _ L s _ hbs Aoa (by omega) (by simp[World.setCell];omega)).mono ?_;rintro e w2 ⟨rfl,⟨v',hb2⟩,hbw2,hk2⟩);go_roundw
      case rel=>
       refine⟨k+1,by omega,by go_num, ?_,(hb.setCell (p:=⟨g,3,none⟩) hB _).trans hbw2,(hkp.setCell ⟨g,3,none⟩ rfl _).trans hk2⟩;rw[Hfin.out];rw[He.out]at hb2;exact⟨_,v',hb2⟩
      case measure=>simp[intOf];omega
  . obtain rfl:k=ss.length:=by omega
    rw[List.take_length]at hw;have Hw:=Lib.hid hw;clear hw;go_wp2
    go_end0
    exact⟨rfl,Hw.out,hb,hkp⟩
attribute [local go_sem] Oper.semAt_some
def QI (w:World) (g lb d:Nat) (pre:List (Nat×Nat)) (W:World):Prop:=
 Below w.heap.size w W/\BB W w.heap.size g (34::A0 pre)/\ ∃m,Ae9 W lb d m
set_option maxRecDepth 100000 in
theorem Zo (s:ByteArray) (w:World) (hT:Cf w) (hs:s.size<=1000000000) (hv:A8 s=true):
 Calls Tryz.prog 163 #[.string s] w fun e w'=>e=.returned (.tuple #[.string ⟨(34::A0 (Cs s)++ [34]).toArray⟩,.int .i64 0])/\Below w.heap.size w w':=by
 refine(callsIn_wide (n:=12)).1 ?_;refine callsIn_of_wp_marks Tryz.func163 rfl trivial ?_ rfl;simp only[Tryz.ntmps163,List.size_toArray,List.length_cons,List.length_nil,Nat.reduceAdd,Nat.reduceSub,Array.replicate_succ,Array.replicate_zero,List.push_toArray,List.append_toArray,List.nil_append,List.cons_append]
 gi_wp2_with (refine⟨trivial, ?_⟩;gi_at_call 159;refine(callsIn_wide.2 (Ce hv _ (by omega) hT)).mono ?_;rintro e w1 ⟨rfl,hb1⟩)
 have hz1:=hb1.size;have hB1:BB ((w1.alloc (.cells #[.map none] 253)).alloc (.cells #[.pointer none,.slice none 0 0] 128)) w.heap.size (w1.heap.size+1) []:=
  ⟨_,_,by omega,by rw[<-World.size_alloc w1 (.cells #[.map none] 253)];exact heap_alloc_new _ _,by decide,by simp,.inl rfl,.slice none 0 0,rfl,World.ownsRow_nil _ _ _ _⟩
 have hL1:((w1.alloc (.cells #[.map none] 253)).alloc (.cells #[.pointer none,.slice none 0 0] 128)).heap[w1.heap.size]? =some (.cells #[.map none] 253 (0,0)):=
  (Below.heap_alloc _ _ _ (by simp)).trans (heap_alloc_new _ _)
 have hbx:Below w.heap.size w ((w1.alloc (.cells #[.map none] 253)).alloc (.cells #[.pointer none,.slice none 0 0] 128)):=(hb1.alloc hz1 _).alloc (by simp;omega) _
 gi_wp2_with (first|(refine⟨trivial, ?_⟩;gi_at_call 193;refine(callsIn_wide.2 (Gw 34 (by omega) (by omega) hB1 (by simp))).mono ?_;rintro e w2 ⟨rfl,hB2,hb2,hk2⟩)|(refine⟨trivial, ?_⟩;gi_at_call 194;refine(callsIn_wide.2 (Rk _ _)).mono ?_;rintro e w3 ⟨rfl,rfl⟩))
 have hz2:=hb2.size;simp only[World.size_alloc]at hz2;have hL2:w2.heap[w1.heap.size]? =some (.cells #[.map none] 253 (0,0)):=hk2 _ _ hL1 (by simp) (fun c fz e=>by cases e);have hbw2:Below w.heap.size w w2:=hbx.trans hb2;clear hB1 hL1 hb1 hk2 hb2 hbx;have hnew:=heap_alloc_new w2 (.cells #[.string s] 9);have hT3:Cf (w2.alloc (.cells #[.string s] 9)):=hT.below (hbw2.alloc (by omega) _);have hyld:=Zf s w2.heap.size hs;have hB3:BB (w2.alloc (.cells #[.string s] 9)) w.heap.size (w1.heap.size+1) (34::A0 []):=hB2.below ((Below.refl _ _).alloc (Nat.le_refl _) _);have hL3:=(Below.heap_alloc w2 (.cells #[.string s] 9) w1.heap.size (by omega)).trans hL2;have hbw3:Below w.heap.size w (w2.alloc (.cells #[.string s] 9)):=hbw2.alloc (by omega) _;have hz3:w2.heap.size+1=(w2.alloc (.cells #[.string s] 9)).heap.size:=by simp
 generalize w2.alloc (.cells #[.string s] 9)=w3 at*
 refine Qj (n:=10) (gf:=218) (lb:= #[.pointer (some ⟨w2.heap.size,0,none⟩)]) rfl (enters_of Tryz.func218 (by kernel_rfl) rfl) hyld (fun _=>rfl)
  (fun pre W=>QI w (w1.heap.size+1) w1.heap.size w3.heap.size pre W/\W.heap[w2.heap.size]? =some (.cells #[.string s] 9 (0,0))) ?hIn ?hIp ?hIb ?h0 ?a1 ?assign ?body ?done
 case assign=>
  intro l x W K hK
  gi_wp2
  exact hK
 case h0=>exact⟨⟨hbw3,hB3,none,hL3,fun _ h=>by cases h⟩,hnew⟩
 case hIb=>
  rintro pre A ⟨⟨h1,h2,h3⟩,h4⟩;exact⟨(Lib.cell_of_heap h4 0).trans rfl,hT.below h1⟩
 case hIn=>
  rintro pre A B ⟨⟨h1,h2,m,h3,h5⟩,h4⟩ hb;refine⟨⟨h1.trans (hb.mono h1.size),h2.below hb,m,(hb.block _ (Array.getElem?_eq_some_iff.1 h3).1).trans h3,fun mb e=>⟨(h5 mb e).1,(hb.block _ (Array.getElem?_eq_some_iff.1 (h5 mb e).2).1).trans (h5 mb e).2⟩⟩,(hb.block _ (Array.getElem?_eq_some_iff.1 h4).1).trans h4⟩
 case hIp=>
  rintro pre A k o o' ⟨⟨h1,h2,m,h3,h5⟩,h4⟩ ho hc hk;have hkw:w.heap.size<=k:=by omega
  have hk1:k<A.heap.size:=(Array.getElem?_eq_some_iff.1 ho).1;refine⟨⟨h1.grown (grownBy_putObj' A k o') (by omega) (fun j e=>by cases e;exact hkw),h2.put ho hc,m, ?_,fun mb e=>⟨(h5 mb e).1, ?_⟩⟩, ?_⟩
  . rw[World.putObj_heap_other (by omega)];exact h3
  . have:=(h5 mb e).1;rw[World.putObj_heap_other (by omega)];exact(h5 mb e).2
  . rw[World.putObj_heap_other (by omega)];exact h4
 case body=>
  rintro l pre x rest W hx ⟨⟨h1,h2,m,h3,h5⟩,h4⟩ ⟨ds,hds⟩ ⟨rc,hrc⟩;have hlen:(A0 pre).length<=6000000000:=by
   have e1:=G6 pre;have e2:=congrArg List.length hx;have e3:=F6 s.size s.data.toList 0;simp only[List.length_append,List.length_cons]at e2;unfold Cs at e2;omega
  have hr:x.2<=1114111:=Qc s.size s.data.toList 0 x (by show x ∈ Cs s;rw[hx];simp);have hsn:A0 (pre++ [x])=A0 pre++Ch x.2:=by simp[A0]
  obtain⟨p,r⟩:=x;simp only at hr hsn;have hz:=h1.size;have hDm:w3.heap.size+1<W.heap.size:=(Array.getElem?_eq_some_iff.1 hrc).1;have hdt:w1.heap.size+1<w3.heap.size:=by omega
  have hsb:w2.heap.size<w3.heap.size:=by omega
  have hsa:w1.heap.size+1<w2.heap.size:=by omega
  have fin: ∀(a:Act) (X:World) (bs:List UInt8),BB X w.heap.size (w1.heap.size+1) bs->bs=34::A0 (pre++ [(p,r)])->Below w.heap.size w X->(∃m,Ae9 X w1.heap.size w3.heap.size m)->
   X.heap[w3.heap.size]? =some (.deferred ds)->X.heap[w3.heap.size+1]? =some (.loop rc)->X.heap[w2.heap.size]? =some (.cells #[.string s] 9 (0,0))->
   Ye (fun X=>QI w (w1.heap.size+1) w1.heap.size w3.heap.size (pre++ [(p,r)]) X/\X.heap[w2.heap.size]? =some (.cells #[.string s] 9 (0,0))) w3.heap.size W .normal a X:=by
   intro a X bs hb e hbw hl hd hr2 hbox;subst e;exact⟨hd.trans hds.symm,hr2.trans hrc.symm,⟨hbw,hb,hl⟩,hbox⟩
  have Fin:=Lib.hid fin;clear fin;by_cases hst:32<=r/\r≠34/\r≠92
  . have hq:Ch r=Lib.encodeRune r:=by unfold Ch;rw[if_pos hst]
    have hB:decide (32<=(r:Int)/\(r:Int)≠34/\(r:Int)≠92)=true:=by simp;omega
    have Hq:Hid ((34::A0 pre)++Lib.encodeRune r=34::A0 (pre++ [(p,r)])):=by
     show _=_;rw[hsn,hq];rfl
    clear hsn hq hst hx
    gi_wp2_with (first|(refine⟨trivial, ?_⟩;gi_at_call 195;refine(CallsIn.inRound l (callsIn_wide.2 (Db hB _))).mono ?_;rintro e wx ⟨rfl,rfl⟩)|(refine⟨trivial, ?_⟩;gi_at_call 196;refine(CallsIn.inRound l (callsIn_wide.2 (Jq (r:Int) (by omega) (by omega) h2 (by simp;omega)))).mono ?_;rintro e w4 ⟨⟨kk,rfl⟩,hB4,hb4,hk4⟩))
    exact Fin.out _ _ _ hB4 Hq.out (h1.trans hb4) ⟨m,hk4 _ _ h3 (by simp) (fun c fz e=>by cases e),fun mb e=>⟨(h5 mb e).1,hk4 _ _ (h5 mb e).2 (by have:=(h5 mb e).1;simp;omega) (fun c fz e=>by cases e)⟩⟩
     (hk4 _ _ hds (by simp;omega) (fun c fz e=>by cases e)) (hk4 _ _ hrc (by simp;omega) (fun c fz e=>by cases e)) (hk4 _ _ h4 (by simp;omega) (fun c fz e=>by cases e))
  . have hB:decide (32<=(r:Int)/\(r:Int)≠34/\(r:Int)≠92)=false:=by simp;omega
    have hnil:=fun(wx:World) (m0:Option Nat)=>run_eql_map_nil (P:=Tryz.prog) wx 253 _ _ m0 Tryz.underlying253;rcases m with _|mb
    ·
     obtain⟨X,hX⟩: ∃X,(W.setCell ⟨w1.heap.size,0,none⟩ (.map (some W.heap.size))).alloc (.map (Jg Bw 0).toArray Bw.length)=X:=⟨_,rfl⟩;have hsz:(W.setCell ⟨w1.heap.size,0,none⟩ (.map (some W.heap.size))).heap.size=W.heap.size:=by simp[World.setCell]
     have hXk: ∀k,k≠w1.heap.size->k<W.heap.size->X.heap[k]? =W.heap[k]? :=fun k hk hk'=>by
      rw[<-hX,Below.heap_alloc _ _ _ (by omega),Below.heap_setCell _ _ _ _ hk]
     have hXB:BB X w.heap.size (w1.heap.size+1) (34::A0 pre):=by
      rw[<-hX];exact(h2.store h3 (by decide) (by omega) 0 _).below ((Below.refl _ _).alloc (Nat.le_refl _) _)
     have hXw:Below w.heap.size w X:=by
      rw[<-hX];exact(h1.setCell (p:=⟨w1.heap.size,0,none⟩) hz1 _).alloc (by omega) _
     have hXl:X.heap[w1.heap.size]? =some (.cells #[.map (some W.heap.size)] 253 (0,0)):=by
      rw[<-hX,Below.heap_alloc _ _ _ (by omega)];exact Cp h3 _
     have hXm:X.heap[W.heap.size]? =some (.map (Jg Bw 0).toArray Bw.length):=by
      rw[<-hX];have:=heap_alloc_new (W.setCell ⟨w1.heap.size,0,none⟩ (.map (some W.heap.size))) (.map (Jg Bw 0).toArray Bw.length)
      rwa [hsz]at this
     have hXd:=(hXk _ (by omega) (by omega)).trans hds;have hXr:=(hXk _ (by omega) (by omega)).trans hrc;have hX4:=(hXk _ (by omega) (by omega)).trans h4;have c3:W.cell? ⟨w1.heap.size,0,none⟩=some (.map none):=(Lib.cell_of_heap h3 0).trans rfl;have f3:W.frozen? ⟨w1.heap.size,0,none⟩=false:=Lib.frozen_of_heap h3 0;have hlb:w1.heap.size<W.heap.size:=by omega
     have hlk:=Up X W.heap.size Bw r hXm;have hmb:w3.heap.size+1<W.heap.size:=hDm;subst hX
     cases hf:D1 (r:Int) Bw with
     |some c=>
      rw[hf]at hlk;simp only[Option.getD_some,Option.isSome_some]at hlk;have hc:=Ny hf;have hc0:=hc.1;have hc1:=hc.2;have hq:Ch r= [92,UInt8.ofNat c.toNat]:=by unfold Ch;rw[if_neg hst,hf]
      have Hq:Hid (((34::A0 pre)++ [UInt8.ofNat (Int.toNat 92)])++Lib.encodeRune c=34::A0 (pre++ [(p,r)])):=by
       show _=_;rw[hsn,hq,Pt (by omega) hc1];simp
      clear hsn hq hst hx hf hc h5 h2
      gi_wp2_with (first|(refine⟨trivial, ?_⟩;gi_at_call 195;refine(CallsIn.inRound l (callsIn_wide.2 (Db hB _))).mono ?_;rintro e wx ⟨rfl,rfl⟩)|(refine⟨trivial, ?_⟩;gi_at_call 197;refine(CallsIn.inRound l (callsIn_wide.2 (Mv _))).mono ?_;rintro e wx ⟨rfl,rfl⟩)|(refine⟨trivial, ?_⟩;gi_at_call 193;refine(CallsIn.inRound l (callsIn_wide.2 (Gw 92 (by omega) (by omega) hXB (by simp;omega)))).mono ?_;rintro e w4 ⟨rfl,hB4,hb4,hk4⟩)|(refine⟨trivial, ?_⟩;gi_at_call 196;refine(CallsIn.inRound l (callsIn_wide.2 (Jq c (by omega) (by omega) hB4 (by simp;omega)))).mono ?_;rintro e w5 ⟨⟨kk,rfl⟩,hB5,hb5,hk5⟩))
      have hkk:=hk4.trans hk5;exact Fin.out _ _ _ hB5 Hq.out ((hXw.trans hb4).trans hb5) ⟨some W.heap.size,hkk _ _ hXl (by simp) (fun c fz e=>by cases e),fun m' e=>by cases e;exact⟨hmb,hkk _ _ hXm (by simp;omega) (fun c fz e=>by cases e)⟩⟩
       (hkk _ _ hXd (by simp;omega) (fun c fz e=>by cases e)) (hkk _ _ hXr (by simp;omega) (fun c fz e=>by cases e)) (hkk _ _ hX4 (by simp;omega) (fun c fz e=>by cases e))
     |none=>
      rw[hf]at hlk;simp only[Option.getD_none,Option.isSome_none]at hlk;have hr32:=Pz hf hst;have hq:Ch r= [92,117,48,48,L3 (r / 16),L3 (r % 16)]:=by unfold Ch;rw[if_neg hst,hf]
      gi_wp2_with (first|(refine⟨trivial, ?_⟩;gi_at_call 195;refine(CallsIn.inRound l (callsIn_wide.2 (Db hB _))).mono ?_;rintro e wx ⟨rfl,rfl⟩)|(refine⟨trivial, ?_⟩;gi_at_call 197;refine(CallsIn.inRound l (callsIn_wide.2 (Mv _))).mono ?_;rintro e wx ⟨rfl,rfl⟩)|(refine⟨trivial, ?_⟩;gi_at_call 160;refine(CallsIn.inRound l (callsIn_wide.2 (J7 ⟨#[92,117,48,48]⟩ hXB (by simp[ByteArray.size];omega)))).mono ?_;rintro e w4 ⟨rfl,hB4,hb4,hk4⟩))
      refine⟨trivial, ?_⟩;refine(CallsIn.inRound l (callsIn_wide.2 (Na _ hB4 (by simp;omega)))).mono ?_;rintro e w5 ⟨rfl,hB5,hb5,hk5⟩;rw[Td ⟨r / 16,by omega⟩]at hB5;have hand:=Amk ⟨r,hr32⟩;dsimp only at hand;have hm0:0<=(r:Int) % 16:=by omega
      have hm1:(r:Int) % 16<16:=by omega
      have hm2:r % 16<16:=by omega
      gi_wp2_with fail
      refine⟨trivial, ?_⟩;refine(CallsIn.inRound l (callsIn_wide.2 (Na _ hB5 (by simp;omega)))).mono ?_;rintro e w6 ⟨rfl,hB6,hb6,hk6⟩;rw[Td ⟨r % 16,by omega⟩]at hB6
      gi_wp2_with fail
      have hkk:=(hk4.trans hk5).trans hk6;have Hq:(((34::A0 pre)++ [92,117,48,48])++ [L3 (r / 16)])++ [L3 (r % 16)]=34::A0 (pre++ [(p,r)]):=by
       rw[hsn,hq];simp
      exact Fin.out _ _ _ hB6 Hq (((hXw.trans hb4).trans hb5).trans hb6) ⟨some W.heap.size,hkk _ _ hXl (by simp) (fun c fz e=>by cases e),fun m' e=>by cases e;exact⟨hmb,hkk _ _ hXm (by simp;omega) (fun c fz e=>by cases e)⟩⟩
       (hkk _ _ hXd (by simp;omega) (fun c fz e=>by cases e)) (hkk _ _ hXr (by simp;omega) (fun c fz e=>by cases e)) (hkk _ _ hX4 (by simp;omega) (fun c fz e=>by cases e))
    ·
     have hXm:=(h5 mb rfl).2;have hmb:=(h5 mb rfl).1;have c3:W.cell? ⟨w1.heap.size,0,none⟩=some (.map (some mb)):=(Lib.cell_of_heap h3 0).trans rfl;have hlk:=Up W mb Bw r hXm;have hXB:=h2;have hXw:=h1;have hXl:=h3;have hXd:=hds;have hXr:=hrc;have hX4:=h4
     cases hf:D1 (r:Int) Bw with
     |some c=>
      rw[hf]at hlk;simp only[Option.getD_some,Option.isSome_some]at hlk;have hc:=Ny hf;have hc0:=hc.1;have hc1:=hc.2;have hq:Ch r= [92,UInt8.ofNat c.toNat]:=by unfold Ch;rw[if_neg hst,hf]
      have Hq:Hid (((34::A0 pre)++ [UInt8.ofNat (Int.toNat 92)])++Lib.encodeRune c=34::A0 (pre++ [(p,r)])):=by
       show _=_;rw[hsn,hq,Pt (by omega) hc1];simp
      clear hsn hq hst hx hf hc h5 h2
      gi_wp2_with (first|(refine⟨trivial, ?_⟩;gi_at_call 195;refine(CallsIn.inRound l (callsIn_wide.2 (Db hB _))).mono ?_;rintro e wx ⟨rfl,rfl⟩)|(refine⟨trivial, ?_⟩;gi_at_call 193;refine(CallsIn.inRound l (callsIn_wide.2 (Gw 92 (by omega) (by omega) hXB (by simp;omega)))).mono ?_;rintro e w4 ⟨rfl,hB4,hb4,hk4⟩)|(refine⟨trivial, ?_⟩;gi_at_call 196;refine(CallsIn.inRound l (callsIn_wide.2 (Jq c (by omega) (by omega) hB4 (by simp;omega)))).mono ?_;rintro e w5 ⟨⟨kk,rfl⟩,hB5,hb5,hk5⟩))
      have hkk:=hk4.trans hk5;exact Fin.out _ _ _ hB5 Hq.out ((hXw.trans hb4).trans hb5) ⟨some mb,hkk _ _ hXl (by simp) (fun c fz e=>by cases e),fun m' e=>by cases e;exact⟨hmb,hkk _ _ hXm (by simp;omega) (fun c fz e=>by cases e)⟩⟩
       (hkk _ _ hXd (by simp;omega) (fun c fz e=>by cases e)) (hkk _ _ hXr (by simp;omega) (fun c fz e=>by cases e)) (hkk _ _ hX4 (by simp;omega) (fun c fz e=>by cases e))
     |none=>
      rw[hf]at hlk;simp only[Option.getD_none,Option.isSome_none]at hlk;have hr32:=Pz hf hst;have hq:Ch r= [92,117,48,48,L3 (r / 16),L3 (r % 16)]:=by unfold Ch;rw[if_neg hst,hf]
      gi_wp2_with (first|(refine⟨trivial, ?_⟩;gi_at_call 195;refine(CallsIn.inRound l (callsIn_wide.2 (Db hB _))).mono ?_;rintro e wx ⟨rfl,rfl⟩)|(refine⟨trivial, ?_⟩;gi_at_call 160;refine(CallsIn.inRound l (callsIn_wide.2 (J7 ⟨#[92,117,48,48]⟩ hXB (by simp[ByteArray.size];omega)))).mono ?_;rintro e w4 ⟨rfl,hB4,hb4,hk4⟩))
      refine⟨trivial, ?_⟩;refine(CallsIn.inRound l (callsIn_wide.2 (Na _ hB4 (by simp;omega)))).mono ?_;rintro e w5 ⟨rfl,hB5,hb5,hk5⟩;rw[Td ⟨r / 16,by omega⟩]at hB5;have hand:=Amk ⟨r,hr32⟩;dsimp only at hand;have hm0:0<=(r:Int) % 16:=by omega
      have hm1:(r:Int) % 16<16:=by omega
      have hm2:r % 16<16:=by omega
      gi_wp2_with fail
      refine⟨trivial, ?_⟩;refine(CallsIn.inRound l (callsIn_wide.2 (Na _ hB5 (by simp;omega)))).mono ?_;rintro e w6 ⟨rfl,hB6,hb6,hk6⟩;rw[Td ⟨r % 16,by omega⟩]at hB6
      gi_wp2_with fail
      have hkk:=(hk4.trans hk5).trans hk6;have Hq:(((34::A0 pre)++ [92,117,48,48])++ [L3 (r / 16)])++ [L3 (r % 16)]=34::A0 (pre++ [(p,r)]):=by
       rw[hsn,hq];simp
      exact Fin.out _ _ _ hB6 Hq (((hXw.trans hb4).trans hb5).trans hb6) ⟨some mb,hkk _ _ hXl (by simp) (fun c fz e=>by cases e),fun m' e=>by cases e;exact⟨hmb,hkk _ _ hXm (by simp;omega) (fun c fz e=>by cases e)⟩⟩
       (hkk _ _ hXd (by simp;omega) (fun c fz e=>by cases e)) (hkk _ _ hXr (by simp;omega) (fun c fz e=>by cases e)) (hkk _ _ hX4 (by simp;omega) (fun c fz e=>by cases e))
 case done=>
  rintro W ⟨⟨h1,h2,m,h3,h5⟩,h4⟩ hds;have hdt:w1.heap.size+1<w3.heap.size:=by omega
  have hlen:(A0 (Cs s)).length<=6000000000:=by
   have e1:=G6 (Cs s);have e3:=F6 s.size s.data.toList 0;unfold Cs at e1 ⊢;omega
  gi_wp2_with (first|(refine⟨trivial, ?_⟩;gi_at_call 193;refine(callsIn_wide.2 (Gw 34 (by omega) (by omega) h2 (by simp;omega))).mono ?_;rintro e w4 ⟨rfl,hB4,hb4,hk4⟩)|(refine⟨trivial, ?_⟩;gi_at_call 75;refine(callsIn_wide.2 (Af8 hB4 (by simp))).mono ?_;rintro e w5 ⟨rfl,hb5,hk5⟩))
  have hd4:=hk4 _ _ hds (by simp;omega) (fun c fz e=>by cases e);have hd5:=hk5 _ _ hd4 (by simp;omega) (fun c fz e=>by cases e);refine⟨by simp,.inl ⟨_,_,rfl,run_takeDeferred hd5, ?_⟩⟩;have hbw5:Below w.heap.size w w5:=(h1.trans hb4).trans hb5;refine⟨_,results_tmp2 rfl _ _ _,rfl,hbw5.grown (grownBy_putObj' w5 _ _) hbw5.size (fun k e=>by cases e;omega)⟩
def D2 (s:ByteArray):List UInt8:=34::A0 (Cs s)++ [34]
mutual
def Bk:Val->List UInt8
 | .mk k b n t l o=>
   if k=2 then Lib.formatBool b else if k=3 then Lib.itoa n else if k=4 then D2 t
   else if k=5 then 91::(Dk l true++ [93])else if k=6 then 123::(Dn o true++ [125])else [110,117,108,108]
def Dk:List Val->Bool->List UInt8
 | [],_=> []
 |v::r,f=>(if f then []else [44])++(Bk v++Dk r false)
def Dn:List (ByteArray×Val)->Bool->List UInt8
 | [],_=> []
 |p::r,f=>(if f then []else [44])++(Ab2 p++Dn r false)
def Ab2:ByteArray×Val->List UInt8
 |(key,v)=>D2 key++(58::Bk v)
end
mutual
def okV:Val->Prop
 | .mk _ _ n t l o=>A8 t=true/\(-9223372036854775808<=n/\n<=9223372036854775807)/\okL l/\okO o
def okL:List Val->Prop
 | []=>True
 |v::r=>okV v/\okL r
def okO:List (ByteArray×Val)->Prop
 | []=>True
 |p::r=>okP p/\okO r
def okP:ByteArray×Val->Prop
 |(key,v)=>A8 key=true/\okV v
end
def Nv (k:Int):Nat:=
 if k=2 then 106 else if k=3 then 109 else if k=4 then 111 else if k=5 then 113 else if k=6 then 115 else 117
def Ju (k:Int) (p:Nat):Array Value:=
 if k=2\/k=3\/k=4\/k=5\/k=6 then #[.pointer (some ⟨p,0,none⟩)]else #[]
theorem Kr (k:Int) (args:Array Value) (w:World):(callFunc (Nv k) args).run Tryz.prog w=.ok (.enter (Nv k) args) w:=by
 unfold Nv
 split
 . exact enters_of Tryz.func106 (by kernel_rfl) rfl args w
 split
 . exact enters_of Tryz.func109 (by kernel_rfl) rfl args w
 split
 . exact enters_of Tryz.func111 (by kernel_rfl) rfl args w
 split
 . exact enters_of Tryz.func113 (by kernel_rfl) rfl args w
 split
 . exact enters_of Tryz.func115 (by kernel_rfl) rfl args w
 . exact enters_of Tryz.func117 (by kernel_rfl) rfl args w
theorem Nk (k:Int) (b:Bool) (n:Int) (t:ByteArray) (la oa:Option Addr) (ln lc on oc:Nat) (w:World):
 Calls Tryz.prog 74 #[.agg #[.int .i64 k,.bool b,.int .i64 n,.string t,.slice la ln lc,.slice oa on oc]] w fun e w'=>
  e=.returned (.func (.func (Nv k)) #[] (Ju k w.heap.size))/\w.alloc (.cells #[.int .i64 k,.bool b,.int .i64 n,.string t,.slice la ln lc,.slice oa on oc] 39)=w':=by
 rcases(by omega:k=2\/k=3\/k=4\/k=5\/k=6\/(k≠2/\k≠3/\k≠4/\k≠5/\k≠6))with rfl|rfl|rfl|rfl|rfl|⟨h2,h3,h4,h5,h6⟩
 all_goals
  try have e2:(k==2)=false:=by simpa using h2
  try have e3:(k==3)=false:=by simpa using h3
  try have e4:(k==4)=false:=by simpa using h4
  try have e5:(k==5)=false:=by simpa using h5
  try have e6:(k==6)=false:=by simpa using h6
  try have hf:Hid (Nv k=117):=by show _=_;simp[Nv,h2,h3,h4,h5,h6]
  try have hc:Hid (Ju k w.heap.size= #[]):=by show _=_;simp[Ju,h2,h3,h4,h5,h6]
  try clear h2 h3 h4 h5 h6
  go_enter Tryz.func74,Tryz.ntmps74;go_wp2;go_ret
 all_goals first|exact⟨rfl,rfl⟩|exact⟨by rw[hf.out,hc.out];rfl,rfl⟩
def Xs (v:Val):Prop:= ∀(W:World) (B g p:Nat) (keeps:Bool) (acc:List UInt8) (cs:List Value) (k:Int) (b:Bool) (n:Int) (t:ByteArray) (l:List Val) (o:List (ByteArray×Val)),v=.mk k b n t l o->5<=B->Cf W->Ac W B v cs->
    W.heap[p]? =some (.cells cs.toArray 39 (0,0))->p≠g->Wr W B g keeps acc->okV v->v.bulk<=1000000000->acc.length+6*v.bulk<=20000000000->
    Calls Tryz.prog (Nv k) (#[.pointer (some ⟨g,0,none⟩)]++Ju k p) W fun e W'=>e=.returned (.tuple #[])/\Wr W' B g keeps (acc++Bk v)/\Below B W W'/\E8 g W W'
theorem Cf.keep {w w':World} {B:Nat} (h:Cf w) (hb:Below B w w') (h5B:5<=B):Cf w':=by
 obtain⟨h5,⟨h1,h2⟩,h3⟩:=h;refine⟨Nat.le_trans h5 hb.size,⟨fun c hc=> ?_,fun i hi=>⟨?_, ?_⟩⟩, ?_⟩
 . exact(hb.cell (p:=⟨1,c,none⟩) (by show 1<_;omega)).trans (h1 c hc)
 . exact(hb.cell (p:=⟨2,2*i,none⟩) (by show 2<_;omega)).trans (h2 i hi).1
 . exact(hb.cell (p:=⟨2,2*i+1,none⟩) (by show 2<_;omega)).trans (h2 i hi).2
 . have hg:Tryz.prog.globalNamed "internal/strconv.uint64pow10" =some 3:=by kernel_rfl
   unfold Lib.TabIs World.var? at h3 ⊢;rw[hg]at h3 ⊢;simp only[Option.bind_some]at h3 ⊢;rw[hb.block 3 (by omega)];exact h3
theorem Adj (W:World) (k:Nat) (os:Array Obj):Below W.heap.size W (Sort.grow (W.drewN k) os):=
 ⟨rfl,rfl,rfl,by show W.heap.size<=(W.heap++os).size;simp,fun i hi=>by show(W.heap++os)[i]? =W.heap[i]?;rw[Array.getElem?_append_left hi]⟩
theorem Mq (b:Bool):(Lib.formatBool b).length<=5:=by cases b<;>decide
theorem I8 (l:List UInt8):Fd [⟨l.toArray⟩]=l:=by simp[Fd]
theorem F4 {B g:Nat} {keeps:Bool} {acc:List UInt8} {w:World} (ss:List ByteArray) (c:Nat) (h:Wr w B g keeps acc) (hlen:acc.length+(Fd ss).length<=50000000000) (hn:ss.length<=1000):
 Calls Tryz.prog 107 #[.pointer (some ⟨g,0,none⟩),.slice (some ⟨w.heap.size,0,none⟩) ss.length c] (w.alloc (.cells (ss.map Value.string).toArray 9 (0,0))) fun e w'=>e=.returned (.tuple #[])/\Wr w' B g keeps (acc++Fd ss)/\Below B w w'/\E8 g w w':=by
 have hlt:=h.lt;have hb:=h.base;refine(Adl B g keeps acc ss w.heap.size c _ (h.below ((Below.refl _ _).alloc (Nat.le_refl _) _)) (heap_alloc_new _ _) (by omega) hlen hn).mono ?_;rintro e w' ⟨rfl,h1,h2,h3⟩;exact⟨rfl,h1,((Below.refl B w).alloc (by omega) _).trans h2,((Lib.OthersKept.refl _ _ w).alloc _).trans h3⟩
theorem Ab9 (W:World) (B g p:Nat) (keeps:Bool) (acc:List UInt8) (b:Bool) (v2 v3 v4 v5:Value) (k:Value) (hp:W.heap[p]? =some (.cells #[k,.bool b,v2,v3,v4,v5] 39 (0,0)))
 (hW:Wr W B g keeps acc) (hlen:acc.length<=20000000000):
 Calls Tryz.prog 106 #[.pointer (some ⟨g,0,none⟩),.pointer (some ⟨p,0,none⟩)] W fun e W'=>e=.returned (.tuple #[])/\Wr W' B g keeps (acc++Lib.formatBool b)/\Below B W W'/\E8 g W W':=by
 have c1:W.cell? ⟨p,1,none⟩=some (.bool b):=(Lib.cell_of_heap hp 1).trans rfl;have hj:=F4 [⟨(Lib.formatBool b).toArray⟩] 1 hW (by rw[I8];have:=Mq b;omega) (by simp);rw[I8]at hj;have cB:=Tryz.strconv_FormatBool b W;generalize Lib.formatBool b=L at hj cB ⊢;obtain⟨HJ,CB⟩:=hid2 hj cB;clear hj cB;go_enter Tryz.func106,Tryz.ntmps106;go_wp2_with (first|(go_at_call 108;refine(CB.out).mono ?_;rintro e wx ⟨rfl,hwx⟩;subst hwx)|(go_at_call 107;refine(HJ.out).mono ?_;rintro e w2 ⟨rfl,h1,h2,h3⟩))
 go_end0
 exact⟨rfl,h1,h2,h3⟩
theorem Ae5 (W:World) (B g p:Nat) (keeps:Bool) (acc:List UInt8) (n:Int) (v1 v3 v4 v5:Value) (k:Value) (hp:W.heap[p]? =some (.cells #[k,v1,.int .i64 n,v3,v4,v5] 39 (0,0)))
 (hT:Cf W) (hn0: -9223372036854775808<=n) (hn1:n<=9223372036854775807) (_hpg:p≠g) (hW:Wr W B g keeps acc) (hlen:acc.length<=20000000000):
 Calls Tryz.prog 109 #[.pointer (some ⟨g,0,none⟩),.pointer (some ⟨p,0,none⟩)] W fun e W'=>e=.returned (.tuple #[])/\Wr W' B g keeps (acc++Lib.itoa n)/\Below B W W'/\E8 g W W':=by
 have c1:W.cell? ⟨p,2,none⟩=some (.int .i64 n):=(Lib.cell_of_heap hp 2).trans rfl;have hl:=Lib.itoa_length_le n hn0 hn1;have cB:=Tryz.strconv_FormatInt_10 n hn0 hn1 W hT.2.2;have hj: ∀w1,Below W.heap.size W w1->Calls Tryz.prog 107 #[.pointer (some ⟨g,0,none⟩),.slice (some ⟨w1.heap.size,0,none⟩) 1 1] (w1.alloc (.cells #[.string ⟨(Lib.itoa n).toArray⟩] 9 (0,0))) fun e w'=>e=.returned (.tuple #[])/\Wr w' B g keeps (acc++Lib.itoa n)/\Below B w1 w'/\E8 g w1 w':=fun w1 hb=>by
  have:=F4 [⟨(Lib.itoa n).toArray⟩] 1 (hW.below hb) (by rw[I8];omega) (by simp)
  rwa [I8]at this
 have hB:=hW.base;have hlt:=hW.lt;generalize Lib.itoa n=L at hj cB ⊢;obtain⟨HJ,CB⟩:=hid2 hj cB;clear hj cB hl hp;go_enter Tryz.func109,Tryz.ntmps109;go_wp2_with (first|(go_at_call 110;refine(CB.out).mono ?_;rintro e w1 ⟨rfl,kk,os,hwx⟩;have hb1:Below W.heap.size W w1:=hwx▸Adj W kk os;clear hwx)|(go_at_call 107;refine(HJ.out _ hb1).mono ?_;rintro e w2 ⟨rfl,h1,h2,h3⟩))
 go_end0
 exact⟨rfl,h1,(hb1.mono (by omega)).trans h2,fun j o hj hg ho=>h3 j o ((hb1.block j (Array.getElem?_eq_some_iff.1 hj).1).trans hj) hg ho⟩
theorem Aca (W:World) (B g:Nat) (keeps:Bool) (acc:List UInt8) (hW:Wr W B g keeps acc) (hlen:acc.length<=20000000000):
 Calls Tryz.prog 117 #[.pointer (some ⟨g,0,none⟩)] W fun e W'=>e=.returned (.tuple #[])/\Wr W' B g keeps (acc++ [110,117,108,108])/\Below B W W'/\E8 g W W':=by
 have hj:=F4 [⟨#[110,117,108,108]⟩] 1 hW (by simp[Fd];omega) (by simp);have HJ:=Lib.hid hj;clear hj;go_enter Tryz.func117,Tryz.ntmps117;go_wp2_with (go_at_call 107;refine(HJ.out).mono ?_;rintro e w2 ⟨rfl,h1,h2,h3⟩)
 go_end0
 exact⟨rfl,h1,h2,h3⟩
theorem R4 (s:ByteArray) (w:World) (hT:Cf w) (hs:s.size<=1000000000) (hv:A8 s=true):
 Calls Tryz.prog 112 #[.string s] w fun e w'=>e=.returned (.string ⟨(D2 s).toArray⟩)/\Below w.heap.size w w':=by
 have cQ:=Zo s w hT hs hv;unfold D2;generalize 34::A0 (Cs s)++ [34]=L at cQ ⊢;have CQ:=Lib.hid cQ;clear cQ;go_enter Tryz.func112,Tryz.ntmps112;go_wp2_with (go_at_call 163;refine(CQ.out).mono ?_;rintro e w2 ⟨rfl,h1⟩);go_ret;exact⟨rfl,h1⟩
theorem Kc (s:ByteArray):(D2 s).length<=6*s.size+2:=by
 have e1:=G6 (Cs s);have e3:=F6 s.size s.data.toList 0;unfold Cs at e1;unfold D2 Cs;simp only[List.length_cons,List.length_append,List.length_nil];omega
theorem Acb (W:World) (B g p:Nat) (keeps:Bool) (acc:List UInt8) (t:ByteArray) (v1 v2 v4 v5:Value) (k:Value) (hp:W.heap[p]? =some (.cells #[k,v1,v2,.string t,v4,v5] 39 (0,0)))
 (hT:Cf W) (hv:A8 t=true) (ht:t.size<=1000000000) (_hpg:p≠g) (hW:Wr W B g keeps acc) (hlen:acc.length<=20000000000):
 Calls Tryz.prog 111 #[.pointer (some ⟨g,0,none⟩),.pointer (some ⟨p,0,none⟩)] W fun e W'=>e=.returned (.tuple #[])/\Wr W' B g keeps (acc++D2 t)/\Below B W W'/\E8 g W W':=by
 have c1:W.cell? ⟨p,3,none⟩=some (.string t):=(Lib.cell_of_heap hp 3).trans rfl;have hl:=Kc t;have cB:=R4 t W hT ht hv;have hj: ∀w1,Below W.heap.size W w1->Calls Tryz.prog 107 #[.pointer (some ⟨g,0,none⟩),.slice (some ⟨w1.heap.size,0,none⟩) 1 1] (w1.alloc (.cells #[.string ⟨(D2 t).toArray⟩] 9 (0,0))) fun e w'=>e=.returned (.tuple #[])/\Wr w' B g keeps (acc++D2 t)/\Below B w1 w'/\E8 g w1 w':=fun w1 hb=>by
  have:=F4 [⟨(D2 t).toArray⟩] 1 (hW.below hb) (by rw[I8];omega) (by simp)
  rwa [I8]at this
 have hB:=hW.base;have hlt:=hW.lt;generalize D2 t=L at hj cB ⊢;obtain⟨HJ,CB⟩:=hid2 hj cB;clear hj cB hl hp;go_enter Tryz.func111,Tryz.ntmps111;go_wp2_with (first|(go_at_call 112;refine(CB.out).mono ?_;rintro e w1 ⟨rfl,hb1⟩)|(go_at_call 107;refine(HJ.out _ hb1).mono ?_;rintro e w2 ⟨rfl,h1,h2,h3⟩))
 go_end0
 exact⟨rfl,h1,(hb1.mono (by omega)).trans h2,fun j o hj hg ho=>h3 j o ((hb1.block j (Array.getElem?_eq_some_iff.1 hj).1).trans hj) hg ho⟩
theorem Nw (i:Int) (w:World):Calls Tryz.prog 114 #[.int .i64 i] w fun e w'=>e=.returned (.string ⟨(if i=0 then []else [44]:List UInt8).toArray⟩)/\w=w':=by
 by_cases h:i=0
 . subst h;go_enter Tryz.func114,Tryz.ntmps114;go_wp2;go_ret;exact⟨rfl,rfl⟩
 . have e:(i==0)=false:=by simpa using h
   rw[if_neg h];clear h;go_enter Tryz.func114,Tryz.ntmps114;go_wp2;go_ret;exact⟨rfl,rfl⟩
theorem Al4 {l:List Val} (h:okL l) {v:Val} (hv:v ∈ l):okV v:=by
 induction l with
 |nil=>cases hv
 |cons x r ih=>
  simp only[okL]at h;rcases List.mem_cons.1 hv with rfl|hv
  . exact h.1
  . exact ih h.2 hv
theorem Afu {l:List (ByteArray×Val)} (h:okO l) {m:ByteArray×Val} (hv:m ∈ l):A8 m.1=true/\okV m.2:=by
 induction l with
 |nil=>cases hv
 |cons x r ih=>
  obtain⟨k,v⟩:=x;simp only[okO,okP]at h;rcases List.mem_cons.1 hv with rfl|hv
  . exact h.1
  . exact ih h.2 hv
theorem Nq: ∀(l:List Val),(∀v ∈ l,okV v->(Bk v).length+1<=6*v.bulk)->okL l-> ∀f,(Dk l f).length<=6*Bc l
 | [],_,_,f=>by simp[Dk]
 |v::r,ih,ho,f=>by
  simp only[okL]at ho;have h1:=ih v (by simp) ho.1;have h2:=Nq r (fun x hx=>ih x (by simp[hx])) ho.2 false;simp only[Dk,Bc,List.length_append]
  split<;>simp<;>omega
theorem Nr: ∀(l:List (ByteArray×Val)),(∀m ∈ l,okV m.2->(Bk m.2).length+1<=6*m.2.bulk)->okO l-> ∀f,(Dn l f).length<=6*Al l
 | [],_,_,f=>by simp[Dn]
 |(k,v)::r,ih,ho,f=>by
  simp only[okO,okP]at ho;have h1:=ih (k,v) (by simp) ho.1.2;have h2:=Nr r (fun x hx=>ih x (by simp[hx])) ho.2 false;have h3:=Kc k;simp only[Dn,Ab2,Al,Ec,List.length_append,List.length_cons];simp only at h1
  split<;>simp<;>omega
theorem J5: ∀(v:Val),okV v->(Bk v).length+1<=6*v.bulk:=by
 refine Val.ind ?_;intro k b n t l o hl ho h;simp only[okV]at h;have h1:=Nq l hl h.2.2.1 true;have h2:=Nr o ho h.2.2.2 true;have h3:=Mq b;have h4:=Lib.itoa_length_le n h.2.1.1 h.2.1.2;have h5:=Kc t;simp only[Bk,Val.bulk]
 repeat' split
 all_goals(try simp only[List.length_cons,List.length_append,List.length_nil])
 all_goals omega
theorem O5 (v:Val): ∀(a:List Val) (f:Bool),Dk (a++ [v]) f=Dk a f++((if f&&a.isEmpty then []else [44])++Bk v)
 | [],f=>by cases f<;>simp[Dk]
 |x::r,f=>by
  simp only[List.cons_append,Dk,O5 v r false];simp[List.append_assoc]
theorem O6 (p:ByteArray×Val): ∀(a:List (ByteArray×Val)) (f:Bool),Dn (a++ [p]) f=Dn a f++((if f&&a.isEmpty then []else [44])++Ab2 p)
 | [],f=>by cases f<;>simp[Dn]
 |x::r,f=>by
  simp only[List.cons_append,Dn,O6 p r false];simp[List.append_assoc]
theorem Zy {l:List Val} {k:Nat} {v:Val} (h:l[k]? =some v):Bc l=Bc (l.take k)+(v.bulk+Bc (l.drop (k+1))):=by
 have h1: ∀a b:List Val,Bc (a++b)=Bc a+Bc b:=by
  intro a b
  induction a with
  |nil=>simp[Bc]
  |cons x r ih=>simp only[List.cons_append,Bc,ih];omega
 have h2:l=l.take k++(v::l.drop (k+1)):=by rw[<-C3 h,List.take_append_drop]
 conv=>lhs;rw[h2,h1]
 rfl
theorem Zz {l:List (ByteArray×Val)} {k:Nat} {p:ByteArray×Val} (h:l[k]? =some p):Al l=Al (l.take k)+(Ec p+Al (l.drop (k+1))):=by
 have h1: ∀a b:List (ByteArray×Val),Al (a++b)=Al a+Al b:=by
  intro a b
  induction a with
  |nil=>simp[Al]
  |cons x r ih=>simp only[List.cons_append,Al,ih];omega
 have h2:l=l.take k++(p::l.drop (k+1)):=by rw[<-C3 h,List.take_append_drop]
 conv=>lhs;rw[h2,h1]
 rfl
theorem Akc {l:List Val} (h:okL l) (k:Nat):okL (l.take k):=by
 induction l generalizing k with
 |nil=>simp[okL]
 |cons x r ih=>
  cases k with
  |zero=>simp[okL]
  |succ k=>simp only[okL]at h;simp only[List.take_succ_cons,okL];exact⟨h.1,ih h.2 k⟩
theorem E8.cells {g j:Nat} {A W:World} (h:E8 g A W) {cs:Array Value} {t:TypeId} {fz:Nat×Nat} (hj:A.heap[j]? =some (.cells cs t fz)) (hg:j≠g) (ht:t≠5):W.heap[j]? =some (.cells cs t fz):=
 h j _ hj (by simpa using hg) (fun c fz e=>by injection e with _ e2 _;exact ht e2)
set_option maxRecDepth 100000 in
theorem Sm (l:List Val) (IH: ∀v ∈ l,Xs v) (W:World) (B g p:Nat) (h5:5<=B) (keeps:Bool) (acc:List UInt8) (la:Option Addr) (lc:Nat) (v0 v1 v2 v3 v5:Value)
 (hp:W.heap[p]? =some (.cells #[v0,v1,v2,v3,.slice la l.length lc,v5] 39 (0,0)))
 (gl off:Nat) (hla:l= []\/(la=some ⟨gl,off,none⟩/\gl<B/\Az W B l gl off)) (hT:Cf W) (hpg:p≠g) (hW:Wr W B g keeps acc) (hok:okL l) (hlen:acc.length+6*(6+Bc l)<=20000000000) (hb:Bc l<=1000000000):
 Calls Tryz.prog 113 #[.pointer (some ⟨g,0,none⟩),.pointer (some ⟨p,0,none⟩)] W fun e W'=>e=.returned (.tuple #[])/\Wr W' B g keeps (acc++91::(Dk l true++ [93]))/\Below B W W'/\E8 g W W':=by
 have hll:l.length<=1000000000:=by have:=D3 l;omega
 have hj1:=F4 [⟨#[91]⟩] 1 hW (by simp[Fd];omega) (by simp);have HJ1:=Lib.hid hj1;clear hj1;have HP:=Lib.hid hp;go_enter Tryz.func113,Tryz.ntmps113;go_wp2_with (go_at_call 107;refine(HJ1.out).mono ?_;rintro e w1 ⟨rfl,hw1,hb1,hk1⟩;have hp1:=hk1.cells HP.out hpg (by decide);have c4:w1.cell? ⟨p,4,none⟩=some (.slice la l.length lc):=(Lib.cell_of_heap hp1 4).trans rfl);have hw1':Wr w1 B g keeps (acc++91::Dk (l.take 0) true):=by simpa[Fd,Dk]using hw1
 clear c4 hp1 hw1 HJ1;go_loopw [11] (fun i wr=> ∃k:Nat,k<=l.length/\i=.int .i64 k/\Wr wr B g keeps (acc++91::Dk (l.take k) true)/\Below B W wr/\E8 g W wr) (fun i _=>l.length - (intOf i).toNat)
 case atStart=>exact⟨0,Nat.zero_le _,rfl,hw1',hb1,hk1⟩
 case round=>
  obtain⟨k,hk,rfl,hw,hbw,hkw⟩:=hrel;clear hw1' hb1 hk1;have hBg:=hw.base;by_cases hlt:k<l.length
  . obtain⟨rfl,hg,hL⟩:la=some ⟨gl,off,none⟩/\gl<B/\Az W B l gl off:=by
     rcases hla with rfl|h
     . simp at hlt
     . exact h
    obtain⟨v,hv⟩: ∃v,l[k]? =some v:=⟨_,List.getElem?_eq_getElem hlt⟩;have hmem:v ∈ l:=List.mem_of_getElem? hv;have hsp:=Zy hv;have IHv:=Lib.hid (IH v hmem);have hokv:=Al4 hok hmem;have htk:l.take (k+1)=l.take k++ [v]:=by rw[List.take_add_one,hv];rfl
    have htl:=Nq (l.take k) (fun x _=>J5 x) (Akc hok k) true;have hfin:acc++91::Dk (l.take (k+1)) true=((acc++91::Dk (l.take k) true)++(if(k:Int)=0 then []else [44]))++Bk v:=by
     rw[htk,O5];have e:((true&&(l.take k).isEmpty)=true) ↔ (k:Int)=0:=by
      rw[Bool.true_and,List.isEmpty_iff];constructor
      . intro h;have:=congrArg List.length h;rw[List.length_take,List.length_nil]at this;omega
      . intro h;have:k=0:=by omega
        subst this;rfl
     by_cases h0:(k:Int)=0
     . rw[if_pos h0,if_pos (e.2 h0)];simp
     . rw[if_neg h0,if_neg (fun h=>h0 (e.1 h))];simp
    have hpos:=v.bulk_pos;have hlenA:(acc++91::Dk (l.take k) true).length+6*(v.bulk+1)<=20000000000:=by
     rw[List.length_append,List.length_cons];omega
    generalize acc++91::Dk (l.take k) true=A at*
    have Hfin:=Lib.hid hfin;clear hfin htk htl IH hla;obtain⟨k',b',n',t',l',o'⟩:=v;have hLr:=hL.below hg hbw;obtain⟨la',lc',oa',oc',hvs,c0,c1,c2,c3,c4,c5⟩:=hLr.six hv;clear hL hLr hv hmem hok;obtain⟨wA,hwA⟩: ∃wA,wr.alloc (.cells #[.int .i64 k',.bool b',.int .i64 n',.string t',.slice la' l'.length lc',.slice oa' o'.length oc'] 39)=wA:=⟨_,rfl⟩;have hAw:Below wr.heap.size wr wA:=by rw[<-hwA];exact(Below.refl _ _).alloc (Nat.le_refl _) _
    have hbox:wA.heap[wr.heap.size]? =some (.cells #[.int .i64 k',.bool b',.int .i64 n',.string t',.slice la' l'.length lc',.slice oa' o'.length oc'] 39 (0,0)):=by rw[<-hwA];exact heap_alloc_new _ _
    have hgw:=hw.lt;have HTr:=Lib.hid (fun W' (hb':Below B wr W')=>hT.keep (hbw.trans hb') h5);have HVr:=Lib.hid (fun W' (hb':Below B wr W')=>hvs.below hb');have hszA:wA.heap.size=wr.heap.size+1:=by rw[<-hwA];simp
    have hj: ∀(S:List UInt8),S.length<=1->Calls Tryz.prog 107 #[.pointer (some ⟨g,0,none⟩),.slice (some ⟨wA.heap.size,0,none⟩) 1 1] (wA.alloc (.cells #[.string ⟨S.toArray⟩] 9 (0,0))) fun e w'=>e=.returned (.tuple #[])/\Wr w' B g keeps (A++S)/\Below B wA w'/\E8 g wA w':=fun S hS=>by
     have:=F4 [⟨S.toArray⟩] 1 (hw.below hAw) (by rw[I8];omega) (by simp)
     rwa [I8]at this
    have hj1:=hj (if(k:Int)=0 then []else [44]) (by split<;>simp);have hs2:(if(k:Int)=0 then []else [44]:List UInt8).length<=1:=by split<;>simp
    have cBt:=Nw (k:Int) wA;generalize (if(k:Int)=0 then []else [44]:List UInt8)=S at hj1 hs2 cBt Hfin;rw[hszA]at hj1;subst hwA;obtain⟨HJ,CB⟩:=hid2 hj1 cBt;clear hj1 hj cBt;have HOK:=Lib.hid hokv;have ent:=Kr;clear hokv hvs;have HB:=Lib.hid hbox;have hne:wr.heap.size≠g:=by omega
    go_wp2_with (first|(go_at_call 114;refine(CB.out).mono ?_;rintro e wx ⟨rfl,rfl⟩)|(go_at_call 107;refine(HJ.out).mono ?_;rintro e w2 ⟨rfl,h1,h2,h3⟩;have hz2:=h1.lt;have hb2:=h3.cells HB.out hne (by decide);have d0:w2.cell? ⟨wr.heap.size,0,none⟩=some (.int .i64 k'):=(Lib.cell_of_heap hb2 0).trans rfl;have d1:w2.cell? ⟨wr.heap.size,1,none⟩=some (.bool b'):=(Lib.cell_of_heap hb2 1).trans rfl;have d2:w2.cell? ⟨wr.heap.size,2,none⟩=some (.int .i64 n'):=(Lib.cell_of_heap hb2 2).trans rfl;have d3:w2.cell? ⟨wr.heap.size,3,none⟩=some (.string t'):=(Lib.cell_of_heap hb2 3).trans rfl;have d4:w2.cell? ⟨wr.heap.size,4,none⟩=some (.slice la' l'.length lc'):=(Lib.cell_of_heap hb2 4).trans rfl;have d5:w2.cell? ⟨wr.heap.size,5,none⟩=some (.slice oa' o'.length oc'):=(Lib.cell_of_heap hb2 5).trans rfl)|(go_at_call 74;refine(Nk k' b' n' t' la' oa' l'.length lc' o'.length oc' w2).mono ?_;rintro e w3 ⟨rfl,rfl⟩)|(go_at_fn (Nv k');refine(IHv.out _ B g w2.heap.size keeps (A++S) (Eo k' b' n' t' la' l'.length lc' oa' o'.length oc') k' b' n' t' l' o' rfl h5 (HTr.out _ ?_) (HVr.out _ ?_) (heap_alloc_new _ _) ?_ (h1.below ((Below.refl _ _).alloc (Nat.le_refl _) _)) HOK.out ?_ ?_).mono ?_;rotate_right;rintro e w4 ⟨rfl,h6,h7,h8⟩));go_roundw
    case rel=>
     refine⟨k+1,by omega,by go_num, ?_,hbw.trans ((((Below.refl B wr).alloc (by omega) _).trans h2).trans (((Below.refl B w2).alloc (by omega) _).trans h7)),(hkw.trans (((Lib.OthersKept.refl _ _ wr).alloc _).trans h3)).trans (((Lib.OthersKept.refl _ _ w2).alloc _).trans h8)⟩;rw[Hfin.out];exact h6
    case measure=>simp[intOf];omega
    . exact(((Below.refl B wr).alloc (by omega) _).trans h2).alloc (by omega) _
    . exact(((Below.refl B wr).alloc (by omega) _).trans h2).alloc (by omega) _
    . omega
    . omega
    . rw[List.length_append];omega
  . obtain rfl:k=l.length:=by omega
    rw[List.take_length]at hw;have htl:=Nq l (fun x _=>J5 x) hok true;have hj2:=F4 [⟨#[93]⟩] 1 hw (by rw[List.length_append,List.length_cons];simp[Fd];omega) (by simp);have HJ:=Lib.hid hj2;clear hj2 htl hok;have hgw:=hw.lt;have hBg:=hw.base;have e:Fd [⟨#[93]⟩]= [93]:=by simp[Fd]
    go_wp2_with (go_at_call 107;refine(HJ.out).mono ?_;rintro e w2 ⟨rfl,h1,h2,h3⟩)
    go_end0
    rw[e,List.append_assoc,List.cons_append]at h1;exact⟨rfl,h1,hbw.trans h2,hkw.trans h3⟩
attribute [local go_sem] Oper.semAt_some
def Jn:List (ByteArray×Val)->Bool->List (Bool×(ByteArray×Val))
 | [],_=> []
 |p::r,f=>(f,p)::Jn r false
def Val.kind:Val->Int
 | .mk k _ _ _ _ _=>k
def Gb (x:Bool×(ByteArray×Val)):ByteArray:=(⟨(if x.1 then []else [44]:List UInt8).toArray⟩:ByteArray)++⟨(D2 x.2.1).toArray⟩
def Adw (x:Bool×(ByteArray×Val)) (q:Nat):Array Value:=
 #[.string (Gb x),.func (.func (Nv x.2.2.kind)) #[] (Ju x.2.2.kind q)]
def Aik (W0:World) (B G:Nat) (x:Bool×(ByteArray×Val)) (q:Nat) (A:World):Prop:=
 G<q/\ ∃cs,A.heap[q]? =some (.cells cs.toArray 39 (0,0))/\Ac W0 B x.2.2 cs
theorem Ve (oa:Option Addr) (on oc:Nat) (w:World):
 Calls Tryz.prog 116 #[.slice oa on oc] w fun e w'=>e=.returned (.func (.func 164) #[] #[.pointer (some ⟨w.heap.size,0,none⟩)])/\w.alloc (.cells #[.slice oa on oc] 37)=w':=by
 go_enter Tryz.func116,Tryz.ntmps116;go_wp2;go_ret;exact⟨rfl,rfl⟩
set_option maxRecDepth 100000 in
theorem Ue (o:List (ByteArray×Val)) (W0:World) (B G p:Nat) (oa:Option Addr) (oc:Nat) (go off:Nat) (h5:5<=B) (hT:Cf W0)
 (hoa:o= []\/(oa=some ⟨go,off,none⟩/\go<B/\Au W0 B o go off)) (hok:okO o) (hb:Al o<=1000000000):
 Afc Tryz.prog 164 #[.pointer (some ⟨p,0,none⟩)] Adw (Aik W0 B G) (Jn o true)
  (fun A=>A.heap[p]? =some (.cells #[.slice oa o.length oc] 37 (0,0))/\Below B W0 A/\G<A.heap.size):=by
 intro n l J W hJn hJb hY h0;have hoo:o.length<=1000000000:=by have:=Cg o;omega
 have hmx:Tryz.prog.follows .mixedOrders=true:=by kernel_rfl
 have hc0:W.cell? ⟨p,0,none⟩=some (.slice oa o.length oc):=(Lib.cell_of_heap (hJb _ _ h0).1 0).trans rfl;refine callsIn_of_wp Tryz.func164 rfl trivial ?_ rfl;simp only[Tryz.ntmps164,List.size_toArray,List.length_cons,List.length_nil,Nat.reduceAdd,Nat.reduceSub,Array.replicate_succ,Array.replicate_zero,List.push_toArray,List.append_toArray,List.nil_append,List.cons_append]
 gi_wp2
 gi_loopw [7] (fun i wr=> ∃(pre:List (Bool×(ByteArray×Val))) (k:Nat),i=.int .i64 k/\k<=o.length/\Hid (Jn o true=pre++Jn (o.drop k) (decide ((k:Int)=0)))/\J pre wr) (fun i _=>o.length - (intOf i).toNat)
 case atStart=>exact⟨[],0,rfl,Nat.zero_le _,rfl,h0⟩
 case round=>
  obtain⟨pre,k,rfl,hk,hr,hJ⟩:=hrel;obtain⟨hp,hbw,hG⟩:=hJb _ _ hJ;by_cases hlt:k<o.length
  . obtain⟨rfl,hg,hO⟩:oa=some ⟨go,off,none⟩/\go<B/\Au W0 B o go off:=by
     rcases hoa with rfl|h
     . simp at hlt
     . exact h
    obtain⟨m,hm⟩: ∃m,o[k]? =some m:=⟨_,List.getElem?_eq_getElem hlt⟩;have hmem:m ∈ o:=List.mem_of_getElem? hm;have hsp:=Zz hm;have hokm:=Afu hok hmem;have hTr:Cf wr:=hT.keep hbw h5;have hr':=hr.out;rw[C3 hm]at hr';simp only[Jn]at hr';have hk1:decide (((k+1:Nat):Int)=0)=false:=by simp;omega
    obtain⟨key,v⟩:=m;obtain⟨k',b',n',t',l',o'⟩:=v;obtain⟨la',lc',oa',oc',hvs,c0,c1,c2,c3,c4,c5,c6⟩:=hO.seven hm;replace c0:=(hbw.cell (p:=⟨go,off+k*7,none⟩) hg).trans c0;replace c1:=(hbw.cell (p:=⟨go,off+k*7+1,none⟩) hg).trans c1;replace c2:=(hbw.cell (p:=⟨go,off+k*7+2,none⟩) hg).trans c2;replace c3:=(hbw.cell (p:=⟨go,off+k*7+3,none⟩) hg).trans c3;replace c4:=(hbw.cell (p:=⟨go,off+k*7+4,none⟩) hg).trans c4;replace c5:=(hbw.cell (p:=⟨go,off+k*7+5,none⟩) hg).trans c5;replace c6:=(hbw.cell (p:=⟨go,off+k*7+6,none⟩) hg).trans c6;have HY:Hid (∀(A:World) (q:Nat),G<q->A.heap[q]? =some (.cells #[.int .i64 k',.bool b',.int .i64 n',.string t',.slice la' l'.length lc',.slice oa' o'.length oc'] 39 (0,0))->Below wr.heap.size wr A->
     YieldAt Fence.wide n Tryz.prog l #[.string ((⟨(if decide ((k:Int)=0)then []else [44]:List UInt8).toArray⟩:ByteArray)++⟨(D2 key).toArray⟩),.func (.func (Nv k')) #[] (Ju k' q)] A fun e B=>e=.returned (.bool true)/\J (pre++ [(decide ((k:Int)=0),key,.mk k' b' n' t' l' o')]) B):=by
     show ∀_ _,_;intro A q hq hA hb;have hM:Aik W0 B G (decide ((k:Int)=0),key,.mk k' b' n' t' l' o') q A:=⟨hq,Eo k' b' n' t' la' l'.length lc' oa' o'.length oc',hA,hvs⟩;have:=hY pre _ _ q A hr' (hJn _ _ _ hJ hb) hM;simp only[Adw,Gb,Val.kind]at this;exact this
    have Hr2:Hid (Jn o true=(pre++ [(decide ((k:Int)=0),key,.mk k' b' n' t' l' o')])++Jn (o.drop (k+1)) (decide (((k+1:Nat):Int)=0))):=by
     show _=_;rw[hk1,hr'];simp
    have cB: ∀w,Calls Tryz.prog 114 #[.int .i64 k] w fun e w'=>e=.returned (.string ⟨(if decide ((k:Int)=0)then []else [44]:List UInt8).toArray⟩)/\w=w':=by
     intro w;have:=Nw (k:Int) w;simpa only[decide_eq_true_eq]using this
    have hkz:key.size<=1000000000:=by simp only[Ec]at hsp;omega
    have cQ: ∀w,Cf w->Calls Tryz.prog 112 #[.string key] w fun e w'=>e=.returned (.string ⟨(D2 key).toArray⟩)/\Below w.heap.size w w':=fun w hw=>R4 key w hw hkz hokm.1;clear hr hr' hsp hokm hmem hm hO hvs hoa hY hk1 hok;have hS1:(⟨(if decide ((k:Int)=0)then []else [44]:List UInt8).toArray⟩:ByteArray).size<=1:=by
     split<;>simp[ByteArray.size]
    have hS2:(⟨(D2 key).toArray⟩:ByteArray).size<=6000000002:=by
     have:=Kc key;simp only[ByteArray.size,List.size_toArray];omega
    generalize (⟨(if decide ((k:Int)=0)then []else [44]:List UInt8).toArray⟩:ByteArray)=S at HY cB hS1;generalize (⟨(D2 key).toArray⟩:ByteArray)=Q at HY cQ hS2;have hSQ:((S.size:Int)+(Q.size:Int)>9223372036854775807)=False:=by simp;omega
    have hSQ2:((S.size+Q.size:Nat):Int)>IntKind.i64.max ↔ False:=by
     have e:IntKind.i64.max=9223372036854775807:=rfl;simp only[iff_false,e];omega
    obtain⟨CB,CQ⟩:=hid2 cB cQ;clear cB cQ;obtain⟨HJn,HJb,HTr,Hbw,HJ,Hp⟩:=hid6 hJn hJb hTr hbw hJ hp;clear hc0 h0 hb hT hJn hJb hmx hTr hbw hJ hp;have hGr:=hG
    gi_wp2
    obtain⟨A,hA⟩: ∃A,wr.alloc (.cells #[.string key,.int .i64 k',.bool b',.int .i64 n',.string t',.slice la' l'.length lc',.slice oa' o'.length oc'] 63)=A:=⟨_,rfl⟩;have hAb:Below wr.heap.size wr A:=by rw[<-hA];exact(Below.refl _ _).alloc (Nat.le_refl _) _
    have hAh:A.heap[wr.heap.size]? =some (.cells #[.string key,.int .i64 k',.bool b',.int .i64 n',.string t',.slice la' l'.length lc',.slice oa' o'.length oc'] 63 (0,0)):=by rw[<-hA];exact heap_alloc_new _ _
    rw[hA];have hAz:=(Array.getElem?_eq_some_iff.1 hAh).1;have hDb:Below wr.heap.size wr A.drew:=Below.drew hAb;have hTD:Cf A.drew:=HTr.out.keep hDb HTr.out.1;have hDh:A.drew.heap[wr.heap.size]? =some (.cells #[.string key,.int .i64 k',.bool b',.int .i64 n',.string t',.slice la' l'.length lc',.slice oa' o'.length oc'] 63 (0,0)):=hAh;clear hA c0 c1 c2 c3 c4 c5 c6 hAb;have hGs:G<wr.heap.size:=hG;have hmx:Tryz.prog.follows .mixedOrders=true:=by kernel_rfl
    have a0:A.drew.cell? ⟨wr.heap.size,0,none⟩=some (.string key):=(Lib.cell_of_heap hDh 0).trans rfl;have a1:A.drew.cell? ⟨wr.heap.size,1,none⟩=some (.int .i64 k'):=(Lib.cell_of_heap hDh 1).trans rfl;have a2:A.drew.cell? ⟨wr.heap.size,2,none⟩=some (.bool b'):=(Lib.cell_of_heap hDh 2).trans rfl;have a3:A.drew.cell? ⟨wr.heap.size,3,none⟩=some (.int .i64 n'):=(Lib.cell_of_heap hDh 3).trans rfl;have a4:A.drew.cell? ⟨wr.heap.size,4,none⟩=some (.string t'):=(Lib.cell_of_heap hDh 4).trans rfl;have a5:A.drew.cell? ⟨wr.heap.size,5,none⟩=some (.slice la' l'.length lc'):=(Lib.cell_of_heap hDh 5).trans rfl;have a6:A.drew.cell? ⟨wr.heap.size,6,none⟩=some (.slice oa' o'.length oc'):=(Lib.cell_of_heap hDh 6).trans rfl;obtain⟨HDh,HTD,HDb,HG⟩:=hid4 hDh hTD hDb hGs;clear hDh hTD hDb hGs hG hAz hAh
    gi_region_with (first|(refine⟨trivial, ?_⟩;gi_at_call 114;refine(callsIn_wide.2 (CB.out _)).mono ?_;rintro e wx ⟨rfl,rfl⟩)|(refine⟨trivial, ?_⟩;gi_at_call 112;refine(callsIn_wide.2 (CQ.out _ HTD.out)).mono ?_;rintro e w2 ⟨rfl,hb2⟩;have HB2:=Lib.hid hb2;have d0:=(hb2.block wr.heap.size (Array.getElem?_eq_some_iff.1 HDh.out).1).trans HDh.out;have d1:w2.cell? ⟨wr.heap.size,1,none⟩=some (.int .i64 k'):=(Lib.cell_of_heap d0 1).trans rfl;have d2:w2.cell? ⟨wr.heap.size,2,none⟩=some (.bool b'):=(Lib.cell_of_heap d0 2).trans rfl;have d3:w2.cell? ⟨wr.heap.size,3,none⟩=some (.int .i64 n'):=(Lib.cell_of_heap d0 3).trans rfl;have d4:w2.cell? ⟨wr.heap.size,4,none⟩=some (.string t'):=(Lib.cell_of_heap d0 4).trans rfl;have d5:w2.cell? ⟨wr.heap.size,5,none⟩=some (.slice la' l'.length lc'):=(Lib.cell_of_heap d0 5).trans rfl;have d6:w2.cell? ⟨wr.heap.size,6,none⟩=some (.slice oa' o'.length oc'):=(Lib.cell_of_heap d0 6).trans rfl;clear hb2 d0)|(refine⟨trivial, ?_⟩;gi_at_call 74;refine(callsIn_wide.2 (Nk k' b' n' t' la' oa' l'.length lc' o'.length oc' w2)).mono ?_;rintro e w3 ⟨rfl,rfl⟩;obtain⟨fn,tmps,assign,body,hy,hR⟩:=HY.out (w2.alloc (.cells #[.int .i64 k',.bool b',.int .i64 n',.string t',.slice la' l'.length lc',.slice oa' o'.length oc'] 39)) w2.heap.size (Nat.lt_of_lt_of_le HG.out (HDb.out.trans (HB2.out.mono HDb.out.size)).size) (heap_alloc_new _ _) (((HDb.out.trans (HB2.out.mono HDb.out.size))).alloc (HDb.out.trans (HB2.out.mono HDb.out.size)).size _))|(refine hR.mono ?_;rintro e W3 ⟨rfl,hJ3⟩;clear hy hR))
    all_goals(
     gi_wp2
     go_roundw
     case rel=>exact⟨_,k+1,by go_num,by omega,Hr2,hJ3⟩
     case measure=>simp[intOf];omega)
  . obtain rfl:k=o.length:=by omega
    have hr':=hr.out;rw[List.drop_length]at hr';simp only[Jn,List.append_nil]at hr';have Hr:=Lib.hid hr';clear hr hr' hoa hbw hT
    gi_wp2
    go_end0
    exact⟨⟨_,rfl⟩,by rw[Hr.out];exact hJ⟩
attribute [local go_sem] Oper.semAt_some
theorem Rv: ∀(o:List (ByteArray×Val)) (f:Bool) {pre:List (Bool×(ByteArray×Val))} {x:Bool×(ByteArray×Val)} {rest:List (Bool×(ByteArray×Val))},Jn o f=pre++x::rest->
 x.1=(f&&(pre.map (·.2)).isEmpty)/\o=pre.map (·.2)++x.2::rest.map (·.2)
 | [],f,pre,x,rest,h=>by simp[Jn]at h
 |p::r,f, [],x,rest,h=>by
  simp only[Jn,List.nil_append,List.cons.injEq]at h;obtain⟨rfl,h⟩:=h;have: ∀(l:List (ByteArray×Val)) (f:Bool),(Jn l f).map (·.2)=l:=by
   intro l
   induction l with
   |nil=>intro f;rfl
   |cons a l ih=>intro f;simp[Jn,ih]
  rw[<-h,this];simp
 |p::r,f,y::pre,x,rest,h=>by
  simp only[Jn,List.cons_append,List.cons.injEq]at h;obtain⟨rfl,h⟩:=h;obtain⟨h1,h2⟩:=Rv r false h;exact⟨by simpa using h1,by simp[<-h2]⟩
theorem Wx: ∀(l:List (ByteArray×Val)) (f:Bool),(Jn l f).map (·.2)=l
 | [],_=>rfl
 |a::l,f=>by simp[Jn,Wx l]
theorem E8.of_below {g:Nat} {A W:World} (h:Below A.heap.size A W):E8 g A W:=fun j _ hj _ _=>(h.block j (Array.getElem?_eq_some_iff.1 hj).1).trans hj
theorem Afv: ∀{a:List (ByteArray×Val)} {b:List (ByteArray×Val)},okO (a++b)->okO a
 | [],_,_=>by simp[okO]
 |x::r,b,h=>by simp only[List.cons_append,okO]at h ⊢;exact⟨h.1,Afv h.2⟩
theorem Wc: ∀(a:List (ByteArray×Val)) (p:ByteArray×Val) (b:List (ByteArray×Val)),Al a+Ec p<=Al (a++p::b)
 | [],p,b=>by simp[Al]
 |x::r,p,b=>by have:=Wc r p b;simp only[List.cons_append,Al];omega
def OI (W:World) (B g b pm:Nat) (keeps:Bool) (acc:List UInt8) (sl:Value) (pre:List (Bool×(ByteArray×Val))) (A:World):Prop:=
 Wr A B g keeps (acc++123::Dn (pre.map (·.2)) true)/\Below B W A/\E8 g W A/\A.heap[b]? =some (.cells #[.pointer (some ⟨g,0,none⟩)] 133 (0,0))/\A.heap[pm]? =some (.cells #[sl] 37 (0,0))
set_option maxRecDepth 100000 in
theorem N6 (o:List (ByteArray×Val)) (IH: ∀m ∈ o,Xs m.2) (W:World) (B g p:Nat) (h5:5<=B) (keeps:Bool) (acc:List UInt8) (oa:Option Addr) (oc:Nat) (v0 v1 v2 v3 v4:Value)
 (hp:W.heap[p]? =some (.cells #[v0,v1,v2,v3,v4,.slice oa o.length oc] 39 (0,0)))
 (gl off:Nat) (hoa:o= []\/(oa=some ⟨gl,off,none⟩/\gl<B/\Au W B o gl off)) (hT:Cf W) (hpg:p≠g) (hW:Wr W B g keeps acc) (hok:okO o) (hlen:acc.length+6*(6+Al o)<=20000000000) (hb:Al o<=1000000000):
 Calls Tryz.prog 115 #[.pointer (some ⟨g,0,none⟩),.pointer (some ⟨p,0,none⟩)] W fun e W'=>e=.returned (.tuple #[])/\Wr W' B g keeps (acc++123::(Dn o true++ [125]))/\Below B W W'/\E8 g W W':=by
 have hoo:o.length<=1000000000:=by have:=Cg o;omega
 have hgW:=hW.lt;have hBg:=hW.base;have hpW:=(Array.getElem?_eq_some_iff.1 hp).1;have hW0:Wr (W.alloc (.cells #[.pointer (some ⟨g,0,none⟩)] 133)) B g keeps acc:=hW.below ((Below.refl _ _).alloc (Nat.le_refl _) _);have hb0:Below W.heap.size W (W.alloc (.cells #[.pointer (some ⟨g,0,none⟩)] 133)):=(Below.refl _ _).alloc (Nat.le_refl _) _;have hB0:=heap_alloc_new W (.cells #[.pointer (some ⟨g,0,none⟩)] 133);have hz0:(W.alloc (.cells #[.pointer (some ⟨g,0,none⟩)] 133)).heap.size=W.heap.size+1:=by simp
 have hj1:=F4 [⟨#[123]⟩] 1 hW0 (by simp[Fd];omega) (by simp);rw[hz0]at hj1;obtain⟨HJ1,HB0,Hb0,HP,HOA,HIH,HOK,HT⟩:=hid8 hj1 hB0 hb0 hp hoa IH hok hT;clear hj1 hB0 hb0 hp hoa IH hok hT hW0;refine(callsIn_wide (n:=12)).1 ?_;refine callsIn_of_wp_marks Tryz.func115 rfl trivial ?_ rfl;simp only[Tryz.ntmps115,List.size_toArray,List.length_cons,List.length_nil,Nat.reduceAdd,Nat.reduceSub,Array.replicate_succ,Array.replicate_zero,List.push_toArray,List.append_toArray,List.nil_append,List.cons_append]
 gi_wp2_with (first|(refine⟨trivial, ?_⟩;gi_at_call 107;refine(callsIn_wide.2 HJ1.out).mono ?_;rintro e w1 ⟨rfl,hw1,hb1,hk1⟩;have hp1:=hk1.cells ((Hb0.out.block p hpW).trans HP.out) hpg (by decide);have c5:w1.cell? ⟨p,5,none⟩=some (.slice oa o.length oc):=(Lib.cell_of_heap hp1 5).trans rfl)|(refine⟨trivial, ?_⟩;gi_at_call 116;refine(callsIn_wide.2 (Ve oa o.length oc w1)).mono ?_;rintro e w2 ⟨rfl,hw2⟩))
 have hz1:=hw1.lt;have hbW1:Below B W w1:=(Hb0.out.mono (by omega)).trans hb1;have hkW1:E8 g W w1:=(E8.of_below Hb0.out).trans hk1;have hbx1:=hk1.cells HB0.out (by omega) (by decide);have hs1:=hb1.size;have hWs:W.heap.size<w1.heap.size:=(Array.getElem?_eq_some_iff.1 hbx1).1;have hg2:Below w1.heap.size w1 w2:=hw2▸(Below.refl _ _).alloc (Nat.le_refl _) _;have hpm:w2.heap[w1.heap.size]? =some (.cells #[.slice oa o.length oc] 37 (0,0)):=hw2▸heap_alloc_new _ _;have hbx2:=(hg2.block W.heap.size hWs).trans hbx1;have hW2:Wr w2 B g keeps (acc++123::Dn [] true):=by
  have:=hw1.below hg2;simpa[Fd,Dn]using this
 have hb2:Below B W w2:=hbW1.trans (hg2.mono (by omega));have hk2:E8 g W w2:=hkW1.trans (E8.of_below hg2);have hz2:=(Array.getElem?_eq_some_iff.1 hpm).1;clear hw2 hw1 hb1 hk1 hp1 c5 hbW1 hkW1 hbx1 hg2 hs1;refine V1 (n:=10) (gf:=164) (lb:= #[.pointer (some ⟨w1.heap.size,0,none⟩)]) rfl (enters_of Tryz.func164 (by kernel_rfl) rfl) (Ue o W B g w1.heap.size oa oc gl off h5 HT.out HOA.out HOK.out hb) (fun _ _=>rfl)
  ?hEp (OI W B g W.heap.size w1.heap.size keeps acc (.slice oa o.length oc)) ?hIn ?hIp ?hIb ?h0 ?a1 ?assign ?body ?done
 case assign=>
  intro l x q W K hK;dsimp only[Adw]
  gi_wp2
  exact hK
 case h0=>exact⟨hW2,hb2,hk2,hbx2,hpm⟩
 case hIb=>
  rintro pre A ⟨h1,h2,h3,h4,h6⟩;exact⟨h6,h2,h1.lt⟩
 case hIn=>
  rintro pre A A' ⟨h1,h2,h3,h4,h6⟩ hb';exact⟨h1.below hb',h2.trans (hb'.mono (Nat.le_trans h1.base (Nat.le_of_lt h1.lt))),h3.trans (E8.of_below hb'),(hb'.block _ (Array.getElem?_eq_some_iff.1 h4).1).trans h4,(hb'.block _ (Array.getElem?_eq_some_iff.1 h6).1).trans h6⟩
 case hEp=>
  rintro x q A k u u' ⟨h1,cs,h2,h3⟩ ho hc;refine⟨h1,cs, ?_,h3⟩;rw[World.putObj_heap_other (by rintro rfl;rw[h2]at ho;injection ho with ho;subst ho;simp[Obj.isCells]at hc)];exact h2
 case hIp=>
  rintro pre A k u u' ⟨h1,h2,h3,h4,h6⟩ ho hc hk;refine⟨h1.put ho hc,h2.grown (grownBy_putObj' A k u') (by have:=h2.size;omega) (fun j e=>by cases e;omega),fun j v hj hg hv=> ?_, ?_, ?_⟩
  . have:=(Array.getElem?_eq_some_iff.1 hj).1;rw[World.putObj_heap_other (by omega)];exact h3 j v hj hg hv
  . rw[World.putObj_heap_other (by omega)];exact h4
  . rw[World.putObj_heap_other (by omega)];exact h6
 case body=>
  rintro l pre x rest q A hx ⟨h1,h2,h3,h4,h6⟩ ⟨hq,cs,hqc,hqv⟩ ⟨ds,hds⟩ ⟨rc,hrc⟩;obtain⟨hf,ho⟩:=Rv o true hx;have htl:=Nr (pre.map (·.2)) (fun m _=>J5 m.2) (Afv (ho▸HOK.out)) true;have hbk:Al (pre.map (·.2))+Ec x.2<=Al o:=by rw[ho];exact Wc _ _ _
  have hxm:x.2 ∈ o:=by rw[ho];simp
  have hokx:=Afu HOK.out hxm;have hsn:Dn ((pre++ [x]).map (·.2)) true=Dn (pre.map (·.2)) true++((Gb x).data.toList++(58::Bk x.2.2)):=by
   rw[List.map_append,List.map_cons,List.map_nil,O6];obtain⟨f,key,v⟩:=x;simp only at hf;simp only[Ab2,Gb,hf];simp[List.append_assoc]
  obtain⟨f,key,v⟩:=x;obtain⟨k',b',n',t',l',o'⟩:=v;have hqk:=Kc key;have hmt:(Gb (f,key,.mk k' b' n' t' l' o')).data.toList.length<=6*key.size+3:=by
   simp only[Gb]
   split<;>simp<;>omega
  simp only[Ec]at hbk;have hfl:Fd [Gb (f,key,.mk k' b' n' t' l' o'),⟨#[58]⟩]=(Gb (f,key,.mk k' b' n' t' l' o')).data.toList++ [58]:=by simp[Fd]
  have hlA:(acc++123::Dn (pre.map (·.2)) true).length+6*(Val.mk k' b' n' t' l' o').bulk+6*key.size+7<=20000000000:=by
   rw[List.length_append,List.length_cons];omega
  have hqb:(Val.mk k' b' n' t' l' o').bulk<=1000000000:=by omega
  have hM1:((Gb (f,key,.mk k' b' n' t' l' o')).data.toList++ [58]).length=(Gb (f,key,.mk k' b' n' t' l' o')).data.toList.length+1:=by simp
  have IHv:=Lib.hid (HIH.out _ hxm);obtain⟨HOKx,Hsn⟩:=hid2 hokx hsn;have hj:=F4 [Gb (f,key,.mk k' b' n' t' l' o'),⟨#[58]⟩] 2 h1 (by rw[hfl];omega) (by simp);rw[hfl]at hj;obtain⟨HJ,HQ,HV⟩:=hid3 hj hqc hqv;have h4c:A.cell? ⟨W.heap.size,0,none⟩=some (.pointer (some ⟨g,0,none⟩)):=(Lib.cell_of_heap h4 0).trans rfl;have H2:=Lib.hid h2;have hA:=h1.lt;have hAb:=(Array.getElem?_eq_some_iff.1 h4).1;have hl3:((acc++123::Dn (pre.map (fun y:Bool×(ByteArray×Val)=>y.2)) true)++((Gb (f,key,.mk k' b' n' t' l' o')).data.toList++ [58])).length+6*(Val.mk k' b' n' t' l' o').bulk<=20000000000:=by
   rw[List.length_append];omega
  have ent:=Kr;simp only[Val.kind];clear hj hsn hokx hxm ho hf htl hbk hx hfl hqc hqv
  gi_wp2_with (first|(refine⟨trivial, ?_⟩;gi_at_call 107;refine(CallsIn.inRound l (callsIn_wide.2 HJ.out)).mono ?_;rintro e A2 ⟨rfl,g1,g2,g3⟩;have g4:=g3.cells h4 (by omega) (by decide);have g5:A2.cell? ⟨W.heap.size,0,none⟩=some (.pointer (some ⟨g,0,none⟩)):=(Lib.cell_of_heap g4 0).trans rfl)|(refine⟨trivial, ?_⟩;gi_at_fn (Nv k');refine(CallsIn.inRound l (callsIn_wide.2 (IHv.out A2 B g q keeps _ cs k' b' n' t' l' o' rfl h5 (HT.out.keep (H2.out.trans g2) h5) (HV.out.below (H2.out.trans g2)) (g3.cells HQ.out (by omega) (by decide)) (by omega) g1 HOKx.out.2 hqb hl3))).mono ?_;rintro e A3 ⟨rfl,g6,g7,g8⟩))
  have hkk:E8 g A A3:=g3.trans g8;refine⟨?_, ?_, ?_,h2.trans (g2.trans g7),h3.trans hkk,hkk.cells h4 (by omega) (by decide),hkk.cells h6 (by omega) (by decide)⟩
  . exact(hkk _ _ hds (by simp;omega) (fun c fz e=>by cases e)).trans hds.symm
  . exact(hkk _ _ hrc (by simp;omega) (fun c fz e=>by cases e)).trans hrc.symm
  . rw[Hsn.out];simpa[List.append_assoc]using g6
 case done=>
  rintro A ⟨h1,h2,h3,h4,h6⟩ hds;rw[Wx]at h1;have htl:=Nr o (fun m _=>J5 m.2) HOK.out true;have hj:=F4 [⟨#[125]⟩] 1 h1 (by rw[List.length_append,List.length_cons];simp[Fd];omega) (by simp);have HJ:=Lib.hid hj;have h4c:A.cell? ⟨W.heap.size,0,none⟩=some (.pointer (some ⟨g,0,none⟩)):=(Lib.cell_of_heap h4 0).trans rfl;have hA:=h1.lt;have hAb:=(Array.getElem?_eq_some_iff.1 h4).1;have e:Fd [⟨#[125]⟩]= [125]:=by simp[Fd]
  clear hj htl
  gi_wp2_with (refine⟨trivial, ?_⟩;gi_at_call 107;refine(callsIn_wide.2 HJ.out).mono ?_;rintro e A2 ⟨rfl,g1,g2,g3⟩)
  have hd:=g3 _ _ hds (by simp;omega) (fun c fz e=>by cases e);refine⟨by simp,.inl ⟨_,_,rfl,run_takeDeferred hd, ?_⟩⟩;rw[e,List.append_assoc,List.cons_append]at g1;refine⟨_,results_none rfl _ _ _,rfl, ?_⟩;have hbA:=h2.trans g2;refine⟨g1.put hd rfl,hbA.grown (grownBy_putObj' A2 w2.heap.size _) (by have:=hbA.size;omega) (fun j e=>by cases e;omega),fun j v hj hg hv=> ?_⟩;have:=(Array.getElem?_eq_some_iff.1 hj).1;rw[World.putObj_heap_other (by omega)];exact g3 j v (h3 j v hj hg hv) hg hv
structure MKey {α:Type} [DecidableEq α] (P:Program) (kt:TypeId) (f:α->Value):Prop where
 under: ∃d,P.underlying kt=some d/\ ∀a b,Instr.sameNow d (f a) (f b)=some (decide (a=b))
 check: ∀e w a,(Instr.checkKey e 10000 kt (f a)).run P w=.ok () w
theorem To (a b:ByteArray):(a==b)=decide (a=b):=by
 obtain⟨a⟩:=a;obtain⟨b⟩:=b;have h:((⟨a⟩:ByteArray)==⟨b⟩)=(a==b):=rfl;rw[h];by_cases e:a=b<;>simp[e]
theorem Ry {P:Program} {kt:TypeId} (h:P.underlying kt=some .string):MKey P kt Value.string:=by
 refine⟨⟨_,h,fun a b=> ?_⟩,fun e w a=> ?_⟩
 . simp only[Instr.sameNow]
   congr 1
   exact To a b
 . have key: ∀n,(Instr.checkKey e (n+1) kt (.string a)).run P w=.ok () w:=fun n=>by simp[Instr.checkKey,run_underlying h]
   exact key 9999
theorem Aj1 {P:Program} {kt:TypeId} {q:IntKind} (h:P.underlying kt=some (.int q)):MKey P kt (Value.int q):=by
 refine⟨⟨_,h,fun a b=> ?_⟩,fun e w a=> ?_⟩
 . simp only[Instr.sameNow,if_true]
   congr 1
 . have key: ∀n,(Instr.checkKey e (n+1) kt (.int q a)).run P w=.ok () w:=fun n=>by simp[Instr.checkKey,run_underlying h]
   exact key 9999
section
variable {α:Type}
def Jl (f:α->Value):List (α×Value)->Nat->List MapEntry
 | [],_=> []
 |(k,v)::r,i=>{key:=f k,val:=v,born:=i}::Jl f r (i+1)
def Cw (f:α->Value) (w:World) (g:Nat) (kv:List (α×Value)):Prop:=w.heap[g]? =some (.map (Jl f kv 0).toArray kv.length)
def Cy [DecidableEq α] (a:α):List (α×Value)->Option Value
 | []=>none
 |(k,v)::r=>if a=k then some v else Cy a r
variable {f:α->Value} {P:Program} {kt et t:TypeId} {w w':World} {g:Nat} {kv:List (α×Value)}
theorem Pu: ∀(kv:List (α×Value)) (i:Nat) (k:α) (v:Value),Jl f (kv++ [(k,v)]) i=Jl f kv i++ [{key:=f k,val:=v,born:=i+kv.length}]
 | [],i,k,v=>by simp[Jl]
 |(a,b)::r,i,k,v=>by
  simp only[List.cons_append,Jl,Pu r,List.length_cons];rw[show i+1+r.length=i+(r.length+1)from by omega]
theorem Cw.lt (h:Cw f w g kv):g<w.heap.size:=by
 rcases Nat.lt_or_ge g w.heap.size with h1|h1
 . exact h1
 . unfold Cw at h;rw[Array.getElem?_eq_none h1]at h;cases h
theorem Cw.keep (h:Cw f w g kv) (hk:w'.heap[g]? =w.heap[g]?):Cw f w' g kv:=hk.trans h
theorem Cw.below {B:Nat} (h:Cw f w g kv) (hb:Below B w w') (hg:g<B):Cw f w' g kv:=(hb.block g hg).trans h
theorem Cw.alloc (h:Cw f w g kv) (o:Obj):Cw f (w.alloc o) g kv:=(Below.heap_alloc w o g h.lt).trans h
theorem Cw.new (w:World):Cw f (w.alloc (.map #[] 0)) w.heap.size []:=heap_alloc_new w _
theorem Cw.setCell (h:Cw f w g kv) {p:Addr} (hp:g≠p.block) (u:Value):Cw f (w.setCell p u) g kv:=(Below.heap_setCell w p u g hp).trans h
variable [DecidableEq α]
theorem Qr {d:TypeDesc} (hd: ∀a b,Instr.sameNow d (f a) (f b)=some (decide (a=b))) (a:α): ∀(kv:List (α×Value)) (i j:Nat),∃q,Instr.findNow d (f a) (Jl f kv i) j=some q/\q.map (·.2)=Cy a kv
 | [],_,_=>⟨none,rfl,rfl⟩
 |(k,v)::r,i,j=>by
  by_cases h:a=k
  . exact⟨some (j,v),by simp[Jl,Instr.findNow,hd,h],by simp[Cy,h]⟩
  . obtain⟨q,h1,h2⟩:=Qr hd a r (i+1) (j+1);exact⟨q,by simp[Jl,Instr.findNow,hd,h,h1],by rw[h2];simp[Cy,h]⟩
theorem Kx (K:MKey P kt f) (ht:P.underlying t=some (.map kt et)) (h:Cw f w g kv) {a:α} (hn:Cy a kv=none) (v:Value):
 ∃w',(Instr.mapUpdate t (.map (some g)) (f a) v).run P w=.ok () w'/\Cw f w' g (kv++ [(a,v)])/\w.grownBy w' (some g)/\w'.heap.size=w.heap.size:=by
 obtain⟨d,hd,hs⟩:=K.under;obtain⟨q,h1,h2⟩:=Qr hs a kv 0 0;rw[hn]at h2;have hq:q=none:=by cases q<;>simp_all
 subst hq;have hck:=K.check false w a;have hfk:(Instr.findKey kt (f a) (Jl f kv 0)).run P w=.ok none w:=by simp[Instr.findKey,Sem.run_bind,run_underlying hd,h1]
 have hlt:=h.lt;refine⟨{w with heap:=w.heap.setIfInBounds g (.map ((Jl f kv 0).toArray.push {key:=f a,val:=v,born:=kv.length}) (kv.length+1))}, ?_, ?_, ?_, ?_⟩
 . have hb:w.heap[g]? =some (.map (Jl f kv 0).toArray kv.length):=h;unfold Instr.mapUpdate;simp only[Sem.run_bind,run_underlying ht,Result.andThen,getObj,Sem.run,hb,hck,hfk,setObj]
 . unfold Cw;simp[hlt,Pu]
 . exact⟨rfl,rfl,rfl,by simp,fun k hk hne=>by simp only[Array.getElem?_setIfInBounds];rw[if_neg];rintro rfl;exact hne rfl⟩
 . simp
theorem Cd {ops:Array Oper} {rest:List Oper} {o:Oper} {a:Act} {Q:Exit->Act->World->Prop} (hg:o.guard=none) (m x u:Operand) (t:TypeId) (hop:o.op=Op.insert t m x u)
 (K:MKey P kt f) (ht:P.underlying t=some (.map kt et)) (hm:a.eval m=.map (some g)) (h:Cw f w g kv) {k:α} {v:Value} (hx:a.eval x=f k) (hv:a.eval u=v) (hn:Cy k kv=none)
 (hK: ∀w',Cw f w' g (kv++ [(k,v)])->w.grownBy w' (some g)->w'.heap.size=w.heap.size->wpList P ops Q rest (a.put o.dst undef) w'):wpList P ops Q (o::rest) a w:=by
 refine wpList_plain hg fun K' hK'=> ?_;obtain⟨w',hrun,r1,r2,r3⟩:=Kx K ht h hn v;unfold Oper.wp;simp[execOp,hop,hm,hx,hv,hrun,Result.andThen];exact hK' _ _ (hK w' r1 r2 r3)
theorem J3 (K:MKey P kt f) (ht:P.underlying t=some (.map kt et)) (h:Cw f w g kv) (a:α) {z:Value} (hz: ∀w,(zeroValue et).run P w=.ok z w) (c:Bool):
 (Instr.lookup t (.map (some g)) (f a) c).run P w=.ok (if c then .tuple #[(Cy a kv).getD z,.bool (Cy a kv).isSome]else(Cy a kv).getD z) w:=by
 obtain⟨d,hd,hs⟩:=K.under;obtain⟨q,h1,h2⟩:=Qr hs a kv 0 0;have hck:=fun e=>K.check e w a;have hfk:(Instr.findKey kt (f a) (Jl f kv 0)).run P w=.ok q w:=by simp[Instr.findKey,Sem.run_bind,run_underlying hd,h1]
 have hb:w.heap[g]? =some (.map (Jl f kv 0).toArray kv.length):=h;unfold Instr.lookup;simp only[Sem.run_bind,run_underlying ht,Result.andThen,getObj,Sem.run,hb]
 cases q with
 |none=>
  have:Cy a kv=none:=by cases hq:Cy a kv<;>simp_all
  rw[this]
  cases c<;>simp[hck,hfk,hz w,Result.andThen]
 |some p=>
  obtain⟨i,v⟩:=p;have:Cy a kv=some v:=by rw[<-h2];rfl
  rw[this]
  cases c<;>simp[hck,hfk]
end
end Go.Proofs.YtackmnbpfbaemaaGreatDoor
