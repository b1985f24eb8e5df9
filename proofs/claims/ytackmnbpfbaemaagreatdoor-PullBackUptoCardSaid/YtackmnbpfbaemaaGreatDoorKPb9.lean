/- Parts, joined: The writer of texts: join. Condition: at most 10^11 bytes. utf.Quote: the walk. Condition: a text shorter than 10^9. What writes a value's text: the functions that own hands back. Condition: a bulk of at most 10^9. What writes a value's text: the plain kinds. Condition: a bulk of at most 10^9. commonplaceref02.Deep: how deep a value is. Condition: a bulk of at most 10^8. -/
import Derived.Test.YtackmnbpfbaemaaGreatDoorProg
import Derived.Lib.ItoaLen
import Derived.Test.YtackmnbpfbaemaaGreatDoorKPb4
import Derived.Test.YtackmnbpfbaemaaGreatDoorKPb5
import Derived.Test.YtackmnbpfbaemaaGreatDoorKPb6
namespace Go.Proofs.YtackmnbpfbaemaaGreatDoor
open Go.RowKit
def Wr (W:World) (B g:Nat) (keeps:Bool) (acc:List UInt8):Prop:=
 ∃p v,Bld W B g 1 130 #[.bool keeps,p,v, .int .i64 (acc.length:Int)] (if keeps then acc else [])
theorem liesW:liesAt Tryz.prog Tryz.prog.depth 130 (4 / Tryz.prog.cellsOf 130) 1 128 1=true:=by kernel_rfl
theorem Bld.other {w:World} {B g o:Nat} {t:TypeId} {cs:Array Value} {bs:List UInt8} (h:Bld w B g o t cs bs) (i:Nat) (hi:i≠o) (hi2:i≠o+1) (u:Value):
 Bld (w.setCell ⟨g,i,none⟩ u) B g o t (cs.setIfInBounds i u) bs:=by
 obtain⟨hB,hb,ht,hs,h0,v,h1,hown⟩:=h
 refine⟨hB,setCell_heap hb _,ht,by simpa using hs, ?_,v,by rw[Array.getElem?_setIfInBounds,if_neg hi2];exact h1, ?_⟩
 · rw[Array.getElem?_setIfInBounds,if_neg hi];exact h0
 · exact hown.kept (row:=some g) ⟨rfl,rfl,rfl,by simp[World.setCell],fun k _ hk=>Below.heap_setCell _ _ _ _ (fun e=>hk (by simp[e]))⟩ (Or.inr (Lib.ownBlock_ne hown hb ht))
theorem Wr.below {A W:World} {B g:Nat} {k:Bool} {acc:List UInt8} (h:Wr A B g k acc) (hb:Below A.heap.size A W):Wr W B g k acc:=by
 obtain⟨p,v,h⟩:=h
 exact⟨p,v,h.keep (below_grown hb) (fun k e=>by cases e)⟩
theorem Wr.put {A:World} {B g k:Nat} {b:Bool} {acc:List UInt8} {o o':Obj} (h:Wr A B g b acc) (ho:A.heap[k]? =some o) (hc:o.isCells=false):Wr (A.putObj k o') B g b acc:=by
 obtain⟨p,v,h⟩:=h
 exact⟨p,v,h.keep (grownBy_putObj' A k o') (fun j e=>by cases e;exact⟨o,ho,hc⟩)⟩
theorem Wr.lt {A:World} {B g:Nat} {k:Bool} {acc:List UInt8} (h:Wr A B g k acc):g<A.heap.size:=by
 obtain⟨p,v,h⟩:=h
 exact h.lt
theorem Wr.base {A:World} {B g:Nat} {k:Bool} {acc:List UInt8} (h:Wr A B g k acc):B≤g:=by
 obtain⟨p,v,h⟩:=h
 exact h.1
def flat (ss:List ByteArray):List UInt8:=ss.flatMap fun s=>s.data.toList
theorem flat_snoc (ss:List ByteArray) (s:ByteArray):flat (ss++ [s])=flat ss++s.data.toList:=by simp[flat]
set_option maxHeartbeats 2000000 in
set_option maxRecDepth 100000 in
theorem join_calls (B g:Nat) (keeps:Bool) (acc:List UInt8) (ss:List ByteArray) (b c:Nat) (w:World) (h:Wr w B g keeps acc) (hp:w.heap[b]? =some (.cells (ss.map Value.string).toArray 9 (0,0))) (hbg:b≠g)
 (hlen:acc.length+(flat ss).length≤50000000000) (hn:ss.length≤1000):
 Calls Tryz.prog 107 #[.pointer (some ⟨g,0,none⟩), .slice (some ⟨b,0,none⟩) ss.length c] w fun e w'=>e= .returned (.tuple #[])∧Wr w' B g keeps (acc++flat ss)∧Below B w w'∧Kept g w w':=by
 go_enter Tryz.func107,Tryz.ntmps107
 go_wp2
 go_loopw [8] (fun i wr=> ∃k:Nat,k≤ss.length∧i= .int .i64 k∧Wr wr B g keeps (acc++flat (ss.take k))∧Below B w wr∧Kept g w wr) (fun i _=>ss.length - (intOf i).toNat)
 case atStart=>exact⟨0,Nat.zero_le _,rfl,by simpa[flat]using h,Below.refl _ _,Lib.OthersKept.refl _ _ _⟩
 case round=>
  obtain⟨k,hk,rfl,hw,hb,hkp⟩:=hrel
  by_cases hlt:k<ss.length
  · obtain⟨s,hs⟩: ∃s,ss[k]? =some s:=⟨_,List.getElem?_eq_getElem hlt⟩
    have htk:ss.take (k+1)=ss.take k++ [s]:=by rw[List.take_add_one,hs];rfl
    have hfl:(flat ss).length=(flat (ss.take k)).length+s.size+(flat (ss.drop (k+1))).length:=by
     have:ss=ss.take k++ [s]++ss.drop (k+1):=by rw[←htk,List.take_append_drop]
     have h2:=congrArg (fun l=>(flat l).length) this
     simp only[flat,List.flatMap_append,List.length_append,List.flatMap_cons,List.flatMap_nil,List.append_nil]at h2 ⊢
     rw[h2,Lib.size_eq]
    have hpr:=hkp _ _ hp (by simpa using hbg) (fun c fz e=>by cases e)
    have cp:wr.cell? ⟨b,k,none⟩=some (.string s):=by rw[Lib.cell_of_heap hpr];simp[hs]
    obtain⟨p,v,hbl⟩:=hw
    have hbl':=hbl
    obtain⟨hB,hbk,ht,_,_,_⟩:=hbl'
    have g0:wr.cell? ⟨g,0,none⟩=some (.bool keeps):=by rw[Lib.cell_of_heap hbk];rfl
    have g3:wr.cell? ⟨g,3,none⟩=some (.int .i64 ((acc++flat (ss.take k)).length:Int)):=by rw[Lib.cell_of_heap hbk];rfl
    have f3:wr.frozen? ⟨g,3,none⟩=false:=Lib.frozen_of_heap hbk 3
    have hln:(acc++flat (ss.take k)).length≤50000000000:=by rw[List.length_append];omega
    have hln2:(acc++flat (ss.take k)).length+s.size≤50000000000:=by rw[List.length_append];omega
    have hz:=hbl.lt
    have hfin:acc++flat (ss.take (k+1))=(acc++flat (ss.take k))++s.data.toList:=by rw[htk,flat_snoc,List.append_assoc]
    generalize acc++flat (ss.take k)=L at*
    have Hfin:=Lib.hid hfin
    have he:((L.length:Int)+(s.size:Int))=((L++s.data.toList).length:Int):=by rw[List.length_append,←Lib.size_eq];omega
    have He:=Lib.hid he
    clear hfin he hbk htk hfl
    cases keeps
    · have hbs:Bld (wr.setCell ⟨g,3,none⟩ (.int .i64 ((L.length:Int)+(s.size:Int)))) B g 1 130 #[.bool false,p,v, .int .i64 ((L.length:Int)+(s.size:Int))] []:=hbl.other 3 (by omega) (by omega) _
      go_wp2
      go_roundw
      case rel=>
       refine⟨k+1,by omega,by go_num, ?_,hb.setCell (p:=⟨g,3,none⟩) hB _,hkp.setCell ⟨g,3,none⟩ rfl _⟩
       rw[Hfin.out]
       rw[He.out]at hbs ⊢
       exact⟨p,v,hbs⟩
      case measure=>simp[intOf];omega
    · have hbs:Bld (wr.setCell ⟨g,3,none⟩ (.int .i64 ((L.length:Int)+(s.size:Int)))) B g 1 130 #[.bool true,p,v, .int .i64 ((L.length:Int)+(s.size:Int))] L:=hbl.other 3 (by omega) (by omega) _
      go_wp2_with (go_at_call 160;refine(WriteString_calls B g 1 _ _ L s _ hbs liesW (by omega) (by simp[World.setCell];omega)).mono ?_;rintro e w2 ⟨rfl,⟨v',hb2⟩,hbw2,hk2⟩)
      go_roundw
      case rel=>
       refine⟨k+1,by omega,by go_num, ?_,(hb.setCell (p:=⟨g,3,none⟩) hB _).trans hbw2,(hkp.setCell ⟨g,3,none⟩ rfl _).trans hk2⟩
       rw[Hfin.out]
       rw[He.out]at hb2
       exact⟨_,v',hb2⟩
      case measure=>simp[intOf];omega
  · obtain rfl:k=ss.length:=by omega
    rw[List.take_length]at hw
    have Hw:=Lib.hid hw
    clear hw
    go_wp2
    go_end0
    exact⟨rfl,Hw.out,hb,hkp⟩
end Go.Proofs.YtackmnbpfbaemaaGreatDoor

namespace Go.Proofs.YtackmnbpfbaemaaGreatDoor
open Go.RowKit
attribute [local go_sem] Oper.semAt_some
def QI (w:World) (g lb d:Nat) (pre:List (Nat×Nat)) (W:World):Prop:=
 Below w.heap.size w W∧BB W w.heap.size g (34::quoteRunes pre)∧ ∃m,Letters W lb d m
set_option maxRecDepth 100000 in
set_option maxHeartbeats 2000000 in
theorem Quote_valid (s:ByteArray) (w:World) (hT:Tabs w) (hs:s.size≤1000000000) (hv:validB s=true):
 Calls Tryz.prog 163 #[.string s] w fun e w'=>e= .returned (.tuple #[.string ⟨(34::quoteRunes (runes s)++ [34]).toArray⟩, .int .i64 0])∧Below w.heap.size w w':=by
 refine(callsIn_wide (n:=12)).1 ?_
 refine callsIn_of_wp_marks Tryz.func163 rfl trivial ?_ rfl
 simp only[Tryz.ntmps163,List.size_toArray,List.length_cons,List.length_nil,Nat.reduceAdd,Nat.reduceSub,Array.replicate_succ,Array.replicate_zero,List.push_toArray,List.append_toArray,List.nil_append,List.cons_append]
 gi_wp2_with (refine⟨trivial, ?_⟩;gi_at_call 159;refine(callsIn_wide.2 (utfValid_calls2 hv _ (by omega) hT)).mono ?_;rintro e w1 ⟨rfl,hb1⟩)
 have hz1:=hb1.size
 have hB1:BB ((w1.alloc (.cells #[.map none] 253)).alloc (.cells #[.pointer none, .slice none 0 0] 128)) w.heap.size (w1.heap.size+1) []:=
  ⟨_,_,by omega,by rw[←World.size_alloc w1 (.cells #[.map none] 253)];exact heap_alloc_new _ _,by decide,by simp, .inl rfl, .slice none 0 0,rfl,World.ownsRow_nil _ _ _ _⟩
 have hL1:((w1.alloc (.cells #[.map none] 253)).alloc (.cells #[.pointer none, .slice none 0 0] 128)).heap[w1.heap.size]? =some (.cells #[.map none] 253 (0,0)):=
  (Below.heap_alloc _ _ _ (by simp)).trans (heap_alloc_new _ _)
 have hbx:Below w.heap.size w ((w1.alloc (.cells #[.map none] 253)).alloc (.cells #[.pointer none, .slice none 0 0] 128)):=(hb1.alloc hz1 _).alloc (by simp;omega) _
 gi_wp2_with (first|(refine⟨trivial, ?_⟩;gi_at_call 193;refine(callsIn_wide.2 (bb_WriteByte 34 (by omega) (by omega) hB1 (by simp))).mono ?_;rintro e w2 ⟨rfl,hB2,hb2,hk2⟩)|(refine⟨trivial, ?_⟩;gi_at_call 194;refine(callsIn_wide.2 (Runes_calls _ _)).mono ?_;rintro e w3 ⟨rfl,rfl⟩))
 have hz2:=hb2.size
 simp only[World.size_alloc]at hz2
 have hL2:w2.heap[w1.heap.size]? =some (.cells #[.map none] 253 (0,0)):=hk2 _ _ hL1 (by simp) (fun c fz e=>by cases e)
 have hbw2:Below w.heap.size w w2:=hbx.trans hb2
 clear hB1 hL1 hb1 hk2 hb2 hbx
 have hnew:=heap_alloc_new w2 (.cells #[.string s] 9)
 have hT3:Tabs (w2.alloc (.cells #[.string s] 9)):=hT.below (hbw2.alloc (by omega) _)
 have hyld:=runes_yields s w2.heap.size hs
 have hB3:BB (w2.alloc (.cells #[.string s] 9)) w.heap.size (w1.heap.size+1) (34::quoteRunes []):=hB2.below ((Below.refl _ _).alloc (Nat.le_refl _) _)
 have hL3:=(Below.heap_alloc w2 (.cells #[.string s] 9) w1.heap.size (by omega)).trans hL2
 have hbw3:Below w.heap.size w (w2.alloc (.cells #[.string s] 9)):=hbw2.alloc (by omega) _
 have hz3:w2.heap.size+1=(w2.alloc (.cells #[.string s] 9)).heap.size:=by simp
 generalize w2.alloc (.cells #[.string s] 9)=w3 at*
 refine wp_range_all (n:=10) (gf:=218) (lb:= #[.pointer (some ⟨w2.heap.size,0,none⟩)]) rfl (enters_of Tryz.func218 (by kernel_rfl) rfl) hyld (fun _=>rfl)
  (fun pre W=>QI w (w1.heap.size+1) w1.heap.size w3.heap.size pre W∧W.heap[w2.heap.size]? =some (.cells #[.string s] 9 (0,0))) ?hIn ?hIp ?hIb ?h0 ?a1 ?assign ?body ?done
 case assign=>
  intro l x W K hK
  gi_wp2
  exact hK
 case h0=>exact⟨⟨hbw3,hB3,none,hL3,fun _ h=>by cases h⟩,hnew⟩
 case hIb=>
  rintro pre A ⟨⟨h1,h2,h3⟩,h4⟩
  exact⟨(Lib.cell_of_heap h4 0).trans rfl,hT.below h1⟩
 case hIn=>
  rintro pre A B ⟨⟨h1,h2,m,h3,h5⟩,h4⟩ hb
  refine⟨⟨h1.trans (hb.mono h1.size),h2.below hb,m,(hb.block _ (Array.getElem?_eq_some_iff.1 h3).1).trans h3,fun mb e=>⟨(h5 mb e).1,(hb.block _ (Array.getElem?_eq_some_iff.1 (h5 mb e).2).1).trans (h5 mb e).2⟩⟩,(hb.block _ (Array.getElem?_eq_some_iff.1 h4).1).trans h4⟩
 case hIp=>
  rintro pre A k o o' ⟨⟨h1,h2,m,h3,h5⟩,h4⟩ ho hc hk
  have hkw:w.heap.size≤k:=by omega
  have hk1:k<A.heap.size:=(Array.getElem?_eq_some_iff.1 ho).1
  refine⟨⟨h1.grown (grownBy_putObj' A k o') (by omega) (fun j e=>by cases e;exact hkw),h2.put ho hc,m, ?_,fun mb e=>⟨(h5 mb e).1, ?_⟩⟩, ?_⟩
  · rw[World.putObj_heap_other (by omega)];exact h3
  · have:=(h5 mb e).1
    rw[World.putObj_heap_other (by omega)];exact(h5 mb e).2
  · rw[World.putObj_heap_other (by omega)];exact h4
 case body=>
  rintro l pre x rest W hx ⟨⟨h1,h2,m,h3,h5⟩,h4⟩ ⟨ds,hds⟩ ⟨rc,hrc⟩
  have hlen:(quoteRunes pre).length≤6000000000:=by
   have e1:=quoteRunes_len pre
   have e2:=congrArg List.length hx
   have e3:=runesFrom_len s.size s.data.toList 0
   simp only[List.length_append,List.length_cons]at e2
   unfold runes at e2
   omega
  have hr:x.2≤1114111:=runesFrom_le s.size s.data.toList 0 x (by show x ∈ runes s;rw[hx];simp)
  have hsn:quoteRunes (pre++ [x])=quoteRunes pre++quoteRune x.2:=by simp[quoteRunes]
  obtain⟨p,r⟩:=x
  simp only at hr hsn
  have hz:=h1.size
  have hDm:w3.heap.size+1<W.heap.size:=(Array.getElem?_eq_some_iff.1 hrc).1
  have hdt:w1.heap.size+1<w3.heap.size:=by omega
  have hsb:w2.heap.size<w3.heap.size:=by omega
  have hsa:w1.heap.size+1<w2.heap.size:=by omega
  have fin: ∀(a:Act) (X:World) (bs:List UInt8),BB X w.heap.size (w1.heap.size+1) bs→bs=34::quoteRunes (pre++ [(p,r)])→Below w.heap.size w X→(∃m,Letters X w1.heap.size w3.heap.size m)→
   X.heap[w3.heap.size]? =some (.deferred ds)→X.heap[w3.heap.size+1]? =some (.loop rc)→X.heap[w2.heap.size]? =some (.cells #[.string s] 9 (0,0))→
   goesOn (fun X=>QI w (w1.heap.size+1) w1.heap.size w3.heap.size (pre++ [(p,r)]) X∧X.heap[w2.heap.size]? =some (.cells #[.string s] 9 (0,0))) w3.heap.size W .normal a X:=by
   intro a X bs hb e hbw hl hd hr2 hbox
   subst e
   exact⟨hd.trans hds.symm,hr2.trans hrc.symm,⟨hbw,hb,hl⟩,hbox⟩
  have Fin:=Lib.hid fin
  clear fin
  by_cases hst:32≤r∧r≠34∧r≠92
  · have hq:quoteRune r=Lib.encodeRune r:=by unfold quoteRune;rw[if_pos hst]
    have hB:decide (32≤(r:Int)∧(r:Int)≠34∧(r:Int)≠92)=true:=by simp;omega
    have Hq:Hid ((34::quoteRunes pre)++Lib.encodeRune r=34::quoteRunes (pre++ [(p,r)])):=by
     show _=_
     rw[hsn,hq];rfl
    clear hsn hq hst hx
    gi_wp2_with (first|(refine⟨trivial, ?_⟩;gi_at_call 195;refine(CallsIn.inRound l (callsIn_wide.2 (standsFor_calls2 hB _))).mono ?_;rintro e wx ⟨rfl,rfl⟩)|(refine⟨trivial, ?_⟩;gi_at_call 196;refine(CallsIn.inRound l (callsIn_wide.2 (bb_WriteRune (r:Int) (by omega) (by omega) h2 (by simp;omega)))).mono ?_;rintro e w4 ⟨⟨kk,rfl⟩,hB4,hb4,hk4⟩))
    exact Fin.out _ _ _ hB4 Hq.out (h1.trans hb4) ⟨m,hk4 _ _ h3 (by simp) (fun c fz e=>by cases e),fun mb e=>⟨(h5 mb e).1,hk4 _ _ (h5 mb e).2 (by have:=(h5 mb e).1;simp;omega) (fun c fz e=>by cases e)⟩⟩
     (hk4 _ _ hds (by simp;omega) (fun c fz e=>by cases e)) (hk4 _ _ hrc (by simp;omega) (fun c fz e=>by cases e)) (hk4 _ _ h4 (by simp;omega) (fun c fz e=>by cases e))
  · have hB:decide (32≤(r:Int)∧(r:Int)≠34∧(r:Int)≠92)=false:=by simp;omega
    have hnil:=fun(wx:World) (m0:Option Nat)=>run_eql_map_nil (P:=Tryz.prog) wx 253 _ _ m0 Tryz.underlying253
    rcases m with _|mb
    ·
     obtain⟨X,hX⟩: ∃X,(W.setCell ⟨w1.heap.size,0,none⟩ (.map (some W.heap.size))).alloc (.map (ents letterTab 0).toArray letterTab.length)=X:=⟨_,rfl⟩
     have hsz:(W.setCell ⟨w1.heap.size,0,none⟩ (.map (some W.heap.size))).heap.size=W.heap.size:=by simp[World.setCell]
     have hXk: ∀k,k≠w1.heap.size→k<W.heap.size→X.heap[k]? =W.heap[k]? :=fun k hk hk'=>by
      rw[←hX,Below.heap_alloc _ _ _ (by omega),Below.heap_setCell _ _ _ _ hk]
     have hXB:BB X w.heap.size (w1.heap.size+1) (34::quoteRunes pre):=by
      rw[←hX]
      exact(h2.store h3 (by decide) (by omega) 0 _).below ((Below.refl _ _).alloc (Nat.le_refl _) _)
     have hXw:Below w.heap.size w X:=by
      rw[←hX]
      exact(h1.setCell (p:=⟨w1.heap.size,0,none⟩) hz1 _).alloc (by omega) _
     have hXl:X.heap[w1.heap.size]? =some (.cells #[.map (some W.heap.size)] 253 (0,0)):=by
      rw[←hX,Below.heap_alloc _ _ _ (by omega)]
      exact setCell_heap h3 _
     have hXm:X.heap[W.heap.size]? =some (.map (ents letterTab 0).toArray letterTab.length):=by
      rw[←hX]
      have:=heap_alloc_new (W.setCell ⟨w1.heap.size,0,none⟩ (.map (some W.heap.size))) (.map (ents letterTab 0).toArray letterTab.length)
      rwa [hsz]at this
     have hXd:=(hXk _ (by omega) (by omega)).trans hds
     have hXr:=(hXk _ (by omega) (by omega)).trans hrc
     have hX4:=(hXk _ (by omega) (by omega)).trans h4
     have c3:W.cell? ⟨w1.heap.size,0,none⟩=some (.map none):=(Lib.cell_of_heap h3 0).trans rfl
     have f3:W.frozen? ⟨w1.heap.size,0,none⟩=false:=Lib.frozen_of_heap h3 0
     have hlb:w1.heap.size<W.heap.size:=by omega
     have hlk:=run_look X W.heap.size letterTab r hXm
     have hmb:w3.heap.size+1<W.heap.size:=hDm
     subst hX
     cases hf:findKV (r:Int) letterTab with
     |some c=>
      rw[hf]at hlk
      simp only[Option.getD_some,Option.isSome_some]at hlk
      have hc:=letters_range hf
      have hc0:=hc.1
      have hc1:=hc.2
      have hq:quoteRune r= [92,UInt8.ofNat c.toNat]:=by unfold quoteRune;rw[if_neg hst,hf]
      have Hq:Hid (((34::quoteRunes pre)++ [UInt8.ofNat (Int.toNat 92)])++Lib.encodeRune c=34::quoteRunes (pre++ [(p,r)])):=by
       show _=_
       rw[hsn,hq,encode_small (by omega) hc1];simp
      clear hsn hq hst hx hf hc h5 h2
      gi_wp2_with (first|(refine⟨trivial, ?_⟩;gi_at_call 195;refine(CallsIn.inRound l (callsIn_wide.2 (standsFor_calls2 hB _))).mono ?_;rintro e wx ⟨rfl,rfl⟩)|(refine⟨trivial, ?_⟩;gi_at_call 197;refine(CallsIn.inRound l (callsIn_wide.2 (letters_calls2 _))).mono ?_;rintro e wx ⟨rfl,rfl⟩)|(refine⟨trivial, ?_⟩;gi_at_call 193;refine(CallsIn.inRound l (callsIn_wide.2 (bb_WriteByte 92 (by omega) (by omega) hXB (by simp;omega)))).mono ?_;rintro e w4 ⟨rfl,hB4,hb4,hk4⟩)|(refine⟨trivial, ?_⟩;gi_at_call 196;refine(CallsIn.inRound l (callsIn_wide.2 (bb_WriteRune c (by omega) (by omega) hB4 (by simp;omega)))).mono ?_;rintro e w5 ⟨⟨kk,rfl⟩,hB5,hb5,hk5⟩))
      have hkk:=hk4.trans hk5
      exact Fin.out _ _ _ hB5 Hq.out ((hXw.trans hb4).trans hb5) ⟨some W.heap.size,hkk _ _ hXl (by simp) (fun c fz e=>by cases e),fun m' e=>by cases e;exact⟨hmb,hkk _ _ hXm (by simp;omega) (fun c fz e=>by cases e)⟩⟩
       (hkk _ _ hXd (by simp;omega) (fun c fz e=>by cases e)) (hkk _ _ hXr (by simp;omega) (fun c fz e=>by cases e)) (hkk _ _ hX4 (by simp;omega) (fun c fz e=>by cases e))
     |none=>
      rw[hf]at hlk
      simp only[Option.getD_none,Option.isSome_none]at hlk
      have hr32:=letters_none hf hst
      have hq:quoteRune r= [92,117,48,48,hexd (r / 16),hexd (r % 16)]:=by unfold quoteRune;rw[if_neg hst,hf]
      gi_wp2_with (first|(refine⟨trivial, ?_⟩;gi_at_call 195;refine(CallsIn.inRound l (callsIn_wide.2 (standsFor_calls2 hB _))).mono ?_;rintro e wx ⟨rfl,rfl⟩)|(refine⟨trivial, ?_⟩;gi_at_call 197;refine(CallsIn.inRound l (callsIn_wide.2 (letters_calls2 _))).mono ?_;rintro e wx ⟨rfl,rfl⟩)|(refine⟨trivial, ?_⟩;gi_at_call 160;refine(CallsIn.inRound l (callsIn_wide.2 (bb_WriteString ⟨#[92,117,48,48]⟩ hXB (by simp[ByteArray.size];omega)))).mono ?_;rintro e w4 ⟨rfl,hB4,hb4,hk4⟩))
      refine⟨trivial, ?_⟩
      refine(CallsIn.inRound l (callsIn_wide.2 (bb_WriteB _ hB4 (by simp;omega)))).mono ?_
      rintro e w5 ⟨rfl,hB5,hb5,hk5⟩
      rw[hexd_at ⟨r / 16,by omega⟩]at hB5
      have hand:=and15 ⟨r,hr32⟩
      dsimp only at hand
      have hm0:0≤(r:Int) % 16:=by omega
      have hm1:(r:Int) % 16<16:=by omega
      have hm2:r % 16<16:=by omega
      gi_wp2_with fail
      refine⟨trivial, ?_⟩
      refine(CallsIn.inRound l (callsIn_wide.2 (bb_WriteB _ hB5 (by simp;omega)))).mono ?_
      rintro e w6 ⟨rfl,hB6,hb6,hk6⟩
      rw[hexd_at ⟨r % 16,by omega⟩]at hB6
      gi_wp2_with fail
      have hkk:=(hk4.trans hk5).trans hk6
      have Hq:(((34::quoteRunes pre)++ [92,117,48,48])++ [hexd (r / 16)])++ [hexd (r % 16)]=34::quoteRunes (pre++ [(p,r)]):=by
       rw[hsn,hq];simp
      exact Fin.out _ _ _ hB6 Hq (((hXw.trans hb4).trans hb5).trans hb6) ⟨some W.heap.size,hkk _ _ hXl (by simp) (fun c fz e=>by cases e),fun m' e=>by cases e;exact⟨hmb,hkk _ _ hXm (by simp;omega) (fun c fz e=>by cases e)⟩⟩
       (hkk _ _ hXd (by simp;omega) (fun c fz e=>by cases e)) (hkk _ _ hXr (by simp;omega) (fun c fz e=>by cases e)) (hkk _ _ hX4 (by simp;omega) (fun c fz e=>by cases e))
    ·
     have hXm:=(h5 mb rfl).2
     have hmb:=(h5 mb rfl).1
     have c3:W.cell? ⟨w1.heap.size,0,none⟩=some (.map (some mb)):=(Lib.cell_of_heap h3 0).trans rfl
     have hlk:=run_look W mb letterTab r hXm
     have hXB:=h2
     have hXw:=h1
     have hXl:=h3
     have hXd:=hds
     have hXr:=hrc
     have hX4:=h4
     cases hf:findKV (r:Int) letterTab with
     |some c=>
      rw[hf]at hlk
      simp only[Option.getD_some,Option.isSome_some]at hlk
      have hc:=letters_range hf
      have hc0:=hc.1
      have hc1:=hc.2
      have hq:quoteRune r= [92,UInt8.ofNat c.toNat]:=by unfold quoteRune;rw[if_neg hst,hf]
      have Hq:Hid (((34::quoteRunes pre)++ [UInt8.ofNat (Int.toNat 92)])++Lib.encodeRune c=34::quoteRunes (pre++ [(p,r)])):=by
       show _=_
       rw[hsn,hq,encode_small (by omega) hc1];simp
      clear hsn hq hst hx hf hc h5 h2
      gi_wp2_with (first|(refine⟨trivial, ?_⟩;gi_at_call 195;refine(CallsIn.inRound l (callsIn_wide.2 (standsFor_calls2 hB _))).mono ?_;rintro e wx ⟨rfl,rfl⟩)|(refine⟨trivial, ?_⟩;gi_at_call 193;refine(CallsIn.inRound l (callsIn_wide.2 (bb_WriteByte 92 (by omega) (by omega) hXB (by simp;omega)))).mono ?_;rintro e w4 ⟨rfl,hB4,hb4,hk4⟩)|(refine⟨trivial, ?_⟩;gi_at_call 196;refine(CallsIn.inRound l (callsIn_wide.2 (bb_WriteRune c (by omega) (by omega) hB4 (by simp;omega)))).mono ?_;rintro e w5 ⟨⟨kk,rfl⟩,hB5,hb5,hk5⟩))
      have hkk:=hk4.trans hk5
      exact Fin.out _ _ _ hB5 Hq.out ((hXw.trans hb4).trans hb5) ⟨some mb,hkk _ _ hXl (by simp) (fun c fz e=>by cases e),fun m' e=>by cases e;exact⟨hmb,hkk _ _ hXm (by simp;omega) (fun c fz e=>by cases e)⟩⟩
       (hkk _ _ hXd (by simp;omega) (fun c fz e=>by cases e)) (hkk _ _ hXr (by simp;omega) (fun c fz e=>by cases e)) (hkk _ _ hX4 (by simp;omega) (fun c fz e=>by cases e))
     |none=>
      rw[hf]at hlk
      simp only[Option.getD_none,Option.isSome_none]at hlk
      have hr32:=letters_none hf hst
      have hq:quoteRune r= [92,117,48,48,hexd (r / 16),hexd (r % 16)]:=by unfold quoteRune;rw[if_neg hst,hf]
      gi_wp2_with (first|(refine⟨trivial, ?_⟩;gi_at_call 195;refine(CallsIn.inRound l (callsIn_wide.2 (standsFor_calls2 hB _))).mono ?_;rintro e wx ⟨rfl,rfl⟩)|(refine⟨trivial, ?_⟩;gi_at_call 160;refine(CallsIn.inRound l (callsIn_wide.2 (bb_WriteString ⟨#[92,117,48,48]⟩ hXB (by simp[ByteArray.size];omega)))).mono ?_;rintro e w4 ⟨rfl,hB4,hb4,hk4⟩))
      refine⟨trivial, ?_⟩
      refine(CallsIn.inRound l (callsIn_wide.2 (bb_WriteB _ hB4 (by simp;omega)))).mono ?_
      rintro e w5 ⟨rfl,hB5,hb5,hk5⟩
      rw[hexd_at ⟨r / 16,by omega⟩]at hB5
      have hand:=and15 ⟨r,hr32⟩
      dsimp only at hand
      have hm0:0≤(r:Int) % 16:=by omega
      have hm1:(r:Int) % 16<16:=by omega
      have hm2:r % 16<16:=by omega
      gi_wp2_with fail
      refine⟨trivial, ?_⟩
      refine(CallsIn.inRound l (callsIn_wide.2 (bb_WriteB _ hB5 (by simp;omega)))).mono ?_
      rintro e w6 ⟨rfl,hB6,hb6,hk6⟩
      rw[hexd_at ⟨r % 16,by omega⟩]at hB6
      gi_wp2_with fail
      have hkk:=(hk4.trans hk5).trans hk6
      have Hq:(((34::quoteRunes pre)++ [92,117,48,48])++ [hexd (r / 16)])++ [hexd (r % 16)]=34::quoteRunes (pre++ [(p,r)]):=by
       rw[hsn,hq];simp
      exact Fin.out _ _ _ hB6 Hq (((hXw.trans hb4).trans hb5).trans hb6) ⟨some mb,hkk _ _ hXl (by simp) (fun c fz e=>by cases e),fun m' e=>by cases e;exact⟨hmb,hkk _ _ hXm (by simp;omega) (fun c fz e=>by cases e)⟩⟩
       (hkk _ _ hXd (by simp;omega) (fun c fz e=>by cases e)) (hkk _ _ hXr (by simp;omega) (fun c fz e=>by cases e)) (hkk _ _ hX4 (by simp;omega) (fun c fz e=>by cases e))
 case done=>
  rintro W ⟨⟨h1,h2,m,h3,h5⟩,h4⟩ hds
  have hdt:w1.heap.size+1<w3.heap.size:=by omega
  have hlen:(quoteRunes (runes s)).length≤6000000000:=by
   have e1:=quoteRunes_len (runes s)
   have e3:=runesFrom_len s.size s.data.toList 0
   unfold runes at e1 ⊢
   omega
  gi_wp2_with (first|(refine⟨trivial, ?_⟩;gi_at_call 193;refine(callsIn_wide.2 (bb_WriteByte 34 (by omega) (by omega) h2 (by simp;omega))).mono ?_;rintro e w4 ⟨rfl,hB4,hb4,hk4⟩)|(refine⟨trivial, ?_⟩;gi_at_call 75;refine(callsIn_wide.2 (bb_String hB4 (by simp))).mono ?_;rintro e w5 ⟨rfl,hb5,hk5⟩))
  have hd4:=hk4 _ _ hds (by simp;omega) (fun c fz e=>by cases e)
  have hd5:=hk5 _ _ hd4 (by simp;omega) (fun c fz e=>by cases e)
  refine⟨by simp, .inl ⟨_,_,rfl,run_takeDeferred hd5, ?_⟩⟩
  have hbw5:Below w.heap.size w w5:=(h1.trans hb4).trans hb5
  refine⟨_,results_tmp2 rfl _ _ _,rfl,hbw5.grown (grownBy_putObj' w5 _ _) hbw5.size (fun k e=>by cases e;omega)⟩
end Go.Proofs.YtackmnbpfbaemaaGreatDoor

namespace Go.Proofs.YtackmnbpfbaemaaGreatDoor
open Go.RowKit
def quoteB (s:ByteArray):List UInt8:=34::quoteRunes (runes s)++ [34]
mutual
def textV:Val→List UInt8
 | .mk k b n t l o=>
   if k=2 then Lib.formatBool b else if k=3 then Lib.itoa n else if k=4 then quoteB t
   else if k=5 then 91::(textL l true++ [93])else if k=6 then 123::(textO o true++ [125])else [110,117,108,108]
def textL:List Val→Bool→List UInt8
 | [],_=> []
 |v::r,f=>(if f then []else [44])++(textV v++textL r false)
def textO:List (ByteArray×Val)→Bool→List UInt8
 | [],_=> []
 |p::r,f=>(if f then []else [44])++(textP p++textO r false)
def textP:ByteArray×Val→List UInt8
 |(key,v)=>quoteB key++(58::textV v)
end
mutual
def okV:Val→Prop
 | .mk _ _ n t l o=>validB t=true∧(-9223372036854775808≤n∧n≤9223372036854775807)∧okL l∧okO o
def okL:List Val→Prop
 | []=>True
 |v::r=>okV v∧okL r
def okO:List (ByteArray×Val)→Prop
 | []=>True
 |p::r=>okP p∧okO r
def okP:ByteArray×Val→Prop
 |(key,v)=>validB key=true∧okV v
end
def ownF (k:Int):Nat:=
 if k=2 then 106 else if k=3 then 109 else if k=4 then 111 else if k=5 then 113 else if k=6 then 115 else 117
def ownCaps (k:Int) (p:Nat):Array Value:=
 if k=2∨k=3∨k=4∨k=5∨k=6 then #[.pointer (some ⟨p,0,none⟩)]else #[]
theorem enters_ownF (k:Int) (args:Array Value) (w:World):(callFunc (ownF k) args).run Tryz.prog w= .ok (.enter (ownF k) args) w:=by
 unfold ownF
 split
 · exact enters_of Tryz.func106 (by kernel_rfl) rfl args w
 split
 · exact enters_of Tryz.func109 (by kernel_rfl) rfl args w
 split
 · exact enters_of Tryz.func111 (by kernel_rfl) rfl args w
 split
 · exact enters_of Tryz.func113 (by kernel_rfl) rfl args w
 split
 · exact enters_of Tryz.func115 (by kernel_rfl) rfl args w
 · exact enters_of Tryz.func117 (by kernel_rfl) rfl args w
set_option maxHeartbeats 1000000 in
theorem own_calls (k:Int) (b:Bool) (n:Int) (t:ByteArray) (la oa:Option Addr) (ln lc on oc:Nat) (w:World):
 Calls Tryz.prog 74 #[.agg #[.int .i64 k, .bool b, .int .i64 n, .string t, .slice la ln lc, .slice oa on oc]] w fun e w'=>
  e= .returned (.func (.func (ownF k)) #[] (ownCaps k w.heap.size))∧w.alloc (.cells #[.int .i64 k, .bool b, .int .i64 n, .string t, .slice la ln lc, .slice oa on oc] 39)=w':=by
 rcases(by omega:k=2∨k=3∨k=4∨k=5∨k=6∨(k≠2∧k≠3∧k≠4∧k≠5∧k≠6))with rfl|rfl|rfl|rfl|rfl|⟨h2,h3,h4,h5,h6⟩
 all_goals
  try have e2:(k==2)=false:=by simpa using h2
  try have e3:(k==3)=false:=by simpa using h3
  try have e4:(k==4)=false:=by simpa using h4
  try have e5:(k==5)=false:=by simpa using h5
  try have e6:(k==6)=false:=by simpa using h6
  try have hf:Hid (ownF k=117):=by show _=_;simp[ownF,h2,h3,h4,h5,h6]
  try have hc:Hid (ownCaps k w.heap.size= #[]):=by show _=_;simp[ownCaps,h2,h3,h4,h5,h6]
  try clear h2 h3 h4 h5 h6
  go_enter Tryz.func74,Tryz.ntmps74
  go_wp2
  go_ret
 all_goals first|exact⟨rfl,rfl⟩|exact⟨by rw[hf.out,hc.out];rfl,rfl⟩
def WritesC (v:Val):Prop:= ∀(W:World) (B g p:Nat) (keeps:Bool) (acc:List UInt8) (cs:List Value) (k:Int) (b:Bool) (n:Int) (t:ByteArray) (l:List Val) (o:List (ByteArray×Val)),v= .mk k b n t l o→5≤B→Tabs W→HoldsV W B v cs→
    W.heap[p]? =some (.cells cs.toArray 39 (0,0))→p≠g→Wr W B g keeps acc→okV v→v.bulk≤1000000000→acc.length+6*v.bulk≤20000000000→
    Calls Tryz.prog (ownF k) (#[.pointer (some ⟨g,0,none⟩)]++ownCaps k p) W fun e W'=>e= .returned (.tuple #[])∧Wr W' B g keeps (acc++textV v)∧Below B W W'∧Kept g W W'
end Go.Proofs.YtackmnbpfbaemaaGreatDoor

namespace Go.Proofs.YtackmnbpfbaemaaGreatDoor
open Go.RowKit
theorem Tabs.keep {w w':World} {B:Nat} (h:Tabs w) (hb:Below B w w') (h5B:5≤B):Tabs w':=by
 obtain⟨h5,⟨h1,h2⟩,h3⟩:=h
 refine⟨Nat.le_trans h5 hb.size,⟨fun c hc=> ?_,fun i hi=>⟨?_, ?_⟩⟩, ?_⟩
 · exact(hb.cell (p:=⟨1,c,none⟩) (by show 1<_;omega)).trans (h1 c hc)
 · exact(hb.cell (p:=⟨2,2*i,none⟩) (by show 2<_;omega)).trans (h2 i hi).1
 · exact(hb.cell (p:=⟨2,2*i+1,none⟩) (by show 2<_;omega)).trans (h2 i hi).2
 · have hg:Tryz.prog.globalNamed "internal/strconv.uint64pow10" =some 3:=by kernel_rfl
   unfold Lib.TabIs World.var? at h3 ⊢
   rw[hg]at h3 ⊢
   simp only[Option.bind_some]at h3 ⊢
   rw[hb.block 3 (by omega)]
   exact h3
theorem grow_below (W:World) (k:Nat) (os:Array Obj):Below W.heap.size W (Sort.grow (W.drewN k) os):=
 ⟨rfl,rfl,rfl,by show W.heap.size≤(W.heap++os).size;simp,fun i hi=>by show(W.heap++os)[i]? =W.heap[i]?;rw[Array.getElem?_append_left hi]⟩
theorem formatBool_len (b:Bool):(Lib.formatBool b).length≤5:=by cases b<;>decide
theorem flat_one (l:List UInt8):flat [⟨l.toArray⟩]=l:=by simp[flat]
theorem join_new {B g:Nat} {keeps:Bool} {acc:List UInt8} {w:World} (ss:List ByteArray) (c:Nat) (h:Wr w B g keeps acc) (hlen:acc.length+(flat ss).length≤50000000000) (hn:ss.length≤1000):
 Calls Tryz.prog 107 #[.pointer (some ⟨g,0,none⟩), .slice (some ⟨w.heap.size,0,none⟩) ss.length c] (w.alloc (.cells (ss.map Value.string).toArray 9 (0,0))) fun e w'=>e= .returned (.tuple #[])∧Wr w' B g keeps (acc++flat ss)∧Below B w w'∧Kept g w w':=by
 have hlt:=h.lt
 have hb:=h.base
 refine(join_calls B g keeps acc ss w.heap.size c _ (h.below ((Below.refl _ _).alloc (Nat.le_refl _) _)) (heap_alloc_new _ _) (by omega) hlen hn).mono ?_
 rintro e w' ⟨rfl,h1,h2,h3⟩
 exact⟨rfl,h1,((Below.refl B w).alloc (by omega) _).trans h2,((Lib.OthersKept.refl _ _ w).alloc _).trans h3⟩
set_option maxHeartbeats 1000000 in
theorem writes_bool (W:World) (B g p:Nat) (keeps:Bool) (acc:List UInt8) (b:Bool) (v2 v3 v4 v5:Value) (k:Value) (hp:W.heap[p]? =some (.cells #[k, .bool b,v2,v3,v4,v5] 39 (0,0)))
 (hW:Wr W B g keeps acc) (hlen:acc.length≤20000000000):
 Calls Tryz.prog 106 #[.pointer (some ⟨g,0,none⟩), .pointer (some ⟨p,0,none⟩)] W fun e W'=>e= .returned (.tuple #[])∧Wr W' B g keeps (acc++Lib.formatBool b)∧Below B W W'∧Kept g W W':=by
 have c1:W.cell? ⟨p,1,none⟩=some (.bool b):=(Lib.cell_of_heap hp 1).trans rfl
 have hj:=join_new [⟨(Lib.formatBool b).toArray⟩] 1 hW (by rw[flat_one];have:=formatBool_len b;omega) (by simp)
 rw[flat_one]at hj
 have cB:=Tryz.strconv_FormatBool b W
 generalize Lib.formatBool b=L at hj cB ⊢
 have HJ:=Lib.hid hj
 have CB:=Lib.hid cB
 clear hj cB
 go_enter Tryz.func106,Tryz.ntmps106
 go_wp2_with (first|(go_at_call 108;refine(CB.out).mono ?_;rintro e wx ⟨rfl,hwx⟩;subst hwx)|(go_at_call 107;refine(HJ.out).mono ?_;rintro e w2 ⟨rfl,h1,h2,h3⟩))
 go_end0
 exact⟨rfl,h1,h2,h3⟩
set_option maxHeartbeats 1000000 in
theorem writes_int (W:World) (B g p:Nat) (keeps:Bool) (acc:List UInt8) (n:Int) (v1 v3 v4 v5:Value) (k:Value) (hp:W.heap[p]? =some (.cells #[k,v1, .int .i64 n,v3,v4,v5] 39 (0,0)))
 (hT:Tabs W) (hn0: -9223372036854775808≤n) (hn1:n≤9223372036854775807) (_hpg:p≠g) (hW:Wr W B g keeps acc) (hlen:acc.length≤20000000000):
 Calls Tryz.prog 109 #[.pointer (some ⟨g,0,none⟩), .pointer (some ⟨p,0,none⟩)] W fun e W'=>e= .returned (.tuple #[])∧Wr W' B g keeps (acc++Lib.itoa n)∧Below B W W'∧Kept g W W':=by
 have c1:W.cell? ⟨p,2,none⟩=some (.int .i64 n):=(Lib.cell_of_heap hp 2).trans rfl
 have hl:=Lib.itoa_length_le n hn0 hn1
 have cB:=Tryz.strconv_FormatInt_10 n hn0 hn1 W hT.2.2
 have hj: ∀w1,Below W.heap.size W w1→Calls Tryz.prog 107 #[.pointer (some ⟨g,0,none⟩), .slice (some ⟨w1.heap.size,0,none⟩) 1 1] (w1.alloc (.cells #[.string ⟨(Lib.itoa n).toArray⟩] 9 (0,0))) fun e w'=>e= .returned (.tuple #[])∧Wr w' B g keeps (acc++Lib.itoa n)∧Below B w1 w'∧Kept g w1 w':=fun w1 hb=>by
  have:=join_new [⟨(Lib.itoa n).toArray⟩] 1 (hW.below hb) (by rw[flat_one];omega) (by simp)
  rwa [flat_one]at this
 have hB:=hW.base
 have hlt:=hW.lt
 generalize Lib.itoa n=L at hj cB ⊢
 have HJ:=Lib.hid hj
 have CB:=Lib.hid cB
 clear hj cB hl hp
 go_enter Tryz.func109,Tryz.ntmps109
 go_wp2_with (first|(go_at_call 110;refine(CB.out).mono ?_;rintro e w1 ⟨rfl,kk,os,hwx⟩;have hb1:Below W.heap.size W w1:=hwx▸grow_below W kk os;clear hwx)|(go_at_call 107;refine(HJ.out _ hb1).mono ?_;rintro e w2 ⟨rfl,h1,h2,h3⟩))
 go_end0
 exact⟨rfl,h1,(hb1.mono (by omega)).trans h2,fun j o hj hg ho=>h3 j o ((hb1.block j (Array.getElem?_eq_some_iff.1 hj).1).trans hj) hg ho⟩
set_option maxHeartbeats 1000000 in
theorem writes_null (W:World) (B g:Nat) (keeps:Bool) (acc:List UInt8) (hW:Wr W B g keeps acc) (hlen:acc.length≤20000000000):
 Calls Tryz.prog 117 #[.pointer (some ⟨g,0,none⟩)] W fun e W'=>e= .returned (.tuple #[])∧Wr W' B g keeps (acc++ [110,117,108,108])∧Below B W W'∧Kept g W W':=by
 have hj:=join_new [⟨#[110,117,108,108]⟩] 1 hW (by simp[flat];omega) (by simp)
 have HJ:=Lib.hid hj
 clear hj
 go_enter Tryz.func117,Tryz.ntmps117
 go_wp2_with (go_at_call 107;refine(HJ.out).mono ?_;rintro e w2 ⟨rfl,h1,h2,h3⟩)
 go_end0
 exact⟨rfl,h1,h2,h3⟩
theorem quote_calls (s:ByteArray) (w:World) (hT:Tabs w) (hs:s.size≤1000000000) (hv:validB s=true):
 Calls Tryz.prog 112 #[.string s] w fun e w'=>e= .returned (.string ⟨(quoteB s).toArray⟩)∧Below w.heap.size w w':=by
 have cQ:=Quote_valid s w hT hs hv
 unfold quoteB
 generalize 34::quoteRunes (runes s)++ [34]=L at cQ ⊢
 have CQ:=Lib.hid cQ
 clear cQ
 go_enter Tryz.func112,Tryz.ntmps112
 go_wp2_with (go_at_call 163;refine(CQ.out).mono ?_;rintro e w2 ⟨rfl,h1⟩)
 go_ret
 exact⟨rfl,h1⟩
theorem quoteB_len (s:ByteArray):(quoteB s).length≤6*s.size+2:=by
 have e1:=quoteRunes_len (runes s)
 have e3:=runesFrom_len s.size s.data.toList 0
 unfold runes at e1
 unfold quoteB runes
 simp only[List.length_cons,List.length_append,List.length_nil]
 omega
set_option maxHeartbeats 1000000 in
theorem writes_text (W:World) (B g p:Nat) (keeps:Bool) (acc:List UInt8) (t:ByteArray) (v1 v2 v4 v5:Value) (k:Value) (hp:W.heap[p]? =some (.cells #[k,v1,v2, .string t,v4,v5] 39 (0,0)))
 (hT:Tabs W) (hv:validB t=true) (ht:t.size≤1000000000) (_hpg:p≠g) (hW:Wr W B g keeps acc) (hlen:acc.length≤20000000000):
 Calls Tryz.prog 111 #[.pointer (some ⟨g,0,none⟩), .pointer (some ⟨p,0,none⟩)] W fun e W'=>e= .returned (.tuple #[])∧Wr W' B g keeps (acc++quoteB t)∧Below B W W'∧Kept g W W':=by
 have c1:W.cell? ⟨p,3,none⟩=some (.string t):=(Lib.cell_of_heap hp 3).trans rfl
 have hl:=quoteB_len t
 have cB:=quote_calls t W hT ht hv
 have hj: ∀w1,Below W.heap.size W w1→Calls Tryz.prog 107 #[.pointer (some ⟨g,0,none⟩), .slice (some ⟨w1.heap.size,0,none⟩) 1 1] (w1.alloc (.cells #[.string ⟨(quoteB t).toArray⟩] 9 (0,0))) fun e w'=>e= .returned (.tuple #[])∧Wr w' B g keeps (acc++quoteB t)∧Below B w1 w'∧Kept g w1 w':=fun w1 hb=>by
  have:=join_new [⟨(quoteB t).toArray⟩] 1 (hW.below hb) (by rw[flat_one];omega) (by simp)
  rwa [flat_one]at this
 have hB:=hW.base
 have hlt:=hW.lt
 generalize quoteB t=L at hj cB ⊢
 have HJ:=Lib.hid hj
 have CB:=Lib.hid cB
 clear hj cB hl hp
 go_enter Tryz.func111,Tryz.ntmps111
 go_wp2_with (first|(go_at_call 112;refine(CB.out).mono ?_;rintro e w1 ⟨rfl,hb1⟩)|(go_at_call 107;refine(HJ.out _ hb1).mono ?_;rintro e w2 ⟨rfl,h1,h2,h3⟩))
 go_end0
 exact⟨rfl,h1,(hb1.mono (by omega)).trans h2,fun j o hj hg ho=>h3 j o ((hb1.block j (Array.getElem?_eq_some_iff.1 hj).1).trans hj) hg ho⟩
theorem between_calls (i:Int) (w:World):Calls Tryz.prog 114 #[.int .i64 i] w fun e w'=>e= .returned (.string ⟨(if i=0 then []else [44]:List UInt8).toArray⟩)∧w=w':=by
 by_cases h:i=0
 · subst h
   go_enter Tryz.func114,Tryz.ntmps114
   go_wp2
   go_ret
   exact⟨rfl,rfl⟩
 · have e:(i==0)=false:=by simpa using h
   rw[if_neg h]
   clear h
   go_enter Tryz.func114,Tryz.ntmps114
   go_wp2
   go_ret
   exact⟨rfl,rfl⟩
end Go.Proofs.YtackmnbpfbaemaaGreatDoor

namespace Go.Proofs.YtackmnbpfbaemaaGreatDoor
open Go.RowKit
theorem RWithin_calls (v:Val) (cs:List Value) (w:World) (hV:HoldsV w w.heap.size v cs) (hb:v.bulk≤100000000):
 Calls Tryz.prog 138 #[.agg cs.toArray] w (WithinPost w v):=by
 obtain⟨k,b,n,t,l,o⟩:=v
 simp only[HoldsV]at hV
 obtain⟨la,lc,oa,oc,rfl,hla,hoa⟩:=hV
 simp only[Val.bulk]at hb
 by_cases h5:k=5
 · subst h5
   exact within_list b n t l o la oa oc lc w hla (by omega)
 by_cases h6:k=6
 · subst h6
   exact within_obj b n t l o la oa oc lc w hoa (by omega)
 have hw:within (.mk k b n t l o)= []:=by simp[within,h5,h6]
 have Hw:=Lib.hid hw
 have e5:(k==5)=false:=by simpa using h5
 have e6:(k==6)=false:=by simpa using h6
 clear hw hla hoa hb h5 h6
 go_enter Tryz.func138,Tryz.ntmps138
 go_wp2
 go_ret
 exact⟨⟨none,0,by rw[Hw.out];rfl, .inl Hw.out⟩,(Below.refl _ _).alloc (Nat.le_refl _) _⟩
theorem deepO_map: ∀o:List (ByteArray×Val),deepO o=deepL (o.map (·.2))
 | []=>rfl
 |(k,v)::r=>by simp only[deepO,deepP,List.map_cons,deepL,deepO_map r]
theorem deepV_within (v:Val):deepV v=1+deepL (within v):=by
 obtain⟨k,b,n,t,l,o⟩:=v
 simp only[deepV,within]
 by_cases h5:k=5
 · simp[h5]
 by_cases h6:k=6
 · simp[h6,deepO_map]
 · simp[h5,h6,deepL]
theorem bulkO_map: ∀o:List (ByteArray×Val),bulkL (o.map (·.2))≤bulkO o
 | []=>by simp[bulkL]
 |(k,v)::r=>by
  have:=bulkO_map r
  simp only[List.map_cons,bulkL,bulkO,bulkP]
  omega
theorem within_bulk (v:Val):bulkL (within v)≤v.bulk:=by
 obtain⟨k,b,n,t,l,o⟩:=v
 have:=bulkO_map o
 simp only[within,Val.bulk]
 split
 · omega
 split
 · omega
 · simp[bulkL]
def RDeepC (v:Val):Prop:= ∀(cs:List Value) (w:World),HoldsV w w.heap.size v cs→v.bulk≤100000000→
    Calls Tryz.prog 98 #[.agg cs.toArray] w fun e w'=>e= .returned (.int .i64 (deepV v))∧Below w.heap.size w w'
set_option maxRecDepth 100000 in
set_option maxHeartbeats 2000000 in
theorem rdeep_step (v:Val) (IH: ∀x ∈ within v,RDeepC x):RDeepC v:=by
 intro cs w hV hb
 have hV':=hV
 have hbw:=within_bulk v
 have hlw:=bulkL_len (within v)
 have hdw:=deepL_le (within v) (fun x _=>deepV_le x)
 have hW0:=fun w' (h:Below w.heap.size w w')=>RWithin_calls v cs w' (HoldsV.more h.size _ _ (hV.below h)) hb
 rw[deepV_within]
 unfold WithinPost at hW0
 generalize within v=L at*
 obtain⟨k,b,n,t,l,o⟩:=v
 simp only[HoldsV]at hV'
 obtain⟨la,lc,oa,oc,rfl,_,_⟩:=hV'
 have HI:=Lib.hid IH
 have HW:=Lib.hid hW0
 obtain⟨M,hM⟩: ∃M,deepL L=M:=⟨_,rfl⟩
 rw[hM]at hdw ⊢
 have H0:Hid (max 0 (deepL (L.drop 0))=M):=by show _=_;rw[List.drop_zero,hM];simp
 have HB1:Hid (Below w.heap.size w (w.alloc (.cells (cells6 k b n t la l.length lc oa o.length oc).toArray 39))):=(Below.refl _ _).alloc (Nat.le_refl _) _
 clear IH hW0 hM hV
 go_enter Tryz.func98,Tryz.ntmps98
 go_wp2_with (fail)
 with_reducible refine(HW.out _ HB1.out).mono ?_
 rintro e w2 ⟨⟨la',lc',rfl,hsl⟩,hb2⟩
 have Hsl:=Lib.hid hsl
 have HB2:=Lib.hid (HB1.out.trans (hb2.mono HB1.out.size))
 clear hsl hb2 HB1 HW
 go_wp2_with (fail)
 have HBr:Hid (Below w2.heap.size w2 w2):=Below.refl _ _
 go_loopw [3,5] (fun m i wr=> ∃D k:Nat,m= .int .i64 D∧i= .int .i64 k∧k≤L.length∧Hid (max D (deepL (L.drop k))=M)∧D≤M∧Hid (Below w2.heap.size w2 wr)) (fun _ i _=>L.length - (intOf i).toNat)
 case atStart=>exact⟨0,0,rfl,rfl,Nat.zero_le _,H0,Nat.zero_le _,HBr⟩
 case round=>
  obtain⟨D,k,rfl,rfl,hk,hD,hDM,hbw⟩:=hrel
  clear H0 HBr
  by_cases hlt:k<L.length
  · obtain⟨g,off,rfl,hg,hL⟩: ∃g off,la'=some ⟨g,off,none⟩∧g<w2.heap.size∧HoldsL w2 w2.heap.size L g off:=by
     rcases Hsl.out with h|h
     · rw[h]at hlt;simp at hlt
     · exact h
    obtain⟨x,hx⟩: ∃v,L[k]? =some v:=⟨_,List.getElem?_eq_getElem hlt⟩
    have hmem:x ∈ L:=List.mem_of_getElem? hx
    have hbv:=bulkL_mem hmem
    have hdv:=deepV_le x
    have hdrop:L.drop k=x::L.drop (k+1):=drop_of_get hx
    have hD':=hD.out
    rw[hdrop]at hD'
    simp only[deepL]at hD'
    have IHx:=HI.out x hmem
    have hz:=hbw.out.size
    obtain⟨m,hm⟩: ∃m,deepV x=m:=⟨_,rfl⟩
    obtain⟨k',b',n',t',l',o'⟩:=x
    obtain⟨la',lc',oa',oc',hvs,c0,c1,c2,c3,c4,c5⟩:=(hL.below hg hbw.out).six hx
    have CT:=IHx _ wr (HoldsV.more hz _ _ hvs) (by omega)
    rw[hm]at CT hD' hdv
    have hCT:=Lib.hid CT
    have Hn:Hid (max (max D m) (deepL (L.drop (k+1)))=M):=by show _=_;omega
    have hmM:max D m≤M:=by omega
    clear CT hD hD' hdrop IHx hm hvs hx hmem hL hg hdv hbv
    by_cases hgt:D<m
    · have e1:max D m=m:=by omega
      rw[e1]at Hn hmM
      clear e1
      go_wp2_with (fail)
      with_reducible refine hCT.out.mono ?_
      rintro e w4 ⟨rfl,hb4⟩
      have hbw4:=Lib.hid (hbw.out.trans (hb4.mono hz))
      clear hb4 hbw hCT
      go_wp2
      go_roundw
      case rel=>exact⟨m,k+1,rfl,by go_num,by omega,Hn,hmM,hbw4⟩
      case measure=>simp only[intOf];omega
    · have e1:max D m=D:=by omega
      rw[e1]at Hn hmM
      clear e1
      go_wp2_with (fail)
      with_reducible refine hCT.out.mono ?_
      rintro e w4 ⟨rfl,hb4⟩
      have hbw4:=Lib.hid (hbw.out.trans (hb4.mono hz))
      clear hb4 hbw hCT
      go_wp2
      go_roundw
      case rel=>exact⟨D,k+1,rfl,by go_num,by omega,Hn,hmM,hbw4⟩
      case measure=>simp only[intOf];omega
  · obtain rfl:k=L.length:=by omega
    have hD':=hD.out
    rw[List.drop_length]at hD'
    simp only[deepL]at hD'
    obtain rfl:D=M:=by omega
    have hc:(D:Int)+1=((1+D:Nat):Int):=by omega
    have Hc:=Lib.hid hc
    clear hD hD' hc
    go_wp2
    go_ret
    exact⟨by rw[←Hc.out];rfl,HB2.out.trans (hbw.out.mono HB2.out.size)⟩
theorem rdeep_calls: ∀v,RDeepC v:=by
 refine Val.ind ?_
 intro k b n t l o IHl IHo
 refine rdeep_step _ (fun x hx=> ?_)
 simp only[within]at hx
 split at hx
 · exact IHl x hx
 split at hx
 · obtain⟨m,hm,rfl⟩:=List.mem_map.1 hx
   exact IHo m hm
 · cases hx
end Go.Proofs.YtackmnbpfbaemaaGreatDoor
