/- Parts, joined: The law MutatorMay returns true. Condition: a bulk of at most 2 * 10^6. -/
import Derived.Test.YtkkbplakgldlpaaGreatDoorProg
import Derived.Deep.RegionHeld3
import Derived.Test.YtkkbplakgldlpaaGreatDoorKMu37
import Derived.Test.YtkkbplakgldlpaaGreatDoorKMu46
namespace Go.Proofs.YtkkbplakgldlpaaGreatDoor
open Go Go.RowKit
set_option maxRecDepth 100000 in
set_option maxHeartbeats 8000000 in
theorem MutatorMay_law (m:Mut) (cs:List Value) (w:World) (hT:Tabs w) (hNT:NumT w) (hN:MNames w) (h:Holds w w.heap.size (dM m) cs) (hb:bulkM m≤2000000) (hin:inM m):
 Calls Tryz.prog 3 #[.agg cs.toArray] w fun e w'=>e=.returned (.bool true)∧Below w.heap.size w w':=by
 have h1:=fun(W:World) hB=>mutMay_calls m cs W (hT.below (w':=W) hB) ((h.below hB).more hB.size) (by omega) hin
 have h2:=fun(W:World) hB=>rmutMay_calls m cs W (hT.below (w':=W) hB) ((h.below hB).more hB.size) (by omega) hin
 have h3:=fun(W:World) hB=>known11_calls W (hT.below (w':=W) hB) (hNT.below hB) (hN.below hB)
 generalize mutMay m=X at h1 h2
 have hl:cs.length=19:=by have:=h.len.1;rwa [dM_cells]at this
 have hone:=h.len.2
 obtain⟨ca,hca⟩: ∃ca,cs.toArray=ca:=⟨_,rfl⟩
 have hs:ca.size=19:=by rw[←hca];simpa using hl
 rw[hca]at h1 h2 ⊢
 obtain⟨wi,hwi⟩: ∃wi,w.alloc (.cells ca Tmut)=wi:=⟨_,rfl⟩
 have hxa:Blk wi w.heap.size Tmut ca:=by rw[←hwi];exact Blk.new _ _ _
 have hbi:Below w.heap.size w wi:=by rw[←hwi];exact alloc_below _ _
 have hrg:=blk_range hxa
 have H1:=Lib.hid h1
 have H2:=Lib.hid h2
 have H3:=Lib.hid h3
 have Hxa:=Lib.hid hxa
 have Hbi:=Lib.hid hbi
 clear h1 h2 h3 hxa hbi
 clear hT hNT hN h hb hin
 go_enter Tryz.func3,Tryz.ntmps3
 go_upto_region 1 with(fail)
 clear hwi
 refine wp_region_held_drew (S:=fun X=>X.rangeAt w.heap.size 0 ca.toList) (by kernel_rfl) hrg (fun hHeld=> ?_)
 refine wpAnyH_take (i:=0) rfl (by kernel_rfl) (by kernel_rfl) (by kernel_rfl) (fun _ _ _ h=>h) (yieldsIf_load_mid (by kernel_rfl) Tmut (.tmp 1) rfl w.heap.size 0 rfl ca.toList _ (fun X hX=>hX) Tryz.underlying30 rfl (by rw[Array.length_toList,hs];kernel_rfl)) hHeld ?_
 try simp only[Act.put,List.getElem_toArray,List.getElem_cons_zero,List.setIfInBounds_toArray,List.set_cons_zero,List.set_cons_succ]
 refine wpAnyH_take (i:=2) rfl (by kernel_rfl) (by kernel_rfl) (by kernel_rfl) (fun _ _ _ h=>h) (yieldsIf_load_mid (by kernel_rfl) Tmut (.tmp 1) rfl w.heap.size 0 rfl ca.toList _ (fun X hX=>hX) Tryz.underlying30 rfl (by rw[Array.length_toList,hs];kernel_rfl)) hHeld ?_
 try simp only[Act.put,List.getElem_toArray,List.getElem_cons_succ,List.getElem_cons_zero,List.setIfInBounds_toArray,List.set_cons_zero,List.set_cons_succ]
 refine wpAnyH_ready (rs:= [1]) (by kernel_rfl) (by simp) ?_
 refine AllReadyH.cons rfl (fun K hK=> ?_) AllReadyH.nil
 go_simp
 with_reducible refine(H1.out _ (Hbi.out.trans ((Below.drew (Below.refl _ _)).mono Hbi.out.size))).mono ?_
 rintro e w1 ⟨rfl,hb1⟩
 have hbr1:Below wi.heap.size wi w1:=(Below.drew (Below.refl _ _)).trans hb1
 have hx1:=Hxa.out.below hbr1 Hxa.out.lt
 have hw1:=Hbi.out.trans (hbr1.mono Hbi.out.size)
 have Hw1:=Lib.hid hw1
 have Hx1:=Lib.hid hx1
 clear hw1 hx1
 refine hK.out _ _ (blk_range Hx1.out) (fun hHeld=> ?_)
 clear hK K hb1 hbr1
 try simp only[Act.put,List.getElem_toArray,List.getElem_cons_succ,List.getElem_cons_zero,List.setIfInBounds_toArray,List.set_cons_zero,List.set_cons_succ]
 refine wpAnyH_ready (rs:= [3]) (by kernel_rfl) (by simp) ?_
 refine AllReadyH.cons rfl (fun K hK=> ?_) AllReadyH.nil
 go_simp
 with_reducible refine(H2.out _ Hw1.out).mono ?_
 rintro e w2 ⟨rfl,hb2⟩
 have hx2:=Hx1.out.below hb2 Hx1.out.lt
 have hw2:=Hw1.out.trans (hb2.mono Hw1.out.size)
 have Hw2:=Lib.hid hw2
 have Hx2:=Lib.hid hx2
 clear hw2 hx2
 refine hK.out _ _ (blk_range Hx2.out) (fun hHeld=> ?_)
 clear hK K hb2
 try simp only[Act.put,List.getElem_toArray,List.getElem_cons_succ,List.getElem_cons_zero,List.setIfInBounds_toArray,List.set_cons_zero,List.set_cons_succ]
 refine wpAnyH_take (i:=4) (v:= ?_) rfl (by kernel_rfl) (by kernel_rfl) (by kernel_rfl) (fun _ _ _ h=>h) (Or.inl ⟨by kernel_rfl, ?_⟩) hHeld ?_
 rotate_left
 · intro X hSw
   first|(go_simp;done)|(go_simp;with_reducible rfl)
 try simp only[Act.put,List.getElem_toArray,List.getElem_cons_succ,List.getElem_cons_zero,List.setIfInBounds_toArray,List.set_cons_zero,List.set_cons_succ]
 refine wpAnyH_take (i:=5) (v:= ?_) rfl (by kernel_rfl) (by kernel_rfl) (by kernel_rfl) (fun _ _ _ h=>h) (Or.inl ⟨by kernel_rfl, ?_⟩) hHeld ?_
 rotate_left
 · intro X hSw
   first|(go_simp;done)|(go_simp;with_reducible rfl)
 try simp only[Act.put,List.getElem_toArray,List.getElem_cons_succ,List.getElem_cons_zero,List.setIfInBounds_toArray,List.set_cons_zero,List.set_cons_succ]
 refine wpAnyH_ready (rs:= [6]) (by kernel_rfl) (by simp) ?_
 refine AllReadyH.cons rfl (fun K hK=> ?_) AllReadyH.nil
 go_simp
 with_reducible refine(H3.out _ Hw2.out).mono ?_
 rintro e w3 ⟨rfl,hb3⟩
 have hx3:=Hx2.out.below hb3 Hx2.out.lt
 have hw3:=Hw2.out.trans (hb3.mono Hw2.out.size)
 have Hw3:=Lib.hid hw3
 have Hx3:=Lib.hid hx3
 clear hw3 hx3
 refine hK.out _ _ (blk_range Hx3.out) (fun hHeld=> ?_)
 clear hK K hb3
 try simp only[Act.put,List.getElem_toArray,List.getElem_cons_succ,List.getElem_cons_zero,List.setIfInBounds_toArray,List.set_cons_zero,List.set_cons_succ]
 refine wpAnyH_take (i:=7) (v:= ?_) rfl (by kernel_rfl) (by kernel_rfl) (by kernel_rfl) (fun _ _ _ h=>h) (Or.inl ⟨by kernel_rfl, ?_⟩) hHeld ?_
 rotate_left
 · intro X hSw
   first|(go_simp;done)|(go_simp;with_reducible rfl)
 try simp only[Act.put,List.getElem_toArray,List.getElem_cons_succ,List.getElem_cons_zero,List.setIfInBounds_toArray,List.set_cons_zero,List.set_cons_succ]
 refine wpAnyH_take (i:=8) (v:= ?_) rfl (by kernel_rfl) (by kernel_rfl) (by kernel_rfl) (fun _ _ _ h=>h) (Or.inl ⟨by kernel_rfl, ?_⟩) hHeld ?_
 rotate_left
 · intro X hSw
   first|(go_simp;done)|(go_simp;with_reducible rfl)
 try simp only[Act.put,List.getElem_toArray,List.getElem_cons_succ,List.getElem_cons_zero,List.setIfInBounds_toArray,List.set_cons_zero,List.set_cons_succ]
 refine wpAnyH_done (by kernel_rfl) ?_ _
 clear hHeld
 go_wp2
 go_ret
 exact⟨rfl,Hw3.out⟩
end Go.Proofs.YtkkbplakgldlpaaGreatDoor
