/- Parts, joined: What MutCas writes: the pairs. Condition: values of a bulk of at most 10^8. -/
import Derived.Test.YtemceefalkfneaaGreatDoorProg
import Derived.Deep.RegionHeld3
import Derived.Test.YtemceefalkfneaaGreatDoorKPushSpoilt4
import Derived.Test.YtemceefalkfneaaGreatDoorKPushSpoilt10
/- What MutCas writes: the pairs. Condition: values of a bulk of at most 10^8. -/
namespace Go.Proofs.YtemceefalkfneaaGreatDoor
open Go Go.RowKit

theorem guard_calls (y0 : Value) (key : ByteArray) (y2 y3 : Value) (had : Bool) (k : Int) (b : Bool) (n : Int) (t : ByteArray) (l : List Val) (o : List (ByteArray × Val)) (la oa : Option Addr) (lc oc : Nat) (y11 y12 y13 y14 y15 y16 y17 y18 : Value) (w : World)
    (hV : HoldsV w w.heap.size (.mk k b n t l o) [.int .i64 k, .bool b, .int .i64 n, .string t, .slice la l.length lc, .slice oa o.length oc]) (hb : (Val.mk k b n t l o).bulk ≤ 100000000) :
    Calls Tryz.prog 217 #[.agg #[y0, .string key, y2, y3, .bool had, .int .i64 k, .bool b, .int .i64 n, .string t, .slice la l.length lc, .slice oa o.length oc, y11, y12, y13, y14, y15, y16, y17, y18]] w (PairsPost (guardO key had (.mk k b n t l o)) w) := by
  cases had with
  | false => exact guard_no _ _ _ _ _ _ _ _ _ _ _ _ _ _ _ _ _ _ _ _
  | true => exact guard_yes _ _ _ _ _ _ _ _ _ _ _ _ _ _ _ _ _ _ _ _ _ _ _ hV hb
theorem PairsAt.parts {b : Nat} {w : World} {o : List (ByteArray × Val)} {V : Value} (h : PairsAt b w o V) :
    ∃ g c ns, V = .slice (some ⟨g, 0, none⟩) o.length c ∧ b ≤ g ∧ g < w.heap.size ∧ Reads w w.heap.size 7 (some ⟨g, 0, none⟩) o.length ns ∧ HoldsInA (fun i => b ≤ i) w (dO o) ns := by
  obtain ⟨g, c, ns, rfl, h1, h2, h3, h4⟩ := h
  refine ⟨g, c, ns, rfl, h1, h2, ⟨?_, fun _ => ⟨_, rfl, h2, fun j u hu => by rw [add_plain', Nat.zero_add]; exact h4 j u hu⟩⟩, h3⟩
  rw [h3.now.len.1, cellsA_all (dO_cells o), dO_len]
theorem HoldsInA.mono {S T : Nat → Prop} {w : World} {l : List D} {cs : List Value} (h : HoldsInA S w l cs) (hST : ∀ i, i < w.heap.size → S i → T i) : HoldsInA T w l cs :=
  fun w'' h1 h2 => h w'' h1 fun p p1 p2 => h2 p (hST _ p2 p1) p2
theorem guard_len (key : ByteArray) (had : Bool) (was : Val) : (guardO key had was).length ≤ 2 ∧ 0 < (guardO key had was).length := by
  unfold guardO
  cases had <;> simp
theorem dO_app (a b : List (ByteArray × Val)) : dO (a ++ b) = dO a ++ dO b := by rw [dO_map, dO_map, dO_map, List.map_append]

set_option maxRecDepth 100000 in
set_option maxHeartbeats 4000000 in
theorem wcas_no (y0 : Value) (key : ByteArray) (y2 y3 : Value) (had : Bool) (k : Int) (b : Bool) (n : Int) (t : ByteArray) (l : List Val) (o : List (ByteArray × Val)) (la oa : Option Addr) (lc oc : Nat) (y12 y13 y14 y15 y16 y17 y18 : Value) (w : World)
    (hV : HoldsV w w.heap.size (.mk k b n t l o) [.int .i64 k, .bool b, .int .i64 n, .string t, .slice la l.length lc, .slice oa o.length oc]) (hb : (Val.mk k b n t l o).bulk ≤ 100000000) :
    Calls Tryz.prog 216 #[.agg #[y0, .string key, y2, y3, .bool had, .int .i64 k, .bool b, .int .i64 n, .string t, .slice la l.length lc, .slice oa o.length oc, .bool false, y12, y13, y14, y15, y16, y17, y18]] w (PairsPost (guardO key had (.mk k b n t l o)) w) := by
  have hC := fun W (hW : Below w.heap.size w W) => guard_calls y0 key y2 y3 had k b n t l o la oa lc oc (.bool false) y12 y13 y14 y15 y16 y17 y18 W (HoldsV.more hW.size _ _ (hV.below hW)) hb
  obtain ⟨j0, hj, hy0, hy1, hy2⟩ := info_parts pair_info
  have hxb := Blk.new w 85 #[y0, .string key, y2, y3, .bool had, .int .i64 k, .bool b, .int .i64 n, .string t, .slice la l.length lc, .slice oa o.length oc, .bool false, y12, y13, y14, y15, y16, y17, y18]
  have hgl := guard_len key had (.mk k b n t l o)
  have hdl := dO_len (guardO key had (.mk k b n t l o))
  generalize guardO key had (.mk k b n t l o) = G at hC hgl hdl ⊢
  have HC := Lib.hid hC
  have Hj := Lib.hid hj
  have Hy0 := Lib.hid hy0
  have Hy1 := Lib.hid hy1
  have Hy2 := Lib.hid hy2
  have Hxb := Lib.hid hxb
  have Hgl := Lib.hid hgl
  have Hdl := Lib.hid hdl
  clear hC hj hy0 hy1 hy2 hxb hgl hdl
  clear hV
  go_enter Tryz.func216, Tryz.ntmps216
  go_upto_region 4 with (fail)
  iterate 5 go_step
  refine wp_load_blk 85 (.tmp 1) rfl w.heap.size _ Hxb.out rfl _ Tryz.underlying85 rfl (by kernel_rfl) ?_
  go_wp2_with (fail)
  with_reducible refine (HC.out _ (alloc_below _ _)).mono ?_
  rintro e w1 ⟨hb1, V, rfl, hP⟩
  obtain ⟨g, c, ns, rfl, hbg, hlt, hR, hA⟩ := hP.parts
  have hw1 := (alloc_below w (.cells #[y0, .string key, y2, y3, .bool had, .int .i64 k, .bool b, .int .i64 n, .string t, .slice la l.length lc, .slice oa o.length oc, .bool false, y12, y13, y14, y15, y16, y17, y18] 85)).trans (hb1.mono (by simp))
  have hX : HoldsInA (fun i => w.heap.size ≤ i ∧ (Value.slice none 0 0).ownBlock ≠ some i) w1 (dO G) ns := hA.mono fun i _ hi => ⟨by have : (w.alloc (.cells #[y0, .string key, y2, y3, .bool had, .int .i64 k, .bool b, .int .i64 n, .string t, .slice la l.length lc, .slice oa o.length oc, .bool false, y12, y13, y14, y15, y16, y17, y18] 85)).heap.size ≤ i := hi; simp at this; omega, by simp [Value.ownBlock]⟩
  have Hb1 := Lib.hid hb1
  have HP := Lib.hid hP
  have HR := Lib.hid hR
  have HX := Lib.hid hX
  have Hw1 := Lib.hid hw1
  clear hb1 hP hR hX hw1
  clear hA
  go_wp2_with (at_builtin; refine wpList_append_L rfl (.tmp 13) (.tmp 15) 227 rfl Tryz.underlying227 Hj.out Hy0.out Hy1.out Hy2.out rfl (by omega) rfl (RowX.nil (fun i => w.heap.size ≤ i) w.heap.size Tpair 7 w1) Hw1.out.size (dO_cells _) HX.out rfl HR.out Hdl.out.symm (by have := Hgl.out; simp [maxLen]; omega) (by have := Hgl.out; simp; omega) ?_; intro V6 w6 hrow6 hg6 hat6)
  rw [List.nil_append] at hrow6
  go_ret
  exact ⟨below_appX Hw1.out hg6 (RowX.nil (fun i => w.heap.size ≤ i) w.heap.size Tpair 7 w1) (Nat.le_refl _) Hw1.out.size, V6, rfl, pairs_row hrow6 Hgl.out.2⟩

set_option maxRecDepth 100000 in
set_option maxHeartbeats 8000000 in
theorem wcas_yes (y0 : Value) (key : ByteArray) (y2 y3 : Value) (had : Bool) (k : Int) (b : Bool) (n : Int) (t : ByteArray) (l : List Val) (o : List (ByteArray × Val)) (la oa : Option Addr) (lc oc : Nat) (k' : Int) (b' : Bool) (n' : Int) (t' : ByteArray) (l' : List Val) (o' : List (ByteArray × Val)) (la' oa' : Option Addr) (lc' oc' : Nat) (y18 : Value) (w : World)
    (hV : HoldsV w w.heap.size (.mk k b n t l o) [.int .i64 k, .bool b, .int .i64 n, .string t, .slice la l.length lc, .slice oa o.length oc]) (hb : (Val.mk k b n t l o).bulk ≤ 100000000) (hV' : HoldsV w w.heap.size (.mk k' b' n' t' l' o') [.int .i64 k', .bool b', .int .i64 n', .string t', .slice la' l'.length lc', .slice oa' o'.length oc']) (hb' : (Val.mk k' b' n' t' l' o').bulk ≤ 100000000) :
    Calls Tryz.prog 216 #[.agg #[y0, .string key, y2, y3, .bool had, .int .i64 k, .bool b, .int .i64 n, .string t, .slice la l.length lc, .slice oa o.length oc, .bool true, .int .i64 k', .bool b', .int .i64 n', .string t', .slice la' l'.length lc', .slice oa' o'.length oc', y18]] w (PairsPost ((kIs, .mk k' b' n' t' l' o') :: guardO key had (.mk k b n t l o)) w) := by
  have hC := fun W (hW : Below w.heap.size w W) => guard_calls y0 key y2 y3 had k b n t l o la oa lc oc (.bool true) (.int .i64 k') (.bool b') (.int .i64 n') (.string t') (.slice la' l'.length lc') (.slice oa' o'.length oc') y18 W (HoldsV.more hW.size _ _ (hV.below hW)) hb
  have hD : ∀ W, Below w.heap.size w W → Calls Tryz.prog 78 #[.agg #[.int .i64 k', .bool b', .int .i64 n', .string t', .slice la' l'.length lc', .slice oa' o'.length oc']] W (VCopyPost W (.mk k' b' n' t' l' o')) := fun W hB => vcopy_calls _ _ W (HoldsV.more hB.size _ _ (hV'.below hB)) hb'
  obtain ⟨j0, hj, hy0, hy1, hy2⟩ := info_parts pair_info
  obtain ⟨wi, hwi⟩ : ∃ wi, w.alloc (.cells #[y0, .string key, y2, y3, .bool had, .int .i64 k, .bool b, .int .i64 n, .string t, .slice la l.length lc, .slice oa o.length oc, .bool true, .int .i64 k', .bool b', .int .i64 n', .string t', .slice la' l'.length lc', .slice oa' o'.length oc', y18] 85) = wi := ⟨_, rfl⟩
  have hbi : Below w.heap.size w wi := hwi ▸ alloc_below _ _
  have hxb : Blk wi w.heap.size 85 #[y0, .string key, y2, y3, .bool had, .int .i64 k, .bool b, .int .i64 n, .string t, .slice la l.length lc, .slice oa o.length oc, .bool true, .int .i64 k', .bool b', .int .i64 n', .string t', .slice la' l'.length lc', .slice oa' o'.length oc', y18] := hwi ▸ Blk.new _ _ _
  have d11 := hxb.cell 11
  have d12 := hxb.cell 12
  have d13 := hxb.cell 13
  have d14 := hxb.cell 14
  have d15 := hxb.cell 15
  have d16 := hxb.cell 16
  have d17 := hxb.cell 17
  have hgb := hxb.lt
  have hgl := guard_len key had (.mk k b n t l o)
  have hdl := dO_len (guardO key had (.mk k b n t l o))
  have hap := dO_app [(kIs, .mk k' b' n' t' l' o')] (guardO key had (.mk k b n t l o))
  generalize guardO key had (.mk k b n t l o) = G at hC hgl hdl hap ⊢
  have HC := Lib.hid hC
  have HD := Lib.hid hD
  have Hbi := Lib.hid hbi
  have Hxb := Lib.hid hxb
  have Hj := Lib.hid hj
  have Hy0 := Lib.hid hy0
  have Hy1 := Lib.hid hy1
  have Hy2 := Lib.hid hy2
  have Hgl := Lib.hid hgl
  have Hdl := Lib.hid hdl
  have Hap := Lib.hid hap
  clear hC hD hbi hxb hj hy0 hy1 hy2 hgl hdl hap
  clear hV hV'
  go_enter Tryz.func216, Tryz.ntmps216
  go_upto_region 3 with (fail)
  clear hwi
  go_wp2_with (fail)
  with_reducible refine (HD.out _ Hbi.out).mono ?_
  rintro e w3 ⟨⟨cs4, rfl, hl4, hf4⟩, hb3⟩
  obtain ⟨la2, lc2, oa2, oc2, rfl⟩ := six_now hf4
  have hw3 := Hbi.out.trans (hb3.mono Hbi.out.size)
  have hz3 := hw3.size
  have hx3 := (Hxb.out.below hb3 hgb).alloc (.cells #[.string kIs, .int .i64 k', .bool b', .int .i64 n', .string t', .slice la2 l'.length lc2, .slice oa2 o'.length oc2] Tpair)
  have hX : HoldsIn (fun i => w.heap.size ≤ i ∧ (Value.slice none 0 0).ownBlock ≠ some i) (w3.alloc (.cells #[.string kIs, .int .i64 k', .bool b', .int .i64 n', .string t', .slice la2 l'.length lc2, .slice oa2 o'.length oc2] Tpair)) (dP (kIs, .mk k' b' n' t' l' o')) [.string kIs, .int .i64 k', .bool b', .int .i64 n', .string t', .slice la2 l'.length lc2, .slice oa2 o'.length oc2] :=
    (HoldsIn.of_fresh ((dP_fresh (key := kIs) hf4).later (alloc_below w3 (.cells #[.string kIs, .int .i64 k', .bool b', .int .i64 n', .string t', .slice la2 l'.length lc2, .slice oa2 o'.length oc2] Tpair)))).mono fun i _ hi => by
      have hi' : wi.heap.size ≤ i := hi
      have h1 := Hbi.out.size
      exact ⟨by omega, by simp [Value.ownBlock]⟩
  have Hb3 := Lib.hid hb3
  have Hf4 := Lib.hid hf4
  have Hw3 := Lib.hid hw3
  have Hx3 := Lib.hid hx3
  have HX := Lib.hid hX
  clear hb3 hf4 hw3 hx3 hX
  clear d11 d12 d13 d14 d15 d16 d17 hl4
  go_wp2_with (at_builtin; apply Shut.out)
  unfold Shut
  refine wpList_append_X (V := .slice none 0 0) rfl (.tmp 6) (.tmp 11) 227 rfl Tryz.underlying227 Hj.out Hy0.out Hy1.out Hy2.out rfl (by omega) rfl (RowX.nil (fun i => w.heap.size ≤ i) w.heap.size Tpair 7 _) (Nat.le_trans Hw3.out.size (by simp)) (dP_cells _) HX.out rfl (reads_pair _ _ _ _ _ _ _ _) (by simp [maxLen]) (by simp) ?_
  intro V6 w6 hrow6 hg6 hat6
  rw [List.nil_append] at hrow6
  have hx6 := Hx3.out.grown hg6 (by simp [Value.ownBlock])
  have hw6 := below_appX (Hw3.out.alloc Hw3.out.size _) hg6 (RowX.nil (fun i => w.heap.size ≤ i) w.heap.size Tpair 7 w3) (Nat.le_refl _) (Nat.le_trans Hw3.out.size (by simp))
  have hz6 := hw6.size
  have Hx6 := Lib.hid hx6
  have Hw6 := Lib.hid hw6
  have Hrow6 := Lib.hid hrow6
  clear hx6 hw6 hrow6 hg6 hat6
  go_upto_region 4 with (fail)
  iterate 5 go_step
  refine wp_load_blk 85 (.tmp 1) rfl w.heap.size _ Hx6.out rfl _ Tryz.underlying85 rfl (by kernel_rfl) ?_
  go_wp2_with (fail)
  with_reducible refine (HC.out _ Hw6.out).mono ?_
  rintro e w7 ⟨hb7, V, rfl, hP⟩
  obtain ⟨g, c, ns, rfl, hbg, hlt, hR, hA⟩ := hP.parts
  have hw7 := Hw6.out.trans (hb7.mono Hw6.out.size)
  have hrow7 := Hrow6.out.below hb7
  have hX7 : HoldsInA (fun i => w.heap.size ≤ i ∧ V6.ownBlock ≠ some i) w7 (dO G) ns := hA.mono fun i _ hi => by
    have hi' : w6.heap.size ≤ i := hi
    exact ⟨by omega, fun e => by have := (Hrow6.out.base i e).2; omega⟩
  have Hb7 := Lib.hid hb7
  have HP := Lib.hid hP
  have HR := Lib.hid hR
  have HX7 := Lib.hid hX7
  have Hw7 := Lib.hid hw7
  have Hrow7 := Lib.hid hrow7
  clear hb7 hP hR hX7 hw7 hrow7
  clear hA
  go_wp2_with (at_builtin; refine wpList_append_L rfl (.tmp 13) (.tmp 15) 227 rfl Tryz.underlying227 Hj.out Hy0.out Hy1.out Hy2.out rfl (by omega) rfl Hrow7.out Hw7.out.size (dO_cells _) HX7.out rfl HR.out Hdl.out.symm (by have := Hgl.out; simp [maxLen]; omega) (by have := Hgl.out; simp; omega) ?_; intro V8 w8 hrow8 hg8 hat8)
  have hrow9 : RowX (fun i => w.heap.size ≤ i) w.heap.size Tpair 7 w8 (dO ((kIs, .mk k' b' n' t' l' o') :: G)) V8 := by
    have := Hap.out
    simp only [List.singleton_append] at this
    rw [this]
    exact hrow8
  go_ret
  exact ⟨below_appX Hw7.out hg8 Hrow7.out (Nat.le_refl _) Hw7.out.size, V8, rfl, pairs_row hrow9 (by simp)⟩
end Go.Proofs.YtemceefalkfneaaGreatDoor
