/- Parts, joined: patch.object: the object of an op that may be. Condition: a bulk of at most 5 * 10^7. -/
import Derived.Test.YtemceefalkfneaaGreatDoorProg
import Derived.Test.YtemceefalkfneaaGreatDoorKCm15
import Derived.Test.YtemceefalkfneaaGreatDoorKCm17
import Derived.Test.YtemceefalkfneaaGreatDoorKCm21
import Derived.Test.YtemceefalkfneaaGreatDoorKCm28
import Derived.Test.YtemceefalkfneaaGreatDoorKPullSpoilt2
import Derived.Test.YtemceefalkfneaaGreatDoorKPullSpoilt4

/- patch.object: the object of an op that may be. Condition: a bulk of at most 5 * 10^7. -/
namespace Go.Proofs.YtemceefalkfneaaGreatDoor
open Go Go.RowKit

/-- The table of the ops' names. -/
def Names (w : World) : Prop := w.cell? ⟨0, 1, none⟩ = some (.string sPut) ∧ w.cell? ⟨0, 2, none⟩ = some (.string sDel) ∧ w.cell? ⟨0, 3, none⟩ = some (.string sClear) ∧ 0 < w.heap.size
theorem Names.below {w w' : World} (h : Names w) (hb : Below w.heap.size w w') : Names w' :=
  ⟨(hb.cell h.2.2.2).trans h.1, (hb.cell h.2.2.2).trans h.2.1, (hb.cell h.2.2.2).trans h.2.2.1, Nat.lt_of_lt_of_le h.2.2.2 hb.size⟩

theorem clear_obj : objAll [(kOp, tv sClear)] [] = some [(kOp, tv sClear)] := by rfl
theorem del_obj (key : ByteArray) : objAll [(kOp, tv sDel), (kKey, tv key)] [] = some [(kKey, tv key), (kOp, tv sDel)] := by kernel_rfl
theorem put_obj (key : ByteArray) (v : Val) : objAll [(kOp, tv sPut), (kVal, v), (kKey, tv key)] [] = some [(kKey, tv key), (kOp, tv sPut), (kVal, v)] := by kernel_rfl

set_option maxRecDepth 100000 in
set_option maxHeartbeats 2000000 in
theorem obj_clear (key : ByteArray) (c0 : Int) (c1 : Bool) (c2 : Int) (c3 : ByteArray) (c4a c5a : Option Addr) (c4n c4c c5n c5c : Nat) (w : World) (hN : Names w) :
    Calls Tryz.prog 45 #[.agg #[.int .i64 3, .string key, .int .i64 c0, .bool c1, .int .i64 c2, .string c3, .slice c4a c4n c4c, .slice c5a c5n c5c]] w (MadePost [(kOp, tv sClear)] w) := by
  obtain ⟨n1, n2, n3, n4⟩ := hN
  have hO := fun (W : World) a n c h => vobj_ok [(kOp, tv sClear)] _ a n c W h (by decide) clear_obj
  have hX := fun W => textual_calls sClear W
  have hR := fun (W : World) => op_row W sClear
  have HO := Lib.hid hO
  have HX := Lib.hid hX
  have HR := Lib.hid hR
  clear hO hX hR
  go_enter Tryz.func45, Tryz.ntmps45
  go_wp2_with (first
    | (go_at_call 77; (with_reducible refine (HX.out _).mono ?_); rintro e w1 ⟨rfl, hb1⟩; obtain ⟨hc1, hf1⟩ := bcell hb1; obtain ⟨hz0, hz1⟩ := size3 hb1)
    | (fail))
  with_reducible refine (HO.out _ _ _ _ (HR.out w1).now).mono ?_
  rintro e w2 ⟨hb2, la, lc, oa, oc, rfl, hf2⟩
  have hz2 : w1.heap.size < w2.heap.size := by have := hb2.size; simp at this; omega
  have hz4 : w.heap.size + 1 < w2.heap.size := by omega
  have hx2 := res_box hb1 hb2
  obtain ⟨r0, r1, r2, r3, r4, r5⟩ := vcell hx2
  have fz := hx2.frozen
  have Hx2 := Lib.hid hx2
  have Hb1 := Lib.hid hb1
  have Hb2 := Lib.hid hb2
  have Hf2 := Lib.hid hf2
  clear hx2 hb1 hb2 hf2
  clear hc1 hf1 n1 n2 n3 n4 HO HX HR
  go_upto_region 8 with (fail)
  repeat go_step
  have hB2 : Below w.heap.size w w2 := (((((Below.refl w.heap.size w).alloc (Nat.le_refl _) _).alloc (by simp) _).trans (Hb1.out.mono (by simp; omega))).alloc (by omega) _).trans (Hb2.out.mono (by simp; omega))
  obtain ⟨q1, q2⟩ := fin_res (R := w.heap.size + 1) (o := .cells #[.int .i64 6, .bool false, .int .i64 0, .string ⟨#[]⟩, .slice la 0 lc, .slice oa 1 oc] 52) [.int .i64 6, .bool false, .int .i64 0, .string ⟨#[]⟩, .slice la 0 lc, .slice oa 1 oc] hB2 (by omega) (by omega) (by simp; omega) Hf2.out
  have hxf := ((((((Hx2.out.set_ 0 (.int .i64 6)).set_ 1 (.bool false)).set_ 2 (.int .i64 0)).set_ 3 (.string ⟨#[]⟩)).set_ 4 (.slice la 0 lc)).set_ 5 (.slice oa 1 oc)).alloc (.cells #[.int .i64 6, .bool false, .int .i64 0, .string ⟨#[]⟩, .slice la 0 lc, .slice oa 1 oc] 52)
  exact bodyPost_ret (results_cell6 rfl rfl hxf) rfl ⟨q1, la, lc, oa, oc, rfl, q2⟩

set_option maxRecDepth 100000 in
set_option maxHeartbeats 2000000 in
theorem obj_del (key : ByteArray) (hkey : key.size ≤ 1000) (c0 : Int) (c1 : Bool) (c2 : Int) (c3 : ByteArray) (c4a c5a : Option Addr) (c4n c4c c5n c5c : Nat) (w : World) (hN : Names w) :
    Calls Tryz.prog 45 #[.agg #[.int .i64 2, .string key, .int .i64 c0, .bool c1, .int .i64 c2, .string c3, .slice c4a c4n c4c, .slice c5a c5n c5c]] w (MadePost [(kKey, tv key), (kOp, tv sDel)] w) := by
  obtain ⟨n1, n2, n3, n4⟩ := hN
  obtain ⟨j0, hj, hy0, hy1, hy2⟩ := info_parts mem_info
  have hO := fun (W : World) a n c h => vobj_ok [(kOp, tv sDel), (kKey, tv key)] _ a n c W h (by have e1 : nil0.size = 0 := rfl; have e2 : kKey.size = 3 := rfl; have e3 : kOp.size = 2 := rfl; have e6 : sDel.size = 3 := rfl; simp only [bulkO, bulkP, tv, Val.bulk, bulkL, e2, e3, e6]; omega) (del_obj key)
  have hX := fun W => textual_calls sDel W
  have hY := fun W => textual_calls key W
  have hR := fun (W : World) => op_row W sDel
  have HO := Lib.hid hO
  have HX := Lib.hid hX
  have HR := Lib.hid hR
  have Hj := Lib.hid hj
  have Hy0 := Lib.hid hy0
  have Hy1 := Lib.hid hy1
  have Hy2 := Lib.hid hy2
  have HY := Lib.hid hY
  clear hO hX hR hj hy0 hy1 hy2 hY
  go_enter Tryz.func45, Tryz.ntmps45
  go_wp2_with (first
    | (go_at_call 77; (with_reducible refine (HX.out _).mono ?_); rintro e w1 ⟨rfl, hb1⟩; obtain ⟨hc1, hf1⟩ := bcell hb1; obtain ⟨hz0, hz1⟩ := size3 hb1; have HXd := HX; clear HX)
    | (fail))
  have hq2 := below_two w (.cells #[.int .i64 2, .string key, .int .i64 c0, .bool c1, .int .i64 c2, .string c3, .slice c4a c4n c4c, .slice c5a c5n c5c] 61) (.cells zero6 52)
  have hx1 : Blk (w1.alloc (.cells #[.string kOp, .int .i64 4, .bool false, .int .i64 0, .string sDel, .slice none 0 0, .slice none 0 0] 57)) (w.heap.size + 1) 52 zero6 := res_box (w1 := w1) hb1 (Below.refl _ _)
  have hw1 : Below w.heap.size w (w1.alloc (.cells #[.string kOp, .int .i64 4, .bool false, .int .i64 0, .string sDel, .slice none 0 0, .slice none 0 0] 57)) := (hq2.trans (hb1.mono hq2.size)).alloc (by omega) _
  have Hq2 := Lib.hid hq2
  have Hx1 := Lib.hid hx1
  have Hw1 := Lib.hid hw1
  have Hb1 := Lib.hid hb1
  clear hq2 hx1 hw1 hb1
  go_at_call 77
  with_reducible refine (HY.out _).mono ?_
  rintro e w2 ⟨rfl, hb2⟩
  have hs2 : w1.heap.size + 1 ≤ w2.heap.size := by have := hb2.size; simpa using this
  have hx2 := (Hx1.out.below hb2 Hx1.out.lt).alloc (.cells #[.string kKey, .int .i64 4, .bool false, .int .i64 0, .string key, .slice none 0 0, .slice none 0 0] 57)
  have hw2 := (Hw1.out.trans (hb2.mono Hw1.out.size)).alloc (by omega) (.cells #[.string kKey, .int .i64 4, .bool false, .int .i64 0, .string key, .slice none 0 0, .slice none 0 0] 57)
  have hbe := hb2.alloc hb2.size (.cells #[.string kKey, .int .i64 4, .bool false, .int .i64 0, .string key, .slice none 0 0, .slice none 0 0] 57)
  have Hx2 := Lib.hid hx2
  have Hw2 := Lib.hid hw2
  have Hb2 := Lib.hid hb2
  have Hbe := Lib.hid hbe
  clear hx2 hw2 hb2 hbe
  clear hc1 hf1 n1 n2 n3
  go_wp2_with (at_builtin; refine wpList_append_D (V := .slice (some ⟨w1.heap.size, 0, none⟩) 1 1) rfl (.tmp 26) (.tmp 31) 50 rfl Tryz.underlying50 Hj.out Hy0.out Hy1.out Hy2.out rfl (by omega) rfl (HR.out w1) (by simp) Hbe.out (dP_cells (kKey, tv key)) (fresh_tvP _ _ kKey key) rfl (reads_seven w2 _ _ _ _ _ _ _) (by simp [maxLen, dO]) (by simp [dO]) ?_; intro V6 w6 hrow6 hg6 hat6)
  have hx6 := blk_app Hx2.out hg6 (HR.out w1) (by omega)
  have hw6 := below_app Hw2.out hg6 (HR.out w1) (by omega) (by simp; omega)
  obtain ⟨a6, c6, rfl⟩ := hrow6.slice_n (n := 2) rfl
  have hN6 : Holds w6 w6.heap.size (.row 7 (dO [(kOp, tv sDel), (kKey, tv key)])) [.slice a6 2 c6] := RowD.now (l := dO [(kOp, tv sDel), (kKey, tv key)]) hrow6
  have hs6 : w2.heap.size + 1 ≤ w6.heap.size := by have := hg6.size; simpa using this
  have Hx6 := Lib.hid hx6
  have Hw6 := Lib.hid hw6
  have HN6 := Lib.hid hN6
  clear hx6 hw6 hN6
  clear hrow6 hg6 hat6
  with_reducible refine (HO.out _ _ _ _ HN6.out).mono ?_
  rintro e w7 ⟨hb7, la, lc, oa, oc, rfl, hf7⟩
  have hs7 := hb7.size
  have hz4 : w.heap.size + 1 < w7.heap.size := by omega
  have hx7 := Hx6.out.below hb7 Hx6.out.lt
  obtain ⟨r0, r1, r2, r3, r4, r5⟩ := vcell hx7
  have fz := hx7.frozen
  have Hx7 := Lib.hid hx7
  have Hb7 := Lib.hid hb7
  have Hf7 := Lib.hid hf7
  clear hx7 hb7 hf7
  clear n4 HO HXd HR HY
  go_upto_region 8 with (fail)
  repeat go_step
  have hB2 := Hw6.out.trans (Hb7.out.mono Hw6.out.size)
  obtain ⟨q1, q2⟩ := fin_res (R := w.heap.size + 1) (o := .cells #[.int .i64 6, .bool false, .int .i64 0, .string ⟨#[]⟩, .slice la 0 lc, .slice oa 2 oc] 52) [.int .i64 6, .bool false, .int .i64 0, .string ⟨#[]⟩, .slice la 0 lc, .slice oa 2 oc] hB2 (by omega) (by omega) (by omega) Hf7.out
  have hxf := ((((((Hx7.out.set_ 0 (.int .i64 6)).set_ 1 (.bool false)).set_ 2 (.int .i64 0)).set_ 3 (.string ⟨#[]⟩)).set_ 4 (.slice la 0 lc)).set_ 5 (.slice oa 2 oc)).alloc (.cells #[.int .i64 6, .bool false, .int .i64 0, .string ⟨#[]⟩, .slice la 0 lc, .slice oa 2 oc] 52)
  exact bodyPost_ret (results_cell6 rfl rfl hxf) rfl ⟨q1, la, lc, oa, oc, rfl, q2⟩

/-- The op's variable, behind a call. -/
theorem op_box {w w1 : World} {cs : Array Value} {o' o'' : Obj} (hb1 : Below ((w.alloc (.cells cs 61)).alloc o').heap.size ((w.alloc (.cells cs 61)).alloc o') w1) : Blk (w1.alloc o'') w.heap.size 61 cs := by
  have h0 : Blk ((w.alloc (.cells cs 61)).alloc o') w.heap.size 61 cs := (Blk.new _ _ _).alloc _
  exact (h0.below hb1 h0.lt).alloc _

set_option maxRecDepth 100000 in
set_option maxHeartbeats 4000000 in
theorem obj_put (key : ByteArray) (hkey : key.size ≤ 1000) (k' : Int) (b' : Bool) (n' : Int) (t' : ByteArray) (l' : List Val) (o' : List (ByteArray × Val)) (la' oa' : Option Addr) (lc' oc' : Nat) (w : World) (hN : Names w)
    (hv : HoldsV w w.heap.size (.mk k' b' n' t' l' o') [.int .i64 k', .bool b', .int .i64 n', .string t', .slice la' l'.length lc', .slice oa' o'.length oc']) (hb : (Val.mk k' b' n' t' l' o').bulk ≤ 80000000) :
    Calls Tryz.prog 45 #[.agg #[.int .i64 1, .string key, .int .i64 k', .bool b', .int .i64 n', .string t', .slice la' l'.length lc', .slice oa' o'.length oc']] w (MadePost [(kKey, tv key), (kOp, tv sPut), (kVal, .mk k' b' n' t' l' o')] w) := by
  obtain ⟨n1, n2, n3, n4⟩ := hN
  obtain ⟨j0, hj, hy0, hy1, hy2⟩ := info_parts mem_info
  have hO := fun (W : World) a n c h => vobj_ok [(kOp, tv sPut), (kVal, .mk k' b' n' t' l' o'), (kKey, tv key)] _ a n c W h (by
    have e1 : nil0.size = 0 := rfl
    have e2 : kKey.size = 3 := rfl
    have e3 : kOp.size = 2 := rfl
    have e4 : kVal.size = 5 := rfl
    have e6 : sPut.size = 3 := rfl
    have e7 : (tv sPut).bulk = 9 := rfl
    have e8 : (tv key).bulk = 6 + key.size := by simp [tv, Val.bulk, bulkL, bulkO]
    simp only [bulkO, bulkP, e2, e3, e4, e7, e8]
    omega) (put_obj key _)
  have hX := fun W => textual_calls sPut W
  have hY := fun W => textual_calls key W
  have hR := fun (W : World) => op_row W sPut
  have hVC : ∀ W, Below w.heap.size w W → Calls Tryz.prog 78 #[.agg #[.int .i64 k', .bool b', .int .i64 n', .string t', .slice la' l'.length lc', .slice oa' o'.length oc']] W fun e w' => Below W.heap.size W w' ∧ ∃ la2 lc2 oa2 oc2, e = .returned (.agg #[.int .i64 k', .bool b', .int .i64 n', .string t', .slice la2 l'.length lc2, .slice oa2 o'.length oc2]) ∧ Fresh W.heap.size w' (dV (.mk k' b' n' t' l' o')) [.int .i64 k', .bool b', .int .i64 n', .string t', .slice la2 l'.length lc2, .slice oa2 o'.length oc2] := by
    intro W hW
    refine (vcopy_calls _ _ W (HoldsV.more hW.size _ _ (hv.below hW)) (by omega)).mono ?_
    rintro e w' ⟨⟨cs, rfl, hl, hf⟩, hb'⟩
    have hh := holdsV_of _ _ hf.now
    simp only [HoldsV] at hh
    obtain ⟨la2, lc2, oa2, oc2, rfl, _, _⟩ := hh
    exact ⟨hb', la2, lc2, oa2, oc2, rfl, hf⟩
  have HO := Lib.hid hO
  have HX := Lib.hid hX
  have HR := Lib.hid hR
  have Hj := Lib.hid hj
  have Hy0 := Lib.hid hy0
  have Hy1 := Lib.hid hy1
  have Hy2 := Lib.hid hy2
  have HY := Lib.hid hY
  have HVC := Lib.hid hVC
  have Hv := Lib.hid hv
  clear hO hX hR hj hy0 hy1 hy2 hY hVC hv
  go_enter Tryz.func45, Tryz.ntmps45
  go_wp2_with (first
    | (go_at_call 77; (with_reducible refine (HX.out _).mono ?_); rintro e w1 ⟨rfl, hb1⟩; obtain ⟨hc1, hf1⟩ := bcell hb1; obtain ⟨hz0, hz1⟩ := size3 hb1; have HXd := HX; clear HX)
    | (fail))
  have hq2 := below_two w (.cells #[.int .i64 1, .string key, .int .i64 k', .bool b', .int .i64 n', .string t', .slice la' l'.length lc', .slice oa' o'.length oc'] 61) (.cells zero6 52)
  have hx1 : Blk (w1.alloc (.cells #[.string kOp, .int .i64 4, .bool false, .int .i64 0, .string sPut, .slice none 0 0, .slice none 0 0] 57)) (w.heap.size + 1) 52 zero6 := res_box (w1 := w1) hb1 (Below.refl _ _)
  have ho1 : Blk (w1.alloc (.cells #[.string kOp, .int .i64 4, .bool false, .int .i64 0, .string sPut, .slice none 0 0, .slice none 0 0] 57)) w.heap.size 61 #[.int .i64 1, .string key, .int .i64 k', .bool b', .int .i64 n', .string t', .slice la' l'.length lc', .slice oa' o'.length oc'] := op_box hb1
  have hw1 : Below w.heap.size w (w1.alloc (.cells #[.string kOp, .int .i64 4, .bool false, .int .i64 0, .string sPut, .slice none 0 0, .slice none 0 0] 57)) := (hq2.trans (hb1.mono hq2.size)).alloc (by omega) _
  have Hq2 := Lib.hid hq2
  have Hx1 := Lib.hid hx1
  have Hw1 := Lib.hid hw1
  have Hb1 := Lib.hid hb1
  have Ho1 := Lib.hid ho1
  clear hq2 hx1 hw1 hb1 ho1
  go_at_call 78
  with_reducible refine (HVC.out _ Hw1.out).mono ?_
  rintro e w2 ⟨hb2, la2, lc2, oa2, oc2, rfl, hf2⟩
  have hs2 : w1.heap.size + 1 ≤ w2.heap.size := by have := hb2.size; simpa using this
  have hx2 := (Hx1.out.below hb2 Hx1.out.lt).alloc (.cells #[.string kVal, .int .i64 k', .bool b', .int .i64 n', .string t', .slice la2 l'.length lc2, .slice oa2 o'.length oc2] 57)
  have ho2 := (Ho1.out.below hb2 Ho1.out.lt).alloc (.cells #[.string kVal, .int .i64 k', .bool b', .int .i64 n', .string t', .slice la2 l'.length lc2, .slice oa2 o'.length oc2] 57)
  have hw2 := (Hw1.out.trans (hb2.mono Hw1.out.size)).alloc (by omega) (.cells #[.string kVal, .int .i64 k', .bool b', .int .i64 n', .string t', .slice la2 l'.length lc2, .slice oa2 o'.length oc2] 57)
  have hbe := hb2.alloc hb2.size (.cells #[.string kVal, .int .i64 k', .bool b', .int .i64 n', .string t', .slice la2 l'.length lc2, .slice oa2 o'.length oc2] 57)
  have hfe := (dP_fresh (key := kVal) hf2).later (alloc_below w2 (.cells #[.string kVal, .int .i64 k', .bool b', .int .i64 n', .string t', .slice la2 l'.length lc2, .slice oa2 o'.length oc2] 57))
  have Hx2 := Lib.hid hx2
  have Hw2 := Lib.hid hw2
  have Hb2 := Lib.hid hb2
  have Hbe := Lib.hid hbe
  have Ho2 := Lib.hid ho2
  have Hf2 := Lib.hid hf2
  have Hfe := Lib.hid hfe
  clear hx2 hw2 hb2 hbe ho2 hf2 hfe
  clear hc1 hf1 n1 n2 n3
  go_wp2_with (at_builtin; refine wpList_append_D (V := .slice (some ⟨w1.heap.size, 0, none⟩) 1 1) rfl (.tmp 19) (.tmp 24) 50 rfl Tryz.underlying50 Hj.out Hy0.out Hy1.out Hy2.out rfl (by omega) rfl (HR.out w1) (by simp) Hbe.out (dP_cells (kVal, .mk k' b' n' t' l' o')) Hfe.out rfl (reads_seven w2 _ _ _ _ _ _ _) (by simp [maxLen, dO]) (by simp [dO]) ?_; intro V6 w6 hrow6 hg6 hat6; obtain ⟨_, e6, _⟩ := ocell (blk_app Ho2.out hg6 (HR.out w1) (by omega)))
  have hx6 := blk_app Hx2.out hg6 (HR.out w1) (by omega)
  have hw6 := below_app Hw2.out hg6 (HR.out w1) (by omega) (by simp; omega)
  have hs6 : w2.heap.size + 1 ≤ w6.heap.size := by have := hg6.size; simpa using this
  have Hx6 := Lib.hid hx6
  have Hw6 := Lib.hid hw6
  have Hrow6 := Lib.hid hrow6
  have Hg6 := Lib.hid hg6
  have Hat6 := Lib.hid hat6
  clear hx6 hw6 hrow6 hg6 hat6
  go_at_call 77
  with_reducible refine (HY.out _).mono ?_
  rintro e w7 ⟨rfl, hb7⟩
  have hs7 := hb7.size
  have hx7 := (Hx6.out.below hb7 Hx6.out.lt).alloc (.cells #[.string kKey, .int .i64 4, .bool false, .int .i64 0, .string key, .slice none 0 0, .slice none 0 0] 57)
  have hw7 := (Hw6.out.trans (hb7.mono Hw6.out.size)).alloc (by omega) (.cells #[.string kKey, .int .i64 4, .bool false, .int .i64 0, .string key, .slice none 0 0, .slice none 0 0] 57)
  have hbe7 := hb7.alloc hb7.size (.cells #[.string kKey, .int .i64 4, .bool false, .int .i64 0, .string key, .slice none 0 0, .slice none 0 0] 57)
  have Hx7 := Lib.hid hx7
  have Hw7 := Lib.hid hw7
  have Hb7 := Lib.hid hb7
  have Hbe7 := Lib.hid hbe7
  clear hx7 hw7 hb7 hbe7
  go_wp2_with (at_builtin; refine wpList_append_D (V := V6) rfl (.tmp 26) (.tmp 31) 50 rfl Tryz.underlying50 Hj.out Hy0.out Hy1.out Hy2.out rfl (by omega) rfl Hrow6.out (by omega) Hbe7.out (dP_cells (kKey, tv key)) (fresh_tvP _ _ kKey key) rfl (reads_seven w7 _ _ _ _ _ _ _) (by simp [maxLen, dO]) (by simp [dO]) ?_; intro V9 w9 hrow9 hg9 hat9)
  have hx9 := blk_app Hx7.out hg9 Hrow6.out (by omega)
  have hw9 := below_app Hw7.out hg9 Hrow6.out (by omega) (by simp; omega)
  have hs9 : w7.heap.size + 1 ≤ w9.heap.size := by have := hg9.size; simpa using this
  obtain ⟨a9, c9, rfl⟩ := hrow9.slice_n (n := 3) rfl
  have hN9 : Holds w9 w9.heap.size (.row 7 (dO [(kOp, tv sPut), (kVal, .mk k' b' n' t' l' o'), (kKey, tv key)])) [.slice a9 3 c9] := RowD.now (l := dO [(kOp, tv sPut), (kVal, .mk k' b' n' t' l' o'), (kKey, tv key)]) hrow9
  have Hx9 := Lib.hid hx9
  have Hw9 := Lib.hid hw9
  have HN9 := Lib.hid hN9
  clear hx9 hw9 hN9
  clear hrow9 hg9 hat9
  with_reducible refine (HO.out _ _ _ _ HN9.out).mono ?_
  rintro e wa ⟨hba, la, lc, oa, oc, rfl, hfa⟩
  have hsa := hba.size
  have hz4 : w.heap.size + 1 < wa.heap.size := by omega
  have hxa := Hx9.out.below hba Hx9.out.lt
  obtain ⟨r0, r1, r2, r3, r4, r5⟩ := vcell hxa
  have fz := hxa.frozen
  have Hxa := Lib.hid hxa
  have Hba := Lib.hid hba
  have Hfa := Lib.hid hfa
  clear hxa hba hfa
  clear n4 HO HXd HR HY HVC e6
  go_upto_region 8 with (fail)
  repeat go_step
  have hB2 := Hw9.out.trans (Hba.out.mono Hw9.out.size)
  obtain ⟨q1, q2⟩ := fin_res (R := w.heap.size + 1) (o := .cells #[.int .i64 6, .bool false, .int .i64 0, .string ⟨#[]⟩, .slice la 0 lc, .slice oa 3 oc] 52) [.int .i64 6, .bool false, .int .i64 0, .string ⟨#[]⟩, .slice la 0 lc, .slice oa 3 oc] hB2 (by omega) (by omega) (by omega) Hfa.out
  have hxf := ((((((Hxa.out.set_ 0 (.int .i64 6)).set_ 1 (.bool false)).set_ 2 (.int .i64 0)).set_ 3 (.string ⟨#[]⟩)).set_ 4 (.slice la 0 lc)).set_ 5 (.slice oa 3 oc)).alloc (.cells #[.int .i64 6, .bool false, .int .i64 0, .string ⟨#[]⟩, .slice la 0 lc, .slice oa 3 oc] 52)
  exact bodyPost_ret (results_cell6 rfl rfl hxf) rfl ⟨q1, la, lc, oa, oc, rfl, q2⟩
end Go.Proofs.YtemceefalkfneaaGreatDoor
