/- Parts, joined: mutator.strange: has a mutator something that its Kind does not name? Condition: none. -/
import Derived.Test.YtemceefalkfneaaGreatDoorProg
import Derived.Test.YtemceefalkfneaaGreatDoorKPushSpoilt4
import Derived.Test.YtemceefalkfneaaGreatDoorKPushSpoilt12
/- mutator.strange: has a mutator something that its Kind does not name? Condition: none. -/
namespace Go.Proofs.YtemceefalkfneaaGreatDoor
open Go.RowKit

theorem zero6_none : zero6B 0 false 0 ⟨#[]⟩ 0 0 = true := by simp [zero6B, Lib.toList_data]
theorem empty_none : (⟨#[]⟩ : ByteArray).toList.isEmpty = true := by rw [Lib.toList_data]; rfl
set_option maxRecDepth 100000 in
set_option maxHeartbeats 8000000 in
theorem mstrange_calls (k : Int) (key dst : ByteArray) (n : Int) (had : Bool) (k1 : Int) (b1 : Bool) (n1 : Int) (t1 : ByteArray) (l1 : List Val) (o1 : List (ByteArray × Val)) (has : Bool) (k2 : Int) (b2 : Bool) (n2 : Int) (t2 : ByteArray) (l2 : List Val) (o2 : List (ByteArray × Val)) (l : List Mut) (la1 : Option Addr) (lc1 : Nat) (oa1 : Option Addr) (oc1 : Nat) (la2 : Option Addr) (lc2 : Nat) (oa2 : Option Addr) (oc2 : Nat) (a : Option Addr) (c : Nat) (w : World) :
    Calls Tryz.prog 144 #[.agg #[.int .i64 k, .string key, .string dst, .int .i64 n, .bool had, .int .i64 k1, .bool b1, .int .i64 n1, .string t1, .slice la1 l1.length lc1, .slice oa1 o1.length oc1, .bool has, .int .i64 k2, .bool b2, .int .i64 n2, .string t2, .slice la2 l2.length lc2, .slice oa2 o2.length oc2, .slice a l.length c]] w fun e w' => e = .returned (.bool (strangeF k dst n had (zeroB (.mk k1 b1 n1 t1 l1 o1)) has (zeroB (.mk k2 b2 n2 t2 l2 o2)) l.length)) ∧ Below w.heap.size w w' := by
  have q1 : zeroB (.mk k1 b1 n1 t1 l1 o1) = zero6B k1 b1 n1 t1 l1.length o1.length := rfl
  have q2 : zeroB (.mk k2 b2 n2 t2 l2 o2) = zero6B k2 b2 n2 t2 l2.length o2.length := rfl
  rw [q1, q2]
  clear q1 q2
  obtain ⟨Z1, hZ1⟩ : ∃ Z, zero6B k1 b1 n1 t1 l1.length o1.length = Z := ⟨_, rfl⟩
  obtain ⟨Z2, hZ2⟩ : ∃ Z, zero6B k2 b2 n2 t2 l2.length o2.length = Z := ⟨_, rfl⟩
  have h1 := fun W => mzero_calls k1 b1 n1 t1 la1 oa1 l1.length lc1 o1.length oc1 Z1 W hZ1
  have h2 := fun W => mzero_calls k2 b2 n2 t2 la2 oa2 l2.length lc2 o2.length oc2 Z2 W hZ2
  rw [hZ1, hZ2]
  obtain ⟨S, hS⟩ : ∃ S, strangeF k dst n had Z1 has Z2 l.length = S := ⟨_, rfl⟩
  rw [hS]
  obtain ⟨wi, hwi⟩ : ∃ wi, w.alloc (.cells #[.int .i64 k, .string key, .string dst, .int .i64 n, .bool had, .int .i64 k1, .bool b1, .int .i64 n1, .string t1, .slice la1 l1.length lc1, .slice oa1 o1.length oc1, .bool has, .int .i64 k2, .bool b2, .int .i64 n2, .string t2, .slice la2 l2.length lc2, .slice oa2 o2.length oc2, .slice a l.length c] 85) = wi := ⟨_, rfl⟩
  have hbi : Below w.heap.size w wi := hwi ▸ alloc_below _ _
  have hxb : Blk wi w.heap.size 85 #[.int .i64 k, .string key, .string dst, .int .i64 n, .bool had, .int .i64 k1, .bool b1, .int .i64 n1, .string t1, .slice la1 l1.length lc1, .slice oa1 o1.length oc1, .bool has, .int .i64 k2, .bool b2, .int .i64 n2, .string t2, .slice la2 l2.length lc2, .slice oa2 o2.length oc2, .slice a l.length c] := hwi ▸ Blk.new _ _ _
  have hgb := hxb.lt
  obtain ⟨y0, y1, y2, y3, y4, y5, y6, y7, y8, y9, y10, y11, y12, y13, y14, y15, y16, y17, y18⟩ := mcell19 hxb
  have H1 := Lib.hid h1
  have H2 := Lib.hid h2
  have Hxb := Lib.hid hxb
  have Hbi := Lib.hid hbi
  have HZ1 := Lib.hid hZ1
  have HZ2 := Lib.hid hZ2
  have HS := Lib.hid hS
  clear h1 h2 hxb hbi hZ1 hZ2 hS
  go_enter Tryz.func144, Tryz.ntmps144
  go_upto_region 1 with (fail)
  clear hwi
  go_cut [12] (fun s wx => s = .bool (!had && !Z1) ∧ Hid (Below wi.heap.size wi wx))
  case first =>
    cases had with
    | true =>
      go_wp2
      go_meet
      exact ⟨rfl, Below.refl _ _⟩
    | false =>
      go_wp2_with (fail)
      with_reducible refine (H1.out _).mono ?_
      rintro e w2 ⟨rfl, hb2⟩
      go_wp2
      go_meet
      exact ⟨by simp, hb2⟩
  case rest =>
    obtain ⟨rfl, hbx⟩ := hcut
    clear y0 y1 y2 y3 y4 y5 y6 y7 y8 y9 y10 y11 y12 y13 y14 y15 y16 y17 y18
    have hxc := Hxb.out.below hbx.out Hxb.out.lt
    have hbw := Hbi.out.trans (hbx.out.mono Hbi.out.size)
    have hgc := hxc.lt
    obtain ⟨y0, y1, y2, y3, y4, y5, y6, y7, y8, y9, y10, y11, y12, y13, y14, y15, y16, y17, y18⟩ := mcell19 hxc
    have Hxc := Lib.hid hxc
    have Hbw := Lib.hid hbw
    clear hxc hbw
    by_cases h0 : (!had && !Z1) = true
    · have hE : S = true := by rw [← HS.out]; unfold strangeF; rw [if_pos h0]
      rw [h0]
      go_wp2
      go_ret
      exact ⟨by rw [hE]; rfl, Hbw.out⟩
    have h00 : (!had && !Z1) = false := by simpa using h0
    rw [h00]
    go_upto_region 3 with (fail)
    iterate 2 go_step
    refine wp_load_blk 85 (.tmp 1) rfl w.heap.size #[.int .i64 k, .string key, .string dst, .int .i64 n, .bool had, .int .i64 k1, .bool b1, .int .i64 n1, .string t1, .slice la1 l1.length lc1, .slice oa1 o1.length oc1, .bool has, .int .i64 k2, .bool b2, .int .i64 n2, .string t2, .slice la2 l2.length lc2, .slice oa2 o2.length oc2, .slice a l.length c] Hxc.out rfl _ Tryz.underlying85 rfl (by kernel_rfl) ?_
    iterate 5 go_step
    refine wp_store_new 85 (.tmp 3) (.tmp 13) rfl #[.int .i64 k, .string key, .string dst, .int .i64 n, .bool had, .int .i64 k1, .bool b1, .int .i64 n1, .string t1, .slice la1 l1.length lc1, .slice oa1 o1.length oc1, .bool has, .int .i64 k2, .bool b2, .int .i64 n2, .string t2, .slice la2 l2.length lc2, .slice oa2 o2.length oc2, .slice a l.length c] rfl rfl rfl (by kernel_rfl) (by simp [Value.oneCell']) ?_
    by_cases e1 : k = 1
    · subst e1
      have hE : S = (!blankB ⟨#[]⟩ dst n had Z1 has true l.length) := by rw [← HS.out]; simp [strangeF, blankB, h00]
      have HE := Lib.hid hE
      clear hE
      go_upto_region 21 with (fail)
      iterate 2 go_step
      refine wp_load_blk 85 (.tmp 3) rfl _ _ (Blk.new _ _ _) rfl _ Tryz.underlying85 rfl (by kernel_rfl) ?_
      go_wp2_with (go_at_call 210; (with_reducible refine (blank_calls _ _ _ _ _ _ _ _ _ _ _ _ _ _ _ _ _ _ _ _ _ _ _ _ _ _ _ _ _ _).mono ?_); rintro e w5 ⟨rfl, hb5⟩)
      go_ret
      refine ⟨?_, Hbw.out.trans (((alloc_below _ _).trans (hb5.mono (by simp))).mono Hbw.out.size)⟩
      rw [HE.out]
      simp only [HZ1.out, zero6_none]
      rfl
    have tk1 : (k == 1) = false := by simpa using e1
    by_cases e5 : k = 5
    · subst e5
      have hE : S = (!blankB ⟨#[]⟩ dst n had Z1 has true l.length) := by rw [← HS.out]; simp [strangeF, blankB, h00]
      have HE := Lib.hid hE
      clear hE
      go_upto_region 21 with (fail)
      iterate 2 go_step
      refine wp_load_blk 85 (.tmp 3) rfl _ _ (Blk.new _ _ _) rfl _ Tryz.underlying85 rfl (by kernel_rfl) ?_
      go_wp2_with (go_at_call 210; (with_reducible refine (blank_calls _ _ _ _ _ _ _ _ _ _ _ _ _ _ _ _ _ _ _ _ _ _ _ _ _ _ _ _ _ _).mono ?_); rintro e w5 ⟨rfl, hb5⟩)
      go_ret
      refine ⟨?_, Hbw.out.trans (((alloc_below _ _).trans (hb5.mono (by simp))).mono Hbw.out.size)⟩
      rw [HE.out]
      simp only [HZ1.out, zero6_none]
      rfl
    have tk5 : (k == 5) = false := by simpa using e5
    by_cases e2 : k = 2
    · subst e2
      have hE : S = (!blankB ⟨#[]⟩ dst n had Z1 has Z2 l.length) := by rw [← HS.out]; simp [strangeF, blankB, h00]
      have HE := Lib.hid hE
      clear hE
      go_upto_region 21 with (fail)
      iterate 2 go_step
      refine wp_load_blk 85 (.tmp 3) rfl _ _ (Blk.new _ _ _) rfl _ Tryz.underlying85 rfl (by kernel_rfl) ?_
      go_wp2_with (go_at_call 210; (with_reducible refine (blank_calls _ _ _ _ _ _ _ _ _ _ _ _ _ _ _ _ _ _ _ _ _ _ _ _ _ _ _ _ _ _).mono ?_); rintro e w5 ⟨rfl, hb5⟩)
      go_ret
      refine ⟨?_, Hbw.out.trans (((alloc_below _ _).trans (hb5.mono (by simp))).mono Hbw.out.size)⟩
      rw [HE.out]
      simp only [HZ1.out, HZ2.out]
      rfl
    have tk2 : (k == 2) = false := by simpa using e2
    by_cases e3 : k = 3
    · subst e3
      have hE : S = (!blankB ⟨#[]⟩ dst 0 had Z1 has Z2 l.length) := by rw [← HS.out]; simp [strangeF, blankB, h00]
      have HE := Lib.hid hE
      clear hE
      go_upto_region 21 with (fail)
      iterate 2 go_step
      refine wp_load_blk 85 (.tmp 3) rfl _ _ (Blk.new _ _ _) rfl _ Tryz.underlying85 rfl (by kernel_rfl) ?_
      go_wp2_with (go_at_call 210; (with_reducible refine (blank_calls _ _ _ _ _ _ _ _ _ _ _ _ _ _ _ _ _ _ _ _ _ _ _ _ _ _ _ _ _ _).mono ?_); rintro e w5 ⟨rfl, hb5⟩)
      go_ret
      refine ⟨?_, Hbw.out.trans (((alloc_below _ _).trans (hb5.mono (by simp))).mono Hbw.out.size)⟩
      rw [HE.out]
      simp only [HZ1.out, HZ2.out]
      rfl
    have tk3 : (k == 3) = false := by simpa using e3
    by_cases e4 : k = 4
    · subst e4
      by_cases e9 : (!has && !Z2) = true
      · have hE : S = true := by rw [← HS.out]; simp [strangeF, h00, e9]
        have HE := Lib.hid hE
        clear hE
        obtain ⟨rfl, rfl⟩ : has = false ∧ Z2 = false := by simpa using e9
        go_wp2_with (fail)
        with_reducible refine (H2.out _).mono ?_
        rintro e w2 ⟨rfl, hb2⟩
        go_wp2
        go_ret
        exact ⟨by rw [HE.out]; rfl, Hbw.out.trans (((alloc_below _ _).trans (hb2.mono (by simp))).mono Hbw.out.size)⟩
      have hE : S = (!blankB ⟨#[]⟩ dst n false true false true l.length) := by rw [← HS.out]; simp [strangeF, blankB, h00, e9]
      have HE := Lib.hid hE
      clear hE
      cases has with
      | true =>
        go_upto_region 21 with (fail)
        iterate 2 go_step
        refine wp_load_blk 85 (.tmp 3) rfl _ _ (Blk.new _ _ _) rfl _ Tryz.underlying85 rfl (by kernel_rfl) ?_
        go_wp2_with (go_at_call 210; (with_reducible refine (blank_calls _ _ _ _ _ _ _ _ _ _ _ _ _ _ _ _ _ _ _ _ _ _ _ _ _ _ _ _ _ _).mono ?_); rintro e w5 ⟨rfl, hb5⟩)
        go_ret
        refine ⟨?_, Hbw.out.trans (((alloc_below _ _).trans (hb5.mono (by simp))).mono Hbw.out.size)⟩
        rw [HE.out]
        simp only [zero6_none]
        rfl
      | false =>
        obtain rfl : Z2 = true := by simpa using e9
        go_wp2_with (fail)
        with_reducible refine (H2.out _).mono ?_
        rintro e w2 ⟨rfl, hb2⟩
        have hlt2 : wc.heap.size < w2.heap.size := by (have := hb2.size; simp at this; omega)
        have hx2 := (Blk.new wc 85 #[.int .i64 4, .string key, .string dst, .int .i64 n, .bool had, .int .i64 k1, .bool b1, .int .i64 n1, .string t1, .slice la1 l1.length lc1, .slice oa1 o1.length oc1, .bool false, .int .i64 k2, .bool b2, .int .i64 n2, .string t2, .slice la2 l2.length lc2, .slice oa2 o2.length oc2, .slice a l.length c]).below hb2 (Blk.lt (Blk.new _ _ _))
        have hbw2 := Hbw.out.trans (((alloc_below _ _).trans (hb2.mono (by simp))).mono Hbw.out.size)
        have hle := Hbw.out.size
        have Hx2 := Lib.hid hx2
        have Hbw2 := Lib.hid hbw2
        clear hx2 hbw2
        clear y0 y1 y2 y3 y4 y5 y6 y7 y8 y9 y10 y11 y12 y13 y14 y15 y16 y17 y18
        go_upto_region 16 with (fail)
        iterate 11 go_step
        refine wp_store_blk 9 (.tmp 42) _ rfl wc.heap.size 1 Hx2.out (.string ⟨#[]⟩) rfl rfl (Nat.le_of_ble_eq_true rfl) (by kernel_rfl) (by simp [Value.cells, Value.oneCell']) Hbw2.out hle ?_
        intro v0 hxv0 hbv0
        simp only [over, Value.cells, List.setIfInBounds_toArray, List.set_cons_succ, List.set_cons_zero] at hxv0
        iterate 5 go_step
        refine wp_store_blk 4 (.tmp 43) _ rfl wc.heap.size 4 hxv0 (.bool false) rfl rfl (Nat.le_of_ble_eq_true rfl) (by kernel_rfl) (by simp [Value.cells, Value.oneCell']) hbv0 hle ?_
        intro v1 hxv1 hbv1
        simp only [over, Value.cells, List.setIfInBounds_toArray, List.set_cons_succ, List.set_cons_zero] at hxv1
        iterate 5 go_step
        refine wp_store_blk 52 (.tmp 44) _ rfl wc.heap.size 5 hxv1 (.agg #[.int .i64 0, .bool false, .int .i64 0, .string ⟨#[]⟩, .slice none 0 0, .slice none 0 0]) rfl rfl (Nat.le_of_ble_eq_true rfl) (by kernel_rfl) (by simp [Value.cells, Value.oneCell']) hbv1 hle ?_
        intro v2 hxv2 hbv2
        simp only [over, Value.cells, List.setIfInBounds_toArray, List.set_cons_succ, List.set_cons_zero] at hxv2
        iterate 5 go_step
        refine wp_store_blk 4 (.tmp 45) _ rfl wc.heap.size 11 hxv2 (.bool false) rfl rfl (Nat.le_of_ble_eq_true rfl) (by kernel_rfl) (by simp [Value.cells, Value.oneCell']) hbv2 hle ?_
        intro v3 hxv3 hbv3
        simp only [over, Value.cells, List.setIfInBounds_toArray, List.set_cons_succ, List.set_cons_zero] at hxv3
        iterate 5 go_step
        refine wp_store_blk 52 (.tmp 46) _ rfl wc.heap.size 12 hxv3 (.agg #[.int .i64 0, .bool false, .int .i64 0, .string ⟨#[]⟩, .slice none 0 0, .slice none 0 0]) rfl rfl (Nat.le_of_ble_eq_true rfl) (by kernel_rfl) (by simp [Value.cells, Value.oneCell']) hbv3 hle ?_
        intro v4 hxv4 hbv4
        simp only [over, Value.cells, List.setIfInBounds_toArray, List.set_cons_succ, List.set_cons_zero] at hxv4
        have hx9 : Blk v4 wc.heap.size 85 #[.int .i64 4, .string ⟨#[]⟩, .string dst, .int .i64 n, .bool false, .int .i64 0, .bool false, .int .i64 0, .string ⟨#[]⟩, .slice none 0 0, .slice none 0 0, .bool false, .int .i64 0, .bool false, .int .i64 0, .string ⟨#[]⟩, .slice none 0 0, .slice none 0 0, .slice a l.length c] := hxv4
        have Hx9 := Lib.hid hx9
        have Hbv4 := Lib.hid hbv4
        clear hx9 hbv4
        clear hxv0 hxv1 hxv2 hxv3 hxv4 hbv0 hbv1 hbv2 hbv3
        go_upto_region 21 with (fail)
        iterate 2 go_step
        refine wp_load_blk 85 (.tmp 3) rfl wc.heap.size _ Hx9.out rfl _ Tryz.underlying85 rfl (by kernel_rfl) ?_
        go_wp2_with (go_at_call 210; (with_reducible refine (blank_calls _ _ _ _ _ _ _ _ _ _ _ _ _ _ _ _ _ _ _ _ _ _ _ _ _ _ _ _ _ _).mono ?_); rintro e w5 ⟨rfl, hb5⟩)
        go_ret
        refine ⟨?_, Hbv4.out.trans (hb5.mono Hbv4.out.size)⟩
        rw [HE.out]
        simp only [zero6_none]
        rfl
    have tk4 : (k == 4) = false := by simpa using e4
    by_cases e6 : k = 6
    · subst e6
      have hE : S = (!blankB ⟨#[]⟩ ⟨#[]⟩ n had Z1 has Z2 l.length) := by rw [← HS.out]; simp [strangeF, blankB, h00]
      have HE := Lib.hid hE
      clear hE
      go_upto_region 21 with (fail)
      iterate 2 go_step
      refine wp_load_blk 85 (.tmp 3) rfl _ _ (Blk.new _ _ _) rfl _ Tryz.underlying85 rfl (by kernel_rfl) ?_
      go_wp2_with (go_at_call 210; (with_reducible refine (blank_calls _ _ _ _ _ _ _ _ _ _ _ _ _ _ _ _ _ _ _ _ _ _ _ _ _ _ _ _ _ _).mono ?_); rintro e w5 ⟨rfl, hb5⟩)
      go_ret
      refine ⟨?_, Hbw.out.trans (((alloc_below _ _).trans (hb5.mono (by simp))).mono Hbw.out.size)⟩
      rw [HE.out]
      simp only [HZ1.out, HZ2.out]
      rfl
    have tk6 : (k == 6) = false := by simpa using e6
    by_cases e7 : k = 7
    · subst e7
      have hE : S = (!blankB ⟨#[]⟩ dst n false true has Z2 0) := by rw [← HS.out]; simp [strangeF, blankB, h00]
      have HE := Lib.hid hE
      clear hE
      go_upto_region 21 with (fail)
      iterate 2 go_step
      refine wp_load_blk 85 (.tmp 3) rfl _ _ (Blk.new _ _ _) rfl _ Tryz.underlying85 rfl (by kernel_rfl) ?_
      go_wp2_with (go_at_call 210; (with_reducible refine (blank_calls _ _ _ _ _ _ _ _ _ _ _ _ _ _ _ _ _ _ _ _ _ _ _ _ _ _ _ _ _ _).mono ?_); rintro e w5 ⟨rfl, hb5⟩)
      go_ret
      refine ⟨?_, Hbw.out.trans (((alloc_below _ _).trans (hb5.mono (by simp))).mono Hbw.out.size)⟩
      rw [HE.out]
      simp only [HZ2.out, zero6_none]
      rfl
    have tk7 : (k == 7) = false := by simpa using e7
    have hE : S = true := by rw [← HS.out]; simp [strangeF, h00, e1, e2, e3, e4, e5, e6, e7]
    have HE := Lib.hid hE
    clear hE
    go_wp2
    go_ret
    exact ⟨by rw [HE.out]; rfl, Hbw.out.trans ((alloc_below _ _).mono Hbw.out.size)⟩
end Go.Proofs.YtemceefalkfneaaGreatDoor
