/- Parts, joined: commonplaceref04: Parse, Exact; parse.Exact. Condition: a text of at most 1.6*10^7 bytes. parse.Exact. Condition: a text of at most 10^8 bytes. commonplacelaw04: falls, known. Condition: a text of at most 10^8 bytes. The law ParseReads: it answers true. Condition: a text of at most 1.6*10^7 bytes. -/
import Derived.Test.YtgjiienipeoajaaGreatDoorProg
import Derived.Test.YtgjiienipeoajaaGreatDoorKPrs19
import Derived.Test.YtgjiienipeoajaaGreatDoorKPrs21
import Derived.Test.YtgjiienipeoajaaGreatDoorKPrs28
import Derived.Test.YtgjiienipeoajaaGreatDoorKPrs30
import Derived.Test.YtgjiienipeoajaaGreatDoorKPrs41
import Derived.Test.YtgjiienipeoajaaGreatDoorKPrs42
import Derived.Test.YtgjiienipeoajaaGreatDoorKPrs43
/- commonplaceref04: Parse, Exact; parse.Exact. Condition: a text of at most 1.6*10^7 bytes. -/
namespace Go.Proofs.YtgjiienipeoajaaGreatDoor
open Go Go.RowKit

set_option maxRecDepth 100000 in
set_option maxHeartbeats 8000000 in
theorem rparse_calls (HC : ∀ v, CopyC v) (s : ByteArray) (w : World) (hs : s.size ≤ 16000000) :
    Calls Tryz.prog 11 #[.string s] w (RefOut w (parseL s.data.toList)) := by
  obtain ⟨RES, hRES⟩ : ∃ r, parseL s.data.toList = r := ⟨_, rfl⟩
  rw [hRES]
  unfold parseL at hRES
  have hV : Calls Tryz.prog 32 #[.string s, .int .i64 0, .int .i64 1] (w.alloc (.cells zero6 26)) (RefOut (w.alloc (.cells zero6 26)) (valueF (4 * s.data.toList.length + 4) s.data.toList 0 1)) := by
    have := rvalue_all HC s hs (4 * s.data.toList.length + 4) (w.alloc (.cells zero6 26)) 0 1 (Nat.zero_le _) (by rw [size_toList]; omega) (by omega) (by omega)
    simpa using this
  have hB0 := RBx.start w
  have hwi := (within_all (4 * s.data.toList.length + 4)).1 s.data.toList 0 1 (Nat.zero_le _)
  cases hr : valueF (4 * s.data.toList.length + 4) s.data.toList 0 1 with
  | bad c q =>
    rw [hr] at hRES hV hwi
    simp only at hRES
    subst hRES
    have hc1 : (c != 0) = true := by have := hwi.2.2.1; simp only [bne_iff_ne, ne_eq]; omega
    clear hwi hr
    have HV := Lib.hid hV
    have HB0 := Lib.hid hB0
    clear hV hB0
    go_enter Tryz.func11, Tryz.ntmps11
    go_wp2_with (fail)
    with_reducible refine (HV.out).mono ?_
    rintro e w4 ⟨hb4, rfl⟩
    have hI4 := HB0.out.later hb4
    have hxf := (hI4.many (.int .i64 0) (.bool false) (.int .i64 0) (.string ⟨#[]⟩) (.slice none 0 0) (.slice none 0 0)).later (alloc_below _ (.cells zero6 26))
    obtain ⟨r0, r1, r2, r3, r4, r5⟩ := vcell hI4.blk
    have fz4 := hI4.blk.frozen
    have hlt4 := hI4.blk.lt
    have Hxf := Lib.hid hxf
    have HI4 := Lib.hid hI4
    clear hxf hI4
    clear hb4
    go_wp2
    exact bodyPost_ret (results_cell6_tt rfl rfl Hxf.out.blk) rfl ⟨Hxf.out.below, rfl⟩
  | ok v q =>
    rw [hr] at hRES hV hwi
    simp only at hRES
    obtain ⟨hw1, hw2⟩ := hwi
    rw [size_toList] at hw2
    have hp := past_size hw2
    have hpast := fun W => rpast_calls s q W (by omega) hw2
    generalize past s.data.toList q = p at hRES hp hpast
    obtain ⟨k', b', n', t', l', o'⟩ := v
    rw [size_toList] at hRES
    clear hr
    have HV := Lib.hid hV
    have HB0 := Lib.hid hB0
    have HRES := Lib.hid hRES
    have Hpast := Lib.hid hpast
    clear hV hB0 hRES hpast
    go_enter Tryz.func11, Tryz.ntmps11
    go_wp2_with (fail)
    with_reducible refine (HV.out).mono ?_
    rintro e w4 ⟨hb4, cs, rfl, hf4⟩
    obtain ⟨la4, lc4, oa4, oc4, rfl⟩ := six_now hf4
    have hI4 := HB0.out.later hb4
    obtain ⟨r0, r1, r2, r3, r4, r5⟩ := vcell hI4.blk
    have fz4 := hI4.blk.frozen
    have hlt4 := hI4.blk.lt
    have hz4 := hb4.size
    have hRES := HRES.out
    have HI4 := Lib.hid hI4
    have Hf4 := Lib.hid hf4
    clear hI4 hf4
    clear hb4 HRES
    go_wp2_with (fail)
    with_reducible refine (Hpast.out _).mono ?_
    rintro e w5 ⟨rfl, rfl⟩
    by_cases hlt : p < s.size
    · rw [if_pos hlt] at hRES
      subst hRES
      have e1 : decide ((p : Int) < (s.size : Int)) = true := decide_eq_true (by omega)
      have e2 : (p : Int) < (s.size : Int) := by omega
      have hxf := (HI4.out.many (.int .i64 0) (.bool false) (.int .i64 0) (.string ⟨#[]⟩) (.slice none 0 0) (.slice none 0 0)).later (alloc_below _ (.cells #[.int .i64 k', .bool b', .int .i64 n', .string t', .slice la4 l'.length lc4, .slice oa4 o'.length oc4] 26))
      have Hxf := Lib.hid hxf
      clear hxf
      go_wp2
      exact bodyPost_ret (results_cell6_tt rfl rfl Hxf.out.blk) rfl ⟨Hxf.out.below, rfl⟩
    · rw [if_neg hlt] at hRES
      subst hRES
      have e1 : decide ((p : Int) < (s.size : Int)) = false := decide_eq_false (by omega)
      have e2 : ¬((p : Int) < (s.size : Int)) := by omega
      have hxf := (HI4.out.many (.int .i64 k') (.bool b') (.int .i64 n') (.string t') (.slice la4 l'.length lc4) (.slice oa4 o'.length oc4)).later (alloc_below _ (.cells #[.int .i64 k', .bool b', .int .i64 n', .string t', .slice la4 l'.length lc4, .slice oa4 o'.length oc4] 26))
      have hff := (Hf4.out.keep (b' := w.heap.size) (w' := setMany w4 w.heap.size 0 [.int .i64 k', .bool b', .int .i64 n', .string t', .slice la4 l'.length lc4, .slice oa4 o'.length oc4]) (by simp) (by rw [setMany_size]; exact Nat.le_refl _) (fun p p1 p2 => World.cell?_of_block (setMany_far _ _ _ _ _ (by have p1' : (w.alloc (.cells zero6 26)).heap.size ≤ p.block := p1; simp at p1'; omega)))).later (alloc_below _ (.cells #[.int .i64 k', .bool b', .int .i64 n', .string t', .slice la4 l'.length lc4, .slice oa4 o'.length oc4] 26))
      have Hxf := Lib.hid hxf
      have Hff := Lib.hid hff
      clear hxf hff
      go_wp2
      exact bodyPost_ret (results_cell6_tt rfl rfl Hxf.out.blk) rfl ⟨Hxf.out.below, ⟨_, rfl, Hff.out⟩⟩

/-- The value of its own text; or an error. -/
def exactL (s : List UInt8) : Rd Val := match parseL s with
  | .bad c q => .bad c q
  | .ok v q => if textV v = s then .ok v q else .bad 4 q
/-- What Exact comes to. -/
def ExOut (w : World) (RES : Rd Val) (e : Ending) (w' : World) : Prop := Below w.heap.size w w' ∧ match RES with
  | .ok v _ => ∃ cs : List Value, e = .returned (.tuple #[.agg cs.toArray, .int .i64 0]) ∧ Fresh w.heap.size w' (dV v) cs
  | .bad c _ => e = .returned (.tuple #[.agg zero6, .int .i64 c])
theorem parse_bad {s : List UInt8} {c : Int} {q : Nat} (h : parseL s = .bad c q) : 1 ≤ c := by
  unfold parseL at h
  have hw := (within_all (4 * s.length + 4)).1 s 0 1 (Nat.zero_le _)
  cases hr : valueF (4 * s.length + 4) s 0 1 with
  | bad e p => rw [hr] at h hw; simp only [Rd.bad.injEq] at h; have := hw.2.2.1; omega
  | ok v p =>
    rw [hr] at h
    simp only at h
    split at h
    · simp only [Rd.bad.injEq] at h; omega
    · cases h
theorem ba_eq_of {t : List UInt8} {s : ByteArray} : (t == s.toList) = decide (t = s.data.toList) := by
  rw [ByteArray.toList_eq, Bool.eq_iff_iff]
  simp
set_option maxRecDepth 100000 in
set_option maxHeartbeats 8000000 in
theorem rexact_calls (HC : ∀ v, CopyC v) (s : ByteArray) (w : World) (hs : s.size ≤ 16000000) :
    Calls Tryz.prog 20 #[.string s] w (ExOut w (exactL s.data.toList)) := by
  have hV := rparse_calls HC s (w.alloc (.cells zero6 26)) hs
  have hB0 := RBx.start w
  obtain ⟨RES, hRES⟩ : ∃ r, exactL s.data.toList = r := ⟨_, rfl⟩
  rw [hRES]
  unfold exactL at hRES
  cases hr : parseL s.data.toList with
  | bad c q =>
    rw [hr] at hV hRES
    simp only at hRES
    subst hRES
    have hc1 : (c != 0) = true := by have := parse_bad hr; simp only [bne_iff_ne, ne_eq]; omega
    clear hr
    have HV := Lib.hid hV
    have HB0 := Lib.hid hB0
    clear hV hB0
    go_enter Tryz.func20, Tryz.ntmps20
    go_wp2_with (fail)
    with_reducible refine (HV.out).mono ?_
    rintro e w4 ⟨hb4, rfl⟩
    have hI4 := HB0.out.later hb4
    have hxf := (hI4.many (.int .i64 0) (.bool false) (.int .i64 0) (.string ⟨#[]⟩) (.slice none 0 0) (.slice none 0 0)).later (alloc_below _ (.cells zero6 26))
    obtain ⟨r0, r1, r2, r3, r4, r5⟩ := vcell hI4.blk
    have fz4 := hI4.blk.frozen
    have hlt4 := hI4.blk.lt
    have Hxf := Lib.hid hxf
    have HI4 := Lib.hid hI4
    clear hxf hI4
    clear hb4
    go_wp2
    exact bodyPost_ret (results_cell6_t rfl rfl Hxf.out.blk) rfl ⟨Hxf.out.below, rfl⟩
  | ok v q =>
    rw [hr] at hV hRES
    simp only at hRES
    obtain ⟨hm1, hm2, hm3, hm4⟩ := parse_may hr
    obtain ⟨k', b', n', t', l', o'⟩ := v
    have hT := fun cs W h => rtext_calls (.mk k' b' n' t' l' o') cs W 1 h (by rw [size_toList] at hm3; omega) hm1 hm4
    clear hr hm1 hm2 hm3 hm4
    have hcmp := ba_eq_of (t := textV (.mk k' b' n' t' l' o')) (s := s)
    generalize textV (.mk k' b' n' t' l' o') = TT at hcmp hRES hT
    have HV := Lib.hid hV
    have HB0 := Lib.hid hB0
    have HT := Lib.hid hT
    have HRES := Lib.hid hRES
    clear hV hB0 hT hRES
    go_enter Tryz.func20, Tryz.ntmps20
    go_wp2_with (fail)
    with_reducible refine (HV.out).mono ?_
    rintro e w4 ⟨hb4, cs, rfl, hf4⟩
    obtain ⟨la4, lc4, oa4, oc4, rfl⟩ := six_now hf4
    have hI4 := HB0.out.later hb4
    have hz4 := hb4.size
    have hI5 := hI4.later (alloc_below w4 (.cells #[.int .i64 k', .bool b', .int .i64 n', .string t', .slice la4 l'.length lc4, .slice oa4 o'.length oc4] 26))
    have hf5 := hf4.later (alloc_below w4 (.cells #[.int .i64 k', .bool b', .int .i64 n', .string t', .slice la4 l'.length lc4, .slice oa4 o'.length oc4] 26))
    have hx5 := Blk.new w4 26 #[.int .i64 k', .bool b', .int .i64 n', .string t', .slice la4 l'.length lc4, .slice oa4 o'.length oc4]
    have hT5 := HT.out _ _ (holdsV_of _ _ hf5.now)
    have HI4 := Lib.hid hI4
    have Hf4 := Lib.hid hf4
    have HI5 := Lib.hid hI5
    have Hf5 := Lib.hid hf5
    have Hx5 := Lib.hid hx5
    have HT5 := Lib.hid hT5
    clear hI4 hf4 hI5 hf5 hx5 hT5
    clear hb4
    obtain ⟨r0, r1, r2, r3, r4, r5⟩ := vcell HI5.out.blk
    have fz5 := HI5.out.blk.frozen
    have hlt5 := HI5.out.blk.lt
    obtain ⟨x0, x1, x2, x3, x4, x5⟩ := vcell Hx5.out
    have hltx := Hx5.out.lt
    go_wp2_with (fail)
    generalize w4.alloc (.cells #[.int .i64 k', .bool b', .int .i64 n', .string t', .slice la4 l'.length lc4, .slice oa4 o'.length oc4] 26) = w5 at HI5 Hf5 Hx5 HT5 r0 r1 r2 r3 r4 r5 fz5 hlt5 x0 x1 x2 x3 x4 x5 hltx ⊢
    with_reducible refine (HT5.out).mono ?_
    rintro e w6 ⟨rfl, hb6⟩
    have hI6 := HI5.out.later hb6
    have hf6 := Hf5.out.later hb6
    have hx6 := Hx5.out.below hb6 Hx5.out.lt
    obtain ⟨z0, z1, z2, z3, z4, z5⟩ := vcell hI6.blk
    have fz6 := hI6.blk.frozen
    have hlt6 := hI6.blk.lt
    obtain ⟨y0, y1, y2, y3, y4, y5⟩ := vcell hx6
    have hs6 := hb6.size
    have hRES := HRES.out
    clear HRES r0 r1 r2 r3 r4 r5 x0 x1 x2 x3 x4 x5 fz5
    by_cases ht : TT = s.data.toList
    · rw [if_pos ht] at hRES
      rw [decide_eq_true ht] at hcmp
      subst hRES
      have hxf := hI6.many (.int .i64 k') (.bool b') (.int .i64 n') (.string t') (.slice la4 l'.length lc4) (.slice oa4 o'.length oc4)
      have hff := hf6.keep (b' := w.heap.size) (w' := setMany w6 w.heap.size 0 [.int .i64 k', .bool b', .int .i64 n', .string t', .slice la4 l'.length lc4, .slice oa4 o'.length oc4]) (by simp) (by rw [setMany_size]; exact Nat.le_refl _) (fun p p1 p2 => World.cell?_of_block (setMany_far _ _ _ _ _ (by have p1' : (w.alloc (.cells zero6 26)).heap.size ≤ p.block := p1; simp at p1'; omega)))
      have hne : (TT != s.toList) = false := by rw [bne, hcmp]; rfl
      have Hxf := Lib.hid hxf
      have Hff := Lib.hid hff
      have HI6 := Lib.hid hI6
      have Hf6 := Lib.hid hf6
      have Hx6 := Lib.hid hx6
      have Ht := Lib.hid ht
      clear hxf hff hI6 hf6 hx6 ht
      clear hb6
      go_wp2
      exact bodyPost_ret (results_cell6_t rfl rfl Hxf.out.blk) rfl ⟨Hxf.out.below, ⟨_, rfl, Hff.out⟩⟩
    · rw [if_neg ht] at hRES
      rw [decide_eq_false ht] at hcmp
      subst hRES
      have hxf := hI6.many (.int .i64 0) (.bool false) (.int .i64 0) (.string ⟨#[]⟩) (.slice none 0 0) (.slice none 0 0)
      have hne : (TT != s.toList) = true := by rw [bne, hcmp]; rfl
      have Hxf := Lib.hid hxf
      have HI6 := Lib.hid hI6
      have Hf6 := Lib.hid hf6
      have Hx6 := Lib.hid hx6
      have Ht := Lib.hid ht
      clear hxf hI6 hf6 hx6 ht
      clear hb6
      go_wp2
      exact bodyPost_ret (results_cell6_t rfl rfl Hxf.out.blk) rfl ⟨Hxf.out.below, rfl⟩
end Go.Proofs.YtgjiienipeoajaaGreatDoor

/- parse.Exact. Condition: a text of at most 10^8 bytes. -/
namespace Go.Proofs.YtgjiienipeoajaaGreatDoor
open Go Go.RowKit

set_option maxRecDepth 100000 in
set_option maxHeartbeats 8000000 in
theorem exact_calls (s : ByteArray) (w : World) (hT0 : Tabs w) (hN0 : NumT w) (hs : s.size ≤ 100000000) :
    Calls Tryz.prog 19 #[.string s] w (ExOut w (exactL s.data.toList)) := by
  have hV := parse_calls s (w.alloc (.cells zero6 26)) (hT0.below (alloc_below w _)) (hN0.below (alloc_below w _)) hs
  have hTT : ∀ W, Below w.heap.size w W → Tabs W := fun W h => hT0.below h
  have hB0 := RBx.start w
  obtain ⟨RES, hRES⟩ : ∃ r, exactL s.data.toList = r := ⟨_, rfl⟩
  rw [hRES]
  unfold exactL at hRES
  cases hr : parseL s.data.toList with
  | bad c q =>
    rw [hr] at hV hRES
    simp only at hRES
    subst hRES
    have hc1 : (c != 0) = true := by have := parse_bad hr; simp only [bne_iff_ne, ne_eq]; omega
    clear hr
    have HV := Lib.hid hV
    have HB0 := Lib.hid hB0
    clear hV hB0
    go_enter Tryz.func19, Tryz.ntmps19
    go_wp2_with (fail)
    with_reducible refine (HV.out).mono ?_
    rintro e w4 ⟨hb4, rfl⟩
    have hI4 := HB0.out.later hb4
    have hxf := (hI4.many (.int .i64 0) (.bool false) (.int .i64 0) (.string ⟨#[]⟩) (.slice none 0 0) (.slice none 0 0)).later (alloc_below _ (.cells zero6 26))
    obtain ⟨r0, r1, r2, r3, r4, r5⟩ := vcell hI4.blk
    have fz4 := hI4.blk.frozen
    have hlt4 := hI4.blk.lt
    have Hxf := Lib.hid hxf
    have HI4 := Lib.hid hI4
    clear hxf hI4
    clear hb4
    go_wp2
    exact bodyPost_ret (results_cell6_t rfl rfl Hxf.out.blk) rfl ⟨Hxf.out.below, rfl⟩
  | ok v q =>
    rw [hr] at hV hRES
    simp only at hRES
    obtain ⟨hm1, hm2, hm3, hm4⟩ := parse_may hr
    obtain ⟨k', b', n', t', l', o'⟩ := v
    have hT := fun cs W hW h => Text_calls (.mk k' b' n' t' l' o') cs W (hTT W hW) h (by rw [size_toList] at hm3; omega) hm4
    rw [hm1] at hT
    have htS : textS (.mk k' b' n' t' l' o') = ⟨(textV (.mk k' b' n' t' l' o')).toArray⟩ := by unfold textS; rw [if_pos hm1]
    rw [htS] at hT
    clear hr hm1 hm2 hm3 hm4 htS hTT
    have hcmp := ba_eq_of (t := textV (.mk k' b' n' t' l' o')) (s := s)
    generalize textV (.mk k' b' n' t' l' o') = TT at hcmp hRES hT
    have HV := Lib.hid hV
    have HB0 := Lib.hid hB0
    have HT := Lib.hid hT
    have HRES := Lib.hid hRES
    clear hV hB0 hT hRES
    go_enter Tryz.func19, Tryz.ntmps19
    go_wp2_with (fail)
    with_reducible refine (HV.out).mono ?_
    rintro e w4 ⟨hb4, cs, rfl, hf4⟩
    obtain ⟨la4, lc4, oa4, oc4, rfl⟩ := six_now hf4
    have hI4 := HB0.out.later hb4
    have hz4 := hb4.size
    have hI5 := hI4.later (alloc_below w4 (.cells #[.int .i64 k', .bool b', .int .i64 n', .string t', .slice la4 l'.length lc4, .slice oa4 o'.length oc4] 26))
    have hf5 := hf4.later (alloc_below w4 (.cells #[.int .i64 k', .bool b', .int .i64 n', .string t', .slice la4 l'.length lc4, .slice oa4 o'.length oc4] 26))
    have hx5 := Blk.new w4 26 #[.int .i64 k', .bool b', .int .i64 n', .string t', .slice la4 l'.length lc4, .slice oa4 o'.length oc4]
    have hT5 := HT.out _ _ (((alloc_below w _).trans (hb4.mono (by simp))).trans ((alloc_below w4 (.cells #[.int .i64 k', .bool b', .int .i64 n', .string t', .slice la4 l'.length lc4, .slice oa4 o'.length oc4] 26)).mono (by have := hb4.size; simp at this; omega))) (holdsV_of _ _ hf5.now)
    have HI4 := Lib.hid hI4
    have Hf4 := Lib.hid hf4
    have HI5 := Lib.hid hI5
    have Hf5 := Lib.hid hf5
    have Hx5 := Lib.hid hx5
    have HT5 := Lib.hid hT5
    clear hI4 hf4 hI5 hf5 hx5 hT5
    clear hb4
    obtain ⟨r0, r1, r2, r3, r4, r5⟩ := vcell HI5.out.blk
    have fz5 := HI5.out.blk.frozen
    have hlt5 := HI5.out.blk.lt
    obtain ⟨x0, x1, x2, x3, x4, x5⟩ := vcell Hx5.out
    have hltx := Hx5.out.lt
    go_wp2_with (fail)
    generalize w4.alloc (.cells #[.int .i64 k', .bool b', .int .i64 n', .string t', .slice la4 l'.length lc4, .slice oa4 o'.length oc4] 26) = w5 at HI5 Hf5 Hx5 HT5 r0 r1 r2 r3 r4 r5 fz5 hlt5 x0 x1 x2 x3 x4 x5 hltx ⊢
    with_reducible refine (HT5.out).mono ?_
    rintro e w6 ⟨rfl, hb6⟩
    have hI6 := HI5.out.later hb6
    have hf6 := Hf5.out.later hb6
    have hx6 := Hx5.out.below hb6 Hx5.out.lt
    obtain ⟨z0, z1, z2, z3, z4, z5⟩ := vcell hI6.blk
    have fz6 := hI6.blk.frozen
    have hlt6 := hI6.blk.lt
    obtain ⟨y0, y1, y2, y3, y4, y5⟩ := vcell hx6
    have hs6 := hb6.size
    have hRES := HRES.out
    clear HRES r0 r1 r2 r3 r4 r5 x0 x1 x2 x3 x4 x5 fz5
    by_cases ht : TT = s.data.toList
    · rw [if_pos ht] at hRES
      rw [decide_eq_true ht] at hcmp
      subst hRES
      have hxf := hI6.many (.int .i64 k') (.bool b') (.int .i64 n') (.string t') (.slice la4 l'.length lc4) (.slice oa4 o'.length oc4)
      have hff := hf6.keep (b' := w.heap.size) (w' := setMany w6 w.heap.size 0 [.int .i64 k', .bool b', .int .i64 n', .string t', .slice la4 l'.length lc4, .slice oa4 o'.length oc4]) (by simp) (by rw [setMany_size]; exact Nat.le_refl _) (fun p p1 p2 => World.cell?_of_block (setMany_far _ _ _ _ _ (by have p1' : (w.alloc (.cells zero6 26)).heap.size ≤ p.block := p1; simp at p1'; omega)))
      have hne : (TT != s.toList) = false := by rw [bne, hcmp]; rfl
      have Hxf := Lib.hid hxf
      have Hff := Lib.hid hff
      have HI6 := Lib.hid hI6
      have Hf6 := Lib.hid hf6
      have Hx6 := Lib.hid hx6
      have Ht := Lib.hid ht
      clear hxf hff hI6 hf6 hx6 ht
      clear hb6
      go_wp2
      exact bodyPost_ret (results_cell6_t rfl rfl Hxf.out.blk) rfl ⟨Hxf.out.below, ⟨_, rfl, Hff.out⟩⟩
    · rw [if_neg ht] at hRES
      rw [decide_eq_false ht] at hcmp
      subst hRES
      have hxf := hI6.many (.int .i64 0) (.bool false) (.int .i64 0) (.string ⟨#[]⟩) (.slice none 0 0) (.slice none 0 0)
      have hne : (TT != s.toList) = true := by rw [bne, hcmp]; rfl
      have Hxf := Lib.hid hxf
      have HI6 := Lib.hid hI6
      have Hf6 := Lib.hid hf6
      have Hx6 := Lib.hid hx6
      have Ht := Lib.hid ht
      clear hxf hI6 hf6 hx6 ht
      clear hb6
      go_wp2
      exact bodyPost_ret (results_cell6_t rfl rfl Hxf.out.blk) rfl ⟨Hxf.out.below, rfl⟩
end Go.Proofs.YtgjiienipeoajaaGreatDoor

/- commonplacelaw04: falls, known. Condition: a text of at most 10^8 bytes. -/
namespace Go.Proofs.YtgjiienipeoajaaGreatDoor
open Go Go.RowKit

def zeroV : Val := .mk 0 false 0 ⟨#[]⟩ [] []
theorem holds_zeroV (w : World) (B : Nat) : HoldsV w B zeroV [.int .i64 0, .bool false, .int .i64 0, .string ⟨#[]⟩, .slice none 0 0, .slice none 0 0] := by
  unfold zeroV
  simp only [HoldsV]
  exact ⟨none, 0, none, 0, rfl, by simp, by simp⟩
theorem equal_zero (W : World) : Calls Tryz.prog 12 #[.agg zero6, .agg zero6] W fun e w' => e = .returned (.bool true) ∧ Below W.heap.size W w' :=
  (req_calls zeroV zeroV _ _ W (holds_zeroV W _) (holds_zeroV W _) (by decide) (by decide)).mono fun _ _ ⟨B, he, hB, hb⟩ => ⟨by rw [he, hB.2 rfl], hb⟩
set_option maxRecDepth 100000 in
set_option maxHeartbeats 8000000 in
theorem falls_yes (s : ByteArray) (c : Int) (q : Nat) (w : World) (hT : Tabs w) (hN : NumT w) (hs : s.size ≤ 100000000) (h : parseL s.data.toList = .bad c q) :
    Calls Tryz.prog 17 #[.string s, .int .i64 c, .int .i64 q] w fun e w' => e = .returned (.bool true) ∧ Below w.heap.size w w' := by
  have hP := parse_calls s w hT hN hs
  rw [h] at hP
  have hE := equal_zero
  clear h
  have HP := Lib.hid hP
  have HE := Lib.hid hE
  clear hP hE
  go_enter Tryz.func17, Tryz.ntmps17
  go_wp2_with (fail)
  with_reducible refine (HP.out).mono ?_
  rintro e w1 ⟨hb1, rfl⟩
  have HB := Lib.hid (hb1.alloc hb1.size (.cells zero6 26))
  clear hb1
  go_wp2_with (fail)
  with_reducible refine (HE.out _).mono ?_
  rintro e w2 ⟨rfl, hb2⟩
  have HB2 := Lib.hid (HB.out.trans (hb2.mono HB.out.size))
  clear hb2
  go_wp2
  go_ret
  exact ⟨rfl, HB2.out⟩
def knS : ByteArray := ⟨#[123, 34, 98, 34, 58, 49, 44, 32, 34, 97, 34, 32, 58, 32, 91, 32, 93, 125]⟩
def knT : ByteArray := ⟨#[123, 34, 97, 34, 58, 91, 93, 44, 34, 98, 34, 58, 49, 125]⟩
def knV : Val := .mk 6 false 0 ⟨#[]⟩ [] [(⟨#[97]⟩, .mk 5 false 0 ⟨#[]⟩ [] []), (⟨#[98]⟩, .mk 3 false 1 ⟨#[]⟩ [] [])]
theorem kn_parse : parseL knS.data.toList = .ok knV 18 := by kernel_rfl
theorem kn_text : textS knV = knT := by kernel_rfl
theorem kn_may : mayV knV 1 = 0 := by kernel_rfl
theorem kn_f0 : parseL (⟨#[48, 49]⟩ : ByteArray).data.toList = .bad 4 1 := by kernel_rfl
theorem kn_f1 : parseL (⟨#[45, 48, 49]⟩ : ByteArray).data.toList = .bad 4 2 := by kernel_rfl
theorem kn_f2 : parseL (⟨#[45, 48]⟩ : ByteArray).data.toList = .bad 7 0 := by kernel_rfl
theorem kn_f3 : parseL (⟨#[45]⟩ : ByteArray).data.toList = .bad 4 1 := by kernel_rfl
theorem kn_f4 : parseL (⟨#[91, 49, 44, 93]⟩ : ByteArray).data.toList = .bad 4 3 := by kernel_rfl
theorem kn_f5 : parseL (⟨#[123, 34, 97, 34, 58, 49, 44, 34, 97, 34, 58, 50, 125]⟩ : ByteArray).data.toList = .bad 8 7 := by kernel_rfl
theorem kn_f6 : parseL (⟨#[116, 114, 117]⟩ : ByteArray).data.toList = .bad 4 0 := by kernel_rfl
theorem kn_f7 : parseL (⟨#[49, 32, 50]⟩ : ByteArray).data.toList = .bad 4 2 := by kernel_rfl
set_option maxRecDepth 100000 in
set_option maxHeartbeats 8000000 in
theorem known4_calls (w : World) (hT : Tabs w) (hN : NumT w) :
    Calls Tryz.prog 13 #[] w fun e w' => e = .returned (.bool true) ∧ Below w.heap.size w w' := by
  have hP : Calls Tryz.prog 10 #[.string ⟨#[123, 34, 98, 34, 58, 49, 44, 32, 34, 97, 34, 32, 58, 32, 91, 32, 93, 125]⟩] w (RefOut w (.ok knV 18)) := by
    have := parse_calls knS w hT hN (by decide)
    rw [kn_parse] at this
    exact this
  have hX : ∀ (cs : List Value) (W : World), Below w.heap.size w W → HoldsV W W.heap.size knV cs → Calls Tryz.prog 21 #[.agg cs.toArray] W fun e w' => e = .returned (.tuple #[.string ⟨#[123, 34, 97, 34, 58, 91, 93, 44, 34, 98, 34, 58, 49, 125]⟩, .int .i64 0]) ∧ Below W.heap.size W w' := fun cs W hW hV => by
    have := Text_calls knV cs W (hT.below hW) hV (by decide) (by unfold knV; simp [inV, inL, inO, inP])
    rw [kn_text, kn_may] at this
    exact this
  have hf0 : ∀ W, Below w.heap.size w W → Calls Tryz.prog 17 #[.string ⟨#[48, 49]⟩, .int .i64 4, .int .i64 1] W fun e w' => e = .returned (.bool true) ∧ Below W.heap.size W w' := fun W hW => falls_yes ⟨#[48, 49]⟩ 4 1 W (hT.below hW) (hN.below hW) (by decide) kn_f0
  have hf1 : ∀ W, Below w.heap.size w W → Calls Tryz.prog 17 #[.string ⟨#[45, 48, 49]⟩, .int .i64 4, .int .i64 2] W fun e w' => e = .returned (.bool true) ∧ Below W.heap.size W w' := fun W hW => falls_yes ⟨#[45, 48, 49]⟩ 4 2 W (hT.below hW) (hN.below hW) (by decide) kn_f1
  have hf2 : ∀ W, Below w.heap.size w W → Calls Tryz.prog 17 #[.string ⟨#[45, 48]⟩, .int .i64 7, .int .i64 0] W fun e w' => e = .returned (.bool true) ∧ Below W.heap.size W w' := fun W hW => falls_yes ⟨#[45, 48]⟩ 7 0 W (hT.below hW) (hN.below hW) (by decide) kn_f2
  have hf3 : ∀ W, Below w.heap.size w W → Calls Tryz.prog 17 #[.string ⟨#[45]⟩, .int .i64 4, .int .i64 1] W fun e w' => e = .returned (.bool true) ∧ Below W.heap.size W w' := fun W hW => falls_yes ⟨#[45]⟩ 4 1 W (hT.below hW) (hN.below hW) (by decide) kn_f3
  have hf4 : ∀ W, Below w.heap.size w W → Calls Tryz.prog 17 #[.string ⟨#[91, 49, 44, 93]⟩, .int .i64 4, .int .i64 3] W fun e w' => e = .returned (.bool true) ∧ Below W.heap.size W w' := fun W hW => falls_yes ⟨#[91, 49, 44, 93]⟩ 4 3 W (hT.below hW) (hN.below hW) (by decide) kn_f4
  have hf5 : ∀ W, Below w.heap.size w W → Calls Tryz.prog 17 #[.string ⟨#[123, 34, 97, 34, 58, 49, 44, 34, 97, 34, 58, 50, 125]⟩, .int .i64 8, .int .i64 7] W fun e w' => e = .returned (.bool true) ∧ Below W.heap.size W w' := fun W hW => falls_yes ⟨#[123, 34, 97, 34, 58, 49, 44, 34, 97, 34, 58, 50, 125]⟩ 8 7 W (hT.below hW) (hN.below hW) (by decide) kn_f5
  have hf6 : ∀ W, Below w.heap.size w W → Calls Tryz.prog 17 #[.string ⟨#[116, 114, 117]⟩, .int .i64 4, .int .i64 0] W fun e w' => e = .returned (.bool true) ∧ Below W.heap.size W w' := fun W hW => falls_yes ⟨#[116, 114, 117]⟩ 4 0 W (hT.below hW) (hN.below hW) (by decide) kn_f6
  have hf7 : ∀ W, Below w.heap.size w W → Calls Tryz.prog 17 #[.string ⟨#[49, 32, 50]⟩, .int .i64 4, .int .i64 2] W fun e w' => e = .returned (.bool true) ∧ Below W.heap.size W w' := fun W hW => falls_yes ⟨#[49, 32, 50]⟩ 4 2 W (hT.below hW) (hN.below hW) (by decide) kn_f7
  have HP := Lib.hid hP
  have HX := Lib.hid hX
  have Hf0 := Lib.hid hf0
  have Hf1 := Lib.hid hf1
  have Hf2 := Lib.hid hf2
  have Hf3 := Lib.hid hf3
  have Hf4 := Lib.hid hf4
  have Hf5 := Lib.hid hf5
  have Hf6 := Lib.hid hf6
  have Hf7 := Lib.hid hf7
  clear hP hX hf0 hf1 hf2 hf3 hf4 hf5 hf6 hf7
  go_enter Tryz.func13, Tryz.ntmps13
  go_wp2_with (fail)
  with_reducible refine (HP.out).mono ?_
  rintro e w4 ⟨hb4, cs, rfl, hq4⟩
  obtain ⟨la4, lc4, oa4, oc4, rfl⟩ : ∃ la lc oa oc, cs = [.int .i64 6, .bool false, .int .i64 0, .string ⟨#[]⟩, .slice la 0 lc, .slice oa 2 oc] := six_now (k := 6) (b := false) (n := 0) (t := ⟨#[]⟩) (l := []) (o := [(⟨#[97]⟩, .mk 5 false 0 ⟨#[]⟩ [] []), (⟨#[98]⟩, .mk 3 false 1 ⟨#[]⟩ [] [])]) hq4
  have hb5 := hb4.alloc hb4.size (.cells #[.int .i64 6, .bool false, .int .i64 0, .string ⟨#[]⟩, .slice la4 0 lc4, .slice oa4 2 oc4] 26)
  have hq5 := hq4.later (alloc_below w4 (.cells #[.int .i64 6, .bool false, .int .i64 0, .string ⟨#[]⟩, .slice la4 0 lc4, .slice oa4 2 oc4] 26))
  have hX5 := HX.out _ _ hb5 (holdsV_of _ _ hq5.now)
  have Hb5 := Lib.hid hb5
  have Hq5 := Lib.hid hq5
  have HX5 := Lib.hid hX5
  clear hb5 hq5 hX5
  clear hb4 hq4
  go_wp2_with (fail)
  with_reducible refine (HX5.out).mono ?_
  rintro e w5 ⟨rfl, hb6⟩
  have HB0 := Lib.hid (Hb5.out.trans (hb6.mono Hb5.out.size))
  clear hb6
  go_wp2_with (fail)
  with_reducible refine (Hf0.out _ HB0.out).mono ?_
  rintro e z0 ⟨rfl, hb6⟩
  have HB1 := Lib.hid (HB0.out.trans (hb6.mono HB0.out.size))
  clear hb6
  go_wp2_with (fail)
  with_reducible refine (Hf1.out _ HB1.out).mono ?_
  rintro e z1 ⟨rfl, hb6⟩
  have HB2 := Lib.hid (HB1.out.trans (hb6.mono HB1.out.size))
  clear hb6
  go_wp2_with (fail)
  with_reducible refine (Hf2.out _ HB2.out).mono ?_
  rintro e z2 ⟨rfl, hb6⟩
  have HB3 := Lib.hid (HB2.out.trans (hb6.mono HB2.out.size))
  clear hb6
  go_wp2_with (fail)
  with_reducible refine (Hf3.out _ HB3.out).mono ?_
  rintro e z3 ⟨rfl, hb6⟩
  have HB4 := Lib.hid (HB3.out.trans (hb6.mono HB3.out.size))
  clear hb6
  go_wp2_with (fail)
  with_reducible refine (Hf4.out _ HB4.out).mono ?_
  rintro e z4 ⟨rfl, hb6⟩
  have HB5 := Lib.hid (HB4.out.trans (hb6.mono HB4.out.size))
  clear hb6
  go_wp2_with (fail)
  with_reducible refine (Hf5.out _ HB5.out).mono ?_
  rintro e z5 ⟨rfl, hb6⟩
  have HB6 := Lib.hid (HB5.out.trans (hb6.mono HB5.out.size))
  clear hb6
  go_wp2_with (fail)
  with_reducible refine (Hf6.out _ HB6.out).mono ?_
  rintro e z6 ⟨rfl, hb6⟩
  have HB7 := Lib.hid (HB6.out.trans (hb6.mono HB6.out.size))
  clear hb6
  go_wp2_with (fail)
  with_reducible refine (Hf7.out _ HB7.out).mono ?_
  rintro e z7 ⟨rfl, hb6⟩
  have HB8 := Lib.hid (HB7.out.trans (hb6.mono HB7.out.size))
  clear hb6
  go_wp2
  go_ret
  exact ⟨rfl, HB8.out⟩
end Go.Proofs.YtgjiienipeoajaaGreatDoor

/- The law ParseReads: it answers true. Condition: a text of at most 1.6*10^7 bytes. -/
namespace Go.Proofs.YtgjiienipeoajaaGreatDoor
open Go Go.RowKit

def Rd.val : Rd Val → Val
  | .ok v _ => v
  | .bad _ _ => zeroV
def Rd.plc : Rd Val → Nat
  | .ok _ q => q
  | .bad _ q => q
def Rd.err : Rd Val → Int
  | .ok _ _ => 0
  | .bad c _ => c
theorem RefOut.val {w w' : World} {RES : Rd Val} {e : Ending} (h : RefOut w RES e w') : ∃ cs : List Value, e = .returned (.tuple #[.agg cs.toArray, .int .i64 (RES.plc : Nat), .int .i64 RES.err]) ∧ Below w.heap.size w w' ∧ Fresh w.heap.size w' (dV RES.val) cs := by
  obtain ⟨hb, h⟩ := h
  cases RES with
  | ok v q => obtain ⟨cs, he, hf⟩ := h; exact ⟨cs, he, hb, hf⟩
  | bad c q => exact ⟨[.int .i64 0, .bool false, .int .i64 0, .string ⟨#[]⟩, .slice none 0 0, .slice none 0 0], h, hb, fresh_leafs 0 false 0 ⟨#[]⟩⟩
theorem ExOut.val {w w' : World} {RES : Rd Val} {e : Ending} (h : ExOut w RES e w') : ∃ cs : List Value, e = .returned (.tuple #[.agg cs.toArray, .int .i64 RES.err]) ∧ Below w.heap.size w w' ∧ Fresh w.heap.size w' (dV RES.val) cs := by
  obtain ⟨hb, h⟩ := h
  cases RES with
  | ok v q => obtain ⟨cs, he, hf⟩ := h; exact ⟨cs, he, hb, hf⟩
  | bad c q => exact ⟨[.int .i64 0, .bool false, .int .i64 0, .string ⟨#[]⟩, .slice none 0 0, .slice none 0 0], h, hb, fresh_leafs 0 false 0 ⟨#[]⟩⟩
theorem parseL_bulk (s : List UInt8) : (parseL s).val.bulk ≤ 6 * s.length + 6 := by
  cases h : parseL s with
  | ok v q => have := (parse_may h).2.2.1; simp only [Rd.val]; omega
  | bad c q => simp only [Rd.val, zeroV, Val.bulk, bulkL, bulkO]; simp [ByteArray.size]
theorem exactL_bulk (s : List UInt8) : (exactL s).val.bulk ≤ 6 * s.length + 6 := by
  unfold exactL
  have hp := parseL_bulk s
  cases h : parseL s with
  | ok v q =>
    rw [h] at hp
    simp only
    split
    · exact hp
    · simp only [Rd.val, zeroV, Val.bulk, bulkL, bulkO]; simp [ByteArray.size]
  | bad c q => rw [h] at hp; exact hp
theorem equal_same (v : Val) (hb : v.bulk ≤ 100000000) (cs cs' : List Value) (W : World) (h : HoldsV W W.heap.size v cs) (h' : HoldsV W W.heap.size v cs') : Calls Tryz.prog 12 #[.agg cs.toArray, .agg cs'.toArray] W fun e w' => e = .returned (.bool true) ∧ Below W.heap.size W w' :=
  (req_calls v v cs cs' W h h' hb hb).mono fun _ _ ⟨B, he, hB, hb⟩ => ⟨by rw [he, hB.2 rfl], hb⟩
set_option maxRecDepth 100000 in
set_option maxHeartbeats 8000000 in
theorem ParseReads_law (s : ByteArray) (w : World) (hT : Tabs w) (hN : NumT w) (hs : s.size ≤ 16000000) :
    Calls Tryz.prog 3 #[.string s] w fun e w' => e = .returned (.bool true) ∧ Below w.heap.size w w' := by
  have hP := (parse_calls s w hT hN (by omega)).mono fun _ _ h => RefOut.val h
  have hR := fun W => (rparse_calls copy_calls s W hs).mono fun _ _ h => RefOut.val h
  have hbk : (parseL s.data.toList).val.bulk ≤ 100000000 := by have := parseL_bulk s.data.toList; rw [size_toList] at this; omega
  have hK := fun W hW => known4_calls W (hT.below (w' := W) hW) (hN.below (w' := W) hW)
  generalize (parseL s.data.toList).plc = q at hP hR
  generalize (parseL s.data.toList).err = c at hP hR
  generalize (parseL s.data.toList).val = v at hP hR hbk
  have hE := equal_same v hbk
  obtain ⟨k1, b1, n1, t1, l1, o1⟩ := v
  have ec : (c == c) = true := by simp
  have eq : ((q : Int) == (q : Int)) = true := by simp
  clear hbk
  have HP := Lib.hid hP
  have HR := Lib.hid hR
  have HE := Lib.hid hE
  have HK := Lib.hid hK
  clear hP hR hE hK
  go_enter Tryz.func3, Tryz.ntmps3
  go_wp2_with (fail)
  with_reducible refine (HP.out).mono ?_
  rintro e w1 ⟨cs, rfl, hb1, hf1⟩
  obtain ⟨la1, lc1, oa1, oc1, rfl⟩ := six_now hf1
  have hbw := hb1.alloc hb1.size (.cells #[.int .i64 k1, .bool b1, .int .i64 n1, .string t1, .slice la1 l1.length lc1, .slice oa1 o1.length oc1] 26)
  have hfw := hf1.later (alloc_below w1 (.cells #[.int .i64 k1, .bool b1, .int .i64 n1, .string t1, .slice la1 l1.length lc1, .slice oa1 o1.length oc1] 26))
  have hxw := Blk.new w1 26 #[.int .i64 k1, .bool b1, .int .i64 n1, .string t1, .slice la1 l1.length lc1, .slice oa1 o1.length oc1]
  have Hbw := Lib.hid hbw
  have Hfw := Lib.hid hfw
  have Hxw := Lib.hid hxw
  clear hbw hfw hxw
  clear hb1 hf1
  go_wp2_with (fail)
  generalize w1.alloc (.cells #[.int .i64 k1, .bool b1, .int .i64 n1, .string t1, .slice la1 l1.length lc1, .slice oa1 o1.length oc1] 26) = W1 at Hbw Hfw Hxw ⊢
  generalize w1.heap.size = g1 at Hxw ⊢
  with_reducible refine (HR.out _).mono ?_
  rintro e w2 ⟨cs, rfl, hb2, hf2⟩
  obtain ⟨la2, lc2, oa2, oc2, rfl⟩ := six_now hf2
  have hbz := (Hbw.out.trans (hb2.mono Hbw.out.size)).alloc (Nat.le_trans Hbw.out.size hb2.size) (.cells #[.int .i64 k1, .bool b1, .int .i64 n1, .string t1, .slice la2 l1.length lc2, .slice oa2 o1.length oc2] 26)
  have hx2 := Hxw.out.below hb2 Hxw.out.lt
  have hfz := (Hfw.out.later hb2).later (alloc_below w2 (.cells #[.int .i64 k1, .bool b1, .int .i64 n1, .string t1, .slice la2 l1.length lc2, .slice oa2 o1.length oc2] 26))
  have hfy := hf2.later (alloc_below w2 (.cells #[.int .i64 k1, .bool b1, .int .i64 n1, .string t1, .slice la2 l1.length lc2, .slice oa2 o1.length oc2] 26))
  have hEE := HE.out _ _ _ (holdsV_of _ _ hfz.now) (holdsV_of _ _ hfy.now)
  obtain ⟨x0, x1, x2, x3, x4, x5⟩ := vcell hx2
  have hlx := hx2.lt
  have Hbz := Lib.hid hbz
  have HEE := Lib.hid hEE
  clear hbz hEE
  clear hb2 hf2 hfz hfy hx2
  go_wp2_with (fail)
  with_reducible refine (HEE.out).mono ?_
  rintro e w3 ⟨rfl, hb3⟩
  have HB3 := Lib.hid (Hbz.out.trans (hb3.mono Hbz.out.size))
  clear hb3
  go_wp2_with (fail)
  with_reducible refine (HK.out _ HB3.out).mono ?_
  rintro e w4 ⟨rfl, hb4⟩
  have HB4 := Lib.hid (HB3.out.trans (hb4.mono HB3.out.size))
  clear hb4
  go_wp2
  go_ret
  exact ⟨rfl, HB4.out⟩
end Go.Proofs.YtgjiienipeoajaaGreatDoor
