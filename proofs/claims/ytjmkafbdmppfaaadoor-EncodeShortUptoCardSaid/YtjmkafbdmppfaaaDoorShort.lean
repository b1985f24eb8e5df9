/- encode.Short, and the law EncodeShort, walked: it returns true. Condition: a bulk of at most 10^8. -/
import Derived.Test.YtjmkafbdmppfaaaDoorProg
import Derived.Test.YtjmkafbdmppfaaaDoorBox
namespace Go.Proofs.YtjmkafbdmppfaaaDoor
open Go.RowKit

/-- Why a value's text has not so many bytes at most. -/
def shortV (v : Val) (most : Int) : Int := if mayV v 1 = 0 then (if most < ((textV v).length : Int) then 6 else 0) else mayV v 1

set_option maxRecDepth 100000 in
set_option maxHeartbeats 2000000 in
theorem Short_calls (v : Val) (cs : List Value) (most : Int) (w : World) (hT : Tabs w) (hV : HoldsV w w.heap.size v cs) (hb : v.bulk ≤ 100000000) (hi : inV v) :
    Calls Tryd.prog 21 #[.agg cs.toArray, .int .i64 most] w fun e w' => e = .returned (.int .i64 (shortV v most)) ∧ Below w.heap.size w w' := by
  have hV' := hV
  obtain ⟨k, b, n, t, l, o⟩ := v
  simp only [HoldsV] at hV'
  obtain ⟨la, lc, oa, oc, rfl, _, _⟩ := hV'
  have H1 := Lib.hid (Boxd.start hT hV)
  obtain ⟨v, hv⟩ : ∃ v, Val.mk k b n t l o = v := ⟨_, rfl⟩
  rw [hv] at hi hb H1 ⊢
  have CM := fun w' (h : Boxd w w.heap.size v (cells6 k b n t la l.length lc oa o.length oc) w') => May_calls v _ w' h.tabs h.2.2.2 (by omega)
  unfold shortV
  by_cases hm : mayV v 1 = 0
  · have hok := okV_of v 1 hm hi
    have CB := fun w' (h : Boxd w w.heap.size v (cells6 k b n t la l.length lc oa o.length oc) w') => bytes_calls v _ w' h.tabs h.2.2.2 (by omega) hok
    rw [if_pos hm]
    rw [hm] at CM
    generalize (textV v).length = L at CB ⊢
    have HB := Lib.hid CB
    have HM := Lib.hid CM
    clear CB CM hm hi hb hT hV hv hok
    by_cases hl : most < (L : Int)
    · rw [if_pos hl]
      go_enter Tryd.func21, Tryd.ntmps21
      go_wp2_with (fail)
      with_reducible refine (HM.out _ H1.out).mono ?_
      rintro e w2 ⟨rfl, hb2⟩
      have H2 := Lib.hid (H1.out.step hb2)
      obtain ⟨d0, d1, d2, d3, d4, d5⟩ := H2.out.cells
      clear hb2 H1
      go_wp2_with (fail)
      with_reducible refine (HB.out _ H2.out).mono ?_
      rintro e w3 ⟨rfl, hb3⟩
      have H3 := Lib.hid (H2.out.step hb3)
      clear d0 d1 d2 d3 d4 d5 hb3 H2
      go_wp2
      go_ret
      exact ⟨rfl, H3.out.below⟩
    · rw [if_neg hl]
      go_enter Tryd.func21, Tryd.ntmps21
      go_wp2_with (fail)
      with_reducible refine (HM.out _ H1.out).mono ?_
      rintro e w2 ⟨rfl, hb2⟩
      have H2 := Lib.hid (H1.out.step hb2)
      obtain ⟨d0, d1, d2, d3, d4, d5⟩ := H2.out.cells
      clear hb2 H1
      go_wp2_with (fail)
      with_reducible refine (HB.out _ H2.out).mono ?_
      rintro e w3 ⟨rfl, hb3⟩
      have H3 := Lib.hid (H2.out.step hb3)
      clear d0 d1 d2 d3 d4 d5 hb3 H2
      go_wp2
      go_ret
      exact ⟨rfl, H3.out.below⟩
  · rw [if_neg hm]
    have hmb : (mayV v 1 == 0) = false := by simpa using hm
    have hmn : (mayV v 1 != 0) = true := by simpa using hm
    generalize mayV v 1 = m at *
    have HM := Lib.hid CM
    clear CM hm hi hb hT hV hv
    go_enter Tryd.func21, Tryd.ntmps21
    go_wp2_with (fail)
    with_reducible refine (HM.out _ H1.out).mono ?_
    rintro e w2 ⟨rfl, hb2⟩
    have H2 := Lib.hid (H1.out.step hb2)
    clear hb2 H1
    go_wp2
    go_ret
    exact ⟨rfl, H2.out.below⟩

set_option maxRecDepth 100000 in
set_option maxHeartbeats 2000000 in
theorem Short_law (v : Val) (cs : List Value) (most : Int) (_hn1 : -9223372036854775808 ≤ most) (_hn2 : most ≤ 9223372036854775807) (w : World) (hT : Tabs w) (hV : HoldsV w w.heap.size v cs) (hb : v.bulk ≤ 100000000) (hi : inV v) :
    Calls Tryd.prog 9 #[.agg cs.toArray, .int .i64 most] w fun e w' => e = .returned (.bool true) ∧ Below w.heap.size w w' := by
  have hV' := hV
  obtain ⟨k, b, n, t, l, o⟩ := v
  simp only [HoldsV] at hV'
  obtain ⟨la, lc, oa, oc, rfl, _, _⟩ := hV'
  have H1 := Lib.hid (Boxd.start hT hV)
  obtain ⟨v, hv⟩ : ∃ v, Val.mk k b n t l o = v := ⟨_, rfl⟩
  rw [hv] at hi hb H1
  have CS := fun w' (h : Boxd w w.heap.size v (cells6 k b n t la l.length lc oa o.length oc) w') => Short_calls v _ most w' h.tabs h.2.2.2 (by omega) hi
  have CM := fun w' (h : Boxd w w.heap.size v (cells6 k b n t la l.length lc oa o.length oc) w') => RMay_calls v _ w' h.2.2.2 (by omega)
  unfold shortV at CS
  by_cases hm : mayV v 1 = 0
  · have CR := fun w' (h : Boxd w w.heap.size v (cells6 k b n t la l.length lc oa o.length oc) w') => rtext_calls v _ w' 1 h.2.2.2 (by omega) hm hi
    obtain ⟨S, hS⟩ : ∃ S : ByteArray, (⟨(textV v).toArray⟩ : ByteArray) = S := ⟨_, rfl⟩
    have hL : ((textV v).length : Int) = (S.size : Int) := by rw [← hS, size_mk]
    rw [if_pos hm, hL] at CS
    rw [hm] at CM
    rw [hS] at CR
    by_cases hl : most < (S.size : Int)
    all_goals
      (first | rw [if_pos hl] at CS | rw [if_neg hl] at CS)
      have HS := Lib.hid CS
      have HM := Lib.hid CM
      have HR := Lib.hid CR
      clear CS CM CR hm hi hb hT hV hv hS hL
      go_enter Tryd.func9, Tryd.ntmps9
      go_wp2_with (fail)
      with_reducible refine (HS.out _ H1.out).mono ?_
      rintro e w2 ⟨rfl, hb2⟩
      have H2 := Lib.hid (H1.out.step hb2)
      obtain ⟨d0, d1, d2, d3, d4, d5⟩ := H2.out.cells
      clear hb2 H1
      go_wp2_with (fail)
      with_reducible refine (HM.out _ H2.out).mono ?_
      rintro e w3 ⟨rfl, hb3⟩
      have H3 := Lib.hid (H2.out.step hb3)
      clear d0 d1 d2 d3 d4 d5 hb3 H2
      obtain ⟨d0, d1, d2, d3, d4, d5⟩ := H3.out.cells
      go_wp2_with (fail)
      with_reducible refine (HR.out _ H3.out).mono ?_
      rintro e w4 ⟨rfl, hb4⟩
      have H4 := Lib.hid (H3.out.step hb4)
      clear d0 d1 d2 d3 d4 d5 hb4 H3
      go_wp2_with (fail)
      with_reducible refine (known_calls w4 H4.out.tabs).mono ?_
      rintro e w6 ⟨rfl, hb6⟩
      have H6 := Lib.hid (H4.out.step hb6)
      clear hb6
      go_wp2
      go_ret
      exact ⟨rfl, H6.out.below⟩
  · rw [if_neg hm] at CS
    have hmb : (mayV v 1 == 0) = false := by simpa using hm
    have hmn : (mayV v 1 != 0) = true := by simpa using hm
    generalize mayV v 1 = m at *
    have HS := Lib.hid CS
    have HM := Lib.hid CM
    clear CS CM hm hi hb hT hV hv
    go_enter Tryd.func9, Tryd.ntmps9
    go_wp2_with (fail)
    with_reducible refine (HS.out _ H1.out).mono ?_
    rintro e w2 ⟨rfl, hb2⟩
    have H2 := Lib.hid (H1.out.step hb2)
    obtain ⟨d0, d1, d2, d3, d4, d5⟩ := H2.out.cells
    clear hb2 H1
    go_wp2_with (fail)
    with_reducible refine (HM.out _ H2.out).mono ?_
    rintro e w3 ⟨rfl, hb3⟩
    have H3 := Lib.hid (H2.out.step hb3)
    clear d0 d1 d2 d3 d4 d5 hb3 H2
    go_wp2_with (fail)
    with_reducible refine (known_calls w3 H3.out.tabs).mono ?_
    rintro e w6 ⟨rfl, hb6⟩
    have H6 := Lib.hid (H3.out.step hb6)
    clear hb6
    go_wp2
    go_ret
    exact ⟨rfl, H6.out.below⟩

end Go.Proofs.YtjmkafbdmppfaaaDoor
