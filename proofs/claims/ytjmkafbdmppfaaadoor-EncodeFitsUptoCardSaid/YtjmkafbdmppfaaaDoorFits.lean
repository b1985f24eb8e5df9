/- encode.Fits and the reference's, and the law EncodeFits, walked: it returns true. Condition: a bulk of at most 10^8. -/
import Derived.Test.YtjmkafbdmppfaaaDoorProg
import Derived.Test.YtjmkafbdmppfaaaDoorBox
import Derived.Test.YtjmkafbdmppfaaaDoorRDeep
import Derived.Deep.RegionWith
namespace Go.Proofs.YtjmkafbdmppfaaaDoor
open Go.RowKit

/-- Why a value does not fit. -/
def fitsV (v : Val) : Int := if mayV v 1 = 0 then (if 16 < deepV v then 5 else if 1024 < (textV v).length then 6 else 0) else mayV v 1

set_option maxRecDepth 100000 in
set_option maxHeartbeats 2000000 in
theorem Fits_calls (v : Val) (cs : List Value) (w : World) (hT : Tabs w) (hV : HoldsV w w.heap.size v cs) (hb : v.bulk ≤ 100000000) (hi : inV v) :
    Calls Tryd.prog 22 #[.agg cs.toArray] w fun e w' => e = .returned (.int .i64 (fitsV v)) ∧ Below w.heap.size w w' := by
  have hV' := hV
  obtain ⟨k, b, n, t, l, o⟩ := v
  simp only [HoldsV] at hV'
  obtain ⟨la, lc, oa, oc, rfl, _, _⟩ := hV'
  have H1 := Lib.hid (Boxd.start hT hV)
  obtain ⟨v, hv⟩ : ∃ v, Val.mk k b n t l o = v := ⟨_, rfl⟩
  rw [hv] at hi hb H1 ⊢
  have CM := fun w' (h : Boxd w w.heap.size v (cells6 k b n t la l.length lc oa o.length oc) w') => May_calls v _ w' h.tabs h.2.2.2 (by omega)
  unfold fitsV
  by_cases hm : mayV v 1 = 0
  · have hok := okV_of v 1 hm hi
    have CB := fun w' (h : Boxd w w.heap.size v (cells6 k b n t la l.length lc oa o.length oc) w') => bytes_calls v _ w' h.tabs h.2.2.2 (by omega) hok
    have CD := fun w' (h : Boxd w w.heap.size v (cells6 k b n t la l.length lc oa o.length oc) w') => deep_calls v _ w' h.2.2.2 (by omega)
    rw [if_pos hm]
    rw [hm] at CM
    generalize (textV v).length = L at CB ⊢
    generalize deepV v = D at CD ⊢
    have HB := Lib.hid CB
    have HD := Lib.hid CD
    have HM := Lib.hid CM
    clear CB CM CD hm hi hb hT hV hv hok
    by_cases hd : 16 < D
    · rw [if_pos hd]
      go_enter Tryd.func22, Tryd.ntmps22
      go_wp2_with (fail)
      with_reducible refine (HM.out _ H1.out).mono ?_
      rintro e w2 ⟨rfl, hb2⟩
      have H2 := Lib.hid (H1.out.step hb2)
      obtain ⟨d0, d1, d2, d3, d4, d5⟩ := H2.out.cells
      clear hb2 H1
      go_wp2_with (fail)
      with_reducible refine (HD.out _ H2.out).mono ?_
      rintro e w3 ⟨rfl, hb3⟩
      have H3 := Lib.hid (H2.out.step hb3)
      clear d0 d1 d2 d3 d4 d5 hb3 H2
      go_wp2
      go_ret
      exact ⟨rfl, H3.out.below⟩
    · rw [if_neg hd]
      by_cases hl : 1024 < L
      all_goals
        (first | rw [if_pos hl] | rw [if_neg hl])
        go_enter Tryd.func22, Tryd.ntmps22
        go_wp2_with (fail)
        with_reducible refine (HM.out _ H1.out).mono ?_
        rintro e w2 ⟨rfl, hb2⟩
        have H2 := Lib.hid (H1.out.step hb2)
        obtain ⟨d0, d1, d2, d3, d4, d5⟩ := H2.out.cells
        clear hb2 H1
        go_wp2_with (fail)
        with_reducible refine (HD.out _ H2.out).mono ?_
        rintro e w3 ⟨rfl, hb3⟩
        have H3 := Lib.hid (H2.out.step hb3)
        clear d0 d1 d2 d3 d4 d5 hb3 H2
        obtain ⟨d0, d1, d2, d3, d4, d5⟩ := H3.out.cells
        go_wp2_with (fail)
        with_reducible refine (HB.out _ H3.out).mono ?_
        rintro e w4 ⟨rfl, hb4⟩
        have H4 := Lib.hid (H3.out.step hb4)
        clear d0 d1 d2 d3 d4 d5 hb4 H3
        go_wp2
        go_ret
        exact ⟨rfl, H4.out.below⟩
  · rw [if_neg hm]
    have hmb : (mayV v 1 == 0) = false := by simpa using hm
    have hmn : (mayV v 1 != 0) = true := by simpa using hm
    generalize mayV v 1 = m at *
    have HM := Lib.hid CM
    clear CM hm hi hb hT hV hv
    go_enter Tryd.func22, Tryd.ntmps22
    go_wp2_with (fail)
    with_reducible refine (HM.out _ H1.out).mono ?_
    rintro e w2 ⟨rfl, hb2⟩
    have H2 := Lib.hid (H1.out.step hb2)
    clear hb2 H1
    go_wp2
    go_ret
    exact ⟨rfl, H2.out.below⟩

set_option maxRecDepth 100000 in
set_option maxHeartbeats 2000000 in
theorem RFits_calls (v : Val) (cs : List Value) (w : World) (hT : Tabs w) (hV : HoldsV w w.heap.size v cs) (hb : v.bulk ≤ 100000000) (hi : inV v) :
    Calls Tryd.prog 23 #[.agg cs.toArray] w fun e w' => e = .returned (.int .i64 (fitsV v)) ∧ Below w.heap.size w w' := by
  have hV' := hV
  obtain ⟨k, b, n, t, l, o⟩ := v
  simp only [HoldsV] at hV'
  obtain ⟨la, lc, oa, oc, rfl, _, _⟩ := hV'
  have H1 := Lib.hid (Boxd.start hT hV)
  obtain ⟨v, hv⟩ : ∃ v, Val.mk k b n t l o = v := ⟨_, rfl⟩
  rw [hv] at hi hb H1 ⊢
  have CM := fun w' (h : Boxd w w.heap.size v (cells6 k b n t la l.length lc oa o.length oc) w') => RMay_calls v _ w' h.2.2.2 (by omega)
  unfold fitsV
  by_cases hm : mayV v 1 = 0
  · have CB := fun w' (h : Boxd w w.heap.size v (cells6 k b n t la l.length lc oa o.length oc) w') => rtext_calls v _ w' 1 h.2.2.2 (by omega) hm hi
    have CD := fun w' (h : Boxd w w.heap.size v (cells6 k b n t la l.length lc oa o.length oc) w') => rdeep_calls v _ w' h.2.2.2 (by omega)
    obtain ⟨S, hS⟩ : ∃ S : ByteArray, (⟨(textV v).toArray⟩ : ByteArray) = S := ⟨_, rfl⟩
    have hL : (textV v).length = S.size := by rw [← hS, size_mk]
    rw [if_pos hm, hL]
    rw [hm] at CM
    rw [hS] at CB
    generalize deepV v = D at CD ⊢
    have HB := Lib.hid CB
    have HD := Lib.hid CD
    have HM := Lib.hid CM
    clear CB CM CD hm hi hb hT hV hv hS hL
    by_cases hd : 16 < D
    · rw [if_pos hd]
      go_enter Tryd.func23, Tryd.ntmps23
      go_wp2_with (fail)
      with_reducible refine (HM.out _ H1.out).mono ?_
      rintro e w2 ⟨rfl, hb2⟩
      have H2 := Lib.hid (H1.out.step hb2)
      obtain ⟨d0, d1, d2, d3, d4, d5⟩ := H2.out.cells
      clear hb2 H1
      go_wp2_with (fail)
      with_reducible refine (HD.out _ H2.out).mono ?_
      rintro e w3 ⟨rfl, hb3⟩
      have H3 := Lib.hid (H2.out.step hb3)
      clear d0 d1 d2 d3 d4 d5 hb3 H2
      go_wp2
      go_ret
      exact ⟨rfl, H3.out.below⟩
    · rw [if_neg hd]
      by_cases hl : 1024 < S.size
      all_goals
        (first | rw [if_pos hl] | rw [if_neg hl])
        go_enter Tryd.func23, Tryd.ntmps23
        go_wp2_with (fail)
        with_reducible refine (HM.out _ H1.out).mono ?_
        rintro e w2 ⟨rfl, hb2⟩
        have H2 := Lib.hid (H1.out.step hb2)
        obtain ⟨d0, d1, d2, d3, d4, d5⟩ := H2.out.cells
        clear hb2 H1
        go_wp2_with (fail)
        with_reducible refine (HD.out _ H2.out).mono ?_
        rintro e w3 ⟨rfl, hb3⟩
        have H3 := Lib.hid (H2.out.step hb3)
        clear d0 d1 d2 d3 d4 d5 hb3 H2
        obtain ⟨d0, d1, d2, d3, d4, d5⟩ := H3.out.cells
        go_wp2_with (fail)
        with_reducible refine (HB.out _ H3.out).mono ?_
        rintro e w4 ⟨rfl, hb4⟩
        have H4 := Lib.hid (H3.out.step hb4)
        clear d0 d1 d2 d3 d4 d5 hb4 H3
        go_wp2
        go_ret
        exact ⟨rfl, H4.out.below⟩
  · rw [if_neg hm]
    have hmb : (mayV v 1 == 0) = false := by simpa using hm
    have hmn : (mayV v 1 != 0) = true := by simpa using hm
    generalize mayV v 1 = m at *
    have HM := Lib.hid CM
    clear CM hm hi hb hT hV hv
    go_enter Tryd.func23, Tryd.ntmps23
    go_wp2_with (fail)
    with_reducible refine (HM.out _ H1.out).mono ?_
    rintro e w2 ⟨rfl, hb2⟩
    have H2 := Lib.hid (H1.out.step hb2)
    clear hb2 H1
    go_wp2
    go_ret
    exact ⟨rfl, H2.out.below⟩

set_option maxRecDepth 100000 in
set_option maxHeartbeats 4000000 in
theorem Fits_law (v : Val) (cs : List Value) (w : World) (hT : Tabs w) (hV : HoldsV w w.heap.size v cs) (hb : v.bulk ≤ 100000000) (hi : inV v) :
    Calls Tryd.prog 10 #[.agg cs.toArray] w fun e w' => e = .returned (.bool true) ∧ Below w.heap.size w w' := by
  have hV' := hV
  obtain ⟨k, b, n, t, l, o⟩ := v
  simp only [HoldsV] at hV'
  obtain ⟨la, lc, oa, oc, rfl, _, _⟩ := hV'
  have H1 := Lib.hid (Boxd.start hT hV)
  obtain ⟨v, hv⟩ : ∃ v, Val.mk k b n t l o = v := ⟨_, rfl⟩
  rw [hv] at hi hb H1
  have CF := fun w' (h : Boxd w w.heap.size v (cells6 k b n t la l.length lc oa o.length oc) w') => Fits_calls v _ w' h.tabs h.2.2.2 hb hi
  have CR := fun w' (h : Boxd w w.heap.size v (cells6 k b n t la l.length lc oa o.length oc) w') => RFits_calls v _ w' h.tabs h.2.2.2 hb hi
  generalize fitsV v = F at CF CR
  have HF := Lib.hid CF
  have HR := Lib.hid CR
  clear CF CR hi hb hT hV hv
  go_enter Tryd.func10, Tryd.ntmps10
  go_wp2_with (fail)
  have H1d : Hid (Boxd w w.heap.size v (cells6 k b n t la l.length lc oa o.length oc) (w.alloc (.cells (cells6 k b n t la l.length lc oa o.length oc).toArray 26)).drew) := Lib.hid (H1.out.step (Below.drew (Below.refl _ _)))
  clear H1
  go_region_with (first | (go_at_call 22; refine (HF.out _ H1d.out).mono ?_; rintro e w2 ⟨rfl, hb2⟩; have H2 := Lib.hid (H1d.out.step hb2); obtain ⟨d0, d1, d2, d3, d4, d5⟩ := H2.out.cells; clear hb2) | (go_at_call 23; refine (HR.out _ H2.out).mono ?_; rintro e w3 ⟨rfl, hb3⟩; have H3 := Lib.hid (H2.out.step hb3); clear hb3) | (go_at_call 14; refine (known_calls w3 H3.out.tabs).mono ?_; rintro e w4 ⟨rfl, hb4⟩; have H4 := Lib.hid (H3.out.step hb4); clear hb4))
  all_goals
    go_wp2
    go_ret
    exact ⟨rfl, H4.out.below⟩

end Go.Proofs.YtjmkafbdmppfaaaDoor
