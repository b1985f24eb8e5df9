/- The law EncodeTexts, walked: it returns true. Condition: a bulk of at most 10^8. -/
import Derived.Test.YtjmkafbdmppfaaaDoorProg
import Derived.Test.YtjmkafbdmppfaaaDoorBox
namespace Go.Proofs.YtjmkafbdmppfaaaDoor
open Go.RowKit

set_option maxRecDepth 100000 in
set_option maxHeartbeats 2000000 in
theorem Texts_law (v : Val) (cs : List Value) (w : World) (hT : Tabs w) (hV : HoldsV w w.heap.size v cs) (hb : v.bulk ≤ 100000000) (hi : inV v) :
    Calls Tryd.prog 3 #[.agg cs.toArray] w fun e w' => e = .returned (.bool true) ∧ Below w.heap.size w w' := by
  have hV' := hV
  obtain ⟨k, b, n, t, l, o⟩ := v
  simp only [HoldsV] at hV'
  obtain ⟨la, lc, oa, oc, rfl, _, _⟩ := hV'
  have H1 := Lib.hid (Boxd.start hT hV)
  obtain ⟨v, hv⟩ : ∃ v, Val.mk k b n t l o = v := ⟨_, rfl⟩
  rw [hv] at hi hb H1
  have CT := fun w' (h : Boxd w w.heap.size v (cells6 k b n t la l.length lc oa o.length oc) w') => Text_calls v _ w' h.tabs h.2.2.2 (by omega) hi
  have CB := fun w' (h : Boxd w w.heap.size v (cells6 k b n t la l.length lc oa o.length oc) w') => Bytes_calls v _ w' h.tabs h.2.2.2 (by omega) hi
  have CM := fun w' (h : Boxd w w.heap.size v (cells6 k b n t la l.length lc oa o.length oc) w') => RMay_calls v _ w' h.2.2.2 (by omega)
  by_cases hm : mayV v 1 = 0
  · have CR := fun w' (h : Boxd w w.heap.size v (cells6 k b n t la l.length lc oa o.length oc) w') => rtext_calls v _ w' 1 h.2.2.2 (by omega) hm hi
    obtain ⟨S, hS⟩ : ∃ S : ByteArray, (⟨(textV v).toArray⟩ : ByteArray) = S := ⟨_, rfl⟩
    have hL : ((textV v).length : Int) = (S.size : Int) := by rw [← hS, size_mk]
    rw [textS_ok' hm, hS, hm] at CT
    rw [if_pos hm, hL, hm] at CB
    rw [hm] at CM
    rw [hS] at CR
    have HT := Lib.hid CT
    have HB := Lib.hid CB
    have HM := Lib.hid CM
    have HR := Lib.hid CR
    clear CT CB CM CR hm hS hL hi hb hT hV hv
    go_enter Tryd.func3, Tryd.ntmps3
    go_wp2_with (fail)
    with_reducible refine (HT.out _ H1.out).mono ?_
    rintro e w2 ⟨rfl, hb2⟩
    have H2 := Lib.hid (H1.out.step hb2)
    obtain ⟨d0, d1, d2, d3, d4, d5⟩ := H2.out.cells
    clear hb2 H1
    go_wp2_with (fail)
    with_reducible refine (HB.out _ H2.out).mono ?_
    rintro e w3 ⟨rfl, hb3⟩
    have H3 := Lib.hid (H2.out.step hb3)
    clear d0 d1 d2 d3 d4 d5 hb3 H2
    obtain ⟨d0, d1, d2, d3, d4, d5⟩ := H3.out.cells
    go_wp2_with (fail)
    with_reducible refine (HM.out _ H3.out).mono ?_
    rintro e w4 ⟨rfl, hb4⟩
    have H4 := Lib.hid (H3.out.step hb4)
    clear d0 d1 d2 d3 d4 d5 hb4 H3
    obtain ⟨d0, d1, d2, d3, d4, d5⟩ := H4.out.cells
    go_wp2_with (fail)
    with_reducible refine (HR.out _ H4.out).mono ?_
    rintro e w5 ⟨rfl, hb5⟩
    have H5 := Lib.hid (H4.out.step hb5)
    clear d0 d1 d2 d3 d4 d5 hb5 H4
    go_wp2_with (fail)
    with_reducible refine (known_calls w5 H5.out.tabs).mono ?_
    rintro e w6 ⟨rfl, hb6⟩
    have H6 := Lib.hid (H5.out.step hb6)
    clear hb6
    go_wp2
    go_ret
    exact ⟨rfl, H6.out.below⟩
  · rw [textS_no' hm] at CT
    rw [if_neg hm] at CB
    have hmb : (mayV v 1 == 0) = false := by simpa using hm
    have hmn : (mayV v 1 != 0) = true := by simpa using hm
    generalize mayV v 1 = m at *
    have HT := Lib.hid CT
    have HB := Lib.hid CB
    have HM := Lib.hid CM
    clear CT CB CM hm hi hb hT hV hv
    go_enter Tryd.func3, Tryd.ntmps3
    go_wp2_with (fail)
    with_reducible refine (HT.out _ H1.out).mono ?_
    rintro e w2 ⟨rfl, hb2⟩
    have H2 := Lib.hid (H1.out.step hb2)
    obtain ⟨d0, d1, d2, d3, d4, d5⟩ := H2.out.cells
    clear hb2 H1
    go_wp2_with (fail)
    with_reducible refine (HB.out _ H2.out).mono ?_
    rintro e w3 ⟨rfl, hb3⟩
    have H3 := Lib.hid (H2.out.step hb3)
    clear d0 d1 d2 d3 d4 d5 hb3 H2
    obtain ⟨d0, d1, d2, d3, d4, d5⟩ := H3.out.cells
    go_wp2_with (fail)
    with_reducible refine (HM.out _ H3.out).mono ?_
    rintro e w4 ⟨rfl, hb4⟩
    have H4 := Lib.hid (H3.out.step hb4)
    clear d0 d1 d2 d3 d4 d5 hb4 H3
    go_wp2_with (fail)
    with_reducible refine (known_calls w4 H4.out.tabs).mono ?_
    rintro e w6 ⟨rfl, hb6⟩
    have H6 := Lib.hid (H4.out.step hb6)
    clear hb6
    go_wp2
    go_ret
    exact ⟨rfl, H6.out.below⟩

end Go.Proofs.YtjmkafbdmppfaaaDoor
