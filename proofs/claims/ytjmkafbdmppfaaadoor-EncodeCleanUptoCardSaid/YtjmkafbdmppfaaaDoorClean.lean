/- The law EncodeClean, walked: it returns true. Condition: a bulk of at most 10^8. -/
import Derived.Test.YtjmkafbdmppfaaaDoorProg
import Derived.Test.YtjmkafbdmppfaaaDoorBox
import Derived.Test.YtjmkafbdmppfaaaDoorClnP
namespace Go.Proofs.YtjmkafbdmppfaaaDoor
open Go.RowKit

set_option maxRecDepth 100000 in
set_option maxHeartbeats 4000000 in
theorem Clean_law (v : Val) (cs : List Value) (w : World) (hT : Tabs w) (hV : HoldsV w w.heap.size v cs) (hb : v.bulk ≤ 100000000) (hi : inV v) :
    Calls Tryd.prog 5 #[.agg cs.toArray] w fun e w' => e = .returned (.bool true) ∧ Below w.heap.size w w' := by
  have hV' := hV
  obtain ⟨k, b, n, t, l, o⟩ := v
  simp only [HoldsV] at hV'
  obtain ⟨la, lc, oa, oc, rfl, _, _⟩ := hV'
  have H1 := Lib.hid (Boxd.start hT hV)
  obtain ⟨v, hv⟩ : ∃ v, Val.mk k b n t l o = v := ⟨_, rfl⟩
  rw [hv] at hi hb H1
  have CT := fun w' (h : Boxd w w.heap.size v (cells6 k b n t la l.length lc oa o.length oc) w') => Text_calls v _ w' h.tabs h.2.2.2 (by omega) hi
  have CM := fun w' (h : Boxd w w.heap.size v (cells6 k b n t la l.length lc oa o.length oc) w') => RMay_calls v _ w' h.2.2.2 (by omega)
  by_cases hm : mayV v 1 = 0
  · have hok := okV_of v 1 hm hi
    have hlen := textV_len v hok
    obtain ⟨S, hS⟩ : ∃ S : ByteArray, (⟨(textV v).toArray⟩ : ByteArray) = S := ⟨_, rfl⟩
    have hSs : S.size ≤ 700000000 := by rw [← hS, size_mk]; omega
    have hSl : S.data.toList = textV v := by rw [← hS]
    have hval : validB S = true := by unfold validB; rw [hSl]; exact valid_text v
    have hcl : clean false (S.data.toList.drop 0) = true := by rw [List.drop_zero, hSl]; exact clean_text v
    rw [textS_ok' hm, hS, hm] at CT
    rw [hm] at CM
    have CV := fun w' => RValid_calls S w' (by omega)
    rw [hval] at CV
    have HT := Lib.hid CT
    have HM := Lib.hid CM
    have HV := Lib.hid CV
    have H0 := Lib.hid hcl
    clear CT CM CV hcl hval hSl hm hS hi hb hT hV hv hlen hok
    go_enter Tryd.func5, Tryd.ntmps5
    go_wp2_with (fail)
    with_reducible refine (HM.out _ H1.out).mono ?_
    rintro e w2 ⟨rfl, hb2⟩
    have H2 := Lib.hid (H1.out.step hb2)
    obtain ⟨d0, d1, d2, d3, d4, d5⟩ := H2.out.cells
    clear hb2 H1
    go_wp2_with (fail)
    with_reducible refine (HT.out _ H2.out).mono ?_
    rintro e w3 ⟨rfl, hb3⟩
    have H3 := Lib.hid (H2.out.step hb3)
    clear d0 d1 d2 d3 d4 d5 hb3 H2
    go_wp2_with (fail)
    with_reducible refine (HV.out _).mono ?_
    rintro e w' ⟨rfl, rfl⟩
    clear HV HT HM
    go_wp2_with (fail)
    go_loop [5, 6] (fun bb i => ∃ (q : Bool) (j : Nat), bb = .bool q ∧ i = .int .i64 j ∧ j ≤ S.size + 1 ∧ Hid (clean q (S.data.toList.drop j) = true)) (fun _ i => S.size + 1 - (intOf i).toNat)
    case atStart => exact ⟨false, 0, rfl, rfl, Nat.zero_le _, H0⟩
    case round =>
      obtain ⟨q, j, rfl, rfl, hj, hq⟩ := hrel
      clear H0
      by_cases hlt : j < S.size
      · obtain ⟨c, hc⟩ : ∃ c, S[j] = c := ⟨_, rfl⟩
        have hd := drop_byte S j hlt
        rw [hc] at hd
        have hq' := hq.out
        rw [hd, clean_cons] at hq'
        have hcb : (c.toNat : Int) < 256 := by have := c.toNat_lt; omega
        have hc0 : 0 ≤ (c.toNat : Int) := by omega
        by_cases h1 : c.toNat < 32 ∨ (c.toNat = 32 ∧ q = false)
        · rw [if_pos h1] at hq'
          cases hq'
        rw [if_neg h1] at hq'
        have h32 : 32 ≤ (c.toNat : Int) := by omega
        by_cases h2 : q = true ∧ c.toNat = 92
        · rw [if_pos h2] at hq'
          obtain ⟨rfl, h92⟩ := h2
          have h92' : (c.toNat : Int) = 92 := by omega
          cases hr : S.data.toList.drop (j + 1) with
          | nil => rw [hr] at hq'; simp at hq'
          | cons x r =>
            rw [hr] at hq'
            simp only at hq'
            have hjs : j + 2 ≤ S.size := by
              have := congrArg List.length hr
              rw [List.length_drop, size_list] at this
              simp at this
              omega
            have hr2 : S.data.toList.drop (j + 2) = r := by
              rw [show j + 2 = j + 1 + 1 from rfl, ← List.drop_drop, hr]; rfl
            have Hn : Hid (clean true (S.data.toList.drop (j + 2)) = true) := by show _ = _; rw [hr2]; exact hq'
            clear hq hq' hr hr2 hd h1
            go_wp2
            go_round
            case rel => exact ⟨true, j + 2, rfl, by go_num, by omega, Hn⟩
            case measure => simp only [intOf]; omega
        · rw [if_neg h2] at hq'
          by_cases h34 : c.toNat = 34
          · rw [if_pos h34] at hq'
            have h34' : (c.toNat : Int) = 34 := by omega
            have Hn := Lib.hid hq'
            clear hq hq' hd h1 h2
            cases q
            · go_wp2
              go_round
              case rel => exact ⟨true, j + 1, rfl, by go_num, by omega, Hn⟩
              case measure => simp only [intOf]; omega
            · go_wp2
              go_round
              case rel => exact ⟨false, j + 1, rfl, by go_num, by omega, Hn⟩
              case measure => simp only [intOf]; omega
          · rw [if_neg h34] at hq'
            have h34' : ((c.toNat : Int) == 34) = false := by simp; omega
            have Hn := Lib.hid hq'
            cases q
            · have h32' : ((c.toNat : Int) == 32) = false := by simp; simp at h1; omega
              clear hq hq' hd h1 h2 h34
              go_wp2
              go_round
              case rel => exact ⟨false, j + 1, rfl, by go_num, by omega, Hn⟩
              case measure => simp only [intOf]; omega
            · have h92' : ((c.toNat : Int) == 92) = false := by simp; simp at h2; omega
              clear hq hq' hd h1 h2 h34
              go_wp2
              all_goals
                go_round
                case rel => exact ⟨true, j + 1, rfl, by go_num, by omega, Hn⟩
                case measure => simp only [intOf]; omega
      · have hq' := hq.out
        rw [List.drop_eq_nil_of_le (by rw [size_list]; omega)] at hq'
        obtain rfl : q = false := by cases q <;> simp [clean] at hq' ⊢
        clear hq hq'
        go_wp2_with (fail)
        with_reducible refine (known_calls w3 H3.out.tabs).mono ?_
        rintro e w6 ⟨rfl, hb6⟩
        have H6 := Lib.hid (H3.out.step hb6)
        clear hb6
        go_wp2
        go_ret
        exact ⟨rfl, H6.out.below⟩
  · have hmb : (mayV v 1 == 0) = false := by simpa using hm
    have hmn : (mayV v 1 != 0) = true := by simpa using hm
    generalize mayV v 1 = m at *
    have HM := Lib.hid CM
    clear CT CM hm hi hb hT hV hv
    go_enter Tryd.func5, Tryd.ntmps5
    go_wp2_with (fail)
    with_reducible refine (HM.out _ H1.out).mono ?_
    rintro e w2 ⟨rfl, hb2⟩
    have H2 := Lib.hid (H1.out.step hb2)
    clear hb2 H1
    go_wp2_with (fail)
    with_reducible refine (known_calls w2 H2.out.tabs).mono ?_
    rintro e w6 ⟨rfl, hb6⟩
    have H6 := Lib.hid (H2.out.step hb6)
    clear hb6
    go_wp2
    go_ret
    exact ⟨rfl, H6.out.below⟩

end Go.Proofs.YtjmkafbdmppfaaaDoor
