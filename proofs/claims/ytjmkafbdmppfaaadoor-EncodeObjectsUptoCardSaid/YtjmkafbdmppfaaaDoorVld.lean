/- The reference's Valid, and why it holds a value for one that may not be. -/
import Derived.Test.YtjmkafbdmppfaaaDoorProg
import Derived.Test.YtjmkafbdmppfaaaDoorUtfP
import Derived.Lib.MapLaws
namespace Go.Proofs.YtjmkafbdmppfaaaDoor
open Go.RowKit

theorem validGoD_more : ∀ (n m : Nat) (l : List UInt8), l.length ≤ n → l.length ≤ m → Lib.validGoD n l = Lib.validGoD m l
  | 0, m, l, hn, hm => by
    obtain rfl : l = [] := List.eq_nil_of_length_eq_zero (by omega)
    cases m <;> simp [Lib.validGoD]
  | n + 1, 0, l, hn, hm => by
    obtain rfl : l = [] := List.eq_nil_of_length_eq_zero (by omega)
    simp [Lib.validGoD]
  | n + 1, m + 1, l, hn, hm => by
    simp only [Lib.validGoD]
    by_cases h : l = []
    · simp [h]
    · rw [if_neg h, if_neg h]
      split
      · rfl
      · have hw := Lib.decodeL_width l
        have hl : 0 < l.length := List.length_pos_iff.2 h
        exact validGoD_more n m _ (by rw [List.length_drop]; omega) (by rw [List.length_drop]; omega)

theorem validD_step {l : List UInt8} (h : l ≠ []) : Lib.validD l = if (Lib.decodeL l).1 = 65533 ∧ (Lib.decodeL l).2 = 1 then false else Lib.validD (l.drop (Lib.decodeL l).2) := by
  have hw := Lib.decodeL_width l
  have hl : 0 < l.length := List.length_pos_iff.2 h
  unfold Lib.validD
  obtain ⟨n, hn⟩ : ∃ n, l.length = n + 1 := ⟨l.length - 1, by omega⟩
  rw [hn]
  simp only [Lib.validGoD]
  rw [if_neg h]
  split
  · rfl
  · exact validGoD_more _ _ _ (by rw [List.length_drop]; omega) (Nat.le_refl _)

/-- A step of the reference's runes. -/
theorem validD_at {l : List UInt8} (h : l ≠ []) : ((atSpec l).2 = 0 ∧ Lib.validD l = false) ∨ (∃ n : Nat, (atSpec l).2 = (n : Int) ∧ 1 ≤ n ∧ n ≤ l.length ∧ Lib.validD l = Lib.validD (l.drop n)) := by
  have hg := atSpec_dec l h
  unfold goodAt at hg
  rw [validD_step h]
  by_cases hb : (Lib.decodeL l).1 = 65533 ∧ (Lib.decodeL l).2 = 1
  · rw [if_pos hb] at hg ⊢
    rw [hg]
    exact .inl ⟨rfl, rfl⟩
  · rw [if_neg hb] at hg ⊢
    rw [hg]
    have hw := Lib.decodeL_width l
    exact .inr ⟨(Lib.decodeL l).2, rfl, hw, Lib.decodeL_le l h, rfl⟩

set_option maxHeartbeats 1000000 in
/-- commonplaceref01.Valid -/
theorem RValid_calls (s : ByteArray) (w : World) (hs : s.size ≤ 1000000000) :
    Calls Tryd.prog 17 #[.string s] w fun e w' => e = .returned (.bool (validB s)) ∧ w = w' := by
  obtain ⟨V, hV⟩ : ∃ V, validB s = V := ⟨_, rfl⟩
  rw [hV]
  have H0 := Lib.hid hV
  clear hV
  go_enter Tryd.func17, Tryd.ntmps17
  go_wp2
  go_loop [3] (fun i => ∃ k : Nat, k ≤ s.size ∧ i = .int .i64 k ∧ Hid (Lib.validD (s.data.toList.drop k) = V)) (fun i => s.size - (intOf i).toNat)
  case atStart => exact ⟨0, Nat.zero_le _, rfl, H0⟩
  case round =>
    obtain ⟨k, hk, rfl, hf⟩ := hrel
    clear H0
    by_cases hlt : k < s.size
    · have hne : s.data.toList.drop k ≠ [] := by
        intro e
        have := congrArg List.length e
        rw [List.length_drop, ← Lib.size_eq] at this
        simp at this
        omega
      have hA := At_calls s k w (by omega) (by omega)
      rcases validD_at hne with ⟨h0, hv⟩ | ⟨n, hn, hn1, hn2, hv⟩
      · have hf' := hf.out
        rw [hv] at hf'
        subst hf'
        rw [h0] at hA
        generalize (atSpec (s.data.toList.drop k)).1 = R at hA
        have HA := Lib.hid hA
        clear hA h0 hv hne hf
        go_wp2_with (go_at_call 33; refine (HA.out).mono ?_; rintro e w' ⟨rfl, rfl⟩)
        go_ret
        exact ⟨rfl, rfl⟩
      · have hf' := hf.out
        rw [hv, List.drop_drop] at hf'
        have Hf := Lib.hid hf'
        rw [hn] at hA
        rw [List.length_drop, ← Lib.size_eq] at hn2
        generalize (atSpec (s.data.toList.drop k)).1 = R at hA
        have HA := Lib.hid hA
        clear hA hn hv hne hf hf'
        have e0 : ((n : Int) == 0) = false := by simp; omega
        go_wp2_with (go_at_call 33; refine (HA.out).mono ?_; rintro e w' ⟨rfl, rfl⟩)
        go_round
        case rel => exact ⟨k + n, by omega, by go_num, Hf⟩
        case measure => simp [intOf]; omega
    · obtain rfl : k = s.size := by omega
      have hf' := hf.out
      rw [List.drop_eq_nil_of_le (by rw [← Lib.size_eq]; omega)] at hf'
      have : V = true := by rw [← hf']; rfl
      subst this
      clear hf hf'
      go_wp2
      go_ret
      exact ⟨rfl, rfl⟩

end Go.Proofs.YtjmkafbdmppfaaaDoor
