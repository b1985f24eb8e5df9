/- Parts, joined: commonplaceref01: hex, Unquote. Condition: a text of at most 10^9 bytes. -/
import Derived.Test.YtgjiienipeoajaaGreatDoorProg
import Derived.Test.YtgjiienipeoajaaGreatDoorKPrs2
import Derived.Test.YtgjiienipeoajaaGreatDoorKPrs11
import Derived.Test.YtgjiienipeoajaaGreatDoorKPrs20
import Derived.Test.YtgjiienipeoajaaGreatDoorKPrs24
import Derived.Test.YtgjiienipeoajaaGreatDoorKPrs26
import Derived.Test.YtgjiienipeoajaaGreatDoorKPrs29
/- commonplaceref01: hex, Unquote. Condition: a text of at most 10^9 bytes. -/
namespace Go.Proofs.YtgjiienipeoajaaGreatDoor
open Go Go.RowKit

def hexR (u : Option Nat) : Int := match u with
  | some n => n
  | none => -1
theorem unit_drop {s : ByteArray} {p : Nat} (h : p + 6 ≤ s.size) (a : s[p] = 92) (b : s[p + 1] = 117) : unitL (s.data.toList.drop p) = hexF (s.data.toList.drop (p + 2)) 4 0 := by
  have ga : (s.data.toList.drop p)[0]? = some 92 := by rw [List.getElem?_drop, Nat.add_zero, get_byte s (by omega), a]
  have gb : (s.data.toList.drop p)[1]? = some 117 := by rw [List.getElem?_drop, get_byte s (by omega), b]
  unfold unitL
  rw [if_neg, List.drop_drop]
  rw [ga, gb, List.length_drop, size_toList]
  simp; omega
set_option maxRecDepth 100000 in
set_option maxHeartbeats 8000000 in
theorem rhex_calls (s : ByteArray) (p : Nat) (w : World) (hs : s.size ≤ 1000000000) (hp : p ≤ s.size + 6) : Calls Tryz.prog 97 #[.string s, .int .i64 p] w fun e w' => e = .returned (.int .i64 (hexR (unitL (s.data.toList.drop p)))) ∧ w = w' := by
  have hlen := size_toList s
  by_cases h6 : s.size < p + 6
  · have e : unitL (s.data.toList.drop p) = none := by unfold unitL; rw [if_pos (.inl (by rw [List.length_drop]; omega))]
    rw [e]
    have l : (s.size : Int) < (p : Int) + 6 := by omega
    clear e hlen
    go_enter Tryz.func97, Tryz.ntmps97
    go_wp2
    go_ret
    exact ⟨rfl, rfl⟩
  have l6 : ¬((s.size : Int) < (p : Int) + 6) := by omega
  have q0 : p < s.size := by omega
  have q1 : p + 1 < s.size := by omega
  obtain ⟨a, ha⟩ : ∃ a, s[p] = a := ⟨_, rfl⟩
  obtain ⟨b, hb⟩ : ∃ b, s[p + 1] = b := ⟨_, rfl⟩
  have hal := byte_lt a
  have hbl := byte_lt b
  have ne : ∀ (c : UInt8) (n : Nat), n < 256 → c ≠ UInt8.ofNat n → ((c.toNat : Int) == (n : Int)) = false := fun c n hn h => by rw [byte_eq hn]; simpa using h
  have ga : (s.data.toList.drop p)[0]? = some a := by rw [List.getElem?_drop, Nat.add_zero, get_byte s q0, ha]
  have gb : (s.data.toList.drop p)[1]? = some b := by rw [List.getElem?_drop, get_byte s q1, hb]
  by_cases h92 : a = 92
  rotate_left
  · have e : unitL (s.data.toList.drop p) = none := by unfold unitL; rw [if_pos]; right; left; rw [ga]; simpa using h92
    have e1 := ne a 92 (by decide) h92
    rw [e]
    clear e hlen ga gb ne h92 h6
    go_enter Tryz.func97, Tryz.ntmps97
    go_wp2
    go_ret
    exact ⟨rfl, rfl⟩
  by_cases h117 : b = 117
  rotate_left
  · have e : unitL (s.data.toList.drop p) = none := by unfold unitL; rw [if_pos]; right; right; rw [gb]; simpa using h117
    have e1 := ne b 117 (by decide) h117
    rw [e]
    subst h92
    clear e hlen ga gb ne h117 h6
    go_enter Tryz.func97, Tryz.ntmps97
    go_wp2
    go_ret
    exact ⟨rfl, rfl⟩
  subst h92 h117
  rw [unit_drop (by omega) ha hb]
  obtain ⟨F, hF⟩ : ∃ F, hexF (s.data.toList.drop (p + 2)) 4 0 = F := ⟨_, rfl⟩
  rw [hF]
  have H0 := Lib.hid hF
  clear hF ga gb ne hlen
  go_enter Tryz.func97, Tryz.ntmps97
  go_wp2
  go_loop [5, 6] (fun x i => ∃ k n : Nat, 2 ≤ k ∧ k ≤ 6 ∧ i = .int .i64 k ∧ x = .int .i64 n ∧ n < 16 ^ (k - 2) ∧ Hid (hexF (s.data.toList.drop (p + k)) (6 - k) n = F)) (fun _ i => 6 - (intOf i).toNat)
  case atStart => exact ⟨2, 0, by omega, by omega, rfl, rfl, by decide, H0⟩
  case round =>
    obtain ⟨k, n, hk2, hk6, rfl, rfl, hn, hf⟩ := hrel
    clear H0 ha hb
    by_cases hlt : k < 6
    · have hkt : p + k < s.size := by omega
      obtain ⟨c, hc⟩ : ∃ c, s[p + k] = c := ⟨_, rfl⟩
      have hg : s.data.toList[p + k]? = some c := by rw [get_byte s hkt, hc]
      have hcl := byte_lt c
      have hc0 : (0 : Int) ≤ (c.toNat : Int) := by omega
      have hn' : n < 4096 := by
        have : 16 ^ (k - 2) ≤ 16 ^ 3 := Nat.pow_le_pow_right (by decide) (by omega)
        omega
      have hf' := hf.out
      rw [drop_at hg, show 6 - k = (6 - (k + 1)) + 1 from by omega] at hf'
      simp only [hexF] at hf'
      have hst : ∀ d, hexD c = some d → 16 * n + d < 16 ^ (k + 1 - 2) ∧ hexF (s.data.toList.drop (p + (k + 1))) (6 - (k + 1)) (16 * n + d) = F := by
        intro d hd
        rw [hd] at hf'
        refine ⟨?_, hf'⟩
        have := hexD_lt hd
        rw [show k + 1 - 2 = (k - 2) + 1 from by omega, Nat.pow_succ]; omega
      have hno : hexD c = none → none = F := by
        intro hd
        rw [hd] at hf'
        exact hf'
      clear hf hg hf' hn
      by_cases r1 : 48 ≤ c.toNat ∧ c.toNat ≤ 57
      · obtain ⟨g1, g2⟩ := hst (c.toNat - 48) (by unfold hexD; rw [if_pos r1])
        have l1 : (48 : Int) ≤ (c.toNat : Int) := by omega
        have l2 : (c.toNat : Int) < 58 := by omega
        have ev : (16 * (n : Int) + (c.toNat : Int) - 48) = ((16 * n + (c.toNat - 48) : Nat) : Int) := by omega
        have G1 := Lib.hid g1
        have G2 := Lib.hid g2
        have Ev := Lib.hid ev
        clear g1 g2 ev
        clear hst hno r1
        go_wp2
        go_round
        case rel => exact ⟨k + 1, _, by omega, by omega, by go_num, by rw [Ev.out], G1.out, G2⟩
        case measure => simp [intOf]; omega
      have l12 : ¬((48 : Int) ≤ (c.toNat : Int)) ∨ ¬((c.toNat : Int) < 58) := by omega
      by_cases r2 : 97 ≤ c.toNat ∧ c.toNat ≤ 102
      · obtain ⟨g1, g2⟩ := hst (c.toNat - 87) (by unfold hexD; rw [if_neg r1, if_pos r2])
        have l2' : ¬((c.toNat : Int) < 58) := by omega
        have l1 : (97 : Int) ≤ (c.toNat : Int) := by omega
        have l2 : (c.toNat : Int) < 103 := by omega
        have ev : (16 * (n : Int) + (c.toNat : Int) - 87) = ((16 * n + (c.toNat - 87) : Nat) : Int) := by omega
        have G1 := Lib.hid g1
        have G2 := Lib.hid g2
        have Ev := Lib.hid ev
        clear g1 g2 ev
        clear hst hno r1 r2 l12
        go_wp2
        go_round
        case rel => exact ⟨k + 1, _, by omega, by omega, by go_num, by rw [Ev.out], G1.out, G2⟩
        case measure => simp [intOf]; omega
      by_cases r3 : 65 ≤ c.toNat ∧ c.toNat ≤ 70
      · obtain ⟨g1, g2⟩ := hst (c.toNat - 55) (by unfold hexD; rw [if_neg r1, if_neg r2, if_pos r3])
        have l2' : ¬((c.toNat : Int) < 58) := by omega
        have l97 : ¬((97 : Int) ≤ (c.toNat : Int)) := by omega
        have l1 : (65 : Int) ≤ (c.toNat : Int) := by omega
        have l2 : (c.toNat : Int) < 71 := by omega
        have ev : (16 * (n : Int) + (c.toNat : Int) - 55) = ((16 * n + (c.toNat - 55) : Nat) : Int) := by omega
        have G1 := Lib.hid g1
        have G2 := Lib.hid g2
        have Ev := Lib.hid ev
        clear g1 g2 ev
        clear hst hno r1 r2 r3 l12
        go_wp2
        go_round
        case rel => exact ⟨k + 1, _, by omega, by omega, by go_num, by rw [Ev.out], G1.out, G2⟩
        case measure => simp [intOf]; omega
      have hF := hno (by unfold hexD; rw [if_neg r1, if_neg r2, if_neg r3])
      subst hF
      clear hst hno
      by_cases a1 : (48 : Int) ≤ (c.toNat : Int) <;> by_cases a2 : (c.toNat : Int) < 58 <;> by_cases a3 : (97 : Int) ≤ (c.toNat : Int) <;> by_cases a4 : (c.toNat : Int) < 103 <;> by_cases a5 : (65 : Int) ≤ (c.toNat : Int) <;> by_cases a6 : (c.toNat : Int) < 71
      all_goals first | (exfalso; omega) | (clear r1 r2 r3 l12; go_wp2; go_ret; exact ⟨rfl, rfl⟩)
    · obtain rfl : k = 6 := by omega
      have hf' := hf.out
      have e : hexF (s.data.toList.drop (p + 6)) (6 - 6) n = some n := by cases s.data.toList.drop (p + 6) <;> rfl
      rw [e] at hf'
      subst hf'
      clear hf e
      go_wp2
      go_ret
      exact ⟨rfl, rfl⟩
end Go.Proofs.YtgjiienipeoajaaGreatDoor
