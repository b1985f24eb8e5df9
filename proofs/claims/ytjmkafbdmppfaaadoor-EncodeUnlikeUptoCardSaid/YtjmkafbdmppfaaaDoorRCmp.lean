/- commonplaceref02.numbers and texts. Condition: texts of at most 10^9 bytes. -/
import Derived.Test.YtjmkafbdmppfaaaDoorProg
import Derived.Test.YtjmkafbdmppfaaaDoorBase
import Derived.Test.YtjmkafbdmppfaaaDoorMay
import Derived.Deep.QuietTactic
import Derived.Deep.RegionWith
namespace Go.Proofs.YtjmkafbdmppfaaaDoor
open Go.RowKit

/-- Below 0, 0, above 0. -/
def numV (a b : Int) : Int := if a < b then -1 else if b < a then 1 else 0
theorem numV_zero {a b : Int} : numV a b = 0 ↔ a = b := by
  unfold numV
  split
  · constructor <;> intro h <;> omega
  split
  · constructor <;> intro h <;> omega
  · constructor <;> intro h <;> omega

theorem num_calls (a b : Int) (w : World) : Calls Tryd.prog 31 #[.int .i64 a, .int .i64 b] w fun e w' => e = .returned (.int .i64 (numV a b)) ∧ w' = w := by
  unfold numV
  by_cases h1 : a < b
  · rw [if_pos h1]
    go_enter Tryd.func31, Tryd.ntmps31
    go_wp2
    go_ret
    exact ⟨rfl, rfl⟩
  rw [if_neg h1]
  by_cases h2 : b < a
  · rw [if_pos h2]
    go_enter Tryd.func31, Tryd.ntmps31
    go_wp2
    go_ret
    exact ⟨rfl, rfl⟩
  · rw [if_neg h2]
    go_enter Tryd.func31, Tryd.ntmps31
    go_wp2
    go_ret
    exact ⟨rfl, rfl⟩

/-- What texts hands back. -/
def TextsPost (a b : ByteArray) (w : World) (e : Ending) (w' : World) : Prop := ∃ c : Int, e = .returned (.int .i64 c) ∧ (c = 0 ↔ a = b) ∧ Below w.heap.size w w'

theorem TextsPost.of {a b : ByteArray} {w w' : World} {c : Int} (h : c = 0 ↔ a = b) (hb : Below w.heap.size w w') : TextsPost a b w (.returned (.int .i64 c)) w' := ⟨c, rfl, h, hb⟩

set_option maxRecDepth 100000 in
set_option maxHeartbeats 2000000 in
theorem texts_calls (a b : ByteArray) (w : World) (ha : a.size ≤ 1000000000) (hb : b.size ≤ 1000000000) :
    Calls Tryd.prog 32 #[.string a, .string b] w (TextsPost a b w) := by
  have H0 : Hid (a.data.toList.take 0 = b.data.toList.take 0) := by show _ = _; simp
  have HB : Hid (Below w.heap.size w w) := Below.refl _ _
  go_enter Tryd.func32, Tryd.ntmps32
  go_wp2_with (fail)
  go_loopw [5] (fun i wr => ∃ k : Nat, i = .int .i64 k ∧ k ≤ a.size ∧ k ≤ b.size ∧ Hid (a.data.toList.take k = b.data.toList.take k) ∧ Hid (Below w.heap.size w wr)) (fun i _ => a.size - (intOf i).toNat)
  case atStart => exact ⟨0, rfl, Nat.zero_le _, Nat.zero_le _, H0, HB⟩
  case round =>
    obtain ⟨k, rfl, hka, hkb, ht, hbw⟩ := hrel
    clear H0 HB
    by_cases hlt : k < a.size
    · by_cases hlt2 : k < b.size
      · obtain ⟨x, hx⟩ : ∃ x, a[k] = x := ⟨_, rfl⟩
        obtain ⟨y, hy⟩ : ∃ y, b[k] = y := ⟨_, rfl⟩
        have hax : a.data.toList[k]? = some x := by
          rw [Array.getElem?_toList, ← hx]
          exact Array.getElem?_eq_getElem (by exact hlt)
        have hby : b.data.toList[k]? = some y := by
          rw [Array.getElem?_toList, ← hy]
          exact Array.getElem?_eq_getElem (by exact hlt2)
        have hxb : (x.toNat : Int) < 256 := by have := x.toNat_lt; omega
        have hyb : (y.toNat : Int) < 256 := by have := y.toNat_lt; omega
        by_cases hxy : x = y
        · subst hxy
          have Hn : Hid (a.data.toList.take (k + 1) = b.data.toList.take (k + 1)) := by
            show _ = _
            rw [List.take_add_one, List.take_add_one, ht.out, hax, hby]
          clear ht hax hby
          go_wp2_with (fail)
          go_quiet (fail)
          have hbw2 := Lib.hid (below_drewN hbw.out nq)
          clear hbw
          go_wp2
          go_roundw
          case rel => exact ⟨k + 1, by go_num, by omega, by omega, Hn, hbw2⟩
          case measure => simp only [intOf]; omega
        · have hxn : x.toNat ≠ y.toNat := fun e => hxy (UInt8.toNat_inj.1 e)
          have h1 : ((x.toNat : Int) == (y.toNat : Int)) = false := by simp; omega
          have h2 : ((x.toNat : Int) != (y.toNat : Int)) = true := by simp [bne]; omega
          have hab : a ≠ b := by
            rintro rfl
            rw [hax] at hby
            exact hxy (Option.some.inj hby)
          have hc : numV (x.toNat : Int) (y.toNat : Int) ≠ 0 := by rw [Ne, numV_zero]; omega
          obtain ⟨C, hC⟩ : ∃ C, numV (x.toNat : Int) (y.toNat : Int) = C := ⟨_, rfl⟩
          have cN := fun w => num_calls (x.toNat : Int) (y.toNat : Int) w
          rw [hC] at cN hc
          have HN := Lib.hid cN
          have Hc : Hid (C = 0 ↔ a = b) := ⟨fun e => absurd e hc, fun e => absurd e hab⟩
          clear ht hax hby hxy hxn hab hc hC cN
          go_wp2_with (fail)
          go_quiet (fail)
          have hbw2 := below_drewN hbw.out nq
          clear hbw
          generalize wr.drewN nq = w9 at hbw2 ⊢
          have Hbw2 := Lib.hid hbw2
          clear hbw2
          go_wp2_with (fail)
          go_quiet ((go_at_call 31; exact Calls.quiet_of_same (HN.out _)))
          have hbw3 := Lib.hid (below_drewN Hbw2.out nq)
          clear Hbw2
          go_wp2
          go_ret
          exact TextsPost.of Hc.out hbw3.out
      · have hkb' : k = b.size := by omega
        subst hkb'
        have hc : numV (a.size : Int) (b.size : Int) ≠ 0 := by rw [Ne, numV_zero]; omega
        have hab : a ≠ b := by rintro rfl; omega
        obtain ⟨C, hC⟩ : ∃ C, numV (a.size : Int) (b.size : Int) = C := ⟨_, rfl⟩
        have cN := fun w => num_calls (a.size : Int) (b.size : Int) w
        rw [hC] at cN hc
        have HN := Lib.hid cN
        have Hc : Hid (C = 0 ↔ a = b) := ⟨fun e => absurd e hc, fun e => absurd e hab⟩
        clear ht hab hc hC cN
        go_wp2_with (fail)
        with_reducible refine (HN.out _).mono ?_
        rintro e w' ⟨rfl, rfl⟩
        go_wp2
        go_ret
        exact TextsPost.of Hc.out hbw.out
    · have hka' : k = a.size := by omega
      subst hka'
      obtain ⟨C, hC⟩ : ∃ C, numV (a.size : Int) (b.size : Int) = C := ⟨_, rfl⟩
      have cN := fun w => num_calls (a.size : Int) (b.size : Int) w
      rw [hC] at cN
      have HN := Lib.hid cN
      have Hc : Hid (C = 0 ↔ a = b) := by
        show _ ↔ _
        rw [← hC, numV_zero]
        constructor
        · intro h
          have hs : a.size = b.size := by omega
          have := ht.out
          rw [hs, List.take_of_length_le (by rw [Array.length_toList]; exact Nat.le_of_eq hs), List.take_of_length_le (by rw [Array.length_toList]; exact Nat.le_refl _)] at this
          exact ByteArray.ext (Array.ext' this)
        · rintro rfl; rfl
      clear ht hC cN
      go_wp2_with (fail)
      with_reducible refine (HN.out _).mono ?_
      rintro e w' ⟨rfl, rfl⟩
      go_wp2
      go_ret
      exact TextsPost.of Hc.out hbw.out

end Go.Proofs.YtjmkafbdmppfaaaDoor
