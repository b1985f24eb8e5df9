/- Parts, joined: Whether a value has anything that its kind does not name: the program's function and the reference's. No condition. Whether a pull may be: the program's word and the reference's. No condition. -/
import Derived.Test.YtjjbbnodmpemiaaGreatDoorProg
import Derived.WalkKit
import Derived.BigQuiet
import Derived.Deep.QuietTactic
import Derived.WalkLawsBesides
import Derived.WalkSpells
import Derived.Lib.Hide
import Derived.Lib.Strings
/- Whether a value has anything that its kind does not name: the program's function and the reference's. No condition. -/
namespace Go.Proofs.YtjjbbnodmpemiaaGreatDoor
open Go.RowKit

def oddB (k : Int) (b : Bool) (n : Int) (t : ByteArray) (ln on : Nat) : Bool :=
  if k == 1 then b || n != 0 || !t.toList.isEmpty || ln != 0 || on != 0
  else if k == 2 then n != 0 || !t.toList.isEmpty || ln != 0 || on != 0
  else if k == 3 then b || !t.toList.isEmpty || ln != 0 || on != 0
  else if k == 4 then b || n != 0 || ln != 0 || on != 0
  else if k == 5 then b || n != 0 || !t.toList.isEmpty || on != 0
  else if k == 6 then b || n != 0 || !t.toList.isEmpty || ln != 0
  else true

set_option maxHeartbeats 1000000 in
theorem odd_calls (k : Int) (b : Bool) (n : Int) (t : ByteArray) (la oa : Option Addr) (ln lc on oc : Nat) (w : World) :
  Calls Tryz.prog 99 #[.agg #[.int .i64 k, .bool b, .int .i64 n, .string t, .slice la ln lc, .slice oa on oc]] w fun e w' => e = .returned (.bool (oddB k b n t ln on)) ∧ Below w.heap.size w w' := by
  go_enter Tryz.func99, Tryz.ntmps99
  go_wp2
  all_goals go_ret
  all_goals simp only [oddB, *]
  all_goals refine ⟨by first | (simp_all; done) | (simp_all; omega) | (simp_all; rw [Bool.eq_iff_iff]; simp [Nat.pos_iff_ne_zero]), ?_⟩
  all_goals exact Below.alloc (Below.refl _ _) (Nat.le_refl _) _

theorem toList_empty : (ByteArray.empty).toList = [] := by rw [Lib.toList_data]; rfl
theorem toList_ne {t : ByteArray} (h : ¬t = ByteArray.empty) : t.toList ≠ [] := by
  intro e
  rw [Lib.toList_data] at e
  apply h
  have : t.data = #[] := by simpa using e
  exact ByteArray.ext this
theorem ret_bool {a b : Bool} (h : a = b) : Ending.returned (.bool a) = .returned (.bool b) := by rw [h]
theorem cast_beq (n : Nat) : ((n : Int) == 0) = (n == 0) := by rw [Bool.eq_iff_iff]; simp

set_option maxHeartbeats 2000000 in
theorem bare_calls (k : Int) (b : Bool) (n : Int) (t : ByteArray) (la oa : Option Addr) (ln lc on oc : Nat) (w : World) :
  Calls Tryz.prog 100 #[.agg #[.int .i64 k, .bool b, .int .i64 n, .string t, .slice la ln lc, .slice oa on oc]] w fun e w' => e = .returned (.bool (!oddB k b n t ln on)) ∧ Below w.heap.size w w' := by
  rcases (by omega : k = 1 ∨ k = 2 ∨ k = 3 ∨ k = 4 ∨ k = 5 ∨ k = 6 ∨ k < 1 ∨ 6 < k) with rfl | rfl | rfl | rfl | rfl | rfl | h | h
  all_goals
    go_enter Tryz.func100, Tryz.ntmps100
    go_wp2
    all_goals go_ret
    all_goals refine ⟨ret_bool ?_, Below.alloc (Below.refl _ _) (Nat.le_refl _) _⟩
    all_goals simp only [oddB, cast_beq]
  all_goals first | (simp_all [toList_ne]; done) | (subst_vars; simp_all [bne]; done) | (rw [if_neg (by simp; omega), if_neg (by simp; omega), if_neg (by simp; omega), if_neg (by simp; omega), if_neg (by simp; omega), if_neg (by simp; omega)]; rfl) | skip

end Go.Proofs.YtjjbbnodmpemiaaGreatDoor

/- Whether a pull may be: the program's word and the reference's. No condition. -/
namespace Go.Proofs.YtjjbbnodmpemiaaGreatDoor
open Go.RowKit

theorem isClient_calls (n : Int) (B : Bool) (w : World) (h : (decide (0 < n) && decide (n ≤ 4611686018427387903)) = B) : Calls Tryz.prog 15 #[.int .u64 n] w fun e w' => e = .returned (.bool B) ∧ w = w' := by
  by_cases h1 : 0 < n
  · by_cases h2 : n ≤ 4611686018427387903
    · obtain rfl : true = B := by rw [← h]; simp [h1, h2]
      clear h
      go_enter Tryz.func15, Tryz.ntmps15
      go_wp2
      go_ret
      exact ⟨rfl, rfl⟩
    · obtain rfl : false = B := by rw [← h]; simp [h1, h2]
      clear h
      have h3 : 4611686018427387903 < n := by omega
      go_enter Tryz.func15, Tryz.ntmps15
      go_wp2
      go_ret
      exact ⟨rfl, rfl⟩
  · obtain rfl : false = B := by rw [← h]; simp [h1]
    clear h
    have h2 : n ≤ 0 := by omega
    go_enter Tryz.func15, Tryz.ntmps15
    go_wp2
    go_ret
    exact ⟨rfl, rfl⟩

/-- Why a pull may not be. -/
def mayReq (c k : Int) : Int := if 0 < c ∧ c ≤ 4611686018427387903 ∧ k ≤ 4611686018427387903 then 0 else 2

theorem MayRequest_calls (c k : Int) (w : World) : Calls Tryz.prog 5 #[.agg #[.int .u64 c, .int .u64 k]] w fun e w' => e = .returned (.int .i64 (mayReq c k)) ∧ Below w.heap.size w w' := by
  by_cases h1 : 0 < c ∧ c ≤ 4611686018427387903
  · obtain ⟨h1, h2⟩ := h1
    have hC := fun W => isClient_calls c true W (by simp [h1, h2])
    by_cases h3 : k ≤ 4611686018427387903
    · have hm : mayReq c k = 0 := by unfold mayReq; rw [if_pos ⟨h1, h2, h3⟩]
      have HC := Lib.hid hC
      have Hm := Lib.hid hm
      clear hC hm
      go_enter Tryz.func5, Tryz.ntmps5
      go_wp2_with (fail)
      with_reducible refine (HC.out _).mono ?_
      rintro e w' ⟨rfl, rfl⟩
      go_wp2
      go_ret
      exact ⟨by rw [Hm.out]; rfl, (Below.refl _ _).alloc (Nat.le_refl _) _⟩
    · have hm : mayReq c k = 2 := by unfold mayReq; rw [if_neg (by omega)]
      have h4 : 4611686018427387903 < k := by omega
      have HC := Lib.hid hC
      have Hm := Lib.hid hm
      clear hC hm
      clear h3
      go_enter Tryz.func5, Tryz.ntmps5
      go_wp2_with (fail)
      with_reducible refine (HC.out _).mono ?_
      rintro e w' ⟨rfl, rfl⟩
      go_wp2
      go_ret
      exact ⟨by rw [Hm.out]; rfl, (Below.refl _ _).alloc (Nat.le_refl _) _⟩
  · have hC := fun W => isClient_calls c false W (by simp; omega)
    have hm : mayReq c k = 2 := by unfold mayReq; rw [if_neg (by omega)]
    have HC := Lib.hid hC
    have Hm := Lib.hid hm
    clear hC hm
    clear h1
    go_enter Tryz.func5, Tryz.ntmps5
    go_wp2_with (fail)
    with_reducible refine (HC.out _).mono ?_
    rintro e w' ⟨rfl, rfl⟩
    go_wp2
    go_ret
    exact ⟨by rw [Hm.out]; rfl, (Below.refl _ _).alloc (Nat.le_refl _) _⟩

theorem RMayRequest_calls (c k : Int) (w : World) (h0 : 0 ≤ c) : Calls Tryz.prog 6 #[.agg #[.int .u64 c, .int .u64 k]] w fun e w' => e = .returned (.int .i64 (mayReq c k)) ∧ Below w.heap.size w w' := by
  have hw : Below w.heap.size w (w.alloc (.cells #[.int .u64 c, .int .u64 k] 24)) := (Below.refl _ _).alloc (Nat.le_refl _) _
  by_cases hc : c = 0
  · subst hc
    have hm : mayReq 0 k = 2 := by unfold mayReq; rw [if_neg (by omega)]
    have Hm := Lib.hid hm
    have Hw := Lib.hid hw
    clear hm hw
    go_enter Tryz.func6, Tryz.ntmps6
    go_wp2
    go_ret
    exact ⟨by rw [Hm.out]; rfl, Hw.out⟩
  have e0 : (c == 0) = false := by simpa using hc
  by_cases h2 : c ≤ 4611686018427387903
  · by_cases h3 : k ≤ 4611686018427387903
    · have hm : mayReq c k = 0 := by unfold mayReq; rw [if_pos ⟨by omega, h2, h3⟩]
      have Hm := Lib.hid hm
      have Hw := Lib.hid hw
      clear hm hw
      go_enter Tryz.func6, Tryz.ntmps6
      go_wp2
      go_ret
      exact ⟨by rw [Hm.out]; rfl, Hw.out⟩
    · have hm : mayReq c k = 2 := by unfold mayReq; rw [if_neg (by omega)]
      have h4 : 4611686018427387903 < k := by omega
      have Hm := Lib.hid hm
      have Hw := Lib.hid hw
      clear hm hw
      clear h3
      go_enter Tryz.func6, Tryz.ntmps6
      go_wp2
      go_ret
      exact ⟨by rw [Hm.out]; rfl, Hw.out⟩
  · have hm : mayReq c k = 2 := by unfold mayReq; rw [if_neg (by omega)]
    have h4 : 4611686018427387903 < c := by omega
    have Hm := Lib.hid hm
    have Hw := Lib.hid hw
    clear hm hw
    clear h2
    go_enter Tryz.func6, Tryz.ntmps6
    go_wp2
    go_ret
    exact ⟨by rw [Hm.out]; rfl, Hw.out⟩
end Go.Proofs.YtjjbbnodmpemiaaGreatDoor
