/- Parts, joined: Whether a value has anything that its kind does not name: the program's function and the reference's. No condition. commonplaceref01.Bytes: a rune's bytes. Condition: a rune of Unicode, no surrogate. -/
import Derived.Test.YtgjiienipeoajaaGreatDoorProg
import Derived.WalkKit
import Derived.BigQuiet
import Derived.Deep.QuietTactic
import Derived.WalkLawsBesides
import Derived.WalkSpells
import Derived.Lib.Hide
import Derived.Lib.Strings
import Derived.Below
import Derived.Lib.RuneBytes
import Derived.IntWalk
import Derived.Laws.IdiomStrings
import Derived.Lib.Builder
/- Whether a value has anything that its kind does not name: the program's function and the reference's. No condition. -/
namespace Go.Proofs.YtgjiienipeoajaaGreatDoor
open Go.RowKit

def oddB (k : Int) (b : Bool) (n : Int) (t : ByteArray) (ln on : Nat) : Bool :=
  if k == 1 then b || n != 0 || !t.toList.isEmpty || ln != 0 || on != 0
  else if k == 2 then n != 0 || !t.toList.isEmpty || ln != 0 || on != 0
  else if k == 3 then b || !t.toList.isEmpty || ln != 0 || on != 0
  else if k == 4 then b || n != 0 || ln != 0 || on != 0
  else if k == 5 then b || n != 0 || !t.toList.isEmpty || on != 0
  else if k == 6 then b || n != 0 || !t.toList.isEmpty || ln != 0
  else true

set_option maxHeartbeats 1000000 in
theorem odd_calls (k : Int) (b : Bool) (n : Int) (t : ByteArray) (la oa : Option Addr) (ln lc on oc : Nat) (w : World) :
  Calls Tryz.prog 98 #[.agg #[.int .i64 k, .bool b, .int .i64 n, .string t, .slice la ln lc, .slice oa on oc]] w fun e w' => e = .returned (.bool (oddB k b n t ln on)) ∧ Below w.heap.size w w' := by
  go_enter Tryz.func98, Tryz.ntmps98
  go_wp2
  all_goals go_ret
  all_goals simp only [oddB, *]
  all_goals refine ⟨by first | (simp_all; done) | (simp_all; omega) | (simp_all; rw [Bool.eq_iff_iff]; simp [Nat.pos_iff_ne_zero]), ?_⟩
  all_goals exact Below.alloc (Below.refl _ _) (Nat.le_refl _) _

theorem toList_empty : (ByteArray.empty).toList = [] := by rw [Lib.toList_data]; rfl
theorem toList_ne {t : ByteArray} (h : ¬t = ByteArray.empty) : t.toList ≠ [] := by
  intro e
  rw [Lib.toList_data] at e
  apply h
  have : t.data = #[] := by simpa using e
  exact ByteArray.ext this
theorem ret_bool {a b : Bool} (h : a = b) : Ending.returned (.bool a) = .returned (.bool b) := by rw [h]
theorem cast_beq (n : Nat) : ((n : Int) == 0) = (n == 0) := by rw [Bool.eq_iff_iff]; simp

set_option maxHeartbeats 2000000 in
theorem bare_calls (k : Int) (b : Bool) (n : Int) (t : ByteArray) (la oa : Option Addr) (ln lc on oc : Nat) (w : World) :
  Calls Tryz.prog 64 #[.agg #[.int .i64 k, .bool b, .int .i64 n, .string t, .slice la ln lc, .slice oa on oc]] w fun e w' => e = .returned (.bool (!oddB k b n t ln on)) ∧ Below w.heap.size w w' := by
  rcases (by omega : k = 1 ∨ k = 2 ∨ k = 3 ∨ k = 4 ∨ k = 5 ∨ k = 6 ∨ k < 1 ∨ 6 < k) with rfl | rfl | rfl | rfl | rfl | rfl | h | h
  all_goals
    go_enter Tryz.func64, Tryz.ntmps64
    go_wp2
    all_goals go_ret
    all_goals refine ⟨ret_bool ?_, Below.alloc (Below.refl _ _) (Nat.le_refl _) _⟩
    all_goals simp only [oddB, cast_beq]
  all_goals first | (simp_all [toList_ne]; done) | (subst_vars; simp_all [bne]; done) | (rw [if_neg (by simp; omega), if_neg (by simp; omega), if_neg (by simp; omega), if_neg (by simp; omega), if_neg (by simp; omega), if_neg (by simp; omega)]; rfl) | skip

end Go.Proofs.YtgjiienipeoajaaGreatDoor

/- commonplaceref01.Bytes: a rune's bytes. Condition: a rune of Unicode, no surrogate. -/
namespace Go.Proofs.YtgjiienipeoajaaGreatDoor
open Go.RowKit

theorem u8_back {z : Int} (h0 : 0 ≤ z) (h1 : z < 256) : ((z.toNat.toUInt8).toNat : Int) = z := by
  have : z.toNat < 256 := by omega
  simp [Nat.toUInt8, UInt8.toNat_ofNat', Nat.mod_eq_of_lt this]
  omega

theorem run_bytes (w : World) (zs : List Int) (hz : ∀ z ∈ zs, 0 ≤ z ∧ z < 256) (t : TypeId) :
    (convert 54 9 (.slice (some ⟨w.heap.size, 0, none⟩) zs.length zs.length)).run Tryz.prog (w.alloc (.cells (zs.map (Value.int .u8)).toArray t)) = .ok (.string ⟨(zs.map fun z => z.toNat.toUInt8).toArray⟩) (w.alloc (.cells (zs.map (Value.int .u8)).toArray t)) := by
  have := run_convert_bytes_back (P := Tryz.prog) (w.alloc (.cells (zs.map (Value.int .u8)).toArray t)) 54 9 5 ⟨w.heap.size, 0, none⟩ zs.length (zs.map fun z => z.toNat.toUInt8) Tryz.underlying54 Tryz.underlying5 Tryz.underlying9 (by
    intro j hj
    rw [List.length_map] at hj
    have hh : (w.alloc (.cells (zs.map (Value.int .u8)).toArray t)).heap[w.heap.size]? = some (.cells (zs.map (Value.int .u8)).toArray t (0, 0)) := heap_alloc_new _ _
    rw [show (⟨w.heap.size, 0, none⟩ : Addr).add j = ⟨w.heap.size, j, none⟩ from by unfold Addr.add; split <;> simp_all]
    rw [Lib.cell_of_heap hh]
    simp only [List.getElem?_toArray, List.getElem?_map, List.getElem?_eq_getElem hj, Option.map_some, List.getElem_map]
    rw [u8_back (hz _ (List.getElem_mem hj)).1 (hz _ (List.getElem_mem hj)).2])
  rwa [List.length_map] at this

set_option maxRecDepth 20000 in
set_option maxHeartbeats 1000000 in
theorem RBytes_calls (r : Int) (h0 : 0 ≤ r) (h1 : r ≤ 1114111) (hs : ¬(55296 ≤ r ∧ r < 57344)) (w : World) :
    Calls Tryz.prog 38 #[.int .i64 r] w fun e w' => e = .returned (.string ⟨(Lib.encodeRune r).toArray⟩) ∧ Below w.heap.size w w' := by
  by_cases c1 : r < 128
  · have e : Lib.encodeRune r = [r].map fun z => z.toNat.toUInt8 := by unfold Lib.encodeRune; rw [Lib.encodeRuneZ_one h0 (by omega)]
    have hB := run_bytes w [r] (by intro z hz; simp at hz; omega) 5
    rw [e]
    simp only [List.map_cons, List.map_nil, List.length_cons, List.length_nil] at hB ⊢
    go_enter Tryz.func38, Tryz.ntmps38
    go_wp2
    go_ret
    exact ⟨rfl, (Below.refl _ _).alloc (Nat.le_refl _) _⟩
  by_cases c2 : r < 2048
  · have e : Lib.encodeRune r = [192 + r / 64, 128 + r % 64].map fun z => z.toNat.toUInt8 := by unfold Lib.encodeRune; rw [Lib.encodeRuneZ_two (by omega) (by omega)]
    have hB := run_bytes w [192 + r / 64, 128 + r % 64] (by intro z hz; simp at hz; omega) 5
    rw [e]
    have b1 : 0 ≤ r / 64 := by omega
    have b2 : r / 64 < 32 := by omega
    have b3 : 0 ≤ r % 64 := by omega
    have b4 : r % 64 < 64 := by omega
    simp only [List.map_cons, List.map_nil, List.length_cons, List.length_nil] at hB ⊢
    obtain ⟨z1, hz1⟩ : ∃ z, 192 + r / 64 = z := ⟨_, rfl⟩
    obtain ⟨z2, hz2⟩ : ∃ z, 128 + r % 64 = z := ⟨_, rfl⟩
    have d1 : 0 ≤ z1 ∧ z1 < 256 := by omega
    have d2 : 0 ≤ z2 ∧ z2 < 256 := by omega
    rw [hz1, hz2] at hB ⊢
    go_enter Tryz.func38, Tryz.ntmps38
    go_wp2
    go_ret
    exact ⟨rfl, (Below.refl _ _).alloc (Nat.le_refl _) _⟩
  by_cases c3 : r < 65536
  · have e : Lib.encodeRune r = [224 + r / 4096, 128 + r / 64 % 64, 128 + r % 64].map fun z => z.toNat.toUInt8 := by unfold Lib.encodeRune; rw [Lib.encodeRuneZ_three (by omega)]
    have hB := run_bytes w [224 + r / 4096, 128 + r / 64 % 64, 128 + r % 64] (by intro z hz; simp at hz; omega) 5
    rw [e]
    have b1 : 0 ≤ r / 4096 := by omega
    have b2 : r / 4096 < 16 := by omega
    have b3 : 0 ≤ r % 64 := by omega
    have b4 : r % 64 < 64 := by omega
    have b5 : 0 ≤ r / 64 := by omega
    have b6 : 0 ≤ r / 64 % 64 := by omega
    have b7 : r / 64 % 64 < 64 := by omega
    simp only [List.map_cons, List.map_nil, List.length_cons, List.length_nil] at hB ⊢
    obtain ⟨z1, hz1⟩ : ∃ z, 224 + r / 4096 = z := ⟨_, rfl⟩
    obtain ⟨z2, hz2⟩ : ∃ z, 128 + r / 64 % 64 = z := ⟨_, rfl⟩
    obtain ⟨z3, hz3⟩ : ∃ z, 128 + r % 64 = z := ⟨_, rfl⟩
    have d1 : 0 ≤ z1 ∧ z1 < 256 := by omega
    have d2 : 0 ≤ z2 ∧ z2 < 256 := by omega
    have d3 : 0 ≤ z3 ∧ z3 < 256 := by omega
    rw [hz1, hz2, hz3] at hB ⊢
    go_enter Tryz.func38, Tryz.ntmps38
    go_wp2
    go_ret
    exact ⟨rfl, (Below.refl _ _).alloc (Nat.le_refl _) _⟩
  · have e : Lib.encodeRune r = [240 + r / 262144, 128 + r / 4096 % 64, 128 + r / 64 % 64, 128 + r % 64].map fun z => z.toNat.toUInt8 := by unfold Lib.encodeRune; rw [Lib.encodeRuneZ_four (by omega) (by omega)]
    have hB := run_bytes w [240 + r / 262144, 128 + r / 4096 % 64, 128 + r / 64 % 64, 128 + r % 64] (by intro z hz; simp at hz; omega) 5
    rw [e]
    have b1 : 0 ≤ r / 262144 := by omega
    have b2 : r / 262144 < 8 := by omega
    have b3 : 0 ≤ r % 64 := by omega
    have b4 : r % 64 < 64 := by omega
    have b5 : 0 ≤ r / 64 := by omega
    have b6 : 0 ≤ r / 64 % 64 := by omega
    have b7 : r / 64 % 64 < 64 := by omega
    have b8 : 0 ≤ r / 4096 := by omega
    have b9 : 0 ≤ r / 4096 % 64 := by omega
    have b10 : r / 4096 % 64 < 64 := by omega
    simp only [List.map_cons, List.map_nil, List.length_cons, List.length_nil] at hB ⊢
    obtain ⟨z0, hz0⟩ : ∃ z, 240 + r / 262144 = z := ⟨_, rfl⟩
    obtain ⟨z1, hz1⟩ : ∃ z, 128 + r / 4096 % 64 = z := ⟨_, rfl⟩
    obtain ⟨z2, hz2⟩ : ∃ z, 128 + r / 64 % 64 = z := ⟨_, rfl⟩
    obtain ⟨z3, hz3⟩ : ∃ z, 128 + r % 64 = z := ⟨_, rfl⟩
    have d0 : 0 ≤ z0 ∧ z0 < 256 := by omega
    have d1 : 0 ≤ z1 ∧ z1 < 256 := by omega
    have d2 : 0 ≤ z2 ∧ z2 < 256 := by omega
    have d3 : 0 ≤ z3 ∧ z3 < 256 := by omega
    rw [hz0, hz1, hz2, hz3] at hB ⊢
    go_enter Tryz.func38, Tryz.ntmps38
    go_wp2
    go_ret
    exact ⟨rfl, (Below.refl _ _).alloc (Nat.le_refl _) _⟩

end Go.Proofs.YtgjiienipeoajaaGreatDoor
