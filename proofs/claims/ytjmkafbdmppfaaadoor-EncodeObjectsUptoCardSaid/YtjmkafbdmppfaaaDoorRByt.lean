/- commonplaceref01.Bytes: a rune's bytes. Condition: a rune of Unicode, no surrogate. -/
import Derived.Test.YtjmkafbdmppfaaaDoorProg
import Derived.WalkKit
import Derived.Below
import Derived.Lib.RuneBytes
import Derived.Lib.Hide
import Derived.IntWalk
import Derived.Laws.IdiomStrings
import Derived.Lib.Builder
namespace Go.Proofs.YtjmkafbdmppfaaaDoor
open Go.RowKit

theorem u8_back {z : Int} (h0 : 0 ≤ z) (h1 : z < 256) : ((z.toNat.toUInt8).toNat : Int) = z := by
  have : z.toNat < 256 := by omega
  simp [Nat.toUInt8, UInt8.toNat_ofNat', Nat.mod_eq_of_lt this]
  omega

theorem run_bytes (w : World) (zs : List Int) (hz : ∀ z ∈ zs, 0 ≤ z ∧ z < 256) (t : TypeId) :
    (convert 52 9 (.slice (some ⟨w.heap.size, 0, none⟩) zs.length zs.length)).run Tryd.prog (w.alloc (.cells (zs.map (Value.int .u8)).toArray t)) = .ok (.string ⟨(zs.map fun z => z.toNat.toUInt8).toArray⟩) (w.alloc (.cells (zs.map (Value.int .u8)).toArray t)) := by
  have := run_convert_bytes_back (P := Tryd.prog) (w.alloc (.cells (zs.map (Value.int .u8)).toArray t)) 52 9 5 ⟨w.heap.size, 0, none⟩ zs.length (zs.map fun z => z.toNat.toUInt8) Tryd.underlying52 Tryd.underlying5 Tryd.underlying9 (by
    intro j hj
    rw [List.length_map] at hj
    have hh : (w.alloc (.cells (zs.map (Value.int .u8)).toArray t)).heap[w.heap.size]? = some (.cells (zs.map (Value.int .u8)).toArray t (0, 0)) := heap_alloc_new _ _
    rw [show (⟨w.heap.size, 0, none⟩ : Addr).add j = ⟨w.heap.size, j, none⟩ from by unfold Addr.add; split <;> simp_all]
    rw [Lib.cell_of_heap hh]
    simp only [List.getElem?_toArray, List.getElem?_map, List.getElem?_eq_getElem hj, Option.map_some, List.getElem_map]
    rw [u8_back (hz _ (List.getElem_mem hj)).1 (hz _ (List.getElem_mem hj)).2])
  rwa [List.length_map] at this

set_option maxRecDepth 20000 in
set_option maxHeartbeats 1000000 in
theorem RBytes_calls (r : Int) (h0 : 0 ≤ r) (h1 : r ≤ 1114111) (hs : ¬(55296 ≤ r ∧ r < 57344)) (w : World) :
    Calls Tryd.prog 60 #[.int .i64 r] w fun e w' => e = .returned (.string ⟨(Lib.encodeRune r).toArray⟩) ∧ Below w.heap.size w w' := by
  by_cases c1 : r < 128
  · have e : Lib.encodeRune r = [r].map fun z => z.toNat.toUInt8 := by unfold Lib.encodeRune; rw [Lib.encodeRuneZ_one h0 (by omega)]
    have hB := run_bytes w [r] (by intro z hz; simp at hz; omega) 5
    rw [e]
    simp only [List.map_cons, List.map_nil, List.length_cons, List.length_nil] at hB ⊢
    go_enter Tryd.func60, Tryd.ntmps60
    go_wp2
    go_ret
    exact ⟨rfl, (Below.refl _ _).alloc (Nat.le_refl _) _⟩
  by_cases c2 : r < 2048
  · have e : Lib.encodeRune r = [192 + r / 64, 128 + r % 64].map fun z => z.toNat.toUInt8 := by unfold Lib.encodeRune; rw [Lib.encodeRuneZ_two (by omega) (by omega)]
    have hB := run_bytes w [192 + r / 64, 128 + r % 64] (by intro z hz; simp at hz; omega) 5
    rw [e]
    have b1 : 0 ≤ r / 64 := by omega
    have b2 : r / 64 < 32 := by omega
    have b3 : 0 ≤ r % 64 := by omega
    have b4 : r % 64 < 64 := by omega
    simp only [List.map_cons, List.map_nil, List.length_cons, List.length_nil] at hB ⊢
    obtain ⟨z1, hz1⟩ : ∃ z, 192 + r / 64 = z := ⟨_, rfl⟩
    obtain ⟨z2, hz2⟩ : ∃ z, 128 + r % 64 = z := ⟨_, rfl⟩
    have d1 : 0 ≤ z1 ∧ z1 < 256 := by omega
    have d2 : 0 ≤ z2 ∧ z2 < 256 := by omega
    rw [hz1, hz2] at hB ⊢
    go_enter Tryd.func60, Tryd.ntmps60
    go_wp2
    go_ret
    exact ⟨rfl, (Below.refl _ _).alloc (Nat.le_refl _) _⟩
  by_cases c3 : r < 65536
  · have e : Lib.encodeRune r = [224 + r / 4096, 128 + r / 64 % 64, 128 + r % 64].map fun z => z.toNat.toUInt8 := by unfold Lib.encodeRune; rw [Lib.encodeRuneZ_three (by omega)]
    have hB := run_bytes w [224 + r / 4096, 128 + r / 64 % 64, 128 + r % 64] (by intro z hz; simp at hz; omega) 5
    rw [e]
    have b1 : 0 ≤ r / 4096 := by omega
    have b2 : r / 4096 < 16 := by omega
    have b3 : 0 ≤ r % 64 := by omega
    have b4 : r % 64 < 64 := by omega
    have b5 : 0 ≤ r / 64 := by omega
    have b6 : 0 ≤ r / 64 % 64 := by omega
    have b7 : r / 64 % 64 < 64 := by omega
    simp only [List.map_cons, List.map_nil, List.length_cons, List.length_nil] at hB ⊢
    obtain ⟨z1, hz1⟩ : ∃ z, 224 + r / 4096 = z := ⟨_, rfl⟩
    obtain ⟨z2, hz2⟩ : ∃ z, 128 + r / 64 % 64 = z := ⟨_, rfl⟩
    obtain ⟨z3, hz3⟩ : ∃ z, 128 + r % 64 = z := ⟨_, rfl⟩
    have d1 : 0 ≤ z1 ∧ z1 < 256 := by omega
    have d2 : 0 ≤ z2 ∧ z2 < 256 := by omega
    have d3 : 0 ≤ z3 ∧ z3 < 256 := by omega
    rw [hz1, hz2, hz3] at hB ⊢
    go_enter Tryd.func60, Tryd.ntmps60
    go_wp2
    go_ret
    exact ⟨rfl, (Below.refl _ _).alloc (Nat.le_refl _) _⟩
  · have e : Lib.encodeRune r = [240 + r / 262144, 128 + r / 4096 % 64, 128 + r / 64 % 64, 128 + r % 64].map fun z => z.toNat.toUInt8 := by unfold Lib.encodeRune; rw [Lib.encodeRuneZ_four (by omega) (by omega)]
    have hB := run_bytes w [240 + r / 262144, 128 + r / 4096 % 64, 128 + r / 64 % 64, 128 + r % 64] (by intro z hz; simp at hz; omega) 5
    rw [e]
    have b1 : 0 ≤ r / 262144 := by omega
    have b2 : r / 262144 < 8 := by omega
    have b3 : 0 ≤ r % 64 := by omega
    have b4 : r % 64 < 64 := by omega
    have b5 : 0 ≤ r / 64 := by omega
    have b6 : 0 ≤ r / 64 % 64 := by omega
    have b7 : r / 64 % 64 < 64 := by omega
    have b8 : 0 ≤ r / 4096 := by omega
    have b9 : 0 ≤ r / 4096 % 64 := by omega
    have b10 : r / 4096 % 64 < 64 := by omega
    simp only [List.map_cons, List.map_nil, List.length_cons, List.length_nil] at hB ⊢
    obtain ⟨z0, hz0⟩ : ∃ z, 240 + r / 262144 = z := ⟨_, rfl⟩
    obtain ⟨z1, hz1⟩ : ∃ z, 128 + r / 4096 % 64 = z := ⟨_, rfl⟩
    obtain ⟨z2, hz2⟩ : ∃ z, 128 + r / 64 % 64 = z := ⟨_, rfl⟩
    obtain ⟨z3, hz3⟩ : ∃ z, 128 + r % 64 = z := ⟨_, rfl⟩
    have d0 : 0 ≤ z0 ∧ z0 < 256 := by omega
    have d1 : 0 ≤ z1 ∧ z1 < 256 := by omega
    have d2 : 0 ≤ z2 ∧ z2 < 256 := by omega
    have d3 : 0 ≤ z3 ∧ z3 < 256 := by omega
    rw [hz0, hz1, hz2, hz3] at hB ⊢
    go_enter Tryd.func60, Tryd.ntmps60
    go_wp2
    go_ret
    exact ⟨rfl, (Below.refl _ _).alloc (Nat.le_refl _) _⟩

end Go.Proofs.YtjmkafbdmppfaaaDoor
