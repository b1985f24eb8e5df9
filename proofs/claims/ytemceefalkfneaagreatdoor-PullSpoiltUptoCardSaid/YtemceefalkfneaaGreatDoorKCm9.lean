/- Parts, joined: crc: the table; bytes one by one; the program's sum. Condition: at most 10^9 bytes. crc: bytes one by one; the program's sum. Condition: at most 10^9 bytes. -/
import Derived.Test.YtemceefalkfneaaGreatDoorProg
import Derived.LoopIn
import Derived.LoopNIn
import Derived.RegionIn
import Derived.BigRegionIn
import Derived.IntWalk
import Derived.RangeFuncOwn
import Derived.Sort.CutIn
import Derived.Shelf.Abstract
import Derived.Test.YtemceefalkfneaaGreatDoorKCm3
import Derived.Test.YtemceefalkfneaaGreatDoorKCm5
/- crc: the table; bytes one by one; the program's sum. Condition: at most 10^9 bytes. -/
namespace Go.Proofs.YtemceefalkfneaaGreatDoor
open Go.RowKit

/-- Bytes as data. -/
def dB (l : List UInt8) : List D := l.map fun x => .leaf (.int .u8 x.toNat)
theorem dB_len (l : List UInt8) : (dB l).length = l.length := List.length_map ..
theorem dB_cells (l : List UInt8) : ∀ d ∈ dB l, d.cells = 1 := by
  intro d hd
  obtain ⟨x, _, rfl⟩ := List.mem_map.1 hd
  rfl
theorem dB_at {w : World} {B n c : Nat} {l : List UInt8} {a : Option Addr} (h : Holds w B (.row 1 (dB l)) [.slice a n c]) {i : Nat} {x : UInt8} (hi : l[i]? = some x) :
    ∃ g off, a = some ⟨g, off, none⟩ ∧ g < B ∧ w.cell? ⟨g, off + i, none⟩ = some (.int .u8 x.toNat) := by
  obtain ⟨g, off, ea, hg, cs, h1, _, h3⟩ := h.at_ (i := i) (d := .leaf (.int .u8 x.toNat)) (by unfold dB; rw [List.getElem?_map, hi]; rfl)
  obtain ⟨rfl, _⟩ := h1
  exact ⟨g, off, ea, hg, by have := h3 0 _ rfl; simpa using this⟩
theorem dB_n {w : World} {B n c : Nat} {l : List UInt8} {a : Option Addr} (h : Holds w B (.row 1 (dB l)) [.slice a n c]) : n = l.length := by rw [h.row_len, dB_len]

/-- The table so far. -/
def tabK (k : Nat) : Array Value := ((List.range 16).map fun i => Value.int .u32 ((if i < k then stN 4 i else 0 : Nat) : Int)).toArray
theorem tabK_size (k : Nat) : (tabK k).size = 16 := by simp [tabK]
theorem tabK_get (k i : Nat) (h : i < 16) : (tabK k)[i]? = some (Value.int .u32 ((if i < k then stN 4 i else 0 : Nat) : Int)) := by simp [tabK, h]
theorem tabK_set (k : Nat) (h : k < 16) : (tabK k).setIfInBounds k (.int .u32 (stN 4 k : Nat)) = tabK (k + 1) := by
  apply Array.ext_getElem?
  intro i
  by_cases hi : i < 16
  · by_cases e : k = i
    · subst e
      rw [Array.getElem?_setIfInBounds_self_of_lt (by rw [tabK_size]; exact h), tabK_get _ _ hi, if_pos (by omega)]
    · rw [Array.getElem?_setIfInBounds_ne e, tabK_get _ _ hi, tabK_get _ _ hi]
      by_cases h1 : i < k
      · rw [if_pos h1, if_pos (by omega)]
      · rw [if_neg h1, if_neg (by omega)]
  · rw [Array.getElem?_eq_none (by simp [tabK_size]; omega), Array.getElem?_eq_none (by rw [tabK_size]; omega)]
abbrev zeros16 : Array Value := #[.int .u32 0, .int .u32 0, .int .u32 0, .int .u32 0, .int .u32 0, .int .u32 0, .int .u32 0, .int .u32 0, .int .u32 0, .int .u32 0, .int .u32 0, .int .u32 0, .int .u32 0, .int .u32 0, .int .u32 0, .int .u32 0]
theorem tabK_zero : tabK 0 = zeros16 := by rfl

set_option maxRecDepth 100000 in
set_option maxHeartbeats 4000000 in
theorem steps_calls (w : World) : Calls Tryz.prog 232 #[] w fun e w' => e = .returned (.agg #[.int .u32 (stN 4 0 : Nat), .int .u32 (stN 4 1 : Nat), .int .u32 (stN 4 2 : Nat), .int .u32 (stN 4 3 : Nat), .int .u32 (stN 4 4 : Nat), .int .u32 (stN 4 5 : Nat), .int .u32 (stN 4 6 : Nat), .int .u32 (stN 4 7 : Nat), .int .u32 (stN 4 8 : Nat), .int .u32 (stN 4 9 : Nat), .int .u32 (stN 4 10 : Nat), .int .u32 (stN 4 11 : Nat), .int .u32 (stN 4 12 : Nat), .int .u32 (stN 4 13 : Nat), .int .u32 (stN 4 14 : Nat), .int .u32 (stN 4 15 : Nat)]) ∧ Below w.heap.size w w' := by
  go_enter Tryz.func232, Tryz.ntmps232
  go_wp2_with (fail)
  go_loopw [5] (fun i wr => ∃ k : Nat, i = .int .u32 k ∧ k ≤ 16 ∧ Blk wr w.heap.size 292 zeros16 ∧ Blk wr (w.heap.size + 1) 292 (tabK k) ∧ Below w.heap.size w wr) (fun i _ => 16 - (intOf i).toNat)
  case atStart =>
    refine ⟨0, rfl, by omega, (Blk.new _ _ _).alloc _, ?_, ((Below.refl _ _).alloc (Nat.le_refl _) _).alloc (by simp) _⟩
    have := Blk.new (w.alloc (.cells zeros16 292)) 292 zeros16
    rw [World.size_alloc] at this
    rw [tabK_zero]
    exact this
  case round =>
    obtain ⟨k, rfl, hk, h0, h1, hb⟩ := hrel
    by_cases hlt : k < 16
    · have hC := ste1_calls k hlt (w.heap.size + 1) (tabK k) (tabK_size k) wr h1
      have h0' := h0.far (p := ⟨w.heap.size + 1, k, none⟩) (by simp) (.int .u32 (stN 4 k : Nat))
      have h1' := h1.set_ k (.int .u32 (stN 4 k : Nat))
      rw [tabK_set k hlt] at h1'
      have hb' := hb.setCell (p := ⟨w.heap.size + 1, k, none⟩) (by simp) (.int .u32 (stN 4 k : Nat))
      have hk16 : (k : Int) < 16 := by omega
      have HC := Lib.hid hC
      have H0' := Lib.hid h0'
      have H1' := Lib.hid h1'
      have Hb' := Lib.hid hb'
      clear hC h0' h1' hb'
      clear h0 h1 hb
      go_wp2_with (go_at_call 259; refine (HC.out).mono ?_; rintro e w2 ⟨rfl, rfl⟩)
      go_roundw
      case rel => exact ⟨k + 1, by go_num, by omega, H0'.out, H1'.out, Hb'.out⟩
      case measure => simp [intOf]; omega
    · obtain rfl : k = 16 := by omega
      obtain ⟨t0, t1, t2, t3, t4, t5, t6, t7, t8, t9, t10, t11, t12, t13, t14, t15⟩ : wr.cell? ⟨w.heap.size + 1, 0, none⟩ = some (.int .u32 (stN 4 0 : Nat)) ∧ wr.cell? ⟨w.heap.size + 1, 1, none⟩ = some (.int .u32 (stN 4 1 : Nat)) ∧ wr.cell? ⟨w.heap.size + 1, 2, none⟩ = some (.int .u32 (stN 4 2 : Nat)) ∧ wr.cell? ⟨w.heap.size + 1, 3, none⟩ = some (.int .u32 (stN 4 3 : Nat)) ∧ wr.cell? ⟨w.heap.size + 1, 4, none⟩ = some (.int .u32 (stN 4 4 : Nat)) ∧ wr.cell? ⟨w.heap.size + 1, 5, none⟩ = some (.int .u32 (stN 4 5 : Nat)) ∧ wr.cell? ⟨w.heap.size + 1, 6, none⟩ = some (.int .u32 (stN 4 6 : Nat)) ∧ wr.cell? ⟨w.heap.size + 1, 7, none⟩ = some (.int .u32 (stN 4 7 : Nat)) ∧ wr.cell? ⟨w.heap.size + 1, 8, none⟩ = some (.int .u32 (stN 4 8 : Nat)) ∧ wr.cell? ⟨w.heap.size + 1, 9, none⟩ = some (.int .u32 (stN 4 9 : Nat)) ∧ wr.cell? ⟨w.heap.size + 1, 10, none⟩ = some (.int .u32 (stN 4 10 : Nat)) ∧ wr.cell? ⟨w.heap.size + 1, 11, none⟩ = some (.int .u32 (stN 4 11 : Nat)) ∧ wr.cell? ⟨w.heap.size + 1, 12, none⟩ = some (.int .u32 (stN 4 12 : Nat)) ∧ wr.cell? ⟨w.heap.size + 1, 13, none⟩ = some (.int .u32 (stN 4 13 : Nat)) ∧ wr.cell? ⟨w.heap.size + 1, 14, none⟩ = some (.int .u32 (stN 4 14 : Nat)) ∧ wr.cell? ⟨w.heap.size + 1, 15, none⟩ = some (.int .u32 (stN 4 15 : Nat)) := ⟨(h1.cell 0).trans ((tabK_get 16 0 (by omega)).trans (by rw [if_pos (by omega)])), (h1.cell 1).trans ((tabK_get 16 1 (by omega)).trans (by rw [if_pos (by omega)])), (h1.cell 2).trans ((tabK_get 16 2 (by omega)).trans (by rw [if_pos (by omega)])), (h1.cell 3).trans ((tabK_get 16 3 (by omega)).trans (by rw [if_pos (by omega)])), (h1.cell 4).trans ((tabK_get 16 4 (by omega)).trans (by rw [if_pos (by omega)])), (h1.cell 5).trans ((tabK_get 16 5 (by omega)).trans (by rw [if_pos (by omega)])), (h1.cell 6).trans ((tabK_get 16 6 (by omega)).trans (by rw [if_pos (by omega)])), (h1.cell 7).trans ((tabK_get 16 7 (by omega)).trans (by rw [if_pos (by omega)])), (h1.cell 8).trans ((tabK_get 16 8 (by omega)).trans (by rw [if_pos (by omega)])), (h1.cell 9).trans ((tabK_get 16 9 (by omega)).trans (by rw [if_pos (by omega)])), (h1.cell 10).trans ((tabK_get 16 10 (by omega)).trans (by rw [if_pos (by omega)])), (h1.cell 11).trans ((tabK_get 16 11 (by omega)).trans (by rw [if_pos (by omega)])), (h1.cell 12).trans ((tabK_get 16 12 (by omega)).trans (by rw [if_pos (by omega)])), (h1.cell 13).trans ((tabK_get 16 13 (by omega)).trans (by rw [if_pos (by omega)])), (h1.cell 14).trans ((tabK_get 16 14 (by omega)).trans (by rw [if_pos (by omega)])), (h1.cell 15).trans ((tabK_get 16 15 (by omega)).trans (by rw [if_pos (by omega)]))⟩
      obtain ⟨z0, z1, z2, z3, z4, z5, z6, z7, z8, z9, z10, z11, z12, z13, z14, z15⟩ : wr.cell? ⟨w.heap.size, 0, none⟩ = some (.int .u32 0) ∧ wr.cell? ⟨w.heap.size, 1, none⟩ = some (.int .u32 0) ∧ wr.cell? ⟨w.heap.size, 2, none⟩ = some (.int .u32 0) ∧ wr.cell? ⟨w.heap.size, 3, none⟩ = some (.int .u32 0) ∧ wr.cell? ⟨w.heap.size, 4, none⟩ = some (.int .u32 0) ∧ wr.cell? ⟨w.heap.size, 5, none⟩ = some (.int .u32 0) ∧ wr.cell? ⟨w.heap.size, 6, none⟩ = some (.int .u32 0) ∧ wr.cell? ⟨w.heap.size, 7, none⟩ = some (.int .u32 0) ∧ wr.cell? ⟨w.heap.size, 8, none⟩ = some (.int .u32 0) ∧ wr.cell? ⟨w.heap.size, 9, none⟩ = some (.int .u32 0) ∧ wr.cell? ⟨w.heap.size, 10, none⟩ = some (.int .u32 0) ∧ wr.cell? ⟨w.heap.size, 11, none⟩ = some (.int .u32 0) ∧ wr.cell? ⟨w.heap.size, 12, none⟩ = some (.int .u32 0) ∧ wr.cell? ⟨w.heap.size, 13, none⟩ = some (.int .u32 0) ∧ wr.cell? ⟨w.heap.size, 14, none⟩ = some (.int .u32 0) ∧ wr.cell? ⟨w.heap.size, 15, none⟩ = some (.int .u32 0) := ⟨h0.cell 0, h0.cell 1, h0.cell 2, h0.cell 3, h0.cell 4, h0.cell 5, h0.cell 6, h0.cell 7, h0.cell 8, h0.cell 9, h0.cell 10, h0.cell 11, h0.cell 12, h0.cell 13, h0.cell 14, h0.cell 15⟩
      obtain ⟨f0, f1, f2, f3, f4, f5, f6, f7, f8, f9, f10, f11, f12, f13, f14, f15⟩ : wr.frozen? ⟨w.heap.size, 0, none⟩ = false ∧ wr.frozen? ⟨w.heap.size, 1, none⟩ = false ∧ wr.frozen? ⟨w.heap.size, 2, none⟩ = false ∧ wr.frozen? ⟨w.heap.size, 3, none⟩ = false ∧ wr.frozen? ⟨w.heap.size, 4, none⟩ = false ∧ wr.frozen? ⟨w.heap.size, 5, none⟩ = false ∧ wr.frozen? ⟨w.heap.size, 6, none⟩ = false ∧ wr.frozen? ⟨w.heap.size, 7, none⟩ = false ∧ wr.frozen? ⟨w.heap.size, 8, none⟩ = false ∧ wr.frozen? ⟨w.heap.size, 9, none⟩ = false ∧ wr.frozen? ⟨w.heap.size, 10, none⟩ = false ∧ wr.frozen? ⟨w.heap.size, 11, none⟩ = false ∧ wr.frozen? ⟨w.heap.size, 12, none⟩ = false ∧ wr.frozen? ⟨w.heap.size, 13, none⟩ = false ∧ wr.frozen? ⟨w.heap.size, 14, none⟩ = false ∧ wr.frozen? ⟨w.heap.size, 15, none⟩ = false := ⟨h0.frozen 0, h0.frozen 1, h0.frozen 2, h0.frozen 3, h0.frozen 4, h0.frozen 5, h0.frozen 6, h0.frozen 7, h0.frozen 8, h0.frozen 9, h0.frozen 10, h0.frozen 11, h0.frozen 12, h0.frozen 13, h0.frozen 14, h0.frozen 15⟩
      have Hb := Lib.hid hb
      have H0 := Lib.hid h0
      clear hb h0
      clear h1
      go_wp2
      have hx := H0.out
      (have hx := hx.set_ 0 (.int .u32 (stN 4 0 : Nat)); have hx := hx.set_ 1 (.int .u32 (stN 4 1 : Nat)); have hx := hx.set_ 2 (.int .u32 (stN 4 2 : Nat)); have hx := hx.set_ 3 (.int .u32 (stN 4 3 : Nat)); have hx := hx.set_ 4 (.int .u32 (stN 4 4 : Nat)); have hx := hx.set_ 5 (.int .u32 (stN 4 5 : Nat)); have hx := hx.set_ 6 (.int .u32 (stN 4 6 : Nat)); have hx := hx.set_ 7 (.int .u32 (stN 4 7 : Nat)); have hx := hx.set_ 8 (.int .u32 (stN 4 8 : Nat)); have hx := hx.set_ 9 (.int .u32 (stN 4 9 : Nat)); have hx := hx.set_ 10 (.int .u32 (stN 4 10 : Nat)); have hx := hx.set_ 11 (.int .u32 (stN 4 11 : Nat)); have hx := hx.set_ 12 (.int .u32 (stN 4 12 : Nat)); have hx := hx.set_ 13 (.int .u32 (stN 4 13 : Nat)); have hx := hx.set_ 14 (.int .u32 (stN 4 14 : Nat)); have hx := hx.set_ 15 (.int .u32 (stN 4 15 : Nat)))
      have hbx := Hb.out
      (have hbx := hbx.setCell (p := ⟨w.heap.size, 0, none⟩) (Nat.le_refl _) (.int .u32 (stN 4 0 : Nat)); have hbx := hbx.setCell (p := ⟨w.heap.size, 1, none⟩) (Nat.le_refl _) (.int .u32 (stN 4 1 : Nat)); have hbx := hbx.setCell (p := ⟨w.heap.size, 2, none⟩) (Nat.le_refl _) (.int .u32 (stN 4 2 : Nat)); have hbx := hbx.setCell (p := ⟨w.heap.size, 3, none⟩) (Nat.le_refl _) (.int .u32 (stN 4 3 : Nat)); have hbx := hbx.setCell (p := ⟨w.heap.size, 4, none⟩) (Nat.le_refl _) (.int .u32 (stN 4 4 : Nat)); have hbx := hbx.setCell (p := ⟨w.heap.size, 5, none⟩) (Nat.le_refl _) (.int .u32 (stN 4 5 : Nat)); have hbx := hbx.setCell (p := ⟨w.heap.size, 6, none⟩) (Nat.le_refl _) (.int .u32 (stN 4 6 : Nat)); have hbx := hbx.setCell (p := ⟨w.heap.size, 7, none⟩) (Nat.le_refl _) (.int .u32 (stN 4 7 : Nat)); have hbx := hbx.setCell (p := ⟨w.heap.size, 8, none⟩) (Nat.le_refl _) (.int .u32 (stN 4 8 : Nat)); have hbx := hbx.setCell (p := ⟨w.heap.size, 9, none⟩) (Nat.le_refl _) (.int .u32 (stN 4 9 : Nat)); have hbx := hbx.setCell (p := ⟨w.heap.size, 10, none⟩) (Nat.le_refl _) (.int .u32 (stN 4 10 : Nat)); have hbx := hbx.setCell (p := ⟨w.heap.size, 11, none⟩) (Nat.le_refl _) (.int .u32 (stN 4 11 : Nat)); have hbx := hbx.setCell (p := ⟨w.heap.size, 12, none⟩) (Nat.le_refl _) (.int .u32 (stN 4 12 : Nat)); have hbx := hbx.setCell (p := ⟨w.heap.size, 13, none⟩) (Nat.le_refl _) (.int .u32 (stN 4 13 : Nat)); have hbx := hbx.setCell (p := ⟨w.heap.size, 14, none⟩) (Nat.le_refl _) (.int .u32 (stN 4 14 : Nat)); have hbx := hbx.setCell (p := ⟨w.heap.size, 15, none⟩) (Nat.le_refl _) (.int .u32 (stN 4 15 : Nat)))
      generalize World.setCell _ _ _ = W at hx hbx ⊢
      clear t0 z0 f0 t1 z1 f1 t2 z2 f2 t3 z3 f3 t4 z4 f4 t5 z5 f5 t6 z6 f6 t7 z7 f7 t8 z8 f8 t9 z9 f9 t10 z10 f10 t11 z11 f11 t12 z12 f12 t13 z13 f13 t14 z14 f14 t15 z15 f15
      obtain ⟨t0, t1, t2, t3, t4, t5, t6, t7, t8, t9, t10, t11, t12, t13, t14, t15⟩ : W.cell? ⟨w.heap.size, 0, none⟩ = some (.int .u32 (stN 4 0 : Nat)) ∧ W.cell? ⟨w.heap.size, 1, none⟩ = some (.int .u32 (stN 4 1 : Nat)) ∧ W.cell? ⟨w.heap.size, 2, none⟩ = some (.int .u32 (stN 4 2 : Nat)) ∧ W.cell? ⟨w.heap.size, 3, none⟩ = some (.int .u32 (stN 4 3 : Nat)) ∧ W.cell? ⟨w.heap.size, 4, none⟩ = some (.int .u32 (stN 4 4 : Nat)) ∧ W.cell? ⟨w.heap.size, 5, none⟩ = some (.int .u32 (stN 4 5 : Nat)) ∧ W.cell? ⟨w.heap.size, 6, none⟩ = some (.int .u32 (stN 4 6 : Nat)) ∧ W.cell? ⟨w.heap.size, 7, none⟩ = some (.int .u32 (stN 4 7 : Nat)) ∧ W.cell? ⟨w.heap.size, 8, none⟩ = some (.int .u32 (stN 4 8 : Nat)) ∧ W.cell? ⟨w.heap.size, 9, none⟩ = some (.int .u32 (stN 4 9 : Nat)) ∧ W.cell? ⟨w.heap.size, 10, none⟩ = some (.int .u32 (stN 4 10 : Nat)) ∧ W.cell? ⟨w.heap.size, 11, none⟩ = some (.int .u32 (stN 4 11 : Nat)) ∧ W.cell? ⟨w.heap.size, 12, none⟩ = some (.int .u32 (stN 4 12 : Nat)) ∧ W.cell? ⟨w.heap.size, 13, none⟩ = some (.int .u32 (stN 4 13 : Nat)) ∧ W.cell? ⟨w.heap.size, 14, none⟩ = some (.int .u32 (stN 4 14 : Nat)) ∧ W.cell? ⟨w.heap.size, 15, none⟩ = some (.int .u32 (stN 4 15 : Nat)) := ⟨(hx.cell 0).trans rfl, (hx.cell 1).trans rfl, (hx.cell 2).trans rfl, (hx.cell 3).trans rfl, (hx.cell 4).trans rfl, (hx.cell 5).trans rfl, (hx.cell 6).trans rfl, (hx.cell 7).trans rfl, (hx.cell 8).trans rfl, (hx.cell 9).trans rfl, (hx.cell 10).trans rfl, (hx.cell 11).trans rfl, (hx.cell 12).trans rfl, (hx.cell 13).trans rfl, (hx.cell 14).trans rfl, (hx.cell 15).trans rfl⟩
      clear hx
      exact bodyPost_ret (v := .agg #[.int .u32 (stN 4 0 : Nat), .int .u32 (stN 4 1 : Nat), .int .u32 (stN 4 2 : Nat), .int .u32 (stN 4 3 : Nat), .int .u32 (stN 4 4 : Nat), .int .u32 (stN 4 5 : Nat), .int .u32 (stN 4 6 : Nat), .int .u32 (stN 4 7 : Nat), .int .u32 (stN 4 8 : Nat), .int .u32 (stN 4 9 : Nat), .int .u32 (stN 4 10 : Nat), .int .u32 (stN 4 11 : Nat), .int .u32 (stN 4 12 : Nat), .int .u32 (stN 4 13 : Nat), .int .u32 (stN 4 14 : Nat), .int .u32 (stN 4 15 : Nat)]) (by simp [results, Tryz.results232, go_sem, t0, t1, t2, t3, t4, t5, t6, t7, t8, t9, t10, t11, t12, t13, t14, t15]) rfl ⟨rfl, hbx⟩

end Go.Proofs.YtemceefalkfneaaGreatDoor

/- crc: bytes one by one; the program's sum. Condition: at most 10^9 bytes. -/
namespace Go.Proofs.YtemceefalkfneaaGreatDoor
open Go.RowKit
attribute [local go_sem] Oper.semAt_some

theorem each_calls (a : Option Addr) (n c : Nat) (w : World) : Calls Tryz.prog 233 #[.slice a n c] w fun e w' => e = .returned (.func (.func 260) #[] #[.pointer (some ⟨w.heap.size, 0, none⟩)]) ∧ w.alloc (.cells #[.slice a n c] 26) = w' := by
  go_enter Tryz.func233, Tryz.ntmps233
  go_wp2
  go_ret
  exact ⟨rfl, rfl⟩

set_option maxRecDepth 100000 in
set_option maxHeartbeats 2000000 in
theorem each_yields (l : List UInt8) (a : Option Addr) (n c : Nat) (b B : Nat) (hl : l.length ≤ 1000000000) :
    Yields Tryz.prog 260 #[.pointer (some ⟨b, 0, none⟩)] (fun x : UInt8 => #[.int .u8 x.toNat]) l (fun A => A.cell? ⟨b, 0, none⟩ = some (.slice a n c) ∧ Holds A B (.row 1 (dB l)) [.slice a n c]) := by
  intro n0 l0 J W hJn hJb hY h0
  have hc0 := (hJb _ _ h0).1
  obtain rfl := dB_n (hJb _ _ h0).2
  refine callsIn_of_wp Tryz.func260 rfl trivial ?_ rfl
  simp only [Tryz.ntmps260, List.size_toArray, List.length_cons, List.length_nil, Nat.reduceAdd, Nat.reduceSub, Array.replicate_succ, Array.replicate_zero, List.push_toArray, List.append_toArray, List.nil_append, List.cons_append]
  gi_wp2
  gi_loopw [7] (fun i wr => ∃ (k : Nat), i = .int .i64 k ∧ k ≤ l.length ∧ J (l.take k) wr) (fun i _ => l.length - (intOf i).toNat)
  case atStart => exact ⟨0, rfl, Nat.zero_le _, h0⟩
  case round =>
    obtain ⟨k, rfl, hk, hJ⟩ := hrel
    by_cases hlt : k < l.length
    · obtain ⟨x, hx⟩ : ∃ x, l[k]? = some x := ⟨_, List.getElem?_eq_getElem hlt⟩
      obtain ⟨g, off, rfl, hg, hcell⟩ := dB_at (hJb _ _ hJ).2 hx
      have hsp : l = l.take k ++ x :: l.drop (k + 1) := by
        obtain ⟨_, rfl⟩ := List.getElem?_eq_some_iff.1 hx
        rw [← List.drop_eq_getElem_cons hlt, List.take_append_drop]
      have htk : l.take (k + 1) = l.take k ++ [x] := by
        obtain ⟨_, rfl⟩ := List.getElem?_eq_some_iff.1 hx
        exact List.take_succ_eq_append_getElem hlt
      have hk1 : (k : Int) < (l.length : Int) := by omega
      have Hsp := Lib.hid hsp
      have Htk := Lib.hid htk
      have Hx := Lib.hid hx
      clear hsp htk hx
      obtain ⟨fn, tmps, assign, body, hy, hR⟩ := hY (l.take k) x _ wr Hsp.out hJ
      gi_wp2
      refine hR.mono ?_
      rintro e W3 ⟨rfl, hJ3⟩
      clear hy hR
      gi_wp2
      go_roundw
      case rel => exact ⟨k + 1, by go_num, by omega, by rw [Htk.out]; exact hJ3⟩
      case measure => simp [intOf]; omega
    · obtain rfl : k = l.length := by omega
      rw [List.take_length] at hJ
      gi_wp2
      go_end0
      exact ⟨⟨_, rfl⟩, hJ⟩

theorem xor_ones (s : Nat) (h : s < 4294967296) : 4294967295 ^^^ s = 4294967295 - s := by
  have h2 : s < 2 ^ 32 := by omega
  rw [show 4294967295 - s = 2 ^ 32 - (s + 1) from by omega, show (4294967295 : Nat) = 2 ^ 32 - 1 from rfl]
  apply Nat.eq_of_testBit_eq
  intro i
  rw [Nat.testBit_xor, Nat.testBit_two_pow_sub_one, Nat.testBit_two_pow_sub_succ h2]
  by_cases hi : i < 32
  · simp [hi]
  · have : s.testBit i = false := Nat.testBit_lt_two_pow (Nat.lt_of_lt_of_le h2 (Nat.pow_le_pow_right (by omega) (by omega)))
    simp [hi, this]
theorem not_u32 (s : Nat) (h : s < 4294967296) : bits .xor .u32 IntKind.u32.max (s : Int) = ((4294967295 - s : Nat) : Int) := by
  rw [← xor_ones s h]
  exact u32_xor_nat 4294967295 s (by omega) h

abbrev tab16 : Array Value := #[.int .u32 (stN 4 0 : Nat), .int .u32 (stN 4 1 : Nat), .int .u32 (stN 4 2 : Nat), .int .u32 (stN 4 3 : Nat), .int .u32 (stN 4 4 : Nat), .int .u32 (stN 4 5 : Nat), .int .u32 (stN 4 6 : Nat), .int .u32 (stN 4 7 : Nat), .int .u32 (stN 4 8 : Nat), .int .u32 (stN 4 9 : Nat), .int .u32 (stN 4 10 : Nat), .int .u32 (stN 4 11 : Nat), .int .u32 (stN 4 12 : Nat), .int .u32 (stN 4 13 : Nat), .int .u32 (stN 4 14 : Nat), .int .u32 (stN 4 15 : Nat)]
theorem tab16_at (k : Nat) (h : k < 16) : tab16[k]? = some (.int .u32 (stN 4 k : Nat)) := by
  match k, h with
  | 0, _ => rfl | 1, _ => rfl | 2, _ => rfl | 3, _ => rfl | 4, _ => rfl | 5, _ => rfl | 6, _ => rfl | 7, _ => rfl | 8, _ => rfl | 9, _ => rfl | 10, _ => rfl | 11, _ => rfl | 12, _ => rfl | 13, _ => rfl | 14, _ => rfl | 15, _ => rfl
  | k + 16, h => exact absurd h (by omega)
/-- What holds between two rounds: T: the table; the register behind it; the box of the bytes. -/
def CI (w : World) (T r0 : Nat) (sv : Value) (pre : List UInt8) (W : World) : Prop :=
  Below w.heap.size w W ∧ Blk W T 292 tab16 ∧ Blk W (T + 1) 171 #[.int .u32 (crcGo r0 pre : Nat)] ∧ Blk W (T + 2) 26 #[sv]
theorem Blk.put {w : World} {g k : Nat} {t : TypeId} {cs : Array Value} (h : Blk w g t cs) (hk : g ≠ k) (o : Obj) : Blk (w.putObj k o) g t cs := (World.putObj_heap_other (by omega)).trans h

theorem only_drew {a w : World} {row : Option Nat} (h : a.grownBy w row) : a.grownBy w.drew row := ⟨h.os, h.tape, h.output, h.size, h.block⟩
theorem only_setCell {a w : World} {g : Nat} (h : a.grownBy w (some g)) {p : Addr} (hp : p.block = g ∨ a.heap.size ≤ p.block) (u : Value) : a.grownBy (w.setCell p u) (some g) :=
  ⟨h.os, h.tape, h.output, by simpa [World.setCell] using h.size, fun i hi hne => (Below.heap_setCell w p u i (by
    rintro rfl
    rcases hp with hp | hp
    · exact hne (by rw [hp])
    · omega)).trans (h.block i hi hne)⟩
/-- The register alone was written. -/
structure RegIs (W X : World) (R r : Nat) : Prop where
  grown : W.grownBy X (some R)
  blk : Blk X R 171 #[.int .u32 r]
theorem RegIs.refl {W : World} {R r : Nat} (h : Blk W R 171 #[.int .u32 r]) : RegIs W W R r := ⟨World.grownBy.refl W _, h⟩
theorem RegIs.drew {W X : World} {R r : Nat} (h : RegIs W X R r) : RegIs W X.drew R r := ⟨only_drew h.grown, h.blk⟩
theorem RegIs.set_ {W X : World} {R r : Nat} (h : RegIs W X R r) (r' : Nat) : RegIs W (X.setCell ⟨R, 0, none⟩ (.int .u32 r')) R r' := ⟨only_setCell h.grown (.inl rfl) _, h.blk.set_ 0 _⟩

set_option maxRecDepth 100000 in
set_option maxHeartbeats 4000000 in
theorem more_calls (s : Nat) (hs : s < 4294967296) (l : List UInt8) (a : Option Addr) (n c : Nat) (w : World) (h : Holds w w.heap.size (.row 1 (dB l)) [.slice a n c]) (hl : l.length ≤ 1000000000) :
    Calls Tryz.prog 170 #[.int .u32 s, .slice a n c] w fun e w' => e = .returned (.int .u32 (crcMore s l : Nat)) ∧ Below w.heap.size w w' := by
  have hX0 := not_u32 s hs
  obtain ⟨r0, hr0⟩ : ∃ r, 4294967295 - s = r := ⟨_, rfl⟩
  have hr0l : r0 < 4294967296 := by omega
  rw [hr0] at hX0
  have hm : crcMore s l = 4294967295 - crcGo r0 l := by unfold crcMore; rw [hr0]
  have H := Lib.hid h
  clear h hr0
  refine (callsIn_wide (n := 12)).1 ?_
  refine callsIn_of_wp_marks Tryz.func170 rfl trivial ?_ rfl
  simp only [Tryz.ntmps170, List.size_toArray, List.length_cons, List.length_nil, Nat.reduceAdd, Nat.reduceSub, Array.replicate_succ, Array.replicate_zero, List.push_toArray, List.append_toArray, List.nil_append, List.cons_append]
  gi_wp2_with (first | (refine ⟨trivial, ?_⟩; gi_at_call 232; refine (callsIn_wide.2 (steps_calls _)).mono ?_; rintro e w1 ⟨rfl, hb1⟩) | (refine ⟨trivial, ?_⟩; gi_at_call 233; refine (callsIn_wide.2 (each_calls _ _ _ _)).mono ?_; rintro e w2 ⟨rfl, rfl⟩))
  have hz1 := hb1.size
  have hI0 : CI w w1.heap.size r0 (.slice a n c) [] (((w1.alloc (.cells tab16 292)).alloc (.cells #[.int .u32 r0] 171)).alloc (.cells #[.slice a n c] 26)) := by
    refine ⟨(((hb1.alloc hz1 _).alloc (by simp; omega) _).alloc (by simp; omega) _), ((Blk.new _ _ _).alloc _).alloc _, ?_, ?_⟩
    · have := (Blk.new (w1.alloc (.cells tab16 292)) 171 #[.int .u32 r0]).alloc (.cells #[.slice a n c] 26)
      rwa [World.size_alloc] at this
    · have := Blk.new ((w1.alloc (.cells tab16 292)).alloc (.cells #[.int .u32 r0] 171)) 26 #[.slice a n c]
      rwa [World.size_alloc, World.size_alloc] at this
  have hsz : w1.heap.size + 3 = (((w1.alloc (.cells tab16 292)).alloc (.cells #[.int .u32 r0] 171)).alloc (.cells #[.slice a n c] 26)).heap.size := by simp
  have hyld := each_yields l a n c (w1.heap.size + 2) w.heap.size hl
  generalize w1.heap.size = T at *
  generalize ((w1.alloc _).alloc _).alloc _ = w3 at *
  refine wp_range_all (n := 10) (gf := 260) (lb := #[.pointer (some ⟨T + 2, 0, none⟩)]) rfl (enters_of Tryz.func260 (by kernel_rfl) rfl) hyld (fun _ => rfl)
    (CI w T r0 (.slice a n c)) ?hIn ?hIp ?hIb ?h0 ?a1 ?assign ?body ?done
  case assign =>
    intro l x W K hK
    gi_wp2
    exact hK
  case h0 => exact hI0
  case hIb =>
    rintro pre A ⟨h1, _, _, h4⟩
    exact ⟨h4.cell 0, H.out.below h1⟩
  case hIn =>
    rintro pre A B ⟨h1, h2, h3, h4⟩ hb
    exact ⟨h1.trans (hb.mono h1.size), h2.below hb h2.lt, h3.below hb h3.lt, h4.below hb h4.lt⟩
  case hIp =>
    rintro pre A k o o' ⟨h1, h2, h3, h4⟩ ho hc hk
    have hkw : w.heap.size ≤ k := by omega
    exact ⟨h1.grown (grownBy_putObj' A k o') (by have := (Array.getElem?_eq_some_iff.1 ho).1; omega) (fun j e => by cases e; exact hkw), h2.put (by omega) _, h3.put (by omega) _, h4.put (by omega) _⟩
  case body =>
    rintro lp pre x rest W hx ⟨h1, h2, h3, h4⟩ ⟨ds, hds⟩ ⟨rc, hrc⟩
    obtain ⟨r, hr⟩ : ∃ r, crcGo r0 pre = r := ⟨_, rfl⟩
    have hrl : r < 4294967296 := by rw [← hr]; exact crcGo_lt pre hr0l
    have hxl : x.toNat < 256 := x.toNat_lt
    rw [hr] at h3
    obtain ⟨y, hy⟩ : ∃ y, x.toNat = y := ⟨_, rfl⟩
    rw [hy] at hxl
    obtain ⟨r1, hr1⟩ : ∃ r1, r ^^^ y = r1 := ⟨_, rfl⟩
    have hX1 := u32_xor_nat r y hrl (by omega)
    rw [hr1] at hX1
    have hl1 : r1 < 4294967296 := by rw [← hr1]; exact Nat.xor_lt_two_pow (n := 32) hrl (by omega)
    obtain ⟨k1, hk1⟩ : ∃ k, r1 % 16 = k := ⟨_, rfl⟩
    have hk1l : k1 < 16 := by omega
    have hA1 : bits .and .u32 (r1 : Int) 15 = (k1 : Int) := by rw [← hk1, ← nat_mask4]; exact u32_and_nat r1 15 hl1 (by omega)
    obtain ⟨t1, ht1⟩ : ∃ t, stN 4 k1 = t := ⟨_, rfl⟩
    have htl1 : t1 < 4294967296 := by rw [← ht1]; exact stN_lt 4 (by omega)
    obtain ⟨r2, hr2⟩ : ∃ r, nib r1 = r := ⟨_, rfl⟩
    have hB1 : bits .xor .u32 ((r1 : Int) / 16) (t1 : Int) = (r2 : Int) := by
      rw [show ((r1 : Int) / 16) = ((r1 / 16 : Nat) : Int) from by omega, u32_xor_nat _ _ (by omega) htl1, ← hr2, ← ht1, ← hk1]; rfl
    have hl2 : r2 < 4294967296 := by rw [← hr2, nib_eq]; exact stN_lt 4 hl1
    obtain ⟨k2, hk2⟩ : ∃ k, r2 % 16 = k := ⟨_, rfl⟩
    have hk2l : k2 < 16 := by omega
    have hA2 : bits .and .u32 (r2 : Int) 15 = (k2 : Int) := by rw [← hk2, ← nat_mask4]; exact u32_and_nat r2 15 hl2 (by omega)
    obtain ⟨t2, ht2⟩ : ∃ t, stN 4 k2 = t := ⟨_, rfl⟩
    have htl2 : t2 < 4294967296 := by rw [← ht2]; exact stN_lt 4 (by omega)
    obtain ⟨r3, hr3⟩ : ∃ r, nib r2 = r := ⟨_, rfl⟩
    have hB2 : bits .xor .u32 ((r2 : Int) / 16) (t2 : Int) = (r3 : Int) := by
      rw [show ((r2 : Int) / 16) = ((r2 / 16 : Nat) : Int) from by omega, u32_xor_nat _ _ (by omega) htl2, ← hr3, ← ht2, ← hk2]; rfl
    have hfin : crcGo r0 (pre ++ [x]) = r3 := by rw [crcGo_snoc, hr, hy, hr1, st8_eq, ← nib_nib, hr2, hr3]
    have d1 : W.cell? ⟨T, k1, none⟩ = some (.int .u32 t1) := (h2.cell k1).trans (by rw [tab16_at k1 hk1l, ht1])
    have d2 : W.cell? ⟨T, k2, none⟩ = some (.int .u32 t2) := (h2.cell k2).trans (by rw [tab16_at k2 hk2l, ht2])
    have dr : W.cell? ⟨T + 1, 0, none⟩ = some (.int .u32 r) := h3.cell 0
    have fr : W.frozen? ⟨T + 1, 0, none⟩ = false := h3.frozen 0
    have i1 : (0 : Int) ≤ k1 := by omega
    have i2 : (k1 : Int) < 16 := by omega
    have i3 : (0 : Int) ≤ k2 := by omega
    have i4 : (k2 : Int) < 16 := by omega
    have hlt := h4.lt
    rw [hy]
    have H1 := Lib.hid h1
    have H2 := Lib.hid h2
    have H3 := Lib.hid h3
    have H4 := Lib.hid h4
    have Hx := Lib.hid hx
    have Hfin := Lib.hid hfin
    clear h1 h2 h3 h4 hx hfin
    have Hds := Lib.hid hds
    have Hrc := Lib.hid hrc
    clear hds hrc
    clear hr hy hr1 hk1 ht1 hr2 hk2 ht2 hr3
    gi_upto_region 6 with (fail)
    gi_cut [] from 32 (fun wx => RegIs W wx (T + 1) r2)
    case first =>
      clear d2 hA2 hB2
      have HR := Lib.hid (((RegIs.refl H3.out).set_ r1).drew.set_ r2)
      gi_region
      all_goals (gi_wp2; gi_meet; exact HR.out)
    case rest =>
      have d2' : wc.cell? ⟨T, k2, none⟩ = some (.int .u32 t2) := (World.cell?_of_block (hcut.grown.block T (by omega) (by simp))).trans d2
      have dr' : wc.cell? ⟨T + 1, 0, none⟩ = some (.int .u32 r2) := hcut.blk.cell 0
      have fr' : wc.frozen? ⟨T + 1, 0, none⟩ = false := hcut.blk.frozen 0
      have HR := Lib.hid ((hcut.drew).set_ r3)
      have fin : ∀ (A : Act) (X : World), RegIs W X (T + 1) r3 → goesOn (CI w T r0 (.slice a n c) (pre ++ [x])) w3.heap.size W .normal A X := by
        intro A X ⟨g1, g2⟩
        have hw := H1.out
        have hlt' := (Array.getElem?_eq_some_iff.1 Hrc.out).1
        exact ⟨g1.block _ (by omega) (by simp; omega), g1.block _ (by omega) (by simp; omega), hw.grown g1 (by omega) (fun j e => by cases e; omega), (g1.block T (by omega) (by simp)).trans H2.out, by rw [Hfin.out]; exact g2, (g1.block (T + 2) (by omega) (by simp)).trans H4.out⟩
      clear d2 d1 dr hA1 hB1
      have Hcut := Lib.hid hcut
      have Fin := Lib.hid fin
      clear hcut fin
      gi_wp2
      gi_region
      all_goals (gi_wp2; exact Fin.out _ _ HR.out)
  case done =>
    rintro W ⟨h1, h2, h3, h4⟩ hd
    have hcl := crcGo_lt l hr0l
    generalize crcGo r0 l = rl at h3 hm hcl
    have hX9 := not_u32 rl hcl
    have c9 : W.cell? ⟨T + 1, 0, none⟩ = some (.int .u32 rl) := h3.cell 0
    obtain ⟨m, hm2⟩ : ∃ m, 4294967295 - rl = m := ⟨_, rfl⟩
    rw [hm2] at hm hX9
    clear hm2
    have hww : w.heap.size ≤ w3.heap.size := by omega
    have H1 := Lib.hid h1
    have H2 := Lib.hid h2
    have H3 := Lib.hid h3
    have H4 := Lib.hid h4
    have Hm := Lib.hid hm
    clear h1 h2 h3 h4 hm
    gi_wp2
    refine ⟨by simp, .inl ⟨_, _, rfl, run_takeDeferred hd, ?_⟩⟩
    refine ⟨_, results_tmp rfl _ _ _, by rw [Hm.out]; rfl, ?_⟩
    exact (H1.out.grown (grownBy_putObj' W _ _) H1.out.size (fun k e => by cases e; omega))
end Go.Proofs.YtemceefalkfneaaGreatDoor
