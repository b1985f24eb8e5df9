/- Parts, joined: strconv.FormatUint at base 10: a number's digits. Condition: the library's table. -/
import Derived.Test.YtgjiienipeoajaaGreatDoorProg
import Derived.Test.YtgjiienipeoajaaGreatDoorShelf
import Derived.Lib.AppendIntMem
import Derived.Lib.OwnBridge
import Derived.Shelf.Strconv.Itoa4
import Derived.Test.YtgjiienipeoajaaGreatDoorKPrs27
import Derived.Test.YtgjiienipeoajaaGreatDoorKPrs31
/- strconv.FormatUint at base 10: a number's digits. Condition: the library's table. -/
namespace Go.Proofs.YtgjiienipeoajaaGreatDoor
open Go Go.RowKit Go.Sort

theorem decDigits_decS (u : Nat) : Lib.decDigits u = decS u := by
  have h1 := itoa_decS (u : Int)
  rw [if_neg (by omega)] at h1
  rw [Lib.itoa_nonneg] at h1
  simpa using h1
theorem below_putU {w0 w : World} {B g off : Nat} {dk : Array UInt8} (h : Below B w0 w) (hg : B ≤ g) : Below B w0 (putRow (fun (b : UInt8) => Value.int .u8 (b.toNat : Int)) w g off dk) :=
  ⟨h.os, h.tape, h.output, by simpa [putRow, mapBlock] using h.size, fun k hk => by
    rw [← h.block k hk]
    simp [putRow, mapBlock, Array.getElem?_modify, show g ≠ k by omega]⟩
set_option maxRecDepth 100000 in
set_option maxHeartbeats 8000000 in
theorem ifmtuint_calls (u : Nat) (hu64 : u < 18446744073709551616) (w : World) (htab : Lib.TabIs Tryz.prog w "internal/strconv.uint64pow10" .u64 Lib.pow10Tab) :
    Calls Tryz.prog 44 #[.int .u64 u, .int .i64 10] w fun e w' => e = .returned (.string ⟨(Lib.decDigits u).toArray⟩) ∧ Below w.heap.size w w' := by
  by_cases hs : u < 100
  · have hsm := fun W => Tryz.internal_strconv_small u hs W
    have e1 : decide ((u : Int) < 100) = true := decide_eq_true (by omega)
    have e2 : IntKind.i64.wrap (u : Int) = (u : Int) := IntWalk.i64_in _ (by omega)
    have e3 : wrap64 (u : Int) = (u : Int) := by unfold wrap64; omega
    have Hsm := Lib.hid hsm
    clear hsm
    go_enter Tryz.func44, Tryz.ntmps44
    go_wp2_with (fail)
    with_reducible refine (Hsm.out _).mono ?_
    rintro e w' ⟨rfl, rfl⟩
    go_wp2
    go_ret
    exact ⟨rfl, Below.refl _ _⟩
  · have hu1 : 1 ≤ u := by omega
    have hnd20 : Lib.nDigits u ≤ 20 := by have := Lib.numDigits_eq u hu1 hu64; split at this <;> omega
    have hb3 : Lib.nDigits u ≤ 23 := by omega
    have e1 : decide ((u : Int) < 100) = false := decide_eq_false (by omega)
    have hal : Tryz.prog.arrayLen 118 = 24 := by kernel_rfl
    have hsl1 : ∀ W, (Instr.sliceAt 118 (.pointer (some ⟨w.heap.size, 0, none⟩)) none (some (.int .i64 (Lib.nDigits u : Int))) none).run Tryz.prog W = .ok (.slice (some ⟨w.heap.size, 0, none⟩) (Lib.nDigits u) 24) W := fun W => by
      rw [run_sliceAt_array_h W 118 ⟨w.heap.size, 0, none⟩ (by kernel_rfl) .i64 (Lib.nDigits u : Int) (by omega) (by rw [hal]; omega)]
      rfl
    have hH0 := Lib.holds_zero0 w 118 (Lib.nDigits u) (by omega)
    have hfmt := Tryz.internal_strconv_formatBase10 w.heap.size 0 24 u (Array.replicate (Lib.nDigits u) 0) (w.alloc (.cells Lib.zeros24 118)) hH0 (by rw [Array.size_replicate]; exact Lib.lt_pow_nDigits u) hu64 (by rw [Array.size_replicate]; omega)
    rw [Array.size_replicate] at hfmt
    have hND := Tryz.internal_strconv_numDigits u hu1 hu64 _ (Lib.tabIs_alloc htab (.cells Lib.zeros24 118))
    have HH0 := Lib.hid hH0
    have Hfmt := Lib.hid hfmt
    have HND := Lib.hid hND
    clear hH0 hfmt hND
    clear hal
    go_enter Tryz.func44, Tryz.ntmps44
    go_wp2_with (fail)
    refine (HND.out).mono ?_
    rintro e w' ⟨rfl, rfl⟩
    go_wp2_with (fail)
    refine (Hfmt.out).mono ?_
    rintro e w' ⟨rfl, k, v', dk, rfl, hF⟩
    have hcv : (convert 54 9 (.slice (some ⟨w.heap.size, 0, none⟩) (Lib.nDigits u) 24)).run Tryz.prog ((putRow (fun (b : UInt8) => Value.int .u8 (b.toNat : Int)) (w.alloc (.cells Lib.zeros24 118)) w.heap.size 0 dk).drewN k) = .ok (.string ⟨(Lib.decDigits u).toArray⟩) ((putRow (fun (b : UInt8) => Value.int .u8 (b.toNat : Int)) (w.alloc (.cells Lib.zeros24 118)) w.heap.size 0 dk).drewN k) := by
      have h := run_convert_bytes_back (P := Tryz.prog) ((putRow (fun (b : UInt8) => Value.int .u8 (b.toNat : Int)) (w.alloc (.cells Lib.zeros24 118)) w.heap.size 0 dk).drewN k) 54 9 5 ⟨w.heap.size, 0, none⟩ 24 (Lib.decDigits u) Tryz.underlying54 Tryz.underlying5 Tryz.underlying9 (fun j hj => by
        rw [Lib.row_is_numeral hF j hj, Lib.add_plain, World.cell?_drewN]
        exact cell?_putRow (fun (b : UInt8) => Value.int .u8 (b.toNat : Int)) _ w.heap.size 0 _ dk HH0.out (by rw [hF.size, Array.size_replicate]) j (by rw [hF.size]; rw [Lib.decDigits_length] at hj; exact hj))
      rw [Lib.decDigits_length] at h
      exact h
    have hB := below_drewN' (below_putU (off := 0) (dk := dk) (alloc_below w (.cells Lib.zeros24 118)) (Nat.le_refl _)) k
    have HB := Lib.hid hB
    clear hB
    clear hF
    go_wp2
    go_ret
    exact ⟨rfl, HB.out⟩
theorem fmtuint_calls (u : Nat) (hu64 : u < 18446744073709551616) (w : World) (htab : Lib.TabIs Tryz.prog w "internal/strconv.uint64pow10" .u64 Lib.pow10Tab) :
    Calls Tryz.prog 22 #[.int .u64 u, .int .i64 10] w fun e w' => e = .returned (.string ⟨(decS u).toArray⟩) ∧ Below w.heap.size w w' := by
  have hI := ifmtuint_calls u hu64 w htab
  rw [decDigits_decS] at hI
  have HI := Lib.hid hI
  clear hI
  go_enter Tryz.func22, Tryz.ntmps22
  go_wp2_with (fail)
  with_reducible refine (HI.out).mono ?_
  rintro e w' ⟨rfl, hb⟩
  go_wp2
  go_ret
  exact ⟨rfl, hb⟩
end Go.Proofs.YtgjiienipeoajaaGreatDoor
