/- Parts, joined: The law ParseDeep: it answers true. No condition. -/
import Derived.Test.YtgjiienipeoajaaGreatDoorProg
import Derived.Test.YtgjiienipeoajaaGreatDoorShelf
import Derived.Test.YtgjiienipeoajaaGreatDoorKPrs36
import Derived.Test.YtgjiienipeoajaaGreatDoorKPrs44
import Derived.Test.YtgjiienipeoajaaGreatDoorKParseDeep1
import Derived.Test.YtgjiienipeoajaaGreatDoorKParseDeep2
/- The law ParseDeep: it answers true. No condition. -/
namespace Go.Proofs.YtgjiienipeoajaaGreatDoor
open Go Go.RowKit

set_option maxRecDepth 100000 in
set_option maxHeartbeats 16000000 in
theorem ParseDeep_law (x : Int) (w : World) (hT : Tabs w) (hN : NumT w) :
    Calls Tryz.prog 9 #[.int .i64 x] w fun e w' => e = .returned (.bool true) ∧ Below w.heap.size w w' := by
  have hK : ∀ W, Below w.heap.size w W → Calls Tryz.prog 13 #[] W fun e w' => e = .returned (.bool true) ∧ Below W.heap.size W w' := fun W hW => known4_calls W (hT.below hW) (hN.below hW)
  have hK0 := hK w (Below.refl _ _)
  by_cases h1 : x < 1
  · have l1 : decide (x < 1) = true := decide_eq_true h1
    have HK0 := Lib.hid hK0
    clear hK0
    go_enter Tryz.func9, Tryz.ntmps9
    go_wp2_with (fail)
    with_reducible refine (HK0.out).mono ?_
    rintro e w5 ⟨rfl, hb5⟩
    have Hb5 := Lib.hid hb5
    clear hb5
    go_wp2
    go_ret
    exact ⟨rfl, Hb5.out⟩
  by_cases h2 : 1000 < x
  · have l1 : decide (x < 1) = false := decide_eq_false h1
    have l2 : decide (1000 < x) = true := decide_eq_true h2
    have HK0 := Lib.hid hK0
    clear hK0
    go_enter Tryz.func9, Tryz.ntmps9
    go_wp2_with (fail)
    with_reducible refine (HK0.out).mono ?_
    rintro e w5 ⟨rfl, hb5⟩
    have Hb5 := Lib.hid hb5
    clear hb5
    go_wp2
    go_ret
    exact ⟨rfl, Hb5.out⟩
  obtain ⟨n, rfl⟩ : ∃ n : Nat, x = ((n + 1 : Nat) : Int) := ⟨(x - 1).toNat, by omega⟩
  have hn : n < 1000 := by omega
  have l1 : decide (((n + 1 : Nat) : Int) < 1) = false := decide_eq_false h1
  have l2 : decide (1000 < ((n + 1 : Nat) : Int)) = false := decide_eq_false h2
  have hO : ∀ W, Calls Tryz.prog 24 #[.string ⟨#[91]⟩, .int .i64 ((n + 1 : Nat) : Int)] W fun e w' => e = .returned (.string ⟨(List.replicate (n + 1) (91 : UInt8)).toArray⟩) ∧ Below W.heap.size W w' := fun W => by
    have := Tryz.strings_Repeat ⟨#[91]⟩ (n + 1) W (by omega) (by show 1 * (n + 1) ≤ _; omega)
    rwa [show (⟨#[91]⟩ : ByteArray).data.toList = [91] from rfl, repeat_one] at this
  have hC : ∀ W, Calls Tryz.prog 24 #[.string ⟨#[93]⟩, .int .i64 ((n + 1 : Nat) : Int)] W fun e w' => e = .returned (.string ⟨(List.replicate (n + 1) (93 : UInt8)).toArray⟩) ∧ Below W.heap.size W w' := fun W => by
    have := Tryz.strings_Repeat ⟨#[93]⟩ (n + 1) W (by omega) (by show 1 * (n + 1) ≤ _; omega)
    rwa [show (⟨#[93]⟩ : ByteArray).data.toList = [93] from rfl, repeat_one] at this
  have hS : ((⟨(List.replicate (n + 1) (91 : UInt8)).toArray⟩ : ByteArray) ++ (⟨(List.replicate (n + 1) (93 : UInt8)).toArray⟩ : ByteArray)).data.toList = nestT n := by rw [str_app, nestT_eq]
  have hz : ((⟨(List.replicate (n + 1) (91 : UInt8)).toArray⟩ : ByteArray) ++ (⟨(List.replicate (n + 1) (93 : UInt8)).toArray⟩ : ByteArray)).size = 2 * (n + 1) := by
    rw [app_size, show (⟨(List.replicate (n + 1) (91 : UInt8)).toArray⟩ : ByteArray).size = (List.replicate (n + 1) (91 : UInt8)).length from rfl, List.length_replicate, List.length_replicate]; omega
  have hz1 : (⟨(List.replicate (n + 1) (91 : UInt8)).toArray⟩ : ByteArray).size ≤ 1000 := by
    rw [show (⟨(List.replicate (n + 1) (91 : UInt8)).toArray⟩ : ByteArray).size = (List.replicate (n + 1) (91 : UInt8)).length from rfl, List.length_replicate]; omega
  have hz2 : (⟨(List.replicate (n + 1) (93 : UInt8)).toArray⟩ : ByteArray).size ≤ 1000 := by
    rw [show (⟨(List.replicate (n + 1) (93 : UInt8)).toArray⟩ : ByteArray).size = (List.replicate (n + 1) (93 : UInt8)).length from rfl, List.length_replicate]; omega
  generalize (⟨(List.replicate (n + 1) (91 : UInt8)).toArray⟩ : ByteArray) = A at hO hS hz hz1
  generalize (⟨(List.replicate (n + 1) (93 : UInt8)).toArray⟩ : ByteArray) = B at hC hS hz hz2
  by_cases h64 : 64 ≤ n
  · have l3 : decide (64 < ((n + 1 : Nat) : Int)) = true := decide_eq_true (by omega)
    have hF : ∀ W, Below w.heap.size w W → Calls Tryz.prog 17 #[.string (A ++ B), .int .i64 5, .int .i64 64] W fun e w' => e = .returned (.bool true) ∧ Below W.heap.size W w' := fun W hW =>
      falls_yes _ 5 64 W (hT.below hW) (hN.below hW) (by omega) (by rw [hS]; exact nest_too h64)
    generalize ((n + 1 : Nat) : Int) = y at l1 l2 l3 hO hC ⊢
    clear hS hK0 h1 h2
    have HO := Lib.hid hO
    have HC := Lib.hid hC
    have HF := Lib.hid hF
    have HK := Lib.hid hK
    have Hz := Lib.hid hz
    clear hO hC hF hK hz
    go_enter Tryz.func9, Tryz.ntmps9
    go_wp2_with (fail)
    with_reducible refine (HO.out _).mono ?_
    rintro e w1 ⟨rfl, hb1⟩
    have Hb1 := Lib.hid hb1
    clear hb1
    go_wp2_with (fail)
    with_reducible refine (HC.out _).mono ?_
    rintro e w2 ⟨rfl, hb2⟩
    have hB2 := Hb1.out.trans (hb2.mono Hb1.out.size)
    have hF2 := HF.out _ hB2
    clear hb2
    have HB2 := Lib.hid hB2
    have HF2 := Lib.hid hF2
    clear hB2 hF2
    go_wp2_with (fail)
    with_reducible refine (HF2.out).mono ?_
    rintro e w4 ⟨rfl, hb4⟩
    have hB4 := HB2.out.trans (hb4.mono HB2.out.size)
    have hK4 := HK.out _ hB4
    clear hb4
    have HB4 := Lib.hid hB4
    have HK4 := Lib.hid hK4
    clear hB4 hK4
    go_wp2_with (fail)
    with_reducible refine (HK4.out).mono ?_
    rintro e w5 ⟨rfl, hb5⟩
    have hB5 := HB4.out.trans (hb5.mono HB4.out.size)
    clear hb5
    have HB5 := Lib.hid hB5
    clear hB5
    go_wp2
    go_ret
    exact ⟨rfl, HB5.out⟩
  · have l3 : decide (64 < ((n + 1 : Nat) : Int)) = false := decide_eq_false (by omega)
    have hlen : (nestT n).length = (A ++ B).size := by rw [← hS, size_toList]
    have hP : ∀ W, Below w.heap.size w W → Calls Tryz.prog 10 #[.string (A ++ B)] W (RefOut W (.ok (nestV n) (A ++ B).size)) := fun W hW => by
      have := parse_calls (A ++ B) W (hT.below hW) (hN.below hW) (by omega)
      rwa [hS, nest_parse (by omega), hlen] at this
    have hbk := nest_bulk n
    have hD : ∀ (cs : List Value) (W : World), HoldsV W W.heap.size (nestV n) cs → Calls Tryz.prog 25 #[.agg cs.toArray] W fun e w' => e = .returned (.int .i64 ((n + 1 : Nat) : Int)) ∧ Below W.heap.size W w' := fun cs W h => by
      have := rdeep_calls (nestV n) cs W h (by omega)
      rwa [nest_deep] at this
    have hZ : ∀ (cs : List Value) (W : World), HoldsV W W.heap.size (nestV n) cs → Calls Tryz.prog 26 #[.agg cs.toArray] W fun e w' => e = .returned (.int .i64 ((n + 1 : Nat) : Int)) ∧ Below W.heap.size W w' := fun cs W h => by
      have := rsize_calls (nestV n) cs W h (by omega)
      rwa [nest_size] at this
    generalize nestV n = v at hP hD hZ
    generalize ((n + 1 : Nat) : Int) = y at l1 l2 l3 hO hC hD hZ ⊢
    have ey : (y == y) = true := by simp
    have eS : (((A ++ B).size : Int) == ((A ++ B).size : Int)) = true := by simp
    obtain ⟨k, b, n', t, l, o⟩ := v
    clear hS hK0 h1 h2 hbk hlen
    have HO := Lib.hid hO
    have HC := Lib.hid hC
    have HP := Lib.hid hP
    have HK := Lib.hid hK
    have Hz := Lib.hid hz
    have HD := Lib.hid hD
    have HZ := Lib.hid hZ
    clear hO hC hP hK hz hD hZ
    go_enter Tryz.func9, Tryz.ntmps9
    go_wp2_with (fail)
    with_reducible refine (HO.out _).mono ?_
    rintro e w1 ⟨rfl, hb1⟩
    have Hb1 := Lib.hid hb1
    clear hb1
    go_wp2_with (fail)
    with_reducible refine (HC.out _).mono ?_
    rintro e w2 ⟨rfl, hb2⟩
    have hB2 := Hb1.out.trans (hb2.mono Hb1.out.size)
    have hP2 := HP.out _ hB2
    clear hb2
    have HB2 := Lib.hid hB2
    have HP2 := Lib.hid hP2
    clear hB2 hP2
    go_wp2_with (fail)
    with_reducible refine (HP2.out).mono ?_
    rintro e w3 ⟨hb3, cs3, rfl, hf3⟩
    obtain ⟨la3, lc3, oa3, oc3, rfl⟩ := six_now hf3
    have hn3 := Bx.new (holdsV_of _ _ hf3.now)
    have hB3 := (HB2.out.trans (hb3.mono HB2.out.size)).alloc (Nat.le_trans HB2.out.size hb3.size) (.cells #[.int .i64 k, .bool b, .int .i64 n', .string t, .slice la3 l.length lc3, .slice oa3 o.length oc3] 26)
    have hD3 := HD.out _ _ hn3.holds
    clear hb3 hf3
    have HB3 := Lib.hid hB3
    have Hn3 := Lib.hid hn3
    have HD3 := Lib.hid hD3
    clear hB3 hn3 hD3
    go_wp2_with (fail)
    generalize w3.alloc (.cells #[.int .i64 k, .bool b, .int .i64 n', .string t, .slice la3 l.length lc3, .slice oa3 o.length oc3] 26) = W3 at HB3 Hn3 HD3 ⊢
    generalize w3.heap.size = g3 at Hn3 ⊢
    with_reducible refine (HD3.out).mono ?_
    rintro e w4 ⟨rfl, hb4⟩
    have hn4 := Hn3.out.later hb4
    have hB4 := HB3.out.trans (hb4.mono HB3.out.size)
    have hZ4 := HZ.out _ _ hn4.holds
    obtain ⟨x0, x1, x2, x3, x4, x5⟩ := vcell hn4.blk
    have xl := hn4.blk.lt
    clear hb4
    have HB4 := Lib.hid hB4
    have HZ4 := Lib.hid hZ4
    have Hn4 := Lib.hid hn4
    clear hB4 hZ4 hn4
    go_wp2_with (fail)
    with_reducible refine (HZ4.out).mono ?_
    rintro e w5 ⟨rfl, hb5⟩
    have hB5 := HB4.out.trans (hb5.mono HB4.out.size)
    have hK5 := HK.out _ hB5
    clear hb5 x0 x1 x2 x3 x4 x5 xl
    have HB5 := Lib.hid hB5
    have HK5 := Lib.hid hK5
    clear hB5 hK5
    go_wp2_with (fail)
    with_reducible refine (HK5.out).mono ?_
    rintro e w6 ⟨rfl, hb6⟩
    have hB6 := HB5.out.trans (hb6.mono HB5.out.size)
    clear hb6
    have HB6 := Lib.hid hB6
    clear hB6
    go_wp2
    go_ret
    exact ⟨rfl, HB6.out⟩
end Go.Proofs.YtgjiienipeoajaaGreatDoor
