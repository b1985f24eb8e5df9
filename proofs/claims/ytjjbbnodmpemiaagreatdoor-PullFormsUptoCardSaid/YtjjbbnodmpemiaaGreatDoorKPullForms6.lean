/- Parts, joined: The reference's own values: Int, Text, Object, List, members of numbers and of ops' names. No condition. -/
import Derived.Test.YtjjbbnodmpemiaaGreatDoorProg
import Derived.Test.YtjjbbnodmpemiaaGreatDoorKPull38
import Derived.Test.YtjjbbnodmpemiaaGreatDoorKPullForms2
/- The reference's own values: Int, Text, Object, List, members of numbers and of ops' names. No condition. -/

namespace Go.Proofs.YtjjbbnodmpemiaaGreatDoor
open Go Go.RowKit

theorem rInt_calls (n : Int) (w : World) : Calls Tryz.prog 43 #[.int .i64 n] w fun e w' => e = .returned (.agg #[.int .i64 3, .bool false, .int .i64 n, .string ⟨#[]⟩, .slice none 0 0, .slice none 0 0]) ∧ Below w.heap.size w w' := by
  go_enter Tryz.func43, Tryz.ntmps43
  go_wp2
  exact bodyPost_ret (v := .agg #[.int .i64 3, .bool false, .int .i64 n, .string ⟨#[]⟩, .slice none 0 0, .slice none 0 0]) (by simp [results, Tryz.results43, go_sem]) rfl ⟨rfl, (Below.refl _ _).alloc (Nat.le_refl _) _⟩
theorem rTextV_calls (s : ByteArray) (w : World) : Calls Tryz.prog 44 #[.string s] w fun e w' => e = .returned (.agg #[.int .i64 4, .bool false, .int .i64 0, .string s, .slice none 0 0, .slice none 0 0]) ∧ Below w.heap.size w w' := by
  go_enter Tryz.func44, Tryz.ntmps44
  go_wp2
  exact bodyPost_ret (v := .agg #[.int .i64 4, .bool false, .int .i64 0, .string s, .slice none 0 0, .slice none 0 0]) (by simp [results, Tryz.results44, go_sem]) rfl ⟨rfl, (Below.refl _ _).alloc (Nat.le_refl _) _⟩
theorem rObject_calls (a : Option Addr) (n c : Nat) (w : World) : Calls Tryz.prog 26 #[.slice a n c] w fun e w' => e = .returned (.agg #[.int .i64 6, .bool false, .int .i64 0, .string ⟨#[]⟩, .slice none 0 0, .slice a n c]) ∧ Below w.heap.size w w' := by
  go_enter Tryz.func26, Tryz.ntmps26
  go_wp2
  exact bodyPost_ret (v := .agg #[.int .i64 6, .bool false, .int .i64 0, .string ⟨#[]⟩, .slice none 0 0, .slice a n c]) (by simp [results, Tryz.results26, go_sem]) rfl ⟨rfl, (Below.refl _ _).alloc (Nat.le_refl _) _⟩
theorem rList_calls (a : Option Addr) (n c : Nat) (w : World) : Calls Tryz.prog 46 #[.slice a n c] w fun e w' => e = .returned (.agg #[.int .i64 5, .bool false, .int .i64 0, .string ⟨#[]⟩, .slice a n c, .slice none 0 0]) ∧ Below w.heap.size w w' := by
  go_enter Tryz.func46, Tryz.ntmps46
  go_wp2
  exact bodyPost_ret (v := .agg #[.int .i64 5, .bool false, .int .i64 0, .string ⟨#[]⟩, .slice a n c, .slice none 0 0]) (by simp [results, Tryz.results46, go_sem]) rfl ⟨rfl, (Below.refl _ _).alloc (Nat.le_refl _) _⟩
/-- A member as the result's variable holds it. -/
theorem results_cell7 {fn : Func} {t : Tmp} {tmps : Array Value} {W : World} {R : Nat} {a0 a1 a2 a3 a4 a5 a6 : Value} (h : fn.results = #[.cell t 60]) (hp : tmps.getD t undef = .pointer (some ⟨R, 0, none⟩)) (hx : Blk W R 60 #[a0, a1, a2, a3, a4, a5, a6]) :
    (results fn tmps).run Tryz.prog W = .ok (.agg #[a0, a1, a2, a3, a4, a5, a6]) W := by
  have c0 := hx.cell 0
  have c1 := hx.cell 1
  have c2 := hx.cell 2
  have c3 := hx.cell 3
  have c4 := hx.cell 4
  have c5 := hx.cell 5
  have c6 := hx.cell 6
  clear hx
  have hp' : tmps[t]?.getD undef = .pointer (some ⟨R, 0, none⟩) := by simpa using hp
  simp [results, h, hp', go_sem] at c0 c1 c2 c3 c4 c5 c6 ⊢
  simp [c0, c1, c2, c3, c4, c5, c6]
abbrev zero7 : Array Value := #[.string ⟨#[]⟩, .int .i64 0, .bool false, .int .i64 0, .string ⟨#[]⟩, .slice none 0 0, .slice none 0 0]
theorem mcell {w : World} {g : Nat} {t : TypeId} {a0 a1 a2 a3 a4 a5 a6 : Value} (h : Blk w g t #[a0, a1, a2, a3, a4, a5, a6]) :
    w.cell? ⟨g, 0, none⟩ = some a0 ∧ w.cell? ⟨g, 1, none⟩ = some a1 ∧ w.cell? ⟨g, 2, none⟩ = some a2 ∧ w.cell? ⟨g, 3, none⟩ = some a3 ∧ w.cell? ⟨g, 4, none⟩ = some a4 ∧ w.cell? ⟨g, 5, none⟩ = some a5 ∧ w.cell? ⟨g, 6, none⟩ = some a6 :=
  ⟨h.cell 0, h.cell 1, h.cell 2, h.cell 3, h.cell 4, h.cell 5, h.cell 6⟩
theorem rop_calls (s : ByteArray) (w : World) : Calls Tryz.prog 45 #[.string s] w fun e w' => e = .returned (.agg #[.string kOp, .int .i64 4, .bool false, .int .i64 0, .string s, .slice none 0 0, .slice none 0 0]) ∧ Below w.heap.size w w' := by
  have hC := fun W => rTextV_calls s W
  have HC := Lib.hid hC
  clear hC
  go_enter Tryz.func45, Tryz.ntmps45
  go_wp2_with (fail)
  with_reducible refine (HC.out _).mono ?_
  rintro e w2 ⟨rfl, hb2⟩
  have hx := (Blk.new w 60 zero7).below hb2 (Blk.lt (Blk.new _ _ _))
  have hbw := (alloc_below w (.cells zero7 60)).trans (hb2.mono (by simp))
  obtain ⟨c0, c1, c2, c3, c4, c5, c6⟩ := mcell hx
  have fz := hx.frozen
  have Hx := Lib.hid hx
  have Hbw := Lib.hid hbw
  have Hb2 := Lib.hid hb2
  clear hx hbw hb2
  go_wp2
  have hxf := ((((((Hx.out.set_ 0 (.string kOp)).set_ 1 (.int .i64 4)).set_ 2 (.bool false)).set_ 3 (.int .i64 0)).set_ 4 (.string s)).set_ 5 (.slice none 0 0)).set_ 6 (.slice none 0 0)
  exact bodyPost_ret (results_cell7 rfl rfl hxf) rfl ⟨rfl, setMany_below [.string kOp, .int .i64 4, .bool false, .int .i64 0, .string s, .slice none 0 0, .slice none 0 0] Hbw.out (Nat.le_refl _) (o := 0)⟩
theorem rnum_calls (key : ByteArray) (n : Int) (h0 : 0 ≤ n) (h1 : n ≤ 4611686018427387903) (w : World) : Calls Tryz.prog 27 #[.string key, .int .u64 n] w fun e w' => e = .returned (.agg #[.string key, .int .i64 3, .bool false, .int .i64 n, .string ⟨#[]⟩, .slice none 0 0, .slice none 0 0]) ∧ Below w.heap.size w w' := by
  have hC := fun W => rInt_calls n W
  have HC := Lib.hid hC
  clear hC
  go_enter Tryz.func27, Tryz.ntmps27
  go_wp2_with (fail)
  with_reducible refine (HC.out _).mono ?_
  rintro e w2 ⟨rfl, hb2⟩
  have hx := (Blk.new w 60 zero7).below hb2 (Blk.lt (Blk.new _ _ _))
  have hbw := (alloc_below w (.cells zero7 60)).trans (hb2.mono (by simp))
  obtain ⟨c0, c1, c2, c3, c4, c5, c6⟩ := mcell hx
  have fz := hx.frozen
  have Hx := Lib.hid hx
  have Hbw := Lib.hid hbw
  have Hb2 := Lib.hid hb2
  clear hx hbw hb2
  go_wp2
  have hxf := ((((((Hx.out.set_ 0 (.string key)).set_ 1 (.int .i64 3)).set_ 2 (.bool false)).set_ 3 (.int .i64 n)).set_ 4 (.string ⟨#[]⟩)).set_ 5 (.slice none 0 0)).set_ 6 (.slice none 0 0)
  exact bodyPost_ret (results_cell7 rfl rfl hxf) rfl ⟨rfl, setMany_below [.string key, .int .i64 3, .bool false, .int .i64 n, .string ⟨#[]⟩, .slice none 0 0, .slice none 0 0] Hbw.out (Nat.le_refl _) (o := 0)⟩
end Go.Proofs.YtjjbbnodmpemiaaGreatDoor
