/- Parts, joined: Arguments that are opened beside the trees: numbers, Booleans. No condition. -/
import Derived.Test.YtgjiienipeoajaaGreatDoorProg
import Derived.Test.YtgjiienipeoajaaGreatDoorKPrs20
/- Arguments that are opened beside the trees: numbers, Booleans. No condition. -/
namespace Go.Proofs.YtgjiienipeoajaaGreatDoor
open Go.RowKit Go.ChangeShapes Go.WideShapes Go.ChangeAt

section
variable {H : Type} {enc : TypeId × Value → H} {w : World} {sp : Nat → Bool} {held : Bool}
set_option maxRecDepth 10000 in
theorem open_arg_u64 {base : Nat} {v0 : Value} {d : DataW H} {ps : List MemPlace} (hv : Value.okWide Tryz.prog w .any base 51 v0) (h : DataW.Trod enc Tryz.prog w 0 sp held 51 v0 d ps) :
    ∃ u : Nat, v0 = .int .u64 (u : Int) ∧ u < 18446744073709551616 := by
  obtain ⟨n, rfl, _, _, hwf⟩ := open_int Tryz.underlying51 hv h
  have h1 : IntKind.u64.min = 0 := by decide
  have h2 : IntKind.u64.max = 18446744073709551615 := by decide
  simp only [Lit.wf, h1, h2, Bool.and_eq_true, decide_eq_true_eq] at hwf
  exact ⟨n.toNat, by rw [Int.toNat_of_nonneg hwf.1], by omega⟩
set_option maxRecDepth 10000 in
theorem open_arg_int {base : Nat} {v0 : Value} {d : DataW H} {ps : List MemPlace} (hv : Value.okWide Tryz.prog w .any base 3 v0) (h : DataW.Trod enc Tryz.prog w 0 sp held 3 v0 d ps) :
    ∃ n : Int, v0 = .int .i64 n := by
  obtain ⟨n, rfl, _⟩ := open_int Tryz.underlying3 hv h
  exact ⟨n, rfl⟩
set_option maxRecDepth 10000 in
theorem open_arg_bool {base : Nat} {v0 : Value} {d : DataW H} {ps : List MemPlace} (hv : Value.okWide Tryz.prog w .any base 4 v0) (_ : DataW.Trod enc Tryz.prog w 0 sp held 4 v0 d ps) :
    ∃ b : Bool, v0 = .bool b := okWide_bool Tryz.underlying4 hv
set_option maxRecDepth 10000 in
/-- Members, with room enough behind them. -/
theorem open_arg_members2 {base : Nat} {v0 : Value} {d : DataW H} {ps : List MemPlace} (hv : Value.okWide Tryz.prog w .any base 24 v0) (h : DataW.Trod enc Tryz.prog w 0 sp held 24 v0 d ps) :
    ∃ l la lc, v0 = .slice la (l : List (ByteArray × Val)).length lc ∧ (l = [] ∨ ∃ g off, la = some ⟨g, off, none⟩ ∧ g < w.heap.size ∧ HoldsO w w.heap.size l g off) ∧ l.length ≤ lc ∧ inO l ∧ 1 + bulkO l ≤ Rows.uptoBulk d := by
  obtain ⟨l, la, lc, rfl, h1, h2, h3⟩ := open_arg_members hv h
  refine ⟨l, la, lc, rfl, h1, ?_, h2, h3⟩
  obtain ⟨fuel, hf⟩ := h
  rcases DataW.trod_slice Tryz.underlying24 hf with ⟨e, _⟩ | ⟨a, len, cap, elems, rest, q, hn, e, _, h5, h6, h7, hlen', hel, _, _⟩
  · simp only [Value.cells, List.cons.injEq, Value.slice.injEq, and_true] at e
    omega
  · simp only [Value.cells, List.cons.injEq, Value.slice.injEq, and_true] at e
    omega
end
end Go.Proofs.YtgjiienipeoajaaGreatDoor
