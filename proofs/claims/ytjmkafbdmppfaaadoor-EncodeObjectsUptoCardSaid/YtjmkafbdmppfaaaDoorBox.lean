/- A value parameter in its box, and the calls on it. Condition: a bulk of at most 10^8. -/
import Derived.Test.YtjmkafbdmppfaaaDoorProg
import Derived.Test.YtjmkafbdmppfaaaDoorRText
import Derived.Test.YtjmkafbdmppfaaaDoorKnown
import Derived.Test.YtjmkafbdmppfaaaDoorMayR3
namespace Go.Proofs.YtjmkafbdmppfaaaDoor
open Go.RowKit

theorem textS_ok' {v : Val} (h : mayV v 1 = 0) : textS v = ⟨(textV v).toArray⟩ := by unfold textS; rw [if_pos h]
theorem textS_no' {v : Val} (h : mayV v 1 ≠ 0) : textS v = ⟨#[]⟩ := by unfold textS; rw [if_neg h]

/-- A world in which block g is the box of a value parameter. -/
def Boxd (w : World) (g : Nat) (v : Val) (c : List Value) (w' : World) : Prop :=
  Below w.heap.size w w' ∧ w'.heap[g]? = some (.cells c.toArray 26 (0, 0)) ∧ Tabs w' ∧ HoldsV w' w'.heap.size v c

theorem Boxd.step {w w' w'' : World} {g : Nat} {v : Val} {c : List Value} (h : Boxd w g v c w') (hb : Below w'.heap.size w' w'') : Boxd w g v c w'' := by
  obtain ⟨h1, h2, h3, h4⟩ := h
  exact ⟨h1.trans (hb.mono h1.size), (hb.block _ (Array.getElem?_eq_some_iff.1 h2).1).trans h2, h3.below hb, HoldsV.more hb.size _ _ (h4.below hb)⟩
theorem Boxd.start {w : World} {v : Val} {c : List Value} (hT : Tabs w) (hV : HoldsV w w.heap.size v c) : Boxd w w.heap.size v c (w.alloc (.cells c.toArray 26)) := by
  have hb : Below w.heap.size w (w.alloc (.cells c.toArray 26)) := (Below.refl _ _).alloc (Nat.le_refl _) _
  exact ⟨hb, heap_alloc_new _ _, hT.below hb, HoldsV.more hb.size _ _ (hV.below hb)⟩
theorem Boxd.cells {w w' : World} {g : Nat} {v : Val} {k : Int} {b : Bool} {n : Int} {t : ByteArray} {x y : Value} (h : Boxd w g v [.int .i64 k, .bool b, .int .i64 n, .string t, x, y] w') :
    w'.cell? ⟨g, 0, none⟩ = some (.int .i64 k) ∧ w'.cell? ⟨g, 1, none⟩ = some (.bool b) ∧ w'.cell? ⟨g, 2, none⟩ = some (.int .i64 n) ∧ w'.cell? ⟨g, 3, none⟩ = some (.string t) ∧ w'.cell? ⟨g, 4, none⟩ = some x ∧ w'.cell? ⟨g, 5, none⟩ = some y :=
  box_cells h.2.1
theorem Boxd.tabs {w w' : World} {g : Nat} {v : Val} {c : List Value} (h : Boxd w g v c w') : Tabs w' := h.2.2.1
theorem Boxd.below {w w' : World} {g : Nat} {v : Val} {c : List Value} (h : Boxd w g v c w') : Below w.heap.size w w' := h.1

end Go.Proofs.YtjmkafbdmppfaaaDoor
