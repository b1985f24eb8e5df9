/- commonplaceref02.Copy: what its contract says; rows of members. Plain. No condition. -/
import Derived.Test.YtjmkafbdmppfaaaDoorProg
import Derived.Test.YtjmkafbdmppfaaaDoorRow
import Derived.WalkKit
import Derived.Lib.Hide
import Derived.Lib.Builder
namespace Go.Proofs.YtjmkafbdmppfaaaDoor
open Go.RowKit

theorem six_vals {cs : List Value} (h : cs.length = 6) : ∃ c0 c1 c2 c3 c4 c5, cs = [c0, c1, c2, c3, c4, c5] := by
  match cs, h with
  | [c0, c1, c2, c3, c4, c5], _ => exact ⟨_, _, _, _, _, _, rfl⟩

/-- These cells hold this value whatever becomes of the blocks that were there before. -/
def FreshV (w w' : World) (v : Val) (cs : List Value) : Prop := ∀ w'' : World, w'.heap.size ≤ w''.heap.size → (∀ p : Addr, w.heap.size ≤ p.block → p.block < w'.heap.size → w''.cell? p = w'.cell? p) → HoldsV w'' w'.heap.size v cs
/-- What Copy does with a value. -/
def CopyC (v : Val) : Prop := ∀ (cs : List Value) (w : World), HoldsV w w.heap.size v cs → v.bulk ≤ 100000000 →
    Calls Tryd.prog 34 #[.agg cs.toArray] w fun e w' => (∃ cs', e = .returned (.agg (cs' : List Value).toArray) ∧ cs'.length = 6 ∧ FreshV w w' v cs') ∧ Below w.heap.size w w'

theorem RowL.more {w : World} {B B' : Nat} (h : B ≤ B') : ∀ {l : List Val} {ns : List Value}, RowL w B l ns → RowL w B' l ns
  | [], _, e => e
  | _ :: _, _, ⟨cs, rest, e, h1, h2⟩ => ⟨cs, rest, e, HoldsV.more h _ _ h1, RowL.more h h2⟩

theorem one_key (key : ByteArray) {cs : List Value} (h : ∀ u ∈ cs, u.oneCell' = true) : ∀ u ∈ Value.string key :: cs, u.oneCell' = true := by
  intro u hu
  rcases List.mem_cons.1 hu with rfl | hu
  · rfl
  · exact h u hu

theorem box_cells2 {w : World} {g : Nat} {a0 a1 a2 a3 a4 a5 : Value} (h : w.heap[g]? = some (.cells #[a0, a1, a2, a3, a4, a5] 26 (0, 0))) :
    w.cell? ⟨g, 0, none⟩ = some a0 ∧ w.cell? ⟨g, 1, none⟩ = some a1 ∧ w.cell? ⟨g, 2, none⟩ = some a2 ∧ w.cell? ⟨g, 3, none⟩ = some a3 ∧ w.cell? ⟨g, 4, none⟩ = some a4 ∧ w.cell? ⟨g, 5, none⟩ = some a5 := by
  refine ⟨?_, ?_, ?_, ?_, ?_, ?_⟩ <;> (rw [Lib.cell_of_heap h]; rfl)

/-- The same of members. -/
def RowO (w : World) (B : Nat) : List (ByteArray × Val) → List Value → Prop
  | [], ns => ns = []
  | (key, v) :: r, ns => ∃ cs rest, ns = .string key :: (cs ++ rest) ∧ HoldsV w B v cs ∧ RowO w B r rest
theorem RowO.more {w : World} {B B' : Nat} (h : B ≤ B') : ∀ {l : List (ByteArray × Val)} {ns : List Value}, RowO w B l ns → RowO w B' l ns
  | [], _, e => e
  | (_, _) :: _, _, ⟨cs, rest, e, h1, h2⟩ => ⟨cs, rest, e, HoldsV.more h _ _ h1, RowO.more h h2⟩
theorem RowO.holds {w : World} {B : Nat} {g : Nat} : ∀ {l : List (ByteArray × Val)} {ns : List Value} {off : Nat}, RowO w B l ns → (∀ j u, ns[j]? = some u → w.cell? ⟨g, off + j, none⟩ = some u) → HoldsO w B l g off
  | [], _, _, _, _ => by simp [HoldsO]
  | (key, v) :: r, ns, off, h, hc => by
    obtain ⟨cs, rest, rfl, h1, h2⟩ := h
    have hl := h1.len.1
    simp only [HoldsO, HoldsP]
    refine ⟨⟨hc 0 _ rfl, cs, h1, fun j u hu => ?_⟩, RowO.holds h2 (fun j u hu => ?_)⟩
    · have h3 := (List.getElem?_eq_some_iff.1 hu).1
      rw [show off + 1 + j = off + (j + 1) from by omega]
      refine hc (j + 1) u ?_
      rw [List.getElem?_cons_succ, List.getElem?_append_left h3]
      exact hu
    · rw [show off + 7 + j = off + (6 + j + 1) from by omega]
      refine hc (6 + j + 1) u ?_
      rw [List.getElem?_cons_succ, List.getElem?_append_right (by omega), hl, show 6 + j - 6 = j from by omega]
      exact hu
theorem RowO.snoc {w : World} {B : Nat} {key : ByteArray} {v : Val} {cs : List Value} (hv : HoldsV w B v cs) : ∀ {l : List (ByteArray × Val)} {ns : List Value}, RowO w B l ns → RowO w B (l ++ [(key, v)]) (ns ++ (.string key :: cs))
  | [], ns, h => by
    have : ns = [] := h
    subst this
    exact ⟨cs, [], by simp, hv, rfl⟩
  | (k', x) :: r, ns, h => by
    obtain ⟨c1, rest, rfl, h1, h2⟩ := h
    exact ⟨c1, rest ++ (.string key :: cs), by simp, h1, RowO.snoc hv h2⟩
theorem info_mem : (Tryd.prog.info? 44).map (fun i => (i.zero, i.size, i.bytes)) = some (some (.agg #[.string ⟨#[]⟩, .int .i64 0, .bool false, .int .i64 0, .string ⟨#[]⟩, .slice none 0 0, .slice none 0 0]), 7, 104) := by kernel_rfl

theorem setCell_far (w : World) (b i : Nat) (V : Value) {c : Nat} (h : c ≠ b) : (w.setCell ⟨b, i, none⟩ V).heap[c]? = w.heap[c]? := by
  simp only [World.setCell, Array.getElem?_modify]
  rw [if_neg (fun e => h e.symm)]


end Go.Proofs.YtjmkafbdmppfaaaDoor
