/- Rows of values, cell by cell. No condition. -/
import Derived.Test.YtjmkafbdmppfaaaDoorProg
import Derived.Test.YtjmkafbdmppfaaaDoorBase
import Derived.Laws.AppendOwn
namespace Go.Proofs.YtjmkafbdmppfaaaDoor
open Go.RowKit

/-- These cells are those of these values, one behind the other. -/
def RowL (w : World) (B : Nat) : List Val → List Value → Prop
  | [], ns => ns = []
  | v :: r, ns => ∃ cs rest, ns = cs ++ rest ∧ HoldsV w B v cs ∧ RowL w B r rest

theorem HoldsV.len {w : World} {B : Nat} {v : Val} {cs : List Value} (h : HoldsV w B v cs) : cs.length = 6 ∧ ∀ u ∈ cs, u.oneCell' = true := by
  obtain ⟨k, b, n, t, l, o⟩ := v
  simp only [HoldsV] at h
  obtain ⟨la, lc, oa, oc, rfl, _, _⟩ := h
  refine ⟨rfl, fun u hu => ?_⟩
  simp only [List.mem_cons, List.not_mem_nil, or_false] at hu
  rcases hu with rfl | rfl | rfl | rfl | rfl | rfl <;> rfl
theorem RowL.len {w : World} {B : Nat} : ∀ {l : List Val} {ns : List Value}, RowL w B l ns → ns.length = l.length * 6 ∧ ∀ u ∈ ns, u.oneCell' = true
  | [], ns, h => by
    have : ns = [] := h
    subst this
    exact ⟨rfl, fun u hu => by cases hu⟩
  | v :: r, ns, h => by
    obtain ⟨cs, rest, rfl, h1, h2⟩ := h
    obtain ⟨a1, a2⟩ := h1.len
    obtain ⟨b1, b2⟩ := RowL.len h2
    refine ⟨by rw [List.length_append, a1, b1, List.length_cons]; omega, fun u hu => ?_⟩
    rcases List.mem_append.1 hu with hu | hu
    · exact a2 u hu
    · exact b2 u hu
theorem HoldsL.row {w : World} {B : Nat} : ∀ {l : List Val} {g off : Nat}, HoldsL w B l g off → ∃ ns, RowL w B l ns ∧ ∀ j u, ns[j]? = some u → w.cell? ⟨g, off + j, none⟩ = some u
  | [], _, _, _ => ⟨[], rfl, fun j u h => by simp at h⟩
  | v :: r, g, off, h => by
    simp only [HoldsL] at h
    obtain ⟨⟨cs, h1, h2⟩, h3⟩ := h
    obtain ⟨ns, h4, h5⟩ := HoldsL.row h3
    refine ⟨cs ++ ns, ⟨cs, ns, rfl, h1, h4⟩, fun j u hu => ?_⟩
    have hl := h1.len.1
    by_cases hj : j < 6
    · rw [List.getElem?_append_left (by omega)] at hu
      exact h2 j u hu
    · rw [List.getElem?_append_right (by omega), hl] at hu
      have := h5 (j - 6) u hu
      rwa [show off + 6 + (j - 6) = off + j from by omega] at this
theorem RowL.holds {w w' : World} {B B' : Nat} (hk : ∀ v cs, HoldsV w B v cs → HoldsV w' B' v cs) {g : Nat} : ∀ {l : List Val} {ns : List Value} {off : Nat}, RowL w B l ns → (∀ j u, ns[j]? = some u → w'.cell? ⟨g, off + j, none⟩ = some u) → HoldsL w' B' l g off
  | [], _, _, _, _ => by simp [HoldsL]
  | v :: r, ns, off, h, hc => by
    obtain ⟨cs, rest, rfl, h1, h2⟩ := h
    have hl := h1.len.1
    simp only [HoldsL]
    refine ⟨⟨cs, hk v cs h1, fun j u hu => hc j u ?_⟩, RowL.holds hk h2 (fun j u hu => ?_)⟩
    · have := (List.getElem?_eq_some_iff.1 hu).1
      rw [List.getElem?_append_left this]
      exact hu
    · rw [show off + 6 + j = off + (6 + j) from by omega]
      refine hc (6 + j) u ?_
      rw [List.getElem?_append_right (by omega), hl, show 6 + j - 6 = j from by omega]
      exact hu
theorem RowL.snoc {w : World} {B : Nat} {v : Val} {cs : List Value} (hv : HoldsV w B v cs) : ∀ {l : List Val} {ns : List Value}, RowL w B l ns → RowL w B (l ++ [v]) (ns ++ cs)
  | [], ns, h => by
    have : ns = [] := h
    subst this
    exact ⟨cs, [], by simp, hv, rfl⟩
  | x :: r, ns, h => by
    obtain ⟨c1, rest, rfl, h1, h2⟩ := h
    exact ⟨c1, rest ++ cs, by simp, h1, RowL.snoc hv h2⟩

/-- The values at once within one. -/
def within : Val → List Val
  | .mk k _ _ _ l o => if k = 5 then l else if k = 6 then o.map (·.2) else []

end Go.Proofs.YtjmkafbdmppfaaaDoor
