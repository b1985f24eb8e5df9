/- Every value's writer writes its text. Condition: a bulk of at most 10^9. -/
import Derived.Test.YtjmkafbdmppfaaaDoorProg
import Derived.Test.YtjmkafbdmppfaaaDoorObj
namespace Go.Proofs.YtjmkafbdmppfaaaDoor
open Go.RowKit

theorem writes_all : ∀ v, WritesC v := by
  refine Val.ind ?_
  intro k b n t l o IHl IHo W B g p keeps acc cs k' b' n' t' l' o' hv h5 hT hH hp hpg hW hok hbk hlen
  injection hv with e1 e2 e3 e4 e5 e6
  subst e1 e2 e3 e4 e5 e6
  simp only [HoldsV] at hH
  obtain ⟨la, lc, oa, oc, rfl, hla, hoa⟩ := hH
  simp only [okV] at hok
  simp only [Val.bulk] at hbk hlen
  by_cases h2 : k = 2
  · subst h2; exact writes_bool W B g p keeps acc b _ _ _ _ _ hp hW (by omega)
  by_cases h3 : k = 3
  · subst h3; exact writes_int W B g p keeps acc n _ _ _ _ _ hp hT hok.2.1.1 hok.2.1.2 hpg hW (by omega)
  by_cases h4 : k = 4
  · subst h4; exact writes_text W B g p keeps acc t _ _ _ _ _ hp hT hok.1 (by omega) hpg hW (by omega)
  by_cases h5' : k = 5
  · subst h5'
    rcases hla with rfl | ⟨gl, off, rfl, hg, hL⟩
    · exact writes_list [] IHl W B g p h5 keeps acc la lc _ _ _ _ _ hp 0 0 (.inl rfl) hT hpg hW hok.2.2.1 (by omega) (by omega)
    · exact writes_list l IHl W B g p h5 keeps acc _ lc _ _ _ _ _ hp gl off (.inr ⟨rfl, hg, hL⟩) hT hpg hW hok.2.2.1 (by omega) (by omega)
  by_cases h6 : k = 6
  · subst h6
    rcases hoa with rfl | ⟨gl, off, rfl, hg, hL⟩
    · exact writes_object [] IHo W B g p h5 keeps acc oa oc _ _ _ _ _ hp 0 0 (.inl rfl) hT hpg hW hok.2.2.2 (by omega) (by omega)
    · exact writes_object o IHo W B g p h5 keeps acc _ oc _ _ _ _ _ hp gl off (.inr ⟨rfl, hg, hL⟩) hT hpg hW hok.2.2.2 (by omega) (by omega)
  · have ef : ownF k = 56 := by simp [ownF, h2, h3, h4, h5', h6]
    have ec : ownCaps k p = #[] := by simp [ownCaps, h2, h3, h4, h5', h6]
    have et : textV (.mk k b n t l o) = [110, 117, 108, 108] := by simp [textV, h2, h3, h4, h5', h6]
    rw [ef, ec, et]
    exact writes_null W B g keeps acc hW (by omega)

end Go.Proofs.YtjmkafbdmppfaaaDoor
