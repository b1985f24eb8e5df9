/- What may stand deep may stand higher; what is within a value that may be, may be. Plain. No condition. -/
import Derived.Test.YtjmkafbdmppfaaaDoorProg
import Derived.Test.YtjmkafbdmppfaaaDoorText
namespace Go.Proofs.YtjmkafbdmppfaaaDoor
open Go.RowKit

theorem mayL_less : ∀ (l : List Val), (∀ v ∈ l, ∀ d d', d' ≤ d → mayV v d = 0 → mayV v d' = 0) → ∀ d d', d' ≤ d → mayL l d = 0 → mayL l d' = 0
  | [], _, _, _, _, _ => by simp [mayL]
  | v :: r, ih, d, d', h, hm => by
    simp only [mayL] at hm ⊢
    split at hm
    · rename_i h0
      rw [if_pos (ih v (by simp) d d' h h0)]
      exact mayL_less r (fun x hx => ih x (by simp [hx])) d d' h hm
    · rename_i h0
      exact absurd hm h0
theorem mayO_less : ∀ (l : List (ByteArray × Val)), (∀ m ∈ l, ∀ d d', d' ≤ d → mayV m.2 d = 0 → mayV m.2 d' = 0) → ∀ last d d', d' ≤ d → mayO l last d = 0 → mayO l last d' = 0
  | [], _, _, _, _, _, _ => by simp [mayO]
  | (key, v) :: r, ih, last, d, d', h, hm => by
    simp only [mayO] at hm ⊢
    split at hm
    · rename_i h0
      have h0' : mayP (key, v) last d' = 0 := by
        simp only [mayP] at h0 ⊢
        split at h0
        · rename_i hv
          rw [if_pos hv]
          cases last with
          | none => exact ih (key, v) (by simp) d d' h h0
          | some q =>
            simp only at h0 ⊢
            split at h0
            · cases h0
            · rename_i hq
              rw [if_neg hq]
              exact ih (key, v) (by simp) d d' h h0
        · cases h0
      rw [if_pos h0']
      exact mayO_less r (fun x hx => ih x (by simp [hx])) _ d d' h hm
    · rename_i h0
      exact absurd hm h0
theorem mayV_less : ∀ (v : Val) d d', d' ≤ d → mayV v d = 0 → mayV v d' = 0 := by
  refine Val.ind ?_
  intro k b n t l o hl ho d d' h hm
  simp only [mayV] at hm ⊢
  split at hm
  · cases hm
  rename_i h1
  split at hm
  · cases hm
  rename_i h2
  split at hm
  · rename_i hv
    rw [if_neg h1, if_neg (by omega), if_pos hv]
    split at hm
    · rename_i h0
      rw [if_pos (mayL_less l hl (d + 1) (d' + 1) (by omega) h0)]
      exact mayO_less o ho none (d + 1) (d' + 1) (by omega) hm
    · rename_i h0
      exact absurd hm h0
  · cases hm

theorem mayL_all : ∀ {l : List Val} {d : Int}, mayL l d = 0 → ∀ v ∈ l, mayV v d = 0
  | v :: r, d, h, x, hx => by
    simp only [mayL] at h
    split at h
    · rename_i h0
      rcases List.mem_cons.1 hx with rfl | hx
      · exact h0
      · exact mayL_all h x hx
    · rename_i h0
      exact absurd h h0
theorem mayO_all : ∀ {l : List (ByteArray × Val)} {last : Option ByteArray} {d : Int}, mayO l last d = 0 → ∀ m ∈ l, validB m.1 = true ∧ mayV m.2 d = 0
  | (key, v) :: r, last, d, h, x, hx => by
    simp only [mayO] at h
    split at h
    · rename_i h0
      rcases List.mem_cons.1 hx with rfl | hx
      · simp only [mayP] at h0
        split at h0
        · rename_i hv
          refine ⟨hv, ?_⟩
          cases last with
          | none => exact h0
          | some q =>
            simp only at h0
            split at h0
            · cases h0
            · exact h0
        · cases h0
      · exact mayO_all h x hx
    · rename_i h0
      exact absurd h h0

/-- What may be at all: its parts. -/
theorem mayV_parts {k : Int} {b : Bool} {n : Int} {t : ByteArray} {l : List Val} {o : List (ByteArray × Val)} {d : Int} (h : mayV (.mk k b n t l o) d = 0) :
    oddB k b n t l.length o.length = false ∧ d ≤ 64 ∧ validB t = true ∧ mayL l (d + 1) = 0 ∧ mayO o none (d + 1) = 0 := by
  simp only [mayV] at h
  split at h
  · cases h
  rename_i h1
  split at h
  · cases h
  split at h
  · rename_i hv
    split at h
    · rename_i h0
      exact ⟨by simpa using h1, by omega, hv, h0, h⟩
    · rename_i h0
      exact absurd h h0
  · cases h

theorem inL_mem {l : List Val} (h : inL l) {x : Val} (hx : x ∈ l) : inV x := by
  induction l with
  | nil => cases hx
  | cons y r ih =>
    simp only [inL] at h
    rcases List.mem_cons.1 hx with rfl | hx
    · exact h.1
    · exact ih h.2 hx
theorem inO_mem {l : List (ByteArray × Val)} (h : inO l) {x : ByteArray × Val} (hx : x ∈ l) : inV x.2 := by
  induction l with
  | nil => cases hx
  | cons y r ih =>
    obtain ⟨key, v⟩ := y
    simp only [inO, inP] at h
    rcases List.mem_cons.1 hx with rfl | hx
    · exact h.1
    · exact ih h.2 hx

theorem textL_app : ∀ (a b : List Val) (f : Bool), textL (a ++ b) f = textL a f ++ textL b (f && a.isEmpty)
  | [], b, f => by simp [textL]
  | x :: r, b, f => by simp only [List.cons_append, textL, textL_app r b false]; simp
theorem textL_take_len (l : List Val) (k : Nat) (f : Bool) : (textL (l.take k) f).length ≤ (textL l f).length := by
  have := textL_app (l.take k) (l.drop k) f
  rw [List.take_append_drop] at this
  rw [this]
  simp
theorem textO_app : ∀ (a b : List (ByteArray × Val)) (f : Bool), textO (a ++ b) f = textO a f ++ textO b (f && a.isEmpty)
  | [], b, f => by simp [textO]
  | x :: r, b, f => by simp only [List.cons_append, textO, textO_app r b false]; simp
theorem textO_take_len (l : List (ByteArray × Val)) (k : Nat) (f : Bool) : (textO (l.take k) f).length ≤ (textO l f).length := by
  have := textO_app (l.take k) (l.drop k) f
  rw [List.take_append_drop] at this
  rw [this]
  simp

theorem size_list (s : ByteArray) : s.data.toList.length = s.size := by rw [Array.length_toList]; rfl
theorem size_mk (l : List UInt8) : (⟨l.toArray⟩ : ByteArray).size = l.length := rfl

end Go.Proofs.YtjmkafbdmppfaaaDoor
