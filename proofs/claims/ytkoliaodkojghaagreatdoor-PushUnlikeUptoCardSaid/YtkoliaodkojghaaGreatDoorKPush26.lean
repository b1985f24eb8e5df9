/- Parts, joined: Every value's writer writes its text. Condition: a bulk of at most 10^9. encode.Text, encode.bytes. Condition: a bulk of at most 10^9. What may stand deep may stand higher; what is within a value that may be, may be. Plain. No condition. -/
import Derived.Test.YtkoliaodkojghaaGreatDoorProg
import Derived.Deep.RegionWith
import Derived.Test.YtkoliaodkojghaaGreatDoorKPush22
/- Every value's writer writes its text. Condition: a bulk of at most 10^9. -/
namespace Go.Proofs.YtkoliaodkojghaaGreatDoor
open Go.RowKit

theorem writes_all : ∀ v, WritesC v := by
  refine Val.ind ?_
  intro k b n t l o IHl IHo W B g p keeps acc cs k' b' n' t' l' o' hv h5 hT hH hp hpg hW hok hbk hlen
  injection hv with e1 e2 e3 e4 e5 e6
  subst e1 e2 e3 e4 e5 e6
  simp only [HoldsV] at hH
  obtain ⟨la, lc, oa, oc, rfl, hla, hoa⟩ := hH
  simp only [okV] at hok
  simp only [Val.bulk] at hbk hlen
  by_cases h2 : k = 2
  · subst h2; exact writes_bool W B g p keeps acc b _ _ _ _ _ hp hW (by omega)
  by_cases h3 : k = 3
  · subst h3; exact writes_int W B g p keeps acc n _ _ _ _ _ hp hT hok.2.1.1 hok.2.1.2 hpg hW (by omega)
  by_cases h4 : k = 4
  · subst h4; exact writes_text W B g p keeps acc t _ _ _ _ _ hp hT hok.1 (by omega) hpg hW (by omega)
  by_cases h5' : k = 5
  · subst h5'
    rcases hla with rfl | ⟨gl, off, rfl, hg, hL⟩
    · exact writes_list [] IHl W B g p h5 keeps acc la lc _ _ _ _ _ hp 0 0 (.inl rfl) hT hpg hW hok.2.2.1 (by omega) (by omega)
    · exact writes_list l IHl W B g p h5 keeps acc _ lc _ _ _ _ _ hp gl off (.inr ⟨rfl, hg, hL⟩) hT hpg hW hok.2.2.1 (by omega) (by omega)
  by_cases h6 : k = 6
  · subst h6
    rcases hoa with rfl | ⟨gl, off, rfl, hg, hL⟩
    · exact writes_object [] IHo W B g p h5 keeps acc oa oc _ _ _ _ _ hp 0 0 (.inl rfl) hT hpg hW hok.2.2.2 (by omega) (by omega)
    · exact writes_object o IHo W B g p h5 keeps acc _ oc _ _ _ _ _ hp gl off (.inr ⟨rfl, hg, hL⟩) hT hpg hW hok.2.2.2 (by omega) (by omega)
  · have ef : ownF k = 78 := by simp [ownF, h2, h3, h4, h5', h6]
    have ec : ownCaps k p = #[] := by simp [ownCaps, h2, h3, h4, h5', h6]
    have et : textV (.mk k b n t l o) = [110, 117, 108, 108] := by simp [textV, h2, h3, h4, h5', h6]
    rw [ef, ec, et]
    exact writes_null W B g keeps acc hW (by omega)

end Go.Proofs.YtkoliaodkojghaaGreatDoor

/- encode.Text, encode.bytes. Condition: a bulk of at most 10^9. -/
namespace Go.Proofs.YtkoliaodkojghaaGreatDoor
open Go.RowKit

theorem okL_of : ∀ (l : List Val), (∀ v ∈ l, ∀ d, mayV v d = 0 → inV v → okV v) → ∀ d, mayL l d = 0 → inL l → okL l
  | [], _, _, _, _ => by simp [okL]
  | v :: r, ih, d, h, hi => by
    simp only [mayL] at h
    simp only [inL] at hi
    simp only [okL]
    split at h
    · rename_i h0
      exact ⟨ih v (by simp) d h0 hi.1, okL_of r (fun x hx => ih x (by simp [hx])) d h hi.2⟩
    · rename_i h0
      exact absurd h h0
theorem okO_of : ∀ (l : List (ByteArray × Val)), (∀ m ∈ l, ∀ d, mayV m.2 d = 0 → inV m.2 → okV m.2) → ∀ last d, mayO l last d = 0 → inO l → okO l
  | [], _, _, _, _, _ => by simp [okO]
  | (key, v) :: r, ih, last, d, h, hi => by
    simp only [mayO] at h
    simp only [inO, inP] at hi
    simp only [okO, okP]
    split at h
    · rename_i h0
      refine ⟨?_, okO_of r (fun x hx => ih x (by simp [hx])) _ d h hi.2⟩
      simp only [mayP] at h0
      split at h0
      · rename_i hv
        refine ⟨hv, ?_⟩
        cases last with
        | none => exact ih (key, v) (by simp) d h0 hi.1
        | some q =>
          simp only at h0
          split at h0
          · cases h0
          · exact ih (key, v) (by simp) d h0 hi.1
      · cases h0
    · rename_i h0
      exact absurd h h0
theorem okV_of : ∀ v d, mayV v d = 0 → inV v → okV v := by
  refine Val.ind ?_
  intro k b n t l o hl ho d h hi
  simp only [mayV] at h
  simp only [inV] at hi
  simp only [okV]
  split at h
  · cases h
  split at h
  · cases h
  split at h
  · rename_i hv
    split at h
    · rename_i h0
      exact ⟨hv, hi.1, okL_of l hl _ h0 hi.2.1, okO_of o ho _ _ h hi.2.2⟩
    · rename_i h0
      exact absurd h h0
  · cases h

theorem itoa_ne (n : Int) : Lib.itoa n ≠ [] := by
  unfold Lib.itoa
  split
  · simp
  · intro h
    have := congrArg List.length h
    rw [Lib.decDigits_length] at this
    have h1 := Lib.nDigits_pos n.toNat
    simp at this
    omega

theorem textV_ne (v : Val) : textV v ≠ [] := by
  obtain ⟨k, b, n, t, l, o⟩ := v
  simp only [textV]
  split
  · cases b <;> decide
  split
  · intro h
    exact itoa_ne n h
  split
  · simp [quoteB]
  split
  · simp
  split
  · simp
  · simp

/-- A new writer. -/
theorem Wr_new (W : World) (B : Nat) (keeps : Bool) (h : B ≤ W.heap.size) : Wr (W.alloc (.cells #[.bool keeps, .pointer none, .slice none 0 0, .int .i64 0] 78)) B W.heap.size keeps [] :=
  ⟨.pointer none, .slice none 0 0, h, heap_alloc_new _ _, by decide, by simp, .inl rfl, .slice none 0 0, rfl, by cases keeps <;> exact World.ownsRow_nil _ _ _ _⟩

/-- A new writer, and what writes the value with it. -/
theorem writer_calls (k : Int) (b : Bool) (n : Int) (t : ByteArray) (l : List Val) (o : List (ByteArray × Val)) (la oa : Option Addr) (lc oc : Nat) (keeps : Bool) (w : World) (hT : Tabs w)
    (hV : HoldsV w w.heap.size (.mk k b n t l o) (cells6 k b n t la l.length lc oa o.length oc)) (hb : (Val.mk k b n t l o).bulk ≤ 1000000000) (hok : okV (.mk k b n t l o)) :
    Calls Tryz.prog (ownF k) (#[.pointer (some ⟨w.heap.size, 0, none⟩)] ++ ownCaps k (w.heap.size + 1))
      ((w.alloc (.cells #[.bool keeps, .pointer none, .slice none 0 0, .int .i64 0] 78)).alloc (.cells #[.int .i64 k, .bool b, .int .i64 n, .string t, .slice la l.length lc, .slice oa o.length oc] 45))
      fun e w' => e = .returned (.tuple #[]) ∧ Wr w' w.heap.size w.heap.size keeps (textV (.mk k b n t l o)) ∧ Below w.heap.size w w' := by
  have hw := writes_all (.mk k b n t l o)
  have h5 := hT.1
  have hWA : Wr (w.alloc (.cells #[.bool keeps, .pointer none, .slice none 0 0, .int .i64 0] 78)) w.heap.size w.heap.size keeps [] := Wr_new w _ keeps (Nat.le_refl _)
  obtain ⟨wA, hA⟩ : ∃ wA, w.alloc (.cells #[.bool keeps, .pointer none, .slice none 0 0, .int .i64 0] 78) = wA := ⟨_, rfl⟩
  have hAb : Below w.heap.size w wA := hA ▸ (Below.refl _ _).alloc (Nat.le_refl _) _
  have hAz : wA.heap.size = w.heap.size + 1 := by rw [← hA]; simp
  rw [hA] at hWA ⊢
  have hBb : Below wA.heap.size wA (wA.alloc (.cells #[.int .i64 k, .bool b, .int .i64 n, .string t, .slice la l.length lc, .slice oa o.length oc] 45)) := (Below.refl _ _).alloc (Nat.le_refl _) _
  have hAB : Below w.heap.size w (wA.alloc (.cells #[.int .i64 k, .bool b, .int .i64 n, .string t, .slice la l.length lc, .slice oa o.length oc] 45)) := hAb.trans (hBb.mono (by omega))
  have hc := hw _ w.heap.size w.heap.size wA.heap.size keeps [] _ k b n t l o rfl h5 (hT.below hAB) (hV.below hAB) (heap_alloc_new wA (.cells #[.int .i64 k, .bool b, .int .i64 n, .string t, .slice la l.length lc, .slice oa o.length oc] 45)) (by omega) (hWA.below hBb) hok hb (by simp; omega)
  rw [hAz, List.nil_append] at hc
  refine hc.mono ?_
  rintro e w' ⟨he, h1, h2, h3⟩
  exact ⟨he, h1, hAB.trans h2⟩

set_option maxHeartbeats 2000000 in
theorem bytes_calls (v : Val) (cs : List Value) (w : World) (hT : Tabs w) (hV : HoldsV w w.heap.size v cs) (hb : v.bulk ≤ 1000000000) (hok : okV v) :
    Calls Tryz.prog 92 #[.agg cs.toArray] w fun e w' => e = .returned (.int .i64 (textV v).length) ∧ Below w.heap.size w w' := by
  have hV' := hV
  obtain ⟨k, b, n, t, l, o⟩ := v
  simp only [HoldsV] at hV'
  obtain ⟨la, lc, oa, oc, rfl, _, _⟩ := hV'
  obtain ⟨w1, hw1⟩ : ∃ w1, w.alloc (.cells (cells6 k b n t la l.length lc oa o.length oc).toArray 45) = w1 := ⟨_, rfl⟩
  have hb1 : Below w.heap.size w w1 := hw1 ▸ (Below.refl _ _).alloc (Nat.le_refl _) _
  have hz1 : w1.heap.size = w.heap.size + 1 := by rw [← hw1]; simp
  have hc := writer_calls k b n t l o la oa lc oc false w1 (hT.below hb1) (HoldsV.more hb1.size _ _ (hV.below hb1)) hb hok
  have hown := fun w => own_calls k b n t la oa l.length lc o.length oc w
  rw [hz1] at hc
  generalize textV (.mk k b n t l o) = L at *
  have ent := enters_ownF
  have HC := Lib.hid hc
  have HO := Lib.hid hown
  have HAB := Lib.hid hb1
  subst hw1
  clear hc hown hV hb hok hT hz1 hb1
  go_enter Tryz.func92, Tryz.ntmps92
  go_wp2_with (first | (go_at_call 37; refine (HO.out _).mono ?_; rintro e w2 ⟨rfl, rfl⟩) | (go_at_fn (ownF k); refine (HC.out).mono ?_; rintro e w4 ⟨rfl, h6, h7⟩; have hW4 := h6; obtain ⟨pp, vv, hbld⟩ := hW4; have g3 : w4.cell? ⟨w.heap.size + 1, 3, none⟩ = some (.int .i64 (L.length : Int)) := by (rw [Lib.cell_of_heap hbld.2.1]; rfl)))
  go_ret
  exact ⟨rfl, HAB.out.trans (h7.mono (by simp))⟩

/-- A box that holds a value, cell by cell. -/
theorem box_cells {w : World} {g : Nat} {k : Int} {b : Bool} {n : Int} {t : ByteArray} {x y : Value} (h : w.heap[g]? = some (.cells #[.int .i64 k, .bool b, .int .i64 n, .string t, x, y] 45 (0, 0))) :
    w.cell? ⟨g, 0, none⟩ = some (.int .i64 k) ∧ w.cell? ⟨g, 1, none⟩ = some (.bool b) ∧ w.cell? ⟨g, 2, none⟩ = some (.int .i64 n) ∧ w.cell? ⟨g, 3, none⟩ = some (.string t) ∧ w.cell? ⟨g, 4, none⟩ = some x ∧ w.cell? ⟨g, 5, none⟩ = some y := by
  refine ⟨?_, ?_, ?_, ?_, ?_, ?_⟩ <;> (rw [Lib.cell_of_heap h]; rfl)

/-- A value's text, or none. -/
def textS (v : Val) : ByteArray := if mayV v 1 = 0 then ⟨(textV v).toArray⟩ else ⟨#[]⟩

set_option maxHeartbeats 2000000 in
theorem Text_calls (v : Val) (cs : List Value) (w : World) (hT : Tabs w) (hV : HoldsV w w.heap.size v cs) (hb : v.bulk ≤ 1000000000) (hi : inV v) :
    Calls Tryz.prog 18 #[.agg cs.toArray] w fun e w' => e = .returned (.tuple #[.string (textS v), .int .i64 (mayV v 1)]) ∧ Below w.heap.size w w' := by
  have hV' := hV
  obtain ⟨k, b, n, t, l, o⟩ := v
  simp only [HoldsV] at hV'
  obtain ⟨la, lc, oa, oc, rfl, _, _⟩ := hV'
  obtain ⟨w1, hw1⟩ : ∃ w1, w.alloc (.cells (cells6 k b n t la l.length lc oa o.length oc).toArray 45) = w1 := ⟨_, rfl⟩
  have hb1 : Below w.heap.size w w1 := hw1 ▸ (Below.refl _ _).alloc (Nat.le_refl _) _
  have hz1 : w1.heap.size = w.heap.size + 1 := by rw [← hw1]; simp
  have hbx : w1.heap[w.heap.size]? = some (.cells #[.int .i64 k, .bool b, .int .i64 n, .string t, .slice la l.length lc, .slice oa o.length oc] 45 (0, 0)) := by rw [← hw1]; exact heap_alloc_new _ _
  have hT1 := hT.below hb1
  have hV1 := HoldsV.more (hb1.size) _ _ (hV.below hb1)
  have hM := May_calls _ _ w1 hT1 hV1 hb
  have HX := Lib.hid hbx
  have HW := Lib.hid hb1
  by_cases hm : mayV (.mk k b n t l o) 1 = 0
  · have hok := okV_of _ 1 hm hi
    have hB := fun w' (h : Below w1.heap.size w1 w') => writer_calls k b n t l o la oa lc oc true w' (hT1.below h) (HoldsV.more h.size _ _ (hV1.below h)) hb hok
    have hne := textV_ne (.mk k b n t l o)
    have hown := fun w => own_calls k b n t la oa l.length lc o.length oc w
    unfold textS
    rw [hm] at hM ⊢
    rw [if_pos rfl]
    generalize textV (.mk k b n t l o) = L at hB hne ⊢
    have ent := enters_ownF
    have HO := Lib.hid hown
    have HB := Lib.hid hB
    have HM := Lib.hid hM
    have HZ := Lib.hid hz1
    clear hown hB hM hm hok hi hb hT hV hT1 hV1 hbx hb1 hz1
    subst hw1
    go_enter Tryz.func18, Tryz.ntmps18
    go_wp2_with (first | (go_at_call 36; refine (HM.out).mono ?_; rintro e w2 ⟨rfl, hb2⟩; have hz2 := hb2.size; rw [HZ.out] at hz2; have hlt2 : w.heap.size < w2.heap.size := (by omega); have hbox : w2.heap[w.heap.size]? = some (.cells #[.int .i64 k, .bool b, .int .i64 n, .string t, .slice la l.length lc, .slice oa o.length oc] 45 (0, 0)) := (hb2.block _ (by simp)).trans HX.out; obtain ⟨d0, d1, d2, d3, d4, d5⟩ := box_cells hbox) | (go_at_call 37; refine (HO.out _).mono ?_; rintro e w3 ⟨rfl, rfl⟩) | (go_at_fn (ownF k); refine (HB.out _ hb2).mono ?_; rintro e w4 ⟨rfl, h6, h7⟩; obtain ⟨pp, vv, hbld⟩ := h6) | (go_at_call 38; refine (String_calls _ _ _ _ _ _ _ hbld hne).mono ?_; rintro e w5 ⟨rfl, hb5, hk5⟩))
    go_ret2
    exact ⟨rfl, HW.out.trans ((hb2.trans ((h7.trans hb5).mono hb2.size)).mono (by simp))⟩
  · unfold textS
    rw [if_neg hm]
    have hmb : (mayV (.mk k b n t l o) 1 == 0) = false := by simpa using hm
    generalize mayV (.mk k b n t l o) 1 = m at *
    have HM := Lib.hid hM
    clear hM hm hi hb hT hV hT1 hV1 hbx hb1 hz1
    subst hw1
    go_enter Tryz.func18, Tryz.ntmps18
    go_wp2_with (go_at_call 36; refine (HM.out).mono ?_; rintro e w2 ⟨rfl, hb2⟩)
    go_ret2
    exact ⟨rfl, HW.out.trans (hb2.mono (by simp))⟩

end Go.Proofs.YtkoliaodkojghaaGreatDoor

/- What may stand deep may stand higher; what is within a value that may be, may be. Plain. No condition. -/
namespace Go.Proofs.YtkoliaodkojghaaGreatDoor
open Go.RowKit

theorem mayL_less : ∀ (l : List Val), (∀ v ∈ l, ∀ d d', d' ≤ d → mayV v d = 0 → mayV v d' = 0) → ∀ d d', d' ≤ d → mayL l d = 0 → mayL l d' = 0
  | [], _, _, _, _, _ => by simp [mayL]
  | v :: r, ih, d, d', h, hm => by
    simp only [mayL] at hm ⊢
    split at hm
    · rename_i h0
      rw [if_pos (ih v (by simp) d d' h h0)]
      exact mayL_less r (fun x hx => ih x (by simp [hx])) d d' h hm
    · rename_i h0
      exact absurd hm h0
theorem mayO_less : ∀ (l : List (ByteArray × Val)), (∀ m ∈ l, ∀ d d', d' ≤ d → mayV m.2 d = 0 → mayV m.2 d' = 0) → ∀ last d d', d' ≤ d → mayO l last d = 0 → mayO l last d' = 0
  | [], _, _, _, _, _, _ => by simp [mayO]
  | (key, v) :: r, ih, last, d, d', h, hm => by
    simp only [mayO] at hm ⊢
    split at hm
    · rename_i h0
      have h0' : mayP (key, v) last d' = 0 := by
        simp only [mayP] at h0 ⊢
        split at h0
        · rename_i hv
          rw [if_pos hv]
          cases last with
          | none => exact ih (key, v) (by simp) d d' h h0
          | some q =>
            simp only at h0 ⊢
            split at h0
            · cases h0
            · rename_i hq
              rw [if_neg hq]
              exact ih (key, v) (by simp) d d' h h0
        · cases h0
      rw [if_pos h0']
      exact mayO_less r (fun x hx => ih x (by simp [hx])) _ d d' h hm
    · rename_i h0
      exact absurd hm h0
theorem mayV_less : ∀ (v : Val) d d', d' ≤ d → mayV v d = 0 → mayV v d' = 0 := by
  refine Val.ind ?_
  intro k b n t l o hl ho d d' h hm
  simp only [mayV] at hm ⊢
  split at hm
  · cases hm
  rename_i h1
  split at hm
  · cases hm
  rename_i h2
  split at hm
  · rename_i hv
    rw [if_neg h1, if_neg (by omega), if_pos hv]
    split at hm
    · rename_i h0
      rw [if_pos (mayL_less l hl (d + 1) (d' + 1) (by omega) h0)]
      exact mayO_less o ho none (d + 1) (d' + 1) (by omega) hm
    · rename_i h0
      exact absurd hm h0
  · cases hm

theorem mayL_all : ∀ {l : List Val} {d : Int}, mayL l d = 0 → ∀ v ∈ l, mayV v d = 0
  | v :: r, d, h, x, hx => by
    simp only [mayL] at h
    split at h
    · rename_i h0
      rcases List.mem_cons.1 hx with rfl | hx
      · exact h0
      · exact mayL_all h x hx
    · rename_i h0
      exact absurd h h0
theorem mayO_all : ∀ {l : List (ByteArray × Val)} {last : Option ByteArray} {d : Int}, mayO l last d = 0 → ∀ m ∈ l, validB m.1 = true ∧ mayV m.2 d = 0
  | (key, v) :: r, last, d, h, x, hx => by
    simp only [mayO] at h
    split at h
    · rename_i h0
      rcases List.mem_cons.1 hx with rfl | hx
      · simp only [mayP] at h0
        split at h0
        · rename_i hv
          refine ⟨hv, ?_⟩
          cases last with
          | none => exact h0
          | some q =>
            simp only at h0
            split at h0
            · cases h0
            · exact h0
        · cases h0
      · exact mayO_all h x hx
    · rename_i h0
      exact absurd h h0

/-- What may be at all: its parts. -/
theorem mayV_parts {k : Int} {b : Bool} {n : Int} {t : ByteArray} {l : List Val} {o : List (ByteArray × Val)} {d : Int} (h : mayV (.mk k b n t l o) d = 0) :
    oddB k b n t l.length o.length = false ∧ d ≤ 64 ∧ validB t = true ∧ mayL l (d + 1) = 0 ∧ mayO o none (d + 1) = 0 := by
  simp only [mayV] at h
  split at h
  · cases h
  rename_i h1
  split at h
  · cases h
  split at h
  · rename_i hv
    split at h
    · rename_i h0
      exact ⟨by simpa using h1, by omega, hv, h0, h⟩
    · rename_i h0
      exact absurd h h0
  · cases h

theorem inL_mem {l : List Val} (h : inL l) {x : Val} (hx : x ∈ l) : inV x := by
  induction l with
  | nil => cases hx
  | cons y r ih =>
    simp only [inL] at h
    rcases List.mem_cons.1 hx with rfl | hx
    · exact h.1
    · exact ih h.2 hx
theorem inO_mem {l : List (ByteArray × Val)} (h : inO l) {x : ByteArray × Val} (hx : x ∈ l) : inV x.2 := by
  induction l with
  | nil => cases hx
  | cons y r ih =>
    obtain ⟨key, v⟩ := y
    simp only [inO, inP] at h
    rcases List.mem_cons.1 hx with rfl | hx
    · exact h.1
    · exact ih h.2 hx

theorem textL_app : ∀ (a b : List Val) (f : Bool), textL (a ++ b) f = textL a f ++ textL b (f && a.isEmpty)
  | [], b, f => by simp [textL]
  | x :: r, b, f => by simp only [List.cons_append, textL, textL_app r b false]; simp
theorem textL_take_len (l : List Val) (k : Nat) (f : Bool) : (textL (l.take k) f).length ≤ (textL l f).length := by
  have := textL_app (l.take k) (l.drop k) f
  rw [List.take_append_drop] at this
  rw [this]
  simp
theorem textO_app : ∀ (a b : List (ByteArray × Val)) (f : Bool), textO (a ++ b) f = textO a f ++ textO b (f && a.isEmpty)
  | [], b, f => by simp [textO]
  | x :: r, b, f => by simp only [List.cons_append, textO, textO_app r b false]; simp
theorem textO_take_len (l : List (ByteArray × Val)) (k : Nat) (f : Bool) : (textO (l.take k) f).length ≤ (textO l f).length := by
  have := textO_app (l.take k) (l.drop k) f
  rw [List.take_append_drop] at this
  rw [this]
  simp

theorem size_list (s : ByteArray) : s.data.toList.length = s.size := by rw [Array.length_toList]; rfl
theorem size_mk (l : List UInt8) : (⟨l.toArray⟩ : ByteArray).size = l.length := rfl

end Go.Proofs.YtkoliaodkojghaaGreatDoor
