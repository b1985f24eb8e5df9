/- encode.Text, encode.bytes, encode.Bytes. Condition: a bulk of at most 10^9. -/
import Derived.Test.YtjmkafbdmppfaaaDoorProg
import Derived.Test.YtjmkafbdmppfaaaDoorWr
import Derived.Deep.RegionWith
namespace Go.Proofs.YtjmkafbdmppfaaaDoor
open Go.RowKit

theorem okL_of : ∀ (l : List Val), (∀ v ∈ l, ∀ d, mayV v d = 0 → inV v → okV v) → ∀ d, mayL l d = 0 → inL l → okL l
  | [], _, _, _, _ => by simp [okL]
  | v :: r, ih, d, h, hi => by
    simp only [mayL] at h
    simp only [inL] at hi
    simp only [okL]
    split at h
    · rename_i h0
      exact ⟨ih v (by simp) d h0 hi.1, okL_of r (fun x hx => ih x (by simp [hx])) d h hi.2⟩
    · rename_i h0
      exact absurd h h0
theorem okO_of : ∀ (l : List (ByteArray × Val)), (∀ m ∈ l, ∀ d, mayV m.2 d = 0 → inV m.2 → okV m.2) → ∀ last d, mayO l last d = 0 → inO l → okO l
  | [], _, _, _, _, _ => by simp [okO]
  | (key, v) :: r, ih, last, d, h, hi => by
    simp only [mayO] at h
    simp only [inO, inP] at hi
    simp only [okO, okP]
    split at h
    · rename_i h0
      refine ⟨?_, okO_of r (fun x hx => ih x (by simp [hx])) _ d h hi.2⟩
      simp only [mayP] at h0
      split at h0
      · rename_i hv
        refine ⟨hv, ?_⟩
        cases last with
        | none => exact ih (key, v) (by simp) d h0 hi.1
        | some q =>
          simp only at h0
          split at h0
          · cases h0
          · exact ih (key, v) (by simp) d h0 hi.1
      · cases h0
    · rename_i h0
      exact absurd h h0
theorem okV_of : ∀ v d, mayV v d = 0 → inV v → okV v := by
  refine Val.ind ?_
  intro k b n t l o hl ho d h hi
  simp only [mayV] at h
  simp only [inV] at hi
  simp only [okV]
  split at h
  · cases h
  split at h
  · cases h
  split at h
  · rename_i hv
    split at h
    · rename_i h0
      exact ⟨hv, hi.1, okL_of l hl _ h0 hi.2.1, okO_of o ho _ _ h hi.2.2⟩
    · rename_i h0
      exact absurd h h0
  · cases h

theorem itoa_ne (n : Int) : Lib.itoa n ≠ [] := by
  unfold Lib.itoa
  split
  · simp
  · intro h
    have := congrArg List.length h
    rw [Lib.decDigits_length] at this
    have h1 := Lib.nDigits_pos n.toNat
    simp at this
    omega

theorem textV_ne (v : Val) : textV v ≠ [] := by
  obtain ⟨k, b, n, t, l, o⟩ := v
  simp only [textV]
  split
  · cases b <;> decide
  split
  · intro h
    exact itoa_ne n h
  split
  · simp [quoteB]
  split
  · simp
  split
  · simp
  · simp

/-- A new writer. -/
theorem Wr_new (W : World) (B : Nat) (keeps : Bool) (h : B ≤ W.heap.size) : Wr (W.alloc (.cells #[.bool keeps, .pointer none, .slice none 0 0, .int .i64 0] 56)) B W.heap.size keeps [] :=
  ⟨.pointer none, .slice none 0 0, h, heap_alloc_new _ _, by decide, by simp, .inl rfl, .slice none 0 0, rfl, by cases keeps <;> exact World.ownsRow_nil _ _ _ _⟩

/-- A new writer, and what writes the value with it. -/
theorem writer_calls (k : Int) (b : Bool) (n : Int) (t : ByteArray) (l : List Val) (o : List (ByteArray × Val)) (la oa : Option Addr) (lc oc : Nat) (keeps : Bool) (w : World) (hT : Tabs w)
    (hV : HoldsV w w.heap.size (.mk k b n t l o) (cells6 k b n t la l.length lc oa o.length oc)) (hb : (Val.mk k b n t l o).bulk ≤ 1000000000) (hok : okV (.mk k b n t l o)) :
    Calls Tryd.prog (ownF k) (#[.pointer (some ⟨w.heap.size, 0, none⟩)] ++ ownCaps k (w.heap.size + 1))
      ((w.alloc (.cells #[.bool keeps, .pointer none, .slice none 0 0, .int .i64 0] 56)).alloc (.cells #[.int .i64 k, .bool b, .int .i64 n, .string t, .slice la l.length lc, .slice oa o.length oc] 26))
      fun e w' => e = .returned (.tuple #[]) ∧ Wr w' w.heap.size w.heap.size keeps (textV (.mk k b n t l o)) ∧ Below w.heap.size w w' := by
  have hw := writes_all (.mk k b n t l o)
  have h5 := hT.1
  have hWA : Wr (w.alloc (.cells #[.bool keeps, .pointer none, .slice none 0 0, .int .i64 0] 56)) w.heap.size w.heap.size keeps [] := Wr_new w _ keeps (Nat.le_refl _)
  obtain ⟨wA, hA⟩ : ∃ wA, w.alloc (.cells #[.bool keeps, .pointer none, .slice none 0 0, .int .i64 0] 56) = wA := ⟨_, rfl⟩
  have hAb : Below w.heap.size w wA := hA ▸ (Below.refl _ _).alloc (Nat.le_refl _) _
  have hAz : wA.heap.size = w.heap.size + 1 := by rw [← hA]; simp
  rw [hA] at hWA ⊢
  have hBb : Below wA.heap.size wA (wA.alloc (.cells #[.int .i64 k, .bool b, .int .i64 n, .string t, .slice la l.length lc, .slice oa o.length oc] 26)) := (Below.refl _ _).alloc (Nat.le_refl _) _
  have hAB : Below w.heap.size w (wA.alloc (.cells #[.int .i64 k, .bool b, .int .i64 n, .string t, .slice la l.length lc, .slice oa o.length oc] 26)) := hAb.trans (hBb.mono (by omega))
  have hc := hw _ w.heap.size w.heap.size wA.heap.size keeps [] _ k b n t l o rfl h5 (hT.below hAB) (hV.below hAB) (heap_alloc_new wA (.cells #[.int .i64 k, .bool b, .int .i64 n, .string t, .slice la l.length lc, .slice oa o.length oc] 26)) (by omega) (hWA.below hBb) hok hb (by simp; omega)
  rw [hAz, List.nil_append] at hc
  refine hc.mono ?_
  rintro e w' ⟨he, h1, h2, h3⟩
  exact ⟨he, h1, hAB.trans h2⟩

set_option maxHeartbeats 2000000 in
theorem bytes_calls (v : Val) (cs : List Value) (w : World) (hT : Tabs w) (hV : HoldsV w w.heap.size v cs) (hb : v.bulk ≤ 1000000000) (hok : okV v) :
    Calls Tryd.prog 27 #[.agg cs.toArray] w fun e w' => e = .returned (.int .i64 (textV v).length) ∧ Below w.heap.size w w' := by
  have hV' := hV
  obtain ⟨k, b, n, t, l, o⟩ := v
  simp only [HoldsV] at hV'
  obtain ⟨la, lc, oa, oc, rfl, _, _⟩ := hV'
  obtain ⟨w1, hw1⟩ : ∃ w1, w.alloc (.cells (cells6 k b n t la l.length lc oa o.length oc).toArray 26) = w1 := ⟨_, rfl⟩
  have hb1 : Below w.heap.size w w1 := hw1 ▸ (Below.refl _ _).alloc (Nat.le_refl _) _
  have hz1 : w1.heap.size = w.heap.size + 1 := by rw [← hw1]; simp
  have hc := writer_calls k b n t l o la oa lc oc false w1 (hT.below hb1) (HoldsV.more hb1.size _ _ (hV.below hb1)) hb hok
  have hown := fun w => own_calls k b n t la oa l.length lc o.length oc w
  rw [hz1] at hc
  generalize textV (.mk k b n t l o) = L at *
  have ent := enters_ownF
  have HC := Lib.hid hc
  have HO := Lib.hid hown
  have HAB := Lib.hid hb1
  subst hw1
  clear hc hown hV hb hok hT hz1 hb1
  go_enter Tryd.func27, Tryd.ntmps27
  go_wp2_with (first | (go_at_call 25; refine (HO.out _).mono ?_; rintro e w2 ⟨rfl, rfl⟩) | (go_at_fn (ownF k); refine (HC.out).mono ?_; rintro e w4 ⟨rfl, h6, h7⟩; have hW4 := h6; obtain ⟨pp, vv, hbld⟩ := hW4; have g3 : w4.cell? ⟨w.heap.size + 1, 3, none⟩ = some (.int .i64 (L.length : Int)) := by (rw [Lib.cell_of_heap hbld.2.1]; rfl)))
  go_ret
  exact ⟨rfl, HAB.out.trans (h7.mono (by simp))⟩

/-- A box that holds a value, cell by cell. -/
theorem box_cells {w : World} {g : Nat} {k : Int} {b : Bool} {n : Int} {t : ByteArray} {x y : Value} (h : w.heap[g]? = some (.cells #[.int .i64 k, .bool b, .int .i64 n, .string t, x, y] 26 (0, 0))) :
    w.cell? ⟨g, 0, none⟩ = some (.int .i64 k) ∧ w.cell? ⟨g, 1, none⟩ = some (.bool b) ∧ w.cell? ⟨g, 2, none⟩ = some (.int .i64 n) ∧ w.cell? ⟨g, 3, none⟩ = some (.string t) ∧ w.cell? ⟨g, 4, none⟩ = some x ∧ w.cell? ⟨g, 5, none⟩ = some y := by
  refine ⟨?_, ?_, ?_, ?_, ?_, ?_⟩ <;> (rw [Lib.cell_of_heap h]; rfl)

set_option maxHeartbeats 2000000 in
theorem Bytes_calls (v : Val) (cs : List Value) (w : World) (hT : Tabs w) (hV : HoldsV w w.heap.size v cs) (hb : v.bulk ≤ 1000000000) (hi : inV v) :
    Calls Tryd.prog 12 #[.agg cs.toArray] w fun e w' => e = .returned (.tuple #[.int .i64 (if mayV v 1 = 0 then ((textV v).length : Int) else 0), .int .i64 (mayV v 1)]) ∧ Below w.heap.size w w' := by
  have hV' := hV
  obtain ⟨k, b, n, t, l, o⟩ := v
  simp only [HoldsV] at hV'
  obtain ⟨la, lc, oa, oc, rfl, _, _⟩ := hV'
  obtain ⟨w1, hw1⟩ : ∃ w1, w.alloc (.cells (cells6 k b n t la l.length lc oa o.length oc).toArray 26) = w1 := ⟨_, rfl⟩
  have hb1 : Below w.heap.size w w1 := hw1 ▸ (Below.refl _ _).alloc (Nat.le_refl _) _
  have hz1 : w1.heap.size = w.heap.size + 1 := by rw [← hw1]; simp
  have hbx : w1.heap[w.heap.size]? = some (.cells #[.int .i64 k, .bool b, .int .i64 n, .string t, .slice la l.length lc, .slice oa o.length oc] 26 (0, 0)) := by rw [← hw1]; exact heap_alloc_new _ _
  have hT1 := hT.below hb1
  have hV1 := HoldsV.more (hb1.size) _ _ (hV.below hb1)
  have hM := May_calls _ _ w1 hT1 hV1 hb
  have HX := Lib.hid hbx
  have HW := Lib.hid hb1
  by_cases hm : mayV (.mk k b n t l o) 1 = 0
  · have hok := okV_of _ 1 hm hi
    have hB := fun w' (h : Below w1.heap.size w1 w') => bytes_calls _ _ w' (hT1.below h) (HoldsV.more h.size _ _ (hV1.below h)) hb hok
    rw [hm] at hM ⊢
    rw [if_pos rfl]
    generalize ((textV (.mk k b n t l o)).length : Int) = L at hB ⊢
    have HB := Lib.hid hB
    have HM := Lib.hid hM
    have HZ := Lib.hid hz1
    clear hB hM hm hok hi hb hT hV hT1 hV1 hbx hb1 hz1
    subst hw1
    go_enter Tryd.func12, Tryd.ntmps12
    go_wp2_with (first | (go_at_call 24; refine (HM.out).mono ?_; rintro e w2 ⟨rfl, hb2⟩; have hbox : w2.heap[w.heap.size]? = some (.cells #[.int .i64 k, .bool b, .int .i64 n, .string t, .slice la l.length lc, .slice oa o.length oc] 26 (0, 0)) := (hb2.block _ (by simp)).trans HX.out; obtain ⟨d0, d1, d2, d3, d4, d5⟩ := box_cells hbox) | (go_at_call 27; refine (HB.out _ hb2).mono ?_; rintro e w3 ⟨rfl, hb3⟩))
    go_ret2
    exact ⟨rfl, HW.out.trans ((hb2.trans (hb3.mono hb2.size)).mono (by simp))⟩
  · rw [if_neg hm]
    have hmb : (mayV (.mk k b n t l o) 1 == 0) = false := by simpa using hm
    generalize mayV (.mk k b n t l o) 1 = m at *
    have HM := Lib.hid hM
    clear hM hm hi hb hT hV hT1 hV1 hbx hb1 hz1
    subst hw1
    go_enter Tryd.func12, Tryd.ntmps12
    go_wp2_with (go_at_call 24; refine (HM.out).mono ?_; rintro e w2 ⟨rfl, hb2⟩)
    go_ret2
    exact ⟨rfl, HW.out.trans (hb2.mono (by simp))⟩

/-- A value's text, or none. -/
def textS (v : Val) : ByteArray := if mayV v 1 = 0 then ⟨(textV v).toArray⟩ else ⟨#[]⟩

set_option maxHeartbeats 2000000 in
theorem Text_calls (v : Val) (cs : List Value) (w : World) (hT : Tabs w) (hV : HoldsV w w.heap.size v cs) (hb : v.bulk ≤ 1000000000) (hi : inV v) :
    Calls Tryd.prog 11 #[.agg cs.toArray] w fun e w' => e = .returned (.tuple #[.string (textS v), .int .i64 (mayV v 1)]) ∧ Below w.heap.size w w' := by
  have hV' := hV
  obtain ⟨k, b, n, t, l, o⟩ := v
  simp only [HoldsV] at hV'
  obtain ⟨la, lc, oa, oc, rfl, _, _⟩ := hV'
  obtain ⟨w1, hw1⟩ : ∃ w1, w.alloc (.cells (cells6 k b n t la l.length lc oa o.length oc).toArray 26) = w1 := ⟨_, rfl⟩
  have hb1 : Below w.heap.size w w1 := hw1 ▸ (Below.refl _ _).alloc (Nat.le_refl _) _
  have hz1 : w1.heap.size = w.heap.size + 1 := by rw [← hw1]; simp
  have hbx : w1.heap[w.heap.size]? = some (.cells #[.int .i64 k, .bool b, .int .i64 n, .string t, .slice la l.length lc, .slice oa o.length oc] 26 (0, 0)) := by rw [← hw1]; exact heap_alloc_new _ _
  have hT1 := hT.below hb1
  have hV1 := HoldsV.more (hb1.size) _ _ (hV.below hb1)
  have hM := May_calls _ _ w1 hT1 hV1 hb
  have HX := Lib.hid hbx
  have HW := Lib.hid hb1
  by_cases hm : mayV (.mk k b n t l o) 1 = 0
  · have hok := okV_of _ 1 hm hi
    have hB := fun w' (h : Below w1.heap.size w1 w') => writer_calls k b n t l o la oa lc oc true w' (hT1.below h) (HoldsV.more h.size _ _ (hV1.below h)) hb hok
    have hne := textV_ne (.mk k b n t l o)
    have hown := fun w => own_calls k b n t la oa l.length lc o.length oc w
    unfold textS
    rw [hm] at hM ⊢
    rw [if_pos rfl]
    generalize textV (.mk k b n t l o) = L at hB hne ⊢
    have ent := enters_ownF
    have HO := Lib.hid hown
    have HB := Lib.hid hB
    have HM := Lib.hid hM
    have HZ := Lib.hid hz1
    clear hown hB hM hm hok hi hb hT hV hT1 hV1 hbx hb1 hz1
    subst hw1
    go_enter Tryd.func11, Tryd.ntmps11
    go_wp2_with (first | (go_at_call 24; refine (HM.out).mono ?_; rintro e w2 ⟨rfl, hb2⟩; have hz2 := hb2.size; rw [HZ.out] at hz2; have hlt2 : w.heap.size < w2.heap.size := (by omega); have hbox : w2.heap[w.heap.size]? = some (.cells #[.int .i64 k, .bool b, .int .i64 n, .string t, .slice la l.length lc, .slice oa o.length oc] 26 (0, 0)) := (hb2.block _ (by simp)).trans HX.out; obtain ⟨d0, d1, d2, d3, d4, d5⟩ := box_cells hbox) | (go_at_call 25; refine (HO.out _).mono ?_; rintro e w3 ⟨rfl, rfl⟩) | (go_at_fn (ownF k); refine (HB.out _ hb2).mono ?_; rintro e w4 ⟨rfl, h6, h7⟩; obtain ⟨pp, vv, hbld⟩ := h6) | (go_at_call 26; refine (String_calls _ _ _ _ _ _ _ hbld hne).mono ?_; rintro e w5 ⟨rfl, hb5, hk5⟩))
    go_ret2
    exact ⟨rfl, HW.out.trans ((hb2.trans ((h7.trans hb5).mono hb2.size)).mono (by simp))⟩
  · unfold textS
    rw [if_neg hm]
    have hmb : (mayV (.mk k b n t l o) 1 == 0) = false := by simpa using hm
    generalize mayV (.mk k b n t l o) 1 = m at *
    have HM := Lib.hid hM
    clear hM hm hi hb hT hV hT1 hV1 hbx hb1 hz1
    subst hw1
    go_enter Tryd.func11, Tryd.ntmps11
    go_wp2_with (go_at_call 24; refine (HM.out).mono ?_; rintro e w2 ⟨rfl, hb2⟩)
    go_ret2
    exact ⟨rfl, HW.out.trans (hb2.mono (by simp))⟩

end Go.Proofs.YtjmkafbdmppfaaaDoor
