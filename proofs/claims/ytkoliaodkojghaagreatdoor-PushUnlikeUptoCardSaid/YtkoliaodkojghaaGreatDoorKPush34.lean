/- Parts, joined: A value parameter in its box, and the calls on it. Condition: a bulk of at most 10^8. encode.Fits and the reference's. Condition: a bulk of at most 10^8. A patch's ops as data, and why a list of them may not be a patch. Plain. No condition. -/
import Derived.Test.YtkoliaodkojghaaGreatDoorProg
import Derived.Deep.RegionWith
import Derived.Test.YtkoliaodkojghaaGreatDoorKPush20
import Derived.Test.YtkoliaodkojghaaGreatDoorKPush24
import Derived.Test.YtkoliaodkojghaaGreatDoorKPush25
import Derived.Test.YtkoliaodkojghaaGreatDoorKPush29
import Derived.Test.YtkoliaodkojghaaGreatDoorKPush30
import Derived.Test.YtkoliaodkojghaaGreatDoorKPush32
/- A value parameter in its box, and the calls on it. Condition: a bulk of at most 10^8. -/
namespace Go.Proofs.YtkoliaodkojghaaGreatDoor
open Go.RowKit

theorem textS_ok' {v : Val} (h : mayV v 1 = 0) : textS v = ⟨(textV v).toArray⟩ := by unfold textS; rw [if_pos h]
theorem textS_no' {v : Val} (h : mayV v 1 ≠ 0) : textS v = ⟨#[]⟩ := by unfold textS; rw [if_neg h]

/-- A world in which block g is the box of a value parameter. -/
def Boxd (w : World) (g : Nat) (v : Val) (c : List Value) (w' : World) : Prop :=
  Below w.heap.size w w' ∧ w'.heap[g]? = some (.cells c.toArray 45 (0, 0)) ∧ Tabs w' ∧ HoldsV w' w'.heap.size v c

theorem Boxd.step {w w' w'' : World} {g : Nat} {v : Val} {c : List Value} (h : Boxd w g v c w') (hb : Below w'.heap.size w' w'') : Boxd w g v c w'' := by
  obtain ⟨h1, h2, h3, h4⟩ := h
  exact ⟨h1.trans (hb.mono h1.size), (hb.block _ (Array.getElem?_eq_some_iff.1 h2).1).trans h2, h3.below hb, HoldsV.more hb.size _ _ (h4.below hb)⟩
theorem Boxd.start {w : World} {v : Val} {c : List Value} (hT : Tabs w) (hV : HoldsV w w.heap.size v c) : Boxd w w.heap.size v c (w.alloc (.cells c.toArray 45)) := by
  have hb : Below w.heap.size w (w.alloc (.cells c.toArray 45)) := (Below.refl _ _).alloc (Nat.le_refl _) _
  exact ⟨hb, heap_alloc_new _ _, hT.below hb, HoldsV.more hb.size _ _ (hV.below hb)⟩
theorem Boxd.cells {w w' : World} {g : Nat} {v : Val} {k : Int} {b : Bool} {n : Int} {t : ByteArray} {x y : Value} (h : Boxd w g v [.int .i64 k, .bool b, .int .i64 n, .string t, x, y] w') :
    w'.cell? ⟨g, 0, none⟩ = some (.int .i64 k) ∧ w'.cell? ⟨g, 1, none⟩ = some (.bool b) ∧ w'.cell? ⟨g, 2, none⟩ = some (.int .i64 n) ∧ w'.cell? ⟨g, 3, none⟩ = some (.string t) ∧ w'.cell? ⟨g, 4, none⟩ = some x ∧ w'.cell? ⟨g, 5, none⟩ = some y :=
  box_cells h.2.1
theorem Boxd.tabs {w w' : World} {g : Nat} {v : Val} {c : List Value} (h : Boxd w g v c w') : Tabs w' := h.2.2.1
theorem Boxd.below {w w' : World} {g : Nat} {v : Val} {c : List Value} (h : Boxd w g v c w') : Below w.heap.size w w' := h.1

end Go.Proofs.YtkoliaodkojghaaGreatDoor

/- encode.Fits and the reference's. Condition: a bulk of at most 10^8. -/
namespace Go.Proofs.YtkoliaodkojghaaGreatDoor
open Go.RowKit

/-- Why a value does not fit. -/
def fitsV (v : Val) : Int := if mayV v 1 = 0 then (if 16 < deepV v then 5 else if 1024 < (textV v).length then 6 else 0) else mayV v 1

set_option maxRecDepth 100000 in
set_option maxHeartbeats 2000000 in
theorem Fits_calls (v : Val) (cs : List Value) (w : World) (hT : Tabs w) (hV : HoldsV w w.heap.size v cs) (hb : v.bulk ≤ 100000000) (hi : inV v) :
    Calls Tryz.prog 56 #[.agg cs.toArray] w fun e w' => e = .returned (.int .i64 (fitsV v)) ∧ Below w.heap.size w w' := by
  have hV' := hV
  obtain ⟨k, b, n, t, l, o⟩ := v
  simp only [HoldsV] at hV'
  obtain ⟨la, lc, oa, oc, rfl, _, _⟩ := hV'
  have H1 := Lib.hid (Boxd.start hT hV)
  obtain ⟨v, hv⟩ : ∃ v, Val.mk k b n t l o = v := ⟨_, rfl⟩
  rw [hv] at hi hb H1 ⊢
  have CM := fun w' (h : Boxd w w.heap.size v (cells6 k b n t la l.length lc oa o.length oc) w') => May_calls v _ w' h.tabs h.2.2.2 (by omega)
  unfold fitsV
  by_cases hm : mayV v 1 = 0
  · have hok := okV_of v 1 hm hi
    have CB := fun w' (h : Boxd w w.heap.size v (cells6 k b n t la l.length lc oa o.length oc) w') => bytes_calls v _ w' h.tabs h.2.2.2 (by omega) hok
    have CD := fun w' (h : Boxd w w.heap.size v (cells6 k b n t la l.length lc oa o.length oc) w') => deep_calls v _ w' h.2.2.2 (by omega)
    rw [if_pos hm]
    rw [hm] at CM
    generalize (textV v).length = L at CB ⊢
    generalize deepV v = D at CD ⊢
    have HB := Lib.hid CB
    have HD := Lib.hid CD
    have HM := Lib.hid CM
    clear CB CM CD hm hi hb hT hV hv hok
    by_cases hd : 16 < D
    · rw [if_pos hd]
      go_enter Tryz.func56, Tryz.ntmps56
      go_wp2_with (fail)
      with_reducible refine (HM.out _ H1.out).mono ?_
      rintro e w2 ⟨rfl, hb2⟩
      have H2 := Lib.hid (H1.out.step hb2)
      obtain ⟨d0, d1, d2, d3, d4, d5⟩ := H2.out.cells
      clear hb2 H1
      go_wp2_with (fail)
      with_reducible refine (HD.out _ H2.out).mono ?_
      rintro e w3 ⟨rfl, hb3⟩
      have H3 := Lib.hid (H2.out.step hb3)
      clear d0 d1 d2 d3 d4 d5 hb3 H2
      go_wp2
      go_ret
      exact ⟨rfl, H3.out.below⟩
    · rw [if_neg hd]
      by_cases hl : 1024 < L
      all_goals
        (first | rw [if_pos hl] | rw [if_neg hl])
        go_enter Tryz.func56, Tryz.ntmps56
        go_wp2_with (fail)
        with_reducible refine (HM.out _ H1.out).mono ?_
        rintro e w2 ⟨rfl, hb2⟩
        have H2 := Lib.hid (H1.out.step hb2)
        obtain ⟨d0, d1, d2, d3, d4, d5⟩ := H2.out.cells
        clear hb2 H1
        go_wp2_with (fail)
        with_reducible refine (HD.out _ H2.out).mono ?_
        rintro e w3 ⟨rfl, hb3⟩
        have H3 := Lib.hid (H2.out.step hb3)
        clear d0 d1 d2 d3 d4 d5 hb3 H2
        obtain ⟨d0, d1, d2, d3, d4, d5⟩ := H3.out.cells
        go_wp2_with (fail)
        with_reducible refine (HB.out _ H3.out).mono ?_
        rintro e w4 ⟨rfl, hb4⟩
        have H4 := Lib.hid (H3.out.step hb4)
        clear d0 d1 d2 d3 d4 d5 hb4 H3
        go_wp2
        go_ret
        exact ⟨rfl, H4.out.below⟩
  · rw [if_neg hm]
    have hmb : (mayV v 1 == 0) = false := by simpa using hm
    have hmn : (mayV v 1 != 0) = true := by simpa using hm
    generalize mayV v 1 = m at *
    have HM := Lib.hid CM
    clear CM hm hi hb hT hV hv
    go_enter Tryz.func56, Tryz.ntmps56
    go_wp2_with (fail)
    with_reducible refine (HM.out _ H1.out).mono ?_
    rintro e w2 ⟨rfl, hb2⟩
    have H2 := Lib.hid (H1.out.step hb2)
    clear hb2 H1
    go_wp2
    go_ret
    exact ⟨rfl, H2.out.below⟩

set_option maxRecDepth 100000 in
set_option maxHeartbeats 2000000 in
theorem RFits_calls (v : Val) (cs : List Value) (w : World) (hT : Tabs w) (hV : HoldsV w w.heap.size v cs) (hb : v.bulk ≤ 100000000) (hi : inV v) :
    Calls Tryz.prog 59 #[.agg cs.toArray] w fun e w' => e = .returned (.int .i64 (fitsV v)) ∧ Below w.heap.size w w' := by
  have hV' := hV
  obtain ⟨k, b, n, t, l, o⟩ := v
  simp only [HoldsV] at hV'
  obtain ⟨la, lc, oa, oc, rfl, _, _⟩ := hV'
  have H1 := Lib.hid (Boxd.start hT hV)
  obtain ⟨v, hv⟩ : ∃ v, Val.mk k b n t l o = v := ⟨_, rfl⟩
  rw [hv] at hi hb H1 ⊢
  have CM := fun w' (h : Boxd w w.heap.size v (cells6 k b n t la l.length lc oa o.length oc) w') => RMay_calls v _ w' h.2.2.2 (by omega)
  unfold fitsV
  by_cases hm : mayV v 1 = 0
  · have CB := fun w' (h : Boxd w w.heap.size v (cells6 k b n t la l.length lc oa o.length oc) w') => rtext_calls v _ w' 1 h.2.2.2 (by omega) hm hi
    have CD := fun w' (h : Boxd w w.heap.size v (cells6 k b n t la l.length lc oa o.length oc) w') => rdeep_calls v _ w' h.2.2.2 (by omega)
    obtain ⟨S, hS⟩ : ∃ S : ByteArray, (⟨(textV v).toArray⟩ : ByteArray) = S := ⟨_, rfl⟩
    have hL : (textV v).length = S.size := by rw [← hS, size_mk]
    rw [if_pos hm, hL]
    rw [hm] at CM
    rw [hS] at CB
    generalize deepV v = D at CD ⊢
    have HB := Lib.hid CB
    have HD := Lib.hid CD
    have HM := Lib.hid CM
    clear CB CM CD hm hi hb hT hV hv hS hL
    by_cases hd : 16 < D
    · rw [if_pos hd]
      go_enter Tryz.func59, Tryz.ntmps59
      go_wp2_with (fail)
      with_reducible refine (HM.out _ H1.out).mono ?_
      rintro e w2 ⟨rfl, hb2⟩
      have H2 := Lib.hid (H1.out.step hb2)
      obtain ⟨d0, d1, d2, d3, d4, d5⟩ := H2.out.cells
      clear hb2 H1
      go_wp2_with (fail)
      with_reducible refine (HD.out _ H2.out).mono ?_
      rintro e w3 ⟨rfl, hb3⟩
      have H3 := Lib.hid (H2.out.step hb3)
      clear d0 d1 d2 d3 d4 d5 hb3 H2
      go_wp2
      go_ret
      exact ⟨rfl, H3.out.below⟩
    · rw [if_neg hd]
      by_cases hl : 1024 < S.size
      all_goals
        (first | rw [if_pos hl] | rw [if_neg hl])
        go_enter Tryz.func59, Tryz.ntmps59
        go_wp2_with (fail)
        with_reducible refine (HM.out _ H1.out).mono ?_
        rintro e w2 ⟨rfl, hb2⟩
        have H2 := Lib.hid (H1.out.step hb2)
        obtain ⟨d0, d1, d2, d3, d4, d5⟩ := H2.out.cells
        clear hb2 H1
        go_wp2_with (fail)
        with_reducible refine (HD.out _ H2.out).mono ?_
        rintro e w3 ⟨rfl, hb3⟩
        have H3 := Lib.hid (H2.out.step hb3)
        clear d0 d1 d2 d3 d4 d5 hb3 H2
        obtain ⟨d0, d1, d2, d3, d4, d5⟩ := H3.out.cells
        go_wp2_with (fail)
        with_reducible refine (HB.out _ H3.out).mono ?_
        rintro e w4 ⟨rfl, hb4⟩
        have H4 := Lib.hid (H3.out.step hb4)
        clear d0 d1 d2 d3 d4 d5 hb4 H3
        go_wp2
        go_ret
        exact ⟨rfl, H4.out.below⟩
  · rw [if_neg hm]
    have hmb : (mayV v 1 == 0) = false := by simpa using hm
    have hmn : (mayV v 1 != 0) = true := by simpa using hm
    generalize mayV v 1 = m at *
    have HM := Lib.hid CM
    clear CM hm hi hb hT hV hv
    go_enter Tryz.func59, Tryz.ntmps59
    go_wp2_with (fail)
    with_reducible refine (HM.out _ H1.out).mono ?_
    rintro e w2 ⟨rfl, hb2⟩
    have H2 := Lib.hid (H1.out.step hb2)
    clear hb2 H1
    go_wp2
    go_ret
    exact ⟨rfl, H2.out.below⟩

end Go.Proofs.YtkoliaodkojghaaGreatDoor

/- A patch's ops as data, and why a list of them may not be a patch. Plain. No condition. -/
namespace Go.Proofs.YtkoliaodkojghaaGreatDoor
open Go.RowKit

structure POp where
  k : Int
  key : ByteArray
  v : Val

def dQ (p : POp) : D := .agg [.leaf (.int .i64 p.k), .leaf (.string p.key), dV p.v]
theorem dQ_cells (p : POp) : (dQ p).cells = 8 := by simp only [dQ, D.cells, cellsA, dV_cells]
def dQs (l : List POp) : List D := l.map dQ
theorem dQs_cells (l : List POp) : ∀ d ∈ dQs l, d.cells = 8 := by
  intro d hd
  obtain ⟨v, _, rfl⟩ := List.mem_map.1 hd
  exact dQ_cells v
theorem dQs_len (l : List POp) : (dQs l).length = l.length := List.length_map ..
def bulkQ : List POp → Nat
  | [] => 0
  | p :: r => 2 + p.key.size + p.v.bulk + bulkQ r
theorem bulkQ_mem {l : List POp} {p : POp} (h : p ∈ l) : 2 + p.key.size + p.v.bulk ≤ bulkQ l := by
  induction l with
  | nil => cases h
  | cons x r ih =>
    simp only [bulkQ]
    rcases List.mem_cons.1 h with rfl | h
    · omega
    · have := ih h; omega
theorem bulkQ_len (l : List POp) : 8 * l.length ≤ bulkQ l := by
  induction l with
  | nil => simp [bulkQ]
  | cons x r ih => simp only [bulkQ, List.length_cons]; have := x.v.bulk_pos; omega
def inQ (l : List POp) : Prop := ∀ p ∈ l, inV p.v

/-- May a text be a key? -/
def keyB (k : ByteArray) : Bool := !k.toList.isEmpty && (decide (k.size ≤ 64) && validB k)
/-- Why it may not. -/
def keyE (k : ByteArray) : Int := if k.toList.isEmpty then 8 else if 64 < k.size then 6 else if validB k then 0 else 3
theorem keyE_zero (k : ByteArray) : keyE k = 0 ↔ keyB k = true := by
  unfold keyE keyB
  cases k.toList.isEmpty <;> by_cases h : 64 < k.size <;> cases validB k <;> simp [h] <;> omega
/-- Has a value nothing, not even a Kind? -/
def zeroB : Val → Bool
  | .mk k b n t l o => zero6B k b n t l.length o.length
def strangeB (p : POp) : Bool := if p.k = 1 then false else if p.k = 2 then !zeroB p.v else if p.k = 3 then !p.key.toList.isEmpty || !zeroB p.v else true
def followsB (q p : POp) : Bool := decide (p.k ≠ 3) && (decide (q.k = 3) || Op.bytesLess q.key.toList p.key.toList)
/-- Why ops behind another one may not be a patch. -/
def mayOps : Option POp → List POp → Int
  | _, [] => 0
  | prev, p :: r =>
    if strangeB p || prev.any (fun q => !followsB q p) then 2
    else if p.k = 3 then mayOps (some p) r
    else if keyB p.key = false then 8
    else if p.k = 2 then mayOps (some p) r
    else if fitsV p.v = 0 then mayOps (some p) r else fitsV p.v

end Go.Proofs.YtkoliaodkojghaaGreatDoor
