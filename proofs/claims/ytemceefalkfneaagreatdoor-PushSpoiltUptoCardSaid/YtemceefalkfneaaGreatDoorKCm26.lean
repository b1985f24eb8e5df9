/- Parts, joined: A value parameter in its box, and the calls on it. Condition: a bulk of at most 10^8. encode.Fits and the reference's. Condition: a bulk of at most 10^8. A patch's ops as data, and why a list of them may not be a patch. Plain. No condition. The object of a patch's op, the list of a patch: they may be. Plain. No condition. Arguments that read as a pull, and as an answer. No condition. Arguments that are opened beside a pull and an answer: a number, a byte. No condition. -/
import Derived.Test.YtemceefalkfneaaGreatDoorProg
import Derived.Deep.RegionWith
import Derived.Lib.SmallJoins
import Derived.Test.YtemceefalkfneaaGreatDoorKCm5
import Derived.Test.YtemceefalkfneaaGreatDoorKCm14
import Derived.Test.YtemceefalkfneaaGreatDoorKCm16
import Derived.Test.YtemceefalkfneaaGreatDoorKCm20
import Derived.Test.YtemceefalkfneaaGreatDoorKCm23
import Derived.Test.YtemceefalkfneaaGreatDoorKCm24
/- A value parameter in its box, and the calls on it. Condition: a bulk of at most 10^8. -/
namespace Go.Proofs.YtemceefalkfneaaGreatDoor
open Go.RowKit

theorem textS_ok' {v : Val} (h : mayV v 1 = 0) : textS v = ⟨(textV v).toArray⟩ := by unfold textS; rw [if_pos h]
theorem textS_no' {v : Val} (h : mayV v 1 ≠ 0) : textS v = ⟨#[]⟩ := by unfold textS; rw [if_neg h]

/-- A world in which block g is the box of a value parameter. -/
def Boxd (w : World) (g : Nat) (v : Val) (c : List Value) (w' : World) : Prop :=
  Below w.heap.size w w' ∧ w'.heap[g]? = some (.cells c.toArray 52 (0, 0)) ∧ Tabs w' ∧ HoldsV w' w'.heap.size v c

theorem Boxd.step {w w' w'' : World} {g : Nat} {v : Val} {c : List Value} (h : Boxd w g v c w') (hb : Below w'.heap.size w' w'') : Boxd w g v c w'' := by
  obtain ⟨h1, h2, h3, h4⟩ := h
  exact ⟨h1.trans (hb.mono h1.size), (hb.block _ (Array.getElem?_eq_some_iff.1 h2).1).trans h2, h3.below hb, HoldsV.more hb.size _ _ (h4.below hb)⟩
theorem Boxd.start {w : World} {v : Val} {c : List Value} (hT : Tabs w) (hV : HoldsV w w.heap.size v c) : Boxd w w.heap.size v c (w.alloc (.cells c.toArray 52)) := by
  have hb : Below w.heap.size w (w.alloc (.cells c.toArray 52)) := (Below.refl _ _).alloc (Nat.le_refl _) _
  exact ⟨hb, heap_alloc_new _ _, hT.below hb, HoldsV.more hb.size _ _ (hV.below hb)⟩
theorem Boxd.cells {w w' : World} {g : Nat} {v : Val} {k : Int} {b : Bool} {n : Int} {t : ByteArray} {x y : Value} (h : Boxd w g v [.int .i64 k, .bool b, .int .i64 n, .string t, x, y] w') :
    w'.cell? ⟨g, 0, none⟩ = some (.int .i64 k) ∧ w'.cell? ⟨g, 1, none⟩ = some (.bool b) ∧ w'.cell? ⟨g, 2, none⟩ = some (.int .i64 n) ∧ w'.cell? ⟨g, 3, none⟩ = some (.string t) ∧ w'.cell? ⟨g, 4, none⟩ = some x ∧ w'.cell? ⟨g, 5, none⟩ = some y :=
  box_cells h.2.1
theorem Boxd.tabs {w w' : World} {g : Nat} {v : Val} {c : List Value} (h : Boxd w g v c w') : Tabs w' := h.2.2.1
theorem Boxd.below {w w' : World} {g : Nat} {v : Val} {c : List Value} (h : Boxd w g v c w') : Below w.heap.size w w' := h.1

end Go.Proofs.YtemceefalkfneaaGreatDoor

/- encode.Fits and the reference's. Condition: a bulk of at most 10^8. -/
namespace Go.Proofs.YtemceefalkfneaaGreatDoor
open Go.RowKit

/-- Why a value does not fit. -/
def fitsV (v : Val) : Int := if mayV v 1 = 0 then (if 16 < deepV v then 5 else if 1024 < (textV v).length then 6 else 0) else mayV v 1

set_option maxRecDepth 100000 in
set_option maxHeartbeats 2000000 in
theorem Fits_calls (v : Val) (cs : List Value) (w : World) (hT : Tabs w) (hV : HoldsV w w.heap.size v cs) (hb : v.bulk ≤ 100000000) (hi : inV v) :
    Calls Tryz.prog 76 #[.agg cs.toArray] w fun e w' => e = .returned (.int .i64 (fitsV v)) ∧ Below w.heap.size w w' := by
  have hV' := hV
  obtain ⟨k, b, n, t, l, o⟩ := v
  simp only [HoldsV] at hV'
  obtain ⟨la, lc, oa, oc, rfl, _, _⟩ := hV'
  have H1 := Lib.hid (Boxd.start hT hV)
  obtain ⟨v, hv⟩ : ∃ v, Val.mk k b n t l o = v := ⟨_, rfl⟩
  rw [hv] at hi hb H1 ⊢
  have CM := fun w' (h : Boxd w w.heap.size v (cells6 k b n t la l.length lc oa o.length oc) w') => May_calls v _ w' h.tabs h.2.2.2 (by omega)
  unfold fitsV
  by_cases hm : mayV v 1 = 0
  · have hok := okV_of v 1 hm hi
    have CB := fun w' (h : Boxd w w.heap.size v (cells6 k b n t la l.length lc oa o.length oc) w') => bytes_calls v _ w' h.tabs h.2.2.2 (by omega) hok
    have CD := fun w' (h : Boxd w w.heap.size v (cells6 k b n t la l.length lc oa o.length oc) w') => deep_calls v _ w' h.2.2.2 (by omega)
    rw [if_pos hm]
    rw [hm] at CM
    generalize (textV v).length = L at CB ⊢
    generalize deepV v = D at CD ⊢
    have HB := Lib.hid CB
    have HD := Lib.hid CD
    have HM := Lib.hid CM
    clear CB CM CD hm hi hb hT hV hv hok
    by_cases hd : 16 < D
    · rw [if_pos hd]
      go_enter Tryz.func76, Tryz.ntmps76
      go_wp2_with (fail)
      with_reducible refine (HM.out _ H1.out).mono ?_
      rintro e w2 ⟨rfl, hb2⟩
      have H2 := Lib.hid (H1.out.step hb2)
      obtain ⟨d0, d1, d2, d3, d4, d5⟩ := H2.out.cells
      clear hb2 H1
      go_wp2_with (fail)
      with_reducible refine (HD.out _ H2.out).mono ?_
      rintro e w3 ⟨rfl, hb3⟩
      have H3 := Lib.hid (H2.out.step hb3)
      clear d0 d1 d2 d3 d4 d5 hb3 H2
      go_wp2
      go_ret
      exact ⟨rfl, H3.out.below⟩
    · rw [if_neg hd]
      by_cases hl : 1024 < L
      all_goals
        (first | rw [if_pos hl] | rw [if_neg hl])
        go_enter Tryz.func76, Tryz.ntmps76
        go_wp2_with (fail)
        with_reducible refine (HM.out _ H1.out).mono ?_
        rintro e w2 ⟨rfl, hb2⟩
        have H2 := Lib.hid (H1.out.step hb2)
        obtain ⟨d0, d1, d2, d3, d4, d5⟩ := H2.out.cells
        clear hb2 H1
        go_wp2_with (fail)
        with_reducible refine (HD.out _ H2.out).mono ?_
        rintro e w3 ⟨rfl, hb3⟩
        have H3 := Lib.hid (H2.out.step hb3)
        clear d0 d1 d2 d3 d4 d5 hb3 H2
        obtain ⟨d0, d1, d2, d3, d4, d5⟩ := H3.out.cells
        go_wp2_with (fail)
        with_reducible refine (HB.out _ H3.out).mono ?_
        rintro e w4 ⟨rfl, hb4⟩
        have H4 := Lib.hid (H3.out.step hb4)
        clear d0 d1 d2 d3 d4 d5 hb4 H3
        go_wp2
        go_ret
        exact ⟨rfl, H4.out.below⟩
  · rw [if_neg hm]
    have hmb : (mayV v 1 == 0) = false := by simpa using hm
    have hmn : (mayV v 1 != 0) = true := by simpa using hm
    generalize mayV v 1 = m at *
    have HM := Lib.hid CM
    clear CM hm hi hb hT hV hv
    go_enter Tryz.func76, Tryz.ntmps76
    go_wp2_with (fail)
    with_reducible refine (HM.out _ H1.out).mono ?_
    rintro e w2 ⟨rfl, hb2⟩
    have H2 := Lib.hid (H1.out.step hb2)
    clear hb2 H1
    go_wp2
    go_ret
    exact ⟨rfl, H2.out.below⟩

set_option maxRecDepth 100000 in
set_option maxHeartbeats 2000000 in
theorem RFits_calls (v : Val) (cs : List Value) (w : World) (hT : Tabs w) (hV : HoldsV w w.heap.size v cs) (hb : v.bulk ≤ 100000000) (hi : inV v) :
    Calls Tryz.prog 49 #[.agg cs.toArray] w fun e w' => e = .returned (.int .i64 (fitsV v)) ∧ Below w.heap.size w w' := by
  have hV' := hV
  obtain ⟨k, b, n, t, l, o⟩ := v
  simp only [HoldsV] at hV'
  obtain ⟨la, lc, oa, oc, rfl, _, _⟩ := hV'
  have H1 := Lib.hid (Boxd.start hT hV)
  obtain ⟨v, hv⟩ : ∃ v, Val.mk k b n t l o = v := ⟨_, rfl⟩
  rw [hv] at hi hb H1 ⊢
  have CM := fun w' (h : Boxd w w.heap.size v (cells6 k b n t la l.length lc oa o.length oc) w') => RMay_calls v _ w' h.2.2.2 (by omega)
  unfold fitsV
  by_cases hm : mayV v 1 = 0
  · have CB := fun w' (h : Boxd w w.heap.size v (cells6 k b n t la l.length lc oa o.length oc) w') => rtext_calls v _ w' 1 h.2.2.2 (by omega) hm hi
    have CD := fun w' (h : Boxd w w.heap.size v (cells6 k b n t la l.length lc oa o.length oc) w') => rdeep_calls v _ w' h.2.2.2 (by omega)
    obtain ⟨S, hS⟩ : ∃ S : ByteArray, (⟨(textV v).toArray⟩ : ByteArray) = S := ⟨_, rfl⟩
    have hL : (textV v).length = S.size := by rw [← hS, size_mk]
    rw [if_pos hm, hL]
    rw [hm] at CM
    rw [hS] at CB
    generalize deepV v = D at CD ⊢
    have HB := Lib.hid CB
    have HD := Lib.hid CD
    have HM := Lib.hid CM
    clear CB CM CD hm hi hb hT hV hv hS hL
    by_cases hd : 16 < D
    · rw [if_pos hd]
      go_enter Tryz.func49, Tryz.ntmps49
      go_wp2_with (fail)
      with_reducible refine (HM.out _ H1.out).mono ?_
      rintro e w2 ⟨rfl, hb2⟩
      have H2 := Lib.hid (H1.out.step hb2)
      obtain ⟨d0, d1, d2, d3, d4, d5⟩ := H2.out.cells
      clear hb2 H1
      go_wp2_with (fail)
      with_reducible refine (HD.out _ H2.out).mono ?_
      rintro e w3 ⟨rfl, hb3⟩
      have H3 := Lib.hid (H2.out.step hb3)
      clear d0 d1 d2 d3 d4 d5 hb3 H2
      go_wp2
      go_ret
      exact ⟨rfl, H3.out.below⟩
    · rw [if_neg hd]
      by_cases hl : 1024 < S.size
      all_goals
        (first | rw [if_pos hl] | rw [if_neg hl])
        go_enter Tryz.func49, Tryz.ntmps49
        go_wp2_with (fail)
        with_reducible refine (HM.out _ H1.out).mono ?_
        rintro e w2 ⟨rfl, hb2⟩
        have H2 := Lib.hid (H1.out.step hb2)
        obtain ⟨d0, d1, d2, d3, d4, d5⟩ := H2.out.cells
        clear hb2 H1
        go_wp2_with (fail)
        with_reducible refine (HD.out _ H2.out).mono ?_
        rintro e w3 ⟨rfl, hb3⟩
        have H3 := Lib.hid (H2.out.step hb3)
        clear d0 d1 d2 d3 d4 d5 hb3 H2
        obtain ⟨d0, d1, d2, d3, d4, d5⟩ := H3.out.cells
        go_wp2_with (fail)
        with_reducible refine (HB.out _ H3.out).mono ?_
        rintro e w4 ⟨rfl, hb4⟩
        have H4 := Lib.hid (H3.out.step hb4)
        clear d0 d1 d2 d3 d4 d5 hb4 H3
        go_wp2
        go_ret
        exact ⟨rfl, H4.out.below⟩
  · rw [if_neg hm]
    have hmb : (mayV v 1 == 0) = false := by simpa using hm
    have hmn : (mayV v 1 != 0) = true := by simpa using hm
    generalize mayV v 1 = m at *
    have HM := Lib.hid CM
    clear CM hm hi hb hT hV hv
    go_enter Tryz.func49, Tryz.ntmps49
    go_wp2_with (fail)
    with_reducible refine (HM.out _ H1.out).mono ?_
    rintro e w2 ⟨rfl, hb2⟩
    have H2 := Lib.hid (H1.out.step hb2)
    clear hb2 H1
    go_wp2
    go_ret
    exact ⟨rfl, H2.out.below⟩

end Go.Proofs.YtemceefalkfneaaGreatDoor

/- A patch's ops as data, and why a list of them may not be a patch. Plain. No condition. -/
namespace Go.Proofs.YtemceefalkfneaaGreatDoor
open Go.RowKit

structure POp where
  k : Int
  key : ByteArray
  v : Val

def dQ (p : POp) : D := .agg [.leaf (.int .i64 p.k), .leaf (.string p.key), dV p.v]
theorem dQ_cells (p : POp) : (dQ p).cells = 8 := by simp only [dQ, D.cells, cellsA, dV_cells]
def dQs (l : List POp) : List D := l.map dQ
theorem dQs_cells (l : List POp) : ∀ d ∈ dQs l, d.cells = 8 := by
  intro d hd
  obtain ⟨v, _, rfl⟩ := List.mem_map.1 hd
  exact dQ_cells v
theorem dQs_len (l : List POp) : (dQs l).length = l.length := List.length_map ..
def bulkQ : List POp → Nat
  | [] => 0
  | p :: r => 2 + p.key.size + p.v.bulk + bulkQ r
theorem bulkQ_mem {l : List POp} {p : POp} (h : p ∈ l) : 2 + p.key.size + p.v.bulk ≤ bulkQ l := by
  induction l with
  | nil => cases h
  | cons x r ih =>
    simp only [bulkQ]
    rcases List.mem_cons.1 h with rfl | h
    · omega
    · have := ih h; omega
theorem bulkQ_len (l : List POp) : 8 * l.length ≤ bulkQ l := by
  induction l with
  | nil => simp [bulkQ]
  | cons x r ih => simp only [bulkQ, List.length_cons]; have := x.v.bulk_pos; omega
def inQ (l : List POp) : Prop := ∀ p ∈ l, inV p.v

/-- May a text be a key? -/
def keyB (k : ByteArray) : Bool := !k.toList.isEmpty && (decide (k.size ≤ 64) && validB k)
/-- Why it may not. -/
def keyE (k : ByteArray) : Int := if k.toList.isEmpty then 8 else if 64 < k.size then 6 else if validB k then 0 else 3
theorem keyE_zero (k : ByteArray) : keyE k = 0 ↔ keyB k = true := by
  unfold keyE keyB
  cases k.toList.isEmpty <;> by_cases h : 64 < k.size <;> cases validB k <;> simp [h] <;> omega
/-- Has a value nothing, not even a Kind? -/
def zeroB : Val → Bool
  | .mk k b n t l o => zero6B k b n t l.length o.length
def strangeB (p : POp) : Bool := if p.k = 1 then false else if p.k = 2 then !zeroB p.v else if p.k = 3 then !p.key.toList.isEmpty || !zeroB p.v else true
def followsB (q p : POp) : Bool := decide (p.k ≠ 3) && (decide (q.k = 3) || Op.bytesLess q.key.toList p.key.toList)
/-- Why ops behind another one may not be a patch. -/
def mayOps : Option POp → List POp → Int
  | _, [] => 0
  | prev, p :: r =>
    if strangeB p || prev.any (fun q => !followsB q p) then 2
    else if p.k = 3 then mayOps (some p) r
    else if keyB p.key = false then 8
    else if p.k = 2 then mayOps (some p) r
    else if fitsV p.v = 0 then mayOps (some p) r else fitsV p.v

end Go.Proofs.YtemceefalkfneaaGreatDoor

/- The object of a patch's op, the list of a patch: they may be. Plain. No condition. -/
namespace Go.Proofs.YtemceefalkfneaaGreatDoor
open Go.RowKit

abbrev nil0 : ByteArray := ⟨#[]⟩
abbrev kKey : ByteArray := ⟨#[107, 101, 121]⟩
abbrev kOp : ByteArray := ⟨#[111, 112]⟩
abbrev kVal : ByteArray := ⟨#[118, 97, 108, 117, 101]⟩
abbrev sPut : ByteArray := ⟨#[112, 117, 116]⟩
abbrev sDel : ByteArray := ⟨#[100, 101, 108]⟩
abbrev sClear : ByteArray := ⟨#[99, 108, 101, 97, 114]⟩
/-- A Text, an Int, a List, an Object. -/
def tv (s : ByteArray) : Val := .mk 4 false 0 s [] []
def iv (n : Int) : Val := .mk 3 false n nil0 [] []
def lv (l : List Val) : Val := .mk 5 false 0 nil0 l []
def ov (o : List (ByteArray × Val)) : Val := .mk 6 false 0 nil0 [] o
/-- The object of an op. -/
def objQ (p : POp) : Val := ov (if p.k = 1 then [(kKey, tv p.key), (kOp, tv sPut), (kVal, p.v)] else if p.k = 2 then [(kKey, tv p.key), (kOp, tv sDel)] else [(kOp, tv sClear)])
def listQ (l : List POp) : Val := lv (l.map objQ)

theorem nil0_valid : validB nil0 = true := by decide
theorem odd_tv (s : ByteArray) : oddB 4 false 0 s 0 0 = false := by simp [oddB]
theorem odd_iv (n : Int) : oddB 3 false n nil0 0 0 = false := by simp [oddB, Lib.toList_data]
theorem odd_lv (n : Nat) : oddB 5 false 0 nil0 n 0 = false := by simp [oddB, Lib.toList_data]
theorem odd_ov (n : Nat) : oddB 6 false 0 nil0 0 n = false := by simp [oddB, Lib.toList_data]
theorem may_mk {k : Int} {b : Bool} {n : Int} {t : ByteArray} {l : List Val} {o : List (ByteArray × Val)} {d : Int} (h1 : oddB k b n t l.length o.length = false) (h2 : d ≤ 64) (h3 : validB t = true) (h4 : mayL l (d + 1) = 0) (h5 : mayO o none (d + 1) = 0) : mayV (.mk k b n t l o) d = 0 := by
  simp only [mayV]
  rw [if_neg (by rw [h1]; simp), if_neg (by omega), if_pos h3, if_pos h4]
  exact h5
theorem may_tv {s : ByteArray} {d : Int} (h : validB s = true) (hd : d ≤ 64) : mayV (tv s) d = 0 := may_mk (odd_tv s) hd h (by simp [mayL]) (by simp [mayO])
theorem may_iv {n d : Int} (hd : d ≤ 64) : mayV (iv n) d = 0 := may_mk (odd_iv n) hd nil0_valid (by simp [mayL]) (by simp [mayO])
theorem may_lv {l : List Val} {d : Int} (hd : d ≤ 64) (h : mayL l (d + 1) = 0) : mayV (lv l) d = 0 := may_mk (odd_lv _) hd nil0_valid h (by simp [mayO])
theorem may_ov {o : List (ByteArray × Val)} {d : Int} (hd : d ≤ 64) (h : mayO o none (d + 1) = 0) : mayV (ov o) d = 0 := may_mk (odd_ov _) hd nil0_valid (by simp [mayL]) h
theorem mayO_cons {key : ByteArray} {v : Val} {r : List (ByteArray × Val)} {d : Int} (hk : validB key = true) (hv : mayV v d = 0) {last : Option ByteArray} (hl : ∀ q, last = some q → leB key q = false) (hr : mayO r (some key) d = 0) : mayO ((key, v) :: r) last d = 0 := by
  have h1 : mayP (key, v) last d = 0 := by
    simp only [mayP]
    rw [if_pos hk]
    cases last with
    | none => exact hv
    | some q =>
      simp only
      rw [if_neg (by rw [hl q rfl]; simp)]
      exact hv
  simp only [mayO]
  rw [if_pos h1]
  exact hr

/-- May it be an op at all? -/
def okQ (p : POp) : Prop := (p.k = 1 ∧ keyB p.key = true ∧ fitsV p.v = 0) ∨ (p.k = 2 ∧ keyB p.key = true) ∨ p.k = 3
theorem mayOps_all : ∀ {l : List POp} {prev : Option POp}, mayOps prev l = 0 → ∀ p ∈ l, okQ p
  | p :: r, prev, h, x, hx => by
    simp only [mayOps] at h
    by_cases h1 : (strangeB p || prev.any fun q => !followsB q p) = true
    · rw [if_pos h1] at h; cases h
    rw [if_neg h1] at h
    by_cases h3 : p.k = 3
    · rw [if_pos h3] at h
      rcases List.mem_cons.1 hx with rfl | hx
      · exact .inr (.inr h3)
      · exact mayOps_all h x hx
    rw [if_neg h3] at h
    by_cases hk : keyB p.key = false
    · rw [if_pos hk] at h; cases h
    rw [if_neg hk] at h
    have hk' : keyB p.key = true := by simpa using hk
    by_cases h2 : p.k = 2
    · rw [if_pos h2] at h
      rcases List.mem_cons.1 hx with rfl | hx
      · exact .inr (.inl ⟨h2, hk'⟩)
      · exact mayOps_all h x hx
    rw [if_neg h2] at h
    by_cases hf : fitsV p.v = 0
    · rw [if_pos hf] at h
      rcases List.mem_cons.1 hx with rfl | hx
      · refine .inl ⟨?_, hk', hf⟩
        have h1' : strangeB x = false := by
          cases e : strangeB x with
          | false => rfl
          | true => rw [e] at h1; simp at h1
        unfold strangeB at h1'
        by_cases h11 : x.k = 1
        · exact h11
        · rw [if_neg h11, if_neg h2, if_neg h3] at h1'; cases h1'
      · exact mayOps_all h x hx
    · rw [if_neg hf] at h
      exact absurd h hf
theorem keyB_valid {k : ByteArray} (h : keyB k = true) : validB k = true := by
  unfold keyB at h
  simp only [Bool.and_eq_true] at h
  exact h.2.2
theorem fits_parts {v : Val} (h : fitsV v = 0) : mayV v 1 = 0 ∧ deepV v ≤ 16 ∧ (textV v).length ≤ 1024 := by
  unfold fitsV at h
  by_cases h1 : mayV v 1 = 0
  · rw [if_pos h1] at h
    by_cases h2 : 16 < deepV v
    · rw [if_pos h2] at h; cases h
    rw [if_neg h2] at h
    by_cases h3 : 1024 < (textV v).length
    · rw [if_pos h3] at h; cases h
    exact ⟨h1, by omega, by omega⟩
  · rw [if_neg h1] at h
    exact absurd h h1
theorem may_objQ {p : POp} {d : Int} (h : okQ p) (hd : d ≤ 40) : mayV (objQ p) d = 0 := by
  have v1 : validB kKey = true := by decide
  have v2 : validB kOp = true := by decide
  have v3 : validB kVal = true := by decide
  have w1 : validB sPut = true := by decide
  have w2 : validB sDel = true := by decide
  have w3 : validB sClear = true := by decide
  have l1 : leB kOp kKey = false := by decide +kernel
  have l2 : leB kVal kOp = false := by decide +kernel
  unfold objQ
  refine may_ov (by omega) ?_
  rcases h with ⟨h, hk, hf⟩ | ⟨h, hk⟩ | h
  · rw [if_pos h]
    obtain ⟨f1, f2, _⟩ := fits_parts hf
    exact mayO_cons v1 (may_tv (keyB_valid hk) (by omega)) (fun _ e => by cases e) (mayO_cons v2 (may_tv w1 (by omega)) (fun q e => by cases e; exact l1) (mayO_cons v3 (mayV_deeper p.v _ 1 f1 (by omega)) (fun q e => by cases e; exact l2) (by simp [mayO])))
  · rw [if_neg (by omega), if_pos h]
    exact mayO_cons v1 (may_tv (keyB_valid hk) (by omega)) (fun _ e => by cases e) (mayO_cons v2 (may_tv w2 (by omega)) (fun q e => by cases e; exact l1) (by simp [mayO]))
  · rw [if_neg (by omega), if_neg (by omega)]
    exact mayO_cons v2 (may_tv w3 (by omega)) (fun _ e => by cases e) (by simp [mayO])
theorem mayL_ofQ {l : List Val} {d : Int} (h : ∀ v ∈ l, mayV v d = 0) : mayL l d = 0 := by
  induction l with
  | nil => simp [mayL]
  | cons v r ih =>
    simp only [mayL]
    rw [if_pos (h v (by simp))]
    exact ih fun x hx => h x (by simp [hx])
theorem may_listQ {l : List POp} {d : Int} (h : ∀ p ∈ l, okQ p) (hd : d ≤ 39) : mayV (listQ l) d = 0 := by
  refine may_lv (by omega) (mayL_ofQ fun v hv => ?_)
  obtain ⟨p, hp, rfl⟩ := List.mem_map.1 hv
  exact may_objQ (h p hp) (by omega)
theorem in_objQ {p : POp} (h : inV p.v) : inV (objQ p) := by
  unfold objQ ov
  simp only [inV]
  refine ⟨by omega, by simp [inL], ?_⟩
  have ht : ∀ s, inV (tv s) := fun s => by simp only [tv, inV, inL, inO]; exact ⟨by omega, trivial, trivial⟩
  by_cases h1 : p.k = 1
  · rw [if_pos h1]; exact ⟨ht p.key, ht sPut, h, trivial⟩
  · rw [if_neg h1]
    by_cases h2 : p.k = 2
    · rw [if_pos h2]; exact ⟨ht p.key, ht sDel, trivial⟩
    · rw [if_neg h2]; exact ⟨ht sClear, trivial⟩
theorem in_listQ {l : List POp} (h : inQ l) : inV (listQ l) := by
  unfold listQ lv
  simp only [inV]
  refine ⟨by omega, ?_, by simp [inO]⟩
  induction l with
  | nil => simp [inL]
  | cons p r ih =>
    simp only [List.map_cons, inL]
    exact ⟨in_objQ (h p (by simp)), ih fun x hx => h x (by simp [hx])⟩
theorem bulk_objQ (p : POp) : (objQ p).bulk ≤ 60 + p.key.size + p.v.bulk := by
  have e1 : (⟨#[]⟩ : ByteArray).size = 0 := rfl
  have e2 : kKey.size = 3 := rfl
  have e3 : kOp.size = 2 := rfl
  have e4 : kVal.size = 5 := rfl
  have e5 : sPut.size = 3 := rfl
  have e6 : sDel.size = 3 := rfl
  have e7 : sClear.size = 5 := rfl
  unfold objQ ov
  split
  · simp only [Val.bulk, bulkL, bulkO, bulkP, tv, e1, e2, e3, e4, e5]; omega
  · split
    · simp only [Val.bulk, bulkL, bulkO, bulkP, tv, e1, e2, e3, e6]; omega
    · simp only [Val.bulk, bulkL, bulkO, bulkP, tv, e1, e3, e7]; omega
theorem bulk_listQ (l : List POp) : (listQ l).bulk ≤ 6 + 60 * l.length + bulkQ l := by
  have e1 : (⟨#[]⟩ : ByteArray).size = 0 := rfl
  have h : bulkL (l.map objQ) ≤ 60 * l.length + bulkQ l := by
    induction l with
    | nil => simp [bulkL]
    | cons p r ih =>
      have := bulk_objQ p
      simp only [List.map_cons, bulkL, bulkQ, List.length_cons]
      omega
  unfold listQ lv
  simp only [Val.bulk, bulkO, e1]
  omega
end Go.Proofs.YtemceefalkfneaaGreatDoor

/- Arguments that read as a pull, and as an answer. No condition. -/
namespace Go.Proofs.YtemceefalkfneaaGreatDoor
open Go.RowKit Go.ChangeShapes Go.WideShapes

theorem cellsQ : Tryz.prog.cellsOf 61 = 8 := by kernel_rfl
theorem cells_pk : Tryz.prog.cellsOf 59 = 1 := by kernel_rfl
theorem cells_u64 : Tryz.prog.cellsOf 22 = 1 := by kernel_rfl
theorem cells_lq : Tryz.prog.cellsOf 23 = 1 := by kernel_rfl
theorem cells_resp : Tryz.prog.cellsOf 25 = 5 := by kernel_rfl
theorem cells_req : Tryz.prog.cellsOf 66 = 2 := by kernel_rfl
theorem eight_cells {α : Type} {cs : List α} (h : cs.length = 8) : ∃ c0 c1 c2 c3 c4 c5 c6 c7, cs = [c0, c1, c2, c3, c4, c5, c6, c7] := by
  match cs, h with
  | [c0, c1, c2, c3, c4, c5, c6, c7], _ => exact ⟨_, _, _, _, _, _, _, _, rfl⟩
theorem u64_in {n : Int} (hwf : (Lit.int .u64 n).wf = true) : 0 ≤ n := by
  have h1 : IntKind.u64.min = 0 := by decide
  simp only [Lit.wf, h1, Bool.and_eq_true, decide_eq_true_eq] at hwf
  exact hwf.1

section
variable {H : Type} {enc : TypeId × Value → H} {w : World} {sp : Nat → Bool} {held : Bool}

theorem open_ops {n : Nat} : ∀ (elems : List (DataW H × List MemPlace)) (g off : Nat),
    (∀ i, i < elems.length → (w.cells? 0 ⟨g, off + i * 8, none⟩ 8).bind (DataW.trod enc Tryz.prog w 0 sp held n 61) = elems[i]?) →
    ∃ l : List POp, l.length = elems.length ∧ (∃ ns, HoldsA w w.heap.size (dQs l) ns ∧ ∀ j u, ns[j]? = some u → w.cell? ⟨g, off + j, none⟩ = some u) ∧ inQ l ∧ bulkQ l ≤ Rows.uptoBulkAll (elems.map (·.1))
  | [], _, _, _ => ⟨[], rfl, ⟨[], rfl, fun j u h => by simp at h⟩, fun p hp => (by cases hp), by simp [bulkQ]⟩
  | y :: r, g, off, h => by
    obtain ⟨l, h1, ⟨ns, h2, h2'⟩, h3, h4⟩ := open_ops r g (off + 8) (fun i hi => by
      have := h (i + 1) (by simpa using hi)
      rw [show off + (i + 1) * 8 = off + 8 + i * 8 from by omega] at this
      simpa using this)
    have h0 := h 0 (by simp)
    simp only [Nat.zero_mul, Nat.add_zero, List.getElem?_cons_zero] at h0
    obtain ⟨cs, hcs, hx⟩ := Option.bind_eq_some_iff.1 h0
    obtain ⟨_, hc⟩ := cells_at (by omega) hcs
    obtain ⟨xs, m, rfl, rfl, hl, hlen, hf⟩ := DataW.trod_struct Tryz.underlying61 hx
    have hl8 : cs.length = 8 := hl.trans cellsQ
    obtain ⟨c0, c1, c2, c3, c4, c5, c6, c7, rfl⟩ := eight_cells hl8
    have f0 : DataW.trod enc Tryz.prog w 0 sp held m 59 (([c0, c1, c2, c3, c4, c5, c6, c7].drop 0).take (Tryz.prog.cellsOf 59)) = xs[0]? := hf 0 _ rfl
    have f1 : DataW.trod enc Tryz.prog w 0 sp held m 9 (([c0, c1, c2, c3, c4, c5, c6, c7].drop 1).take (Tryz.prog.cellsOf 9)) = xs[1]? := hf 1 _ rfl
    have f2 : DataW.trod enc Tryz.prog w 0 sp held m 52 (([c0, c1, c2, c3, c4, c5, c6, c7].drop 2).take (Tryz.prog.cellsOf 52)) = xs[2]? := hf 2 _ rfl
    simp only [cells_pk, cells_string, cellsV, List.drop_zero, List.drop_succ_cons, List.take_succ_cons, List.take_zero] at f0 f1 f2
    match xs, hlen with
    | [y0, y1, y2], _ =>
      simp only [List.getElem?_cons_zero, List.getElem?_cons_succ] at f0 f1 f2
      obtain ⟨k, hk0, rfl, _⟩ := DataW.trod_int Tryz.underlying59 f0
      obtain ⟨key, hk, rfl, _⟩ := DataW.trod_string Tryz.underlying9 f1
      obtain ⟨v, v1, v2, v3⟩ := open_value m _ _ f2
      simp only [List.cons.injEq, and_true] at hk hk0
      subst hk hk0
      refine ⟨⟨k, key, v⟩ :: l, by simp [h1], ⟨.int .i64 k :: .string key :: ([c2, c3, c4, c5, c6, c7] ++ ns), ⟨.int .i64 k :: .string key :: [c2, c3, c4, c5, c6, c7], ns, rfl, ⟨[.int .i64 k], .string key :: [c2, c3, c4, c5, c6, c7], rfl, ⟨rfl, rfl⟩, [.string key], [c2, c3, c4, c5, c6, c7], rfl, ⟨rfl, rfl⟩, [c2, c3, c4, c5, c6, c7], [], by simp, holds_of_V _ _ v1, rfl⟩, h2⟩, fun j u hu => ?_⟩, ?_, ?_⟩
      · by_cases hj : j < 8
        · refine hc j u ?_
          rw [show Value.int .i64 k :: .string key :: ([c2, c3, c4, c5, c6, c7] ++ ns) = [Value.int .i64 k, .string key, c2, c3, c4, c5, c6, c7] ++ ns from rfl, List.getElem?_append_left (by simpa using hj)] at hu
          exact hu
        · rw [show Value.int .i64 k :: .string key :: ([c2, c3, c4, c5, c6, c7] ++ ns) = [Value.int .i64 k, .string key, c2, c3, c4, c5, c6, c7] ++ ns from rfl, List.getElem?_append_right (by simpa using hj)] at hu
          have := h2' (j - 8) u hu
          rwa [show off + 8 + (j - 8) = off + j from by omega] at this
      · intro p hp
        rcases List.mem_cons.1 hp with rfl | hp
        · exact v2
        · exact h3 p hp
      · have hks : key.data.toList.length = key.size := (by rw [Array.length_toList]; rfl)
        simp only [bulkQ, List.map_cons, List.map_nil, Rows.uptoBulkAll, Rows.uptoBulk]
        omega

theorem open_opscell {n : Nat} {c4 : Value} {y4 : DataW H × List MemPlace} (f4 : DataW.trod enc Tryz.prog w 0 sp held n 23 [c4] = some y4) :
    ∃ (l : List POp) (la : Option Addr) (ln lc : Nat), c4 = .slice la ln lc ∧ Holds w w.heap.size (.row 8 (dQs l)) [.slice la ln lc] ∧ inQ l ∧ 1 + bulkQ l ≤ Rows.uptoBulk y4.1 := by
  rcases DataW.trod_slice Tryz.underlying23 f4 with ⟨e, rfl⟩ | ⟨a, len, cap, elems, rest, q, hn, e, rfl, _, _, _, hlen', hel, _, _⟩
  · simp only [List.cons.injEq, and_true] at e
    exact ⟨[], none, 0, 0, e, ⟨none, 0, rfl, dQs_cells _, [], rfl, .inl rfl⟩, fun p hp => (by cases hp), by simp [bulkQ, Rows.uptoBulk]⟩
  · simp only [List.cons.injEq, and_true] at e
    subst e
    by_cases h0 : len = 0
    · subst h0
      exact ⟨[], some a, 0, cap, rfl, ⟨some a, cap, rfl, dQs_cells _, [], rfl, .inl rfl⟩, fun p hp => (by cases hp), by simp [bulkQ, Rows.uptoBulk]⟩
    · obtain ⟨g, off, spot⟩ := a
      rw [cellsQ] at hel
      have hz := hel 0 (by omega)
      rw [List.getElem?_eq_getElem (by omega)] at hz
      obtain ⟨cs', hcs', _⟩ := Option.bind_eq_some_iff.1 hz
      obtain ⟨_, hcl, hcc⟩ := World.cells?_some hcs'
      have hz0 := hcc 0 (by omega)
      rw [List.getElem?_eq_getElem (by omega)] at hz0
      have hspot : spot = none := by simpa [Addr.add] using World.cell?_spot hz0
      subst hspot
      simp only [add_plain] at hel hz0
      obtain ⟨l, h1, ⟨ns, h2, h2'⟩, h3, h4⟩ := open_ops elems g off (fun i hi => hel i (by omega))
      refine ⟨l, _, len, cap, rfl, ⟨_, cap, by rw [dQs_len, h1, hlen'], dQs_cells _, ns, h2, .inr ⟨g, off, rfl, World.block_lt_of_cell? _ _ hz0, h2'⟩⟩, h3, ?_⟩
      simp only [Rows.uptoBulk]
      omega

set_option maxRecDepth 100000 in
theorem open_arg_req {base : Nat} {v0 : Value} {d : DataW H} {ps : List MemPlace} (hv : Value.okWide Tryz.prog w .any base 66 v0) (h : DataW.Trod enc Tryz.prog w 0 sp held 66 v0 d ps) :
    ∃ c k : Int, v0 = .agg #[.int .u64 c, .int .u64 k] ∧ 0 ≤ c ∧ 0 ≤ k := by
  obtain ⟨cs, rfl, _⟩ := okWide_struct Tryz.underlying66 hv
  obtain ⟨fuel, hf⟩ := h
  obtain ⟨xs, m, rfl, _, hl, hlen, hx⟩ := DataW.trod_struct Tryz.underlying66 hf
  have hl2 : cs.toList.length = 2 := hl.trans cells_req
  obtain ⟨l⟩ := cs
  match l, hl2 with
  | [c0, c1], _ =>
    have f0 : DataW.trod enc Tryz.prog w 0 sp held m 22 (([c0, c1].drop 0).take (Tryz.prog.cellsOf 22)) = xs[0]? := hx 0 _ rfl
    have f1 : DataW.trod enc Tryz.prog w 0 sp held m 22 (([c0, c1].drop 1).take (Tryz.prog.cellsOf 22)) = xs[1]? := hx 1 _ rfl
    simp only [cells_u64, List.drop_zero, List.drop_succ_cons, List.take_succ_cons, List.take_zero] at f0 f1
    match xs, hlen with
    | [y0, y1], _ =>
      simp only [List.getElem?_cons_zero, List.getElem?_cons_succ] at f0 f1
      obtain ⟨n0, e0, _, w0⟩ := DataW.trod_int Tryz.underlying22 f0
      obtain ⟨n1, e1, _, w1⟩ := DataW.trod_int Tryz.underlying22 f1
      simp only [List.cons.injEq, and_true] at e0 e1
      subst e0 e1
      exact ⟨n0, n1, rfl, u64_in w0, u64_in w1⟩
set_option maxRecDepth 100000 in
theorem open_arg_resp {base : Nat} {v0 : Value} {d : DataW H} {ps : List MemPlace} (hv : Value.okWide Tryz.prog w .any base 25 v0) (h : DataW.Trod enc Tryz.prog w 0 sp held 25 v0 d ps) :
    ∃ (c b k s : Int) (l : List POp) (la : Option Addr) (ln lc : Nat), v0 = .agg #[.int .u64 c, .int .u64 b, .int .u64 k, .int .u64 s, .slice la ln lc] ∧ (0 ≤ c ∧ 0 ≤ b ∧ 0 ≤ k ∧ 0 ≤ s) ∧ Holds w w.heap.size (.row 8 (dQs l)) [.slice la ln lc] ∧ inQ l ∧ bulkQ l ≤ Rows.uptoBulk d := by
  obtain ⟨cs, rfl, _⟩ := okWide_struct Tryz.underlying25 hv
  obtain ⟨fuel, hf⟩ := h
  obtain ⟨xs, m, rfl, hd, hl, hlen, hx⟩ := DataW.trod_struct Tryz.underlying25 hf
  have hl5 : cs.toList.length = 5 := hl.trans cells_resp
  obtain ⟨l⟩ := cs
  match l, hl5 with
  | [c0, c1, c2, c3, c4], _ =>
    have f0 : DataW.trod enc Tryz.prog w 0 sp held m 22 (([c0, c1, c2, c3, c4].drop 0).take (Tryz.prog.cellsOf 22)) = xs[0]? := hx 0 _ rfl
    have f1 : DataW.trod enc Tryz.prog w 0 sp held m 22 (([c0, c1, c2, c3, c4].drop 1).take (Tryz.prog.cellsOf 22)) = xs[1]? := hx 1 _ rfl
    have f2 : DataW.trod enc Tryz.prog w 0 sp held m 22 (([c0, c1, c2, c3, c4].drop 2).take (Tryz.prog.cellsOf 22)) = xs[2]? := hx 2 _ rfl
    have f3 : DataW.trod enc Tryz.prog w 0 sp held m 22 (([c0, c1, c2, c3, c4].drop 3).take (Tryz.prog.cellsOf 22)) = xs[3]? := hx 3 _ rfl
    have f4 : DataW.trod enc Tryz.prog w 0 sp held m 23 (([c0, c1, c2, c3, c4].drop 4).take (Tryz.prog.cellsOf 23)) = xs[4]? := hx 4 _ rfl
    simp only [cells_u64, cells_lq, List.drop_zero, List.drop_succ_cons, List.take_succ_cons, List.take_zero] at f0 f1 f2 f3 f4
    match xs, hlen with
    | [y0, y1, y2, y3, y4], _ =>
      simp only [List.getElem?_cons_zero, List.getElem?_cons_succ] at f0 f1 f2 f3 f4
      obtain ⟨n0, e0, _, w0⟩ := DataW.trod_int Tryz.underlying22 f0
      obtain ⟨n1, e1, _, w1⟩ := DataW.trod_int Tryz.underlying22 f1
      obtain ⟨n2, e2, _, w2⟩ := DataW.trod_int Tryz.underlying22 f2
      obtain ⟨n3, e3, _, w3⟩ := DataW.trod_int Tryz.underlying22 f3
      obtain ⟨l, la, ln, lc, rfl, g1, g2, g3⟩ := open_opscell f4
      simp only [List.cons.injEq, and_true] at e0 e1 e2 e3
      subst e0 e1 e2 e3
      refine ⟨n0, n1, n2, n3, l, la, ln, lc, rfl, ⟨u64_in w0, u64_in w1, u64_in w2, u64_in w3⟩, g1, g2, ?_⟩
      have hd' := congrArg Prod.fst hd
      simp only at hd'
      rw [hd']
      simp only [Rows.uptoBulk, List.map_cons, List.map_nil, Rows.uptoBulkAll]
      omega
end
end Go.Proofs.YtemceefalkfneaaGreatDoor

/- Arguments that are opened beside a pull and an answer: a number, a byte. No condition. -/
namespace Go.Proofs.YtemceefalkfneaaGreatDoor
open Go.RowKit Go.ChangeShapes Go.WideShapes Go.ChangeAt

section
variable {H : Type} {enc : TypeId × Value → H} {w : World} {sp : Nat → Bool} {held : Bool}
set_option maxRecDepth 10000 in
theorem open_arg_i64 {base : Nat} {v0 : Value} {d : DataW H} {ps : List MemPlace} (hv : Value.okWide Tryz.prog w .any base 3 v0) (h : DataW.Trod enc Tryz.prog w 0 sp held 3 v0 d ps) :
    ∃ n : Int, v0 = .int .i64 n ∧ -9223372036854775808 ≤ n ∧ n ≤ 9223372036854775807 := by
  obtain ⟨n, rfl, _, _, hwf⟩ := open_int Tryz.underlying3 hv h
  have h1 : IntKind.i64.min = -9223372036854775808 := by decide
  have h2 : IntKind.i64.max = 9223372036854775807 := by decide
  simp only [Lit.wf, h1, h2, Bool.and_eq_true, decide_eq_true_eq] at hwf
  exact ⟨n, rfl, hwf.1, hwf.2⟩
set_option maxRecDepth 10000 in
theorem open_arg_u8 {base : Nat} {v0 : Value} {d : DataW H} {ps : List MemPlace} (hv : Value.okWide Tryz.prog w .any base 5 v0) (h : DataW.Trod enc Tryz.prog w 0 sp held 5 v0 d ps) :
    ∃ m : UInt8, v0 = .int .u8 (m.toNat : Int) := by
  obtain ⟨n, rfl, _, _, hwf⟩ := open_int Tryz.underlying5 hv h
  have h1 : IntKind.u8.min = 0 := by decide
  have h2 : IntKind.u8.max = 255 := by decide
  simp only [Lit.wf, h1, h2, Bool.and_eq_true, decide_eq_true_eq] at hwf
  refine ⟨UInt8.ofNat n.toNat, ?_⟩
  have e : ((UInt8.ofNat n.toNat).toNat : Int) = n := by
    rw [UInt8.toNat_ofNat', Nat.mod_eq_of_lt (by omega)]
    omega
  rw [e]
end
end Go.Proofs.YtemceefalkfneaaGreatDoor
