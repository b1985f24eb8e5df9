/- Parts, joined: The object of a patch's op, the list of a patch: they may be. Plain. No condition. -/
import Derived.Test.YtkoliaodkojghaaGreatDoorProg
import Derived.Test.YtkoliaodkojghaaGreatDoorKPush30
import Derived.Test.YtkoliaodkojghaaGreatDoorKPush34
/- The object of a patch's op, the list of a patch: they may be. Plain. No condition. -/
namespace Go.Proofs.YtkoliaodkojghaaGreatDoor
open Go.RowKit

abbrev nil0 : ByteArray := ⟨#[]⟩
abbrev kKey : ByteArray := ⟨#[107, 101, 121]⟩
abbrev kOp : ByteArray := ⟨#[111, 112]⟩
abbrev kVal : ByteArray := ⟨#[118, 97, 108, 117, 101]⟩
abbrev sPut : ByteArray := ⟨#[112, 117, 116]⟩
abbrev sDel : ByteArray := ⟨#[100, 101, 108]⟩
abbrev sClear : ByteArray := ⟨#[99, 108, 101, 97, 114]⟩
/-- A Text, an Int, a List, an Object. -/
def tv (s : ByteArray) : Val := .mk 4 false 0 s [] []
def iv (n : Int) : Val := .mk 3 false n nil0 [] []
def lv (l : List Val) : Val := .mk 5 false 0 nil0 l []
def ov (o : List (ByteArray × Val)) : Val := .mk 6 false 0 nil0 [] o
/-- The object of an op. -/
def objQ (p : POp) : Val := ov (if p.k = 1 then [(kKey, tv p.key), (kOp, tv sPut), (kVal, p.v)] else if p.k = 2 then [(kKey, tv p.key), (kOp, tv sDel)] else [(kOp, tv sClear)])
def listQ (l : List POp) : Val := lv (l.map objQ)

theorem nil0_valid : validB nil0 = true := by decide
theorem odd_tv (s : ByteArray) : oddB 4 false 0 s 0 0 = false := by simp [oddB]
theorem odd_iv (n : Int) : oddB 3 false n nil0 0 0 = false := by simp [oddB, Lib.toList_data]
theorem odd_lv (n : Nat) : oddB 5 false 0 nil0 n 0 = false := by simp [oddB, Lib.toList_data]
theorem odd_ov (n : Nat) : oddB 6 false 0 nil0 0 n = false := by simp [oddB, Lib.toList_data]
theorem may_mk {k : Int} {b : Bool} {n : Int} {t : ByteArray} {l : List Val} {o : List (ByteArray × Val)} {d : Int} (h1 : oddB k b n t l.length o.length = false) (h2 : d ≤ 64) (h3 : validB t = true) (h4 : mayL l (d + 1) = 0) (h5 : mayO o none (d + 1) = 0) : mayV (.mk k b n t l o) d = 0 := by
  simp only [mayV]
  rw [if_neg (by rw [h1]; simp), if_neg (by omega), if_pos h3, if_pos h4]
  exact h5
theorem may_tv {s : ByteArray} {d : Int} (h : validB s = true) (hd : d ≤ 64) : mayV (tv s) d = 0 := may_mk (odd_tv s) hd h (by simp [mayL]) (by simp [mayO])
theorem may_iv {n d : Int} (hd : d ≤ 64) : mayV (iv n) d = 0 := may_mk (odd_iv n) hd nil0_valid (by simp [mayL]) (by simp [mayO])
theorem may_lv {l : List Val} {d : Int} (hd : d ≤ 64) (h : mayL l (d + 1) = 0) : mayV (lv l) d = 0 := may_mk (odd_lv _) hd nil0_valid h (by simp [mayO])
theorem may_ov {o : List (ByteArray × Val)} {d : Int} (hd : d ≤ 64) (h : mayO o none (d + 1) = 0) : mayV (ov o) d = 0 := may_mk (odd_ov _) hd nil0_valid (by simp [mayL]) h
theorem mayO_cons {key : ByteArray} {v : Val} {r : List (ByteArray × Val)} {d : Int} (hk : validB key = true) (hv : mayV v d = 0) {last : Option ByteArray} (hl : ∀ q, last = some q → leB key q = false) (hr : mayO r (some key) d = 0) : mayO ((key, v) :: r) last d = 0 := by
  have h1 : mayP (key, v) last d = 0 := by
    simp only [mayP]
    rw [if_pos hk]
    cases last with
    | none => exact hv
    | some q =>
      simp only
      rw [if_neg (by rw [hl q rfl]; simp)]
      exact hv
  simp only [mayO]
  rw [if_pos h1]
  exact hr

/-- May it be an op at all? -/
def okQ (p : POp) : Prop := (p.k = 1 ∧ keyB p.key = true ∧ fitsV p.v = 0) ∨ (p.k = 2 ∧ keyB p.key = true) ∨ p.k = 3
theorem mayOps_all : ∀ {l : List POp} {prev : Option POp}, mayOps prev l = 0 → ∀ p ∈ l, okQ p
  | p :: r, prev, h, x, hx => by
    simp only [mayOps] at h
    by_cases h1 : (strangeB p || prev.any fun q => !followsB q p) = true
    · rw [if_pos h1] at h; cases h
    rw [if_neg h1] at h
    by_cases h3 : p.k = 3
    · rw [if_pos h3] at h
      rcases List.mem_cons.1 hx with rfl | hx
      · exact .inr (.inr h3)
      · exact mayOps_all h x hx
    rw [if_neg h3] at h
    by_cases hk : keyB p.key = false
    · rw [if_pos hk] at h; cases h
    rw [if_neg hk] at h
    have hk' : keyB p.key = true := by simpa using hk
    by_cases h2 : p.k = 2
    · rw [if_pos h2] at h
      rcases List.mem_cons.1 hx with rfl | hx
      · exact .inr (.inl ⟨h2, hk'⟩)
      · exact mayOps_all h x hx
    rw [if_neg h2] at h
    by_cases hf : fitsV p.v = 0
    · rw [if_pos hf] at h
      rcases List.mem_cons.1 hx with rfl | hx
      · refine .inl ⟨?_, hk', hf⟩
        have h1' : strangeB x = false := by
          cases e : strangeB x with
          | false => rfl
          | true => rw [e] at h1; simp at h1
        unfold strangeB at h1'
        by_cases h11 : x.k = 1
        · exact h11
        · rw [if_neg h11, if_neg h2, if_neg h3] at h1'; cases h1'
      · exact mayOps_all h x hx
    · rw [if_neg hf] at h
      exact absurd h hf
theorem keyB_valid {k : ByteArray} (h : keyB k = true) : validB k = true := by
  unfold keyB at h
  simp only [Bool.and_eq_true] at h
  exact h.2.2
theorem fits_parts {v : Val} (h : fitsV v = 0) : mayV v 1 = 0 ∧ deepV v ≤ 16 ∧ (textV v).length ≤ 1024 := by
  unfold fitsV at h
  by_cases h1 : mayV v 1 = 0
  · rw [if_pos h1] at h
    by_cases h2 : 16 < deepV v
    · rw [if_pos h2] at h; cases h
    rw [if_neg h2] at h
    by_cases h3 : 1024 < (textV v).length
    · rw [if_pos h3] at h; cases h
    exact ⟨h1, by omega, by omega⟩
  · rw [if_neg h1] at h
    exact absurd h h1
theorem may_objQ {p : POp} {d : Int} (h : okQ p) (hd : d ≤ 40) : mayV (objQ p) d = 0 := by
  have v1 : validB kKey = true := by decide
  have v2 : validB kOp = true := by decide
  have v3 : validB kVal = true := by decide
  have w1 : validB sPut = true := by decide
  have w2 : validB sDel = true := by decide
  have w3 : validB sClear = true := by decide
  have l1 : leB kOp kKey = false := by decide +kernel
  have l2 : leB kVal kOp = false := by decide +kernel
  unfold objQ
  refine may_ov (by omega) ?_
  rcases h with ⟨h, hk, hf⟩ | ⟨h, hk⟩ | h
  · rw [if_pos h]
    obtain ⟨f1, f2, _⟩ := fits_parts hf
    exact mayO_cons v1 (may_tv (keyB_valid hk) (by omega)) (fun _ e => by cases e) (mayO_cons v2 (may_tv w1 (by omega)) (fun q e => by cases e; exact l1) (mayO_cons v3 (mayV_deeper p.v _ 1 f1 (by omega)) (fun q e => by cases e; exact l2) (by simp [mayO])))
  · rw [if_neg (by omega), if_pos h]
    exact mayO_cons v1 (may_tv (keyB_valid hk) (by omega)) (fun _ e => by cases e) (mayO_cons v2 (may_tv w2 (by omega)) (fun q e => by cases e; exact l1) (by simp [mayO]))
  · rw [if_neg (by omega), if_neg (by omega)]
    exact mayO_cons v2 (may_tv w3 (by omega)) (fun _ e => by cases e) (by simp [mayO])
theorem mayL_of {l : List Val} {d : Int} (h : ∀ v ∈ l, mayV v d = 0) : mayL l d = 0 := by
  induction l with
  | nil => simp [mayL]
  | cons v r ih =>
    simp only [mayL]
    rw [if_pos (h v (by simp))]
    exact ih fun x hx => h x (by simp [hx])
theorem may_listQ {l : List POp} {d : Int} (h : ∀ p ∈ l, okQ p) (hd : d ≤ 39) : mayV (listQ l) d = 0 := by
  refine may_lv (by omega) (mayL_of fun v hv => ?_)
  obtain ⟨p, hp, rfl⟩ := List.mem_map.1 hv
  exact may_objQ (h p hp) (by omega)
theorem in_objQ {p : POp} (h : inV p.v) : inV (objQ p) := by
  unfold objQ ov
  simp only [inV]
  refine ⟨by omega, by simp [inL], ?_⟩
  have ht : ∀ s, inV (tv s) := fun s => by simp only [tv, inV, inL, inO]; exact ⟨by omega, trivial, trivial⟩
  by_cases h1 : p.k = 1
  · rw [if_pos h1]; exact ⟨ht p.key, ht sPut, h, trivial⟩
  · rw [if_neg h1]
    by_cases h2 : p.k = 2
    · rw [if_pos h2]; exact ⟨ht p.key, ht sDel, trivial⟩
    · rw [if_neg h2]; exact ⟨ht sClear, trivial⟩
theorem in_listQ {l : List POp} (h : inQ l) : inV (listQ l) := by
  unfold listQ lv
  simp only [inV]
  refine ⟨by omega, ?_, by simp [inO]⟩
  induction l with
  | nil => simp [inL]
  | cons p r ih =>
    simp only [List.map_cons, inL]
    exact ⟨in_objQ (h p (by simp)), ih fun x hx => h x (by simp [hx])⟩
theorem bulk_objQ (p : POp) : (objQ p).bulk ≤ 60 + p.key.size + p.v.bulk := by
  have e1 : (⟨#[]⟩ : ByteArray).size = 0 := rfl
  have e2 : kKey.size = 3 := rfl
  have e3 : kOp.size = 2 := rfl
  have e4 : kVal.size = 5 := rfl
  have e5 : sPut.size = 3 := rfl
  have e6 : sDel.size = 3 := rfl
  have e7 : sClear.size = 5 := rfl
  unfold objQ ov
  split
  · simp only [Val.bulk, bulkL, bulkO, bulkP, tv, e1, e2, e3, e4, e5]; omega
  · split
    · simp only [Val.bulk, bulkL, bulkO, bulkP, tv, e1, e2, e3, e6]; omega
    · simp only [Val.bulk, bulkL, bulkO, bulkP, tv, e1, e3, e7]; omega
theorem bulk_listQ (l : List POp) : (listQ l).bulk ≤ 6 + 60 * l.length + bulkQ l := by
  have e1 : (⟨#[]⟩ : ByteArray).size = 0 := rfl
  have h : bulkL (l.map objQ) ≤ 60 * l.length + bulkQ l := by
    induction l with
    | nil => simp [bulkL]
    | cons p r ih =>
      have := bulk_objQ p
      simp only [List.map_cons, bulkL, bulkQ, List.length_cons]
      omega
  unfold listQ lv
  simp only [Val.bulk, bulkO, e1]
  omega
end Go.Proofs.YtkoliaodkojghaaGreatDoor
