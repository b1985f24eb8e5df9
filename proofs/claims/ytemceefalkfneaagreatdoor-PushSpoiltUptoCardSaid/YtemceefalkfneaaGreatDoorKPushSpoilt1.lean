/- Parts, joined: Mutators as data, and why one may not be. Plain. No condition. -/
import Derived.Test.YtemceefalkfneaaGreatDoorProg
import Derived.Test.YtemceefalkfneaaGreatDoorKCm26
/- Mutators as data, and why one may not be. Plain. No condition. -/
namespace Go.Proofs.YtemceefalkfneaaGreatDoor
open Go.RowKit

/-- A mutator of package api, as data. -/
inductive Mut where
  | mk (k : Int) (key dst : ByteArray) (n : Int) (had : Bool) (was : Val) (has : Bool) (v : Val) (l : List Mut)

/-- To prove something of all mutators: of each, given that it holds of those within. -/
theorem Mut.ind {p : Mut → Prop} (h : ∀ k key dst n had was has v l, (∀ m ∈ l, p m) → p (.mk k key dst n had was has v l)) : ∀ m, p m := by
  intro m
  refine Mut.rec (motive_1 := p) (motive_2 := fun l => ∀ m ∈ l, p m) ?_ ?_ ?_ m
  · intro k key dst n had was has v l hl
    exact h _ _ _ _ _ _ _ _ _ hl
  · intro m hm
    cases hm
  · intro m r hm hr x hx
    rcases List.mem_cons.1 hx with rfl | hx
    · exact hm
    · exact hr x hx

mutual
/-- As data of cells. -/
def dM : Mut → D
  | .mk k key dst n had was has v l => .agg [.leaf (.int .i64 k), .leaf (.string key), .leaf (.string dst), .leaf (.int .i64 n), .leaf (.bool had), dV was, .leaf (.bool has), dV v, .row 19 (dMs l)]
def dMs : List Mut → List D
  | [] => []
  | m :: r => dM m :: dMs r
end
theorem dM_cells (m : Mut) : (dM m).cells = 19 := by
  cases m
  simp only [dM, D.cells, cellsA, dV_cells]
theorem dMs_map : ∀ l : List Mut, dMs l = l.map dM
  | [] => rfl
  | m :: r => by simp only [dMs, List.map_cons, dMs_map r]
theorem dMs_cells (l : List Mut) : ∀ d ∈ dMs l, d.cells = 19 := by
  intro d hd
  rw [dMs_map] at hd
  obtain ⟨m, _, rfl⟩ := List.mem_map.1 hd
  exact dM_cells m
theorem dMs_len (l : List Mut) : (dMs l).length = l.length := by rw [dMs_map, List.length_map]

mutual
/-- How many cells and letters. -/
def bulkM : Mut → Nat
  | .mk _ key dst _ _ was _ v l => 8 + key.size + dst.size + was.bulk + v.bulk + bulkMs l
def bulkMs : List Mut → Nat
  | [] => 0
  | m :: r => bulkM m + bulkMs r
end
theorem bulkMs_mem {l : List Mut} {m : Mut} (h : m ∈ l) : bulkM m ≤ bulkMs l := by
  induction l with
  | nil => cases h
  | cons x r ih =>
    simp only [bulkMs]
    rcases List.mem_cons.1 h with rfl | h
    · omega
    · have := ih h; omega
theorem bulkMs_len (l : List Mut) : 8 * l.length ≤ bulkMs l := by
  induction l with
  | nil => simp [bulkMs]
  | cons x r ih =>
    simp only [bulkMs, List.length_cons]
    have : 8 ≤ bulkM x := by cases x; simp only [bulkM]; omega
    omega

mutual
/-- All numbers within it are numbers of 64 bits. -/
def inM : Mut → Prop
  | .mk _ _ _ n _ was _ v l => (-9223372036854775808 ≤ n ∧ n ≤ 9223372036854775807) ∧ inV was ∧ inV v ∧ inMs l
def inMs : List Mut → Prop
  | [] => True
  | m :: r => inM m ∧ inMs r
end
theorem inMs_mem {l : List Mut} {m : Mut} (h : m ∈ l) (hi : inMs l) : inM m := by
  induction l with
  | nil => cases h
  | cons x r ih =>
    simp only [inMs] at hi
    rcases List.mem_cons.1 h with rfl | h
    · exact hi.1
    · exact ih h hi.2

mutual
/-- How many mutators it is. -/
def sizeM : Mut → Nat
  | .mk _ _ _ _ _ _ _ _ l => 1 + sizeMs l
def sizeMs : List Mut → Nat
  | [] => 0
  | m :: r => sizeM m + sizeMs r
end
theorem sizeMs_app : ∀ (a b : List Mut), sizeMs (a ++ b) = sizeMs a + sizeMs b
  | [], b => by simp [sizeMs]
  | x :: r, b => by simp only [List.cons_append, sizeMs, sizeMs_app r b]; omega
theorem sizeM_bulk : ∀ m, 8 * sizeM m ≤ bulkM m := by
  refine Mut.ind ?_
  intro k key dst n had was has v l hl
  have : 8 * sizeMs l ≤ bulkMs l := by
    induction l with
    | nil => simp [sizeMs, bulkMs]
    | cons x r ih =>
      have h1 := hl x (by simp)
      have h2 := ih (fun m hm => hl m (by simp [hm]))
      simp only [sizeMs, bulkMs]; omega
  simp only [sizeM, bulkM]; omega

/-- Has a mutator just what its Kind names? -/
def bareF (k : Int) (dst : ByteArray) (n : Int) (had wasZ has valZ : Bool) (ln : Nat) : Bool :=
  decide (1 ≤ k) && decide (k ≤ 7) && (decide (k = 6) || dst.toList.isEmpty) && (decide (k = 3) || decide (n = 0)) && (decide (k = 4) || decide (k = 7) || !had) && (decide (k = 4) || !has) && (had || wasZ) && (decide (k = 1) || decide (k = 5) || (decide (k = 4) && has) || valZ) && (decide (k = 7) || decide (ln = 0))
/-- May a text be a beginning? -/
def shortB (s : ByteArray) : Bool := decide (s.size ≤ 64) && validB s
/-- May a mutator's Key (and To) be? -/
def keyedB (k : Int) (key dst : ByteArray) (had : Bool) : Bool := if k = 6 then shortB key && shortB dst else if k = 7 ∧ key.toList.isEmpty = true then !had else keyB key
mutual
/-- Why a mutator that stands so deep may not be, but for how many it is. -/
def mayM : Mut → Int → Int
  | .mk k key dst n had was has v l, d =>
    if bareF k dst n had (zeroB was) has (zeroB v) l.length = false then 9 else if 6 < d then 5 else if keyedB k key dst had = false then 8
    else if had = true ∧ fitsV was ≠ 0 then fitsV was else if (has || decide (k = 1) || decide (k = 5)) = true ∧ fitsV v ≠ 0 then fitsV v else mayMs l (d + 1)
def mayMs : List Mut → Int → Int
  | [], _ => 0
  | m :: r, d => if mayM m d = 0 then mayMs r d else mayM m d
end
/-- Why a mutator may not be. -/
def mutMay (m : Mut) : Int := if 64 < sizeM m then 6 else mayM m 1
theorem mayMs_drop {l : List Mut} {q : Nat} {m : Mut} (h : l[q]? = some m) (d : Int) : mayMs (l.drop q) d = if mayM m d = 0 then mayMs (l.drop (q + 1)) d else mayM m d := by
  obtain ⟨hlt, rfl⟩ := List.getElem?_eq_some_iff.1 h
  rw [List.drop_eq_getElem_cons hlt]
  rfl
/-- A mutator with its number. -/
structure Num where
  id : Int
  m : Mut
def dN (p : Num) : D := .agg [.leaf (.int .u64 p.id), dM p.m]
theorem dN_cells (p : Num) : (dN p).cells = 20 := by simp only [dN, D.cells, cellsA, dM_cells]
def dNs (l : List Num) : List D := l.map dN
theorem dNs_cells (l : List Num) : ∀ d ∈ dNs l, d.cells = 20 := by
  intro d hd
  obtain ⟨v, _, rfl⟩ := List.mem_map.1 hd
  exact dN_cells v
theorem dNs_len (l : List Num) : (dNs l).length = l.length := List.length_map ..
def bulkN : List Num → Nat
  | [] => 0
  | p :: r => 1 + bulkM p.m + bulkN r
def inN (l : List Num) : Prop := ∀ p ∈ l, 0 ≤ p.id ∧ inM p.m
/-- Why mutators with numbers may not be a push. -/
def mayNs : List Num → Int
  | [] => 0
  | p :: r => if p.id ≤ 0 ∨ 4611686018427387903 < p.id then 2 else if mutMay p.m = 0 then mayNs r else mutMay p.m
def mayPush (c : Int) (l : List Num) : Int := if c ≤ 0 ∨ 4611686018427387903 < c then 2 else if 64 < l.length then 6 else mayNs l
end Go.Proofs.YtemceefalkfneaaGreatDoor
