/- Parts, joined: Data of any make and how they lie in memory: leaves, structs, rows. Plain. No condition. Words for memory: slices that read as lists, blocks known whole, append of any source (the kit's own words, copied as its page says). No condition. -/
import Derived.WalkKit
import Derived.Below
import Derived.Laws.OwnMore
import Derived.Deep.AppendLies
import Derived.Deep.Draws
import Derived.Laws.Rows
import Derived.Maps.AppendAt
import Derived.RegionTactic
import Derived.OwnWalk
/- Data of any make and how they lie in memory: leaves, structs, rows. Plain. No condition. -/
namespace Go.Proofs.YtemceefalkfneaaGreatDoor
open Go.RowKit

/-- A datum: a cell; parts one behind the other; a slice of elements of s cells each. -/
inductive D where
  | leaf (v : Value)
  | agg (l : List D)
  | row (s : Nat) (l : List D)

mutual
/-- Of how many cells a datum is. -/
def D.cells : D → Nat
  | .leaf _ => 1
  | .agg l => cellsA l
  | .row _ _ => 1
def cellsA : List D → Nat
  | [] => 0
  | d :: r => d.cells + cellsA r
end

mutual
/-- These cells hold this datum; all that it leads to lies below block B. -/
def Holds (w : World) (B : Nat) : D → List Value → Prop
  | .leaf v, cs => cs = [v] ∧ v.oneCell' = true
  | .agg l, cs => HoldsA w B l cs
  | .row s l, cs => ∃ a c, cs = [.slice a l.length c] ∧ (∀ d ∈ l, d.cells = s) ∧ ∃ ns, HoldsA w B l ns ∧ (l = [] ∨ ∃ g off, a = some ⟨g, off, none⟩ ∧ g < B ∧ ∀ j u, ns[j]? = some u → w.cell? ⟨g, off + j, none⟩ = some u)
def HoldsA (w : World) (B : Nat) : List D → List Value → Prop
  | [], cs => cs = []
  | d :: r, cs => ∃ c1 c2, cs = c1 ++ c2 ∧ Holds w B d c1 ∧ HoldsA w B r c2
end

/-- To prove something of all data: of each, given that it holds of its parts. -/
theorem D.ind {p : D → Prop} (h0 : ∀ v, p (.leaf v)) (h1 : ∀ l, (∀ d ∈ l, p d) → p (.agg l)) (h2 : ∀ s l, (∀ d ∈ l, p d) → p (.row s l)) : ∀ d, p d := by
  intro d
  refine D.rec (motive_1 := p) (motive_2 := fun l => ∀ d ∈ l, p d) h0 h1 h2 ?_ ?_ d
  · intro d hd
    cases hd
  · intro d r hd hr x hx
    rcases List.mem_cons.1 hx with rfl | hx
    · exact hd
    · exact hr x hx

theorem HoldsA.len_of {w : World} {B : Nat} : ∀ {l : List D}, (∀ d ∈ l, ∀ cs, Holds w B d cs → cs.length = d.cells ∧ ∀ u ∈ cs, u.oneCell' = true) → ∀ {cs}, HoldsA w B l cs → cs.length = cellsA l ∧ ∀ u ∈ cs, u.oneCell' = true
  | [], _, cs, h => by
    have : cs = [] := h
    subst this
    exact ⟨rfl, fun u hu => by cases hu⟩
  | d :: r, ih, cs, h => by
    obtain ⟨c1, c2, rfl, h1, h2⟩ := h
    obtain ⟨a1, a2⟩ := ih d (by simp) c1 h1
    obtain ⟨b1, b2⟩ := HoldsA.len_of (fun x hx => ih x (by simp [hx])) h2
    refine ⟨by simp only [List.length_append, cellsA, a1, b1], fun u hu => ?_⟩
    rcases List.mem_append.1 hu with hu | hu
    · exact a2 u hu
    · exact b2 u hu
theorem Holds.len {w : World} {B : Nat} : ∀ {d : D} {cs}, Holds w B d cs → cs.length = d.cells ∧ ∀ u ∈ cs, u.oneCell' = true := by
  intro d
  refine D.ind (p := fun d => ∀ {cs}, Holds w B d cs → cs.length = d.cells ∧ ∀ u ∈ cs, u.oneCell' = true) ?_ ?_ ?_ d
  · intro v cs h
    obtain ⟨rfl, hv⟩ := h
    exact ⟨rfl, fun u hu => by simp at hu; rw [hu]; exact hv⟩
  · intro l ih cs h
    exact HoldsA.len_of (fun d hd _ => ih d hd) h
  · intro s l _ cs h
    obtain ⟨a, c, rfl, _⟩ := h
    exact ⟨rfl, fun u hu => by simp at hu; rw [hu]; rfl⟩
theorem HoldsA.len {w : World} {B : Nat} {l : List D} {cs : List Value} (h : HoldsA w B l cs) : cs.length = cellsA l ∧ ∀ u ∈ cs, u.oneCell' = true := HoldsA.len_of (fun _ _ _ hd => hd.len) h
theorem cellsA_all {s : Nat} : ∀ {l : List D}, (∀ d ∈ l, d.cells = s) → cellsA l = l.length * s
  | [], _ => by simp [cellsA]
  | d :: r, h => by
    have h1 := h d (by simp)
    have h2 := cellsA_all (l := r) (fun x hx => h x (by simp [hx]))
    simp only [cellsA, List.length_cons, Nat.add_mul, Nat.one_mul]
    omega

theorem HoldsA.imp {w w' : World} {B B' : Nat} : ∀ {l : List D}, (∀ d ∈ l, ∀ cs, Holds w B d cs → Holds w' B' d cs) → ∀ {cs}, HoldsA w B l cs → HoldsA w' B' l cs
  | [], _, _, h => h
  | d :: r, ih, cs, h => by
    obtain ⟨c1, c2, e, h1, h2⟩ := h
    exact ⟨c1, c2, e, ih d (by simp) c1 h1, HoldsA.imp (fun x hx => ih x (by simp [hx])) h2⟩
theorem Holds.imp {w w' : World} {B B' : Nat} (hB : B ≤ B') (hk : ∀ p : Addr, p.block < B → w'.cell? p = w.cell? p) : ∀ {d : D} {cs}, Holds w B d cs → Holds w' B' d cs := by
  intro d
  refine D.ind (p := fun d => ∀ {cs}, Holds w B d cs → Holds w' B' d cs) ?_ ?_ ?_ d
  · intro v cs h
    exact h
  · intro l ih cs h
    exact HoldsA.imp (fun d hd _ => ih d hd) h
  · intro s l ih cs h
    obtain ⟨a, c, e, hs, ns, h1, h2⟩ := h
    refine ⟨a, c, e, hs, ns, HoldsA.imp (fun d hd _ => ih d hd) h1, ?_⟩
    rcases h2 with h2 | ⟨g, off, ea, hg, hcell⟩
    · exact .inl h2
    · exact .inr ⟨g, off, ea, by omega, fun j u hu => (hk _ hg).trans (hcell j u hu)⟩
theorem Holds.keep {w w' : World} {B : Nat} {d : D} {cs : List Value} (h : Holds w B d cs) (hk : ∀ p : Addr, p.block < B → w'.cell? p = w.cell? p) : Holds w' B d cs := h.imp (Nat.le_refl _) hk
theorem Holds.below {w w' : World} {B : Nat} {d : D} {cs : List Value} (h : Holds w B d cs) (hb : Below B w w') : Holds w' B d cs := h.keep fun _ hp => hb.cell hp
theorem Holds.more {w : World} {B B' : Nat} {d : D} {cs : List Value} (h : Holds w B d cs) (hB : B ≤ B') : Holds w B' d cs := h.imp hB fun _ _ => rfl
theorem HoldsA.keep {w w' : World} {B : Nat} {l : List D} {cs : List Value} (h : HoldsA w B l cs) (hk : ∀ p : Addr, p.block < B → w'.cell? p = w.cell? p) : HoldsA w' B l cs := HoldsA.imp (fun _ _ _ hd => hd.keep hk) h
theorem HoldsA.below {w w' : World} {B : Nat} {l : List D} {cs : List Value} (h : HoldsA w B l cs) (hb : Below B w w') : HoldsA w' B l cs := h.keep fun _ hp => hb.cell hp
theorem HoldsA.more {w : World} {B B' : Nat} {l : List D} {cs : List Value} (h : HoldsA w B l cs) (hB : B ≤ B') : HoldsA w B' l cs := HoldsA.imp (fun _ _ _ hd => hd.more hB) h
/-- The old world's data in a later world, all that lies there. -/
theorem Holds.later {w w' : World} {d : D} {cs : List Value} (h : Holds w w.heap.size d cs) (hb : Below w.heap.size w w') : Holds w' w'.heap.size d cs := (h.below hb).more hb.size
theorem HoldsA.later {w w' : World} {l : List D} {cs : List Value} (h : HoldsA w w.heap.size l cs) (hb : Below w.heap.size w w') : HoldsA w' w'.heap.size l cs := (h.below hb).more hb.size

theorem HoldsA.app {w : World} {B : Nat} : ∀ {a b : List D} {ns ms : List Value}, HoldsA w B a ns → HoldsA w B b ms → HoldsA w B (a ++ b) (ns ++ ms)
  | [], b, ns, ms, h, h' => by
    have : ns = [] := h
    subst this
    exact h'
  | d :: r, b, ns, ms, h, h' => by
    obtain ⟨c1, c2, rfl, h1, h2⟩ := h
    exact ⟨c1, c2 ++ ms, by simp, h1, HoldsA.app h2 h'⟩
theorem HoldsA.one {w : World} {B : Nat} {d : D} {cs : List Value} (h : Holds w B d cs) : HoldsA w B [d] cs := ⟨cs, [], by simp, h, rfl⟩
theorem HoldsA.snoc {w : World} {B : Nat} {l : List D} {d : D} {ns cs : List Value} (h : HoldsA w B l ns) (hd : Holds w B d cs) : HoldsA w B (l ++ [d]) (ns ++ cs) := h.app (HoldsA.one hd)
theorem HoldsA.split {w : World} {B s : Nat} : ∀ {l : List D} {ns : List Value} (k : Nat), (∀ d ∈ l, d.cells = s) → HoldsA w B l ns → HoldsA w B (l.take k) (ns.take (k * s)) ∧ HoldsA w B (l.drop k) (ns.drop (k * s))
  | [], ns, k, _, h => by
    have : ns = [] := h
    subst this
    simp [HoldsA]
  | d :: r, ns, 0, _, h => by
    simp only [List.take_zero, Nat.zero_mul, List.drop_zero]
    exact ⟨rfl, h⟩
  | d :: r, ns, k + 1, hs, h => by
    obtain ⟨c1, c2, rfl, h1, h2⟩ := h
    obtain ⟨a, b⟩ := HoldsA.split k (fun x hx => hs x (by simp [hx])) h2
    have hl : c1.length = s := h1.len.1.trans (hs d (by simp))
    have e1 : (c1 ++ c2).take ((k + 1) * s) = c1 ++ c2.take (k * s) := by
      rw [List.take_append, List.take_of_length_le (by rw [hl, Nat.add_mul]; omega), hl, Nat.add_mul, Nat.one_mul, Nat.add_sub_cancel]
    have e2 : (c1 ++ c2).drop ((k + 1) * s) = c2.drop (k * s) := by
      rw [List.drop_append, List.drop_eq_nil_of_le (by rw [hl, Nat.add_mul]; omega), hl, Nat.add_mul, Nat.one_mul, Nat.add_sub_cancel, List.nil_append]
    rw [e1, e2]
    exact ⟨⟨c1, c2.take (k * s), rfl, h1, a⟩, b⟩
theorem HoldsA.at_ {w : World} {B s : Nat} {l : List D} {ns : List Value} (hs : ∀ d ∈ l, d.cells = s) (h : HoldsA w B l ns) {i : Nat} {d : D} (hi : l[i]? = some d) :
    ∃ cs, Holds w B d cs ∧ cs.length = s ∧ ∀ j u, cs[j]? = some u → ns[i * s + j]? = some u := by
  obtain ⟨_, h2⟩ := HoldsA.split i hs h
  obtain ⟨hlt, rfl⟩ := List.getElem?_eq_some_iff.1 hi
  rw [List.drop_eq_getElem_cons hlt] at h2
  obtain ⟨c1, c2, e, h3, _⟩ := h2
  have hl : c1.length = s := h3.len.1.trans (hs _ (List.getElem_mem hlt))
  refine ⟨c1, h3, hl, fun j u hu => ?_⟩
  have h5 := (List.getElem?_eq_some_iff.1 hu).1
  have h4 : (ns.drop (i * s))[j]? = some u := by
    rw [e, List.getElem?_append_left h5]; exact hu
  rwa [List.getElem?_drop] at h4

/-- The i-th element of a slice. -/
theorem Holds.at_ {w : World} {B s : Nat} {l : List D} {a : Option Addr} {n c : Nat} (h : Holds w B (.row s l) [.slice a n c]) {i : Nat} {d : D} (hi : l[i]? = some d) :
    ∃ g off, a = some ⟨g, off, none⟩ ∧ g < B ∧ ∃ cs, Holds w B d cs ∧ cs.length = s ∧ ∀ j u, cs[j]? = some u → w.cell? ⟨g, off + i * s + j, none⟩ = some u := by
  obtain ⟨a', c', e, hs, ns, h1, h2⟩ := h
  simp only [List.cons.injEq, Value.slice.injEq, and_true] at e
  obtain ⟨rfl, rfl, rfl⟩ := e
  rcases h2 with rfl | ⟨g, off, ea, hg, hcell⟩
  · simp at hi
  · obtain ⟨cs, h3, h4, h5⟩ := h1.at_ hs hi
    exact ⟨g, off, ea, hg, cs, h3, h4, fun j u hu => by rw [Nat.add_assoc]; exact hcell _ u (h5 j u hu)⟩
theorem Holds.row_len {w : World} {B s : Nat} {l : List D} {a : Option Addr} {n c : Nat} (h : Holds w B (.row s l) [.slice a n c]) : n = l.length := by
  obtain ⟨a', c', e, _⟩ := h
  simp only [List.cons.injEq, Value.slice.injEq, and_true] at e
  obtain ⟨rfl, rfl, rfl⟩ := e
  exact rfl

/-- These cells hold this datum in every world that agrees with w' on the blocks from b on. -/
def Fresh (b : Nat) (w' : World) (d : D) (cs : List Value) : Prop :=
  ∀ w'' : World, w'.heap.size ≤ w''.heap.size → (∀ p : Addr, b ≤ p.block → p.block < w'.heap.size → w''.cell? p = w'.cell? p) → Holds w'' w'.heap.size d cs
def FreshA (b : Nat) (w' : World) (l : List D) (cs : List Value) : Prop :=
  ∀ w'' : World, w'.heap.size ≤ w''.heap.size → (∀ p : Addr, b ≤ p.block → p.block < w'.heap.size → w''.cell? p = w'.cell? p) → HoldsA w'' w'.heap.size l cs
theorem Fresh.now {b : Nat} {w' : World} {d : D} {cs : List Value} (h : Fresh b w' d cs) : Holds w' w'.heap.size d cs := h w' (Nat.le_refl _) fun _ _ _ => rfl
theorem FreshA.now {b : Nat} {w' : World} {l : List D} {cs : List Value} (h : FreshA b w' l cs) : HoldsA w' w'.heap.size l cs := h w' (Nat.le_refl _) fun _ _ _ => rfl
theorem FreshA.nil (b : Nat) (w' : World) : FreshA b w' [] [] := fun _ _ _ => rfl
theorem FreshA.keep {b : Nat} {wr w' : World} {l : List D} {ns : List Value} (h : FreshA b wr l ns) (hs : wr.heap.size ≤ w'.heap.size) (hk : ∀ p : Addr, b ≤ p.block → p.block < wr.heap.size → w'.cell? p = wr.cell? p) : FreshA b w' l ns :=
  fun w'' h1 h2 => HoldsA.more (h w'' (Nat.le_trans hs h1) (fun p p1 p2 => (h2 p p1 (Nat.lt_of_lt_of_le p2 hs)).trans (hk p p1 p2))) hs
theorem Fresh.keep {b b' : Nat} {wr w' : World} {d : D} {ns : List Value} (h : Fresh b wr d ns) (hb : b' ≤ b) (hs : wr.heap.size ≤ w'.heap.size) (hk : ∀ p : Addr, b ≤ p.block → p.block < wr.heap.size → w'.cell? p = wr.cell? p) : Fresh b' w' d ns :=
  fun w'' h1 h2 => Holds.more (h w'' (Nat.le_trans hs h1) (fun p p1 p2 => (h2 p (Nat.le_trans hb p1) (Nat.lt_of_lt_of_le p2 hs)).trans (hk p p1 p2))) hs
theorem Fresh.later {b : Nat} {w w' : World} {d : D} {ns : List Value} (h : Fresh b w d ns) (hb : Below w.heap.size w w') : Fresh b w' d ns := h.keep (Nat.le_refl _) hb.size fun _ _ p2 => hb.cell p2
theorem FreshA.later {b : Nat} {w w' : World} {l : List D} {ns : List Value} (h : FreshA b w l ns) (hb : Below w.heap.size w w') : FreshA b w' l ns := h.keep hb.size fun _ _ p2 => hb.cell p2
/-- A slice over a fresh row that lies in a block of the call's own. -/
theorem FreshA.row {b s : Nat} {w' : World} {l : List D} {ns : List Value} {a : Option Addr} {c : Nat} (h : FreshA b w' l ns) (hs : ∀ d ∈ l, d.cells = s)
    (ha : l = [] ∨ ∃ g off, a = some ⟨g, off, none⟩ ∧ b ≤ g ∧ g < w'.heap.size ∧ ∀ j u, ns[j]? = some u → w'.cell? ⟨g, off + j, none⟩ = some u) : Fresh b w' (.row s l) [.slice a l.length c] := by
  intro w'' h1 h2
  refine ⟨a, c, rfl, hs, ns, h w'' h1 h2, ?_⟩
  rcases ha with ha | ⟨g, off, e, hbg, hg, hcell⟩
  · exact .inl ha
  · exact .inr ⟨g, off, e, hg, fun j u hu => (h2 _ hbg hg).trans (hcell j u hu)⟩
end Go.Proofs.YtemceefalkfneaaGreatDoor

/- Words for memory: slices that read as lists, blocks known whole, append of any source (the kit's own words, copied as its page says). No condition. -/
namespace Go.Proofs.YtemceefalkfneaaGreatDoor
open Go Go.RowKit

theorem block_of_add (a : Addr) (n : Nat) : (a.add n).block = a.block := by unfold Addr.add; split <;> rfl
theorem add_of_add (a : Addr) (i j : Nat) : (a.add i).add j = a.add (i + j) := by
  unfold Addr.add
  by_cases hi : i = 0 <;> by_cases hj : j = 0 <;> simp [hi, hj, Nat.add_assoc]

def Reads (w : World) (B size : Nat) (A : Option Addr) (n : Nat) (xs : List Value) : Prop :=
  xs.length = n * size ∧ (0 < n → ∃ ad, A = some ad ∧ ad.block < B ∧ ∀ j u, xs[j]? = some u → w.cell? (ad.add j) = some u)

section
variable {w w' : World} {B B' size n : Nat} {A : Option Addr} {xs : List Value}
theorem Reads.none_ : Reads w B size A 0 [] := ⟨by simp, fun h => absurd h (by omega)⟩
theorem Reads.at_ {k : Nat} (h : Reads w B 1 A n xs) (hk : k < n) : ∃ ad u, A = some ad ∧ ad.block < B ∧ xs[k]? = some u ∧ w.cell? (ad.add k) = some u := by
  obtain ⟨ad, e, hb, hc⟩ := h.2 (by omega)
  have hl : k < xs.length := by have := h.1; omega
  exact ⟨ad, xs[k], e, hb, List.getElem?_eq_getElem hl, hc k _ (List.getElem?_eq_getElem hl)⟩
theorem Reads.keep (h : Reads w B size A n xs) (hk : ∀ p : Addr, p.block < B → w'.cell? p = w.cell? p) : Reads w' B size A n xs :=
  ⟨h.1, fun hn => by
    obtain ⟨ad, e, hb, hc⟩ := h.2 hn
    exact ⟨ad, e, hb, fun j u hu => (hk _ (by rw [block_of_add]; exact hb)).trans (hc j u hu)⟩⟩
theorem Reads.more (h : Reads w B size A n xs) (hB : B ≤ B') : Reads w B' size A n xs :=
  ⟨h.1, fun hn => by
    obtain ⟨ad, e, hb, hc⟩ := h.2 hn
    exact ⟨ad, e, by omega, hc⟩⟩
theorem Reads.below (h : Reads w B size A n xs) (hb : Below B w w') : Reads w' B size A n xs := h.keep fun _ hp => hb.cell hp
theorem Reads.drew (h : Reads w B size A n xs) : Reads w.drew B size A n xs := h
theorem Reads.drewN (h : Reads w B size A n xs) (k : Nat) : Reads (w.drewN k) B size A n xs := h
theorem Reads.alloc (h : Reads w B size A n xs) (hB : B ≤ w.heap.size) (o : Obj) : Reads (w.alloc o) B size A n xs := h.keep fun p hp => World.cell?_alloc_lt w o p (by omega)
theorem Reads.setCell (h : Reads w B size A n xs) {p : Addr} (hB : B ≤ p.block) (u : Value) : Reads (w.setCell p u) B size A n xs :=
  h.keep fun q hq => World.cell?_setCell_other w p q u (fun e => by subst e; omega)
theorem Reads.grown (h : Reads w B size A n xs) {row : Option Nat} (hg : w.grownBy w' row) (hB : B ≤ w.heap.size) (hr : ∀ g, row = some g → B ≤ g) : Reads w' B size A n xs :=
  h.keep fun p hp => World.cell?_of_block (hg.block p.block (by omega) (fun e => by have := hr _ e.symm; omega))
theorem Reads.cut (h : Reads w B size A n xs) {k cap : Nat} (hk : k ≤ n) (hc : n ≤ cap) :
    Reads w B size (if cap = k then A else A.map (·.add (k * size))) (n - k) (xs.drop (k * size)) := by
  refine ⟨by rw [List.length_drop, h.1, Nat.sub_mul], fun hn => ?_⟩
  obtain ⟨ad, rfl, hb, hcell⟩ := h.2 (by omega)
  rw [if_neg (by omega)]
  refine ⟨ad.add (k * size), rfl, by rw [block_of_add]; exact hb, fun j u hu => ?_⟩
  rw [add_of_add]
  exact hcell _ u (by rw [← hu, List.getElem?_drop])
theorem Reads.of_own {base : Nat} {e : TypeId} {c : Nat} (h : w.ownsRow base e size (.slice A n c) n xs) : Reads w w.heap.size size A n xs := by
  refine ⟨h.1, fun hn => ?_⟩
  obtain ⟨g, cap, hv, _, hlt⟩ := h.form hn
  have hA : A = some ⟨g, 0, none⟩ := by injection hv
  subst hA
  exact ⟨_, rfl, hlt, h.cells (g := g) rfl⟩
end

def Blk (w : World) (g : Nat) (t : TypeId) (cs : Array Value) : Prop := w.heap[g]? = some (.cells cs t (0, 0))

section
variable {w w' : World} {g : Nat} {t : TypeId} {cs : Array Value}
theorem Blk.lt (h : Blk w g t cs) : g < w.heap.size := by
  rcases Nat.lt_or_ge g w.heap.size with hlt | hge
  · exact hlt
  · unfold Blk at h; rw [Array.getElem?_eq_none hge] at h; cases h
theorem Blk.cell (h : Blk w g t cs) (i : Nat) : w.cell? ⟨g, i, none⟩ = cs[i]? := cell_of_row w g i cs t (0, 0) h
theorem Blk.frozen (h : Blk w g t cs) (i : Nat) : w.frozen? ⟨g, i, none⟩ = false := by
  unfold Blk at h
  simp [World.frozen?, h]
theorem Blk.new (w : World) (t : TypeId) (cs : Array Value) : Blk (w.alloc (.cells cs t)) w.heap.size t cs := heap_alloc_new w _
theorem Blk.drew (h : Blk w g t cs) : Blk w.drew g t cs := h
theorem Blk.drewN (h : Blk w g t cs) (n : Nat) : Blk (w.drewN n) g t cs := h
theorem Blk.alloc (h : Blk w g t cs) (o : Obj) : Blk (w.alloc o) g t cs := (Below.heap_alloc w o g h.lt).trans h
theorem Blk.set_ (h : Blk w g t cs) (i : Nat) (u : Value) : Blk (w.setCell ⟨g, i, none⟩ u) g t (cs.setIfInBounds i u) := by
  unfold Blk at h ⊢
  simp [World.setCell, Array.getElem?_modify, h]
theorem Blk.far (h : Blk w g t cs) {p : Addr} (hp : g ≠ p.block) (u : Value) : Blk (w.setCell p u) g t cs := (Below.heap_setCell w p u g hp).trans h
theorem Blk.below {B : Nat} (h : Blk w g t cs) (hb : Below B w w') (hg : g < B) : Blk w' g t cs := (hb.block g hg).trans h
theorem Blk.grown {row : Option Nat} (h : Blk w g t cs) (hb : w.grownBy w' row) (hg : some g ≠ row) : Blk w' g t cs := (hb.block g h.lt hg).trans h
theorem Blk.ne_ {g' : Nat} {t' : TypeId} {cs' : Array Value} (h : Blk w g t cs) (h' : Blk w g' t' cs') (hne : t ≠ t') : g ≠ g' := by
  rintro rfl
  unfold Blk at h h'
  rw [h] at h'
  injection h' with h'
  injection h' with _ ht
  exact hne ht
theorem own_blk_ne {base : Nat} {e : TypeId} {size n : Nat} {v : Value} {xs : List Value} (h : w.ownsRow base e size v n xs) (hg : Blk w g t cs) (hne : e ≠ t) : v.ownBlock ≠ some g := by
  rcases h.2 with ⟨rfl, _⟩ | ⟨g', cap, cur, rfl, _, hh, _⟩
  · simp [Value.ownBlock]
  · intro he
    have : g' = g := by simpa [Value.ownBlock] using he
    subst this
    exact Blk.ne_ (t := e) hh hg hne rfl
end

section
variable {P : Program} (w : World)

theorem run_append_of_nil (base : Nat) (t ty e : TypeId) (i : TypeInfo) (size : Nat) (ht : P.underlying t = some (.slice e)) (hi : P.info? e = some i)
    (v : Value) (n : Nat) (xs : List Value) (hown : w.ownsRow base e size v n xs) (c : Nat) : (Builtin.append_ #[t, t] ty #[v, .slice none 0 c]).run P w = .ok v w := by
  rcases hown.2 with ⟨rfl, rfl⟩ | ⟨g, cap, cur, rfl, _, _, hnc, _⟩
  · simp [Builtin.append_, run_underlying ht, sizeOf, typeInfo, hi, Builtin.lenOf, Builtin.firstCells]
  · simp [Builtin.append_, run_underlying ht, sizeOf, typeInfo, hi, Builtin.lenOf, Builtin.firstCells, hnc, storeCells]

theorem run_append_any (base : Nat) (t ty e : TypeId) (i : TypeInfo) (z : Value) (size bytes : Nat) (ht : P.underlying t = some (.slice e)) (hi : P.info? e = some i) (hz : i.zero = some z)
    (hsize : i.size = size) (hby : i.bytes = bytes) (hzs : z.cells.size = size) (hsz : 0 < size)
    (v : Value) (n : Nat) (xs : List Value) (hown : w.ownsRow base e size v n xs)
    (B : Nat) (A : Option Addr) (m c : Nat) (news : List Value) (hr : Reads w B size A m news) (h1 : ∀ u ∈ news, u.oneCell' = true)
    (h63 : n + m ≤ maxLen) (hbytes : (n + m) * bytes ≤ 140737488355328) (hbase : base ≤ w.heap.size) :
    ∃ v' w', (Builtin.append_ #[t, t] ty #[v, .slice A m c]).run P w = .ok v' w' ∧ w'.ownsRow base e size v' (n + m) (xs ++ news) ∧ w.grownBy w' v.ownBlock ∧
      (v'.ownBlock = v.ownBlock ∨ v'.ownBlock = some w.heap.size) := by
  rcases A with _ | ad
  · have hm : m = 0 := by
      rcases Nat.eq_zero_or_pos m with h0 | h0
      · exact h0
      · obtain ⟨ad, h, _⟩ := hr.2 h0
        cases h
    subst hm
    have hn : news = [] := List.eq_nil_of_length_eq_zero (by simpa using hr.1)
    subst hn
    exact ⟨v, w, run_append_of_nil w base t ty e i size ht hi v n xs hown c, by simpa using hown, World.grownBy.refl w _, .inl rfl⟩
  · have hcells : ∀ j u, news[j]? = some u → w.cell? (ad.add j) = some u := by
      intro j u hu
      rcases Nat.eq_zero_or_pos m with h0 | h0
      · subst h0
        have hn : news = [] := List.eq_nil_of_length_eq_zero (by simpa using hr.1)
        subst hn
        simp at hu
      · obtain ⟨ad', h, _, hc⟩ := hr.2 h0
        injection h with h
        subst h
        exact hc j u hu
    obtain ⟨v', w', hrun, h2, h3, _, h5⟩ := run_append_own_at (P := P) w base t ty e i z size bytes ht hi hz hsize hby hzs hsz v n xs hown ad m c news hr.1 hcells h1 h63 hbytes hbase
    exact ⟨v', w', hrun, h2, h3, h5⟩

theorem wp_append_any {o : Oper} {a : Act} {K : Act → World → Prop} {Q : Exit → Act → World → Prop} (s x : Operand) (t : TypeId)
    (ho : o.op = .call { callee := .builtin .append, args := #[s, x], argTypes := #[t, t] })
    (base : Nat) (e : TypeId) (i : TypeInfo) (z : Value) (size bytes : Nat) (ht : P.underlying t = some (.slice e)) (hi : P.info? e = some i) (hz : i.zero = some z)
    (hsize : i.size = size) (hby : i.bytes = bytes) (hzs : z.cells.size = size) (hsz : 0 < size)
    (v : Value) (n : Nat) (xs : List Value) (hs : a.eval s = v) (hown : w.ownsRow base e size v n xs)
    (B : Nat) (A : Option Addr) (m c : Nat) (news : List Value) (hx : a.eval x = .slice A m c) (hr : Reads w B size A m news) (h1 : ∀ u ∈ news, u.oneCell' = true)
    (h63 : n + m ≤ maxLen) (hbytes : (n + m) * bytes ≤ 140737488355328) (hbase : base ≤ w.heap.size)
    (h : ∀ v' w', w'.ownsRow base e size v' (n + m) (xs ++ news) → w.grownBy w' v.ownBlock → (v'.ownBlock = v.ownBlock ∨ v'.ownBlock = some w.heap.size) → K (a.put o.dst v') w') : o.wp P a w K Q := by
  obtain ⟨v', w', hrun, h2, h3, h4⟩ := run_append_any (P := P) w base t o.type e i z size bytes ht hi hz hsize hby hzs hsz v n xs hown B A m c news hr h1 h63 hbytes hbase
  unfold Oper.wp execOp
  simp only [ho, resolve, invoke, builtin, Sem.run_bind, Sem.run_pure, Result.andThen_ok, List.map_toArray, List.map_cons, List.map_nil, hs, hx, hrun]
  exact h v' w' h2 h3 h4

theorem wpList_append_any {ops : Array Oper} {rest : List Oper} {o : Oper} {a : Act} {Q : Exit → Act → World → Prop} (hgd : o.guard = none) (s x : Operand) (t : TypeId)
    (ho : o.op = .call { callee := .builtin .append, args := #[s, x], argTypes := #[t, t] })
    (base : Nat) (e : TypeId) (i : TypeInfo) (z : Value) (size bytes : Nat) (ht : P.underlying t = some (.slice e)) (hi : P.info? e = some i) (hz : i.zero = some z)
    (hsize : i.size = size) (hby : i.bytes = bytes) (hzs : z.cells.size = size) (hsz : 0 < size)
    (v : Value) (n : Nat) (xs : List Value) (hs : a.eval s = v) (hown : w.ownsRow base e size v n xs)
    (B : Nat) (A : Option Addr) (m c : Nat) (news : List Value) (hx : a.eval x = .slice A m c) (hr : Reads w B size A m news) (h1 : ∀ u ∈ news, u.oneCell' = true)
    (h63 : n + m ≤ maxLen) (hbytes : (n + m) * bytes ≤ 140737488355328) (hbase : base ≤ w.heap.size)
    (h : ∀ v' w', w'.ownsRow base e size v' (n + m) (xs ++ news) → w.grownBy w' v.ownBlock → (v'.ownBlock = v.ownBlock ∨ v'.ownBlock = some w.heap.size) → wpList P ops Q rest (a.put o.dst v') w') : wpList P ops Q (o :: rest) a w :=
  wpList_plain hgd fun _ hK => wp_append_any w s x t ho base e i z size bytes ht hi hz hsize hby hzs hsz v n xs hs hown B A m c news hx hr h1 h63 hbytes hbase fun v' w' h2 h3 h4 => hK _ _ (h v' w' h2 h3 h4)

theorem step_append_any {ops : Array Oper} {o : Oper} {a : Act} {K : Act → World → Prop} {Q : Exit → Act → World → Prop} {E : Prop} (hgd : o.guard = none) (s x : Operand) (t : TypeId)
    (ho : o.op = .call { callee := .builtin .append, args := #[s, x], argTypes := #[t, t] })
    (base : Nat) (e : TypeId) (i : TypeInfo) (z : Value) (size bytes : Nat) (ht : P.underlying t = some (.slice e)) (hi : P.info? e = some i) (hz : i.zero = some z)
    (hsize : i.size = size) (hby : i.bytes = bytes) (hzs : z.cells.size = size) (hsz : 0 < size)
    (v : Value) (n : Nat) (xs : List Value) (hs : a.eval s = v) (hown : w.ownsRow base e size v n xs)
    (B : Nat) (A : Option Addr) (m c : Nat) (news : List Value) (hx : a.eval x = .slice A m c) (hr : Reads w B size A m news) (h1 : ∀ u ∈ news, u.oneCell' = true)
    (h63 : n + m ≤ maxLen) (hbytes : (n + m) * bytes ≤ 140737488355328) (hbase : base ≤ w.heap.size)
    (h : ∀ v' w', w'.ownsRow base e size v' (n + m) (xs ++ news) → w.grownBy w' v.ownBlock → (v'.ownBlock = v.ownBlock ∨ v'.ownBlock = some w.heap.size) → K (a.put o.dst v') w') :
    if Region.wanted o (yielded ops a.tmps) = true then Oper.wp P o a w K Q else E := by
  have hw : Region.wanted o (yielded ops a.tmps) = true := by simp [Region.wanted, hgd]
  rw [if_pos hw]
  exact wp_append_any w s x t ho base e i z size bytes ht hi hz hsize hby hzs hsz v n xs hs hown B A m c news hx hr h1 h63 hbytes hbase h
end

end Go.Proofs.YtemceefalkfneaaGreatDoor
