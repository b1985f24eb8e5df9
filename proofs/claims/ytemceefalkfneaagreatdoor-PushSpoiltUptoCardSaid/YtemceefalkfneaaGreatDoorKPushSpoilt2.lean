/- Parts, joined: Rows that a call builds by append, whose data may share old memory. Plain. No condition. Rows that a call builds by append: several data at once; a row's literal. Plain. No condition. -/
import Derived.Test.YtemceefalkfneaaGreatDoorKCm3
/- Rows that a call builds by append, whose data may share old memory. Plain. No condition. -/
namespace Go.Proofs.YtemceefalkfneaaGreatDoor
open Go Go.RowKit

/-- These cells hold this datum in every world that agrees with w on the blocks of S. -/
def HoldsIn (S : Nat → Prop) (w : World) (d : D) (cs : List Value) : Prop :=
  ∀ w'' : World, w.heap.size ≤ w''.heap.size → (∀ p : Addr, S p.block → p.block < w.heap.size → w''.cell? p = w.cell? p) → Holds w'' w.heap.size d cs
def HoldsInA (S : Nat → Prop) (w : World) (l : List D) (cs : List Value) : Prop :=
  ∀ w'' : World, w.heap.size ≤ w''.heap.size → (∀ p : Addr, S p.block → p.block < w.heap.size → w''.cell? p = w.cell? p) → HoldsA w'' w.heap.size l cs
theorem HoldsIn.now {S : Nat → Prop} {w : World} {d : D} {cs : List Value} (h : HoldsIn S w d cs) : Holds w w.heap.size d cs := h w (Nat.le_refl _) fun _ _ _ => rfl
theorem HoldsInA.now {S : Nat → Prop} {w : World} {l : List D} {cs : List Value} (h : HoldsInA S w l cs) : HoldsA w w.heap.size l cs := h w (Nat.le_refl _) fun _ _ _ => rfl
theorem HoldsIn.mono {S T : Nat → Prop} {w : World} {d : D} {cs : List Value} (h : HoldsIn S w d cs) (hST : ∀ i, i < w.heap.size → S i → T i) : HoldsIn T w d cs :=
  fun w'' h1 h2 => h w'' h1 fun p p1 p2 => h2 p (hST _ p2 p1) p2
theorem HoldsIn.of_fresh {b : Nat} {w : World} {d : D} {cs : List Value} (h : Fresh b w d cs) : HoldsIn (fun i => b ≤ i) w d cs := h
/-- What lies in old memory. -/
theorem HoldsIn.of_old {B : Nat} {w w' : World} {d : D} {cs : List Value} (h : Holds w B d cs) (hB : B ≤ w.heap.size) (hb : Below B w w') : HoldsIn (fun i => i < B) w' d cs := fun _ _ h2 =>
  (h.keep (fun p hp => (h2 p hp (Nat.lt_of_lt_of_le hp (Nat.le_trans hB hb.size))).trans (hb.cell hp))).more (Nat.le_trans hB hb.size)
/-- The world has grown, and nothing of it was written. -/
theorem HoldsIn.later {S : Nat → Prop} {w w' : World} {d : D} {cs : List Value} (h : HoldsIn S w d cs) (hs : w.heap.size ≤ w'.heap.size) (hk : ∀ p : Addr, S p.block → p.block < w.heap.size → w'.cell? p = w.cell? p) : HoldsIn S w' d cs := fun w'' h1 h2 =>
  (h w'' (Nat.le_trans hs h1) fun p p1 p2 => (h2 p p1 (Nat.lt_of_lt_of_le p2 hs)).trans (hk p p1 p2)).more hs
theorem HoldsIn.below {S : Nat → Prop} {w w' : World} {d : D} {cs : List Value} (h : HoldsIn S w d cs) (hb : Below w.heap.size w w') : HoldsIn S w' d cs := h.later hb.size fun _ _ p2 => hb.cell p2
theorem HoldsInA.one {S : Nat → Prop} {w : World} {d : D} {cs : List Value} (h : HoldsIn S w d cs) : HoldsInA S w [d] cs := fun w'' h1 h2 => HoldsA.one (h w'' h1 h2)
theorem HoldsInA.app {S : Nat → Prop} {w : World} {l r : List D} {cs es : List Value} (h : HoldsInA S w l cs) (k : HoldsInA S w r es) : HoldsInA S w (l ++ r) (cs ++ es) := fun w'' h1 h2 => (h w'' h1 h2).app (k w'' h1 h2)
/-- A slice over a block of S that is known whole. -/
theorem HoldsIn.blk {S : Nat → Prop} {w : World} {g : Nat} {t : TypeId} {cs : Array Value} {l : List D} {s n c : Nat} (h : Blk w g t cs) (hS : S g) (hs : ∀ d ∈ l, d.cells = s) (hA : HoldsInA S w l cs.toList) (hn : n = l.length) : HoldsIn S w (.row s l) [.slice (some ⟨g, 0, none⟩) n c] := by
  subst hn
  intro w'' h1 h2
  exact ⟨_, c, rfl, hs, cs.toList, hA w'' h1 h2, .inr ⟨g, 0, rfl, h.lt, fun j u hu => by
    rw [Nat.zero_add, h2 ⟨g, j, none⟩ hS h.lt]
    exact (h.cell j).trans (by rw [← Array.getElem?_toList]; exact hu)⟩⟩

/-- A row that the call has built so far (blocks from b on); its data hold in every world that agrees on the blocks of S0, but for the row's own. -/
def RowX (S0 : Nat → Prop) (b : Nat) (t : TypeId) (s : Nat) (wr : World) (l : List D) (V : Value) : Prop :=
  ∃ ns, wr.ownsRow b t s V l.length ns ∧ (∀ d ∈ l, d.cells = s) ∧ HoldsInA (fun i => S0 i ∧ V.ownBlock ≠ some i) wr l ns
theorem RowX.nil (S0 : Nat → Prop) (b : Nat) (t : TypeId) (s : Nat) (wr : World) : RowX S0 b t s wr [] (.slice none 0 0) := ⟨[], World.ownsRow_nil _ _ _ _, fun d hd => (by cases hd), fun _ _ _ => rfl⟩
theorem RowX.base {S0 : Nat → Prop} {b : Nat} {t : TypeId} {s : Nat} {wr : World} {l : List D} {V : Value} (h : RowX S0 b t s wr l V) : ∀ g, V.ownBlock = some g → b ≤ g ∧ g < wr.heap.size := by
  obtain ⟨ns, h1, _⟩ := h
  exact h1.lt
theorem RowX.keep {S0 : Nat → Prop} {b : Nat} {t : TypeId} {s : Nat} {wr w' : World} {l : List D} {V : Value} (h : RowX S0 b t s wr l V) (hs : wr.heap.size ≤ w'.heap.size) (hk : ∀ i, i < wr.heap.size → w'.heap[i]? = wr.heap[i]?) : RowX S0 b t s w' l V := by
  obtain ⟨ns, h1, h2, h3⟩ := h
  refine ⟨ns, ⟨h1.1, ?_⟩, h2, fun w'' k1 k2 => HoldsA.more (h3 w'' (by omega) (fun p p1 p2 => (k2 p p1 (by omega)).trans (World.cell?_of_block (hk p.block p2)))) hs⟩
  rcases h1.2 with ⟨rfl, h0⟩ | ⟨g, cap, cur, rfl, hbg, hg, h5⟩
  · exact .inl ⟨rfl, h0⟩
  · exact .inr ⟨g, cap, cur, rfl, hbg, (hk g (Array.getElem?_eq_some_iff.1 hg).1).trans hg, h5⟩
theorem RowX.below {S0 : Nat → Prop} {b : Nat} {t : TypeId} {s : Nat} {wr w' : World} {l : List D} {V : Value} (h : RowX S0 b t s wr l V) (hb : Below wr.heap.size wr w') : RowX S0 b t s w' l V := h.keep hb.size fun i hi => hb.block i hi
theorem RowX.slice {S0 : Nat → Prop} {b : Nat} {t : TypeId} {s : Nat} {wr : World} {l : List D} {V : Value} (h : RowX S0 b t s wr l V) : ∃ a c, V = .slice a l.length c := by
  obtain ⟨ns, h1, _⟩ := h
  rcases h1.2 with ⟨rfl, h0⟩ | ⟨g, cap, cur, rfl, _⟩
  · exact ⟨_, _, by rw [h0]⟩
  · exact ⟨_, _, rfl⟩
theorem RowX.slice_n {S0 : Nat → Prop} {b : Nat} {t : TypeId} {s n : Nat} {wr : World} {l : List D} {V : Value} (h : RowX S0 b t s wr l V) (hn : l.length = n) : ∃ a c, V = .slice a n c := by
  subst hn; exact h.slice
/-- The row, done: what it holds at the world at hand. -/
theorem RowX.close {S0 : Nat → Prop} {b : Nat} {t : TypeId} {s : Nat} {wr : World} {l : List D} {a : Option Addr} {n c : Nat} (h : RowX S0 b t s wr l (.slice a n c)) : Holds wr wr.heap.size (.row s l) [.slice a n c] := by
  obtain ⟨ns, h1, h2, h3⟩ := h
  have h1' := h1
  rcases h1.2 with ⟨e, h0⟩ | ⟨g, cap, cur, e, hbg, hg, hnc, _⟩
  · cases e
    have hl : l = [] := List.eq_nil_of_length_eq_zero h0
    subst hl
    exact ⟨none, 0, rfl, h2, [], rfl, .inl rfl⟩
  · cases e
    have hgl := (Array.getElem?_eq_some_iff.1 hg).1
    refine ⟨_, _, rfl, h2, ns, h3.now, .inr ⟨g, 0, rfl, hgl, fun j u hu => ?_⟩⟩
    have h5 := h1'.cells (g := g) rfl j u hu
    rwa [add_plain'] at h5

/-- The row, done: it hangs on the blocks of S0 and on its own. -/
theorem RowX.closeIn {S0 : Nat → Prop} {b : Nat} {t : TypeId} {s : Nat} {wr : World} {l : List D} {a : Option Addr} {n c : Nat} (h : RowX S0 b t s wr l (.slice a n c)) : HoldsIn (fun i => S0 i ∨ (Value.slice a n c).ownBlock = some i) wr (.row s l) [.slice a n c] := by
  obtain ⟨ns, h1, h2, h3⟩ := h
  have h1' := h1
  intro w'' k1 k2
  have hA := h3 w'' k1 fun p p1 p2 => k2 p (.inl p1.1) p2
  rcases h1.2 with ⟨e, h0⟩ | ⟨g, cap, cur, e, hbg, hg, hnc, _⟩
  · cases e
    have hl : l = [] := List.eq_nil_of_length_eq_zero h0
    subst hl
    exact ⟨none, 0, rfl, h2, [], rfl, .inl rfl⟩
  · cases e
    have hgl := (Array.getElem?_eq_some_iff.1 hg).1
    refine ⟨_, _, rfl, h2, ns, hA, .inr ⟨g, 0, rfl, hgl, fun j u hu => ?_⟩⟩
    have h5 := h1'.cells (g := g) rfl j u hu
    rw [add_plain'] at h5
    exact (k2 ⟨g, 0 + j, none⟩ (.inr rfl) hgl).trans h5

section
variable {P : Program}
theorem run_append_X {t ty e : TypeId} {i : TypeInfo} {z : Value} {sz bytes : Nat} (ht : P.underlying t = some (.slice e)) (hi : P.info? e = some i) (hz : i.zero = some z) (hsize : i.size = sz) (hby : i.bytes = bytes) (hzs : z.cells.size = sz) (hsz : 0 < sz)
    {S0 : Nat → Prop} {b : Nat} {w : World} {l : List D} {V : Value} (hrow : RowX S0 b e sz w l V) (hbw : b ≤ w.heap.size) {d : D} {cs : List Value} (hd : d.cells = sz) (hx : HoldsIn (fun i => S0 i ∧ V.ownBlock ≠ some i) w d cs)
    {B : Nat} {A : Option Addr} {c : Nat} (hr : Reads w B sz A 1 cs) (h63 : l.length + 1 ≤ maxLen) (hbytes : (l.length + 1) * bytes ≤ 140737488355328) :
    ∃ V' w6, (Builtin.append_ #[t, t] ty #[V, .slice A 1 c]).run P w = .ok V' w6 ∧ RowX S0 b e sz w6 (l ++ [d]) V' ∧ w.grownBy w6 V.ownBlock ∧ (V'.ownBlock = V.ownBlock ∨ V'.ownBlock = some w.heap.size) := by
  obtain ⟨ns, h1, h2, h3⟩ := hrow
  obtain ⟨V', w6, hrun, g1, g2, g3⟩ := run_append_any (P := P) w b t ty e i z sz bytes ht hi hz hsize hby hzs hsz V l.length ns h1 B A 1 c cs hr hx.now.len.2 h63 hbytes hbw
  refine ⟨V', w6, hrun, ⟨ns ++ cs, by rw [List.length_append]; exact g1, ?_, ?_⟩, g2, g3⟩
  · intro x hx'
    rcases List.mem_append.1 hx' with hx' | hx'
    · exact h2 x hx'
    · simp only [List.mem_cons, List.not_mem_nil, or_false] at hx'
      rw [hx']; exact hd
  · have key : ∀ p : Addr, V.ownBlock ≠ some p.block → p.block < w.heap.size → V'.ownBlock ≠ some p.block := by
      intro p p1 p2
      rcases g3 with e3 | e3
      · rw [e3]; exact p1
      · rw [e3]; intro e4; have := Option.some.inj e4; omega
    have hag : ∀ w'' : World, w6.heap.size ≤ w''.heap.size → (∀ p : Addr, S0 p.block ∧ V'.ownBlock ≠ some p.block → p.block < w6.heap.size → w''.cell? p = w6.cell? p) → ∀ p : Addr, S0 p.block ∧ V.ownBlock ≠ some p.block → p.block < w.heap.size → w''.cell? p = w.cell? p := by
      intro w'' k1 k2 p p1 p2
      rw [k2 p ⟨p1.1, key p p1.2 p2⟩ (Nat.lt_of_lt_of_le p2 g2.size)]
      exact World.cell?_of_block (g2.block p.block p2 (fun e => p1.2 e.symm))
    intro w'' k1 k2
    have a1 := HoldsA.more (h3 w'' (Nat.le_trans g2.size k1) (hag w'' k1 k2)) g2.size
    have a2 := Holds.more (hx w'' (Nat.le_trans g2.size k1) (hag w'' k1 k2)) g2.size
    exact a1.snoc a2
theorem wp_append_X {o : Oper} {a : Act} {w : World} {K : Act → World → Prop} {Q : Exit → Act → World → Prop} (s x : Operand) (t : TypeId) {e : TypeId}
    (ho : o.op = .call { callee := .builtin .append, args := #[s, x], argTypes := #[t, t] }) {i : TypeInfo} {z : Value} {sz bytes : Nat} (ht : P.underlying t = some (.slice e)) (hi : P.info? e = some i) (hz : i.zero = some z) (hsize : i.size = sz) (hby : i.bytes = bytes) (hzs : z.cells.size = sz) (hsz : 0 < sz)
    {S0 : Nat → Prop} {b : Nat} {l : List D} {V : Value} (hs : a.eval s = V) (hrow : RowX S0 b e sz w l V) (hbw : b ≤ w.heap.size) {d : D} {cs : List Value} (hd : d.cells = sz) (hf : HoldsIn (fun i => S0 i ∧ V.ownBlock ≠ some i) w d cs)
    {B : Nat} {A : Option Addr} {c : Nat} (hx : a.eval x = .slice A 1 c) (hr : Reads w B sz A 1 cs) (h63 : l.length + 1 ≤ maxLen) (hbytes : (l.length + 1) * bytes ≤ 140737488355328)
    (h : ∀ V' w6, RowX S0 b e sz w6 (l ++ [d]) V' → w.grownBy w6 V.ownBlock → (V'.ownBlock = V.ownBlock ∨ V'.ownBlock = some w.heap.size) → K (a.put o.dst V') w6) : o.wp P a w K Q := by
  obtain ⟨V', w6, hrun, g1, g2, g3⟩ := run_append_X (ty := o.type) (c := c) ht hi hz hsize hby hzs hsz hrow hbw hd hf hr h63 hbytes
  unfold Oper.wp execOp
  simp only [ho, resolve, invoke, builtin, Sem.run_bind, Sem.run_pure, Result.andThen_ok, List.map_toArray, List.map_cons, List.map_nil, hs, hx, hrun]
  exact h V' w6 g1 g2 g3
theorem wpList_append_X {ops : Array Oper} {rest : List Oper} {o : Oper} {a : Act} {w : World} {Q : Exit → Act → World → Prop} (hgd : o.guard = none) (s x : Operand) (t : TypeId) {e : TypeId}
    (ho : o.op = .call { callee := .builtin .append, args := #[s, x], argTypes := #[t, t] }) {i : TypeInfo} {z : Value} {sz bytes : Nat} (ht : P.underlying t = some (.slice e)) (hi : P.info? e = some i) (hz : i.zero = some z) (hsize : i.size = sz) (hby : i.bytes = bytes) (hzs : z.cells.size = sz) (hsz : 0 < sz)
    {S0 : Nat → Prop} {b : Nat} {l : List D} {V : Value} (hs : a.eval s = V) (hrow : RowX S0 b e sz w l V) (hbw : b ≤ w.heap.size) {d : D} {cs : List Value} (hd : d.cells = sz) (hf : HoldsIn (fun i => S0 i ∧ V.ownBlock ≠ some i) w d cs)
    {B : Nat} {A : Option Addr} {c : Nat} (hx : a.eval x = .slice A 1 c) (hr : Reads w B sz A 1 cs) (h63 : l.length + 1 ≤ maxLen) (hbytes : (l.length + 1) * bytes ≤ 140737488355328)
    (h : ∀ V' w6, RowX S0 b e sz w6 (l ++ [d]) V' → w.grownBy w6 V.ownBlock → (V'.ownBlock = V.ownBlock ∨ V'.ownBlock = some w.heap.size) → wpList P ops Q rest (a.put o.dst V') w6) : wpList P ops Q (o :: rest) a w :=
  wpList_plain hgd fun _ hK => wp_append_X s x t ho ht hi hz hsize hby hzs hsz hs hrow hbw hd hf hx hr h63 hbytes fun V' w6 h2 h3 h4 => hK _ _ (h V' w6 h2 h3 h4)
theorem step_append_X {ops : Array Oper} {o : Oper} {a : Act} {w : World} {K : Act → World → Prop} {Q : Exit → Act → World → Prop} {E : Prop} (hgd : o.guard = none) (s x : Operand) (t : TypeId) {e : TypeId}
    (ho : o.op = .call { callee := .builtin .append, args := #[s, x], argTypes := #[t, t] }) {i : TypeInfo} {z : Value} {sz bytes : Nat} (ht : P.underlying t = some (.slice e)) (hi : P.info? e = some i) (hz : i.zero = some z) (hsize : i.size = sz) (hby : i.bytes = bytes) (hzs : z.cells.size = sz) (hsz : 0 < sz)
    {S0 : Nat → Prop} {b : Nat} {l : List D} {V : Value} (hs : a.eval s = V) (hrow : RowX S0 b e sz w l V) (hbw : b ≤ w.heap.size) {d : D} {cs : List Value} (hd : d.cells = sz) (hf : HoldsIn (fun i => S0 i ∧ V.ownBlock ≠ some i) w d cs)
    {B : Nat} {A : Option Addr} {c : Nat} (hx : a.eval x = .slice A 1 c) (hr : Reads w B sz A 1 cs) (h63 : l.length + 1 ≤ maxLen) (hbytes : (l.length + 1) * bytes ≤ 140737488355328)
    (h : ∀ V' w6, RowX S0 b e sz w6 (l ++ [d]) V' → w.grownBy w6 V.ownBlock → (V'.ownBlock = V.ownBlock ∨ V'.ownBlock = some w.heap.size) → K (a.put o.dst V') w6) :
    if Region.wanted o (yielded ops a.tmps) = true then Oper.wp P o a w K Q else E := by
  have hw : Region.wanted o (yielded ops a.tmps) = true := by simp [Region.wanted, hgd]
  rw [if_pos hw]
  exact wp_append_X s x t ho ht hi hz hsize hby hzs hsz hs hrow hbw hd hf hx hr h63 hbytes h
end
end Go.Proofs.YtemceefalkfneaaGreatDoor

/- Rows that a call builds by append: several data at once; a row's literal. Plain. No condition. -/
namespace Go.Proofs.YtemceefalkfneaaGreatDoor
open Go Go.RowKit

/-- A literal of one datum. -/
theorem RowX.lit {S0 : Nat → Prop} {b : Nat} {t : TypeId} {w : World} {d : D} {cs : Array Value} (hb : b ≤ w.heap.size) (hd : d.cells = cs.size) (h : HoldsIn (fun i => S0 i ∧ i ≠ w.heap.size) (w.alloc (.cells cs t)) d cs.toList) :
    RowX S0 b t cs.size (w.alloc (.cells cs t)) [d] (.slice (some ⟨w.heap.size, 0, none⟩) 1 1) := by
  refine ⟨cs.toList, ⟨by simp, .inr ⟨w.heap.size, 1, cs, rfl, hb, heap_alloc_new w _, Nat.le_refl _, by unfold maxLen; omega, by simp, ?_⟩⟩, fun x hx => ?_, HoldsInA.one (h.mono fun i _ hi => ⟨hi.1, fun e => hi.2 (Option.some.inj (e : some w.heap.size = some i)).symm⟩)⟩
  · simp only [List.length_cons, List.length_nil, Nat.zero_add, Nat.one_mul]
    rw [← Array.length_toList, List.take_length]
  · simp only [List.mem_cons, List.not_mem_nil, or_false] at hx
    rw [hx]; exact hd

section
variable {P : Program}
theorem run_append_L {t ty e : TypeId} {i : TypeInfo} {z : Value} {sz bytes : Nat} (ht : P.underlying t = some (.slice e)) (hi : P.info? e = some i) (hz : i.zero = some z) (hsize : i.size = sz) (hby : i.bytes = bytes) (hzs : z.cells.size = sz) (hsz : 0 < sz)
    {S0 : Nat → Prop} {b : Nat} {w : World} {l : List D} {V : Value} (hrow : RowX S0 b e sz w l V) (hbw : b ≤ w.heap.size) {dl : List D} {cs : List Value} (hd : ∀ d ∈ dl, d.cells = sz) (hx : HoldsInA (fun i => S0 i ∧ V.ownBlock ≠ some i) w dl cs)
    {B : Nat} {A : Option Addr} {n c : Nat} (hr : Reads w B sz A n cs) (hn : n = dl.length) (h63 : l.length + n ≤ maxLen) (hbytes : (l.length + n) * bytes ≤ 140737488355328) :
    ∃ V' w6, (Builtin.append_ #[t, t] ty #[V, .slice A n c]).run P w = .ok V' w6 ∧ RowX S0 b e sz w6 (l ++ dl) V' ∧ w.grownBy w6 V.ownBlock ∧ (V'.ownBlock = V.ownBlock ∨ V'.ownBlock = some w.heap.size) := by
  subst hn
  obtain ⟨ns, h1, h2, h3⟩ := hrow
  obtain ⟨V', w6, hrun, g1, g2, g3⟩ := run_append_any (P := P) w b t ty e i z sz bytes ht hi hz hsize hby hzs hsz V l.length ns h1 B A dl.length c cs hr hx.now.len.2 h63 hbytes hbw
  refine ⟨V', w6, hrun, ⟨ns ++ cs, by rw [List.length_append]; exact g1, ?_, ?_⟩, g2, g3⟩
  · intro x hx'
    rcases List.mem_append.1 hx' with hx' | hx'
    · exact h2 x hx'
    · exact hd x hx'
  · have key : ∀ p : Addr, V.ownBlock ≠ some p.block → p.block < w.heap.size → V'.ownBlock ≠ some p.block := by
      intro p p1 p2
      rcases g3 with e3 | e3
      · rw [e3]; exact p1
      · rw [e3]; intro e4; have := Option.some.inj e4; omega
    have hag : ∀ w'' : World, w6.heap.size ≤ w''.heap.size → (∀ p : Addr, S0 p.block ∧ V'.ownBlock ≠ some p.block → p.block < w6.heap.size → w''.cell? p = w6.cell? p) → ∀ p : Addr, S0 p.block ∧ V.ownBlock ≠ some p.block → p.block < w.heap.size → w''.cell? p = w.cell? p := by
      intro w'' k1 k2 p p1 p2
      rw [k2 p ⟨p1.1, key p p1.2 p2⟩ (Nat.lt_of_lt_of_le p2 g2.size)]
      exact World.cell?_of_block (g2.block p.block p2 (fun e => p1.2 e.symm))
    intro w'' k1 k2
    have a1 := HoldsA.more (h3 w'' (Nat.le_trans g2.size k1) (hag w'' k1 k2)) g2.size
    have a2 := HoldsA.more (hx w'' (Nat.le_trans g2.size k1) (hag w'' k1 k2)) g2.size
    exact a1.app a2
theorem wp_append_L {o : Oper} {a : Act} {w : World} {K : Act → World → Prop} {Q : Exit → Act → World → Prop} (s x : Operand) (t : TypeId) {e : TypeId}
    (ho : o.op = .call { callee := .builtin .append, args := #[s, x], argTypes := #[t, t] }) {i : TypeInfo} {z : Value} {sz bytes : Nat} (ht : P.underlying t = some (.slice e)) (hi : P.info? e = some i) (hz : i.zero = some z) (hsize : i.size = sz) (hby : i.bytes = bytes) (hzs : z.cells.size = sz) (hsz : 0 < sz)
    {S0 : Nat → Prop} {b : Nat} {l : List D} {V : Value} (hs : a.eval s = V) (hrow : RowX S0 b e sz w l V) (hbw : b ≤ w.heap.size) {dl : List D} {cs : List Value} (hd : ∀ d ∈ dl, d.cells = sz) (hf : HoldsInA (fun i => S0 i ∧ V.ownBlock ≠ some i) w dl cs)
    {B : Nat} {A : Option Addr} {n c : Nat} (hx : a.eval x = .slice A n c) (hr : Reads w B sz A n cs) (hn : n = dl.length) (h63 : l.length + n ≤ maxLen) (hbytes : (l.length + n) * bytes ≤ 140737488355328)
    (h : ∀ V' w6, RowX S0 b e sz w6 (l ++ dl) V' → w.grownBy w6 V.ownBlock → (V'.ownBlock = V.ownBlock ∨ V'.ownBlock = some w.heap.size) → K (a.put o.dst V') w6) : o.wp P a w K Q := by
  obtain ⟨V', w6, hrun, g1, g2, g3⟩ := run_append_L (ty := o.type) (c := c) ht hi hz hsize hby hzs hsz hrow hbw hd hf hr hn h63 hbytes
  unfold Oper.wp execOp
  simp only [ho, resolve, invoke, builtin, Sem.run_bind, Sem.run_pure, Result.andThen_ok, List.map_toArray, List.map_cons, List.map_nil, hs, hx, hrun]
  exact h V' w6 g1 g2 g3
theorem wpList_append_L {ops : Array Oper} {rest : List Oper} {o : Oper} {a : Act} {w : World} {Q : Exit → Act → World → Prop} (hgd : o.guard = none) (s x : Operand) (t : TypeId) {e : TypeId}
    (ho : o.op = .call { callee := .builtin .append, args := #[s, x], argTypes := #[t, t] }) {i : TypeInfo} {z : Value} {sz bytes : Nat} (ht : P.underlying t = some (.slice e)) (hi : P.info? e = some i) (hz : i.zero = some z) (hsize : i.size = sz) (hby : i.bytes = bytes) (hzs : z.cells.size = sz) (hsz : 0 < sz)
    {S0 : Nat → Prop} {b : Nat} {l : List D} {V : Value} (hs : a.eval s = V) (hrow : RowX S0 b e sz w l V) (hbw : b ≤ w.heap.size) {dl : List D} {cs : List Value} (hd : ∀ d ∈ dl, d.cells = sz) (hf : HoldsInA (fun i => S0 i ∧ V.ownBlock ≠ some i) w dl cs)
    {B : Nat} {A : Option Addr} {n c : Nat} (hx : a.eval x = .slice A n c) (hr : Reads w B sz A n cs) (hn : n = dl.length) (h63 : l.length + n ≤ maxLen) (hbytes : (l.length + n) * bytes ≤ 140737488355328)
    (h : ∀ V' w6, RowX S0 b e sz w6 (l ++ dl) V' → w.grownBy w6 V.ownBlock → (V'.ownBlock = V.ownBlock ∨ V'.ownBlock = some w.heap.size) → wpList P ops Q rest (a.put o.dst V') w6) : wpList P ops Q (o :: rest) a w :=
  wpList_plain hgd fun _ hK => wp_append_L s x t ho ht hi hz hsize hby hzs hsz hs hrow hbw hd hf hx hr hn h63 hbytes fun V' w6 h2 h3 h4 => hK _ _ (h V' w6 h2 h3 h4)
end
end Go.Proofs.YtemceefalkfneaaGreatDoor
