/- Parts, joined: A range over an iterator that yields a known list, by a body that always goes on: the law that the walks use. No condition. A range over an iterator that yields a known list, each of it in one of several ways (what way, q, is known in the round alone), by a body that always goes on. No condition. An argument that reads as a value of package api: the tree that it is. No condition. -/
import Derived.RangeFuncNested
import Derived.RangeFuncBound
import Derived.RangeFuncCalls
import Derived.RangeFuncLeaves
import Derived.WalkKit
import Derived.OwnWalkIn
import Derived.TacticsInMore
import Derived.Test.YtemceefalkfneaaGreatDoorProg
import Derived.Test.YtemceefalkfneaaGreatDoorRows
import Derived.Deep.Slices
import Derived.WideKeyArgs
import Derived.Test.YtemceefalkfneaaGreatDoorKCm2
/- A range over an iterator that yields a known list, by a body that always goes on: the law that the walks use. No condition. -/
namespace Go.Proofs.YtemceefalkfneaaGreatDoor
open Go.RowKit

/-- The iterator yields the list xs, whatever its rounds do, so they keep what it needs (N). -/
def Yields {α : Type} (P : Program) (gf : Nat) (lb : Array Value) (encs : α → Array Value) (xs : List α) (N : World → Prop) : Prop :=
  ∀ (n l : Nat) (J : List α → World → Prop) (W : World), (∀ s A B, J s A → Below A.heap.size A B → J s B) → (∀ s A, J s A → N A) →
    (∀ pre x rest A, xs = pre ++ x :: rest → J pre A → YieldAt Fence.wide n P l (encs x) A fun e B => e = .returned (.bool true) ∧ J (pre ++ [x]) B) →
    J [] W → CallsIn Fence.wide (n + 1) P gf (#[.func (.yield l) #[] #[]] ++ lb) W fun e B => (∃ v, e = .returned v) ∧ J xs B

/-- How the body of a round is left: at its end. -/
def goesOn (I : World → Prop) (d : Nat) (W : World) : Exit → Act → World → Prop
  | .normal, _, W' => W'.heap[d]? = W.heap[d]? ∧ W'.heap[d + 1]? = W.heap[d + 1]? ∧ I W'
  | _, _, _ => False

theorem wp_range_all {α : Type} {P : Program} {g : Operand} {ps : Array Tmp} {assign body : Code} {Q : Exit → Act → World → Prop} {a : Act} {w : World} {n : Nat}
    {gf : Nat} {lb : Array Value} (hg : a.eval g = .func (.func gf) #[] lb) (eg : ∀ args w, (callFunc gf args).run P w = .ok (.enter gf args) w)
    {encs : α → Array Value} {xs : List α} {N : World → Prop} (hit : Yields P gf lb encs xs N) (hps : ∀ x, (encs x).size = ps.size)
    (I : List α → World → Prop) (hIn : ∀ s A B, I s A → Below A.heap.size A B → I s B)
    (hIp : ∀ s A k o o', I s A → A.heap[k]? = some o → o.isCells = false → (k = w.heap.size ∨ k = w.heap.size + 1) → I s (A.putObj k o'))
    (hIb : ∀ s A, I s A → N A) (h0 : I [] w) (a₁ : α → Act)
    (hassign : ∀ (l : Nat) (x : α) (W : World) (K : Act → World → Prop), K (a₁ x) W →
      assign.wpIn (Fence.wide.inRound l) n P (Exit.then K (fun _ _ _ => False)) { tmps := (ps.zip (encs x)).foldl (fun t (p, v) => t.setIfInBounds p v) a.tmps, defers := [] } W)
    (hbody : ∀ (l : Nat) (pre : List α) (x : α) (rest : List α) (W : World), xs = pre ++ x :: rest → I pre W → (∃ ds, W.heap[w.heap.size]? = some (.deferred ds)) → (∃ r, W.heap[w.heap.size + 1]? = some (.loop r)) →
      body.wpIn (Fence.wide.inRound l) n P (goesOn (I (pre ++ [x])) w.heap.size W) (a₁ x) W)
    (hdone : ∀ (W : World), I xs W → W.heap[w.heap.size]? = some (.deferred (some [])) → Q .normal { a with defers := { target := .collected w.heap.size, args := #[] } :: a.defers } W) :
    (Code.rangeFunc g ps assign body).wpIn Fence.wide (n + 1 + 1) P Q a w := by
  refine wpIn_rangeFunc ?_
  intro fn hfn
  have hro : Fence.wide.round = none := rfl
  rw [hro]
  obtain ⟨rec, hrec⟩ : ∃ rec : LoopState → Option Code → Loop, rec = fun st pe => { state := st, pending := pe, fn, tmps := a.tmps, params := ps, assign, body, defers := w.heap.size } := ⟨_, rfl⟩
  obtain ⟨W1, hW1⟩ : ∃ W1, (w.alloc (.deferred (some []))).alloc (.loop (rec .ready none)) = W1 := ⟨_, rfl⟩
  have hL1 : W1.heap[w.heap.size + 1]? = some (.loop (rec .ready none)) := by
    rw [← hW1]; have := World.alloc_heap_new (w.alloc (.deferred (some []))) (.loop (rec .ready none)); rwa [World.size_alloc] at this
  have hK1 : W1.heap[w.heap.size]? = some (.deferred (some [])) := by
    rw [← hW1]; exact (Below.heap_alloc _ _ _ (by simp)).trans (World.alloc_heap_new w _)
  have hI1 : I [] W1 := by
    rw [← hW1]; exact hIn _ _ _ h0 (((Below.refl _ w).alloc (Nat.le_refl _) _).alloc (by simp) _)
  refine ⟨w.heap.size + 1, [{ target := .collected w.heap.size, args := #[] }], W1, { target := .fn (.func gf) lb, args := #[.func (.yield (w.heap.size + 1)) #[] #[]] }, W1, gf,
    #[.func (.yield (w.heap.size + 1)) #[] #[]] ++ lb, W1, ?_, ?_, ?_, ?_, fun h => by simp [Fence.wide] at h, ?_⟩
  · rw [← hW1, hrec]; exact run_enterLoop_outer _ _ _ _ _
  · simp only [resolve, hg]
    simp [go_sem]
  · intro f' _; trivial
  · simp [invoke, go_sem, eg]
  · refine (hit n (w.heap.size + 1)
      (fun pre W => I pre W ∧ W.heap[w.heap.size + 1]? = some (.loop (rec .ready none)) ∧ W.heap[w.heap.size]? = some (.deferred (some [])))
      W1 (fun s A B hs hb => ⟨hIn s A B hs.1 hb, (hb.block _ (Array.getElem?_eq_some_iff.1 hs.2.1).1).trans hs.2.1, (hb.block _ (Array.getElem?_eq_some_iff.1 hs.2.2).1).trans hs.2.2⟩)
      (fun s A hs => hIb s A hs.1) ?_ ⟨hI1, hL1, hK1⟩).mono ?_
    · -- one round
      rintro pre x rest W hx ⟨hi, hl, hk⟩
      have hlt : w.heap.size + 1 < W.heap.size := (Array.getElem?_eq_some_iff.1 hl).1
      have hy := run_yield (P := P) (args := encs x) hl (by rw [hrec]; exact hps x)
      rw [hrec] at hy
      refine ⟨fn, _, assign, body, hy, roundIn_of_wpIn trivial (hassign _ x W _ ⟨_, run_beginRound hl (by rw [hrec]), ?_⟩)⟩
      have hl2 : (W.putObj (w.heap.size + 1) (.loop { rec .ready none with state := .busy })).heap[w.heap.size + 1]? = some (.loop { rec .ready none with state := .busy }) := World.putObj_heap_same hlt
      have hk2 : (W.putObj (w.heap.size + 1) (.loop { rec .ready none with state := .busy })).heap[w.heap.size]? = some (.deferred (some [])) := (World.putObj_heap_other (by omega)).trans hk
      refine wpIn_mono (hbody _ pre x rest _ hx (hIp _ _ _ _ _ hi hl rfl (.inr rfl)) ⟨_, hk2⟩ ⟨_, hl2⟩) ?_
      rintro e a3 W3 hp
      cases e with
      | normal =>
        obtain ⟨h1, h2, hi3⟩ := hp
        have hl3 := h2.trans hl2
        have hk3 := h1.trans hk2
        have hr := run_endRound (P := P) none hl3
        rw [hrec] at hr
        refine ⟨_, _, hr, rfl, hIp _ _ _ _ _ hi3 hl3 rfl (.inr rfl), ?_, ?_⟩
        · rw [World.putObj_heap_same (Array.getElem?_eq_some_iff.1 hl3).1, hrec]; rfl
        · exact (World.putObj_heap_other (by omega)).trans hk3
      | ret => exact hp.elim
      | exit id => exact hp.elim
      | goto t => exact hp.elim
      | panic ch => exact hp.elim
      | outgrown => exact hp.elim
    · -- behind the iterator
      rintro e W2 ⟨⟨v, rfl⟩, hi, hl, hk⟩
      exact ⟨none, _, by have := run_endLoop (P := P) hl (by rw [hrec]; simp); rw [hrec] at this; exact this, hdone _ (hIp _ _ _ _ _ hi hl rfl (.inr rfl)) ((World.putObj_heap_other (by omega)).trans hk)⟩

end Go.Proofs.YtemceefalkfneaaGreatDoor

/- A range over an iterator that yields a known list, each of it in one of several ways (what way, q, is known in the round alone), by a body that always goes on. No condition. -/
namespace Go.Proofs.YtemceefalkfneaaGreatDoor
open Go.RowKit

/-- The iterator yields the list xs, each x in a way q of which E holds, whatever its rounds do, so they keep what it needs (N). -/
def YieldsE {α β : Type} (P : Program) (gf : Nat) (lb : Array Value) (encs : α → β → Array Value) (E : α → β → World → Prop) (xs : List α) (N : World → Prop) : Prop :=
  ∀ (n l : Nat) (J : List α → World → Prop) (W : World), (∀ s A B, J s A → Below A.heap.size A B → J s B) → (∀ s A, J s A → N A) →
    (∀ pre x rest q A, xs = pre ++ x :: rest → J pre A → E x q A → YieldAt Fence.wide n P l (encs x q) A fun e B => e = .returned (.bool true) ∧ J (pre ++ [x]) B) →
    J [] W → CallsIn Fence.wide (n + 1) P gf (#[.func (.yield l) #[] #[]] ++ lb) W fun e B => (∃ v, e = .returned v) ∧ J xs B

theorem wp_range_each {α β : Type} {P : Program} {g : Operand} {ps : Array Tmp} {assign body : Code} {Q : Exit → Act → World → Prop} {a : Act} {w : World} {n : Nat}
    {gf : Nat} {lb : Array Value} (hg : a.eval g = .func (.func gf) #[] lb) (eg : ∀ args w, (callFunc gf args).run P w = .ok (.enter gf args) w)
    {encs : α → β → Array Value} {E : α → β → World → Prop} {xs : List α} {N : World → Prop} (hit : YieldsE P gf lb encs E xs N) (hps : ∀ x q, (encs x q).size = ps.size)
    (hEp : ∀ x q A k o o', E x q A → A.heap[k]? = some o → o.isCells = false → E x q (A.putObj k o'))
    (I : List α → World → Prop) (hIn : ∀ s A B, I s A → Below A.heap.size A B → I s B)
    (hIp : ∀ s A k o o', I s A → A.heap[k]? = some o → o.isCells = false → (k = w.heap.size ∨ k = w.heap.size + 1) → I s (A.putObj k o'))
    (hIb : ∀ s A, I s A → N A) (h0 : I [] w) (a₁ : α → β → Act)
    (hassign : ∀ (l : Nat) (x : α) (q : β) (W : World) (K : Act → World → Prop), K (a₁ x q) W →
      assign.wpIn (Fence.wide.inRound l) n P (Exit.then K (fun _ _ _ => False)) { tmps := (ps.zip (encs x q)).foldl (fun t (p, v) => t.setIfInBounds p v) a.tmps, defers := [] } W)
    (hbody : ∀ (l : Nat) (pre : List α) (x : α) (rest : List α) (q : β) (W : World), xs = pre ++ x :: rest → I pre W → E x q W → (∃ ds, W.heap[w.heap.size]? = some (.deferred ds)) → (∃ r, W.heap[w.heap.size + 1]? = some (.loop r)) →
      body.wpIn (Fence.wide.inRound l) n P (goesOn (I (pre ++ [x])) w.heap.size W) (a₁ x q) W)
    (hdone : ∀ (W : World), I xs W → W.heap[w.heap.size]? = some (.deferred (some [])) → Q .normal { a with defers := { target := .collected w.heap.size, args := #[] } :: a.defers } W) :
    (Code.rangeFunc g ps assign body).wpIn Fence.wide (n + 1 + 1) P Q a w := by
  refine wpIn_rangeFunc ?_
  intro fn hfn
  have hro : Fence.wide.round = none := rfl
  rw [hro]
  obtain ⟨rec, hrec⟩ : ∃ rec : LoopState → Option Code → Loop, rec = fun st pe => { state := st, pending := pe, fn, tmps := a.tmps, params := ps, assign, body, defers := w.heap.size } := ⟨_, rfl⟩
  obtain ⟨W1, hW1⟩ : ∃ W1, (w.alloc (.deferred (some []))).alloc (.loop (rec .ready none)) = W1 := ⟨_, rfl⟩
  have hL1 : W1.heap[w.heap.size + 1]? = some (.loop (rec .ready none)) := by
    rw [← hW1]; have := World.alloc_heap_new (w.alloc (.deferred (some []))) (.loop (rec .ready none)); rwa [World.size_alloc] at this
  have hK1 : W1.heap[w.heap.size]? = some (.deferred (some [])) := by
    rw [← hW1]; exact (Below.heap_alloc _ _ _ (by simp)).trans (World.alloc_heap_new w _)
  have hI1 : I [] W1 := by
    rw [← hW1]; exact hIn _ _ _ h0 (((Below.refl _ w).alloc (Nat.le_refl _) _).alloc (by simp) _)
  refine ⟨w.heap.size + 1, [{ target := .collected w.heap.size, args := #[] }], W1, { target := .fn (.func gf) lb, args := #[.func (.yield (w.heap.size + 1)) #[] #[]] }, W1, gf,
    #[.func (.yield (w.heap.size + 1)) #[] #[]] ++ lb, W1, ?_, ?_, ?_, ?_, fun h => by simp [Fence.wide] at h, ?_⟩
  · rw [← hW1, hrec]; exact run_enterLoop_outer _ _ _ _ _
  · simp only [resolve, hg]
    simp [go_sem]
  · intro f' _; trivial
  · simp [invoke, go_sem, eg]
  · refine (hit n (w.heap.size + 1)
      (fun pre W => I pre W ∧ W.heap[w.heap.size + 1]? = some (.loop (rec .ready none)) ∧ W.heap[w.heap.size]? = some (.deferred (some [])))
      W1 (fun s A B hs hb => ⟨hIn s A B hs.1 hb, (hb.block _ (Array.getElem?_eq_some_iff.1 hs.2.1).1).trans hs.2.1, (hb.block _ (Array.getElem?_eq_some_iff.1 hs.2.2).1).trans hs.2.2⟩)
      (fun s A hs => hIb s A hs.1) ?_ ⟨hI1, hL1, hK1⟩).mono ?_
    · -- one round
      rintro pre x rest q W hx ⟨hi, hl, hk⟩ hE
      have hlt : w.heap.size + 1 < W.heap.size := (Array.getElem?_eq_some_iff.1 hl).1
      have hy := run_yield (P := P) (args := encs x q) hl (by rw [hrec]; exact hps x q)
      rw [hrec] at hy
      refine ⟨fn, _, assign, body, hy, roundIn_of_wpIn trivial (hassign _ x q W _ ⟨_, run_beginRound hl (by rw [hrec]), ?_⟩)⟩
      have hl2 : (W.putObj (w.heap.size + 1) (.loop { rec .ready none with state := .busy })).heap[w.heap.size + 1]? = some (.loop { rec .ready none with state := .busy }) := World.putObj_heap_same hlt
      have hk2 : (W.putObj (w.heap.size + 1) (.loop { rec .ready none with state := .busy })).heap[w.heap.size]? = some (.deferred (some [])) := (World.putObj_heap_other (by omega)).trans hk
      refine wpIn_mono (hbody _ pre x rest q _ hx (hIp _ _ _ _ _ hi hl rfl (.inr rfl)) (hEp _ _ _ _ _ _ hE hl rfl) ⟨_, hk2⟩ ⟨_, hl2⟩) ?_
      rintro e a3 W3 hp
      cases e with
      | normal =>
        obtain ⟨h1, h2, hi3⟩ := hp
        have hl3 := h2.trans hl2
        have hk3 := h1.trans hk2
        have hr := run_endRound (P := P) none hl3
        rw [hrec] at hr
        refine ⟨_, _, hr, rfl, hIp _ _ _ _ _ hi3 hl3 rfl (.inr rfl), ?_, ?_⟩
        · rw [World.putObj_heap_same (Array.getElem?_eq_some_iff.1 hl3).1, hrec]; rfl
        · exact (World.putObj_heap_other (by omega)).trans hk3
      | ret => exact hp.elim
      | exit id => exact hp.elim
      | goto t => exact hp.elim
      | panic ch => exact hp.elim
      | outgrown => exact hp.elim
    · -- behind the iterator
      rintro e W2 ⟨⟨v, rfl⟩, hi, hl, hk⟩
      exact ⟨none, _, by have := run_endLoop (P := P) hl (by rw [hrec]; simp); rw [hrec] at this; exact this, hdone _ (hIp _ _ _ _ _ hi hl rfl (.inr rfl)) ((World.putObj_heap_other (by omega)).trans hk)⟩

end Go.Proofs.YtemceefalkfneaaGreatDoor

/- An argument that reads as a value of package api: the tree that it is. No condition. -/
namespace Go.Proofs.YtemceefalkfneaaGreatDoor
open Go.RowKit Go.ChangeShapes Go.WideShapes

theorem cellsV : Tryz.prog.cellsOf 52 = 6 := by kernel_rfl
theorem cellsM : Tryz.prog.cellsOf 57 = 7 := by kernel_rfl
theorem cells_string : Tryz.prog.cellsOf 9 = 1 := by kernel_rfl
theorem cells_kind : Tryz.prog.cellsOf 48 = 1 := by kernel_rfl
theorem cells_bool : Tryz.prog.cellsOf 4 = 1 := by kernel_rfl
theorem cells_i64 : Tryz.prog.cellsOf 2 = 1 := by kernel_rfl
theorem cells_lv : Tryz.prog.cellsOf 49 = 1 := by kernel_rfl
theorem cells_lm : Tryz.prog.cellsOf 50 = 1 := by kernel_rfl

section
variable {H : Type} {enc : TypeId × Value → H} {w : World} {sp : Nat → Bool} {held : Bool}

/-- What a reading at type Value gives. -/
def OpnV (enc : TypeId × Value → H) (w : World) (sp : Nat → Bool) (held : Bool) (n : Nat) : Prop := ∀ (cs : List Value) (x : DataW H × List MemPlace), DataW.trod enc Tryz.prog w 0 sp held n 52 cs = some x →
    ∃ v, HoldsV w w.heap.size v cs ∧ inV v ∧ v.bulk ≤ Rows.uptoBulk x.1

theorem six_cells {cs : List Value} (h : cs.length = 6) : ∃ c0 c1 c2 c3 c4 c5, cs = [c0, c1, c2, c3, c4, c5] := by
  match cs, h with
  | [c0, c1, c2, c3, c4, c5], _ => exact ⟨_, _, _, _, _, _, rfl⟩
theorem seven_cells {α : Type} {cs : List α} (h : cs.length = 7) : ∃ c0 c1 c2 c3 c4 c5 c6, cs = [c0, c1, c2, c3, c4, c5, c6] := by
  match cs, h with
  | [c0, c1, c2, c3, c4, c5, c6], _ => exact ⟨_, _, _, _, _, _, _, rfl⟩

theorem cells_at {g off n : Nat} {cs : List Value} (hn : 0 < n) (h : w.cells? 0 ⟨g, off, none⟩ n = some cs) : g < w.heap.size ∧ ∀ j u, cs[j]? = some u → w.cell? ⟨g, off + j, none⟩ = some u := by
  obtain ⟨_, hlen, hc⟩ := World.cells?_some h
  have hj : ∀ j u, cs[j]? = some u → w.cell? ⟨g, off + j, none⟩ = some u := by
    intro j u hu
    have hjn : j < n := by
      have := (List.getElem?_eq_some_iff.1 hu).1
      omega
    have := hc j hjn
    rw [add_plain] at this
    rw [← hu]
    exact this
  refine ⟨?_, hj⟩
  have h0 : ∃ u, cs[0]? = some u := ⟨cs[0]'(by omega), List.getElem?_eq_getElem (by omega)⟩
  obtain ⟨u, hu⟩ := h0
  exact World.block_lt_of_cell? _ _ (hj 0 u hu)

theorem open_elems {n : Nat} (IH : OpnV enc w sp held n) : ∀ (elems : List (DataW H × List MemPlace)) (g off : Nat),
    (∀ i, i < elems.length → (w.cells? 0 ⟨g, off + i * 6, none⟩ 6).bind (DataW.trod enc Tryz.prog w 0 sp held n 52) = elems[i]?) →
    ∃ l, l.length = elems.length ∧ HoldsL w w.heap.size l g off ∧ inL l ∧ bulkL l ≤ Rows.uptoBulkAll (elems.map (·.1))
  | [], _, _, _ => ⟨[], rfl, by simp [HoldsL], by simp [inL], by simp [bulkL]⟩
  | y :: r, g, off, h => by
    obtain ⟨l, h1, h2, h3, h4⟩ := open_elems IH r g (off + 6) (fun i hi => by
      have := h (i + 1) (by simpa using hi)
      rw [show off + (i + 1) * 6 = off + 6 + i * 6 from by omega] at this
      simpa using this)
    have h0 := h 0 (by simp)
    simp only [Nat.zero_mul, Nat.add_zero, List.getElem?_cons_zero] at h0
    obtain ⟨cs, hcs, hx⟩ := Option.bind_eq_some_iff.1 h0
    obtain ⟨v, v1, v2, v3⟩ := IH cs y hx
    obtain ⟨_, hc⟩ := cells_at (by omega) hcs
    refine ⟨v :: l, by simp [h1], ?_, ?_, ?_⟩
    · simp only [HoldsL]
      exact ⟨⟨cs, v1, hc⟩, h2⟩
    · simp only [inL]
      exact ⟨v2, h3⟩
    · simp only [bulkL, List.map_cons, Rows.uptoBulkAll]
      omega

theorem open_members {n : Nat} (IH : ∀ m, m < n → OpnV enc w sp held m) : ∀ (elems : List (DataW H × List MemPlace)) (g off : Nat),
    (∀ i, i < elems.length → (w.cells? 0 ⟨g, off + i * 7, none⟩ 7).bind (DataW.trod enc Tryz.prog w 0 sp held n 57) = elems[i]?) →
    ∃ l, l.length = elems.length ∧ HoldsO w w.heap.size l g off ∧ inO l ∧ bulkO l ≤ Rows.uptoBulkAll (elems.map (·.1))
  | [], _, _, _ => ⟨[], rfl, by simp [HoldsO], by simp [inO], by simp [bulkO]⟩
  | y :: r, g, off, h => by
    obtain ⟨l, h1, h2, h3, h4⟩ := open_members IH r g (off + 7) (fun i hi => by
      have := h (i + 1) (by simpa using hi)
      rw [show off + (i + 1) * 7 = off + 7 + i * 7 from by omega] at this
      simpa using this)
    have h0 := h 0 (by simp)
    simp only [Nat.zero_mul, Nat.add_zero, List.getElem?_cons_zero] at h0
    obtain ⟨cs, hcs, hx⟩ := Option.bind_eq_some_iff.1 h0
    obtain ⟨_, hc⟩ := cells_at (by omega) hcs
    obtain ⟨xs, m, rfl, rfl, hl, hlen, hf⟩ := DataW.trod_struct Tryz.underlying57 hx
    have hl7 : cs.length = 7 := hl.trans cellsM
    obtain ⟨c0, c1, c2, c3, c4, c5, c6, rfl⟩ := seven_cells hl7
    have f0 : DataW.trod enc Tryz.prog w 0 sp held m 9 (([c0, c1, c2, c3, c4, c5, c6].drop 0).take (Tryz.prog.cellsOf 9)) = xs[0]? := hf 0 _ rfl
    have f1 : DataW.trod enc Tryz.prog w 0 sp held m 52 (([c0, c1, c2, c3, c4, c5, c6].drop 1).take (Tryz.prog.cellsOf 52)) = xs[1]? := hf 1 _ rfl
    simp only [cells_string, cellsV, List.drop_zero, List.drop_succ_cons, List.take_succ_cons, List.take_zero] at f0 f1
    match xs, hlen with
    | [y0, y1], _ =>
      simp only [List.getElem?_cons_zero, List.getElem?_cons_succ] at f0 f1
      obtain ⟨key, hk, rfl, _⟩ := DataW.trod_string Tryz.underlying9 f0
      obtain ⟨v, v1, v2, v3⟩ := IH m (by omega) _ _ f1
      simp only [List.cons.injEq, and_true] at hk
      subst hk
      refine ⟨(key, v) :: l, by simp [h1], ?_, ?_, ?_⟩
      · simp only [HoldsO, HoldsP]
        refine ⟨⟨hc 0 _ rfl, _, v1, fun j u hu => ?_⟩, h2⟩
        rw [Nat.add_assoc, Nat.add_comm 1 j]
        exact hc (j + 1) u hu
      · simp only [inO, inP]
        exact ⟨v2, h3⟩
      · have hks : key.data.toList.length = key.size := (by rw [Array.length_toList]; rfl)
        simp only [bulkO, bulkP, List.map_cons, List.map_nil, Rows.uptoBulkAll, Rows.uptoBulk]
        omega

theorem open_listcell {n : Nat} {c4 : Value} {y4 : DataW H × List MemPlace} (IH : ∀ m, m < n → OpnV enc w sp held m) (f4 : DataW.trod enc Tryz.prog w 0 sp held n 49 [c4] = some y4) :
    ∃ l la lc, c4 = .slice la (l : List Val).length lc ∧ (l = [] ∨ ∃ g off, la = some ⟨g, off, none⟩ ∧ g < w.heap.size ∧ HoldsL w w.heap.size l g off) ∧ inL l ∧ 1 + bulkL l ≤ Rows.uptoBulk y4.1 := by
  rcases DataW.trod_slice Tryz.underlying49 f4 with ⟨e, rfl⟩ | ⟨a, len, cap, elems, rest, q, hn, e, rfl, _, _, _, hlen', hel, _, _⟩
  · simp only [List.cons.injEq, and_true] at e
    exact ⟨[], none, 0, e, .inl rfl, by simp [inL], by simp [bulkL, Rows.uptoBulk]⟩
  · simp only [List.cons.injEq, and_true] at e
    subst e
    by_cases h0 : len = 0
    · subst h0
      exact ⟨[], some a, cap, rfl, .inl rfl, by simp [inL], by simp [bulkL, Rows.uptoBulk]⟩
    · obtain ⟨g, off, spot⟩ := a
      rw [cellsV] at hel
      have hz := hel 0 (by omega)
      rw [List.getElem?_eq_getElem (by omega)] at hz
      obtain ⟨cs', hcs', _⟩ := Option.bind_eq_some_iff.1 hz
      obtain ⟨_, hcl, hcc⟩ := World.cells?_some hcs'
      have hz0 := hcc 0 (by omega)
      rw [List.getElem?_eq_getElem (by omega)] at hz0
      have hspot : spot = none := by simpa [Addr.add] using World.cell?_spot hz0
      subst hspot
      simp only [add_plain] at hel hz0
      obtain ⟨l, h1, h2, h3, h4⟩ := open_elems (IH q (by omega)) elems g off (fun i hi => hel i (by omega))
      refine ⟨l, _, cap, by rw [h1, hlen'], .inr ⟨g, off, rfl, World.block_lt_of_cell? _ _ hz0, h2⟩, h3, ?_⟩
      simp only [Rows.uptoBulk]
      omega

theorem open_membcell {n : Nat} {c5 : Value} {y5 : DataW H × List MemPlace} (IH : ∀ m, m < n → OpnV enc w sp held m) (f5 : DataW.trod enc Tryz.prog w 0 sp held n 50 [c5] = some y5) :
    ∃ l la lc, c5 = .slice la (l : List (ByteArray × Val)).length lc ∧ (l = [] ∨ ∃ g off, la = some ⟨g, off, none⟩ ∧ g < w.heap.size ∧ HoldsO w w.heap.size l g off) ∧ inO l ∧ 1 + bulkO l ≤ Rows.uptoBulk y5.1 := by
  rcases DataW.trod_slice Tryz.underlying50 f5 with ⟨e, rfl⟩ | ⟨a, len, cap, elems, rest, q, hn, e, rfl, _, _, _, hlen', hel, _, _⟩
  · simp only [List.cons.injEq, and_true] at e
    exact ⟨[], none, 0, e, .inl rfl, by simp [inO], by simp [bulkO, Rows.uptoBulk]⟩
  · simp only [List.cons.injEq, and_true] at e
    subst e
    by_cases h0 : len = 0
    · subst h0
      exact ⟨[], some a, cap, rfl, .inl rfl, by simp [inO], by simp [bulkO, Rows.uptoBulk]⟩
    · obtain ⟨g, off, spot⟩ := a
      rw [cellsM] at hel
      have hz := hel 0 (by omega)
      rw [List.getElem?_eq_getElem (by omega)] at hz
      obtain ⟨cs', hcs', _⟩ := Option.bind_eq_some_iff.1 hz
      obtain ⟨_, hcl, hcc⟩ := World.cells?_some hcs'
      have hz0 := hcc 0 (by omega)
      rw [List.getElem?_eq_getElem (by omega)] at hz0
      have hspot : spot = none := by simpa [Addr.add] using World.cell?_spot hz0
      subst hspot
      simp only [add_plain] at hel hz0
      obtain ⟨l, h1, h2, h3, h4⟩ := open_members (n := q) (fun m hm => IH m (by omega)) elems g off (fun i hi => hel i (by omega))
      refine ⟨l, _, cap, by rw [h1, hlen'], .inr ⟨g, off, rfl, World.block_lt_of_cell? _ _ hz0, h2⟩, h3, ?_⟩
      simp only [Rows.uptoBulk]
      omega

theorem open_value : ∀ n, OpnV enc w sp held n := by
  intro n
  induction n using Nat.strongRecOn with
  | _ n IH =>
    intro cs x hx
    obtain ⟨xs, m, rfl, rfl, hl, hlen, hf⟩ := DataW.trod_struct Tryz.underlying52 hx
    have hl6 : cs.length = 6 := hl.trans cellsV
    obtain ⟨c0, c1, c2, c3, c4, c5, rfl⟩ := six_cells hl6
    have f0 : DataW.trod enc Tryz.prog w 0 sp held m 48 (([c0, c1, c2, c3, c4, c5].drop 0).take (Tryz.prog.cellsOf 48)) = xs[0]? := hf 0 _ rfl
    have f1 : DataW.trod enc Tryz.prog w 0 sp held m 4 (([c0, c1, c2, c3, c4, c5].drop 1).take (Tryz.prog.cellsOf 4)) = xs[1]? := hf 1 _ rfl
    have f2 : DataW.trod enc Tryz.prog w 0 sp held m 2 (([c0, c1, c2, c3, c4, c5].drop 2).take (Tryz.prog.cellsOf 2)) = xs[2]? := hf 2 _ rfl
    have f3 : DataW.trod enc Tryz.prog w 0 sp held m 9 (([c0, c1, c2, c3, c4, c5].drop 3).take (Tryz.prog.cellsOf 9)) = xs[3]? := hf 3 _ rfl
    have f4 : DataW.trod enc Tryz.prog w 0 sp held m 49 (([c0, c1, c2, c3, c4, c5].drop 4).take (Tryz.prog.cellsOf 49)) = xs[4]? := hf 4 _ rfl
    have f5 : DataW.trod enc Tryz.prog w 0 sp held m 50 (([c0, c1, c2, c3, c4, c5].drop 5).take (Tryz.prog.cellsOf 50)) = xs[5]? := hf 5 _ rfl
    simp only [cells_kind, cells_bool, cells_i64, cells_string, cells_lv, cells_lm, List.drop_zero, List.drop_succ_cons, List.take_succ_cons, List.take_zero] at f0 f1 f2 f3 f4 f5
    match xs, hlen with
    | [y0, y1, y2, y3, y4, y5], _ =>
      simp only [List.getElem?_cons_zero, List.getElem?_cons_succ] at f0 f1 f2 f3 f4 f5
      obtain ⟨k, e0, rfl, _⟩ := DataW.trod_int Tryz.underlying48 f0
      obtain ⟨b, e1, rfl⟩ := DataW.trod_bool Tryz.underlying4 f1
      obtain ⟨i, e2, rfl, hwf⟩ := DataW.trod_int Tryz.underlying2 f2
      obtain ⟨t, e3, rfl, _⟩ := DataW.trod_string Tryz.underlying9 f3
      simp only [List.cons.injEq, and_true] at e0 e1 e2 e3
      subst e0 e1 e2 e3
      have hin : -9223372036854775808 ≤ i ∧ i ≤ 9223372036854775807 := by
        have h1 : IntKind.i64.min = -9223372036854775808 := by decide
        have h2 : IntKind.i64.max = 9223372036854775807 := by decide
        simp only [Lit.wf, h1, h2, Bool.and_eq_true, decide_eq_true_eq] at hwf
        exact hwf
      have hts : t.data.toList.length = t.size := (by rw [Array.length_toList]; rfl)
      have hL := open_listcell (fun q hq => IH q (by omega)) f4
      have hO := open_membcell (fun q hq => IH q (by omega)) f5
      obtain ⟨l, la, lc, rfl, l1, l2, l3⟩ := hL
      obtain ⟨o, oa, oc, rfl, o1, o2, o3⟩ := hO
      refine ⟨.mk k b i t l o, ?_, ?_, ?_⟩
      · simp only [HoldsV]
        exact ⟨la, lc, oa, oc, rfl, l1, o1⟩
      · simp only [inV]
        exact ⟨hin, l2, o2⟩
      · simp only [Val.bulk, List.map_cons, List.map_nil, Rows.uptoBulkAll, Rows.uptoBulk]
        omega

set_option maxRecDepth 100000 in
theorem open_arg_value {base : Nat} {v0 : Value} {d : DataW H} {ps : List MemPlace} (hv : Value.okWide Tryz.prog w .any base 52 v0) (h : DataW.Trod enc Tryz.prog w 0 sp held 52 v0 d ps) :
    ∃ v cs, v0 = .agg (cs : List Value).toArray ∧ HoldsV w w.heap.size v cs ∧ inV v ∧ v.bulk ≤ Rows.uptoBulk d := by
  obtain ⟨cs, rfl, _⟩ := okWide_struct Tryz.underlying52 hv
  obtain ⟨fuel, hf⟩ := h
  obtain ⟨v, h1, h2, h3⟩ := open_value fuel _ _ hf
  exact ⟨v, cs.toList, by simp, h1, h2, h3⟩
set_option maxRecDepth 100000 in
theorem open_arg_list {base : Nat} {v0 : Value} {d : DataW H} {ps : List MemPlace} (hv : Value.okWide Tryz.prog w .any base 49 v0) (h : DataW.Trod enc Tryz.prog w 0 sp held 49 v0 d ps) :
    ∃ l la lc, v0 = .slice la (l : List Val).length lc ∧ (l = [] ∨ ∃ g off, la = some ⟨g, off, none⟩ ∧ g < w.heap.size ∧ HoldsL w w.heap.size l g off) ∧ inL l ∧ 1 + bulkL l ≤ Rows.uptoBulk d := by
  obtain ⟨a, len, cap, rfl⟩ := okWide_slice Tryz.underlying49 hv
  obtain ⟨fuel, hf⟩ := h
  exact open_listcell (fun q _ => open_value q) hf
set_option maxRecDepth 100000 in
theorem open_arg_members {base : Nat} {v0 : Value} {d : DataW H} {ps : List MemPlace} (hv : Value.okWide Tryz.prog w .any base 50 v0) (h : DataW.Trod enc Tryz.prog w 0 sp held 50 v0 d ps) :
    ∃ l la lc, v0 = .slice la (l : List (ByteArray × Val)).length lc ∧ (l = [] ∨ ∃ g off, la = some ⟨g, off, none⟩ ∧ g < w.heap.size ∧ HoldsO w w.heap.size l g off) ∧ inO l ∧ 1 + bulkO l ≤ Rows.uptoBulk d := by
  obtain ⟨a, len, cap, rfl⟩ := okWide_slice Tryz.underlying50 hv
  obtain ⟨fuel, hf⟩ := h
  exact open_membcell (fun q _ => open_value q) hf

end

theorem laid_out : laidOutB Tryz.prog = true := by kernel_rfl
/-- An argument reads as it did, in a world whose old blocks are as they were. -/
theorem stays {H : Type} {enc : TypeId × Value → H} {W W' : World} {t : TypeId} {v : Value} {d : DataW H} {ps : List MemPlace} {sp' : Nat → Bool} (hr : Tryz.prog.readableRec t = true) (ht : t < Tryz.prog.types.size)
    (h : DataW.Trod enc Tryz.prog W 0 (fun _ => true) true t v d ps) (hlt : ∀ p ∈ ps, p.block < W.heap.size) (hb : Below W.heap.size W W') (hs : ∀ p ∈ ps, sp' p.block = true) : DataW.Trod enc Tryz.prog W' 0 sp' true t v d ps := by
  refine Go.WideElems.Trod_stays laid_out hr ht h (fun p hp => ?_) hs
  have hl := hlt p hp
  cases p with
  | cell b off => exact World.cell?_of_block (w := W) (w' := W') (a := ⟨b, off, none⟩) (hb.block b hl)
  | map b => exact hb.block b hl
end Go.Proofs.YtemceefalkfneaaGreatDoor
