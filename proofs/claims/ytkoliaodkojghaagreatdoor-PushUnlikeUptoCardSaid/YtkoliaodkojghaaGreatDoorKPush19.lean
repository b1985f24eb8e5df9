/- Parts, joined: Rows that a call builds by append, whose data may share old memory. Plain. No condition. crc: sums and sealed bytes, the program's and the reference's; are bytes the same; the reference's frame. Condition: at most 10^9 bytes. -/
import Derived.Test.YtkoliaodkojghaaGreatDoorProg
import Derived.BigQuiet
import Derived.Deep.QuietTactic
import Derived.Test.YtkoliaodkojghaaGreatDoorKPush6
import Derived.Test.YtkoliaodkojghaaGreatDoorKPush15
/- Rows that a call builds by append, whose data may share old memory. Plain. No condition. -/
namespace Go.Proofs.YtkoliaodkojghaaGreatDoor
open Go Go.RowKit

/-- These cells hold this datum in every world that agrees with w on the blocks of S. -/
def HoldsIn (S : Nat → Prop) (w : World) (d : D) (cs : List Value) : Prop :=
  ∀ w'' : World, w.heap.size ≤ w''.heap.size → (∀ p : Addr, S p.block → p.block < w.heap.size → w''.cell? p = w.cell? p) → Holds w'' w.heap.size d cs
def HoldsInA (S : Nat → Prop) (w : World) (l : List D) (cs : List Value) : Prop :=
  ∀ w'' : World, w.heap.size ≤ w''.heap.size → (∀ p : Addr, S p.block → p.block < w.heap.size → w''.cell? p = w.cell? p) → HoldsA w'' w.heap.size l cs
theorem HoldsIn.now {S : Nat → Prop} {w : World} {d : D} {cs : List Value} (h : HoldsIn S w d cs) : Holds w w.heap.size d cs := h w (Nat.le_refl _) fun _ _ _ => rfl
theorem HoldsInA.now {S : Nat → Prop} {w : World} {l : List D} {cs : List Value} (h : HoldsInA S w l cs) : HoldsA w w.heap.size l cs := h w (Nat.le_refl _) fun _ _ _ => rfl
theorem HoldsIn.mono {S T : Nat → Prop} {w : World} {d : D} {cs : List Value} (h : HoldsIn S w d cs) (hST : ∀ i, i < w.heap.size → S i → T i) : HoldsIn T w d cs :=
  fun w'' h1 h2 => h w'' h1 fun p p1 p2 => h2 p (hST _ p2 p1) p2
theorem HoldsIn.of_fresh {b : Nat} {w : World} {d : D} {cs : List Value} (h : Fresh b w d cs) : HoldsIn (fun i => b ≤ i) w d cs := h
/-- What lies in old memory. -/
theorem HoldsIn.of_old {B : Nat} {w w' : World} {d : D} {cs : List Value} (h : Holds w B d cs) (hB : B ≤ w.heap.size) (hb : Below B w w') : HoldsIn (fun i => i < B) w' d cs := fun _ _ h2 =>
  (h.keep (fun p hp => (h2 p hp (Nat.lt_of_lt_of_le hp (Nat.le_trans hB hb.size))).trans (hb.cell hp))).more (Nat.le_trans hB hb.size)
/-- The world has grown, and nothing of it was written. -/
theorem HoldsIn.later {S : Nat → Prop} {w w' : World} {d : D} {cs : List Value} (h : HoldsIn S w d cs) (hs : w.heap.size ≤ w'.heap.size) (hk : ∀ p : Addr, S p.block → p.block < w.heap.size → w'.cell? p = w.cell? p) : HoldsIn S w' d cs := fun w'' h1 h2 =>
  (h w'' (Nat.le_trans hs h1) fun p p1 p2 => (h2 p p1 (Nat.lt_of_lt_of_le p2 hs)).trans (hk p p1 p2)).more hs
theorem HoldsIn.below {S : Nat → Prop} {w w' : World} {d : D} {cs : List Value} (h : HoldsIn S w d cs) (hb : Below w.heap.size w w') : HoldsIn S w' d cs := h.later hb.size fun _ _ p2 => hb.cell p2
theorem HoldsInA.one {S : Nat → Prop} {w : World} {d : D} {cs : List Value} (h : HoldsIn S w d cs) : HoldsInA S w [d] cs := fun w'' h1 h2 => HoldsA.one (h w'' h1 h2)
theorem HoldsInA.app {S : Nat → Prop} {w : World} {l r : List D} {cs es : List Value} (h : HoldsInA S w l cs) (k : HoldsInA S w r es) : HoldsInA S w (l ++ r) (cs ++ es) := fun w'' h1 h2 => (h w'' h1 h2).app (k w'' h1 h2)
/-- A slice over a block of S that is known whole. -/
theorem HoldsIn.blk {S : Nat → Prop} {w : World} {g : Nat} {t : TypeId} {cs : Array Value} {l : List D} {s n c : Nat} (h : Blk w g t cs) (hS : S g) (hs : ∀ d ∈ l, d.cells = s) (hA : HoldsInA S w l cs.toList) (hn : n = l.length) : HoldsIn S w (.row s l) [.slice (some ⟨g, 0, none⟩) n c] := by
  subst hn
  intro w'' h1 h2
  exact ⟨_, c, rfl, hs, cs.toList, hA w'' h1 h2, .inr ⟨g, 0, rfl, h.lt, fun j u hu => by
    rw [Nat.zero_add, h2 ⟨g, j, none⟩ hS h.lt]
    exact (h.cell j).trans (by rw [← Array.getElem?_toList]; exact hu)⟩⟩

/-- A row that the call has built so far (blocks from b on); its data hold in every world that agrees on the blocks of S0, but for the row's own. -/
def RowX (S0 : Nat → Prop) (b : Nat) (t : TypeId) (s : Nat) (wr : World) (l : List D) (V : Value) : Prop :=
  ∃ ns, wr.ownsRow b t s V l.length ns ∧ (∀ d ∈ l, d.cells = s) ∧ HoldsInA (fun i => S0 i ∧ V.ownBlock ≠ some i) wr l ns
theorem RowX.nil (S0 : Nat → Prop) (b : Nat) (t : TypeId) (s : Nat) (wr : World) : RowX S0 b t s wr [] (.slice none 0 0) := ⟨[], World.ownsRow_nil _ _ _ _, fun d hd => (by cases hd), fun _ _ _ => rfl⟩
theorem RowX.base {S0 : Nat → Prop} {b : Nat} {t : TypeId} {s : Nat} {wr : World} {l : List D} {V : Value} (h : RowX S0 b t s wr l V) : ∀ g, V.ownBlock = some g → b ≤ g ∧ g < wr.heap.size := by
  obtain ⟨ns, h1, _⟩ := h
  exact h1.lt
theorem RowX.keep {S0 : Nat → Prop} {b : Nat} {t : TypeId} {s : Nat} {wr w' : World} {l : List D} {V : Value} (h : RowX S0 b t s wr l V) (hs : wr.heap.size ≤ w'.heap.size) (hk : ∀ i, i < wr.heap.size → w'.heap[i]? = wr.heap[i]?) : RowX S0 b t s w' l V := by
  obtain ⟨ns, h1, h2, h3⟩ := h
  refine ⟨ns, ⟨h1.1, ?_⟩, h2, fun w'' k1 k2 => HoldsA.more (h3 w'' (by omega) (fun p p1 p2 => (k2 p p1 (by omega)).trans (World.cell?_of_block (hk p.block p2)))) hs⟩
  rcases h1.2 with ⟨rfl, h0⟩ | ⟨g, cap, cur, rfl, hbg, hg, h5⟩
  · exact .inl ⟨rfl, h0⟩
  · exact .inr ⟨g, cap, cur, rfl, hbg, (hk g (Array.getElem?_eq_some_iff.1 hg).1).trans hg, h5⟩
theorem RowX.below {S0 : Nat → Prop} {b : Nat} {t : TypeId} {s : Nat} {wr w' : World} {l : List D} {V : Value} (h : RowX S0 b t s wr l V) (hb : Below wr.heap.size wr w') : RowX S0 b t s w' l V := h.keep hb.size fun i hi => hb.block i hi
theorem RowX.slice {S0 : Nat → Prop} {b : Nat} {t : TypeId} {s : Nat} {wr : World} {l : List D} {V : Value} (h : RowX S0 b t s wr l V) : ∃ a c, V = .slice a l.length c := by
  obtain ⟨ns, h1, _⟩ := h
  rcases h1.2 with ⟨rfl, h0⟩ | ⟨g, cap, cur, rfl, _⟩
  · exact ⟨_, _, by rw [h0]⟩
  · exact ⟨_, _, rfl⟩
theorem RowX.slice_n {S0 : Nat → Prop} {b : Nat} {t : TypeId} {s n : Nat} {wr : World} {l : List D} {V : Value} (h : RowX S0 b t s wr l V) (hn : l.length = n) : ∃ a c, V = .slice a n c := by
  subst hn; exact h.slice
/-- The row, done: what it holds at the world at hand. -/
theorem RowX.close {S0 : Nat → Prop} {b : Nat} {t : TypeId} {s : Nat} {wr : World} {l : List D} {a : Option Addr} {n c : Nat} (h : RowX S0 b t s wr l (.slice a n c)) : Holds wr wr.heap.size (.row s l) [.slice a n c] := by
  obtain ⟨ns, h1, h2, h3⟩ := h
  have h1' := h1
  rcases h1.2 with ⟨e, h0⟩ | ⟨g, cap, cur, e, hbg, hg, hnc, _⟩
  · cases e
    have hl : l = [] := List.eq_nil_of_length_eq_zero h0
    subst hl
    exact ⟨none, 0, rfl, h2, [], rfl, .inl rfl⟩
  · cases e
    have hgl := (Array.getElem?_eq_some_iff.1 hg).1
    refine ⟨_, _, rfl, h2, ns, h3.now, .inr ⟨g, 0, rfl, hgl, fun j u hu => ?_⟩⟩
    have h5 := h1'.cells (g := g) rfl j u hu
    rwa [add_plain'] at h5

/-- The row, done: it hangs on the blocks of S0 and on its own. -/
theorem RowX.closeIn {S0 : Nat → Prop} {b : Nat} {t : TypeId} {s : Nat} {wr : World} {l : List D} {a : Option Addr} {n c : Nat} (h : RowX S0 b t s wr l (.slice a n c)) : HoldsIn (fun i => S0 i ∨ (Value.slice a n c).ownBlock = some i) wr (.row s l) [.slice a n c] := by
  obtain ⟨ns, h1, h2, h3⟩ := h
  have h1' := h1
  intro w'' k1 k2
  have hA := h3 w'' k1 fun p p1 p2 => k2 p (.inl p1.1) p2
  rcases h1.2 with ⟨e, h0⟩ | ⟨g, cap, cur, e, hbg, hg, hnc, _⟩
  · cases e
    have hl : l = [] := List.eq_nil_of_length_eq_zero h0
    subst hl
    exact ⟨none, 0, rfl, h2, [], rfl, .inl rfl⟩
  · cases e
    have hgl := (Array.getElem?_eq_some_iff.1 hg).1
    refine ⟨_, _, rfl, h2, ns, hA, .inr ⟨g, 0, rfl, hgl, fun j u hu => ?_⟩⟩
    have h5 := h1'.cells (g := g) rfl j u hu
    rw [add_plain'] at h5
    exact (k2 ⟨g, 0 + j, none⟩ (.inr rfl) hgl).trans h5

section
variable {P : Program}
theorem run_append_X {t ty e : TypeId} {i : TypeInfo} {z : Value} {sz bytes : Nat} (ht : P.underlying t = some (.slice e)) (hi : P.info? e = some i) (hz : i.zero = some z) (hsize : i.size = sz) (hby : i.bytes = bytes) (hzs : z.cells.size = sz) (hsz : 0 < sz)
    {S0 : Nat → Prop} {b : Nat} {w : World} {l : List D} {V : Value} (hrow : RowX S0 b e sz w l V) (hbw : b ≤ w.heap.size) {d : D} {cs : List Value} (hd : d.cells = sz) (hx : HoldsIn (fun i => S0 i ∧ V.ownBlock ≠ some i) w d cs)
    {B : Nat} {A : Option Addr} {c : Nat} (hr : Reads w B sz A 1 cs) (h63 : l.length + 1 ≤ maxLen) (hbytes : (l.length + 1) * bytes ≤ 140737488355328) :
    ∃ V' w6, (Builtin.append_ #[t, t] ty #[V, .slice A 1 c]).run P w = .ok V' w6 ∧ RowX S0 b e sz w6 (l ++ [d]) V' ∧ w.grownBy w6 V.ownBlock ∧ (V'.ownBlock = V.ownBlock ∨ V'.ownBlock = some w.heap.size) := by
  obtain ⟨ns, h1, h2, h3⟩ := hrow
  obtain ⟨V', w6, hrun, g1, g2, g3⟩ := run_append_any (P := P) w b t ty e i z sz bytes ht hi hz hsize hby hzs hsz V l.length ns h1 B A 1 c cs hr hx.now.len.2 h63 hbytes hbw
  refine ⟨V', w6, hrun, ⟨ns ++ cs, by rw [List.length_append]; exact g1, ?_, ?_⟩, g2, g3⟩
  · intro x hx'
    rcases List.mem_append.1 hx' with hx' | hx'
    · exact h2 x hx'
    · simp only [List.mem_cons, List.not_mem_nil, or_false] at hx'
      rw [hx']; exact hd
  · have key : ∀ p : Addr, V.ownBlock ≠ some p.block → p.block < w.heap.size → V'.ownBlock ≠ some p.block := by
      intro p p1 p2
      rcases g3 with e3 | e3
      · rw [e3]; exact p1
      · rw [e3]; intro e4; have := Option.some.inj e4; omega
    have hag : ∀ w'' : World, w6.heap.size ≤ w''.heap.size → (∀ p : Addr, S0 p.block ∧ V'.ownBlock ≠ some p.block → p.block < w6.heap.size → w''.cell? p = w6.cell? p) → ∀ p : Addr, S0 p.block ∧ V.ownBlock ≠ some p.block → p.block < w.heap.size → w''.cell? p = w.cell? p := by
      intro w'' k1 k2 p p1 p2
      rw [k2 p ⟨p1.1, key p p1.2 p2⟩ (Nat.lt_of_lt_of_le p2 g2.size)]
      exact World.cell?_of_block (g2.block p.block p2 (fun e => p1.2 e.symm))
    intro w'' k1 k2
    have a1 := HoldsA.more (h3 w'' (Nat.le_trans g2.size k1) (hag w'' k1 k2)) g2.size
    have a2 := Holds.more (hx w'' (Nat.le_trans g2.size k1) (hag w'' k1 k2)) g2.size
    exact a1.snoc a2
theorem wp_append_X {o : Oper} {a : Act} {w : World} {K : Act → World → Prop} {Q : Exit → Act → World → Prop} (s x : Operand) (t : TypeId) {e : TypeId}
    (ho : o.op = .call { callee := .builtin .append, args := #[s, x], argTypes := #[t, t] }) {i : TypeInfo} {z : Value} {sz bytes : Nat} (ht : P.underlying t = some (.slice e)) (hi : P.info? e = some i) (hz : i.zero = some z) (hsize : i.size = sz) (hby : i.bytes = bytes) (hzs : z.cells.size = sz) (hsz : 0 < sz)
    {S0 : Nat → Prop} {b : Nat} {l : List D} {V : Value} (hs : a.eval s = V) (hrow : RowX S0 b e sz w l V) (hbw : b ≤ w.heap.size) {d : D} {cs : List Value} (hd : d.cells = sz) (hf : HoldsIn (fun i => S0 i ∧ V.ownBlock ≠ some i) w d cs)
    {B : Nat} {A : Option Addr} {c : Nat} (hx : a.eval x = .slice A 1 c) (hr : Reads w B sz A 1 cs) (h63 : l.length + 1 ≤ maxLen) (hbytes : (l.length + 1) * bytes ≤ 140737488355328)
    (h : ∀ V' w6, RowX S0 b e sz w6 (l ++ [d]) V' → w.grownBy w6 V.ownBlock → (V'.ownBlock = V.ownBlock ∨ V'.ownBlock = some w.heap.size) → K (a.put o.dst V') w6) : o.wp P a w K Q := by
  obtain ⟨V', w6, hrun, g1, g2, g3⟩ := run_append_X (ty := o.type) (c := c) ht hi hz hsize hby hzs hsz hrow hbw hd hf hr h63 hbytes
  unfold Oper.wp execOp
  simp only [ho, resolve, invoke, builtin, Sem.run_bind, Sem.run_pure, Result.andThen_ok, List.map_toArray, List.map_cons, List.map_nil, hs, hx, hrun]
  exact h V' w6 g1 g2 g3
theorem wpList_append_X {ops : Array Oper} {rest : List Oper} {o : Oper} {a : Act} {w : World} {Q : Exit → Act → World → Prop} (hgd : o.guard = none) (s x : Operand) (t : TypeId) {e : TypeId}
    (ho : o.op = .call { callee := .builtin .append, args := #[s, x], argTypes := #[t, t] }) {i : TypeInfo} {z : Value} {sz bytes : Nat} (ht : P.underlying t = some (.slice e)) (hi : P.info? e = some i) (hz : i.zero = some z) (hsize : i.size = sz) (hby : i.bytes = bytes) (hzs : z.cells.size = sz) (hsz : 0 < sz)
    {S0 : Nat → Prop} {b : Nat} {l : List D} {V : Value} (hs : a.eval s = V) (hrow : RowX S0 b e sz w l V) (hbw : b ≤ w.heap.size) {d : D} {cs : List Value} (hd : d.cells = sz) (hf : HoldsIn (fun i => S0 i ∧ V.ownBlock ≠ some i) w d cs)
    {B : Nat} {A : Option Addr} {c : Nat} (hx : a.eval x = .slice A 1 c) (hr : Reads w B sz A 1 cs) (h63 : l.length + 1 ≤ maxLen) (hbytes : (l.length + 1) * bytes ≤ 140737488355328)
    (h : ∀ V' w6, RowX S0 b e sz w6 (l ++ [d]) V' → w.grownBy w6 V.ownBlock → (V'.ownBlock = V.ownBlock ∨ V'.ownBlock = some w.heap.size) → wpList P ops Q rest (a.put o.dst V') w6) : wpList P ops Q (o :: rest) a w :=
  wpList_plain hgd fun _ hK => wp_append_X s x t ho ht hi hz hsize hby hzs hsz hs hrow hbw hd hf hx hr h63 hbytes fun V' w6 h2 h3 h4 => hK _ _ (h V' w6 h2 h3 h4)
theorem step_append_X {ops : Array Oper} {o : Oper} {a : Act} {w : World} {K : Act → World → Prop} {Q : Exit → Act → World → Prop} {E : Prop} (hgd : o.guard = none) (s x : Operand) (t : TypeId) {e : TypeId}
    (ho : o.op = .call { callee := .builtin .append, args := #[s, x], argTypes := #[t, t] }) {i : TypeInfo} {z : Value} {sz bytes : Nat} (ht : P.underlying t = some (.slice e)) (hi : P.info? e = some i) (hz : i.zero = some z) (hsize : i.size = sz) (hby : i.bytes = bytes) (hzs : z.cells.size = sz) (hsz : 0 < sz)
    {S0 : Nat → Prop} {b : Nat} {l : List D} {V : Value} (hs : a.eval s = V) (hrow : RowX S0 b e sz w l V) (hbw : b ≤ w.heap.size) {d : D} {cs : List Value} (hd : d.cells = sz) (hf : HoldsIn (fun i => S0 i ∧ V.ownBlock ≠ some i) w d cs)
    {B : Nat} {A : Option Addr} {c : Nat} (hx : a.eval x = .slice A 1 c) (hr : Reads w B sz A 1 cs) (h63 : l.length + 1 ≤ maxLen) (hbytes : (l.length + 1) * bytes ≤ 140737488355328)
    (h : ∀ V' w6, RowX S0 b e sz w6 (l ++ [d]) V' → w.grownBy w6 V.ownBlock → (V'.ownBlock = V.ownBlock ∨ V'.ownBlock = some w.heap.size) → K (a.put o.dst V') w6) :
    if Region.wanted o (yielded ops a.tmps) = true then Oper.wp P o a w K Q else E := by
  have hw : Region.wanted o (yielded ops a.tmps) = true := by simp [Region.wanted, hgd]
  rw [if_pos hw]
  exact wp_append_X s x t ho ht hi hz hsize hby hzs hsz hs hrow hbw hd hf hx hr h63 hbytes h
end
end Go.Proofs.YtkoliaodkojghaaGreatDoor

/- crc: sums and sealed bytes, the program's and the reference's; are bytes the same; the reference's frame. Condition: at most 10^9 bytes. -/
namespace Go.Proofs.YtkoliaodkojghaaGreatDoor
open Go.RowKit

theorem go1_at (r c : Nat) (hr : r < 4294967296) (w : World) : Calls Tryz.prog 127 #[.int .u32 r, .int .u32 ((c : Int) % 2)] w fun e w' => e = .returned (.int .u32 (go1N r (c % 2) : Nat)) ∧ w = w' := by
  have h := go1_calls r (c % 2) hr (by omega) w
  rw [show ((c % 2 : Nat) : Int) = (c : Int) % 2 from by omega] at h
  exact h
theorem rbN_st8 (r : Nat) (x : UInt8) : rbN 8 r x.toNat = st8 (r ^^^ x.toNat) := by rw [rbN_eq 8 r _ (by have := x.toNat_lt; omega), st8_eq]
theorem go1N_lt {r b : Nat} (hr : r < 4294967296) (hb : b < 2) : go1N r b < 4294967296 := by
  rw [go1N_eq r b hb]
  exact st1_lt (Nat.xor_lt_two_pow (n := 32) hr (by omega))

set_option maxRecDepth 100000 in
set_option maxHeartbeats 2000000 in
theorem rmore_calls (s : Nat) (hs : s < 4294967296) (l : List UInt8) (a : Option Addr) (n c : Nat) (w : World) (h : Holds w w.heap.size (.row 1 (dB l)) [.slice a n c]) (hl : l.length ≤ 1000000000) :
    Calls Tryz.prog 81 #[.int .u32 s, .slice a n c] w fun e w' => e = .returned (.int .u32 (crcMore s l : Nat)) ∧ w = w' := by
  obtain rfl := dB_n h
  obtain ⟨r0, hr0⟩ : ∃ r, 4294967295 - s = r := ⟨_, rfl⟩
  have e0 : (4294967295 : Int) - (s : Int) = (r0 : Int) := by omega
  have hr0l : r0 < 4294967296 := by omega
  have hm : crcMore s l = 4294967295 - crcGo r0 l := by unfold crcMore; rw [hr0]
  have E0 := Lib.hid e0
  have H := Lib.hid h
  have Hm := Lib.hid hm
  clear h hm
  clear e0 hr0
  go_enter Tryz.func81, Tryz.ntmps81
  go_wp2_with (fail)
  go_loop [5, 6] (fun r i => ∃ k : Nat, k ≤ l.length ∧ i = .int .i64 k ∧ r = .int .u32 (crcGo r0 (l.take k) : Nat)) (fun _ i => l.length - (intOf i).toNat)
  case atStart => exact ⟨0, Nat.zero_le _, rfl, by rw [E0.out]; rfl⟩
  case round =>
    obtain ⟨k, hk, rfl, rfl⟩ := hrel
    by_cases hlt : k < l.length
    · obtain ⟨x, hx⟩ : ∃ x, l[k]? = some x := ⟨_, List.getElem?_eq_getElem hlt⟩
      obtain ⟨g, off, rfl, hg, hcell⟩ := dB_at H.out hx
      have htk : l.take (k + 1) = l.take k ++ [x] := by
        obtain ⟨_, rfl⟩ := List.getElem?_eq_some_iff.1 hx
        exact List.take_succ_eq_append_getElem hlt
      have hfin : rbN 8 (crcGo r0 (l.take k)) x.toNat = crcGo r0 (l.take (k + 1)) := by rw [htk, crcGo_snoc, rbN_st8]
      have hRl := crcGo_lt (l.take k) hr0l
      have hXl : x.toNat < 256 := x.toNat_lt
      obtain ⟨R9, hR9⟩ : ∃ R9, crcGo r0 (l.take (k + 1)) = R9 := ⟨_, rfl⟩
      rw [hR9] at hfin
      generalize crcGo r0 (l.take k) = R at hfin hRl ⊢
      generalize x.toNat = C at hfin hXl hcell
      have Hfin := Lib.hid hfin
      have Htk := Lib.hid htk
      have Hx := Lib.hid hx
      have HR9 := Lib.hid hR9
      clear hfin htk hx hR9
      go_wp2_with (fail)
      go_loop [5, 7, 8] (fun r c k => ∃ q r' c' : Nat, q ≤ 8 ∧ k = .int .i64 q ∧ r = .int .u32 r' ∧ c = .int .u32 c' ∧ r' < 4294967296 ∧ c' < 256 ∧ Hid (rbN (8 - q) r' c' = R9)) (fun _ _ i => 8 - (intOf i).toNat)
      case atStart => exact ⟨0, R, C, by omega, rfl, rfl, rfl, hRl, hXl, Hfin⟩
      case round =>
        obtain ⟨q, r', c', hq, rfl, rfl, rfl, hrl, hcl, hR⟩ := hrel
        by_cases hq8 : q < 8
        · have hn : Hid (rbN (8 - (q + 1)) (go1N r' (c' % 2)) (c' / 2) = R9) := by
            have := hR.out
            rw [show 8 - q = (8 - (q + 1)) + 1 from by omega] at this
            simp only [rbN] at this
            exact this
          have hl2 := go1N_lt (b := c' % 2) hrl (by omega)
          have hC := Lib.hid (fun W => go1_at r' c' hrl W)
          clear hR
          go_wp2_with (go_at_call 127; with_reducible refine (hC.out _).mono ?_; rintro e w2 ⟨rfl, rfl⟩)
          go_round
          case rel => exact ⟨q + 1, go1N r' (c' % 2), c' / 2, by omega, by go_num, rfl, by go_num, hl2, by omega, hn⟩
          case measure => simp [intOf]; omega
        · obtain rfl : q = 8 := by omega
          obtain rfl : r' = R9 := hR.out
          clear hR
          go_wp2
          go_round
          case rel => exact ⟨k + 1, by omega, by go_num, by rw [HR9.out]⟩
          case measure => simp [intOf]; omega
    · obtain rfl : k = l.length := by omega
      rw [List.take_length]
      have hcl := crcGo_lt l hr0l
      have e9 : (4294967295 : Int) - (crcGo r0 l : Int) = ((crcMore s l : Nat) : Int) := by rw [Hm.out]; omega
      have E9 := Lib.hid e9
      clear e9
      go_wp2
      go_ret
      exact ⟨by rw [← E9.out]; rfl, rfl⟩

theorem sum_calls (l : List UInt8) (a : Option Addr) (n c : Nat) (w : World) (h : Holds w w.heap.size (.row 1 (dB l)) [.slice a n c]) (hl : l.length ≤ 1000000000) :
    Calls Tryz.prog 80 #[.slice a n c] w fun e w' => e = .returned (.int .u32 (crcMore 0 l : Nat)) ∧ Below w.heap.size w w' := by
  have hC := more_calls 0 (by omega) l a n c w h hl
  rw [show ((0 : Nat) : Int) = 0 from rfl] at hC
  have HC := Lib.hid hC
  have H := Lib.hid h
  clear hC h
  go_enter Tryz.func80, Tryz.ntmps80
  go_wp2_with (go_at_call 126; with_reducible refine (HC.out).mono ?_; rintro e w2 ⟨rfl, hb⟩)
  go_ret
  exact ⟨rfl, hb⟩
theorem rsum_calls (l : List UInt8) (a : Option Addr) (n c : Nat) (w : World) (h : Holds w w.heap.size (.row 1 (dB l)) [.slice a n c]) (hl : l.length ≤ 1000000000) :
    Calls Tryz.prog 43 #[.slice a n c] w fun e w' => e = .returned (.int .u32 (crcMore 0 l : Nat)) ∧ w = w' := by
  have hC := rmore_calls 0 (by omega) l a n c w h hl
  rw [show ((0 : Nat) : Int) = 0 from rfl] at hC
  have HC := Lib.hid hC
  have H := Lib.hid h
  clear hC h
  go_enter Tryz.func43, Tryz.ntmps43
  go_wp2_with (go_at_call 81; with_reducible refine (HC.out).mono ?_; rintro e w2 ⟨rfl, rfl⟩)
  go_ret
  exact ⟨rfl, rfl⟩

/-- Bytes of the call's own, given back. -/
def BytesPost (l : List UInt8) (w : World) (e : Ending) (w' : World) : Prop := ∃ a c, e = .returned (.slice a l.length c) ∧ Fresh w.heap.size w' (.row 1 (dB l)) [.slice a l.length c] ∧ Below w.heap.size w w'
theorem BytesPost.of {l : List UInt8} {w w' : World} {v : Value} (h : w'.ownsRow w.heap.size 5 1 v l.length (bcells l)) (hb : Below w.heap.size w w') : BytesPost l w (.returned v) w' := by
  obtain ⟨a, c, rfl, hf⟩ := own_bytes h
  exact ⟨a, c, rfl, hf, hb⟩

/-- The i-th byte of a sum. -/
def sumB (s : Nat) : Nat → List UInt8
  | 0 => []
  | n + 1 => UInt8.ofNat (s % 256) :: sumB (s / 256) n
theorem sumB_four (s : Nat) : sumB s 4 = sumBytes s := by
  simp only [sumB, sumBytes, Nat.div_div_eq_div_mul]
theorem sumB_snoc : ∀ (n s : Nat), sumB s (n + 1) = sumB s n ++ [UInt8.ofNat (s / 256 ^ n % 256)]
  | 0, s => by simp [sumB]
  | n + 1, s => by
    rw [sumB, sumB_snoc n (s / 256), sumB]
    rw [Nat.div_div_eq_div_mul, ← Nat.pow_succ', List.cons_append]
theorem sumB_len : ∀ (n s : Nat), (sumB s n).length = n
  | 0, _ => rfl
  | n + 1, s => by simp [sumB, sumB_len n]
theorem u8_cell (x : Nat) (h : x < 256) : Value.int .u8 (x : Int) = .int .u8 ((UInt8.ofNat x).toNat : Nat) := by
  have : (UInt8.ofNat x).toNat = x := by simp [UInt8.toNat_ofNat']; omega
  rw [this]

set_option maxRecDepth 100000 in
set_option maxHeartbeats 2000000 in
theorem rseal_calls (l : List UInt8) (a : Option Addr) (n c : Nat) (w : World) (h : Holds w w.heap.size (.row 1 (dB l)) [.slice a n c]) (hl : l.length ≤ 1000000000) :
    Calls Tryz.prog 20 #[.slice a n c] w (BytesPost (sealL l) w) := by
  obtain ⟨hn, hR⟩ := dB_reads h
  subst hn
  have H := Lib.hid h
  have HR := Lib.hid hR
  clear h hR
  go_enter Tryz.func20, Tryz.ntmps20
  go_wp2_with (at_builtin; refine wpList_append_by rfl (.tmp 6) (.tmp 7) 31 31 5 rfl Tryz.underlying31 Tryz.underlying31 w.heap.size (.slice none 0 0) [] rfl (World.ownsRow_nil _ _ _ _) _ a _ c l rfl HR.out (by simp; omega) (Nat.le_refl _) ?_; intro v1 w1 hown1 hg1 hat1)
  have hb1 : Below w.heap.size w w1 := (Below.refl _ _).grown hg1 (Nat.le_refl _) (by simp [Value.ownBlock])
  rw [List.nil_append] at hown1
  have hC := rsum_calls l a l.length c w1 ((H.out.below hb1).more hb1.size) hl
  have hcl := crcMore_lt 0 l
  have hsf := sumB_four (crcMore 0 l)
  obtain ⟨s0, hs0⟩ : ∃ s0, crcMore 0 l = s0 := ⟨_, rfl⟩
  rw [hs0] at hC hcl hsf
  have hfin : sealL l = l ++ sumB s0 4 := by unfold sealL; rw [hsf, hs0]
  have HC := Lib.hid hC
  have Hown1 := Lib.hid hown1
  have Hg1 := Lib.hid hg1
  have Hb1 := Lib.hid hb1
  have Hat1 := Lib.hid hat1
  have Hfin := Lib.hid hfin
  have Hsf := Lib.hid hsf
  have Hs0 := Lib.hid hs0
  clear hC hown1 hg1 hb1 hat1 hfin hsf hs0
  go_wp2_with (go_at_call 43; with_reducible refine (HC.out).mono ?_; rintro e w2 ⟨rfl, rfl⟩)
  go_loopw [3, 4, 5] (fun v s i wr => ∃ k : Nat, k ≤ 4 ∧ i = .int .i64 k ∧ s = .int .u32 (s0 / 256 ^ k : Nat) ∧ Hid (wr.ownsRow w.heap.size 5 1 v (l ++ sumB s0 k).length (bcells (l ++ sumB s0 k))) ∧ Hid (Below w.heap.size w wr)) (fun _ _ i _ => 4 - (intOf i).toNat)
  case atStart => exact ⟨0, by omega, rfl, by simp, by rw [show l ++ sumB s0 0 = l from by simp [sumB]]; exact Hown1, Hb1⟩
  case round =>
    obtain ⟨k, hk, rfl, rfl, hown, hb⟩ := hrel
    by_cases hlt : k < 4
    · obtain ⟨s1, hs1⟩ : ∃ s1, s0 / 256 ^ k = s1 := ⟨_, rfl⟩
      have hs1l : s1 < 4294967296 := by rw [← hs1]; exact Nat.lt_of_le_of_lt (Nat.div_le_self _ _) hcl
      have hnx : s0 / 256 ^ (k + 1) = s1 / 256 := by rw [← hs1, Nat.div_div_eq_div_mul, Nat.pow_succ]
      have hsn : (l ++ sumB s0 k) ++ [UInt8.ofNat (s1 % 256)] = l ++ sumB s0 (k + 1) := by rw [sumB_snoc, hs1, List.append_assoc]
      rw [hs1]
      have hz := hb.out.size
      have hlen := sumB_len k s0
      have ecell : Value.int .u8 ((s1 : Int) % 256) = .int .u8 ((UInt8.ofNat (s1 % 256)).toNat : Nat) := by rw [← u8_cell _ (by omega)]; go_num
      have hlit := (reads_lit (ecell ▸ Blk.new wr 5 #[.int .u8 ((s1 : Int) % 256)] : Blk _ _ _ #[.int .u8 ((UInt8.ofNat (s1 % 256)).toNat : Nat)]))
      rw [← ecell] at hlit
      have Hsn := Lib.hid hsn
      have Hnx := Lib.hid hnx
      have Hs1 := Lib.hid hs1
      have Hlen := Lib.hid hlen
      have Hlit := Lib.hid hlit
      have Ecell := Lib.hid ecell
      clear hsn hnx hs1 hlen hlit ecell
      clear Hown1 Hb1
      go_wp2_with (at_builtin; refine wpList_append_by rfl (.tmp 15) (.tmp 19) 31 31 5 rfl Tryz.underlying31 Tryz.underlying31 w.heap.size u3 _ rfl (hown.out.alloc _) _ _ _ _ [UInt8.ofNat (s1 % 256)] rfl Hlit.out (by have := Hlen.out; simp; omega) (by simp; omega) ?_; intro v3 w3 hown3 hg3 hat3)
      have hb3 : Below w.heap.size w w3 := (hb.out.alloc (by omega) _).grown hg3 (by simp; omega) (fun j e => (hown.out.lt j e).1)
      rw [Hsn.out] at hown3
      have Hown3 := Lib.hid hown3
      have Hb3 := Lib.hid hb3
      clear hown3 hb3
      clear hown hb hg3 hat3 Hsn
      go_wp2
      go_roundw
      case rel => exact ⟨k + 1, by omega, by go_num, by rw [Hnx.out]; go_num, Hown3, Hb3⟩
      case measure => simp [intOf]; omega
    · obtain rfl : k = 4 := by omega
      rw [← Hfin.out] at hown
      go_wp2
      go_ret
      exact BytesPost.of hown.out hb.out
end Go.Proofs.YtkoliaodkojghaaGreatDoor
