/- Parts, joined: Words for memory: slices that read as lists, blocks known whole, append of any source (the kit's own words, copied as its page says). No condition. parse.reader: its world, and its small functions: wrong, skip, comes. Condition: a text of at most 10^9 bytes. -/
import Derived.Below
import Derived.Laws.OwnMore
import Derived.Deep.AppendLies
import Derived.Deep.Draws
import Derived.Laws.Rows
import Derived.Maps.AppendAt
import Derived.RegionTactic
import Derived.OwnWalk
import Derived.WalkKit
import Derived.Test.YtgjiienipeoajaaGreatDoorProg
import Derived.BigQuiet
import Derived.Deep.QuietTactic
import Derived.WalkLawsBesides
import Derived.WalkSpells
import Derived.Lib.Hide
import Derived.IntWalk
import Derived.Deep.LoopGhost
import Derived.Test.YtgjiienipeoajaaGreatDoorKPrs3
import Derived.Test.YtgjiienipeoajaaGreatDoorKPrs4
/- Words for memory: slices that read as lists, blocks known whole, append of any source (the kit's own words, copied as its page says). No condition. -/
namespace Go.Proofs.YtgjiienipeoajaaGreatDoor
open Go Go.RowKit

theorem block_of_add (a : Addr) (n : Nat) : (a.add n).block = a.block := by unfold Addr.add; split <;> rfl
theorem add_of_add (a : Addr) (i j : Nat) : (a.add i).add j = a.add (i + j) := by
  unfold Addr.add
  by_cases hi : i = 0 <;> by_cases hj : j = 0 <;> simp [hi, hj, Nat.add_assoc]

def Reads (w : World) (B size : Nat) (A : Option Addr) (n : Nat) (xs : List Value) : Prop :=
  xs.length = n * size ∧ (0 < n → ∃ ad, A = some ad ∧ ad.block < B ∧ ∀ j u, xs[j]? = some u → w.cell? (ad.add j) = some u)

section
variable {w w' : World} {B B' size n : Nat} {A : Option Addr} {xs : List Value}
theorem Reads.none_ : Reads w B size A 0 [] := ⟨by simp, fun h => absurd h (by omega)⟩
theorem Reads.at_ {k : Nat} (h : Reads w B 1 A n xs) (hk : k < n) : ∃ ad u, A = some ad ∧ ad.block < B ∧ xs[k]? = some u ∧ w.cell? (ad.add k) = some u := by
  obtain ⟨ad, e, hb, hc⟩ := h.2 (by omega)
  have hl : k < xs.length := by have := h.1; omega
  exact ⟨ad, xs[k], e, hb, List.getElem?_eq_getElem hl, hc k _ (List.getElem?_eq_getElem hl)⟩
theorem Reads.keep (h : Reads w B size A n xs) (hk : ∀ p : Addr, p.block < B → w'.cell? p = w.cell? p) : Reads w' B size A n xs :=
  ⟨h.1, fun hn => by
    obtain ⟨ad, e, hb, hc⟩ := h.2 hn
    exact ⟨ad, e, hb, fun j u hu => (hk _ (by rw [block_of_add]; exact hb)).trans (hc j u hu)⟩⟩
theorem Reads.more (h : Reads w B size A n xs) (hB : B ≤ B') : Reads w B' size A n xs :=
  ⟨h.1, fun hn => by
    obtain ⟨ad, e, hb, hc⟩ := h.2 hn
    exact ⟨ad, e, by omega, hc⟩⟩
theorem Reads.below (h : Reads w B size A n xs) (hb : Below B w w') : Reads w' B size A n xs := h.keep fun _ hp => hb.cell hp
theorem Reads.drew (h : Reads w B size A n xs) : Reads w.drew B size A n xs := h
theorem Reads.drewN (h : Reads w B size A n xs) (k : Nat) : Reads (w.drewN k) B size A n xs := h
theorem Reads.alloc (h : Reads w B size A n xs) (hB : B ≤ w.heap.size) (o : Obj) : Reads (w.alloc o) B size A n xs := h.keep fun p hp => World.cell?_alloc_lt w o p (by omega)
theorem Reads.setCell (h : Reads w B size A n xs) {p : Addr} (hB : B ≤ p.block) (u : Value) : Reads (w.setCell p u) B size A n xs :=
  h.keep fun q hq => World.cell?_setCell_other w p q u (fun e => by subst e; omega)
theorem Reads.grown (h : Reads w B size A n xs) {row : Option Nat} (hg : w.grownBy w' row) (hB : B ≤ w.heap.size) (hr : ∀ g, row = some g → B ≤ g) : Reads w' B size A n xs :=
  h.keep fun p hp => World.cell?_of_block (hg.block p.block (by omega) (fun e => by have := hr _ e.symm; omega))
theorem Reads.cut (h : Reads w B size A n xs) {k cap : Nat} (hk : k ≤ n) (hc : n ≤ cap) :
    Reads w B size (if cap = k then A else A.map (·.add (k * size))) (n - k) (xs.drop (k * size)) := by
  refine ⟨by rw [List.length_drop, h.1, Nat.sub_mul], fun hn => ?_⟩
  obtain ⟨ad, rfl, hb, hcell⟩ := h.2 (by omega)
  rw [if_neg (by omega)]
  refine ⟨ad.add (k * size), rfl, by rw [block_of_add]; exact hb, fun j u hu => ?_⟩
  rw [add_of_add]
  exact hcell _ u (by rw [← hu, List.getElem?_drop])
theorem Reads.of_own {base : Nat} {e : TypeId} {c : Nat} (h : w.ownsRow base e size (.slice A n c) n xs) : Reads w w.heap.size size A n xs := by
  refine ⟨h.1, fun hn => ?_⟩
  obtain ⟨g, cap, hv, _, hlt⟩ := h.form hn
  have hA : A = some ⟨g, 0, none⟩ := by injection hv
  subst hA
  exact ⟨_, rfl, hlt, h.cells (g := g) rfl⟩
end

def Blk (w : World) (g : Nat) (t : TypeId) (cs : Array Value) : Prop := w.heap[g]? = some (.cells cs t (0, 0))

section
variable {w w' : World} {g : Nat} {t : TypeId} {cs : Array Value}
theorem Blk.lt (h : Blk w g t cs) : g < w.heap.size := by
  rcases Nat.lt_or_ge g w.heap.size with hlt | hge
  · exact hlt
  · unfold Blk at h; rw [Array.getElem?_eq_none hge] at h; cases h
theorem Blk.cell (h : Blk w g t cs) (i : Nat) : w.cell? ⟨g, i, none⟩ = cs[i]? := cell_of_row w g i cs t (0, 0) h
theorem Blk.frozen (h : Blk w g t cs) (i : Nat) : w.frozen? ⟨g, i, none⟩ = false := by
  unfold Blk at h
  simp [World.frozen?, h]
theorem Blk.new (w : World) (t : TypeId) (cs : Array Value) : Blk (w.alloc (.cells cs t)) w.heap.size t cs := heap_alloc_new w _
theorem Blk.drew (h : Blk w g t cs) : Blk w.drew g t cs := h
theorem Blk.drewN (h : Blk w g t cs) (n : Nat) : Blk (w.drewN n) g t cs := h
theorem Blk.alloc (h : Blk w g t cs) (o : Obj) : Blk (w.alloc o) g t cs := (Below.heap_alloc w o g h.lt).trans h
theorem Blk.set_ (h : Blk w g t cs) (i : Nat) (u : Value) : Blk (w.setCell ⟨g, i, none⟩ u) g t (cs.setIfInBounds i u) := by
  unfold Blk at h ⊢
  simp [World.setCell, Array.getElem?_modify, h]
theorem Blk.far (h : Blk w g t cs) {p : Addr} (hp : g ≠ p.block) (u : Value) : Blk (w.setCell p u) g t cs := (Below.heap_setCell w p u g hp).trans h
theorem Blk.below {B : Nat} (h : Blk w g t cs) (hb : Below B w w') (hg : g < B) : Blk w' g t cs := (hb.block g hg).trans h
theorem Blk.grown {row : Option Nat} (h : Blk w g t cs) (hb : w.grownBy w' row) (hg : some g ≠ row) : Blk w' g t cs := (hb.block g h.lt hg).trans h
theorem Blk.ne_ {g' : Nat} {t' : TypeId} {cs' : Array Value} (h : Blk w g t cs) (h' : Blk w g' t' cs') (hne : t ≠ t') : g ≠ g' := by
  rintro rfl
  unfold Blk at h h'
  rw [h] at h'
  injection h' with h'
  injection h' with _ ht
  exact hne ht
theorem own_blk_ne {base : Nat} {e : TypeId} {size n : Nat} {v : Value} {xs : List Value} (h : w.ownsRow base e size v n xs) (hg : Blk w g t cs) (hne : e ≠ t) : v.ownBlock ≠ some g := by
  rcases h.2 with ⟨rfl, _⟩ | ⟨g', cap, cur, rfl, _, hh, _⟩
  · simp [Value.ownBlock]
  · intro he
    have : g' = g := by simpa [Value.ownBlock] using he
    subst this
    exact Blk.ne_ (t := e) hh hg hne rfl
end

section
variable {P : Program} (w : World)

theorem run_append_of_nil (base : Nat) (t ty e : TypeId) (i : TypeInfo) (size : Nat) (ht : P.underlying t = some (.slice e)) (hi : P.info? e = some i)
    (v : Value) (n : Nat) (xs : List Value) (hown : w.ownsRow base e size v n xs) (c : Nat) : (Builtin.append_ #[t, t] ty #[v, .slice none 0 c]).run P w = .ok v w := by
  rcases hown.2 with ⟨rfl, rfl⟩ | ⟨g, cap, cur, rfl, _, _, hnc, _⟩
  · simp [Builtin.append_, run_underlying ht, sizeOf, typeInfo, hi, Builtin.lenOf, Builtin.firstCells]
  · simp [Builtin.append_, run_underlying ht, sizeOf, typeInfo, hi, Builtin.lenOf, Builtin.firstCells, hnc, storeCells]

theorem run_append_any (base : Nat) (t ty e : TypeId) (i : TypeInfo) (z : Value) (size bytes : Nat) (ht : P.underlying t = some (.slice e)) (hi : P.info? e = some i) (hz : i.zero = some z)
    (hsize : i.size = size) (hby : i.bytes = bytes) (hzs : z.cells.size = size) (hsz : 0 < size)
    (v : Value) (n : Nat) (xs : List Value) (hown : w.ownsRow base e size v n xs)
    (B : Nat) (A : Option Addr) (m c : Nat) (news : List Value) (hr : Reads w B size A m news) (h1 : ∀ u ∈ news, u.oneCell' = true)
    (h63 : n + m ≤ maxLen) (hbytes : (n + m) * bytes ≤ 140737488355328) (hbase : base ≤ w.heap.size) :
    ∃ v' w', (Builtin.append_ #[t, t] ty #[v, .slice A m c]).run P w = .ok v' w' ∧ w'.ownsRow base e size v' (n + m) (xs ++ news) ∧ w.grownBy w' v.ownBlock ∧
      (v'.ownBlock = v.ownBlock ∨ v'.ownBlock = some w.heap.size) := by
  rcases A with _ | ad
  · have hm : m = 0 := by
      rcases Nat.eq_zero_or_pos m with h0 | h0
      · exact h0
      · obtain ⟨ad, h, _⟩ := hr.2 h0
        cases h
    subst hm
    have hn : news = [] := List.eq_nil_of_length_eq_zero (by simpa using hr.1)
    subst hn
    exact ⟨v, w, run_append_of_nil w base t ty e i size ht hi v n xs hown c, by simpa using hown, World.grownBy.refl w _, .inl rfl⟩
  · have hcells : ∀ j u, news[j]? = some u → w.cell? (ad.add j) = some u := by
      intro j u hu
      rcases Nat.eq_zero_or_pos m with h0 | h0
      · subst h0
        have hn : news = [] := List.eq_nil_of_length_eq_zero (by simpa using hr.1)
        subst hn
        simp at hu
      · obtain ⟨ad', h, _, hc⟩ := hr.2 h0
        injection h with h
        subst h
        exact hc j u hu
    obtain ⟨v', w', hrun, h2, h3, _, h5⟩ := run_append_own_at (P := P) w base t ty e i z size bytes ht hi hz hsize hby hzs hsz v n xs hown ad m c news hr.1 hcells h1 h63 hbytes hbase
    exact ⟨v', w', hrun, h2, h3, h5⟩

theorem wp_append_any {o : Oper} {a : Act} {K : Act → World → Prop} {Q : Exit → Act → World → Prop} (s x : Operand) (t : TypeId)
    (ho : o.op = .call { callee := .builtin .append, args := #[s, x], argTypes := #[t, t] })
    (base : Nat) (e : TypeId) (i : TypeInfo) (z : Value) (size bytes : Nat) (ht : P.underlying t = some (.slice e)) (hi : P.info? e = some i) (hz : i.zero = some z)
    (hsize : i.size = size) (hby : i.bytes = bytes) (hzs : z.cells.size = size) (hsz : 0 < size)
    (v : Value) (n : Nat) (xs : List Value) (hs : a.eval s = v) (hown : w.ownsRow base e size v n xs)
    (B : Nat) (A : Option Addr) (m c : Nat) (news : List Value) (hx : a.eval x = .slice A m c) (hr : Reads w B size A m news) (h1 : ∀ u ∈ news, u.oneCell' = true)
    (h63 : n + m ≤ maxLen) (hbytes : (n + m) * bytes ≤ 140737488355328) (hbase : base ≤ w.heap.size)
    (h : ∀ v' w', w'.ownsRow base e size v' (n + m) (xs ++ news) → w.grownBy w' v.ownBlock → (v'.ownBlock = v.ownBlock ∨ v'.ownBlock = some w.heap.size) → K (a.put o.dst v') w') : o.wp P a w K Q := by
  obtain ⟨v', w', hrun, h2, h3, h4⟩ := run_append_any (P := P) w base t o.type e i z size bytes ht hi hz hsize hby hzs hsz v n xs hown B A m c news hr h1 h63 hbytes hbase
  unfold Oper.wp execOp
  simp only [ho, resolve, invoke, builtin, Sem.run_bind, Sem.run_pure, Result.andThen_ok, List.map_toArray, List.map_cons, List.map_nil, hs, hx, hrun]
  exact h v' w' h2 h3 h4

theorem wpList_append_any {ops : Array Oper} {rest : List Oper} {o : Oper} {a : Act} {Q : Exit → Act → World → Prop} (hgd : o.guard = none) (s x : Operand) (t : TypeId)
    (ho : o.op = .call { callee := .builtin .append, args := #[s, x], argTypes := #[t, t] })
    (base : Nat) (e : TypeId) (i : TypeInfo) (z : Value) (size bytes : Nat) (ht : P.underlying t = some (.slice e)) (hi : P.info? e = some i) (hz : i.zero = some z)
    (hsize : i.size = size) (hby : i.bytes = bytes) (hzs : z.cells.size = size) (hsz : 0 < size)
    (v : Value) (n : Nat) (xs : List Value) (hs : a.eval s = v) (hown : w.ownsRow base e size v n xs)
    (B : Nat) (A : Option Addr) (m c : Nat) (news : List Value) (hx : a.eval x = .slice A m c) (hr : Reads w B size A m news) (h1 : ∀ u ∈ news, u.oneCell' = true)
    (h63 : n + m ≤ maxLen) (hbytes : (n + m) * bytes ≤ 140737488355328) (hbase : base ≤ w.heap.size)
    (h : ∀ v' w', w'.ownsRow base e size v' (n + m) (xs ++ news) → w.grownBy w' v.ownBlock → (v'.ownBlock = v.ownBlock ∨ v'.ownBlock = some w.heap.size) → wpList P ops Q rest (a.put o.dst v') w') : wpList P ops Q (o :: rest) a w :=
  wpList_plain hgd fun _ hK => wp_append_any w s x t ho base e i z size bytes ht hi hz hsize hby hzs hsz v n xs hs hown B A m c news hx hr h1 h63 hbytes hbase fun v' w' h2 h3 h4 => hK _ _ (h v' w' h2 h3 h4)

theorem step_append_any {ops : Array Oper} {o : Oper} {a : Act} {K : Act → World → Prop} {Q : Exit → Act → World → Prop} {E : Prop} (hgd : o.guard = none) (s x : Operand) (t : TypeId)
    (ho : o.op = .call { callee := .builtin .append, args := #[s, x], argTypes := #[t, t] })
    (base : Nat) (e : TypeId) (i : TypeInfo) (z : Value) (size bytes : Nat) (ht : P.underlying t = some (.slice e)) (hi : P.info? e = some i) (hz : i.zero = some z)
    (hsize : i.size = size) (hby : i.bytes = bytes) (hzs : z.cells.size = size) (hsz : 0 < size)
    (v : Value) (n : Nat) (xs : List Value) (hs : a.eval s = v) (hown : w.ownsRow base e size v n xs)
    (B : Nat) (A : Option Addr) (m c : Nat) (news : List Value) (hx : a.eval x = .slice A m c) (hr : Reads w B size A m news) (h1 : ∀ u ∈ news, u.oneCell' = true)
    (h63 : n + m ≤ maxLen) (hbytes : (n + m) * bytes ≤ 140737488355328) (hbase : base ≤ w.heap.size)
    (h : ∀ v' w', w'.ownsRow base e size v' (n + m) (xs ++ news) → w.grownBy w' v.ownBlock → (v'.ownBlock = v.ownBlock ∨ v'.ownBlock = some w.heap.size) → K (a.put o.dst v') w') :
    if Region.wanted o (yielded ops a.tmps) = true then Oper.wp P o a w K Q else E := by
  have hw : Region.wanted o (yielded ops a.tmps) = true := by simp [Region.wanted, hgd]
  rw [if_pos hw]
  exact wp_append_any w s x t ho base e i z size bytes ht hi hz hsize hby hzs hsz v n xs hs hown B A m c news hx hr h1 h63 hbytes hbase h
end

end Go.Proofs.YtgjiienipeoajaaGreatDoor

/- parse.reader: its world, and its small functions: wrong, skip, comes. Condition: a text of at most 10^9 bytes. -/
namespace Go.Proofs.YtgjiienipeoajaaGreatDoor
open Go Go.RowKit

/-- How a reader leaves where something is wrong. -/
def faultE (e q : Int) : Ending := .panicked [{ v := .iface 61 (.agg #[.int .i64 e, .int .i64 q]), recovered := false }]
/-- What reads what begins with a byte. -/
def KV (R : Nat) : List (Int × Value) :=
  let f := fun n : Nat => Value.func (.func n) #[.pointer (some ⟨R, 0, none⟩)] #[]
  [(110, f 52), (102, f 53), (116, f 54), (34, f 55), (91, f 56), (123, f 57), (45, f 58),
   (48, f 58), (49, f 58), (50, f 58), (51, f 58), (52, f 58), (53, f 58), (54, f 58), (55, f 58), (56, f 58), (57, f 58)]
/-- A reader's block. -/
def RdB (w : World) (R g : Nat) (s : ByteArray) (k : Nat) : Prop := Blk w R 67 #[.string s, .int .i64 k, .map (some g)]
/-- What a reader's function leaves: it stands at k', and nothing else that was has turned. -/
def RdTo (R g : Nat) (s : ByteArray) (k' : Nat) (w w' : World) : Prop := w.grownBy w' (some R) ∧ RdB w' R g s k'
theorem grownBy_trans {w w1 w2 : World} {r : Option Nat} (h : w.grownBy w1 r) (k : w1.grownBy w2 r) : w.grownBy w2 r :=
  ⟨k.os.trans h.os, k.tape.trans h.tape, k.output.trans h.output, Nat.le_trans h.size k.size, fun i hi hn => (k.block i (Nat.lt_of_lt_of_le hi h.size) hn).trans (h.block i hi hn)⟩
theorem grownBy_drewN {w w1 : World} {r : Option Nat} (h : w.grownBy w1 r) (n : Nat) : w.grownBy (w1.drewN n) r := ⟨h.os, h.tape, h.output, h.size, h.block⟩
theorem grownBy_alloc {w w1 : World} {r : Option Nat} (h : w.grownBy w1 r) (o : Obj) : w.grownBy (w1.alloc o) r :=
  ⟨h.os, h.tape, h.output, Nat.le_trans h.size (by simp), fun i hi hne => (Below.heap_alloc w1 o i (Nat.lt_of_lt_of_le hi h.size)).trans (h.block i hi hne)⟩
theorem grownBy_below {w w1 w2 : World} {r : Option Nat} (h : w.grownBy w1 r) (k : Below w1.heap.size w1 w2) : w.grownBy w2 r :=
  ⟨k.os.trans h.os, k.tape.trans h.tape, k.output.trans h.output, Nat.le_trans h.size k.size, fun i hi hn => (k.block i (Nat.lt_of_lt_of_le hi h.size)).trans (h.block i hi hn)⟩
theorem grownBy_set {w w1 : World} {r : Nat} (h : w.grownBy w1 (some r)) (p : Addr) (hp : p.block = r ∨ w.heap.size ≤ p.block) (u : Value) : w.grownBy (w1.setCell p u) (some r) :=
  ⟨h.os, h.tape, h.output, by simpa [World.setCell] using h.size, fun i hi hne => (Below.heap_setCell w1 p u i (by
    rintro rfl
    rcases hp with hp | hp
    · exact hne (by rw [hp])
    · omega)).trans (h.block i hi hne)⟩
theorem grownBy_of_below {w w1 : World} (r : Option Nat) (k : Below w.heap.size w w1) : w.grownBy w1 r := ⟨k.os, k.tape, k.output, k.size, fun i hi _ => k.block i hi⟩
theorem RdTo.refl {w : World} {R g k : Nat} {s : ByteArray} (h : RdB w R g s k) : RdTo R g s k w w := ⟨World.grownBy.refl _ _, h⟩
theorem RdTo.trans {w w1 w2 : World} {R g k k' : Nat} {s : ByteArray} (h : RdTo R g s k w w1) (h' : RdTo R g s k' w1 w2) : RdTo R g s k' w w2 := ⟨grownBy_trans h.1 h'.1, h'.2⟩
theorem RdTo.drewN {w w1 : World} {R g k : Nat} {s : ByteArray} (h : RdTo R g s k w w1) (n : Nat) : RdTo R g s k w (w1.drewN n) := ⟨grownBy_drewN h.1 n, h.2⟩
theorem RdTo.drew {w w1 : World} {R g k : Nat} {s : ByteArray} (h : RdTo R g s k w w1) : RdTo R g s k w w1.drew := ⟨⟨h.1.os, h.1.tape, h.1.output, h.1.size, h.1.block⟩, h.2⟩
theorem RdTo.alloc {w w1 : World} {R g k : Nat} {s : ByteArray} (h : RdTo R g s k w w1) (o : Obj) : RdTo R g s k w (w1.alloc o) := ⟨grownBy_alloc h.1 o, Blk.alloc h.2 o⟩
theorem RdTo.below {w w1 w2 : World} {R g k : Nat} {s : ByteArray} (h : RdTo R g s k w w1) (hb : Below w1.heap.size w1 w2) : RdTo R g s k w w2 := ⟨grownBy_below h.1 hb, Blk.below h.2 hb (Blk.lt h.2)⟩
/-- The reader goes on to a place. -/
theorem RdTo.set {w w1 : World} {R g k : Nat} {s : ByteArray} (h : RdTo R g s k w w1) (k' : Nat) : RdTo R g s k' w (w1.setCell ⟨R, 1, none⟩ (.int .i64 k')) :=
  ⟨grownBy_set h.1 _ (.inl rfl) _, by have := Blk.set_ h.2 1 (.int .i64 k'); exact this⟩
theorem RdB.cells {w : World} {R g k : Nat} {s : ByteArray} (h : RdB w R g s k) : w.cell? ⟨R, 0, none⟩ = some (.string s) ∧ w.cell? ⟨R, 1, none⟩ = some (.int .i64 k) ∧ w.cell? ⟨R, 2, none⟩ = some (.map (some g)) ∧ w.frozen? ⟨R, 1, none⟩ = false ∧ R < w.heap.size :=
  ⟨Blk.cell h 0, Blk.cell h 1, Blk.cell h 2, Blk.frozen h 1, Blk.lt h⟩
theorem get_byte (s : ByteArray) {a : Nat} (h : a < s.size) : s.data.toList[a]? = some s[a] := by
  rw [List.getElem?_eq_getElem (by rw [← Lib.size_eq]; exact h)]
  rfl
theorem byte_lt (c : UInt8) : (c.toNat : Int) < 256 := by have := c.toNat_lt; omega
theorem byte_eq {c : UInt8} {n : Nat} (hn : n < 256) : ((c.toNat : Int) == (n : Int)) = (c == UInt8.ofNat n) := by
  rw [Bool.eq_iff_iff]
  simp only [beq_iff_eq]
  constructor
  · intro h
    have : c.toNat = n := by omega
    subst this
    simp
  · rintro rfl
    simp [UInt8.toNat_ofNat', Nat.mod_eq_of_lt hn]

theorem wrong_calls (p : Value) (e q : Int) (w : World) : Calls Tryz.prog 31 #[p, .int .i64 e, .int .i64 q] w fun r w' => r = faultE e q ∧ w' = w := by
  go_enter Tryz.func31, Tryz.ntmps31
  go_wp2
  exact ⟨rfl, rfl, rfl⟩

set_option maxRecDepth 100000 in
set_option maxHeartbeats 4000000 in
theorem skip_calls (R g : Nat) (s : ByteArray) (k : Nat) (w : World) (hs : s.size ≤ 1000000000) (hk : k ≤ s.size) (h : RdB w R g s k) :
    Calls Tryz.prog 30 #[.pointer (some ⟨R, 0, none⟩)] w fun e w' => e = .returned (.tuple #[]) ∧ RdTo R g s (past s.data.toList k) w w' := by
  obtain ⟨P, hP⟩ : ∃ P, past s.data.toList k = P := ⟨_, rfl⟩
  have H0 := Lib.hid (And.intro hP (RdTo.refl h))
  rw [hP]
  clear h hP
  go_enter Tryz.func30, Tryz.ntmps30
  go_wp2
  go_loopg [] (s.size - k) (fun n wr => ∃ j : Nat, j ≤ s.size ∧ n = s.size - j ∧ Hid (past s.data.toList j = P ∧ RdTo R g s j w wr))
  case atStart => exact ⟨k, hk, rfl, H0⟩
  case round =>
    obtain ⟨j, hj, rfl, hh⟩ := hrel
    clear H0
    obtain ⟨c0, c1, _, f1, hR⟩ := hh.out.2.2.cells
    by_cases hlt : j < s.size
    · obtain ⟨c, hc⟩ : ∃ c, s[j] = c := ⟨_, rfl⟩
      have hg : s.data.toList[j]? = some c := by rw [get_byte s hlt, hc]
      have hcl := byte_lt c
      have i1 : (j : Int) < (s.size : Int) := by omega
      have i0 : (0 : Int) ≤ (j : Int) := by omega
      by_cases hbl : isBlank c = true
      · have HN : Hid (past s.data.toList (j + 1) = P ∧ ∀ nq, RdTo R g s (j + 1) w ((wr.drewN nq).setCell ⟨R, 1, none⟩ (.int .i64 ((j + 1 : Nat) : Int)))) :=
          ⟨by rw [← past_step hg hbl]; exact hh.out.1, fun nq => (hh.out.2.drewN nq).set _⟩
        unfold isBlank at hbl
        simp only [Bool.or_eq_true, beq_iff_eq] at hbl
        clear hg hh
        rcases hbl with ((hbl | hbl) | hbl) | hbl
        all_goals
          subst hbl
          go_wp2
          go_quiet (fail)
          go_wp2
          go_quiet (fail)
          go_wp2
          go_roundg (s.size - (j + 1))
          case measure => omega
          case rel => exact ⟨j + 1, by omega, rfl, HN.out.1, HN.out.2 _⟩
      · have HN : Hid (j = P ∧ ∀ nq, RdTo R g s j w (wr.drewN nq)) := ⟨by rw [← hh.out.1, past_stop hg (by simpa using hbl)], fun nq => hh.out.2.drewN nq⟩
        unfold isBlank at hbl
        simp only [Bool.or_eq_true, beq_iff_eq, not_or] at hbl
        obtain ⟨⟨⟨h9, h10⟩, h13⟩, h32⟩ := hbl
        have ne : ∀ n : Nat, n < 256 → c ≠ UInt8.ofNat n → ((c.toNat : Int) == (n : Int)) = false := fun n hn h => by rw [byte_eq hn]; simpa using h
        have e9 : ((c.toNat : Int) == 9) = false := ne 9 (by decide) h9
        have e10 : ((c.toNat : Int) == 10) = false := ne 10 (by decide) h10
        have e13 : ((c.toNat : Int) == 13) = false := ne 13 (by decide) h13
        have e32 : ((c.toNat : Int) == 32) = false := ne 32 (by decide) h32
        clear ne h9 h10 h13 h32 hg hh
        go_wp2
        go_quiet (fail)
        go_wp2
        go_quiet (fail)
        go_wp2
        refine bodyPost_ret (results_none rfl _ _ _) rfl ?_
        refine ⟨rfl, ?_⟩
        rw [← HN.out.1]
        exact HN.out.2 _
    · have HN : Hid (j = P ∧ ∀ nq, RdTo R g s j w (wr.drewN nq)) := ⟨by rw [← hh.out.1, past_end (by rw [← Lib.size_eq]; omega)], fun nq => hh.out.2.drewN nq⟩
      have i1 : ¬((j : Int) < (s.size : Int)) := by omega
      clear hh
      go_wp2
      go_quiet (fail)
      go_wp2
      go_end0
      refine ⟨rfl, ?_⟩
      rw [← HN.out.1]
      exact HN.out.2 _

theorem size_toList (s : ByteArray) : s.data.toList.length = s.size := by rw [Array.length_toList]; rfl
theorem past_size {s : ByteArray} {k : Nat} (hk : k ≤ s.size) : past s.data.toList k ≤ s.size := by
  have := past_le (s := s.data.toList) (p := k) (by rw [size_toList]; exact hk)
  rwa [size_toList] at this

set_option maxRecDepth 100000 in
set_option maxHeartbeats 4000000 in
theorem comes_yes (R g : Nat) (s : ByteArray) (k : Nat) (c : UInt8) (w : World) (hs : s.size ≤ 1000000000) (hk : k ≤ s.size) (h : RdB w R g s k) (hc : s.data.toList[past s.data.toList k]? = some c) :
    Calls Tryz.prog 90 #[.pointer (some ⟨R, 0, none⟩), .int .u8 c.toNat] w fun e w' => e = .returned (.bool true) ∧ RdTo R g s (past s.data.toList k + 1) w w' := by
  have hS := skip_calls R g s k w hs hk h
  have hP := past_size hk
  generalize past s.data.toList k = P at hS hP hc ⊢
  have hlt : P < s.size := by have := get_lt hc; rwa [size_toList] at this
  have hx : s[P] = c := by rw [get_byte s hlt] at hc; exact Option.some.inj hc
  have hcl := byte_lt c
  have i0 : (0 : Int) ≤ (P : Int) := by omega
  have i1 : (P : Int) < (s.size : Int) := by omega
  have e1 : ((P : Int) == (s.size : Int)) = false := by rw [beq_eq_false_iff_ne]; omega
  clear hc h
  have HS := Lib.hid hS
  clear hS
  go_enter Tryz.func90, Tryz.ntmps90
  go_wp2_with (fail)
  with_reducible refine (HS.out).mono ?_
  rintro e w1 ⟨rfl, h1⟩
  obtain ⟨c0, c1, _, f1, hR⟩ := h1.2.cells
  have H1 := Lib.hid h1
  clear h1
  go_wp2
  go_quiet (fail)
  go_wp2
  go_ret
  exact ⟨rfl, (H1.out.drewN _).set _⟩
set_option maxRecDepth 100000 in
set_option maxHeartbeats 4000000 in
theorem comes_no (R g : Nat) (s : ByteArray) (k : Nat) (c : UInt8) (w : World) (hs : s.size ≤ 1000000000) (hk : k ≤ s.size) (h : RdB w R g s k) (hc : ¬(s.data.toList[past s.data.toList k]? = some c)) :
    Calls Tryz.prog 90 #[.pointer (some ⟨R, 0, none⟩), .int .u8 c.toNat] w fun e w' => e = .returned (.bool false) ∧ RdTo R g s (past s.data.toList k) w w' := by
  have hS := skip_calls R g s k w hs hk h
  have hP := past_size hk
  generalize past s.data.toList k = P at hS hP hc ⊢
  have i0 : (0 : Int) ≤ (P : Int) := by omega
  by_cases hlt : P < s.size
  · obtain ⟨x, hx⟩ : ∃ x, s[P] = x := ⟨_, rfl⟩
    have hne : ((x.toNat : Int) == (c.toNat : Int)) = false := by
      rw [get_byte s hlt, hx] at hc
      rw [beq_eq_false_iff_ne]
      intro e
      exact hc (by rw [UInt8.toNat_inj.1 (by omega : x.toNat = c.toNat)])
    have hne2 : ((x.toNat : Int) != (c.toNat : Int)) = true := by unfold bne; rw [hne]; rfl
    have hcl := byte_lt c
    have hxl := byte_lt x
    have i1 : (P : Int) < (s.size : Int) := by omega
    have e1 : ((P : Int) == (s.size : Int)) = false := by rw [beq_eq_false_iff_ne]; omega
    clear hc h
    have HS := Lib.hid hS
    clear hS
    go_enter Tryz.func90, Tryz.ntmps90
    go_wp2_with (fail)
    with_reducible refine (HS.out).mono ?_
    rintro e w1 ⟨rfl, h1⟩
    obtain ⟨c0, c1, _, f1, hR⟩ := h1.2.cells
    have H1 := Lib.hid h1
    clear h1
    go_wp2
    go_quiet (fail)
    go_wp2
    go_ret
    exact ⟨rfl, H1.out.drewN _⟩
  · obtain rfl : P = s.size := by omega
    have e1 : ((s.size : Int) == (s.size : Int)) = true := by simp
    clear hc h
    have HS := Lib.hid hS
    clear hS
    go_enter Tryz.func90, Tryz.ntmps90
    go_wp2_with (fail)
    with_reducible refine (HS.out).mono ?_
    rintro e w1 ⟨rfl, h1⟩
    obtain ⟨c0, c1, _, f1, hR⟩ := h1.2.cells
    have H1 := Lib.hid h1
    clear h1
    go_wp2
    go_quiet (fail)
    go_wp2
    go_ret
    exact ⟨rfl, H1.out.drewN _⟩
/-- Both answers, at a place that is known. -/
theorem comes_calls (R g : Nat) (s : ByteArray) (k : Nat) (c : UInt8) {B : Bool} (w : World) (hs : s.size ≤ 1000000000) (hk : k ≤ s.size) (h : RdB w R g s k) (hB : decide (s.data.toList[past s.data.toList k]? = some c) = B) :
    Calls Tryz.prog 90 #[.pointer (some ⟨R, 0, none⟩), .int .u8 c.toNat] w fun e w' => e = .returned (.bool B) ∧ RdTo R g s (if B = true then past s.data.toList k + 1 else past s.data.toList k) w w' := by
  subst hB
  by_cases hc : s.data.toList[past s.data.toList k]? = some c
  · rw [decide_eq_true hc, if_pos rfl]; exact comes_yes R g s k c w hs hk h hc
  · rw [decide_eq_false hc, if_neg (by decide)]; exact comes_no R g s k c w hs hk h hc

end Go.Proofs.YtgjiienipeoajaaGreatDoor
