/- Parts, joined: The tables that the rows list: what they give the walks, and a world for the witnesses. No condition. The table of the mutators' names. Plain. No condition. Rows that a call builds by append: several data at once; a row's literal. Plain. No condition. Loads and stores of structs of many cells at once. Plain. No condition. -/
import Derived.Test.YtkoliaodkojghaaGreatDoorProg
import Derived.Test.YtkoliaodkojghaaGreatDoorChecked
import Derived.Test.YtkoliaodkojghaaGreatDoorRows
import Derived.Lib.LaidIn
import Derived.Lib.LaidU8T
import Derived.LaidSub
import Derived.Lib.ItoaNum
import Derived.Deep.DeepHandedRow
import Derived.ProofKit
import Derived.Deep.MidRow
import Derived.Test.YtkoliaodkojghaaGreatDoorKPush2
import Derived.Test.YtkoliaodkojghaaGreatDoorKPush19
import Derived.Test.YtkoliaodkojghaaGreatDoorKPush21
import Derived.Test.YtkoliaodkojghaaGreatDoorKPush40
/- The tables that the rows list: what they give the walks, and a world for the witnesses. No condition. -/
namespace Go.Proofs.YtkoliaodkojghaaGreatDoor
open Go.RowKit Go.ChangeShapes Go.WideShapes Go.ChangeAt

def tab32 : List Int := [0, 1, 28, 2, 29, 14, 24, 3, 30, 22, 20, 15, 25, 17, 4, 8, 31, 27, 13, 23, 21, 19, 16, 7, 26, 12, 18, 6, 11, 5, 10, 9]
def tab64 : List Int := [0, 1, 56, 2, 57, 49, 28, 3, 61, 58, 42, 50, 38, 29, 17, 4, 62, 47, 59, 36, 45, 43, 51, 22, 53, 39, 33, 30, 24, 18, 12, 5, 63, 55, 48, 27, 60, 41, 37, 16, 46, 35, 44, 21, 52, 32, 23, 11, 54, 26, 40, 15, 34, 20, 31, 10, 25, 14, 19, 9, 13, 8, 7, 6]

theorem own_knob : ownKnob Tryz.prog.godebug = none := by kernel_rfl

/-- A world that holds the six tables. -/
noncomputable def laidWorld (os : Os) : World :=
  let w0 := World.holding Tryz.prog os ⟨#[], #[], []⟩
  let put (h : Array Obj) (g : Nat) (cs : Array Value) : Array Obj := h.modify g fun
    | .cells _ t frozen => .cells cs t frozen
    | o => o
  let h0 := put w0.heap 1 (Lib.firstTab.map fun z => Value.int .u8 z).toArray
  let h1 := put h0 2 ((List.range 16).flatMap fun i => [Value.int .u8 (Lib.accLo i), Value.int .u8 (Lib.accHi i)]).toArray
  let h2 := put h1 3 (Lib.pow10Tab.map fun z => Value.int .u64 z).toArray
  let h3 := put h2 4 (tab32.map fun z => Value.int .u8 z).toArray
  let h4 := put h3 5 (tab64.map fun z => Value.int .u8 z).toArray
  let h5 := put h4 0 #[.string ⟨#[]⟩, .string ⟨#[112, 117, 116]⟩, .string ⟨#[100, 101, 108]⟩, .string ⟨#[105, 110, 99]⟩, .string ⟨#[99, 97, 115]⟩, .string ⟨#[97, 112, 112, 101, 110, 100]⟩, .string ⟨#[109, 111, 118, 101]⟩, .string ⟨#[115, 101, 113]⟩]
  { w0 with heap := h5 }

theorem laid_first : Rows.laid_unicode_utf8_first = Lib.firstData := by kernel_rfl
theorem laid_accept : Rows.laid_unicode_utf8_acceptRanges (H := Unit) = Lib.acceptData := by kernel_rfl
theorem laid_pow10 : Rows.laid_internal_strconv_uint64pow10 (H := Unit) = Lib.tabData .u64 Lib.pow10Tab := by kernel_rfl

theorem laid_met (os : Os) (args : Array Value) : laidMet Tryz.prog Rows.pushMayRow.laid ((laidWorld os).forCall (fun _ _ => 0) ⟨#[], args, []⟩).memory :=
  (LaidIn.of_run (l := Rows.pushMayRow.laid) [0, 1, 2, 3, 4, 5] 8 (by kernel_rfl) (by kernel_rfl) (by kernel_rfl) (by kernel_rfl)).met

end Go.Proofs.YtkoliaodkojghaaGreatDoor

/- The table of the mutators' names. Plain. No condition. -/
namespace Go.Proofs.YtkoliaodkojghaaGreatDoor
open Go.RowKit

/-- The table of the mutators' names. -/
def MNames (w : World) : Prop := w.cell? ⟨0, 1, none⟩ = some (.string nPut) ∧ w.cell? ⟨0, 2, none⟩ = some (.string nDel) ∧ w.cell? ⟨0, 3, none⟩ = some (.string nInc) ∧ w.cell? ⟨0, 4, none⟩ = some (.string nCas) ∧ w.cell? ⟨0, 5, none⟩ = some (.string nApp) ∧ w.cell? ⟨0, 6, none⟩ = some (.string nMove) ∧ w.cell? ⟨0, 7, none⟩ = some (.string nSeq) ∧ 0 < w.heap.size
theorem MNames.below {w w' : World} (h : MNames w) (hb : Below w.heap.size w w') : MNames w' := by
  obtain ⟨h1, h2, h3, h4, h5, h6, h7, h8⟩ := h
  exact ⟨(hb.cell h8).trans h1, (hb.cell h8).trans h2, (hb.cell h8).trans h3, (hb.cell h8).trans h4, (hb.cell h8).trans h5, (hb.cell h8).trans h6, (hb.cell h8).trans h7, Nat.lt_of_lt_of_le h8 hb.size⟩
end Go.Proofs.YtkoliaodkojghaaGreatDoor

/- Rows that a call builds by append: several data at once; a row's literal. Plain. No condition. -/
namespace Go.Proofs.YtkoliaodkojghaaGreatDoor
open Go Go.RowKit

/-- A literal of one datum. -/
theorem RowX.lit {S0 : Nat → Prop} {b : Nat} {t : TypeId} {w : World} {d : D} {cs : Array Value} (hb : b ≤ w.heap.size) (hd : d.cells = cs.size) (h : HoldsIn (fun i => S0 i ∧ i ≠ w.heap.size) (w.alloc (.cells cs t)) d cs.toList) :
    RowX S0 b t cs.size (w.alloc (.cells cs t)) [d] (.slice (some ⟨w.heap.size, 0, none⟩) 1 1) := by
  refine ⟨cs.toList, ⟨by simp, .inr ⟨w.heap.size, 1, cs, rfl, hb, heap_alloc_new w _, Nat.le_refl _, by unfold maxLen; omega, by simp, ?_⟩⟩, fun x hx => ?_, HoldsInA.one (h.mono fun i _ hi => ⟨hi.1, fun e => hi.2 (Option.some.inj (e : some w.heap.size = some i)).symm⟩)⟩
  · simp only [List.length_cons, List.length_nil, Nat.zero_add, Nat.one_mul]
    rw [← Array.length_toList, List.take_length]
  · simp only [List.mem_cons, List.not_mem_nil, or_false] at hx
    rw [hx]; exact hd

section
variable {P : Program}
theorem run_append_L {t ty e : TypeId} {i : TypeInfo} {z : Value} {sz bytes : Nat} (ht : P.underlying t = some (.slice e)) (hi : P.info? e = some i) (hz : i.zero = some z) (hsize : i.size = sz) (hby : i.bytes = bytes) (hzs : z.cells.size = sz) (hsz : 0 < sz)
    {S0 : Nat → Prop} {b : Nat} {w : World} {l : List D} {V : Value} (hrow : RowX S0 b e sz w l V) (hbw : b ≤ w.heap.size) {dl : List D} {cs : List Value} (hd : ∀ d ∈ dl, d.cells = sz) (hx : HoldsInA (fun i => S0 i ∧ V.ownBlock ≠ some i) w dl cs)
    {B : Nat} {A : Option Addr} {n c : Nat} (hr : Reads w B sz A n cs) (hn : n = dl.length) (h63 : l.length + n ≤ maxLen) (hbytes : (l.length + n) * bytes ≤ 140737488355328) :
    ∃ V' w6, (Builtin.append_ #[t, t] ty #[V, .slice A n c]).run P w = .ok V' w6 ∧ RowX S0 b e sz w6 (l ++ dl) V' ∧ w.grownBy w6 V.ownBlock ∧ (V'.ownBlock = V.ownBlock ∨ V'.ownBlock = some w.heap.size) := by
  subst hn
  obtain ⟨ns, h1, h2, h3⟩ := hrow
  obtain ⟨V', w6, hrun, g1, g2, g3⟩ := run_append_any (P := P) w b t ty e i z sz bytes ht hi hz hsize hby hzs hsz V l.length ns h1 B A dl.length c cs hr hx.now.len.2 h63 hbytes hbw
  refine ⟨V', w6, hrun, ⟨ns ++ cs, by rw [List.length_append]; exact g1, ?_, ?_⟩, g2, g3⟩
  · intro x hx'
    rcases List.mem_append.1 hx' with hx' | hx'
    · exact h2 x hx'
    · exact hd x hx'
  · have key : ∀ p : Addr, V.ownBlock ≠ some p.block → p.block < w.heap.size → V'.ownBlock ≠ some p.block := by
      intro p p1 p2
      rcases g3 with e3 | e3
      · rw [e3]; exact p1
      · rw [e3]; intro e4; have := Option.some.inj e4; omega
    have hag : ∀ w'' : World, w6.heap.size ≤ w''.heap.size → (∀ p : Addr, S0 p.block ∧ V'.ownBlock ≠ some p.block → p.block < w6.heap.size → w''.cell? p = w6.cell? p) → ∀ p : Addr, S0 p.block ∧ V.ownBlock ≠ some p.block → p.block < w.heap.size → w''.cell? p = w.cell? p := by
      intro w'' k1 k2 p p1 p2
      rw [k2 p ⟨p1.1, key p p1.2 p2⟩ (Nat.lt_of_lt_of_le p2 g2.size)]
      exact World.cell?_of_block (g2.block p.block p2 (fun e => p1.2 e.symm))
    intro w'' k1 k2
    have a1 := HoldsA.more (h3 w'' (Nat.le_trans g2.size k1) (hag w'' k1 k2)) g2.size
    have a2 := HoldsA.more (hx w'' (Nat.le_trans g2.size k1) (hag w'' k1 k2)) g2.size
    exact a1.app a2
theorem wp_append_L {o : Oper} {a : Act} {w : World} {K : Act → World → Prop} {Q : Exit → Act → World → Prop} (s x : Operand) (t : TypeId) {e : TypeId}
    (ho : o.op = .call { callee := .builtin .append, args := #[s, x], argTypes := #[t, t] }) {i : TypeInfo} {z : Value} {sz bytes : Nat} (ht : P.underlying t = some (.slice e)) (hi : P.info? e = some i) (hz : i.zero = some z) (hsize : i.size = sz) (hby : i.bytes = bytes) (hzs : z.cells.size = sz) (hsz : 0 < sz)
    {S0 : Nat → Prop} {b : Nat} {l : List D} {V : Value} (hs : a.eval s = V) (hrow : RowX S0 b e sz w l V) (hbw : b ≤ w.heap.size) {dl : List D} {cs : List Value} (hd : ∀ d ∈ dl, d.cells = sz) (hf : HoldsInA (fun i => S0 i ∧ V.ownBlock ≠ some i) w dl cs)
    {B : Nat} {A : Option Addr} {n c : Nat} (hx : a.eval x = .slice A n c) (hr : Reads w B sz A n cs) (hn : n = dl.length) (h63 : l.length + n ≤ maxLen) (hbytes : (l.length + n) * bytes ≤ 140737488355328)
    (h : ∀ V' w6, RowX S0 b e sz w6 (l ++ dl) V' → w.grownBy w6 V.ownBlock → (V'.ownBlock = V.ownBlock ∨ V'.ownBlock = some w.heap.size) → K (a.put o.dst V') w6) : o.wp P a w K Q := by
  obtain ⟨V', w6, hrun, g1, g2, g3⟩ := run_append_L (ty := o.type) (c := c) ht hi hz hsize hby hzs hsz hrow hbw hd hf hr hn h63 hbytes
  unfold Oper.wp execOp
  simp only [ho, resolve, invoke, builtin, Sem.run_bind, Sem.run_pure, Result.andThen_ok, List.map_toArray, List.map_cons, List.map_nil, hs, hx, hrun]
  exact h V' w6 g1 g2 g3
theorem wpList_append_L {ops : Array Oper} {rest : List Oper} {o : Oper} {a : Act} {w : World} {Q : Exit → Act → World → Prop} (hgd : o.guard = none) (s x : Operand) (t : TypeId) {e : TypeId}
    (ho : o.op = .call { callee := .builtin .append, args := #[s, x], argTypes := #[t, t] }) {i : TypeInfo} {z : Value} {sz bytes : Nat} (ht : P.underlying t = some (.slice e)) (hi : P.info? e = some i) (hz : i.zero = some z) (hsize : i.size = sz) (hby : i.bytes = bytes) (hzs : z.cells.size = sz) (hsz : 0 < sz)
    {S0 : Nat → Prop} {b : Nat} {l : List D} {V : Value} (hs : a.eval s = V) (hrow : RowX S0 b e sz w l V) (hbw : b ≤ w.heap.size) {dl : List D} {cs : List Value} (hd : ∀ d ∈ dl, d.cells = sz) (hf : HoldsInA (fun i => S0 i ∧ V.ownBlock ≠ some i) w dl cs)
    {B : Nat} {A : Option Addr} {n c : Nat} (hx : a.eval x = .slice A n c) (hr : Reads w B sz A n cs) (hn : n = dl.length) (h63 : l.length + n ≤ maxLen) (hbytes : (l.length + n) * bytes ≤ 140737488355328)
    (h : ∀ V' w6, RowX S0 b e sz w6 (l ++ dl) V' → w.grownBy w6 V.ownBlock → (V'.ownBlock = V.ownBlock ∨ V'.ownBlock = some w.heap.size) → wpList P ops Q rest (a.put o.dst V') w6) : wpList P ops Q (o :: rest) a w :=
  wpList_plain hgd fun _ hK => wp_append_L s x t ho ht hi hz hsize hby hzs hsz hs hrow hbw hd hf hx hr hn h63 hbytes fun V' w6 h2 h3 h4 => hK _ _ (h V' w6 h2 h3 h4)
end
end Go.Proofs.YtkoliaodkojghaaGreatDoor

/- Loads and stores of structs of many cells at once. Plain. No condition. -/
namespace Go.Proofs.YtkoliaodkojghaaGreatDoor
open Go Go.RowKit

theorem setCells_new (w : World) (t : TypeId) : ∀ (vs : List Value) (cs : Array Value) (o : Nat), (w.alloc (.cells cs t)).setCells w.heap.size o vs = w.alloc (.cells (over cs o vs) t)
  | [], _, _ => rfl
  | v :: r, cs, o => by
    rw [World.setCells, World.setCell_alloc_at cs t _ o v rfl, setCells_new w t r]
    rfl
theorem over_all (cs0 cs : Array Value) (h : cs0.size = cs.size) : over cs0 0 cs.toList = cs := by
  refine Array.ext_getElem? fun i => ?_
  rw [over_get _ _ _ _ (by simp [h])]
  by_cases hi : i < cs.size
  · rw [if_pos (by simpa using hi)]; simp
  · rw [if_neg (by simpa using hi), Array.getElem?_eq_none (by omega), Array.getElem?_eq_none (by omega)]
theorem blk_range {w : World} {g : Nat} {t : TypeId} {cs : Array Value} (h : Blk w g t cs) : w.rangeAt g 0 cs.toList := fun j v hv => by
  rw [Nat.zero_add]; exact (h.cell j).trans (by rw [← Array.getElem?_toList]; exact hv)
section
variable {P : Program}
/-- A whole struct is stored into the block that was made last. -/
theorem wp_store_new {op : Oper} {a : Act} {w : World} {K : Act → World → Prop} {Q : Exit → Act → World → Prop} (ty : TypeId) (x y : Operand) (ho : op.op = .store ty x y) {cs0 : Array Value} {t : TypeId} (cs : Array Value)
    (hx : a.eval x = .pointer (some ⟨w.heap.size, 0, none⟩)) (hy : a.eval y = .agg cs) (hs : cs0.size = cs.size) (hi : (P.info? ty).map (·.size) = some cs.size) (h1 : cs.all (·.oneCell') = true)
    (h : K (a.put op.dst undef) (w.alloc (.cells cs t))) : op.wp P a (w.alloc (.cells cs0 t)) K Q := by
  refine wp_store_mid ty x y ho w.heap.size 0 cs hx hy (fun j hj => ?_) hi h1 ?_
  · have hb := Blk.new w t cs0
    refine ⟨?_, hb.frozen _⟩
    rw [Nat.zero_add, hb.cell j, Array.getElem?_eq_getElem (by omega)]
    rfl
  · rw [setCells_new, over_all _ _ hs]
    exact h
/-- A whole struct is loaded from its block. -/
theorem wp_load_blk {op : Oper} {a : Act} {w : World} {K : Act → World → Prop} {Q : Exit → Act → World → Prop} (ty : TypeId) (x : Operand) (ho : op.op = .load ty x) (g : Nat) {t : TypeId} (cs : Array Value) (hb : Blk w g t cs)
    (hx : a.eval x = .pointer (some ⟨g, 0, none⟩)) (d : TypeDesc) (hu : P.underlying ty = some d) (hd : d.isRow = true) (hi : (P.info? ty).map (·.size) = some cs.size)
    (h : K (a.put op.dst (.agg cs)) w) : op.wp P a w K Q := by
  refine wp_load_mid ty x ho g 0 hx cs.toList d (blk_range hb) hu hd (by simpa using hi) ?_
  simpa using h
theorem setCells_many (b : Nat) : ∀ (vs : List Value) (o : Nat) (w : World), w.setCells b o vs = setMany w b o vs
  | [], _, _ => rfl
  | _ :: r, o, _ => by rw [World.setCells, setMany, setCells_many b r]
theorem run_storeVar_any (w : World) (b o : Nat) (ty : TypeId) (v : Value) (ht : w.there b o v.cells.size) (hi : (P.info? ty).map (·.size) = some v.cells.size) (h1 : ∀ u ∈ v.cells.toList, u.oneCell' = true) :
    (storeVar ty ⟨b, o, none⟩ v).run P w = .ok () (w.setCells b o v.cells.toList) := by
  have := run_storeCells_cells (P := P) b o v.cells.toList 0 w (fun j hj => by simpa using (ht j (by simpa using hj)).1) (fun j hj => by simpa using (ht j (by simpa using hj)).2) h1
  cases hq : P.info? ty with
  | none => simp [hq] at hi
  | some i =>
    have hs : v.cells.size = i.size := by simp [hq] at hi; omega
    simp only [Nat.add_zero] at this
    simp [storeVar, sizeOf, typeInfo, hq, hs, this]
/-- A store into a block that is known whole: the world behind it has no other name. -/
theorem wp_store_blk {op : Oper} {a : Act} {w : World} {K : Act → World → Prop} {Q : Exit → Act → World → Prop} (ty : TypeId) (x y : Operand) (ho : op.op = .store ty x y) (g o : Nat) {t : TypeId} {cs : Array Value} (hb : Blk w g t cs) (v : Value)
    (hx : a.eval x = .pointer (some ⟨g, o, none⟩)) (hy : a.eval y = v) (hl : o + v.cells.size ≤ cs.size) (hi : (P.info? ty).map (·.size) = some v.cells.size) (h1 : ∀ u ∈ v.cells.toList, u.oneCell' = true)
    {B : Nat} {w0 : World} (hB : Below B w0 w) (hg : B ≤ g) (h : ∀ w', Blk w' g t (over cs o v.cells.toList) → Below B w0 w' → K (a.put op.dst undef) w') : op.wp P a w K Q := by
  have ht : w.there g o v.cells.size := fun j hj => by
    refine ⟨?_, hb.frozen _⟩
    rw [hb.cell (o + j), Array.getElem?_eq_getElem (by omega)]
    rfl
  unfold Oper.wp execOp
  simp only [ho, hx, hy, Instr.storeAt, Instr.sureAddr, Sem.run_bind, Sem.run_pure, Result.andThen_ok, run_storeVar_any w g o ty v ht hi h1]
  rw [setCells_many]
  exact h _ (setMany_at _ hb) (setMany_below _ hB hg)
end
end Go.Proofs.YtkoliaodkojghaaGreatDoor
