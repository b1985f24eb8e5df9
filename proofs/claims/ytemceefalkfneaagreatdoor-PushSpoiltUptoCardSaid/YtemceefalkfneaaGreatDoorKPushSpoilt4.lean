/- Parts, joined: A mutator's nineteen cells. Plain. No condition. Loads and stores of structs of many cells at once. Plain. No condition. -/
import Derived.Test.YtemceefalkfneaaGreatDoorProg
import Derived.Deep.MidRow
import Derived.Test.YtemceefalkfneaaGreatDoorKCm1
import Derived.Test.YtemceefalkfneaaGreatDoorKCm17
import Derived.Test.YtemceefalkfneaaGreatDoorKPushSpoilt1
/- A mutator's nineteen cells. Plain. No condition. -/
namespace Go.Proofs.YtemceefalkfneaaGreatDoor
open Go.RowKit

theorem mut_cells {w : World} {B : Nat} {k : Int} {key dst : ByteArray} {n : Int} {had : Bool} {k1 : Int} {b1 : Bool} {n1 : Int} {t1 : ByteArray} {l1 : List Val} {o1 : List (ByteArray × Val)} {has : Bool} {k2 : Int} {b2 : Bool} {n2 : Int} {t2 : ByteArray} {l2 : List Val} {o2 : List (ByteArray × Val)} {l : List Mut} {cs : List Value} (h : Holds w B (dM (Mut.mk k key dst n had (.mk k1 b1 n1 t1 l1 o1) has (.mk k2 b2 n2 t2 l2 o2) l)) cs) :
    ∃ la1 lc1 oa1 oc1 la2 lc2 oa2 oc2 a c, cs = [.int .i64 k, .string key, .string dst, .int .i64 n, .bool had, .int .i64 k1, .bool b1, .int .i64 n1, .string t1, .slice la1 l1.length lc1, .slice oa1 o1.length oc1, .bool has, .int .i64 k2, .bool b2, .int .i64 n2, .string t2, .slice la2 l2.length lc2, .slice oa2 o2.length oc2, .slice a l.length c] ∧ HoldsV w B (.mk k1 b1 n1 t1 l1 o1) [.int .i64 k1, .bool b1, .int .i64 n1, .string t1, .slice la1 l1.length lc1, .slice oa1 o1.length oc1] ∧ HoldsV w B (.mk k2 b2 n2 t2 l2 o2) [.int .i64 k2, .bool b2, .int .i64 n2, .string t2, .slice la2 l2.length lc2, .slice oa2 o2.length oc2] ∧ Holds w B (.row 19 (dMs l)) [.slice a l.length c] := by
  simp only [dM, Holds] at h
  obtain ⟨_, _, rfl, ⟨rfl, _⟩, _, _, rfl, ⟨rfl, _⟩, _, _, rfl, ⟨rfl, _⟩, _, _, rfl, ⟨rfl, _⟩, _, _, rfl, ⟨rfl, _⟩, x1, _, rfl, h1, _, _, rfl, ⟨rfl, _⟩, x2, _, rfl, h2, x3, _, rfl, h3, rfl⟩ := h
  have g1 := holdsV_of _ _ h1
  have g2 := holdsV_of _ _ h2
  have e1 := g1
  have e2 := g2
  simp only [HoldsV] at e1 e2
  obtain ⟨la1, lc1, oa1, oc1, rfl, _, _⟩ := e1
  obtain ⟨la2, lc2, oa2, oc2, rfl, _, _⟩ := e2
  obtain ⟨a, c, rfl, hs, hr⟩ := h3
  rw [dMs_len]
  exact ⟨la1, lc1, oa1, oc1, la2, lc2, oa2, oc2, a, c, rfl, g1, g2, a, c, by rw [dMs_len], hs, hr⟩
theorem mut_at {w : World} {B n c : Nat} {l : List Mut} {a : Option Addr} (h : Holds w B (.row 19 (dMs l)) [.slice a n c]) {q : Nat} {m : Mut} (hi : l[q]? = some m) :
    ∃ g off, a = some ⟨g, off, none⟩ ∧ g < B ∧ ∃ cs, Holds w B (dM m) cs ∧ cs.length = 19 ∧ ∀ j u, cs[j]? = some u → w.cell? ⟨g, off + q * 19 + j, none⟩ = some u :=
  h.at_ (i := q) (d := dM m) (by rw [dMs_map, List.getElem?_map, hi]; rfl)
/-- The cells of a block that holds a mutator. -/
theorem mcell19 {w : World} {g : Nat} {t : TypeId} {a0 a1 a2 a3 a4 a5 a6 a7 a8 a9 a10 a11 a12 a13 a14 a15 a16 a17 a18 : Value} (h : Blk w g t #[a0, a1, a2, a3, a4, a5, a6, a7, a8, a9, a10, a11, a12, a13, a14, a15, a16, a17, a18]) :
    w.cell? ⟨g, 0, none⟩ = some a0 ∧ w.cell? ⟨g, 1, none⟩ = some a1 ∧ w.cell? ⟨g, 2, none⟩ = some a2 ∧ w.cell? ⟨g, 3, none⟩ = some a3 ∧ w.cell? ⟨g, 4, none⟩ = some a4 ∧ w.cell? ⟨g, 5, none⟩ = some a5 ∧ w.cell? ⟨g, 6, none⟩ = some a6 ∧ w.cell? ⟨g, 7, none⟩ = some a7 ∧ w.cell? ⟨g, 8, none⟩ = some a8 ∧ w.cell? ⟨g, 9, none⟩ = some a9 ∧ w.cell? ⟨g, 10, none⟩ = some a10 ∧ w.cell? ⟨g, 11, none⟩ = some a11 ∧ w.cell? ⟨g, 12, none⟩ = some a12 ∧ w.cell? ⟨g, 13, none⟩ = some a13 ∧ w.cell? ⟨g, 14, none⟩ = some a14 ∧ w.cell? ⟨g, 15, none⟩ = some a15 ∧ w.cell? ⟨g, 16, none⟩ = some a16 ∧ w.cell? ⟨g, 17, none⟩ = some a17 ∧ w.cell? ⟨g, 18, none⟩ = some a18 := ⟨h.cell 0, h.cell 1, h.cell 2, h.cell 3, h.cell 4, h.cell 5, h.cell 6, h.cell 7, h.cell 8, h.cell 9, h.cell 10, h.cell 11, h.cell 12, h.cell 13, h.cell 14, h.cell 15, h.cell 16, h.cell 17, h.cell 18⟩
theorem mut_len {w : World} {B : Nat} {m : Mut} {cs : List Value} (h : Holds w B (dM m) cs) : cs.length = 19 := h.len.1.trans (dM_cells m)
end Go.Proofs.YtemceefalkfneaaGreatDoor

/- Loads and stores of structs of many cells at once. Plain. No condition. -/
namespace Go.Proofs.YtemceefalkfneaaGreatDoor
open Go Go.RowKit

theorem setCells_new (w : World) (t : TypeId) : ∀ (vs : List Value) (cs : Array Value) (o : Nat), (w.alloc (.cells cs t)).setCells w.heap.size o vs = w.alloc (.cells (over cs o vs) t)
  | [], _, _ => rfl
  | v :: r, cs, o => by
    rw [World.setCells, World.setCell_alloc_at cs t _ o v rfl, setCells_new w t r]
    rfl
theorem over_all (cs0 cs : Array Value) (h : cs0.size = cs.size) : over cs0 0 cs.toList = cs := by
  refine Array.ext_getElem? fun i => ?_
  rw [over_get _ _ _ _ (by simp [h])]
  by_cases hi : i < cs.size
  · rw [if_pos (by simpa using hi)]; simp
  · rw [if_neg (by simpa using hi), Array.getElem?_eq_none (by omega), Array.getElem?_eq_none (by omega)]
theorem blk_range {w : World} {g : Nat} {t : TypeId} {cs : Array Value} (h : Blk w g t cs) : w.rangeAt g 0 cs.toList := fun j v hv => by
  rw [Nat.zero_add]; exact (h.cell j).trans (by rw [← Array.getElem?_toList]; exact hv)
section
variable {P : Program}
/-- A whole struct is stored into the block that was made last. -/
theorem wp_store_new {op : Oper} {a : Act} {w : World} {K : Act → World → Prop} {Q : Exit → Act → World → Prop} (ty : TypeId) (x y : Operand) (ho : op.op = .store ty x y) {cs0 : Array Value} {t : TypeId} (cs : Array Value)
    (hx : a.eval x = .pointer (some ⟨w.heap.size, 0, none⟩)) (hy : a.eval y = .agg cs) (hs : cs0.size = cs.size) (hi : (P.info? ty).map (·.size) = some cs.size) (h1 : cs.all (·.oneCell') = true)
    (h : K (a.put op.dst undef) (w.alloc (.cells cs t))) : op.wp P a (w.alloc (.cells cs0 t)) K Q := by
  refine wp_store_mid ty x y ho w.heap.size 0 cs hx hy (fun j hj => ?_) hi h1 ?_
  · have hb := Blk.new w t cs0
    refine ⟨?_, hb.frozen _⟩
    rw [Nat.zero_add, hb.cell j, Array.getElem?_eq_getElem (by omega)]
    rfl
  · rw [setCells_new, over_all _ _ hs]
    exact h
/-- A whole struct is loaded from its block. -/
theorem wp_load_blk {op : Oper} {a : Act} {w : World} {K : Act → World → Prop} {Q : Exit → Act → World → Prop} (ty : TypeId) (x : Operand) (ho : op.op = .load ty x) (g : Nat) {t : TypeId} (cs : Array Value) (hb : Blk w g t cs)
    (hx : a.eval x = .pointer (some ⟨g, 0, none⟩)) (d : TypeDesc) (hu : P.underlying ty = some d) (hd : d.isRow = true) (hi : (P.info? ty).map (·.size) = some cs.size)
    (h : K (a.put op.dst (.agg cs)) w) : op.wp P a w K Q := by
  refine wp_load_mid ty x ho g 0 hx cs.toList d (blk_range hb) hu hd (by simpa using hi) ?_
  simpa using h
theorem setCells_many (b : Nat) : ∀ (vs : List Value) (o : Nat) (w : World), w.setCells b o vs = setMany w b o vs
  | [], _, _ => rfl
  | _ :: r, o, _ => by rw [World.setCells, setMany, setCells_many b r]
theorem run_storeVar_any (w : World) (b o : Nat) (ty : TypeId) (v : Value) (ht : w.there b o v.cells.size) (hi : (P.info? ty).map (·.size) = some v.cells.size) (h1 : ∀ u ∈ v.cells.toList, u.oneCell' = true) :
    (storeVar ty ⟨b, o, none⟩ v).run P w = .ok () (w.setCells b o v.cells.toList) := by
  have := run_storeCells_cells (P := P) b o v.cells.toList 0 w (fun j hj => by simpa using (ht j (by simpa using hj)).1) (fun j hj => by simpa using (ht j (by simpa using hj)).2) h1
  cases hq : P.info? ty with
  | none => simp [hq] at hi
  | some i =>
    have hs : v.cells.size = i.size := by simp [hq] at hi; omega
    simp only [Nat.add_zero] at this
    simp [storeVar, sizeOf, typeInfo, hq, hs, this]
/-- A store into a block that is known whole: the world behind it has no other name. -/
theorem wp_store_blk {op : Oper} {a : Act} {w : World} {K : Act → World → Prop} {Q : Exit → Act → World → Prop} (ty : TypeId) (x y : Operand) (ho : op.op = .store ty x y) (g o : Nat) {t : TypeId} {cs : Array Value} (hb : Blk w g t cs) (v : Value)
    (hx : a.eval x = .pointer (some ⟨g, o, none⟩)) (hy : a.eval y = v) (hl : o + v.cells.size ≤ cs.size) (hi : (P.info? ty).map (·.size) = some v.cells.size) (h1 : ∀ u ∈ v.cells.toList, u.oneCell' = true)
    {B : Nat} {w0 : World} (hB : Below B w0 w) (hg : B ≤ g) (h : ∀ w', Blk w' g t (over cs o v.cells.toList) → Below B w0 w' → K (a.put op.dst undef) w') : op.wp P a w K Q := by
  have ht : w.there g o v.cells.size := fun j hj => by
    refine ⟨?_, hb.frozen _⟩
    rw [hb.cell (o + j), Array.getElem?_eq_getElem (by omega)]
    rfl
  unfold Oper.wp execOp
  simp only [ho, hx, hy, Instr.storeAt, Instr.sureAddr, Sem.run_bind, Sem.run_pure, Result.andThen_ok, run_storeVar_any w g o ty v ht hi h1]
  rw [setCells_many]
  exact h _ (setMany_at _ hb) (setMany_below _ hB hg)
end
end Go.Proofs.YtemceefalkfneaaGreatDoor
