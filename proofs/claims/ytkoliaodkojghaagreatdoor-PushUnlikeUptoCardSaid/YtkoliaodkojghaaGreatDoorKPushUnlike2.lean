/- Parts, joined: Arguments that read as a mutator, and as a push. No condition. Maps cell by cell, whatever their elements: an entry stored, an entry looked up. Plain. No condition. mutator.beginning, keyed, blank, strange. Condition: texts shorter than 10^9. mutator.Size, and the reference's: how many mutators it is. Condition: a bulk of at most 10^8. The reference's word on a mutator's fields: zero, short, key, bare. Condition: values of a bulk of at most 10^8. -/
import Derived.Test.YtkoliaodkojghaaGreatDoorProg
import Derived.Lib.SmallJoins
import Derived.WalkKit
import Derived.Below
import Derived.Maps.OwnSet
import Derived.Laws.OwnMore
import Derived.Test.YtkoliaodkojghaaGreatDoorKPush7
import Derived.Test.YtkoliaodkojghaaGreatDoorKPush17
import Derived.Test.YtkoliaodkojghaaGreatDoorKPush24
import Derived.Test.YtkoliaodkojghaaGreatDoorKPush27
import Derived.Test.YtkoliaodkojghaaGreatDoorKPush37
import Derived.Test.YtkoliaodkojghaaGreatDoorKPush39
import Derived.Test.YtkoliaodkojghaaGreatDoorKPushUnlike1
/- Arguments that read as a mutator, and as a push. No condition. -/
namespace Go.Proofs.YtkoliaodkojghaaGreatDoor
open Go.RowKit Go.ChangeShapes Go.WideShapes

theorem cells_mut : Tryz.prog.cellsOf 48 = 19 := by kernel_rfl
theorem cells_mk : Tryz.prog.cellsOf 40 = 1 := by kernel_rfl
theorem cells_lmut : Tryz.prog.cellsOf 46 = 1 := by kernel_rfl
theorem cells_num : Tryz.prog.cellsOf 50 = 20 := by kernel_rfl
theorem cells_lnum : Tryz.prog.cellsOf 23 = 1 := by kernel_rfl
theorem cells_push : Tryz.prog.cellsOf 25 = 2 := by kernel_rfl
theorem cells_u64' : Tryz.prog.cellsOf 22 = 1 := by kernel_rfl
theorem cells19 {α : Type} {cs : List α} (h : cs.length = 19) : ∃ c0 c1 c2 c3 c4 c5 c6 c7 c8 c9 c10 c11 c12 c13 c14 c15 c16 c17 c18, cs = [c0, c1, c2, c3, c4, c5, c6, c7, c8, c9, c10, c11, c12, c13, c14, c15, c16, c17, c18] := by
  match cs, h with
  | [c0, c1, c2, c3, c4, c5, c6, c7, c8, c9, c10, c11, c12, c13, c14, c15, c16, c17, c18], _ => exact ⟨_, _, _, _, _, _, _, _, _, _, _, _, _, _, _, _, _, _, _, rfl⟩
theorem cells20 {α : Type} {cs : List α} (h : cs.length = 20) : ∃ c0 c1 c2 c3 c4 c5 c6 c7 c8 c9 c10 c11 c12 c13 c14 c15 c16 c17 c18 c19, cs = [c0, c1, c2, c3, c4, c5, c6, c7, c8, c9, c10, c11, c12, c13, c14, c15, c16, c17, c18, c19] := by
  match cs, h with
  | [c0, c1, c2, c3, c4, c5, c6, c7, c8, c9, c10, c11, c12, c13, c14, c15, c16, c17, c18, c19], _ => exact ⟨_, _, _, _, _, _, _, _, _, _, _, _, _, _, _, _, _, _, _, _, rfl⟩
theorem u64_in' {n : Int} (hwf : (Lit.int .u64 n).wf = true) : 0 ≤ n := by
  have h1 : IntKind.u64.min = 0 := by decide
  simp only [Lit.wf, h1, Bool.and_eq_true, decide_eq_true_eq] at hwf
  exact hwf.1
theorem i64_in' {i : Int} (hwf : (Lit.int .i64 i).wf = true) : -9223372036854775808 ≤ i ∧ i ≤ 9223372036854775807 := by
  have h1 : IntKind.i64.min = -9223372036854775808 := by decide
  have h2 : IntKind.i64.max = 9223372036854775807 := by decide
  simp only [Lit.wf, h1, h2, Bool.and_eq_true, decide_eq_true_eq] at hwf
  exact hwf

section
variable {H : Type} {enc : TypeId × Value → H} {w : World} {sp : Nat → Bool} {held : Bool}

/-- What a reading at type Mutator gives. -/
def ReadsM (enc : TypeId × Value → H) (w : World) (sp : Nat → Bool) (held : Bool) (n : Nat) : Prop := ∀ (cs : List Value) (x : DataW H × List MemPlace), DataW.trod enc Tryz.prog w 0 sp held n 48 cs = some x →
    ∃ m, Holds w w.heap.size (dM m) cs ∧ inM m ∧ bulkM m ≤ Rows.uptoBulk x.1

/-- A row of data in memory, one by one. -/
theorem holdsA_cons {s : Nat} {d : D} {ds : List D} {cs ns : List Value} {g off : Nat} (hd : Holds w w.heap.size d cs) (hs : cs.length = s) (hc : ∀ j u, cs[j]? = some u → w.cell? ⟨g, off + j, none⟩ = some u)
    (hr : HoldsA w w.heap.size ds ns) (hn : ∀ j u, ns[j]? = some u → w.cell? ⟨g, off + s + j, none⟩ = some u) :
    ∃ ms, HoldsA w w.heap.size (d :: ds) ms ∧ ∀ j u, ms[j]? = some u → w.cell? ⟨g, off + j, none⟩ = some u := by
  refine ⟨cs ++ ns, ⟨cs, ns, rfl, hd, hr⟩, fun j u hu => ?_⟩
  by_cases hj : j < s
  · rw [List.getElem?_append_left (by omega)] at hu
    exact hc j u hu
  · rw [List.getElem?_append_right (by omega)] at hu
    have := hn (j - cs.length) u hu
    rwa [show off + s + (j - cs.length) = off + j from by omega] at this

theorem open_muts {n : Nat} (IH : ReadsM enc w sp held n) : ∀ (elems : List (DataW H × List MemPlace)) (g off : Nat),
    (∀ i, i < elems.length → (w.cells? 0 ⟨g, off + i * 19, none⟩ 19).bind (DataW.trod enc Tryz.prog w 0 sp held n 48) = elems[i]?) →
    ∃ l : List Mut, l.length = elems.length ∧ (∃ ns, HoldsA w w.heap.size (dMs l) ns ∧ ∀ j u, ns[j]? = some u → w.cell? ⟨g, off + j, none⟩ = some u) ∧ inMs l ∧ bulkMs l ≤ Rows.uptoBulkAll (elems.map (·.1))
  | [], _, _, _ => ⟨[], rfl, ⟨[], rfl, fun j u h => by simp at h⟩, trivial, by simp [bulkMs]⟩
  | y :: r, g, off, h => by
    obtain ⟨l, h1, ⟨ns, h2, h2'⟩, h3, h4⟩ := open_muts IH r g (off + 19) (fun i hi => by
      have := h (i + 1) (by simpa using hi)
      rw [show off + (i + 1) * 19 = off + 19 + i * 19 from by omega] at this
      simpa using this)
    have h0 := h 0 (by simp)
    simp only [Nat.zero_mul, Nat.add_zero, List.getElem?_cons_zero] at h0
    obtain ⟨cs, hcs, hx⟩ := Option.bind_eq_some_iff.1 h0
    obtain ⟨m, v1, v2, v3⟩ := IH cs y hx
    obtain ⟨_, hc⟩ := cells_at (by omega) hcs
    refine ⟨m :: l, by simp [h1], holdsA_cons v1 (v1.len.1.trans (dM_cells m)) hc h2 h2', ⟨v2, h3⟩, ?_⟩
    simp only [bulkMs, List.map_cons, Rows.uptoBulkAll]
    omega

theorem open_mutscell {n : Nat} {c4 : Value} {y4 : DataW H × List MemPlace} (IH : ∀ m, m < n → ReadsM enc w sp held m) (f4 : DataW.trod enc Tryz.prog w 0 sp held n 46 [c4] = some y4) :
    ∃ l : List Mut, Holds w w.heap.size (.row 19 (dMs l)) [c4] ∧ inMs l ∧ 1 + bulkMs l ≤ Rows.uptoBulk y4.1 := by
  rcases DataW.trod_slice Tryz.underlying46 f4 with ⟨e, rfl⟩ | ⟨a, len, cap, elems, rest, q, hn, e, rfl, _, _, _, hlen', hel, _, _⟩
  · simp only [List.cons.injEq, and_true] at e
    exact ⟨[], ⟨none, 0, by rw [e]; rfl, dMs_cells _, [], rfl, .inl rfl⟩, trivial, by simp [bulkMs, Rows.uptoBulk]⟩
  · simp only [List.cons.injEq, and_true] at e
    subst e
    by_cases h0 : len = 0
    · subst h0
      exact ⟨[], ⟨some a, cap, rfl, dMs_cells _, [], rfl, .inl rfl⟩, trivial, by simp [bulkMs, Rows.uptoBulk]⟩
    · obtain ⟨g, off, spot⟩ := a
      rw [cells_mut] at hel
      have hz := hel 0 (by omega)
      rw [List.getElem?_eq_getElem (by omega)] at hz
      obtain ⟨cs', hcs', _⟩ := Option.bind_eq_some_iff.1 hz
      obtain ⟨_, hcl, hcc⟩ := World.cells?_some hcs'
      have hz0 := hcc 0 (by omega)
      rw [List.getElem?_eq_getElem (by omega)] at hz0
      have hspot : spot = none := by simpa [Addr.add] using World.cell?_spot hz0
      subst hspot
      simp only [add_plain] at hel hz0
      obtain ⟨l, h1, ⟨ns, h2, h2'⟩, h3, h4⟩ := open_muts (IH q (by omega)) elems g off (fun i hi => hel i (by omega))
      refine ⟨l, ⟨_, cap, by rw [dMs_len, h1, hlen'], dMs_cells _, ns, h2, .inr ⟨g, off, rfl, World.block_lt_of_cell? _ _ hz0, h2'⟩⟩, h3, ?_⟩
      simp only [Rows.uptoBulk]
      omega

set_option maxRecDepth 100000 in
theorem open_mut : ∀ n, ReadsM enc w sp held n := by
  intro n
  induction n using Nat.strongRecOn with
  | _ n IH =>
    intro cs x hx
    obtain ⟨xs, m, rfl, rfl, hl, hlen, hf⟩ := DataW.trod_struct Tryz.underlying48 hx
    have hl6 : cs.length = 19 := hl.trans cells_mut
    obtain ⟨c0, c1, c2, c3, c4, c5, c6, c7, c8, c9, c10, c11, c12, c13, c14, c15, c16, c17, c18, rfl⟩ := cells19 hl6
    have f0 : DataW.trod enc Tryz.prog w 0 sp held m 40 (([c0, c1, c2, c3, c4, c5, c6, c7, c8, c9, c10, c11, c12, c13, c14, c15, c16, c17, c18].drop 0).take (Tryz.prog.cellsOf 40)) = xs[0]? := hf 0 _ rfl
    have f1 : DataW.trod enc Tryz.prog w 0 sp held m 9 (([c0, c1, c2, c3, c4, c5, c6, c7, c8, c9, c10, c11, c12, c13, c14, c15, c16, c17, c18].drop 1).take (Tryz.prog.cellsOf 9)) = xs[1]? := hf 1 _ rfl
    have f2 : DataW.trod enc Tryz.prog w 0 sp held m 9 (([c0, c1, c2, c3, c4, c5, c6, c7, c8, c9, c10, c11, c12, c13, c14, c15, c16, c17, c18].drop 2).take (Tryz.prog.cellsOf 9)) = xs[2]? := hf 2 _ rfl
    have f3 : DataW.trod enc Tryz.prog w 0 sp held m 2 (([c0, c1, c2, c3, c4, c5, c6, c7, c8, c9, c10, c11, c12, c13, c14, c15, c16, c17, c18].drop 3).take (Tryz.prog.cellsOf 2)) = xs[3]? := hf 3 _ rfl
    have f4 : DataW.trod enc Tryz.prog w 0 sp held m 4 (([c0, c1, c2, c3, c4, c5, c6, c7, c8, c9, c10, c11, c12, c13, c14, c15, c16, c17, c18].drop 4).take (Tryz.prog.cellsOf 4)) = xs[4]? := hf 4 _ rfl
    have f5 : DataW.trod enc Tryz.prog w 0 sp held m 45 (([c0, c1, c2, c3, c4, c5, c6, c7, c8, c9, c10, c11, c12, c13, c14, c15, c16, c17, c18].drop 5).take (Tryz.prog.cellsOf 45)) = xs[5]? := hf 5 _ rfl
    have f6 : DataW.trod enc Tryz.prog w 0 sp held m 4 (([c0, c1, c2, c3, c4, c5, c6, c7, c8, c9, c10, c11, c12, c13, c14, c15, c16, c17, c18].drop 11).take (Tryz.prog.cellsOf 4)) = xs[6]? := hf 6 _ rfl
    have f7 : DataW.trod enc Tryz.prog w 0 sp held m 45 (([c0, c1, c2, c3, c4, c5, c6, c7, c8, c9, c10, c11, c12, c13, c14, c15, c16, c17, c18].drop 12).take (Tryz.prog.cellsOf 45)) = xs[7]? := hf 7 _ rfl
    have f8 : DataW.trod enc Tryz.prog w 0 sp held m 46 (([c0, c1, c2, c3, c4, c5, c6, c7, c8, c9, c10, c11, c12, c13, c14, c15, c16, c17, c18].drop 18).take (Tryz.prog.cellsOf 46)) = xs[8]? := hf 8 _ rfl
    simp only [cells_mk, cells_bool, cells_i64, cells_string, cellsV, cells_lmut, List.drop_zero, List.drop_succ_cons, List.take_succ_cons, List.take_zero] at f0 f1 f2 f3 f4 f5 f6 f7 f8
    match xs, hlen with
    | [y0, y1, y2, y3, y4, y5, y6, y7, y8], _ =>
      simp only [List.getElem?_cons_zero, List.getElem?_cons_succ] at f0 f1 f2 f3 f4 f5 f6 f7 f8
      obtain ⟨k, e0, rfl, _⟩ := DataW.trod_int Tryz.underlying40 f0
      obtain ⟨key, e1, rfl, _⟩ := DataW.trod_string Tryz.underlying9 f1
      obtain ⟨dst, e2, rfl, _⟩ := DataW.trod_string Tryz.underlying9 f2
      obtain ⟨i, e3, rfl, hwf⟩ := DataW.trod_int Tryz.underlying2 f3
      obtain ⟨had, e4, rfl⟩ := DataW.trod_bool Tryz.underlying4 f4
      obtain ⟨was, a1, a2, a3⟩ := open_value m _ _ f5
      obtain ⟨has, e6, rfl⟩ := DataW.trod_bool Tryz.underlying4 f6
      obtain ⟨v, b1, b2, b3⟩ := open_value m _ _ f7
      obtain ⟨l, l1, l2, l3⟩ := open_mutscell (fun q hq => IH q (by omega)) f8
      simp only [List.cons.injEq, and_true] at e0 e1 e2 e3 e4 e6
      subst e0 e1 e2 e3 e4 e6
      have hks : key.data.toList.length = key.size := (by rw [Array.length_toList]; rfl)
      have hds : dst.data.toList.length = dst.size := (by rw [Array.length_toList]; rfl)
      refine ⟨.mk k key dst i had was has v l, ?_, ?_, ?_⟩
      · simp only [dM, Holds]
        exact ⟨[.int .i64 k], _, rfl, ⟨rfl, rfl⟩, [.string key], _, rfl, ⟨rfl, rfl⟩, [.string dst], _, rfl, ⟨rfl, rfl⟩, [.int .i64 i], _, rfl, ⟨rfl, rfl⟩, [.bool had], _, rfl, ⟨rfl, rfl⟩, [c5, c6, c7, c8, c9, c10], _, rfl, holds_of_V _ _ a1, [.bool has], _, rfl, ⟨rfl, rfl⟩, [c12, c13, c14, c15, c16, c17], _, rfl, holds_of_V _ _ b1, [c18], [], rfl, l1, rfl⟩
      · simp only [inM]
        exact ⟨i64_in' hwf, a2, b2, l2⟩
      · simp only [bulkM, List.map_cons, List.map_nil, Rows.uptoBulkAll, Rows.uptoBulk]
        omega

theorem open_nums {n : Nat} : ∀ (elems : List (DataW H × List MemPlace)) (g off : Nat),
    (∀ i, i < elems.length → (w.cells? 0 ⟨g, off + i * 20, none⟩ 20).bind (DataW.trod enc Tryz.prog w 0 sp held n 50) = elems[i]?) →
    ∃ l : List Num, l.length = elems.length ∧ (∃ ns, HoldsA w w.heap.size (dNs l) ns ∧ ∀ j u, ns[j]? = some u → w.cell? ⟨g, off + j, none⟩ = some u) ∧ inN l ∧ bulkN l ≤ Rows.uptoBulkAll (elems.map (·.1))
  | [], _, _, _ => ⟨[], rfl, ⟨[], rfl, fun j u h => by simp at h⟩, fun p hp => (by cases hp), by simp [bulkN]⟩
  | y :: r, g, off, h => by
    obtain ⟨l, h1, ⟨ns, h2, h2'⟩, h3, h4⟩ := open_nums r g (off + 20) (fun i hi => by
      have := h (i + 1) (by simpa using hi)
      rw [show off + (i + 1) * 20 = off + 20 + i * 20 from by omega] at this
      simpa using this)
    have h0 := h 0 (by simp)
    simp only [Nat.zero_mul, Nat.add_zero, List.getElem?_cons_zero] at h0
    obtain ⟨cs, hcs, hx⟩ := Option.bind_eq_some_iff.1 h0
    obtain ⟨_, hc⟩ := cells_at (by omega) hcs
    obtain ⟨xs, m, rfl, rfl, hl, hlen, hf⟩ := DataW.trod_struct Tryz.underlying50 hx
    have hl20 : cs.length = 20 := hl.trans cells_num
    obtain ⟨c0, c1, c2, c3, c4, c5, c6, c7, c8, c9, c10, c11, c12, c13, c14, c15, c16, c17, c18, c19, rfl⟩ := cells20 hl20
    have f0 : DataW.trod enc Tryz.prog w 0 sp held m 22 (([c0, c1, c2, c3, c4, c5, c6, c7, c8, c9, c10, c11, c12, c13, c14, c15, c16, c17, c18, c19].drop 0).take (Tryz.prog.cellsOf 22)) = xs[0]? := hf 0 _ rfl
    have f1 : DataW.trod enc Tryz.prog w 0 sp held m 48 (([c0, c1, c2, c3, c4, c5, c6, c7, c8, c9, c10, c11, c12, c13, c14, c15, c16, c17, c18, c19].drop 1).take (Tryz.prog.cellsOf 48)) = xs[1]? := hf 1 _ rfl
    simp only [cells_u64', cells_mut, List.drop_zero, List.drop_succ_cons, List.take_succ_cons, List.take_zero] at f0 f1
    match xs, hlen with
    | [y0, y1], _ =>
      simp only [List.getElem?_cons_zero, List.getElem?_cons_succ] at f0 f1
      obtain ⟨id, e0, rfl, hwf⟩ := DataW.trod_int Tryz.underlying22 f0
      obtain ⟨mu, v1, v2, v3⟩ := open_mut m _ _ f1
      simp only [List.cons.injEq, and_true] at e0
      subst e0
      have hd : Holds w w.heap.size (dN ⟨id, mu⟩) [.int .u64 id, c1, c2, c3, c4, c5, c6, c7, c8, c9, c10, c11, c12, c13, c14, c15, c16, c17, c18, c19] :=
        ⟨[.int .u64 id], _, rfl, ⟨rfl, rfl⟩, [c1, c2, c3, c4, c5, c6, c7, c8, c9, c10, c11, c12, c13, c14, c15, c16, c17, c18, c19], [], rfl, v1, rfl⟩
      refine ⟨⟨id, mu⟩ :: l, by simp [h1], holdsA_cons hd rfl hc h2 h2', ?_, ?_⟩
      · intro p hp
        rcases List.mem_cons.1 hp with rfl | hp
        · exact ⟨u64_in' hwf, v2⟩
        · exact h3 p hp
      · simp only [bulkN, List.map_cons, List.map_nil, Rows.uptoBulkAll, Rows.uptoBulk]
        omega

theorem open_numscell {n : Nat} {c4 : Value} {y4 : DataW H × List MemPlace} (f4 : DataW.trod enc Tryz.prog w 0 sp held n 23 [c4] = some y4) :
    ∃ (l : List Num) (la : Option Addr) (ln lc : Nat), c4 = .slice la ln lc ∧ Holds w w.heap.size (.row 20 (dNs l)) [.slice la ln lc] ∧ inN l ∧ 1 + bulkN l ≤ Rows.uptoBulk y4.1 := by
  rcases DataW.trod_slice Tryz.underlying23 f4 with ⟨e, rfl⟩ | ⟨a, len, cap, elems, rest, q, hn, e, rfl, _, _, _, hlen', hel, _, _⟩
  · simp only [List.cons.injEq, and_true] at e
    exact ⟨[], none, 0, 0, e, ⟨none, 0, rfl, dNs_cells _, [], rfl, .inl rfl⟩, fun p hp => (by cases hp), by simp [bulkN, Rows.uptoBulk]⟩
  · simp only [List.cons.injEq, and_true] at e
    subst e
    by_cases h0 : len = 0
    · subst h0
      exact ⟨[], some a, 0, cap, rfl, ⟨some a, cap, rfl, dNs_cells _, [], rfl, .inl rfl⟩, fun p hp => (by cases hp), by simp [bulkN, Rows.uptoBulk]⟩
    · obtain ⟨g, off, spot⟩ := a
      rw [cells_num] at hel
      have hz := hel 0 (by omega)
      rw [List.getElem?_eq_getElem (by omega)] at hz
      obtain ⟨cs', hcs', _⟩ := Option.bind_eq_some_iff.1 hz
      obtain ⟨_, hcl, hcc⟩ := World.cells?_some hcs'
      have hz0 := hcc 0 (by omega)
      rw [List.getElem?_eq_getElem (by omega)] at hz0
      have hspot : spot = none := by simpa [Addr.add] using World.cell?_spot hz0
      subst hspot
      simp only [add_plain] at hel hz0
      obtain ⟨l, h1, ⟨ns, h2, h2'⟩, h3, h4⟩ := open_nums elems g off (fun i hi => hel i (by omega))
      refine ⟨l, _, len, cap, rfl, ⟨_, cap, by rw [dNs_len, h1, hlen'], dNs_cells _, ns, h2, .inr ⟨g, off, rfl, World.block_lt_of_cell? _ _ hz0, h2'⟩⟩, h3, ?_⟩
      simp only [Rows.uptoBulk]
      omega

set_option maxRecDepth 100000 in
theorem open_arg_push {base : Nat} {v0 : Value} {d : DataW H} {ps : List MemPlace} (hv : Value.okWide Tryz.prog w .any base 25 v0) (h : DataW.Trod enc Tryz.prog w 0 sp held 25 v0 d ps) :
    ∃ (c : Int) (l : List Num) (la : Option Addr) (ln lc : Nat), v0 = .agg #[.int .u64 c, .slice la ln lc] ∧ 0 ≤ c ∧ Holds w w.heap.size (.row 20 (dNs l)) [.slice la ln lc] ∧ inN l ∧ bulkN l ≤ Rows.uptoBulk d := by
  obtain ⟨cs, rfl, _⟩ := okWide_struct Tryz.underlying25 hv
  obtain ⟨fuel, hf⟩ := h
  obtain ⟨xs, m, rfl, hd, hl, hlen, hx⟩ := DataW.trod_struct Tryz.underlying25 hf
  have hl2 : cs.toList.length = 2 := hl.trans cells_push
  obtain ⟨l⟩ := cs
  match l, hl2 with
  | [c0, c1], _ =>
    have f0 : DataW.trod enc Tryz.prog w 0 sp held m 22 (([c0, c1].drop 0).take (Tryz.prog.cellsOf 22)) = xs[0]? := hx 0 _ rfl
    have f1 : DataW.trod enc Tryz.prog w 0 sp held m 23 (([c0, c1].drop 1).take (Tryz.prog.cellsOf 23)) = xs[1]? := hx 1 _ rfl
    simp only [cells_u64', cells_lnum, List.drop_zero, List.drop_succ_cons, List.take_succ_cons, List.take_zero] at f0 f1
    match xs, hlen with
    | [y0, y1], _ =>
      simp only [List.getElem?_cons_zero, List.getElem?_cons_succ] at f0 f1
      obtain ⟨n0, e0, _, w0⟩ := DataW.trod_int Tryz.underlying22 f0
      obtain ⟨l, la, ln, lc, rfl, g1, g2, g3⟩ := open_numscell f1
      simp only [List.cons.injEq, and_true] at e0
      subst e0
      refine ⟨n0, l, la, ln, lc, rfl, u64_in' w0, g1, g2, ?_⟩
      have hd' := congrArg Prod.fst hd
      simp only at hd'
      rw [hd']
      simp only [Rows.uptoBulk, List.map_cons, List.map_nil, Rows.uptoBulkAll]
      omega
end
end Go.Proofs.YtkoliaodkojghaaGreatDoor

/- Maps cell by cell, whatever their elements: an entry stored, an entry looked up. Plain. No condition. -/
namespace Go.Proofs.YtkoliaodkojghaaGreatDoor
open Go Go.RowKit

/-- How keys of a map's type compare. -/
structure MKey {α : Type} [DecidableEq α] (P : Program) (kt : TypeId) (f : α → Value) : Prop where
  under : ∃ d, P.underlying kt = some d ∧ ∀ a b, Instr.sameNow d (f a) (f b) = some (decide (a = b))
  check : ∀ e w a, (Instr.checkKey e 10000 kt (f a)).run P w = .ok () w
theorem ba_beq (a b : ByteArray) : (a == b) = decide (a = b) := by
  obtain ⟨a⟩ := a
  obtain ⟨b⟩ := b
  have h : ((⟨a⟩ : ByteArray) == ⟨b⟩) = (a == b) := rfl
  rw [h]
  by_cases e : a = b <;> simp [e]
theorem mkey_string {P : Program} {kt : TypeId} (h : P.underlying kt = some .string) : MKey P kt Value.string := by
  refine ⟨⟨_, h, fun a b => ?_⟩, fun e w a => ?_⟩
  · simp only [Instr.sameNow]
    congr 1
    exact ba_beq a b
  · have key : ∀ n, (Instr.checkKey e (n + 1) kt (.string a)).run P w = .ok () w := fun n => by simp [Instr.checkKey, run_underlying h]
    exact key 9999
theorem mkey_int {P : Program} {kt : TypeId} {q : IntKind} (h : P.underlying kt = some (.int q)) : MKey P kt (Value.int q) := by
  refine ⟨⟨_, h, fun a b => ?_⟩, fun e w a => ?_⟩
  · simp only [Instr.sameNow, if_true]
    congr 1
  · have key : ∀ n, (Instr.checkKey e (n + 1) kt (.int q a)).run P w = .ok () w := fun n => by simp [Instr.checkKey, run_underlying h]
    exact key 9999

section
variable {α : Type}
def entsM (f : α → Value) : List (α × Value) → Nat → List MapEntry
  | [], _ => []
  | (k, v) :: r, i => { key := f k, val := v, born := i } :: entsM f r (i + 1)
/-- Block g is a map of these. -/
def MapAt (f : α → Value) (w : World) (g : Nat) (kv : List (α × Value)) : Prop := w.heap[g]? = some (.map (entsM f kv 0).toArray kv.length)
def findM [DecidableEq α] (a : α) : List (α × Value) → Option Value
  | [] => none
  | (k, v) :: r => if a = k then some v else findM a r
variable {f : α → Value} {P : Program} {kt et t : TypeId} {w w' : World} {g : Nat} {kv : List (α × Value)}
theorem entsM_append : ∀ (kv : List (α × Value)) (i : Nat) (k : α) (v : Value), entsM f (kv ++ [(k, v)]) i = entsM f kv i ++ [{ key := f k, val := v, born := i + kv.length }]
  | [], i, k, v => by simp [entsM]
  | (a, b) :: r, i, k, v => by
    simp only [List.cons_append, entsM, entsM_append r, List.length_cons]
    rw [show i + 1 + r.length = i + (r.length + 1) from by omega]
theorem MapAt.lt (h : MapAt f w g kv) : g < w.heap.size := by
  rcases Nat.lt_or_ge g w.heap.size with h1 | h1
  · exact h1
  · unfold MapAt at h; rw [Array.getElem?_eq_none h1] at h; cases h
theorem MapAt.keep (h : MapAt f w g kv) (hk : w'.heap[g]? = w.heap[g]?) : MapAt f w' g kv := hk.trans h
theorem MapAt.below {B : Nat} (h : MapAt f w g kv) (hb : Below B w w') (hg : g < B) : MapAt f w' g kv := (hb.block g hg).trans h
theorem MapAt.alloc (h : MapAt f w g kv) (o : Obj) : MapAt f (w.alloc o) g kv := (Below.heap_alloc w o g h.lt).trans h
theorem MapAt.new (w : World) : MapAt f (w.alloc (.map #[] 0)) w.heap.size [] := heap_alloc_new w _
theorem MapAt.setCell (h : MapAt f w g kv) {p : Addr} (hp : g ≠ p.block) (u : Value) : MapAt f (w.setCell p u) g kv := (Below.heap_setCell w p u g hp).trans h
variable [DecidableEq α]
theorem findNow_M {d : TypeDesc} (hd : ∀ a b, Instr.sameNow d (f a) (f b) = some (decide (a = b))) (a : α) : ∀ (kv : List (α × Value)) (i j : Nat), ∃ q, Instr.findNow d (f a) (entsM f kv i) j = some q ∧ q.map (·.2) = findM a kv
  | [], _, _ => ⟨none, rfl, rfl⟩
  | (k, v) :: r, i, j => by
    by_cases h : a = k
    · exact ⟨some (j, v), by simp [entsM, Instr.findNow, hd, h], by simp [findM, h]⟩
    · obtain ⟨q, h1, h2⟩ := findNow_M hd a r (i + 1) (j + 1)
      exact ⟨q, by simp [entsM, Instr.findNow, hd, h, h1], by rw [h2]; simp [findM, h]⟩
theorem run_insertM (K : MKey P kt f) (ht : P.underlying t = some (.map kt et)) (h : MapAt f w g kv) {a : α} (hn : findM a kv = none) (v : Value) :
    ∃ w', (Instr.mapUpdate t (.map (some g)) (f a) v).run P w = .ok () w' ∧ MapAt f w' g (kv ++ [(a, v)]) ∧ w.grownBy w' (some g) ∧ w'.heap.size = w.heap.size := by
  obtain ⟨d, hd, hs⟩ := K.under
  obtain ⟨q, h1, h2⟩ := findNow_M hs a kv 0 0
  rw [hn] at h2
  have hq : q = none := by cases q <;> simp_all
  subst hq
  have hck := K.check false w a
  have hfk : (Instr.findKey kt (f a) (entsM f kv 0)).run P w = .ok none w := by simp [Instr.findKey, Sem.run_bind, run_underlying hd, h1]
  have hlt := h.lt
  refine ⟨{ w with heap := w.heap.setIfInBounds g (.map ((entsM f kv 0).toArray.push { key := f a, val := v, born := kv.length }) (kv.length + 1)) }, ?_, ?_, ?_, ?_⟩
  · have hb : w.heap[g]? = some (.map (entsM f kv 0).toArray kv.length) := h
    unfold Instr.mapUpdate
    simp only [Sem.run_bind, run_underlying ht, Result.andThen, getObj, Sem.run, hb, hck, hfk, setObj]
  · unfold MapAt
    simp [hlt, entsM_append]
  · exact ⟨rfl, rfl, rfl, by simp, fun k hk hne => by simp only [Array.getElem?_setIfInBounds]; rw [if_neg]; rintro rfl; exact hne rfl⟩
  · simp
theorem wpList_insertM {ops : Array Oper} {rest : List Oper} {o : Oper} {a : Act} {Q : Exit → Act → World → Prop} (hg : o.guard = none) (m x u : Operand) (t : TypeId) (hop : o.op = Op.insert t m x u)
    (K : MKey P kt f) (ht : P.underlying t = some (.map kt et)) (hm : a.eval m = .map (some g)) (h : MapAt f w g kv) {k : α} {v : Value} (hx : a.eval x = f k) (hv : a.eval u = v) (hn : findM k kv = none)
    (hK : ∀ w', MapAt f w' g (kv ++ [(k, v)]) → w.grownBy w' (some g) → w'.heap.size = w.heap.size → wpList P ops Q rest (a.put o.dst undef) w') : wpList P ops Q (o :: rest) a w := by
  refine wpList_plain hg fun K' hK' => ?_
  obtain ⟨w', hrun, r1, r2, r3⟩ := run_insertM K ht h hn v
  unfold Oper.wp
  simp [execOp, hop, hm, hx, hv, hrun, Result.andThen]
  exact hK' _ _ (hK w' r1 r2 r3)
theorem run_lookM (K : MKey P kt f) (ht : P.underlying t = some (.map kt et)) (h : MapAt f w g kv) (a : α) {z : Value} (hz : ∀ w, (zeroValue et).run P w = .ok z w) (c : Bool) :
    (Instr.lookup t (.map (some g)) (f a) c).run P w = .ok (if c then .tuple #[(findM a kv).getD z, .bool (findM a kv).isSome] else (findM a kv).getD z) w := by
  obtain ⟨d, hd, hs⟩ := K.under
  obtain ⟨q, h1, h2⟩ := findNow_M hs a kv 0 0
  have hck := fun e => K.check e w a
  have hfk : (Instr.findKey kt (f a) (entsM f kv 0)).run P w = .ok q w := by simp [Instr.findKey, Sem.run_bind, run_underlying hd, h1]
  have hb : w.heap[g]? = some (.map (entsM f kv 0).toArray kv.length) := h
  unfold Instr.lookup
  simp only [Sem.run_bind, run_underlying ht, Result.andThen, getObj, Sem.run, hb]
  cases q with
  | none =>
    have : findM a kv = none := by cases hq : findM a kv <;> simp_all
    rw [this]
    cases c <;> simp [hck, hfk, hz w, Result.andThen]
  | some p =>
    obtain ⟨i, v⟩ := p
    have : findM a kv = some v := by rw [← h2]; rfl
    rw [this]
    cases c <;> simp [hck, hfk]
end
end Go.Proofs.YtkoliaodkojghaaGreatDoor

/- mutator.beginning, keyed, blank, strange. Condition: texts shorter than 10^9. -/
namespace Go.Proofs.YtkoliaodkojghaaGreatDoor
open Go.RowKit

set_option maxRecDepth 100000 in
theorem beginning_calls (s : ByteArray) (w : World) (hT : Tabs w) (hs : s.size ≤ 1000000000) : Calls Tryz.prog 89 #[.string s] w fun e w' => e = .returned (.bool (shortB s)) ∧ Below w.heap.size w w' := by
  obtain ⟨B, hB⟩ : ∃ B, validB s = B := ⟨_, rfl⟩
  have hC := fun (W : World) hT => utfValid_calls2 hB W (by omega) hT
  by_cases h1 : s.size ≤ 64
  · have hE : shortB s = B := by unfold shortB; rw [hB]; simp [h1]
    have t1 : (s.size : Int) ≤ 64 := by omega
    have HC := Lib.hid hC
    have HE := Lib.hid hE
    have HT := Lib.hid hT
    clear hC hE hT
    clear h1
    go_enter Tryz.func89, Tryz.ntmps89
    go_wp2_with (go_at_call 120; (with_reducible refine (HC.out _ HT.out).mono ?_); rintro e w2 ⟨rfl, hb2⟩)
    go_ret
    exact ⟨by rw [HE.out]; rfl, hb2⟩
  · have hE : shortB s = false := by unfold shortB; simp [h1]
    have t1 : (64 : Int) < (s.size : Int) := by omega
    have HE := Lib.hid hE
    clear hE
    clear h1 hC
    go_enter Tryz.func89, Tryz.ntmps89
    go_wp2
    go_ret
    exact ⟨by rw [HE.out]; rfl, Below.refl _ _⟩

theorem isEmpty_eq (s : ByteArray) : s.toList.isEmpty = decide (s = ⟨#[]⟩) := by
  rw [Bool.eq_iff_iff, List.isEmpty_iff, decide_eq_true_eq, Lib.toList_data]
  constructor
  · intro h; exact ByteArray.ext (Array.ext' h)
  · rintro rfl; rfl

set_option maxRecDepth 100000 in
set_option maxHeartbeats 1000000 in
theorem keyed_calls (k : Int) (key dst : ByteArray) (had : Bool) (y3 y5 y6 y7 y8 y9 y10 y11 y12 y13 y14 y15 y16 y17 y18 : Value) (w : World) (hT : Tabs w) (h1 : key.size ≤ 1000000000) (h2 : dst.size ≤ 1000000000) :
    Calls Tryz.prog 54 #[.agg #[.int .i64 k, .string key, .string dst, y3, .bool had, y5, y6, y7, y8, y9, y10, y11, y12, y13, y14, y15, y16, y17, y18]] w fun e w' => e = .returned (.bool (keyedB k key dst had)) ∧ Below w.heap.size w w' := by
  have hb0 := alloc_below w (.cells #[.int .i64 k, .string key, .string dst, y3, .bool had, y5, y6, y7, y8, y9, y10, y11, y12, y13, y14, y15, y16, y17, y18] 48)
  have hT1 := hT.below hb0
  by_cases e6 : k = 6
  · subst e6
    have hE : keyedB 6 key dst had = (shortB key && shortB dst) := by unfold keyedB; rw [if_pos rfl]
    have hC := fun (W : World) hT => beginning_calls key W hT h1
    have hD := fun (W : World) hT => beginning_calls dst W hT h2
    have hxb := Blk.new w 48 #[.int .i64 6, .string key, .string dst, y3, .bool had, y5, y6, y7, y8, y9, y10, y11, y12, y13, y14, y15, y16, y17, y18]
    rw [hE]
    generalize shortB key = B at hC ⊢
    generalize shortB dst = B' at hD ⊢
    have HC := Lib.hid hC
    have HD := Lib.hid hD
    have HT1 := Lib.hid hT1
    have Hb0 := Lib.hid hb0
    have Hxb := Lib.hid hxb
    clear hC hD hT1 hb0 hxb
    clear hE hT
    cases B with
    | false =>
      go_enter Tryz.func54, Tryz.ntmps54
      go_wp2_with (go_at_call 89; (with_reducible refine (HC.out _ HT1.out).mono ?_); rintro e w2 ⟨rfl, hb2⟩)
      go_ret
      exact ⟨rfl, Hb0.out.trans (hb2.mono Hb0.out.size)⟩
    | true =>
      go_enter Tryz.func54, Tryz.ntmps54
      go_wp2_with (fail)
      with_reducible refine (HC.out _ HT1.out).mono ?_
      rintro e w2 ⟨rfl, hb2⟩
      obtain ⟨hc2, hg2⟩ := bcellM hb2
      have hlt := Hxb.out.lt
      have hT2 := HT1.out.below hb2
      go_wp2_with (fail)
      with_reducible refine (HD.out _ hT2).mono ?_
      rintro e w3 ⟨rfl, hb3⟩
      go_wp2
      go_ret
      exact ⟨by simp, (Hb0.out.trans (hb2.mono Hb0.out.size)).trans (hb3.mono (Nat.le_trans Hb0.out.size hb2.size))⟩
  by_cases e7 : k = 7 ∧ key.toList.isEmpty = true
  · obtain ⟨rfl, hk⟩ := e7
    have hE : keyedB 7 key dst had = !had := by unfold keyedB; rw [if_neg (by omega), if_pos ⟨rfl, hk⟩]
    rw [isEmpty_eq, decide_eq_true_eq] at hk
    subst hk
    rw [hE]
    have Hb0 := Lib.hid hb0
    clear hb0
    clear hE hT hT1
    go_enter Tryz.func54, Tryz.ntmps54
    go_wp2
    go_ret
    exact ⟨rfl, Hb0.out⟩
  have hE : keyedB k key dst had = decide (keyE key = 0) := by
    unfold keyedB
    rw [if_neg e6, if_neg e7, Bool.eq_iff_iff, decide_eq_true_eq, keyE_zero]
  have hC := fun (W : World) hT => keysMay_calls key W hT (by omega)
  have t6 : (k == 6) = false := by simpa using e6
  have hxb := Blk.new w 48 #[.int .i64 k, .string key, .string dst, y3, .bool had, y5, y6, y7, y8, y9, y10, y11, y12, y13, y14, y15, y16, y17, y18]
  rw [hE]
  generalize keyE key = X at hC ⊢
  by_cases k7 : k = 7
  · subst k7
    have t8 : key.toList.isEmpty = false := by cases e : key.toList.isEmpty; rfl; exact absurd ⟨rfl, e⟩ e7
    have HC := Lib.hid hC
    have HT1 := Lib.hid hT1
    have Hb0 := Lib.hid hb0
    have Hxb := Lib.hid hxb
    clear hC hT1 hb0 hxb
    clear hE hT e6 e7
    go_enter Tryz.func54, Tryz.ntmps54

    go_wp2_with (go_at_call 90; (with_reducible refine (HC.out _ HT1.out).mono ?_); rintro e w2 ⟨rfl, hb2⟩)
    go_ret
    exact ⟨by simp [beq_dec], Hb0.out.trans (hb2.mono Hb0.out.size)⟩
  · have t7 : (k == 7) = false := by simpa using k7
    have HC := Lib.hid hC
    have HT1 := Lib.hid hT1
    have Hb0 := Lib.hid hb0
    have Hxb := Lib.hid hxb
    clear hC hT1 hb0 hxb
    clear hE hT e6 e7 k7
    go_enter Tryz.func54, Tryz.ntmps54
    go_wp2_with (go_at_call 90; (with_reducible refine (HC.out _ HT1.out).mono ?_); rintro e w2 ⟨rfl, hb2⟩)
    go_ret
    exact ⟨by simp [beq_dec], Hb0.out.trans (hb2.mono Hb0.out.size)⟩

/-- Has a mutator nothing, whatever its Kind? -/
def blankB (key dst : ByteArray) (n : Int) (had z1 has z2 : Bool) (ln : Nat) : Bool := key.toList.isEmpty && dst.toList.isEmpty && decide (n = 0) && !had && z1 && !has && z2 && decide (ln = 0)
set_option maxRecDepth 100000 in
set_option maxHeartbeats 2000000 in
theorem blank_calls (k : Int) (key dst : ByteArray) (n : Int) (had : Bool) (k1 : Int) (b1 : Bool) (n1 : Int) (t1 : ByteArray) (la1 oa1 : Option Addr) (p1 lc1 q1 oc1 : Nat) (has : Bool) (k2 : Int) (b2 : Bool) (n2 : Int) (t2 : ByteArray) (la2 oa2 : Option Addr) (p2 lc2 q2 oc2 : Nat) (a : Option Addr) (ln c : Nat) (w : World) :
    Calls Tryz.prog 88 #[.agg #[.int .i64 k, .string key, .string dst, .int .i64 n, .bool had, .int .i64 k1, .bool b1, .int .i64 n1, .string t1, .slice la1 p1 lc1, .slice oa1 q1 oc1, .bool has, .int .i64 k2, .bool b2, .int .i64 n2, .string t2, .slice la2 p2 lc2, .slice oa2 q2 oc2, .slice a ln c]] w fun e w' =>
      e = .returned (.bool (blankB key dst n had (zero6B k1 b1 n1 t1 p1 q1) has (zero6B k2 b2 n2 t2 p2 q2) ln)) ∧ Below w.heap.size w w' := by
  have h1 := fun W => mzero_calls k1 b1 n1 t1 la1 oa1 p1 lc1 q1 oc1 _ W rfl
  have h2 := fun W => mzero_calls k2 b2 n2 t2 la2 oa2 p2 lc2 q2 oc2 _ W rfl
  generalize zero6B k1 b1 n1 t1 p1 q1 = Z1 at h1 ⊢
  generalize zero6B k2 b2 n2 t2 p2 q2 = Z2 at h2 ⊢
  by_cases c0 : key.toList.isEmpty = true
  rotate_left
  · have u0 : key.toList.isEmpty = false := by simpa using c0
    have hE : blankB key dst n had Z1 has Z2 ln = false := by simp [blankB, c0]
    rw [hE]
    have H1 := Lib.hid h1
    have H2 := Lib.hid h2
    clear h1 h2
    clear hE
    go_enter Tryz.func88, Tryz.ntmps88
    go_wp2
    go_ret
    exact ⟨rfl, alloc_below _ _⟩
  by_cases c1 : dst.toList.isEmpty = true
  rotate_left
  · have u1 : dst.toList.isEmpty = false := by simpa using c1
    have hE : blankB key dst n had Z1 has Z2 ln = false := by simp [blankB, c0, c1]
    rw [hE]
    have H1 := Lib.hid h1
    have H2 := Lib.hid h2
    clear h1 h2
    clear hE
    go_enter Tryz.func88, Tryz.ntmps88
    go_wp2
    go_ret
    exact ⟨rfl, alloc_below _ _⟩
  by_cases c2 : n = 0
  rotate_left
  · have u2 : (n == 0) = false := by simpa using c2
    have hE : blankB key dst n had Z1 has Z2 ln = false := by simp [blankB, c0, c1, c2]
    rw [hE]
    have H1 := Lib.hid h1
    have H2 := Lib.hid h2
    clear h1 h2
    clear hE
    go_enter Tryz.func88, Tryz.ntmps88
    go_wp2
    go_ret
    exact ⟨rfl, alloc_below _ _⟩
  subst c2
  by_cases c3 : had = false
  rotate_left
  · have u3 : had = true := by simpa using c3
    subst u3
    have hE : blankB key dst 0 true Z1 has Z2 ln = false := by simp [blankB]
    rw [hE]
    have H1 := Lib.hid h1
    have H2 := Lib.hid h2
    clear h1 h2
    clear hE
    go_enter Tryz.func88, Tryz.ntmps88
    go_wp2
    go_ret
    exact ⟨rfl, alloc_below _ _⟩
  subst c3
  by_cases c4 : Z1 = true
  rotate_left
  · have u4 : Z1 = false := by simpa using c4
    subst u4
    have hE : blankB key dst 0 false false has Z2 ln = false := by simp [blankB]
    rw [hE]
    have H1 := Lib.hid h1
    have H2 := Lib.hid h2
    clear h1 h2
    clear hE
    go_enter Tryz.func88, Tryz.ntmps88
    go_wp2_with (fail)
    with_reducible refine (H1.out _).mono ?_
    rintro e w2 ⟨rfl, hb2⟩
    have hlt2 : w.heap.size < w2.heap.size := by (have := hb2.size; simp at this; omega)
    obtain ⟨hc2, hg2⟩ := bcellM hb2
    go_wp2
    go_ret
    exact ⟨rfl, (alloc_below _ _).trans (hb2.mono (by simp))⟩
  subst c4
  by_cases c5 : has = false
  rotate_left
  · have u5 : has = true := by simpa using c5
    subst u5
    have hE : blankB key dst 0 false true true Z2 ln = false := by simp [blankB]
    rw [hE]
    have H1 := Lib.hid h1
    have H2 := Lib.hid h2
    clear h1 h2
    clear hE
    go_enter Tryz.func88, Tryz.ntmps88
    go_wp2_with (fail)
    with_reducible refine (H1.out _).mono ?_
    rintro e w2 ⟨rfl, hb2⟩
    have hlt2 : w.heap.size < w2.heap.size := by (have := hb2.size; simp at this; omega)
    obtain ⟨hc2, hg2⟩ := bcellM hb2
    go_wp2
    go_ret
    exact ⟨rfl, (alloc_below _ _).trans (hb2.mono (by simp))⟩
  subst c5
  by_cases c6 : Z2 = true
  rotate_left
  · have u6 : Z2 = false := by simpa using c6
    subst u6
    have hE : blankB key dst 0 false true false false ln = false := by simp [blankB]
    rw [hE]
    have H1 := Lib.hid h1
    have H2 := Lib.hid h2
    clear h1 h2
    clear hE
    go_enter Tryz.func88, Tryz.ntmps88
    go_wp2_with (fail)
    with_reducible refine (H1.out _).mono ?_
    rintro e w2 ⟨rfl, hb2⟩
    have hlt2 : w.heap.size < w2.heap.size := by (have := hb2.size; simp at this; omega)
    obtain ⟨hc2, hg2⟩ := bcellM hb2
    go_wp2_with (fail)
    with_reducible refine (H2.out _).mono ?_
    rintro e w3 ⟨rfl, hb3⟩
    obtain ⟨hc3, hg3⟩ := bcellM hb3
    go_wp2
    go_ret
    exact ⟨rfl, ((alloc_below _ _).trans (hb2.mono (by simp))).trans (hb3.mono (by omega))⟩
  subst c6
  by_cases c7 : ln = 0
  rotate_left
  · have u7 : ((ln : Int) == 0) = false := by simpa using c7
    have hE : blankB key dst 0 false true false true ln = false := by simp [blankB, c7]
    rw [hE]
    have H1 := Lib.hid h1
    have H2 := Lib.hid h2
    clear h1 h2
    clear hE
    go_enter Tryz.func88, Tryz.ntmps88
    go_wp2_with (fail)
    with_reducible refine (H1.out _).mono ?_
    rintro e w2 ⟨rfl, hb2⟩
    have hlt2 : w.heap.size < w2.heap.size := by (have := hb2.size; simp at this; omega)
    obtain ⟨hc2, hg2⟩ := bcellM hb2
    go_wp2_with (fail)
    with_reducible refine (H2.out _).mono ?_
    rintro e w3 ⟨rfl, hb3⟩
    obtain ⟨hc3, hg3⟩ := bcellM hb3
    go_wp2
    go_ret
    exact ⟨rfl, ((alloc_below _ _).trans (hb2.mono (by simp))).trans (hb3.mono (by omega))⟩
  subst c7
  have hE : blankB key dst 0 false true false true 0 = true := by simp [blankB, c0, c1]
  rw [hE]
  have H1 := Lib.hid h1
  have H2 := Lib.hid h2
  clear h1 h2
  clear hE
  go_enter Tryz.func88, Tryz.ntmps88
  go_wp2_with (fail)
  with_reducible refine (H1.out _).mono ?_
  rintro e w2 ⟨rfl, hb2⟩
  have hlt2 : w.heap.size < w2.heap.size := by (have := hb2.size; simp at this; omega)
  obtain ⟨hc2, hg2⟩ := bcellM hb2
  go_wp2_with (fail)
  with_reducible refine (H2.out _).mono ?_
  rintro e w3 ⟨rfl, hb3⟩
  obtain ⟨hc3, hg3⟩ := bcellM hb3
  go_wp2
  go_ret
  exact ⟨rfl, ((alloc_below _ _).trans (hb2.mono (by simp))).trans (hb3.mono (by omega))⟩
end Go.Proofs.YtkoliaodkojghaaGreatDoor

/- mutator.Size, and the reference's: how many mutators it is. Condition: a bulk of at most 10^8. -/
namespace Go.Proofs.YtkoliaodkojghaaGreatDoor
open Go.RowKit

def MSizeC (m : Mut) : Prop := ∀ (cs : List Value) (w : World), Holds w w.heap.size (dM m) cs → bulkM m ≤ 100000000 →
  Calls Tryz.prog 27 #[.agg cs.toArray] w fun e w' => e = .returned (.int .i64 (sizeM m)) ∧ Below w.heap.size w w'
theorem sizeMs_take {l : List Mut} {q : Nat} {m : Mut} (h : l[q]? = some m) : sizeMs (l.take (q + 1)) = sizeMs (l.take q) + sizeM m := by
  rw [List.take_add_one, h, sizeMs_app]; simp [sizeMs]

theorem sizeMs_le : ∀ (q : Nat) (l : List Mut), sizeMs (l.take q) ≤ sizeMs l
  | 0, l => by simp [sizeMs]
  | q + 1, [] => by simp [sizeMs]
  | q + 1, x :: r => by have := sizeMs_le q r; simp only [List.take_succ_cons, sizeMs]; omega

set_option maxRecDepth 100000 in
set_option maxHeartbeats 2000000 in
theorem msize_step (k : Int) (key dst : ByteArray) (n : Int) (had : Bool) (k1 : Int) (b1 : Bool) (n1 : Int) (t1 : ByteArray) (l1 : List Val) (o1 : List (ByteArray × Val)) (has : Bool) (k2 : Int) (b2 : Bool) (n2 : Int) (t2 : ByteArray) (l2 : List Val) (o2 : List (ByteArray × Val)) (l : List Mut) (ih : ∀ x ∈ l, MSizeC x) : MSizeC (Mut.mk k key dst n had (.mk k1 b1 n1 t1 l1 o1) has (.mk k2 b2 n2 t2 l2 o2) l) := by
  intro cs w hM hb
  obtain ⟨la1, lc1, oa1, oc1, la2, lc2, oa2, oc2, a, c, rfl, hv1, hv2, hl⟩ := mut_cells hM
  have hsz := sizeM_bulk (Mut.mk k key dst n had (.mk k1 b1 n1 t1 l1 o1) has (.mk k2 b2 n2 t2 l2 o2) l)
  have hls := bulkMs_len l
  simp only [bulkM] at hb
  simp only [bulkM, sizeM] at hsz
  have hI0 : Hid (Below w.heap.size w (w.alloc (.cells #[.int .i64 k, .string key, .string dst, .int .i64 n, .bool had, .int .i64 k1, .bool b1, .int .i64 n1, .string t1, .slice la1 l1.length lc1, .slice oa1 o1.length oc1, .bool has, .int .i64 k2, .bool b2, .int .i64 n2, .string t2, .slice la2 l2.length lc2, .slice oa2 o2.length oc2, .slice a l.length c] 48))) := Lib.hid (alloc_below _ _)
  have hxb := Blk.new w 48 #[.int .i64 k, .string key, .string dst, .int .i64 n, .bool had, .int .i64 k1, .bool b1, .int .i64 n1, .string t1, .slice la1 l1.length lc1, .slice oa1 o1.length oc1, .bool has, .int .i64 k2, .bool b2, .int .i64 n2, .string t2, .slice la2 l2.length lc2, .slice oa2 o2.length oc2, .slice a l.length c]
  have Ih := Lib.hid ih
  have Hl := Lib.hid hl
  have Hxb := Lib.hid hxb
  clear ih hl hxb
  clear hM hv1 hv2
  go_enter Tryz.func27, Tryz.ntmps27
  go_wp2_with (fail)
  go_loopw [3, 9] (fun s i wr => ∃ q : Nat, i = .int .i64 q ∧ q ≤ l.length ∧ s = .int .i64 (1 + (sizeMs (l.take q) : Nat)) ∧ Hid (Below w.heap.size w wr)) (fun _ i _ => l.length - (intOf i).toNat)
  case atStart => exact ⟨0, rfl, Nat.zero_le _, by simp [sizeMs], hI0⟩
  case round =>
    obtain ⟨q, rfl, hq, rfl, hbw⟩ := hrel
    clear hI0
    by_cases hlt : q < l.length
    · obtain ⟨m, hm⟩ : ∃ p, l[q]? = some p := ⟨_, List.getElem?_eq_getElem hlt⟩
      have hmem := List.mem_of_getElem? hm
      have htk := sizeMs_take hm
      have hbm := bulkMs_mem hmem
      have hsm := sizeM_bulk m
      have hst : sizeMs (l.take q) + sizeM m ≤ sizeMs l := by rw [← htk]; exact sizeMs_le _ _
      have hC := Ih.out m hmem
      obtain ⟨k', key', dst', n', had', ⟨k1', b1', n1', t1', l1', o1'⟩, has', ⟨k2', b2', n2', t2', l2', o2'⟩, l'⟩ := m
      have hz := hbw.out.size
      obtain ⟨g, off, rfl, hg, cs', hcs, _, hcell⟩ := mut_at (Hl.out.below hbw.out) hm
      obtain ⟨la1', lc1', oa1', oc1', la2', lc2', oa2', oc2', a', c', rfl, _, _, _⟩ := mut_cells hcs
      have hrange : wr.rangeAt g (off + q * 19) [.int .i64 k', .string key', .string dst', .int .i64 n', .bool had', .int .i64 k1', .bool b1', .int .i64 n1', .string t1', .slice la1' l1'.length lc1', .slice oa1' o1'.length oc1', .bool has', .int .i64 k2', .bool b2', .int .i64 n2', .string t2', .slice la2' l2'.length lc2', .slice oa2' o2'.length oc2', .slice a' l'.length c'] := hcell
      have c0_ := hcell 0 _ rfl; have c1_ := hcell 1 _ rfl; have c2_ := hcell 2 _ rfl; have c3_ := hcell 3 _ rfl; have c4_ := hcell 4 _ rfl; have c5_ := hcell 5 _ rfl; have c6_ := hcell 6 _ rfl; have c7_ := hcell 7 _ rfl; have c8_ := hcell 8 _ rfl; have c9_ := hcell 9 _ rfl; have c10_ := hcell 10 _ rfl; have c11_ := hcell 11 _ rfl; have c12_ := hcell 12 _ rfl; have c13_ := hcell 13 _ rfl; have c14_ := hcell 14 _ rfl; have c15_ := hcell 15 _ rfl; have c16_ := hcell 16 _ rfl; have c17_ := hcell 17 _ rfl; have c18_ := hcell 18 _ rfl
      rw [Nat.add_zero] at c0_
      have hgr : g < wr.heap.size := by omega
      have hq1 : (q : Int) < (l.length : Int) := by omega
      have hq0 : (0 : Int) ≤ q := by omega
      have hC' : ∀ W, Below wr.heap.size wr W → Calls Tryz.prog 27 #[.agg #[.int .i64 k', .string key', .string dst', .int .i64 n', .bool had', .int .i64 k1', .bool b1', .int .i64 n1', .string t1', .slice la1' l1'.length lc1', .slice oa1' o1'.length oc1', .bool has', .int .i64 k2', .bool b2', .int .i64 n2', .string t2', .slice la2' l2'.length lc2', .slice oa2' o2'.length oc2', .slice a' l'.length c']] W fun e w' => e = .returned (.int .i64 (sizeM (Mut.mk k' key' dst' n' had' (.mk k1' b1' n1' t1' l1' o1') has' (.mk k2' b2' n2' t2' l2' o2') l'))) ∧ Below W.heap.size W w' := fun W hW => hC _ W ((hcs.below (hW.mono hz)).more (Nat.le_trans hz hW.size)) (by omega)
      have i1 : ((sizeMs (l.take q) : Nat) : Int) + ((sizeM (Mut.mk k' key' dst' n' had' (.mk k1' b1' n1' t1' l1' o1') has' (.mk k2' b2' n2' t2' l2' o2') l') : Nat) : Int) ≤ 1000000000 := by omega
      have i2 : (0 : Int) ≤ ((sizeM (Mut.mk k' key' dst' n' had' (.mk k1' b1' n1' t1' l1' o1') has' (.mk k2' b2' n2' t2' l2' o2') l') : Nat) : Int) := by omega
      have htk' : ((sizeMs (l.take (q + 1)) : Nat) : Int) = ((sizeMs (l.take q) : Nat) : Int) + ((sizeM (Mut.mk k' key' dst' n' had' (.mk k1' b1' n1' t1' l1' o1') has' (.mk k2' b2' n2' t2' l2' o2') l') : Nat) : Int) := by rw [htk]; simp
      have i3 : (0 : Int) ≤ ((sizeMs (l.take q) : Nat) : Int) := by omega
      generalize ((sizeM (Mut.mk k' key' dst' n' had' (.mk k1' b1' n1' t1' l1' o1') has' (.mk k2' b2' n2' t2' l2' o2') l') : Nat) : Int) = S at hC' i1 i2 htk'
      generalize ((sizeMs (l.take q) : Nat) : Int) = T at i1 htk' i3 ⊢
      have HC' := Lib.hid hC'
      have Hbw := Lib.hid hbw
      have Htk' := Lib.hid htk'
      clear hC' hbw htk'
      clear hC hcs hcell hmem htk hbm hsm hst hm
      go_upto_region 4 with (fail)
      clear c0_ c1_ c2_ c3_ c4_ c5_ c6_ c7_ c8_ c9_ c10_ c11_ c12_ c13_ c14_ c15_ c16_ c17_ c18_
      iterate 5 go_step
      refine wp_load_mid 48 (.tmp 11) rfl g (off + q * 19) rfl [.int .i64 k', .string key', .string dst', .int .i64 n', .bool had', .int .i64 k1', .bool b1', .int .i64 n1', .string t1', .slice la1' l1'.length lc1', .slice oa1' o1'.length oc1', .bool has', .int .i64 k2', .bool b2', .int .i64 n2', .string t2', .slice la2' l2'.length lc2', .slice oa2' o2'.length oc2', .slice a' l'.length c'] _ hrange Tryz.underlying48 rfl (by kernel_rfl) ?_
      iterate 5 go_step
      refine wp_store_new 48 (.tmp 5) (.tmp 12) rfl #[.int .i64 k', .string key', .string dst', .int .i64 n', .bool had', .int .i64 k1', .bool b1', .int .i64 n1', .string t1', .slice la1' l1'.length lc1', .slice oa1' o1'.length oc1', .bool has', .int .i64 k2', .bool b2', .int .i64 n2', .string t2', .slice la2' l2'.length lc2', .slice oa2' o2'.length oc2', .slice a' l'.length c'] rfl rfl rfl (by kernel_rfl) (by simp [Value.oneCell']) ?_
      go_upto_region 5 with (fail)
      iterate 5 go_step
      refine wp_load_blk 48 (.tmp 5) rfl wr.heap.size #[.int .i64 k', .string key', .string dst', .int .i64 n', .bool had', .int .i64 k1', .bool b1', .int .i64 n1', .string t1', .slice la1' l1'.length lc1', .slice oa1' o1'.length oc1', .bool has', .int .i64 k2', .bool b2', .int .i64 n2', .string t2', .slice la2' l2'.length lc2', .slice oa2' o2'.length oc2', .slice a' l'.length c'] (Blk.new _ _ _) rfl _ Tryz.underlying48 rfl (by kernel_rfl) ?_
      go_wp2_with (go_at_call 27; (with_reducible refine (HC'.out _ (alloc_below _ _)).mono ?_); rintro e w1 ⟨rfl, hb1⟩)
      have hbf := (Hbw.out.trans ((alloc_below wr (.cells #[.int .i64 k', .string key', .string dst', .int .i64 n', .bool had', .int .i64 k1', .bool b1', .int .i64 n1', .string t1', .slice la1' l1'.length lc1', .slice oa1' o1'.length oc1', .bool has', .int .i64 k2', .bool b2', .int .i64 n2', .string t2', .slice la2' l2'.length lc2', .slice oa2' o2'.length oc2', .slice a' l'.length c'] 48)).mono hz)).trans (hb1.mono (by simp; omega))
      have HB := Lib.hid hbf
      clear hb1 hbf
      go_wp2
      go_roundw
      case rel => exact ⟨q + 1, by go_num, by omega, by rw [Htk'.out]; go_num, HB⟩
      case measure => simp only [intOf]; omega
    · obtain rfl : q = l.length := by omega
      have e1 : sizeMs (l.take l.length) = sizeMs l := by rw [List.take_length]
      rw [e1]
      have Hbw := Lib.hid hbw
      clear hbw
      go_wp2
      go_ret
      exact ⟨by simp [sizeM], Hbw.out⟩

theorem msize_calls : ∀ m, MSizeC m := by
  refine Mut.ind ?_
  intro k key dst n had was has v l IH
  obtain ⟨k1, b1, n1, t1, l1, o1⟩ := was
  obtain ⟨k2, b2, n2, t2, l2, o2⟩ := v
  exact msize_step k key dst n had k1 b1 n1 t1 l1 o1 has k2 b2 n2 t2 l2 o2 l IH

def RSizeC (m : Mut) : Prop := ∀ (cs : List Value) (w : World), Holds w w.heap.size (dM m) cs → bulkM m ≤ 100000000 →
  Calls Tryz.prog 31 #[.agg cs.toArray] w fun e w' => e = .returned (.int .i64 (sizeM m)) ∧ Below w.heap.size w w'
set_option maxRecDepth 100000 in
set_option maxHeartbeats 2000000 in
theorem rsize_step (k : Int) (key dst : ByteArray) (n : Int) (had : Bool) (k1 : Int) (b1 : Bool) (n1 : Int) (t1 : ByteArray) (l1 : List Val) (o1 : List (ByteArray × Val)) (has : Bool) (k2 : Int) (b2 : Bool) (n2 : Int) (t2 : ByteArray) (l2 : List Val) (o2 : List (ByteArray × Val)) (l : List Mut) (ih : ∀ x ∈ l, RSizeC x) : RSizeC (Mut.mk k key dst n had (.mk k1 b1 n1 t1 l1 o1) has (.mk k2 b2 n2 t2 l2 o2) l) := by
  intro cs w hM hb
  obtain ⟨la1, lc1, oa1, oc1, la2, lc2, oa2, oc2, a, c, rfl, hv1, hv2, hl⟩ := mut_cells hM
  have hsz := sizeM_bulk (Mut.mk k key dst n had (.mk k1 b1 n1 t1 l1 o1) has (.mk k2 b2 n2 t2 l2 o2) l)
  have hls := bulkMs_len l
  simp only [bulkM] at hb
  simp only [bulkM, sizeM] at hsz
  obtain ⟨wi, hwi⟩ : ∃ wi, w.alloc (.cells #[.int .i64 k, .string key, .string dst, .int .i64 n, .bool had, .int .i64 k1, .bool b1, .int .i64 n1, .string t1, .slice la1 l1.length lc1, .slice oa1 o1.length oc1, .bool has, .int .i64 k2, .bool b2, .int .i64 n2, .string t2, .slice la2 l2.length lc2, .slice oa2 o2.length oc2, .slice a l.length c] 48) = wi := ⟨_, rfl⟩
  have hbi : Below w.heap.size w wi := hwi ▸ alloc_below _ _
  have hxb : Blk wi w.heap.size 48 #[.int .i64 k, .string key, .string dst, .int .i64 n, .bool had, .int .i64 k1, .bool b1, .int .i64 n1, .string t1, .slice la1 l1.length lc1, .slice oa1 o1.length oc1, .bool has, .int .i64 k2, .bool b2, .int .i64 n2, .string t2, .slice la2 l2.length lc2, .slice oa2 o2.length oc2, .slice a l.length c] := hwi ▸ Blk.new _ _ _
  have hI0 : Hid (Below wi.heap.size wi wi) := Lib.hid (Below.refl _ _)
  have hgb := hxb.lt
  have Ih := Lib.hid ih
  have Hl := Lib.hid hl
  have Hxb := Lib.hid hxb
  have Hbi := Lib.hid hbi
  clear ih hl hxb hbi
  clear hM hv1 hv2
  go_enter Tryz.func31, Tryz.ntmps31
  go_wp2_with (fail)
  clear hwi
  go_loopw [3, 4] (fun s i wr => ∃ q : Nat, i = .int .i64 q ∧ q ≤ l.length ∧ s = .int .i64 (1 + (sizeMs (l.take q) : Nat)) ∧ Hid (Below wi.heap.size wi wr)) (fun _ i _ => l.length - (intOf i).toNat)
  case atStart => exact ⟨0, rfl, Nat.zero_le _, by simp [sizeMs], hI0⟩
  case round =>
    obtain ⟨q, rfl, hq, rfl, hbr⟩ := hrel
    clear hI0
    have hbw := Hbi.out.trans (hbr.out.mono Hbi.out.size)
    have y18 := (Hxb.out.below hbr.out Hxb.out.lt).cell 18
    by_cases hlt : q < l.length
    · obtain ⟨m, hm⟩ : ∃ p, l[q]? = some p := ⟨_, List.getElem?_eq_getElem hlt⟩
      have hmem := List.mem_of_getElem? hm
      have htk := sizeMs_take hm
      have hbm := bulkMs_mem hmem
      have hsm := sizeM_bulk m
      have hst : sizeMs (l.take q) + sizeM m ≤ sizeMs l := by rw [← htk]; exact sizeMs_le _ _
      have hC := Ih.out m hmem
      obtain ⟨k', key', dst', n', had', ⟨k1', b1', n1', t1', l1', o1'⟩, has', ⟨k2', b2', n2', t2', l2', o2'⟩, l'⟩ := m
      have hz := hbw.size
      obtain ⟨g, off, rfl, hg, cs', hcs, _, hcell⟩ := mut_at (Hl.out.below hbw) hm
      obtain ⟨la1', lc1', oa1', oc1', la2', lc2', oa2', oc2', a', c', rfl, _, _, _⟩ := mut_cells hcs
      have hrange : wr.rangeAt g (off + q * 19) [.int .i64 k', .string key', .string dst', .int .i64 n', .bool had', .int .i64 k1', .bool b1', .int .i64 n1', .string t1', .slice la1' l1'.length lc1', .slice oa1' o1'.length oc1', .bool has', .int .i64 k2', .bool b2', .int .i64 n2', .string t2', .slice la2' l2'.length lc2', .slice oa2' o2'.length oc2', .slice a' l'.length c'] := hcell
      have hgr : g < wr.heap.size := by omega
      have hq1 : (q : Int) < (l.length : Int) := by omega
      have hq0 : (0 : Int) ≤ q := by omega
      have hC' : ∀ W, Below wr.heap.size wr W → Calls Tryz.prog 31 #[.agg #[.int .i64 k', .string key', .string dst', .int .i64 n', .bool had', .int .i64 k1', .bool b1', .int .i64 n1', .string t1', .slice la1' l1'.length lc1', .slice oa1' o1'.length oc1', .bool has', .int .i64 k2', .bool b2', .int .i64 n2', .string t2', .slice la2' l2'.length lc2', .slice oa2' o2'.length oc2', .slice a' l'.length c']] W fun e w' => e = .returned (.int .i64 (sizeM (Mut.mk k' key' dst' n' had' (.mk k1' b1' n1' t1' l1' o1') has' (.mk k2' b2' n2' t2' l2' o2') l'))) ∧ Below W.heap.size W w' := fun W hW => hC _ W ((hcs.below (hW.mono hz)).more (Nat.le_trans hz hW.size)) (by omega)
      have i1 : ((sizeMs (l.take q) : Nat) : Int) + ((sizeM (Mut.mk k' key' dst' n' had' (.mk k1' b1' n1' t1' l1' o1') has' (.mk k2' b2' n2' t2' l2' o2') l') : Nat) : Int) ≤ 1000000000 := by omega
      have i2 : (0 : Int) ≤ ((sizeM (Mut.mk k' key' dst' n' had' (.mk k1' b1' n1' t1' l1' o1') has' (.mk k2' b2' n2' t2' l2' o2') l') : Nat) : Int) := by omega
      have htk' : ((sizeMs (l.take (q + 1)) : Nat) : Int) = ((sizeMs (l.take q) : Nat) : Int) + ((sizeM (Mut.mk k' key' dst' n' had' (.mk k1' b1' n1' t1' l1' o1') has' (.mk k2' b2' n2' t2' l2' o2') l') : Nat) : Int) := by rw [htk]; simp
      have i3 : (0 : Int) ≤ ((sizeMs (l.take q) : Nat) : Int) := by omega
      generalize ((sizeM (Mut.mk k' key' dst' n' had' (.mk k1' b1' n1' t1' l1' o1') has' (.mk k2' b2' n2' t2' l2' o2') l') : Nat) : Int) = S at hC' i1 i2 htk'
      generalize ((sizeMs (l.take q) : Nat) : Int) = T at i1 htk' i3 ⊢
      have hC1 := hC' wr (Below.refl _ _)
      have HC1 := Lib.hid hC1
      have Hbw := Lib.hid hbw
      have Htk' := Lib.hid htk'
      clear hC1 hbw htk'
      clear hC hC' hcs hcell hmem htk hbm hsm hst hm
      go_upto_region 5 with (fail)
      iterate 17 go_step
      refine wp_load_mid 48 (.tmp 16) rfl g (off + q * 19) rfl [.int .i64 k', .string key', .string dst', .int .i64 n', .bool had', .int .i64 k1', .bool b1', .int .i64 n1', .string t1', .slice la1' l1'.length lc1', .slice oa1' o1'.length oc1', .bool has', .int .i64 k2', .bool b2', .int .i64 n2', .string t2', .slice la2' l2'.length lc2', .slice oa2' o2'.length oc2', .slice a' l'.length c'] _ hrange Tryz.underlying48 rfl (by kernel_rfl) ?_
      go_wp2_with (go_at_call 31; (with_reducible refine (HC1.out).mono ?_); rintro e w1 ⟨rfl, hb1⟩)
      have HB := Lib.hid (hbr.out.trans (hb1.mono hbr.out.size))
      clear hb1
      go_wp2
      go_roundw
      case rel => exact ⟨q + 1, by go_num, by omega, by rw [Htk'.out]; go_num, HB⟩
      case measure => simp only [intOf]; omega
    · obtain rfl : q = l.length := by omega
      have e1 : sizeMs (l.take l.length) = sizeMs l := by rw [List.take_length]
      rw [e1]
      have Hbw := Lib.hid hbw
      clear hbw
      go_wp2
      go_ret
      exact ⟨by simp [sizeM], Hbw.out⟩
theorem rsize_calls : ∀ m, RSizeC m := by
  refine Mut.ind ?_
  intro k key dst n had was has v l IH
  obtain ⟨k1, b1, n1, t1, l1, o1⟩ := was
  obtain ⟨k2, b2, n2, t2, l2, o2⟩ := v
  exact rsize_step k key dst n had k1 b1 n1 t1 l1 o1 has k2 b2 n2 t2 l2 o2 l IH
end Go.Proofs.YtkoliaodkojghaaGreatDoor

/- The reference's word on a mutator's fields: zero, short, key, bare. Condition: values of a bulk of at most 10^8. -/
namespace Go.Proofs.YtkoliaodkojghaaGreatDoor
open Go.RowKit

set_option maxRecDepth 100000 in
theorem r11zero_calls (v : Val) (cs : List Value) (w : World) (hV : HoldsV w w.heap.size v cs) (hb : v.bulk ≤ 100000000) {B : Bool} (hB : zeroB v = B) :
    Calls Tryz.prog 93 #[.agg cs.toArray] w fun e w' => e = .returned (.bool B) ∧ Below w.heap.size w w' := by
  obtain ⟨k, b, n, t, l, o⟩ := v
  have hV' := hV
  simp only [HoldsV] at hV'
  obtain ⟨la, lc, oa, oc, rfl, _, _⟩ := hV'
  have hb0 := alloc_below w (.cells #[.int .i64 k, .bool b, .int .i64 n, .string t, .slice la l.length lc, .slice oa o.length oc] 45)
  have hC := rzero_calls _ _ _ (HoldsV.more hb0.size _ _ (hV.below hb0)) hb hB
  have HC := Lib.hid hC
  have Hb0 := Lib.hid hb0
  clear hC hb0
  clear hV hB
  go_enter Tryz.func93, Tryz.ntmps93
  go_wp2_with (fail)
  with_reducible refine (HC.out).mono ?_
  rintro e w1 ⟨rfl, hb1⟩
  go_wp2
  go_ret
  exact ⟨rfl, Hb0.out.trans (hb1.mono Hb0.out.size)⟩

set_option maxRecDepth 100000 in
theorem rshort_calls (s : ByteArray) (w : World) (hs : s.size ≤ 1000000000) : Calls Tryz.prog 94 #[.string s] w fun e w' => e = .returned (.bool (shortB s)) ∧ Below w.heap.size w w' := by
  obtain ⟨B, hB⟩ : ∃ B, validB s = B := ⟨_, rfl⟩
  have hC := fun (W : World) => RValid_calls2 hB W (by omega)
  by_cases h1 : s.size ≤ 64
  · have hE : shortB s = B := by unfold shortB; rw [hB]; simp [h1]
    have t1 : (s.size : Int) ≤ 64 := by omega
    have HC := Lib.hid hC
    have HE := Lib.hid hE
    clear hC hE
    clear h1
    go_enter Tryz.func94, Tryz.ntmps94
    go_wp2_with (fail)
    with_reducible refine (HC.out _).mono ?_
    rintro e w2 ⟨rfl, rfl⟩
    go_wp2
    go_ret
    exact ⟨by rw [HE.out]; rfl, Below.refl _ _⟩
  · have hE : shortB s = false := by unfold shortB; simp [h1]
    have t1 : (64 : Int) < (s.size : Int) := by omega
    have HE := Lib.hid hE
    clear hE
    clear h1 hC
    go_enter Tryz.func94, Tryz.ntmps94
    go_wp2
    go_ret
    exact ⟨by rw [HE.out]; rfl, Below.refl _ _⟩

set_option maxRecDepth 100000 in
set_option maxHeartbeats 1000000 in
theorem r11key_calls (k : Int) (key dst : ByteArray) (had : Bool) (y3 y5 y6 y7 y8 y9 y10 y11 y12 y13 y14 y15 y16 y17 y18 : Value) (w : World) (h1 : key.size ≤ 1000000000) (h2 : dst.size ≤ 1000000000) :
    Calls Tryz.prog 58 #[.agg #[.int .i64 k, .string key, .string dst, y3, .bool had, y5, y6, y7, y8, y9, y10, y11, y12, y13, y14, y15, y16, y17, y18]] w fun e w' => e = .returned (.bool (keyedB k key dst had)) ∧ Below w.heap.size w w' := by
  by_cases e6 : k = 6
  · subst e6
    have hE : keyedB 6 key dst had = (shortB key && shortB dst) := by unfold keyedB; rw [if_pos rfl]
    have hC := fun (W : World) => rshort_calls key W h1
    have hD := fun (W : World) => rshort_calls dst W h2
    rw [hE]
    generalize shortB key = B at hC ⊢
    generalize shortB dst = B' at hD ⊢
    have HC := Lib.hid hC
    have HD := Lib.hid hD
    clear hC hD
    clear hE
    cases B with
    | false =>
      go_enter Tryz.func58, Tryz.ntmps58
      go_wp2_with (fail)
      with_reducible refine (HC.out _).mono ?_
      rintro e w2 ⟨rfl, hb2⟩
      go_wp2
      go_ret
      exact ⟨rfl, (alloc_below _ _).trans (hb2.mono (by simp))⟩
    | true =>
      go_enter Tryz.func58, Tryz.ntmps58
      go_wp2_with (fail)
      with_reducible refine (HC.out _).mono ?_
      rintro e w2 ⟨rfl, hb2⟩
      have hlt2 : w.heap.size < w2.heap.size := by (have := hb2.size; simp at this; omega)
      obtain ⟨hc2, hg2⟩ := bcellM hb2
      go_wp2_with (fail)
      with_reducible refine (HD.out _).mono ?_
      rintro e w3 ⟨rfl, hb3⟩
      go_wp2
      go_ret
      exact ⟨by simp, ((alloc_below _ _).trans (hb2.mono (by simp))).trans (hb3.mono (by omega))⟩
  have t6 : (k == 6) = false := by simpa using e6
  by_cases e7 : k = 7 ∧ key.toList.isEmpty = true
  · obtain ⟨rfl, hk⟩ := e7
    have hE : keyedB 7 key dst had = !had := by unfold keyedB; rw [if_neg (by omega), if_pos ⟨rfl, hk⟩]
    rw [isEmpty_eq, decide_eq_true_eq] at hk
    subst hk
    rw [hE]
    clear hE
    go_enter Tryz.func58, Tryz.ntmps58
    go_wp2
    go_ret
    exact ⟨rfl, alloc_below _ _⟩
  have hE : keyedB k key dst had = decide (keyE key = 0) := by
    unfold keyedB
    rw [if_neg e6, if_neg e7, Bool.eq_iff_iff, decide_eq_true_eq, keyE_zero]
  have hC := fun (W : World) => rkey_calls key W h1
  rw [hE]
  generalize keyE key = X at hC ⊢
  by_cases k7 : k = 7
  · subst k7
    have t8 : key.toList.isEmpty = false := by cases e : key.toList.isEmpty; rfl; exact absurd ⟨rfl, e⟩ e7
    have HC := Lib.hid hC
    clear hC
    clear hE e6 e7
    go_enter Tryz.func58, Tryz.ntmps58
    go_wp2_with (fail)
    with_reducible refine (HC.out _).mono ?_
    rintro e w2 ⟨rfl, rfl⟩
    go_wp2
    go_ret
    exact ⟨by simp [beq_dec], alloc_below _ _⟩
  · have t7 : (k == 7) = false := by simpa using k7
    have HC := Lib.hid hC
    clear hC
    clear hE e6 e7 k7
    go_enter Tryz.func58, Tryz.ntmps58
    go_wp2_with (fail)
    with_reducible refine (HC.out _).mono ?_
    rintro e w2 ⟨rfl, rfl⟩
    go_wp2
    go_ret
    exact ⟨by simp [beq_dec], alloc_below _ _⟩
end Go.Proofs.YtkoliaodkojghaaGreatDoor
