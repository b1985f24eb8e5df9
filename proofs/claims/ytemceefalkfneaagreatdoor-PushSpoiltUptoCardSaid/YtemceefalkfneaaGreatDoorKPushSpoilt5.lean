/- Parts, joined: Arguments that read as a mutator, and as a push. No condition. -/
import Derived.Test.YtemceefalkfneaaGreatDoorProg
import Derived.Lib.SmallJoins
import Derived.Test.YtemceefalkfneaaGreatDoorKCm5
import Derived.Test.YtemceefalkfneaaGreatDoorKPushSpoilt1
/- Arguments that read as a mutator, and as a push. No condition. -/
namespace Go.Proofs.YtemceefalkfneaaGreatDoor
open Go.RowKit Go.ChangeShapes Go.WideShapes

theorem cells_mut : Tryz.prog.cellsOf 85 = 19 := by kernel_rfl
theorem cells_mk : Tryz.prog.cellsOf 82 = 1 := by kernel_rfl
theorem cells_lmut : Tryz.prog.cellsOf 83 = 1 := by kernel_rfl
theorem cells_num : Tryz.prog.cellsOf 87 = 20 := by kernel_rfl
theorem cells_lnum : Tryz.prog.cellsOf 38 = 1 := by kernel_rfl
theorem cells_push : Tryz.prog.cellsOf 40 = 2 := by kernel_rfl
theorem cells_u64' : Tryz.prog.cellsOf 22 = 1 := by kernel_rfl
theorem cells19 {α : Type} {cs : List α} (h : cs.length = 19) : ∃ c0 c1 c2 c3 c4 c5 c6 c7 c8 c9 c10 c11 c12 c13 c14 c15 c16 c17 c18, cs = [c0, c1, c2, c3, c4, c5, c6, c7, c8, c9, c10, c11, c12, c13, c14, c15, c16, c17, c18] := by
  match cs, h with
  | [c0, c1, c2, c3, c4, c5, c6, c7, c8, c9, c10, c11, c12, c13, c14, c15, c16, c17, c18], _ => exact ⟨_, _, _, _, _, _, _, _, _, _, _, _, _, _, _, _, _, _, _, rfl⟩
theorem cells20 {α : Type} {cs : List α} (h : cs.length = 20) : ∃ c0 c1 c2 c3 c4 c5 c6 c7 c8 c9 c10 c11 c12 c13 c14 c15 c16 c17 c18 c19, cs = [c0, c1, c2, c3, c4, c5, c6, c7, c8, c9, c10, c11, c12, c13, c14, c15, c16, c17, c18, c19] := by
  match cs, h with
  | [c0, c1, c2, c3, c4, c5, c6, c7, c8, c9, c10, c11, c12, c13, c14, c15, c16, c17, c18, c19], _ => exact ⟨_, _, _, _, _, _, _, _, _, _, _, _, _, _, _, _, _, _, _, _, rfl⟩
theorem u64_in' {n : Int} (hwf : (Lit.int .u64 n).wf = true) : 0 ≤ n := by
  have h1 : IntKind.u64.min = 0 := by decide
  simp only [Lit.wf, h1, Bool.and_eq_true, decide_eq_true_eq] at hwf
  exact hwf.1
theorem i64_in' {i : Int} (hwf : (Lit.int .i64 i).wf = true) : -9223372036854775808 ≤ i ∧ i ≤ 9223372036854775807 := by
  have h1 : IntKind.i64.min = -9223372036854775808 := by decide
  have h2 : IntKind.i64.max = 9223372036854775807 := by decide
  simp only [Lit.wf, h1, h2, Bool.and_eq_true, decide_eq_true_eq] at hwf
  exact hwf

section
variable {H : Type} {enc : TypeId × Value → H} {w : World} {sp : Nat → Bool} {held : Bool}

/-- What a reading at type Mutator gives. -/
def ReadsM (enc : TypeId × Value → H) (w : World) (sp : Nat → Bool) (held : Bool) (n : Nat) : Prop := ∀ (cs : List Value) (x : DataW H × List MemPlace), DataW.trod enc Tryz.prog w 0 sp held n 85 cs = some x →
    ∃ m, Holds w w.heap.size (dM m) cs ∧ inM m ∧ bulkM m ≤ Rows.uptoBulk x.1

/-- A row of data in memory, one by one. -/
theorem holdsA_cons {s : Nat} {d : D} {ds : List D} {cs ns : List Value} {g off : Nat} (hd : Holds w w.heap.size d cs) (hs : cs.length = s) (hc : ∀ j u, cs[j]? = some u → w.cell? ⟨g, off + j, none⟩ = some u)
    (hr : HoldsA w w.heap.size ds ns) (hn : ∀ j u, ns[j]? = some u → w.cell? ⟨g, off + s + j, none⟩ = some u) :
    ∃ ms, HoldsA w w.heap.size (d :: ds) ms ∧ ∀ j u, ms[j]? = some u → w.cell? ⟨g, off + j, none⟩ = some u := by
  refine ⟨cs ++ ns, ⟨cs, ns, rfl, hd, hr⟩, fun j u hu => ?_⟩
  by_cases hj : j < s
  · rw [List.getElem?_append_left (by omega)] at hu
    exact hc j u hu
  · rw [List.getElem?_append_right (by omega)] at hu
    have := hn (j - cs.length) u hu
    rwa [show off + s + (j - cs.length) = off + j from by omega] at this

theorem open_muts {n : Nat} (IH : ReadsM enc w sp held n) : ∀ (elems : List (DataW H × List MemPlace)) (g off : Nat),
    (∀ i, i < elems.length → (w.cells? 0 ⟨g, off + i * 19, none⟩ 19).bind (DataW.trod enc Tryz.prog w 0 sp held n 85) = elems[i]?) →
    ∃ l : List Mut, l.length = elems.length ∧ (∃ ns, HoldsA w w.heap.size (dMs l) ns ∧ ∀ j u, ns[j]? = some u → w.cell? ⟨g, off + j, none⟩ = some u) ∧ inMs l ∧ bulkMs l ≤ Rows.uptoBulkAll (elems.map (·.1))
  | [], _, _, _ => ⟨[], rfl, ⟨[], rfl, fun j u h => by simp at h⟩, trivial, by simp [bulkMs]⟩
  | y :: r, g, off, h => by
    obtain ⟨l, h1, ⟨ns, h2, h2'⟩, h3, h4⟩ := open_muts IH r g (off + 19) (fun i hi => by
      have := h (i + 1) (by simpa using hi)
      rw [show off + (i + 1) * 19 = off + 19 + i * 19 from by omega] at this
      simpa using this)
    have h0 := h 0 (by simp)
    simp only [Nat.zero_mul, Nat.add_zero, List.getElem?_cons_zero] at h0
    obtain ⟨cs, hcs, hx⟩ := Option.bind_eq_some_iff.1 h0
    obtain ⟨m, v1, v2, v3⟩ := IH cs y hx
    obtain ⟨_, hc⟩ := cells_at (by omega) hcs
    refine ⟨m :: l, by simp [h1], holdsA_cons v1 (v1.len.1.trans (dM_cells m)) hc h2 h2', ⟨v2, h3⟩, ?_⟩
    simp only [bulkMs, List.map_cons, Rows.uptoBulkAll]
    omega

theorem open_mutscell {n : Nat} {c4 : Value} {y4 : DataW H × List MemPlace} (IH : ∀ m, m < n → ReadsM enc w sp held m) (f4 : DataW.trod enc Tryz.prog w 0 sp held n 83 [c4] = some y4) :
    ∃ l : List Mut, Holds w w.heap.size (.row 19 (dMs l)) [c4] ∧ inMs l ∧ 1 + bulkMs l ≤ Rows.uptoBulk y4.1 := by
  rcases DataW.trod_slice Tryz.underlying83 f4 with ⟨e, rfl⟩ | ⟨a, len, cap, elems, rest, q, hn, e, rfl, _, _, _, hlen', hel, _, _⟩
  · simp only [List.cons.injEq, and_true] at e
    exact ⟨[], ⟨none, 0, by rw [e]; rfl, dMs_cells _, [], rfl, .inl rfl⟩, trivial, by simp [bulkMs, Rows.uptoBulk]⟩
  · simp only [List.cons.injEq, and_true] at e
    subst e
    by_cases h0 : len = 0
    · subst h0
      exact ⟨[], ⟨some a, cap, rfl, dMs_cells _, [], rfl, .inl rfl⟩, trivial, by simp [bulkMs, Rows.uptoBulk]⟩
    · obtain ⟨g, off, spot⟩ := a
      rw [cells_mut] at hel
      have hz := hel 0 (by omega)
      rw [List.getElem?_eq_getElem (by omega)] at hz
      obtain ⟨cs', hcs', _⟩ := Option.bind_eq_some_iff.1 hz
      obtain ⟨_, hcl, hcc⟩ := World.cells?_some hcs'
      have hz0 := hcc 0 (by omega)
      rw [List.getElem?_eq_getElem (by omega)] at hz0
      have hspot : spot = none := by simpa [Addr.add] using World.cell?_spot hz0
      subst hspot
      simp only [add_plain] at hel hz0
      obtain ⟨l, h1, ⟨ns, h2, h2'⟩, h3, h4⟩ := open_muts (IH q (by omega)) elems g off (fun i hi => hel i (by omega))
      refine ⟨l, ⟨_, cap, by rw [dMs_len, h1, hlen'], dMs_cells _, ns, h2, .inr ⟨g, off, rfl, World.block_lt_of_cell? _ _ hz0, h2'⟩⟩, h3, ?_⟩
      simp only [Rows.uptoBulk]
      omega

set_option maxRecDepth 100000 in
theorem open_mut : ∀ n, ReadsM enc w sp held n := by
  intro n
  induction n using Nat.strongRecOn with
  | _ n IH =>
    intro cs x hx
    obtain ⟨xs, m, rfl, rfl, hl, hlen, hf⟩ := DataW.trod_struct Tryz.underlying85 hx
    have hl6 : cs.length = 19 := hl.trans cells_mut
    obtain ⟨c0, c1, c2, c3, c4, c5, c6, c7, c8, c9, c10, c11, c12, c13, c14, c15, c16, c17, c18, rfl⟩ := cells19 hl6
    have f0 : DataW.trod enc Tryz.prog w 0 sp held m 82 (([c0, c1, c2, c3, c4, c5, c6, c7, c8, c9, c10, c11, c12, c13, c14, c15, c16, c17, c18].drop 0).take (Tryz.prog.cellsOf 82)) = xs[0]? := hf 0 _ rfl
    have f1 : DataW.trod enc Tryz.prog w 0 sp held m 9 (([c0, c1, c2, c3, c4, c5, c6, c7, c8, c9, c10, c11, c12, c13, c14, c15, c16, c17, c18].drop 1).take (Tryz.prog.cellsOf 9)) = xs[1]? := hf 1 _ rfl
    have f2 : DataW.trod enc Tryz.prog w 0 sp held m 9 (([c0, c1, c2, c3, c4, c5, c6, c7, c8, c9, c10, c11, c12, c13, c14, c15, c16, c17, c18].drop 2).take (Tryz.prog.cellsOf 9)) = xs[2]? := hf 2 _ rfl
    have f3 : DataW.trod enc Tryz.prog w 0 sp held m 2 (([c0, c1, c2, c3, c4, c5, c6, c7, c8, c9, c10, c11, c12, c13, c14, c15, c16, c17, c18].drop 3).take (Tryz.prog.cellsOf 2)) = xs[3]? := hf 3 _ rfl
    have f4 : DataW.trod enc Tryz.prog w 0 sp held m 4 (([c0, c1, c2, c3, c4, c5, c6, c7, c8, c9, c10, c11, c12, c13, c14, c15, c16, c17, c18].drop 4).take (Tryz.prog.cellsOf 4)) = xs[4]? := hf 4 _ rfl
    have f5 : DataW.trod enc Tryz.prog w 0 sp held m 52 (([c0, c1, c2, c3, c4, c5, c6, c7, c8, c9, c10, c11, c12, c13, c14, c15, c16, c17, c18].drop 5).take (Tryz.prog.cellsOf 52)) = xs[5]? := hf 5 _ rfl
    have f6 : DataW.trod enc Tryz.prog w 0 sp held m 4 (([c0, c1, c2, c3, c4, c5, c6, c7, c8, c9, c10, c11, c12, c13, c14, c15, c16, c17, c18].drop 11).take (Tryz.prog.cellsOf 4)) = xs[6]? := hf 6 _ rfl
    have f7 : DataW.trod enc Tryz.prog w 0 sp held m 52 (([c0, c1, c2, c3, c4, c5, c6, c7, c8, c9, c10, c11, c12, c13, c14, c15, c16, c17, c18].drop 12).take (Tryz.prog.cellsOf 52)) = xs[7]? := hf 7 _ rfl
    have f8 : DataW.trod enc Tryz.prog w 0 sp held m 83 (([c0, c1, c2, c3, c4, c5, c6, c7, c8, c9, c10, c11, c12, c13, c14, c15, c16, c17, c18].drop 18).take (Tryz.prog.cellsOf 83)) = xs[8]? := hf 8 _ rfl
    simp only [cells_mk, cells_bool, cells_i64, cells_string, cellsV, cells_lmut, List.drop_zero, List.drop_succ_cons, List.take_succ_cons, List.take_zero] at f0 f1 f2 f3 f4 f5 f6 f7 f8
    match xs, hlen with
    | [y0, y1, y2, y3, y4, y5, y6, y7, y8], _ =>
      simp only [List.getElem?_cons_zero, List.getElem?_cons_succ] at f0 f1 f2 f3 f4 f5 f6 f7 f8
      obtain ⟨k, e0, rfl, _⟩ := DataW.trod_int Tryz.underlying82 f0
      obtain ⟨key, e1, rfl, _⟩ := DataW.trod_string Tryz.underlying9 f1
      obtain ⟨dst, e2, rfl, _⟩ := DataW.trod_string Tryz.underlying9 f2
      obtain ⟨i, e3, rfl, hwf⟩ := DataW.trod_int Tryz.underlying2 f3
      obtain ⟨had, e4, rfl⟩ := DataW.trod_bool Tryz.underlying4 f4
      obtain ⟨was, a1, a2, a3⟩ := open_value m _ _ f5
      obtain ⟨has, e6, rfl⟩ := DataW.trod_bool Tryz.underlying4 f6
      obtain ⟨v, b1, b2, b3⟩ := open_value m _ _ f7
      obtain ⟨l, l1, l2, l3⟩ := open_mutscell (fun q hq => IH q (by omega)) f8
      simp only [List.cons.injEq, and_true] at e0 e1 e2 e3 e4 e6
      subst e0 e1 e2 e3 e4 e6
      have hks : key.data.toList.length = key.size := (by rw [Array.length_toList]; rfl)
      have hds : dst.data.toList.length = dst.size := (by rw [Array.length_toList]; rfl)
      refine ⟨.mk k key dst i had was has v l, ?_, ?_, ?_⟩
      · simp only [dM, Holds]
        exact ⟨[.int .i64 k], _, rfl, ⟨rfl, rfl⟩, [.string key], _, rfl, ⟨rfl, rfl⟩, [.string dst], _, rfl, ⟨rfl, rfl⟩, [.int .i64 i], _, rfl, ⟨rfl, rfl⟩, [.bool had], _, rfl, ⟨rfl, rfl⟩, [c5, c6, c7, c8, c9, c10], _, rfl, holds_of_V _ _ a1, [.bool has], _, rfl, ⟨rfl, rfl⟩, [c12, c13, c14, c15, c16, c17], _, rfl, holds_of_V _ _ b1, [c18], [], rfl, l1, rfl⟩
      · simp only [inM]
        exact ⟨i64_in' hwf, a2, b2, l2⟩
      · simp only [bulkM, List.map_cons, List.map_nil, Rows.uptoBulkAll, Rows.uptoBulk]
        omega

theorem open_nums {n : Nat} : ∀ (elems : List (DataW H × List MemPlace)) (g off : Nat),
    (∀ i, i < elems.length → (w.cells? 0 ⟨g, off + i * 20, none⟩ 20).bind (DataW.trod enc Tryz.prog w 0 sp held n 87) = elems[i]?) →
    ∃ l : List Num, l.length = elems.length ∧ (∃ ns, HoldsA w w.heap.size (dNs l) ns ∧ ∀ j u, ns[j]? = some u → w.cell? ⟨g, off + j, none⟩ = some u) ∧ inN l ∧ bulkN l ≤ Rows.uptoBulkAll (elems.map (·.1))
  | [], _, _, _ => ⟨[], rfl, ⟨[], rfl, fun j u h => by simp at h⟩, fun p hp => (by cases hp), by simp [bulkN]⟩
  | y :: r, g, off, h => by
    obtain ⟨l, h1, ⟨ns, h2, h2'⟩, h3, h4⟩ := open_nums r g (off + 20) (fun i hi => by
      have := h (i + 1) (by simpa using hi)
      rw [show off + (i + 1) * 20 = off + 20 + i * 20 from by omega] at this
      simpa using this)
    have h0 := h 0 (by simp)
    simp only [Nat.zero_mul, Nat.add_zero, List.getElem?_cons_zero] at h0
    obtain ⟨cs, hcs, hx⟩ := Option.bind_eq_some_iff.1 h0
    obtain ⟨_, hc⟩ := cells_at (by omega) hcs
    obtain ⟨xs, m, rfl, rfl, hl, hlen, hf⟩ := DataW.trod_struct Tryz.underlying87 hx
    have hl20 : cs.length = 20 := hl.trans cells_num
    obtain ⟨c0, c1, c2, c3, c4, c5, c6, c7, c8, c9, c10, c11, c12, c13, c14, c15, c16, c17, c18, c19, rfl⟩ := cells20 hl20
    have f0 : DataW.trod enc Tryz.prog w 0 sp held m 22 (([c0, c1, c2, c3, c4, c5, c6, c7, c8, c9, c10, c11, c12, c13, c14, c15, c16, c17, c18, c19].drop 0).take (Tryz.prog.cellsOf 22)) = xs[0]? := hf 0 _ rfl
    have f1 : DataW.trod enc Tryz.prog w 0 sp held m 85 (([c0, c1, c2, c3, c4, c5, c6, c7, c8, c9, c10, c11, c12, c13, c14, c15, c16, c17, c18, c19].drop 1).take (Tryz.prog.cellsOf 85)) = xs[1]? := hf 1 _ rfl
    simp only [cells_u64', cells_mut, List.drop_zero, List.drop_succ_cons, List.take_succ_cons, List.take_zero] at f0 f1
    match xs, hlen with
    | [y0, y1], _ =>
      simp only [List.getElem?_cons_zero, List.getElem?_cons_succ] at f0 f1
      obtain ⟨id, e0, rfl, hwf⟩ := DataW.trod_int Tryz.underlying22 f0
      obtain ⟨mu, v1, v2, v3⟩ := open_mut m _ _ f1
      simp only [List.cons.injEq, and_true] at e0
      subst e0
      have hd : Holds w w.heap.size (dN ⟨id, mu⟩) [.int .u64 id, c1, c2, c3, c4, c5, c6, c7, c8, c9, c10, c11, c12, c13, c14, c15, c16, c17, c18, c19] :=
        ⟨[.int .u64 id], _, rfl, ⟨rfl, rfl⟩, [c1, c2, c3, c4, c5, c6, c7, c8, c9, c10, c11, c12, c13, c14, c15, c16, c17, c18, c19], [], rfl, v1, rfl⟩
      refine ⟨⟨id, mu⟩ :: l, by simp [h1], holdsA_cons hd rfl hc h2 h2', ?_, ?_⟩
      · intro p hp
        rcases List.mem_cons.1 hp with rfl | hp
        · exact ⟨u64_in' hwf, v2⟩
        · exact h3 p hp
      · simp only [bulkN, List.map_cons, List.map_nil, Rows.uptoBulkAll, Rows.uptoBulk]
        omega

theorem open_numscell {n : Nat} {c4 : Value} {y4 : DataW H × List MemPlace} (f4 : DataW.trod enc Tryz.prog w 0 sp held n 38 [c4] = some y4) :
    ∃ (l : List Num) (la : Option Addr) (ln lc : Nat), c4 = .slice la ln lc ∧ Holds w w.heap.size (.row 20 (dNs l)) [.slice la ln lc] ∧ inN l ∧ 1 + bulkN l ≤ Rows.uptoBulk y4.1 := by
  rcases DataW.trod_slice Tryz.underlying38 f4 with ⟨e, rfl⟩ | ⟨a, len, cap, elems, rest, q, hn, e, rfl, _, _, _, hlen', hel, _, _⟩
  · simp only [List.cons.injEq, and_true] at e
    exact ⟨[], none, 0, 0, e, ⟨none, 0, rfl, dNs_cells _, [], rfl, .inl rfl⟩, fun p hp => (by cases hp), by simp [bulkN, Rows.uptoBulk]⟩
  · simp only [List.cons.injEq, and_true] at e
    subst e
    by_cases h0 : len = 0
    · subst h0
      exact ⟨[], some a, 0, cap, rfl, ⟨some a, cap, rfl, dNs_cells _, [], rfl, .inl rfl⟩, fun p hp => (by cases hp), by simp [bulkN, Rows.uptoBulk]⟩
    · obtain ⟨g, off, spot⟩ := a
      rw [cells_num] at hel
      have hz := hel 0 (by omega)
      rw [List.getElem?_eq_getElem (by omega)] at hz
      obtain ⟨cs', hcs', _⟩ := Option.bind_eq_some_iff.1 hz
      obtain ⟨_, hcl, hcc⟩ := World.cells?_some hcs'
      have hz0 := hcc 0 (by omega)
      rw [List.getElem?_eq_getElem (by omega)] at hz0
      have hspot : spot = none := by simpa [Addr.add] using World.cell?_spot hz0
      subst hspot
      simp only [add_plain] at hel hz0
      obtain ⟨l, h1, ⟨ns, h2, h2'⟩, h3, h4⟩ := open_nums elems g off (fun i hi => hel i (by omega))
      refine ⟨l, _, len, cap, rfl, ⟨_, cap, by rw [dNs_len, h1, hlen'], dNs_cells _, ns, h2, .inr ⟨g, off, rfl, World.block_lt_of_cell? _ _ hz0, h2'⟩⟩, h3, ?_⟩
      simp only [Rows.uptoBulk]
      omega

set_option maxRecDepth 100000 in
theorem open_arg_push {base : Nat} {v0 : Value} {d : DataW H} {ps : List MemPlace} (hv : Value.okWide Tryz.prog w .any base 40 v0) (h : DataW.Trod enc Tryz.prog w 0 sp held 40 v0 d ps) :
    ∃ (c : Int) (l : List Num) (la : Option Addr) (ln lc : Nat), v0 = .agg #[.int .u64 c, .slice la ln lc] ∧ 0 ≤ c ∧ Holds w w.heap.size (.row 20 (dNs l)) [.slice la ln lc] ∧ inN l ∧ bulkN l ≤ Rows.uptoBulk d := by
  obtain ⟨cs, rfl, _⟩ := okWide_struct Tryz.underlying40 hv
  obtain ⟨fuel, hf⟩ := h
  obtain ⟨xs, m, rfl, hd, hl, hlen, hx⟩ := DataW.trod_struct Tryz.underlying40 hf
  have hl2 : cs.toList.length = 2 := hl.trans cells_push
  obtain ⟨l⟩ := cs
  match l, hl2 with
  | [c0, c1], _ =>
    have f0 : DataW.trod enc Tryz.prog w 0 sp held m 22 (([c0, c1].drop 0).take (Tryz.prog.cellsOf 22)) = xs[0]? := hx 0 _ rfl
    have f1 : DataW.trod enc Tryz.prog w 0 sp held m 38 (([c0, c1].drop 1).take (Tryz.prog.cellsOf 38)) = xs[1]? := hx 1 _ rfl
    simp only [cells_u64', cells_lnum, List.drop_zero, List.drop_succ_cons, List.take_succ_cons, List.take_zero] at f0 f1
    match xs, hlen with
    | [y0, y1], _ =>
      simp only [List.getElem?_cons_zero, List.getElem?_cons_succ] at f0 f1
      obtain ⟨n0, e0, _, w0⟩ := DataW.trod_int Tryz.underlying22 f0
      obtain ⟨l, la, ln, lc, rfl, g1, g2, g3⟩ := open_numscell f1
      simp only [List.cons.injEq, and_true] at e0
      subst e0
      refine ⟨n0, l, la, ln, lc, rfl, u64_in' w0, g1, g2, ?_⟩
      have hd' := congrArg Prod.fst hd
      simp only at hd'
      rw [hd']
      simp only [Rows.uptoBulk, List.map_cons, List.map_nil, Rows.uptoBulkAll]
      omega
end
end Go.Proofs.YtemceefalkfneaaGreatDoor
