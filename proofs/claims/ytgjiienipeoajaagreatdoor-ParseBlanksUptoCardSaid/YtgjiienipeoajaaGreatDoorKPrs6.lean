/- Parts, joined: strings.Builder wherever it lies (a block of its own, or a field of a struct that the call made): its methods' contracts. Condition: at most 2^47 bytes. An argument that reads as a value of package api: the tree that it is. No condition. -/
import Derived.Test.YtgjiienipeoajaaGreatDoorProg
import Derived.Test.YtgjiienipeoajaaGreatDoorShelf
import Derived.Lib.OthersKept
import Derived.Lib.FrozenHead2
import Derived.Shelf.Strings.BuilderK
import Derived.WalkKit
import Derived.BigQuiet
import Derived.Deep.QuietTactic
import Derived.WalkLawsBesides
import Derived.WalkSpells
import Derived.Lib.Hide
import Derived.Test.YtgjiienipeoajaaGreatDoorRows
import Derived.Deep.Slices
import Derived.WideKeyArgs
import Derived.Test.YtgjiienipeoajaaGreatDoorKPrs1
/- strings.Builder wherever it lies (a block of its own, or a field of a struct that the call made): its methods' contracts. Condition: at most 2^47 bytes. -/
namespace Go.Proofs.YtgjiienipeoajaaGreatDoor
open Go.RowKit Go.Shelf

/-- A strings.Builder that lies at cell o of block g, one of the call's own (from B on), whose cells are cs: it holds the bytes bs. -/
def Bld (w : World) (B g o : Nat) (t : TypeId) (cs : Array Value) (bs : List UInt8) : Prop :=
  B ≤ g ∧ w.heap[g]? = some (.cells cs t (0, 0)) ∧ t ≠ 5 ∧ o + 1 < cs.size ∧ (cs[o]? = some (.pointer none) ∨ cs[o]? = some (.pointer (some ⟨g, o, none⟩))) ∧
    ∃ v, cs[o + 1]? = some v ∧ w.ownsRow B 5 1 v bs.length (Lib.byteCells bs)

/-- The cells behind a write. -/
def bldSet (g o : Nat) (cs : Array Value) (v : Value) : Array Value := (cs.setIfInBounds o (.pointer (some ⟨g, o, none⟩))).setIfInBounds (o + 1) v

theorem Bld.lt {w : World} {B g o : Nat} {t : TypeId} {cs : Array Value} {bs : List UInt8} (h : Bld w B g o t cs bs) : g < w.heap.size := by
  rcases Nat.lt_or_ge g w.heap.size with h' | h'
  · exact h'
  · have := h.2.1; simp [Array.getElem?_eq_none h'] at this

/-- What is no cells of bytes and not block g stands as it stood. -/
abbrev Kept (g : Nat) (w w' : World) : Prop := Lib.OthersKept 5 (some g) w w'

theorem setCell_heap {w : World} {g i : Nat} {cs : Array Value} {t : TypeId} (h : w.heap[g]? = some (.cells cs t (0, 0))) (u : Value) : (w.setCell ⟨g, i, none⟩ u).heap[g]? = some (.cells (cs.setIfInBounds i u) t (0, 0)) := by
  simp [World.setCell, Array.getElem?_modify, h]

theorem Bld.used {w : World} {B g o : Nat} {t : TypeId} {cs : Array Value} {bs : List UInt8} (h : Bld w B g o t cs bs) :
    Bld (w.setCell ⟨g, o, none⟩ (.pointer (some ⟨g, o, none⟩))) B g o t (cs.setIfInBounds o (.pointer (some ⟨g, o, none⟩))) bs := by
  obtain ⟨hB, hb, ht, hs, h0, v, h1, hown⟩ := h
  refine ⟨hB, setCell_heap hb _, ht, by simpa using hs, .inr (by rw [Array.getElem?_setIfInBounds_self_of_lt (by omega)]), v, by rw [Array.getElem?_setIfInBounds, if_neg (by omega)]; exact h1, ?_⟩
  exact hown.kept (row := some g) ⟨rfl, rfl, rfl, by simp [World.setCell], fun k _ hk => Below.heap_setCell _ _ _ _ (fun e => hk (by simp [e]))⟩ (Or.inr (Lib.ownBlock_ne hown hb ht))

set_option maxHeartbeats 1000000 in
set_option maxRecDepth 100000 in
/-- (*strings.Builder).copyCheck -/
theorem copyCheck_calls (B g o : Nat) (t : TypeId) (cs : Array Value) (bs : List UInt8) (w : World) (h : Bld w B g o t cs bs) (hl : liesAt Tryz.prog Tryz.prog.depth t (cs.size / Tryz.prog.cellsOf t) o 82 1 = true) :
    Calls Tryz.prog 86 #[.pointer (some ⟨g, o, none⟩)] w fun e w' => e = .returned (.tuple #[]) ∧ Bld w' B g o t (cs.setIfInBounds o (.pointer (some ⟨g, o, none⟩))) bs ∧ Below B w w' ∧ Kept g w w' := by
  have hu := h.used
  obtain ⟨hB, hb, ht, hs, h0, v, h1, hown⟩ := h
  obtain ⟨j, hj, hj2⟩ : ∃ j, Tryz.prog.info? 82 = some j ∧ j.size = 2 := by
    have : (Tryz.prog.info? 82).map (·.size) = some 2 := by kernel_rfl
    cases hq : Tryz.prog.info? 82 with
    | none => simp [hq] at this
    | some j => exact ⟨j, rfl, by simpa [hq] using this⟩
  have hsh : w.shape? g = some (t, cs.size) := by simp [World.shape?, hb]
  rcases h0 with h0 | h0
  · have c0 : w.cell? ⟨g, o, none⟩ = some (.pointer none) := by rw [Lib.cell_of_heap hb]; exact h0
    have f0 : w.frozen? ⟨g, o, none⟩ = false := Lib.frozen_of_heap hb o
    go_enter Tryz.func86, Tryz.ntmps86
    go_wp2
    rw [Lib.run_to_unsafe (P := Tryz.prog) w (src := 80) (dst := 145) (t := 82) ⟨g, o, none⟩ Tryz.underlying80 Tryz.underlying145 hj (by omega) hsh (by show o < cs.size; omega)]
    simp only [Result.andThen]
    rw [Oper.upon_value]
    go_wp2
    rw [run_callFunc_extern Tryz.func109 (by kernel_rfl) (by kernel_rfl) (by kernel_rfl) (e := Extern.AbiNoEscape.same) (by kernel_rfl)]
    rw [Lib.run_noEscape]
    simp only [Result.andThen]
    rw [Oper.upon_value]
    go_wp2
    rw [Lib.run_from_unsafe (P := Tryz.prog) w (src := 145) (dst := 80) (u := 82) ⟨g, o, none⟩ Tryz.underlying145 Tryz.underlying80 hj hsh hl]
    simp only [Result.andThen]
    rw [Oper.upon_value]
    go_wp2
    go_end0
    exact ⟨rfl, hu, (Below.refl B w).setCell (p := ⟨g, o, none⟩) hB _, (Lib.OthersKept.refl _ _ w).setCell ⟨g, o, none⟩ rfl _⟩
  · have c0 : w.cell? ⟨g, o, none⟩ = some (.pointer (some ⟨g, o, none⟩)) := by rw [Lib.cell_of_heap hb]; exact h0
    have hself : cs.setIfInBounds o (.pointer (some ⟨g, o, none⟩)) = cs := by
      apply Array.ext_getElem?
      intro i
      rw [Array.getElem?_setIfInBounds]
      split
      · rename_i h
        subst h
        rw [if_pos (by omega), h0]
      · rfl
    have neq := Lib.run_neq_ptr_same (P := Tryz.prog) w (tp := 80) (te := 82) ⟨g, o, none⟩ Tryz.underlying80 hj
    go_enter Tryz.func86, Tryz.ntmps86
    go_wp2
    go_end0
    exact ⟨rfl, by rw [hself]; exact ⟨hB, hb, ht, hs, .inr h0, v, h1, hown⟩, Below.refl _ _, Lib.OthersKept.refl _ _ _⟩

theorem infoByte : (Tryz.prog.info? 5).map (fun i => (i.zero, i.size, i.bytes)) = some (some (.int .u8 0), 1, 1) := by kernel_rfl

/-- Behind an append: the new slice is laid into 'buf'. -/
theorem Bld.put {w1 w2 : World} {B g o : Nat} {t : TypeId} {cs : Array Value} {bs bs' : List UInt8} (h : Bld w1 B g o t (cs.setIfInBounds o (.pointer (some ⟨g, o, none⟩))) bs) (hos : o + 1 < cs.size)
    (hb2 : w2.heap[g]? = some (.cells (cs.setIfInBounds o (.pointer (some ⟨g, o, none⟩))) t (0, 0))) {v' : Value} (hown' : w2.ownsRow B 5 1 v' bs'.length (Lib.byteCells bs')) :
    Bld (w2.setCell ⟨g, o + 1, none⟩ v') B g o t (bldSet g o cs v') bs' := by
  obtain ⟨hB, _, ht, hs, h0, _⟩ := h
  refine ⟨hB, setCell_heap hb2 _, ht, by simpa [bldSet] using hs, .inr ?_, v', ?_, ?_⟩
  · unfold bldSet
    rw [Array.getElem?_setIfInBounds, if_neg (by omega), Array.getElem?_setIfInBounds_self_of_lt (by omega)]
  · unfold bldSet
    rw [Array.getElem?_setIfInBounds_self_of_lt (by simpa using hs)]
  · exact hown'.kept (row := some g) ⟨rfl, rfl, rfl, by simp [World.setCell], fun k _ hk => Below.heap_setCell _ _ _ _ (fun e => hk (by simp [e]))⟩ (Or.inr (Lib.ownBlock_ne hown' hb2 ht))

theorem ownsRow_kind {w : World} {B : Nat} {e : TypeId} {v : Value} {n : Nat} {xs : List Value} (h : w.ownsRow B e 1 v n xs) : ∀ g, v.ownBlock = some g → ∃ c fz, w.heap[g]? = some (.cells c e fz) := by
  intro g hg
  rcases h.2 with ⟨rfl, _⟩ | ⟨g', cap, cur, rfl, _, hgg, _⟩
  · simp [Value.ownBlock] at hg
  · simp [Value.ownBlock] at hg
    subst hg
    exact ⟨cur, _, hgg⟩

theorem byteCells_append (a b : List UInt8) : Lib.byteCells (a ++ b) = Lib.byteCells a ++ Lib.byteCells b := by simp [Lib.byteCells]

set_option maxHeartbeats 2000000 in
set_option maxRecDepth 100000 in
/-- (*strings.Builder).WriteString -/
theorem WriteString_calls (B g o : Nat) (t : TypeId) (cs : Array Value) (bs : List UInt8) (s : ByteArray) (w : World) (h : Bld w B g o t cs bs) (hl : liesAt Tryz.prog Tryz.prog.depth t (cs.size / Tryz.prog.cellsOf t) o 82 1 = true)
    (hlen : bs.length + s.size ≤ 140737488355328) (hBw : B ≤ w.heap.size) :
    Calls Tryz.prog 49 #[.pointer (some ⟨g, o, none⟩), .string s] w fun e w' => e = .returned (.tuple #[.int .i64 s.size, .nilIface]) ∧
      (∃ v, Bld w' B g o t (bldSet g o cs v) (bs ++ s.data.toList)) ∧ Below B w w' ∧ Kept g w w' := by
  obtain ⟨i0, hi, hz0, hz1, hz2⟩ := info_parts infoByte
  have hos : o + 1 < cs.size := h.2.2.2.1
  go_enter Tryz.func49, Tryz.ntmps49
  go_wp2_with (go_at_call 86; refine (copyCheck_calls B g o t cs bs _ h hl).mono ?_)
  rintro e w1 ⟨rfl, h1, hb1, hk1⟩
  have h1' := h1
  obtain ⟨hB, hbk, ht, hs, h0, v, hv, hown⟩ := h1
  have c1 : w1.cell? ⟨g, o + 1, none⟩ = some v := by rw [Lib.cell_of_heap hbk]; exact hv
  clear h hv h0
  go_wp2_with (at_builtin; refine Lib.wpList_append_own_string _ rfl _ _ 54 9 rfl B 5 i0 Tryz.underlying54 Tryz.underlying9 hi hz0 hz1 hz2 _ _ _ rfl hown s rfl ?c3 ?c4 ?c5 ?_)
  case c3 => unfold maxLen; omega
  case c4 => omega
  case c5 => have := hb1.size; omega
  intro v' w2 hown' hgrow _
  have hne := Lib.ownBlock_ne hown hbk ht
  have hlt : g < w1.heap.size := h1'.lt
  have hb2 : w2.heap[g]? = some (.cells (cs.setIfInBounds o (.pointer (some ⟨g, o, none⟩))) t (0, 0)) := by
    rw [hgrow.block g hlt (fun e => hne e.symm)]
    exact hbk
  have d1 : w2.cell? ⟨g, o + 1, none⟩ = some v := by rw [Lib.cell_of_heap hb2, ← Lib.cell_of_heap hbk]; exact c1
  have f1 : w2.frozen? ⟨g, o + 1, none⟩ = false := Lib.frozen_of_heap hb2 _
  have hk2 := hk1.grown hgrow (ownsRow_kind hown)
  have hbw2 := hb1.grown hgrow (by have := hb1.size; omega) (fun k hk => (hown.lt k hk).1)
  obtain ⟨ao, n', cap, rfl⟩ : ∃ ao n' cap, v' = .slice ao n' cap := by
    rcases hown'.2 with ⟨hv, _⟩ | ⟨g, cap, cur, hv, _⟩
    · exact ⟨_, _, _, hv⟩
    · exact ⟨_, _, _, hv⟩
  have hfin := Bld.put h1' hos hb2 (bs' := bs ++ s.data.toList) (v' := .slice ao n' cap) (by
    rw [byteCells_append, List.length_append]
    have e : s.data.toList.length = s.size := by rw [← Lib.size_eq]
    rw [e]
    exact hown')
  clear hown hown' hgrow c1 hbk hb2 h1' hb1 hk1 hne
  go_wp2
  go_ret2
  exact ⟨rfl, ⟨_, hfin⟩, hbw2.setCell (p := ⟨g, o + 1, none⟩) hB _, hk2.setCell ⟨g, o + 1, none⟩ rfl _⟩

set_option maxHeartbeats 2000000 in
set_option maxRecDepth 100000 in
/-- (*strings.Builder).WriteByte -/
theorem WriteByte_calls (B g o : Nat) (t : TypeId) (cs : Array Value) (bs : List UInt8) (c : Int) (hc0 : 0 ≤ c) (hc1 : c < 256) (w : World) (h : Bld w B g o t cs bs) (hl : liesAt Tryz.prog Tryz.prog.depth t (cs.size / Tryz.prog.cellsOf t) o 82 1 = true)
    (hlen : bs.length + 1 ≤ 140737488355328) (hBw : B ≤ w.heap.size) :
    Calls Tryz.prog 118 #[.pointer (some ⟨g, o, none⟩), .int .u8 c] w fun e w' => e = .returned .nilIface ∧
      (∃ v, Bld w' B g o t (bldSet g o cs v) (bs ++ [UInt8.ofNat c.toNat])) ∧ Below B w w' ∧ Kept g w w' := by
  obtain ⟨i0, hi, hz0, hz1, hz2⟩ := info_parts infoByte
  have hos : o + 1 < cs.size := h.2.2.2.1
  go_enter Tryz.func118, Tryz.ntmps118
  go_wp2_with (go_at_call 86; refine (copyCheck_calls B g o t cs bs _ h hl).mono ?_)
  rintro e w1 ⟨rfl, h1, hb1, hk1⟩
  have h1' := h1
  obtain ⟨hB, hbk, ht, hs, h0, v, hv, hown⟩ := h1
  have c1 : w1.cell? ⟨g, o + 1, none⟩ = some v := by rw [Lib.cell_of_heap hbk]; exact hv
  clear h hv h0
  go_wp2_with (at_builtin; refine wpList_append_own _ rfl _ _ 54 rfl B 5 i0 (.int .u8 0) 1 1 Tryz.underlying54 hi hz0 hz1 hz2 rfl (by decide) _ _ _ rfl (hown.alloc _) ⟨w1.heap.size, 0, none⟩ 1 1 [.int .u8 c] rfl rfl ?c1 ?c2 ?c3 ?c4 ?c5 ?_)
  case c1 =>
    intro j u hj
    match j, hj with
    | 0, hj => simp at hj; subst hj; simp [Addr.add]
  case c2 => intro u hu; simp at hu; subst hu; rfl
  case c3 => unfold maxLen; omega
  case c4 => omega
  case c5 => have := hb1.size; simp; omega
  intro v' w2 hown' hgrow _
  have hne := Lib.ownBlock_ne hown hbk ht
  have hlt : g < w1.heap.size := h1'.lt
  have hb2 : w2.heap[g]? = some (.cells (cs.setIfInBounds o (.pointer (some ⟨g, o, none⟩))) t (0, 0)) := by
    rw [hgrow.block g (by simp; omega) (fun e => hne e.symm), Lib.alloc_old w1 _ g hlt]
    exact hbk
  have d1 : w2.cell? ⟨g, o + 1, none⟩ = some v := by rw [Lib.cell_of_heap hb2, ← Lib.cell_of_heap hbk]; exact c1
  have f1 : w2.frozen? ⟨g, o + 1, none⟩ = false := Lib.frozen_of_heap hb2 _
  have hk2 := (hk1.alloc _).grown hgrow (ownsRow_kind (hown.alloc _))
  have hbw2 := (hb1.alloc (by have := hb1.size; omega) _).grown hgrow (by have := hb1.size; simp; omega) (fun k hk => (hown.lt k hk).1)
  obtain ⟨ao, n', cap, rfl⟩ : ∃ ao n' cap, v' = .slice ao n' cap := by
    rcases hown'.2 with ⟨hv, _⟩ | ⟨g, cap, cur, hv, _⟩
    · exact ⟨_, _, _, hv⟩
    · exact ⟨_, _, _, hv⟩
  have hfin := Bld.put h1' hos hb2 (bs' := bs ++ [UInt8.ofNat c.toNat]) (v' := .slice ao n' cap) (by
    rw [byteCells_append, List.length_append]
    have e : Lib.byteCells [UInt8.ofNat c.toNat] = [.int .u8 c] := by
      simp [Lib.byteCells]; omega
    rw [e]
    exact hown')
  clear hown hown' hgrow c1 hbk hb2 h1' hb1 hk1 hne
  go_wp2
  go_ret
  exact ⟨rfl, ⟨_, hfin⟩, hbw2.setCell (p := ⟨g, o + 1, none⟩) hB _, hk2.setCell ⟨g, o + 1, none⟩ rfl _⟩

theorem runeCells_bytes (r : Int) : Lib.runeCells r = Lib.byteCells (Lib.encodeRune r) := (Lib.byteCells_encodeRune r).symm

set_option maxHeartbeats 2000000 in
set_option maxRecDepth 100000 in
/-- (*strings.Builder).WriteRune -/
theorem WriteRune_calls (B g o : Nat) (t : TypeId) (cs : Array Value) (bs : List UInt8) (r : Int) (hr0 : -2147483648 ≤ r) (hr1 : r ≤ 2147483647) (w : World) (h : Bld w B g o t cs bs) (hl : liesAt Tryz.prog Tryz.prog.depth t (cs.size / Tryz.prog.cellsOf t) o 82 1 = true)
    (hlen : bs.length + 4 ≤ 140737488355328) (hBw : B ≤ w.heap.size) :
    Calls Tryz.prog 121 #[.pointer (some ⟨g, o, none⟩), .int .i32 r] w fun e w' => (∃ k : Int, e = .returned (.tuple #[.int .i64 k, .nilIface])) ∧
      (∃ v, Bld w' B g o t (bldSet g o cs v) (bs ++ Lib.encodeRune r)) ∧ Below B w w' ∧ Kept g w w' := by
  have hos : o + 1 < cs.size := h.2.2.2.1
  go_enter Tryz.func121, Tryz.ntmps121
  go_wp2_with (go_at_call 86; refine (copyCheck_calls B g o t cs bs _ h hl).mono ?_)
  rintro e w1 ⟨rfl, h1, hb1, hk1⟩
  have h1' := h1
  obtain ⟨hB, hbk, ht, hs, h0, v, hv, hown⟩ := h1
  have c1 : w1.cell? ⟨g, o + 1, none⟩ = some v := by rw [Lib.cell_of_heap hbk]; exact hv
  clear h hv h0
  obtain ⟨ao, n0, cap, rfl⟩ : ∃ ao n' cap, v = .slice ao n' cap := by
    rcases hown.2 with ⟨hv, _⟩ | ⟨g, cap, cur, hv, _⟩
    · exact ⟨_, _, _, hv⟩
    · exact ⟨_, _, _, hv⟩
  go_wp2_with (go_at_call 147; refine (Tryz.utf8_AppendRune_plain B _ _ _ r hr0 hr1 _ hown (by omega) (by have := hb1.size; omega)).mono ?_)
  rintro e w2 ⟨v', rfl, hown', ob, hgrow⟩
  have hne := Lib.ownBlock_ne hown hbk ht
  have hlt : g < w1.heap.size := h1'.lt
  have hb2 : w2.heap[g]? = some (.cells (cs.setIfInBounds o (.pointer (some ⟨g, o, none⟩))) t (0, 0)) := by
    rw [hgrow.block g (by simp; omega) (fun e => hne e.symm), Lib.alloc_old w1 _ g hlt]
    exact hbk
  have d1 : w2.cell? ⟨g, o + 1, none⟩ = some (.slice ao n0 cap) := by rw [Lib.cell_of_heap hb2, ← Lib.cell_of_heap hbk]; exact c1
  have f1 : w2.frozen? ⟨g, o + 1, none⟩ = false := Lib.frozen_of_heap hb2 _
  have hk2 := (hk1.alloc ob).grown hgrow (ownsRow_kind (hown.alloc _))
  have hbw2 := (hb1.alloc (by have := hb1.size; omega) ob).grown hgrow (by have := hb1.size; simp; omega) (fun k hk => (hown.lt k hk).1)
  obtain ⟨ao', n', cap', rfl⟩ : ∃ ao n' cap, v' = .slice ao n' cap := by
    rcases hown'.2 with ⟨hv, _⟩ | ⟨g, cap, cur, hv, _⟩
    · exact ⟨_, _, _, hv⟩
    · exact ⟨_, _, _, hv⟩
  have hfin := Bld.put h1' hos hb2 (bs' := bs ++ Lib.encodeRune r) (v' := .slice ao' n' cap') (by
    rw [byteCells_append, List.length_append]
    rw [runeCells_bytes] at hown'
    simpa [Lib.byteCells] using hown')
  have e1 : (w2.setCell ⟨g, o + 1, none⟩ (.slice ao' n' cap')).cell? ⟨g, o + 1, none⟩ = some (.slice ao' n' cap') := World.cell?_setCell_same' _ _ _ (by rw [d1]; rfl)
  clear hown hown' hgrow c1 hbk hb2 h1' hb1 hk1 hne
  go_wp2
  go_ret2
  exact ⟨⟨_, rfl⟩, ⟨_, hfin⟩, hbw2.setCell (p := ⟨g, o + 1, none⟩) hB _, hk2.setCell ⟨g, o + 1, none⟩ rfl _⟩

set_option maxHeartbeats 2000000 in
set_option maxRecDepth 100000 in
/-- (*strings.Builder).String, of a builder that holds a byte at least -/
theorem String_calls (B g o : Nat) (t : TypeId) (cs : Array Value) (l : List UInt8) (w : World) (h : Bld w B g o t cs l) (hl0 : l ≠ []) :
    Calls Tryz.prog 43 #[.pointer (some ⟨g, o, none⟩)] w fun e w' => e = .returned (.string ⟨l.toArray⟩) ∧ Below B w w' ∧ Kept g w w' := by
  obtain ⟨hB, hbk, ht, hs, h0, v, hv, hown⟩ := h
  have hl1 : l.length ≠ 0 := by simpa using hl0
  obtain ⟨gg, cap, cur, rfl, hbg, hg, hnc, hcm, hcs, htake⟩ : ∃ gg cap cur, v = .slice (some ⟨gg, 0, none⟩) l.length cap ∧ B ≤ gg ∧ w.heap[gg]? = some (.cells cur 5 (0, 0)) ∧ l.length ≤ cap ∧ cap ≤ maxLen ∧ cur.size = cap * 1 ∧ cur.toList.take (l.length * 1) = Lib.byteCells l := by
    rcases hown.2 with ⟨_, hz⟩ | ⟨gg, cap, cur, hv, r⟩
    · exact absurd hz hl1
    · exact ⟨gg, cap, cur, hv, r⟩
  have c1 : w.drew.cell? ⟨g, o + 1, none⟩ = some (.slice (some ⟨gg, 0, none⟩) l.length cap) := by
    have : w.drew.heap[g]? = some (.cells cs t (0, 0)) := hbk
    rw [Lib.cell_of_heap this]; exact hv
  have hSD : (Builtin.unsafeSliceData_ #[54] 117 #[.slice (some ⟨gg, 0, none⟩) l.length cap]).run Tryz.prog w.drew = .ok (.pointer (some ⟨gg, 0, none⟩)) w.drew :=
    Lib.run_unsafeSliceData_row _ _ _ _ _ _ (by omega)
  have hUS : (Builtin.unsafeString_ #[117, 3] 9 #[.pointer (some ⟨gg, 0, none⟩), .int .i64 l.length]).run Tryz.prog w.drew = .ok (.string ⟨l.toArray⟩) (w.drew.freeze ⟨gg, 0, none⟩ l.length) := by
    refine Lib.run_unsafeString_row w.drew 117 3 9 5 Tryz.underlying117 (by kernel_rfl) gg cur.size (by have hg' : w.drew.heap[gg]? = some (.cells cur 5 (0, 0)) := hg; simp [World.shape?, hg']) l hl0 (by omega) (by unfold maxLen at hcm; omega) ?_
    intro j x hx
    have := hown.cells (g := gg) rfl j (.int .u8 x.toNat) (by simp [Lib.byteCells, hx])
    exact this
  clear hv h0
  go_enter Tryz.func43, Tryz.ntmps43
  go_wp2
  go_region
  all_goals (go_wp2; go_ret; exact ⟨rfl, Lib.below_freeze (Below.drew (Below.refl B w)) (p := ⟨gg, 0, none⟩) hbg _, ((Lib.OthersKept.refl _ _ w).drew).freeze ⟨gg, 0, none⟩ _ ⟨cur, _, hg⟩⟩)

end Go.Proofs.YtgjiienipeoajaaGreatDoor

/- An argument that reads as a value of package api: the tree that it is. No condition. -/
namespace Go.Proofs.YtgjiienipeoajaaGreatDoor
open Go.RowKit Go.ChangeShapes Go.WideShapes

theorem cellsV : Tryz.prog.cellsOf 26 = 6 := by kernel_rfl
theorem cellsM : Tryz.prog.cellsOf 37 = 7 := by kernel_rfl
theorem cells_string : Tryz.prog.cellsOf 9 = 1 := by kernel_rfl
theorem cells_kind : Tryz.prog.cellsOf 22 = 1 := by kernel_rfl
theorem cells_bool : Tryz.prog.cellsOf 4 = 1 := by kernel_rfl
theorem cells_i64 : Tryz.prog.cellsOf 2 = 1 := by kernel_rfl
theorem cells_lv : Tryz.prog.cellsOf 23 = 1 := by kernel_rfl
theorem cells_lm : Tryz.prog.cellsOf 24 = 1 := by kernel_rfl

section
variable {H : Type} {enc : TypeId × Value → H} {w : World} {sp : Nat → Bool} {held : Bool}

/-- What a reading at type Value gives. -/
def OpnV (enc : TypeId × Value → H) (w : World) (sp : Nat → Bool) (held : Bool) (n : Nat) : Prop := ∀ (cs : List Value) (x : DataW H × List MemPlace), DataW.trod enc Tryz.prog w 0 sp held n 26 cs = some x →
    ∃ v, HoldsV w w.heap.size v cs ∧ inV v ∧ v.bulk ≤ Rows.uptoBulk x.1

theorem six_cells {cs : List Value} (h : cs.length = 6) : ∃ c0 c1 c2 c3 c4 c5, cs = [c0, c1, c2, c3, c4, c5] := by
  match cs, h with
  | [c0, c1, c2, c3, c4, c5], _ => exact ⟨_, _, _, _, _, _, rfl⟩
theorem seven_cells {α : Type} {cs : List α} (h : cs.length = 7) : ∃ c0 c1 c2 c3 c4 c5 c6, cs = [c0, c1, c2, c3, c4, c5, c6] := by
  match cs, h with
  | [c0, c1, c2, c3, c4, c5, c6], _ => exact ⟨_, _, _, _, _, _, _, rfl⟩

theorem cells_at {g off n : Nat} {cs : List Value} (hn : 0 < n) (h : w.cells? 0 ⟨g, off, none⟩ n = some cs) : g < w.heap.size ∧ ∀ j u, cs[j]? = some u → w.cell? ⟨g, off + j, none⟩ = some u := by
  obtain ⟨_, hlen, hc⟩ := World.cells?_some h
  have hj : ∀ j u, cs[j]? = some u → w.cell? ⟨g, off + j, none⟩ = some u := by
    intro j u hu
    have hjn : j < n := by
      have := (List.getElem?_eq_some_iff.1 hu).1
      omega
    have := hc j hjn
    rw [add_plain] at this
    rw [← hu]
    exact this
  refine ⟨?_, hj⟩
  have h0 : ∃ u, cs[0]? = some u := ⟨cs[0]'(by omega), List.getElem?_eq_getElem (by omega)⟩
  obtain ⟨u, hu⟩ := h0
  exact World.block_lt_of_cell? _ _ (hj 0 u hu)

theorem open_elems {n : Nat} (IH : OpnV enc w sp held n) : ∀ (elems : List (DataW H × List MemPlace)) (g off : Nat),
    (∀ i, i < elems.length → (w.cells? 0 ⟨g, off + i * 6, none⟩ 6).bind (DataW.trod enc Tryz.prog w 0 sp held n 26) = elems[i]?) →
    ∃ l, l.length = elems.length ∧ HoldsL w w.heap.size l g off ∧ inL l ∧ bulkL l ≤ Rows.uptoBulkAll (elems.map (·.1))
  | [], _, _, _ => ⟨[], rfl, by simp [HoldsL], by simp [inL], by simp [bulkL]⟩
  | y :: r, g, off, h => by
    obtain ⟨l, h1, h2, h3, h4⟩ := open_elems IH r g (off + 6) (fun i hi => by
      have := h (i + 1) (by simpa using hi)
      rw [show off + (i + 1) * 6 = off + 6 + i * 6 from by omega] at this
      simpa using this)
    have h0 := h 0 (by simp)
    simp only [Nat.zero_mul, Nat.add_zero, List.getElem?_cons_zero] at h0
    obtain ⟨cs, hcs, hx⟩ := Option.bind_eq_some_iff.1 h0
    obtain ⟨v, v1, v2, v3⟩ := IH cs y hx
    obtain ⟨_, hc⟩ := cells_at (by omega) hcs
    refine ⟨v :: l, by simp [h1], ?_, ?_, ?_⟩
    · simp only [HoldsL]
      exact ⟨⟨cs, v1, hc⟩, h2⟩
    · simp only [inL]
      exact ⟨v2, h3⟩
    · simp only [bulkL, List.map_cons, Rows.uptoBulkAll]
      omega

theorem open_members {n : Nat} (IH : ∀ m, m < n → OpnV enc w sp held m) : ∀ (elems : List (DataW H × List MemPlace)) (g off : Nat),
    (∀ i, i < elems.length → (w.cells? 0 ⟨g, off + i * 7, none⟩ 7).bind (DataW.trod enc Tryz.prog w 0 sp held n 37) = elems[i]?) →
    ∃ l, l.length = elems.length ∧ HoldsO w w.heap.size l g off ∧ inO l ∧ bulkO l ≤ Rows.uptoBulkAll (elems.map (·.1))
  | [], _, _, _ => ⟨[], rfl, by simp [HoldsO], by simp [inO], by simp [bulkO]⟩
  | y :: r, g, off, h => by
    obtain ⟨l, h1, h2, h3, h4⟩ := open_members IH r g (off + 7) (fun i hi => by
      have := h (i + 1) (by simpa using hi)
      rw [show off + (i + 1) * 7 = off + 7 + i * 7 from by omega] at this
      simpa using this)
    have h0 := h 0 (by simp)
    simp only [Nat.zero_mul, Nat.add_zero, List.getElem?_cons_zero] at h0
    obtain ⟨cs, hcs, hx⟩ := Option.bind_eq_some_iff.1 h0
    obtain ⟨_, hc⟩ := cells_at (by omega) hcs
    obtain ⟨xs, m, rfl, rfl, hl, hlen, hf⟩ := DataW.trod_struct Tryz.underlying37 hx
    have hl7 : cs.length = 7 := hl.trans cellsM
    obtain ⟨c0, c1, c2, c3, c4, c5, c6, rfl⟩ := seven_cells hl7
    have f0 : DataW.trod enc Tryz.prog w 0 sp held m 9 (([c0, c1, c2, c3, c4, c5, c6].drop 0).take (Tryz.prog.cellsOf 9)) = xs[0]? := hf 0 _ rfl
    have f1 : DataW.trod enc Tryz.prog w 0 sp held m 26 (([c0, c1, c2, c3, c4, c5, c6].drop 1).take (Tryz.prog.cellsOf 26)) = xs[1]? := hf 1 _ rfl
    simp only [cells_string, cellsV, List.drop_zero, List.drop_succ_cons, List.take_succ_cons, List.take_zero] at f0 f1
    match xs, hlen with
    | [y0, y1], _ =>
      simp only [List.getElem?_cons_zero, List.getElem?_cons_succ] at f0 f1
      obtain ⟨key, hk, rfl, _⟩ := DataW.trod_string Tryz.underlying9 f0
      obtain ⟨v, v1, v2, v3⟩ := IH m (by omega) _ _ f1
      simp only [List.cons.injEq, and_true] at hk
      subst hk
      refine ⟨(key, v) :: l, by simp [h1], ?_, ?_, ?_⟩
      · simp only [HoldsO, HoldsP]
        refine ⟨⟨hc 0 _ rfl, _, v1, fun j u hu => ?_⟩, h2⟩
        rw [Nat.add_assoc, Nat.add_comm 1 j]
        exact hc (j + 1) u hu
      · simp only [inO, inP]
        exact ⟨v2, h3⟩
      · have hks : key.data.toList.length = key.size := (by rw [Array.length_toList]; rfl)
        simp only [bulkO, bulkP, List.map_cons, List.map_nil, Rows.uptoBulkAll, Rows.uptoBulk]
        omega

theorem open_listcell {n : Nat} {c4 : Value} {y4 : DataW H × List MemPlace} (IH : ∀ m, m < n → OpnV enc w sp held m) (f4 : DataW.trod enc Tryz.prog w 0 sp held n 23 [c4] = some y4) :
    ∃ l la lc, c4 = .slice la (l : List Val).length lc ∧ (l = [] ∨ ∃ g off, la = some ⟨g, off, none⟩ ∧ g < w.heap.size ∧ HoldsL w w.heap.size l g off) ∧ inL l ∧ 1 + bulkL l ≤ Rows.uptoBulk y4.1 := by
  rcases DataW.trod_slice Tryz.underlying23 f4 with ⟨e, rfl⟩ | ⟨a, len, cap, elems, rest, q, hn, e, rfl, _, _, _, hlen', hel, _, _⟩
  · simp only [List.cons.injEq, and_true] at e
    exact ⟨[], none, 0, e, .inl rfl, by simp [inL], by simp [bulkL, Rows.uptoBulk]⟩
  · simp only [List.cons.injEq, and_true] at e
    subst e
    by_cases h0 : len = 0
    · subst h0
      exact ⟨[], some a, cap, rfl, .inl rfl, by simp [inL], by simp [bulkL, Rows.uptoBulk]⟩
    · obtain ⟨g, off, spot⟩ := a
      rw [cellsV] at hel
      have hz := hel 0 (by omega)
      rw [List.getElem?_eq_getElem (by omega)] at hz
      obtain ⟨cs', hcs', _⟩ := Option.bind_eq_some_iff.1 hz
      obtain ⟨_, hcl, hcc⟩ := World.cells?_some hcs'
      have hz0 := hcc 0 (by omega)
      rw [List.getElem?_eq_getElem (by omega)] at hz0
      have hspot : spot = none := by simpa [Addr.add] using World.cell?_spot hz0
      subst hspot
      simp only [add_plain] at hel hz0
      obtain ⟨l, h1, h2, h3, h4⟩ := open_elems (IH q (by omega)) elems g off (fun i hi => hel i (by omega))
      refine ⟨l, _, cap, by rw [h1, hlen'], .inr ⟨g, off, rfl, World.block_lt_of_cell? _ _ hz0, h2⟩, h3, ?_⟩
      simp only [Rows.uptoBulk]
      omega

theorem open_membcell {n : Nat} {c5 : Value} {y5 : DataW H × List MemPlace} (IH : ∀ m, m < n → OpnV enc w sp held m) (f5 : DataW.trod enc Tryz.prog w 0 sp held n 24 [c5] = some y5) :
    ∃ l la lc, c5 = .slice la (l : List (ByteArray × Val)).length lc ∧ (l = [] ∨ ∃ g off, la = some ⟨g, off, none⟩ ∧ g < w.heap.size ∧ HoldsO w w.heap.size l g off) ∧ inO l ∧ 1 + bulkO l ≤ Rows.uptoBulk y5.1 := by
  rcases DataW.trod_slice Tryz.underlying24 f5 with ⟨e, rfl⟩ | ⟨a, len, cap, elems, rest, q, hn, e, rfl, _, _, _, hlen', hel, _, _⟩
  · simp only [List.cons.injEq, and_true] at e
    exact ⟨[], none, 0, e, .inl rfl, by simp [inO], by simp [bulkO, Rows.uptoBulk]⟩
  · simp only [List.cons.injEq, and_true] at e
    subst e
    by_cases h0 : len = 0
    · subst h0
      exact ⟨[], some a, cap, rfl, .inl rfl, by simp [inO], by simp [bulkO, Rows.uptoBulk]⟩
    · obtain ⟨g, off, spot⟩ := a
      rw [cellsM] at hel
      have hz := hel 0 (by omega)
      rw [List.getElem?_eq_getElem (by omega)] at hz
      obtain ⟨cs', hcs', _⟩ := Option.bind_eq_some_iff.1 hz
      obtain ⟨_, hcl, hcc⟩ := World.cells?_some hcs'
      have hz0 := hcc 0 (by omega)
      rw [List.getElem?_eq_getElem (by omega)] at hz0
      have hspot : spot = none := by simpa [Addr.add] using World.cell?_spot hz0
      subst hspot
      simp only [add_plain] at hel hz0
      obtain ⟨l, h1, h2, h3, h4⟩ := open_members (n := q) (fun m hm => IH m (by omega)) elems g off (fun i hi => hel i (by omega))
      refine ⟨l, _, cap, by rw [h1, hlen'], .inr ⟨g, off, rfl, World.block_lt_of_cell? _ _ hz0, h2⟩, h3, ?_⟩
      simp only [Rows.uptoBulk]
      omega

theorem open_value : ∀ n, OpnV enc w sp held n := by
  intro n
  induction n using Nat.strongRecOn with
  | _ n IH =>
    intro cs x hx
    obtain ⟨xs, m, rfl, rfl, hl, hlen, hf⟩ := DataW.trod_struct Tryz.underlying26 hx
    have hl6 : cs.length = 6 := hl.trans cellsV
    obtain ⟨c0, c1, c2, c3, c4, c5, rfl⟩ := six_cells hl6
    have f0 : DataW.trod enc Tryz.prog w 0 sp held m 22 (([c0, c1, c2, c3, c4, c5].drop 0).take (Tryz.prog.cellsOf 22)) = xs[0]? := hf 0 _ rfl
    have f1 : DataW.trod enc Tryz.prog w 0 sp held m 4 (([c0, c1, c2, c3, c4, c5].drop 1).take (Tryz.prog.cellsOf 4)) = xs[1]? := hf 1 _ rfl
    have f2 : DataW.trod enc Tryz.prog w 0 sp held m 2 (([c0, c1, c2, c3, c4, c5].drop 2).take (Tryz.prog.cellsOf 2)) = xs[2]? := hf 2 _ rfl
    have f3 : DataW.trod enc Tryz.prog w 0 sp held m 9 (([c0, c1, c2, c3, c4, c5].drop 3).take (Tryz.prog.cellsOf 9)) = xs[3]? := hf 3 _ rfl
    have f4 : DataW.trod enc Tryz.prog w 0 sp held m 23 (([c0, c1, c2, c3, c4, c5].drop 4).take (Tryz.prog.cellsOf 23)) = xs[4]? := hf 4 _ rfl
    have f5 : DataW.trod enc Tryz.prog w 0 sp held m 24 (([c0, c1, c2, c3, c4, c5].drop 5).take (Tryz.prog.cellsOf 24)) = xs[5]? := hf 5 _ rfl
    simp only [cells_kind, cells_bool, cells_i64, cells_string, cells_lv, cells_lm, List.drop_zero, List.drop_succ_cons, List.take_succ_cons, List.take_zero] at f0 f1 f2 f3 f4 f5
    match xs, hlen with
    | [y0, y1, y2, y3, y4, y5], _ =>
      simp only [List.getElem?_cons_zero, List.getElem?_cons_succ] at f0 f1 f2 f3 f4 f5
      obtain ⟨k, e0, rfl, _⟩ := DataW.trod_int Tryz.underlying22 f0
      obtain ⟨b, e1, rfl⟩ := DataW.trod_bool Tryz.underlying4 f1
      obtain ⟨i, e2, rfl, hwf⟩ := DataW.trod_int Tryz.underlying2 f2
      obtain ⟨t, e3, rfl, _⟩ := DataW.trod_string Tryz.underlying9 f3
      simp only [List.cons.injEq, and_true] at e0 e1 e2 e3
      subst e0 e1 e2 e3
      have hin : -9223372036854775808 ≤ i ∧ i ≤ 9223372036854775807 := by
        have h1 : IntKind.i64.min = -9223372036854775808 := by decide
        have h2 : IntKind.i64.max = 9223372036854775807 := by decide
        simp only [Lit.wf, h1, h2, Bool.and_eq_true, decide_eq_true_eq] at hwf
        exact hwf
      have hts : t.data.toList.length = t.size := (by rw [Array.length_toList]; rfl)
      have hL := open_listcell (fun q hq => IH q (by omega)) f4
      have hO := open_membcell (fun q hq => IH q (by omega)) f5
      obtain ⟨l, la, lc, rfl, l1, l2, l3⟩ := hL
      obtain ⟨o, oa, oc, rfl, o1, o2, o3⟩ := hO
      refine ⟨.mk k b i t l o, ?_, ?_, ?_⟩
      · simp only [HoldsV]
        exact ⟨la, lc, oa, oc, rfl, l1, o1⟩
      · simp only [inV]
        exact ⟨hin, l2, o2⟩
      · simp only [Val.bulk, List.map_cons, List.map_nil, Rows.uptoBulkAll, Rows.uptoBulk]
        omega

set_option maxRecDepth 100000 in
theorem open_arg_value {base : Nat} {v0 : Value} {d : DataW H} {ps : List MemPlace} (hv : Value.okWide Tryz.prog w .any base 26 v0) (h : DataW.Trod enc Tryz.prog w 0 sp held 26 v0 d ps) :
    ∃ v cs, v0 = .agg (cs : List Value).toArray ∧ HoldsV w w.heap.size v cs ∧ inV v ∧ v.bulk ≤ Rows.uptoBulk d := by
  obtain ⟨cs, rfl, _⟩ := okWide_struct Tryz.underlying26 hv
  obtain ⟨fuel, hf⟩ := h
  obtain ⟨v, h1, h2, h3⟩ := open_value fuel _ _ hf
  exact ⟨v, cs.toList, by simp, h1, h2, h3⟩
set_option maxRecDepth 100000 in
theorem open_arg_list {base : Nat} {v0 : Value} {d : DataW H} {ps : List MemPlace} (hv : Value.okWide Tryz.prog w .any base 23 v0) (h : DataW.Trod enc Tryz.prog w 0 sp held 23 v0 d ps) :
    ∃ l la lc, v0 = .slice la (l : List Val).length lc ∧ (l = [] ∨ ∃ g off, la = some ⟨g, off, none⟩ ∧ g < w.heap.size ∧ HoldsL w w.heap.size l g off) ∧ inL l ∧ 1 + bulkL l ≤ Rows.uptoBulk d := by
  obtain ⟨a, len, cap, rfl⟩ := okWide_slice Tryz.underlying23 hv
  obtain ⟨fuel, hf⟩ := h
  exact open_listcell (fun q _ => open_value q) hf
set_option maxRecDepth 100000 in
theorem open_arg_members {base : Nat} {v0 : Value} {d : DataW H} {ps : List MemPlace} (hv : Value.okWide Tryz.prog w .any base 24 v0) (h : DataW.Trod enc Tryz.prog w 0 sp held 24 v0 d ps) :
    ∃ l la lc, v0 = .slice la (l : List (ByteArray × Val)).length lc ∧ (l = [] ∨ ∃ g off, la = some ⟨g, off, none⟩ ∧ g < w.heap.size ∧ HoldsO w w.heap.size l g off) ∧ inO l ∧ 1 + bulkO l ≤ Rows.uptoBulk d := by
  obtain ⟨a, len, cap, rfl⟩ := okWide_slice Tryz.underlying24 hv
  obtain ⟨fuel, hf⟩ := h
  exact open_membcell (fun q _ => open_value q) hf

end

theorem laid_out : laidOutB Tryz.prog = true := by kernel_rfl
/-- An argument reads as it did, in a world whose old blocks are as they were. -/
theorem stays {H : Type} {enc : TypeId × Value → H} {W W' : World} {t : TypeId} {v : Value} {d : DataW H} {ps : List MemPlace} {sp' : Nat → Bool} (hr : Tryz.prog.readableRec t = true) (ht : t < Tryz.prog.types.size)
    (h : DataW.Trod enc Tryz.prog W 0 (fun _ => true) true t v d ps) (hlt : ∀ p ∈ ps, p.block < W.heap.size) (hb : Below W.heap.size W W') (hs : ∀ p ∈ ps, sp' p.block = true) : DataW.Trod enc Tryz.prog W' 0 sp' true t v d ps := by
  refine Go.WideElems.Trod_stays laid_out hr ht h (fun p hp => ?_) hs
  have hl := hlt p hp
  cases p with
  | cell b off => exact World.cell?_of_block (w := W) (w' := W') (a := ⟨b, off, none⟩) (hb.block b hl)
  | map b => exact hb.block b hl
end Go.Proofs.YtgjiienipeoajaaGreatDoor
