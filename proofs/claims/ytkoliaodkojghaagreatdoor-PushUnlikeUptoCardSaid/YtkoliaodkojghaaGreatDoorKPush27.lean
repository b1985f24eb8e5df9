/- Parts, joined: commonplaceref02.Within: the values at once within one. Condition: a bulk of at most 10^8. An argument that reads as a value of package api: the tree that it is. No condition. -/
import Derived.Test.YtkoliaodkojghaaGreatDoorProg
import Derived.Maps.AppendAt
import Derived.Test.YtkoliaodkojghaaGreatDoorRows
import Derived.Deep.Slices
import Derived.WideKeyArgs
import Derived.Test.YtkoliaodkojghaaGreatDoorKPush3
import Derived.Test.YtkoliaodkojghaaGreatDoorKPush6
import Derived.Test.YtkoliaodkojghaaGreatDoorKPush7
import Derived.Test.YtkoliaodkojghaaGreatDoorKPush20
/- commonplaceref02.Within: the values at once within one. Condition: a bulk of at most 10^8. -/
namespace Go.Proofs.YtkoliaodkojghaaGreatDoor
open Go.RowKit


/-- What an owned row of values is, as a slice. -/
theorem own_slice {w : World} {B m : Nat} {v : Value} {ns : List Value} (h : w.ownsRow B 45 6 v m ns) :
    ∃ la lc, v = .slice la m lc ∧ (m = 0 ∨ ∃ g, la = some ⟨g, 0, none⟩ ∧ B ≤ g ∧ g < w.heap.size ∧ ∀ j u, ns[j]? = some u → w.cell? ⟨g, 0 + j, none⟩ = some u) := by
  rcases h.2 with ⟨rfl, hz⟩ | ⟨g, cap, cur, rfl, hbg, hg, _, _, _, _⟩
  · subst hz
    exact ⟨none, 0, rfl, .inl rfl⟩
  · refine ⟨_, cap, rfl, .inr ⟨g, rfl, hbg, (Array.getElem?_eq_some_iff.1 hg).1, fun j u hu => ?_⟩⟩
    have := h.cells (g := g) rfl j u hu
    rw [Go.WideShapes.add_plain] at this
    exact this

/-- What Within hands back. -/
def WithinPost (w : World) (v : Val) (e : Ending) (w' : World) : Prop :=
  (∃ la lc, e = .returned (.slice la (within v).length lc) ∧ (within v = [] ∨ ∃ g off, la = some ⟨g, off, none⟩ ∧ g < w'.heap.size ∧ HoldsL w' w'.heap.size (within v) g off)) ∧ Below w.heap.size w w'

set_option maxRecDepth 100000 in
set_option maxHeartbeats 2000000 in
theorem within_list (b : Bool) (n : Int) (t : ByteArray) (l : List Val) (o : List (ByteArray × Val)) (la oa : Option Addr) (oc lc : Nat) (w : World) (hl : l = [] ∨ ∃ g off, la = some ⟨g, off, none⟩ ∧ g < w.heap.size ∧ HoldsL w w.heap.size l g off)
    (hb : bulkL l ≤ 100000000) :
    Calls Tryz.prog 131 #[.agg #[.int .i64 5, .bool b, .int .i64 n, .string t, .slice la l.length lc, .slice oa o.length oc]] w (WithinPost w (.mk 5 b n t l o)) := by
  have hln := bulkL_len l
  have hw : within (.mk 5 b n t l o) = l := by simp [within]
  by_cases h0 : l = []
  · subst h0
    clear hl
    go_enter Tryz.func131, Tryz.ntmps131
    have Hw := Lib.hid hw
    clear hw
    cases la
    · go_wp2
      go_ret
      exact ⟨⟨none, 0, by rw [Hw.out]; rfl, .inl Hw.out⟩, (Below.refl _ _).alloc (Nat.le_refl _) _⟩
    · go_wp2
      go_ret
      exact ⟨⟨none, 0, by rw [Hw.out]; rfl, .inl Hw.out⟩, (Below.refl _ _).alloc (Nat.le_refl _) _⟩
  · obtain ⟨g, off, rfl, hg, hL⟩ := hl.resolve_left h0
    obtain ⟨i0, hi, hz0, hz1, hz2⟩ := info_parts info_val
    obtain ⟨ns, hrow, hcells⟩ := HoldsL.row hL
    obtain ⟨hnl, hno⟩ := hrow.len
    have HI := Lib.hid hi
    have HZ0 := Lib.hid hz0
    have HZ1 := Lib.hid hz1
    have HZ2 := Lib.hid hz2
    have Hrow := Lib.hid hrow
    have Hcells := Lib.hid hcells
    have Hw := Lib.hid hw
    have HN := Lib.hid hnl
    have HO := Lib.hid hno
    clear hi hz0 hz1 hz2 hrow hcells hw hnl hno hl hL
    obtain ⟨w1, hw1⟩ : ∃ w1, w.alloc (.cells #[.int .i64 5, .bool b, .int .i64 n, .string t, .slice (some ⟨g, off, none⟩) l.length lc, .slice oa o.length oc] 45) = w1 := ⟨_, rfl⟩
    have hb1 : Below w.heap.size w w1 := hw1 ▸ (Below.refl _ _).alloc (Nat.le_refl _) _
    have hbx1 : w1.heap[w.heap.size]? = some (.cells #[.int .i64 5, .bool b, .int .i64 n, .string t, .slice (some ⟨g, off, none⟩) l.length lc, .slice oa o.length oc] 45 (0, 0)) := by rw [← hw1]; exact heap_alloc_new _ _
    have hz1 : w1.heap.size = w.heap.size + 1 := by rw [← hw1]; simp
    have HB1 := Lib.hid hb1
    have HX1 := Lib.hid hbx1
    have HS1 := Lib.hid hz1
    have Hown : Hid (w1.ownsRow (w.heap.size + 1) 45 6 (.slice none 0 0) 0 []) := World.ownsRow_nil _ _ _ _
    clear hb1 hbx1 hz1
    subst hw1
    go_enter Tryz.func131, Tryz.ntmps131
    go_wp2_with (at_builtin; refine wpList_append_own _ rfl (.tmp 8) (.tmp 10) 42 rfl (w.heap.size + 1) 45 i0 (.agg #[.int .i64 0, .bool false, .int .i64 0, .string ⟨#[]⟩, .slice none 0 0, .slice none 0 0]) 6 88 Tryz.underlying42 HI.out HZ0.out HZ1.out HZ2.out rfl (by decide) (.slice none 0 0) 0 [] rfl Hown.out ⟨g, off, none⟩ l.length lc ns rfl HN.out ?c1 ?c2 ?c3 ?c4 ?c5 ?_)
    case c1 =>
      intro j u hj
      rw [Go.WideShapes.add_plain]
      exact (HB1.out.cell (p := ⟨g, off + j, none⟩) hg).trans (Hcells.out j u hj)
    case c2 => exact HO.out
    case c3 => unfold maxLen; omega
    case c4 => omega
    case c5 => simp
    intro v' w2 hown' hgrow _
    obtain ⟨la', lc', rfl, hsl⟩ := own_slice hown'
    have hbA := ((HB1.out).grown hgrow (by rw [HS1.out]; omega) (fun k hk => by simp [Value.ownBlock] at hk))
    have hbox2 : w2.heap[w.heap.size]? = some (.cells #[.int .i64 5, .bool b, .int .i64 n, .string t, .slice (some ⟨g, off, none⟩) l.length lc, .slice oa o.length oc] 45 (0, 0)) := (hgrow.block _ (by rw [HS1.out]; omega) (by simp [Value.ownBlock])).trans HX1.out
    have d0 : w2.cell? ⟨w.heap.size, 0, none⟩ = some (.int .i64 5) := by rw [Lib.cell_of_heap hbox2]; rfl
    have Hsl := Lib.hid hsl
    have HbA := Lib.hid hbA
    clear hown' hgrow hsl hbA hbox2
    go_wp2
    go_ret
    refine ⟨⟨la', lc', by rw [Hw.out]; rfl, ?_⟩, HbA.out⟩
    rw [Hw.out]
    refine .inr ?_
    rcases Hsl.out with h | ⟨g', rfl, _, hg', hc'⟩
    · exact absurd (List.length_eq_zero_iff.1 h) h0
    · exact ⟨g', 0, rfl, hg', Hrow.out.holds (fun v cs h => HoldsV.more HbA.out.size _ _ (h.below HbA.out)) hc'⟩

set_option maxRecDepth 100000 in
set_option maxHeartbeats 2000000 in
theorem within_obj (b : Bool) (n : Int) (t : ByteArray) (l : List Val) (o : List (ByteArray × Val)) (la oa : Option Addr) (oc lc : Nat) (w : World) (hl : o = [] ∨ ∃ g off, oa = some ⟨g, off, none⟩ ∧ g < w.heap.size ∧ HoldsO w w.heap.size o g off)
    (hb : bulkO o ≤ 100000000) :
    Calls Tryz.prog 131 #[.agg #[.int .i64 6, .bool b, .int .i64 n, .string t, .slice la l.length lc, .slice oa o.length oc]] w (WithinPost w (.mk 6 b n t l o)) := by
  have hln := bulkO_len o
  have hw : within (.mk 6 b n t l o) = o.map (·.2) := by simp [within]
  obtain ⟨i0, hi, hz0, hz1, hz2⟩ := info_parts info_val
  have HI := Lib.hid hi
  have HZ0 := Lib.hid hz0
  have HZ1 := Lib.hid hz1
  have HZ2 := Lib.hid hz2
  have Hw := Lib.hid hw
  clear hi hz0 hz1 hz2 hw
  obtain ⟨w1, hw1⟩ : ∃ w1, w.alloc (.cells #[.int .i64 6, .bool b, .int .i64 n, .string t, .slice la l.length lc, .slice oa o.length oc] 45) = w1 := ⟨_, rfl⟩
  have hb1 : Below w.heap.size w w1 := hw1 ▸ (Below.refl _ _).alloc (Nat.le_refl _) _
  have hbx1 : w1.heap[w.heap.size]? = some (.cells #[.int .i64 6, .bool b, .int .i64 n, .string t, .slice la l.length lc, .slice oa o.length oc] 45 (0, 0)) := by rw [← hw1]; exact heap_alloc_new _ _
  have HB1 := Lib.hid hb1
  have HX1 := Lib.hid hbx1
  have Hown : Hid (w1.ownsRow (w.heap.size + 1) 45 6 (.slice none 0 0) 0 []) := World.ownsRow_nil _ _ _ _
  have HR0 : Hid (RowL w w.heap.size ((o.take 0).map (·.2)) []) := rfl
  clear hb1 hbx1
  subst hw1
  go_enter Tryz.func131, Tryz.ntmps131
  go_wp2_with (fail)
  go_loopw [3, 4] (fun v1 i wr => ∃ (k : Nat) (ns : List Value), i = .int .i64 k ∧ k ≤ o.length ∧ Hid (wr.ownsRow (w.heap.size + 1) 45 6 v1 k ns) ∧ Hid (RowL w w.heap.size ((o.take k).map (·.2)) ns) ∧ Hid (Below w.heap.size w wr) ∧
    Hid (wr.heap[w.heap.size]? = some (.cells #[.int .i64 6, .bool b, .int .i64 n, .string t, .slice la l.length lc, .slice oa o.length oc] 45 (0, 0)))) (fun _ i _ => o.length - (intOf i).toNat)
  case atStart => exact ⟨0, [], rfl, Nat.zero_le _, Hown, HR0, HB1, HX1⟩
  case round =>
    obtain ⟨k, ns, rfl, hk, hown, hrow, hbw, hbx⟩ := hrel
    clear Hown HR0 HB1 HX1
    have b5 : wr.cell? ⟨w.heap.size, 5, none⟩ = some (.slice oa o.length oc) := by rw [Lib.cell_of_heap hbx.out]; rfl
    have hz : w.heap.size < wr.heap.size := (Array.getElem?_eq_some_iff.1 hbx.out).1
    by_cases hlt : k < o.length
    · obtain ⟨g, off, rfl, hg, hL⟩ : ∃ g off, oa = some ⟨g, off, none⟩ ∧ g < w.heap.size ∧ HoldsO w w.heap.size o g off := by
        rcases hl with rfl | h
        · simp at hlt
        · exact h
      obtain ⟨⟨key, x⟩, hx⟩ : ∃ v, o[k]? = some v := ⟨_, List.getElem?_eq_getElem hlt⟩
      have htk : (o.take (k + 1)).map (·.2) = (o.take k).map (·.2) ++ [x] := by rw [List.take_add_one, hx]; simp
      obtain ⟨k', b', n', t', l', o'⟩ := x
      obtain ⟨la', lc', oa', oc', hvs, _, e1, e2, e3, e4, e5, e6⟩ := hL.seven hx
      have cc := fun j (u : Value) (h : w.cell? ⟨g, j, none⟩ = some u) => (hbw.out.cell (p := ⟨g, j, none⟩) hg).trans h
      have c1 := cc _ _ e1
      have c2 := cc _ _ e2
      have c3 := cc _ _ e3
      have c4 := cc _ _ e4
      have c5 := cc _ _ e5
      have c6 := cc _ _ e6
      have hrow' := hrow.out.snoc hvs
      rw [← htk] at hrow'
      have Hrow := Lib.hid hrow'
      have hno := Lib.hid hvs.len.2
      clear hrow' hrow htk hx hL hg e1 e2 e3 e4 e5 e6 cc hvs
      go_wp2_with (at_builtin; refine wpList_append_own _ rfl (.tmp 22) (.tmp 29) 42 rfl (w.heap.size + 1) 45 i0 (.agg #[.int .i64 0, .bool false, .int .i64 0, .string ⟨#[]⟩, .slice none 0 0, .slice none 0 0]) 6 88 Tryz.underlying42 HI.out HZ0.out HZ1.out HZ2.out rfl (by decide) u3 k ns rfl (hown.out.alloc _) ⟨wr.heap.size, 0, none⟩ 1 1 (cells6 k' b' n' t' la' l'.length lc' oa' o'.length oc') rfl rfl ?c1 ?c2 ?c3 ?c4 ?c5 ?_)
      case c1 =>
        intro j u hj
        rw [Go.WideShapes.add_plain]
        rw [Lib.cell_of_heap (heap_alloc_new wr (.cells #[.int .i64 k', .bool b', .int .i64 n', .string t', .slice la' l'.length lc', .slice oa' o'.length oc'] 45)), Nat.zero_add]
        simpa using hj
      case c2 => exact hno.out
      case c3 => unfold maxLen; omega
      case c4 => omega
      case c5 => simp; omega
      intro v' w2 hown' hgrow _
      have ho' := Lib.hid hown'
      have hbA := Lib.hid ((hbw.out.alloc (by omega) (.cells #[.int .i64 k', .bool b', .int .i64 n', .string t', .slice la' l'.length lc', .slice oa' o'.length oc'] 45)).grown hgrow (by simp; omega) (fun q hq => by have := (hown.out.lt q hq).1; omega))
      have hbx2 : Hid (w2.heap[w.heap.size]? = some (.cells #[.int .i64 6, .bool b, .int .i64 n, .string t, .slice la l.length lc, .slice (some ⟨g, off, none⟩) o.length oc] 45 (0, 0))) := by
        show _ = _
        rw [hgrow.block _ (by simp; omega) (fun e => by have := (hown.out.lt _ e.symm).1; omega), Lib.alloc_old wr _ _ hz]
        exact hbx.out
      clear hown' hgrow hown hbw hbx b5 c1 c2 c3 c4 c5 c6 hno
      go_wp2
      go_roundw
      case rel => exact ⟨k + 1, _, by go_num, by omega, ho', Hrow, hbA, hbx2⟩
      case measure => simp only [intOf]; omega
    · obtain rfl : k = o.length := by omega
      have hr' := hrow.out
      rw [List.take_length] at hr'
      obtain ⟨la', lc', rfl, hsl⟩ := own_slice hown.out
      have Hsl := Lib.hid hsl
      have HR := Lib.hid hr'
      have Hlm : Hid (o.length = (o.map (·.2)).length) := by show _ = _; simp
      clear hr' hrow hsl hown hl
      go_wp2
      go_ret
      refine ⟨⟨la', lc', by rw [Hw.out, ← Hlm.out]; rfl, ?_⟩, hbw.out⟩
      rw [Hw.out]
      rcases Hsl.out with h | ⟨g', rfl, _, hg', hc'⟩
      · exact .inl (by rw [List.length_eq_zero_iff.1 h]; rfl)
      · exact .inr ⟨g', 0, rfl, hg', HR.out.holds (fun v cs h => HoldsV.more hbw.out.size _ _ (h.below hbw.out)) hc'⟩

end Go.Proofs.YtkoliaodkojghaaGreatDoor

/- An argument that reads as a value of package api: the tree that it is. No condition. -/
namespace Go.Proofs.YtkoliaodkojghaaGreatDoor
open Go.RowKit Go.ChangeShapes Go.WideShapes

theorem cellsV : Tryz.prog.cellsOf 45 = 6 := by kernel_rfl
theorem cellsM : Tryz.prog.cellsOf 72 = 7 := by kernel_rfl
theorem cells_string : Tryz.prog.cellsOf 9 = 1 := by kernel_rfl
theorem cells_kind : Tryz.prog.cellsOf 41 = 1 := by kernel_rfl
theorem cells_bool : Tryz.prog.cellsOf 4 = 1 := by kernel_rfl
theorem cells_i64 : Tryz.prog.cellsOf 2 = 1 := by kernel_rfl
theorem cells_lv : Tryz.prog.cellsOf 42 = 1 := by kernel_rfl
theorem cells_lm : Tryz.prog.cellsOf 43 = 1 := by kernel_rfl

section
variable {H : Type} {enc : TypeId × Value → H} {w : World} {sp : Nat → Bool} {held : Bool}

/-- What a reading at type Value gives. -/
def ReadsV (enc : TypeId × Value → H) (w : World) (sp : Nat → Bool) (held : Bool) (n : Nat) : Prop := ∀ (cs : List Value) (x : DataW H × List MemPlace), DataW.trod enc Tryz.prog w 0 sp held n 45 cs = some x →
    ∃ v, HoldsV w w.heap.size v cs ∧ inV v ∧ v.bulk ≤ Rows.uptoBulk x.1

theorem six_cells {cs : List Value} (h : cs.length = 6) : ∃ c0 c1 c2 c3 c4 c5, cs = [c0, c1, c2, c3, c4, c5] := by
  match cs, h with
  | [c0, c1, c2, c3, c4, c5], _ => exact ⟨_, _, _, _, _, _, rfl⟩
theorem seven_cells {α : Type} {cs : List α} (h : cs.length = 7) : ∃ c0 c1 c2 c3 c4 c5 c6, cs = [c0, c1, c2, c3, c4, c5, c6] := by
  match cs, h with
  | [c0, c1, c2, c3, c4, c5, c6], _ => exact ⟨_, _, _, _, _, _, _, rfl⟩

theorem cells_at {g off n : Nat} {cs : List Value} (hn : 0 < n) (h : w.cells? 0 ⟨g, off, none⟩ n = some cs) : g < w.heap.size ∧ ∀ j u, cs[j]? = some u → w.cell? ⟨g, off + j, none⟩ = some u := by
  obtain ⟨_, hlen, hc⟩ := World.cells?_some h
  have hj : ∀ j u, cs[j]? = some u → w.cell? ⟨g, off + j, none⟩ = some u := by
    intro j u hu
    have hjn : j < n := by
      have := (List.getElem?_eq_some_iff.1 hu).1
      omega
    have := hc j hjn
    rw [add_plain] at this
    rw [← hu]
    exact this
  refine ⟨?_, hj⟩
  have h0 : ∃ u, cs[0]? = some u := ⟨cs[0]'(by omega), List.getElem?_eq_getElem (by omega)⟩
  obtain ⟨u, hu⟩ := h0
  exact World.block_lt_of_cell? _ _ (hj 0 u hu)

theorem open_elems {n : Nat} (IH : ReadsV enc w sp held n) : ∀ (elems : List (DataW H × List MemPlace)) (g off : Nat),
    (∀ i, i < elems.length → (w.cells? 0 ⟨g, off + i * 6, none⟩ 6).bind (DataW.trod enc Tryz.prog w 0 sp held n 45) = elems[i]?) →
    ∃ l, l.length = elems.length ∧ HoldsL w w.heap.size l g off ∧ inL l ∧ bulkL l ≤ Rows.uptoBulkAll (elems.map (·.1))
  | [], _, _, _ => ⟨[], rfl, by simp [HoldsL], by simp [inL], by simp [bulkL]⟩
  | y :: r, g, off, h => by
    obtain ⟨l, h1, h2, h3, h4⟩ := open_elems IH r g (off + 6) (fun i hi => by
      have := h (i + 1) (by simpa using hi)
      rw [show off + (i + 1) * 6 = off + 6 + i * 6 from by omega] at this
      simpa using this)
    have h0 := h 0 (by simp)
    simp only [Nat.zero_mul, Nat.add_zero, List.getElem?_cons_zero] at h0
    obtain ⟨cs, hcs, hx⟩ := Option.bind_eq_some_iff.1 h0
    obtain ⟨v, v1, v2, v3⟩ := IH cs y hx
    obtain ⟨_, hc⟩ := cells_at (by omega) hcs
    refine ⟨v :: l, by simp [h1], ?_, ?_, ?_⟩
    · simp only [HoldsL]
      exact ⟨⟨cs, v1, hc⟩, h2⟩
    · simp only [inL]
      exact ⟨v2, h3⟩
    · simp only [bulkL, List.map_cons, Rows.uptoBulkAll]
      omega

theorem open_members {n : Nat} (IH : ∀ m, m < n → ReadsV enc w sp held m) : ∀ (elems : List (DataW H × List MemPlace)) (g off : Nat),
    (∀ i, i < elems.length → (w.cells? 0 ⟨g, off + i * 7, none⟩ 7).bind (DataW.trod enc Tryz.prog w 0 sp held n 72) = elems[i]?) →
    ∃ l, l.length = elems.length ∧ HoldsO w w.heap.size l g off ∧ inO l ∧ bulkO l ≤ Rows.uptoBulkAll (elems.map (·.1))
  | [], _, _, _ => ⟨[], rfl, by simp [HoldsO], by simp [inO], by simp [bulkO]⟩
  | y :: r, g, off, h => by
    obtain ⟨l, h1, h2, h3, h4⟩ := open_members IH r g (off + 7) (fun i hi => by
      have := h (i + 1) (by simpa using hi)
      rw [show off + (i + 1) * 7 = off + 7 + i * 7 from by omega] at this
      simpa using this)
    have h0 := h 0 (by simp)
    simp only [Nat.zero_mul, Nat.add_zero, List.getElem?_cons_zero] at h0
    obtain ⟨cs, hcs, hx⟩ := Option.bind_eq_some_iff.1 h0
    obtain ⟨_, hc⟩ := cells_at (by omega) hcs
    obtain ⟨xs, m, rfl, rfl, hl, hlen, hf⟩ := DataW.trod_struct Tryz.underlying72 hx
    have hl7 : cs.length = 7 := hl.trans cellsM
    obtain ⟨c0, c1, c2, c3, c4, c5, c6, rfl⟩ := seven_cells hl7
    have f0 : DataW.trod enc Tryz.prog w 0 sp held m 9 (([c0, c1, c2, c3, c4, c5, c6].drop 0).take (Tryz.prog.cellsOf 9)) = xs[0]? := hf 0 _ rfl
    have f1 : DataW.trod enc Tryz.prog w 0 sp held m 45 (([c0, c1, c2, c3, c4, c5, c6].drop 1).take (Tryz.prog.cellsOf 45)) = xs[1]? := hf 1 _ rfl
    simp only [cells_string, cellsV, List.drop_zero, List.drop_succ_cons, List.take_succ_cons, List.take_zero] at f0 f1
    match xs, hlen with
    | [y0, y1], _ =>
      simp only [List.getElem?_cons_zero, List.getElem?_cons_succ] at f0 f1
      obtain ⟨key, hk, rfl, _⟩ := DataW.trod_string Tryz.underlying9 f0
      obtain ⟨v, v1, v2, v3⟩ := IH m (by omega) _ _ f1
      simp only [List.cons.injEq, and_true] at hk
      subst hk
      refine ⟨(key, v) :: l, by simp [h1], ?_, ?_, ?_⟩
      · simp only [HoldsO, HoldsP]
        refine ⟨⟨hc 0 _ rfl, _, v1, fun j u hu => ?_⟩, h2⟩
        rw [Nat.add_assoc, Nat.add_comm 1 j]
        exact hc (j + 1) u hu
      · simp only [inO, inP]
        exact ⟨v2, h3⟩
      · have hks : key.data.toList.length = key.size := (by rw [Array.length_toList]; rfl)
        simp only [bulkO, bulkP, List.map_cons, List.map_nil, Rows.uptoBulkAll, Rows.uptoBulk]
        omega

theorem open_listcell {n : Nat} {c4 : Value} {y4 : DataW H × List MemPlace} (IH : ∀ m, m < n → ReadsV enc w sp held m) (f4 : DataW.trod enc Tryz.prog w 0 sp held n 42 [c4] = some y4) :
    ∃ l la lc, c4 = .slice la (l : List Val).length lc ∧ (l = [] ∨ ∃ g off, la = some ⟨g, off, none⟩ ∧ g < w.heap.size ∧ HoldsL w w.heap.size l g off) ∧ inL l ∧ 1 + bulkL l ≤ Rows.uptoBulk y4.1 := by
  rcases DataW.trod_slice Tryz.underlying42 f4 with ⟨e, rfl⟩ | ⟨a, len, cap, elems, rest, q, hn, e, rfl, _, _, _, hlen', hel, _, _⟩
  · simp only [List.cons.injEq, and_true] at e
    exact ⟨[], none, 0, e, .inl rfl, by simp [inL], by simp [bulkL, Rows.uptoBulk]⟩
  · simp only [List.cons.injEq, and_true] at e
    subst e
    by_cases h0 : len = 0
    · subst h0
      exact ⟨[], some a, cap, rfl, .inl rfl, by simp [inL], by simp [bulkL, Rows.uptoBulk]⟩
    · obtain ⟨g, off, spot⟩ := a
      rw [cellsV] at hel
      have hz := hel 0 (by omega)
      rw [List.getElem?_eq_getElem (by omega)] at hz
      obtain ⟨cs', hcs', _⟩ := Option.bind_eq_some_iff.1 hz
      obtain ⟨_, hcl, hcc⟩ := World.cells?_some hcs'
      have hz0 := hcc 0 (by omega)
      rw [List.getElem?_eq_getElem (by omega)] at hz0
      have hspot : spot = none := by simpa [Addr.add] using World.cell?_spot hz0
      subst hspot
      simp only [add_plain] at hel hz0
      obtain ⟨l, h1, h2, h3, h4⟩ := open_elems (IH q (by omega)) elems g off (fun i hi => hel i (by omega))
      refine ⟨l, _, cap, by rw [h1, hlen'], .inr ⟨g, off, rfl, World.block_lt_of_cell? _ _ hz0, h2⟩, h3, ?_⟩
      simp only [Rows.uptoBulk]
      omega

theorem open_membcell {n : Nat} {c5 : Value} {y5 : DataW H × List MemPlace} (IH : ∀ m, m < n → ReadsV enc w sp held m) (f5 : DataW.trod enc Tryz.prog w 0 sp held n 43 [c5] = some y5) :
    ∃ l la lc, c5 = .slice la (l : List (ByteArray × Val)).length lc ∧ (l = [] ∨ ∃ g off, la = some ⟨g, off, none⟩ ∧ g < w.heap.size ∧ HoldsO w w.heap.size l g off) ∧ inO l ∧ 1 + bulkO l ≤ Rows.uptoBulk y5.1 := by
  rcases DataW.trod_slice Tryz.underlying43 f5 with ⟨e, rfl⟩ | ⟨a, len, cap, elems, rest, q, hn, e, rfl, _, _, _, hlen', hel, _, _⟩
  · simp only [List.cons.injEq, and_true] at e
    exact ⟨[], none, 0, e, .inl rfl, by simp [inO], by simp [bulkO, Rows.uptoBulk]⟩
  · simp only [List.cons.injEq, and_true] at e
    subst e
    by_cases h0 : len = 0
    · subst h0
      exact ⟨[], some a, cap, rfl, .inl rfl, by simp [inO], by simp [bulkO, Rows.uptoBulk]⟩
    · obtain ⟨g, off, spot⟩ := a
      rw [cellsM] at hel
      have hz := hel 0 (by omega)
      rw [List.getElem?_eq_getElem (by omega)] at hz
      obtain ⟨cs', hcs', _⟩ := Option.bind_eq_some_iff.1 hz
      obtain ⟨_, hcl, hcc⟩ := World.cells?_some hcs'
      have hz0 := hcc 0 (by omega)
      rw [List.getElem?_eq_getElem (by omega)] at hz0
      have hspot : spot = none := by simpa [Addr.add] using World.cell?_spot hz0
      subst hspot
      simp only [add_plain] at hel hz0
      obtain ⟨l, h1, h2, h3, h4⟩ := open_members (n := q) (fun m hm => IH m (by omega)) elems g off (fun i hi => hel i (by omega))
      refine ⟨l, _, cap, by rw [h1, hlen'], .inr ⟨g, off, rfl, World.block_lt_of_cell? _ _ hz0, h2⟩, h3, ?_⟩
      simp only [Rows.uptoBulk]
      omega

theorem open_value : ∀ n, ReadsV enc w sp held n := by
  intro n
  induction n using Nat.strongRecOn with
  | _ n IH =>
    intro cs x hx
    obtain ⟨xs, m, rfl, rfl, hl, hlen, hf⟩ := DataW.trod_struct Tryz.underlying45 hx
    have hl6 : cs.length = 6 := hl.trans cellsV
    obtain ⟨c0, c1, c2, c3, c4, c5, rfl⟩ := six_cells hl6
    have f0 : DataW.trod enc Tryz.prog w 0 sp held m 41 (([c0, c1, c2, c3, c4, c5].drop 0).take (Tryz.prog.cellsOf 41)) = xs[0]? := hf 0 _ rfl
    have f1 : DataW.trod enc Tryz.prog w 0 sp held m 4 (([c0, c1, c2, c3, c4, c5].drop 1).take (Tryz.prog.cellsOf 4)) = xs[1]? := hf 1 _ rfl
    have f2 : DataW.trod enc Tryz.prog w 0 sp held m 2 (([c0, c1, c2, c3, c4, c5].drop 2).take (Tryz.prog.cellsOf 2)) = xs[2]? := hf 2 _ rfl
    have f3 : DataW.trod enc Tryz.prog w 0 sp held m 9 (([c0, c1, c2, c3, c4, c5].drop 3).take (Tryz.prog.cellsOf 9)) = xs[3]? := hf 3 _ rfl
    have f4 : DataW.trod enc Tryz.prog w 0 sp held m 42 (([c0, c1, c2, c3, c4, c5].drop 4).take (Tryz.prog.cellsOf 42)) = xs[4]? := hf 4 _ rfl
    have f5 : DataW.trod enc Tryz.prog w 0 sp held m 43 (([c0, c1, c2, c3, c4, c5].drop 5).take (Tryz.prog.cellsOf 43)) = xs[5]? := hf 5 _ rfl
    simp only [cells_kind, cells_bool, cells_i64, cells_string, cells_lv, cells_lm, List.drop_zero, List.drop_succ_cons, List.take_succ_cons, List.take_zero] at f0 f1 f2 f3 f4 f5
    match xs, hlen with
    | [y0, y1, y2, y3, y4, y5], _ =>
      simp only [List.getElem?_cons_zero, List.getElem?_cons_succ] at f0 f1 f2 f3 f4 f5
      obtain ⟨k, e0, rfl, _⟩ := DataW.trod_int Tryz.underlying41 f0
      obtain ⟨b, e1, rfl⟩ := DataW.trod_bool Tryz.underlying4 f1
      obtain ⟨i, e2, rfl, hwf⟩ := DataW.trod_int Tryz.underlying2 f2
      obtain ⟨t, e3, rfl, _⟩ := DataW.trod_string Tryz.underlying9 f3
      simp only [List.cons.injEq, and_true] at e0 e1 e2 e3
      subst e0 e1 e2 e3
      have hin : -9223372036854775808 ≤ i ∧ i ≤ 9223372036854775807 := by
        have h1 : IntKind.i64.min = -9223372036854775808 := by decide
        have h2 : IntKind.i64.max = 9223372036854775807 := by decide
        simp only [Lit.wf, h1, h2, Bool.and_eq_true, decide_eq_true_eq] at hwf
        exact hwf
      have hts : t.data.toList.length = t.size := (by rw [Array.length_toList]; rfl)
      have hL := open_listcell (fun q hq => IH q (by omega)) f4
      have hO := open_membcell (fun q hq => IH q (by omega)) f5
      obtain ⟨l, la, lc, rfl, l1, l2, l3⟩ := hL
      obtain ⟨o, oa, oc, rfl, o1, o2, o3⟩ := hO
      refine ⟨.mk k b i t l o, ?_, ?_, ?_⟩
      · simp only [HoldsV]
        exact ⟨la, lc, oa, oc, rfl, l1, o1⟩
      · simp only [inV]
        exact ⟨hin, l2, o2⟩
      · simp only [Val.bulk, List.map_cons, List.map_nil, Rows.uptoBulkAll, Rows.uptoBulk]
        omega

set_option maxRecDepth 100000 in
theorem open_arg_value {base : Nat} {v0 : Value} {d : DataW H} {ps : List MemPlace} (hv : Value.okWide Tryz.prog w .any base 45 v0) (h : DataW.Trod enc Tryz.prog w 0 sp held 45 v0 d ps) :
    ∃ v cs, v0 = .agg (cs : List Value).toArray ∧ HoldsV w w.heap.size v cs ∧ inV v ∧ v.bulk ≤ Rows.uptoBulk d := by
  obtain ⟨cs, rfl, _⟩ := okWide_struct Tryz.underlying45 hv
  obtain ⟨fuel, hf⟩ := h
  obtain ⟨v, h1, h2, h3⟩ := open_value fuel _ _ hf
  exact ⟨v, cs.toList, by simp, h1, h2, h3⟩
set_option maxRecDepth 100000 in
theorem open_arg_list {base : Nat} {v0 : Value} {d : DataW H} {ps : List MemPlace} (hv : Value.okWide Tryz.prog w .any base 42 v0) (h : DataW.Trod enc Tryz.prog w 0 sp held 42 v0 d ps) :
    ∃ l la lc, v0 = .slice la (l : List Val).length lc ∧ (l = [] ∨ ∃ g off, la = some ⟨g, off, none⟩ ∧ g < w.heap.size ∧ HoldsL w w.heap.size l g off) ∧ inL l ∧ 1 + bulkL l ≤ Rows.uptoBulk d := by
  obtain ⟨a, len, cap, rfl⟩ := okWide_slice Tryz.underlying42 hv
  obtain ⟨fuel, hf⟩ := h
  exact open_listcell (fun q _ => open_value q) hf
set_option maxRecDepth 100000 in
theorem open_arg_members {base : Nat} {v0 : Value} {d : DataW H} {ps : List MemPlace} (hv : Value.okWide Tryz.prog w .any base 43 v0) (h : DataW.Trod enc Tryz.prog w 0 sp held 43 v0 d ps) :
    ∃ l la lc, v0 = .slice la (l : List (ByteArray × Val)).length lc ∧ (l = [] ∨ ∃ g off, la = some ⟨g, off, none⟩ ∧ g < w.heap.size ∧ HoldsO w w.heap.size l g off) ∧ inO l ∧ 1 + bulkO l ≤ Rows.uptoBulk d := by
  obtain ⟨a, len, cap, rfl⟩ := okWide_slice Tryz.underlying43 hv
  obtain ⟨fuel, hf⟩ := h
  exact open_membcell (fun q _ => open_value q) hf

end

theorem laid_out : laidOutB Tryz.prog = true := by kernel_rfl
/-- An argument reads as it did, in a world whose old blocks are as they were. -/
theorem stays {H : Type} {enc : TypeId × Value → H} {W W' : World} {t : TypeId} {v : Value} {d : DataW H} {ps : List MemPlace} {sp' : Nat → Bool} (hr : Tryz.prog.readableRec t = true) (ht : t < Tryz.prog.types.size)
    (h : DataW.Trod enc Tryz.prog W 0 (fun _ => true) true t v d ps) (hlt : ∀ p ∈ ps, p.block < W.heap.size) (hb : Below W.heap.size W W') (hs : ∀ p ∈ ps, sp' p.block = true) : DataW.Trod enc Tryz.prog W' 0 sp' true t v d ps := by
  refine Go.WideElems.Trod_stays laid_out hr ht h (fun p hp => ?_) hs
  have hl := hlt p hp
  cases p with
  | cell b off => exact World.cell?_of_block (w := W) (w' := W') (a := ⟨b, off, none⟩) (hb.block b hl)
  | map b => exact hb.block b hl
end Go.Proofs.YtkoliaodkojghaaGreatDoor
