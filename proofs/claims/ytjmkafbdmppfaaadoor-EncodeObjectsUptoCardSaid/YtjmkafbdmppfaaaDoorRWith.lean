/- commonplaceref02.Within: the values at once within one. Condition: a bulk of at most 10^8. -/
import Derived.Test.YtjmkafbdmppfaaaDoorProg
import Derived.Test.YtjmkafbdmppfaaaDoorRow
import Derived.Test.YtjmkafbdmppfaaaDoorMay
import Derived.Maps.AppendAt
namespace Go.Proofs.YtjmkafbdmppfaaaDoor
open Go.RowKit

theorem info_val : (Tryd.prog.info? 26).map (fun i => (i.zero, i.size, i.bytes)) = some (some (.agg #[.int .i64 0, .bool false, .int .i64 0, .string ⟨#[]⟩, .slice none 0 0, .slice none 0 0]), 6, 88) := by kernel_rfl

/-- What an owned row of values is, as a slice. -/
theorem own_slice {w : World} {B m : Nat} {v : Value} {ns : List Value} (h : w.ownsRow B 26 6 v m ns) :
    ∃ la lc, v = .slice la m lc ∧ (m = 0 ∨ ∃ g, la = some ⟨g, 0, none⟩ ∧ B ≤ g ∧ g < w.heap.size ∧ ∀ j u, ns[j]? = some u → w.cell? ⟨g, 0 + j, none⟩ = some u) := by
  rcases h.2 with ⟨rfl, hz⟩ | ⟨g, cap, cur, rfl, hbg, hg, _, _, _, _⟩
  · subst hz
    exact ⟨none, 0, rfl, .inl rfl⟩
  · refine ⟨_, cap, rfl, .inr ⟨g, rfl, hbg, (Array.getElem?_eq_some_iff.1 hg).1, fun j u hu => ?_⟩⟩
    have := h.cells (g := g) rfl j u hu
    rw [Go.WideShapes.add_plain] at this
    exact this

/-- What Within hands back. -/
def WithinPost (w : World) (v : Val) (e : Ending) (w' : World) : Prop :=
  (∃ la lc, e = .returned (.slice la (within v).length lc) ∧ (within v = [] ∨ ∃ g off, la = some ⟨g, off, none⟩ ∧ g < w'.heap.size ∧ HoldsL w' w'.heap.size (within v) g off)) ∧ Below w.heap.size w w'

set_option maxRecDepth 100000 in
set_option maxHeartbeats 2000000 in
theorem within_list (b : Bool) (n : Int) (t : ByteArray) (l : List Val) (o : List (ByteArray × Val)) (la oa : Option Addr) (oc lc : Nat) (w : World) (hl : l = [] ∨ ∃ g off, la = some ⟨g, off, none⟩ ∧ g < w.heap.size ∧ HoldsL w w.heap.size l g off)
    (hb : bulkL l ≤ 100000000) :
    Calls Tryd.prog 70 #[.agg #[.int .i64 5, .bool b, .int .i64 n, .string t, .slice la l.length lc, .slice oa o.length oc]] w (WithinPost w (.mk 5 b n t l o)) := by
  have hln := bulkL_len l
  have hw : within (.mk 5 b n t l o) = l := by simp [within]
  by_cases h0 : l = []
  · subst h0
    clear hl
    go_enter Tryd.func70, Tryd.ntmps70
    have Hw := Lib.hid hw
    clear hw
    cases la
    · go_wp2
      go_ret
      exact ⟨⟨none, 0, by rw [Hw.out]; rfl, .inl Hw.out⟩, (Below.refl _ _).alloc (Nat.le_refl _) _⟩
    · go_wp2
      go_ret
      exact ⟨⟨none, 0, by rw [Hw.out]; rfl, .inl Hw.out⟩, (Below.refl _ _).alloc (Nat.le_refl _) _⟩
  · obtain ⟨g, off, rfl, hg, hL⟩ := hl.resolve_left h0
    obtain ⟨i0, hi, hz0, hz1, hz2⟩ := info_parts info_val
    obtain ⟨ns, hrow, hcells⟩ := HoldsL.row hL
    obtain ⟨hnl, hno⟩ := hrow.len
    have HI := Lib.hid hi
    have HZ0 := Lib.hid hz0
    have HZ1 := Lib.hid hz1
    have HZ2 := Lib.hid hz2
    have Hrow := Lib.hid hrow
    have Hcells := Lib.hid hcells
    have Hw := Lib.hid hw
    have HN := Lib.hid hnl
    have HO := Lib.hid hno
    clear hi hz0 hz1 hz2 hrow hcells hw hnl hno hl hL
    obtain ⟨w1, hw1⟩ : ∃ w1, w.alloc (.cells #[.int .i64 5, .bool b, .int .i64 n, .string t, .slice (some ⟨g, off, none⟩) l.length lc, .slice oa o.length oc] 26) = w1 := ⟨_, rfl⟩
    have hb1 : Below w.heap.size w w1 := hw1 ▸ (Below.refl _ _).alloc (Nat.le_refl _) _
    have hbx1 : w1.heap[w.heap.size]? = some (.cells #[.int .i64 5, .bool b, .int .i64 n, .string t, .slice (some ⟨g, off, none⟩) l.length lc, .slice oa o.length oc] 26 (0, 0)) := by rw [← hw1]; exact heap_alloc_new _ _
    have hz1 : w1.heap.size = w.heap.size + 1 := by rw [← hw1]; simp
    have HB1 := Lib.hid hb1
    have HX1 := Lib.hid hbx1
    have HS1 := Lib.hid hz1
    have Hown : Hid (w1.ownsRow (w.heap.size + 1) 26 6 (.slice none 0 0) 0 []) := World.ownsRow_nil _ _ _ _
    clear hb1 hbx1 hz1
    subst hw1
    go_enter Tryd.func70, Tryd.ntmps70
    go_wp2_with (at_builtin; refine wpList_append_own _ rfl (.tmp 8) (.tmp 10) 23 rfl (w.heap.size + 1) 26 i0 (.agg #[.int .i64 0, .bool false, .int .i64 0, .string ⟨#[]⟩, .slice none 0 0, .slice none 0 0]) 6 88 Tryd.underlying23 HI.out HZ0.out HZ1.out HZ2.out rfl (by decide) (.slice none 0 0) 0 [] rfl Hown.out ⟨g, off, none⟩ l.length lc ns rfl HN.out ?c1 ?c2 ?c3 ?c4 ?c5 ?_)
    case c1 =>
      intro j u hj
      rw [Go.WideShapes.add_plain]
      exact (HB1.out.cell (p := ⟨g, off + j, none⟩) hg).trans (Hcells.out j u hj)
    case c2 => exact HO.out
    case c3 => unfold maxLen; omega
    case c4 => omega
    case c5 => simp
    intro v' w2 hown' hgrow _
    obtain ⟨la', lc', rfl, hsl⟩ := own_slice hown'
    have hbA := ((HB1.out).grown hgrow (by rw [HS1.out]; omega) (fun k hk => by simp [Value.ownBlock] at hk))
    have hbox2 : w2.heap[w.heap.size]? = some (.cells #[.int .i64 5, .bool b, .int .i64 n, .string t, .slice (some ⟨g, off, none⟩) l.length lc, .slice oa o.length oc] 26 (0, 0)) := (hgrow.block _ (by rw [HS1.out]; omega) (by simp [Value.ownBlock])).trans HX1.out
    have d0 : w2.cell? ⟨w.heap.size, 0, none⟩ = some (.int .i64 5) := by rw [Lib.cell_of_heap hbox2]; rfl
    have Hsl := Lib.hid hsl
    have HbA := Lib.hid hbA
    clear hown' hgrow hsl hbA hbox2
    go_wp2
    go_ret
    refine ⟨⟨la', lc', by rw [Hw.out]; rfl, ?_⟩, HbA.out⟩
    rw [Hw.out]
    refine .inr ?_
    rcases Hsl.out with h | ⟨g', rfl, _, hg', hc'⟩
    · exact absurd (List.length_eq_zero_iff.1 h) h0
    · exact ⟨g', 0, rfl, hg', Hrow.out.holds (fun v cs h => HoldsV.more HbA.out.size _ _ (h.below HbA.out)) hc'⟩

set_option maxRecDepth 100000 in
set_option maxHeartbeats 2000000 in
theorem within_obj (b : Bool) (n : Int) (t : ByteArray) (l : List Val) (o : List (ByteArray × Val)) (la oa : Option Addr) (oc lc : Nat) (w : World) (hl : o = [] ∨ ∃ g off, oa = some ⟨g, off, none⟩ ∧ g < w.heap.size ∧ HoldsO w w.heap.size o g off)
    (hb : bulkO o ≤ 100000000) :
    Calls Tryd.prog 70 #[.agg #[.int .i64 6, .bool b, .int .i64 n, .string t, .slice la l.length lc, .slice oa o.length oc]] w (WithinPost w (.mk 6 b n t l o)) := by
  have hln := bulkO_len o
  have hw : within (.mk 6 b n t l o) = o.map (·.2) := by simp [within]
  obtain ⟨i0, hi, hz0, hz1, hz2⟩ := info_parts info_val
  have HI := Lib.hid hi
  have HZ0 := Lib.hid hz0
  have HZ1 := Lib.hid hz1
  have HZ2 := Lib.hid hz2
  have Hw := Lib.hid hw
  clear hi hz0 hz1 hz2 hw
  obtain ⟨w1, hw1⟩ : ∃ w1, w.alloc (.cells #[.int .i64 6, .bool b, .int .i64 n, .string t, .slice la l.length lc, .slice oa o.length oc] 26) = w1 := ⟨_, rfl⟩
  have hb1 : Below w.heap.size w w1 := hw1 ▸ (Below.refl _ _).alloc (Nat.le_refl _) _
  have hbx1 : w1.heap[w.heap.size]? = some (.cells #[.int .i64 6, .bool b, .int .i64 n, .string t, .slice la l.length lc, .slice oa o.length oc] 26 (0, 0)) := by rw [← hw1]; exact heap_alloc_new _ _
  have HB1 := Lib.hid hb1
  have HX1 := Lib.hid hbx1
  have Hown : Hid (w1.ownsRow (w.heap.size + 1) 26 6 (.slice none 0 0) 0 []) := World.ownsRow_nil _ _ _ _
  have HR0 : Hid (RowL w w.heap.size ((o.take 0).map (·.2)) []) := rfl
  clear hb1 hbx1
  subst hw1
  go_enter Tryd.func70, Tryd.ntmps70
  go_wp2_with (fail)
  go_loopw [3, 4] (fun v1 i wr => ∃ (k : Nat) (ns : List Value), i = .int .i64 k ∧ k ≤ o.length ∧ Hid (wr.ownsRow (w.heap.size + 1) 26 6 v1 k ns) ∧ Hid (RowL w w.heap.size ((o.take k).map (·.2)) ns) ∧ Hid (Below w.heap.size w wr) ∧
    Hid (wr.heap[w.heap.size]? = some (.cells #[.int .i64 6, .bool b, .int .i64 n, .string t, .slice la l.length lc, .slice oa o.length oc] 26 (0, 0)))) (fun _ i _ => o.length - (intOf i).toNat)
  case atStart => exact ⟨0, [], rfl, Nat.zero_le _, Hown, HR0, HB1, HX1⟩
  case round =>
    obtain ⟨k, ns, rfl, hk, hown, hrow, hbw, hbx⟩ := hrel
    clear Hown HR0 HB1 HX1
    have b5 : wr.cell? ⟨w.heap.size, 5, none⟩ = some (.slice oa o.length oc) := by rw [Lib.cell_of_heap hbx.out]; rfl
    have hz : w.heap.size < wr.heap.size := (Array.getElem?_eq_some_iff.1 hbx.out).1
    by_cases hlt : k < o.length
    · obtain ⟨g, off, rfl, hg, hL⟩ : ∃ g off, oa = some ⟨g, off, none⟩ ∧ g < w.heap.size ∧ HoldsO w w.heap.size o g off := by
        rcases hl with rfl | h
        · simp at hlt
        · exact h
      obtain ⟨⟨key, x⟩, hx⟩ : ∃ v, o[k]? = some v := ⟨_, List.getElem?_eq_getElem hlt⟩
      have htk : (o.take (k + 1)).map (·.2) = (o.take k).map (·.2) ++ [x] := by rw [List.take_add_one, hx]; simp
      obtain ⟨k', b', n', t', l', o'⟩ := x
      obtain ⟨la', lc', oa', oc', hvs, _, e1, e2, e3, e4, e5, e6⟩ := hL.seven hx
      have cc := fun j (u : Value) (h : w.cell? ⟨g, j, none⟩ = some u) => (hbw.out.cell (p := ⟨g, j, none⟩) hg).trans h
      have c1 := cc _ _ e1
      have c2 := cc _ _ e2
      have c3 := cc _ _ e3
      have c4 := cc _ _ e4
      have c5 := cc _ _ e5
      have c6 := cc _ _ e6
      have hrow' := hrow.out.snoc hvs
      rw [← htk] at hrow'
      have Hrow := Lib.hid hrow'
      have hno := Lib.hid hvs.len.2
      clear hrow' hrow htk hx hL hg e1 e2 e3 e4 e5 e6 cc hvs
      go_wp2_with (at_builtin; refine wpList_append_own _ rfl (.tmp 22) (.tmp 29) 23 rfl (w.heap.size + 1) 26 i0 (.agg #[.int .i64 0, .bool false, .int .i64 0, .string ⟨#[]⟩, .slice none 0 0, .slice none 0 0]) 6 88 Tryd.underlying23 HI.out HZ0.out HZ1.out HZ2.out rfl (by decide) u3 k ns rfl (hown.out.alloc _) ⟨wr.heap.size, 0, none⟩ 1 1 (cells6 k' b' n' t' la' l'.length lc' oa' o'.length oc') rfl rfl ?c1 ?c2 ?c3 ?c4 ?c5 ?_)
      case c1 =>
        intro j u hj
        rw [Go.WideShapes.add_plain]
        rw [Lib.cell_of_heap (heap_alloc_new wr (.cells #[.int .i64 k', .bool b', .int .i64 n', .string t', .slice la' l'.length lc', .slice oa' o'.length oc'] 26)), Nat.zero_add]
        simpa using hj
      case c2 => exact hno.out
      case c3 => unfold maxLen; omega
      case c4 => omega
      case c5 => simp; omega
      intro v' w2 hown' hgrow _
      have ho' := Lib.hid hown'
      have hbA := Lib.hid ((hbw.out.alloc (by omega) (.cells #[.int .i64 k', .bool b', .int .i64 n', .string t', .slice la' l'.length lc', .slice oa' o'.length oc'] 26)).grown hgrow (by simp; omega) (fun q hq => by have := (hown.out.lt q hq).1; omega))
      have hbx2 : Hid (w2.heap[w.heap.size]? = some (.cells #[.int .i64 6, .bool b, .int .i64 n, .string t, .slice la l.length lc, .slice (some ⟨g, off, none⟩) o.length oc] 26 (0, 0))) := by
        show _ = _
        rw [hgrow.block _ (by simp; omega) (fun e => by have := (hown.out.lt _ e.symm).1; omega), Lib.alloc_old wr _ _ hz]
        exact hbx.out
      clear hown' hgrow hown hbw hbx b5 c1 c2 c3 c4 c5 c6 hno
      go_wp2
      go_roundw
      case rel => exact ⟨k + 1, _, by go_num, by omega, ho', Hrow, hbA, hbx2⟩
      case measure => simp only [intOf]; omega
    · obtain rfl : k = o.length := by omega
      have hr' := hrow.out
      rw [List.take_length] at hr'
      obtain ⟨la', lc', rfl, hsl⟩ := own_slice hown.out
      have Hsl := Lib.hid hsl
      have HR := Lib.hid hr'
      have Hlm : Hid (o.length = (o.map (·.2)).length) := by show _ = _; simp
      clear hr' hrow hsl hown hl
      go_wp2
      go_ret
      refine ⟨⟨la', lc', by rw [Hw.out, ← Hlm.out]; rfl, ?_⟩, hbw.out⟩
      rw [Hw.out]
      rcases Hsl.out with h | ⟨g', rfl, _, hg', hc'⟩
      · exact .inl (by rw [List.length_eq_zero_iff.1 h]; rfl)
      · exact .inr ⟨g', 0, rfl, hg', HR.out.holds (fun v cs h => HoldsV.more hbw.out.size _ _ (h.below hbw.out)) hc'⟩

end Go.Proofs.YtjmkafbdmppfaaaDoor
