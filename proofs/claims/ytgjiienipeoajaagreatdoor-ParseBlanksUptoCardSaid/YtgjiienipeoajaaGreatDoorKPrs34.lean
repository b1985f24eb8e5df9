/- Parts, joined: A value's own text is read as that value. Plain. No condition. commonplaceref02.Within: the values at once within one. Condition: a bulk of at most 10^8. Rows that a call builds by append: several data at once; a row's literal. Plain. No condition. parse.reader.number. Condition: a text of at most 10^8 bytes. What the rows' listed tables and errors give the walks. No condition. The last step of a law's row: the answer is true and the arguments read as they did. No condition. -/
import Derived.Test.YtgjiienipeoajaaGreatDoorProg
import Derived.Maps.AppendAt
import Derived.Lib.SmallJoins
import Derived.Below
import Derived.ChangeSame
import Derived.WideKeyArgs
import Derived.OpenShut
import Derived.Test.YtgjiienipeoajaaGreatDoorKPrs5
import Derived.Test.YtgjiienipeoajaaGreatDoorKPrs9
import Derived.Test.YtgjiienipeoajaaGreatDoorKPrs11
import Derived.Test.YtgjiienipeoajaaGreatDoorKPrs20
import Derived.Test.YtgjiienipeoajaaGreatDoorKPrs28
import Derived.Test.YtgjiienipeoajaaGreatDoorKPrs31
import Derived.Test.YtgjiienipeoajaaGreatDoorKPrs32
/- A value's own text is read as that value. Plain. No condition. -/
namespace Go.Proofs.YtgjiienipeoajaaGreatDoor
open Go.RowKit

theorem mayO_rise : ∀ {l : List (ByteArray × Val)} {last : Option ByteArray} {d : Int}, mayO l last d = 0 → ascO l ∧ ∀ q, last = some q → ∀ m ∈ l, ltB q m.1 = true
  | [], _, _, _ => ⟨List.Pairwise.nil, fun q _ m hm => by cases hm⟩
  | (k, v) :: r, last, d, h => by
    simp only [mayO] at h
    by_cases hP : mayP (k, v) last d = 0
    · rw [if_pos hP] at h
      obtain ⟨h1, h2⟩ := mayO_rise h
      refine ⟨List.pairwise_cons.2 ⟨fun m hm => h2 k rfl m hm, h1⟩, fun q hq m hm => ?_⟩
      subst hq
      have hqk : ltB q k = true := by
        simp only [mayP] at hP
        split at hP
        · split at hP
          · cases hP
          · rename_i hle
            unfold leB at hle
            simp only [Bool.or_eq_true, not_or] at hle
            rcases ltB_tri q k with t | t | t
            · exact t
            · subst t; exact absurd (by simp) hle.2
            · exact absurd t hle.1
        · cases hP
      rcases List.mem_cons.1 hm with rfl | hm
      · exact hqk
      · exact ltB_trans hqk (h2 k rfl m hm)
    · rw [if_neg hP] at h; exact absurd h hP
theorem textL_join : ∀ (l : List Val), textL l true = joinC (l.map textV)
  | [] => rfl
  | [v] => by simp [textL, joinC]
  | v :: u :: r => by
    have ih := textL_join (u :: r)
    simp only [textL, if_true, List.nil_append, List.map_cons, joinC] at ih ⊢
    rw [← ih]
    simp
theorem textO_join : ∀ (l : List (ByteArray × Val)), textO l true = joinC (l.map textP)
  | [] => rfl
  | [v] => by simp [textO, joinC]
  | v :: u :: r => by
    have ih := textO_join (u :: r)
    simp only [textO, if_true, List.nil_append, List.map_cons, joinC] at ih ⊢
    rw [← ih]
    simp
/-- A member without blanks. -/
def memOf (m : ByteArray × Val) : Mem := ⟨[], [], textV m.2, m.1, m.2⟩
theorem memOf_text (m : ByteArray × Val) : (memOf m).text = textP m := by
  obtain ⟨k, v⟩ := m
  simp [memOf, Mem.text, textP]
theorem memOf_pair (l : List (ByteArray × Val)) : (l.map memOf).map Mem.pair = l := by
  rw [List.map_map]
  conv => rhs; rw [← List.map_id l]
  exact List.map_congr_left fun x _ => rfl
theorem memOf_texts (l : List (ByteArray × Val)) : (l.map memOf).map Mem.text = l.map textP := by
  rw [List.map_map]
  exact List.map_congr_left fun x _ => memOf_text x
theorem sortO_self {l : List (ByteArray × Val)} (h : ascO l) : sortO l = l := by
  unfold sortO
  rw [objAll_sorted (List.Perm.refl l) h]; rfl
theorem blanks_nil : Blanks [] := fun c h => by cases h
theorem lst_back (l : List Val) (n : List Val) (h : n = l) : lstV n = lstV l := by rw [h]
theorem read_text : ∀ (v : Val) (d : Int), mayV v d = 0 → inV v → ReadsV (textV v) v d := by
  refine Val.ind ?_
  intro k b n t l o hl ho d h hi
  obtain ⟨h1, hd, hv, h4, h5⟩ := mayV_parts h
  obtain ⟨hk, ht, hln, hon⟩ := odd_parts h1
  obtain ⟨hb, hn⟩ := odd_bn h1
  simp only [inV] at hi
  have e1 : k ≠ 5 → l = [] := fun e => List.eq_nil_of_length_eq_zero (hln.resolve_left e)
  have e2 : k ≠ 6 → o = [] := fun e => List.eq_nil_of_length_eq_zero (hon.resolve_left e)
  have e3 : k ≠ 4 → t = emptyB := fun e => ht.resolve_left e
  have e4 : k ≠ 2 → b = false := fun e => hb.resolve_left e
  have e5 : k ≠ 3 → n = 0 := fun e => hn.resolve_left e
  rcases hk with rfl | rfl | rfl | rfl | rfl | rfl
  · rw [e1 (by decide), e2 (by decide), e3 (by decide), e4 (by decide), e5 (by decide)]
    have e : textV (.mk 1 false 0 emptyB [] []) = [110, 117, 108, 108] := by simp [textV]
    rw [e]
    exact read_null hd
  · rw [e1 (by decide), e2 (by decide), e3 (by decide), e5 (by decide)]
    cases b
    · exact read_false hd
    · exact read_true hd
  · rw [e1 (by decide), e2 (by decide), e3 (by decide), e4 (by decide)]
    have e : textV (.mk 3 false n emptyB [] []) = Lib.itoa n := by simp [textV]
    rw [e]
    exact read_int hi.1 hd
  · rw [e1 (by decide), e2 (by decide), e4 (by decide), e5 (by decide)]
    have e : textV (.mk 4 false 0 t [] []) = quoteB t := by simp [textV]
    rw [e]
    exact read_txt hv hd
  · rw [e2 (by decide), e3 (by decide), e4 (by decide), e5 (by decide)]
    have e : textV (.mk 5 false 0 emptyB l []) = 91 :: ([] ++ joinC ((l.map fun v => (textV v, v)).map (·.1)) ++ [93]) := by
      simp only [textV, textL_join, List.map_map, List.nil_append]
      rfl
    rw [e]
    have key := read_list hd (l := l.map fun v => (textV v, v)) (fun y hy => by
      obtain ⟨v, hv, rfl⟩ := List.mem_map.1 hy
      exact hl v hv (d + 1) (mayL_all h4 v hv) (inL_mem hi.2.1 hv)) blanks_nil (fun _ => rfl)
    have e6 : (l.map fun v => (textV v, v)).map (·.2) = l := by
      rw [List.map_map]
      conv => rhs; rw [← List.map_id l]
      exact List.map_congr_left fun x _ => rfl
    rw [e6] at key
    exact key
  · rw [e1 (by decide), e3 (by decide), e4 (by decide), e5 (by decide)]
    have hr := (mayO_rise h5).1
    have e : textV (.mk 6 false 0 emptyB [] o) = 123 :: ([] ++ joinC ((o.map memOf).map Mem.text) ++ [125]) := by
      rw [memOf_texts, ← textO_join]
      simp [textV]
    rw [e]
    have key := read_obj hd (l := o.map memOf) (fun m hm => by
      obtain ⟨x, hx, rfl⟩ := List.mem_map.1 hm
      obtain ⟨k1, k2⟩ := mayO_all h5 x hx
      exact ⟨blanks_nil, blanks_nil, k1, ho x hx (d + 1) k2 (inO_mem hi.2.2 hx)⟩) (by rw [memOf_pair]; exact asc_keys hr) blanks_nil (fun _ => rfl)
    rw [memOf_pair, sortO_self hr] at key
    exact key
/-- A text of its own that is read whole. -/
theorem parse_reads {t : List UInt8} {v : Val} (h : ReadsV t v 1) : parseL t = .ok v t.length := by
  obtain ⟨q, h1, h2⟩ := h (4 * t.length + 4) t 0 [] (Nat.zero_le _) (by simp) StopD.nil (by omega)
  unfold parseL
  rw [h1]
  simp only
  rw [h2, Nat.zero_add, past_end (Nat.le_refl _), if_neg (by omega)]
theorem parse_text {v : Val} (h : mayV v 1 = 0) (hi : inV v) : parseL (textV v) = .ok v (textV v).length := parse_reads (read_text v 1 h hi)
end Go.Proofs.YtgjiienipeoajaaGreatDoor

/- commonplaceref02.Within: the values at once within one. Condition: a bulk of at most 10^8. -/
namespace Go.Proofs.YtgjiienipeoajaaGreatDoor
open Go.RowKit


/-- What an owned row of values is, as a slice. -/
theorem own_slice {w : World} {B m : Nat} {v : Value} {ns : List Value} (h : w.ownsRow B 26 6 v m ns) :
    ∃ la lc, v = .slice la m lc ∧ (m = 0 ∨ ∃ g, la = some ⟨g, 0, none⟩ ∧ B ≤ g ∧ g < w.heap.size ∧ ∀ j u, ns[j]? = some u → w.cell? ⟨g, 0 + j, none⟩ = some u) := by
  rcases h.2 with ⟨rfl, hz⟩ | ⟨g, cap, cur, rfl, hbg, hg, _, _, _, _⟩
  · subst hz
    exact ⟨none, 0, rfl, .inl rfl⟩
  · refine ⟨_, cap, rfl, .inr ⟨g, rfl, hbg, (Array.getElem?_eq_some_iff.1 hg).1, fun j u hu => ?_⟩⟩
    have := h.cells (g := g) rfl j u hu
    rw [Go.WideShapes.add_plain] at this
    exact this

/-- What Within hands back. -/
def WithinPost (w : World) (v : Val) (e : Ending) (w' : World) : Prop :=
  (∃ la lc, e = .returned (.slice la (within v).length lc) ∧ (within v = [] ∨ ∃ g off, la = some ⟨g, off, none⟩ ∧ g < w'.heap.size ∧ HoldsL w' w'.heap.size (within v) g off)) ∧ Below w.heap.size w w'

set_option maxRecDepth 100000 in
set_option maxHeartbeats 2000000 in
theorem within_list (b : Bool) (n : Int) (t : ByteArray) (l : List Val) (o : List (ByteArray × Val)) (la oa : Option Addr) (oc lc : Nat) (w : World) (hl : l = [] ∨ ∃ g off, la = some ⟨g, off, none⟩ ∧ g < w.heap.size ∧ HoldsL w w.heap.size l g off)
    (hb : bulkL l ≤ 100000000) :
    Calls Tryz.prog 51 #[.agg #[.int .i64 5, .bool b, .int .i64 n, .string t, .slice la l.length lc, .slice oa o.length oc]] w (WithinPost w (.mk 5 b n t l o)) := by
  have hln := bulkL_len l
  have hw : within (.mk 5 b n t l o) = l := by simp [within]
  by_cases h0 : l = []
  · subst h0
    clear hl
    go_enter Tryz.func51, Tryz.ntmps51
    have Hw := Lib.hid hw
    clear hw
    cases la
    · go_wp2
      go_ret
      exact ⟨⟨none, 0, by rw [Hw.out]; rfl, .inl Hw.out⟩, (Below.refl _ _).alloc (Nat.le_refl _) _⟩
    · go_wp2
      go_ret
      exact ⟨⟨none, 0, by rw [Hw.out]; rfl, .inl Hw.out⟩, (Below.refl _ _).alloc (Nat.le_refl _) _⟩
  · obtain ⟨g, off, rfl, hg, hL⟩ := hl.resolve_left h0
    obtain ⟨i0, hi, hz0, hz1, hz2⟩ := info_parts info_val
    obtain ⟨ns, hrow, hcells⟩ := HoldsL.row hL
    obtain ⟨hnl, hno⟩ := hrow.len
    have HI := Lib.hid hi
    have HZ0 := Lib.hid hz0
    have HZ1 := Lib.hid hz1
    have HZ2 := Lib.hid hz2
    have Hrow := Lib.hid hrow
    have Hcells := Lib.hid hcells
    have Hw := Lib.hid hw
    have HN := Lib.hid hnl
    have HO := Lib.hid hno
    clear hi hz0 hz1 hz2 hrow hcells hw hnl hno hl hL
    obtain ⟨w1, hw1⟩ : ∃ w1, w.alloc (.cells #[.int .i64 5, .bool b, .int .i64 n, .string t, .slice (some ⟨g, off, none⟩) l.length lc, .slice oa o.length oc] 26) = w1 := ⟨_, rfl⟩
    have hb1 : Below w.heap.size w w1 := hw1 ▸ (Below.refl _ _).alloc (Nat.le_refl _) _
    have hbx1 : w1.heap[w.heap.size]? = some (.cells #[.int .i64 5, .bool b, .int .i64 n, .string t, .slice (some ⟨g, off, none⟩) l.length lc, .slice oa o.length oc] 26 (0, 0)) := by rw [← hw1]; exact heap_alloc_new _ _
    have hz1 : w1.heap.size = w.heap.size + 1 := by rw [← hw1]; simp
    have HB1 := Lib.hid hb1
    have HX1 := Lib.hid hbx1
    have HS1 := Lib.hid hz1
    have Hown : Hid (w1.ownsRow (w.heap.size + 1) 26 6 (.slice none 0 0) 0 []) := World.ownsRow_nil _ _ _ _
    clear hb1 hbx1 hz1
    subst hw1
    go_enter Tryz.func51, Tryz.ntmps51
    go_wp2_with (at_builtin; refine wpList_append_own _ rfl (.tmp 8) (.tmp 10) 23 rfl (w.heap.size + 1) 26 i0 (.agg #[.int .i64 0, .bool false, .int .i64 0, .string ⟨#[]⟩, .slice none 0 0, .slice none 0 0]) 6 88 Tryz.underlying23 HI.out HZ0.out HZ1.out HZ2.out rfl (by decide) (.slice none 0 0) 0 [] rfl Hown.out ⟨g, off, none⟩ l.length lc ns rfl HN.out ?c1 ?c2 ?c3 ?c4 ?c5 ?_)
    case c1 =>
      intro j u hj
      rw [Go.WideShapes.add_plain]
      exact (HB1.out.cell (p := ⟨g, off + j, none⟩) hg).trans (Hcells.out j u hj)
    case c2 => exact HO.out
    case c3 => unfold maxLen; omega
    case c4 => omega
    case c5 => simp
    intro v' w2 hown' hgrow _
    obtain ⟨la', lc', rfl, hsl⟩ := own_slice hown'
    have hbA := ((HB1.out).grown hgrow (by rw [HS1.out]; omega) (fun k hk => by simp [Value.ownBlock] at hk))
    have hbox2 : w2.heap[w.heap.size]? = some (.cells #[.int .i64 5, .bool b, .int .i64 n, .string t, .slice (some ⟨g, off, none⟩) l.length lc, .slice oa o.length oc] 26 (0, 0)) := (hgrow.block _ (by rw [HS1.out]; omega) (by simp [Value.ownBlock])).trans HX1.out
    have d0 : w2.cell? ⟨w.heap.size, 0, none⟩ = some (.int .i64 5) := by rw [Lib.cell_of_heap hbox2]; rfl
    have Hsl := Lib.hid hsl
    have HbA := Lib.hid hbA
    clear hown' hgrow hsl hbA hbox2
    go_wp2
    go_ret
    refine ⟨⟨la', lc', by rw [Hw.out]; rfl, ?_⟩, HbA.out⟩
    rw [Hw.out]
    refine .inr ?_
    rcases Hsl.out with h | ⟨g', rfl, _, hg', hc'⟩
    · exact absurd (List.length_eq_zero_iff.1 h) h0
    · exact ⟨g', 0, rfl, hg', Hrow.out.holds (fun v cs h => HoldsV.more HbA.out.size _ _ (h.below HbA.out)) hc'⟩

set_option maxRecDepth 100000 in
set_option maxHeartbeats 2000000 in
theorem within_obj (b : Bool) (n : Int) (t : ByteArray) (l : List Val) (o : List (ByteArray × Val)) (la oa : Option Addr) (oc lc : Nat) (w : World) (hl : o = [] ∨ ∃ g off, oa = some ⟨g, off, none⟩ ∧ g < w.heap.size ∧ HoldsO w w.heap.size o g off)
    (hb : bulkO o ≤ 100000000) :
    Calls Tryz.prog 51 #[.agg #[.int .i64 6, .bool b, .int .i64 n, .string t, .slice la l.length lc, .slice oa o.length oc]] w (WithinPost w (.mk 6 b n t l o)) := by
  have hln := bulkO_len o
  have hw : within (.mk 6 b n t l o) = o.map (·.2) := by simp [within]
  obtain ⟨i0, hi, hz0, hz1, hz2⟩ := info_parts info_val
  have HI := Lib.hid hi
  have HZ0 := Lib.hid hz0
  have HZ1 := Lib.hid hz1
  have HZ2 := Lib.hid hz2
  have Hw := Lib.hid hw
  clear hi hz0 hz1 hz2 hw
  obtain ⟨w1, hw1⟩ : ∃ w1, w.alloc (.cells #[.int .i64 6, .bool b, .int .i64 n, .string t, .slice la l.length lc, .slice oa o.length oc] 26) = w1 := ⟨_, rfl⟩
  have hb1 : Below w.heap.size w w1 := hw1 ▸ (Below.refl _ _).alloc (Nat.le_refl _) _
  have hbx1 : w1.heap[w.heap.size]? = some (.cells #[.int .i64 6, .bool b, .int .i64 n, .string t, .slice la l.length lc, .slice oa o.length oc] 26 (0, 0)) := by rw [← hw1]; exact heap_alloc_new _ _
  have HB1 := Lib.hid hb1
  have HX1 := Lib.hid hbx1
  have Hown : Hid (w1.ownsRow (w.heap.size + 1) 26 6 (.slice none 0 0) 0 []) := World.ownsRow_nil _ _ _ _
  have HR0 : Hid (RowL w w.heap.size ((o.take 0).map (·.2)) []) := rfl
  clear hb1 hbx1
  subst hw1
  go_enter Tryz.func51, Tryz.ntmps51
  go_wp2_with (fail)
  go_loopw [3, 4] (fun v1 i wr => ∃ (k : Nat) (ns : List Value), i = .int .i64 k ∧ k ≤ o.length ∧ Hid (wr.ownsRow (w.heap.size + 1) 26 6 v1 k ns) ∧ Hid (RowL w w.heap.size ((o.take k).map (·.2)) ns) ∧ Hid (Below w.heap.size w wr) ∧
    Hid (wr.heap[w.heap.size]? = some (.cells #[.int .i64 6, .bool b, .int .i64 n, .string t, .slice la l.length lc, .slice oa o.length oc] 26 (0, 0)))) (fun _ i _ => o.length - (intOf i).toNat)
  case atStart => exact ⟨0, [], rfl, Nat.zero_le _, Hown, HR0, HB1, HX1⟩
  case round =>
    obtain ⟨k, ns, rfl, hk, hown, hrow, hbw, hbx⟩ := hrel
    clear Hown HR0 HB1 HX1
    have b5 : wr.cell? ⟨w.heap.size, 5, none⟩ = some (.slice oa o.length oc) := by rw [Lib.cell_of_heap hbx.out]; rfl
    have hz : w.heap.size < wr.heap.size := (Array.getElem?_eq_some_iff.1 hbx.out).1
    by_cases hlt : k < o.length
    · obtain ⟨g, off, rfl, hg, hL⟩ : ∃ g off, oa = some ⟨g, off, none⟩ ∧ g < w.heap.size ∧ HoldsO w w.heap.size o g off := by
        rcases hl with rfl | h
        · simp at hlt
        · exact h
      obtain ⟨⟨key, x⟩, hx⟩ : ∃ v, o[k]? = some v := ⟨_, List.getElem?_eq_getElem hlt⟩
      have htk : (o.take (k + 1)).map (·.2) = (o.take k).map (·.2) ++ [x] := by rw [List.take_add_one, hx]; simp
      obtain ⟨k', b', n', t', l', o'⟩ := x
      obtain ⟨la', lc', oa', oc', hvs, _, e1, e2, e3, e4, e5, e6⟩ := hL.seven hx
      have cc := fun j (u : Value) (h : w.cell? ⟨g, j, none⟩ = some u) => (hbw.out.cell (p := ⟨g, j, none⟩) hg).trans h
      have c1 := cc _ _ e1
      have c2 := cc _ _ e2
      have c3 := cc _ _ e3
      have c4 := cc _ _ e4
      have c5 := cc _ _ e5
      have c6 := cc _ _ e6
      have hrow' := hrow.out.snoc hvs
      rw [← htk] at hrow'
      have Hrow := Lib.hid hrow'
      have hno := Lib.hid hvs.len.2
      clear hrow' hrow htk hx hL hg e1 e2 e3 e4 e5 e6 cc hvs
      go_wp2_with (at_builtin; refine wpList_append_own _ rfl (.tmp 22) (.tmp 29) 23 rfl (w.heap.size + 1) 26 i0 (.agg #[.int .i64 0, .bool false, .int .i64 0, .string ⟨#[]⟩, .slice none 0 0, .slice none 0 0]) 6 88 Tryz.underlying23 HI.out HZ0.out HZ1.out HZ2.out rfl (by decide) u3 k ns rfl (hown.out.alloc _) ⟨wr.heap.size, 0, none⟩ 1 1 (cells6 k' b' n' t' la' l'.length lc' oa' o'.length oc') rfl rfl ?c1 ?c2 ?c3 ?c4 ?c5 ?_)
      case c1 =>
        intro j u hj
        rw [Go.WideShapes.add_plain]
        rw [Lib.cell_of_heap (heap_alloc_new wr (.cells #[.int .i64 k', .bool b', .int .i64 n', .string t', .slice la' l'.length lc', .slice oa' o'.length oc'] 26)), Nat.zero_add]
        simpa using hj
      case c2 => exact hno.out
      case c3 => unfold maxLen; omega
      case c4 => omega
      case c5 => simp; omega
      intro v' w2 hown' hgrow _
      have ho' := Lib.hid hown'
      have hbA := Lib.hid ((hbw.out.alloc (by omega) (.cells #[.int .i64 k', .bool b', .int .i64 n', .string t', .slice la' l'.length lc', .slice oa' o'.length oc'] 26)).grown hgrow (by simp; omega) (fun q hq => by have := (hown.out.lt q hq).1; omega))
      have hbx2 : Hid (w2.heap[w.heap.size]? = some (.cells #[.int .i64 6, .bool b, .int .i64 n, .string t, .slice la l.length lc, .slice (some ⟨g, off, none⟩) o.length oc] 26 (0, 0))) := by
        show _ = _
        rw [hgrow.block _ (by simp; omega) (fun e => by have := (hown.out.lt _ e.symm).1; omega), Lib.alloc_old wr _ _ hz]
        exact hbx.out
      clear hown' hgrow hown hbw hbx b5 c1 c2 c3 c4 c5 c6 hno
      go_wp2
      go_roundw
      case rel => exact ⟨k + 1, _, by go_num, by omega, ho', Hrow, hbA, hbx2⟩
      case measure => simp only [intOf]; omega
    · obtain rfl : k = o.length := by omega
      have hr' := hrow.out
      rw [List.take_length] at hr'
      obtain ⟨la', lc', rfl, hsl⟩ := own_slice hown.out
      have Hsl := Lib.hid hsl
      have HR := Lib.hid hr'
      have Hlm : Hid (o.length = (o.map (·.2)).length) := by show _ = _; simp
      clear hr' hrow hsl hown hl
      go_wp2
      go_ret
      refine ⟨⟨la', lc', by rw [Hw.out, ← Hlm.out]; rfl, ?_⟩, hbw.out⟩
      rw [Hw.out]
      rcases Hsl.out with h | ⟨g', rfl, _, hg', hc'⟩
      · exact .inl (by rw [List.length_eq_zero_iff.1 h]; rfl)
      · exact .inr ⟨g', 0, rfl, hg', HR.out.holds (fun v cs h => HoldsV.more hbw.out.size _ _ (h.below hbw.out)) hc'⟩

end Go.Proofs.YtgjiienipeoajaaGreatDoor

/- Rows that a call builds by append: several data at once; a row's literal. Plain. No condition. -/
namespace Go.Proofs.YtgjiienipeoajaaGreatDoor
open Go Go.RowKit

/-- A literal of one datum. -/
theorem RowX.lit {S0 : Nat → Prop} {b : Nat} {t : TypeId} {w : World} {d : D} {cs : Array Value} (hb : b ≤ w.heap.size) (hd : d.cells = cs.size) (h : HoldsIn (fun i => S0 i ∧ i ≠ w.heap.size) (w.alloc (.cells cs t)) d cs.toList) :
    RowX S0 b t cs.size (w.alloc (.cells cs t)) [d] (.slice (some ⟨w.heap.size, 0, none⟩) 1 1) := by
  refine ⟨cs.toList, ⟨by simp, .inr ⟨w.heap.size, 1, cs, rfl, hb, heap_alloc_new w _, Nat.le_refl _, by unfold maxLen; omega, by simp, ?_⟩⟩, fun x hx => ?_, HoldsInA.one (h.mono fun i _ hi => ⟨hi.1, fun e => hi.2 (Option.some.inj (e : some w.heap.size = some i)).symm⟩)⟩
  · simp only [List.length_cons, List.length_nil, Nat.zero_add, Nat.one_mul]
    rw [← Array.length_toList, List.take_length]
  · simp only [List.mem_cons, List.not_mem_nil, or_false] at hx
    rw [hx]; exact hd

section
variable {P : Program}
theorem run_append_L {t ty e : TypeId} {i : TypeInfo} {z : Value} {sz bytes : Nat} (ht : P.underlying t = some (.slice e)) (hi : P.info? e = some i) (hz : i.zero = some z) (hsize : i.size = sz) (hby : i.bytes = bytes) (hzs : z.cells.size = sz) (hsz : 0 < sz)
    {S0 : Nat → Prop} {b : Nat} {w : World} {l : List D} {V : Value} (hrow : RowX S0 b e sz w l V) (hbw : b ≤ w.heap.size) {dl : List D} {cs : List Value} (hd : ∀ d ∈ dl, d.cells = sz) (hx : HoldsInA (fun i => S0 i ∧ V.ownBlock ≠ some i) w dl cs)
    {B : Nat} {A : Option Addr} {n c : Nat} (hr : Reads w B sz A n cs) (hn : n = dl.length) (h63 : l.length + n ≤ maxLen) (hbytes : (l.length + n) * bytes ≤ 140737488355328) :
    ∃ V' w6, (Builtin.append_ #[t, t] ty #[V, .slice A n c]).run P w = .ok V' w6 ∧ RowX S0 b e sz w6 (l ++ dl) V' ∧ w.grownBy w6 V.ownBlock ∧ (V'.ownBlock = V.ownBlock ∨ V'.ownBlock = some w.heap.size) := by
  subst hn
  obtain ⟨ns, h1, h2, h3⟩ := hrow
  obtain ⟨V', w6, hrun, g1, g2, g3⟩ := run_append_any (P := P) w b t ty e i z sz bytes ht hi hz hsize hby hzs hsz V l.length ns h1 B A dl.length c cs hr hx.now.len.2 h63 hbytes hbw
  refine ⟨V', w6, hrun, ⟨ns ++ cs, by rw [List.length_append]; exact g1, ?_, ?_⟩, g2, g3⟩
  · intro x hx'
    rcases List.mem_append.1 hx' with hx' | hx'
    · exact h2 x hx'
    · exact hd x hx'
  · have key : ∀ p : Addr, V.ownBlock ≠ some p.block → p.block < w.heap.size → V'.ownBlock ≠ some p.block := by
      intro p p1 p2
      rcases g3 with e3 | e3
      · rw [e3]; exact p1
      · rw [e3]; intro e4; have := Option.some.inj e4; omega
    have hag : ∀ w'' : World, w6.heap.size ≤ w''.heap.size → (∀ p : Addr, S0 p.block ∧ V'.ownBlock ≠ some p.block → p.block < w6.heap.size → w''.cell? p = w6.cell? p) → ∀ p : Addr, S0 p.block ∧ V.ownBlock ≠ some p.block → p.block < w.heap.size → w''.cell? p = w.cell? p := by
      intro w'' k1 k2 p p1 p2
      rw [k2 p ⟨p1.1, key p p1.2 p2⟩ (Nat.lt_of_lt_of_le p2 g2.size)]
      exact World.cell?_of_block (g2.block p.block p2 (fun e => p1.2 e.symm))
    intro w'' k1 k2
    have a1 := HoldsA.more (h3 w'' (Nat.le_trans g2.size k1) (hag w'' k1 k2)) g2.size
    have a2 := HoldsA.more (hx w'' (Nat.le_trans g2.size k1) (hag w'' k1 k2)) g2.size
    exact a1.app a2
theorem wp_append_L {o : Oper} {a : Act} {w : World} {K : Act → World → Prop} {Q : Exit → Act → World → Prop} (s x : Operand) (t : TypeId) {e : TypeId}
    (ho : o.op = .call { callee := .builtin .append, args := #[s, x], argTypes := #[t, t] }) {i : TypeInfo} {z : Value} {sz bytes : Nat} (ht : P.underlying t = some (.slice e)) (hi : P.info? e = some i) (hz : i.zero = some z) (hsize : i.size = sz) (hby : i.bytes = bytes) (hzs : z.cells.size = sz) (hsz : 0 < sz)
    {S0 : Nat → Prop} {b : Nat} {l : List D} {V : Value} (hs : a.eval s = V) (hrow : RowX S0 b e sz w l V) (hbw : b ≤ w.heap.size) {dl : List D} {cs : List Value} (hd : ∀ d ∈ dl, d.cells = sz) (hf : HoldsInA (fun i => S0 i ∧ V.ownBlock ≠ some i) w dl cs)
    {B : Nat} {A : Option Addr} {n c : Nat} (hx : a.eval x = .slice A n c) (hr : Reads w B sz A n cs) (hn : n = dl.length) (h63 : l.length + n ≤ maxLen) (hbytes : (l.length + n) * bytes ≤ 140737488355328)
    (h : ∀ V' w6, RowX S0 b e sz w6 (l ++ dl) V' → w.grownBy w6 V.ownBlock → (V'.ownBlock = V.ownBlock ∨ V'.ownBlock = some w.heap.size) → K (a.put o.dst V') w6) : o.wp P a w K Q := by
  obtain ⟨V', w6, hrun, g1, g2, g3⟩ := run_append_L (ty := o.type) (c := c) ht hi hz hsize hby hzs hsz hrow hbw hd hf hr hn h63 hbytes
  unfold Oper.wp execOp
  simp only [ho, resolve, invoke, builtin, Sem.run_bind, Sem.run_pure, Result.andThen_ok, List.map_toArray, List.map_cons, List.map_nil, hs, hx, hrun]
  exact h V' w6 g1 g2 g3
theorem wpList_append_L {ops : Array Oper} {rest : List Oper} {o : Oper} {a : Act} {w : World} {Q : Exit → Act → World → Prop} (hgd : o.guard = none) (s x : Operand) (t : TypeId) {e : TypeId}
    (ho : o.op = .call { callee := .builtin .append, args := #[s, x], argTypes := #[t, t] }) {i : TypeInfo} {z : Value} {sz bytes : Nat} (ht : P.underlying t = some (.slice e)) (hi : P.info? e = some i) (hz : i.zero = some z) (hsize : i.size = sz) (hby : i.bytes = bytes) (hzs : z.cells.size = sz) (hsz : 0 < sz)
    {S0 : Nat → Prop} {b : Nat} {l : List D} {V : Value} (hs : a.eval s = V) (hrow : RowX S0 b e sz w l V) (hbw : b ≤ w.heap.size) {dl : List D} {cs : List Value} (hd : ∀ d ∈ dl, d.cells = sz) (hf : HoldsInA (fun i => S0 i ∧ V.ownBlock ≠ some i) w dl cs)
    {B : Nat} {A : Option Addr} {n c : Nat} (hx : a.eval x = .slice A n c) (hr : Reads w B sz A n cs) (hn : n = dl.length) (h63 : l.length + n ≤ maxLen) (hbytes : (l.length + n) * bytes ≤ 140737488355328)
    (h : ∀ V' w6, RowX S0 b e sz w6 (l ++ dl) V' → w.grownBy w6 V.ownBlock → (V'.ownBlock = V.ownBlock ∨ V'.ownBlock = some w.heap.size) → wpList P ops Q rest (a.put o.dst V') w6) : wpList P ops Q (o :: rest) a w :=
  wpList_plain hgd fun _ hK => wp_append_L s x t ho ht hi hz hsize hby hzs hsz hs hrow hbw hd hf hx hr hn h63 hbytes fun V' w6 h2 h3 h4 => hK _ _ (h V' w6 h2 h3 h4)
end
end Go.Proofs.YtgjiienipeoajaaGreatDoor

/- parse.reader.number. Condition: a text of at most 10^8 bytes. -/
namespace Go.Proofs.YtgjiienipeoajaaGreatDoor
open Go Go.RowKit

/-- The global that ParseInt's error names. -/
def NumT (w : World) : Prop := ∃ te pe, w.cell? ⟨7, 0, none⟩ = some (.iface te pe)
structure NRd (w wr : World) (R g : Nat) (s : ByteArray) (j : Nat) : Prop where
  went : RdTo R g s j w wr
  res : Blk wr w.heap.size 26 zero6
set_option maxRecDepth 100000 in
set_option maxHeartbeats 8000000 in
theorem rdnum_calls (R g : Nat) (s : ByteArray) (k : Nat) (d : Int) (w : World) (hN : ∀ W, w.grownBy W (some R) → NumT W) (hs : s.size ≤ 100000000) (hk : k < s.size) (h : RdB w R g s k) :
    Calls Tryz.prog 58 #[.pointer (some ⟨R, 0, none⟩), .int .i64 d] w (RVPost R g s w ((numberAt s.data.toList k).map intV)) := by
  have hR : R < w.heap.size := Blk.lt h
  obtain ⟨c, hc⟩ : ∃ c, s[k] = c := ⟨_, rfl⟩
  have hg : s.data.toList[k]? = some c := by rw [get_byte s hk, hc]
  have hcl := byte_lt c
  obtain ⟨F, hF⟩ : ∃ F, (if s.data.toList[k]? = some 45 then k + 1 else k) = F := ⟨_, rfl⟩
  obtain ⟨RES, hRES⟩ : ∃ r, (numberAt s.data.toList k).map intV = r := ⟨_, rfl⟩
  rw [hRES]
  unfold numberAt at hRES
  rw [hF] at hRES
  have hFk : k ≤ F ∧ F ≤ k + 1 := by rw [← hF]; split <;> omega
  have hI0 : NRd w (w.alloc (.cells zero6 26)) R g s k := ⟨(RdTo.refl h).alloc _, Blk.new _ _ _⟩
  have hb45 : ((c.toNat : Int) == 45) = decide (c = 45) := by rw [show (45 : Int) = ((45 : Nat) : Int) from rfl, byte_eq (by decide)]; rfl
  obtain ⟨c0, c1, _, f1, _⟩ := h.cells
  have i0 : (0 : Int) ≤ (k : Int) := by omega
  have i1 : (k : Int) < (s.size : Int) := by omega
  have HI0 := Lib.hid hI0
  have HN := Lib.hid hN
  have H := Lib.hid h
  have HRES := Lib.hid hRES
  have Hg := Lib.hid hg
  have HF := Lib.hid hF
  clear hI0 hN h hRES hg hF
  go_enter Tryz.func58, Tryz.ntmps58
  go_wp2
  go_quiet (fail)
  go_upto_if 22 with (fail)
  go_cut [] (fun wx => Hid (NRd w wx R g s F))
  case first =>
    by_cases h45 : c = 45
    · have e45 : decide (c = 45) = true := decide_eq_true h45
      have eF : F = k + 1 := by rw [← HF.out, Hg.out, h45, if_pos rfl]
      go_wp2
      go_meet
      rw [eF]
      exact ⟨(HI0.out.went.drewN _).set _, HI0.out.res.far (by simp; omega) _⟩
    · have e45 : decide (c = 45) = false := decide_eq_false h45
      have eF : F = k := by rw [← HF.out, Hg.out, if_neg (by simpa using h45)]
      go_wp2
      go_meet
      rw [eF]
      exact ⟨HI0.out.went.drewN _, HI0.out.res⟩
  have hd0 := digEnd_ge s.data.toList F
  have hd1 := digEnd_le (s := s.data.toList) (p := F) (by rw [size_toList]; omega)
  rw [size_toList] at hd1
  have HI1 := hcut
  obtain ⟨E, hE⟩ : ∃ E, digEnd s.data.toList F = E := ⟨_, rfl⟩
  rw [hE] at hd0 hd1
  clear hcut HI0 c0 c1 f1 i0 i1
  obtain ⟨a0, a1, _, f1, _⟩ := HI1.out.went.2.cells
  have HE := Lib.hid hE
  clear hE
  go_upto_block 0 with (fail)
  go_cut [] (fun wx => Hid (NRd w wx R g s E))
  case first =>
    go_wp2_with (fail)
    go_loopg [] (s.size - F) (fun n wr => ∃ j : Nat, F ≤ j ∧ j ≤ s.size ∧ n = s.size - j ∧ Hid (digEnd s.data.toList j = E ∧ NRd w wr R g s j))
    case atStart => exact ⟨F, Nat.le_refl _, by omega, rfl, HE.out, HI1.out⟩
    case round =>
      obtain ⟨j, hjF, hj, rfl, hh⟩ := hrel
      obtain ⟨z0, z1, _, z3, _⟩ := hh.out.2.went.2.cells
      clear HI1 a0 a1 f1
      have j0 : (0 : Int) ≤ (j : Int) := by omega
      by_cases hlt : j < s.size
      · obtain ⟨x, hx⟩ : ∃ x, s[j] = x := ⟨_, rfl⟩
        have hxg : s.data.toList[j]? = some x := by rw [get_byte s hlt, hx]
        have hxl := byte_lt x
        have j1 : decide ((j : Int) < (s.size : Int)) = true := decide_eq_true (by omega)
        have j2 : (j : Int) < (s.size : Int) := by omega
        by_cases hdg : isDig x = true
        · have HN' : Hid (digEnd s.data.toList (j + 1) = E ∧ ∀ nq, NRd w ((wr.drewN nq).setCell ⟨R, 1, none⟩ (.int .i64 ((j + 1 : Nat) : Int))) R g s (j + 1)) := ⟨by rw [← digEnd_step hxg hdg]; exact hh.out.1, fun nq => ⟨(hh.out.2.went.drewN nq).set _, hh.out.2.res.far (by simp; omega) _⟩⟩
          unfold isDig at hdg
          rw [decide_eq_true_iff] at hdg
          have l1 : decide ((48 : Int) ≤ (x.toNat : Int)) = true := decide_eq_true (by omega)
          have l2 : decide ((x.toNat : Int) ≤ 57) = true := decide_eq_true (by omega)
          clear hxg hh hdg
          go_wp2
          go_quiet (fail)
          go_wp2
          go_roundg (s.size - (j + 1))
          case measure => omega
          case rel => exact ⟨j + 1, by omega, by omega, rfl, HN'.out.1, HN'.out.2 _⟩
        · have HN' : Hid (j = E ∧ ∀ nq, NRd w (wr.drewN nq) R g s j) := ⟨by rw [← hh.out.1, digEnd_stop hxg (by simpa using hdg)], fun nq => ⟨hh.out.2.went.drewN nq, hh.out.2.res⟩⟩
          unfold isDig at hdg
          rw [decide_eq_true_iff] at hdg
          clear hxg hh
          by_cases h48 : 48 ≤ x.toNat
          · have l1 : decide ((48 : Int) ≤ (x.toNat : Int)) = true := decide_eq_true (by omega)
            have l2 : decide ((x.toNat : Int) ≤ 57) = false := decide_eq_false (by omega)
            go_wp2
            go_quiet (fail)
            go_wp2
            go_meet
            have := HN'.out.2
            rw [HN'.out.1] at this
            exact this _
          · have l1 : decide ((48 : Int) ≤ (x.toNat : Int)) = false := decide_eq_false (by omega)
            go_wp2
            go_quiet (fail)
            go_wp2
            go_meet
            have := HN'.out.2
            rw [HN'.out.1] at this
            exact this _
      · have HN' : Hid (j = E ∧ ∀ nq, NRd w (wr.drewN nq) R g s j) := ⟨by rw [← hh.out.1, digEnd_end (by rw [size_toList]; omega)], fun nq => ⟨hh.out.2.went.drewN nq, hh.out.2.res⟩⟩
        have j1 : decide ((j : Int) < (s.size : Int)) = false := decide_eq_false (by omega)
        clear hh
        go_wp2
        go_quiet (fail)
        go_wp2
        go_meet
        have := HN'.out.2
        rw [HN'.out.1] at this
        exact this _
  have HI2 := hcut
  clear hcut HI1 a0 a1 f1
  obtain ⟨a0, a1, _, f1, _⟩ := HI2.out.went.2.cells
  go_upto_block 2 with (fail)
  go_cut [] (fun wx => Hid (NRd w wx R g s E ∧ F < E ∧ (F = k + 1 → digV ((s.data.toList.drop F).take (E - F)) ≠ 0) ∧ (numRes (decide (s.data.toList[k]? = some 45)) (digV ((s.data.toList.drop F).take (E - F))) k E).map intV = RES))
  case first =>
    have hres := HRES.out
    unfold numFrom at hres
    rw [HE.out] at hres
    have F0 : (0 : Int) ≤ (F : Int) := by omega
    by_cases hEF : E = F
    · rw [if_pos hEF] at hres
      subst hres
      subst hEF
      have e1 : ((E : Int) == (E : Int)) = true := by simp
      have hW := wrong_calls (.pointer (some ⟨R, 0, none⟩)) 4 (E : Nat) wc
      have HW := Lib.hid hW
      clear hW
      go_wp2_with (fail)
      with_reducible refine (HW.out).mono ?_
      rintro e w10 ⟨rfl, rfl⟩
      exact ⟨rfl, rfl, HI2.out.went.1⟩
    · rw [if_neg hEF] at hres
      have e1 : ((E : Int) == (F : Int)) = false := by rw [beq_eq_false_iff_ne]; omega
      have hFs : F < s.size := by omega
      have F1 : (F : Int) < (s.size : Int) := by omega
      obtain ⟨x, hx⟩ : ∃ x, s[F] = x := ⟨_, rfl⟩
      have hxg : s.data.toList[F]? = some x := by rw [get_byte s hFs, hx]
      have hxl := byte_lt x
      rw [hxg] at hres
      have hx48 : ((x.toNat : Int) == 48) = decide (x = 48) := by rw [show (48 : Int) = ((48 : Nat) : Int) from rfl, byte_eq (by decide)]; rfl
      by_cases hz : x = 48
      · have e48 : decide (x = 48) = true := decide_eq_true hz
        rw [e48] at hx48
        by_cases hm : F + 1 < E
        · rw [if_pos ⟨by rw [hz], hm⟩] at hres
          subst hres
          have e2 : decide ((F : Int) + 1 < (E : Int)) = true := decide_eq_true (by omega)
          have e3 : (F : Int) + 1 < (E : Int) := by omega
          have hW := wrong_calls (.pointer (some ⟨R, 0, none⟩)) 4 ((F : Int) + 1) wc
          have HW := Lib.hid hW
          clear hW
          go_wp2_with (fail)
          with_reducible refine (HW.out).mono ?_
          rintro e w10 ⟨rfl, rfl⟩
          exact ⟨rfl, by simp [faultE], HI2.out.went.1⟩
        · rw [if_neg (fun q => hm q.2)] at hres
          have e2 : decide ((F : Int) + 1 < (E : Int)) = false := decide_eq_false (by omega)
          have e3 : ¬((F : Int) + 1 < (E : Int)) := by omega
          have hEF1 : E = F + 1 := by omega
          have hds : (s.data.toList.drop F).take (E - F) = [48] := by rw [hEF1, Nat.add_sub_cancel_left, drop_at hxg, hz]; rfl
          by_cases hn : F = k + 1
          · have h45 : s.data.toList[k]? = some 45 := by
              by_cases q : s.data.toList[k]? = some 45
              · exact q
              · have := HF.out; rw [if_neg q] at this; omega
            have e4 : decide ((k : Int) < (F : Int)) = true := decide_eq_true (by omega)
            have e5 : (k : Int) < (F : Int) := by omega
            have hr7 : numRes (decide (s.data.toList[k]? = some 45)) (digV ((s.data.toList.drop F).take (E - F))) k E = .bad 7 k := by
              rw [hds, decide_eq_true h45]; rfl
            rw [hr7] at hres
            subst hres
            have hW := wrong_calls (.pointer (some ⟨R, 0, none⟩)) 7 (k : Nat) wc
            have HW := Lib.hid hW
            have Hds := Lib.hid hds
            have Hr7 := Lib.hid hr7
            clear hW hds hr7
            clear h45 hn hEF1
            go_wp2_with (fail)
            with_reducible refine (HW.out).mono ?_
            rintro e w10 ⟨rfl, rfl⟩
            exact ⟨rfl, rfl, HI2.out.went.1⟩
          · have e4 : decide ((k : Int) < (F : Int)) = false := decide_eq_false (by omega)
            have e5 : ¬((k : Int) < (F : Int)) := by omega
            have HJ : Hid (NRd w wc R g s E ∧ F < E ∧ (F = k + 1 → digV ((s.data.toList.drop F).take (E - F)) ≠ 0) ∧ (numRes (decide (s.data.toList[k]? = some 45)) (digV ((s.data.toList.drop F).take (E - F))) k E).map intV = RES) := ⟨HI2.out, by omega, fun q => absurd q hn, hres⟩
            clear hres hds
            go_wp2
            go_meet
            exact HJ
      · have e48 : decide (x = 48) = false := decide_eq_false hz
        rw [e48] at hx48
        rw [if_neg (fun q => hz (by simpa using q.1))] at hres
        have HJ : Hid (NRd w wc R g s E ∧ F < E ∧ (F = k + 1 → digV ((s.data.toList.drop F).take (E - F)) ≠ 0) ∧ (numRes (decide (s.data.toList[k]? = some 45)) (digV ((s.data.toList.drop F).take (E - F))) k E).map intV = RES) := ⟨HI2.out, by omega, fun _ => digV_first hxg hz (by rw [HE.out]; omega) HE.out, hres⟩
        clear hres
        go_wp2
        go_meet
        exact HJ
  obtain ⟨hI3, hFE, hnz, hres⟩ := hcut.out
  clear hcut HI2 a0 a1 f1
  obtain ⟨a0, a1, _, f1, _⟩ := hI3.went.2.cells
  have k0 : (0 : Int) ≤ (k : Int) := by omega
  have k1 : (k : Int) ≤ (E : Int) := by omega
  have k2 : (E : Int) ≤ (s.size : Int) := by omega
  have hT : (s.extract k E).data.toList = (s.data.toList.drop k).take (E - k) := by rw [Lib.extract_data]
  have hTs : (s.extract k E).size ≤ 100000000 := by simp only [ByteArray.size_extract]; omega
  have hdig := digits_of s.data.toList F
  rw [HE.out] at hdig
  have hne : (s.data.toList.drop F).take (E - F) ≠ [] := by
    intro e
    have := congrArg List.length e
    rw [List.length_take, List.length_drop, size_toList] at this
    simp at this; omega
  obtain ⟨m, hm⟩ : ∃ m, digV ((s.data.toList.drop F).take (E - F)) = m := ⟨_, rfl⟩
  rw [hm] at hres hnz
  have hPI : Lib.parseIntB 64 (s.extract k E).data.toList = match numRes (decide (s.data.toList[k]? = some 45)) m k E with | .ok v _ => .ok v | .bad _ _ => .range := by
    rw [hT]
    by_cases h45 : s.data.toList[k]? = some 45
    · have eF : F = k + 1 := by rw [← HF.out, if_pos h45]
      have e1 : (s.data.toList.drop k).take (E - k) = 45 :: (s.data.toList.drop F).take (E - F) := by
        rw [drop_at h45, show E - k = (E - F) + 1 by omega, List.take_succ_cons, eF]
      rw [e1, intB_neg hdig hne, hm, decide_eq_true h45]
      unfold numRes
      rw [if_pos rfl]
      have := hnz eF
      by_cases hb : 9223372036854775808 < m
      · rw [if_pos hb, if_pos (.inr hb)]
      · rw [if_neg hb, if_neg (by rintro (q | q); exact this q; exact hb q)]
    · have eF : F = k := by rw [← HF.out, if_neg h45]
      rw [eF] at hdig hne hm
      rw [intB_pos hdig hne, hm, decide_eq_false h45]
      unfold numRes
      rw [if_neg (show ¬((false : Bool) = true) by decide)]
      by_cases hb : 9223372036854775807 < m
      · rw [if_pos hb, if_pos hb]
      · rw [if_neg hb, if_neg hb]
  have hform : (∃ v, numRes (decide (s.data.toList[k]? = some 45)) m k E = .ok v E) ∨ numRes (decide (s.data.toList[k]? = some 45)) m k E = .bad 7 k := by
    unfold numRes
    split
    · split
      · exact .inr rfl
      · exact .inl ⟨_, rfl⟩
    · split
      · exact .inr rfl
      · exact .inl ⟨_, rfl⟩
  clear hT hdig hne hm hnz
  rcases hform with ⟨v, hv⟩ | hv
  · rw [hv] at hPI hres
    simp only at hPI
    subst hres
    have hPc : ∀ W : World, Calls Tryz.prog 95 #[.string (s.extract k E), .int .i64 10, .int .i64 64] W fun e w' => e = .returned (.tuple #[.int .i64 v, .nilIface]) ∧ Below W.heap.size W w' := fun W =>
      (Tryz.strconv_ParseInt_ok (s.extract k E) (by omega) v hPI W).mono fun e w' ⟨he, hw⟩ => ⟨he, by
        rcases hw with rfl | ⟨t, rfl⟩
        · exact Below.refl _ _
        · exact Go.Joins.below_bytesWorld _ _ _ _ (Nat.le_refl _)⟩
    have hlt3 := hI3.went.2.cells.2.2.2.2
    have HPc := Lib.hid hPc
    have HI3 := Lib.hid hI3
    have HPI := Lib.hid hPI
    have Hv := Lib.hid hv
    clear hPc hI3 hPI hv
    go_wp2
    go_region_held3 (fun W => W.cell? ⟨R, 0, none⟩ = some (.string s) ∧ W.cell? ⟨R, 1, none⟩ = some (.int .i64 E)) (go_keep) (first | (go_at_call 95; refine (HPc.out _).mono ?_; rintro e w1 ⟨rfl, hb1⟩; have hbr1 : Below wc.heap.size wc w1 := (Below.drew (Below.refl _ _)).trans hb1; obtain ⟨hc1, hf1⟩ := bcellM hbr1))
    all_goals
      have hI4 : NRd w w1 R g s E := ⟨HI3.out.went.below hbr1, HI3.out.res.below hbr1 HI3.out.res.lt⟩
      obtain ⟨r0, r1, r2, r3, r4, r5⟩ := vcell hI4.res
      have fz := hI4.res.frozen
      have hlt4 := hI4.res.lt
      clear hc1 hf1 hb1 hbr1
      have HI4 := Lib.hid hI4
      clear hI4
      go_wp2
      have hxf := ((((((HI4.out.res.set_ 0 (.int .i64 3)).set_ 1 (.bool false)).set_ 2 (.int .i64 v)).set_ 3 (.string ⟨#[]⟩)).set_ 4 (.slice none 0 0)).set_ 5 (.slice none 0 0))
      exact bodyPost_ret (results_cell6 rfl rfl hxf) rfl ⟨⟨_, rfl, fresh_leafs 3 false v _⟩, RdTo.many (Nat.le_refl _) hR [.int .i64 3, .bool false, .int .i64 v, .string ⟨#[]⟩, .slice none 0 0, .slice none 0 0] 0 HI4.out.went⟩
  · rw [hv] at hPI hres
    simp only at hPI
    subst hres
    have hPc : ∀ W : World, Below wc.heap.size wc W → Calls Tryz.prog 95 #[.string (s.extract k E), .int .i64 10, .int .i64 64] W fun e w' => (∃ n te pe, e = .returned (.tuple #[.int .i64 n, .iface te pe])) ∧ Below W.heap.size W w' := fun W hW => by
      obtain ⟨te, pe, hte⟩ := HN.out W (grownBy_below hI3.went.1 hW)
      exact (Tryz.strconv_ParseInt_range (s.extract k E) (by omega) hPI _ W hte (.inr ⟨te, pe, rfl⟩)).mono fun e w' ⟨N, he, _, _, hb⟩ => ⟨⟨_, _, _, he⟩, hb⟩
    have hlt3 := hI3.went.2.cells.2.2.2.2
    have HPc := Lib.hid hPc
    have HI3 := Lib.hid hI3
    have HPI := Lib.hid hPI
    have Hv := Lib.hid hv
    clear hPc hI3 hPI hv
    go_wp2
    go_region_held3 (fun W => W.cell? ⟨R, 0, none⟩ = some (.string s) ∧ W.cell? ⟨R, 1, none⟩ = some (.int .i64 E)) (go_keep) (first | (go_at_call 95; refine (HPc.out _ (Below.drew (Below.refl _ _))).mono ?_; rintro e w1 ⟨⟨n, te, pe, rfl⟩, hb1⟩; have hbr1 : Below wc.heap.size wc w1 := (Below.drew (Below.refl _ _)).trans hb1; obtain ⟨hc1, hf1⟩ := bcellM hbr1))
    all_goals
      have hW := wrong_calls (.pointer (some ⟨R, 0, none⟩)) 7 (k : Nat) w1
      have hgb := grownBy_below HI3.out.went.1 hbr1
      clear hc1 hf1 hb1 hbr1
      have HW := Lib.hid hW
      have Hgb := Lib.hid hgb
      clear hW hgb
      go_wp2_with (fail)
      with_reducible refine (HW.out).mono ?_
      rintro e w10 ⟨rfl, rfl⟩
      exact ⟨rfl, rfl, Hgb.out⟩
end Go.Proofs.YtgjiienipeoajaaGreatDoor

/- What the rows' listed tables and errors give the walks. No condition. -/
namespace Go.Proofs.YtgjiienipeoajaaGreatDoor
open Go.RowKit Go.ChangeShapes Go.WideShapes Go.ChangeAt

theorem tab_pow10 {W : World} (h : Lib.VarReads Tryz.prog W "internal/strconv.uint64pow10" (Lib.tabData .u64 Lib.pow10Tab)) : Lib.TabIs Tryz.prog W "internal/strconv.uint64pow10" .u64 Lib.pow10Tab := by
  obtain ⟨g', t', cs, fuel, p, hg', ht', hvar, hd⟩ := h
  have hg : Tryz.prog.globalNamed "internal/strconv.uint64pow10" = some 0 := by kernel_rfl
  have hty : (Tryz.prog.globals[0]?).map (·.type) = some 142 := by kernel_rfl
  obtain rfl := Option.some.inj (hg.symm.trans hg')
  obtain rfl := Option.some.inj (hty.symm.trans ht')
  unfold Lib.TabIs
  rw [hvar, ← Lib.cells_of_tab Tryz.underlying142 Tryz.underlying51 (by kernel_rfl) (by kernel_rfl) hd]
theorem trod_iface {H : Type} {enc : TypeId × Value → H} {P : Program} {w : World} {base fuel : Nat} {sp : Nat → Bool} {t : TypeId} {ms : Array (String × TypeId)} {cs : List Value} {name : String} {d : DataW H} {p : List MemPlace} (ht : P.underlying t = some (.interface ms))
    (h : DataW.trod enc P w base sp false fuel t cs = some (.iface name d, p)) : ∃ u v, cs = [.iface u v] := by
  cases fuel with
  | zero => simp [DataW.trod] at h
  | succ n =>
    unfold DataW.trod at h
    rw [ht] at h
    split at h <;> first | exact ⟨_, _, rfl⟩ | simp_all
theorem numT_of {W : World} (h : Lib.VarReads Tryz.prog W "strconv.ErrRange" Rows.laid_strconv_ErrRange) : NumT W := by
  obtain ⟨g', t', cs, fuel, p, hg', ht', hvar, hd⟩ := h
  have hg : Tryz.prog.globalNamed "strconv.ErrRange" = some 7 := by kernel_rfl
  have hty : (Tryz.prog.globals[7]?).map (·.type) = some 96 := by kernel_rfl
  obtain rfl := Option.some.inj (hg.symm.trans hg')
  obtain rfl := Option.some.inj (hty.symm.trans ht')
  unfold World.var? at hvar
  rw [hg] at hvar
  simp only [Option.bind_some] at hvar
  split at hvar
  · rename_i cs' t' fz hh
    simp only [Option.some.injEq] at hvar
    subst hvar
    obtain ⟨u, v, e⟩ := trod_iface Tryz.underlying96 hd
    obtain ⟨l⟩ := cs'
    simp only at e
    subst e
    refine ⟨u, v, ?_⟩
    unfold World.cell?
    rw [hh]
    rfl
  · cases hvar

theorem tabs_of {W : World} (h : laidMetH Tryz.prog Rows.parseReadsRow.laid W) : Tabs W ∧ NumT W := by
  have hL : laidMet Tryz.prog Rows.parseReadsRow.laid W := by
    have := (laidMetH_iff.1 h).1
    have e : (Rows.parseReadsRow.laid.filter fun x => x.2.handleName?.isNone) = Rows.parseReadsRow.laid := by kernel_rfl
    rwa [e] at this
  have hu : Lib.Utf8Tabs 2 3 W :=
    utf8Tabs_of_readsT (U8Types.of196 Tryz.lays196) ⟨by kernel_rfl, by kernel_rfl, by kernel_rfl, by kernel_rfl, by kernel_rfl, by kernel_rfl, by kernel_rfl⟩
      (Lib.laidMet.reads hL (n := "unicode/utf8.first") (d := Lib.firstData) (by rw [← laid_first]; simp [Rows.parseReadsRow])) (Lib.laidMet.reads hL (n := "unicode/utf8.acceptRanges") (d := Lib.acceptData) (by rw [← laid_accept]; simp [Rows.parseReadsRow]))
  have hp := tab_pow10 (Lib.laidMet.reads hL (n := "internal/strconv.uint64pow10") (d := Lib.tabData .u64 Lib.pow10Tab) (by rw [← laid_pow10]; simp [Rows.parseReadsRow]))
  have hr := numT_of (Lib.laidMet.reads hL (n := "strconv.ErrRange") (by simp [Rows.parseReadsRow]))
  refine ⟨⟨?_, hu, hp⟩, hr⟩
  obtain ⟨te, pe, hc⟩ := hr
  have := World.block_lt_of_cell? _ _ hc
  simp only at this
  omega
end Go.Proofs.YtgjiienipeoajaaGreatDoor

/- The last step of a law's row: the answer is true and the arguments read as they did. No condition. -/
namespace Go.Proofs.YtgjiienipeoajaaGreatDoor
open Go.RowKit Go.ChangeShapes Go.WideShapes Go.ChangeAt

theorem i64_in {n : Int} (hwf : (Lit.int .i64 n).wf = true) : -9223372036854775808 ≤ n ∧ n ≤ 9223372036854775807 := by
  have h1 : IntKind.i64.min = -9223372036854775808 := by decide
  have h2 : IntKind.i64.max = 9223372036854775807 := by decide
  simp only [Lit.wf, h1, h2, Bool.and_eq_true, decide_eq_true_eq] at hwf
  exact hwf

section
variable {H : Type} {enc : TypeId × Value → H} {P : Program}
theorem post_of_below {f : Func} {s : ChangeSpec} {apart fresh handsOn again : Bool} {W W' : World} {args : Array Value} {v : Value} {ds gs : List (DataW H)} {before pa pv : List MemPlace}
    (hW : DataW.Whole enc P f.params.toList s.vars apart W args.toList ds gs before)
    (hres : ∀ (b : Nat) (sp : Nat → Bool) (hd : Bool), DataW.TrodAll enc P W' b sp hd f.resultTypes.toList (v.resultList f.resultTypes.size) (s.fn H (ds ++ gs)).results [])
    (hargs : ∀ sp : Nat → Bool, (∀ p ∈ before, sp p.block = true) → DataW.TrodAll enc P W' 0 sp true f.params.toList args.toList (s.fn H (ds ++ gs)).args pa)
    (hvars : ∀ sp : Nat → Bool, (∀ p ∈ before, sp p.block = true) → DataW.TrodVars enc P W' sp s.vars (s.fn H (ds ++ gs)).vars pv)
    (hps : before = pa ++ pv) (hb : Below W.heap.size W W')
    (hok : ∀ (j : Nat) (t : TypeId) (r : Value), f.resultTypes[j]? = some t → (v.resultList f.resultTypes.size)[j]? = some r → Value.okWide P W' .any 0 t r) :
    s.post enc P f apart fresh handsOn again W args v W' := by
  have hlt : ∀ p ∈ before, p.block < W.heap.size := fun p hp => hW.lt p hp
  have hold : ∀ p ∈ before, (fun b => decide (b < W.heap.size)) p.block = true := fun p hp => by simpa using hlt p hp
  refine ⟨ds, gs, before, [], pa, pv, hW, hres _ _ _, hargs _ hold, hvars _ hold, World.keptBut_mono (fun p hp => ⟨hp, ?_⟩) (hb.frame (· ∈ before)), fun _ => ?_⟩
  · rw [hps, List.mem_append] at hp
    exact Or.inr hp
  · obtain ⟨_, _, _, _, _, hz, hn⟩ := hW
    refine ⟨hok, _, _, ([] ++ pa) ++ pv, ⟨[] ++ pa, pv, trodAll_append (hargs _ (fun _ _ => rfl)) (hres _ _ _), hvars _ (fun _ _ => rfl), rfl, ?_, ?_⟩, ?_⟩
    · intro b off hp
      have hin : MemPlace.cell b off ∈ before := by rw [hps]; simpa using hp
      rw [hb.frozen (hlt _ hin)]
      exact hz b off hin
    · intro ha
      have := hn ha
      rw [hps] at this
      simpa using this
    · intro p hp _
      rw [hps]
      simpa using hp
end

end Go.Proofs.YtgjiienipeoajaaGreatDoor
