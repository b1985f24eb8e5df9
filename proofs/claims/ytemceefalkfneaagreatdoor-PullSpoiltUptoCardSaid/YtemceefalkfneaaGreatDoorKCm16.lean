/- Parts, joined: Small laws of worlds and of comparisons. Plain. No condition. Rows of members, joined and parted. Plain. No condition. commonplaceref01.Code: an escape's rune. No condition. commonplaceref02.Within: the values at once within one. Condition: a bulk of at most 10^8. When a value has nothing. Plain. No condition. What was sealed, and a frame's body, or why it has none. Plain. No condition. Parts of a row of bytes, as slices. Plain. No condition. -/
import Derived.WalkKit
import Derived.Below
import Derived.Lib.Hide
import Derived.Test.YtemceefalkfneaaGreatDoorProg
import Derived.Lib.RuneBytes
import Derived.IntWalk
import Derived.Laws.IdiomStrings
import Derived.Maps.AppendAt
import Derived.Laws.Slices
import Derived.Test.YtemceefalkfneaaGreatDoorKCm2
import Derived.Test.YtemceefalkfneaaGreatDoorKCm3
import Derived.Test.YtemceefalkfneaaGreatDoorKCm4
import Derived.Test.YtemceefalkfneaaGreatDoorKCm12
/- Small laws of worlds and of comparisons. Plain. No condition. -/
namespace Go.Proofs.YtemceefalkfneaaGreatDoor
open Go.RowKit

theorem alloc_below (w : World) (o : Obj) : Below w.heap.size w (w.alloc o) := (Below.refl _ _).alloc (Nat.le_refl _) _
theorem beq_cast (n : Nat) : ((n : Int) == 0) = decide (n = 0) := by rw [Bool.eq_iff_iff]; simp
theorem bne_dec (a b : Int) : (a != b) = decide (a ≠ b) := by rw [Bool.eq_iff_iff]; simp
theorem beq_dec (a b : Int) : (a == b) = decide (a = b) := by rw [Bool.eq_iff_iff]; simp
theorem bcellM {W w1 : World} (hb : Below W.heap.size W w1) : (∀ b o, b < W.heap.size → w1.cell? ⟨b, o, none⟩ = W.cell? ⟨b, o, none⟩) ∧ (∀ b o, b < W.heap.size → w1.frozen? ⟨b, o, none⟩ = W.frozen? ⟨b, o, none⟩) :=
  ⟨fun b o h => hb.cell (p := ⟨b, o, none⟩) h, fun b o h => hb.frozen (p := ⟨b, o, none⟩) h⟩
end Go.Proofs.YtemceefalkfneaaGreatDoor

/- Rows of members, joined and parted. Plain. No condition. -/
namespace Go.Proofs.YtemceefalkfneaaGreatDoor
open Go.RowKit

theorem RowO.app {w : World} {B : Nat} : ∀ {a b : List (ByteArray × Val)} {ns ms : List Value}, RowO w B a ns → RowO w B b ms → RowO w B (a ++ b) (ns ++ ms)
  | [], b, ns, ms, h, h' => by
    have : ns = [] := h
    subst this
    exact h'
  | (k, v) :: r, b, ns, ms, ⟨cs, rest, e, h1, h2⟩, h' => by
    subst e
    exact ⟨cs, rest ++ ms, by simp, h1, RowO.app h2 h'⟩
theorem RowO.len {w : World} {B : Nat} : ∀ {l : List (ByteArray × Val)} {ns : List Value}, RowO w B l ns → ns.length = l.length * 7 ∧ ∀ u ∈ ns, u.oneCell' = true
  | [], ns, h => by
    have : ns = [] := h
    subst this
    exact ⟨rfl, fun u hu => by cases hu⟩
  | (k, v) :: r, ns, ⟨cs, rest, e, h1, h2⟩ => by
    subst e
    obtain ⟨a1, a2⟩ := h1.len
    obtain ⟨b1, b2⟩ := RowO.len h2
    refine ⟨by rw [List.length_cons, List.length_append, a1, b1, List.length_cons]; omega, fun u hu => ?_⟩
    rcases List.mem_cons.1 hu with rfl | hu
    · rfl
    rcases List.mem_append.1 hu with hu | hu
    · exact a2 u hu
    · exact b2 u hu
theorem RowO.split {w : World} {B : Nat} : ∀ {l : List (ByteArray × Val)} {ns : List Value} (k : Nat), RowO w B l ns → RowO w B (l.take k) (ns.take (k * 7)) ∧ RowO w B (l.drop k) (ns.drop (k * 7))
  | [], ns, k, h => by
    have : ns = [] := h
    subst this
    simp [RowO]
  | (key, v) :: r, ns, 0, h => by
    simp only [List.take_zero, Nat.zero_mul, List.drop_zero]
    exact ⟨rfl, h⟩
  | (key, v) :: r, ns, k + 1, ⟨cs, rest, e, h1, h2⟩ => by
    subst e
    obtain ⟨a, b⟩ := RowO.split k h2
    have hl := h1.len.1
    have e1 : (Value.string key :: (cs ++ rest)).take ((k + 1) * 7) = .string key :: (cs ++ rest.take (k * 7)) := by
      rw [show (k + 1) * 7 = (6 + k * 7) + 1 from by omega, List.take_succ_cons, List.take_append, hl, List.take_of_length_le (by omega), show 6 + k * 7 - 6 = k * 7 from by omega]
    have e2 : (Value.string key :: (cs ++ rest)).drop ((k + 1) * 7) = rest.drop (k * 7) := by
      rw [show (k + 1) * 7 = (6 + k * 7) + 1 from by omega, List.drop_succ_cons, List.drop_append, hl, List.drop_eq_nil_of_le (by omega), show 6 + k * 7 - 6 = k * 7 from by omega, List.nil_append]
    rw [e1, e2]
    exact ⟨⟨cs, rest.take (k * 7), rfl, h1, a⟩, b⟩
theorem bulkO_app : ∀ (a b : List (ByteArray × Val)), bulkO (a ++ b) = bulkO a + bulkO b
  | [], b => by simp [bulkO]
  | x :: r, b => by simp only [List.cons_append, bulkO, bulkO_app r b]; omega
theorem inO_app : ∀ {a b : List (ByteArray × Val)}, inO a → inO b → inO (a ++ b)
  | [], _, _, h => h
  | x :: r, b, h, h' => by
    simp only [List.cons_append, inO] at h ⊢
    exact ⟨h.1, inO_app h.2 h'⟩

end Go.Proofs.YtemceefalkfneaaGreatDoor

/- commonplaceref01.Code: an escape's rune. No condition. -/
namespace Go.Proofs.YtemceefalkfneaaGreatDoor
open Go.RowKit

/-- What the k-th escape's letter stands for. -/
def codeTab : List Int := [34, 92, 47, 8, 12, 10, 13, 9]

set_option maxHeartbeats 1000000 in
theorem RCode_calls (k : Nat) (c : Int) (h : codeTab[k]? = some c) (w : World) :
    Calls Tryz.prog 200 #[.int .i64 k] w fun e w' => e = .returned (.int .i64 c) ∧ Below w.heap.size w w' := by
  have hk : k < 8 := (List.getElem?_eq_some_iff.1 h).1
  rcases (by omega : k = 0 ∨ k = 1 ∨ k = 2 ∨ k = 3 ∨ k = 4 ∨ k = 5 ∨ k = 6 ∨ k = 7) with rfl | rfl | rfl | rfl | rfl | rfl | rfl | rfl
  all_goals
    (obtain rfl := Option.some.inj h
     clear h hk
     go_enter Tryz.func200, Tryz.ntmps200
     go_wp2
     go_ret
     exact ⟨rfl, (Below.refl _ _).alloc (Nat.le_refl _) _⟩)

end Go.Proofs.YtemceefalkfneaaGreatDoor

/- commonplaceref02.Within: the values at once within one. Condition: a bulk of at most 10^8. -/
namespace Go.Proofs.YtemceefalkfneaaGreatDoor
open Go.RowKit


/-- What an owned row of values is, as a slice. -/
theorem own_slice {w : World} {B m : Nat} {v : Value} {ns : List Value} (h : w.ownsRow B 52 6 v m ns) :
    ∃ la lc, v = .slice la m lc ∧ (m = 0 ∨ ∃ g, la = some ⟨g, 0, none⟩ ∧ B ≤ g ∧ g < w.heap.size ∧ ∀ j u, ns[j]? = some u → w.cell? ⟨g, 0 + j, none⟩ = some u) := by
  rcases h.2 with ⟨rfl, hz⟩ | ⟨g, cap, cur, rfl, hbg, hg, _, _, _, _⟩
  · subst hz
    exact ⟨none, 0, rfl, .inl rfl⟩
  · refine ⟨_, cap, rfl, .inr ⟨g, rfl, hbg, (Array.getElem?_eq_some_iff.1 hg).1, fun j u hu => ?_⟩⟩
    have := h.cells (g := g) rfl j u hu
    rw [Go.WideShapes.add_plain] at this
    exact this

/-- What Within hands back. -/
def WithinPost (w : World) (v : Val) (e : Ending) (w' : World) : Prop :=
  (∃ la lc, e = .returned (.slice la (within v).length lc) ∧ (within v = [] ∨ ∃ g off, la = some ⟨g, off, none⟩ ∧ g < w'.heap.size ∧ HoldsL w' w'.heap.size (within v) g off)) ∧ Below w.heap.size w w'

set_option maxRecDepth 100000 in
set_option maxHeartbeats 2000000 in
theorem within_list (b : Bool) (n : Int) (t : ByteArray) (l : List Val) (o : List (ByteArray × Val)) (la oa : Option Addr) (oc lc : Nat) (w : World) (hl : l = [] ∨ ∃ g off, la = some ⟨g, off, none⟩ ∧ g < w.heap.size ∧ HoldsL w w.heap.size l g off)
    (hb : bulkL l ≤ 100000000) :
    Calls Tryz.prog 131 #[.agg #[.int .i64 5, .bool b, .int .i64 n, .string t, .slice la l.length lc, .slice oa o.length oc]] w (WithinPost w (.mk 5 b n t l o)) := by
  have hln := bulkL_len l
  have hw : within (.mk 5 b n t l o) = l := by simp [within]
  by_cases h0 : l = []
  · subst h0
    clear hl
    go_enter Tryz.func131, Tryz.ntmps131
    have Hw := Lib.hid hw
    clear hw
    cases la
    · go_wp2
      go_ret
      exact ⟨⟨none, 0, by rw [Hw.out]; rfl, .inl Hw.out⟩, (Below.refl _ _).alloc (Nat.le_refl _) _⟩
    · go_wp2
      go_ret
      exact ⟨⟨none, 0, by rw [Hw.out]; rfl, .inl Hw.out⟩, (Below.refl _ _).alloc (Nat.le_refl _) _⟩
  · obtain ⟨g, off, rfl, hg, hL⟩ := hl.resolve_left h0
    obtain ⟨i0, hi, hz0, hz1, hz2⟩ := info_parts info_val
    obtain ⟨ns, hrow, hcells⟩ := HoldsL.row hL
    obtain ⟨hnl, hno⟩ := hrow.len
    have HI := Lib.hid hi
    have HZ0 := Lib.hid hz0
    have HZ1 := Lib.hid hz1
    have HZ2 := Lib.hid hz2
    have Hrow := Lib.hid hrow
    have Hcells := Lib.hid hcells
    have Hw := Lib.hid hw
    have HN := Lib.hid hnl
    have HO := Lib.hid hno
    clear hi hz0 hz1 hz2 hrow hcells hw hnl hno hl hL
    obtain ⟨w1, hw1⟩ : ∃ w1, w.alloc (.cells #[.int .i64 5, .bool b, .int .i64 n, .string t, .slice (some ⟨g, off, none⟩) l.length lc, .slice oa o.length oc] 52) = w1 := ⟨_, rfl⟩
    have hb1 : Below w.heap.size w w1 := hw1 ▸ (Below.refl _ _).alloc (Nat.le_refl _) _
    have hbx1 : w1.heap[w.heap.size]? = some (.cells #[.int .i64 5, .bool b, .int .i64 n, .string t, .slice (some ⟨g, off, none⟩) l.length lc, .slice oa o.length oc] 52 (0, 0)) := by rw [← hw1]; exact heap_alloc_new _ _
    have hz1 : w1.heap.size = w.heap.size + 1 := by rw [← hw1]; simp
    have HB1 := Lib.hid hb1
    have HX1 := Lib.hid hbx1
    have HS1 := Lib.hid hz1
    have Hown : Hid (w1.ownsRow (w.heap.size + 1) 52 6 (.slice none 0 0) 0 []) := World.ownsRow_nil _ _ _ _
    clear hb1 hbx1 hz1
    subst hw1
    go_enter Tryz.func131, Tryz.ntmps131
    go_wp2_with (at_builtin; refine wpList_append_own _ rfl (.tmp 8) (.tmp 10) 49 rfl (w.heap.size + 1) 52 i0 (.agg #[.int .i64 0, .bool false, .int .i64 0, .string ⟨#[]⟩, .slice none 0 0, .slice none 0 0]) 6 88 Tryz.underlying49 HI.out HZ0.out HZ1.out HZ2.out rfl (by decide) (.slice none 0 0) 0 [] rfl Hown.out ⟨g, off, none⟩ l.length lc ns rfl HN.out ?c1 ?c2 ?c3 ?c4 ?c5 ?_)
    case c1 =>
      intro j u hj
      rw [Go.WideShapes.add_plain]
      exact (HB1.out.cell (p := ⟨g, off + j, none⟩) hg).trans (Hcells.out j u hj)
    case c2 => exact HO.out
    case c3 => unfold maxLen; omega
    case c4 => omega
    case c5 => simp
    intro v' w2 hown' hgrow _
    obtain ⟨la', lc', rfl, hsl⟩ := own_slice hown'
    have hbA := ((HB1.out).grown hgrow (by rw [HS1.out]; omega) (fun k hk => by simp [Value.ownBlock] at hk))
    have hbox2 : w2.heap[w.heap.size]? = some (.cells #[.int .i64 5, .bool b, .int .i64 n, .string t, .slice (some ⟨g, off, none⟩) l.length lc, .slice oa o.length oc] 52 (0, 0)) := (hgrow.block _ (by rw [HS1.out]; omega) (by simp [Value.ownBlock])).trans HX1.out
    have d0 : w2.cell? ⟨w.heap.size, 0, none⟩ = some (.int .i64 5) := by rw [Lib.cell_of_heap hbox2]; rfl
    have Hsl := Lib.hid hsl
    have HbA := Lib.hid hbA
    clear hown' hgrow hsl hbA hbox2
    go_wp2
    go_ret
    refine ⟨⟨la', lc', by rw [Hw.out]; rfl, ?_⟩, HbA.out⟩
    rw [Hw.out]
    refine .inr ?_
    rcases Hsl.out with h | ⟨g', rfl, _, hg', hc'⟩
    · exact absurd (List.length_eq_zero_iff.1 h) h0
    · exact ⟨g', 0, rfl, hg', Hrow.out.holds (fun v cs h => HoldsV.more HbA.out.size _ _ (h.below HbA.out)) hc'⟩

set_option maxRecDepth 100000 in
set_option maxHeartbeats 2000000 in
theorem within_obj (b : Bool) (n : Int) (t : ByteArray) (l : List Val) (o : List (ByteArray × Val)) (la oa : Option Addr) (oc lc : Nat) (w : World) (hl : o = [] ∨ ∃ g off, oa = some ⟨g, off, none⟩ ∧ g < w.heap.size ∧ HoldsO w w.heap.size o g off)
    (hb : bulkO o ≤ 100000000) :
    Calls Tryz.prog 131 #[.agg #[.int .i64 6, .bool b, .int .i64 n, .string t, .slice la l.length lc, .slice oa o.length oc]] w (WithinPost w (.mk 6 b n t l o)) := by
  have hln := bulkO_len o
  have hw : within (.mk 6 b n t l o) = o.map (·.2) := by simp [within]
  obtain ⟨i0, hi, hz0, hz1, hz2⟩ := info_parts info_val
  have HI := Lib.hid hi
  have HZ0 := Lib.hid hz0
  have HZ1 := Lib.hid hz1
  have HZ2 := Lib.hid hz2
  have Hw := Lib.hid hw
  clear hi hz0 hz1 hz2 hw
  obtain ⟨w1, hw1⟩ : ∃ w1, w.alloc (.cells #[.int .i64 6, .bool b, .int .i64 n, .string t, .slice la l.length lc, .slice oa o.length oc] 52) = w1 := ⟨_, rfl⟩
  have hb1 : Below w.heap.size w w1 := hw1 ▸ (Below.refl _ _).alloc (Nat.le_refl _) _
  have hbx1 : w1.heap[w.heap.size]? = some (.cells #[.int .i64 6, .bool b, .int .i64 n, .string t, .slice la l.length lc, .slice oa o.length oc] 52 (0, 0)) := by rw [← hw1]; exact heap_alloc_new _ _
  have HB1 := Lib.hid hb1
  have HX1 := Lib.hid hbx1
  have Hown : Hid (w1.ownsRow (w.heap.size + 1) 52 6 (.slice none 0 0) 0 []) := World.ownsRow_nil _ _ _ _
  have HR0 : Hid (RowL w w.heap.size ((o.take 0).map (·.2)) []) := rfl
  clear hb1 hbx1
  subst hw1
  go_enter Tryz.func131, Tryz.ntmps131
  go_wp2_with (fail)
  go_loopw [3, 4] (fun v1 i wr => ∃ (k : Nat) (ns : List Value), i = .int .i64 k ∧ k ≤ o.length ∧ Hid (wr.ownsRow (w.heap.size + 1) 52 6 v1 k ns) ∧ Hid (RowL w w.heap.size ((o.take k).map (·.2)) ns) ∧ Hid (Below w.heap.size w wr) ∧
    Hid (wr.heap[w.heap.size]? = some (.cells #[.int .i64 6, .bool b, .int .i64 n, .string t, .slice la l.length lc, .slice oa o.length oc] 52 (0, 0)))) (fun _ i _ => o.length - (intOf i).toNat)
  case atStart => exact ⟨0, [], rfl, Nat.zero_le _, Hown, HR0, HB1, HX1⟩
  case round =>
    obtain ⟨k, ns, rfl, hk, hown, hrow, hbw, hbx⟩ := hrel
    clear Hown HR0 HB1 HX1
    have b5 : wr.cell? ⟨w.heap.size, 5, none⟩ = some (.slice oa o.length oc) := by rw [Lib.cell_of_heap hbx.out]; rfl
    have hz : w.heap.size < wr.heap.size := (Array.getElem?_eq_some_iff.1 hbx.out).1
    by_cases hlt : k < o.length
    · obtain ⟨g, off, rfl, hg, hL⟩ : ∃ g off, oa = some ⟨g, off, none⟩ ∧ g < w.heap.size ∧ HoldsO w w.heap.size o g off := by
        rcases hl with rfl | h
        · simp at hlt
        · exact h
      obtain ⟨⟨key, x⟩, hx⟩ : ∃ v, o[k]? = some v := ⟨_, List.getElem?_eq_getElem hlt⟩
      have htk : (o.take (k + 1)).map (·.2) = (o.take k).map (·.2) ++ [x] := by rw [List.take_add_one, hx]; simp
      obtain ⟨k', b', n', t', l', o'⟩ := x
      obtain ⟨la', lc', oa', oc', hvs, _, e1, e2, e3, e4, e5, e6⟩ := hL.seven hx
      have cc := fun j (u : Value) (h : w.cell? ⟨g, j, none⟩ = some u) => (hbw.out.cell (p := ⟨g, j, none⟩) hg).trans h
      have c1 := cc _ _ e1
      have c2 := cc _ _ e2
      have c3 := cc _ _ e3
      have c4 := cc _ _ e4
      have c5 := cc _ _ e5
      have c6 := cc _ _ e6
      have hrow' := hrow.out.snoc hvs
      rw [← htk] at hrow'
      have Hrow := Lib.hid hrow'
      have hno := Lib.hid hvs.len.2
      clear hrow' hrow htk hx hL hg e1 e2 e3 e4 e5 e6 cc hvs
      go_wp2_with (at_builtin; refine wpList_append_own _ rfl (.tmp 22) (.tmp 29) 49 rfl (w.heap.size + 1) 52 i0 (.agg #[.int .i64 0, .bool false, .int .i64 0, .string ⟨#[]⟩, .slice none 0 0, .slice none 0 0]) 6 88 Tryz.underlying49 HI.out HZ0.out HZ1.out HZ2.out rfl (by decide) u3 k ns rfl (hown.out.alloc _) ⟨wr.heap.size, 0, none⟩ 1 1 (cells6 k' b' n' t' la' l'.length lc' oa' o'.length oc') rfl rfl ?c1 ?c2 ?c3 ?c4 ?c5 ?_)
      case c1 =>
        intro j u hj
        rw [Go.WideShapes.add_plain]
        rw [Lib.cell_of_heap (heap_alloc_new wr (.cells #[.int .i64 k', .bool b', .int .i64 n', .string t', .slice la' l'.length lc', .slice oa' o'.length oc'] 52)), Nat.zero_add]
        simpa using hj
      case c2 => exact hno.out
      case c3 => unfold maxLen; omega
      case c4 => omega
      case c5 => simp; omega
      intro v' w2 hown' hgrow _
      have ho' := Lib.hid hown'
      have hbA := Lib.hid ((hbw.out.alloc (by omega) (.cells #[.int .i64 k', .bool b', .int .i64 n', .string t', .slice la' l'.length lc', .slice oa' o'.length oc'] 52)).grown hgrow (by simp; omega) (fun q hq => by have := (hown.out.lt q hq).1; omega))
      have hbx2 : Hid (w2.heap[w.heap.size]? = some (.cells #[.int .i64 6, .bool b, .int .i64 n, .string t, .slice la l.length lc, .slice (some ⟨g, off, none⟩) o.length oc] 52 (0, 0))) := by
        show _ = _
        rw [hgrow.block _ (by simp; omega) (fun e => by have := (hown.out.lt _ e.symm).1; omega), Lib.alloc_old wr _ _ hz]
        exact hbx.out
      clear hown' hgrow hown hbw hbx b5 c1 c2 c3 c4 c5 c6 hno
      go_wp2
      go_roundw
      case rel => exact ⟨k + 1, _, by go_num, by omega, ho', Hrow, hbA, hbx2⟩
      case measure => simp only [intOf]; omega
    · obtain rfl : k = o.length := by omega
      have hr' := hrow.out
      rw [List.take_length] at hr'
      obtain ⟨la', lc', rfl, hsl⟩ := own_slice hown.out
      have Hsl := Lib.hid hsl
      have HR := Lib.hid hr'
      have Hlm : Hid (o.length = (o.map (·.2)).length) := by show _ = _; simp
      clear hr' hrow hsl hown hl
      go_wp2
      go_ret
      refine ⟨⟨la', lc', by rw [Hw.out, ← Hlm.out]; rfl, ?_⟩, hbw.out⟩
      rw [Hw.out]
      rcases Hsl.out with h | ⟨g', rfl, _, hg', hc'⟩
      · exact .inl (by rw [List.length_eq_zero_iff.1 h]; rfl)
      · exact .inr ⟨g', 0, rfl, hg', HR.out.holds (fun v cs h => HoldsV.more hbw.out.size _ _ (h.below hbw.out)) hc'⟩

end Go.Proofs.YtemceefalkfneaaGreatDoor

/- When a value has nothing. Plain. No condition. -/
namespace Go.Proofs.YtemceefalkfneaaGreatDoor
open Go.RowKit
/-- Has a value nothing, not even a Kind? -/
def zero6B (k : Int) (b : Bool) (n : Int) (t : ByteArray) (ln on : Nat) : Bool := decide (k = 0) && !b && decide (n = 0) && t.toList.isEmpty && decide (ln = 0) && decide (on = 0)
end Go.Proofs.YtemceefalkfneaaGreatDoor

/- What was sealed, and a frame's body, or why it has none. Plain. No condition. -/
namespace Go.Proofs.YtemceefalkfneaaGreatDoor
/-- The bytes that were sealed. -/
def openL (b : List UInt8) : Option (List UInt8) := if sealedB b then some (b.take (b.length - 4)) else none
theorem sealL_len (l : List UInt8) : (sealL l).length = l.length + 4 := by
  have h4 : (sumBytes (crcMore 0 l)).length = 4 := rfl
  unfold sealL
  rw [List.length_append, h4]
theorem sealL_take (l : List UInt8) : (sealL l).take ((sealL l).length - 4) = l := by
  rw [sealL_len, Nat.add_sub_cancel]
  unfold sealL
  exact List.take_left' rfl
theorem openL_seal (l : List UInt8) : openL (sealL l) = some l := by
  unfold openL
  rw [if_pos (sealedB_seal l), sealL_take]
theorem openL_some {b l : List UInt8} (h : openL b = some l) : b = sealL l := by
  unfold openL at h
  split at h
  · rename_i hs
    rw [← Option.some.inj h]
    exact sealedB_of hs
  · cases h
theorem openL_spoilt (l : List UInt8) (i : Nat) (x y : UInt8) (h : (sealL l)[i]? = some x) (hne : y ≠ x) : openL ((sealL l).set i y) = none := by
  unfold openL
  rw [sealedB_spoilt l i x y h hne]
  rfl
/-- Why there is no body of that kind. -/
def bodyE (k : UInt8) (b : List UInt8) : Int := match openL b with
  | none => 11
  | some [] => 11
  | some (x :: _) => if x = 0 then 2 else if x = k then 0 else 13
/-- The body. -/
def bodyB (b : List UInt8) : List UInt8 := ((openL b).getD []).drop 1
theorem bodyB_seal (k : UInt8) (l : List UInt8) : bodyB (sealL (k :: l)) = l := by
  unfold bodyB
  rw [openL_seal]
  rfl
theorem bodyE_seal {k : UInt8} (hk : k ≠ 0) (l : List UInt8) : bodyE k (sealL (k :: l)) = 0 := by
  unfold bodyE
  rw [openL_seal]
  show (if k = 0 then (2 : Int) else if k = k then 0 else 13) = 0
  rw [if_neg hk, if_pos rfl]
theorem bodyE_other {k j : UInt8} (hk : k ≠ 0) (hj : k ≠ j) (l : List UInt8) : bodyE j (sealL (k :: l)) = 13 := by
  unfold bodyE
  rw [openL_seal]
  simp only
  rw [if_neg hk, if_neg hj]
theorem bodyE_zero {k : UInt8} {b : List UInt8} (h : bodyE k b = 0) : b = sealL (k :: bodyB b) := by
  unfold bodyE at h
  split at h
  · cases h
  · cases h
  · rename_i x r ho
    split at h
    · cases h
    · split at h
      · rename_i _ e
        subst e
        have hb := openL_some ho
        have : bodyB b = r := by
          unfold bodyB
          rw [ho]
          rfl
        rw [this]
        exact hb
      · cases h
theorem bodyE_spoilt (j : UInt8) (l : List UInt8) (i : Nat) (x y : UInt8) (h : (sealL l)[i]? = some x) (hne : y ≠ x) : bodyE j ((sealL l).set i y) = 11 := by
  unfold bodyE
  rw [openL_spoilt l i x y h hne]
theorem bodyB_len (b : List UInt8) : (bodyB b).length ≤ b.length := by
  unfold bodyB openL
  split
  · simp
    omega
  · simp
/-- A mask that is not 0 changes a byte. -/
theorem mask_ne {x m : UInt8} (hm : m ≠ 0) : x ^^^ m ≠ x := by
  intro e
  apply hm
  have h2 := congrArg (x ^^^ ·) e
  simpa [← UInt8.xor_assoc] using h2
end Go.Proofs.YtemceefalkfneaaGreatDoor

/- Parts of a row of bytes, as slices. Plain. No condition. -/
namespace Go.Proofs.YtemceefalkfneaaGreatDoor
open Go Go.RowKit

theorem dB_where {w : World} {B n c : Nat} {l : List UInt8} {a : Option Addr} (h : Holds w B (.row 1 (dB l)) [.slice a n c]) :
    l = [] ∨ ∃ g off, a = some ⟨g, off, none⟩ ∧ g < B ∧ ∀ j x, l[j]? = some x → w.cell? ⟨g, off + j, none⟩ = some (.int .u8 x.toNat) := by
  cases l with
  | nil => exact .inl rfl
  | cons y r =>
    obtain ⟨g, off, rfl, hg, _⟩ := dB_at h (i := 0) (x := y) rfl
    refine .inr ⟨g, off, rfl, hg, fun j x hx => ?_⟩
    obtain ⟨g', off', e, _, hc⟩ := dB_at h hx
    simp only [Option.some.injEq, Addr.mk.injEq, and_true] at e
    obtain ⟨rfl, rfl⟩ := e
    exact hc
theorem dB_row {w : World} {B n c : Nat} {l : List UInt8} {a : Option Addr} (hn : n = l.length) (h : l = [] ∨ ∃ g off, a = some ⟨g, off, none⟩ ∧ g < B ∧ ∀ j x, l[j]? = some x → w.cell? ⟨g, off + j, none⟩ = some (.int .u8 x.toNat)) :
    Holds w B (.row 1 (dB l)) [.slice a n c] := by
  subst hn
  refine ⟨a, c, by rw [dB_len], dB_cells _, bcells l, dB_holds _ _ _, ?_⟩
  rcases h with rfl | ⟨g, off, rfl, hg, hc⟩
  · exact .inl rfl
  · refine .inr ⟨g, off, rfl, hg, fun j u hu => ?_⟩
    unfold bcells at hu
    rw [List.getElem?_map] at hu
    obtain ⟨x, hx, rfl⟩ := Option.map_eq_some_iff.1 hu
    exact hc j x hx
/-- The front. -/
theorem dB_front {w : World} {B n c : Nat} {l : List UInt8} {a : Option Addr} (h : Holds w B (.row 1 (dB l)) [.slice a n c]) (q : Nat) (hq : q ≤ l.length) (c' : Nat) : Holds w B (.row 1 (dB (l.take q))) [.slice a q c'] := by
  refine dB_row (by rw [List.length_take, Nat.min_eq_left hq]) ?_
  rcases dB_where h with rfl | ⟨g, off, rfl, hg, hc⟩
  · exact .inl (by simp)
  · refine .inr ⟨g, off, rfl, hg, fun j x hx => hc j x ?_⟩
    rw [List.getElem?_take] at hx
    split at hx
    · exact hx
    · cases hx
/-- The rest. -/
theorem dB_rest {w : World} {B n c : Nat} {l : List UInt8} {a : Option Addr} (h : Holds w B (.row 1 (dB l)) [.slice a n c]) (p : Nat) (hp : p ≤ l.length) (hc : n ≤ c) (n' c' : Nat) (hn' : n' = l.length - p) : Holds w B (.row 1 (dB (l.drop p))) [.slice (if c = p then a else a.map (·.add (p * 1))) n' c'] := by
  have hn := dB_n h
  refine dB_row (by rw [List.length_drop, hn']) ?_
  by_cases e : p = l.length
  · exact .inl (by rw [e, List.drop_length])
  · rw [if_neg (by omega)]
    rcases dB_where h with rfl | ⟨g, off, rfl, hg, hc⟩
    · exact .inl (by simp)
    · refine .inr ⟨g, off + p, by simp [Addr.add], hg, fun j x hx => ?_⟩
      rw [List.getElem?_drop] at hx
      rw [show off + p + j = off + (p + j) from by omega]
      exact hc _ x hx
end Go.Proofs.YtemceefalkfneaaGreatDoor
