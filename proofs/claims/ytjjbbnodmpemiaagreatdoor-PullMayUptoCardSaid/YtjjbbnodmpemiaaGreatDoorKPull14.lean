/- Parts, joined: commonplaceref02.Equal: has one value all that the other one has? Condition: a bulk of at most 10^8. The reference's word whether ops may be a patch. Condition: a bulk of at most 10^8. Whether an answer may be: the program's word and the reference's. Condition: a bulk of at most 10^8. -/
import Derived.Test.YtjjbbnodmpemiaaGreatDoorProg
import Derived.Deep.RegionHeld3
import Derived.Deep.QuietTactic
import Derived.BigQuiet
import Derived.Lib.Hide
import Derived.Lib.Strings
import Derived.WalkLawsBesides
import Derived.Test.YtjjbbnodmpemiaaGreatDoorKPull13
/- commonplaceref02.Equal: has one value all that the other one has? Condition: a bulk of at most 10^8. -/
namespace Go.Proofs.YtjjbbnodmpemiaaGreatDoor
open Go.RowKit

def EqPost (p : Prop) (w : World) (e : Ending) (w' : World) : Prop := ∃ B : Bool, e = .returned (.bool B) ∧ (B = true ↔ p) ∧ Below w.heap.size w w'
theorem EqPost.no {p : Prop} {w w' : World} (h : ¬p) (hb : Below w.heap.size w w') : EqPost p w (.returned (.bool false)) w' := ⟨false, rfl, by simp [h], hb⟩
theorem EqPost.yes {p : Prop} {w w' : World} (h : p) (hb : Below w.heap.size w w') : EqPost p w (.returned (.bool true)) w' := ⟨true, rfl, by simp [h], hb⟩
/-- What Equal does with a value. -/
def EqC (a : Val) : Prop := ∀ (b : Val) (cs cs' : List Value) (w : World), HoldsV w w.heap.size a cs → HoldsV w w.heap.size b cs' → a.bulk ≤ 100000000 → b.bulk ≤ 100000000 →
    Calls Tryz.prog 33 #[.agg cs.toArray, .agg cs'.toArray] w (EqPost (a = b) w)
theorem below_dr' {B : Nat} {a w : World} (h : Below B a w) (n : Nat) : Below B a (w.drewN n) := ⟨h.os, h.tape, h.output, h.size, h.block⟩
theorem two_boxes (w : World) (o o' : Obj) : Below w.heap.size w ((w.alloc o).alloc o') := (alloc_below w o).alloc (by simp) _
theorem eq_bcell {W w1 : World} (hb : Below W.heap.size W w1) : (∀ b o, b < W.heap.size → w1.cell? ⟨b, o, none⟩ = W.cell? ⟨b, o, none⟩) ∧ (∀ b o, b < W.heap.size → w1.frozen? ⟨b, o, none⟩ = W.frozen? ⟨b, o, none⟩) :=
  ⟨fun b o h => hb.cell (p := ⟨b, o, none⟩) h, fun b o h => hb.frozen (p := ⟨b, o, none⟩) h⟩

set_option maxRecDepth 100000 in
set_option maxHeartbeats 2000000 in
theorem eq_diff (k k' : Int) (b b' : Bool) (n n' : Int) (t t' : ByteArray) (la oa la' oa' : Option Addr) (ln lc on oc ln' lc' on' oc' : Nat) (w : World) (p : Prop) (hp : ¬p) (h : k ≠ k' ∨ b ≠ b' ∨ n ≠ n' ∨ t ≠ t' ∨ ln ≠ ln' ∨ on ≠ on') :
    Calls Tryz.prog 33 #[.agg #[.int .i64 k, .bool b, .int .i64 n, .string t, .slice la ln lc, .slice oa on oc], .agg #[.int .i64 k', .bool b', .int .i64 n', .string t', .slice la' ln' lc', .slice oa' on' oc']] w (EqPost p w) := by
  by_cases hk : k = k'
  rotate_left
  · have e : (k != k') = true := by simpa using hk
    clear h hk
    go_enter Tryz.func33, Tryz.ntmps33
    go_wp2
    go_ret
    exact EqPost.no hp (two_boxes _ _ _)
  subst hk
  by_cases hb : b = b'
  rotate_left
  · clear h
    cases b <;> cases b' <;> first | exact absurd rfl hb | (clear hb; go_enter Tryz.func33, Tryz.ntmps33; go_wp2; go_ret; exact EqPost.no hp (two_boxes _ _ _))
  subst hb
  by_cases hn : n = n'
  rotate_left
  · have e : (n != n') = true := by simpa using hn
    clear h hn
    go_enter Tryz.func33, Tryz.ntmps33
    go_wp2
    go_ret
    exact EqPost.no hp (two_boxes _ _ _)
  subst hn
  by_cases ht : t = t'
  rotate_left
  · have e : (t.toList != t'.toList) = true := by simp only [bne_iff_ne]; exact fun e => ht (by rw [Lib.toList_data, Lib.toList_data] at e; exact ByteArray.ext (Array.ext' e))
    have e2 : (t.toList == t'.toList) = false := by simpa using e
    have e3 : ¬ t.toList = t'.toList := by simpa using e
    clear h ht
    go_enter Tryz.func33, Tryz.ntmps33
    go_wp2
    go_ret
    exact EqPost.no hp (two_boxes _ _ _)
  subst ht
  by_cases hln : ln = ln'
  rotate_left
  · have e : ((ln : Int) != (ln' : Int)) = true := by simp; omega
    clear h hln
    go_enter Tryz.func33, Tryz.ntmps33
    go_wp2
    go_ret
    exact EqPost.no hp (two_boxes _ _ _)
  subst hln
  by_cases hon : on = on'
  rotate_left
  · have e : ((on : Int) != (on' : Int)) = true := by simp; omega
    clear h hon
    go_enter Tryz.func33, Tryz.ntmps33
    go_wp2
    go_ret
    exact EqPost.no hp (two_boxes _ _ _)
  subst hon
  simp at h

/-- The call's two boxes. -/
def EA (w : World) (b1 b2 : Array Value) (wr : World) : Prop := Below w.heap.size w wr ∧ Blk wr w.heap.size 45 b1 ∧ Blk wr (w.heap.size + 1) 45 b2
theorem EA.step {w : World} {b1 b2 : Array Value} {wr w4 : World} (h : EA w b1 b2 wr) (hb : Below wr.heap.size wr w4) : EA w b1 b2 w4 := ⟨h.1.trans (hb.mono h.1.size), h.2.1.below hb h.2.1.lt, h.2.2.below hb h.2.2.lt⟩
theorem take_eq_of {α : Type} {l l' : List α} {q : Nat} {x x' : α} (h : l.take q = l'.take q) (hx : l[q]? = some x) (hx' : l'[q]? = some x') (e : x = x') : l.take (q + 1) = l'.take (q + 1) := by
  rw [List.take_add_one, List.take_add_one, hx, hx', h, e]
theorem ne_of_at {α : Type} {l l' : List α} {q : Nat} {x x' : α} (hx : l[q]? = some x) (hx' : l'[q]? = some x') (e : x ≠ x') : l ≠ l' := by
  rintro rfl
  rw [hx] at hx'
  exact e (Option.some.inj hx')

set_option maxRecDepth 100000 in
set_option maxHeartbeats 8000000 in
theorem eq_same (k : Int) (b : Bool) (n : Int) (t : ByteArray) (l l' : List Val) (o o' : List (ByteArray × Val)) (la oa la' oa' : Option Addr) (lc oc lc' oc' : Nat) (w : World) (IH : ∀ v ∈ l, EqC v) (IHo : ∀ m ∈ o, EqC m.2)
    (hln : l.length = l'.length) (hon : o.length = o'.length)
    (hl : l = [] ∨ ∃ g off, la = some ⟨g, off, none⟩ ∧ g < w.heap.size ∧ HoldsL w w.heap.size l g off) (hl' : l' = [] ∨ ∃ g off, la' = some ⟨g, off, none⟩ ∧ g < w.heap.size ∧ HoldsL w w.heap.size l' g off)
    (ho : o = [] ∨ ∃ g off, oa = some ⟨g, off, none⟩ ∧ g < w.heap.size ∧ HoldsO w w.heap.size o g off) (ho' : o' = [] ∨ ∃ g off, oa' = some ⟨g, off, none⟩ ∧ g < w.heap.size ∧ HoldsO w w.heap.size o' g off)
    (hbl : bulkL l ≤ 100000000) (hbl' : bulkL l' ≤ 100000000) (hbo : bulkO o ≤ 100000000) (hbo' : bulkO o' ≤ 100000000) :
    Calls Tryz.prog 33 #[.agg #[.int .i64 k, .bool b, .int .i64 n, .string t, .slice la l.length lc, .slice oa o.length oc], .agg #[.int .i64 k, .bool b, .int .i64 n, .string t, .slice la' l.length lc', .slice oa' o.length oc']] w (EqPost (l = l' ∧ o = o') w) := by
  have hlb := bulkL_len l
  have hob := bulkO_len o
  have hA0 : EA w #[.int .i64 k, .bool b, .int .i64 n, .string t, .slice la l.length lc, .slice oa o.length oc] #[.int .i64 k, .bool b, .int .i64 n, .string t, .slice la' l.length lc', .slice oa' o.length oc'] ((w.alloc (.cells #[.int .i64 k, .bool b, .int .i64 n, .string t, .slice la l.length lc, .slice oa o.length oc] 45)).alloc (.cells #[.int .i64 k, .bool b, .int .i64 n, .string t, .slice la' l.length lc', .slice oa' o.length oc'] 45)) := by
    refine ⟨two_boxes _ _ _, (Blk.new w 45 #[.int .i64 k, .bool b, .int .i64 n, .string t, .slice la l.length lc, .slice oa o.length oc]).alloc _, ?_⟩
    have := Blk.new (w.alloc (.cells #[.int .i64 k, .bool b, .int .i64 n, .string t, .slice la l.length lc, .slice oa o.length oc] 45)) 45 #[.int .i64 k, .bool b, .int .i64 n, .string t, .slice la' l.length lc', .slice oa' o.length oc']
    simpa using this
  have h00 : l.take 0 = l'.take 0 := by simp
  have HIH := Lib.hid IH
  have HIHo := Lib.hid IHo
  have HA0 := Lib.hid hA0
  have H00 := Lib.hid h00
  have Hln := Lib.hid hln
  have Hon := Lib.hid hon
  have Hl := Lib.hid hl
  have Hl' := Lib.hid hl'
  have Ho := Lib.hid ho
  have Ho' := Lib.hid ho'
  clear hA0 h00 hln hon hl hl' ho ho'
  clear IH IHo
  go_enter Tryz.func33, Tryz.ntmps33
  go_wp2_with (fail)
  obtain ⟨w0, hw0⟩ : ∃ w0, (w.alloc (.cells #[.int .i64 k, .bool b, .int .i64 n, .string t, .slice la l.length lc, .slice oa o.length oc] 45)).alloc (.cells #[.int .i64 k, .bool b, .int .i64 n, .string t, .slice la' l.length lc', .slice oa' o.length oc'] 45) = w0 := ⟨_, rfl⟩
  rw [hw0] at HA0 ⊢
  clear hw0
  go_loopw [5] (fun i wr => ∃ q : Nat, i = .int .i64 q ∧ q ≤ l.length ∧ Hid (l.take q = l'.take q) ∧ Hid (EA w #[.int .i64 k, .bool b, .int .i64 n, .string t, .slice la l.length lc, .slice oa o.length oc] #[.int .i64 k, .bool b, .int .i64 n, .string t, .slice la' l.length lc', .slice oa' o.length oc'] wr)) (fun i _ => l.length - (intOf i).toNat)
  case atStart => exact ⟨0, rfl, Nat.zero_le _, H00, HA0⟩
  case round =>
    obtain ⟨q, rfl, hq, htk, hea⟩ := hrel
    clear H00 HA0
    have m1 := hea.out.2.1.cell 4
    have m2 := hea.out.2.2.cell 4
    by_cases hlt : q < l.length
    · have hlt' : q < l'.length := by have := Hln.out; omega
      obtain ⟨g, off, rfl, hg, hLL⟩ : ∃ g off, la = some ⟨g, off, none⟩ ∧ g < w.heap.size ∧ HoldsL w w.heap.size l g off := Hl.out.resolve_left (by intro e; rw [e] at hlt; simp at hlt)
      obtain ⟨g', off', rfl, hg', hLL'⟩ : ∃ g off, la' = some ⟨g, off, none⟩ ∧ g < w.heap.size ∧ HoldsL w w.heap.size l' g off := Hl'.out.resolve_left (by intro e; rw [e] at hlt'; simp at hlt')
      obtain ⟨x, hx⟩ : ∃ v, l[q]? = some v := ⟨_, List.getElem?_eq_getElem hlt⟩
      obtain ⟨x', hx'⟩ : ∃ v, l'[q]? = some v := ⟨_, List.getElem?_eq_getElem hlt'⟩
      have IHx := HIH.out _ (List.mem_of_getElem? hx)
      have hbv := bulkL_mem (List.mem_of_getElem? hx)
      have hbv' := bulkL_mem (List.mem_of_getElem? hx')
      have := trivial
      have hbw := hea.out.1
      have hz := hbw.size
      have hT := fun e => take_eq_of htk.out hx hx' e
      have hN := fun e => ne_of_at hx hx' e
      obtain ⟨xv, hxv⟩ : ∃ xv, x = xv := ⟨_, rfl⟩
      obtain ⟨xv', hxv'⟩ : ∃ xv, x' = xv := ⟨_, rfl⟩
      obtain ⟨k1, b1, n1, t1, l1, o1⟩ := x
      obtain ⟨k2, b2, n2, t2, l2, o2⟩ := x'
      obtain ⟨la1, lc1, oa1, oc1, hv1, c0, c1, c2, c3, c4, c5⟩ := (hLL.below hg hbw).six hx
      obtain ⟨la2, lc2, oa2, oc2, hv2, d0, d1, d2, d3, d4, d5⟩ := (hLL'.below hg' hbw).six hx'
      have hC : ∀ W, Below wr.heap.size wr W → Calls Tryz.prog 33 #[.agg #[.int .i64 k1, .bool b1, .int .i64 n1, .string t1, .slice la1 l1.length lc1, .slice oa1 o1.length oc1], .agg #[.int .i64 k2, .bool b2, .int .i64 n2, .string t2, .slice la2 l2.length lc2, .slice oa2 o2.length oc2]] W (EqPost (xv = xv') W) := fun W hW => by
        rw [← hxv, ← hxv']
        exact IHx _ _ _ W (HoldsV.more (Nat.le_trans hz hW.size) _ _ (hv1.below (hW.mono hz))) (HoldsV.more (Nat.le_trans hz hW.size) _ _ (hv2.below (hW.mono hz))) (by omega) (by omega)
      rw [hxv, hxv'] at hT hN
      have z1 : g < wr.heap.size := by omega
      have z2 : g' < wr.heap.size := by omega
      have z3 : w.heap.size < wr.heap.size := hea.out.2.1.lt
      have z4 : w.heap.size + 1 < wr.heap.size := hea.out.2.2.lt
      have z5 : (q : Int) < (l.length : Int) := by omega
      have HC := Lib.hid hC
      have HT := Lib.hid hT
      have HN := Lib.hid hN
      clear hC hT hN
      clear hbw hv1 hv2 hx hx' IHx hLL hLL' hxv hxv' htk
      go_wp2_with (fail)
      go_region_held3 (fun W => W.cell? ⟨w.heap.size, 4, none⟩ = some (.slice (some ⟨g, off, none⟩) l.length lc) ∧ W.cell? ⟨w.heap.size + 1, 4, none⟩ = some (.slice (some ⟨g', off', none⟩) l.length lc') ∧ W.cell? ⟨g, off + q * 6, none⟩ = some (.int .i64 k1) ∧ W.cell? ⟨g, off + q * 6 + 1, none⟩ = some (.bool b1) ∧ W.cell? ⟨g, off + q * 6 + 2, none⟩ = some (.int .i64 n1) ∧ W.cell? ⟨g, off + q * 6 + 3, none⟩ = some (.string t1) ∧ W.cell? ⟨g, off + q * 6 + 4, none⟩ = some (.slice la1 l1.length lc1) ∧ W.cell? ⟨g, off + q * 6 + 5, none⟩ = some (.slice oa1 o1.length oc1) ∧ W.cell? ⟨g', off' + q * 6, none⟩ = some (.int .i64 k2) ∧ W.cell? ⟨g', off' + q * 6 + 1, none⟩ = some (.bool b2) ∧ W.cell? ⟨g', off' + q * 6 + 2, none⟩ = some (.int .i64 n2) ∧ W.cell? ⟨g', off' + q * 6 + 3, none⟩ = some (.string t2) ∧ W.cell? ⟨g', off' + q * 6 + 4, none⟩ = some (.slice la2 l2.length lc2) ∧ W.cell? ⟨g', off' + q * 6 + 5, none⟩ = some (.slice oa2 o2.length oc2)) (go_keep) (first | (go_at_call 33; refine (HC.out _ ?_).mono ?_; (exact (Below.drew (Below.refl _ _))); rintro e w4 ⟨B, rfl, hB, hb4⟩; have hbr : Below wr.heap.size wr w4 := ((Below.drew (Below.refl _ _)).trans hb4); obtain ⟨hc4, hf4⟩ := eq_bcell hbr))
      all_goals
        have HE4 : Hid (EA w #[.int .i64 k, .bool b, .int .i64 n, .string t, .slice (some ⟨g, off, none⟩) l.length lc, .slice oa o.length oc] #[.int .i64 k, .bool b, .int .i64 n, .string t, .slice (some ⟨g', off', none⟩) l.length lc', .slice oa' o.length oc'] w4) := hea.out.step hbr
        clear hb4 hbr hc4 hf4 hea
        cases B with
        | true =>
          have HT' := Lib.hid (HT.out ((hB.1 rfl)))
          clear hB HT HN
          go_wp2
          go_roundw
          case rel => exact ⟨q + 1, by go_num, by omega, HT', HE4⟩
          case measure => simp only [intOf]; omega
        | false =>
          have hno : ¬(l = l' ∧ o = o') := fun h => HN.out ((fun e => by have := hB.2 e; cases this)) h.1
          have Hno := Lib.hid hno
          clear hB HT HN hno
          go_wp2
          go_ret
          exact EqPost.no Hno.out HE4.out.1
    · obtain rfl : q = l.length := by omega
      have hE := htk.out
      rw [List.take_length, Hln.out, List.take_length] at hE
      have HE := Lib.hid hE
      clear hE
      clear htk
      have HE0 := HE
      clear HE m1 m2
      obtain ⟨wo, hwo⟩ : ∃ wo : World, wo = wr := ⟨_, rfl⟩
      subst hwo
      have hb5 := hea.out.2.1.cell 5
      have h01 : o.take 0 = o'.take 0 := by simp
      have H01 := Lib.hid h01
      clear h01
      have m4 := hea.out.2.1.cell 4
      go_wp2_with (fail)
      clear m4
      go_loopw [6] (fun i wr => ∃ q : Nat, i = .int .i64 q ∧ q ≤ o.length ∧ Hid (o.take q = o'.take q) ∧ Hid (EA w #[.int .i64 k, .bool b, .int .i64 n, .string t, .slice la l.length lc, .slice oa o.length oc] #[.int .i64 k, .bool b, .int .i64 n, .string t, .slice la' l.length lc', .slice oa' o.length oc'] wr)) (fun i _ => o.length - (intOf i).toNat)
      case atStart => exact ⟨0, rfl, Nat.zero_le _, H01, hea⟩
      case round =>
        obtain ⟨q, rfl, hq, htk, hea⟩ := hrel
        clear H01
        have m1 := hea.out.2.1.cell 5
        have m2 := hea.out.2.2.cell 5
        by_cases hlt : q < o.length
        · have hlt' : q < o'.length := by have := Hon.out; omega
          obtain ⟨g, off, rfl, hg, hLL⟩ : ∃ g off, oa = some ⟨g, off, none⟩ ∧ g < w.heap.size ∧ HoldsO w w.heap.size o g off := Ho.out.resolve_left (by intro e; rw [e] at hlt; simp at hlt)
          obtain ⟨g', off', rfl, hg', hLL'⟩ : ∃ g off, oa' = some ⟨g, off, none⟩ ∧ g < w.heap.size ∧ HoldsO w w.heap.size o' g off := Ho'.out.resolve_left (by intro e; rw [e] at hlt'; simp at hlt')
          obtain ⟨⟨key, x⟩, hx⟩ : ∃ v, o[q]? = some v := ⟨_, List.getElem?_eq_getElem hlt⟩
          obtain ⟨⟨key', x'⟩, hx'⟩ : ∃ v, o'[q]? = some v := ⟨_, List.getElem?_eq_getElem hlt'⟩
          have IHx := HIHo.out _ (List.mem_of_getElem? hx)
          have hbv := bulkO_mem (List.mem_of_getElem? hx)
          have hbv' := bulkO_mem (List.mem_of_getElem? hx')
          simp only at IHx hbv hbv'
          have hbw := hea.out.1
          have hz := hbw.size
          have hT := fun e => take_eq_of htk.out hx hx' e
          have hN := fun e => ne_of_at hx hx' e
          obtain ⟨xv, hxv⟩ : ∃ xv, x = xv := ⟨_, rfl⟩
          obtain ⟨xv', hxv'⟩ : ∃ xv, x' = xv := ⟨_, rfl⟩
          obtain ⟨k1, b1, n1, t1, l1, o1⟩ := x
          obtain ⟨k2, b2, n2, t2, l2, o2⟩ := x'
          obtain ⟨la1, lc1, oa1, oc1, hv1, c0, c1, c2, c3, c4, c5, c6⟩ := (hLL.below hg hbw).seven hx
          obtain ⟨la2, lc2, oa2, oc2, hv2, d0, d1, d2, d3, d4, d5, d6⟩ := (hLL'.below hg' hbw).seven hx'
          have hC : ∀ W, Below wr.heap.size wr W → Calls Tryz.prog 33 #[.agg #[.int .i64 k1, .bool b1, .int .i64 n1, .string t1, .slice la1 l1.length lc1, .slice oa1 o1.length oc1], .agg #[.int .i64 k2, .bool b2, .int .i64 n2, .string t2, .slice la2 l2.length lc2, .slice oa2 o2.length oc2]] W (EqPost (xv = xv') W) := fun W hW => by
            rw [← hxv, ← hxv']
            exact IHx _ _ _ W (HoldsV.more (Nat.le_trans hz hW.size) _ _ (hv1.below (hW.mono hz))) (HoldsV.more (Nat.le_trans hz hW.size) _ _ (hv2.below (hW.mono hz))) (by omega) (by omega)
          rw [hxv, hxv'] at hT hN
          have z1 : g < wr.heap.size := by omega
          have z2 : g' < wr.heap.size := by omega
          have z3 : w.heap.size < wr.heap.size := hea.out.2.1.lt
          have z4 : w.heap.size + 1 < wr.heap.size := hea.out.2.2.lt
          have z5 : (q : Int) < (o.length : Int) := by omega
          have HC := Lib.hid hC
          have HT := Lib.hid hT
          have HN := Lib.hid hN
          clear hC hT hN
          clear hbw hv1 hv2 hx hx' IHx hLL hLL' hxv hxv' htk
          by_cases hk : key.toList = key'.toList
          · have hkk := toList_inj hk
            subst hkk
            have e1 : (key.toList != key.toList) = false := by simp
            clear hk
            go_wp2_with (fail)
            go_region_held3 (fun W => W.cell? ⟨w.heap.size, 5, none⟩ = some (.slice (some ⟨g, off, none⟩) o.length oc) ∧ W.cell? ⟨w.heap.size + 1, 5, none⟩ = some (.slice (some ⟨g', off', none⟩) o.length oc') ∧ W.cell? ⟨g, off + q * 7, none⟩ = some (.string key) ∧ W.cell? ⟨g, off + q * 7 + 1, none⟩ = some (.int .i64 k1) ∧ W.cell? ⟨g, off + q * 7 + 2, none⟩ = some (.bool b1) ∧ W.cell? ⟨g, off + q * 7 + 3, none⟩ = some (.int .i64 n1) ∧ W.cell? ⟨g, off + q * 7 + 4, none⟩ = some (.string t1) ∧ W.cell? ⟨g, off + q * 7 + 5, none⟩ = some (.slice la1 l1.length lc1) ∧ W.cell? ⟨g, off + q * 7 + 6, none⟩ = some (.slice oa1 o1.length oc1) ∧ W.cell? ⟨g', off' + q * 7, none⟩ = some (.string key) ∧ W.cell? ⟨g', off' + q * 7 + 1, none⟩ = some (.int .i64 k2) ∧ W.cell? ⟨g', off' + q * 7 + 2, none⟩ = some (.bool b2) ∧ W.cell? ⟨g', off' + q * 7 + 3, none⟩ = some (.int .i64 n2) ∧ W.cell? ⟨g', off' + q * 7 + 4, none⟩ = some (.string t2) ∧ W.cell? ⟨g', off' + q * 7 + 5, none⟩ = some (.slice la2 l2.length lc2) ∧ W.cell? ⟨g', off' + q * 7 + 6, none⟩ = some (.slice oa2 o2.length oc2)) (go_keep) (first | (go_at_call 33; refine (HC.out _ ?_).mono ?_; (exact (Below.drew (Below.refl _ _))); rintro e w4 ⟨B, rfl, hB, hb4⟩; have hbr : Below wr.heap.size wr w4 := ((Below.drew (Below.refl _ _)).trans hb4); obtain ⟨hc4, hf4⟩ := eq_bcell hbr))
            all_goals
              have HE4 : Hid (EA w #[.int .i64 k, .bool b, .int .i64 n, .string t, .slice la l.length lc, .slice (some ⟨g, off, none⟩) o.length oc] #[.int .i64 k, .bool b, .int .i64 n, .string t, .slice la' l.length lc', .slice (some ⟨g', off', none⟩) o.length oc'] w4) := hea.out.step hbr
              clear hb4 hbr hc4 hf4 hea
              cases B with
              | true =>
                have HT' := Lib.hid (HT.out (by rw [hB.1 rfl]))
                clear hB HT HN
                go_wp2
                go_roundw
                case rel => exact ⟨q + 1, by go_num, by omega, HT', HE4⟩
                case measure => simp only [intOf]; omega
              | false =>
                have hno : ¬(l = l' ∧ o = o') := fun h => HN.out (fun e => by have := hB.2 (congrArg Prod.snd e); cases this) h.2
                have Hno := Lib.hid hno
                clear hB HT HN hno
                go_wp2
                go_ret
                exact EqPost.no Hno.out HE4.out.1
          · have e1 : (key.toList != key'.toList) = true := by simpa using hk
            have e2 : (key.toList == key'.toList) = false := by simpa using hk
            have hno : ¬(l = l' ∧ o = o') := fun h => HN.out (fun e => hk (by have e5 := congrArg Prod.fst e; simp only at e5; rw [e5])) h.2
            have Hno := Lib.hid hno
            have Hk := Lib.hid hk
            clear hno hk
            clear HC HT HN
            go_wp2_with (fail)
            go_quiet (fail)
            go_wp2
            go_ret
            exact EqPost.no Hno.out (by first | exact below_dr' hea.out.1 _ | exact below_dr' (below_dr' hea.out.1 _) _)
        · obtain rfl : q = o.length := by omega
          have hE := htk.out
          rw [List.take_length, Hon.out, List.take_length] at hE
          have HE := Lib.hid hE
          clear hE
          clear htk
          go_wp2
          go_ret
          exact EqPost.yes ⟨HE0.out, HE.out⟩ hea.out.1

/-- commonplaceref02.Equal: yes of a value and itself alone. -/
theorem req_calls : ∀ a, EqC a := by
  refine Val.ind ?_
  intro k b n t l o hl ho b' cs cs' w hV hV' hb hb'
  obtain ⟨k', b', n', t', l', o'⟩ := b'
  simp only [HoldsV] at hV hV'
  obtain ⟨la, lc, oa, oc, rfl, hla, hoa⟩ := hV
  obtain ⟨la', lc', oa', oc', rfl, hla', hoa'⟩ := hV'
  simp only [Val.bulk] at hb hb'
  by_cases hd : k ≠ k' ∨ b ≠ b' ∨ n ≠ n' ∨ t ≠ t' ∨ l.length ≠ l'.length ∨ o.length ≠ o'.length
  · exact eq_diff k k' b b' n n' t t' la oa la' oa' l.length lc o.length oc l'.length lc' o'.length oc' w _ (by rintro ⟨⟩; simp at hd) hd
  · simp only [not_or, Decidable.not_not] at hd
    obtain ⟨rfl, rfl, rfl, rfl, e1, e2⟩ := hd
    have := eq_same k b n t l l' o o' la oa la' oa' lc oc lc' oc' w hl ho e1 e2 hla hla' hoa hoa' (by omega) (by omega) (by omega) (by omega)
    rw [e1, e2] at this
    refine (show cells6 k b n t la l.length lc oa o.length oc = _ by rw [e1, e2]) ▸ this.mono ?_
    rintro e w' ⟨B, rfl, hB, hb⟩
    exact ⟨B, rfl, by rw [hB]; simp, hb⟩
end Go.Proofs.YtjjbbnodmpemiaaGreatDoor

/- The reference's word whether ops may be a patch. Condition: a bulk of at most 10^8. -/
namespace Go.Proofs.YtjjbbnodmpemiaaGreatDoor
open Go.RowKit

theorem rkey_calls (s : ByteArray) (w : World) (hs : s.size ≤ 1000000000) : Calls Tryz.prog 34 #[.string s] w fun e w' => e = .returned (.int .i64 (keyE s)) ∧ w = w' := by
  obtain ⟨B, hB⟩ : ∃ B, validB s = B := ⟨_, rfl⟩
  have hC := fun W => RValid_calls2 hB W hs
  have e0 : s.toList.isEmpty = decide (s.size = 0) := by
    rw [Lib.toList_data, Lib.size_eq]; cases s.data.toList <;> simp
  have hE : keyE s = if s.size = 0 then 8 else if 64 < s.size then 6 else if B then 0 else 3 := by
    unfold keyE
    rw [e0, hB]; simp
  have HC := Lib.hid hC
  clear hC
  clear hB e0
  by_cases h0 : s.size = 0
  · rw [if_pos h0] at hE
    have t0 : ((s.size : Int) == 0) = true := by rw [beq_iff_eq]; omega
    have HE := Lib.hid hE
    clear hE
    clear h0
    go_enter Tryz.func34, Tryz.ntmps34
    go_wp2
    go_ret
    exact ⟨by rw [HE.out]; rfl, rfl⟩
  rw [if_neg h0] at hE
  have t0 : ((s.size : Int) == 0) = false := by rw [beq_eq_false_iff_ne]; omega
  by_cases h1 : 64 < s.size
  · rw [if_pos h1] at hE
    have t1 : (64 : Int) < (s.size : Int) := by omega
    have HE := Lib.hid hE
    clear hE
    clear h0 h1
    go_enter Tryz.func34, Tryz.ntmps34
    go_wp2
    go_ret
    exact ⟨by rw [HE.out]; rfl, rfl⟩
  rw [if_neg h1] at hE
  have t1 : (s.size : Int) ≤ 64 := by omega
  have HE := Lib.hid hE
  clear hE
  clear h0 h1
  cases B with
  | true =>
    go_enter Tryz.func34, Tryz.ntmps34
    go_wp2_with (go_at_call 52; (with_reducible refine (HC.out _).mono ?_); rintro e w2 ⟨rfl, rfl⟩)
    go_ret
    exact ⟨by rw [HE.out]; rfl, rfl⟩
  | false =>
    go_enter Tryz.func34, Tryz.ntmps34
    go_wp2_with (go_at_call 52; (with_reducible refine (HC.out _).mono ?_); rintro e w2 ⟨rfl, rfl⟩)
    go_ret
    exact ⟨by rw [HE.out]; rfl, rfl⟩

abbrev zeroV : Val := .mk 0 false 0 ⟨#[]⟩ [] []
theorem zeroB_iff (v : Val) : zeroB v = true ↔ v = zeroV := by
  obtain ⟨k, b, n, t, l, o⟩ := v
  simp only [zeroB, zero6B, Bool.and_eq_true, decide_eq_true_eq, Bool.not_eq_true', List.length_eq_zero_iff, List.isEmpty_iff, Val.mk.injEq]
  constructor
  · rintro ⟨⟨⟨⟨⟨rfl, rfl⟩, rfl⟩, ht⟩, rfl⟩, rfl⟩
    refine ⟨rfl, rfl, rfl, ?_, rfl, rfl⟩
    rw [Lib.toList_data] at ht
    exact ByteArray.ext (Array.ext' ht)
  · rintro ⟨rfl, rfl, rfl, rfl, rfl, rfl⟩
    exact ⟨⟨⟨⟨⟨rfl, rfl⟩, rfl⟩, by rw [Lib.toList_data]⟩, rfl⟩, rfl⟩
theorem holds_zero (w : World) (B : Nat) : HoldsV w B zeroV [.int .i64 0, .bool false, .int .i64 0, .string ⟨#[]⟩, .slice none 0 0, .slice none 0 0] := by
  simp only [HoldsV]
  exact ⟨none, 0, none, 0, rfl, by simp, by simp⟩
/-- Is a value nothing at all, as the reference asks it? -/
theorem rzero_calls (v : Val) (cs : List Value) (w : World) (hV : HoldsV w w.heap.size v cs) (hb : v.bulk ≤ 100000000) {B : Bool} (hB : zeroB v = B) :
    Calls Tryz.prog 33 #[.agg cs.toArray, .agg #[.int .i64 0, .bool false, .int .i64 0, .string ⟨#[]⟩, .slice none 0 0, .slice none 0 0]] w fun e w' => e = .returned (.bool B) ∧ Below w.heap.size w w' := by
  refine (req_calls v zeroV cs _ w hV (holds_zero _ _) hb (by simp [Val.bulk, bulkL, bulkO, ByteArray.size])).mono ?_
  rintro e w' ⟨X, rfl, hX, hb'⟩
  refine ⟨?_, hb'⟩
  rw [← zeroB_iff, hB] at hX
  cases X <;> cases B <;> simp_all

theorem le_not (x y : List UInt8) : (Op.bytesLess x y || x == y) = !Op.bytesLess y x := by
  rcases bl_tri x y with h | h | h
  · have : Op.bytesLess y x = false := by
      cases h2 : Op.bytesLess y x with
      | false => rfl
      | true => have := bl_trans h h2; rw [bl_irrefl] at this; cases this
    simp [h, this]
  · subst h; simp [bl_irrefl]
  · have h1 : Op.bytesLess x y = false := by
      cases h2 : Op.bytesLess x y with
      | false => rfl
      | true => have := bl_trans h h2; rw [bl_irrefl] at this; cases this
    have h3 : (x == y) = false := by
      rw [beq_eq_false_iff_ne]
      rintro rfl
      rw [bl_irrefl] at h; cases h
    simp [h, h1, h3]

set_option maxRecDepth 100000 in
set_option maxHeartbeats 8000000 in
theorem rpatMay_calls (l : List POp) (a : Option Addr) (n c : Nat) (w : World) (hT : Tabs w) (h : Holds w w.heap.size (.row 8 (dQs l)) [.slice a n c]) (hb : bulkQ l ≤ 100000000) (hin : inQ l) :
    Calls Tryz.prog 17 #[.slice a n c] w fun e w' => e = .returned (.int .i64 (mayOps none l)) ∧ Below w.heap.size w w' := by
  have hlq := bulkQ_len l
  have hn := h.row_len
  rw [dQs_len] at hn
  subst hn
  have hm0 : mayOps (prevQ l 0) (l.drop 0) = mayOps none l := by rw [List.drop_zero]; rfl
  have hw0 : Below w.heap.size w w := Below.refl _ _
  have H := Lib.hid h
  have Hm0 := Lib.hid hm0
  have Hw0 := Lib.hid hw0
  have HT := Lib.hid hT
  have Hin := Lib.hid hin
  clear h hm0 hw0 hT hin
  go_enter Tryz.func17, Tryz.ntmps17
  go_wp2_with (fail)
  go_loopw [3] (fun i wr => ∃ q : Nat, i = .int .i64 q ∧ q ≤ l.length ∧ Hid (mayOps (prevQ l q) (l.drop q) = mayOps none l) ∧ Hid (Below w.heap.size w wr)) (fun i _ => l.length - (intOf i).toNat)
  case atStart => exact ⟨0, rfl, Nat.zero_le _, Hm0, Hw0⟩
  case round =>
    obtain ⟨q, rfl, hq, hm, hbw⟩ := hrel
    clear Hm0 Hw0
    by_cases hlt : q < l.length
    · obtain ⟨p, hp⟩ : ∃ p, l[q]? = some p := ⟨_, List.getElem?_eq_getElem hlt⟩
      have hdr := drop_of_get hp
      have hmem := List.mem_of_getElem? hp
      have hbq := bulkQ_mem hmem
      have hiq := Hin.out p hmem
      have hpv : prevQ l (q + 1) = some p := hp
      have hm' := hm.out
      rw [hdr] at hm'
      simp only [mayOps] at hm'
      rw [← hpv] at hm'
      obtain ⟨k, key, ⟨k', b', n', t', l', o'⟩⟩ := p
      simp only at hbq hiq hm'
      have hz := hbw.out.size
      obtain ⟨g, off, rfl, hg, la', lc', oa', oc', hv, c0, c1, c2, c3, c4, c5, c6, c7⟩ := opQ_at ((H.out.below hbw.out).more hz) hp
      have hgr : g < wr.heap.size := hg
      have hq1 : (q : Int) < (l.length : Int) := by omega
      have hq0 : (0 : Int) ≤ q := by omega
      have hTr := HT.out.below hbw.out
      -- what the test of its own tells
      by_cases hk13 : 1 ≤ k ∧ k ≤ 3
      rotate_left
      · have hs : strangeB ⟨k, key, .mk k' b' n' t' l' o'⟩ = true := by
          unfold strangeB
          rw [if_neg (by simp only; omega), if_neg (by simp only; omega), if_neg (by simp only; omega)]
        rw [hs, Bool.true_or, if_pos rfl] at hm'
        have hkk : k < 1 ∨ 3 < k := by omega
        have Hm' := Lib.hid hm'
        have Hp := Lib.hid hp
        have Hiq := Lib.hid hiq
        have Hv := Lib.hid hv
        have Hbw := Lib.hid hbw
        have HTr := Lib.hid hTr
        clear hm' hp hiq hv hbw hTr
        clear hm hdr hmem hpv hs hk13 c2 c3 c4 c5 c6 c7
        rcases hkk with hk1 | hk3
        · go_wp2
          go_ret
          exact ⟨by rw [← Hm'.out]; rfl, Hbw.out.out⟩
        · have hk1 : 1 ≤ k := by omega
          go_wp2
          go_ret
          exact ⟨by rw [← Hm'.out]; rfl, Hbw.out.out⟩
      obtain ⟨hk1, hk3⟩ := hk13
      obtain ⟨Z, hZ⟩ : ∃ Z, zeroB (.mk k' b' n' t' l' o') = Z := ⟨_, rfl⟩
      have hEq := fun (W : World) hB => rzero_calls (.mk k' b' n' t' l' o') _ W ((hv.below (w' := W) hB).more hB.size) (by omega) hZ
      obtain ⟨S, hS⟩ : ∃ S, (decide (k ≠ 1) && !Z) = S := ⟨_, rfl⟩
      have hst : strangeB ⟨k, key, .mk k' b' n' t' l' o'⟩ = (S || decide (k = 3) && !key.toList.isEmpty) := by
        unfold strangeB
        simp only [hZ, ← hS]
        rcases (by omega : k = 1 ∨ k = 2 ∨ k = 3) with rfl | rfl | rfl
        · simp
        · simp
        · cases Z <;> cases key.toList.isEmpty <;> simp
      have Hm' := Lib.hid hm'
      have Hp := Lib.hid hp
      have Hiq := Lib.hid hiq
      have Hv := Lib.hid hv
      have Hbw := Lib.hid hbw
      have HTr := Lib.hid hTr
      have HEq := Lib.hid hEq
      have Hst := Lib.hid hst
      have HS := Lib.hid hS
      have HZ := Lib.hid hZ
      clear hm' hp hiq hv hbw hTr hEq hst hS hZ
      clear hm hdr hmem hpv
      go_upto_region 5 with (fail)
      go_cut [36] (fun s wx => s = .bool S ∧ Hid (Below wr.heap.size wr wx))
      case first =>
        by_cases hk : k = 1
        · subst hk
          have eS : S = false := by rw [← HS.out]; simp
          subst eS
          go_wp2
          go_meet
          exact ⟨rfl, Below.refl _ _⟩
        · have eS : S = !Z := by rw [← HS.out]; simp [hk]
          subst eS
          have tk : (k != 1) = true := by simpa using hk
          clear hk
          go_wp2_with (go_at_call 33; (with_reducible refine (HEq.out _ (Below.refl _ _)).mono ?_); rintro e w4 ⟨rfl, hb4⟩)
          go_meet
          exact ⟨by rw [decide_eq_false (by omega), decide_eq_false (by omega)]; rfl, hb4⟩
      case rest =>
        obtain ⟨rfl, hbx⟩ := hcut
        obtain ⟨wo, rfl⟩ : ∃ wo : World, wo = wc := ⟨_, rfl⟩
        obtain ⟨hco, hfo⟩ := bcellM hbx.out
        have hBo : Below w.heap.size w wo := Hbw.out.out.trans (hbx.out.mono hz)
        have hlx : wr.heap.size ≤ wo.heap.size := hbx.out.size
        have hm := Hm'.out
        rw [Hst.out] at hm
        cases S with
        | true =>
          rw [Bool.true_or, Bool.true_or, if_pos rfl] at hm
          have Hm := Lib.hid hm
          have HBo := Lib.hid hBo
          clear hm hBo
          go_wp2
          go_ret
          exact ⟨by rw [← Hm.out]; rfl, HBo.out⟩
        | false =>
          rw [Bool.false_or] at hm
          by_cases e3 : k = 3
          · subst e3
            by_cases hC : 0 < q ∨ key.toList ≠ []
            · have hm2 : mayOps none l = 2 := by
                rw [← hm, if_pos]
                rcases hC with hC | hC
                · obtain ⟨j, rfl⟩ : ∃ j, q = j + 1 := ⟨q - 1, by omega⟩
                  obtain ⟨pj, hpj⟩ : ∃ pj, l[j]? = some pj := ⟨_, List.getElem?_eq_getElem (by omega)⟩
                  simp [prevQ, hpj, followsB]
                · simp [hC]
              have Hm2 := Lib.hid hm2
              have HBo := Lib.hid hBo
              clear hm2 hBo
              clear hm
              by_cases hq3 : 0 < q
              · have tq : (0 : Int) < q := by omega
                clear hC hq3
                go_wp2
                go_ret
                exact ⟨by rw [Hm2.out]; rfl, HBo.out⟩
              · obtain rfl : q = 0 := by omega
                have hke : key.toList ≠ [] := by simpa using hC
                have tk : (!key.toList.isEmpty) = true := by simpa using hke
                have tk2 : ¬ key.toList = [] := hke
                clear hC hq3 hke
                go_wp2
                go_ret
                exact ⟨by rw [Hm2.out]; rfl, HBo.out⟩
            · obtain rfl : q = 0 := by omega
              have hke : key.toList = [] := by simpa using hC
              have hm2 : mayOps (prevQ l (0 + 1)) (l.drop (0 + 1)) = mayOps none l := by
                rw [← hm, if_neg (by simp [prevQ, hke]), if_pos rfl]
              have tk : key.toList.isEmpty = true := by simp [hke]
              have hke2 := Lib.hid hke
              have Hm2 := Lib.hid hm2
              have HBo := Lib.hid hBo
              clear hm2 hBo
              clear hm hC hke
              go_wp2
              go_roundw
              case rel => exact ⟨0 + 1, by go_num, by omega, Hm2, HBo⟩
              case measure => simp [intOf]; omega
          have t3 : (k == 3) = false := by simpa using e3
          rw [decide_eq_false e3, Bool.false_and, Bool.false_or, if_neg e3] at hm
          obtain ⟨C, hC⟩ : ∃ C, ((prevQ l q).any fun x => !followsB x ⟨k, key, .mk k' b' n' t' l' o'⟩) = C := ⟨_, rfl⟩
          rw [hC] at hm
          have hTo := HT.out.below hBo
          have hvo := (Hv.out.below hbx.out).more hlx
          have Hm := Lib.hid hm
          have HBo := Lib.hid hBo
          have HTo := Lib.hid hTo
          have Hvo := Lib.hid hvo
          have HC := Lib.hid hC
          clear hm hBo hTo hvo hC
          go_upto_region 10 with (fail)
          go_cut [73] (fun s wx => s = .bool C ∧ Hid (Below wo.heap.size wo wx))
          case first =>
            have c0' := (hco g (off + q * 8) hgr).trans c0
            have c1' := (hco g (off + q * 8 + 1) hgr).trans c1
            have hC' := HC.out
            clear hco hfo c0 c1 c2 c3 c4 c5 c6 c7
            rcases q with _ | j
            · obtain rfl : false = C := by simpa [prevQ] using hC'
              clear hC'
              go_quiet (fail)
              go_wp2
              go_meet
              exact ⟨rfl, below_dr' (Below.refl _ _) _⟩
            · obtain ⟨pj, hpj⟩ : ∃ pj, l[j]? = some pj := ⟨_, List.getElem?_eq_getElem (by omega)⟩
              have hC2 : (!followsB pj ⟨k, key, .mk k' b' n' t' l' o'⟩) = C := by simpa [prevQ, hpj] using hC'
              obtain ⟨kp, keyp, ⟨kp', bp', np', tp', lp', op'⟩⟩ := pj
              obtain ⟨g2, off2, ee2, hg2, lap, lcp, oap, ocp, _, d0, d1, d2, d3, d4, d5, d6, d7⟩ := opQ_at ((H.out.below HBo.out).more HBo.out.size) hpj
              obtain ⟨rfl, rfl⟩ : g = g2 ∧ off = off2 := by simpa using ee2
              have hC3 : (decide (kp ≠ 3) && !Op.bytesLess keyp.toList key.toList) = C := by
                rw [← hC2]; simp [followsB, e3]
              have q1 : (1 : Int) ≤ j + 1 := by omega
              have q2 : IntKind.i64.wrap ((j : Int) + 1 - 1) = j := by rw [Int.add_sub_cancel]; exact IntWalk.i64_in _ (by omega)
              have q3 : IntKind.i64.wrap (j : Int) = j := IntWalk.i64_in _ (by omega)
              have q5 : (0 : Int) ≤ j := by omega
              have q6 : (j : Int) < (l.length : Int) := by omega
              have q8 : (0 : Int) < (j : Int) + 1 := by omega
              have q9 : decide ((0 : Int) < (j : Int) + 1) = true := decide_eq_true q8
              have hjl : j < l.length := by omega
              clear hC' hC2 d2 d3 d4 d5 d6 d7 hpj e3
              by_cases e3p : kp = 3
              · subst e3p
                obtain rfl : false = C := by simpa using hC3
                clear hC3
                go_quiet (fail)
                go_wp2
                go_meet
                exact ⟨rfl, below_dr' (Below.refl _ _) _⟩
              · have t3p : (kp != 3) = true := by simpa using e3p
                obtain rfl : C = !Op.bytesLess keyp.toList key.toList := by rw [← hC3]; simp [e3p]
                clear hC3 e3p
                go_quiet (fail)
                go_wp2
                go_meet
                exact ⟨by rw [le_not], below_dr' (Below.refl _ _) _⟩
          case rest =>
            obtain ⟨rfl, hby⟩ := hcut
            have hBw : Below w.heap.size w wc := HBo.out.trans (hby.out.mono HBo.out.size)
            have hks : key.size ≤ 1000000000 := by omega
            have hm := Hm.out
            have hq9 : q + 1 ≤ l.length := by omega
            have hgo : g < wo.heap.size := by omega
            obtain ⟨hcy, hfy⟩ := bcellM hby.out
            have hTc := HTo.out.below hby.out
            have hvc := (Hvo.out.below hby.out).more hby.out.size
            have hfit : ∀ wk, Below wc.heap.size wc wk → Calls Tryz.prog 35 #[.agg #[.int .i64 k', .bool b', .int .i64 n', .string t', .slice la' l'.length lc', .slice oa' o'.length oc']] wk fun e w' => e = .returned (.int .i64 (fitsV (.mk k' b' n' t' l' o'))) ∧ Below wk.heap.size wk w' :=
              fun wk hbk => RFits_calls _ _ wk (hTc.below hbk) ((hvc.below hbk).more hbk.size) (by omega) Hiq.out
            cases C with
            | true =>
              rw [if_pos rfl] at hm
              have Hm := Lib.hid hm
              have HBw := Lib.hid hBw
              have HTc := Lib.hid hTc
              have Hvc := Lib.hid hvc
              have Hfit := Lib.hid hfit
              clear hm hBw hTc hvc hfit
              go_wp2
              go_ret
              exact ⟨by rw [← Hm.out]; rfl, HBw.out⟩
            | false =>
              rw [if_neg (by simp)] at hm
              have hC := rkey_calls key wc hks
              by_cases hkb : keyB key = false
              · rw [if_pos hkb] at hm
                have tE : (keyE key != 0) = true := by
                  simp only [bne_iff_ne, ne_eq]
                  intro e
                  rw [(keyE_zero key).1 e] at hkb
                  cases hkb
                have HBw := Lib.hid hBw
                have HTc := Lib.hid hTc
                have Hvc := Lib.hid hvc
                have Hm := Lib.hid hm
                have HC := Lib.hid hC
                have Hfit := Lib.hid hfit
                clear hBw hTc hvc hm hC hfit
                clear e3 hkb
                go_wp2_with (go_at_call 34; (with_reducible refine (HC.out).mono ?_); rintro e wk ⟨rfl, rfl⟩)
                go_ret
                exact ⟨by rw [← Hm.out]; rfl, HBw.out⟩
              rw [if_neg hkb] at hm
              have hk0 : keyE key = 0 := (keyE_zero key).2 (by simpa using hkb)
              have tE : (keyE key != 0) = false := by rw [hk0]; rfl
              by_cases e2 : k = 2
              · rw [if_pos e2] at hm
                have t2 : (k == 1) = false := by rw [e2]; rfl
                have HBw := Lib.hid hBw
                have HTc := Lib.hid hTc
                have Hvc := Lib.hid hvc
                have Hm := Lib.hid hm
                have HC := Lib.hid hC
                have Hk0 := Lib.hid hk0
                have Hfit := Lib.hid hfit
                clear hBw hTc hvc hm hC hk0 hfit
                clear e3 hkb e2
                go_wp2_with (go_at_call 34; (with_reducible refine (HC.out).mono ?_); rintro e wk ⟨rfl, rfl⟩)
                go_roundw
                case rel => exact ⟨q + 1, by go_num, hq9, Hm, HBw⟩
                case measure => simp [intOf]; omega
              rw [if_neg e2] at hm
              have t2 : (k == 1) = true := by rw [beq_iff_eq]; omega
              by_cases hf : fitsV (.mk k' b' n' t' l' o') = 0
              · rw [if_pos hf] at hm
                have tF : (fitsV (.mk k' b' n' t' l' o') != 0) = false := by rw [hf]; rfl
                have HBw := Lib.hid hBw
                have HTc := Lib.hid hTc
                have Hvc := Lib.hid hvc
                have Hm := Lib.hid hm
                have HC := Lib.hid hC
                have Hk0 := Lib.hid hk0
                have Hfit := Lib.hid hfit
                have Hf := Lib.hid hf
                clear hBw hTc hvc hm hC hk0 hfit hf
                clear e3 hkb e2
                go_wp2_with (first
                  | (go_at_call 34; (with_reducible refine (HC.out).mono ?_); rintro e wk ⟨rfl, rfl⟩)
                  | (go_at_call 35; (with_reducible refine (Hfit.out _ (Below.refl _ _)).mono ?_); rintro e wf ⟨rfl, hbf⟩))
                have HBk := Lib.hid (HBw.out.trans (hbf.mono HBw.out.size))
                go_roundw
                case rel => exact ⟨q + 1, by go_num, hq9, Hm, HBk⟩
                case measure => simp [intOf]; omega
              · rw [if_neg hf] at hm
                have tF : (fitsV (.mk k' b' n' t' l' o') != 0) = true := by simpa using hf
                have HBw := Lib.hid hBw
                have HTc := Lib.hid hTc
                have Hvc := Lib.hid hvc
                have Hm := Lib.hid hm
                have HC := Lib.hid hC
                have Hk0 := Lib.hid hk0
                have Hfit := Lib.hid hfit
                clear hBw hTc hvc hm hC hk0 hfit
                clear e3 hkb e2 hf
                go_wp2_with (first
                  | (go_at_call 34; (with_reducible refine (HC.out).mono ?_); rintro e wk ⟨rfl, rfl⟩)
                  | (go_at_call 35; (with_reducible refine (Hfit.out _ (Below.refl _ _)).mono ?_); rintro e wf ⟨rfl, hbf⟩))
                go_ret
                exact ⟨by rw [← Hm.out]; rfl, HBw.out.trans (hbf.mono HBw.out.size)⟩
    · obtain rfl : q = l.length := by omega
      have hm' := hm.out
      rw [List.drop_length] at hm'
      have e0 : mayOps (prevQ l l.length) [] = 0 := by simp [mayOps]
      rw [e0] at hm'
      have Hm' := Lib.hid hm'
      clear hm'
      clear hm e0
      go_wp2
      go_ret
      exact ⟨by rw [← Hm'.out]; rfl, hbw.out⟩
end Go.Proofs.YtjjbbnodmpemiaaGreatDoor

/- Whether an answer may be: the program's word and the reference's. Condition: a bulk of at most 10^8. -/
namespace Go.Proofs.YtjjbbnodmpemiaaGreatDoor
open Go.RowKit

/-- Why an answer may not be. -/
def mayResp (c b k s : Int) (l : List POp) : Int := if 0 < c ∧ c ≤ 4611686018427387903 ∧ b ≤ 4611686018427387903 ∧ k ≤ 4611686018427387903 ∧ s ≤ 4611686018427387903 then mayOps none l else 2

set_option maxRecDepth 100000 in
set_option maxHeartbeats 1000000 in
theorem MayResponse_calls (c b k s : Int) (l : List POp) (a : Option Addr) (n cc : Nat) (w : World) (hT : Tabs w) (h : Holds w w.heap.size (.row 8 (dQs l)) [.slice a n cc]) (hb : bulkQ l ≤ 100000000) (hin : inQ l) :
    Calls Tryz.prog 7 #[.agg #[.int .u64 c, .int .u64 b, .int .u64 k, .int .u64 s, .slice a n cc]] w fun e w' => e = .returned (.int .i64 (mayResp c b k s l)) ∧ Below w.heap.size w w' := by
  have hb0 := fun o => alloc_below w o
  have hM := fun (W : World) hB => patMay_calls l a n cc W (hT.below (w' := W) hB) ((h.below hB).more hB.size) hb hin
  by_cases h1 : 0 < c ∧ c ≤ 4611686018427387903
  · obtain ⟨h1, h2⟩ := h1
    have hC := fun W => isClient_calls c true W (by simp [h1, h2])
    by_cases h3 : b ≤ 4611686018427387903 ∧ k ≤ 4611686018427387903 ∧ s ≤ 4611686018427387903
    · have hm : mayResp c b k s l = mayOps none l := by unfold mayResp; rw [if_pos ⟨h1, h2, h3⟩]
      obtain ⟨h3, h4, h5⟩ := h3
      have h6 : max (max b k) s ≤ 4611686018427387903 := by omega
      have HC := Lib.hid hC
      have Hm := Lib.hid hm
      have HM := Lib.hid hM
      have H := Lib.hid h
      have HT := Lib.hid hT
      have Hb0 := Lib.hid hb0
      clear hC hm hM h hT hb0
      go_enter Tryz.func7, Tryz.ntmps7
      go_wp2_with (first
        | (go_at_call 15; (with_reducible refine (HC.out _).mono ?_); rintro e w' ⟨rfl, rfl⟩)
        | (go_at_call 16; (with_reducible refine (HM.out _ (Hb0.out _)).mono ?_); rintro e w2 ⟨rfl, hb2⟩))
      all_goals (go_ret; exact ⟨by rw [Hm.out]; rfl, (Hb0.out _).trans (hb2.mono (by simp))⟩)
    · have hm : mayResp c b k s l = 2 := by unfold mayResp; rw [if_neg (by omega)]
      have h6 : 4611686018427387903 < max (max b k) s := by omega
      have HC := Lib.hid hC
      have Hm := Lib.hid hm
      have HM := Lib.hid hM
      have H := Lib.hid h
      have HT := Lib.hid hT
      have Hb0 := Lib.hid hb0
      clear hC hm hM h hT hb0
      clear h3
      go_enter Tryz.func7, Tryz.ntmps7
      go_wp2_with (first
        | (go_at_call 15; (with_reducible refine (HC.out _).mono ?_); rintro e w' ⟨rfl, rfl⟩))
      all_goals first | (go_ret; exact ⟨by rw [Hm.out]; rfl, Hb0.out _⟩) | (exfalso; omega)
  · have hC := fun W => isClient_calls c false W (by simp; omega)
    have hm : mayResp c b k s l = 2 := by unfold mayResp; rw [if_neg (by omega)]
    have HC := Lib.hid hC
    have Hm := Lib.hid hm
    have HM := Lib.hid hM
    have H := Lib.hid h
    have HT := Lib.hid hT
    have Hb0 := Lib.hid hb0
    clear hC hm hM h hT hb0
    clear h1
    go_enter Tryz.func7, Tryz.ntmps7
    go_wp2_with (first
      | (go_at_call 15; (with_reducible refine (HC.out _).mono ?_); rintro e w' ⟨rfl, rfl⟩))
    go_ret
    exact ⟨by rw [Hm.out]; rfl, Hb0.out _⟩

set_option maxRecDepth 100000 in
set_option maxHeartbeats 1000000 in
theorem RMayResponse_calls (c b k s : Int) (h0 : 0 ≤ c) (l : List POp) (a : Option Addr) (n cc : Nat) (w : World) (hT : Tabs w) (h : Holds w w.heap.size (.row 8 (dQs l)) [.slice a n cc]) (hb : bulkQ l ≤ 100000000) (hin : inQ l) :
    Calls Tryz.prog 8 #[.agg #[.int .u64 c, .int .u64 b, .int .u64 k, .int .u64 s, .slice a n cc]] w fun e w' => e = .returned (.int .i64 (mayResp c b k s l)) ∧ Below w.heap.size w w' := by
  have hb0 := fun o => alloc_below w o
  have hM := fun (W : World) hB => rpatMay_calls l a n cc W (hT.below (w' := W) hB) ((h.below hB).more hB.size) hb hin
  by_cases h1 : c = 0
  · subst h1
    have hm : mayResp 0 b k s l = 2 := by unfold mayResp; rw [if_neg (by omega)]
    have Hm := Lib.hid hm
    have HM := Lib.hid hM
    have H := Lib.hid h
    have HT := Lib.hid hT
    have Hb0 := Lib.hid hb0
    clear hm hM h hT hb0
    go_enter Tryz.func8, Tryz.ntmps8
    go_wp2
    go_ret
    exact ⟨by rw [Hm.out]; rfl, Hb0.out _⟩
  have e0 : (c == 0) = false := by simpa using h1
  by_cases h2 : c ≤ 4611686018427387903 ∧ b ≤ 4611686018427387903 ∧ k ≤ 4611686018427387903 ∧ s ≤ 4611686018427387903
  · have hm : mayResp c b k s l = mayOps none l := by unfold mayResp; rw [if_pos ⟨by omega, h2⟩]
    obtain ⟨h2, h3, h4, h5⟩ := h2
    have Hm := Lib.hid hm
    have HM := Lib.hid hM
    have H := Lib.hid h
    have HT := Lib.hid hT
    have Hb0 := Lib.hid hb0
    clear hm hM h hT hb0
    clear h1
    go_enter Tryz.func8, Tryz.ntmps8
    go_wp2_with (first
      | (go_at_call 17; (with_reducible refine (HM.out _ (Hb0.out _)).mono ?_); rintro e w2 ⟨rfl, hb2⟩))
    go_ret
    exact ⟨by rw [Hm.out]; rfl, (Hb0.out _).trans (hb2.mono (by simp))⟩
  · have hm : mayResp c b k s l = 2 := by unfold mayResp; rw [if_neg (by omega)]
    have Hm := Lib.hid hm
    have HM := Lib.hid hM
    have H := Lib.hid h
    have HT := Lib.hid hT
    have Hb0 := Lib.hid hb0
    clear hm hM h hT hb0
    clear h1
    go_enter Tryz.func8, Tryz.ntmps8
    go_wp2
    all_goals first | (go_ret; exact ⟨by rw [Hm.out]; rfl, Hb0.out _⟩) | (exfalso; omega)
end Go.Proofs.YtjjbbnodmpemiaaGreatDoor
