/- Parts, joined: commonplaceref02.Equal: has one value all that the other one has? Condition: a bulk of at most 10^8. -/
import Derived.Test.YtkoliaodkojghaaGreatDoorProg
import Derived.Deep.RegionHeld3
import Derived.Deep.QuietTactic
import Derived.BigQuiet
import Derived.Lib.Hide
import Derived.Lib.Strings
import Derived.Test.YtkoliaodkojghaaGreatDoorKPush2
import Derived.Test.YtkoliaodkojghaaGreatDoorKPush20
import Derived.Test.YtkoliaodkojghaaGreatDoorKPush24
import Derived.Test.YtkoliaodkojghaaGreatDoorKPush31
/- commonplaceref02.Equal: has one value all that the other one has? Condition: a bulk of at most 10^8. -/
namespace Go.Proofs.YtkoliaodkojghaaGreatDoor
open Go.RowKit

def EqPost (p : Prop) (w : World) (e : Ending) (w' : World) : Prop := ∃ B : Bool, e = .returned (.bool B) ∧ (B = true ↔ p) ∧ Below w.heap.size w w'
theorem EqPost.no {p : Prop} {w w' : World} (h : ¬p) (hb : Below w.heap.size w w') : EqPost p w (.returned (.bool false)) w' := ⟨false, rfl, by simp [h], hb⟩
theorem EqPost.yes {p : Prop} {w w' : World} (h : p) (hb : Below w.heap.size w w') : EqPost p w (.returned (.bool true)) w' := ⟨true, rfl, by simp [h], hb⟩
/-- What Equal does with a value. -/
def EqC (a : Val) : Prop := ∀ (b : Val) (cs cs' : List Value) (w : World), HoldsV w w.heap.size a cs → HoldsV w w.heap.size b cs' → a.bulk ≤ 100000000 → b.bulk ≤ 100000000 →
    Calls Tryz.prog 86 #[.agg cs.toArray, .agg cs'.toArray] w (EqPost (a = b) w)
theorem below_dr' {B : Nat} {a w : World} (h : Below B a w) (n : Nat) : Below B a (w.drewN n) := ⟨h.os, h.tape, h.output, h.size, h.block⟩
theorem two_boxes (w : World) (o o' : Obj) : Below w.heap.size w ((w.alloc o).alloc o') := (alloc_below w o).alloc (by simp) _
theorem eq_bcell {W w1 : World} (hb : Below W.heap.size W w1) : (∀ b o, b < W.heap.size → w1.cell? ⟨b, o, none⟩ = W.cell? ⟨b, o, none⟩) ∧ (∀ b o, b < W.heap.size → w1.frozen? ⟨b, o, none⟩ = W.frozen? ⟨b, o, none⟩) :=
  ⟨fun b o h => hb.cell (p := ⟨b, o, none⟩) h, fun b o h => hb.frozen (p := ⟨b, o, none⟩) h⟩

set_option maxRecDepth 100000 in
set_option maxHeartbeats 2000000 in
theorem eq_diff (k k' : Int) (b b' : Bool) (n n' : Int) (t t' : ByteArray) (la oa la' oa' : Option Addr) (ln lc on oc ln' lc' on' oc' : Nat) (w : World) (p : Prop) (hp : ¬p) (h : k ≠ k' ∨ b ≠ b' ∨ n ≠ n' ∨ t ≠ t' ∨ ln ≠ ln' ∨ on ≠ on') :
    Calls Tryz.prog 86 #[.agg #[.int .i64 k, .bool b, .int .i64 n, .string t, .slice la ln lc, .slice oa on oc], .agg #[.int .i64 k', .bool b', .int .i64 n', .string t', .slice la' ln' lc', .slice oa' on' oc']] w (EqPost p w) := by
  by_cases hk : k = k'
  rotate_left
  · have e : (k != k') = true := by simpa using hk
    clear h hk
    go_enter Tryz.func86, Tryz.ntmps86
    go_wp2
    go_ret
    exact EqPost.no hp (two_boxes _ _ _)
  subst hk
  by_cases hb : b = b'
  rotate_left
  · clear h
    cases b <;> cases b' <;> first | exact absurd rfl hb | (clear hb; go_enter Tryz.func86, Tryz.ntmps86; go_wp2; go_ret; exact EqPost.no hp (two_boxes _ _ _))
  subst hb
  by_cases hn : n = n'
  rotate_left
  · have e : (n != n') = true := by simpa using hn
    clear h hn
    go_enter Tryz.func86, Tryz.ntmps86
    go_wp2
    go_ret
    exact EqPost.no hp (two_boxes _ _ _)
  subst hn
  by_cases ht : t = t'
  rotate_left
  · have e : (t.toList != t'.toList) = true := by simp only [bne_iff_ne]; exact fun e => ht (by rw [Lib.toList_data, Lib.toList_data] at e; exact ByteArray.ext (Array.ext' e))
    have e2 : (t.toList == t'.toList) = false := by simpa using e
    have e3 : ¬ t.toList = t'.toList := by simpa using e
    clear h ht
    go_enter Tryz.func86, Tryz.ntmps86
    go_wp2
    go_ret
    exact EqPost.no hp (two_boxes _ _ _)
  subst ht
  by_cases hln : ln = ln'
  rotate_left
  · have e : ((ln : Int) != (ln' : Int)) = true := by simp; omega
    clear h hln
    go_enter Tryz.func86, Tryz.ntmps86
    go_wp2
    go_ret
    exact EqPost.no hp (two_boxes _ _ _)
  subst hln
  by_cases hon : on = on'
  rotate_left
  · have e : ((on : Int) != (on' : Int)) = true := by simp; omega
    clear h hon
    go_enter Tryz.func86, Tryz.ntmps86
    go_wp2
    go_ret
    exact EqPost.no hp (two_boxes _ _ _)
  subst hon
  simp at h

/-- The call's two boxes. -/
def EA (w : World) (b1 b2 : Array Value) (wr : World) : Prop := Below w.heap.size w wr ∧ Blk wr w.heap.size 45 b1 ∧ Blk wr (w.heap.size + 1) 45 b2
theorem EA.step {w : World} {b1 b2 : Array Value} {wr w4 : World} (h : EA w b1 b2 wr) (hb : Below wr.heap.size wr w4) : EA w b1 b2 w4 := ⟨h.1.trans (hb.mono h.1.size), h.2.1.below hb h.2.1.lt, h.2.2.below hb h.2.2.lt⟩
theorem take_eq_of {α : Type} {l l' : List α} {q : Nat} {x x' : α} (h : l.take q = l'.take q) (hx : l[q]? = some x) (hx' : l'[q]? = some x') (e : x = x') : l.take (q + 1) = l'.take (q + 1) := by
  rw [List.take_add_one, List.take_add_one, hx, hx', h, e]
theorem ne_of_at {α : Type} {l l' : List α} {q : Nat} {x x' : α} (hx : l[q]? = some x) (hx' : l'[q]? = some x') (e : x ≠ x') : l ≠ l' := by
  rintro rfl
  rw [hx] at hx'
  exact e (Option.some.inj hx')

set_option maxRecDepth 100000 in
set_option maxHeartbeats 8000000 in
theorem eq_same (k : Int) (b : Bool) (n : Int) (t : ByteArray) (l l' : List Val) (o o' : List (ByteArray × Val)) (la oa la' oa' : Option Addr) (lc oc lc' oc' : Nat) (w : World) (IH : ∀ v ∈ l, EqC v) (IHo : ∀ m ∈ o, EqC m.2)
    (hln : l.length = l'.length) (hon : o.length = o'.length)
    (hl : l = [] ∨ ∃ g off, la = some ⟨g, off, none⟩ ∧ g < w.heap.size ∧ HoldsL w w.heap.size l g off) (hl' : l' = [] ∨ ∃ g off, la' = some ⟨g, off, none⟩ ∧ g < w.heap.size ∧ HoldsL w w.heap.size l' g off)
    (ho : o = [] ∨ ∃ g off, oa = some ⟨g, off, none⟩ ∧ g < w.heap.size ∧ HoldsO w w.heap.size o g off) (ho' : o' = [] ∨ ∃ g off, oa' = some ⟨g, off, none⟩ ∧ g < w.heap.size ∧ HoldsO w w.heap.size o' g off)
    (hbl : bulkL l ≤ 100000000) (hbl' : bulkL l' ≤ 100000000) (hbo : bulkO o ≤ 100000000) (hbo' : bulkO o' ≤ 100000000) :
    Calls Tryz.prog 86 #[.agg #[.int .i64 k, .bool b, .int .i64 n, .string t, .slice la l.length lc, .slice oa o.length oc], .agg #[.int .i64 k, .bool b, .int .i64 n, .string t, .slice la' l.length lc', .slice oa' o.length oc']] w (EqPost (l = l' ∧ o = o') w) := by
  have hlb := bulkL_len l
  have hob := bulkO_len o
  have hA0 : EA w #[.int .i64 k, .bool b, .int .i64 n, .string t, .slice la l.length lc, .slice oa o.length oc] #[.int .i64 k, .bool b, .int .i64 n, .string t, .slice la' l.length lc', .slice oa' o.length oc'] ((w.alloc (.cells #[.int .i64 k, .bool b, .int .i64 n, .string t, .slice la l.length lc, .slice oa o.length oc] 45)).alloc (.cells #[.int .i64 k, .bool b, .int .i64 n, .string t, .slice la' l.length lc', .slice oa' o.length oc'] 45)) := by
    refine ⟨two_boxes _ _ _, (Blk.new w 45 #[.int .i64 k, .bool b, .int .i64 n, .string t, .slice la l.length lc, .slice oa o.length oc]).alloc _, ?_⟩
    have := Blk.new (w.alloc (.cells #[.int .i64 k, .bool b, .int .i64 n, .string t, .slice la l.length lc, .slice oa o.length oc] 45)) 45 #[.int .i64 k, .bool b, .int .i64 n, .string t, .slice la' l.length lc', .slice oa' o.length oc']
    simpa using this
  have h00 : l.take 0 = l'.take 0 := by simp
  have HIH := Lib.hid IH
  have HIHo := Lib.hid IHo
  have HA0 := Lib.hid hA0
  have H00 := Lib.hid h00
  have Hln := Lib.hid hln
  have Hon := Lib.hid hon
  have Hl := Lib.hid hl
  have Hl' := Lib.hid hl'
  have Ho := Lib.hid ho
  have Ho' := Lib.hid ho'
  clear hA0 h00 hln hon hl hl' ho ho'
  clear IH IHo
  go_enter Tryz.func86, Tryz.ntmps86
  go_wp2_with (fail)
  obtain ⟨w0, hw0⟩ : ∃ w0, (w.alloc (.cells #[.int .i64 k, .bool b, .int .i64 n, .string t, .slice la l.length lc, .slice oa o.length oc] 45)).alloc (.cells #[.int .i64 k, .bool b, .int .i64 n, .string t, .slice la' l.length lc', .slice oa' o.length oc'] 45) = w0 := ⟨_, rfl⟩
  rw [hw0] at HA0 ⊢
  clear hw0
  go_loopw [5] (fun i wr => ∃ q : Nat, i = .int .i64 q ∧ q ≤ l.length ∧ Hid (l.take q = l'.take q) ∧ Hid (EA w #[.int .i64 k, .bool b, .int .i64 n, .string t, .slice la l.length lc, .slice oa o.length oc] #[.int .i64 k, .bool b, .int .i64 n, .string t, .slice la' l.length lc', .slice oa' o.length oc'] wr)) (fun i _ => l.length - (intOf i).toNat)
  case atStart => exact ⟨0, rfl, Nat.zero_le _, H00, HA0⟩
  case round =>
    obtain ⟨q, rfl, hq, htk, hea⟩ := hrel
    clear H00 HA0
    have m1 := hea.out.2.1.cell 4
    have m2 := hea.out.2.2.cell 4
    by_cases hlt : q < l.length
    · have hlt' : q < l'.length := by have := Hln.out; omega
      obtain ⟨g, off, rfl, hg, hLL⟩ : ∃ g off, la = some ⟨g, off, none⟩ ∧ g < w.heap.size ∧ HoldsL w w.heap.size l g off := Hl.out.resolve_left (by intro e; rw [e] at hlt; simp at hlt)
      obtain ⟨g', off', rfl, hg', hLL'⟩ : ∃ g off, la' = some ⟨g, off, none⟩ ∧ g < w.heap.size ∧ HoldsL w w.heap.size l' g off := Hl'.out.resolve_left (by intro e; rw [e] at hlt'; simp at hlt')
      obtain ⟨x, hx⟩ : ∃ v, l[q]? = some v := ⟨_, List.getElem?_eq_getElem hlt⟩
      obtain ⟨x', hx'⟩ : ∃ v, l'[q]? = some v := ⟨_, List.getElem?_eq_getElem hlt'⟩
      have IHx := HIH.out _ (List.mem_of_getElem? hx)
      have hbv := bulkL_mem (List.mem_of_getElem? hx)
      have hbv' := bulkL_mem (List.mem_of_getElem? hx')
      have := trivial
      have hbw := hea.out.1
      have hz := hbw.size
      have hT := fun e => take_eq_of htk.out hx hx' e
      have hN := fun e => ne_of_at hx hx' e
      obtain ⟨xv, hxv⟩ : ∃ xv, x = xv := ⟨_, rfl⟩
      obtain ⟨xv', hxv'⟩ : ∃ xv, x' = xv := ⟨_, rfl⟩
      obtain ⟨k1, b1, n1, t1, l1, o1⟩ := x
      obtain ⟨k2, b2, n2, t2, l2, o2⟩ := x'
      obtain ⟨la1, lc1, oa1, oc1, hv1, c0, c1, c2, c3, c4, c5⟩ := (hLL.below hg hbw).six hx
      obtain ⟨la2, lc2, oa2, oc2, hv2, d0, d1, d2, d3, d4, d5⟩ := (hLL'.below hg' hbw).six hx'
      have hC : ∀ W, Below wr.heap.size wr W → Calls Tryz.prog 86 #[.agg #[.int .i64 k1, .bool b1, .int .i64 n1, .string t1, .slice la1 l1.length lc1, .slice oa1 o1.length oc1], .agg #[.int .i64 k2, .bool b2, .int .i64 n2, .string t2, .slice la2 l2.length lc2, .slice oa2 o2.length oc2]] W (EqPost (xv = xv') W) := fun W hW => by
        rw [← hxv, ← hxv']
        exact IHx _ _ _ W (HoldsV.more (Nat.le_trans hz hW.size) _ _ (hv1.below (hW.mono hz))) (HoldsV.more (Nat.le_trans hz hW.size) _ _ (hv2.below (hW.mono hz))) (by omega) (by omega)
      rw [hxv, hxv'] at hT hN
      have z1 : g < wr.heap.size := by omega
      have z2 : g' < wr.heap.size := by omega
      have z3 : w.heap.size < wr.heap.size := hea.out.2.1.lt
      have z4 : w.heap.size + 1 < wr.heap.size := hea.out.2.2.lt
      have z5 : (q : Int) < (l.length : Int) := by omega
      have HC := Lib.hid hC
      have HT := Lib.hid hT
      have HN := Lib.hid hN
      clear hC hT hN
      clear hbw hv1 hv2 hx hx' IHx hLL hLL' hxv hxv' htk
      go_wp2_with (fail)
      go_region_held3 (fun W => W.cell? ⟨w.heap.size, 4, none⟩ = some (.slice (some ⟨g, off, none⟩) l.length lc) ∧ W.cell? ⟨w.heap.size + 1, 4, none⟩ = some (.slice (some ⟨g', off', none⟩) l.length lc') ∧ W.cell? ⟨g, off + q * 6, none⟩ = some (.int .i64 k1) ∧ W.cell? ⟨g, off + q * 6 + 1, none⟩ = some (.bool b1) ∧ W.cell? ⟨g, off + q * 6 + 2, none⟩ = some (.int .i64 n1) ∧ W.cell? ⟨g, off + q * 6 + 3, none⟩ = some (.string t1) ∧ W.cell? ⟨g, off + q * 6 + 4, none⟩ = some (.slice la1 l1.length lc1) ∧ W.cell? ⟨g, off + q * 6 + 5, none⟩ = some (.slice oa1 o1.length oc1) ∧ W.cell? ⟨g', off' + q * 6, none⟩ = some (.int .i64 k2) ∧ W.cell? ⟨g', off' + q * 6 + 1, none⟩ = some (.bool b2) ∧ W.cell? ⟨g', off' + q * 6 + 2, none⟩ = some (.int .i64 n2) ∧ W.cell? ⟨g', off' + q * 6 + 3, none⟩ = some (.string t2) ∧ W.cell? ⟨g', off' + q * 6 + 4, none⟩ = some (.slice la2 l2.length lc2) ∧ W.cell? ⟨g', off' + q * 6 + 5, none⟩ = some (.slice oa2 o2.length oc2)) (go_keep) (first | (go_at_call 86; refine (HC.out _ ?_).mono ?_; (exact (Below.drew (Below.refl _ _))); rintro e w4 ⟨B, rfl, hB, hb4⟩; have hbr : Below wr.heap.size wr w4 := ((Below.drew (Below.refl _ _)).trans hb4); obtain ⟨hc4, hf4⟩ := eq_bcell hbr))
      all_goals
        have HE4 : Hid (EA w #[.int .i64 k, .bool b, .int .i64 n, .string t, .slice (some ⟨g, off, none⟩) l.length lc, .slice oa o.length oc] #[.int .i64 k, .bool b, .int .i64 n, .string t, .slice (some ⟨g', off', none⟩) l.length lc', .slice oa' o.length oc'] w4) := hea.out.step hbr
        clear hb4 hbr hc4 hf4 hea
        cases B with
        | true =>
          have HT' := Lib.hid (HT.out ((hB.1 rfl)))
          clear hB HT HN
          go_wp2
          go_roundw
          case rel => exact ⟨q + 1, by go_num, by omega, HT', HE4⟩
          case measure => simp only [intOf]; omega
        | false =>
          have hno : ¬(l = l' ∧ o = o') := fun h => HN.out ((fun e => by have := hB.2 e; cases this)) h.1
          have Hno := Lib.hid hno
          clear hB HT HN hno
          go_wp2
          go_ret
          exact EqPost.no Hno.out HE4.out.1
    · obtain rfl : q = l.length := by omega
      have hE := htk.out
      rw [List.take_length, Hln.out, List.take_length] at hE
      have HE := Lib.hid hE
      clear hE
      clear htk
      have HE0 := HE
      clear HE m1 m2
      obtain ⟨wo, hwo⟩ : ∃ wo : World, wo = wr := ⟨_, rfl⟩
      subst hwo
      have hb5 := hea.out.2.1.cell 5
      have h01 : o.take 0 = o'.take 0 := by simp
      have H01 := Lib.hid h01
      clear h01
      have m4 := hea.out.2.1.cell 4
      go_wp2_with (fail)
      clear m4
      go_loopw [6] (fun i wr => ∃ q : Nat, i = .int .i64 q ∧ q ≤ o.length ∧ Hid (o.take q = o'.take q) ∧ Hid (EA w #[.int .i64 k, .bool b, .int .i64 n, .string t, .slice la l.length lc, .slice oa o.length oc] #[.int .i64 k, .bool b, .int .i64 n, .string t, .slice la' l.length lc', .slice oa' o.length oc'] wr)) (fun i _ => o.length - (intOf i).toNat)
      case atStart => exact ⟨0, rfl, Nat.zero_le _, H01, hea⟩
      case round =>
        obtain ⟨q, rfl, hq, htk, hea⟩ := hrel
        clear H01
        have m1 := hea.out.2.1.cell 5
        have m2 := hea.out.2.2.cell 5
        by_cases hlt : q < o.length
        · have hlt' : q < o'.length := by have := Hon.out; omega
          obtain ⟨g, off, rfl, hg, hLL⟩ : ∃ g off, oa = some ⟨g, off, none⟩ ∧ g < w.heap.size ∧ HoldsO w w.heap.size o g off := Ho.out.resolve_left (by intro e; rw [e] at hlt; simp at hlt)
          obtain ⟨g', off', rfl, hg', hLL'⟩ : ∃ g off, oa' = some ⟨g, off, none⟩ ∧ g < w.heap.size ∧ HoldsO w w.heap.size o' g off := Ho'.out.resolve_left (by intro e; rw [e] at hlt'; simp at hlt')
          obtain ⟨⟨key, x⟩, hx⟩ : ∃ v, o[q]? = some v := ⟨_, List.getElem?_eq_getElem hlt⟩
          obtain ⟨⟨key', x'⟩, hx'⟩ : ∃ v, o'[q]? = some v := ⟨_, List.getElem?_eq_getElem hlt'⟩
          have IHx := HIHo.out _ (List.mem_of_getElem? hx)
          have hbv := bulkO_mem (List.mem_of_getElem? hx)
          have hbv' := bulkO_mem (List.mem_of_getElem? hx')
          simp only at IHx hbv hbv'
          have hbw := hea.out.1
          have hz := hbw.size
          have hT := fun e => take_eq_of htk.out hx hx' e
          have hN := fun e => ne_of_at hx hx' e
          obtain ⟨xv, hxv⟩ : ∃ xv, x = xv := ⟨_, rfl⟩
          obtain ⟨xv', hxv'⟩ : ∃ xv, x' = xv := ⟨_, rfl⟩
          obtain ⟨k1, b1, n1, t1, l1, o1⟩ := x
          obtain ⟨k2, b2, n2, t2, l2, o2⟩ := x'
          obtain ⟨la1, lc1, oa1, oc1, hv1, c0, c1, c2, c3, c4, c5, c6⟩ := (hLL.below hg hbw).seven hx
          obtain ⟨la2, lc2, oa2, oc2, hv2, d0, d1, d2, d3, d4, d5, d6⟩ := (hLL'.below hg' hbw).seven hx'
          have hC : ∀ W, Below wr.heap.size wr W → Calls Tryz.prog 86 #[.agg #[.int .i64 k1, .bool b1, .int .i64 n1, .string t1, .slice la1 l1.length lc1, .slice oa1 o1.length oc1], .agg #[.int .i64 k2, .bool b2, .int .i64 n2, .string t2, .slice la2 l2.length lc2, .slice oa2 o2.length oc2]] W (EqPost (xv = xv') W) := fun W hW => by
            rw [← hxv, ← hxv']
            exact IHx _ _ _ W (HoldsV.more (Nat.le_trans hz hW.size) _ _ (hv1.below (hW.mono hz))) (HoldsV.more (Nat.le_trans hz hW.size) _ _ (hv2.below (hW.mono hz))) (by omega) (by omega)
          rw [hxv, hxv'] at hT hN
          have z1 : g < wr.heap.size := by omega
          have z2 : g' < wr.heap.size := by omega
          have z3 : w.heap.size < wr.heap.size := hea.out.2.1.lt
          have z4 : w.heap.size + 1 < wr.heap.size := hea.out.2.2.lt
          have z5 : (q : Int) < (o.length : Int) := by omega
          have HC := Lib.hid hC
          have HT := Lib.hid hT
          have HN := Lib.hid hN
          clear hC hT hN
          clear hbw hv1 hv2 hx hx' IHx hLL hLL' hxv hxv' htk
          by_cases hk : key.toList = key'.toList
          · have hkk := toList_inj hk
            subst hkk
            have e1 : (key.toList != key.toList) = false := by simp
            clear hk
            go_wp2_with (fail)
            go_region_held3 (fun W => W.cell? ⟨w.heap.size, 5, none⟩ = some (.slice (some ⟨g, off, none⟩) o.length oc) ∧ W.cell? ⟨w.heap.size + 1, 5, none⟩ = some (.slice (some ⟨g', off', none⟩) o.length oc') ∧ W.cell? ⟨g, off + q * 7, none⟩ = some (.string key) ∧ W.cell? ⟨g, off + q * 7 + 1, none⟩ = some (.int .i64 k1) ∧ W.cell? ⟨g, off + q * 7 + 2, none⟩ = some (.bool b1) ∧ W.cell? ⟨g, off + q * 7 + 3, none⟩ = some (.int .i64 n1) ∧ W.cell? ⟨g, off + q * 7 + 4, none⟩ = some (.string t1) ∧ W.cell? ⟨g, off + q * 7 + 5, none⟩ = some (.slice la1 l1.length lc1) ∧ W.cell? ⟨g, off + q * 7 + 6, none⟩ = some (.slice oa1 o1.length oc1) ∧ W.cell? ⟨g', off' + q * 7, none⟩ = some (.string key) ∧ W.cell? ⟨g', off' + q * 7 + 1, none⟩ = some (.int .i64 k2) ∧ W.cell? ⟨g', off' + q * 7 + 2, none⟩ = some (.bool b2) ∧ W.cell? ⟨g', off' + q * 7 + 3, none⟩ = some (.int .i64 n2) ∧ W.cell? ⟨g', off' + q * 7 + 4, none⟩ = some (.string t2) ∧ W.cell? ⟨g', off' + q * 7 + 5, none⟩ = some (.slice la2 l2.length lc2) ∧ W.cell? ⟨g', off' + q * 7 + 6, none⟩ = some (.slice oa2 o2.length oc2)) (go_keep) (first | (go_at_call 86; refine (HC.out _ ?_).mono ?_; (exact (Below.drew (Below.refl _ _))); rintro e w4 ⟨B, rfl, hB, hb4⟩; have hbr : Below wr.heap.size wr w4 := ((Below.drew (Below.refl _ _)).trans hb4); obtain ⟨hc4, hf4⟩ := eq_bcell hbr))
            all_goals
              have HE4 : Hid (EA w #[.int .i64 k, .bool b, .int .i64 n, .string t, .slice la l.length lc, .slice (some ⟨g, off, none⟩) o.length oc] #[.int .i64 k, .bool b, .int .i64 n, .string t, .slice la' l.length lc', .slice (some ⟨g', off', none⟩) o.length oc'] w4) := hea.out.step hbr
              clear hb4 hbr hc4 hf4 hea
              cases B with
              | true =>
                have HT' := Lib.hid (HT.out (by rw [hB.1 rfl]))
                clear hB HT HN
                go_wp2
                go_roundw
                case rel => exact ⟨q + 1, by go_num, by omega, HT', HE4⟩
                case measure => simp only [intOf]; omega
              | false =>
                have hno : ¬(l = l' ∧ o = o') := fun h => HN.out (fun e => by have := hB.2 (congrArg Prod.snd e); cases this) h.2
                have Hno := Lib.hid hno
                clear hB HT HN hno
                go_wp2
                go_ret
                exact EqPost.no Hno.out HE4.out.1
          · have e1 : (key.toList != key'.toList) = true := by simpa using hk
            have e2 : (key.toList == key'.toList) = false := by simpa using hk
            have hno : ¬(l = l' ∧ o = o') := fun h => HN.out (fun e => hk (by have e5 := congrArg Prod.fst e; simp only at e5; rw [e5])) h.2
            have Hno := Lib.hid hno
            have Hk := Lib.hid hk
            clear hno hk
            clear HC HT HN
            go_wp2_with (fail)
            go_quiet (fail)
            go_wp2
            go_ret
            exact EqPost.no Hno.out (by first | exact below_dr' hea.out.1 _ | exact below_dr' (below_dr' hea.out.1 _) _)
        · obtain rfl : q = o.length := by omega
          have hE := htk.out
          rw [List.take_length, Hon.out, List.take_length] at hE
          have HE := Lib.hid hE
          clear hE
          clear htk
          go_wp2
          go_ret
          exact EqPost.yes ⟨HE0.out, HE.out⟩ hea.out.1

/-- commonplaceref02.Equal: yes of a value and itself alone. -/
theorem req_calls : ∀ a, EqC a := by
  refine Val.ind ?_
  intro k b n t l o hl ho b' cs cs' w hV hV' hb hb'
  obtain ⟨k', b', n', t', l', o'⟩ := b'
  simp only [HoldsV] at hV hV'
  obtain ⟨la, lc, oa, oc, rfl, hla, hoa⟩ := hV
  obtain ⟨la', lc', oa', oc', rfl, hla', hoa'⟩ := hV'
  simp only [Val.bulk] at hb hb'
  by_cases hd : k ≠ k' ∨ b ≠ b' ∨ n ≠ n' ∨ t ≠ t' ∨ l.length ≠ l'.length ∨ o.length ≠ o'.length
  · exact eq_diff k k' b b' n n' t t' la oa la' oa' l.length lc o.length oc l'.length lc' o'.length oc' w _ (by rintro ⟨⟩; simp at hd) hd
  · simp only [not_or, Decidable.not_not] at hd
    obtain ⟨rfl, rfl, rfl, rfl, e1, e2⟩ := hd
    have := eq_same k b n t l l' o o' la oa la' oa' lc oc lc' oc' w hl ho e1 e2 hla hla' hoa hoa' (by omega) (by omega) (by omega) (by omega)
    rw [e1, e2] at this
    refine (show cells6 k b n t la l.length lc oa o.length oc = _ by rw [e1, e2]) ▸ this.mono ?_
    rintro e w' ⟨B, rfl, hB, hb⟩
    exact ⟨B, rfl, by rw [hB]; simp, hb⟩
end Go.Proofs.YtkoliaodkojghaaGreatDoor
