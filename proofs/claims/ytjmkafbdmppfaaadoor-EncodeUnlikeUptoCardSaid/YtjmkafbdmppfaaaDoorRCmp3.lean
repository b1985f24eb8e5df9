/- commonplaceref02.Compare of lists. Condition: values that may be, a bulk of at most 10^8. -/
import Derived.Test.YtjmkafbdmppfaaaDoorProg
import Derived.Test.YtjmkafbdmppfaaaDoorRCmp2
import Derived.Test.YtjmkafbdmppfaaaDoorLess
namespace Go.Proofs.YtjmkafbdmppfaaaDoor
open Go.RowKit

theorem mayL_tail {v : Val} {r : List Val} {d : Int} (h : mayL (v :: r) d = 0) : mayV v d = 0 ∧ mayL r d = 0 := by
  have h1 := mayL_all h v (by simp)
  simp only [mayL] at h
  rw [if_pos h1] at h
  exact ⟨h1, h⟩

set_option maxRecDepth 100000 in
set_option maxHeartbeats 4000000 in
theorem cmp_list (b b' : Bool) (n n' : Int) (t t' : ByteArray) (l l' : List Val) (on on' : Nat) (la oa la' oa' : Option Addr) (lc oc lc' oc' : Nat) (w : World) (IH : ∀ v ∈ l, CmpC v) (p : Prop) (hp : l = l' ↔ p) (d d' : Int)
    (hl : l = [] ∨ ∃ g off, la = some ⟨g, off, none⟩ ∧ g < w.heap.size ∧ HoldsL w w.heap.size l g off) (hl' : l' = [] ∨ ∃ g off, la' = some ⟨g, off, none⟩ ∧ g < w.heap.size ∧ HoldsL w w.heap.size l' g off)
    (hb : bulkL l ≤ 100000000) (hb' : bulkL l' ≤ 100000000) (hm : ∀ v ∈ l, mayV v d = 0) (hm' : ∀ v ∈ l', mayV v d' = 0) :
    Calls Tryd.prog 16 #[.agg #[.int .i64 5, .bool b, .int .i64 n, .string t, .slice la l.length lc, .slice oa on oc], .agg #[.int .i64 5, .bool b', .int .i64 n', .string t', .slice la' l'.length lc', .slice oa' on' oc']] w (CmpPost p w) := by
  have hln := bulkL_len l
  have hln' := bulkL_len l'
  have HI := Lib.hid IH
  have Hp := Lib.hid hp
  have HM := Lib.hid hm
  have HM' := Lib.hid hm'
  have H0 : Hid (l.take 0 = l'.take 0) := by show _ = _; simp
  clear IH hp hm hm'
  obtain ⟨w2, hw2⟩ : ∃ w2, (w.alloc (box6 5 b n t (.slice la l.length lc) (.slice oa on oc))).alloc (box6 5 b' n' t' (.slice la' l'.length lc') (.slice oa' on' oc')) = w2 := ⟨_, rfl⟩
  have hbw : Below w.heap.size w w2 := by rw [← hw2]; exact two_below _ _ _
  have hx1 : w2.heap[w.heap.size]? = some (.cells #[.int .i64 5, .bool b, .int .i64 n, .string t, .slice la l.length lc, .slice oa on oc] 26 (0, 0)) := by
    rw [← hw2, Lib.alloc_old _ _ _ (by simp)]
    exact heap_alloc_new _ _
  have hx2 : w2.heap[w.heap.size + 1]? = some (.cells #[.int .i64 5, .bool b', .int .i64 n', .string t', .slice la' l'.length lc', .slice oa' on' oc'] 26 (0, 0)) := by
    rw [← hw2]
    have := heap_alloc_new (w.alloc (box6 5 b n t (.slice la l.length lc) (.slice oa on oc))) (.cells #[.int .i64 5, .bool b', .int .i64 n', .string t', .slice la' l'.length lc', .slice oa' on' oc'] 26)
    simpa using this
  have HBW := Lib.hid hbw
  have HX1 := Lib.hid hx1
  have HX2 := Lib.hid hx2
  clear hbw hx1 hx2
  subst hw2
  go_enter Tryd.func16, Tryd.ntmps16
  go_wp2_with (fail)
  go_loopw [5] (fun i wr => ∃ k : Nat, i = .int .i64 k ∧ k ≤ l.length ∧ k ≤ l'.length ∧ Hid (l.take k = l'.take k) ∧ Hid (Below w.heap.size w wr) ∧
    Hid (wr.heap[w.heap.size]? = some (.cells #[.int .i64 5, .bool b, .int .i64 n, .string t, .slice la l.length lc, .slice oa on oc] 26 (0, 0))) ∧
    Hid (wr.heap[w.heap.size + 1]? = some (.cells #[.int .i64 5, .bool b', .int .i64 n', .string t', .slice la' l'.length lc', .slice oa' on' oc'] 26 (0, 0)))) (fun i _ => l.length - (intOf i).toNat)
  case atStart => exact ⟨0, rfl, Nat.zero_le _, Nat.zero_le _, H0, HBW, HX1, HX2⟩
  case round =>
    obtain ⟨k, rfl, hk, hk', ht, hbw, hx1, hx2⟩ := hrel
    clear H0 HBW HX1 HX2
    have b1 : wr.cell? ⟨w.heap.size, 4, none⟩ = some (.slice la l.length lc) := by rw [Lib.cell_of_heap hx1.out]; rfl
    have b2 : wr.cell? ⟨w.heap.size + 1, 4, none⟩ = some (.slice la' l'.length lc') := by rw [Lib.cell_of_heap hx2.out]; rfl
    have z2 : w.heap.size + 1 < wr.heap.size := (Array.getElem?_eq_some_iff.1 hx2.out).1
    by_cases hlt : k < l.length
    · by_cases hlt2 : k < l'.length
      · obtain ⟨g, off, rfl, hg, hL⟩ : ∃ g off, la = some ⟨g, off, none⟩ ∧ g < w.heap.size ∧ HoldsL w w.heap.size l g off := by
          rcases hl with rfl | h
          · simp at hlt
          · exact h
        obtain ⟨g', off', rfl, hg', hL'⟩ : ∃ g off, la' = some ⟨g, off, none⟩ ∧ g < w.heap.size ∧ HoldsL w w.heap.size l' g off := by
          rcases hl' with rfl | h
          · simp at hlt2
          · exact h
        obtain ⟨x, hx⟩ : ∃ v, l[k]? = some v := ⟨_, List.getElem?_eq_getElem hlt⟩
        obtain ⟨y, hy⟩ : ∃ v, l'[k]? = some v := ⟨_, List.getElem?_eq_getElem hlt2⟩
        have hxm := List.mem_of_getElem? hx
        have hym := List.mem_of_getElem? hy
        have hxb := bulkL_mem hxm
        have hyb := bulkL_mem hym
        have IHx := HI.out x hxm
        have mx := HM.out x hxm
        have my := HM'.out y hym
        have hxy : x = y → l.take (k + 1) = l'.take (k + 1) := by
          intro e
          rw [List.take_add_one, List.take_add_one, ht.out, hx, hy, e]
        have hxn : x ≠ y → l ≠ l' := by
          intro e e'
          subst e'
          rw [hx] at hy
          exact e (Option.some.inj hy)
        have Hxy := Lib.hid hxy
        have Hxn := Lib.hid hxn
        have hz := hbw.out.size
        obtain ⟨k1, b1', n1, t1, l1, o1⟩ := x
        obtain ⟨k2, b2', n2, t2, l2, o2⟩ := y
        obtain ⟨la1, lc1, oa1, oc1, hv1, c0, c1, c2, c3, c4, c5⟩ := (hL.below hg hbw.out).six hx
        obtain ⟨la2, lc2, oa2, oc2, hv2, e0, e1, e2, e3, e4, e5⟩ := (hL'.below hg' hbw.out).six hy
        have hbd := Below.drew hbw.out
        have CC := IHx _ _ _ wr.drew d d' (HoldsV.more hz _ _ (hv1.below (Below.drew (Below.refl _ _)))) (HoldsV.more hz _ _ (hv2.below (Below.drew (Below.refl _ _)))) (by omega) (by omega) mx my
        obtain ⟨Q, hQ⟩ : ∃ Q : Prop, (Val.mk k1 b1' n1 t1 l1 o1 = Val.mk k2 b2' n2 t2 l2 o2) = Q := ⟨_, rfl⟩
        rw [hQ] at CC Hxy
        have Hxn' : Hid (¬Q → l ≠ l') := by rw [← hQ]; exact Hxn
        have HC := Lib.hid CC
        clear CC hQ Hxn hxy hxn IHx mx my hxb hyb hxm hym hv1 hv2 hx hy hL hL' hbd hg hg' ht
        go_wp2_with (fail)
        go_region_with (go_at_call 16; refine (HC.out).mono ?_; rintro e w4 ⟨c, rfl, hc, hb4⟩)
        all_goals
          have Hc := Lib.hid hc
          have hb4' : Below wr.heap.size wr w4 := (Below.drew (Below.refl _ _)).trans hb4
          have hbw4 := Lib.hid (hbw.out.trans (hb4'.mono hz))
          have hx1' := Lib.hid ((hb4'.block _ (by omega)).trans hx1.out)
          have hx2' := Lib.hid ((hb4'.block _ z2).trans hx2.out)
          clear hc hb4 hb4' hbw hx1 hx2 HC c0 c1 c2 c3 c4 c5 e0 e1 e2 e3 e4 e5 b1 b2
          by_cases hc0 : c = 0
          · have Hn := Lib.hid (Hxy.out (Hc.out.1 hc0))
            subst hc0
            clear Hc
            go_wp2
            go_roundw
            case rel => exact ⟨k + 1, by go_num, by omega, by omega, Hn, hbw4, hx1', hx2'⟩
            case measure => simp only [intOf]; omega
          · have hne := Hxn'.out (fun e => hc0 (Hc.out.2 e))
            have f1 : (c == 0) = false := by simpa using hc0
            have f2 : (c != 0) = true := by simpa using hc0
            have Hf : Hid (c = 0 ↔ p) := ⟨fun e => absurd e hc0, fun e => absurd (Hp.out.2 e) hne⟩
            clear Hc hne hc0
            go_wp2
            go_ret
            exact CmpPost.of Hf.out hbw4.out
      · have hk2 : k = l'.length := by omega
        subst hk2
        have hne : l ≠ l' := by rintro rfl; omega
        obtain ⟨C, hC⟩ : ∃ C, numV (l.length : Int) (l'.length : Int) = C := ⟨_, rfl⟩
        have cN := fun w => num_calls (l.length : Int) (l'.length : Int) w
        rw [hC] at cN
        have HN := Lib.hid cN
        have hcz : C ≠ 0 := by rw [← hC, Ne, numV_zero]; omega
        have Hf : Hid (C = 0 ↔ p) := ⟨fun e => absurd e hcz, fun e => absurd (Hp.out.2 e) hne⟩
        clear cN hC hcz hne ht hl hl'
        go_wp2_with (fail)
        with_reducible refine (HN.out _).mono ?_
        rintro e w' ⟨rfl, rfl⟩
        go_wp2
        go_ret
        exact CmpPost.of Hf.out hbw.out
    · have hk2 : k = l.length := by omega
      subst hk2
      obtain ⟨C, hC⟩ : ∃ C, numV (l.length : Int) (l'.length : Int) = C := ⟨_, rfl⟩
      have cN := fun w => num_calls (l.length : Int) (l'.length : Int) w
      rw [hC] at cN
      have HN := Lib.hid cN
      have Hf : Hid (C = 0 ↔ p) := by
        show _ ↔ _
        rw [← hC, numV_zero, ← Hp.out]
        constructor
        · intro h
          have hs : l.length = l'.length := by omega
          have := ht.out
          rwa [List.take_length, hs, List.take_length] at this
        · rintro rfl; rfl
      clear cN hC ht hl hl'
      go_wp2_with (fail)
      with_reducible refine (HN.out _).mono ?_
      rintro e w' ⟨rfl, rfl⟩
      go_wp2
      go_ret
      exact CmpPost.of Hf.out hbw.out

end Go.Proofs.YtjmkafbdmppfaaaDoor
