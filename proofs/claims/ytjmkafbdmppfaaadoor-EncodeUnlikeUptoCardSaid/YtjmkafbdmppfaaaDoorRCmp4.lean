/- commonplaceref02.Compare of objects, and of every value. Condition: values that may be, a bulk of at most 10^8. -/
import Derived.Test.YtjmkafbdmppfaaaDoorProg
import Derived.Test.YtjmkafbdmppfaaaDoorRCmp3
import Derived.StillTailTactics
namespace Go.Proofs.YtjmkafbdmppfaaaDoor
open Go.RowKit

set_option maxRecDepth 100000 in
set_option maxHeartbeats 8000000 in
theorem cmp_obj (b b' : Bool) (n n' : Int) (t t' : ByteArray) (l l' : List (ByteArray × Val)) (ln ln' : Nat) (la oa la' oa' : Option Addr) (lc oc lc' oc' : Nat) (w : World) (IH : ∀ m ∈ l, CmpC m.2) (p : Prop) (hp : l = l' ↔ p) (d d' : Int)
    (hl : l = [] ∨ ∃ g off, oa = some ⟨g, off, none⟩ ∧ g < w.heap.size ∧ HoldsO w w.heap.size l g off) (hl' : l' = [] ∨ ∃ g off, oa' = some ⟨g, off, none⟩ ∧ g < w.heap.size ∧ HoldsO w w.heap.size l' g off)
    (hb : bulkO l ≤ 100000000) (hb' : bulkO l' ≤ 100000000) (hm : ∀ m ∈ l, mayV m.2 d = 0) (hm' : ∀ m ∈ l', mayV m.2 d' = 0) :
    Calls Tryd.prog 16 #[.agg #[.int .i64 6, .bool b, .int .i64 n, .string t, .slice la ln lc, .slice oa l.length oc], .agg #[.int .i64 6, .bool b', .int .i64 n', .string t', .slice la' ln' lc', .slice oa' l'.length oc']] w (CmpPost p w) := by
  have hln := bulkO_len l
  have hln' := bulkO_len l'
  have HI := Lib.hid IH
  have Hp := Lib.hid hp
  have HM := Lib.hid hm
  have HM' := Lib.hid hm'
  have H0 : Hid (l.take 0 = l'.take 0) := by show _ = _; simp
  clear IH hp hm hm'
  obtain ⟨w2, hw2⟩ : ∃ w2, (w.alloc (box6 6 b n t (.slice la ln lc) (.slice oa l.length oc))).alloc (box6 6 b' n' t' (.slice la' ln' lc') (.slice oa' l'.length oc')) = w2 := ⟨_, rfl⟩
  have hbw : Below w.heap.size w w2 := by rw [← hw2]; exact two_below _ _ _
  have hx1 : w2.heap[w.heap.size]? = some (.cells #[.int .i64 6, .bool b, .int .i64 n, .string t, .slice la ln lc, .slice oa l.length oc] 26 (0, 0)) := by
    rw [← hw2, Lib.alloc_old _ _ _ (by simp)]
    exact heap_alloc_new _ _
  have hx2 : w2.heap[w.heap.size + 1]? = some (.cells #[.int .i64 6, .bool b', .int .i64 n', .string t', .slice la' ln' lc', .slice oa' l'.length oc'] 26 (0, 0)) := by
    rw [← hw2]
    have := heap_alloc_new (w.alloc (box6 6 b n t (.slice la ln lc) (.slice oa l.length oc))) (.cells #[.int .i64 6, .bool b', .int .i64 n', .string t', .slice la' ln' lc', .slice oa' l'.length oc'] 26)
    simpa using this
  have HBW := Lib.hid hbw
  have HX1 := Lib.hid hx1
  have HX2 := Lib.hid hx2
  clear hbw hx1 hx2
  subst hw2
  go_enter Tryd.func16, Tryd.ntmps16
  go_wp2_with (fail)
  go_loopw [7] (fun i wr => ∃ k : Nat, i = .int .i64 k ∧ k ≤ l.length ∧ k ≤ l'.length ∧ Hid (l.take k = l'.take k) ∧ Hid (Below w.heap.size w wr) ∧
    Hid (wr.heap[w.heap.size]? = some (.cells #[.int .i64 6, .bool b, .int .i64 n, .string t, .slice la ln lc, .slice oa l.length oc] 26 (0, 0))) ∧
    Hid (wr.heap[w.heap.size + 1]? = some (.cells #[.int .i64 6, .bool b', .int .i64 n', .string t', .slice la' ln' lc', .slice oa' l'.length oc'] 26 (0, 0)))) (fun i _ => l.length - (intOf i).toNat)
  case atStart => exact ⟨0, rfl, Nat.zero_le _, Nat.zero_le _, H0, HBW, HX1, HX2⟩
  case round =>
    obtain ⟨k, rfl, hk, hk', ht, hbw, hx1, hx2⟩ := hrel
    clear H0 HBW HX1 HX2
    have b1 : wr.cell? ⟨w.heap.size, 5, none⟩ = some (.slice oa l.length oc) := by rw [Lib.cell_of_heap hx1.out]; rfl
    have b2 : wr.cell? ⟨w.heap.size + 1, 5, none⟩ = some (.slice oa' l'.length oc') := by rw [Lib.cell_of_heap hx2.out]; rfl
    have z2 : w.heap.size + 1 < wr.heap.size := (Array.getElem?_eq_some_iff.1 hx2.out).1
    by_cases hlt : k < l.length
    · by_cases hlt2 : k < l'.length
      · obtain ⟨g, off, rfl, hg, hL⟩ : ∃ g off, oa = some ⟨g, off, none⟩ ∧ g < w.heap.size ∧ HoldsO w w.heap.size l g off := by
          rcases hl with rfl | h
          · simp at hlt
          · exact h
        obtain ⟨g', off', rfl, hg', hL'⟩ : ∃ g off, oa' = some ⟨g, off, none⟩ ∧ g < w.heap.size ∧ HoldsO w w.heap.size l' g off := by
          rcases hl' with rfl | h
          · simp at hlt2
          · exact h
        obtain ⟨⟨key, x⟩, hx⟩ : ∃ v, l[k]? = some v := ⟨_, List.getElem?_eq_getElem hlt⟩
        obtain ⟨⟨key', y⟩, hy⟩ : ∃ v, l'[k]? = some v := ⟨_, List.getElem?_eq_getElem hlt2⟩
        have hxm := List.mem_of_getElem? hx
        have hym := List.mem_of_getElem? hy
        have hxb := bulkO_mem hxm
        have hyb := bulkO_mem hym
        simp only at hxb hyb
        have IHx := HI.out _ hxm
        have mx := HM.out _ hxm
        have my := HM'.out _ hym
        simp only at IHx mx my
        have hxy : key = key' → x = y → l.take (k + 1) = l'.take (k + 1) := by
          intro e e'
          rw [List.take_add_one, List.take_add_one, ht.out, hx, hy, e, e']
        have hkn : key ≠ key' → l ≠ l' := by
          intro e e'
          subst e'
          rw [hx] at hy
          exact e (congrArg Prod.fst (Option.some.inj hy))
        have hxn : x ≠ y → l ≠ l' := by
          intro e e'
          subst e'
          rw [hx] at hy
          exact e (congrArg Prod.snd (Option.some.inj hy))
        have Hkn := Lib.hid hkn
        have Hxn := Lib.hid hxn
        have hz := hbw.out.size
        have c0 := ((hL.below hg hbw.out).at_ hx).1
        have e0 := ((hL'.below hg' hbw.out).at_ hy).1
        simp only at c0 e0
        have CT := texts_calls key key' wr.drew (by omega) (by omega)
        have HT := Lib.hid CT
        have HL : Hid (∀ w', Below w.heap.size w w' → HoldsO w' w.heap.size l g off) := fun w' h => hL.below hg h
        have HL' : Hid (∀ w', Below w.heap.size w w' → HoldsO w' w.heap.size l' g' off') := fun w' h => hL'.below hg' h
        have Hx := Lib.hid hx
        have Hy := Lib.hid hy
        obtain ⟨Q, hQ⟩ : ∃ Q : Prop, (x = y) = Q := ⟨_, rfl⟩
        have CC : ∀ (w' : World) (ca cb : List Value), HoldsV w' w'.heap.size x ca → HoldsV w' w'.heap.size y cb → Calls Tryd.prog 16 #[.agg ca.toArray, .agg cb.toArray] w' (CmpPost Q w') := by
          intro w' ca cb h1 h2
          rw [← hQ]
          exact IHx y ca cb w' d d' h1 h2 (by omega) (by omega) mx my
        rw [hQ] at hxy
        have Hxy := Lib.hid hxy
        have Hxn' : Hid (¬Q → l ≠ l') := by rw [← hQ]; exact Hxn
        have HC := Lib.hid CC
        clear CT CC hQ hxy hkn hxn Hxn IHx mx my hxb hyb hxm hym hx hy hL hL' hg hg' ht
        go_wp2_with (fail)
        go_still_tail 12, (by kernel_rfl)
        change wpList _ _ _ _ _ wr.drew
        go_wp2_with (fail)
        with_reducible refine (HT.out).mono ?_
        rintro e w4 ⟨c, rfl, hc, hb4⟩
        all_goals
          have Hc := Lib.hid hc
          have hb4' : Below wr.heap.size wr w4 := (Below.drew (Below.refl _ _)).trans hb4
          have hbw4 := Lib.hid (hbw.out.trans (hb4'.mono hz))
          have hx1' := Lib.hid ((hb4'.block _ (by omega)).trans hx1.out)
          have hx2' := Lib.hid ((hb4'.block _ z2).trans hx2.out)
          have hz4 : w.heap.size ≤ w4.heap.size := hbw4.out.size
          have z4 : w.heap.size + 1 < w4.heap.size := (Array.getElem?_eq_some_iff.1 hx2'.out).1
          clear hc hb4 hb4' hbw hx1 hx2 HT c0 e0 b1 b2
          by_cases hc0 : c = 0
          · have hkk := Lib.hid (Hc.out.1 hc0)
            subst hc0
            clear Hc
            have b1 : w4.cell? ⟨w.heap.size, 5, none⟩ = some (.slice (some ⟨g, off, none⟩) l.length oc) := by rw [Lib.cell_of_heap hx1'.out]; rfl
            have b2 : w4.cell? ⟨w.heap.size + 1, 5, none⟩ = some (.slice (some ⟨g', off', none⟩) l'.length oc') := by rw [Lib.cell_of_heap hx2'.out]; rfl
            obtain ⟨k1, b1', n1, t1, l1, o1⟩ := x
            obtain ⟨k2, b2', n2, t2, l2, o2⟩ := y
            obtain ⟨la1, lc1, oa1, oc1, hv1, _, c1, c2, c3, c4, c5, c6⟩ := (HL.out _ hbw4.out).seven Hx.out
            obtain ⟨la2, lc2, oa2, oc2, hv2, _, e1, e2, e3, e4, e5, e6⟩ := (HL'.out _ hbw4.out).seven Hy.out
            have hC4 := Lib.hid (HC.out w4.drew _ _ (HoldsV.more hz4 _ _ (hv1.below (Below.drew (Below.refl _ _)))) (HoldsV.more hz4 _ _ (hv2.below (Below.drew (Below.refl _ _)))))
            clear HC hv1 hv2 HL HL' Hx Hy
            go_wp2_with (fail)
            go_still_tail 12, (by kernel_rfl)
            change wpList _ _ _ _ _ w4.drew
            go_wp2_with (fail)
            with_reducible refine (hC4.out).mono ?_
            rintro e w5 ⟨c', rfl, hc', hb5⟩
            all_goals
              have Hc := Lib.hid hc'
              have hb5' : Below w4.heap.size w4 w5 := (Below.drew (Below.refl _ _)).trans hb5
              have hbw5 := Lib.hid (hbw4.out.trans (hb5'.mono hz4))
              have hx1'' := Lib.hid ((hb5'.block _ (by omega)).trans hx1'.out)
              have hx2'' := Lib.hid ((hb5'.block _ z4).trans hx2'.out)
              clear hc' hb5 hb5' hbw4 hx1' hx2' hC4 c1 c2 c3 c4 c5 c6 e1 e2 e3 e4 e5 e6 b1 b2
              by_cases hc0 : c' = 0
              · have Hn := Lib.hid (Hxy.out hkk.out (Hc.out.1 hc0))
                subst hc0
                clear Hc
                go_wp2
                go_roundw
                case rel => exact ⟨k + 1, by go_num, by omega, by omega, Hn, hbw5, hx1'', hx2''⟩
                case measure => simp only [intOf]; omega
              · have hne := Hxn'.out (fun e => hc0 (Hc.out.2 e))
                have f1 : (c' == 0) = false := by simpa using hc0
                have f2 : (c' != 0) = true := by simpa using hc0
                have Hf : Hid (c' = 0 ↔ p) := ⟨fun e => absurd e hc0, fun e => absurd (Hp.out.2 e) hne⟩
                clear Hc hne hc0
                go_wp2
                go_ret
                exact CmpPost.of Hf.out hbw5.out
          · have hne := Hkn.out (fun e => hc0 (Hc.out.2 e))
            have f1 : (c == 0) = false := by simpa using hc0
            have f2 : (c != 0) = true := by simpa using hc0
            have Hf : Hid (c = 0 ↔ p) := ⟨fun e => absurd e hc0, fun e => absurd (Hp.out.2 e) hne⟩
            clear Hc hne hc0
            go_wp2
            go_ret
            exact CmpPost.of Hf.out hbw4.out
      · have hk2 : k = l'.length := by omega
        subst hk2
        have hne : l ≠ l' := by rintro rfl; omega
        obtain ⟨C, hC⟩ : ∃ C, numV (l.length : Int) (l'.length : Int) = C := ⟨_, rfl⟩
        have cN := fun w => num_calls (l.length : Int) (l'.length : Int) w
        rw [hC] at cN
        have HN := Lib.hid cN
        have hcz : C ≠ 0 := by rw [← hC, Ne, numV_zero]; omega
        have Hf : Hid (C = 0 ↔ p) := ⟨fun e => absurd e hcz, fun e => absurd (Hp.out.2 e) hne⟩
        clear cN hC hcz hne ht hl hl'
        go_wp2_with (fail)
        with_reducible refine (HN.out _).mono ?_
        rintro e w' ⟨rfl, rfl⟩
        go_wp2
        go_ret
        exact CmpPost.of Hf.out hbw.out
    · have hk2 : k = l.length := by omega
      subst hk2
      obtain ⟨C, hC⟩ : ∃ C, numV (l.length : Int) (l'.length : Int) = C := ⟨_, rfl⟩
      have cN := fun w => num_calls (l.length : Int) (l'.length : Int) w
      rw [hC] at cN
      have HN := Lib.hid cN
      have Hf : Hid (C = 0 ↔ p) := by
        show _ ↔ _
        rw [← hC, numV_zero, ← Hp.out]
        constructor
        · intro h
          have hs : l.length = l'.length := by omega
          have := ht.out
          rwa [List.take_length, hs, List.take_length] at this
        · rintro rfl; rfl
      clear cN hC ht hl hl'
      go_wp2_with (fail)
      with_reducible refine (HN.out _).mono ?_
      rintro e w' ⟨rfl, rfl⟩
      go_wp2
      go_ret
      exact CmpPost.of Hf.out hbw.out

theorem cmp_calls : ∀ a, CmpC a := by
  refine Val.ind ?_
  intro k b n t l o IHl IHo v cs cs' w d d' hV hV' hb hb' hm hm'
  obtain ⟨k', b', n', t', l', o'⟩ := v
  obtain ⟨hodd, _, hvt, hmL, hmO⟩ := mayV_parts hm
  obtain ⟨hodd', _, hvt', hmL', hmO'⟩ := mayV_parts hm'
  simp only [HoldsV] at hV hV'
  obtain ⟨la, lc, oa, oc, rfl, hla, hoa⟩ := hV
  obtain ⟨la', lc', oa', oc', rfl, hla', hoa'⟩ := hV'
  simp only [Val.bulk] at hb hb'
  by_cases hkk : k ≠ k'
  · exact cmp_diff k k' b b' n n' t t' _ _ _ _ w hkk _ (fun e => by injection e with e1; exact hkk e1)
  obtain rfl : k = k' := by omega
  obtain ⟨hk, p1, p2, p3⟩ := odd_parts hodd
  obtain ⟨_, q1, q2, q3⟩ := odd_parts hodd'
  obtain ⟨p4, p5⟩ := odd_bn hodd
  obtain ⟨q4, q5⟩ := odd_bn hodd'
  have nl : ∀ {α : Type} {l : List α}, l.length = 0 → l = [] := fun h => List.length_eq_zero_iff.1 h
  rcases hk with rfl | rfl | rfl | rfl | rfl | rfl
  · refine cmp_null b b' n n' t t' _ _ _ _ w _ ?_
    rw [p4.resolve_left (by decide), q4.resolve_left (by decide), p5.resolve_left (by decide), q5.resolve_left (by decide), p1.resolve_left (by decide), q1.resolve_left (by decide), nl (p2.resolve_left (by decide)), nl (q2.resolve_left (by decide)), nl (p3.resolve_left (by decide)), nl (q3.resolve_left (by decide))]
  · refine cmp_bool b b' n n' t t' _ _ _ _ w _ ⟨?_, fun e => by injection e⟩
    rintro rfl
    rw [p5.resolve_left (by decide), q5.resolve_left (by decide), p1.resolve_left (by decide), q1.resolve_left (by decide), nl (p2.resolve_left (by decide)), nl (q2.resolve_left (by decide)), nl (p3.resolve_left (by decide)), nl (q3.resolve_left (by decide))]
  · refine cmp_int b b' n n' t t' _ _ _ _ w _ ⟨?_, fun e => by injection e⟩
    rintro rfl
    rw [p4.resolve_left (by decide), q4.resolve_left (by decide), p1.resolve_left (by decide), q1.resolve_left (by decide), nl (p2.resolve_left (by decide)), nl (q2.resolve_left (by decide)), nl (p3.resolve_left (by decide)), nl (q3.resolve_left (by decide))]
  · refine cmp_text b b' n n' t t' _ _ _ _ w _ (by omega) (by omega) ⟨?_, fun e => by injection e⟩
    rintro rfl
    rw [p4.resolve_left (by decide), q4.resolve_left (by decide), p5.resolve_left (by decide), q5.resolve_left (by decide), nl (p2.resolve_left (by decide)), nl (q2.resolve_left (by decide)), nl (p3.resolve_left (by decide)), nl (q3.resolve_left (by decide))]
  · refine cmp_list b b' n n' t t' l l' _ _ la oa la' oa' lc oc lc' oc' w IHl _ ⟨?_, fun e => by injection e⟩ (d + 1) (d' + 1) hla hla' (by omega) (by omega) (mayL_all hmL) (mayL_all hmL')
    rintro rfl
    rw [p4.resolve_left (by decide), q4.resolve_left (by decide), p5.resolve_left (by decide), q5.resolve_left (by decide), p1.resolve_left (by decide), q1.resolve_left (by decide), nl (p3.resolve_left (by decide)), nl (q3.resolve_left (by decide))]
  · refine cmp_obj b b' n n' t t' o o' _ _ la oa la' oa' lc oc lc' oc' w IHo _ ⟨?_, fun e => by injection e⟩ (d + 1) (d' + 1) hoa hoa' (by omega) (by omega) (fun m hm => (mayO_all hmO m hm).2) (fun m hm => (mayO_all hmO' m hm).2)
    rintro rfl
    rw [p4.resolve_left (by decide), q4.resolve_left (by decide), p5.resolve_left (by decide), q5.resolve_left (by decide), p1.resolve_left (by decide), q1.resolve_left (by decide), nl (p2.resolve_left (by decide)), nl (q2.resolve_left (by decide))]

end Go.Proofs.YtjmkafbdmppfaaaDoor
