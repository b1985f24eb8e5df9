/- The law EncodeLists, walked: it returns true. Condition: a bulk of at most 10^8. -/
import Derived.Test.YtjmkafbdmppfaaaDoorProg
import Derived.Test.YtjmkafbdmppfaaaDoorLess
import Derived.Test.YtjmkafbdmppfaaaDoorKnown
import Derived.Test.YtjmkafbdmppfaaaDoorMayR3
namespace Go.Proofs.YtjmkafbdmppfaaaDoor
open Go.RowKit

theorem textS_ok {v : Val} (h : mayV v 1 = 0) : textS v = ⟨(textV v).toArray⟩ := by unfold textS; rw [if_pos h]
theorem textS_no {v : Val} (h : mayV v 1 ≠ 0) : textS v = ⟨#[]⟩ := by unfold textS; rw [if_neg h]

set_option maxRecDepth 100000 in
set_option maxHeartbeats 2000000 in
theorem Lists_law (l : List Val) (la : Option Addr) (lc : Nat) (w : World) (hT : Tabs w) (hl : l = [] ∨ ∃ g off, la = some ⟨g, off, none⟩ ∧ g < w.heap.size ∧ HoldsL w w.heap.size l g off) (hb : bulkL l ≤ 100000000) (hi : inL l) :
    Calls Tryd.prog 6 #[.slice la l.length lc] w fun e w' => e = .returned (.bool true) ∧ Below w.heap.size w w' := by
  have hlen := bulkL_len l
  obtain ⟨v, hv⟩ : ∃ v, Val.mk 5 false 0 nob l [] = v := ⟨_, rfl⟩
  have hbv : v.bulk ≤ 100000006 := by rw [← hv]; simp [Val.bulk, bulkO, nob, ByteArray.size]; omega
  have hiv : inV v := by rw [← hv]; simp only [inV, inO]; exact ⟨by omega, hi, trivial⟩
  obtain ⟨w1, hw1⟩ : ∃ w1, w.alloc (.cells #[.int .i64 5, .bool false, .int .i64 0, .string ⟨#[]⟩, .slice la l.length lc, .slice none 0 0] 26) = w1 := ⟨_, rfl⟩
  have hb1 : Below w.heap.size w w1 := hw1 ▸ (Below.refl _ _).alloc (Nat.le_refl _) _
  have hbx1 : w1.heap[w.heap.size]? = some (.cells #[.int .i64 5, .bool false, .int .i64 0, .string ⟨#[]⟩, .slice la l.length lc, .slice none 0 0] 26 (0, 0)) := by rw [← hw1]; exact heap_alloc_new _ _
  have hz1 : w.heap.size < w1.heap.size := by rw [← hw1]; simp
  have hH : HoldsV w w.heap.size v [.int .i64 5, .bool false, .int .i64 0, .string ⟨#[]⟩, .slice la l.length lc, .slice none 0 0] := by
    rw [← hv]
    simp only [HoldsV]
    exact ⟨la, lc, none, 0, rfl, hl, .inl trivial⟩
  have hT1 := hT.below hb1
  have hH1 := HoldsV.more hb1.size _ _ (hH.below hb1)
  have CT := Text_calls v _ w1 hT1 hH1 (by omega) hiv
  have CM := fun w' (h : Below w1.heap.size w1 w') => RMay_calls v _ w' (HoldsV.more h.size _ _ (hH1.below h)) (by omega)
  have HT1 := Lib.hid hT1
  have HB1 := Lib.hid hb1
  have HX1 := Lib.hid hbx1
  have HZ1 := Lib.hid hz1
  by_cases hm : mayV v 1 = 0
  · have hpt := hv ▸ hm
    obtain ⟨_, _, _, hmL, _⟩ := mayV_parts hpt
    have hok := okV_of v 1 hm hiv
    have hlenT := textV_len v hok
    have hItem : ∀ x ∈ l, mayV x 1 = 0 := fun x hx => mayV_less x 2 1 (by omega) (mayL_all hmL x hx)
    have htx : textV v = 91 :: (textL l true ++ [93]) := by rw [← hv]; simp [textV]
    have hlenL : (textL l true).length ≤ 600000040 := by
      have := congrArg List.length htx
      simp at this
      omega
    have hin : ∀ x ∈ l, inV x := fun x hx => inL_mem hi hx
    rw [textS_ok hm, htx, hm] at CT
    rw [hm] at CM
    have HItem := Lib.hid hItem
    have HIn := Lib.hid hin
    have HCT := Lib.hid CT
    have HCM := Lib.hid CM
    have HT := Lib.hid hT
    have H0 : Hid ((⟨#[91]⟩ : ByteArray).data.toList = 91 :: textL (l.take 0) true) := by show _ = _; simp [textL]
    clear CT CM hT1 hb1 hbx1 hz1 hH hH1 hbv hiv hi hT hm hpt hmL hok hlenT hItem htx hin
    subst hv hw1
    go_enter Tryd.func6, Tryd.ntmps6
    go_wp2_with (fail)
    with_reducible refine HCT.out.mono ?_
    rintro e w2 ⟨rfl, hb2⟩
    have hbox : w2.heap[w.heap.size]? = some (.cells #[.int .i64 5, .bool false, .int .i64 0, .string ⟨#[]⟩, .slice la l.length lc, .slice none 0 0] 26 (0, 0)) := (hb2.block _ HZ1.out).trans HX1.out
    obtain ⟨d0, d1, d2, d3, d4, d5⟩ := box_cells hbox
    have HB2 := Lib.hid hb2
    clear hbox hb2
    go_wp2_with (fail)
    with_reducible refine (HCM.out _ HB2.out).mono ?_
    rintro e w3 ⟨rfl, hb3⟩
    have HB3 := Lib.hid (HB1.out.trans ((HB2.out.trans (hb3.mono HB2.out.size)).mono HB1.out.size))
    clear hb3 d0 d1 d2 d3 d4 d5 HB2 HCM HCT HB1 HX1 HZ1 HT1
    go_wp2_with (fail)
    go_loopw [7, 8] (fun t i wr => ∃ (T : ByteArray) (k : Nat), k ≤ l.length ∧ t = .string T ∧ i = .int .i64 k ∧ Hid (T.data.toList = 91 :: textL (l.take k) true) ∧ Hid (Below w.heap.size w wr)) (fun _ i _ => l.length - (intOf i).toNat)
    case atStart => exact ⟨_, 0, Nat.zero_le _, rfl, rfl, H0, HB3⟩
    case round =>
      obtain ⟨T, k, hk, rfl, rfl, hTx, hbw⟩ := hrel
      clear H0 HB3
      by_cases hlt : k < l.length
      · obtain ⟨g, off, rfl, hg, hL⟩ : ∃ g off, la = some ⟨g, off, none⟩ ∧ g < w.heap.size ∧ HoldsL w w.heap.size l g off := by
          rcases hl with rfl | h
          · simp at hlt
          · exact h
        obtain ⟨x, hx⟩ : ∃ v, l[k]? = some v := ⟨_, List.getElem?_eq_getElem hlt⟩
        have hmem : x ∈ l := List.mem_of_getElem? hx
        have hmx := HItem.out x hmem
        have hix := HIn.out x hmem
        have hbx := bulkL_mem hmem
        have htk : l.take (k + 1) = l.take k ++ [x] := by
          rw [List.take_add_one, hx]; rfl
        have hsn := textL_snoc x (l.take k) true
        rw [← htk] at hsn
        obtain ⟨k', b', n', t', l', o'⟩ := x
        obtain ⟨la', lc', oa', oc', hvs, c0, c1, c2, c3, c4, c5⟩ := (hL.below hg hbw.out).six hx
        have hz := hbw.out.size
        have CT := Text_calls _ _ wr (HT.out.below hbw.out) (HoldsV.more (by omega) _ _ hvs) (by omega) hix
        rw [textS_ok hmx, hmx] at CT
        have hsz1 : T.size ≤ 600000050 := by
          have h1 := congrArg List.length hTx.out
          have h2 := textL_take_len l k true
          simp only [List.length_cons] at h1
          have h3 := size_list T
          omega
        have hXl : (textV (.mk k' b' n' t' l' o')).length ≤ 600000040 := by
          have h1 := congrArg List.length hsn
          have h2 := textL_take_len l (k + 1) true
          simp only [List.length_append] at h1
          omega
        obtain ⟨X, hX⟩ : ∃ X : ByteArray, (⟨(textV (.mk k' b' n' t' l' o')).toArray⟩ : ByteArray) = X := ⟨_, rfl⟩
        have hXs : X.size ≤ 600000040 := by rw [← hX, size_mk]; exact hXl
        have hXd : X.data.toList = textV (.mk k' b' n' t' l' o') := by rw [← hX]
        rw [hX] at CT
        have hTd : Hid (T.data.toList ++ ((if true && (l.take k).isEmpty then [] else [44]) ++ X.data.toList) = 91 :: textL (l.take (k + 1)) true) := by
          show _ = _
          rw [hsn, hTx.out, hXd]; rfl
        have hCT := Lib.hid CT
        clear CT hX hXd hXl hsn htk hmx hix hbx hmem hx hL hg
        have hne : k ≠ 0 → (l.take k).isEmpty = false := by
          intro h
          rw [List.isEmpty_eq_false_iff]
          intro e
          have := congrArg List.length e
          rw [List.length_take, List.length_nil] at this
          omega
        by_cases hk0 : k = 0
        · subst hk0
          simp only [Nat.zero_mul, Nat.add_zero] at c0 c1 c2 c3 c4 c5
          have hTd' : Hid ((T ++ X).data.toList = 91 :: textL (l.take (0 + 1)) true) := by
            have := hTd.out
            show _ = _
            rw [ByteArray.data_append, Array.toList_append, ← this]
            simp
          clear hTd hTx hne
          go_wp2_with (fail)
          with_reducible refine hCT.out.mono ?_
          rintro e w4 ⟨rfl, hb4⟩
          have hbw4 := Lib.hid (hbw.out.trans (hb4.mono hz))
          clear hb4 hbw
          go_wp2
          go_roundw
          case rel => exact ⟨_, 0 + 1, by omega, rfl, by go_num, hTd', hbw4⟩
          case measure => simp [intOf]; omega
        · have hTd' : Hid ((T ++ ⟨#[44]⟩ ++ X).data.toList = 91 :: textL (l.take (k + 1)) true) := by
            have := hTd.out
            show _ = _
            rw [ByteArray.data_append, Array.toList_append, ByteArray.data_append, Array.toList_append, ← this, hne hk0]
            simp
          clear hTd hTx hne
          have hkp : 0 < k := by omega
          go_wp2_with (fail)
          with_reducible refine hCT.out.mono ?_
          rintro e w4 ⟨rfl, hb4⟩
          have hbw4 := Lib.hid (hbw.out.trans (hb4.mono hz))
          clear hb4 hbw
          go_wp2
          go_roundw
          case rel => exact ⟨_, k + 1, by omega, rfl, by go_num, hTd', hbw4⟩
          case measure => simp [intOf]; omega
      · obtain rfl : k = l.length := by omega
        have hTx' := hTx.out
        rw [List.take_length] at hTx'
        have hTz : T.size ≤ 600000050 := by
          have h1 := congrArg List.length hTx'
          have h3 := size_list T
          simp only [List.length_cons] at h1
          omega
        have hE : (⟨(91 :: (textL l true ++ [93])).toArray⟩ : ByteArray) = T ++ ⟨#[93]⟩ := by
          apply ByteArray.ext
          rw [ByteArray.data_append]
          apply Array.ext'
          rw [Array.toList_append, hTx']
          simp
        have hE2 : 91 :: (textL l true ++ [93]) = (T ++ ⟨#[93]⟩ : ByteArray).toList := by
          rw [← hE, Lib.toList_data]
        have HT3 := Lib.hid (HT.out.below hbw.out)
        clear hE hTx hTx' hl
        go_wp2_with (fail)
        with_reducible refine (known_calls wr HT3.out).mono ?_
        rintro e w4 ⟨rfl, hb4⟩
        have HB4 := Lib.hid (hbw.out.trans (hb4.mono hbw.out.size))
        clear hb4 hE2
        go_wp2
        go_ret
        exact ⟨rfl, HB4.out⟩
  · rw [textS_no hm] at CT
    have hmb : (mayV v 1 == 0) = false := by simpa using hm
    have hmn : (mayV v 1 != 0) = true := by simpa using hm
    generalize mayV v 1 = m at *
    have HCT := Lib.hid CT
    have HCM := Lib.hid CM
    clear CT CM hT1 hb1 hbx1 hz1 hH hH1 hbv hiv hi hl hT hm hlen hb
    subst hw1
    go_enter Tryd.func6, Tryd.ntmps6
    go_wp2_with (fail)
    with_reducible refine HCT.out.mono ?_
    rintro e w2 ⟨rfl, hb2⟩
    have hbox : w2.heap[w.heap.size]? = some (.cells #[.int .i64 5, .bool false, .int .i64 0, .string ⟨#[]⟩, .slice la l.length lc, .slice none 0 0] 26 (0, 0)) := (hb2.block _ HZ1.out).trans HX1.out
    obtain ⟨d0, d1, d2, d3, d4, d5⟩ := box_cells hbox
    have HB2 := Lib.hid hb2
    clear hbox hb2
    go_wp2_with (fail)
    with_reducible refine (HCM.out _ HB2.out).mono ?_
    rintro e w3 ⟨rfl, hb3⟩
    have HB3 := Lib.hid hb3
    clear hb3
    go_wp2_with (fail)
    have hT3 := HT1.out.below (HB2.out.trans (HB3.out.mono HB2.out.size))
    with_reducible refine (known_calls w3 hT3).mono ?_
    rintro e w4 ⟨rfl, hb4⟩
    have HB4 := Lib.hid hb4
    clear hb4 hT3
    go_wp2
    go_ret
    exact ⟨rfl, HB1.out.trans ((HB2.out.trans ((HB3.out.trans (HB4.out.mono HB3.out.size)).mono HB2.out.size)).mono HB1.out.size)⟩

end Go.Proofs.YtjmkafbdmppfaaaDoor
