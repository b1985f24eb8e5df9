/- The law EncodeObjects, walked over Copy's contract: it returns true. Condition: a bulk of at most 10^8. -/
import Derived.Test.YtjmkafbdmppfaaaDoorProg
import Derived.Test.YtjmkafbdmppfaaaDoorLess
import Derived.Test.YtjmkafbdmppfaaaDoorKnown
import Derived.Test.YtjmkafbdmppfaaaDoorMayR3
import Derived.Test.YtjmkafbdmppfaaaDoorBox
import Derived.Test.YtjmkafbdmppfaaaDoorRObj
namespace Go.Proofs.YtjmkafbdmppfaaaDoor
open Go.RowKit

theorem Objects_join {T K X : ByteArray} {f : Bool} {key : ByteArray} {x : Val} {a b : List (ByteArray × Val)} (hT : T.data.toList = 123 :: textO a true) (hK : K.data.toList = quoteB key) (hX : X.data.toList = textV x)
    (hb : textO b true = textO a true ++ ((if f then [] else [44]) ++ (quoteB key ++ 58 :: textV x))) :
    (if f then (((T ++ K) ++ ⟨#[58]⟩) ++ X : ByteArray) else ((((T ++ ⟨#[44]⟩) ++ K) ++ ⟨#[58]⟩) ++ X : ByteArray)).data.toList = 123 :: textO b true := by
  rw [hb]
  cases f <;> simp [ByteArray.data_append, Array.toList_append, hT, hK, hX]

set_option maxRecDepth 100000 in
set_option maxHeartbeats 4000000 in
theorem Objects_walk (HC : ∀ v, CopyC v) (l : List (ByteArray × Val)) (la : Option Addr) (lc : Nat) (w : World) (hT : Tabs w) (hl : l = [] ∨ ∃ g off, la = some ⟨g, off, none⟩ ∧ g < w.heap.size ∧ HoldsO w w.heap.size l g off) (hb : bulkO l ≤ 100000000) (hi : inO l) :
    Calls Tryd.prog 7 #[.slice la l.length lc] w fun e w' => e = .returned (.bool true) ∧ Below w.heap.size w w' := by
  have CO := object_walk HC l la lc w hl hb
  have HCO := Lib.hid CO
  have HT := Lib.hid hT
  clear CO hl hT HC
  go_enter Tryd.func7, Tryd.ntmps7
  go_wp2_with (fail)
  with_reducible refine HCO.out.mono ?_
  rintro e w1 ⟨hb1, ⟨_, rfl⟩ | ⟨o, oa, oc, ho, rfl, hh⟩⟩
  · have hT1 := HT.out.below hb1
    have hbA : Below w1.heap.size w1 (w1.alloc (.cells #[.int .i64 0, .bool false, .int .i64 0, .string ⟨#[]⟩, .slice none 0 0, .slice none 0 0] 26)) := (Below.refl _ _).alloc (Nat.le_refl _) _
    have HTA := Lib.hid (hT1.below hbA)
    have HBA := Lib.hid (hb1.trans (hbA.mono hb1.size))
    clear hb1 hT1 hbA
    go_wp2_with (fail)
    with_reducible refine (known_calls _ HTA.out).mono ?_
    rintro e w2 ⟨rfl, hb2⟩
    have HB2 := Lib.hid (HBA.out.trans (hb2.mono HBA.out.size))
    clear hb2
    go_wp2
    go_ret
    exact ⟨rfl, HB2.out⟩
  · obtain ⟨v, hv⟩ : ∃ v, Val.mk 6 false 0 nob [] o = v := ⟨_, rfl⟩
    have hbo := objAll_bulk ho
    simp only [bulkO, Nat.zero_add] at hbo
    have hio := objAll_in ho (show inO [] from trivial) hi
    have hbv : v.bulk ≤ 100000006 := by rw [← hv]; simp [Val.bulk, bulkL, ByteArray.size]; omega
    have hiv : inV v := by rw [← hv]; simp only [inV, inL]; exact ⟨by omega, trivial, hio⟩
    have hT1 := HT.out.below hb1
    have hV1 : HoldsV w1 w1.heap.size v [.int .i64 6, .bool false, .int .i64 0, .string ⟨#[]⟩, .slice none 0 0, .slice oa o.length oc] := by
      rw [← hv]
      simp only [HoldsV]
      refine ⟨none, 0, oa, oc, rfl, .inl trivial, ?_⟩
      rcases hh with h | ⟨g, e, hg, h⟩
      · exact .inl h
      · exact .inr ⟨g, 0, e, hg, h⟩
    have hX := Boxd.start hT1 hV1
    obtain ⟨wb, hwb⟩ : ∃ wb, w1.alloc (.cells [.int .i64 6, .bool false, .int .i64 0, .string ⟨#[]⟩, .slice none 0 0, .slice oa o.length oc].toArray 26) = wb := ⟨_, rfl⟩
    rw [hwb] at hX
    have hb1x : Below w.heap.size w wb := hb1.trans (hX.below.mono hb1.size)
    obtain ⟨d0, d1, d2, d3, d4, d5⟩ := hX.cells
    have CM := fun w' (h : Boxd w1 w1.heap.size v [.int .i64 6, .bool false, .int .i64 0, .string ⟨#[]⟩, .slice none 0 0, .slice oa o.length oc] w') => RMay_calls v _ w' h.2.2.2 (by omega)
    have CT := fun w' (h : Boxd w1 w1.heap.size v [.int .i64 6, .bool false, .int .i64 0, .string ⟨#[]⟩, .slice none 0 0, .slice oa o.length oc] w') => Text_calls v _ w' h.tabs h.2.2.2 (by omega) hiv
    have HX := Lib.hid hX
    have HB1 := Lib.hid hb1x
    have HB0 := Lib.hid hb1
    have HH := Lib.hid hh
    by_cases hm : mayV v 1 = 0
    · have hpt := hv ▸ hm
      obtain ⟨_, _, _, _, hmO⟩ := mayV_parts hpt
      have hok := okV_of v 1 hm hiv
      have hlenT := textV_len v hok
      have hItem : ∀ x ∈ o, validB x.1 = true ∧ mayV x.2 1 = 0 := fun x hx => ⟨(mayO_all hmO x hx).1, mayV_less x.2 2 1 (by omega) (mayO_all hmO x hx).2⟩
      have htx : textV v = 123 :: (textO o true ++ [125]) := by rw [← hv]; simp [textV]
      have hlenL : (textO o true).length ≤ 600000040 := by
        have := congrArg List.length htx
        simp at this
        omega
      have hin : ∀ x ∈ o, inV x.2 := fun x hx => inO_mem hio hx
      have CT' := fun w' h => CT w' h
      simp only [textS_ok' hm, htx, hm] at CT'
      simp only [hm] at CM
      have hlno := bulkO_len o
      have HItem := Lib.hid hItem
      have HIn := Lib.hid hin
      have HCT := Lib.hid CT'
      have HCM := Lib.hid CM
      have Hbo := Lib.hid hbo
      have H0 : Hid ((⟨#[123]⟩ : ByteArray).data.toList = 123 :: textO (o.take 0) true) := by show _ = _; simp [textO]
      clear CT CT' CM hT1 hb1 hb1x hX hV1 hbv hiv hi hpt hmO hok hlenT hItem htx hin ho hio hh hv hbo hm
      subst hwb
      go_wp2_with (fail)
      with_reducible refine (HCM.out _ HX.out).mono ?_
      rintro e w2 ⟨rfl, hb2⟩
      have hX2 := HX.out.step hb2
      have HX2 := Lib.hid hX2
      obtain ⟨d0, d1, d2, d3, d4, d5⟩ := hX2.cells
      clear hX2 hb2 HX HCM
      go_wp2_with (fail)
      with_reducible refine (HCT.out _ HX2.out).mono ?_
      rintro e w3 ⟨rfl, hb3⟩
      have hX3 := HX2.out.step hb3
      have HX3 := Lib.hid hX3
      clear hX3 hb3 HX2 HCT d0 d1 d2 d3 d4 d5
      go_wp2_with (fail)
      go_loopw [7, 8] (fun t i wr => ∃ (T : ByteArray) (k : Nat), k ≤ o.length ∧ t = .string T ∧ i = .int .i64 k ∧ Hid (T.data.toList = 123 :: textO (o.take k) true) ∧ Hid (Boxd w1 w1.heap.size v [.int .i64 6, .bool false, .int .i64 0, .string ⟨#[]⟩, .slice none 0 0, .slice oa o.length oc] wr)) (fun _ i _ => o.length - (intOf i).toNat)
      case atStart => exact ⟨_, 0, Nat.zero_le _, rfl, rfl, H0, HX3⟩
      case round =>
        obtain ⟨T, k, hk, rfl, rfl, hTx, hbx⟩ := hrel
        clear H0 HX3
        obtain ⟨_, _, _, _, _, d5⟩ := hbx.out.cells
        by_cases hlt : k < o.length
        · obtain ⟨g, rfl, hg, hL⟩ : ∃ g, oa = some ⟨g, 0, none⟩ ∧ g < w1.heap.size ∧ HoldsO w1 w1.heap.size o g 0 := by
            rcases HH.out with h0 | h
            · rw [h0] at hlt; simp at hlt
            · exact h
          obtain ⟨⟨key, x⟩, hx⟩ : ∃ v, o[k]? = some v := ⟨_, List.getElem?_eq_getElem hlt⟩
          have hmem : (key, x) ∈ o := List.mem_of_getElem? hx
          obtain ⟨hvk, hmx⟩ := HItem.out _ hmem
          have hix := HIn.out _ hmem
          have hbm := bulkO_mem hmem
          have hbo' := Hbo.out
          simp only at hvk hmx hix hbm
          have htk : o.take (k + 1) = o.take k ++ [(key, x)] := by rw [List.take_add_one, hx]; rfl
          have hsn := textO_snoc (key, x) (o.take k) true
          rw [← htk] at hsn
          simp only [textP] at hsn
          have c0 : wr.cell? ⟨g, k * 7, none⟩ = some (.string key) := by
            have := ((hL.below hg hbx.out.below).at_ hx).1
            rwa [Nat.zero_add] at this
          have CQ := Quote_valid key wr hbx.out.tabs (by omega) hvk
          obtain ⟨Q, hQ⟩ : ∃ Q : ByteArray, (⟨(34 :: quoteRunes (runes key) ++ [34]).toArray⟩ : ByteArray) = Q := ⟨_, rfl⟩
          have hQd : Q.data.toList = quoteB key := by rw [← hQ]; rfl
          rw [hQ] at CQ
          have hsz : T.size + Q.size ≤ 600000050 ∧ (textV x).length ≤ 600000040 := by
            have h1 := congrArg List.length hTx.out
            have h2 := textO_take_len o (k + 1) true
            have h3 := congrArg List.length hsn
            have h4 := congrArg List.length hQd
            simp only [List.length_append, List.length_cons] at h1 h2 h3 h4
            have h5 := size_list T
            have h6 := size_list Q
            omega
          obtain ⟨hTz, hXl⟩ := hsz
          have HCQ := Lib.hid CQ
          have HLg := Lib.hid hL
          have HSn := Lib.hid hsn
          have HQd := Lib.hid hQd
          have HV := Lib.hid hmx
          have HI := Lib.hid hix
          have HXx := Lib.hid hx
          clear CQ hL hsn hQd hQ hmx hix hx htk hmem hvk
          go_wp2_with (fail)
          with_reducible refine HCQ.out.mono ?_
          rintro e w4 ⟨rfl, hb4⟩
          have hX4 := hbx.out.step hb4
          obtain ⟨_, _, _, _, _, d5'⟩ := hX4.cells
          obtain ⟨k', b', n', t', l', o'⟩ := x
          obtain ⟨la', lc', oa', oc', hvs, _, c1, c2, c3, c4, c5, c6⟩ := (HLg.out.below hg hX4.below).seven HXx.out
          simp only [Nat.zero_add] at c1 c2 c3 c4 c5 c6
          have CT := Text_calls _ _ w4 hX4.tabs (HoldsV.more hX4.below.size _ _ hvs) (by omega) HI.out
          rw [textS_ok' HV.out, HV.out] at CT
          obtain ⟨X, hX⟩ : ∃ X : ByteArray, (⟨(textV (.mk k' b' n' t' l' o')).toArray⟩ : ByteArray) = X := ⟨_, rfl⟩
          have hXs : X.size ≤ 600000040 := by rw [← hX, size_mk]; exact hXl
          have hXd : X.data.toList = textV (.mk k' b' n' t' l' o') := by rw [← hX]
          rw [hX] at CT
          have HJ := Lib.hid (Objects_join (f := (true && (o.take k).isEmpty)) hTx.out HQd.out hXd HSn.out)
          have HCT := Lib.hid CT
          have HX4 := Lib.hid hX4
          clear CT hX hXd hXl hX4 hb4 hvs hbx hTx HSn HQd HXx HI HV d5 c0
          have hne : k ≠ 0 → (o.take k).isEmpty = false := by
            intro h
            rw [List.isEmpty_eq_false_iff]
            intro e
            have := congrArg List.length e
            rw [List.length_take, List.length_nil] at this
            omega
          by_cases hk0 : k = 0
          · subst hk0
            have HJ' : Hid ((((T ++ Q) ++ ⟨#[58]⟩) ++ X : ByteArray).data.toList = 123 :: textO (o.take (0 + 1)) true) := HJ.out
            simp only [Nat.zero_mul, Nat.zero_add] at c1 c2 c3 c4 c5 c6
            clear HJ hne
            go_wp2_with (fail)
            with_reducible refine HCT.out.mono ?_
            rintro e w5 ⟨rfl, hb5⟩
            have HX5 := Lib.hid (HX4.out.step hb5)
            clear hb5 HX4
            go_wp2
            go_roundw
            case rel => exact ⟨_, 0 + 1, by omega, rfl, by go_num, HJ', HX5⟩
            case measure => simp [intOf]; omega
          · have HJ' : Hid (((((T ++ ⟨#[44]⟩) ++ Q) ++ ⟨#[58]⟩) ++ X : ByteArray).data.toList = 123 :: textO (o.take (k + 1)) true) := by
              have := HJ.out
              rw [hne hk0] at this
              exact this
            clear HJ hne
            have hkp : 0 < k := by omega
            go_wp2_with (fail)
            with_reducible refine HCT.out.mono ?_
            rintro e w5 ⟨rfl, hb5⟩
            have HX5 := Lib.hid (HX4.out.step hb5)
            clear hb5 HX4
            go_wp2
            go_roundw
            case rel => exact ⟨_, k + 1, by omega, rfl, by go_num, HJ', HX5⟩
            case measure => simp [intOf]; omega
        · obtain rfl : k = o.length := by omega
          have hTx' := hTx.out
          rw [List.take_length] at hTx'
          have hTz : T.size ≤ 600000050 := by
            have h1 := congrArg List.length hTx'
            have h3 := size_list T
            simp only [List.length_cons] at h1
            omega
          have hE : (⟨(123 :: (textO o true ++ [125])).toArray⟩ : ByteArray) = T ++ ⟨#[125]⟩ := by
            apply ByteArray.ext
            rw [ByteArray.data_append]
            apply Array.ext'
            rw [Array.toList_append, hTx']
            simp
          have hE2 : 123 :: (textO o true ++ [125]) = (T ++ ⟨#[125]⟩ : ByteArray).toList := by
            rw [← hE, Lib.toList_data]
          clear hE hTx hTx'
          go_wp2_with (fail)
          with_reducible refine (known_calls wr hbx.out.tabs).mono ?_
          rintro e w4 ⟨rfl, hb4⟩
          have HX4 := Lib.hid (hbx.out.step hb4)
          clear hb4 hE2 hbx
          go_wp2
          go_ret
          exact ⟨rfl, HB0.out.trans (HX4.out.below.mono HB0.out.size)⟩
    · have hmb : (mayV v 1 == 0) = false := by simpa using hm
      have hmn : (mayV v 1 != 0) = true := by simpa using hm
      generalize mayV v 1 = m at *
      have HCM := Lib.hid CM
      clear CT CM hm hT1 hb1 hb1x hX hV1 hbv hiv ho hio hh hv hbo hi hb
      subst hwb
      go_wp2_with (fail)
      with_reducible refine (HCM.out _ HX.out).mono ?_
      rintro e w2 ⟨rfl, hb2⟩
      have HX2 := Lib.hid (HX.out.step hb2)
      clear hb2 HX HCM
      go_wp2_with (fail)
      with_reducible refine (known_calls _ HX2.out.tabs).mono ?_
      rintro e w3 ⟨rfl, hb3⟩
      have HX3 := Lib.hid (HX2.out.step hb3)
      clear hb3 HX2
      go_wp2
      go_ret
      exact ⟨rfl, HB0.out.trans (HX3.out.below.mono HB0.out.size)⟩

end Go.Proofs.YtjmkafbdmppfaaaDoor
