/- The law EncodeUnlike, walked: it returns true. Condition: values of a bulk of at most 10^8 each. -/
import Derived.Test.YtjmkafbdmppfaaaDoorProg
import Derived.Test.YtjmkafbdmppfaaaDoorBox
import Derived.Test.YtjmkafbdmppfaaaDoorRCmp4
namespace Go.Proofs.YtjmkafbdmppfaaaDoor
open Go.RowKit

theorem Boxd.start2 {w : World} {v : Val} {c : List Value} (o : Obj) (hT : Tabs w) (hV : HoldsV w w.heap.size v c) : Boxd w (w.heap.size + 1) v c ((w.alloc o).alloc (.cells c.toArray 26)) := by
  have hb := two_below w o (.cells c.toArray 26)
  refine ⟨hb, ?_, hT.below hb, HoldsV.more hb.size _ _ (hV.below hb)⟩
  have := heap_alloc_new (w.alloc o) (.cells c.toArray 26)
  simpa using this

set_option maxRecDepth 100000 in
set_option maxHeartbeats 4000000 in
theorem Unlike_law (v u : Val) (cs cs' : List Value) (w : World) (hT : Tabs w) (hV : HoldsV w w.heap.size v cs) (hU : HoldsV w w.heap.size u cs') (hb : v.bulk ≤ 100000000) (hb' : u.bulk ≤ 100000000) (hi : inV v) (hi' : inV u) :
    Calls Tryd.prog 4 #[.agg cs.toArray, .agg cs'.toArray] w fun e w' => e = .returned (.bool true) ∧ Below w.heap.size w w' := by
  have hV' := hV
  have hU' := hU
  obtain ⟨k, b, n, t, l, o⟩ := v
  obtain ⟨k1, b1, n1, t1, l1, o1⟩ := u
  simp only [HoldsV] at hV' hU'
  obtain ⟨la, lc, oa, oc, rfl, _, _⟩ := hV'
  obtain ⟨la1, lc1, oa1, oc1, rfl, _, _⟩ := hU'
  have H1 := Lib.hid ((Boxd.start hT hV).step ((Below.refl _ _).alloc (Nat.le_refl _) (.cells (cells6 k1 b1 n1 t1 la1 l1.length lc1 oa1 o1.length oc1).toArray 26)))
  have K1 := Lib.hid (Boxd.start2 (.cells (cells6 k b n t la l.length lc oa o.length oc).toArray 26) hT hU)
  obtain ⟨v, hv⟩ : ∃ v, Val.mk k b n t l o = v := ⟨_, rfl⟩
  obtain ⟨u, hu⟩ : ∃ u, Val.mk k1 b1 n1 t1 l1 o1 = u := ⟨_, rfl⟩
  rw [hv] at hi hb H1
  rw [hu] at hi' hb' K1
  have CM := fun w' (h : Boxd w w.heap.size v (cells6 k b n t la l.length lc oa o.length oc) w') => RMay_calls v _ w' h.2.2.2 (by omega)
  have CN := fun w' (h : Boxd w (w.heap.size + 1) u (cells6 k1 b1 n1 t1 la1 l1.length lc1 oa1 o1.length oc1) w') => RMay_calls u _ w' h.2.2.2 (by omega)
  by_cases hm : mayV v 1 ≠ 0
  · have hmb : (mayV v 1 == 0) = false := by simpa using hm
    have hmn : (mayV v 1 != 0) = true := by simpa using hm
    generalize mayV v 1 = m at *
    have HM := Lib.hid CM
    clear CM CN hm hi hb hT hV hv hi' hb' hU hu K1
    go_enter Tryd.func4, Tryd.ntmps4
    go_wp2_with (fail)
    with_reducible refine (HM.out _ H1.out).mono ?_
    rintro e w2 ⟨rfl, hb2⟩
    have H2 := Lib.hid (H1.out.step hb2)
    clear hb2 H1
    go_wp2_with (fail)
    with_reducible refine (known_calls w2 H2.out.tabs).mono ?_
    rintro e w6 ⟨rfl, hb6⟩
    have H6 := Lib.hid (H2.out.step hb6)
    clear hb6
    go_wp2
    go_ret
    exact ⟨rfl, H6.out.below⟩
  replace hm : mayV v 1 = 0 := by omega
  by_cases hm' : mayV u 1 ≠ 0
  · rw [hm] at CM
    have hmb : (mayV u 1 == 0) = false := by simpa using hm'
    have hmn : (mayV u 1 != 0) = true := by simpa using hm'
    generalize mayV u 1 = m at *
    have HM := Lib.hid CM
    have HN := Lib.hid CN
    clear CM CN hm hm' hi hb hT hV hv hi' hb' hU hu
    go_enter Tryd.func4, Tryd.ntmps4
    go_wp2_with (fail)
    with_reducible refine (HM.out _ H1.out).mono ?_
    rintro e w2 ⟨rfl, hb2⟩
    have H2 := Lib.hid (H1.out.step hb2)
    have K2 := Lib.hid (K1.out.step hb2)
    obtain ⟨d0, d1, d2, d3, d4, d5⟩ := K2.out.cells
    clear hb2 H1 K1
    go_wp2_with (fail)
    with_reducible refine (HN.out _ K2.out).mono ?_
    rintro e w3 ⟨rfl, hb3⟩
    have H3 := Lib.hid (H2.out.step hb3)
    clear hb3 H2 K2 d0 d1 d2 d3 d4 d5
    go_wp2_with (fail)
    with_reducible refine (known_calls w3 H3.out.tabs).mono ?_
    rintro e w6 ⟨rfl, hb6⟩
    have H6 := Lib.hid (H3.out.step hb6)
    clear hb6
    go_wp2
    go_ret
    exact ⟨rfl, H6.out.below⟩
  replace hm' : mayV u 1 = 0 := by omega
  have CT := fun w' (h : Boxd w w.heap.size v (cells6 k b n t la l.length lc oa o.length oc) w') => Text_calls v _ w' h.tabs h.2.2.2 (by omega) hi
  have CU := fun w' (h : Boxd w (w.heap.size + 1) u (cells6 k1 b1 n1 t1 la1 l1.length lc1 oa1 o1.length oc1) w') => Text_calls u _ w' h.tabs h.2.2.2 (by omega) hi'
  have CC := fun w' (h : Boxd w w.heap.size v (cells6 k b n t la l.length lc oa o.length oc) w') (h' : Boxd w (w.heap.size + 1) u (cells6 k1 b1 n1 t1 la1 l1.length lc1 oa1 o1.length oc1) w') => cmp_calls v u _ _ w' 1 1 h.2.2.2 h'.2.2.2 (by omega) (by omega) hm hm'
  obtain ⟨S, hS⟩ : ∃ S : ByteArray, (⟨(textV v).toArray⟩ : ByteArray) = S := ⟨_, rfl⟩
  obtain ⟨T, hTT⟩ : ∃ T : ByteArray, (⟨(textV u).toArray⟩ : ByteArray) = T := ⟨_, rfl⟩
  have hST : S = T ↔ v = u := by
    constructor
    · intro e
      refine text_inj hm hm' ?_
      have h1 : S.data.toList = textV v := by rw [← hS]
      have h2 : T.data.toList = textV u := by rw [← hTT]
      rw [← h1, ← h2, e]
    · rintro rfl
      rw [← hS, ← hTT]
  rw [textS_ok' hm, hS, hm] at CT
  rw [textS_ok' hm', hTT, hm'] at CU
  rw [hm] at CM
  rw [hm'] at CN
  obtain ⟨P, hP⟩ : ∃ P : Prop, (v = u) = P := ⟨_, rfl⟩
  rw [hP] at CC hST
  have HM := Lib.hid CM
  have HN := Lib.hid CN
  have HT := Lib.hid CT
  have HU := Lib.hid CU
  have HC := Lib.hid CC
  have HST := Lib.hid hST
  clear CM CN CT CU CC hST hP hS hTT hm hm' hi hb hT hV hv hi' hb' hU hu
  go_enter Tryd.func4, Tryd.ntmps4
  go_wp2_with (fail)
  with_reducible refine (HM.out _ H1.out).mono ?_
  rintro e w2 ⟨rfl, hb2⟩
  have H2 := Lib.hid (H1.out.step hb2)
  have K2 := Lib.hid (K1.out.step hb2)
  obtain ⟨d0, d1, d2, d3, d4, d5⟩ := K2.out.cells
  clear hb2 H1 K1
  go_wp2_with (fail)
  with_reducible refine (HN.out _ K2.out).mono ?_
  rintro e w3 ⟨rfl, hb3⟩
  have H3 := Lib.hid (H2.out.step hb3)
  have K3 := Lib.hid (K2.out.step hb3)
  clear hb3 H2 K2 d0 d1 d2 d3 d4 d5
  obtain ⟨d0, d1, d2, d3, d4, d5⟩ := H3.out.cells
  go_wp2_with (fail)
  with_reducible refine (HT.out _ H3.out).mono ?_
  rintro e w4 ⟨rfl, hb4⟩
  have H4 := Lib.hid (H3.out.step hb4)
  have K4 := Lib.hid (K3.out.step hb4)
  clear hb4 H3 K3 d0 d1 d2 d3 d4 d5
  obtain ⟨d0, d1, d2, d3, d4, d5⟩ := K4.out.cells
  go_wp2_with (fail)
  with_reducible refine (HU.out _ K4.out).mono ?_
  rintro e w5 ⟨rfl, hb5⟩
  have H5 := Lib.hid (H4.out.step hb5)
  have K5 := Lib.hid (K4.out.step hb5)
  clear hb5 H4 K4 d0 d1 d2 d3 d4 d5
  obtain ⟨d0, d1, d2, d3, d4, d5⟩ := H5.out.cells
  obtain ⟨e0, e1, e2, e3, e4, e5⟩ := K5.out.cells
  by_cases hp : P
  · obtain rfl : S = T := HST.out.2 hp
    go_wp2_with (fail)
    with_reducible refine (HC.out _ H5.out K5.out).mono ?_
    rintro e w6 ⟨c, rfl, hc, hb6⟩
    obtain rfl : c = 0 := hc.2 hp
    have H6 := Lib.hid (H5.out.step hb6)
    clear hb6 hc d0 d1 d2 d3 d4 d5 e0 e1 e2 e3 e4 e5 H5 K5
    go_wp2_with (fail)
    with_reducible refine (known_calls w6 H6.out.tabs).mono ?_
    rintro e w7 ⟨rfl, hb7⟩
    have H7 := Lib.hid (H6.out.step hb7)
    clear hb7
    go_wp2
    go_ret
    exact ⟨rfl, H7.out.below⟩
  · have hne : ¬S.toList = T.toList := by
      intro e
      rw [Lib.toList_data, Lib.toList_data] at e
      exact hp (HST.out.1 (ByteArray.ext (Array.ext' e)))
    have hne2 : (S.toList == T.toList) = false := by simpa using hne
    go_wp2_with (fail)
    with_reducible refine (HC.out _ H5.out K5.out).mono ?_
    rintro e w6 ⟨c, rfl, hc, hb6⟩
    have hc0 : c ≠ 0 := fun e => hp (hc.1 e)
    have f1 : (c == 0) = false := by simpa using hc0
    have H6 := Lib.hid (H5.out.step hb6)
    clear hb6 hc hc0 d0 d1 d2 d3 d4 d5 e0 e1 e2 e3 e4 e5 H5 K5
    go_wp2_with (fail)
    with_reducible refine (known_calls w6 H6.out.tabs).mono ?_
    rintro e w7 ⟨rfl, hb7⟩
    have H7 := Lib.hid (H6.out.step hb7)
    clear hb7
    go_wp2
    go_ret
    exact ⟨rfl, H7.out.below⟩

end Go.Proofs.YtjmkafbdmppfaaaDoor
