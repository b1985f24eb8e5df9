/- Parts, joined: slices.Clone of members. Condition: at most 10^8 of them. encode.bytes: how many bytes a value's text has. Condition: a bulk of at most 10^9. Why a value may not be: the reference's function, of every value. Condition: a bulk of at most 10^9. commonplaceref02.Deep: how deep a value is. Condition: a bulk of at most 10^8. A value that may be may stand deeper, as long as it is not too deep. Plain. No condition. Four bytes put together as a sum, the lowest first. Plain. No condition. -/
import Derived.Test.YtemceefalkfneaaGreatDoorProg
import Derived.WalkSpells
import Derived.Lib.Hide
import Derived.Laws.BitsAllLaws
import Derived.Test.YtemceefalkfneaaGreatDoorKCm3
import Derived.Test.YtemceefalkfneaaGreatDoorKCm14
import Derived.Test.YtemceefalkfneaaGreatDoorKCm16
import Derived.Test.YtemceefalkfneaaGreatDoorKCm18
import Derived.Test.YtemceefalkfneaaGreatDoorKCm19
import Derived.Test.YtemceefalkfneaaGreatDoorKCm20
/- slices.Clone of members. Condition: at most 10^8 of them. -/
namespace Go.Proofs.YtemceefalkfneaaGreatDoor
open Go.RowKit

def ClonePost (w : World) (o : List (ByteArray × Val)) (e : Ending) (w' : World) : Prop := ∃ V ns, e = .returned V ∧ w'.ownsRow w.heap.size 57 7 V o.length ns ∧ HoldsA w w.heap.size (dO o) ns ∧ Below w.heap.size w w'

set_option maxRecDepth 100000 in
theorem clone_calls (o : List (ByteArray × Val)) (a : Option Addr) (n c : Nat) (w : World) (h : Holds w w.heap.size (.row 7 (dO o)) [.slice a n c]) (hn : o.length ≤ 100000000) :
    Calls Tryz.prog 79 #[.slice a n c] w (ClonePost w o) := by
  have hl := h.row_len
  rw [dO_len] at hl
  subst hl
  obtain ⟨ns, hr, hA, ho⟩ := h.reads
  have hnil := fun W => Lib.run_eql_slice_nil (P := Tryz.prog) W 50 57 a o.length c 0 0 Tryz.underlying50
  cases a with
  | none =>
    have h0 : o.length = 0 := by
      rcases Nat.eq_zero_or_pos o.length with h0 | h0
      · exact h0
      · obtain ⟨ad, e, _⟩ := hr.2 h0
        cases e
    have hns : ns = [] := List.eq_nil_of_length_eq_zero (by rw [hr.1, h0])
    subst hns
    have H0 := Lib.hid h0
    have HA := Lib.hid hA
    clear h0 hA
    clear h hr ho
    go_enter Tryz.func79, Tryz.ntmps79
    go_wp2
    go_ret
    exact ⟨.slice none 0 0, [], rfl, by rw [H0.out]; exact World.ownsRow_nil _ _ _ _, HA.out, Below.refl _ _⟩
  | some ad =>
    obtain ⟨j0, hj, hy0, hy1, hy2⟩ := info_parts info_mem
    have Hj := Lib.hid hj
    have Hy0 := Lib.hid hy0
    have Hy1 := Lib.hid hy1
    have Hy2 := Lib.hid hy2
    have Hr := Lib.hid hr
    have HA := Lib.hid hA
    have Ho := Lib.hid ho
    clear hj hy0 hy1 hy2 hr hA ho
    clear h
    go_enter Tryz.func79, Tryz.ntmps79
    have HOwn : Hid ((w.alloc (.cells #[] 57)).ownsRow w.heap.size 57 7 (.slice (some ⟨w.heap.size, 0, none⟩) 0 0) 0 []) :=
      ⟨by simp, .inr ⟨w.heap.size, 0, #[], rfl, Nat.le_refl _, heap_alloc_new _ _, Nat.le_refl _, by unfold maxLen; omega, by simp, by simp⟩⟩
    go_wp2_with (at_builtin; refine wpList_append_any _ rfl (.tmp 5) (.tmp 6) 50 rfl w.heap.size 57 j0 (.agg #[.string ⟨#[]⟩, .int .i64 0, .bool false, .int .i64 0, .string ⟨#[]⟩, .slice none 0 0, .slice none 0 0]) 7 104 Tryz.underlying50 Hj.out Hy0.out Hy1.out Hy2.out rfl (by omega) (.slice (some ⟨w.heap.size, 0, none⟩) 0 0) 0 [] rfl HOwn.out w.heap.size _ o.length _ ns rfl ?c0 ?c1 ?c2 ?c3 ?c4 ?_)
    case c0 => exact Hr.out.alloc (Nat.le_refl _) _
    case c1 => exact Ho.out
    case c2 => unfold maxLen; omega
    case c3 => omega
    case c4 => simp
    intro v1 w1 hown1 hgrow1 _
    have hb : Below w.heap.size w w1 := ((Below.refl _ _).alloc (Nat.le_refl _) _).grown hgrow1 (by simp) (fun g hg => by simp [Value.ownBlock] at hg; omega)
    have Hown1 := Lib.hid hown1
    have Hb := Lib.hid hb
    clear hown1 hb
    clear hgrow1
    go_wp2
    go_ret
    exact ⟨v1, ns, rfl, by simpa using Hown1.out, HA.out, Hb.out⟩
end Go.Proofs.YtemceefalkfneaaGreatDoor

/- encode.bytes: how many bytes a value's text has. Condition: a bulk of at most 10^9. -/
namespace Go.Proofs.YtemceefalkfneaaGreatDoor
open Go.RowKit

set_option maxHeartbeats 2000000 in
theorem bytes_calls (v : Val) (cs : List Value) (w : World) (hT : Tabs w) (hV : HoldsV w w.heap.size v cs) (hb : v.bulk ≤ 1000000000) (hok : okV v) :
    Calls Tryz.prog 123 #[.agg cs.toArray] w fun e w' => e = .returned (.int .i64 (textV v).length) ∧ Below w.heap.size w w' := by
  have hV' := hV
  obtain ⟨k, b, n, t, l, o⟩ := v
  simp only [HoldsV] at hV'
  obtain ⟨la, lc, oa, oc, rfl, _, _⟩ := hV'
  obtain ⟨w1, hw1⟩ : ∃ w1, w.alloc (.cells (cells6 k b n t la l.length lc oa o.length oc).toArray 52) = w1 := ⟨_, rfl⟩
  have hb1 : Below w.heap.size w w1 := hw1 ▸ (Below.refl _ _).alloc (Nat.le_refl _) _
  have hz1 : w1.heap.size = w.heap.size + 1 := by rw [← hw1]; simp
  have hc := writer_calls k b n t l o la oa lc oc false w1 (hT.below hb1) (HoldsV.more hb1.size _ _ (hV.below hb1)) hb hok
  have hown := fun w => own_calls k b n t la oa l.length lc o.length oc w
  rw [hz1] at hc
  generalize textV (.mk k b n t l o) = L at *
  have ent := enters_ownF
  have HC := Lib.hid hc
  have HO := Lib.hid hown
  have HAB := Lib.hid hb1
  subst hw1
  clear hc hown hV hb hok hT hz1 hb1
  go_enter Tryz.func123, Tryz.ntmps123
  go_wp2_with (first | (go_at_call 61; refine (HO.out _).mono ?_; rintro e w2 ⟨rfl, rfl⟩) | (go_at_fn (ownF k); refine (HC.out).mono ?_; rintro e w4 ⟨rfl, h6, h7⟩; have hW4 := h6; obtain ⟨pp, vv, hbld⟩ := hW4; have g3 : w4.cell? ⟨w.heap.size + 1, 3, none⟩ = some (.int .i64 (L.length : Int)) := by (rw [Lib.cell_of_heap hbld.2.1]; rfl)))
  go_ret
  exact ⟨rfl, HAB.out.trans (h7.mono (by simp))⟩
end Go.Proofs.YtemceefalkfneaaGreatDoor

/- Why a value may not be: the reference's function, of every value. Condition: a bulk of at most 10^9. -/
namespace Go.Proofs.YtemceefalkfneaaGreatDoor
open Go.RowKit

set_option maxHeartbeats 2000000 in
theorem mayR_calls : ∀ (v : Val), MayRC v := by
  refine Val.ind ?_
  intro k b n t l o ihl iho cs d w hV hb h0 h65
  simp only [HoldsV] at hV
  obtain ⟨la, lc, oa, oc, rfl, hL, hO⟩ := hV
  simp only [Val.bulk] at hb
  by_cases hodd : oddB k b n t l.length o.length = true
  · have hm : mayV (.mk k b n t l o) d = 9 := by simp only [mayV, hodd, if_true]
    rw [hm]
    clear hm ihl iho hL hO
    go_enter Tryz.func130, Tryz.ntmps130
    go_wp2_with (go_at_call 198; refine (bare_calls2 hodd _).mono ?_; rintro e w' ⟨rfl, hb1⟩)
    go_ret
    exact ⟨rfl, ((Below.refl _ _).alloc (Nat.le_refl _) _).trans (hb1.mono (by simp))⟩
  have hodd' : oddB k b n t l.length o.length = false := by simpa using hodd
  clear hodd
  by_cases h64 : 64 < d
  · have hm : mayV (.mk k b n t l o) d = 5 := by simp only [mayV, hodd', Bool.false_eq_true, if_false, h64, if_true]
    rw [hm]
    clear hm ihl iho hL hO
    go_enter Tryz.func130, Tryz.ntmps130
    go_wp2_with (go_at_call 198; refine (bare_calls2 hodd' _).mono ?_; rintro e w' ⟨rfl, hb1⟩)
    go_ret
    exact ⟨rfl, ((Below.refl _ _).alloc (Nat.le_refl _) _).trans (hb1.mono (by simp))⟩
  by_cases hval : validB t = true
  · obtain ⟨hk, ht, hl, ho⟩ := odd_parts hodd'
    by_cases hl0 : l = []
    · subst hl0
      have hm : mayV (.mk k b n t [] o) d = mayO o none (d + 1) := by
        simp only [mayV, hodd', Bool.false_eq_true, if_false, h64, hval, if_true, mayL]
      rw [hm]
      rcases hO with rfl | ⟨g, off, rfl, hg, hO⟩
      · exact mayR_obj k b n t [] la oa lc oc d w 0 0 (.inl rfl) (by simp only [bulkO] at hb ⊢; omega) h0 (by omega) iho hodd' hval
      · exact mayR_obj k b n t o la _ lc oc d w g off (.inr ⟨rfl, hg, hO⟩) (by omega) h0 (by omega) iho hodd' hval
    · have hl1 : 0 < l.length := List.length_pos_iff.2 hl0
      obtain rfl : o = [] := List.eq_nil_of_length_eq_zero (by omega)
      have hm : mayV (.mk k b n t l []) d = mayL l (d + 1) := by
        simp only [mayV, hodd', Bool.false_eq_true, if_false, h64, hval, if_true, mayO]
        split <;> simp_all
      rw [hm]
      rcases hL with rfl | ⟨g, off, rfl, hg, hL⟩
      · exact absurd rfl hl0
      · exact mayR_list k b n t l _ oa lc oc d w g off (.inr ⟨rfl, hg, hL⟩) (by omega) h0 (by omega) ihl hodd' hval
  · have hval' : validB t = false := by simpa using hval
    have hm : mayV (.mk k b n t l o) d = 3 := by simp only [mayV, hodd', Bool.false_eq_true, if_false, h64, hval']
    rw [hm]
    clear hm ihl iho hL hO hval
    go_enter Tryz.func130, Tryz.ntmps130
    go_wp2_with (first | (go_at_call 198; refine (bare_calls2 hodd' _).mono ?_; rintro e w1 ⟨rfl, hb1⟩; obtain ⟨hc1, hf1⟩ := bcell hb1; have hz1 := hb1.size; simp only [World.size_alloc] at hz1; have hbw1 : Below w.heap.size w w1 := ((Below.refl _ _).alloc (Nat.le_refl _) _).trans (hb1.mono (by simp))) | (go_at_call 82; refine (RValid_calls2 hval' _ (by omega)).mono ?_; rintro e w2 ⟨rfl, rfl⟩))
    go_ret
    exact ⟨rfl, hbw1⟩

/-- commonplaceref02.May -/
theorem RMay_calls (v : Val) (cs : List Value) (w : World) (hV : HoldsV w w.heap.size v cs) (hb : v.bulk ≤ 1000000000) :
    Calls Tryz.prog 83 #[.agg cs.toArray] w fun e w' => e = .returned (.int .i64 (mayV v 1)) ∧ Below w.heap.size w w' := by
  have hV' := hV
  obtain ⟨k, b, n, t, l, o⟩ := v
  simp only [HoldsV] at hV'
  obtain ⟨la, lc, oa, oc, rfl, _, _⟩ := hV'
  have hc := mayR_calls _ _ 1 (w.alloc (.cells #[.int .i64 k, .bool b, .int .i64 n, .string t, .slice la l.length lc, .slice oa o.length oc] 52)) (HoldsV.more (by simp) _ _ (hV.below ((Below.refl _ _).alloc (Nat.le_refl _) _))) hb (by omega) (by omega)
  generalize mayV _ _ = m at hc ⊢
  have H := Lib.hid hc
  clear hc hV
  go_enter Tryz.func83, Tryz.ntmps83
  go_wp2_with (go_at_call 130; refine (H.out).mono ?_; rintro e w' ⟨rfl, hb1⟩)
  go_ret
  exact ⟨rfl, ((Below.refl _ _).alloc (Nat.le_refl _) _).trans (hb1.mono (by simp))⟩

end Go.Proofs.YtemceefalkfneaaGreatDoor

/- commonplaceref02.Deep: how deep a value is. Condition: a bulk of at most 10^8. -/
namespace Go.Proofs.YtemceefalkfneaaGreatDoor
open Go.RowKit

theorem RWithin_calls (v : Val) (cs : List Value) (w : World) (hV : HoldsV w w.heap.size v cs) (hb : v.bulk ≤ 100000000) :
    Calls Tryz.prog 131 #[.agg cs.toArray] w (WithinPost w v) := by
  obtain ⟨k, b, n, t, l, o⟩ := v
  simp only [HoldsV] at hV
  obtain ⟨la, lc, oa, oc, rfl, hla, hoa⟩ := hV
  simp only [Val.bulk] at hb
  by_cases h5 : k = 5
  · subst h5
    exact within_list b n t l o la oa oc lc w hla (by omega)
  by_cases h6 : k = 6
  · subst h6
    exact within_obj b n t l o la oa oc lc w hoa (by omega)
  have hw : within (.mk k b n t l o) = [] := by simp [within, h5, h6]
  have Hw := Lib.hid hw
  have e5 : (k == 5) = false := by simpa using h5
  have e6 : (k == 6) = false := by simpa using h6
  clear hw hla hoa hb h5 h6
  go_enter Tryz.func131, Tryz.ntmps131
  go_wp2
  go_ret
  exact ⟨⟨none, 0, by rw [Hw.out]; rfl, .inl Hw.out⟩, (Below.refl _ _).alloc (Nat.le_refl _) _⟩

theorem deepO_map : ∀ o : List (ByteArray × Val), deepO o = deepL (o.map (·.2))
  | [] => rfl
  | (k, v) :: r => by simp only [deepO, deepP, List.map_cons, deepL, deepO_map r]
theorem deepV_within (v : Val) : deepV v = 1 + deepL (within v) := by
  obtain ⟨k, b, n, t, l, o⟩ := v
  simp only [deepV, within]
  by_cases h5 : k = 5
  · simp [h5]
  by_cases h6 : k = 6
  · simp [h6, deepO_map]
  · simp [h5, h6, deepL]
theorem bulkO_map : ∀ o : List (ByteArray × Val), bulkL (o.map (·.2)) ≤ bulkO o
  | [] => by simp [bulkL]
  | (k, v) :: r => by
    have := bulkO_map r
    simp only [List.map_cons, bulkL, bulkO, bulkP]
    omega
theorem within_bulk (v : Val) : bulkL (within v) ≤ v.bulk := by
  obtain ⟨k, b, n, t, l, o⟩ := v
  have := bulkO_map o
  simp only [within, Val.bulk]
  split
  · omega
  split
  · omega
  · simp [bulkL]

/-- What the reference's Deep does with a value. -/
def RDeepC (v : Val) : Prop := ∀ (cs : List Value) (w : World), HoldsV w w.heap.size v cs → v.bulk ≤ 100000000 →
    Calls Tryz.prog 84 #[.agg cs.toArray] w fun e w' => e = .returned (.int .i64 (deepV v)) ∧ Below w.heap.size w w'

set_option maxRecDepth 100000 in
set_option maxHeartbeats 2000000 in
theorem rdeep_step (v : Val) (IH : ∀ x ∈ within v, RDeepC x) : RDeepC v := by
  intro cs w hV hb
  have hV' := hV
  have hbw := within_bulk v
  have hlw := bulkL_len (within v)
  have hdw := deepL_le (within v) (fun x _ => deepV_le x)
  have hW0 := fun w' (h : Below w.heap.size w w') => RWithin_calls v cs w' (HoldsV.more h.size _ _ (hV.below h)) hb
  rw [deepV_within]
  unfold WithinPost at hW0
  generalize within v = L at *
  obtain ⟨k, b, n, t, l, o⟩ := v
  simp only [HoldsV] at hV'
  obtain ⟨la, lc, oa, oc, rfl, _, _⟩ := hV'
  have HI := Lib.hid IH
  have HW := Lib.hid hW0
  obtain ⟨M, hM⟩ : ∃ M, deepL L = M := ⟨_, rfl⟩
  rw [hM] at hdw ⊢
  have H0 : Hid (max 0 (deepL (L.drop 0)) = M) := by show _ = _; rw [List.drop_zero, hM]; simp
  have HB1 : Hid (Below w.heap.size w (w.alloc (.cells (cells6 k b n t la l.length lc oa o.length oc).toArray 52))) := (Below.refl _ _).alloc (Nat.le_refl _) _
  clear IH hW0 hM hV
  go_enter Tryz.func84, Tryz.ntmps84
  go_wp2_with (fail)
  with_reducible refine (HW.out _ HB1.out).mono ?_
  rintro e w2 ⟨⟨la', lc', rfl, hsl⟩, hb2⟩
  have Hsl := Lib.hid hsl
  have HB2 := Lib.hid (HB1.out.trans (hb2.mono HB1.out.size))
  clear hsl hb2 HB1 HW
  go_wp2_with (fail)
  have HBr : Hid (Below w2.heap.size w2 w2) := Below.refl _ _
  go_loopw [3, 5] (fun m i wr => ∃ D k : Nat, m = .int .i64 D ∧ i = .int .i64 k ∧ k ≤ L.length ∧ Hid (max D (deepL (L.drop k)) = M) ∧ D ≤ M ∧ Hid (Below w2.heap.size w2 wr)) (fun _ i _ => L.length - (intOf i).toNat)
  case atStart => exact ⟨0, 0, rfl, rfl, Nat.zero_le _, H0, Nat.zero_le _, HBr⟩
  case round =>
    obtain ⟨D, k, rfl, rfl, hk, hD, hDM, hbw⟩ := hrel
    clear H0 HBr
    by_cases hlt : k < L.length
    · obtain ⟨g, off, rfl, hg, hL⟩ : ∃ g off, la' = some ⟨g, off, none⟩ ∧ g < w2.heap.size ∧ HoldsL w2 w2.heap.size L g off := by
        rcases Hsl.out with h | h
        · rw [h] at hlt; simp at hlt
        · exact h
      obtain ⟨x, hx⟩ : ∃ v, L[k]? = some v := ⟨_, List.getElem?_eq_getElem hlt⟩
      have hmem : x ∈ L := List.mem_of_getElem? hx
      have hbv := bulkL_mem hmem
      have hdv := deepV_le x
      have hdrop : L.drop k = x :: L.drop (k + 1) := drop_of_get hx
      have hD' := hD.out
      rw [hdrop] at hD'
      simp only [deepL] at hD'
      have IHx := HI.out x hmem
      have hz := hbw.out.size
      obtain ⟨m, hm⟩ : ∃ m, deepV x = m := ⟨_, rfl⟩
      obtain ⟨k', b', n', t', l', o'⟩ := x
      obtain ⟨la', lc', oa', oc', hvs, c0, c1, c2, c3, c4, c5⟩ := (hL.below hg hbw.out).six hx
      have CT := IHx _ wr (HoldsV.more hz _ _ hvs) (by omega)
      rw [hm] at CT hD' hdv
      have hCT := Lib.hid CT
      have Hn : Hid (max (max D m) (deepL (L.drop (k + 1))) = M) := by show _ = _; omega
      have hmM : max D m ≤ M := by omega
      clear CT hD hD' hdrop IHx hm hvs hx hmem hL hg hdv hbv
      by_cases hgt : D < m
      · have e1 : max D m = m := by omega
        rw [e1] at Hn hmM
        clear e1
        go_wp2_with (fail)
        with_reducible refine hCT.out.mono ?_
        rintro e w4 ⟨rfl, hb4⟩
        have hbw4 := Lib.hid (hbw.out.trans (hb4.mono hz))
        clear hb4 hbw hCT
        go_wp2
        go_roundw
        case rel => exact ⟨m, k + 1, rfl, by go_num, by omega, Hn, hmM, hbw4⟩
        case measure => simp only [intOf]; omega
      · have e1 : max D m = D := by omega
        rw [e1] at Hn hmM
        clear e1
        go_wp2_with (fail)
        with_reducible refine hCT.out.mono ?_
        rintro e w4 ⟨rfl, hb4⟩
        have hbw4 := Lib.hid (hbw.out.trans (hb4.mono hz))
        clear hb4 hbw hCT
        go_wp2
        go_roundw
        case rel => exact ⟨D, k + 1, rfl, by go_num, by omega, Hn, hmM, hbw4⟩
        case measure => simp only [intOf]; omega
    · obtain rfl : k = L.length := by omega
      have hD' := hD.out
      rw [List.drop_length] at hD'
      simp only [deepL] at hD'
      obtain rfl : D = M := by omega
      have hc : (D : Int) + 1 = ((1 + D : Nat) : Int) := by omega
      have Hc := Lib.hid hc
      clear hD hD' hc
      go_wp2
      go_ret
      exact ⟨by rw [← Hc.out]; rfl, HB2.out.trans (hbw.out.mono HB2.out.size)⟩

theorem rdeep_calls : ∀ v, RDeepC v := by
  refine Val.ind ?_
  intro k b n t l o IHl IHo
  refine rdeep_step _ (fun x hx => ?_)
  simp only [within] at hx
  split at hx
  · exact IHl x hx
  split at hx
  · obtain ⟨m, hm, rfl⟩ := List.mem_map.1 hx
    exact IHo m hm
  · cases hx

end Go.Proofs.YtemceefalkfneaaGreatDoor

/- A value that may be may stand deeper, as long as it is not too deep. Plain. No condition. -/
namespace Go.Proofs.YtemceefalkfneaaGreatDoor
open Go.RowKit

theorem mayL_deeper : ∀ {l : List Val}, (∀ v ∈ l, ∀ d d' : Int, mayV v d' = 0 → d + deepV v ≤ 65 → mayV v d = 0) → ∀ {d d' : Int}, mayL l d' = 0 → (l = [] ∨ d + deepL l ≤ 65) → mayL l d = 0
  | [], _, _, _, _, _ => by simp [mayL]
  | v :: r, ih, d, d', h, hd => by
    have hd := hd.resolve_left (by simp)
    simp only [deepL] at hd
    simp only [mayL] at h ⊢
    by_cases h0 : mayV v d' = 0
    · rw [if_pos h0] at h
      rw [if_pos (ih v (by simp) d d' h0 (by omega))]
      exact mayL_deeper (fun x hx => ih x (by simp [hx])) h (.inr (by omega))
    · rw [if_neg h0] at h
      exact absurd h h0
theorem mayO_deeper : ∀ {l : List (ByteArray × Val)}, (∀ m ∈ l, ∀ d d' : Int, mayV m.2 d' = 0 → d + deepV m.2 ≤ 65 → mayV m.2 d = 0) → ∀ {last : Option ByteArray} {d d' : Int}, mayO l last d' = 0 → (l = [] ∨ d + deepO l ≤ 65) → mayO l last d = 0
  | [], _, _, _, _, _, _ => by simp [mayO]
  | (key, v) :: r, ih, last, d, d', h, hd => by
    have hd := hd.resolve_left (by simp)
    simp only [deepO, deepP] at hd
    simp only [mayO] at h ⊢
    by_cases h0 : mayP (key, v) last d' = 0
    · rw [if_pos h0] at h
      have h1 : mayP (key, v) last d = 0 := by
        simp only [mayP] at h0 ⊢
        by_cases hv : validB key = true
        · rw [if_pos hv] at h0 ⊢
          cases last with
          | none => exact ih (key, v) (by simp) d d' h0 (by simp only; omega)
          | some q =>
            simp only at h0 ⊢
            by_cases hl : leB key q = true
            · rw [if_pos hl] at h0; cases h0
            · rw [if_neg hl] at h0 ⊢
              exact ih (key, v) (by simp) d d' h0 (by simp only; omega)
        · rw [if_neg hv] at h0; cases h0
      rw [if_pos h1]
      exact mayO_deeper (fun x hx => ih x (by simp [hx])) h (.inr (by omega))
    · rw [if_neg h0] at h
      exact absurd h h0
theorem mayV_deeper : ∀ (v : Val) (d d' : Int), mayV v d' = 0 → d + deepV v ≤ 65 → mayV v d = 0 := by
  refine Val.ind ?_
  intro k b n t l o hl ho d d' h hd
  obtain ⟨h1, _, h3, h4, h5⟩ := mayV_parts h
  obtain ⟨_, _, k5, k6⟩ := odd_parts h1
  simp only [deepV] at hd
  have hL : mayL l (d + 1) = 0 := by
    refine mayL_deeper hl h4 ?_
    rcases k5 with e | e
    · rw [if_pos e] at hd; exact .inr (by omega)
    · exact .inl (List.length_eq_zero_iff.1 e)
  have hO : mayO o none (d + 1) = 0 := by
    refine mayO_deeper ho h5 ?_
    rcases k6 with e | e
    · rw [if_neg (by omega), if_pos e] at hd; exact .inr (by omega)
    · exact .inl (List.length_eq_zero_iff.1 e)
  have h64 : ¬ 64 < d := by
    have : 0 ≤ (if k = 5 then deepL l else if k = 6 then deepO o else 0) := Nat.zero_le _
    omega
  simp only [mayV]
  rw [if_neg (by rw [h1]; simp), if_neg h64, if_pos h3, if_pos hL, hO]
end Go.Proofs.YtemceefalkfneaaGreatDoor

/- Four bytes put together as a sum, the lowest first. Plain. No condition. -/
namespace Go.Proofs.YtemceefalkfneaaGreatDoor
open Go

theorem or_add (a b k : Nat) (h : a < 2 ^ k) : a ||| (b * 2 ^ k) = a + b * 2 ^ k := by
  rw [Nat.or_comm, ← Nat.shiftLeft_eq, ← Nat.shiftLeft_add_eq_or_of_lt h, Nat.add_comm]
theorem or8 (a b : Nat) (ha : a < 256) (hb : b < 256) : bits .or .u32 (a : Int) ((b : Int) * 256) = ((a + b * 256 : Nat) : Int) := by
  have h := u32_or_nat a (b * 256) (by omega) (by omega)
  rw [or_add a b 8 ha] at h
  rw [← h]; rfl
theorem leOr16 (a b : Nat) (ha : a < 65536) (hb : b < 256) : bits .or .u32 (a : Int) ((b : Int) * 65536) = ((a + b * 65536 : Nat) : Int) := by
  have h := u32_or_nat a (b * 65536) (by omega) (by omega)
  rw [or_add a b 16 ha] at h
  rw [← h]; rfl
theorem or24 (a b : Nat) (ha : a < 16777216) (hb : b < 256) : bits .or .u32 (a : Int) ((b : Int) * 16777216) = ((a + b * 16777216 : Nat) : Int) := by
  have h := u32_or_nat a (b * 16777216) (by omega) (by omega)
  rw [or_add a b 24 ha] at h
  rw [← h]; rfl
theorem four_of {l : List UInt8} (h : l.length = 4) : ∃ p q r s, l = [p, q, r, s] := by
  match l, h with
  | [p, q, r, s], _ => exact ⟨p, q, r, s, rfl⟩
theorem leSum_four (p q r s : UInt8) : leSum [p, q, r, s] = p.toNat + q.toNat * 256 + r.toNat * 65536 + s.toNat * 16777216 := by
  simp only [leSum]
  omega
end Go.Proofs.YtemceefalkfneaaGreatDoor
