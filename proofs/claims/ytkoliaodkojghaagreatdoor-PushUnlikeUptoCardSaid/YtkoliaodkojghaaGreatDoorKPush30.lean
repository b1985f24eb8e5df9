/- Parts, joined: slices.Clone of members. Condition: at most 10^8 of them. commonplaceref02.Deep: how deep a value is. Condition: a bulk of at most 10^8. A value that may be may stand deeper, as long as it is not too deep. Plain. No condition. -/
import Derived.Test.YtkoliaodkojghaaGreatDoorProg
import Derived.WalkSpells
import Derived.Lib.Hide
import Derived.Test.YtkoliaodkojghaaGreatDoorKPush6
import Derived.Test.YtkoliaodkojghaaGreatDoorKPush25
import Derived.Test.YtkoliaodkojghaaGreatDoorKPush26
import Derived.Test.YtkoliaodkojghaaGreatDoorKPush27
/- slices.Clone of members. Condition: at most 10^8 of them. -/
namespace Go.Proofs.YtkoliaodkojghaaGreatDoor
open Go.RowKit

def ClonePost (w : World) (o : List (ByteArray × Val)) (e : Ending) (w' : World) : Prop := ∃ V ns, e = .returned V ∧ w'.ownsRow w.heap.size 72 7 V o.length ns ∧ HoldsA w w.heap.size (dO o) ns ∧ Below w.heap.size w w'

set_option maxRecDepth 100000 in
theorem clone_calls (o : List (ByteArray × Val)) (a : Option Addr) (n c : Nat) (w : World) (h : Holds w w.heap.size (.row 7 (dO o)) [.slice a n c]) (hn : o.length ≤ 100000000) :
    Calls Tryz.prog 62 #[.slice a n c] w (ClonePost w o) := by
  have hl := h.row_len
  rw [dO_len] at hl
  subst hl
  obtain ⟨ns, hr, hA, ho⟩ := h.reads
  have hnil := fun W => Lib.run_eql_slice_nil (P := Tryz.prog) W 43 72 a o.length c 0 0 Tryz.underlying43
  cases a with
  | none =>
    have h0 : o.length = 0 := by
      rcases Nat.eq_zero_or_pos o.length with h0 | h0
      · exact h0
      · obtain ⟨ad, e, _⟩ := hr.2 h0
        cases e
    have hns : ns = [] := List.eq_nil_of_length_eq_zero (by rw [hr.1, h0])
    subst hns
    have H0 := Lib.hid h0
    have HA := Lib.hid hA
    clear h0 hA
    clear h hr ho
    go_enter Tryz.func62, Tryz.ntmps62
    go_wp2
    go_ret
    exact ⟨.slice none 0 0, [], rfl, by rw [H0.out]; exact World.ownsRow_nil _ _ _ _, HA.out, Below.refl _ _⟩
  | some ad =>
    obtain ⟨j0, hj, hy0, hy1, hy2⟩ := info_parts info_mem
    have Hj := Lib.hid hj
    have Hy0 := Lib.hid hy0
    have Hy1 := Lib.hid hy1
    have Hy2 := Lib.hid hy2
    have Hr := Lib.hid hr
    have HA := Lib.hid hA
    have Ho := Lib.hid ho
    clear hj hy0 hy1 hy2 hr hA ho
    clear h
    go_enter Tryz.func62, Tryz.ntmps62
    have HOwn : Hid ((w.alloc (.cells #[] 72)).ownsRow w.heap.size 72 7 (.slice (some ⟨w.heap.size, 0, none⟩) 0 0) 0 []) :=
      ⟨by simp, .inr ⟨w.heap.size, 0, #[], rfl, Nat.le_refl _, heap_alloc_new _ _, Nat.le_refl _, by unfold maxLen; omega, by simp, by simp⟩⟩
    go_wp2_with (at_builtin; refine wpList_append_any _ rfl (.tmp 5) (.tmp 6) 43 rfl w.heap.size 72 j0 (.agg #[.string ⟨#[]⟩, .int .i64 0, .bool false, .int .i64 0, .string ⟨#[]⟩, .slice none 0 0, .slice none 0 0]) 7 104 Tryz.underlying43 Hj.out Hy0.out Hy1.out Hy2.out rfl (by omega) (.slice (some ⟨w.heap.size, 0, none⟩) 0 0) 0 [] rfl HOwn.out w.heap.size _ o.length _ ns rfl ?c0 ?c1 ?c2 ?c3 ?c4 ?_)
    case c0 => exact Hr.out.alloc (Nat.le_refl _) _
    case c1 => exact Ho.out
    case c2 => unfold maxLen; omega
    case c3 => omega
    case c4 => simp
    intro v1 w1 hown1 hgrow1 _
    have hb : Below w.heap.size w w1 := ((Below.refl _ _).alloc (Nat.le_refl _) _).grown hgrow1 (by simp) (fun g hg => by simp [Value.ownBlock] at hg; omega)
    have Hown1 := Lib.hid hown1
    have Hb := Lib.hid hb
    clear hown1 hb
    clear hgrow1
    go_wp2
    go_ret
    exact ⟨v1, ns, rfl, by simpa using Hown1.out, HA.out, Hb.out⟩
end Go.Proofs.YtkoliaodkojghaaGreatDoor

/- commonplaceref02.Deep: how deep a value is. Condition: a bulk of at most 10^8. -/
namespace Go.Proofs.YtkoliaodkojghaaGreatDoor
open Go.RowKit

theorem RWithin_calls (v : Val) (cs : List Value) (w : World) (hV : HoldsV w w.heap.size v cs) (hb : v.bulk ≤ 100000000) :
    Calls Tryz.prog 131 #[.agg cs.toArray] w (WithinPost w v) := by
  obtain ⟨k, b, n, t, l, o⟩ := v
  simp only [HoldsV] at hV
  obtain ⟨la, lc, oa, oc, rfl, hla, hoa⟩ := hV
  simp only [Val.bulk] at hb
  by_cases h5 : k = 5
  · subst h5
    exact within_list b n t l o la oa oc lc w hla (by omega)
  by_cases h6 : k = 6
  · subst h6
    exact within_obj b n t l o la oa oc lc w hoa (by omega)
  have hw : within (.mk k b n t l o) = [] := by simp [within, h5, h6]
  have Hw := Lib.hid hw
  have e5 : (k == 5) = false := by simpa using h5
  have e6 : (k == 6) = false := by simpa using h6
  clear hw hla hoa hb h5 h6
  go_enter Tryz.func131, Tryz.ntmps131
  go_wp2
  go_ret
  exact ⟨⟨none, 0, by rw [Hw.out]; rfl, .inl Hw.out⟩, (Below.refl _ _).alloc (Nat.le_refl _) _⟩

theorem deepO_map : ∀ o : List (ByteArray × Val), deepO o = deepL (o.map (·.2))
  | [] => rfl
  | (k, v) :: r => by simp only [deepO, deepP, List.map_cons, deepL, deepO_map r]
theorem deepV_within (v : Val) : deepV v = 1 + deepL (within v) := by
  obtain ⟨k, b, n, t, l, o⟩ := v
  simp only [deepV, within]
  by_cases h5 : k = 5
  · simp [h5]
  by_cases h6 : k = 6
  · simp [h6, deepO_map]
  · simp [h5, h6, deepL]
theorem bulkO_map : ∀ o : List (ByteArray × Val), bulkL (o.map (·.2)) ≤ bulkO o
  | [] => by simp [bulkL]
  | (k, v) :: r => by
    have := bulkO_map r
    simp only [List.map_cons, bulkL, bulkO, bulkP]
    omega
theorem within_bulk (v : Val) : bulkL (within v) ≤ v.bulk := by
  obtain ⟨k, b, n, t, l, o⟩ := v
  have := bulkO_map o
  simp only [within, Val.bulk]
  split
  · omega
  split
  · omega
  · simp [bulkL]

/-- What the reference's Deep does with a value. -/
def RDeepC (v : Val) : Prop := ∀ (cs : List Value) (w : World), HoldsV w w.heap.size v cs → v.bulk ≤ 100000000 →
    Calls Tryz.prog 97 #[.agg cs.toArray] w fun e w' => e = .returned (.int .i64 (deepV v)) ∧ Below w.heap.size w w'

set_option maxRecDepth 100000 in
set_option maxHeartbeats 2000000 in
theorem rdeep_step (v : Val) (IH : ∀ x ∈ within v, RDeepC x) : RDeepC v := by
  intro cs w hV hb
  have hV' := hV
  have hbw := within_bulk v
  have hlw := bulkL_len (within v)
  have hdw := deepL_le (within v) (fun x _ => deepV_le x)
  have hW0 := fun w' (h : Below w.heap.size w w') => RWithin_calls v cs w' (HoldsV.more h.size _ _ (hV.below h)) hb
  rw [deepV_within]
  unfold WithinPost at hW0
  generalize within v = L at *
  obtain ⟨k, b, n, t, l, o⟩ := v
  simp only [HoldsV] at hV'
  obtain ⟨la, lc, oa, oc, rfl, _, _⟩ := hV'
  have HI := Lib.hid IH
  have HW := Lib.hid hW0
  obtain ⟨M, hM⟩ : ∃ M, deepL L = M := ⟨_, rfl⟩
  rw [hM] at hdw ⊢
  have H0 : Hid (max 0 (deepL (L.drop 0)) = M) := by show _ = _; rw [List.drop_zero, hM]; simp
  have HB1 : Hid (Below w.heap.size w (w.alloc (.cells (cells6 k b n t la l.length lc oa o.length oc).toArray 45))) := (Below.refl _ _).alloc (Nat.le_refl _) _
  clear IH hW0 hM hV
  go_enter Tryz.func97, Tryz.ntmps97
  go_wp2_with (fail)
  with_reducible refine (HW.out _ HB1.out).mono ?_
  rintro e w2 ⟨⟨la', lc', rfl, hsl⟩, hb2⟩
  have Hsl := Lib.hid hsl
  have HB2 := Lib.hid (HB1.out.trans (hb2.mono HB1.out.size))
  clear hsl hb2 HB1 HW
  go_wp2_with (fail)
  have HBr : Hid (Below w2.heap.size w2 w2) := Below.refl _ _
  go_loopw [3, 5] (fun m i wr => ∃ D k : Nat, m = .int .i64 D ∧ i = .int .i64 k ∧ k ≤ L.length ∧ Hid (max D (deepL (L.drop k)) = M) ∧ D ≤ M ∧ Hid (Below w2.heap.size w2 wr)) (fun _ i _ => L.length - (intOf i).toNat)
  case atStart => exact ⟨0, 0, rfl, rfl, Nat.zero_le _, H0, Nat.zero_le _, HBr⟩
  case round =>
    obtain ⟨D, k, rfl, rfl, hk, hD, hDM, hbw⟩ := hrel
    clear H0 HBr
    by_cases hlt : k < L.length
    · obtain ⟨g, off, rfl, hg, hL⟩ : ∃ g off, la' = some ⟨g, off, none⟩ ∧ g < w2.heap.size ∧ HoldsL w2 w2.heap.size L g off := by
        rcases Hsl.out with h | h
        · rw [h] at hlt; simp at hlt
        · exact h
      obtain ⟨x, hx⟩ : ∃ v, L[k]? = some v := ⟨_, List.getElem?_eq_getElem hlt⟩
      have hmem : x ∈ L := List.mem_of_getElem? hx
      have hbv := bulkL_mem hmem
      have hdv := deepV_le x
      have hdrop : L.drop k = x :: L.drop (k + 1) := drop_of_get hx
      have hD' := hD.out
      rw [hdrop] at hD'
      simp only [deepL] at hD'
      have IHx := HI.out x hmem
      have hz := hbw.out.size
      obtain ⟨m, hm⟩ : ∃ m, deepV x = m := ⟨_, rfl⟩
      obtain ⟨k', b', n', t', l', o'⟩ := x
      obtain ⟨la', lc', oa', oc', hvs, c0, c1, c2, c3, c4, c5⟩ := (hL.below hg hbw.out).six hx
      have CT := IHx _ wr (HoldsV.more hz _ _ hvs) (by omega)
      rw [hm] at CT hD' hdv
      have hCT := Lib.hid CT
      have Hn : Hid (max (max D m) (deepL (L.drop (k + 1))) = M) := by show _ = _; omega
      have hmM : max D m ≤ M := by omega
      clear CT hD hD' hdrop IHx hm hvs hx hmem hL hg hdv hbv
      by_cases hgt : D < m
      · have e1 : max D m = m := by omega
        rw [e1] at Hn hmM
        clear e1
        go_wp2_with (fail)
        with_reducible refine hCT.out.mono ?_
        rintro e w4 ⟨rfl, hb4⟩
        have hbw4 := Lib.hid (hbw.out.trans (hb4.mono hz))
        clear hb4 hbw hCT
        go_wp2
        go_roundw
        case rel => exact ⟨m, k + 1, rfl, by go_num, by omega, Hn, hmM, hbw4⟩
        case measure => simp only [intOf]; omega
      · have e1 : max D m = D := by omega
        rw [e1] at Hn hmM
        clear e1
        go_wp2_with (fail)
        with_reducible refine hCT.out.mono ?_
        rintro e w4 ⟨rfl, hb4⟩
        have hbw4 := Lib.hid (hbw.out.trans (hb4.mono hz))
        clear hb4 hbw hCT
        go_wp2
        go_roundw
        case rel => exact ⟨D, k + 1, rfl, by go_num, by omega, Hn, hmM, hbw4⟩
        case measure => simp only [intOf]; omega
    · obtain rfl : k = L.length := by omega
      have hD' := hD.out
      rw [List.drop_length] at hD'
      simp only [deepL] at hD'
      obtain rfl : D = M := by omega
      have hc : (D : Int) + 1 = ((1 + D : Nat) : Int) := by omega
      have Hc := Lib.hid hc
      clear hD hD' hc
      go_wp2
      go_ret
      exact ⟨by rw [← Hc.out]; rfl, HB2.out.trans (hbw.out.mono HB2.out.size)⟩

theorem rdeep_calls : ∀ v, RDeepC v := by
  refine Val.ind ?_
  intro k b n t l o IHl IHo
  refine rdeep_step _ (fun x hx => ?_)
  simp only [within] at hx
  split at hx
  · exact IHl x hx
  split at hx
  · obtain ⟨m, hm, rfl⟩ := List.mem_map.1 hx
    exact IHo m hm
  · cases hx

end Go.Proofs.YtkoliaodkojghaaGreatDoor

/- A value that may be may stand deeper, as long as it is not too deep. Plain. No condition. -/
namespace Go.Proofs.YtkoliaodkojghaaGreatDoor
open Go.RowKit

theorem mayL_deeper : ∀ {l : List Val}, (∀ v ∈ l, ∀ d d' : Int, mayV v d' = 0 → d + deepV v ≤ 65 → mayV v d = 0) → ∀ {d d' : Int}, mayL l d' = 0 → (l = [] ∨ d + deepL l ≤ 65) → mayL l d = 0
  | [], _, _, _, _, _ => by simp [mayL]
  | v :: r, ih, d, d', h, hd => by
    have hd := hd.resolve_left (by simp)
    simp only [deepL] at hd
    simp only [mayL] at h ⊢
    by_cases h0 : mayV v d' = 0
    · rw [if_pos h0] at h
      rw [if_pos (ih v (by simp) d d' h0 (by omega))]
      exact mayL_deeper (fun x hx => ih x (by simp [hx])) h (.inr (by omega))
    · rw [if_neg h0] at h
      exact absurd h h0
theorem mayO_deeper : ∀ {l : List (ByteArray × Val)}, (∀ m ∈ l, ∀ d d' : Int, mayV m.2 d' = 0 → d + deepV m.2 ≤ 65 → mayV m.2 d = 0) → ∀ {last : Option ByteArray} {d d' : Int}, mayO l last d' = 0 → (l = [] ∨ d + deepO l ≤ 65) → mayO l last d = 0
  | [], _, _, _, _, _, _ => by simp [mayO]
  | (key, v) :: r, ih, last, d, d', h, hd => by
    have hd := hd.resolve_left (by simp)
    simp only [deepO, deepP] at hd
    simp only [mayO] at h ⊢
    by_cases h0 : mayP (key, v) last d' = 0
    · rw [if_pos h0] at h
      have h1 : mayP (key, v) last d = 0 := by
        simp only [mayP] at h0 ⊢
        by_cases hv : validB key = true
        · rw [if_pos hv] at h0 ⊢
          cases last with
          | none => exact ih (key, v) (by simp) d d' h0 (by simp only; omega)
          | some q =>
            simp only at h0 ⊢
            by_cases hl : leB key q = true
            · rw [if_pos hl] at h0; cases h0
            · rw [if_neg hl] at h0 ⊢
              exact ih (key, v) (by simp) d d' h0 (by simp only; omega)
        · rw [if_neg hv] at h0; cases h0
      rw [if_pos h1]
      exact mayO_deeper (fun x hx => ih x (by simp [hx])) h (.inr (by omega))
    · rw [if_neg h0] at h
      exact absurd h h0
theorem mayV_deeper : ∀ (v : Val) (d d' : Int), mayV v d' = 0 → d + deepV v ≤ 65 → mayV v d = 0 := by
  refine Val.ind ?_
  intro k b n t l o hl ho d d' h hd
  obtain ⟨h1, _, h3, h4, h5⟩ := mayV_parts h
  obtain ⟨_, _, k5, k6⟩ := odd_parts h1
  simp only [deepV] at hd
  have hL : mayL l (d + 1) = 0 := by
    refine mayL_deeper hl h4 ?_
    rcases k5 with e | e
    · rw [if_pos e] at hd; exact .inr (by omega)
    · exact .inl (List.length_eq_zero_iff.1 e)
  have hO : mayO o none (d + 1) = 0 := by
    refine mayO_deeper ho h5 ?_
    rcases k6 with e | e
    · rw [if_neg (by omega), if_pos e] at hd; exact .inr (by omega)
    · exact .inl (List.length_eq_zero_iff.1 e)
  have h64 : ¬ 64 < d := by
    have : 0 ≤ (if k = 5 then deepL l else if k = 6 then deepO o else 0) := Nat.zero_le _
    omega
  simp only [mayV]
  rw [if_neg (by rw [h1]; simp), if_neg h64, if_pos h3, if_pos hL, hO]
end Go.Proofs.YtkoliaodkojghaaGreatDoor
