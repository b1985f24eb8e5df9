/- Parts, joined: value.Deep: how deep a value is. Condition: a bulk of at most 10^8. commonplaceref02.Deep: how deep a value is. Condition: a bulk of at most 10^8. encode.Fits and the reference's. Condition: a bulk of at most 10^8. When a value has nothing. Plain. No condition. A patch's ops as data, and why a list of them may not be a patch. Plain. No condition. A value that may be may stand deeper, as long as it is not too deep. Plain. No condition. The object of a patch's op, the list of a patch: they may be. Plain. No condition. A text's bytes: what '[]byte(s)' makes. No condition. patch.zero, patch.follows, patch.strange. No condition. Members of numbers, texts as values; frames of objects; the law's own frames. Condition: sizes of at most 10^8. -/
import Derived.Test.YtjjbbnodmpemiaaGreatDoorProg
import Derived.Deep.RegionWith
import Derived.Lib.UnsafeStr
import Derived.Lib.Strings
import Derived.WalkKit
import Derived.Lib.Hide
import Derived.Test.YtjjbbnodmpemiaaGreatDoorKPull10
/- value.Deep: how deep a value is. Condition: a bulk of at most 10^8. -/
namespace Go.Proofs.YtjjbbnodmpemiaaGreatDoor
open Go.RowKit

mutual
/-- How deep a value is. -/
def deepV : Val → Nat
  | .mk k _ _ _ l o => 1 + (if k = 5 then deepL l else if k = 6 then deepO o else 0)
def deepL : List Val → Nat
  | [] => 0
  | v :: r => max (deepV v) (deepL r)
def deepO : List (ByteArray × Val) → Nat
  | [] => 0
  | p :: r => max (deepP p) (deepO r)
def deepP : ByteArray × Val → Nat
  | (_, v) => deepV v
end

theorem deepL_le : ∀ (l : List Val), (∀ v ∈ l, deepV v ≤ v.bulk) → deepL l ≤ bulkL l
  | [], _ => by simp [deepL]
  | v :: r, h => by
    have h1 := h v (by simp)
    have h2 := deepL_le r (fun x hx => h x (by simp [hx]))
    simp only [deepL, bulkL]
    omega
theorem deepO_le : ∀ (l : List (ByteArray × Val)), (∀ m ∈ l, deepV m.2 ≤ m.2.bulk) → deepO l ≤ bulkO l
  | [], _ => by simp [deepO]
  | (k, v) :: r, h => by
    have h1 := h (k, v) (by simp)
    have h2 := deepO_le r (fun x hx => h x (by simp [hx]))
    simp only [deepO, deepP, bulkO, bulkP]
    simp only at h1
    omega
theorem deepV_le : ∀ v : Val, deepV v ≤ v.bulk := by
  refine Val.ind ?_
  intro k b n t l o hl ho
  have h1 := deepL_le l hl
  have h2 := deepO_le o ho
  simp only [deepV, Val.bulk]
  split
  · omega
  split <;> omega

/-- What Deep does with a value. -/
def DeepC (v : Val) : Prop := ∀ (cs : List Value) (w : World), HoldsV w w.heap.size v cs → v.bulk ≤ 100000000 →
    Calls Tryz.prog 50 #[.agg cs.toArray] w fun e w' => e = .returned (.int .i64 (deepV v)) ∧ Below w.heap.size w w'

set_option maxRecDepth 100000 in
set_option maxHeartbeats 2000000 in
theorem deep_list (b : Bool) (n : Int) (t : ByteArray) (l : List Val) (on : Nat) (IH : ∀ v ∈ l, DeepC v) (la oa : Option Addr) (oc lc : Nat) (w : World) (hl : l = [] ∨ ∃ g off, la = some ⟨g, off, none⟩ ∧ g < w.heap.size ∧ HoldsL w w.heap.size l g off)
    (hb : bulkL l ≤ 100000000) :
    Calls Tryz.prog 50 #[.agg #[.int .i64 5, .bool b, .int .i64 n, .string t, .slice la l.length lc, .slice oa on oc]] w fun e w' => e = .returned (.int .i64 (1 + (deepL l : Int))) ∧ Below w.heap.size w w' := by
  have hln := bulkL_len l
  have hdl := deepL_le l (fun v _ => deepV_le v)
  obtain ⟨M, hM⟩ : ∃ M, deepL l = M := ⟨_, rfl⟩
  rw [hM] at hdl ⊢
  have H0 : Hid (max 0 (deepL (l.drop 0)) = M) := by show _ = _; rw [List.drop_zero, hM]; simp
  have HI := Lib.hid IH
  clear IH hM
  go_enter Tryz.func50, Tryz.ntmps50
  go_wp2_with (fail)
  have HB1 : Hid (Below w.heap.size w (w.alloc (.cells #[.int .i64 5, .bool b, .int .i64 n, .string t, .slice la l.length lc, .slice oa on oc] 45))) := (Below.refl _ _).alloc (Nat.le_refl _) _
  go_loopw [3, 15] (fun m i wr => ∃ D k : Nat, m = .int .i64 D ∧ i = .int .i64 k ∧ k ≤ l.length ∧ Hid (max D (deepL (l.drop k)) = M) ∧ D ≤ M ∧ Hid (Below w.heap.size w wr)) (fun _ i _ => l.length - (intOf i).toNat)
  case atStart => exact ⟨0, 0, rfl, rfl, Nat.zero_le _, H0, Nat.zero_le _, HB1⟩
  case round =>
    obtain ⟨D, k, rfl, rfl, hk, hD, hDM, hbw⟩ := hrel
    clear H0 HB1
    by_cases hlt : k < l.length
    · obtain ⟨g, off, rfl, hg, hL⟩ : ∃ g off, la = some ⟨g, off, none⟩ ∧ g < w.heap.size ∧ HoldsL w w.heap.size l g off := by
        rcases hl with rfl | h
        · simp at hlt
        · exact h
      obtain ⟨x, hx⟩ : ∃ v, l[k]? = some v := ⟨_, List.getElem?_eq_getElem hlt⟩
      have hmem : x ∈ l := List.mem_of_getElem? hx
      have hbv := bulkL_mem hmem
      have hdv := deepV_le x
      have hdrop : l.drop k = x :: l.drop (k + 1) := drop_of_get hx
      have hD' := hD.out
      rw [hdrop] at hD'
      simp only [deepL] at hD'
      have IHx := HI.out x hmem
      have hz := hbw.out.size
      obtain ⟨m, hm⟩ : ∃ m, deepV x = m := ⟨_, rfl⟩
      obtain ⟨k', b', n', t', l', o'⟩ := x
      obtain ⟨la', lc', oa', oc', hvs, c0, c1, c2, c3, c4, c5⟩ := (hL.below hg hbw.out).six hx
      have CT := IHx _ (wr.alloc (.cells #[.int .i64 k', .bool b', .int .i64 n', .string t', .slice la' l'.length lc', .slice oa' o'.length oc'] 45)) (HoldsV.more (by simp; omega) _ _ (hvs.below ((Below.refl _ _).alloc hz _))) (by omega)
      rw [hm] at CT hD' hdv
      have hCT := Lib.hid CT
      have Hn : Hid (max (max D m) (deepL (l.drop (k + 1))) = M) := by show _ = _; omega
      have hmM : max D m ≤ M := by omega
      have hbA : Hid (Below w.heap.size w (wr.alloc (.cells #[.int .i64 k', .bool b', .int .i64 n', .string t', .slice la' l'.length lc', .slice oa' o'.length oc'] 45))) := hbw.out.alloc hz _
      clear CT hD hD' hdrop IHx hm hvs hx hmem hL hg hdv hbv
      by_cases hgt : D < m
      · have e1 : max D m = m := by omega
        rw [e1] at Hn hmM
        clear e1
        go_wp2_with (fail)
        with_reducible refine hCT.out.mono ?_
        rintro e w4 ⟨rfl, hb4⟩
        have hbw4 := Lib.hid (hbA.out.trans (hb4.mono hbA.out.size))
        clear hb4 hbw hbA hCT
        go_wp2
        go_roundw
        case rel => exact ⟨m, k + 1, by congr 1; omega, by go_num, by omega, Hn, hmM, hbw4⟩
        case measure => simp only [intOf]; omega
      · have e1 : max D m = D := by omega
        rw [e1] at Hn hmM
        clear e1
        go_wp2_with (fail)
        with_reducible refine hCT.out.mono ?_
        rintro e w4 ⟨rfl, hb4⟩
        have hbw4 := Lib.hid (hbA.out.trans (hb4.mono hbA.out.size))
        clear hb4 hbw hbA hCT
        go_wp2
        go_roundw
        case rel => exact ⟨D, k + 1, by congr 1; omega, by go_num, by omega, Hn, hmM, hbw4⟩
        case measure => simp only [intOf]; omega
    · obtain rfl : k = l.length := by omega
      have hD' := hD.out
      rw [List.drop_length] at hD'
      simp only [deepL] at hD'
      obtain rfl : D = M := by omega
      clear hD hD' hl
      go_wp2
      go_ret
      exact ⟨rfl, hbw.out⟩

set_option maxRecDepth 100000 in
set_option maxHeartbeats 2000000 in
theorem deep_obj (b : Bool) (n : Int) (t : ByteArray) (l : List (ByteArray × Val)) (ln : Nat) (IH : ∀ m ∈ l, DeepC m.2) (la oa : Option Addr) (oc lc : Nat) (w : World) (hl : l = [] ∨ ∃ g off, oa = some ⟨g, off, none⟩ ∧ g < w.heap.size ∧ HoldsO w w.heap.size l g off)
    (hb : bulkO l ≤ 100000000) :
    Calls Tryz.prog 50 #[.agg #[.int .i64 6, .bool b, .int .i64 n, .string t, .slice la ln lc, .slice oa l.length oc]] w fun e w' => e = .returned (.int .i64 (1 + (deepO l : Int))) ∧ Below w.heap.size w w' := by
  have hln := bulkO_len l
  have hdl := deepO_le l (fun m _ => deepV_le m.2)
  obtain ⟨M, hM⟩ : ∃ M, deepO l = M := ⟨_, rfl⟩
  rw [hM] at hdl ⊢
  have H0 : Hid (max 0 (deepO (l.drop 0)) = M) := by show _ = _; rw [List.drop_zero, hM]; simp
  have HI := Lib.hid IH
  clear IH hM
  go_enter Tryz.func50, Tryz.ntmps50
  go_wp2_with (fail)
  have HB1 : Hid (Below w.heap.size w (w.alloc (.cells #[.int .i64 6, .bool b, .int .i64 n, .string t, .slice la ln lc, .slice oa l.length oc] 45))) := (Below.refl _ _).alloc (Nat.le_refl _) _
  go_loopw [3, 29] (fun m i wr => ∃ D k : Nat, m = .int .i64 D ∧ i = .int .i64 k ∧ k ≤ l.length ∧ Hid (max D (deepO (l.drop k)) = M) ∧ D ≤ M ∧ Hid (Below w.heap.size w wr)) (fun _ i _ => l.length - (intOf i).toNat)
  case atStart => exact ⟨0, 0, rfl, rfl, Nat.zero_le _, H0, Nat.zero_le _, HB1⟩
  case round =>
    obtain ⟨D, k, rfl, rfl, hk, hD, hDM, hbw⟩ := hrel
    clear H0 HB1
    by_cases hlt : k < l.length
    · obtain ⟨g, off, rfl, hg, hL⟩ : ∃ g off, oa = some ⟨g, off, none⟩ ∧ g < w.heap.size ∧ HoldsO w w.heap.size l g off := by
        rcases hl with rfl | h
        · simp at hlt
        · exact h
      obtain ⟨⟨key, x⟩, hx⟩ : ∃ v, l[k]? = some v := ⟨_, List.getElem?_eq_getElem hlt⟩
      have hmem : (key, x) ∈ l := List.mem_of_getElem? hx
      have hbv := bulkO_mem hmem
      simp only at hbv
      have hdv := deepV_le x
      have hdrop : l.drop k = (key, x) :: l.drop (k + 1) := drop_of_get hx
      have hD' := hD.out
      rw [hdrop] at hD'
      simp only [deepO, deepP] at hD'
      have IHx := HI.out _ hmem
      have hz := hbw.out.size
      obtain ⟨m, hm⟩ : ∃ m, deepV x = m := ⟨_, rfl⟩
      obtain ⟨k', b', n', t', l', o'⟩ := x
      obtain ⟨la', lc', oa', oc', hvs, c0, c1, c2, c3, c4, c5, c6⟩ := (hL.below hg hbw.out).seven hx
      have CT := IHx _ (wr.alloc (.cells #[.string key, .int .i64 k', .bool b', .int .i64 n', .string t', .slice la' l'.length lc', .slice oa' o'.length oc'] 60)) (HoldsV.more (by simp; omega) _ _ (hvs.below ((Below.refl _ _).alloc hz _))) (show (Val.mk k' b' n' t' l' o').bulk ≤ 100000000 from by omega)
      simp only [hm] at CT
      rw [hm] at hD' hdv
      have hCT := Lib.hid CT
      have Hn : Hid (max (max D m) (deepO (l.drop (k + 1))) = M) := by show _ = _; omega
      have hmM : max D m ≤ M := by omega
      have hbA : Hid (Below w.heap.size w (wr.alloc (.cells #[.string key, .int .i64 k', .bool b', .int .i64 n', .string t', .slice la' l'.length lc', .slice oa' o'.length oc'] 60))) := hbw.out.alloc hz _
      clear CT hD hD' hdrop IHx hm hvs hx hmem hL hg hdv hbv
      have hmx : max (D : Int) (m : Int) = ((max D m : Nat) : Int) := by omega
      generalize max D m = Dm at *
      have Hmx := Lib.hid hmx
      clear hmx
      go_wp2_with (fail)
      with_reducible refine hCT.out.mono ?_
      rintro e w4 ⟨rfl, hb4⟩
      have hbw4 := Lib.hid (hbA.out.trans (hb4.mono hbA.out.size))
      clear hb4 hbw hbA hCT
      go_wp2
      go_roundw
      case rel => exact ⟨Dm, k + 1, by rw [Hmx.out], by go_num, by omega, Hn, hmM, hbw4⟩
      case measure => simp only [intOf]; omega
    · obtain rfl : k = l.length := by omega
      have hD' := hD.out
      rw [List.drop_length] at hD'
      simp only [deepO] at hD'
      obtain rfl : D = M := by omega
      clear hD hD' hl
      go_wp2
      go_ret
      exact ⟨rfl, hbw.out⟩

set_option maxRecDepth 100000 in
/-- value.Deep -/
theorem deep_calls : ∀ v, DeepC v := by
  refine Val.ind ?_
  intro k b n t l o IHl IHo cs w hV hb
  simp only [HoldsV] at hV
  obtain ⟨la, lc, oa, oc, rfl, hla, hoa⟩ := hV
  simp only [Val.bulk] at hb
  by_cases h5 : k = 5
  · subst h5
    have := deep_list b n t l o.length IHl la oa oc lc w hla (by omega)
    simpa [deepV] using this
  by_cases h6 : k = 6
  · subst h6
    have := deep_obj b n t o l.length IHo la oa oc lc w hoa (by omega)
    simpa [deepV] using this
  have e : deepV (.mk k b n t l o) = 1 := by simp [deepV, h5, h6]
  rw [e]
  have e5 : (k == 5) = false := by simpa using h5
  have e6 : (k == 6) = false := by simpa using h6
  clear e IHl IHo hla hoa hb h5 h6
  go_enter Tryz.func50, Tryz.ntmps50
  go_wp2
  go_ret
  exact ⟨rfl, (Below.refl _ _).alloc (Nat.le_refl _) _⟩

end Go.Proofs.YtjjbbnodmpemiaaGreatDoor

/- commonplaceref02.Deep: how deep a value is. Condition: a bulk of at most 10^8. -/
namespace Go.Proofs.YtjjbbnodmpemiaaGreatDoor
open Go.RowKit

theorem RWithin_calls (v : Val) (cs : List Value) (w : World) (hV : HoldsV w w.heap.size v cs) (hb : v.bulk ≤ 100000000) :
    Calls Tryz.prog 77 #[.agg cs.toArray] w (WithinPost w v) := by
  obtain ⟨k, b, n, t, l, o⟩ := v
  simp only [HoldsV] at hV
  obtain ⟨la, lc, oa, oc, rfl, hla, hoa⟩ := hV
  simp only [Val.bulk] at hb
  by_cases h5 : k = 5
  · subst h5
    exact within_list b n t l o la oa oc lc w hla (by omega)
  by_cases h6 : k = 6
  · subst h6
    exact within_obj b n t l o la oa oc lc w hoa (by omega)
  have hw : within (.mk k b n t l o) = [] := by simp [within, h5, h6]
  have Hw := Lib.hid hw
  have e5 : (k == 5) = false := by simpa using h5
  have e6 : (k == 6) = false := by simpa using h6
  clear hw hla hoa hb h5 h6
  go_enter Tryz.func77, Tryz.ntmps77
  go_wp2
  go_ret
  exact ⟨⟨none, 0, by rw [Hw.out]; rfl, .inl Hw.out⟩, (Below.refl _ _).alloc (Nat.le_refl _) _⟩

theorem deepO_map : ∀ o : List (ByteArray × Val), deepO o = deepL (o.map (·.2))
  | [] => rfl
  | (k, v) :: r => by simp only [deepO, deepP, List.map_cons, deepL, deepO_map r]
theorem deepV_within (v : Val) : deepV v = 1 + deepL (within v) := by
  obtain ⟨k, b, n, t, l, o⟩ := v
  simp only [deepV, within]
  by_cases h5 : k = 5
  · simp [h5]
  by_cases h6 : k = 6
  · simp [h6, deepO_map]
  · simp [h5, h6, deepL]
theorem bulkO_map : ∀ o : List (ByteArray × Val), bulkL (o.map (·.2)) ≤ bulkO o
  | [] => by simp [bulkL]
  | (k, v) :: r => by
    have := bulkO_map r
    simp only [List.map_cons, bulkL, bulkO, bulkP]
    omega
theorem within_bulk (v : Val) : bulkL (within v) ≤ v.bulk := by
  obtain ⟨k, b, n, t, l, o⟩ := v
  have := bulkO_map o
  simp only [within, Val.bulk]
  split
  · omega
  split
  · omega
  · simp [bulkL]

/-- What the reference's Deep does with a value. -/
def RDeepC (v : Val) : Prop := ∀ (cs : List Value) (w : World), HoldsV w w.heap.size v cs → v.bulk ≤ 100000000 →
    Calls Tryz.prog 54 #[.agg cs.toArray] w fun e w' => e = .returned (.int .i64 (deepV v)) ∧ Below w.heap.size w w'

set_option maxRecDepth 100000 in
set_option maxHeartbeats 2000000 in
theorem rdeep_step (v : Val) (IH : ∀ x ∈ within v, RDeepC x) : RDeepC v := by
  intro cs w hV hb
  have hV' := hV
  have hbw := within_bulk v
  have hlw := bulkL_len (within v)
  have hdw := deepL_le (within v) (fun x _ => deepV_le x)
  have hW0 := fun w' (h : Below w.heap.size w w') => RWithin_calls v cs w' (HoldsV.more h.size _ _ (hV.below h)) hb
  rw [deepV_within]
  unfold WithinPost at hW0
  generalize within v = L at *
  obtain ⟨k, b, n, t, l, o⟩ := v
  simp only [HoldsV] at hV'
  obtain ⟨la, lc, oa, oc, rfl, _, _⟩ := hV'
  have HI := Lib.hid IH
  have HW := Lib.hid hW0
  obtain ⟨M, hM⟩ : ∃ M, deepL L = M := ⟨_, rfl⟩
  rw [hM] at hdw ⊢
  have H0 : Hid (max 0 (deepL (L.drop 0)) = M) := by show _ = _; rw [List.drop_zero, hM]; simp
  have HB1 : Hid (Below w.heap.size w (w.alloc (.cells (cells6 k b n t la l.length lc oa o.length oc).toArray 45))) := (Below.refl _ _).alloc (Nat.le_refl _) _
  clear IH hW0 hM hV
  go_enter Tryz.func54, Tryz.ntmps54
  go_wp2_with (fail)
  with_reducible refine (HW.out _ HB1.out).mono ?_
  rintro e w2 ⟨⟨la', lc', rfl, hsl⟩, hb2⟩
  have Hsl := Lib.hid hsl
  have HB2 := Lib.hid (HB1.out.trans (hb2.mono HB1.out.size))
  clear hsl hb2 HB1 HW
  go_wp2_with (fail)
  have HBr : Hid (Below w2.heap.size w2 w2) := Below.refl _ _
  go_loopw [3, 5] (fun m i wr => ∃ D k : Nat, m = .int .i64 D ∧ i = .int .i64 k ∧ k ≤ L.length ∧ Hid (max D (deepL (L.drop k)) = M) ∧ D ≤ M ∧ Hid (Below w2.heap.size w2 wr)) (fun _ i _ => L.length - (intOf i).toNat)
  case atStart => exact ⟨0, 0, rfl, rfl, Nat.zero_le _, H0, Nat.zero_le _, HBr⟩
  case round =>
    obtain ⟨D, k, rfl, rfl, hk, hD, hDM, hbw⟩ := hrel
    clear H0 HBr
    by_cases hlt : k < L.length
    · obtain ⟨g, off, rfl, hg, hL⟩ : ∃ g off, la' = some ⟨g, off, none⟩ ∧ g < w2.heap.size ∧ HoldsL w2 w2.heap.size L g off := by
        rcases Hsl.out with h | h
        · rw [h] at hlt; simp at hlt
        · exact h
      obtain ⟨x, hx⟩ : ∃ v, L[k]? = some v := ⟨_, List.getElem?_eq_getElem hlt⟩
      have hmem : x ∈ L := List.mem_of_getElem? hx
      have hbv := bulkL_mem hmem
      have hdv := deepV_le x
      have hdrop : L.drop k = x :: L.drop (k + 1) := drop_of_get hx
      have hD' := hD.out
      rw [hdrop] at hD'
      simp only [deepL] at hD'
      have IHx := HI.out x hmem
      have hz := hbw.out.size
      obtain ⟨m, hm⟩ : ∃ m, deepV x = m := ⟨_, rfl⟩
      obtain ⟨k', b', n', t', l', o'⟩ := x
      obtain ⟨la', lc', oa', oc', hvs, c0, c1, c2, c3, c4, c5⟩ := (hL.below hg hbw.out).six hx
      have CT := IHx _ wr (HoldsV.more hz _ _ hvs) (by omega)
      rw [hm] at CT hD' hdv
      have hCT := Lib.hid CT
      have Hn : Hid (max (max D m) (deepL (L.drop (k + 1))) = M) := by show _ = _; omega
      have hmM : max D m ≤ M := by omega
      clear CT hD hD' hdrop IHx hm hvs hx hmem hL hg hdv hbv
      by_cases hgt : D < m
      · have e1 : max D m = m := by omega
        rw [e1] at Hn hmM
        clear e1
        go_wp2_with (fail)
        with_reducible refine hCT.out.mono ?_
        rintro e w4 ⟨rfl, hb4⟩
        have hbw4 := Lib.hid (hbw.out.trans (hb4.mono hz))
        clear hb4 hbw hCT
        go_wp2
        go_roundw
        case rel => exact ⟨m, k + 1, rfl, by go_num, by omega, Hn, hmM, hbw4⟩
        case measure => simp only [intOf]; omega
      · have e1 : max D m = D := by omega
        rw [e1] at Hn hmM
        clear e1
        go_wp2_with (fail)
        with_reducible refine hCT.out.mono ?_
        rintro e w4 ⟨rfl, hb4⟩
        have hbw4 := Lib.hid (hbw.out.trans (hb4.mono hz))
        clear hb4 hbw hCT
        go_wp2
        go_roundw
        case rel => exact ⟨D, k + 1, rfl, by go_num, by omega, Hn, hmM, hbw4⟩
        case measure => simp only [intOf]; omega
    · obtain rfl : k = L.length := by omega
      have hD' := hD.out
      rw [List.drop_length] at hD'
      simp only [deepL] at hD'
      obtain rfl : D = M := by omega
      have hc : (D : Int) + 1 = ((1 + D : Nat) : Int) := by omega
      have Hc := Lib.hid hc
      clear hD hD' hc
      go_wp2
      go_ret
      exact ⟨by rw [← Hc.out]; rfl, HB2.out.trans (hbw.out.mono HB2.out.size)⟩

theorem rdeep_calls : ∀ v, RDeepC v := by
  refine Val.ind ?_
  intro k b n t l o IHl IHo
  refine rdeep_step _ (fun x hx => ?_)
  simp only [within] at hx
  split at hx
  · exact IHl x hx
  split at hx
  · obtain ⟨m, hm, rfl⟩ := List.mem_map.1 hx
    exact IHo m hm
  · cases hx

end Go.Proofs.YtjjbbnodmpemiaaGreatDoor

/- encode.Fits and the reference's. Condition: a bulk of at most 10^8. -/
namespace Go.Proofs.YtjjbbnodmpemiaaGreatDoor
open Go.RowKit

/-- Why a value does not fit. -/
def fitsV (v : Val) : Int := if mayV v 1 = 0 then (if 16 < deepV v then 5 else if 1024 < (textV v).length then 6 else 0) else mayV v 1

set_option maxRecDepth 100000 in
set_option maxHeartbeats 2000000 in
theorem Fits_calls (v : Val) (cs : List Value) (w : World) (hT : Tabs w) (hV : HoldsV w w.heap.size v cs) (hb : v.bulk ≤ 100000000) (hi : inV v) :
    Calls Tryz.prog 32 #[.agg cs.toArray] w fun e w' => e = .returned (.int .i64 (fitsV v)) ∧ Below w.heap.size w w' := by
  have hV' := hV
  obtain ⟨k, b, n, t, l, o⟩ := v
  simp only [HoldsV] at hV'
  obtain ⟨la, lc, oa, oc, rfl, _, _⟩ := hV'
  have H1 := Lib.hid (Boxd.start hT hV)
  obtain ⟨v, hv⟩ : ∃ v, Val.mk k b n t l o = v := ⟨_, rfl⟩
  rw [hv] at hi hb H1 ⊢
  have CM := fun w' (h : Boxd w w.heap.size v (cells6 k b n t la l.length lc oa o.length oc) w') => May_calls v _ w' h.tabs h.2.2.2 (by omega)
  unfold fitsV
  by_cases hm : mayV v 1 = 0
  · have hok := okV_of v 1 hm hi
    have CB := fun w' (h : Boxd w w.heap.size v (cells6 k b n t la l.length lc oa o.length oc) w') => bytes_calls v _ w' h.tabs h.2.2.2 (by omega) hok
    have CD := fun w' (h : Boxd w w.heap.size v (cells6 k b n t la l.length lc oa o.length oc) w') => deep_calls v _ w' h.2.2.2 (by omega)
    rw [if_pos hm]
    rw [hm] at CM
    generalize (textV v).length = L at CB ⊢
    generalize deepV v = D at CD ⊢
    have HB := Lib.hid CB
    have HD := Lib.hid CD
    have HM := Lib.hid CM
    clear CB CM CD hm hi hb hT hV hv hok
    by_cases hd : 16 < D
    · rw [if_pos hd]
      go_enter Tryz.func32, Tryz.ntmps32
      go_wp2_with (fail)
      with_reducible refine (HM.out _ H1.out).mono ?_
      rintro e w2 ⟨rfl, hb2⟩
      have H2 := Lib.hid (H1.out.step hb2)
      obtain ⟨d0, d1, d2, d3, d4, d5⟩ := H2.out.cells
      clear hb2 H1
      go_wp2_with (fail)
      with_reducible refine (HD.out _ H2.out).mono ?_
      rintro e w3 ⟨rfl, hb3⟩
      have H3 := Lib.hid (H2.out.step hb3)
      clear d0 d1 d2 d3 d4 d5 hb3 H2
      go_wp2
      go_ret
      exact ⟨rfl, H3.out.below⟩
    · rw [if_neg hd]
      by_cases hl : 1024 < L
      all_goals
        (first | rw [if_pos hl] | rw [if_neg hl])
        go_enter Tryz.func32, Tryz.ntmps32
        go_wp2_with (fail)
        with_reducible refine (HM.out _ H1.out).mono ?_
        rintro e w2 ⟨rfl, hb2⟩
        have H2 := Lib.hid (H1.out.step hb2)
        obtain ⟨d0, d1, d2, d3, d4, d5⟩ := H2.out.cells
        clear hb2 H1
        go_wp2_with (fail)
        with_reducible refine (HD.out _ H2.out).mono ?_
        rintro e w3 ⟨rfl, hb3⟩
        have H3 := Lib.hid (H2.out.step hb3)
        clear d0 d1 d2 d3 d4 d5 hb3 H2
        obtain ⟨d0, d1, d2, d3, d4, d5⟩ := H3.out.cells
        go_wp2_with (fail)
        with_reducible refine (HB.out _ H3.out).mono ?_
        rintro e w4 ⟨rfl, hb4⟩
        have H4 := Lib.hid (H3.out.step hb4)
        clear d0 d1 d2 d3 d4 d5 hb4 H3
        go_wp2
        go_ret
        exact ⟨rfl, H4.out.below⟩
  · rw [if_neg hm]
    have hmb : (mayV v 1 == 0) = false := by simpa using hm
    have hmn : (mayV v 1 != 0) = true := by simpa using hm
    generalize mayV v 1 = m at *
    have HM := Lib.hid CM
    clear CM hm hi hb hT hV hv
    go_enter Tryz.func32, Tryz.ntmps32
    go_wp2_with (fail)
    with_reducible refine (HM.out _ H1.out).mono ?_
    rintro e w2 ⟨rfl, hb2⟩
    have H2 := Lib.hid (H1.out.step hb2)
    clear hb2 H1
    go_wp2
    go_ret
    exact ⟨rfl, H2.out.below⟩

set_option maxRecDepth 100000 in
set_option maxHeartbeats 2000000 in
theorem RFits_calls (v : Val) (cs : List Value) (w : World) (hT : Tabs w) (hV : HoldsV w w.heap.size v cs) (hb : v.bulk ≤ 100000000) (hi : inV v) :
    Calls Tryz.prog 35 #[.agg cs.toArray] w fun e w' => e = .returned (.int .i64 (fitsV v)) ∧ Below w.heap.size w w' := by
  have hV' := hV
  obtain ⟨k, b, n, t, l, o⟩ := v
  simp only [HoldsV] at hV'
  obtain ⟨la, lc, oa, oc, rfl, _, _⟩ := hV'
  have H1 := Lib.hid (Boxd.start hT hV)
  obtain ⟨v, hv⟩ : ∃ v, Val.mk k b n t l o = v := ⟨_, rfl⟩
  rw [hv] at hi hb H1 ⊢
  have CM := fun w' (h : Boxd w w.heap.size v (cells6 k b n t la l.length lc oa o.length oc) w') => RMay_calls v _ w' h.2.2.2 (by omega)
  unfold fitsV
  by_cases hm : mayV v 1 = 0
  · have CB := fun w' (h : Boxd w w.heap.size v (cells6 k b n t la l.length lc oa o.length oc) w') => rtext_calls v _ w' 1 h.2.2.2 (by omega) hm hi
    have CD := fun w' (h : Boxd w w.heap.size v (cells6 k b n t la l.length lc oa o.length oc) w') => rdeep_calls v _ w' h.2.2.2 (by omega)
    obtain ⟨S, hS⟩ : ∃ S : ByteArray, (⟨(textV v).toArray⟩ : ByteArray) = S := ⟨_, rfl⟩
    have hL : (textV v).length = S.size := by rw [← hS, size_mk]
    rw [if_pos hm, hL]
    rw [hm] at CM
    rw [hS] at CB
    generalize deepV v = D at CD ⊢
    have HB := Lib.hid CB
    have HD := Lib.hid CD
    have HM := Lib.hid CM
    clear CB CM CD hm hi hb hT hV hv hS hL
    by_cases hd : 16 < D
    · rw [if_pos hd]
      go_enter Tryz.func35, Tryz.ntmps35
      go_wp2_with (fail)
      with_reducible refine (HM.out _ H1.out).mono ?_
      rintro e w2 ⟨rfl, hb2⟩
      have H2 := Lib.hid (H1.out.step hb2)
      obtain ⟨d0, d1, d2, d3, d4, d5⟩ := H2.out.cells
      clear hb2 H1
      go_wp2_with (fail)
      with_reducible refine (HD.out _ H2.out).mono ?_
      rintro e w3 ⟨rfl, hb3⟩
      have H3 := Lib.hid (H2.out.step hb3)
      clear d0 d1 d2 d3 d4 d5 hb3 H2
      go_wp2
      go_ret
      exact ⟨rfl, H3.out.below⟩
    · rw [if_neg hd]
      by_cases hl : 1024 < S.size
      all_goals
        (first | rw [if_pos hl] | rw [if_neg hl])
        go_enter Tryz.func35, Tryz.ntmps35
        go_wp2_with (fail)
        with_reducible refine (HM.out _ H1.out).mono ?_
        rintro e w2 ⟨rfl, hb2⟩
        have H2 := Lib.hid (H1.out.step hb2)
        obtain ⟨d0, d1, d2, d3, d4, d5⟩ := H2.out.cells
        clear hb2 H1
        go_wp2_with (fail)
        with_reducible refine (HD.out _ H2.out).mono ?_
        rintro e w3 ⟨rfl, hb3⟩
        have H3 := Lib.hid (H2.out.step hb3)
        clear d0 d1 d2 d3 d4 d5 hb3 H2
        obtain ⟨d0, d1, d2, d3, d4, d5⟩ := H3.out.cells
        go_wp2_with (fail)
        with_reducible refine (HB.out _ H3.out).mono ?_
        rintro e w4 ⟨rfl, hb4⟩
        have H4 := Lib.hid (H3.out.step hb4)
        clear d0 d1 d2 d3 d4 d5 hb4 H3
        go_wp2
        go_ret
        exact ⟨rfl, H4.out.below⟩
  · rw [if_neg hm]
    have hmb : (mayV v 1 == 0) = false := by simpa using hm
    have hmn : (mayV v 1 != 0) = true := by simpa using hm
    generalize mayV v 1 = m at *
    have HM := Lib.hid CM
    clear CM hm hi hb hT hV hv
    go_enter Tryz.func35, Tryz.ntmps35
    go_wp2_with (fail)
    with_reducible refine (HM.out _ H1.out).mono ?_
    rintro e w2 ⟨rfl, hb2⟩
    have H2 := Lib.hid (H1.out.step hb2)
    clear hb2 H1
    go_wp2
    go_ret
    exact ⟨rfl, H2.out.below⟩

end Go.Proofs.YtjjbbnodmpemiaaGreatDoor

/- When a value has nothing. Plain. No condition. -/
namespace Go.Proofs.YtjjbbnodmpemiaaGreatDoor
open Go.RowKit
/-- Has a value nothing, not even a Kind? -/
def zero6B (k : Int) (b : Bool) (n : Int) (t : ByteArray) (ln on : Nat) : Bool := decide (k = 0) && !b && decide (n = 0) && t.toList.isEmpty && decide (ln = 0) && decide (on = 0)
end Go.Proofs.YtjjbbnodmpemiaaGreatDoor

/- A patch's ops as data, and why a list of them may not be a patch. Plain. No condition. -/
namespace Go.Proofs.YtjjbbnodmpemiaaGreatDoor
open Go.RowKit

structure POp where
  k : Int
  key : ByteArray
  v : Val

def dQ (p : POp) : D := .agg [.leaf (.int .i64 p.k), .leaf (.string p.key), dV p.v]
theorem dQ_cells (p : POp) : (dQ p).cells = 8 := by simp only [dQ, D.cells, cellsA, dV_cells]
def dQs (l : List POp) : List D := l.map dQ
theorem dQs_cells (l : List POp) : ∀ d ∈ dQs l, d.cells = 8 := by
  intro d hd
  obtain ⟨v, _, rfl⟩ := List.mem_map.1 hd
  exact dQ_cells v
theorem dQs_len (l : List POp) : (dQs l).length = l.length := List.length_map ..
def bulkQ : List POp → Nat
  | [] => 0
  | p :: r => 2 + p.key.size + p.v.bulk + bulkQ r
theorem bulkQ_mem {l : List POp} {p : POp} (h : p ∈ l) : 2 + p.key.size + p.v.bulk ≤ bulkQ l := by
  induction l with
  | nil => cases h
  | cons x r ih =>
    simp only [bulkQ]
    rcases List.mem_cons.1 h with rfl | h
    · omega
    · have := ih h; omega
theorem bulkQ_len (l : List POp) : 8 * l.length ≤ bulkQ l := by
  induction l with
  | nil => simp [bulkQ]
  | cons x r ih => simp only [bulkQ, List.length_cons]; have := x.v.bulk_pos; omega
def inQ (l : List POp) : Prop := ∀ p ∈ l, inV p.v

/-- May a text be a key? -/
def keyB (k : ByteArray) : Bool := !k.toList.isEmpty && (decide (k.size ≤ 64) && validB k)
/-- Why it may not. -/
def keyE (k : ByteArray) : Int := if k.toList.isEmpty then 8 else if 64 < k.size then 6 else if validB k then 0 else 3
theorem keyE_zero (k : ByteArray) : keyE k = 0 ↔ keyB k = true := by
  unfold keyE keyB
  cases k.toList.isEmpty <;> by_cases h : 64 < k.size <;> cases validB k <;> simp [h] <;> omega
/-- Has a value nothing, not even a Kind? -/
def zeroB : Val → Bool
  | .mk k b n t l o => zero6B k b n t l.length o.length
def strangeB (p : POp) : Bool := if p.k = 1 then false else if p.k = 2 then !zeroB p.v else if p.k = 3 then !p.key.toList.isEmpty || !zeroB p.v else true
def followsB (q p : POp) : Bool := decide (p.k ≠ 3) && (decide (q.k = 3) || Op.bytesLess q.key.toList p.key.toList)
/-- Why ops behind another one may not be a patch. -/
def mayOps : Option POp → List POp → Int
  | _, [] => 0
  | prev, p :: r =>
    if strangeB p || prev.any (fun q => !followsB q p) then 2
    else if p.k = 3 then mayOps (some p) r
    else if keyB p.key = false then 8
    else if p.k = 2 then mayOps (some p) r
    else if fitsV p.v = 0 then mayOps (some p) r else fitsV p.v

end Go.Proofs.YtjjbbnodmpemiaaGreatDoor

/- A value that may be may stand deeper, as long as it is not too deep. Plain. No condition. -/
namespace Go.Proofs.YtjjbbnodmpemiaaGreatDoor
open Go.RowKit

theorem mayL_deeper : ∀ {l : List Val}, (∀ v ∈ l, ∀ d d' : Int, mayV v d' = 0 → d + deepV v ≤ 65 → mayV v d = 0) → ∀ {d d' : Int}, mayL l d' = 0 → (l = [] ∨ d + deepL l ≤ 65) → mayL l d = 0
  | [], _, _, _, _, _ => by simp [mayL]
  | v :: r, ih, d, d', h, hd => by
    have hd := hd.resolve_left (by simp)
    simp only [deepL] at hd
    simp only [mayL] at h ⊢
    by_cases h0 : mayV v d' = 0
    · rw [if_pos h0] at h
      rw [if_pos (ih v (by simp) d d' h0 (by omega))]
      exact mayL_deeper (fun x hx => ih x (by simp [hx])) h (.inr (by omega))
    · rw [if_neg h0] at h
      exact absurd h h0
theorem mayO_deeper : ∀ {l : List (ByteArray × Val)}, (∀ m ∈ l, ∀ d d' : Int, mayV m.2 d' = 0 → d + deepV m.2 ≤ 65 → mayV m.2 d = 0) → ∀ {last : Option ByteArray} {d d' : Int}, mayO l last d' = 0 → (l = [] ∨ d + deepO l ≤ 65) → mayO l last d = 0
  | [], _, _, _, _, _, _ => by simp [mayO]
  | (key, v) :: r, ih, last, d, d', h, hd => by
    have hd := hd.resolve_left (by simp)
    simp only [deepO, deepP] at hd
    simp only [mayO] at h ⊢
    by_cases h0 : mayP (key, v) last d' = 0
    · rw [if_pos h0] at h
      have h1 : mayP (key, v) last d = 0 := by
        simp only [mayP] at h0 ⊢
        by_cases hv : validB key = true
        · rw [if_pos hv] at h0 ⊢
          cases last with
          | none => exact ih (key, v) (by simp) d d' h0 (by simp only; omega)
          | some q =>
            simp only at h0 ⊢
            by_cases hl : leB key q = true
            · rw [if_pos hl] at h0; cases h0
            · rw [if_neg hl] at h0 ⊢
              exact ih (key, v) (by simp) d d' h0 (by simp only; omega)
        · rw [if_neg hv] at h0; cases h0
      rw [if_pos h1]
      exact mayO_deeper (fun x hx => ih x (by simp [hx])) h (.inr (by omega))
    · rw [if_neg h0] at h
      exact absurd h h0
theorem mayV_deeper : ∀ (v : Val) (d d' : Int), mayV v d' = 0 → d + deepV v ≤ 65 → mayV v d = 0 := by
  refine Val.ind ?_
  intro k b n t l o hl ho d d' h hd
  obtain ⟨h1, _, h3, h4, h5⟩ := mayV_parts h
  obtain ⟨_, _, k5, k6⟩ := odd_parts h1
  simp only [deepV] at hd
  have hL : mayL l (d + 1) = 0 := by
    refine mayL_deeper hl h4 ?_
    rcases k5 with e | e
    · rw [if_pos e] at hd; exact .inr (by omega)
    · exact .inl (List.length_eq_zero_iff.1 e)
  have hO : mayO o none (d + 1) = 0 := by
    refine mayO_deeper ho h5 ?_
    rcases k6 with e | e
    · rw [if_neg (by omega), if_pos e] at hd; exact .inr (by omega)
    · exact .inl (List.length_eq_zero_iff.1 e)
  have h64 : ¬ 64 < d := by
    have : 0 ≤ (if k = 5 then deepL l else if k = 6 then deepO o else 0) := Nat.zero_le _
    omega
  simp only [mayV]
  rw [if_neg (by rw [h1]; simp), if_neg h64, if_pos h3, if_pos hL, hO]
end Go.Proofs.YtjjbbnodmpemiaaGreatDoor

/- The object of a patch's op, the list of a patch: they may be. Plain. No condition. -/
namespace Go.Proofs.YtjjbbnodmpemiaaGreatDoor
open Go.RowKit

abbrev nil0 : ByteArray := ⟨#[]⟩
abbrev kKey : ByteArray := ⟨#[107, 101, 121]⟩
abbrev kOp : ByteArray := ⟨#[111, 112]⟩
abbrev kVal : ByteArray := ⟨#[118, 97, 108, 117, 101]⟩
abbrev sPut : ByteArray := ⟨#[112, 117, 116]⟩
abbrev sDel : ByteArray := ⟨#[100, 101, 108]⟩
abbrev sClear : ByteArray := ⟨#[99, 108, 101, 97, 114]⟩
/-- A Text, an Int, a List, an Object. -/
def tv (s : ByteArray) : Val := .mk 4 false 0 s [] []
def iv (n : Int) : Val := .mk 3 false n nil0 [] []
def lv (l : List Val) : Val := .mk 5 false 0 nil0 l []
def ov (o : List (ByteArray × Val)) : Val := .mk 6 false 0 nil0 [] o
/-- The object of an op. -/
def objQ (p : POp) : Val := ov (if p.k = 1 then [(kKey, tv p.key), (kOp, tv sPut), (kVal, p.v)] else if p.k = 2 then [(kKey, tv p.key), (kOp, tv sDel)] else [(kOp, tv sClear)])
def listQ (l : List POp) : Val := lv (l.map objQ)

theorem nil0_valid : validB nil0 = true := by decide
theorem odd_tv (s : ByteArray) : oddB 4 false 0 s 0 0 = false := by simp [oddB]
theorem odd_iv (n : Int) : oddB 3 false n nil0 0 0 = false := by simp [oddB, Lib.toList_data]
theorem odd_lv (n : Nat) : oddB 5 false 0 nil0 n 0 = false := by simp [oddB, Lib.toList_data]
theorem odd_ov (n : Nat) : oddB 6 false 0 nil0 0 n = false := by simp [oddB, Lib.toList_data]
theorem may_mk {k : Int} {b : Bool} {n : Int} {t : ByteArray} {l : List Val} {o : List (ByteArray × Val)} {d : Int} (h1 : oddB k b n t l.length o.length = false) (h2 : d ≤ 64) (h3 : validB t = true) (h4 : mayL l (d + 1) = 0) (h5 : mayO o none (d + 1) = 0) : mayV (.mk k b n t l o) d = 0 := by
  simp only [mayV]
  rw [if_neg (by rw [h1]; simp), if_neg (by omega), if_pos h3, if_pos h4]
  exact h5
theorem may_tv {s : ByteArray} {d : Int} (h : validB s = true) (hd : d ≤ 64) : mayV (tv s) d = 0 := may_mk (odd_tv s) hd h (by simp [mayL]) (by simp [mayO])
theorem may_iv {n d : Int} (hd : d ≤ 64) : mayV (iv n) d = 0 := may_mk (odd_iv n) hd nil0_valid (by simp [mayL]) (by simp [mayO])
theorem may_lv {l : List Val} {d : Int} (hd : d ≤ 64) (h : mayL l (d + 1) = 0) : mayV (lv l) d = 0 := may_mk (odd_lv _) hd nil0_valid h (by simp [mayO])
theorem may_ov {o : List (ByteArray × Val)} {d : Int} (hd : d ≤ 64) (h : mayO o none (d + 1) = 0) : mayV (ov o) d = 0 := may_mk (odd_ov _) hd nil0_valid (by simp [mayL]) h
theorem mayO_cons {key : ByteArray} {v : Val} {r : List (ByteArray × Val)} {d : Int} (hk : validB key = true) (hv : mayV v d = 0) {last : Option ByteArray} (hl : ∀ q, last = some q → leB key q = false) (hr : mayO r (some key) d = 0) : mayO ((key, v) :: r) last d = 0 := by
  have h1 : mayP (key, v) last d = 0 := by
    simp only [mayP]
    rw [if_pos hk]
    cases last with
    | none => exact hv
    | some q =>
      simp only
      rw [if_neg (by rw [hl q rfl]; simp)]
      exact hv
  simp only [mayO]
  rw [if_pos h1]
  exact hr

/-- May it be an op at all? -/
def okQ (p : POp) : Prop := (p.k = 1 ∧ keyB p.key = true ∧ fitsV p.v = 0) ∨ (p.k = 2 ∧ keyB p.key = true) ∨ p.k = 3
theorem mayOps_all : ∀ {l : List POp} {prev : Option POp}, mayOps prev l = 0 → ∀ p ∈ l, okQ p
  | p :: r, prev, h, x, hx => by
    simp only [mayOps] at h
    by_cases h1 : (strangeB p || prev.any fun q => !followsB q p) = true
    · rw [if_pos h1] at h; cases h
    rw [if_neg h1] at h
    by_cases h3 : p.k = 3
    · rw [if_pos h3] at h
      rcases List.mem_cons.1 hx with rfl | hx
      · exact .inr (.inr h3)
      · exact mayOps_all h x hx
    rw [if_neg h3] at h
    by_cases hk : keyB p.key = false
    · rw [if_pos hk] at h; cases h
    rw [if_neg hk] at h
    have hk' : keyB p.key = true := by simpa using hk
    by_cases h2 : p.k = 2
    · rw [if_pos h2] at h
      rcases List.mem_cons.1 hx with rfl | hx
      · exact .inr (.inl ⟨h2, hk'⟩)
      · exact mayOps_all h x hx
    rw [if_neg h2] at h
    by_cases hf : fitsV p.v = 0
    · rw [if_pos hf] at h
      rcases List.mem_cons.1 hx with rfl | hx
      · refine .inl ⟨?_, hk', hf⟩
        have h1' : strangeB x = false := by
          cases e : strangeB x with
          | false => rfl
          | true => rw [e] at h1; simp at h1
        unfold strangeB at h1'
        by_cases h11 : x.k = 1
        · exact h11
        · rw [if_neg h11, if_neg h2, if_neg h3] at h1'; cases h1'
      · exact mayOps_all h x hx
    · rw [if_neg hf] at h
      exact absurd h hf
theorem keyB_valid {k : ByteArray} (h : keyB k = true) : validB k = true := by
  unfold keyB at h
  simp only [Bool.and_eq_true] at h
  exact h.2.2
theorem fits_parts {v : Val} (h : fitsV v = 0) : mayV v 1 = 0 ∧ deepV v ≤ 16 ∧ (textV v).length ≤ 1024 := by
  unfold fitsV at h
  by_cases h1 : mayV v 1 = 0
  · rw [if_pos h1] at h
    by_cases h2 : 16 < deepV v
    · rw [if_pos h2] at h; cases h
    rw [if_neg h2] at h
    by_cases h3 : 1024 < (textV v).length
    · rw [if_pos h3] at h; cases h
    exact ⟨h1, by omega, by omega⟩
  · rw [if_neg h1] at h
    exact absurd h h1
theorem may_objQ {p : POp} {d : Int} (h : okQ p) (hd : d ≤ 40) : mayV (objQ p) d = 0 := by
  have v1 : validB kKey = true := by decide
  have v2 : validB kOp = true := by decide
  have v3 : validB kVal = true := by decide
  have w1 : validB sPut = true := by decide
  have w2 : validB sDel = true := by decide
  have w3 : validB sClear = true := by decide
  have l1 : leB kOp kKey = false := by decide +kernel
  have l2 : leB kVal kOp = false := by decide +kernel
  unfold objQ
  refine may_ov (by omega) ?_
  rcases h with ⟨h, hk, hf⟩ | ⟨h, hk⟩ | h
  · rw [if_pos h]
    obtain ⟨f1, f2, _⟩ := fits_parts hf
    exact mayO_cons v1 (may_tv (keyB_valid hk) (by omega)) (fun _ e => by cases e) (mayO_cons v2 (may_tv w1 (by omega)) (fun q e => by cases e; exact l1) (mayO_cons v3 (mayV_deeper p.v _ 1 f1 (by omega)) (fun q e => by cases e; exact l2) (by simp [mayO])))
  · rw [if_neg (by omega), if_pos h]
    exact mayO_cons v1 (may_tv (keyB_valid hk) (by omega)) (fun _ e => by cases e) (mayO_cons v2 (may_tv w2 (by omega)) (fun q e => by cases e; exact l1) (by simp [mayO]))
  · rw [if_neg (by omega), if_neg (by omega)]
    exact mayO_cons v2 (may_tv w3 (by omega)) (fun _ e => by cases e) (by simp [mayO])
theorem mayL_of {l : List Val} {d : Int} (h : ∀ v ∈ l, mayV v d = 0) : mayL l d = 0 := by
  induction l with
  | nil => simp [mayL]
  | cons v r ih =>
    simp only [mayL]
    rw [if_pos (h v (by simp))]
    exact ih fun x hx => h x (by simp [hx])
theorem may_listQ {l : List POp} {d : Int} (h : ∀ p ∈ l, okQ p) (hd : d ≤ 39) : mayV (listQ l) d = 0 := by
  refine may_lv (by omega) (mayL_of fun v hv => ?_)
  obtain ⟨p, hp, rfl⟩ := List.mem_map.1 hv
  exact may_objQ (h p hp) (by omega)
theorem in_objQ {p : POp} (h : inV p.v) : inV (objQ p) := by
  unfold objQ ov
  simp only [inV]
  refine ⟨by omega, by simp [inL], ?_⟩
  have ht : ∀ s, inV (tv s) := fun s => by simp only [tv, inV, inL, inO]; exact ⟨by omega, trivial, trivial⟩
  by_cases h1 : p.k = 1
  · rw [if_pos h1]; exact ⟨ht p.key, ht sPut, h, trivial⟩
  · rw [if_neg h1]
    by_cases h2 : p.k = 2
    · rw [if_pos h2]; exact ⟨ht p.key, ht sDel, trivial⟩
    · rw [if_neg h2]; exact ⟨ht sClear, trivial⟩
theorem in_listQ {l : List POp} (h : inQ l) : inV (listQ l) := by
  unfold listQ lv
  simp only [inV]
  refine ⟨by omega, ?_, by simp [inO]⟩
  induction l with
  | nil => simp [inL]
  | cons p r ih =>
    simp only [List.map_cons, inL]
    exact ⟨in_objQ (h p (by simp)), ih fun x hx => h x (by simp [hx])⟩
theorem bulk_objQ (p : POp) : (objQ p).bulk ≤ 60 + p.key.size + p.v.bulk := by
  have e1 : (⟨#[]⟩ : ByteArray).size = 0 := rfl
  have e2 : kKey.size = 3 := rfl
  have e3 : kOp.size = 2 := rfl
  have e4 : kVal.size = 5 := rfl
  have e5 : sPut.size = 3 := rfl
  have e6 : sDel.size = 3 := rfl
  have e7 : sClear.size = 5 := rfl
  unfold objQ ov
  split
  · simp only [Val.bulk, bulkL, bulkO, bulkP, tv, e1, e2, e3, e4, e5]; omega
  · split
    · simp only [Val.bulk, bulkL, bulkO, bulkP, tv, e1, e2, e3, e6]; omega
    · simp only [Val.bulk, bulkL, bulkO, bulkP, tv, e1, e3, e7]; omega
theorem bulk_listQ (l : List POp) : (listQ l).bulk ≤ 6 + 60 * l.length + bulkQ l := by
  have e1 : (⟨#[]⟩ : ByteArray).size = 0 := rfl
  have h : bulkL (l.map objQ) ≤ 60 * l.length + bulkQ l := by
    induction l with
    | nil => simp [bulkL]
    | cons p r ih =>
      have := bulk_objQ p
      simp only [List.map_cons, bulkL, bulkQ, List.length_cons]
      omega
  unfold listQ lv
  simp only [Val.bulk, bulkO, e1]
  omega
end Go.Proofs.YtjjbbnodmpemiaaGreatDoor

/- A text's bytes: what '[]byte(s)' makes. No condition. -/
namespace Go.Proofs.YtjjbbnodmpemiaaGreatDoor
open Go Go.RowKit

theorem cell_freeze (w : World) (a : Addr) (n : Nat) (p : Addr) : (w.freeze a n).cell? p = w.cell? p := by
  unfold World.freeze
  split
  · rfl
  · unfold World.cell?
    simp only [Array.getElem?_modify]
    by_cases h : a.block = p.block
    · rw [if_pos h]
      cases hw : w.heap[p.block]? with
      | none => rfl
      | some o => cases o <;> rfl
    · rw [if_neg h]
theorem size_freeze (w : World) (a : Addr) (n : Nat) : (w.freeze a n).heap.size = w.heap.size := by
  unfold World.freeze
  split
  · rfl
  · simp
theorem run_to_bytes {P : Program} (src dst e : TypeId) (hs : P.underlying src = some .string) (hd : P.underlying dst = some (.slice e)) (he : P.underlying e = some (.int .u8)) (s : ByteArray) (w : World) :
    ∃ cap w', (convert src dst (.string s)).run P w = .ok (.slice (some ⟨w.heap.size, 0, none⟩) s.size cap) w' ∧ Below w.heap.size w w' ∧ w'.heap.size = w.heap.size + 1 ∧
      ∀ (j : Nat) (x : UInt8), s.data.toList[j]? = some x → w'.cell? ⟨w.heap.size, j, none⟩ = some (.int .u8 x.toNat) := by
  have key : ∀ (W : World) (cap : Nat), Below w.heap.size w W → W.heap.size = w.heap.size → ∃ w', (do let a ← newRow e (s.data.map (fun b => Value.int .u8 b.toNat) ++ Array.replicate (cap - s.size) (.int .u8 0)); markStringish a; pure (Value.slice (some a) s.size cap) : Sem Value).run P W = .ok (.slice (some ⟨w.heap.size, 0, none⟩) s.size cap) w' ∧ Below w.heap.size w w' ∧ w'.heap.size = w.heap.size + 1 ∧
      ∀ (j : Nat) (x : UInt8), s.data.toList[j]? = some x → w'.cell? ⟨w.heap.size, j, none⟩ = some (.int .u8 x.toNat) := by
    intro W cap hB hz
    obtain ⟨C, hC⟩ : ∃ C, s.data.map (fun b => Value.int .u8 b.toNat) ++ Array.replicate (cap - s.size) (.int .u8 0) = C := ⟨_, rfl⟩
    rw [hC]
    have hB1 : Below w.heap.size w (W.alloc (.cells C e)) := hB.alloc (by omega) _
    have hn := heap_alloc_new W (.cells C e)
    have hsh : (W.alloc (.cells C e)).shape? W.heap.size = some (e, C.size) := by unfold World.shape?; rw [hn]
    refine ⟨(W.alloc (.cells C e)).freeze ⟨W.heap.size, C.size, none⟩ 1, ?_, Lib.below_freeze hB1 (by simp [hz]) _, by rw [size_freeze]; simp [hz], fun j x hx => ?_⟩
    · have hnew : Sem.run P (newRow e C) W = .ok ⟨W.heap.size, 0, none⟩ (W.alloc (.cells C e)) := rfl
      simp only [Sem.run_bind, hnew, Result.andThen_ok, markStringish, run_shape, hsh, run_freeze, Sem.run_pure]
      rw [hz]
    · rw [cell_freeze, ← hz, cell_of_row _ _ _ _ _ _ hn, ← hC]
      have hj := (List.getElem?_eq_some_iff.1 hx).1
      rw [Array.getElem?_append_left (by simpa using hj), Array.getElem?_map]
      rw [← Array.getElem?_toList, hx]; rfl
  by_cases hf : (Question.appendCap s.size 0 e).forced = true
  · obtain ⟨w', h1, h2⟩ := key w 0 (Below.refl _ _) rfl
    refine ⟨0, w', ?_, h2⟩
    rw [← h1]
    simp [convert, run_underlying hs, run_underlying hd, run_underlying he, Conv.stringToBytes, hf]
  · obtain ⟨w', h1, h2⟩ := key w.drew ((Question.appendCap s.size 0 e).cut (w.tape w.drawn (Question.appendCap s.size 0 e))) (Below.refl _ _).drew rfl
    refine ⟨((Question.appendCap s.size 0 e).cut (w.tape w.drawn (Question.appendCap s.size 0 e))), w', ?_, h2⟩
    rw [← h1]
    simp [convert, run_underlying hs, run_underlying hd, run_underlying he, Conv.stringToBytes, hf]
theorem dB_fresh {b g : Nat} {w' : World} {l : List UInt8} {n cap : Nat} (hn : n = l.length) (hg : b ≤ g) (hlt : g < w'.heap.size) (h : ∀ (j : Nat) (x : UInt8), l[j]? = some x → w'.cell? ⟨g, j, none⟩ = some (.int .u8 x.toNat)) : Fresh b w' (.row 1 (dB l)) [.slice (some ⟨g, 0, none⟩) n cap] := by
  subst hn
  intro w'' k1 k2
  refine ⟨_, cap, by rw [dB_len], dB_cells _, bcells l, dB_holds _ _ _, .inr ⟨g, 0, rfl, hlt, fun j u hu => ?_⟩⟩
  rw [k2 _ hg hlt, Nat.zero_add]
  unfold bcells at hu
  rw [List.getElem?_map] at hu
  obtain ⟨x, hx, rfl⟩ := Option.map_eq_some_iff.1 hu
  exact h j x hx
/-- '[]byte(s)'. -/
theorem wpList_to_bytes {P : Program} {ops : Array Oper} {rest : List Oper} {o : Oper} {a : Act} {w : World} {Q : Exit → Act → World → Prop} (hgd : o.guard = none) (src dst e : TypeId) (x : Operand)
    (ho : o.op = .convert src dst x) (hs : P.underlying src = some .string) (hd : P.underlying dst = some (.slice e)) (he : P.underlying e = some (.int .u8)) (s : ByteArray) (hx : a.eval x = .string s)
    (h : ∀ cap w', Below w.heap.size w w' → Fresh w.heap.size w' (.row 1 (dB s.data.toList)) [.slice (some ⟨w.heap.size, 0, none⟩) s.size cap] → wpList P ops Q rest (a.put o.dst (.slice (some ⟨w.heap.size, 0, none⟩) s.size cap)) w') : wpList P ops Q (o :: rest) a w :=
  wpList_plain hgd fun K hK => by
    obtain ⟨cap, w', h1, h2, h3, h4⟩ := run_to_bytes src dst e hs hd he s w
    unfold Oper.wp execOp
    simp only [ho, hx, Sem.run_bind, Sem.run_pure, Result.andThen_ok, h1]
    exact hK _ _ (h cap w' h2 (dB_fresh (Lib.size_eq s) (Nat.le_refl _) (by omega) h4))
end Go.Proofs.YtjjbbnodmpemiaaGreatDoor

/- patch.zero, patch.follows, patch.strange. No condition. -/
namespace Go.Proofs.YtjjbbnodmpemiaaGreatDoor
open Go.RowKit

theorem alloc_below (w : World) (o : Obj) : Below w.heap.size w (w.alloc o) := (Below.refl _ _).alloc (Nat.le_refl _) _
theorem beq_cast (n : Nat) : ((n : Int) == 0) = decide (n = 0) := by rw [Bool.eq_iff_iff]; simp

set_option maxRecDepth 100000 in
theorem zero_calls (k : Int) (b : Bool) (n : Int) (t : ByteArray) (la oa : Option Addr) (ln lc on oc : Nat) (B : Bool) (w : World) (h : zero6B k b n t ln on = B) :
    Calls Tryz.prog 47 #[.agg #[.int .i64 k, .bool b, .int .i64 n, .string t, .slice la ln lc, .slice oa on oc]] w fun e w' => e = .returned (.bool B) ∧ Below w.heap.size w w' := by
  have fin : ∀ X : Bool, X = zero6B k b n t ln on → Ending.returned (.bool X) = .returned (.bool B) := fun X hX => by rw [hX, h]
  have Fin := Lib.hid fin
  clear fin h
  go_enter Tryz.func47, Tryz.ntmps47
  go_wp2
  all_goals (go_ret; refine ⟨Fin.out _ ?_, alloc_below _ _⟩; simp_all [zero6B, beq_cast])

theorem bne_dec (a b : Int) : (a != b) = decide (a ≠ b) := by rw [Bool.eq_iff_iff]; simp
theorem beq_dec (a b : Int) : (a == b) = decide (a = b) := by rw [Bool.eq_iff_iff]; simp
set_option maxRecDepth 100000 in
theorem follows_calls (k k' : Int) (s s' : ByteArray) (a0 a1 a2 a3 a4 a5 b0 b1 b2 b3 b4 b5 : Value) (B : Bool) (w : World) (h : (decide (k' ≠ 3) && (decide (k = 3) || Op.bytesLess s.toList s'.toList)) = B) :
    Calls Tryz.prog 30 #[.agg #[.int .i64 k, .string s, a0, a1, a2, a3, a4, a5], .agg #[.int .i64 k', .string s', b0, b1, b2, b3, b4, b5]] w fun e w' => e = .returned (.bool B) ∧ Below w.heap.size w w' := by
  have fin : ∀ X : Bool, X = (decide (k' ≠ 3) && (decide (k = 3) || Op.bytesLess s.toList s'.toList)) → Ending.returned (.bool X) = .returned (.bool B) := fun X hX => by rw [hX, h]
  have Fin := Lib.hid fin
  clear fin h
  go_enter Tryz.func30, Tryz.ntmps30
  go_wp2
  all_goals (go_ret; refine ⟨Fin.out _ ?_, (alloc_below _ _).alloc (by simp) _⟩; first | (simp_all; done) | (simp only [bne_dec, beq_dec]))

set_option maxRecDepth 100000 in
theorem strange_calls (k : Int) (s : ByteArray) (k' : Int) (b : Bool) (n : Int) (t : ByteArray) (la oa : Option Addr) (ln lc on oc : Nat) (B : Bool) (w : World)
    (h : (if k = 1 then false else if k = 2 then !zero6B k' b n t ln on else if k = 3 then !s.toList.isEmpty || !zero6B k' b n t ln on else true) = B) :
    Calls Tryz.prog 29 #[.agg #[.int .i64 k, .string s, .int .i64 k', .bool b, .int .i64 n, .string t, .slice la ln lc, .slice oa on oc]] w fun e w' => e = .returned (.bool B) ∧ Below w.heap.size w w' := by
  obtain ⟨Z, hZ⟩ : ∃ Z, zero6B k' b n t ln on = Z := ⟨_, rfl⟩
  rw [hZ] at h
  have fin : ∀ X : Bool, X = (if k = 1 then false else if k = 2 then !Z else if k = 3 then !s.toList.isEmpty || !Z else true) → Ending.returned (.bool X) = .returned (.bool B) := fun X hX => by rw [hX, h]
  have hcz := fun W => zero_calls k' b n t la oa ln lc on oc Z W hZ
  have Fin := Lib.hid fin
  have Hcz := Lib.hid hcz
  clear fin hcz
  clear hZ h
  go_enter Tryz.func29, Tryz.ntmps29
  go_wp2_with (go_at_call 47; refine (Hcz.out _).mono ?_; rintro e w1 ⟨rfl, hb1⟩)
  all_goals first
    | (go_ret; refine ⟨Fin.out _ ?_, alloc_below _ _⟩; (by_cases e1 : k = 1 <;> by_cases e2 : k = 2 <;> by_cases e3 : k = 3 <;> cases Z <;> simp_all))
    | (go_ret; refine ⟨Fin.out _ ?_, (alloc_below _ _).trans (hb1.mono (by simp))⟩; (by_cases e1 : k = 1 <;> by_cases e2 : k = 2 <;> by_cases e3 : k = 3 <;> cases Z <;> simp_all))
end Go.Proofs.YtjjbbnodmpemiaaGreatDoor

/- Members of numbers, texts as values; frames of objects; the law's own frames. Condition: sizes of at most 10^8. -/
namespace Go.Proofs.YtjjbbnodmpemiaaGreatDoor
open Go Go.RowKit

theorem textual_calls (s : ByteArray) (w : World) : Calls Tryz.prog 55 #[.string s] w fun e w' => e = .returned (.agg #[.int .i64 4, .bool false, .int .i64 0, .string s, .slice none 0 0, .slice none 0 0]) ∧ Below w.heap.size w w' := by
  go_enter Tryz.func55, Tryz.ntmps55
  go_wp2
  exact bodyPost_ret (v := .agg #[.int .i64 4, .bool false, .int .i64 0, .string s, .slice none 0 0, .slice none 0 0]) (by simp [results, Tryz.results55, go_sem]) rfl ⟨rfl, (Below.refl _ _).alloc (Nat.le_refl _) _⟩
theorem number_calls (key : ByteArray) (n : Int) (h0 : 0 ≤ n) (h1 : n ≤ 4611686018427387903) (w : World) : Calls Tryz.prog 22 #[.string key, .int .u64 n] w fun e w' => e = .returned (.agg #[.string key, .int .i64 3, .bool false, .int .i64 n, .string ⟨#[]⟩, .slice none 0 0, .slice none 0 0]) ∧ Below w.heap.size w w' := by
  go_enter Tryz.func22, Tryz.ntmps22
  go_wp2
  exact bodyPost_ret (v := .agg #[.string key, .int .i64 3, .bool false, .int .i64 n, .string ⟨#[]⟩, .slice none 0 0, .slice none 0 0]) (by simp [results, Tryz.results22, go_sem]) rfl ⟨rfl, (Below.refl _ _).alloc (Nat.le_refl _) _⟩

theorem toB_nat (s : ByteArray) : s.size = s.data.toList.length := Lib.size_eq s
set_option maxRecDepth 100000 in
theorem lframed_calls (k : UInt8) (hk : k ≠ 0) (s : ByteArray) (hs : s.size ≤ 900000000) (w : World) :
    Calls Tryz.prog 19 #[.int .u8 k.toNat, .string s] w (BytesPost (sealL (k :: s.data.toList)) w) := by
  have hF := fun W a n c h => rframe_calls k hk s.data.toList a n c W h (by rw [← toB_nat]; exact hs)
  generalize sealL (k :: s.data.toList) = L at hF ⊢
  have HF := Lib.hid hF
  clear hF
  go_enter Tryz.func19, Tryz.ntmps19
  go_wp2_with (first
    | (refine wpList_to_bytes rfl 9 35 5 (.tmp 9) rfl Tryz.underlying9 Tryz.underlying35 Tryz.underlying5 s rfl ?_; intro cap w1 hb1 hf1)
    | (go_at_call 24; (with_reducible refine (HF.out _ _ _ _ hf1.now).mono ?_); rintro e w3 ⟨a2, c2, rfl, hf2, hb2⟩))
  go_ret
  exact ⟨a2, c2, rfl, hf2.keep hb1.size (Nat.le_refl _) (fun _ _ _ => rfl), hb1.trans (hb2.mono hb1.size)⟩

/-- The frame of an object, or why there is none. -/
def FramedPost (k : UInt8) (v : Val) (w : World) (e : Ending) (w' : World) : Prop := mayV v 1 = 0 → BytesPost0 (sealL (k :: textV v)) w e w'

set_option maxRecDepth 100000 in
set_option maxHeartbeats 1000000 in
/-- The frame of the object of these members, which may be. -/
theorem pframed_calls (k : UInt8) (hk : k ≠ 0) (o o' : List (ByteArray × Val)) (a : Option Addr) (n c : Nat) (w : World) (hT : Tabs w) (h : Holds w w.heap.size (.row 7 (dO o)) [.slice a n c]) (hb : bulkO o ≤ 90000000)
    (ho : objAll o [] = some o') (hm : mayV (ov o') 1 = 0) (hi : inV (ov o')) :
    Calls Tryz.prog 21 #[.int .u8 k.toNat, .slice a n c] w (BytesPost0 (sealL (k :: textV (ov o'))) w) := by
  have hO : Calls Tryz.prog 37 #[.slice a n c] w fun e w' => Below w.heap.size w w' ∧ ∃ la lc oa oc, e = .returned (.tuple #[.agg #[.int .i64 6, .bool false, .int .i64 0, .string ⟨#[]⟩, .slice la 0 lc, .slice oa o'.length oc], .int .i64 0]) ∧ Fresh w.heap.size w' (dV (ov o')) [.int .i64 6, .bool false, .int .i64 0, .string ⟨#[]⟩, .slice la 0 lc, .slice oa o'.length oc] := by
    refine (vobj_calls o a n c w h hb).mono ?_
    rintro e w' ⟨hb', ⟨hn, _⟩ | ⟨o2, cs, h2, rfl, hl, hf⟩⟩
    · rw [ho] at hn; cases hn
    · rw [ho] at h2
      cases h2
      have hv := holdsV_of (.mk 6 false 0 ⟨#[]⟩ [] o') _ hf.now
      simp only [HoldsV] at hv
      obtain ⟨la, lc, oa, oc, rfl, _, _⟩ := hv
      exact ⟨hb', la, lc, oa, oc, rfl, hf⟩
  have hbv : (ov o').bulk ≤ 90000010 := by
    have := objAll_bulk ho
    simp only [ov, Val.bulk, bulkL, bulkO, nil0, ByteArray.size] at this ⊢
    simp; omega
  have hok := okV_of _ 1 hm hi
  have hlen := textV_len (ov o') hok
  have hT2 := fun (W : World) (hB : Below w.heap.size w W) cs hv => Text_calls (ov o') cs W (hT.below hB) hv (by omega) hi
  have hts : textS (ov o') = ⟨(textV (ov o')).toArray⟩ := by unfold textS; rw [if_pos hm]
  simp only [hts, hm] at hT2
  clear hts
  have hFr := fun (W : World) a n c hh => frame_calls k hk (textV (ov o')) a n c W hh (by omega)
  obtain ⟨S, hS⟩ : ∃ S : ByteArray, ⟨(textV (ov o')).toArray⟩ = S := ⟨_, rfl⟩
  have hSe : textV (ov o') = S.data.toList := by rw [← hS]
  rw [hS] at hT2
  rw [hSe] at hFr hlen ⊢
  generalize sealL (k :: S.data.toList) = L at hFr ⊢
  obtain ⟨V, hV⟩ : ∃ V, ov o' = V := ⟨_, rfl⟩
  rw [hV] at hO hT2 hlen
  have HO := Lib.hid hO
  have HT2 := Lib.hid hT2
  have HFr := Lib.hid hFr
  have HT := Lib.hid hT
  have H := Lib.hid h
  have HS := Lib.hid hS
  have HSe := Lib.hid hSe
  have HV := Lib.hid hV
  clear hO hT2 hFr hT h hS hSe hV
  clear hm hi hok
  go_enter Tryz.func21, Tryz.ntmps21
  go_wp2_with (first
    | (go_at_call 37; (with_reducible refine (HO.out).mono ?_); rintro e w1 ⟨hb1, la, lc, oa, oc, rfl, hf1⟩)
    | (go_at_call 38; (with_reducible refine (HT2.out _ (hb1.alloc hb1.size _) _ (holdsV_of _ _ (hf1.later (alloc_below _ _)).now)).mono ?_); rintro e w2 ⟨rfl, hb2⟩)
    | (refine wpList_to_bytes rfl 9 35 5 (.tmp 26) rfl Tryz.underlying9 Tryz.underlying35 Tryz.underlying5 S rfl ?_; intro cap w3 hb3 hf3)
    | (go_at_call 39; (with_reducible refine (HFr.out _ _ _ _ hf3.now).mono ?_); rintro e w4 ⟨a2, c2, rfl, hf4, hb4⟩))
  go_ret2
  have z2 : w.heap.size ≤ w2.heap.size := by have h2 := hb2.size; have h1 := hb1.size; rw [World.size_alloc] at h2; omega
  have z3 := hb3.size
  exact ⟨a2, c2, rfl, hf4.keep (by omega) (Nat.le_refl _) (fun _ _ _ => rfl), (((hb1.alloc hb1.size _).trans (hb2.mono (by have := hb1.size; simp; omega))).trans (hb3.mono z2)).trans (hb4.mono (by omega))⟩
end Go.Proofs.YtjjbbnodmpemiaaGreatDoor
