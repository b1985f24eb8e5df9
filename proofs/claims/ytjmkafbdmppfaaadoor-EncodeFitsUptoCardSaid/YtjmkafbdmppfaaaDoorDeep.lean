/- value.Deep: how deep a value is. Condition: a bulk of at most 10^8. -/
import Derived.Test.YtjmkafbdmppfaaaDoorProg
import Derived.Test.YtjmkafbdmppfaaaDoorBase
import Derived.Test.YtjmkafbdmppfaaaDoorMay
namespace Go.Proofs.YtjmkafbdmppfaaaDoor
open Go.RowKit

mutual
/-- How deep a value is. -/
def deepV : Val → Nat
  | .mk k _ _ _ l o => 1 + (if k = 5 then deepL l else if k = 6 then deepO o else 0)
def deepL : List Val → Nat
  | [] => 0
  | v :: r => max (deepV v) (deepL r)
def deepO : List (ByteArray × Val) → Nat
  | [] => 0
  | p :: r => max (deepP p) (deepO r)
def deepP : ByteArray × Val → Nat
  | (_, v) => deepV v
end

theorem deepL_le : ∀ (l : List Val), (∀ v ∈ l, deepV v ≤ v.bulk) → deepL l ≤ bulkL l
  | [], _ => by simp [deepL]
  | v :: r, h => by
    have h1 := h v (by simp)
    have h2 := deepL_le r (fun x hx => h x (by simp [hx]))
    simp only [deepL, bulkL]
    omega
theorem deepO_le : ∀ (l : List (ByteArray × Val)), (∀ m ∈ l, deepV m.2 ≤ m.2.bulk) → deepO l ≤ bulkO l
  | [], _ => by simp [deepO]
  | (k, v) :: r, h => by
    have h1 := h (k, v) (by simp)
    have h2 := deepO_le r (fun x hx => h x (by simp [hx]))
    simp only [deepO, deepP, bulkO, bulkP]
    simp only at h1
    omega
theorem deepV_le : ∀ v : Val, deepV v ≤ v.bulk := by
  refine Val.ind ?_
  intro k b n t l o hl ho
  have h1 := deepL_le l hl
  have h2 := deepO_le o ho
  simp only [deepV, Val.bulk]
  split
  · omega
  split <;> omega

/-- What Deep does with a value. -/
def DeepC (v : Val) : Prop := ∀ (cs : List Value) (w : World), HoldsV w w.heap.size v cs → v.bulk ≤ 100000000 →
    Calls Tryd.prog 43 #[.agg cs.toArray] w fun e w' => e = .returned (.int .i64 (deepV v)) ∧ Below w.heap.size w w'

set_option maxRecDepth 100000 in
set_option maxHeartbeats 2000000 in
theorem deep_list (b : Bool) (n : Int) (t : ByteArray) (l : List Val) (on : Nat) (IH : ∀ v ∈ l, DeepC v) (la oa : Option Addr) (oc lc : Nat) (w : World) (hl : l = [] ∨ ∃ g off, la = some ⟨g, off, none⟩ ∧ g < w.heap.size ∧ HoldsL w w.heap.size l g off)
    (hb : bulkL l ≤ 100000000) :
    Calls Tryd.prog 43 #[.agg #[.int .i64 5, .bool b, .int .i64 n, .string t, .slice la l.length lc, .slice oa on oc]] w fun e w' => e = .returned (.int .i64 (1 + (deepL l : Int))) ∧ Below w.heap.size w w' := by
  have hln := bulkL_len l
  have hdl := deepL_le l (fun v _ => deepV_le v)
  obtain ⟨M, hM⟩ : ∃ M, deepL l = M := ⟨_, rfl⟩
  rw [hM] at hdl ⊢
  have H0 : Hid (max 0 (deepL (l.drop 0)) = M) := by show _ = _; rw [List.drop_zero, hM]; simp
  have HI := Lib.hid IH
  clear IH hM
  go_enter Tryd.func43, Tryd.ntmps43
  go_wp2_with (fail)
  have HB1 : Hid (Below w.heap.size w (w.alloc (.cells #[.int .i64 5, .bool b, .int .i64 n, .string t, .slice la l.length lc, .slice oa on oc] 26))) := (Below.refl _ _).alloc (Nat.le_refl _) _
  go_loopw [3, 15] (fun m i wr => ∃ D k : Nat, m = .int .i64 D ∧ i = .int .i64 k ∧ k ≤ l.length ∧ Hid (max D (deepL (l.drop k)) = M) ∧ D ≤ M ∧ Hid (Below w.heap.size w wr)) (fun _ i _ => l.length - (intOf i).toNat)
  case atStart => exact ⟨0, 0, rfl, rfl, Nat.zero_le _, H0, Nat.zero_le _, HB1⟩
  case round =>
    obtain ⟨D, k, rfl, rfl, hk, hD, hDM, hbw⟩ := hrel
    clear H0 HB1
    by_cases hlt : k < l.length
    · obtain ⟨g, off, rfl, hg, hL⟩ : ∃ g off, la = some ⟨g, off, none⟩ ∧ g < w.heap.size ∧ HoldsL w w.heap.size l g off := by
        rcases hl with rfl | h
        · simp at hlt
        · exact h
      obtain ⟨x, hx⟩ : ∃ v, l[k]? = some v := ⟨_, List.getElem?_eq_getElem hlt⟩
      have hmem : x ∈ l := List.mem_of_getElem? hx
      have hbv := bulkL_mem hmem
      have hdv := deepV_le x
      have hdrop : l.drop k = x :: l.drop (k + 1) := drop_of_get hx
      have hD' := hD.out
      rw [hdrop] at hD'
      simp only [deepL] at hD'
      have IHx := HI.out x hmem
      have hz := hbw.out.size
      obtain ⟨m, hm⟩ : ∃ m, deepV x = m := ⟨_, rfl⟩
      obtain ⟨k', b', n', t', l', o'⟩ := x
      obtain ⟨la', lc', oa', oc', hvs, c0, c1, c2, c3, c4, c5⟩ := (hL.below hg hbw.out).six hx
      have CT := IHx _ (wr.alloc (.cells #[.int .i64 k', .bool b', .int .i64 n', .string t', .slice la' l'.length lc', .slice oa' o'.length oc'] 26)) (HoldsV.more (by simp; omega) _ _ (hvs.below ((Below.refl _ _).alloc hz _))) (by omega)
      rw [hm] at CT hD' hdv
      have hCT := Lib.hid CT
      have Hn : Hid (max (max D m) (deepL (l.drop (k + 1))) = M) := by show _ = _; omega
      have hmM : max D m ≤ M := by omega
      have hbA : Hid (Below w.heap.size w (wr.alloc (.cells #[.int .i64 k', .bool b', .int .i64 n', .string t', .slice la' l'.length lc', .slice oa' o'.length oc'] 26))) := hbw.out.alloc hz _
      clear CT hD hD' hdrop IHx hm hvs hx hmem hL hg hdv hbv
      by_cases hgt : D < m
      · have e1 : max D m = m := by omega
        rw [e1] at Hn hmM
        clear e1
        go_wp2_with (fail)
        with_reducible refine hCT.out.mono ?_
        rintro e w4 ⟨rfl, hb4⟩
        have hbw4 := Lib.hid (hbA.out.trans (hb4.mono hbA.out.size))
        clear hb4 hbw hbA hCT
        go_wp2
        go_roundw
        case rel => exact ⟨m, k + 1, by congr 1; omega, by go_num, by omega, Hn, hmM, hbw4⟩
        case measure => simp only [intOf]; omega
      · have e1 : max D m = D := by omega
        rw [e1] at Hn hmM
        clear e1
        go_wp2_with (fail)
        with_reducible refine hCT.out.mono ?_
        rintro e w4 ⟨rfl, hb4⟩
        have hbw4 := Lib.hid (hbA.out.trans (hb4.mono hbA.out.size))
        clear hb4 hbw hbA hCT
        go_wp2
        go_roundw
        case rel => exact ⟨D, k + 1, by congr 1; omega, by go_num, by omega, Hn, hmM, hbw4⟩
        case measure => simp only [intOf]; omega
    · obtain rfl : k = l.length := by omega
      have hD' := hD.out
      rw [List.drop_length] at hD'
      simp only [deepL] at hD'
      obtain rfl : D = M := by omega
      clear hD hD' hl
      go_wp2
      go_ret
      exact ⟨rfl, hbw.out⟩

set_option maxRecDepth 100000 in
set_option maxHeartbeats 2000000 in
theorem deep_obj (b : Bool) (n : Int) (t : ByteArray) (l : List (ByteArray × Val)) (ln : Nat) (IH : ∀ m ∈ l, DeepC m.2) (la oa : Option Addr) (oc lc : Nat) (w : World) (hl : l = [] ∨ ∃ g off, oa = some ⟨g, off, none⟩ ∧ g < w.heap.size ∧ HoldsO w w.heap.size l g off)
    (hb : bulkO l ≤ 100000000) :
    Calls Tryd.prog 43 #[.agg #[.int .i64 6, .bool b, .int .i64 n, .string t, .slice la ln lc, .slice oa l.length oc]] w fun e w' => e = .returned (.int .i64 (1 + (deepO l : Int))) ∧ Below w.heap.size w w' := by
  have hln := bulkO_len l
  have hdl := deepO_le l (fun m _ => deepV_le m.2)
  obtain ⟨M, hM⟩ : ∃ M, deepO l = M := ⟨_, rfl⟩
  rw [hM] at hdl ⊢
  have H0 : Hid (max 0 (deepO (l.drop 0)) = M) := by show _ = _; rw [List.drop_zero, hM]; simp
  have HI := Lib.hid IH
  clear IH hM
  go_enter Tryd.func43, Tryd.ntmps43
  go_wp2_with (fail)
  have HB1 : Hid (Below w.heap.size w (w.alloc (.cells #[.int .i64 6, .bool b, .int .i64 n, .string t, .slice la ln lc, .slice oa l.length oc] 26))) := (Below.refl _ _).alloc (Nat.le_refl _) _
  go_loopw [3, 29] (fun m i wr => ∃ D k : Nat, m = .int .i64 D ∧ i = .int .i64 k ∧ k ≤ l.length ∧ Hid (max D (deepO (l.drop k)) = M) ∧ D ≤ M ∧ Hid (Below w.heap.size w wr)) (fun _ i _ => l.length - (intOf i).toNat)
  case atStart => exact ⟨0, 0, rfl, rfl, Nat.zero_le _, H0, Nat.zero_le _, HB1⟩
  case round =>
    obtain ⟨D, k, rfl, rfl, hk, hD, hDM, hbw⟩ := hrel
    clear H0 HB1
    by_cases hlt : k < l.length
    · obtain ⟨g, off, rfl, hg, hL⟩ : ∃ g off, oa = some ⟨g, off, none⟩ ∧ g < w.heap.size ∧ HoldsO w w.heap.size l g off := by
        rcases hl with rfl | h
        · simp at hlt
        · exact h
      obtain ⟨⟨key, x⟩, hx⟩ : ∃ v, l[k]? = some v := ⟨_, List.getElem?_eq_getElem hlt⟩
      have hmem : (key, x) ∈ l := List.mem_of_getElem? hx
      have hbv := bulkO_mem hmem
      simp only at hbv
      have hdv := deepV_le x
      have hdrop : l.drop k = (key, x) :: l.drop (k + 1) := drop_of_get hx
      have hD' := hD.out
      rw [hdrop] at hD'
      simp only [deepO, deepP] at hD'
      have IHx := HI.out _ hmem
      have hz := hbw.out.size
      obtain ⟨m, hm⟩ : ∃ m, deepV x = m := ⟨_, rfl⟩
      obtain ⟨k', b', n', t', l', o'⟩ := x
      obtain ⟨la', lc', oa', oc', hvs, c0, c1, c2, c3, c4, c5, c6⟩ := (hL.below hg hbw.out).seven hx
      have CT := IHx _ (wr.alloc (.cells #[.string key, .int .i64 k', .bool b', .int .i64 n', .string t', .slice la' l'.length lc', .slice oa' o'.length oc'] 44)) (HoldsV.more (by simp; omega) _ _ (hvs.below ((Below.refl _ _).alloc hz _))) (show (Val.mk k' b' n' t' l' o').bulk ≤ 100000000 from by omega)
      simp only [hm] at CT
      rw [hm] at hD' hdv
      have hCT := Lib.hid CT
      have Hn : Hid (max (max D m) (deepO (l.drop (k + 1))) = M) := by show _ = _; omega
      have hmM : max D m ≤ M := by omega
      have hbA : Hid (Below w.heap.size w (wr.alloc (.cells #[.string key, .int .i64 k', .bool b', .int .i64 n', .string t', .slice la' l'.length lc', .slice oa' o'.length oc'] 44))) := hbw.out.alloc hz _
      clear CT hD hD' hdrop IHx hm hvs hx hmem hL hg hdv hbv
      have hmx : max (D : Int) (m : Int) = ((max D m : Nat) : Int) := by omega
      generalize max D m = Dm at *
      have Hmx := Lib.hid hmx
      clear hmx
      go_wp2_with (fail)
      with_reducible refine hCT.out.mono ?_
      rintro e w4 ⟨rfl, hb4⟩
      have hbw4 := Lib.hid (hbA.out.trans (hb4.mono hbA.out.size))
      clear hb4 hbw hbA hCT
      go_wp2
      go_roundw
      case rel => exact ⟨Dm, k + 1, by rw [Hmx.out], by go_num, by omega, Hn, hmM, hbw4⟩
      case measure => simp only [intOf]; omega
    · obtain rfl : k = l.length := by omega
      have hD' := hD.out
      rw [List.drop_length] at hD'
      simp only [deepO] at hD'
      obtain rfl : D = M := by omega
      clear hD hD' hl
      go_wp2
      go_ret
      exact ⟨rfl, hbw.out⟩

set_option maxRecDepth 100000 in
/-- value.Deep -/
theorem deep_calls : ∀ v, DeepC v := by
  refine Val.ind ?_
  intro k b n t l o IHl IHo cs w hV hb
  simp only [HoldsV] at hV
  obtain ⟨la, lc, oa, oc, rfl, hla, hoa⟩ := hV
  simp only [Val.bulk] at hb
  by_cases h5 : k = 5
  · subst h5
    have := deep_list b n t l o.length IHl la oa oc lc w hla (by omega)
    simpa [deepV] using this
  by_cases h6 : k = 6
  · subst h6
    have := deep_obj b n t o l.length IHo la oa oc lc w hoa (by omega)
    simpa [deepV] using this
  have e : deepV (.mk k b n t l o) = 1 := by simp [deepV, h5, h6]
  rw [e]
  have e5 : (k == 5) = false := by simpa using h5
  have e6 : (k == 6) = false := by simpa using h6
  clear e IHl IHo hla hoa hb h5 h6
  go_enter Tryd.func43, Tryd.ntmps43
  go_wp2
  go_ret
  exact ⟨rfl, (Below.refl _ _).alloc (Nat.le_refl _) _⟩

end Go.Proofs.YtjmkafbdmppfaaaDoor
