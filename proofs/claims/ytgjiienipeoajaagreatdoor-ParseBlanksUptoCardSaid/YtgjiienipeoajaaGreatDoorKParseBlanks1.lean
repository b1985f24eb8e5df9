/- Parts, joined: commonplaceref02.Deep, Size: how deep a value is, and how many values. Condition: a bulk of at most 10^8. So many lists within one another: their text, read. Plain. No condition. commonplacelaw04.gap: a few blanks, by a number. Condition: a counter below 10^15. Members in any order: their object's text, read, or the first key that comes twice. Plain. No condition. -/
import Derived.Test.YtgjiienipeoajaaGreatDoorProg
import Derived.IntWalk
import Derived.Lib.Repeat
import Derived.Test.YtgjiienipeoajaaGreatDoorShelf
import Derived.Test.YtgjiienipeoajaaGreatDoorKPrs5
import Derived.Test.YtgjiienipeoajaaGreatDoorKPrs7
import Derived.Test.YtgjiienipeoajaaGreatDoorKPrs31
import Derived.Test.YtgjiienipeoajaaGreatDoorKPrs34
/- commonplaceref02.Deep, Size: how deep a value is, and how many values. Condition: a bulk of at most 10^8. -/
namespace Go.Proofs.YtgjiienipeoajaaGreatDoor
open Go.RowKit

mutual
/-- How deep a value is. -/
def deepV : Val → Nat
  | .mk k _ _ _ l o => 1 + (if k = 5 then deepL l else if k = 6 then deepO o else 0)
def deepL : List Val → Nat
  | [] => 0
  | v :: r => max (deepV v) (deepL r)
def deepO : List (ByteArray × Val) → Nat
  | [] => 0
  | p :: r => max (deepP p) (deepO r)
def deepP : ByteArray × Val → Nat
  | (_, v) => deepV v
end

theorem deepL_le : ∀ (l : List Val), (∀ v ∈ l, deepV v ≤ v.bulk) → deepL l ≤ bulkL l
  | [], _ => by simp [deepL]
  | v :: r, h => by
    have h1 := h v (by simp)
    have h2 := deepL_le r (fun x hx => h x (by simp [hx]))
    simp only [deepL, bulkL]
    omega
theorem deepO_le : ∀ (l : List (ByteArray × Val)), (∀ m ∈ l, deepV m.2 ≤ m.2.bulk) → deepO l ≤ bulkO l
  | [], _ => by simp [deepO]
  | (k, v) :: r, h => by
    have h1 := h (k, v) (by simp)
    have h2 := deepO_le r (fun x hx => h x (by simp [hx]))
    simp only [deepO, deepP, bulkO, bulkP]
    simp only at h1
    omega
theorem deepV_le : ∀ v : Val, deepV v ≤ v.bulk := by
  refine Val.ind ?_
  intro k b n t l o hl ho
  have h1 := deepL_le l hl
  have h2 := deepO_le o ho
  simp only [deepV, Val.bulk]
  split
  · omega
  split <;> omega

mutual
/-- How siz a value is. -/
def sizV : Val → Nat
  | .mk k _ _ _ l o => 1 + (if k = 5 then sizL l else if k = 6 then sizO o else 0)
def sizL : List Val → Nat
  | [] => 0
  | v :: r => sizV v + sizL r
def sizO : List (ByteArray × Val) → Nat
  | [] => 0
  | p :: r => sizP p + sizO r
def sizP : ByteArray × Val → Nat
  | (_, v) => sizV v
end

theorem sizL_le : ∀ (l : List Val), (∀ v ∈ l, sizV v ≤ v.bulk) → sizL l ≤ bulkL l
  | [], _ => by simp [sizL]
  | v :: r, h => by
    have h1 := h v (by simp)
    have h2 := sizL_le r (fun x hx => h x (by simp [hx]))
    simp only [sizL, bulkL]
    omega
theorem sizO_le : ∀ (l : List (ByteArray × Val)), (∀ m ∈ l, sizV m.2 ≤ m.2.bulk) → sizO l ≤ bulkO l
  | [], _ => by simp [sizO]
  | (k, v) :: r, h => by
    have h1 := h (k, v) (by simp)
    have h2 := sizO_le r (fun x hx => h x (by simp [hx]))
    simp only [sizO, sizP, bulkO, bulkP]
    simp only at h1
    omega
theorem sizV_le : ∀ v : Val, sizV v ≤ v.bulk := by
  refine Val.ind ?_
  intro k b n t l o hl ho
  have h1 := sizL_le l hl
  have h2 := sizO_le o ho
  simp only [sizV, Val.bulk]
  split
  · omega
  split <;> omega

theorem RWithin_calls (v : Val) (cs : List Value) (w : World) (hV : HoldsV w w.heap.size v cs) (hb : v.bulk ≤ 100000000) :
    Calls Tryz.prog 51 #[.agg cs.toArray] w (WithinPost w v) := by
  obtain ⟨k, b, n, t, l, o⟩ := v
  simp only [HoldsV] at hV
  obtain ⟨la, lc, oa, oc, rfl, hla, hoa⟩ := hV
  simp only [Val.bulk] at hb
  by_cases h5 : k = 5
  · subst h5
    exact within_list b n t l o la oa oc lc w hla (by omega)
  by_cases h6 : k = 6
  · subst h6
    exact within_obj b n t l o la oa oc lc w hoa (by omega)
  have hw : within (.mk k b n t l o) = [] := by simp [within, h5, h6]
  have Hw := Lib.hid hw
  have e5 : (k == 5) = false := by simpa using h5
  have e6 : (k == 6) = false := by simpa using h6
  clear hw hla hoa hb h5 h6
  go_enter Tryz.func51, Tryz.ntmps51
  go_wp2
  go_ret
  exact ⟨⟨none, 0, by rw [Hw.out]; rfl, .inl Hw.out⟩, (Below.refl _ _).alloc (Nat.le_refl _) _⟩

theorem deepO_map : ∀ o : List (ByteArray × Val), deepO o = deepL (o.map (·.2))
  | [] => rfl
  | (k, v) :: r => by simp only [deepO, deepP, List.map_cons, deepL, deepO_map r]
theorem deepV_within (v : Val) : deepV v = 1 + deepL (within v) := by
  obtain ⟨k, b, n, t, l, o⟩ := v
  simp only [deepV, within]
  by_cases h5 : k = 5
  · simp [h5]
  by_cases h6 : k = 6
  · simp [h6, deepO_map]
  · simp [h5, h6, deepL]
theorem bulkO_map : ∀ o : List (ByteArray × Val), bulkL (o.map (·.2)) ≤ bulkO o
  | [] => by simp [bulkL]
  | (k, v) :: r => by
    have := bulkO_map r
    simp only [List.map_cons, bulkL, bulkO, bulkP]
    omega
theorem within_bulk (v : Val) : bulkL (within v) ≤ v.bulk := by
  obtain ⟨k, b, n, t, l, o⟩ := v
  have := bulkO_map o
  simp only [within, Val.bulk]
  split
  · omega
  split
  · omega
  · simp [bulkL]

theorem sizO_map : ∀ o : List (ByteArray × Val), sizO o = sizL (o.map (·.2))
  | [] => rfl
  | (k, v) :: r => by simp only [sizO, sizP, List.map_cons, sizL, sizO_map r]
theorem sizV_within (v : Val) : sizV v = 1 + sizL (within v) := by
  obtain ⟨k, b, n, t, l, o⟩ := v
  simp only [sizV, within]
  by_cases h5 : k = 5
  · simp [h5]
  by_cases h6 : k = 6
  · simp [h6, sizO_map]
  · simp [h5, h6, sizL]
/-- What the reference's Deep does with a value. -/
def RDeepC (v : Val) : Prop := ∀ (cs : List Value) (w : World), HoldsV w w.heap.size v cs → v.bulk ≤ 100000000 →
    Calls Tryz.prog 25 #[.agg cs.toArray] w fun e w' => e = .returned (.int .i64 (deepV v)) ∧ Below w.heap.size w w'

set_option maxRecDepth 100000 in
set_option maxHeartbeats 2000000 in
theorem rdeep_step (v : Val) (IH : ∀ x ∈ within v, RDeepC x) : RDeepC v := by
  intro cs w hV hb
  have hV' := hV
  have hbw := within_bulk v
  have hlw := bulkL_len (within v)
  have hdw := deepL_le (within v) (fun x _ => deepV_le x)
  have hW0 := fun w' (h : Below w.heap.size w w') => RWithin_calls v cs w' (HoldsV.more h.size _ _ (hV.below h)) hb
  rw [deepV_within]
  unfold WithinPost at hW0
  generalize within v = L at *
  obtain ⟨k, b, n, t, l, o⟩ := v
  simp only [HoldsV] at hV'
  obtain ⟨la, lc, oa, oc, rfl, _, _⟩ := hV'
  have HI := Lib.hid IH
  have HW := Lib.hid hW0
  obtain ⟨M, hM⟩ : ∃ M, deepL L = M := ⟨_, rfl⟩
  rw [hM] at hdw ⊢
  have H0 : Hid (max 0 (deepL (L.drop 0)) = M) := by show _ = _; rw [List.drop_zero, hM]; simp
  have HB1 : Hid (Below w.heap.size w (w.alloc (.cells (cells6 k b n t la l.length lc oa o.length oc).toArray 26))) := (Below.refl _ _).alloc (Nat.le_refl _) _
  clear IH hW0 hM hV
  go_enter Tryz.func25, Tryz.ntmps25
  go_wp2_with (fail)
  with_reducible refine (HW.out _ HB1.out).mono ?_
  rintro e w2 ⟨⟨la', lc', rfl, hsl⟩, hb2⟩
  have Hsl := Lib.hid hsl
  have HB2 := Lib.hid (HB1.out.trans (hb2.mono HB1.out.size))
  clear hsl hb2 HB1 HW
  go_wp2_with (fail)
  have HBr : Hid (Below w2.heap.size w2 w2) := Below.refl _ _
  go_loopw [3, 5] (fun m i wr => ∃ D k : Nat, m = .int .i64 D ∧ i = .int .i64 k ∧ k ≤ L.length ∧ Hid (max D (deepL (L.drop k)) = M) ∧ D ≤ M ∧ Hid (Below w2.heap.size w2 wr)) (fun _ i _ => L.length - (intOf i).toNat)
  case atStart => exact ⟨0, 0, rfl, rfl, Nat.zero_le _, H0, Nat.zero_le _, HBr⟩
  case round =>
    obtain ⟨D, k, rfl, rfl, hk, hD, hDM, hbw⟩ := hrel
    clear H0 HBr
    by_cases hlt : k < L.length
    · obtain ⟨g, off, rfl, hg, hL⟩ : ∃ g off, la' = some ⟨g, off, none⟩ ∧ g < w2.heap.size ∧ HoldsL w2 w2.heap.size L g off := by
        rcases Hsl.out with h | h
        · rw [h] at hlt; simp at hlt
        · exact h
      obtain ⟨x, hx⟩ : ∃ v, L[k]? = some v := ⟨_, List.getElem?_eq_getElem hlt⟩
      have hmem : x ∈ L := List.mem_of_getElem? hx
      have hbv := bulkL_mem hmem
      have hdv := deepV_le x
      have hdrop : L.drop k = x :: L.drop (k + 1) := drop_of_get hx
      have hD' := hD.out
      rw [hdrop] at hD'
      simp only [deepL] at hD'
      have IHx := HI.out x hmem
      have hz := hbw.out.size
      obtain ⟨m, hm⟩ : ∃ m, deepV x = m := ⟨_, rfl⟩
      obtain ⟨k', b', n', t', l', o'⟩ := x
      obtain ⟨la', lc', oa', oc', hvs, c0, c1, c2, c3, c4, c5⟩ := (hL.below hg hbw.out).six hx
      have CT := IHx _ wr (HoldsV.more hz _ _ hvs) (by omega)
      rw [hm] at CT hD' hdv
      have hCT := Lib.hid CT
      have Hn : Hid (max (max D m) (deepL (L.drop (k + 1))) = M) := by show _ = _; omega
      have hmM : max D m ≤ M := by omega
      clear CT hD hD' hdrop IHx hm hvs hx hmem hL hg hdv hbv
      by_cases hgt : D < m
      · have e1 : max D m = m := by omega
        rw [e1] at Hn hmM
        clear e1
        go_wp2_with (fail)
        with_reducible refine hCT.out.mono ?_
        rintro e w4 ⟨rfl, hb4⟩
        have hbw4 := Lib.hid (hbw.out.trans (hb4.mono hz))
        clear hb4 hbw hCT
        go_wp2
        go_roundw
        case rel => exact ⟨m, k + 1, rfl, by go_num, by omega, Hn, hmM, hbw4⟩
        case measure => simp only [intOf]; omega
      · have e1 : max D m = D := by omega
        rw [e1] at Hn hmM
        clear e1
        go_wp2_with (fail)
        with_reducible refine hCT.out.mono ?_
        rintro e w4 ⟨rfl, hb4⟩
        have hbw4 := Lib.hid (hbw.out.trans (hb4.mono hz))
        clear hb4 hbw hCT
        go_wp2
        go_roundw
        case rel => exact ⟨D, k + 1, rfl, by go_num, by omega, Hn, hmM, hbw4⟩
        case measure => simp only [intOf]; omega
    · obtain rfl : k = L.length := by omega
      have hD' := hD.out
      rw [List.drop_length] at hD'
      simp only [deepL] at hD'
      obtain rfl : D = M := by omega
      have hc : (D : Int) + 1 = ((1 + D : Nat) : Int) := by omega
      have Hc := Lib.hid hc
      clear hD hD' hc
      go_wp2
      go_ret
      exact ⟨by rw [← Hc.out]; rfl, HB2.out.trans (hbw.out.mono HB2.out.size)⟩

theorem rdeep_calls : ∀ v, RDeepC v := by
  refine Val.ind ?_
  intro k b n t l o IHl IHo
  refine rdeep_step _ (fun x hx => ?_)
  simp only [within] at hx
  split at hx
  · exact IHl x hx
  split at hx
  · obtain ⟨m, hm, rfl⟩ := List.mem_map.1 hx
    exact IHo m hm
  · cases hx

/-- What the reference's Size does with a value. -/
def RSizeC (v : Val) : Prop := ∀ (cs : List Value) (w : World), HoldsV w w.heap.size v cs → v.bulk ≤ 100000000 →
    Calls Tryz.prog 26 #[.agg cs.toArray] w fun e w' => e = .returned (.int .i64 (sizV v)) ∧ Below w.heap.size w w'

set_option maxRecDepth 100000 in
set_option maxHeartbeats 2000000 in
theorem rsize_step (v : Val) (IH : ∀ x ∈ within v, RSizeC x) : RSizeC v := by
  intro cs w hV hb
  have hV' := hV
  have hbw := within_bulk v
  have hlw := bulkL_len (within v)
  have hdw := sizL_le (within v) (fun x _ => sizV_le x)
  have hW0 := fun w' (h : Below w.heap.size w w') => RWithin_calls v cs w' (HoldsV.more h.size _ _ (hV.below h)) hb
  rw [sizV_within]
  unfold WithinPost at hW0
  generalize within v = L at *
  obtain ⟨k, b, n, t, l, o⟩ := v
  simp only [HoldsV] at hV'
  obtain ⟨la, lc, oa, oc, rfl, _, _⟩ := hV'
  have HI := Lib.hid IH
  have HW := Lib.hid hW0
  obtain ⟨M, hM⟩ : ∃ M, 1 + sizL L = M := ⟨_, rfl⟩
  have hMb : M ≤ 100000001 := by omega
  have hret : (1 : Int) + (sizL L : Int) = (M : Int) := by omega
  have H0 : Hid (1 + sizL (L.drop 0) = M) := by show _ = _; rw [List.drop_zero, hM]
  have h1M : 1 ≤ M := by omega
  have HB1 : Hid (Below w.heap.size w (w.alloc (.cells (cells6 k b n t la l.length lc oa o.length oc).toArray 26))) := (Below.refl _ _).alloc (Nat.le_refl _) _
  rw [show ((1 + sizL L : Nat) : Int) = (M : Int) by omega]
  clear IH hW0 hM hV hret
  go_enter Tryz.func26, Tryz.ntmps26
  go_wp2_with (fail)
  with_reducible refine (HW.out _ HB1.out).mono ?_
  rintro e w2 ⟨⟨la', lc', rfl, hsl⟩, hb2⟩
  have Hsl := Lib.hid hsl
  have HB2 := Lib.hid (HB1.out.trans (hb2.mono HB1.out.size))
  clear hsl hb2 HB1 HW
  go_wp2_with (fail)
  have HBr : Hid (Below w2.heap.size w2 w2) := Below.refl _ _
  go_loopw [3, 5] (fun m i wr => ∃ D k : Nat, m = .int .i64 D ∧ i = .int .i64 k ∧ k ≤ L.length ∧ Hid (D + sizL (L.drop k) = M) ∧ D ≤ M ∧ Hid (Below w2.heap.size w2 wr)) (fun _ i _ => L.length - (intOf i).toNat)
  case atStart => exact ⟨1, 0, rfl, rfl, Nat.zero_le _, H0, h1M, HBr⟩
  case round =>
    obtain ⟨D, k, rfl, rfl, hk, hD, hDM, hbw⟩ := hrel
    clear H0 HBr
    by_cases hlt : k < L.length
    · obtain ⟨g, off, rfl, hg, hL⟩ : ∃ g off, la' = some ⟨g, off, none⟩ ∧ g < w2.heap.size ∧ HoldsL w2 w2.heap.size L g off := by
        rcases Hsl.out with h | h
        · rw [h] at hlt; simp at hlt
        · exact h
      obtain ⟨x, hx⟩ : ∃ v, L[k]? = some v := ⟨_, List.getElem?_eq_getElem hlt⟩
      have hmem : x ∈ L := List.mem_of_getElem? hx
      have hbv := bulkL_mem hmem
      have hdv := sizV_le x
      have hdrop : L.drop k = x :: L.drop (k + 1) := drop_of_get hx
      have hD' := hD.out
      rw [hdrop] at hD'
      simp only [sizL] at hD'
      have IHx := HI.out x hmem
      have hz := hbw.out.size
      obtain ⟨m, hm⟩ : ∃ m, sizV x = m := ⟨_, rfl⟩
      obtain ⟨k', b', n', t', l', o'⟩ := x
      obtain ⟨la', lc', oa', oc', hvs, c0, c1, c2, c3, c4, c5⟩ := (hL.below hg hbw.out).six hx
      have CT := IHx _ wr (HoldsV.more hz _ _ hvs) (by omega)
      rw [hm] at CT hD' hdv
      have hCT := Lib.hid CT
      have Hn : Hid (D + m + sizL (L.drop (k + 1)) = M) := by show _ = _; omega
      have hmM : D + m ≤ M := by omega
      have hwr : IntKind.i64.wrap ((D : Int) + (m : Int)) = (D : Int) + (m : Int) := IntWalk.i64_in _ (by omega)
      clear CT hD hD' hdrop IHx hm hvs hx hmem hL hg hdv hbv
      go_wp2_with (fail)
      with_reducible refine hCT.out.mono ?_
      rintro e w4 ⟨rfl, hb4⟩
      have hbw4 := Lib.hid (hbw.out.trans (hb4.mono hz))
      clear hb4 hbw hCT
      go_wp2
      go_roundw
      case rel => exact ⟨D + m, k + 1, by go_num, by go_num, by omega, Hn, hmM, hbw4⟩
      case measure => simp only [intOf]; omega
    · obtain rfl : k = L.length := by omega
      have hD' := hD.out
      rw [List.drop_length] at hD'
      simp only [sizL] at hD'
      obtain rfl : D = M := by omega
      clear hD hD'
      go_wp2
      go_ret
      exact ⟨rfl, HB2.out.trans (hbw.out.mono HB2.out.size)⟩

theorem rsize_calls : ∀ v, RSizeC v := by
  refine Val.ind ?_
  intro k b n t l o IHl IHo
  refine rsize_step _ (fun x hx => ?_)
  simp only [within] at hx
  split at hx
  · exact IHl x hx
  split at hx
  · obtain ⟨m, hm, rfl⟩ := List.mem_map.1 hx
    exact IHo m hm
  · cases hx

end Go.Proofs.YtgjiienipeoajaaGreatDoor

/- So many lists within one another: their text, read. Plain. No condition. -/
namespace Go.Proofs.YtgjiienipeoajaaGreatDoor
open Go.RowKit

/-- n + 1 lists. -/
def nestV : Nat → Val
  | 0 => lstV []
  | n + 1 => lstV [nestV n]
def nestT : Nat → List UInt8
  | 0 => [91, 93]
  | n + 1 => 91 :: (nestT n ++ [93])
theorem nestT_eq : ∀ n, nestT n = List.replicate (n + 1) 91 ++ List.replicate (n + 1) 93
  | 0 => rfl
  | n + 1 => by
    rw [nestT, nestT_eq n, List.append_assoc, ← List.replicate_succ', List.replicate_succ (n := n + 1) (a := (91 : UInt8))]
    rfl
theorem repeat_one (c : UInt8) : ∀ n, Lib.repeatL [c] n = List.replicate n c := by
  intro n
  have := Lib.repeatL_replicate c 1 n
  simpa using this
theorem nest_reads : ∀ (n : Nat) (d : Int), d + n ≤ 64 → ReadsV (nestT n) (nestV n) d
  | 0, d, hd => by
    have := read_list (d := d) (by omega) (l := []) (by simp) (g := []) blanks_nil (fun _ => rfl)
    simpa [nestT, nestV, joinC] using this
  | n + 1, d, hd => by
    have ih := nest_reads n (d + 1) (by omega)
    have := read_list (d := d) (by omega) (l := [(nestT n, nestV n)]) (by simpa using ih) (g := []) blanks_nil (fun _ => rfl)
    simpa [nestT, nestV, joinC] using this
theorem nest_parse {n : Nat} (h : n ≤ 63) : parseL (nestT n) = .ok (nestV n) (nestT n).length := parse_reads (nest_reads n 1 (by omega))
theorem nest_deep : ∀ n, deepV (nestV n) = n + 1
  | 0 => rfl
  | n + 1 => by simp [nestV, lstV, deepV, deepL, nest_deep n]; omega
theorem nest_size : ∀ n, sizV (nestV n) = n + 1
  | 0 => rfl
  | n + 1 => by simp [nestV, lstV, sizV, sizL, nest_size n]; omega
theorem nest_bulk : ∀ n, (nestV n).bulk = 6 * (n + 1)
  | 0 => rfl
  | n + 1 => by simp [nestV, lstV, Val.bulk, bulkL, bulkO, nest_bulk n, emptyB, ByteArray.size]; omega
/-- Too deep a nest. -/
theorem deep_at {n : Nat} (hn : 65 ≤ n) {s : List UInt8} (hs : ∀ i, i < n → s[i]? = some 91) : ∀ (j : Nat), j ≤ 64 → ∀ f, 4 * j + 1 ≤ f → valueF f s (64 - j) ((65 - j : Nat) : Int) = .bad 5 64 := by
  have h91 : isBlank 91 = false := by decide
  have hp : ∀ i, i < n → past s i = i := fun i hi => past_stop (hs i hi) h91
  intro j
  induction j with
  | zero =>
    intro _ f hf
    obtain ⟨f, rfl⟩ : ∃ k, f = k + 1 := ⟨f - 1, by omega⟩
    unfold valueF
    rw [hp _ (by omega), hs _ (by omega)]
    rfl
  | succ j ih =>
    intro hj f hf
    obtain ⟨f, rfl⟩ : ∃ k, f = k + 3 := ⟨f - 3, by omega⟩
    have ih' := ih (by omega) f (by omega)
    unfold valueF
    rw [hp _ (by omega), hs _ (by omega)]
    simp only
    rw [if_neg (by decide), if_neg (by omega), if_pos trivial]
    unfold listF
    rw [show 64 - (j + 1) + 1 = 64 - j by omega, hp _ (by omega), hs _ (by omega), if_neg (by decide)]
    unfold itemsF
    rw [show ((65 - (j + 1) : Nat) : Int) + 1 = ((65 - j : Nat) : Int) by omega, ih']
theorem nest_too {n : Nat} (h : 64 ≤ n) : parseL (nestT n) = .bad 5 64 := by
  have hs : ∀ i, i < n + 1 → (nestT n)[i]? = some 91 := by
    intro i hi
    rw [nestT_eq, List.getElem?_append_left (by simpa using hi), List.getElem?_replicate]
    simp [hi]
  have := deep_at (n := n + 1) (by omega) hs 64 (Nat.le_refl _) (4 * (nestT n).length + 4) (by rw [nestT_eq]; simp; omega)
  unfold parseL
  rw [show valueF (4 * (nestT n).length + 4) (nestT n) 0 1 = .bad 5 64 from this]
end Go.Proofs.YtgjiienipeoajaaGreatDoor

/- commonplacelaw04.gap: a few blanks, by a number. Condition: a counter below 10^15. -/
namespace Go.Proofs.YtgjiienipeoajaaGreatDoor
open Go Go.RowKit

/-- The gaps' bytes, as they lie in memory below B. -/
def GapsAt (w : World) (B : Nat) (L : List UInt8) (ga : Option Addr) : Prop := L = [] ∨ ∃ b off, ga = some ⟨b, off, none⟩ ∧ b < B ∧ ∀ j u, L[j]? = some u → w.cell? ⟨b, off + j, none⟩ = some (.int .u8 (u.toNat : Int))
/-- The counter. -/
def CntAt (w : World) (g : Nat) (c : Nat) : Prop := Blk w g 3 #[.int .i64 (c : Int)]
theorem below_of_grown {w w' : World} {g B : Nat} (t : w.grownBy w' (some g)) (hB : B ≤ g) (hw : B ≤ w.heap.size) : Below B w w' := (Below.refl B w).grown t hw (fun k e => by have := Option.some.inj e; omega)
theorem GapsAt.grown {w w' : World} {B : Nat} {L : List UInt8} {ga : Option Addr} {g : Nat} (h : GapsAt w B L ga) (t : w.grownBy w' (some g)) (hB : B ≤ g) (hw : B ≤ w.heap.size) : GapsAt w' B L ga := by
  rcases h with h | ⟨b, off, e, hb, hc⟩
  · exact .inl h
  · exact .inr ⟨b, off, e, hb, fun j u hj => ((below_of_grown t hB hw).cell (p := ⟨b, off + j, none⟩) hb).trans (hc j u hj)⟩
/-- What a gap leaves. -/
def GapPost (g c : Nat) (w : World) (e : Ending) (w' : World) : Prop := ∃ (T : ByteArray) (c' : Nat), e = .returned (.string T) ∧ Blanks T.data.toList ∧ T.size ≤ 2 ∧ c ≤ c' ∧ c' ≤ c + 1 ∧ w.grownBy w' (some g) ∧ CntAt w' g c'
theorem blanks_rep {c : UInt8} (h : isBlank c = true) (n : Nat) : Blanks (List.replicate n c) := fun x hx => by rw [(List.mem_replicate.1 hx).2]; exact h
set_option maxRecDepth 100000 in
set_option maxHeartbeats 8000000 in
theorem gap_calls (L : List UInt8) (ga : Option Addr) (gc g c B : Nat) (w : World) (hG : GapsAt w B L ga) (hC : CntAt w g c) (hc : c ≤ 1000000000000000) (hL : L.length ≤ 1000000000) :
    Calls Tryz.prog 45 #[.slice ga L.length gc, .pointer (some ⟨g, 0, none⟩)] w (GapPost g c w) := by
  have hgl : g < w.heap.size := Blk.lt hC
  by_cases h0 : L = []
  · subst h0
    have HC := Lib.hid hC
    clear hC
    go_enter Tryz.func45, Tryz.ntmps45
    go_wp2
    go_ret
    exact ⟨⟨#[]⟩, c, rfl, blanks_nil, by decide, Nat.le_refl _, by omega, World.grownBy.refl _ _, HC.out⟩
  · obtain ⟨b, off, rfl, hb, hcell⟩ : ∃ b off, ga = some ⟨b, off, none⟩ ∧ b < B ∧ ∀ j u, L[j]? = some u → w.cell? ⟨b, off + j, none⟩ = some (.int .u8 (u.toNat : Int)) := by
      rcases hG with h | h
      · exact absurd h h0
      · exact h
    have hl0 : 0 < L.length := List.length_pos_iff.2 h0
    obtain ⟨x, hx⟩ : ∃ x, L[c % L.length]? = some x := ⟨_, List.getElem?_eq_getElem (Nat.mod_lt _ hl0)⟩
    have ck := hcell _ _ hx
    have cc : w.cell? ⟨g, 0, none⟩ = some (.int .i64 (c : Int)) := Blk.cell hC 0
    have cf : w.frozen? ⟨g, 0, none⟩ = false := Blk.frozen hC 0
    have e0 : ((L.length : Int) == 0) = false := by rw [beq_eq_false_iff_ne]; omega
    have m1 : Int.tmod (c : Int) (L.length : Int) = ((c % L.length : Nat) : Int) := rfl
    have m2 : ((c % L.length : Nat) : Int) < (L.length : Int) := by have := Nat.mod_lt c hl0; omega
    have m3 : (0 : Int) ≤ ((c % L.length : Nat) : Int) := by omega
    have hxl := byte_lt x
    have hne : (L.length : Int) ≠ 0 := by omega
    have hC1 : Blk (w.setCell ⟨g, 0, none⟩ (.int .i64 ((c : Int) + 1))) g 3 #[.int .i64 ((c : Int) + 1)] := Blk.set_ hC 0 _
    have hg1 := grownBy_set (World.grownBy.refl w (some g)) ⟨g, 0, none⟩ (.inl rfl) (.int .i64 ((c : Int) + 1))
    clear hG hcell
    generalize hr : c % L.length = r at m1 m2 m3 ck hx
    have HC := Lib.hid hC
    have HC1 := Lib.hid hC1
    have Hg1 := Lib.hid hg1
    have Hr := Lib.hid hr
    have H0 := Lib.hid h0
    have Hx := Lib.hid hx
    clear hC hC1 hg1 hr h0 hx
    go_enter Tryz.func45, Tryz.ntmps45
    go_upto_region 5 with (fail)
    generalize w.setCell ⟨g, 0, none⟩ (.int .i64 ((c : Int) + 1)) = w1 at HC1 Hg1 ⊢
    have hg1l := Blk.lt HC1.out
    clear ck cc cf m1 m2 m3 HC Hr H0 Hx e0 hne
    obtain ⟨X, hX⟩ : ∃ X, x.toNat = X := ⟨_, rfl⟩
    rw [hX] at hxl ⊢
    have k3 : X / 4 % 3 < 3 := Nat.mod_lt _ (by decide)
    have hR : ∀ (B : UInt8), isBlank B = true → ∀ W, Calls Tryz.prog 24 #[.string ⟨#[B]⟩, .int .i64 ((X : Int) / 4 % 3)] W fun e w' => e = .returned (.string ⟨(List.replicate (X / 4 % 3) B).toArray⟩) ∧ Below W.heap.size W w' := fun B _ W => by
      have := Tryz.strings_Repeat ⟨#[B]⟩ (X / 4 % 3) W (by omega) (by show 1 * (X / 4 % 3) ≤ _; omega)
      rwa [show (⟨#[B]⟩ : ByteArray).data.toList = [B] from rfl, repeat_one, show ((X / 4 % 3 : Nat) : Int) = (X : Int) / 4 % 3 by omega] at this
    rcases (by omega : X % 4 = 0 ∨ X % 4 = 1 ∨ X % 4 = 2 ∨ X % 4 = 3) with h4 | h4 | h4 | h4
    · have t1 : Int.tmod (X : Int) 4 = 0 := by rw [show Int.tmod (X : Int) 4 = ((X % 4 : Nat) : Int) from rfl, h4]; rfl
      have hR1 := hR 32 (by decide)
      clear h4 hR
      have HR1 := Lib.hid hR1
      clear hR1
      go_wp2_with (fail)
      with_reducible refine (HR1.out _).mono ?_
      rintro e w2 ⟨rfl, hb2⟩
      have hg2 := grownBy_below (grownBy_alloc Hg1.out (.cells #[.string ⟨#[32]⟩, .string ⟨#[9]⟩, .string ⟨#[10]⟩, .string ⟨#[13]⟩] 9)) hb2
      have hc2 := (HC1.out.alloc (.cells #[.string ⟨#[32]⟩, .string ⟨#[9]⟩, .string ⟨#[10]⟩, .string ⟨#[13]⟩] 9)).below hb2 (by simp; omega)
      have Hg2 := Lib.hid hg2
      have Hc2 := Lib.hid hc2
      clear hg2 hc2
      clear hb2
      go_wp2
      go_ret
      exact ⟨_, c + 1, rfl, blanks_rep (c := 32) (by decide) _, by show (List.replicate (X / 4 % 3) _).length ≤ 2; rw [List.length_replicate]; omega, by omega, Nat.le_refl _, Hg2.out, Hc2.out⟩
    · have t1 : Int.tmod (X : Int) 4 = 1 := by rw [show Int.tmod (X : Int) 4 = ((X % 4 : Nat) : Int) from rfl, h4]; rfl
      have hR1 := hR 9 (by decide)
      clear h4 hR
      have HR1 := Lib.hid hR1
      clear hR1
      go_wp2_with (fail)
      with_reducible refine (HR1.out _).mono ?_
      rintro e w2 ⟨rfl, hb2⟩
      have hg2 := grownBy_below (grownBy_alloc Hg1.out (.cells #[.string ⟨#[32]⟩, .string ⟨#[9]⟩, .string ⟨#[10]⟩, .string ⟨#[13]⟩] 9)) hb2
      have hc2 := (HC1.out.alloc (.cells #[.string ⟨#[32]⟩, .string ⟨#[9]⟩, .string ⟨#[10]⟩, .string ⟨#[13]⟩] 9)).below hb2 (by simp; omega)
      have Hg2 := Lib.hid hg2
      have Hc2 := Lib.hid hc2
      clear hg2 hc2
      clear hb2
      go_wp2
      go_ret
      exact ⟨_, c + 1, rfl, blanks_rep (c := 9) (by decide) _, by show (List.replicate (X / 4 % 3) _).length ≤ 2; rw [List.length_replicate]; omega, by omega, Nat.le_refl _, Hg2.out, Hc2.out⟩
    · have t1 : Int.tmod (X : Int) 4 = 2 := by rw [show Int.tmod (X : Int) 4 = ((X % 4 : Nat) : Int) from rfl, h4]; rfl
      have hR1 := hR 10 (by decide)
      clear h4 hR
      have HR1 := Lib.hid hR1
      clear hR1
      go_wp2_with (fail)
      with_reducible refine (HR1.out _).mono ?_
      rintro e w2 ⟨rfl, hb2⟩
      have hg2 := grownBy_below (grownBy_alloc Hg1.out (.cells #[.string ⟨#[32]⟩, .string ⟨#[9]⟩, .string ⟨#[10]⟩, .string ⟨#[13]⟩] 9)) hb2
      have hc2 := (HC1.out.alloc (.cells #[.string ⟨#[32]⟩, .string ⟨#[9]⟩, .string ⟨#[10]⟩, .string ⟨#[13]⟩] 9)).below hb2 (by simp; omega)
      have Hg2 := Lib.hid hg2
      have Hc2 := Lib.hid hc2
      clear hg2 hc2
      clear hb2
      go_wp2
      go_ret
      exact ⟨_, c + 1, rfl, blanks_rep (c := 10) (by decide) _, by show (List.replicate (X / 4 % 3) _).length ≤ 2; rw [List.length_replicate]; omega, by omega, Nat.le_refl _, Hg2.out, Hc2.out⟩
    · have t1 : Int.tmod (X : Int) 4 = 3 := by rw [show Int.tmod (X : Int) 4 = ((X % 4 : Nat) : Int) from rfl, h4]; rfl
      have hR1 := hR 13 (by decide)
      clear h4 hR
      have HR1 := Lib.hid hR1
      clear hR1
      go_wp2_with (fail)
      with_reducible refine (HR1.out _).mono ?_
      rintro e w2 ⟨rfl, hb2⟩
      have hg2 := grownBy_below (grownBy_alloc Hg1.out (.cells #[.string ⟨#[32]⟩, .string ⟨#[9]⟩, .string ⟨#[10]⟩, .string ⟨#[13]⟩] 9)) hb2
      have hc2 := (HC1.out.alloc (.cells #[.string ⟨#[32]⟩, .string ⟨#[9]⟩, .string ⟨#[10]⟩, .string ⟨#[13]⟩] 9)).below hb2 (by simp; omega)
      have Hg2 := Lib.hid hg2
      have Hc2 := Lib.hid hc2
      clear hg2 hc2
      clear hb2
      go_wp2
      go_ret
      exact ⟨_, c + 1, rfl, blanks_rep (c := 13) (by decide) _, by show (List.replicate (X / 4 % 3) _).length ≤ 2; rw [List.length_replicate]; omega, by omega, Nat.le_refl _, Hg2.out, Hc2.out⟩
end Go.Proofs.YtgjiienipeoajaaGreatDoor

/- Members in any order: their object's text, read, or the first key that comes twice. Plain. No condition. -/
namespace Go.Proofs.YtgjiienipeoajaaGreatDoor
open Go.RowKit

/-- A member that may be in an object at once below the top. -/
def okM (m : ByteArray × Val) : Prop := validB m.1 = true ∧ mayV m.2 2 = 0 ∧ inV m.2
theorem may_one (m : ByteArray × Val) : mayV (.mk 6 false 0 ⟨#[]⟩ [] [m]) 1 = 0 ↔ validB m.1 = true ∧ mayV m.2 2 = 0 := by
  obtain ⟨k, v⟩ := m
  have h1 : oddB 6 false 0 ⟨#[]⟩ 0 1 = false := by decide +kernel
  have h2 : validB ⟨#[]⟩ = true := by decide +kernel
  simp only [mayV, List.length_nil, List.length_cons, Nat.zero_add, h1, h2, mayL, mayO, mayP, if_true]
  by_cases hv : validB k = true
  · simp [hv]
    by_cases h0 : mayV v 2 = 0
    · simp [h0]
    · simp [h0]
  · simp [hv]
theorem okM.good {m : ByteArray × Val} (h : okM m) : (memOf m).good 2 := ⟨blanks_nil, blanks_nil, h.1, read_text m.2 2 h.2.1 h.2.2⟩
theorem joinC_cons (t : List UInt8) (r : List (List UInt8)) : joinC (t :: r) = if r = [] then t else t ++ 44 :: joinC r := by
  cases r <;> simp [joinC]
theorem joinC_snoc : ∀ (a : List (List UInt8)) (x : List UInt8), joinC (a ++ [x]) = if a = [] then x else joinC a ++ 44 :: x
  | [], x => rfl
  | [t], x => rfl
  | t :: u :: r, x => by
    have ih := joinC_snoc (u :: r) x
    simp only [List.cons_append, joinC_cons, reduceCtorEq, if_false] at ih ⊢
    rw [ih]
    simp
theorem joinC_app {a b : List (List UInt8)} (ha : a ≠ []) (hb : b ≠ []) : joinC (a ++ b) = joinC a ++ 44 :: joinC b := by
  induction a with
  | nil => exact absurd rfl ha
  | cons t r ih =>
    cases r with
    | nil => rw [List.cons_append, List.nil_append, joinC_cons, if_neg hb]; rfl
    | cons u r =>
      rw [List.cons_append, joinC_cons, if_neg (by simp), ih (by simp), joinC_cons t, if_neg (by simp)]
      simp
/-- The text so far; with a comma, where one stands. -/
def SL (l : List (ByteArray × Val)) (i : Nat) : List UInt8 := 123 :: joinC ((l.take i).map textP)
def SC (l : List (ByteArray × Val)) (i : Nat) : List UInt8 := if i = 0 then [123] else SL l i ++ [44]
theorem SL_zero (l : List (ByteArray × Val)) : SL l 0 = [123] := rfl
theorem SL_step {l : List (ByteArray × Val)} {i : Nat} {m : ByteArray × Val} (h : l[i]? = some m) : SL l (i + 1) = SC l i ++ textP m := by
  have hlt := (List.getElem?_eq_some_iff.1 h).1
  unfold SC SL
  rw [List.take_add_one, h, Option.toList_some, List.map_append, List.map_cons, List.map_nil, joinC_snoc]
  by_cases h0 : i = 0
  · subst h0; simp
  · rw [if_neg h0, if_neg (fun e => by
      have := congrArg List.length e
      rw [List.length_map, List.length_take, List.length_nil] at this
      omega)]
    simp
/-- What is known of a key that comes twice. -/
def TW (l : List (ByteArray × Val)) (i : Nat) (t : Int) : Prop := (t = -1 ∧ ((l.take i).map (·.1)).Nodup) ∨ ∃ k m, k < i ∧ l[k]? = some m ∧ ((l.take k).map (·.1)).Nodup ∧ hasK m.1 (l.take k) = true ∧ t = ((SC l k).length : Nat)
theorem TW.zero (l : List (ByteArray × Val)) : TW l 0 (-1) := .inl ⟨rfl, List.nodup_nil⟩
theorem TW.hit {l : List (ByteArray × Val)} {i : Nat} {m : ByteArray × Val} (h : TW l i (-1)) (hm : l[i]? = some m) (hk : hasK m.1 (l.take i) = true) : TW l (i + 1) ((SC l i).length : Nat) := by
  rcases h with ⟨_, hn⟩ | ⟨k, m', _, _, _, _, e⟩
  · exact .inr ⟨i, m, by omega, hm, hn, hk, rfl⟩
  · omega
theorem TW.miss {l : List (ByteArray × Val)} {i : Nat} {m : ByteArray × Val} (h : TW l i (-1)) (hm : l[i]? = some m) (hk : hasK m.1 (l.take i) = false) : TW l (i + 1) (-1) := by
  rcases h with ⟨_, hn⟩ | ⟨k, m', _, _, _, _, e⟩
  · refine .inl ⟨rfl, ?_⟩
    rw [List.take_add_one, hm, Option.toList_some]
    obtain ⟨k, v⟩ := m
    exact nodup_snoc hn hk
  · omega
theorem TW.stay {l : List (ByteArray × Val)} {i : Nat} {t : Int} (h : TW l i t) (ht : 0 ≤ t) : TW l (i + 1) t := by
  rcases h with ⟨e, _⟩ | ⟨k, m', h1, h2, h3, h4, h5⟩
  · omega
  · exact .inr ⟨k, m', by omega, h2, h3, h4, h5⟩
theorem TW.neg {l : List (ByteArray × Val)} {i : Nat} {t : Int} (h : TW l i t) (ht : t < 0) : t = -1 := by
  rcases h with ⟨e, _⟩ | ⟨k, m', h1, h2, h3, h4, h5⟩ <;> omega
theorem hasK_take {l : List (ByteArray × Val)} {j : Nat} {m : ByteArray × Val} (h : l[j]? = some m) (k : ByteArray) : hasK k (l.take (j + 1)) = (hasK k (l.take j) || decide (m.1 = k)) := by
  unfold hasK
  rw [List.take_add_one, h, Option.toList_some, List.any_append]
  simp
theorem hasK_mono {l : List (ByteArray × Val)} {j i : Nat} (h : j ≤ i) {k : ByteArray} (hk : hasK k (l.take j) = true) : hasK k (l.take i) = true := by
  unfold hasK at hk ⊢
  rw [List.any_eq_true] at hk ⊢
  obtain ⟨x, hx, e⟩ := hk
  refine ⟨x, ?_, e⟩
  have : l.take j = (l.take i).take j := by rw [List.take_take, Nat.min_eq_left h]
  rw [this] at hx
  exact List.mem_of_mem_take hx
theorem order_ok {l : List (ByteArray × Val)} (hl : ∀ m ∈ l, okM m) (hn : (l.map (·.1)).Nodup) : parseL (SL l l.length ++ [125]) = .ok (objV (sortO l)) ((SL l l.length).length + 1) := by
  have hr := read_obj (d := 1) (by omega) (l := l.map memOf) (by
    intro m hm
    obtain ⟨x, hx, rfl⟩ := List.mem_map.1 hm
    exact (hl x hx).good) (by rw [memOf_pair]; exact hn) (g := []) blanks_nil (fun _ => rfl)
  rw [memOf_pair, memOf_texts, List.nil_append] at hr
  have hp := parse_reads hr
  unfold SL
  rw [List.take_length]
  rw [show 123 :: joinC (l.map textP) ++ [125] = 123 :: (joinC (l.map textP) ++ [125]) from rfl, hp]
  simp
theorem order_twice {l : List (ByteArray × Val)} (hl : ∀ m ∈ l, okM m) {k : Nat} {m : ByteArray × Val} (hm : l[k]? = some m) (hn : ((l.take k).map (·.1)).Nodup) (hk : hasK m.1 (l.take k) = true) : parseL (SL l l.length ++ [125]) = .bad 8 (SC l k).length := by
  have hlt := (List.getElem?_eq_some_iff.1 hm).1
  have hmem : m ∈ l := List.mem_of_getElem? hm
  obtain ⟨s, hs⟩ : ∃ s, SL l l.length ++ [125] = s := ⟨_, rfl⟩
  obtain ⟨x, hx, hxs⟩ : ∃ x, s.drop 1 = joinC (((l.take k).map memOf ++ [memOf m]).map Mem.text) ++ x ∧ StopD x := by
    have e1 : ((l.take k).map memOf ++ [memOf m]).map Mem.text = (l.take (k + 1)).map textP := by
      rw [List.map_append, memOf_texts, List.take_add_one, hm, Option.toList_some, List.map_append]
      simp [memOf_text]
    rw [e1, ← hs]
    unfold SL
    rw [List.take_length]
    by_cases hr : l.drop (k + 1) = []
    · refine ⟨[125], ?_, StopD.of (by decide)⟩
      have : l.take (k + 1) = l := List.take_of_length_le (by simpa using hr)
      rw [this]
      rfl
    · refine ⟨44 :: (joinC ((l.drop (k + 1)).map textP) ++ [125]), ?_, StopD.of (by decide)⟩
      have e2 : joinC (l.map textP) = joinC ((l.take (k + 1)).map textP) ++ 44 :: joinC ((l.drop (k + 1)).map textP) := by
        rw [← joinC_app (by simp; intro e; rw [e] at hlt; simp at hlt) (by simpa using hr), ← List.map_append, List.take_append_drop]
      rw [e2]
      simp
  have hlen : s.length = (SL l l.length).length + 1 := by rw [← hs]; simp
  have h0 : s[0]? = some 123 := by rw [← hs]; rfl
  have hfirst : ¬(s[past s (0 + 1)]? = some 125) := by
    have : s[past s (0 + 1)]? = some 34 := by
      cases htk : (l.take k).map memOf with
      | nil =>
        rw [htk] at hx
        exact mem_first (d := 2) (hl m hmem).good (x := x) (by simpa [joinC] using hx)
      | cons a r =>
        rw [htk] at hx
        have ha : a.good 2 := by
          have : a ∈ (l.take k).map memOf := by rw [htk]; exact List.mem_cons_self
          obtain ⟨y, hy, rfl⟩ := List.mem_map.1 this
          exact (hl y (List.mem_of_mem_take hy)).good
        obtain ⟨z, hz⟩ := joinC_ne (y := a.text) (r := (r ++ [memOf m]).map Mem.text)
        refine mem_first (d := 2) ha (x := z ++ x) ?_
        rw [hx, List.cons_append, List.map_cons, hz, List.append_assoc]
    rw [this]; decide
  have hp1 : 1 ≤ s.length := by omega
  have ht := members_twice (d := 1) ((l.take k).map memOf) (memOf m) (by
    intro y hy
    obtain ⟨z, hz, rfl⟩ := List.mem_map.1 hy
    exact (hl z (List.mem_of_mem_take hz)).good) (hl m hmem).good (4 * s.length + 2) s x 1 [] (by rw [List.nil_append, memOf_pair]; exact hn) (by rw [List.nil_append, memOf_pair]; exact hk) hxs hp1 hx (by omega)
  have e1 : ((l.take k).map memOf ++ [memOf m]).map Mem.text = (l.take (k + 1)).map textP := by
    rw [List.map_append, memOf_texts, List.take_add_one, hm, Option.toList_some, List.map_append]
    simp [memOf_text]
  have e3 : 1 + (joinC ((l.take (k + 1)).map textP)).length = (SC l k).length + (textP m).length := by
    have := congrArg List.length (SL_step hm)
    unfold SL at this
    simp only [List.length_cons, List.length_append] at this
    omega
  rw [e1, memOf_text] at ht
  rw [hs]
  unfold parseL
  have hv : valueF (4 * s.length + 4) s 0 1 = .bad 8 (SC l k).length := by
    rw [obj_step (f := 4 * s.length + 2) (by omega) h0 hfirst, ht]
    congr 1
    show 1 + (joinC ((l.take (k + 1)).map textP)).length - (textP m).length + ([] : List UInt8).length = _
    simp only [List.length_nil]
    omega
  rw [hv]
end Go.Proofs.YtgjiienipeoajaaGreatDoor
