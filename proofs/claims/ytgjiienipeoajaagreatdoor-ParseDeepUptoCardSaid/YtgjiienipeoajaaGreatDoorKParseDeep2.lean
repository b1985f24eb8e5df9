/- Parts, joined: commonplaceref02.Deep, Size: how deep a value is, and how many values. Condition: a bulk of at most 10^8. So many lists within one another: their text, read. Plain. No condition. -/
import Derived.Test.YtgjiienipeoajaaGreatDoorProg
import Derived.IntWalk
import Derived.Lib.Repeat
import Derived.Test.YtgjiienipeoajaaGreatDoorKPrs5
import Derived.Test.YtgjiienipeoajaaGreatDoorKPrs34
/- commonplaceref02.Deep, Size: how deep a value is, and how many values. Condition: a bulk of at most 10^8. -/
namespace Go.Proofs.YtgjiienipeoajaaGreatDoor
open Go.RowKit

mutual
/-- How deep a value is. -/
def deepV : Val → Nat
  | .mk k _ _ _ l o => 1 + (if k = 5 then deepL l else if k = 6 then deepO o else 0)
def deepL : List Val → Nat
  | [] => 0
  | v :: r => max (deepV v) (deepL r)
def deepO : List (ByteArray × Val) → Nat
  | [] => 0
  | p :: r => max (deepP p) (deepO r)
def deepP : ByteArray × Val → Nat
  | (_, v) => deepV v
end

theorem deepL_le : ∀ (l : List Val), (∀ v ∈ l, deepV v ≤ v.bulk) → deepL l ≤ bulkL l
  | [], _ => by simp [deepL]
  | v :: r, h => by
    have h1 := h v (by simp)
    have h2 := deepL_le r (fun x hx => h x (by simp [hx]))
    simp only [deepL, bulkL]
    omega
theorem deepO_le : ∀ (l : List (ByteArray × Val)), (∀ m ∈ l, deepV m.2 ≤ m.2.bulk) → deepO l ≤ bulkO l
  | [], _ => by simp [deepO]
  | (k, v) :: r, h => by
    have h1 := h (k, v) (by simp)
    have h2 := deepO_le r (fun x hx => h x (by simp [hx]))
    simp only [deepO, deepP, bulkO, bulkP]
    simp only at h1
    omega
theorem deepV_le : ∀ v : Val, deepV v ≤ v.bulk := by
  refine Val.ind ?_
  intro k b n t l o hl ho
  have h1 := deepL_le l hl
  have h2 := deepO_le o ho
  simp only [deepV, Val.bulk]
  split
  · omega
  split <;> omega

mutual
/-- How siz a value is. -/
def sizV : Val → Nat
  | .mk k _ _ _ l o => 1 + (if k = 5 then sizL l else if k = 6 then sizO o else 0)
def sizL : List Val → Nat
  | [] => 0
  | v :: r => sizV v + sizL r
def sizO : List (ByteArray × Val) → Nat
  | [] => 0
  | p :: r => sizP p + sizO r
def sizP : ByteArray × Val → Nat
  | (_, v) => sizV v
end

theorem sizL_le : ∀ (l : List Val), (∀ v ∈ l, sizV v ≤ v.bulk) → sizL l ≤ bulkL l
  | [], _ => by simp [sizL]
  | v :: r, h => by
    have h1 := h v (by simp)
    have h2 := sizL_le r (fun x hx => h x (by simp [hx]))
    simp only [sizL, bulkL]
    omega
theorem sizO_le : ∀ (l : List (ByteArray × Val)), (∀ m ∈ l, sizV m.2 ≤ m.2.bulk) → sizO l ≤ bulkO l
  | [], _ => by simp [sizO]
  | (k, v) :: r, h => by
    have h1 := h (k, v) (by simp)
    have h2 := sizO_le r (fun x hx => h x (by simp [hx]))
    simp only [sizO, sizP, bulkO, bulkP]
    simp only at h1
    omega
theorem sizV_le : ∀ v : Val, sizV v ≤ v.bulk := by
  refine Val.ind ?_
  intro k b n t l o hl ho
  have h1 := sizL_le l hl
  have h2 := sizO_le o ho
  simp only [sizV, Val.bulk]
  split
  · omega
  split <;> omega

theorem RWithin_calls (v : Val) (cs : List Value) (w : World) (hV : HoldsV w w.heap.size v cs) (hb : v.bulk ≤ 100000000) :
    Calls Tryz.prog 51 #[.agg cs.toArray] w (WithinPost w v) := by
  obtain ⟨k, b, n, t, l, o⟩ := v
  simp only [HoldsV] at hV
  obtain ⟨la, lc, oa, oc, rfl, hla, hoa⟩ := hV
  simp only [Val.bulk] at hb
  by_cases h5 : k = 5
  · subst h5
    exact within_list b n t l o la oa oc lc w hla (by omega)
  by_cases h6 : k = 6
  · subst h6
    exact within_obj b n t l o la oa oc lc w hoa (by omega)
  have hw : within (.mk k b n t l o) = [] := by simp [within, h5, h6]
  have Hw := Lib.hid hw
  have e5 : (k == 5) = false := by simpa using h5
  have e6 : (k == 6) = false := by simpa using h6
  clear hw hla hoa hb h5 h6
  go_enter Tryz.func51, Tryz.ntmps51
  go_wp2
  go_ret
  exact ⟨⟨none, 0, by rw [Hw.out]; rfl, .inl Hw.out⟩, (Below.refl _ _).alloc (Nat.le_refl _) _⟩

theorem deepO_map : ∀ o : List (ByteArray × Val), deepO o = deepL (o.map (·.2))
  | [] => rfl
  | (k, v) :: r => by simp only [deepO, deepP, List.map_cons, deepL, deepO_map r]
theorem deepV_within (v : Val) : deepV v = 1 + deepL (within v) := by
  obtain ⟨k, b, n, t, l, o⟩ := v
  simp only [deepV, within]
  by_cases h5 : k = 5
  · simp [h5]
  by_cases h6 : k = 6
  · simp [h6, deepO_map]
  · simp [h5, h6, deepL]
theorem bulkO_map : ∀ o : List (ByteArray × Val), bulkL (o.map (·.2)) ≤ bulkO o
  | [] => by simp [bulkL]
  | (k, v) :: r => by
    have := bulkO_map r
    simp only [List.map_cons, bulkL, bulkO, bulkP]
    omega
theorem within_bulk (v : Val) : bulkL (within v) ≤ v.bulk := by
  obtain ⟨k, b, n, t, l, o⟩ := v
  have := bulkO_map o
  simp only [within, Val.bulk]
  split
  · omega
  split
  · omega
  · simp [bulkL]

theorem sizO_map : ∀ o : List (ByteArray × Val), sizO o = sizL (o.map (·.2))
  | [] => rfl
  | (k, v) :: r => by simp only [sizO, sizP, List.map_cons, sizL, sizO_map r]
theorem sizV_within (v : Val) : sizV v = 1 + sizL (within v) := by
  obtain ⟨k, b, n, t, l, o⟩ := v
  simp only [sizV, within]
  by_cases h5 : k = 5
  · simp [h5]
  by_cases h6 : k = 6
  · simp [h6, sizO_map]
  · simp [h5, h6, sizL]
/-- What the reference's Deep does with a value. -/
def RDeepC (v : Val) : Prop := ∀ (cs : List Value) (w : World), HoldsV w w.heap.size v cs → v.bulk ≤ 100000000 →
    Calls Tryz.prog 25 #[.agg cs.toArray] w fun e w' => e = .returned (.int .i64 (deepV v)) ∧ Below w.heap.size w w'

set_option maxRecDepth 100000 in
set_option maxHeartbeats 2000000 in
theorem rdeep_step (v : Val) (IH : ∀ x ∈ within v, RDeepC x) : RDeepC v := by
  intro cs w hV hb
  have hV' := hV
  have hbw := within_bulk v
  have hlw := bulkL_len (within v)
  have hdw := deepL_le (within v) (fun x _ => deepV_le x)
  have hW0 := fun w' (h : Below w.heap.size w w') => RWithin_calls v cs w' (HoldsV.more h.size _ _ (hV.below h)) hb
  rw [deepV_within]
  unfold WithinPost at hW0
  generalize within v = L at *
  obtain ⟨k, b, n, t, l, o⟩ := v
  simp only [HoldsV] at hV'
  obtain ⟨la, lc, oa, oc, rfl, _, _⟩ := hV'
  have HI := Lib.hid IH
  have HW := Lib.hid hW0
  obtain ⟨M, hM⟩ : ∃ M, deepL L = M := ⟨_, rfl⟩
  rw [hM] at hdw ⊢
  have H0 : Hid (max 0 (deepL (L.drop 0)) = M) := by show _ = _; rw [List.drop_zero, hM]; simp
  have HB1 : Hid (Below w.heap.size w (w.alloc (.cells (cells6 k b n t la l.length lc oa o.length oc).toArray 26))) := (Below.refl _ _).alloc (Nat.le_refl _) _
  clear IH hW0 hM hV
  go_enter Tryz.func25, Tryz.ntmps25
  go_wp2_with (fail)
  with_reducible refine (HW.out _ HB1.out).mono ?_
  rintro e w2 ⟨⟨la', lc', rfl, hsl⟩, hb2⟩
  have Hsl := Lib.hid hsl
  have HB2 := Lib.hid (HB1.out.trans (hb2.mono HB1.out.size))
  clear hsl hb2 HB1 HW
  go_wp2_with (fail)
  have HBr : Hid (Below w2.heap.size w2 w2) := Below.refl _ _
  go_loopw [3, 5] (fun m i wr => ∃ D k : Nat, m = .int .i64 D ∧ i = .int .i64 k ∧ k ≤ L.length ∧ Hid (max D (deepL (L.drop k)) = M) ∧ D ≤ M ∧ Hid (Below w2.heap.size w2 wr)) (fun _ i _ => L.length - (intOf i).toNat)
  case atStart => exact ⟨0, 0, rfl, rfl, Nat.zero_le _, H0, Nat.zero_le _, HBr⟩
  case round =>
    obtain ⟨D, k, rfl, rfl, hk, hD, hDM, hbw⟩ := hrel
    clear H0 HBr
    by_cases hlt : k < L.length
    · obtain ⟨g, off, rfl, hg, hL⟩ : ∃ g off, la' = some ⟨g, off, none⟩ ∧ g < w2.heap.size ∧ HoldsL w2 w2.heap.size L g off := by
        rcases Hsl.out with h | h
        · rw [h] at hlt; simp at hlt
        · exact h
      obtain ⟨x, hx⟩ : ∃ v, L[k]? = some v := ⟨_, List.getElem?_eq_getElem hlt⟩
      have hmem : x ∈ L := List.mem_of_getElem? hx
      have hbv := bulkL_mem hmem
      have hdv := deepV_le x
      have hdrop : L.drop k = x :: L.drop (k + 1) := drop_of_get hx
      have hD' := hD.out
      rw [hdrop] at hD'
      simp only [deepL] at hD'
      have IHx := HI.out x hmem
      have hz := hbw.out.size
      obtain ⟨m, hm⟩ : ∃ m, deepV x = m := ⟨_, rfl⟩
      obtain ⟨k', b', n', t', l', o'⟩ := x
      obtain ⟨la', lc', oa', oc', hvs, c0, c1, c2, c3, c4, c5⟩ := (hL.below hg hbw.out).six hx
      have CT := IHx _ wr (HoldsV.more hz _ _ hvs) (by omega)
      rw [hm] at CT hD' hdv
      have hCT := Lib.hid CT
      have Hn : Hid (max (max D m) (deepL (L.drop (k + 1))) = M) := by show _ = _; omega
      have hmM : max D m ≤ M := by omega
      clear CT hD hD' hdrop IHx hm hvs hx hmem hL hg hdv hbv
      by_cases hgt : D < m
      · have e1 : max D m = m := by omega
        rw [e1] at Hn hmM
        clear e1
        go_wp2_with (fail)
        with_reducible refine hCT.out.mono ?_
        rintro e w4 ⟨rfl, hb4⟩
        have hbw4 := Lib.hid (hbw.out.trans (hb4.mono hz))
        clear hb4 hbw hCT
        go_wp2
        go_roundw
        case rel => exact ⟨m, k + 1, rfl, by go_num, by omega, Hn, hmM, hbw4⟩
        case measure => simp only [intOf]; omega
      · have e1 : max D m = D := by omega
        rw [e1] at Hn hmM
        clear e1
        go_wp2_with (fail)
        with_reducible refine hCT.out.mono ?_
        rintro e w4 ⟨rfl, hb4⟩
        have hbw4 := Lib.hid (hbw.out.trans (hb4.mono hz))
        clear hb4 hbw hCT
        go_wp2
        go_roundw
        case rel => exact ⟨D, k + 1, rfl, by go_num, by omega, Hn, hmM, hbw4⟩
        case measure => simp only [intOf]; omega
    · obtain rfl : k = L.length := by omega
      have hD' := hD.out
      rw [List.drop_length] at hD'
      simp only [deepL] at hD'
      obtain rfl : D = M := by omega
      have hc : (D : Int) + 1 = ((1 + D : Nat) : Int) := by omega
      have Hc := Lib.hid hc
      clear hD hD' hc
      go_wp2
      go_ret
      exact ⟨by rw [← Hc.out]; rfl, HB2.out.trans (hbw.out.mono HB2.out.size)⟩

theorem rdeep_calls : ∀ v, RDeepC v := by
  refine Val.ind ?_
  intro k b n t l o IHl IHo
  refine rdeep_step _ (fun x hx => ?_)
  simp only [within] at hx
  split at hx
  · exact IHl x hx
  split at hx
  · obtain ⟨m, hm, rfl⟩ := List.mem_map.1 hx
    exact IHo m hm
  · cases hx

/-- What the reference's Size does with a value. -/
def RSizeC (v : Val) : Prop := ∀ (cs : List Value) (w : World), HoldsV w w.heap.size v cs → v.bulk ≤ 100000000 →
    Calls Tryz.prog 26 #[.agg cs.toArray] w fun e w' => e = .returned (.int .i64 (sizV v)) ∧ Below w.heap.size w w'

set_option maxRecDepth 100000 in
set_option maxHeartbeats 2000000 in
theorem rsize_step (v : Val) (IH : ∀ x ∈ within v, RSizeC x) : RSizeC v := by
  intro cs w hV hb
  have hV' := hV
  have hbw := within_bulk v
  have hlw := bulkL_len (within v)
  have hdw := sizL_le (within v) (fun x _ => sizV_le x)
  have hW0 := fun w' (h : Below w.heap.size w w') => RWithin_calls v cs w' (HoldsV.more h.size _ _ (hV.below h)) hb
  rw [sizV_within]
  unfold WithinPost at hW0
  generalize within v = L at *
  obtain ⟨k, b, n, t, l, o⟩ := v
  simp only [HoldsV] at hV'
  obtain ⟨la, lc, oa, oc, rfl, _, _⟩ := hV'
  have HI := Lib.hid IH
  have HW := Lib.hid hW0
  obtain ⟨M, hM⟩ : ∃ M, 1 + sizL L = M := ⟨_, rfl⟩
  have hMb : M ≤ 100000001 := by omega
  have hret : (1 : Int) + (sizL L : Int) = (M : Int) := by omega
  have H0 : Hid (1 + sizL (L.drop 0) = M) := by show _ = _; rw [List.drop_zero, hM]
  have h1M : 1 ≤ M := by omega
  have HB1 : Hid (Below w.heap.size w (w.alloc (.cells (cells6 k b n t la l.length lc oa o.length oc).toArray 26))) := (Below.refl _ _).alloc (Nat.le_refl _) _
  rw [show ((1 + sizL L : Nat) : Int) = (M : Int) by omega]
  clear IH hW0 hM hV hret
  go_enter Tryz.func26, Tryz.ntmps26
  go_wp2_with (fail)
  with_reducible refine (HW.out _ HB1.out).mono ?_
  rintro e w2 ⟨⟨la', lc', rfl, hsl⟩, hb2⟩
  have Hsl := Lib.hid hsl
  have HB2 := Lib.hid (HB1.out.trans (hb2.mono HB1.out.size))
  clear hsl hb2 HB1 HW
  go_wp2_with (fail)
  have HBr : Hid (Below w2.heap.size w2 w2) := Below.refl _ _
  go_loopw [3, 5] (fun m i wr => ∃ D k : Nat, m = .int .i64 D ∧ i = .int .i64 k ∧ k ≤ L.length ∧ Hid (D + sizL (L.drop k) = M) ∧ D ≤ M ∧ Hid (Below w2.heap.size w2 wr)) (fun _ i _ => L.length - (intOf i).toNat)
  case atStart => exact ⟨1, 0, rfl, rfl, Nat.zero_le _, H0, h1M, HBr⟩
  case round =>
    obtain ⟨D, k, rfl, rfl, hk, hD, hDM, hbw⟩ := hrel
    clear H0 HBr
    by_cases hlt : k < L.length
    · obtain ⟨g, off, rfl, hg, hL⟩ : ∃ g off, la' = some ⟨g, off, none⟩ ∧ g < w2.heap.size ∧ HoldsL w2 w2.heap.size L g off := by
        rcases Hsl.out with h | h
        · rw [h] at hlt; simp at hlt
        · exact h
      obtain ⟨x, hx⟩ : ∃ v, L[k]? = some v := ⟨_, List.getElem?_eq_getElem hlt⟩
      have hmem : x ∈ L := List.mem_of_getElem? hx
      have hbv := bulkL_mem hmem
      have hdv := sizV_le x
      have hdrop : L.drop k = x :: L.drop (k + 1) := drop_of_get hx
      have hD' := hD.out
      rw [hdrop] at hD'
      simp only [sizL] at hD'
      have IHx := HI.out x hmem
      have hz := hbw.out.size
      obtain ⟨m, hm⟩ : ∃ m, sizV x = m := ⟨_, rfl⟩
      obtain ⟨k', b', n', t', l', o'⟩ := x
      obtain ⟨la', lc', oa', oc', hvs, c0, c1, c2, c3, c4, c5⟩ := (hL.below hg hbw.out).six hx
      have CT := IHx _ wr (HoldsV.more hz _ _ hvs) (by omega)
      rw [hm] at CT hD' hdv
      have hCT := Lib.hid CT
      have Hn : Hid (D + m + sizL (L.drop (k + 1)) = M) := by show _ = _; omega
      have hmM : D + m ≤ M := by omega
      have hwr : IntKind.i64.wrap ((D : Int) + (m : Int)) = (D : Int) + (m : Int) := IntWalk.i64_in _ (by omega)
      clear CT hD hD' hdrop IHx hm hvs hx hmem hL hg hdv hbv
      go_wp2_with (fail)
      with_reducible refine hCT.out.mono ?_
      rintro e w4 ⟨rfl, hb4⟩
      have hbw4 := Lib.hid (hbw.out.trans (hb4.mono hz))
      clear hb4 hbw hCT
      go_wp2
      go_roundw
      case rel => exact ⟨D + m, k + 1, by go_num, by go_num, by omega, Hn, hmM, hbw4⟩
      case measure => simp only [intOf]; omega
    · obtain rfl : k = L.length := by omega
      have hD' := hD.out
      rw [List.drop_length] at hD'
      simp only [sizL] at hD'
      obtain rfl : D = M := by omega
      clear hD hD'
      go_wp2
      go_ret
      exact ⟨rfl, HB2.out.trans (hbw.out.mono HB2.out.size)⟩

theorem rsize_calls : ∀ v, RSizeC v := by
  refine Val.ind ?_
  intro k b n t l o IHl IHo
  refine rsize_step _ (fun x hx => ?_)
  simp only [within] at hx
  split at hx
  · exact IHl x hx
  split at hx
  · obtain ⟨m, hm, rfl⟩ := List.mem_map.1 hx
    exact IHo m hm
  · cases hx

end Go.Proofs.YtgjiienipeoajaaGreatDoor

/- So many lists within one another: their text, read. Plain. No condition. -/
namespace Go.Proofs.YtgjiienipeoajaaGreatDoor
open Go.RowKit

/-- n + 1 lists. -/
def nestV : Nat → Val
  | 0 => lstV []
  | n + 1 => lstV [nestV n]
def nestT : Nat → List UInt8
  | 0 => [91, 93]
  | n + 1 => 91 :: (nestT n ++ [93])
theorem nestT_eq : ∀ n, nestT n = List.replicate (n + 1) 91 ++ List.replicate (n + 1) 93
  | 0 => rfl
  | n + 1 => by
    rw [nestT, nestT_eq n, List.append_assoc, ← List.replicate_succ', List.replicate_succ (n := n + 1) (a := (91 : UInt8))]
    rfl
theorem repeat_one (c : UInt8) : ∀ n, Lib.repeatL [c] n = List.replicate n c := by
  intro n
  have := Lib.repeatL_replicate c 1 n
  simpa using this
theorem nest_reads : ∀ (n : Nat) (d : Int), d + n ≤ 64 → ReadsV (nestT n) (nestV n) d
  | 0, d, hd => by
    have := read_list (d := d) (by omega) (l := []) (by simp) (g := []) blanks_nil (fun _ => rfl)
    simpa [nestT, nestV, joinC] using this
  | n + 1, d, hd => by
    have ih := nest_reads n (d + 1) (by omega)
    have := read_list (d := d) (by omega) (l := [(nestT n, nestV n)]) (by simpa using ih) (g := []) blanks_nil (fun _ => rfl)
    simpa [nestT, nestV, joinC] using this
theorem nest_parse {n : Nat} (h : n ≤ 63) : parseL (nestT n) = .ok (nestV n) (nestT n).length := parse_reads (nest_reads n 1 (by omega))
theorem nest_deep : ∀ n, deepV (nestV n) = n + 1
  | 0 => rfl
  | n + 1 => by simp [nestV, lstV, deepV, deepL, nest_deep n]; omega
theorem nest_size : ∀ n, sizV (nestV n) = n + 1
  | 0 => rfl
  | n + 1 => by simp [nestV, lstV, sizV, sizL, nest_size n]; omega
theorem nest_bulk : ∀ n, (nestV n).bulk = 6 * (n + 1)
  | 0 => rfl
  | n + 1 => by simp [nestV, lstV, Val.bulk, bulkL, bulkO, nest_bulk n, emptyB, ByteArray.size]; omega
/-- Too deep a nest. -/
theorem deep_at {n : Nat} (hn : 65 ≤ n) {s : List UInt8} (hs : ∀ i, i < n → s[i]? = some 91) : ∀ (j : Nat), j ≤ 64 → ∀ f, 4 * j + 1 ≤ f → valueF f s (64 - j) ((65 - j : Nat) : Int) = .bad 5 64 := by
  have h91 : isBlank 91 = false := by decide
  have hp : ∀ i, i < n → past s i = i := fun i hi => past_stop (hs i hi) h91
  intro j
  induction j with
  | zero =>
    intro _ f hf
    obtain ⟨f, rfl⟩ : ∃ k, f = k + 1 := ⟨f - 1, by omega⟩
    unfold valueF
    rw [hp _ (by omega), hs _ (by omega)]
    rfl
  | succ j ih =>
    intro hj f hf
    obtain ⟨f, rfl⟩ : ∃ k, f = k + 3 := ⟨f - 3, by omega⟩
    have ih' := ih (by omega) f (by omega)
    unfold valueF
    rw [hp _ (by omega), hs _ (by omega)]
    simp only
    rw [if_neg (by decide), if_neg (by omega), if_pos trivial]
    unfold listF
    rw [show 64 - (j + 1) + 1 = 64 - j by omega, hp _ (by omega), hs _ (by omega), if_neg (by decide)]
    unfold itemsF
    rw [show ((65 - (j + 1) : Nat) : Int) + 1 = ((65 - j : Nat) : Int) by omega, ih']
theorem nest_too {n : Nat} (h : 64 ≤ n) : parseL (nestT n) = .bad 5 64 := by
  have hs : ∀ i, i < n + 1 → (nestT n)[i]? = some 91 := by
    intro i hi
    rw [nestT_eq, List.getElem?_append_left (by simpa using hi), List.getElem?_replicate]
    simp [hi]
  have := deep_at (n := n + 1) (by omega) hs 64 (Nat.le_refl _) (4 * (nestT n).length + 4) (by rw [nestT_eq]; simp; omega)
  unfold parseL
  rw [show valueF (4 * (nestT n).length + 4) (nestT n) 0 1 = .bad 5 64 from this]
end Go.Proofs.YtgjiienipeoajaaGreatDoor
