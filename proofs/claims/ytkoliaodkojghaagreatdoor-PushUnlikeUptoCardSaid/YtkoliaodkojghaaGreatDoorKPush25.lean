/- Parts, joined: Values as data of any make. Plain. No condition. value.Deep: how deep a value is. Condition: a bulk of at most 10^8. -/
import Derived.Test.YtkoliaodkojghaaGreatDoorProg
import Derived.Test.YtkoliaodkojghaaGreatDoorKPush1
import Derived.Test.YtkoliaodkojghaaGreatDoorKPush3
import Derived.Test.YtkoliaodkojghaaGreatDoorKPush7
import Derived.Test.YtkoliaodkojghaaGreatDoorKPush20
/- Values as data of any make. Plain. No condition. -/
namespace Go.Proofs.YtkoliaodkojghaaGreatDoor
open Go.RowKit

mutual
def dV : Val → D
  | .mk k b n t l o => .agg [.leaf (.int .i64 k), .leaf (.bool b), .leaf (.int .i64 n), .leaf (.string t), .row 6 (dL l), .row 7 (dO o)]
def dL : List Val → List D
  | [] => []
  | v :: r => dV v :: dL r
def dO : List (ByteArray × Val) → List D
  | [] => []
  | p :: r => dP p :: dO r
def dP : ByteArray × Val → D
  | (key, v) => .agg [.leaf (.string key), dV v]
end

theorem dL_map : ∀ l, dL l = l.map dV
  | [] => rfl
  | v :: r => by simp [dL, dL_map r]
theorem dO_map : ∀ l, dO l = l.map dP
  | [] => rfl
  | v :: r => by simp [dO, dO_map r]
theorem dV_cells (v : Val) : (dV v).cells = 6 := by
  obtain ⟨k, b, n, t, l, o⟩ := v
  rfl
theorem dP_cells (p : ByteArray × Val) : (dP p).cells = 7 := by
  obtain ⟨k, v⟩ := p
  simp only [dP, D.cells, cellsA, dV_cells]
theorem dL_cells (l : List Val) : ∀ d ∈ dL l, d.cells = 6 := by
  rw [dL_map]
  intro d hd
  obtain ⟨v, _, rfl⟩ := List.mem_map.1 hd
  exact dV_cells v
theorem dO_cells (l : List (ByteArray × Val)) : ∀ d ∈ dO l, d.cells = 7 := by
  rw [dO_map]
  intro d hd
  obtain ⟨v, _, rfl⟩ := List.mem_map.1 hd
  exact dP_cells v
theorem dL_len (l : List Val) : (dL l).length = l.length := by rw [dL_map, List.length_map]
theorem dO_len (l : List (ByteArray × Val)) : (dO l).length = l.length := by rw [dO_map, List.length_map]

theorem HoldsA.six {w : World} {B : Nat} {a b c d : Value} {e f : D} {cs : List Value} :
    HoldsA w B [.leaf a, .leaf b, .leaf c, .leaf d, e, f] cs ↔ ∃ c4 c5, cs = [a, b, c, d] ++ (c4 ++ c5) ∧ a.oneCell' = true ∧ b.oneCell' = true ∧ c.oneCell' = true ∧ d.oneCell' = true ∧ Holds w B e c4 ∧ Holds w B f c5 := by
  constructor
  · rintro ⟨_, _, rfl, ⟨rfl, ha⟩, _, _, rfl, ⟨rfl, hb⟩, _, _, rfl, ⟨rfl, hc⟩, _, _, rfl, ⟨rfl, hd⟩, c4, _, rfl, h4, c5, _, rfl, h5, rfl⟩
    exact ⟨c4, c5, by simp, ha, hb, hc, hd, h4, h5⟩
  · rintro ⟨c4, c5, rfl, ha, hb, hc, hd, h4, h5⟩
    exact ⟨[a], _, rfl, ⟨rfl, ha⟩, [b], _, rfl, ⟨rfl, hb⟩, [c], _, rfl, ⟨rfl, hc⟩, [d], _, rfl, ⟨rfl, hd⟩, c4, _, rfl, h4, c5, [], by simp, h5, rfl⟩

theorem HoldsA.toL {w : World} {B : Nat} {g : Nat} : ∀ {l : List Val}, (∀ v ∈ l, ∀ cs, Holds w B (dV v) cs → HoldsV w B v cs) → ∀ {ns : List Value} {off : Nat}, HoldsA w B (dL l) ns → (∀ j u, ns[j]? = some u → w.cell? ⟨g, off + j, none⟩ = some u) → HoldsL w B l g off
  | [], _, _, _, _, _ => by simp [HoldsL]
  | v :: r, ih, ns, off, h, hc => by
    obtain ⟨c1, c2, rfl, h1, h2⟩ := h
    have hl : c1.length = 6 := h1.len.1.trans (dV_cells v)
    simp only [HoldsL]
    refine ⟨⟨c1, ih v (by simp) c1 h1, fun j u hu => hc j u (by rw [List.getElem?_append_left (List.getElem?_eq_some_iff.1 hu).1]; exact hu)⟩, HoldsA.toL (fun x hx => ih x (by simp [hx])) h2 (fun j u hu => ?_)⟩
    rw [show off + 6 + j = off + (6 + j) from by omega]
    refine hc (6 + j) u ?_
    rw [List.getElem?_append_right (by omega), hl, show 6 + j - 6 = j from by omega]
    exact hu
theorem HoldsA.toO {w : World} {B : Nat} {g : Nat} : ∀ {l : List (ByteArray × Val)}, (∀ m ∈ l, ∀ cs, Holds w B (dV m.2) cs → HoldsV w B m.2 cs) → ∀ {ns : List Value} {off : Nat}, HoldsA w B (dO l) ns → (∀ j u, ns[j]? = some u → w.cell? ⟨g, off + j, none⟩ = some u) → HoldsO w B l g off
  | [], _, _, _, _, _ => by simp [HoldsO]
  | (key, v) :: r, ih, ns, off, h, hc => by
    obtain ⟨c1, c2, rfl, h1, h2⟩ := h
    obtain ⟨_, c3, rfl, ⟨rfl, _⟩, cv, c4, rfl, h3, rfl⟩ := h1
    have hl : cv.length = 6 := h3.len.1.trans (dV_cells v)
    simp only [HoldsO, HoldsP]
    refine ⟨⟨by have := hc 0 (.string key) rfl; simpa using this, cv, ih (key, v) (by simp) cv h3, fun j u hu => ?_⟩, HoldsA.toO (fun x hx => ih x (by simp [hx])) h2 (fun j u hu => ?_)⟩
    · have h5 := (List.getElem?_eq_some_iff.1 hu).1
      rw [show off + 1 + j = off + (j + 1) from by omega]
      refine hc (j + 1) u ?_
      simp only [List.append_nil, List.cons_append, List.nil_append, List.getElem?_cons_succ]
      rw [List.getElem?_append_left h5]; exact hu
    · rw [show off + 7 + j = off + (6 + j + 1) from by omega]
      refine hc (6 + j + 1) u ?_
      simp only [List.append_nil, List.cons_append, List.nil_append, List.getElem?_cons_succ]
      rw [List.getElem?_append_right (by omega), hl, show 6 + j - 6 = j from by omega]
      exact hu
theorem holdsV_of {w : World} {B : Nat} : ∀ (v : Val) cs, Holds w B (dV v) cs → HoldsV w B v cs := by
  refine Val.ind ?_
  intro k b n t l o hl ho cs h
  simp only [dV, Holds] at h
  obtain ⟨c4, c5, rfl, _, _, _, _, ⟨a4, n4, rfl, _, ns4, h4, i4⟩, ⟨a5, n5, rfl, _, ns5, h5, i5⟩⟩ := HoldsA.six.1 h
  simp only [HoldsV]
  refine ⟨a4, n4, a5, n5, by simp [cells6, dL_len, dO_len], ?_, ?_⟩
  · rcases i4 with e | ⟨g, off, e, hg, hc⟩
    · refine .inl ?_
      cases l with
      | nil => rfl
      | cons x r => simp [dL] at e
    · exact .inr ⟨g, off, e, hg, HoldsA.toL hl h4 hc⟩
  · rcases i5 with e | ⟨g, off, e, hg, hc⟩
    · refine .inl ?_
      cases o with
      | nil => rfl
      | cons x r => simp [dO] at e
    · exact .inr ⟨g, off, e, hg, HoldsA.toO ho h5 hc⟩

theorem HoldsA.ofL {w : World} {B : Nat} {g : Nat} : ∀ {l : List Val}, (∀ v ∈ l, ∀ cs, HoldsV w B v cs → Holds w B (dV v) cs) → ∀ {off : Nat}, HoldsL w B l g off → ∃ ns, HoldsA w B (dL l) ns ∧ ∀ j u, ns[j]? = some u → w.cell? ⟨g, off + j, none⟩ = some u
  | [], _, _, _ => ⟨[], rfl, fun j u h => by simp at h⟩
  | v :: r, ih, off, h => by
    simp only [HoldsL] at h
    obtain ⟨⟨cs, h1, hc⟩, h2⟩ := h
    have h1' := ih v (by simp) cs h1
    have hl : cs.length = 6 := h1'.len.1.trans (dV_cells v)
    obtain ⟨ns, h3, h4⟩ := HoldsA.ofL (fun x hx => ih x (by simp [hx])) h2
    refine ⟨cs ++ ns, ⟨cs, ns, rfl, h1', h3⟩, fun j u hu => ?_⟩
    by_cases hj : j < 6
    · rw [List.getElem?_append_left (by omega)] at hu
      exact hc j u hu
    · rw [List.getElem?_append_right (by omega), hl] at hu
      have := h4 (j - 6) u hu
      rwa [show off + 6 + (j - 6) = off + j from by omega] at this
theorem HoldsA.ofO {w : World} {B : Nat} {g : Nat} : ∀ {l : List (ByteArray × Val)}, (∀ m ∈ l, ∀ cs, HoldsV w B m.2 cs → Holds w B (dV m.2) cs) → ∀ {off : Nat}, HoldsO w B l g off → ∃ ns, HoldsA w B (dO l) ns ∧ ∀ j u, ns[j]? = some u → w.cell? ⟨g, off + j, none⟩ = some u
  | [], _, _, _ => ⟨[], rfl, fun j u h => by simp at h⟩
  | (key, v) :: r, ih, off, h => by
    simp only [HoldsO, HoldsP] at h
    obtain ⟨⟨h0, cs, h1, hc⟩, h2⟩ := h
    have h1' := ih (key, v) (by simp) cs h1
    have hl : cs.length = 6 := h1'.len.1.trans (dV_cells v)
    obtain ⟨ns, h3, h4⟩ := HoldsA.ofO (fun x hx => ih x (by simp [hx])) h2
    refine ⟨(.string key :: cs) ++ ns, ⟨.string key :: cs, ns, rfl, ⟨[.string key], cs, rfl, ⟨rfl, rfl⟩, cs, [], by simp, h1', rfl⟩, h3⟩, fun j u hu => ?_⟩
    match j, hu with
    | 0, hu =>
      simp at hu
      subst hu
      exact h0
    | j + 1, hu =>
      simp only [List.cons_append, List.getElem?_cons_succ] at hu
      by_cases hj : j < 6
      · rw [List.getElem?_append_left (by omega)] at hu
        have := hc j u hu
        rwa [show off + 1 + j = off + (j + 1) from by omega] at this
      · rw [List.getElem?_append_right (by omega), hl] at hu
        have := h4 (j - 6) u hu
        rwa [show off + 7 + (j - 6) = off + (j + 1) from by omega] at this
theorem holds_of_V {w : World} {B : Nat} : ∀ (v : Val) cs, HoldsV w B v cs → Holds w B (dV v) cs := by
  refine Val.ind ?_
  intro k b n t l o hl ho cs h
  simp only [HoldsV] at h
  obtain ⟨la, lc, oa, oc, rfl, h1, h2⟩ := h
  simp only [dV, Holds]
  refine HoldsA.six.2 ⟨[.slice la l.length lc], [.slice oa o.length oc], rfl, rfl, rfl, rfl, rfl, ?_, ?_⟩
  · rcases h1 with rfl | ⟨g, off, e, hg, h1⟩
    · exact ⟨la, lc, rfl, dL_cells _, [], rfl, .inl rfl⟩
    · obtain ⟨ns, h3, h4⟩ := HoldsA.ofL hl h1
      exact ⟨la, lc, by rw [dL_len], dL_cells _, ns, h3, .inr ⟨g, off, e, hg, h4⟩⟩
  · rcases h2 with rfl | ⟨g, off, e, hg, h2⟩
    · exact ⟨oa, oc, rfl, dO_cells _, [], rfl, .inl rfl⟩
    · obtain ⟨ns, h3, h4⟩ := HoldsA.ofO ho h2
      exact ⟨oa, oc, by rw [dO_len], dO_cells _, ns, h3, .inr ⟨g, off, e, hg, h4⟩⟩
theorem fresh_of_V {w w' : World} {v : Val} {cs : List Value} (h : FreshV w w' v cs) : Fresh w.heap.size w' (dV v) cs := fun w'' h1 h2 => holds_of_V v cs (h w'' h1 h2)
theorem freshV_of {w w' : World} {v : Val} {cs : List Value} (h : Fresh w.heap.size w' (dV v) cs) : FreshV w w' v cs := fun w'' h1 h2 => holdsV_of v cs (h w'' h1 h2)
end Go.Proofs.YtkoliaodkojghaaGreatDoor

/- value.Deep: how deep a value is. Condition: a bulk of at most 10^8. -/
namespace Go.Proofs.YtkoliaodkojghaaGreatDoor
open Go.RowKit

mutual
/-- How deep a value is. -/
def deepV : Val → Nat
  | .mk k _ _ _ l o => 1 + (if k = 5 then deepL l else if k = 6 then deepO o else 0)
def deepL : List Val → Nat
  | [] => 0
  | v :: r => max (deepV v) (deepL r)
def deepO : List (ByteArray × Val) → Nat
  | [] => 0
  | p :: r => max (deepP p) (deepO r)
def deepP : ByteArray × Val → Nat
  | (_, v) => deepV v
end

theorem deepL_le : ∀ (l : List Val), (∀ v ∈ l, deepV v ≤ v.bulk) → deepL l ≤ bulkL l
  | [], _ => by simp [deepL]
  | v :: r, h => by
    have h1 := h v (by simp)
    have h2 := deepL_le r (fun x hx => h x (by simp [hx]))
    simp only [deepL, bulkL]
    omega
theorem deepO_le : ∀ (l : List (ByteArray × Val)), (∀ m ∈ l, deepV m.2 ≤ m.2.bulk) → deepO l ≤ bulkO l
  | [], _ => by simp [deepO]
  | (k, v) :: r, h => by
    have h1 := h (k, v) (by simp)
    have h2 := deepO_le r (fun x hx => h x (by simp [hx]))
    simp only [deepO, deepP, bulkO, bulkP]
    simp only at h1
    omega
theorem deepV_le : ∀ v : Val, deepV v ≤ v.bulk := by
  refine Val.ind ?_
  intro k b n t l o hl ho
  have h1 := deepL_le l hl
  have h2 := deepO_le o ho
  simp only [deepV, Val.bulk]
  split
  · omega
  split <;> omega

/-- What Deep does with a value. -/
def DeepC (v : Val) : Prop := ∀ (cs : List Value) (w : World), HoldsV w w.heap.size v cs → v.bulk ≤ 100000000 →
    Calls Tryz.prog 91 #[.agg cs.toArray] w fun e w' => e = .returned (.int .i64 (deepV v)) ∧ Below w.heap.size w w'

set_option maxRecDepth 100000 in
set_option maxHeartbeats 2000000 in
theorem deep_list (b : Bool) (n : Int) (t : ByteArray) (l : List Val) (on : Nat) (IH : ∀ v ∈ l, DeepC v) (la oa : Option Addr) (oc lc : Nat) (w : World) (hl : l = [] ∨ ∃ g off, la = some ⟨g, off, none⟩ ∧ g < w.heap.size ∧ HoldsL w w.heap.size l g off)
    (hb : bulkL l ≤ 100000000) :
    Calls Tryz.prog 91 #[.agg #[.int .i64 5, .bool b, .int .i64 n, .string t, .slice la l.length lc, .slice oa on oc]] w fun e w' => e = .returned (.int .i64 (1 + (deepL l : Int))) ∧ Below w.heap.size w w' := by
  have hln := bulkL_len l
  have hdl := deepL_le l (fun v _ => deepV_le v)
  obtain ⟨M, hM⟩ : ∃ M, deepL l = M := ⟨_, rfl⟩
  rw [hM] at hdl ⊢
  have H0 : Hid (max 0 (deepL (l.drop 0)) = M) := by show _ = _; rw [List.drop_zero, hM]; simp
  have HI := Lib.hid IH
  clear IH hM
  go_enter Tryz.func91, Tryz.ntmps91
  go_wp2_with (fail)
  have HB1 : Hid (Below w.heap.size w (w.alloc (.cells #[.int .i64 5, .bool b, .int .i64 n, .string t, .slice la l.length lc, .slice oa on oc] 45))) := (Below.refl _ _).alloc (Nat.le_refl _) _
  go_loopw [3, 15] (fun m i wr => ∃ D k : Nat, m = .int .i64 D ∧ i = .int .i64 k ∧ k ≤ l.length ∧ Hid (max D (deepL (l.drop k)) = M) ∧ D ≤ M ∧ Hid (Below w.heap.size w wr)) (fun _ i _ => l.length - (intOf i).toNat)
  case atStart => exact ⟨0, 0, rfl, rfl, Nat.zero_le _, H0, Nat.zero_le _, HB1⟩
  case round =>
    obtain ⟨D, k, rfl, rfl, hk, hD, hDM, hbw⟩ := hrel
    clear H0 HB1
    by_cases hlt : k < l.length
    · obtain ⟨g, off, rfl, hg, hL⟩ : ∃ g off, la = some ⟨g, off, none⟩ ∧ g < w.heap.size ∧ HoldsL w w.heap.size l g off := by
        rcases hl with rfl | h
        · simp at hlt
        · exact h
      obtain ⟨x, hx⟩ : ∃ v, l[k]? = some v := ⟨_, List.getElem?_eq_getElem hlt⟩
      have hmem : x ∈ l := List.mem_of_getElem? hx
      have hbv := bulkL_mem hmem
      have hdv := deepV_le x
      have hdrop : l.drop k = x :: l.drop (k + 1) := drop_of_get hx
      have hD' := hD.out
      rw [hdrop] at hD'
      simp only [deepL] at hD'
      have IHx := HI.out x hmem
      have hz := hbw.out.size
      obtain ⟨m, hm⟩ : ∃ m, deepV x = m := ⟨_, rfl⟩
      obtain ⟨k', b', n', t', l', o'⟩ := x
      obtain ⟨la', lc', oa', oc', hvs, c0, c1, c2, c3, c4, c5⟩ := (hL.below hg hbw.out).six hx
      have CT := IHx _ (wr.alloc (.cells #[.int .i64 k', .bool b', .int .i64 n', .string t', .slice la' l'.length lc', .slice oa' o'.length oc'] 45)) (HoldsV.more (by simp; omega) _ _ (hvs.below ((Below.refl _ _).alloc hz _))) (by omega)
      rw [hm] at CT hD' hdv
      have hCT := Lib.hid CT
      have Hn : Hid (max (max D m) (deepL (l.drop (k + 1))) = M) := by show _ = _; omega
      have hmM : max D m ≤ M := by omega
      have hbA : Hid (Below w.heap.size w (wr.alloc (.cells #[.int .i64 k', .bool b', .int .i64 n', .string t', .slice la' l'.length lc', .slice oa' o'.length oc'] 45))) := hbw.out.alloc hz _
      clear CT hD hD' hdrop IHx hm hvs hx hmem hL hg hdv hbv
      by_cases hgt : D < m
      · have e1 : max D m = m := by omega
        rw [e1] at Hn hmM
        clear e1
        go_wp2_with (fail)
        with_reducible refine hCT.out.mono ?_
        rintro e w4 ⟨rfl, hb4⟩
        have hbw4 := Lib.hid (hbA.out.trans (hb4.mono hbA.out.size))
        clear hb4 hbw hbA hCT
        go_wp2
        go_roundw
        case rel => exact ⟨m, k + 1, by congr 1; omega, by go_num, by omega, Hn, hmM, hbw4⟩
        case measure => simp only [intOf]; omega
      · have e1 : max D m = D := by omega
        rw [e1] at Hn hmM
        clear e1
        go_wp2_with (fail)
        with_reducible refine hCT.out.mono ?_
        rintro e w4 ⟨rfl, hb4⟩
        have hbw4 := Lib.hid (hbA.out.trans (hb4.mono hbA.out.size))
        clear hb4 hbw hbA hCT
        go_wp2
        go_roundw
        case rel => exact ⟨D, k + 1, by congr 1; omega, by go_num, by omega, Hn, hmM, hbw4⟩
        case measure => simp only [intOf]; omega
    · obtain rfl : k = l.length := by omega
      have hD' := hD.out
      rw [List.drop_length] at hD'
      simp only [deepL] at hD'
      obtain rfl : D = M := by omega
      clear hD hD' hl
      go_wp2
      go_ret
      exact ⟨rfl, hbw.out⟩

set_option maxRecDepth 100000 in
set_option maxHeartbeats 2000000 in
theorem deep_obj (b : Bool) (n : Int) (t : ByteArray) (l : List (ByteArray × Val)) (ln : Nat) (IH : ∀ m ∈ l, DeepC m.2) (la oa : Option Addr) (oc lc : Nat) (w : World) (hl : l = [] ∨ ∃ g off, oa = some ⟨g, off, none⟩ ∧ g < w.heap.size ∧ HoldsO w w.heap.size l g off)
    (hb : bulkO l ≤ 100000000) :
    Calls Tryz.prog 91 #[.agg #[.int .i64 6, .bool b, .int .i64 n, .string t, .slice la ln lc, .slice oa l.length oc]] w fun e w' => e = .returned (.int .i64 (1 + (deepO l : Int))) ∧ Below w.heap.size w w' := by
  have hln := bulkO_len l
  have hdl := deepO_le l (fun m _ => deepV_le m.2)
  obtain ⟨M, hM⟩ : ∃ M, deepO l = M := ⟨_, rfl⟩
  rw [hM] at hdl ⊢
  have H0 : Hid (max 0 (deepO (l.drop 0)) = M) := by show _ = _; rw [List.drop_zero, hM]; simp
  have HI := Lib.hid IH
  clear IH hM
  go_enter Tryz.func91, Tryz.ntmps91
  go_wp2_with (fail)
  have HB1 : Hid (Below w.heap.size w (w.alloc (.cells #[.int .i64 6, .bool b, .int .i64 n, .string t, .slice la ln lc, .slice oa l.length oc] 45))) := (Below.refl _ _).alloc (Nat.le_refl _) _
  go_loopw [3, 29] (fun m i wr => ∃ D k : Nat, m = .int .i64 D ∧ i = .int .i64 k ∧ k ≤ l.length ∧ Hid (max D (deepO (l.drop k)) = M) ∧ D ≤ M ∧ Hid (Below w.heap.size w wr)) (fun _ i _ => l.length - (intOf i).toNat)
  case atStart => exact ⟨0, 0, rfl, rfl, Nat.zero_le _, H0, Nat.zero_le _, HB1⟩
  case round =>
    obtain ⟨D, k, rfl, rfl, hk, hD, hDM, hbw⟩ := hrel
    clear H0 HB1
    by_cases hlt : k < l.length
    · obtain ⟨g, off, rfl, hg, hL⟩ : ∃ g off, oa = some ⟨g, off, none⟩ ∧ g < w.heap.size ∧ HoldsO w w.heap.size l g off := by
        rcases hl with rfl | h
        · simp at hlt
        · exact h
      obtain ⟨⟨key, x⟩, hx⟩ : ∃ v, l[k]? = some v := ⟨_, List.getElem?_eq_getElem hlt⟩
      have hmem : (key, x) ∈ l := List.mem_of_getElem? hx
      have hbv := bulkO_mem hmem
      simp only at hbv
      have hdv := deepV_le x
      have hdrop : l.drop k = (key, x) :: l.drop (k + 1) := drop_of_get hx
      have hD' := hD.out
      rw [hdrop] at hD'
      simp only [deepO, deepP] at hD'
      have IHx := HI.out _ hmem
      have hz := hbw.out.size
      obtain ⟨m, hm⟩ : ∃ m, deepV x = m := ⟨_, rfl⟩
      obtain ⟨k', b', n', t', l', o'⟩ := x
      obtain ⟨la', lc', oa', oc', hvs, c0, c1, c2, c3, c4, c5, c6⟩ := (hL.below hg hbw.out).seven hx
      have CT := IHx _ (wr.alloc (.cells #[.string key, .int .i64 k', .bool b', .int .i64 n', .string t', .slice la' l'.length lc', .slice oa' o'.length oc'] 72)) (HoldsV.more (by simp; omega) _ _ (hvs.below ((Below.refl _ _).alloc hz _))) (show (Val.mk k' b' n' t' l' o').bulk ≤ 100000000 from by omega)
      simp only [hm] at CT
      rw [hm] at hD' hdv
      have hCT := Lib.hid CT
      have Hn : Hid (max (max D m) (deepO (l.drop (k + 1))) = M) := by show _ = _; omega
      have hmM : max D m ≤ M := by omega
      have hbA : Hid (Below w.heap.size w (wr.alloc (.cells #[.string key, .int .i64 k', .bool b', .int .i64 n', .string t', .slice la' l'.length lc', .slice oa' o'.length oc'] 72))) := hbw.out.alloc hz _
      clear CT hD hD' hdrop IHx hm hvs hx hmem hL hg hdv hbv
      have hmx : max (D : Int) (m : Int) = ((max D m : Nat) : Int) := by omega
      generalize max D m = Dm at *
      have Hmx := Lib.hid hmx
      clear hmx
      go_wp2_with (fail)
      with_reducible refine hCT.out.mono ?_
      rintro e w4 ⟨rfl, hb4⟩
      have hbw4 := Lib.hid (hbA.out.trans (hb4.mono hbA.out.size))
      clear hb4 hbw hbA hCT
      go_wp2
      go_roundw
      case rel => exact ⟨Dm, k + 1, by rw [Hmx.out], by go_num, by omega, Hn, hmM, hbw4⟩
      case measure => simp only [intOf]; omega
    · obtain rfl : k = l.length := by omega
      have hD' := hD.out
      rw [List.drop_length] at hD'
      simp only [deepO] at hD'
      obtain rfl : D = M := by omega
      clear hD hD' hl
      go_wp2
      go_ret
      exact ⟨rfl, hbw.out⟩

set_option maxRecDepth 100000 in
/-- value.Deep -/
theorem deep_calls : ∀ v, DeepC v := by
  refine Val.ind ?_
  intro k b n t l o IHl IHo cs w hV hb
  simp only [HoldsV] at hV
  obtain ⟨la, lc, oa, oc, rfl, hla, hoa⟩ := hV
  simp only [Val.bulk] at hb
  by_cases h5 : k = 5
  · subst h5
    have := deep_list b n t l o.length IHl la oa oc lc w hla (by omega)
    simpa [deepV] using this
  by_cases h6 : k = 6
  · subst h6
    have := deep_obj b n t o l.length IHo la oa oc lc w hoa (by omega)
    simpa [deepV] using this
  have e : deepV (.mk k b n t l o) = 1 := by simp [deepV, h5, h6]
  rw [e]
  have e5 : (k == 5) = false := by simpa using h5
  have e6 : (k == 6) = false := by simpa using h6
  clear e IHl IHo hla hoa hb h5 h6
  go_enter Tryz.func91, Tryz.ntmps91
  go_wp2
  go_ret
  exact ⟨rfl, (Below.refl _ _).alloc (Nat.le_refl _) _⟩

end Go.Proofs.YtkoliaodkojghaaGreatDoor
