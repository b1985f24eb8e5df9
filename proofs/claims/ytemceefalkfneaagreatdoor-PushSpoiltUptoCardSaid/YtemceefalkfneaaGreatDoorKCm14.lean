/- Parts, joined: Values as data of any make. Plain. No condition. commonplaceref03.digits: an Int's digits. No condition. -/
import Derived.Test.YtemceefalkfneaaGreatDoorProg
import Derived.WalkKit
import Derived.Below
import Derived.Lib.ItoaLen
import Derived.Lib.Hide
import Derived.IntWalk
import Derived.Test.YtemceefalkfneaaGreatDoorKCm1
import Derived.Test.YtemceefalkfneaaGreatDoorKCm2
import Derived.Test.YtemceefalkfneaaGreatDoorKCm12
/- Values as data of any make. Plain. No condition. -/
namespace Go.Proofs.YtemceefalkfneaaGreatDoor
open Go.RowKit

mutual
def dV : Val → D
  | .mk k b n t l o => .agg [.leaf (.int .i64 k), .leaf (.bool b), .leaf (.int .i64 n), .leaf (.string t), .row 6 (dL l), .row 7 (dO o)]
def dL : List Val → List D
  | [] => []
  | v :: r => dV v :: dL r
def dO : List (ByteArray × Val) → List D
  | [] => []
  | p :: r => dP p :: dO r
def dP : ByteArray × Val → D
  | (key, v) => .agg [.leaf (.string key), dV v]
end

theorem dL_map : ∀ l, dL l = l.map dV
  | [] => rfl
  | v :: r => by simp [dL, dL_map r]
theorem dO_map : ∀ l, dO l = l.map dP
  | [] => rfl
  | v :: r => by simp [dO, dO_map r]
theorem dV_cells (v : Val) : (dV v).cells = 6 := by
  obtain ⟨k, b, n, t, l, o⟩ := v
  rfl
theorem dP_cells (p : ByteArray × Val) : (dP p).cells = 7 := by
  obtain ⟨k, v⟩ := p
  simp only [dP, D.cells, cellsA, dV_cells]
theorem dL_cells (l : List Val) : ∀ d ∈ dL l, d.cells = 6 := by
  rw [dL_map]
  intro d hd
  obtain ⟨v, _, rfl⟩ := List.mem_map.1 hd
  exact dV_cells v
theorem dO_cells (l : List (ByteArray × Val)) : ∀ d ∈ dO l, d.cells = 7 := by
  rw [dO_map]
  intro d hd
  obtain ⟨v, _, rfl⟩ := List.mem_map.1 hd
  exact dP_cells v
theorem dL_len (l : List Val) : (dL l).length = l.length := by rw [dL_map, List.length_map]
theorem dO_len (l : List (ByteArray × Val)) : (dO l).length = l.length := by rw [dO_map, List.length_map]

theorem HoldsA.six {w : World} {B : Nat} {a b c d : Value} {e f : D} {cs : List Value} :
    HoldsA w B [.leaf a, .leaf b, .leaf c, .leaf d, e, f] cs ↔ ∃ c4 c5, cs = [a, b, c, d] ++ (c4 ++ c5) ∧ a.oneCell' = true ∧ b.oneCell' = true ∧ c.oneCell' = true ∧ d.oneCell' = true ∧ Holds w B e c4 ∧ Holds w B f c5 := by
  constructor
  · rintro ⟨_, _, rfl, ⟨rfl, ha⟩, _, _, rfl, ⟨rfl, hb⟩, _, _, rfl, ⟨rfl, hc⟩, _, _, rfl, ⟨rfl, hd⟩, c4, _, rfl, h4, c5, _, rfl, h5, rfl⟩
    exact ⟨c4, c5, by simp, ha, hb, hc, hd, h4, h5⟩
  · rintro ⟨c4, c5, rfl, ha, hb, hc, hd, h4, h5⟩
    exact ⟨[a], _, rfl, ⟨rfl, ha⟩, [b], _, rfl, ⟨rfl, hb⟩, [c], _, rfl, ⟨rfl, hc⟩, [d], _, rfl, ⟨rfl, hd⟩, c4, _, rfl, h4, c5, [], by simp, h5, rfl⟩

theorem HoldsA.toL {w : World} {B : Nat} {g : Nat} : ∀ {l : List Val}, (∀ v ∈ l, ∀ cs, Holds w B (dV v) cs → HoldsV w B v cs) → ∀ {ns : List Value} {off : Nat}, HoldsA w B (dL l) ns → (∀ j u, ns[j]? = some u → w.cell? ⟨g, off + j, none⟩ = some u) → HoldsL w B l g off
  | [], _, _, _, _, _ => by simp [HoldsL]
  | v :: r, ih, ns, off, h, hc => by
    obtain ⟨c1, c2, rfl, h1, h2⟩ := h
    have hl : c1.length = 6 := h1.len.1.trans (dV_cells v)
    simp only [HoldsL]
    refine ⟨⟨c1, ih v (by simp) c1 h1, fun j u hu => hc j u (by rw [List.getElem?_append_left (List.getElem?_eq_some_iff.1 hu).1]; exact hu)⟩, HoldsA.toL (fun x hx => ih x (by simp [hx])) h2 (fun j u hu => ?_)⟩
    rw [show off + 6 + j = off + (6 + j) from by omega]
    refine hc (6 + j) u ?_
    rw [List.getElem?_append_right (by omega), hl, show 6 + j - 6 = j from by omega]
    exact hu
theorem HoldsA.toO {w : World} {B : Nat} {g : Nat} : ∀ {l : List (ByteArray × Val)}, (∀ m ∈ l, ∀ cs, Holds w B (dV m.2) cs → HoldsV w B m.2 cs) → ∀ {ns : List Value} {off : Nat}, HoldsA w B (dO l) ns → (∀ j u, ns[j]? = some u → w.cell? ⟨g, off + j, none⟩ = some u) → HoldsO w B l g off
  | [], _, _, _, _, _ => by simp [HoldsO]
  | (key, v) :: r, ih, ns, off, h, hc => by
    obtain ⟨c1, c2, rfl, h1, h2⟩ := h
    obtain ⟨_, c3, rfl, ⟨rfl, _⟩, cv, c4, rfl, h3, rfl⟩ := h1
    have hl : cv.length = 6 := h3.len.1.trans (dV_cells v)
    simp only [HoldsO, HoldsP]
    refine ⟨⟨by have := hc 0 (.string key) rfl; simpa using this, cv, ih (key, v) (by simp) cv h3, fun j u hu => ?_⟩, HoldsA.toO (fun x hx => ih x (by simp [hx])) h2 (fun j u hu => ?_)⟩
    · have h5 := (List.getElem?_eq_some_iff.1 hu).1
      rw [show off + 1 + j = off + (j + 1) from by omega]
      refine hc (j + 1) u ?_
      simp only [List.append_nil, List.cons_append, List.nil_append, List.getElem?_cons_succ]
      rw [List.getElem?_append_left h5]; exact hu
    · rw [show off + 7 + j = off + (6 + j + 1) from by omega]
      refine hc (6 + j + 1) u ?_
      simp only [List.append_nil, List.cons_append, List.nil_append, List.getElem?_cons_succ]
      rw [List.getElem?_append_right (by omega), hl, show 6 + j - 6 = j from by omega]
      exact hu
theorem holdsV_of {w : World} {B : Nat} : ∀ (v : Val) cs, Holds w B (dV v) cs → HoldsV w B v cs := by
  refine Val.ind ?_
  intro k b n t l o hl ho cs h
  simp only [dV, Holds] at h
  obtain ⟨c4, c5, rfl, _, _, _, _, ⟨a4, n4, rfl, _, ns4, h4, i4⟩, ⟨a5, n5, rfl, _, ns5, h5, i5⟩⟩ := HoldsA.six.1 h
  simp only [HoldsV]
  refine ⟨a4, n4, a5, n5, by simp [cells6, dL_len, dO_len], ?_, ?_⟩
  · rcases i4 with e | ⟨g, off, e, hg, hc⟩
    · refine .inl ?_
      cases l with
      | nil => rfl
      | cons x r => simp [dL] at e
    · exact .inr ⟨g, off, e, hg, HoldsA.toL hl h4 hc⟩
  · rcases i5 with e | ⟨g, off, e, hg, hc⟩
    · refine .inl ?_
      cases o with
      | nil => rfl
      | cons x r => simp [dO] at e
    · exact .inr ⟨g, off, e, hg, HoldsA.toO ho h5 hc⟩

theorem HoldsA.ofL {w : World} {B : Nat} {g : Nat} : ∀ {l : List Val}, (∀ v ∈ l, ∀ cs, HoldsV w B v cs → Holds w B (dV v) cs) → ∀ {off : Nat}, HoldsL w B l g off → ∃ ns, HoldsA w B (dL l) ns ∧ ∀ j u, ns[j]? = some u → w.cell? ⟨g, off + j, none⟩ = some u
  | [], _, _, _ => ⟨[], rfl, fun j u h => by simp at h⟩
  | v :: r, ih, off, h => by
    simp only [HoldsL] at h
    obtain ⟨⟨cs, h1, hc⟩, h2⟩ := h
    have h1' := ih v (by simp) cs h1
    have hl : cs.length = 6 := h1'.len.1.trans (dV_cells v)
    obtain ⟨ns, h3, h4⟩ := HoldsA.ofL (fun x hx => ih x (by simp [hx])) h2
    refine ⟨cs ++ ns, ⟨cs, ns, rfl, h1', h3⟩, fun j u hu => ?_⟩
    by_cases hj : j < 6
    · rw [List.getElem?_append_left (by omega)] at hu
      exact hc j u hu
    · rw [List.getElem?_append_right (by omega), hl] at hu
      have := h4 (j - 6) u hu
      rwa [show off + 6 + (j - 6) = off + j from by omega] at this
theorem HoldsA.ofO {w : World} {B : Nat} {g : Nat} : ∀ {l : List (ByteArray × Val)}, (∀ m ∈ l, ∀ cs, HoldsV w B m.2 cs → Holds w B (dV m.2) cs) → ∀ {off : Nat}, HoldsO w B l g off → ∃ ns, HoldsA w B (dO l) ns ∧ ∀ j u, ns[j]? = some u → w.cell? ⟨g, off + j, none⟩ = some u
  | [], _, _, _ => ⟨[], rfl, fun j u h => by simp at h⟩
  | (key, v) :: r, ih, off, h => by
    simp only [HoldsO, HoldsP] at h
    obtain ⟨⟨h0, cs, h1, hc⟩, h2⟩ := h
    have h1' := ih (key, v) (by simp) cs h1
    have hl : cs.length = 6 := h1'.len.1.trans (dV_cells v)
    obtain ⟨ns, h3, h4⟩ := HoldsA.ofO (fun x hx => ih x (by simp [hx])) h2
    refine ⟨(.string key :: cs) ++ ns, ⟨.string key :: cs, ns, rfl, ⟨[.string key], cs, rfl, ⟨rfl, rfl⟩, cs, [], by simp, h1', rfl⟩, h3⟩, fun j u hu => ?_⟩
    match j, hu with
    | 0, hu =>
      simp at hu
      subst hu
      exact h0
    | j + 1, hu =>
      simp only [List.cons_append, List.getElem?_cons_succ] at hu
      by_cases hj : j < 6
      · rw [List.getElem?_append_left (by omega)] at hu
        have := hc j u hu
        rwa [show off + 1 + j = off + (j + 1) from by omega] at this
      · rw [List.getElem?_append_right (by omega), hl] at hu
        have := h4 (j - 6) u hu
        rwa [show off + 7 + (j - 6) = off + (j + 1) from by omega] at this
theorem holds_of_V {w : World} {B : Nat} : ∀ (v : Val) cs, HoldsV w B v cs → Holds w B (dV v) cs := by
  refine Val.ind ?_
  intro k b n t l o hl ho cs h
  simp only [HoldsV] at h
  obtain ⟨la, lc, oa, oc, rfl, h1, h2⟩ := h
  simp only [dV, Holds]
  refine HoldsA.six.2 ⟨[.slice la l.length lc], [.slice oa o.length oc], rfl, rfl, rfl, rfl, rfl, ?_, ?_⟩
  · rcases h1 with rfl | ⟨g, off, e, hg, h1⟩
    · exact ⟨la, lc, rfl, dL_cells _, [], rfl, .inl rfl⟩
    · obtain ⟨ns, h3, h4⟩ := HoldsA.ofL hl h1
      exact ⟨la, lc, by rw [dL_len], dL_cells _, ns, h3, .inr ⟨g, off, e, hg, h4⟩⟩
  · rcases h2 with rfl | ⟨g, off, e, hg, h2⟩
    · exact ⟨oa, oc, rfl, dO_cells _, [], rfl, .inl rfl⟩
    · obtain ⟨ns, h3, h4⟩ := HoldsA.ofO ho h2
      exact ⟨oa, oc, by rw [dO_len], dO_cells _, ns, h3, .inr ⟨g, off, e, hg, h4⟩⟩
theorem fresh_of_V {w w' : World} {v : Val} {cs : List Value} (h : FreshV w w' v cs) : Fresh w.heap.size w' (dV v) cs := fun w'' h1 h2 => holds_of_V v cs (h w'' h1 h2)
theorem freshV_of {w w' : World} {v : Val} {cs : List Value} (h : Fresh w.heap.size w' (dV v) cs) : FreshV w w' v cs := fun w'' h1 h2 => holdsV_of v cs (h w'' h1 h2)
end Go.Proofs.YtemceefalkfneaaGreatDoor

/- commonplaceref03.digits: an Int's digits. No condition. -/
namespace Go.Proofs.YtemceefalkfneaaGreatDoor
open Go.RowKit

/-- A digit's letter. -/
def dgt (d : Nat) : UInt8 := UInt8.ofNat (48 + d)

def digs (u : Nat) : List UInt8 := if _h : u = 0 then [] else digs (u / 10) ++ [dgt (u % 10)]
termination_by u
decreasing_by omega

theorem digs_zero : digs 0 = [] := by rw [digs, dif_pos rfl]
theorem digs_pos {u : Nat} (h : u ≠ 0) : digs u = digs (u / 10) ++ [dgt (u % 10)] := by rw [digs, dif_neg h]
theorem digs_dec (u : Nat) : u ≠ 0 → digs u = Lib.decDigits u := by
  induction u using Nat.strongRecOn with
  | _ u ih =>
    intro h
    rw [digs_pos h, Lib.decDigits]
    unfold dgt
    by_cases h10 : u < 10
    · rw [dif_pos h10, show u / 10 = 0 from by omega, digs_zero, show u % 10 = u from by omega, List.nil_append]
    · rw [dif_neg h10, ih (u / 10) (by omega) (by omega)]
theorem digs_len {u : Nat} (h : (u : Int) ≤ 9223372036854775808) : (digs u).length ≤ 30 := by
  by_cases h0 : u = 0
  · subst h0; rw [digs_zero]; simp
  · rw [digs_dec u h0, Lib.decDigits_length]
    exact Nat.le_trans (Lib.nDigits_le20 u (by omega)) (by omega)

theorem run_cut (S : ByteArray) (d e : Nat) (hd : d ≤ e) (he : e ≤ S.size) (w : World) : (Instr.slice 9 (.string S) (some (.int .i64 d)) (some (.int .i64 e)) none).run Tryz.prog w = .ok (.string (S.extract d e)) w := by
  simp [Instr.slice, run_underlying Tryz.underlying9, Instr.sliceBounds, go_sem, hd, he]
theorem digit_at : ∀ d : Fin 10, (⟨#[48, 49, 50, 51, 52, 53, 54, 55, 56, 57]⟩ : ByteArray).extract d.val (d.val + 1) = ⟨#[dgt d.val]⟩ := by decide
theorem run_digit (d : Nat) (hd : d < 10) (w : World) : (Instr.slice 9 (.string ⟨#[48, 49, 50, 51, 52, 53, 54, 55, 56, 57]⟩) (some (.int .i64 d)) (some (.int .i64 ((d : Int) + 1))) none).run Tryz.prog w = .ok (.string ⟨#[dgt d]⟩) w := by
  have := run_cut ⟨#[48, 49, 50, 51, 52, 53, 54, 55, 56, 57]⟩ d (d + 1) (by omega) (by show d + 1 ≤ 10; omega) w
  rw [digit_at ⟨d, hd⟩] at this
  exact this

set_option maxRecDepth 20000 in
set_option maxHeartbeats 1000000 in
theorem digits_pos (a : Nat) (ha : a ≠ 0) (hm : (a : Int) ≤ 9223372036854775807) (w : World) :
    Calls Tryz.prog 132 #[.int .i64 a] w fun e w' => e = .returned (.string ⟨(Lib.itoa a).toArray⟩) ∧ w = w' := by
  have hi : Lib.itoa a = digs a := by
    rw [digs_dec a ha, Lib.itoa, if_neg (by omega)]; simp
  rw [hi]
  have hl := digs_len (u := a) (by omega)
  have H0 : Hid (digs a ++ (⟨#[]⟩ : ByteArray).data.toList = digs a) := by show _ = _; simp
  clear hi
  go_enter Tryz.func132, Tryz.ntmps132
  have ha1 : ((a : Int) == 0) = false := by simp; omega
  go_wp2
  go_loop [3, 4] (fun s m => ∃ (T : ByteArray) (u : Nat), s = .string T ∧ m = .int .i64 u ∧ u ≤ a ∧ Hid (digs u ++ T.data.toList = digs a)) (fun _ m => (intOf m).toNat)
  case atStart => exact ⟨_, a, rfl, rfl, Nat.le_refl _, H0⟩
  case round =>
    obtain ⟨T, u, rfl, rfl, hu, hT⟩ := hrel
    clear H0
    have hTs : T.size ≤ 30 := by
      have h1 := congrArg List.length hT.out
      rw [List.length_append] at h1
      have h2 : T.data.toList.length = T.size := by rw [Array.length_toList]; rfl
      omega
    by_cases hu0 : u = 0
    · subst hu0
      have hT' := hT.out
      rw [digs_zero, List.nil_append] at hT'
      have hE : (⟨(digs a).toArray⟩ : ByteArray) = T := by rw [← hT']
      have HE := Lib.hid hE
      clear hT hT' hE ha1 hl
      have h0 : ((a : Int) < 0) = False := by simp
      go_wp2
      go_ret
      exact ⟨by rw [HE.out]; rfl, rfl⟩
    · have hu1 : ((u : Int) == 0) = false := by simp; omega
      have hT' : Hid (digs (u / 10) ++ ((⟨#[dgt (u % 10)]⟩ : ByteArray) ++ T).data.toList = digs a) := by
        have := hT.out
        rw [digs_pos hu0] at this
        show _ = _
        rw [← this, ByteArray.data_append, Array.toList_append]
        simp
      have hd := run_digit (u % 10) (by omega) w
      have hm10 : (u : Int) % 10 = ((u % 10 : Nat) : Int) := by omega
      have hq10 : (u : Int) / 10 = ((u / 10 : Nat) : Int) := by omega
      have hlt : u % 10 < 10 := by omega
      have hqu : u / 10 < u := by omega
      generalize u % 10 = d at *
      generalize u / 10 = q at *
      have hdn : decide ((d : Int) < 0) = false := by simp
      clear hT ha1 hl
      go_wp2
      go_round
      case rel => exact ⟨_, q, rfl, rfl, by omega, hT'⟩
      case measure => simp [intOf]; omega

set_option maxRecDepth 20000 in
set_option maxHeartbeats 1000000 in
theorem digits_neg (a : Nat) (ha : a ≠ 0) (hm : (a : Int) ≤ 9223372036854775808) (n : Int) (hn : n = -(a : Int)) (w : World) :
    Calls Tryz.prog 132 #[.int .i64 n] w fun e w' => e = .returned (.string ⟨(Lib.itoa n).toArray⟩) ∧ w = w' := by
  have hi : Lib.itoa n = 45 :: digs a := by
    rw [digs_dec a ha, Lib.itoa, if_pos (by omega), hn]; simp
  rw [hi]
  have hl := digs_len (u := a) (by omega)
  have H0 : Hid (digs a ++ (⟨#[]⟩ : ByteArray).data.toList = digs a) := by show _ = _; simp
  have Hn := Lib.hid hn
  have hn1 : (n == 0) = false := by simp; omega
  have hn2 : n < 0 := by omega
  clear hi hn
  go_enter Tryz.func132, Tryz.ntmps132
  go_wp2
  go_loop [3, 4] (fun s m => ∃ (T : ByteArray) (M : Int) (u : Nat), s = .string T ∧ m = .int .i64 M ∧ Hid (M = -(u : Int)) ∧ u ≤ a ∧ Hid (digs u ++ T.data.toList = digs a)) (fun _ m => (-(intOf m)).toNat)
  case atStart => exact ⟨_, n, a, rfl, rfl, Hn, Nat.le_refl _, H0⟩
  case round =>
    obtain ⟨T, M, u, rfl, rfl, hM, hu, hT⟩ := hrel
    clear H0
    have hTs : T.size ≤ 30 := by
      have h1 := congrArg List.length hT.out
      rw [List.length_append] at h1
      have h2 : T.data.toList.length = T.size := by rw [Array.length_toList]; rfl
      omega
    have hMu := hM.out
    by_cases hu0 : u = 0
    · subst hu0
      obtain rfl : M = 0 := by simpa using hMu
      have hT' := hT.out
      rw [digs_zero, List.nil_append] at hT'
      have hE : (⟨(45 :: digs a).toArray⟩ : ByteArray) = ⟨#[45]⟩ ++ T := by
        apply ByteArray.ext
        rw [ByteArray.data_append]
        apply Array.ext'
        rw [Array.toList_append, hT']
        simp
      have HE := Lib.hid hE
      clear hT hT' hE hn1 hl hM hMu
      go_wp2
      go_ret
      exact ⟨by rw [HE.out]; rfl, rfl⟩
    · have hT' : Hid (digs (u / 10) ++ ((⟨#[dgt (u % 10)]⟩ : ByteArray) ++ T).data.toList = digs a) := by
        have := hT.out
        rw [digs_pos hu0] at this
        show _ = _
        rw [← this, ByteArray.data_append, Array.toList_append]
        simp
      have hM1 : (M == 0) = false := by simp; omega
      have hM2 : -9223372036854775808 ≤ M := by omega
      have hM3 : M < 0 := by omega
      have hd := run_digit (u % 10) (by omega) w
      obtain ⟨D, hD⟩ : ∃ D, M.tmod 10 = D := ⟨_, rfl⟩
      obtain ⟨Q, hQ⟩ : ∃ Q, M.tdiv 10 = Q := ⟨_, rfl⟩
      have hD' : D = -((u % 10 : Nat) : Int) := by
        rw [← hD, hMu, Int.neg_tmod, Int.tmod_eq_emod_of_nonneg (by omega)]; omega
      have hQ' : Q = -((u / 10 : Nat) : Int) := by
        rw [← hQ, hMu, Int.neg_tdiv, Int.tdiv_eq_ediv_of_nonneg (by omega)]; omega
      have hlt : u % 10 < 10 := by omega
      have hqu : u / 10 < u := by omega
      generalize u % 10 = d at *
      generalize u / 10 = q at *
      have HQ := Lib.hid hQ'
      have hMQ : M < Q := by omega
      have hQ1 : -9223372036854775808 ≤ Q := by omega
      have hQ2 : Q ≤ 0 := by omega
      have hQ3 : Q ≤ 9223372036854775807 := by omega
      by_cases hd0 : d = 0
      · subst hd0
        obtain rfl : D = 0 := by simpa using hD'
        have hd1 : (Instr.slice 9 (.string ⟨#[48, 49, 50, 51, 52, 53, 54, 55, 56, 57]⟩) (some (.int .i64 0)) (some (.int .i64 1)) none).run Tryz.prog w = .ok (.string ⟨#[dgt 0]⟩) w := hd
        clear hT hn1 hl hM hD' hQ' hMu hd
        go_wp2
        go_round
        case rel => exact ⟨_, Q, q, rfl, rfl, HQ, by omega, hT'⟩
        case measure => simp only [intOf]; omega
      · have hDn : D < 0 := by omega
        have hDb : -10 < D := by omega
        have hDd : -D = (d : Int) := by omega
        clear hT hn1 hl hM hD' hQ'
        clear hMu
        go_wp2
        go_round
        case rel => exact ⟨_, Q, q, rfl, rfl, HQ, by omega, hT'⟩
        case measure => simp only [intOf]; omega

/-- commonplaceref03.digits -/
theorem digits_calls (n : Int) (h1 : -9223372036854775808 ≤ n) (h2 : n ≤ 9223372036854775807) (w : World) :
    Calls Tryz.prog 132 #[.int .i64 n] w fun e w' => e = .returned (.string ⟨(Lib.itoa n).toArray⟩) ∧ w = w' := by
  by_cases h0 : n = 0
  · subst h0
    have e : (⟨(Lib.itoa 0).toArray⟩ : ByteArray) = ⟨#[48]⟩ := by
      have : Lib.itoa 0 = [48] := by
        rw [Lib.itoa, if_neg (by omega)]
        exact Lib.decDigits_one (i := 0) (by omega)
      rw [this]
    rw [e]
    go_enter Tryz.func132, Tryz.ntmps132
    go_wp2
    go_ret
    exact ⟨rfl, rfl⟩
  · rcases Int.lt_or_le n 0 with h | h
    · exact digits_neg n.natAbs (by omega) (by omega) n (by omega) w
    · have := digits_pos n.toNat (by omega) (by omega) w
      rwa [show ((n.toNat : Nat) : Int) = n from by omega] at this

end Go.Proofs.YtemceefalkfneaaGreatDoor
