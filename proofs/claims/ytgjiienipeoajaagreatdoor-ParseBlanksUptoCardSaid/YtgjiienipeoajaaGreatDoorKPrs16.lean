/- Parts, joined: Values as data of any make. Plain. No condition. utf: digit, unit, paired, refused. Condition: a text of at most 10^9 bytes. -/
import Derived.Test.YtgjiienipeoajaaGreatDoorProg
import Derived.Test.YtgjiienipeoajaaGreatDoorKPrs1
import Derived.Test.YtgjiienipeoajaaGreatDoorKPrs4
import Derived.Test.YtgjiienipeoajaaGreatDoorKPrs7
import Derived.Test.YtgjiienipeoajaaGreatDoorKPrs11
/- Values as data of any make. Plain. No condition. -/
namespace Go.Proofs.YtgjiienipeoajaaGreatDoor
open Go.RowKit

mutual
def dV : Val → D
  | .mk k b n t l o => .agg [.leaf (.int .i64 k), .leaf (.bool b), .leaf (.int .i64 n), .leaf (.string t), .row 6 (dL l), .row 7 (dO o)]
def dL : List Val → List D
  | [] => []
  | v :: r => dV v :: dL r
def dO : List (ByteArray × Val) → List D
  | [] => []
  | p :: r => dP p :: dO r
def dP : ByteArray × Val → D
  | (key, v) => .agg [.leaf (.string key), dV v]
end

theorem dL_map : ∀ l, dL l = l.map dV
  | [] => rfl
  | v :: r => by simp [dL, dL_map r]
theorem dO_map : ∀ l, dO l = l.map dP
  | [] => rfl
  | v :: r => by simp [dO, dO_map r]
theorem dV_cells (v : Val) : (dV v).cells = 6 := by
  obtain ⟨k, b, n, t, l, o⟩ := v
  rfl
theorem dP_cells (p : ByteArray × Val) : (dP p).cells = 7 := by
  obtain ⟨k, v⟩ := p
  simp only [dP, D.cells, cellsA, dV_cells]
theorem dL_cells (l : List Val) : ∀ d ∈ dL l, d.cells = 6 := by
  rw [dL_map]
  intro d hd
  obtain ⟨v, _, rfl⟩ := List.mem_map.1 hd
  exact dV_cells v
theorem dO_cells (l : List (ByteArray × Val)) : ∀ d ∈ dO l, d.cells = 7 := by
  rw [dO_map]
  intro d hd
  obtain ⟨v, _, rfl⟩ := List.mem_map.1 hd
  exact dP_cells v
theorem dL_len (l : List Val) : (dL l).length = l.length := by rw [dL_map, List.length_map]
theorem dO_len (l : List (ByteArray × Val)) : (dO l).length = l.length := by rw [dO_map, List.length_map]

theorem HoldsA.six {w : World} {B : Nat} {a b c d : Value} {e f : D} {cs : List Value} :
    HoldsA w B [.leaf a, .leaf b, .leaf c, .leaf d, e, f] cs ↔ ∃ c4 c5, cs = [a, b, c, d] ++ (c4 ++ c5) ∧ a.oneCell' = true ∧ b.oneCell' = true ∧ c.oneCell' = true ∧ d.oneCell' = true ∧ Holds w B e c4 ∧ Holds w B f c5 := by
  constructor
  · rintro ⟨_, _, rfl, ⟨rfl, ha⟩, _, _, rfl, ⟨rfl, hb⟩, _, _, rfl, ⟨rfl, hc⟩, _, _, rfl, ⟨rfl, hd⟩, c4, _, rfl, h4, c5, _, rfl, h5, rfl⟩
    exact ⟨c4, c5, by simp, ha, hb, hc, hd, h4, h5⟩
  · rintro ⟨c4, c5, rfl, ha, hb, hc, hd, h4, h5⟩
    exact ⟨[a], _, rfl, ⟨rfl, ha⟩, [b], _, rfl, ⟨rfl, hb⟩, [c], _, rfl, ⟨rfl, hc⟩, [d], _, rfl, ⟨rfl, hd⟩, c4, _, rfl, h4, c5, [], by simp, h5, rfl⟩

theorem HoldsA.toL {w : World} {B : Nat} {g : Nat} : ∀ {l : List Val}, (∀ v ∈ l, ∀ cs, Holds w B (dV v) cs → HoldsV w B v cs) → ∀ {ns : List Value} {off : Nat}, HoldsA w B (dL l) ns → (∀ j u, ns[j]? = some u → w.cell? ⟨g, off + j, none⟩ = some u) → HoldsL w B l g off
  | [], _, _, _, _, _ => by simp [HoldsL]
  | v :: r, ih, ns, off, h, hc => by
    obtain ⟨c1, c2, rfl, h1, h2⟩ := h
    have hl : c1.length = 6 := h1.len.1.trans (dV_cells v)
    simp only [HoldsL]
    refine ⟨⟨c1, ih v (by simp) c1 h1, fun j u hu => hc j u (by rw [List.getElem?_append_left (List.getElem?_eq_some_iff.1 hu).1]; exact hu)⟩, HoldsA.toL (fun x hx => ih x (by simp [hx])) h2 (fun j u hu => ?_)⟩
    rw [show off + 6 + j = off + (6 + j) from by omega]
    refine hc (6 + j) u ?_
    rw [List.getElem?_append_right (by omega), hl, show 6 + j - 6 = j from by omega]
    exact hu
theorem HoldsA.toO {w : World} {B : Nat} {g : Nat} : ∀ {l : List (ByteArray × Val)}, (∀ m ∈ l, ∀ cs, Holds w B (dV m.2) cs → HoldsV w B m.2 cs) → ∀ {ns : List Value} {off : Nat}, HoldsA w B (dO l) ns → (∀ j u, ns[j]? = some u → w.cell? ⟨g, off + j, none⟩ = some u) → HoldsO w B l g off
  | [], _, _, _, _, _ => by simp [HoldsO]
  | (key, v) :: r, ih, ns, off, h, hc => by
    obtain ⟨c1, c2, rfl, h1, h2⟩ := h
    obtain ⟨_, c3, rfl, ⟨rfl, _⟩, cv, c4, rfl, h3, rfl⟩ := h1
    have hl : cv.length = 6 := h3.len.1.trans (dV_cells v)
    simp only [HoldsO, HoldsP]
    refine ⟨⟨by have := hc 0 (.string key) rfl; simpa using this, cv, ih (key, v) (by simp) cv h3, fun j u hu => ?_⟩, HoldsA.toO (fun x hx => ih x (by simp [hx])) h2 (fun j u hu => ?_)⟩
    · have h5 := (List.getElem?_eq_some_iff.1 hu).1
      rw [show off + 1 + j = off + (j + 1) from by omega]
      refine hc (j + 1) u ?_
      simp only [List.append_nil, List.cons_append, List.nil_append, List.getElem?_cons_succ]
      rw [List.getElem?_append_left h5]; exact hu
    · rw [show off + 7 + j = off + (6 + j + 1) from by omega]
      refine hc (6 + j + 1) u ?_
      simp only [List.append_nil, List.cons_append, List.nil_append, List.getElem?_cons_succ]
      rw [List.getElem?_append_right (by omega), hl, show 6 + j - 6 = j from by omega]
      exact hu
theorem holdsV_of {w : World} {B : Nat} : ∀ (v : Val) cs, Holds w B (dV v) cs → HoldsV w B v cs := by
  refine Val.ind ?_
  intro k b n t l o hl ho cs h
  simp only [dV, Holds] at h
  obtain ⟨c4, c5, rfl, _, _, _, _, ⟨a4, n4, rfl, _, ns4, h4, i4⟩, ⟨a5, n5, rfl, _, ns5, h5, i5⟩⟩ := HoldsA.six.1 h
  simp only [HoldsV]
  refine ⟨a4, n4, a5, n5, by simp [cells6, dL_len, dO_len], ?_, ?_⟩
  · rcases i4 with e | ⟨g, off, e, hg, hc⟩
    · refine .inl ?_
      cases l with
      | nil => rfl
      | cons x r => simp [dL] at e
    · exact .inr ⟨g, off, e, hg, HoldsA.toL hl h4 hc⟩
  · rcases i5 with e | ⟨g, off, e, hg, hc⟩
    · refine .inl ?_
      cases o with
      | nil => rfl
      | cons x r => simp [dO] at e
    · exact .inr ⟨g, off, e, hg, HoldsA.toO ho h5 hc⟩

theorem HoldsA.ofL {w : World} {B : Nat} {g : Nat} : ∀ {l : List Val}, (∀ v ∈ l, ∀ cs, HoldsV w B v cs → Holds w B (dV v) cs) → ∀ {off : Nat}, HoldsL w B l g off → ∃ ns, HoldsA w B (dL l) ns ∧ ∀ j u, ns[j]? = some u → w.cell? ⟨g, off + j, none⟩ = some u
  | [], _, _, _ => ⟨[], rfl, fun j u h => by simp at h⟩
  | v :: r, ih, off, h => by
    simp only [HoldsL] at h
    obtain ⟨⟨cs, h1, hc⟩, h2⟩ := h
    have h1' := ih v (by simp) cs h1
    have hl : cs.length = 6 := h1'.len.1.trans (dV_cells v)
    obtain ⟨ns, h3, h4⟩ := HoldsA.ofL (fun x hx => ih x (by simp [hx])) h2
    refine ⟨cs ++ ns, ⟨cs, ns, rfl, h1', h3⟩, fun j u hu => ?_⟩
    by_cases hj : j < 6
    · rw [List.getElem?_append_left (by omega)] at hu
      exact hc j u hu
    · rw [List.getElem?_append_right (by omega), hl] at hu
      have := h4 (j - 6) u hu
      rwa [show off + 6 + (j - 6) = off + j from by omega] at this
theorem HoldsA.ofO {w : World} {B : Nat} {g : Nat} : ∀ {l : List (ByteArray × Val)}, (∀ m ∈ l, ∀ cs, HoldsV w B m.2 cs → Holds w B (dV m.2) cs) → ∀ {off : Nat}, HoldsO w B l g off → ∃ ns, HoldsA w B (dO l) ns ∧ ∀ j u, ns[j]? = some u → w.cell? ⟨g, off + j, none⟩ = some u
  | [], _, _, _ => ⟨[], rfl, fun j u h => by simp at h⟩
  | (key, v) :: r, ih, off, h => by
    simp only [HoldsO, HoldsP] at h
    obtain ⟨⟨h0, cs, h1, hc⟩, h2⟩ := h
    have h1' := ih (key, v) (by simp) cs h1
    have hl : cs.length = 6 := h1'.len.1.trans (dV_cells v)
    obtain ⟨ns, h3, h4⟩ := HoldsA.ofO (fun x hx => ih x (by simp [hx])) h2
    refine ⟨(.string key :: cs) ++ ns, ⟨.string key :: cs, ns, rfl, ⟨[.string key], cs, rfl, ⟨rfl, rfl⟩, cs, [], by simp, h1', rfl⟩, h3⟩, fun j u hu => ?_⟩
    match j, hu with
    | 0, hu =>
      simp at hu
      subst hu
      exact h0
    | j + 1, hu =>
      simp only [List.cons_append, List.getElem?_cons_succ] at hu
      by_cases hj : j < 6
      · rw [List.getElem?_append_left (by omega)] at hu
        have := hc j u hu
        rwa [show off + 1 + j = off + (j + 1) from by omega] at this
      · rw [List.getElem?_append_right (by omega), hl] at hu
        have := h4 (j - 6) u hu
        rwa [show off + 7 + (j - 6) = off + (j + 1) from by omega] at this
theorem holds_of_V {w : World} {B : Nat} : ∀ (v : Val) cs, HoldsV w B v cs → Holds w B (dV v) cs := by
  refine Val.ind ?_
  intro k b n t l o hl ho cs h
  simp only [HoldsV] at h
  obtain ⟨la, lc, oa, oc, rfl, h1, h2⟩ := h
  simp only [dV, Holds]
  refine HoldsA.six.2 ⟨[.slice la l.length lc], [.slice oa o.length oc], rfl, rfl, rfl, rfl, rfl, ?_, ?_⟩
  · rcases h1 with rfl | ⟨g, off, e, hg, h1⟩
    · exact ⟨la, lc, rfl, dL_cells _, [], rfl, .inl rfl⟩
    · obtain ⟨ns, h3, h4⟩ := HoldsA.ofL hl h1
      exact ⟨la, lc, by rw [dL_len], dL_cells _, ns, h3, .inr ⟨g, off, e, hg, h4⟩⟩
  · rcases h2 with rfl | ⟨g, off, e, hg, h2⟩
    · exact ⟨oa, oc, rfl, dO_cells _, [], rfl, .inl rfl⟩
    · obtain ⟨ns, h3, h4⟩ := HoldsA.ofO ho h2
      exact ⟨oa, oc, by rw [dO_len], dO_cells _, ns, h3, .inr ⟨g, off, e, hg, h4⟩⟩
theorem fresh_of_V {w w' : World} {v : Val} {cs : List Value} (h : FreshV w w' v cs) : Fresh w.heap.size w' (dV v) cs := fun w'' h1 h2 => holds_of_V v cs (h w'' h1 h2)
theorem freshV_of {w w' : World} {v : Val} {cs : List Value} (h : Fresh w.heap.size w' (dV v) cs) : FreshV w w' v cs := fun w'' h1 h2 => holdsV_of v cs (h w'' h1 h2)
end Go.Proofs.YtgjiienipeoajaaGreatDoor

/- utf: digit, unit, paired, refused. Condition: a text of at most 10^9 bytes. -/
namespace Go.Proofs.YtgjiienipeoajaaGreatDoor
open Go Go.RowKit

set_option maxRecDepth 100000 in
set_option maxHeartbeats 2000000 in
theorem dgt_yes {c : UInt8} {d : Nat} (h : hexD c = some d) (w : World) : Calls Tryz.prog 163 #[.int .u8 c.toNat] w fun e w' => e = .returned (.tuple #[.int .i32 d, .bool true]) ∧ w = w' := by
  have hcl := byte_lt c
  unfold hexD at h
  split at h
  · rename_i hr
    obtain ⟨h1, h2⟩ := hr
    have e : (d : Int) = (c.toNat : Int) - 48 := by have := Option.some.inj h; omega
    have l1 : (48 : Int) ≤ (c.toNat : Int) := by omega
    have l2 : (c.toNat : Int) ≤ 57 := by omega
    rw [e]
    clear h e h1 h2
    go_enter Tryz.func163, Tryz.ntmps163
    go_wp2
    go_ret2
    exact ⟨rfl, rfl⟩
  split at h
  · rename_i hn hr
    obtain ⟨h1, h2⟩ := hr
    have e : (d : Int) = (c.toNat : Int) - 97 + 10 := by have := Option.some.inj h; omega
    have l0 : ¬((c.toNat : Int) ≤ 57) := by omega
    have l1 : (97 : Int) ≤ (c.toNat : Int) := by omega
    have l2 : (c.toNat : Int) ≤ 102 := by omega
    rw [e]
    clear h e h1 h2 hn
    go_enter Tryz.func163, Tryz.ntmps163
    go_wp2
    go_ret2
    exact ⟨rfl, rfl⟩
  split at h
  · rename_i hn1 hn hr
    obtain ⟨h1, h2⟩ := hr
    have e : (d : Int) = (c.toNat : Int) - 65 + 10 := by have := Option.some.inj h; omega
    have l0 : ¬((c.toNat : Int) ≤ 57) := by omega
    have l3 : ¬((97 : Int) ≤ (c.toNat : Int)) := by omega
    have l1 : (65 : Int) ≤ (c.toNat : Int) := by omega
    have l2 : (c.toNat : Int) ≤ 70 := by omega
    rw [e]
    clear h e h1 h2 hn hn1
    go_enter Tryz.func163, Tryz.ntmps163
    go_wp2
    go_ret2
    exact ⟨rfl, rfl⟩
  · cases h
set_option maxRecDepth 100000 in
set_option maxHeartbeats 2000000 in
theorem dgt_no {c : UInt8} (h : hexD c = none) (w : World) : Calls Tryz.prog 163 #[.int .u8 c.toNat] w fun e w' => e = .returned (.tuple #[.int .i32 0, .bool false]) ∧ w = w' := by
  have hcl := byte_lt c
  unfold hexD at h
  split at h
  · cases h
  split at h
  · cases h
  split at h
  · cases h
  rename_i h1 h2 h3
  by_cases a1 : (48 : Int) ≤ (c.toNat : Int) <;> by_cases a2 : (c.toNat : Int) ≤ 57 <;> by_cases a3 : (97 : Int) ≤ (c.toNat : Int) <;> by_cases a4 : (c.toNat : Int) ≤ 102 <;> by_cases a5 : (65 : Int) ≤ (c.toNat : Int) <;> by_cases a6 : (c.toNat : Int) ≤ 70
  all_goals first | (exfalso; omega) | (clear h h1 h2 h3; go_enter Tryz.func163, Tryz.ntmps163; go_wp2; go_ret2; exact ⟨rfl, rfl⟩)
theorem refused_calls (c : UInt8) (w : World) : Calls Tryz.prog 128 #[.int .u8 c.toNat] w fun e w' => e = .returned (.int .i64 (if c.toNat < 32 then 4 else 3)) ∧ w = w' := by
  have hcl := byte_lt c
  by_cases h : c.toNat < 32
  · rw [if_pos h]
    have h' : (c.toNat : Int) < 32 := by omega
    clear h
    go_enter Tryz.func128, Tryz.ntmps128
    go_wp2
    go_ret
    exact ⟨rfl, rfl⟩
  · rw [if_neg h]
    have h' : ¬((c.toNat : Int) < 32) := by omega
    clear h
    go_enter Tryz.func128, Tryz.ntmps128
    go_wp2
    go_ret
    exact ⟨rfl, rfl⟩

theorem ofInt_i32 (a : Nat) (ha : a < 2147483648) : (BitVec.ofInt 32 (a : Int)).toNat = a := by
  rw [BitVec.ofInt_natCast, BitVec.toNat_ofNat]; exact Nat.mod_eq_of_lt (by omega)
theorem or16 {n d : Nat} (hn : n < 4096) (hd : d < 16) : bits .or .i32 ((n : Int) * 16) (d : Int) = ((16 * n + d : Nat) : Int) := by
  have e : (n : Int) * 16 = ((n * 16 : Nat) : Int) := by omega
  have h : n * 16 ||| d = n * 16 + d := by
    have := Nat.shiftLeft_add_eq_or_of_lt (i := 4) (b := d) (by omega) n
    rw [Nat.shiftLeft_eq] at this
    exact this.symm
  rw [e]
  show IntKind.i32.wrap ((BitVec.ofInt 32 ((n * 16 : Nat) : Int) ||| BitVec.ofInt 32 (d : Int)).toNat : Int) = _
  rw [BitVec.toNat_or, ofInt_i32 _ (by omega), ofInt_i32 _ (by omega), h, IntKind.wrap_i32]
  omega
/-- What unit hands back. -/
def unitR (u : Option Nat) : Value := match u with
  | some n => .tuple #[.int .i32 n, .bool true]
  | none => .tuple #[.int .i32 0, .bool false]
set_option maxRecDepth 100000 in
set_option maxHeartbeats 4000000 in
theorem unit_calls (t : ByteArray) (w : World) (hs : t.size ≤ 1000000000) : Calls Tryz.prog 148 #[.string t] w fun e w' => e = .returned (unitR (unitL t.data.toList)) ∧ w = w' := by
  have hlen := size_toList t
  by_cases h6 : t.size < 6
  · have e : unitL t.data.toList = none := by unfold unitL; rw [if_pos (by omega)]
    rw [e]
    have l : (t.size : Int) < 6 := by omega
    clear e hlen
    go_enter Tryz.func148, Tryz.ntmps148
    go_wp2
    go_ret2
    exact ⟨rfl, rfl⟩
  have l6 : ¬((t.size : Int) < 6) := by omega
  have q0 : 0 < t.size := by omega
  have q1 : 1 < t.size := by omega
  obtain ⟨a, ha⟩ : ∃ a, t[0] = a := ⟨_, rfl⟩
  obtain ⟨b, hb⟩ : ∃ b, t[1] = b := ⟨_, rfl⟩
  have ga : t.data.toList[0]? = some a := by rw [get_byte t q0, ha]
  have gb : t.data.toList[1]? = some b := by rw [get_byte t q1, hb]
  have hal := byte_lt a
  have hbl := byte_lt b
  have ne : ∀ (c : UInt8) (n : Nat), n < 256 → c ≠ UInt8.ofNat n → ((c.toNat : Int) == (n : Int)) = false := fun c n hn h => by rw [byte_eq hn]; simpa using h
  by_cases h92 : a = 92
  rotate_left
  · have e : unitL t.data.toList = none := by unfold unitL; rw [if_pos]; right; left; rw [ga]; simpa using h92
    have e1 := ne a 92 (by decide) h92
    rw [e]
    clear e hlen ga gb ne h92 h6
    go_enter Tryz.func148, Tryz.ntmps148
    go_wp2
    go_ret2
    exact ⟨rfl, rfl⟩
  by_cases h117 : b = 117
  rotate_left
  · have e : unitL t.data.toList = none := by unfold unitL; rw [if_pos]; right; right; rw [gb]; simpa using h117
    have e1 := ne b 117 (by decide) h117
    rw [e]
    subst h92
    clear e hlen ga gb ne h117 h6
    go_enter Tryz.func148, Tryz.ntmps148
    go_wp2
    go_ret2
    exact ⟨rfl, rfl⟩
  subst h92 h117
  have e : unitL t.data.toList = hexF (t.data.toList.drop 2) 4 0 := by
    unfold unitL
    rw [if_neg]
    rw [ga, gb]
    simp; omega
  rw [e]
  obtain ⟨F, hF⟩ : ∃ F, hexF (t.data.toList.drop 2) 4 0 = F := ⟨_, rfl⟩
  rw [hF]
  have H0 := Lib.hid hF
  clear e hF ga gb ne hlen
  go_enter Tryz.func148, Tryz.ntmps148
  go_wp2
  go_loop [4, 5] (fun x i => ∃ k n : Nat, 2 ≤ k ∧ k ≤ 6 ∧ i = .int .i64 k ∧ x = .int .i32 n ∧ n < 16 ^ (k - 2) ∧ Hid (hexF (t.data.toList.drop k) (6 - k) n = F)) (fun _ i => 6 - (intOf i).toNat)
  case atStart => exact ⟨2, 0, by omega, by omega, rfl, rfl, by decide, H0⟩
  case round =>
    obtain ⟨k, n, hk2, hk6, rfl, rfl, hn, hf⟩ := hrel
    clear H0
    by_cases hlt : k < 6
    · have hkt : k < t.size := by omega
      obtain ⟨c, hc⟩ : ∃ c, t[k] = c := ⟨_, rfl⟩
      have hg : t.data.toList[k]? = some c := by rw [get_byte t hkt, hc]
      have hcl := byte_lt c
      have hn' : n < 4096 := by
        have : 16 ^ (k - 2) ≤ 16 ^ 3 := Nat.pow_le_pow_right (by decide) (by omega)
        omega
      have hf' := hf.out
      rw [drop_at hg, show 6 - k = (6 - (k + 1)) + 1 from by omega] at hf'
      simp only [hexF] at hf'
      cases hd : hexD c with
      | none =>
        rw [hd] at hf'
        subst hf'
        have hD := fun W => dgt_no hd W
        have HD := Lib.hid hD
        clear hD
        clear hf hd hg
        go_wp2_with (fail)
        with_reducible refine (HD.out _).mono ?_
        rintro e w1 ⟨rfl, rfl⟩
        go_wp2
        go_ret2
        exact ⟨rfl, rfl⟩
      | some d =>
        rw [hd] at hf'
        simp only at hf'
        have hD := fun W => dgt_yes hd W
        have hd16 := hexD_lt hd
        have HF := Lib.hid hf'
        have hpow : 16 * n + d < 16 ^ (k + 1 - 2) := by
          rw [show k + 1 - 2 = (k - 2) + 1 from by omega, Nat.pow_succ]; omega
        have HP := Lib.hid hpow
        have HD := Lib.hid hD
        clear hD
        clear hf hd hg hf' hn hpow
        go_wp2_with (fail)
        with_reducible refine (HD.out _).mono ?_
        rintro e w1 ⟨rfl, rfl⟩
        go_wp2
        go_round
        case rel => exact ⟨k + 1, 16 * n + d, by omega, by omega, by go_num, by rw [or16 (by omega) (by omega)], HP.out, HF⟩
        case measure => simp [intOf]; omega
    · obtain rfl : k = 6 := by omega
      have hf' := hf.out
      have e : hexF (t.data.toList.drop 6) (6 - 6) n = some n := by cases t.data.toList.drop 6 <;> rfl
      rw [e] at hf'
      subst hf'
      clear hf e
      go_wp2
      go_ret2
      exact ⟨rfl, rfl⟩
end Go.Proofs.YtgjiienipeoajaaGreatDoor
