/- Parts, joined: Values as data of any make. Plain. No condition. commonplaceref01.Code: an escape's rune. No condition. Why a value may not be: the reference's function, over an object's members. Condition: a bulk of at most 10^9. Why a value may not be: the reference's function, of every value. Condition: a bulk of at most 10^9. When a value has nothing. Plain. No condition. The tables that the rows list: what they give the walks, and a world for the witnesses. No condition. -/
import Derived.Test.YtjjbbnodmpemiaaGreatDoorProg
import Derived.WalkKit
import Derived.Below
import Derived.Lib.RuneBytes
import Derived.Lib.Hide
import Derived.IntWalk
import Derived.Laws.IdiomStrings
import Derived.Test.YtjjbbnodmpemiaaGreatDoorChecked
import Derived.Test.YtjjbbnodmpemiaaGreatDoorRows
import Derived.Lib.LaidIn
import Derived.Lib.LaidU8T
import Derived.LaidSub
import Derived.Lib.ItoaNum
import Derived.Deep.DeepHandedRow
import Derived.ProofKit
import Derived.Test.YtjjbbnodmpemiaaGreatDoorKPull2
import Derived.Test.YtjjbbnodmpemiaaGreatDoorKPull4
import Derived.Test.YtjjbbnodmpemiaaGreatDoorKPull17
/- Values as data of any make. Plain. No condition. -/
namespace Go.Proofs.YtjjbbnodmpemiaaGreatDoor
open Go.RowKit

mutual
def dV : Val → D
  | .mk k b n t l o => .agg [.leaf (.int .i64 k), .leaf (.bool b), .leaf (.int .i64 n), .leaf (.string t), .row 6 (dL l), .row 7 (dO o)]
def dL : List Val → List D
  | [] => []
  | v :: r => dV v :: dL r
def dO : List (ByteArray × Val) → List D
  | [] => []
  | p :: r => dP p :: dO r
def dP : ByteArray × Val → D
  | (key, v) => .agg [.leaf (.string key), dV v]
end

theorem dL_map : ∀ l, dL l = l.map dV
  | [] => rfl
  | v :: r => by simp [dL, dL_map r]
theorem dO_map : ∀ l, dO l = l.map dP
  | [] => rfl
  | v :: r => by simp [dO, dO_map r]
theorem dV_cells (v : Val) : (dV v).cells = 6 := by
  obtain ⟨k, b, n, t, l, o⟩ := v
  rfl
theorem dP_cells (p : ByteArray × Val) : (dP p).cells = 7 := by
  obtain ⟨k, v⟩ := p
  simp only [dP, D.cells, cellsA, dV_cells]
theorem dL_cells (l : List Val) : ∀ d ∈ dL l, d.cells = 6 := by
  rw [dL_map]
  intro d hd
  obtain ⟨v, _, rfl⟩ := List.mem_map.1 hd
  exact dV_cells v
theorem dO_cells (l : List (ByteArray × Val)) : ∀ d ∈ dO l, d.cells = 7 := by
  rw [dO_map]
  intro d hd
  obtain ⟨v, _, rfl⟩ := List.mem_map.1 hd
  exact dP_cells v
theorem dL_len (l : List Val) : (dL l).length = l.length := by rw [dL_map, List.length_map]
theorem dO_len (l : List (ByteArray × Val)) : (dO l).length = l.length := by rw [dO_map, List.length_map]

theorem HoldsA.six {w : World} {B : Nat} {a b c d : Value} {e f : D} {cs : List Value} :
    HoldsA w B [.leaf a, .leaf b, .leaf c, .leaf d, e, f] cs ↔ ∃ c4 c5, cs = [a, b, c, d] ++ (c4 ++ c5) ∧ a.oneCell' = true ∧ b.oneCell' = true ∧ c.oneCell' = true ∧ d.oneCell' = true ∧ Holds w B e c4 ∧ Holds w B f c5 := by
  constructor
  · rintro ⟨_, _, rfl, ⟨rfl, ha⟩, _, _, rfl, ⟨rfl, hb⟩, _, _, rfl, ⟨rfl, hc⟩, _, _, rfl, ⟨rfl, hd⟩, c4, _, rfl, h4, c5, _, rfl, h5, rfl⟩
    exact ⟨c4, c5, by simp, ha, hb, hc, hd, h4, h5⟩
  · rintro ⟨c4, c5, rfl, ha, hb, hc, hd, h4, h5⟩
    exact ⟨[a], _, rfl, ⟨rfl, ha⟩, [b], _, rfl, ⟨rfl, hb⟩, [c], _, rfl, ⟨rfl, hc⟩, [d], _, rfl, ⟨rfl, hd⟩, c4, _, rfl, h4, c5, [], by simp, h5, rfl⟩

theorem HoldsA.toL {w : World} {B : Nat} {g : Nat} : ∀ {l : List Val}, (∀ v ∈ l, ∀ cs, Holds w B (dV v) cs → HoldsV w B v cs) → ∀ {ns : List Value} {off : Nat}, HoldsA w B (dL l) ns → (∀ j u, ns[j]? = some u → w.cell? ⟨g, off + j, none⟩ = some u) → HoldsL w B l g off
  | [], _, _, _, _, _ => by simp [HoldsL]
  | v :: r, ih, ns, off, h, hc => by
    obtain ⟨c1, c2, rfl, h1, h2⟩ := h
    have hl : c1.length = 6 := h1.len.1.trans (dV_cells v)
    simp only [HoldsL]
    refine ⟨⟨c1, ih v (by simp) c1 h1, fun j u hu => hc j u (by rw [List.getElem?_append_left (List.getElem?_eq_some_iff.1 hu).1]; exact hu)⟩, HoldsA.toL (fun x hx => ih x (by simp [hx])) h2 (fun j u hu => ?_)⟩
    rw [show off + 6 + j = off + (6 + j) from by omega]
    refine hc (6 + j) u ?_
    rw [List.getElem?_append_right (by omega), hl, show 6 + j - 6 = j from by omega]
    exact hu
theorem HoldsA.toO {w : World} {B : Nat} {g : Nat} : ∀ {l : List (ByteArray × Val)}, (∀ m ∈ l, ∀ cs, Holds w B (dV m.2) cs → HoldsV w B m.2 cs) → ∀ {ns : List Value} {off : Nat}, HoldsA w B (dO l) ns → (∀ j u, ns[j]? = some u → w.cell? ⟨g, off + j, none⟩ = some u) → HoldsO w B l g off
  | [], _, _, _, _, _ => by simp [HoldsO]
  | (key, v) :: r, ih, ns, off, h, hc => by
    obtain ⟨c1, c2, rfl, h1, h2⟩ := h
    obtain ⟨_, c3, rfl, ⟨rfl, _⟩, cv, c4, rfl, h3, rfl⟩ := h1
    have hl : cv.length = 6 := h3.len.1.trans (dV_cells v)
    simp only [HoldsO, HoldsP]
    refine ⟨⟨by have := hc 0 (.string key) rfl; simpa using this, cv, ih (key, v) (by simp) cv h3, fun j u hu => ?_⟩, HoldsA.toO (fun x hx => ih x (by simp [hx])) h2 (fun j u hu => ?_)⟩
    · have h5 := (List.getElem?_eq_some_iff.1 hu).1
      rw [show off + 1 + j = off + (j + 1) from by omega]
      refine hc (j + 1) u ?_
      simp only [List.append_nil, List.cons_append, List.nil_append, List.getElem?_cons_succ]
      rw [List.getElem?_append_left h5]; exact hu
    · rw [show off + 7 + j = off + (6 + j + 1) from by omega]
      refine hc (6 + j + 1) u ?_
      simp only [List.append_nil, List.cons_append, List.nil_append, List.getElem?_cons_succ]
      rw [List.getElem?_append_right (by omega), hl, show 6 + j - 6 = j from by omega]
      exact hu
theorem holdsV_of {w : World} {B : Nat} : ∀ (v : Val) cs, Holds w B (dV v) cs → HoldsV w B v cs := by
  refine Val.ind ?_
  intro k b n t l o hl ho cs h
  simp only [dV, Holds] at h
  obtain ⟨c4, c5, rfl, _, _, _, _, ⟨a4, n4, rfl, _, ns4, h4, i4⟩, ⟨a5, n5, rfl, _, ns5, h5, i5⟩⟩ := HoldsA.six.1 h
  simp only [HoldsV]
  refine ⟨a4, n4, a5, n5, by simp [cells6, dL_len, dO_len], ?_, ?_⟩
  · rcases i4 with e | ⟨g, off, e, hg, hc⟩
    · refine .inl ?_
      cases l with
      | nil => rfl
      | cons x r => simp [dL] at e
    · exact .inr ⟨g, off, e, hg, HoldsA.toL hl h4 hc⟩
  · rcases i5 with e | ⟨g, off, e, hg, hc⟩
    · refine .inl ?_
      cases o with
      | nil => rfl
      | cons x r => simp [dO] at e
    · exact .inr ⟨g, off, e, hg, HoldsA.toO ho h5 hc⟩

theorem HoldsA.ofL {w : World} {B : Nat} {g : Nat} : ∀ {l : List Val}, (∀ v ∈ l, ∀ cs, HoldsV w B v cs → Holds w B (dV v) cs) → ∀ {off : Nat}, HoldsL w B l g off → ∃ ns, HoldsA w B (dL l) ns ∧ ∀ j u, ns[j]? = some u → w.cell? ⟨g, off + j, none⟩ = some u
  | [], _, _, _ => ⟨[], rfl, fun j u h => by simp at h⟩
  | v :: r, ih, off, h => by
    simp only [HoldsL] at h
    obtain ⟨⟨cs, h1, hc⟩, h2⟩ := h
    have h1' := ih v (by simp) cs h1
    have hl : cs.length = 6 := h1'.len.1.trans (dV_cells v)
    obtain ⟨ns, h3, h4⟩ := HoldsA.ofL (fun x hx => ih x (by simp [hx])) h2
    refine ⟨cs ++ ns, ⟨cs, ns, rfl, h1', h3⟩, fun j u hu => ?_⟩
    by_cases hj : j < 6
    · rw [List.getElem?_append_left (by omega)] at hu
      exact hc j u hu
    · rw [List.getElem?_append_right (by omega), hl] at hu
      have := h4 (j - 6) u hu
      rwa [show off + 6 + (j - 6) = off + j from by omega] at this
theorem HoldsA.ofO {w : World} {B : Nat} {g : Nat} : ∀ {l : List (ByteArray × Val)}, (∀ m ∈ l, ∀ cs, HoldsV w B m.2 cs → Holds w B (dV m.2) cs) → ∀ {off : Nat}, HoldsO w B l g off → ∃ ns, HoldsA w B (dO l) ns ∧ ∀ j u, ns[j]? = some u → w.cell? ⟨g, off + j, none⟩ = some u
  | [], _, _, _ => ⟨[], rfl, fun j u h => by simp at h⟩
  | (key, v) :: r, ih, off, h => by
    simp only [HoldsO, HoldsP] at h
    obtain ⟨⟨h0, cs, h1, hc⟩, h2⟩ := h
    have h1' := ih (key, v) (by simp) cs h1
    have hl : cs.length = 6 := h1'.len.1.trans (dV_cells v)
    obtain ⟨ns, h3, h4⟩ := HoldsA.ofO (fun x hx => ih x (by simp [hx])) h2
    refine ⟨(.string key :: cs) ++ ns, ⟨.string key :: cs, ns, rfl, ⟨[.string key], cs, rfl, ⟨rfl, rfl⟩, cs, [], by simp, h1', rfl⟩, h3⟩, fun j u hu => ?_⟩
    match j, hu with
    | 0, hu =>
      simp at hu
      subst hu
      exact h0
    | j + 1, hu =>
      simp only [List.cons_append, List.getElem?_cons_succ] at hu
      by_cases hj : j < 6
      · rw [List.getElem?_append_left (by omega)] at hu
        have := hc j u hu
        rwa [show off + 1 + j = off + (j + 1) from by omega] at this
      · rw [List.getElem?_append_right (by omega), hl] at hu
        have := h4 (j - 6) u hu
        rwa [show off + 7 + (j - 6) = off + (j + 1) from by omega] at this
theorem holds_of_V {w : World} {B : Nat} : ∀ (v : Val) cs, HoldsV w B v cs → Holds w B (dV v) cs := by
  refine Val.ind ?_
  intro k b n t l o hl ho cs h
  simp only [HoldsV] at h
  obtain ⟨la, lc, oa, oc, rfl, h1, h2⟩ := h
  simp only [dV, Holds]
  refine HoldsA.six.2 ⟨[.slice la l.length lc], [.slice oa o.length oc], rfl, rfl, rfl, rfl, rfl, ?_, ?_⟩
  · rcases h1 with rfl | ⟨g, off, e, hg, h1⟩
    · exact ⟨la, lc, rfl, dL_cells _, [], rfl, .inl rfl⟩
    · obtain ⟨ns, h3, h4⟩ := HoldsA.ofL hl h1
      exact ⟨la, lc, by rw [dL_len], dL_cells _, ns, h3, .inr ⟨g, off, e, hg, h4⟩⟩
  · rcases h2 with rfl | ⟨g, off, e, hg, h2⟩
    · exact ⟨oa, oc, rfl, dO_cells _, [], rfl, .inl rfl⟩
    · obtain ⟨ns, h3, h4⟩ := HoldsA.ofO ho h2
      exact ⟨oa, oc, by rw [dO_len], dO_cells _, ns, h3, .inr ⟨g, off, e, hg, h4⟩⟩
theorem fresh_of_V {w w' : World} {v : Val} {cs : List Value} (h : FreshV w w' v cs) : Fresh w.heap.size w' (dV v) cs := fun w'' h1 h2 => holds_of_V v cs (h w'' h1 h2)
theorem freshV_of {w w' : World} {v : Val} {cs : List Value} (h : Fresh w.heap.size w' (dV v) cs) : FreshV w w' v cs := fun w'' h1 h2 => holdsV_of v cs (h w'' h1 h2)
end Go.Proofs.YtjjbbnodmpemiaaGreatDoor

/- commonplaceref01.Code: an escape's rune. No condition. -/
namespace Go.Proofs.YtjjbbnodmpemiaaGreatDoor
open Go.RowKit

/-- What the k-th escape's letter stands for. -/
def codeTab : List Int := [34, 92, 47, 8, 12, 10, 13, 9]

set_option maxHeartbeats 1000000 in
theorem RCode_calls (k : Nat) (c : Int) (h : codeTab[k]? = some c) (w : World) :
    Calls Tryz.prog 68 #[.int .i64 k] w fun e w' => e = .returned (.int .i64 c) ∧ Below w.heap.size w w' := by
  have hk : k < 8 := (List.getElem?_eq_some_iff.1 h).1
  rcases (by omega : k = 0 ∨ k = 1 ∨ k = 2 ∨ k = 3 ∨ k = 4 ∨ k = 5 ∨ k = 6 ∨ k = 7) with rfl | rfl | rfl | rfl | rfl | rfl | rfl | rfl
  all_goals
    (obtain rfl := Option.some.inj h
     clear h hk
     go_enter Tryz.func68, Tryz.ntmps68
     go_wp2
     go_ret
     exact ⟨rfl, (Below.refl _ _).alloc (Nat.le_refl _) _⟩)

end Go.Proofs.YtjjbbnodmpemiaaGreatDoor

/- Why a value may not be: the reference's function, over an object's members. Condition: a bulk of at most 10^9. -/
namespace Go.Proofs.YtjjbbnodmpemiaaGreatDoor
open Go.RowKit

set_option maxHeartbeats 4000000 in
theorem mayR_obj (k : Int) (b : Bool) (n : Int) (t : ByteArray) (o : List (ByteArray × Val)) (la oa : Option Addr) (lc oc : Nat) (d : Int) (w : World) (g off : Nat) (hoa : o = [] ∨ (oa = some ⟨g, off, none⟩ ∧ g < w.heap.size ∧ HoldsO w w.heap.size o g off))
    (hb : bulkO o + t.size ≤ 1000000000) (h0 : 0 ≤ d) (h64 : d ≤ 64) (IH : ∀ m ∈ o, MayRC m.2) (hodd : oddB k b n t 0 o.length = false) (hval : validB t = true) :
    Calls Tryz.prog 76 #[.agg #[.int .i64 k, .bool b, .int .i64 n, .string t, .slice la 0 lc, .slice oa o.length oc], .int .i64 d] w fun e w' => e = .returned (.int .i64 (mayO o none (d + 1))) ∧ Below w.heap.size w w' := by
  have hlen : o.length ≤ 1000000000 := by have := bulkO_len o; omega
  have h64' : ¬ (64 < d) := by omega
  have H : Hid (mayO (o.drop 0) (lastKey o 0) (d + 1) = mayO o none (d + 1)) := by rw [List.drop_zero]; exact rfl
  go_enter Tryz.func76, Tryz.ntmps76
  go_wp2_with (first | (go_at_call 100; refine (bare_calls2 hodd _).mono ?_; rintro e w1 ⟨rfl, hb1⟩; obtain ⟨hc1, hf1⟩ := bcell hb1; have hz1 := hb1.size; simp only [World.size_alloc] at hz1; have hbw1 : Below w.heap.size w w1 := ((Below.refl _ _).alloc (Nat.le_refl _) _).trans (hb1.mono (by simp)); have hbox1 : w1.heap[w.heap.size]? = some (.cells #[.int .i64 k, .bool b, .int .i64 n, .string t, .slice la 0 lc, .slice oa o.length oc] 45 (0, 0)) := (hb1.block _ (by simp)).trans (heap_alloc_new _ _)) | (go_at_call 52; refine (RValid_calls2 hval _ (by omega)).mono ?_; rintro e w2 ⟨rfl, rfl⟩))
  clear hb1 hodd hc1 hf1 hz1
  go_loopw [5] (fun i wx => i = .int .i64 0 ∧ wx = w1) (fun _ _ => 0)
  case atStart => exact ⟨rfl, rfl⟩
  case round =>
    obtain ⟨rfl, rfl⟩ := hrel
    have hbx0 : w.heap.size < wr.heap.size := (Array.getElem?_eq_some_iff.1 hbox1).1
    have b40 : wr.cell? ⟨w.heap.size, 4, none⟩ = some (.slice la 0 lc) := by rw [Lib.cell_of_heap hbox1]; rfl
    go_wp2
    clear b40 hbx0
    rename World => w1
    go_loopw [7, 8] (fun q i wr => ∃ j : Nat, ∃ lk : ByteArray, j ≤ o.length ∧ i = .int .i64 j ∧ q = .string lk ∧ (0 < j → lastKey o j = some lk) ∧ Hid (mayO (o.drop j) (lastKey o j) (d + 1) = mayO o none (d + 1)) ∧ Below w.heap.size w wr ∧ wr.heap[w.heap.size]? = some (.cells #[.int .i64 k, .bool b, .int .i64 n, .string t, .slice la 0 lc, .slice oa o.length oc] 45 (0, 0))) (fun _ i _ => o.length - (intOf i).toNat)
    case atStart => exact ⟨0, ByteArray.empty, Nat.zero_le _, rfl, rfl, fun h => absurd h (by omega), H, hbw1, hbox1⟩
    case round =>
      obtain ⟨j, q, hj, rfl, rfl, hlk, hm, hbw, hbox⟩ := hrel
      clear H hbw1 hbox1
      have hbx : w.heap.size < wr.heap.size := (Array.getElem?_eq_some_iff.1 hbox).1
      have b5 : wr.cell? ⟨w.heap.size, 5, none⟩ = some (.slice oa o.length oc) := by rw [Lib.cell_of_heap hbox]; rfl
      have hz := hbw.size
      by_cases hlt : j < o.length
      · obtain ⟨rfl, hg, hL⟩ : oa = some ⟨g, off, none⟩ ∧ g < w.heap.size ∧ HoldsO w w.heap.size o g off := by
          rcases hoa with rfl | h
          · simp at hlt
          · exact h
        obtain ⟨⟨key, v⟩, hv⟩ : ∃ v, o[j]? = some v := ⟨_, List.getElem?_eq_getElem hlt⟩
        have hdrop : o.drop j = (key, v) :: o.drop (j + 1) := drop_of_get hv
        have hmem : (key, v) ∈ o := List.mem_of_getElem? hv
        have hbv := bulkO_mem hmem
        simp only at hbv
        have IHv := Lib.hid (IH (key, v) hmem)
        have hlast : lastKey o (j + 1) = some key := by simp [lastKey, hv]
        have Hlast := Lib.hid hlast
        have hm' := hm.out
        rw [hdrop] at hm'
        simp only [mayO, mayP, ← hlast] at hm'
        clear hm hdrop hmem IH hlast
        have hLr := hL.below hg hbw
        have hgr : g < wr.heap.size := by omega
        obtain ⟨k', b', n', t', l', o'⟩ := v
        obtain ⟨la', lc', oa', oc', hvs, c0, c1, c2, c3, c4, c5, c6⟩ := hLr.seven hv
        clear hL hLr hv hoa
        by_cases hval2 : validB key = true
        · rw [hval2] at hm'
          simp only [if_true] at hm'
          by_cases hjp : 0 < j
          · rw [hlk hjp] at hm'
            simp only at hm'
            have hgd : decide (0 < j) = true := by simpa using hjp
            clear hlk
            by_cases hle : leB key q = true
            · rw [if_pos hle] at hm'
              unfold leB at hle
              have Hm := Lib.hid hm'
              clear hm'
              go_wp2_with (go_at_call 52; refine (RValid_calls2 hval2 _ (by omega)).mono ?_; rintro e wv ⟨rfl, rfl⟩)
              go_ret
              exact ⟨by rw [← Hm.out]; rfl, hbw⟩
            · rw [if_neg hle] at hm'
              have hle' : (Op.bytesLess key.toList q.toList || key.toList == q.toList) = false := by simpa [leB] using hle
              clear hle
              obtain ⟨m, hmv⟩ : ∃ m, mayV (.mk k' b' n' t' l' o') (d + 1) = m := ⟨_, rfl⟩
              rw [hmv] at hm'
              have Hmv := Lib.hid hmv
              clear hmv
              by_cases hm0 : m = 0
              · rw [if_pos hm0] at hm'
                subst hm0
                have Hm := Lib.hid hm'
                clear hm'
                go_wp2_with (first | (go_at_call 52; refine (RValid_calls2 hval2 _ (by omega)).mono ?_; rintro e wv ⟨rfl, rfl⟩) | (go_at_call 76; refine (IHv.out _ (d + 1) _ (HoldsV.more (by omega) _ _ hvs) (by omega) (by omega) (by omega)).mono ?_; rintro e w3 ⟨he, hb3⟩; rw [Hmv.out] at he; subst he; have hbw3 : Below w.heap.size w w3 := hbw.trans (hb3.mono hz); have hbox3 := (hb3.block _ hbx).trans hbox))
                go_roundw
                case rel => exact ⟨j + 1, key, by omega, by go_num, rfl, fun _ => Hlast.out, Hm, hbw3, hbox3⟩
                case measure => simp [intOf]; omega
              · rw [if_neg hm0] at hm'
                have hm1 : (m == 0) = false := by simpa using hm0
                have hm2 : (m != 0) = true := by simpa using hm0
                have Hm := Lib.hid hm'
                clear hm'
                go_wp2_with (first | (go_at_call 52; refine (RValid_calls2 hval2 _ (by omega)).mono ?_; rintro e wv ⟨rfl, rfl⟩) | (go_at_call 76; refine (IHv.out _ (d + 1) _ (HoldsV.more (by omega) _ _ hvs) (by omega) (by omega) (by omega)).mono ?_; rintro e w3 ⟨he, hb3⟩; rw [Hmv.out] at he; subst he; have hbw3 : Below w.heap.size w w3 := hbw.trans (hb3.mono hz); have hbox3 := (hb3.block _ hbx).trans hbox))
                go_ret
                exact ⟨by rw [← Hm.out]; rfl, hbw3⟩
          · have hlk0 : lastKey o j = none := by
              obtain rfl : j = 0 := by omega
              rfl
            rw [hlk0] at hm'
            simp only at hm'
            have hgd : decide (0 < j) = false := by simpa using hjp
            have hk0 : j ≤ 0 := by omega
            clear hlk hlk0
            obtain ⟨m, hmv⟩ : ∃ m, mayV (.mk k' b' n' t' l' o') (d + 1) = m := ⟨_, rfl⟩
            rw [hmv] at hm'
            have Hmv := Lib.hid hmv
            clear hmv
            by_cases hm0 : m = 0
            · rw [if_pos hm0] at hm'
              subst hm0
              have Hm := Lib.hid hm'
              clear hm'
              go_wp2_with (first | (go_at_call 52; refine (RValid_calls2 hval2 _ (by omega)).mono ?_; rintro e wv ⟨rfl, rfl⟩) | (go_at_call 76; refine (IHv.out _ (d + 1) _ (HoldsV.more (by omega) _ _ hvs) (by omega) (by omega) (by omega)).mono ?_; rintro e w3 ⟨he, hb3⟩; rw [Hmv.out] at he; subst he; have hbw3 : Below w.heap.size w w3 := hbw.trans (hb3.mono hz); have hbox3 := (hb3.block _ hbx).trans hbox))
              go_roundw
              case rel => exact ⟨j + 1, key, by omega, by go_num, rfl, fun _ => Hlast.out, Hm, hbw3, hbox3⟩
              case measure => simp [intOf]; omega
            · rw [if_neg hm0] at hm'
              have hm1 : (m == 0) = false := by simpa using hm0
              have hm2 : (m != 0) = true := by simpa using hm0
              have Hm := Lib.hid hm'
              clear hm'
              go_wp2_with (first | (go_at_call 52; refine (RValid_calls2 hval2 _ (by omega)).mono ?_; rintro e wv ⟨rfl, rfl⟩) | (go_at_call 76; refine (IHv.out _ (d + 1) _ (HoldsV.more (by omega) _ _ hvs) (by omega) (by omega) (by omega)).mono ?_; rintro e w3 ⟨he, hb3⟩; rw [Hmv.out] at he; subst he; have hbw3 : Below w.heap.size w w3 := hbw.trans (hb3.mono hz); have hbox3 := (hb3.block _ hbx).trans hbox))
              go_ret
              exact ⟨by rw [← Hm.out]; rfl, hbw3⟩
        · have hvf : validB key = false := by simpa using hval2
          rw [hvf] at hm'
          have Hm := Lib.hid hm'
          clear hm' hval2 hlk
          go_wp2_with (go_at_call 52; refine (RValid_calls2 hvf _ (by omega)).mono ?_; rintro e wv ⟨rfl, rfl⟩)
          go_ret
          exact ⟨by rw [← Hm.out]; simp, hbw⟩
      · obtain rfl : j = o.length := by omega
        have hm' := hm.out
        rw [List.drop_length] at hm'
        have Hm := Lib.hid hm'
        clear hm hm' hlk hoa IH
        go_wp2
        go_ret
        exact ⟨by rw [← Hm.out]; rfl, hbw⟩

end Go.Proofs.YtjjbbnodmpemiaaGreatDoor

/- Why a value may not be: the reference's function, of every value. Condition: a bulk of at most 10^9. -/
namespace Go.Proofs.YtjjbbnodmpemiaaGreatDoor
open Go.RowKit

set_option maxHeartbeats 2000000 in
theorem mayR_calls : ∀ (v : Val), MayRC v := by
  refine Val.ind ?_
  intro k b n t l o ihl iho cs d w hV hb h0 h65
  simp only [HoldsV] at hV
  obtain ⟨la, lc, oa, oc, rfl, hL, hO⟩ := hV
  simp only [Val.bulk] at hb
  by_cases hodd : oddB k b n t l.length o.length = true
  · have hm : mayV (.mk k b n t l o) d = 9 := by simp only [mayV, hodd, if_true]
    rw [hm]
    clear hm ihl iho hL hO
    go_enter Tryz.func76, Tryz.ntmps76
    go_wp2_with (go_at_call 100; refine (bare_calls2 hodd _).mono ?_; rintro e w' ⟨rfl, hb1⟩)
    go_ret
    exact ⟨rfl, ((Below.refl _ _).alloc (Nat.le_refl _) _).trans (hb1.mono (by simp))⟩
  have hodd' : oddB k b n t l.length o.length = false := by simpa using hodd
  clear hodd
  by_cases h64 : 64 < d
  · have hm : mayV (.mk k b n t l o) d = 5 := by simp only [mayV, hodd', Bool.false_eq_true, if_false, h64, if_true]
    rw [hm]
    clear hm ihl iho hL hO
    go_enter Tryz.func76, Tryz.ntmps76
    go_wp2_with (go_at_call 100; refine (bare_calls2 hodd' _).mono ?_; rintro e w' ⟨rfl, hb1⟩)
    go_ret
    exact ⟨rfl, ((Below.refl _ _).alloc (Nat.le_refl _) _).trans (hb1.mono (by simp))⟩
  by_cases hval : validB t = true
  · obtain ⟨hk, ht, hl, ho⟩ := odd_parts hodd'
    by_cases hl0 : l = []
    · subst hl0
      have hm : mayV (.mk k b n t [] o) d = mayO o none (d + 1) := by
        simp only [mayV, hodd', Bool.false_eq_true, if_false, h64, hval, if_true, mayL]
      rw [hm]
      rcases hO with rfl | ⟨g, off, rfl, hg, hO⟩
      · exact mayR_obj k b n t [] la oa lc oc d w 0 0 (.inl rfl) (by simp only [bulkO] at hb ⊢; omega) h0 (by omega) iho hodd' hval
      · exact mayR_obj k b n t o la _ lc oc d w g off (.inr ⟨rfl, hg, hO⟩) (by omega) h0 (by omega) iho hodd' hval
    · have hl1 : 0 < l.length := List.length_pos_iff.2 hl0
      obtain rfl : o = [] := List.eq_nil_of_length_eq_zero (by omega)
      have hm : mayV (.mk k b n t l []) d = mayL l (d + 1) := by
        simp only [mayV, hodd', Bool.false_eq_true, if_false, h64, hval, if_true, mayO]
        split <;> simp_all
      rw [hm]
      rcases hL with rfl | ⟨g, off, rfl, hg, hL⟩
      · exact absurd rfl hl0
      · exact mayR_list k b n t l _ oa lc oc d w g off (.inr ⟨rfl, hg, hL⟩) (by omega) h0 (by omega) ihl hodd' hval
  · have hval' : validB t = false := by simpa using hval
    have hm : mayV (.mk k b n t l o) d = 3 := by simp only [mayV, hodd', Bool.false_eq_true, if_false, h64, hval']
    rw [hm]
    clear hm ihl iho hL hO hval
    go_enter Tryz.func76, Tryz.ntmps76
    go_wp2_with (first | (go_at_call 100; refine (bare_calls2 hodd' _).mono ?_; rintro e w1 ⟨rfl, hb1⟩; obtain ⟨hc1, hf1⟩ := bcell hb1; have hz1 := hb1.size; simp only [World.size_alloc] at hz1; have hbw1 : Below w.heap.size w w1 := ((Below.refl _ _).alloc (Nat.le_refl _) _).trans (hb1.mono (by simp))) | (go_at_call 52; refine (RValid_calls2 hval' _ (by omega)).mono ?_; rintro e w2 ⟨rfl, rfl⟩))
    go_ret
    exact ⟨rfl, hbw1⟩

/-- commonplaceref02.May -/
theorem RMay_calls (v : Val) (cs : List Value) (w : World) (hV : HoldsV w w.heap.size v cs) (hb : v.bulk ≤ 1000000000) :
    Calls Tryz.prog 53 #[.agg cs.toArray] w fun e w' => e = .returned (.int .i64 (mayV v 1)) ∧ Below w.heap.size w w' := by
  have hV' := hV
  obtain ⟨k, b, n, t, l, o⟩ := v
  simp only [HoldsV] at hV'
  obtain ⟨la, lc, oa, oc, rfl, _, _⟩ := hV'
  have hc := mayR_calls _ _ 1 (w.alloc (.cells #[.int .i64 k, .bool b, .int .i64 n, .string t, .slice la l.length lc, .slice oa o.length oc] 45)) (HoldsV.more (by simp) _ _ (hV.below ((Below.refl _ _).alloc (Nat.le_refl _) _))) hb (by omega) (by omega)
  generalize mayV _ _ = m at hc ⊢
  have H := Lib.hid hc
  clear hc hV
  go_enter Tryz.func53, Tryz.ntmps53
  go_wp2_with (go_at_call 76; refine (H.out).mono ?_; rintro e w' ⟨rfl, hb1⟩)
  go_ret
  exact ⟨rfl, ((Below.refl _ _).alloc (Nat.le_refl _) _).trans (hb1.mono (by simp))⟩

end Go.Proofs.YtjjbbnodmpemiaaGreatDoor

/- When a value has nothing. Plain. No condition. -/
namespace Go.Proofs.YtjjbbnodmpemiaaGreatDoor
open Go.RowKit
/-- Has a value nothing, not even a Kind? -/
def zero6B (k : Int) (b : Bool) (n : Int) (t : ByteArray) (ln on : Nat) : Bool := decide (k = 0) && !b && decide (n = 0) && t.toList.isEmpty && decide (ln = 0) && decide (on = 0)
end Go.Proofs.YtjjbbnodmpemiaaGreatDoor

/- The tables that the rows list: what they give the walks, and a world for the witnesses. No condition. -/
namespace Go.Proofs.YtjjbbnodmpemiaaGreatDoor
open Go.RowKit Go.ChangeShapes Go.WideShapes Go.ChangeAt

def tab32 : List Int := [0, 1, 28, 2, 29, 14, 24, 3, 30, 22, 20, 15, 25, 17, 4, 8, 31, 27, 13, 23, 21, 19, 16, 7, 26, 12, 18, 6, 11, 5, 10, 9]
def tab64 : List Int := [0, 1, 56, 2, 57, 49, 28, 3, 61, 58, 42, 50, 38, 29, 17, 4, 62, 47, 59, 36, 45, 43, 51, 22, 53, 39, 33, 30, 24, 18, 12, 5, 63, 55, 48, 27, 60, 41, 37, 16, 46, 35, 44, 21, 52, 32, 23, 11, 54, 26, 40, 15, 34, 20, 31, 10, 25, 14, 19, 9, 13, 8, 7, 6]

theorem own_knob : ownKnob Tryz.prog.godebug = none := by kernel_rfl

/-- A world that holds the six tables. -/
noncomputable def laidWorld (os : Os) : World :=
  let w0 := World.holding Tryz.prog os ⟨#[], #[], []⟩
  let put (h : Array Obj) (g : Nat) (cs : Array Value) : Array Obj := h.modify g fun
    | .cells _ t frozen => .cells cs t frozen
    | o => o
  let h0 := put w0.heap 1 (Lib.firstTab.map fun z => Value.int .u8 z).toArray
  let h1 := put h0 2 ((List.range 16).flatMap fun i => [Value.int .u8 (Lib.accLo i), Value.int .u8 (Lib.accHi i)]).toArray
  let h2 := put h1 3 (Lib.pow10Tab.map fun z => Value.int .u64 z).toArray
  let h3 := put h2 4 (tab32.map fun z => Value.int .u8 z).toArray
  let h4 := put h3 5 (tab64.map fun z => Value.int .u8 z).toArray
  let h5 := put h4 0 #[.string ⟨#[]⟩, .string ⟨#[112, 117, 116]⟩, .string ⟨#[100, 101, 108]⟩, .string ⟨#[99, 108, 101, 97, 114]⟩]
  { w0 with heap := h5 }

theorem laid_first : Rows.laid_unicode_utf8_first = Lib.firstData := by kernel_rfl
theorem laid_accept : Rows.laid_unicode_utf8_acceptRanges (H := Unit) = Lib.acceptData := by kernel_rfl
theorem laid_pow10 : Rows.laid_internal_strconv_uint64pow10 (H := Unit) = Lib.tabData .u64 Lib.pow10Tab := by kernel_rfl

theorem laid_met (os : Os) (args : Array Value) : laidMet Tryz.prog Rows.pullMayRow.laid ((laidWorld os).forCall (fun _ _ => 0) ⟨#[], args, []⟩).memory :=
  (LaidIn.of_run (l := Rows.pullMayRow.laid) [0, 1, 2, 3, 4, 5] 8 (by kernel_rfl) (by kernel_rfl) (by kernel_rfl) (by kernel_rfl)).met

end Go.Proofs.YtjjbbnodmpemiaaGreatDoor
