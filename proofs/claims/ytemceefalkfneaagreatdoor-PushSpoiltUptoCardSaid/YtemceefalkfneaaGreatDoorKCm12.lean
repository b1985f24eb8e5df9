/- Parts, joined: commonplaceref02.Copy: what its contract says; rows of members. Plain. No condition. The reference's Valid, and why it holds a value for one that may not be. Why a value may not be: the reference's function. Condition: a bulk of at most 10^9. Bytes in memory: rows of bytes that a call owns, append of bytes. No condition. -/
import Derived.Test.YtemceefalkfneaaGreatDoorProg
import Derived.WalkKit
import Derived.Lib.Hide
import Derived.Lib.Builder
import Derived.Lib.MapLaws
import Derived.Test.YtemceefalkfneaaGreatDoorKCm3
import Derived.Test.YtemceefalkfneaaGreatDoorKCm9
import Derived.Test.YtemceefalkfneaaGreatDoorKCm10
/- commonplaceref02.Copy: what its contract says; rows of members. Plain. No condition. -/
namespace Go.Proofs.YtemceefalkfneaaGreatDoor
open Go.RowKit

theorem six_vals {cs : List Value} (h : cs.length = 6) : ∃ c0 c1 c2 c3 c4 c5, cs = [c0, c1, c2, c3, c4, c5] := by
  match cs, h with
  | [c0, c1, c2, c3, c4, c5], _ => exact ⟨_, _, _, _, _, _, rfl⟩

/-- These cells hold this value whatever becomes of the blocks that were there before. -/
def FreshV (w w' : World) (v : Val) (cs : List Value) : Prop := ∀ w'' : World, w'.heap.size ≤ w''.heap.size → (∀ p : Addr, w.heap.size ≤ p.block → p.block < w'.heap.size → w''.cell? p = w'.cell? p) → HoldsV w'' w'.heap.size v cs
theorem RowL.more {w : World} {B B' : Nat} (h : B ≤ B') : ∀ {l : List Val} {ns : List Value}, RowL w B l ns → RowL w B' l ns
  | [], _, e => e
  | _ :: _, _, ⟨cs, rest, e, h1, h2⟩ => ⟨cs, rest, e, HoldsV.more h _ _ h1, RowL.more h h2⟩

theorem one_key (key : ByteArray) {cs : List Value} (h : ∀ u ∈ cs, u.oneCell' = true) : ∀ u ∈ Value.string key :: cs, u.oneCell' = true := by
  intro u hu
  rcases List.mem_cons.1 hu with rfl | hu
  · rfl
  · exact h u hu

theorem box_cells2 {w : World} {g : Nat} {a0 a1 a2 a3 a4 a5 : Value} (h : w.heap[g]? = some (.cells #[a0, a1, a2, a3, a4, a5] 52 (0, 0))) :
    w.cell? ⟨g, 0, none⟩ = some a0 ∧ w.cell? ⟨g, 1, none⟩ = some a1 ∧ w.cell? ⟨g, 2, none⟩ = some a2 ∧ w.cell? ⟨g, 3, none⟩ = some a3 ∧ w.cell? ⟨g, 4, none⟩ = some a4 ∧ w.cell? ⟨g, 5, none⟩ = some a5 := by
  refine ⟨?_, ?_, ?_, ?_, ?_, ?_⟩ <;> (rw [Lib.cell_of_heap h]; rfl)

/-- The same of members. -/
def RowO (w : World) (B : Nat) : List (ByteArray × Val) → List Value → Prop
  | [], ns => ns = []
  | (key, v) :: r, ns => ∃ cs rest, ns = .string key :: (cs ++ rest) ∧ HoldsV w B v cs ∧ RowO w B r rest
theorem RowO.more {w : World} {B B' : Nat} (h : B ≤ B') : ∀ {l : List (ByteArray × Val)} {ns : List Value}, RowO w B l ns → RowO w B' l ns
  | [], _, e => e
  | (_, _) :: _, _, ⟨cs, rest, e, h1, h2⟩ => ⟨cs, rest, e, HoldsV.more h _ _ h1, RowO.more h h2⟩
theorem RowO.holds {w : World} {B : Nat} {g : Nat} : ∀ {l : List (ByteArray × Val)} {ns : List Value} {off : Nat}, RowO w B l ns → (∀ j u, ns[j]? = some u → w.cell? ⟨g, off + j, none⟩ = some u) → HoldsO w B l g off
  | [], _, _, _, _ => by simp [HoldsO]
  | (key, v) :: r, ns, off, h, hc => by
    obtain ⟨cs, rest, rfl, h1, h2⟩ := h
    have hl := h1.len.1
    simp only [HoldsO, HoldsP]
    refine ⟨⟨hc 0 _ rfl, cs, h1, fun j u hu => ?_⟩, RowO.holds h2 (fun j u hu => ?_)⟩
    · have h3 := (List.getElem?_eq_some_iff.1 hu).1
      rw [show off + 1 + j = off + (j + 1) from by omega]
      refine hc (j + 1) u ?_
      rw [List.getElem?_cons_succ, List.getElem?_append_left h3]
      exact hu
    · rw [show off + 7 + j = off + (6 + j + 1) from by omega]
      refine hc (6 + j + 1) u ?_
      rw [List.getElem?_cons_succ, List.getElem?_append_right (by omega), hl, show 6 + j - 6 = j from by omega]
      exact hu
theorem RowO.snoc {w : World} {B : Nat} {key : ByteArray} {v : Val} {cs : List Value} (hv : HoldsV w B v cs) : ∀ {l : List (ByteArray × Val)} {ns : List Value}, RowO w B l ns → RowO w B (l ++ [(key, v)]) (ns ++ (.string key :: cs))
  | [], ns, h => by
    have : ns = [] := h
    subst this
    exact ⟨cs, [], by simp, hv, rfl⟩
  | (k', x) :: r, ns, h => by
    obtain ⟨c1, rest, rfl, h1, h2⟩ := h
    exact ⟨c1, rest ++ (.string key :: cs), by simp, h1, RowO.snoc hv h2⟩
theorem info_val : (Tryz.prog.info? 52).map (fun i => (i.zero, i.size, i.bytes)) = some (some (.agg #[.int .i64 0, .bool false, .int .i64 0, .string ⟨#[]⟩, .slice none 0 0, .slice none 0 0]), 6, 88) := by kernel_rfl
theorem info_mem : (Tryz.prog.info? 57).map (fun i => (i.zero, i.size, i.bytes)) = some (some (.agg #[.string ⟨#[]⟩, .int .i64 0, .bool false, .int .i64 0, .string ⟨#[]⟩, .slice none 0 0, .slice none 0 0]), 7, 104) := by kernel_rfl

theorem setCell_far (w : World) (b i : Nat) (V : Value) {c : Nat} (h : c ≠ b) : (w.setCell ⟨b, i, none⟩ V).heap[c]? = w.heap[c]? := by
  simp only [World.setCell, Array.getElem?_modify]
  rw [if_neg (fun e => h e.symm)]


end Go.Proofs.YtemceefalkfneaaGreatDoor

/- The reference's Valid, and why it holds a value for one that may not be. -/
namespace Go.Proofs.YtemceefalkfneaaGreatDoor
open Go.RowKit

theorem validGoD_more : ∀ (n m : Nat) (l : List UInt8), l.length ≤ n → l.length ≤ m → Lib.validGoD n l = Lib.validGoD m l
  | 0, m, l, hn, hm => by
    obtain rfl : l = [] := List.eq_nil_of_length_eq_zero (by omega)
    cases m <;> simp [Lib.validGoD]
  | n + 1, 0, l, hn, hm => by
    obtain rfl : l = [] := List.eq_nil_of_length_eq_zero (by omega)
    simp [Lib.validGoD]
  | n + 1, m + 1, l, hn, hm => by
    simp only [Lib.validGoD]
    by_cases h : l = []
    · simp [h]
    · rw [if_neg h, if_neg h]
      split
      · rfl
      · have hw := Lib.decodeL_width l
        have hl : 0 < l.length := List.length_pos_iff.2 h
        exact validGoD_more n m _ (by rw [List.length_drop]; omega) (by rw [List.length_drop]; omega)

theorem validD_step {l : List UInt8} (h : l ≠ []) : Lib.validD l = if (Lib.decodeL l).1 = 65533 ∧ (Lib.decodeL l).2 = 1 then false else Lib.validD (l.drop (Lib.decodeL l).2) := by
  have hw := Lib.decodeL_width l
  have hl : 0 < l.length := List.length_pos_iff.2 h
  unfold Lib.validD
  obtain ⟨n, hn⟩ : ∃ n, l.length = n + 1 := ⟨l.length - 1, by omega⟩
  rw [hn]
  simp only [Lib.validGoD]
  rw [if_neg h]
  split
  · rfl
  · exact validGoD_more _ _ _ (by rw [List.length_drop]; omega) (Nat.le_refl _)

/-- A step of the reference's runes. -/
theorem validD_at {l : List UInt8} (h : l ≠ []) : ((atSpec l).2 = 0 ∧ Lib.validD l = false) ∨ (∃ n : Nat, (atSpec l).2 = (n : Int) ∧ 1 ≤ n ∧ n ≤ l.length ∧ Lib.validD l = Lib.validD (l.drop n)) := by
  have hg := atSpec_dec l h
  unfold goodAt at hg
  rw [validD_step h]
  by_cases hb : (Lib.decodeL l).1 = 65533 ∧ (Lib.decodeL l).2 = 1
  · rw [if_pos hb] at hg ⊢
    rw [hg]
    exact .inl ⟨rfl, rfl⟩
  · rw [if_neg hb] at hg ⊢
    rw [hg]
    have hw := Lib.decodeL_width l
    exact .inr ⟨(Lib.decodeL l).2, rfl, hw, Lib.decodeL_le l h, rfl⟩

set_option maxHeartbeats 1000000 in
/-- commonplaceref01.Valid -/
theorem RValid_calls (s : ByteArray) (w : World) (hs : s.size ≤ 1000000000) :
    Calls Tryz.prog 82 #[.string s] w fun e w' => e = .returned (.bool (validB s)) ∧ w = w' := by
  obtain ⟨V, hV⟩ : ∃ V, validB s = V := ⟨_, rfl⟩
  rw [hV]
  have H0 := Lib.hid hV
  clear hV
  go_enter Tryz.func82, Tryz.ntmps82
  go_wp2
  go_loop [3] (fun i => ∃ k : Nat, k ≤ s.size ∧ i = .int .i64 k ∧ Hid (Lib.validD (s.data.toList.drop k) = V)) (fun i => s.size - (intOf i).toNat)
  case atStart => exact ⟨0, Nat.zero_le _, rfl, H0⟩
  case round =>
    obtain ⟨k, hk, rfl, hf⟩ := hrel
    clear H0
    by_cases hlt : k < s.size
    · have hne : s.data.toList.drop k ≠ [] := by
        intro e
        have := congrArg List.length e
        rw [List.length_drop, ← Lib.size_eq] at this
        simp at this
        omega
      have hA := At_calls s k w (by omega) (by omega)
      rcases validD_at hne with ⟨h0, hv⟩ | ⟨n, hn, hn1, hn2, hv⟩
      · have hf' := hf.out
        rw [hv] at hf'
        subst hf'
        rw [h0] at hA
        generalize (atSpec (s.data.toList.drop k)).1 = R at hA
        have HA := Lib.hid hA
        clear hA h0 hv hne hf
        go_wp2_with (go_at_call 129; refine (HA.out).mono ?_; rintro e w' ⟨rfl, rfl⟩)
        go_ret
        exact ⟨rfl, rfl⟩
      · have hf' := hf.out
        rw [hv, List.drop_drop] at hf'
        have Hf := Lib.hid hf'
        rw [hn] at hA
        rw [List.length_drop, ← Lib.size_eq] at hn2
        generalize (atSpec (s.data.toList.drop k)).1 = R at hA
        have HA := Lib.hid hA
        clear hA hn hv hne hf hf'
        have e0 : ((n : Int) == 0) = false := by simp; omega
        go_wp2_with (go_at_call 129; refine (HA.out).mono ?_; rintro e w' ⟨rfl, rfl⟩)
        go_round
        case rel => exact ⟨k + n, by omega, by go_num, Hf⟩
        case measure => simp [intOf]; omega
    · obtain rfl : k = s.size := by omega
      have hf' := hf.out
      rw [List.drop_eq_nil_of_le (by rw [← Lib.size_eq]; omega)] at hf'
      have : V = true := by rw [← hf']; rfl
      subst this
      clear hf hf'
      go_wp2
      go_ret
      exact ⟨rfl, rfl⟩

end Go.Proofs.YtemceefalkfneaaGreatDoor

/- Why a value may not be: the reference's function. Condition: a bulk of at most 10^9. -/
namespace Go.Proofs.YtemceefalkfneaaGreatDoor
open Go.RowKit

theorem bare_calls2 {k : Int} {b : Bool} {n : Int} {t : ByteArray} {la oa : Option Addr} {ln lc on oc : Nat} {B : Bool} (h : oddB k b n t ln on = B) (w : World) :
  Calls Tryz.prog 198 #[.agg #[.int .i64 k, .bool b, .int .i64 n, .string t, .slice la ln lc, .slice oa on oc]] w fun e w' => e = .returned (.bool (!B)) ∧ Below w.heap.size w w' := by
  subst h
  exact bare_calls _ _ _ _ _ _ _ _ _ _ _

theorem RValid_calls2 {s : ByteArray} {B : Bool} (h : validB s = B) (w : World) (hs : s.size ≤ 1000000000) :
    Calls Tryz.prog 82 #[.string s] w fun e w' => e = .returned (.bool B) ∧ w = w' := by
  subst h
  exact RValid_calls _ _ hs

def MayRC (v : Val) : Prop := ∀ (cs : List Value) (d : Int) (w : World), HoldsV w w.heap.size v cs → v.bulk ≤ 1000000000 → 0 ≤ d → d ≤ 65 →
    Calls Tryz.prog 130 #[.agg cs.toArray, .int .i64 d] w fun e w' => e = .returned (.int .i64 (mayV v d)) ∧ Below w.heap.size w w'

set_option maxHeartbeats 2000000 in
theorem mayR_list (k : Int) (b : Bool) (n : Int) (t : ByteArray) (l : List Val) (la oa : Option Addr) (lc oc : Nat) (d : Int) (w : World) (g off : Nat) (hla : l = [] ∨ (la = some ⟨g, off, none⟩ ∧ g < w.heap.size ∧ HoldsL w w.heap.size l g off))
    (hb : bulkL l + t.size ≤ 1000000000) (h0 : 0 ≤ d) (h64 : d ≤ 64) (IH : ∀ v ∈ l, MayRC v) (hodd : oddB k b n t l.length 0 = false) (hval : validB t = true) :
    Calls Tryz.prog 130 #[.agg #[.int .i64 k, .bool b, .int .i64 n, .string t, .slice la l.length lc, .slice oa 0 oc], .int .i64 d] w fun e w' => e = .returned (.int .i64 (mayL l (d + 1))) ∧ Below w.heap.size w w' := by
  have hlen : l.length ≤ 1000000000 := by have := bulkL_len l; omega
  have h64' : ¬ (64 < d) := by omega
  have H : Hid (mayL (l.drop 0) (d + 1) = mayL l (d + 1)) := by rw [List.drop_zero]; exact rfl
  go_enter Tryz.func130, Tryz.ntmps130
  go_wp2_with (first | (go_at_call 198; refine (bare_calls2 hodd _).mono ?_; rintro e w1 ⟨rfl, hb1⟩; obtain ⟨hc1, hf1⟩ := bcell hb1; have hz1 := hb1.size; simp only [World.size_alloc] at hz1; have hbw1 : Below w.heap.size w w1 := ((Below.refl _ _).alloc (Nat.le_refl _) _).trans (hb1.mono (by simp)); have hbox1 : w1.heap[w.heap.size]? = some (.cells #[.int .i64 k, .bool b, .int .i64 n, .string t, .slice la l.length lc, .slice oa 0 oc] 52 (0, 0)) := (hb1.block _ (by simp)).trans (heap_alloc_new _ _)) | (go_at_call 82; refine (RValid_calls2 hval _ (by omega)).mono ?_; rintro e w2 ⟨rfl, rfl⟩))
  clear hb1 hodd hc1 hf1 hz1
  go_loopw [5] (fun i wr => ∃ j : Nat, j ≤ l.length ∧ i = .int .i64 j ∧ Hid (mayL (l.drop j) (d + 1) = mayL l (d + 1)) ∧ Below w.heap.size w wr ∧ wr.heap[w.heap.size]? = some (.cells #[.int .i64 k, .bool b, .int .i64 n, .string t, .slice la l.length lc, .slice oa 0 oc] 52 (0, 0))) (fun i _ => l.length - (intOf i).toNat)
  case atStart => exact ⟨0, Nat.zero_le _, rfl, H, hbw1, hbox1⟩
  case round =>
    obtain ⟨j, hj, rfl, hm, hbw, hbox⟩ := hrel
    clear H hbw1 hbox1
    have hbx : w.heap.size < wr.heap.size := (Array.getElem?_eq_some_iff.1 hbox).1
    have b4 : wr.cell? ⟨w.heap.size, 4, none⟩ = some (.slice la l.length lc) := by rw [Lib.cell_of_heap hbox]; rfl
    have b5 : wr.cell? ⟨w.heap.size, 5, none⟩ = some (.slice oa 0 oc) := by rw [Lib.cell_of_heap hbox]; rfl
    by_cases hlt : j < l.length
    · obtain ⟨rfl, hg, hL⟩ : la = some ⟨g, off, none⟩ ∧ g < w.heap.size ∧ HoldsL w w.heap.size l g off := by
        rcases hla with rfl | h
        · simp at hlt
        · exact h
      obtain ⟨v, hv⟩ : ∃ v, l[j]? = some v := ⟨_, List.getElem?_eq_getElem hlt⟩
      have hdrop : l.drop j = v :: l.drop (j + 1) := drop_of_get hv
      have hmem : v ∈ l := List.mem_of_getElem? hv
      have hbv := bulkL_mem hmem
      have IHv := Lib.hid (IH v hmem)
      have hm' := hm.out
      rw [hdrop] at hm'
      simp only [mayL] at hm'
      clear hm hdrop hmem IH
      obtain ⟨m, hmv⟩ : ∃ m, mayV v (d + 1) = m := ⟨_, rfl⟩
      rw [hmv] at hm'
      have Hmv := Lib.hid hmv
      clear hmv
      obtain ⟨k', b', n', t', l', o'⟩ := v
      obtain ⟨la', lc', oa', oc', hvs, c0, c1, c2, c3, c4, c5⟩ := (hL.below hg hbw).six hv
      clear hla hL hv
      have hz := hbw.size
      by_cases hm0 : m = 0
      · rw [if_pos hm0] at hm'
        subst hm0
        have Hk := Lib.hid hm'
        clear hm'
        go_wp2_with (go_at_call 130; refine (IHv.out _ (d + 1) _ (HoldsV.more (by omega) _ _ hvs) (by omega) (by omega) (by omega)).mono ?_; rintro e w2 ⟨he, hb2⟩; rw [Hmv.out] at he; subst he; have hbw2 : Below w.heap.size w w2 := hbw.trans (hb2.mono hz); have hbox2 := (hb2.block _ hbx).trans hbox)
        go_roundw
        case rel => exact ⟨j + 1, by omega, by go_num, Hk, hbw2, hbox2⟩
        case measure => simp [intOf]; omega
      · rw [if_neg hm0] at hm'
        have Hk := Lib.hid hm'
        clear hm'
        have hm1 : (m == 0) = false := by simpa using hm0
        have hm2 : (m != 0) = true := by simpa using hm0
        go_wp2_with (go_at_call 130; refine (IHv.out _ (d + 1) _ (HoldsV.more (by omega) _ _ hvs) (by omega) (by omega) (by omega)).mono ?_; rintro e w2 ⟨he, hb2⟩; rw [Hmv.out] at he; subst he; have hbw2 : Below w.heap.size w w2 := hbw.trans (hb2.mono hz))
        go_ret
        exact ⟨by rw [← Hk.out]; rfl, hbw2⟩
    · obtain rfl : j = l.length := by omega
      have hm' := hm.out
      rw [List.drop_length] at hm'
      have Hm := Lib.hid hm'
      clear hm hm'
      go_wp2
      go_loopw [8] (fun i wx => i = .int .i64 0 ∧ wx = wr) (fun _ _ => 0)
      case atStart => exact ⟨rfl, rfl⟩
      case round =>
        obtain ⟨rfl, rfl⟩ := hrel
        go_wp2
        go_ret
        exact ⟨by rw [← Hm.out]; rfl, hbw⟩

end Go.Proofs.YtemceefalkfneaaGreatDoor

/- Bytes in memory: rows of bytes that a call owns, append of bytes. No condition. -/
namespace Go.Proofs.YtemceefalkfneaaGreatDoor
open Go Go.RowKit

/-- Bytes as cells. -/
def bcells (l : List UInt8) : List Value := l.map fun x => .int .u8 x.toNat
theorem bcells_len (l : List UInt8) : (bcells l).length = l.length := List.length_map ..
theorem bcells_app (l r : List UInt8) : bcells (l ++ r) = bcells l ++ bcells r := List.map_append ..
theorem bcells_one (l : List UInt8) : ∀ u ∈ bcells l, u.oneCell' = true := by
  intro u hu
  obtain ⟨x, _, rfl⟩ := List.mem_map.1 hu
  rfl
theorem dB_holds (w : World) (B : Nat) : ∀ l, HoldsA w B (dB l) (bcells l)
  | [] => rfl
  | x :: r => ⟨[.int .u8 x.toNat], bcells r, rfl, ⟨rfl, rfl⟩, dB_holds w B r⟩
theorem dB_cells_of {w : World} {B : Nat} : ∀ {l : List UInt8} {ns : List Value}, HoldsA w B (dB l) ns → ns = bcells l
  | [], _, h => h
  | x :: r, _, h => by
    obtain ⟨c1, c2, rfl, ⟨rfl, _⟩, h2⟩ := h
    rw [dB_cells_of h2]; rfl
theorem dB_reads {w : World} {B n c : Nat} {l : List UInt8} {a : Option Addr} (h : Holds w B (.row 1 (dB l)) [.slice a n c]) : n = l.length ∧ Reads w B 1 a n (bcells l) := by
  have hn := dB_n h
  obtain ⟨ns, h1, h2, _⟩ := h.reads
  rw [dB_cells_of h2] at h1
  exact ⟨hn, h1⟩
/-- A slice over a block of bytes that is known whole. -/
theorem reads_lit {w : World} {g : Nat} {t : TypeId} {x : UInt8} (h : Blk w g t #[.int .u8 x.toNat]) : Reads w (g + 1) 1 (some ⟨g, 0, none⟩) 1 (bcells [x]) := by
  refine ⟨rfl, fun _ => ⟨_, rfl, by simp, fun j u hu => ?_⟩⟩
  match j, hu with
  | 0, hu =>
    rw [show (⟨g, 0, none⟩ : Addr).add 0 = ⟨g, 0, none⟩ from rfl]
    exact (h.cell 0).trans hu
/-- A row of bytes that the call owns, as a slice. -/
theorem own_bytes {b : Nat} {wr : World} {v : Value} {l : List UInt8} (h : wr.ownsRow b 5 1 v l.length (bcells l)) :
    ∃ a c, v = .slice a l.length (l.length + c) ∧ Fresh b wr (.row 1 (dB l)) [.slice a l.length (l.length + c)] := by
  have h' := h
  rcases h.2 with ⟨rfl, h0⟩ | ⟨g, cap, cur, rfl, hbg, hg, hnc, _⟩
  · have hl : l = [] := List.eq_nil_of_length_eq_zero h0
    subst hl
    exact ⟨none, 0, rfl, fun _ _ _ => ⟨none, 0, rfl, dB_cells _, [], rfl, .inl rfl⟩⟩
  · have hgl := (Array.getElem?_eq_some_iff.1 hg).1
    obtain ⟨d, rfl⟩ := Nat.exists_eq_add_of_le hnc
    refine ⟨_, d, rfl, fun w'' k1 k2 => ⟨_, _, by rw [dB_len], dB_cells _, bcells l, dB_holds _ _ _, .inr ⟨g, 0, rfl, hgl, fun j u hu => ?_⟩⟩⟩
    have h5 := h'.cells (g := g) rfl j u hu
    rw [add_plain'] at h5
    exact (k2 _ hbg hgl).trans h5

theorem run_append_types {P : Program} {t t' e e' : TypeId} {i : TypeInfo} (ht : P.underlying t = some (.slice e)) (ht' : P.underlying t' = some (.slice e')) (hi : P.info? e = some i) (ty : TypeId) (b : Option Addr) (n c : Nat) (y : Value) (w : World) :
    (Builtin.append_ #[t, t'] ty #[.slice b n c, y]).run P w = (Builtin.append_ #[t, t] ty #[.slice b n c, y]).run P w := by
  simp [Builtin.append_, run_underlying ht, run_underlying ht', sizeOf, typeInfo, hi]

theorem u8_info : (Tryz.prog.info? 5).map (fun i => (i.zero, i.size, i.bytes)) = some (some (.int .u8 0), 1, 1) := by kernel_rfl
/-- append of bytes to a row of the call's own. -/
theorem wp_append_by {o : Oper} {a : Act} {w : World} {K : Act → World → Prop} {Q : Exit → Act → World → Prop} (s x : Operand) (t t' e' : TypeId)
    (ho : o.op = .call { callee := .builtin .append, args := #[s, x], argTypes := #[t, t'] }) (ht : Tryz.prog.underlying t = some (.slice 5)) (ht' : Tryz.prog.underlying t' = some (.slice e'))
    (base : Nat) (v : Value) (l : List UInt8) (hs : a.eval s = v) (hown : w.ownsRow base 5 1 v l.length (bcells l))
    (B : Nat) (A : Option Addr) (m c : Nat) (r : List UInt8) (hx : a.eval x = .slice A m c) (hr : Reads w B 1 A m (bcells r)) (hlen : l.length + r.length ≤ 4000000000) (hbase : base ≤ w.heap.size)
    (h : ∀ v' w', w'.ownsRow base 5 1 v' (l ++ r).length (bcells (l ++ r)) → w.grownBy w' v.ownBlock → (v'.ownBlock = v.ownBlock ∨ v'.ownBlock = some w.heap.size) → K (a.put o.dst v') w') : o.wp Tryz.prog a w K Q := by
  obtain ⟨i0, hi, hz, hz1, hz2⟩ := info_parts u8_info
  have hm : m = r.length := by have := hr.1; rw [bcells_len] at this; omega
  subst hm
  obtain ⟨v', w', hrun, h2, h3, h4⟩ := run_append_any (P := Tryz.prog) w base t o.type 5 i0 (.int .u8 0) 1 1 ht hi hz hz1 hz2 rfl (by omega) v l.length (bcells l) hown B A _ c (bcells r) hr (bcells_one r)
    (by simp only [maxLen]; omega) (by omega) hbase
  obtain ⟨b0, n0, c0, rfl⟩ : ∃ b0 n0 c0, v = .slice b0 n0 c0 := by
    rcases hown.2 with ⟨rfl, _⟩ | ⟨g, cap, cur, rfl, _⟩ <;> exact ⟨_, _, _, rfl⟩
  rw [← run_append_types ht ht' hi] at hrun
  unfold Oper.wp execOp
  simp only [ho, resolve, invoke, builtin, Sem.run_bind, Sem.run_pure, Result.andThen_ok, List.map_toArray, List.map_cons, List.map_nil, hs, hx, hrun]
  exact h v' w' (by rw [List.length_append, bcells_app]; exact h2) h3 h4
theorem wpList_append_by {ops : Array Oper} {rest : List Oper} {o : Oper} {a : Act} {w : World} {Q : Exit → Act → World → Prop} (hgd : o.guard = none) (s x : Operand) (t t' e' : TypeId)
    (ho : o.op = .call { callee := .builtin .append, args := #[s, x], argTypes := #[t, t'] }) (ht : Tryz.prog.underlying t = some (.slice 5)) (ht' : Tryz.prog.underlying t' = some (.slice e'))
    (base : Nat) (v : Value) (l : List UInt8) (hs : a.eval s = v) (hown : w.ownsRow base 5 1 v l.length (bcells l))
    (B : Nat) (A : Option Addr) (m c : Nat) (r : List UInt8) (hx : a.eval x = .slice A m c) (hr : Reads w B 1 A m (bcells r)) (hlen : l.length + r.length ≤ 4000000000) (hbase : base ≤ w.heap.size)
    (h : ∀ v' w', w'.ownsRow base 5 1 v' (l ++ r).length (bcells (l ++ r)) → w.grownBy w' v.ownBlock → (v'.ownBlock = v.ownBlock ∨ v'.ownBlock = some w.heap.size) → wpList Tryz.prog ops Q rest (a.put o.dst v') w') : wpList Tryz.prog ops Q (o :: rest) a w :=
  wpList_plain hgd fun _ hK => wp_append_by s x t t' e' ho ht ht' base v l hs hown B A m c r hx hr hlen hbase fun v' w' h2 h3 h4 => hK _ _ (h v' w' h2 h3 h4)
end Go.Proofs.YtemceefalkfneaaGreatDoor
