/- Parts, joined: commonplaceref02.Copy: what its contract says; rows of members. Plain. No condition. Why a value may not be: the reference's function, over an object's members. Condition: a bulk of at most 10^9. commonplaceref04: past, is, begins. Condition: a text of at most 10^9 bytes. -/
import Derived.Test.YtgjiienipeoajaaGreatDoorProg
import Derived.WalkKit
import Derived.Lib.Hide
import Derived.Lib.Builder
import Derived.LoopTactic
import Derived.Test.YtgjiienipeoajaaGreatDoorKPrs7
import Derived.Test.YtgjiienipeoajaaGreatDoorKPrs9
/- commonplaceref02.Copy: what its contract says; rows of members. Plain. No condition. -/
namespace Go.Proofs.YtgjiienipeoajaaGreatDoor
open Go.RowKit

theorem six_vals {cs : List Value} (h : cs.length = 6) : ∃ c0 c1 c2 c3 c4 c5, cs = [c0, c1, c2, c3, c4, c5] := by
  match cs, h with
  | [c0, c1, c2, c3, c4, c5], _ => exact ⟨_, _, _, _, _, _, rfl⟩

/-- These cells hold this value whatever becomes of the blocks that were there before. -/
def FreshV (w w' : World) (v : Val) (cs : List Value) : Prop := ∀ w'' : World, w'.heap.size ≤ w''.heap.size → (∀ p : Addr, w.heap.size ≤ p.block → p.block < w'.heap.size → w''.cell? p = w'.cell? p) → HoldsV w'' w'.heap.size v cs
theorem RowL.more {w : World} {B B' : Nat} (h : B ≤ B') : ∀ {l : List Val} {ns : List Value}, RowL w B l ns → RowL w B' l ns
  | [], _, e => e
  | _ :: _, _, ⟨cs, rest, e, h1, h2⟩ => ⟨cs, rest, e, HoldsV.more h _ _ h1, RowL.more h h2⟩

theorem one_key (key : ByteArray) {cs : List Value} (h : ∀ u ∈ cs, u.oneCell' = true) : ∀ u ∈ Value.string key :: cs, u.oneCell' = true := by
  intro u hu
  rcases List.mem_cons.1 hu with rfl | hu
  · rfl
  · exact h u hu

theorem box_cells2 {w : World} {g : Nat} {a0 a1 a2 a3 a4 a5 : Value} (h : w.heap[g]? = some (.cells #[a0, a1, a2, a3, a4, a5] 26 (0, 0))) :
    w.cell? ⟨g, 0, none⟩ = some a0 ∧ w.cell? ⟨g, 1, none⟩ = some a1 ∧ w.cell? ⟨g, 2, none⟩ = some a2 ∧ w.cell? ⟨g, 3, none⟩ = some a3 ∧ w.cell? ⟨g, 4, none⟩ = some a4 ∧ w.cell? ⟨g, 5, none⟩ = some a5 := by
  refine ⟨?_, ?_, ?_, ?_, ?_, ?_⟩ <;> (rw [Lib.cell_of_heap h]; rfl)

/-- The same of members. -/
def RowO (w : World) (B : Nat) : List (ByteArray × Val) → List Value → Prop
  | [], ns => ns = []
  | (key, v) :: r, ns => ∃ cs rest, ns = .string key :: (cs ++ rest) ∧ HoldsV w B v cs ∧ RowO w B r rest
theorem RowO.more {w : World} {B B' : Nat} (h : B ≤ B') : ∀ {l : List (ByteArray × Val)} {ns : List Value}, RowO w B l ns → RowO w B' l ns
  | [], _, e => e
  | (_, _) :: _, _, ⟨cs, rest, e, h1, h2⟩ => ⟨cs, rest, e, HoldsV.more h _ _ h1, RowO.more h h2⟩
theorem RowO.holds {w : World} {B : Nat} {g : Nat} : ∀ {l : List (ByteArray × Val)} {ns : List Value} {off : Nat}, RowO w B l ns → (∀ j u, ns[j]? = some u → w.cell? ⟨g, off + j, none⟩ = some u) → HoldsO w B l g off
  | [], _, _, _, _ => by simp [HoldsO]
  | (key, v) :: r, ns, off, h, hc => by
    obtain ⟨cs, rest, rfl, h1, h2⟩ := h
    have hl := h1.len.1
    simp only [HoldsO, HoldsP]
    refine ⟨⟨hc 0 _ rfl, cs, h1, fun j u hu => ?_⟩, RowO.holds h2 (fun j u hu => ?_)⟩
    · have h3 := (List.getElem?_eq_some_iff.1 hu).1
      rw [show off + 1 + j = off + (j + 1) from by omega]
      refine hc (j + 1) u ?_
      rw [List.getElem?_cons_succ, List.getElem?_append_left h3]
      exact hu
    · rw [show off + 7 + j = off + (6 + j + 1) from by omega]
      refine hc (6 + j + 1) u ?_
      rw [List.getElem?_cons_succ, List.getElem?_append_right (by omega), hl, show 6 + j - 6 = j from by omega]
      exact hu
theorem RowO.snoc {w : World} {B : Nat} {key : ByteArray} {v : Val} {cs : List Value} (hv : HoldsV w B v cs) : ∀ {l : List (ByteArray × Val)} {ns : List Value}, RowO w B l ns → RowO w B (l ++ [(key, v)]) (ns ++ (.string key :: cs))
  | [], ns, h => by
    have : ns = [] := h
    subst this
    exact ⟨cs, [], by simp, hv, rfl⟩
  | (k', x) :: r, ns, h => by
    obtain ⟨c1, rest, rfl, h1, h2⟩ := h
    exact ⟨c1, rest ++ (.string key :: cs), by simp, h1, RowO.snoc hv h2⟩
theorem info_val : (Tryz.prog.info? 26).map (fun i => (i.zero, i.size, i.bytes)) = some (some (.agg #[.int .i64 0, .bool false, .int .i64 0, .string ⟨#[]⟩, .slice none 0 0, .slice none 0 0]), 6, 88) := by kernel_rfl
theorem info_mem : (Tryz.prog.info? 37).map (fun i => (i.zero, i.size, i.bytes)) = some (some (.agg #[.string ⟨#[]⟩, .int .i64 0, .bool false, .int .i64 0, .string ⟨#[]⟩, .slice none 0 0, .slice none 0 0]), 7, 104) := by kernel_rfl

theorem setCell_far (w : World) (b i : Nat) (V : Value) {c : Nat} (h : c ≠ b) : (w.setCell ⟨b, i, none⟩ V).heap[c]? = w.heap[c]? := by
  simp only [World.setCell, Array.getElem?_modify]
  rw [if_neg (fun e => h e.symm)]


end Go.Proofs.YtgjiienipeoajaaGreatDoor

/- Why a value may not be: the reference's function, over an object's members. Condition: a bulk of at most 10^9. -/
namespace Go.Proofs.YtgjiienipeoajaaGreatDoor
open Go.RowKit

set_option maxHeartbeats 4000000 in
theorem mayR_obj (k : Int) (b : Bool) (n : Int) (t : ByteArray) (o : List (ByteArray × Val)) (la oa : Option Addr) (lc oc : Nat) (d : Int) (w : World) (g off : Nat) (hoa : o = [] ∨ (oa = some ⟨g, off, none⟩ ∧ g < w.heap.size ∧ HoldsO w w.heap.size o g off))
    (hb : bulkO o + t.size ≤ 1000000000) (h0 : 0 ≤ d) (h64 : d ≤ 64) (IH : ∀ m ∈ o, MayRC m.2) (hodd : oddB k b n t 0 o.length = false) (hval : validB t = true) :
    Calls Tryz.prog 34 #[.agg #[.int .i64 k, .bool b, .int .i64 n, .string t, .slice la 0 lc, .slice oa o.length oc], .int .i64 d] w fun e w' => e = .returned (.int .i64 (mayO o none (d + 1))) ∧ Below w.heap.size w w' := by
  have hlen : o.length ≤ 1000000000 := by have := bulkO_len o; omega
  have h64' : ¬ (64 < d) := by omega
  have H : Hid (mayO (o.drop 0) (lastKey o 0) (d + 1) = mayO o none (d + 1)) := by rw [List.drop_zero]; exact rfl
  go_enter Tryz.func34, Tryz.ntmps34
  go_wp2_with (first | (go_at_call 64; refine (bare_calls2 hodd _).mono ?_; rintro e w1 ⟨rfl, hb1⟩; obtain ⟨hc1, hf1⟩ := bcell hb1; have hz1 := hb1.size; simp only [World.size_alloc] at hz1; have hbw1 : Below w.heap.size w w1 := ((Below.refl _ _).alloc (Nat.le_refl _) _).trans (hb1.mono (by simp)); have hbox1 : w1.heap[w.heap.size]? = some (.cells #[.int .i64 k, .bool b, .int .i64 n, .string t, .slice la 0 lc, .slice oa o.length oc] 26 (0, 0)) := (hb1.block _ (by simp)).trans (heap_alloc_new _ _)) | (go_at_call 35; refine (RValid_calls2 hval _ (by omega)).mono ?_; rintro e w2 ⟨rfl, rfl⟩))
  clear hb1 hodd hc1 hf1 hz1
  go_loopw [5] (fun i wx => i = .int .i64 0 ∧ wx = w1) (fun _ _ => 0)
  case atStart => exact ⟨rfl, rfl⟩
  case round =>
    obtain ⟨rfl, rfl⟩ := hrel
    have hbx0 : w.heap.size < wr.heap.size := (Array.getElem?_eq_some_iff.1 hbox1).1
    have b40 : wr.cell? ⟨w.heap.size, 4, none⟩ = some (.slice la 0 lc) := by rw [Lib.cell_of_heap hbox1]; rfl
    go_wp2
    clear b40 hbx0
    rename World => w1
    go_loopw [7, 8] (fun q i wr => ∃ j : Nat, ∃ lk : ByteArray, j ≤ o.length ∧ i = .int .i64 j ∧ q = .string lk ∧ (0 < j → lastKey o j = some lk) ∧ Hid (mayO (o.drop j) (lastKey o j) (d + 1) = mayO o none (d + 1)) ∧ Below w.heap.size w wr ∧ wr.heap[w.heap.size]? = some (.cells #[.int .i64 k, .bool b, .int .i64 n, .string t, .slice la 0 lc, .slice oa o.length oc] 26 (0, 0))) (fun _ i _ => o.length - (intOf i).toNat)
    case atStart => exact ⟨0, ByteArray.empty, Nat.zero_le _, rfl, rfl, fun h => absurd h (by omega), H, hbw1, hbox1⟩
    case round =>
      obtain ⟨j, q, hj, rfl, rfl, hlk, hm, hbw, hbox⟩ := hrel
      clear H hbw1 hbox1
      have hbx : w.heap.size < wr.heap.size := (Array.getElem?_eq_some_iff.1 hbox).1
      have b5 : wr.cell? ⟨w.heap.size, 5, none⟩ = some (.slice oa o.length oc) := by rw [Lib.cell_of_heap hbox]; rfl
      have hz := hbw.size
      by_cases hlt : j < o.length
      · obtain ⟨rfl, hg, hL⟩ : oa = some ⟨g, off, none⟩ ∧ g < w.heap.size ∧ HoldsO w w.heap.size o g off := by
          rcases hoa with rfl | h
          · simp at hlt
          · exact h
        obtain ⟨⟨key, v⟩, hv⟩ : ∃ v, o[j]? = some v := ⟨_, List.getElem?_eq_getElem hlt⟩
        have hdrop : o.drop j = (key, v) :: o.drop (j + 1) := drop_of_get hv
        have hmem : (key, v) ∈ o := List.mem_of_getElem? hv
        have hbv := bulkO_mem hmem
        simp only at hbv
        have IHv := Lib.hid (IH (key, v) hmem)
        have hlast : lastKey o (j + 1) = some key := by simp [lastKey, hv]
        have Hlast := Lib.hid hlast
        have hm' := hm.out
        rw [hdrop] at hm'
        simp only [mayO, mayP, ← hlast] at hm'
        clear hm hdrop hmem IH hlast
        have hLr := hL.below hg hbw
        have hgr : g < wr.heap.size := by omega
        obtain ⟨k', b', n', t', l', o'⟩ := v
        obtain ⟨la', lc', oa', oc', hvs, c0, c1, c2, c3, c4, c5, c6⟩ := hLr.seven hv
        clear hL hLr hv hoa
        by_cases hval2 : validB key = true
        · rw [hval2] at hm'
          simp only [if_true] at hm'
          by_cases hjp : 0 < j
          · rw [hlk hjp] at hm'
            simp only at hm'
            have hgd : decide (0 < j) = true := by simpa using hjp
            clear hlk
            by_cases hle : leB key q = true
            · rw [if_pos hle] at hm'
              unfold leB at hle
              have Hm := Lib.hid hm'
              clear hm'
              go_wp2_with (go_at_call 35; refine (RValid_calls2 hval2 _ (by omega)).mono ?_; rintro e wv ⟨rfl, rfl⟩)
              go_ret
              exact ⟨by rw [← Hm.out]; rfl, hbw⟩
            · rw [if_neg hle] at hm'
              have hle' : (Op.bytesLess key.toList q.toList || key.toList == q.toList) = false := by simpa [leB] using hle
              clear hle
              obtain ⟨m, hmv⟩ : ∃ m, mayV (.mk k' b' n' t' l' o') (d + 1) = m := ⟨_, rfl⟩
              rw [hmv] at hm'
              have Hmv := Lib.hid hmv
              clear hmv
              by_cases hm0 : m = 0
              · rw [if_pos hm0] at hm'
                subst hm0
                have Hm := Lib.hid hm'
                clear hm'
                go_wp2_with (first | (go_at_call 35; refine (RValid_calls2 hval2 _ (by omega)).mono ?_; rintro e wv ⟨rfl, rfl⟩) | (go_at_call 34; refine (IHv.out _ (d + 1) _ (HoldsV.more (by omega) _ _ hvs) (by omega) (by omega) (by omega)).mono ?_; rintro e w3 ⟨he, hb3⟩; rw [Hmv.out] at he; subst he; have hbw3 : Below w.heap.size w w3 := hbw.trans (hb3.mono hz); have hbox3 := (hb3.block _ hbx).trans hbox))
                go_roundw
                case rel => exact ⟨j + 1, key, by omega, by go_num, rfl, fun _ => Hlast.out, Hm, hbw3, hbox3⟩
                case measure => simp [intOf]; omega
              · rw [if_neg hm0] at hm'
                have hm1 : (m == 0) = false := by simpa using hm0
                have hm2 : (m != 0) = true := by simpa using hm0
                have Hm := Lib.hid hm'
                clear hm'
                go_wp2_with (first | (go_at_call 35; refine (RValid_calls2 hval2 _ (by omega)).mono ?_; rintro e wv ⟨rfl, rfl⟩) | (go_at_call 34; refine (IHv.out _ (d + 1) _ (HoldsV.more (by omega) _ _ hvs) (by omega) (by omega) (by omega)).mono ?_; rintro e w3 ⟨he, hb3⟩; rw [Hmv.out] at he; subst he; have hbw3 : Below w.heap.size w w3 := hbw.trans (hb3.mono hz); have hbox3 := (hb3.block _ hbx).trans hbox))
                go_ret
                exact ⟨by rw [← Hm.out]; rfl, hbw3⟩
          · have hlk0 : lastKey o j = none := by
              obtain rfl : j = 0 := by omega
              rfl
            rw [hlk0] at hm'
            simp only at hm'
            have hgd : decide (0 < j) = false := by simpa using hjp
            have hk0 : j ≤ 0 := by omega
            clear hlk hlk0
            obtain ⟨m, hmv⟩ : ∃ m, mayV (.mk k' b' n' t' l' o') (d + 1) = m := ⟨_, rfl⟩
            rw [hmv] at hm'
            have Hmv := Lib.hid hmv
            clear hmv
            by_cases hm0 : m = 0
            · rw [if_pos hm0] at hm'
              subst hm0
              have Hm := Lib.hid hm'
              clear hm'
              go_wp2_with (first | (go_at_call 35; refine (RValid_calls2 hval2 _ (by omega)).mono ?_; rintro e wv ⟨rfl, rfl⟩) | (go_at_call 34; refine (IHv.out _ (d + 1) _ (HoldsV.more (by omega) _ _ hvs) (by omega) (by omega) (by omega)).mono ?_; rintro e w3 ⟨he, hb3⟩; rw [Hmv.out] at he; subst he; have hbw3 : Below w.heap.size w w3 := hbw.trans (hb3.mono hz); have hbox3 := (hb3.block _ hbx).trans hbox))
              go_roundw
              case rel => exact ⟨j + 1, key, by omega, by go_num, rfl, fun _ => Hlast.out, Hm, hbw3, hbox3⟩
              case measure => simp [intOf]; omega
            · rw [if_neg hm0] at hm'
              have hm1 : (m == 0) = false := by simpa using hm0
              have hm2 : (m != 0) = true := by simpa using hm0
              have Hm := Lib.hid hm'
              clear hm'
              go_wp2_with (first | (go_at_call 35; refine (RValid_calls2 hval2 _ (by omega)).mono ?_; rintro e wv ⟨rfl, rfl⟩) | (go_at_call 34; refine (IHv.out _ (d + 1) _ (HoldsV.more (by omega) _ _ hvs) (by omega) (by omega) (by omega)).mono ?_; rintro e w3 ⟨he, hb3⟩; rw [Hmv.out] at he; subst he; have hbw3 : Below w.heap.size w w3 := hbw.trans (hb3.mono hz); have hbox3 := (hb3.block _ hbx).trans hbox))
              go_ret
              exact ⟨by rw [← Hm.out]; rfl, hbw3⟩
        · have hvf : validB key = false := by simpa using hval2
          rw [hvf] at hm'
          have Hm := Lib.hid hm'
          clear hm' hval2 hlk
          go_wp2_with (go_at_call 35; refine (RValid_calls2 hvf _ (by omega)).mono ?_; rintro e wv ⟨rfl, rfl⟩)
          go_ret
          exact ⟨by rw [← Hm.out]; simp, hbw⟩
      · obtain rfl : j = o.length := by omega
        have hm' := hm.out
        rw [List.drop_length] at hm'
        have Hm := Lib.hid hm'
        clear hm hm' hlk hoa IH
        go_wp2
        go_ret
        exact ⟨by rw [← Hm.out]; rfl, hbw⟩

end Go.Proofs.YtgjiienipeoajaaGreatDoor

/- commonplaceref04: past, is, begins. Condition: a text of at most 10^9 bytes. -/
namespace Go.Proofs.YtgjiienipeoajaaGreatDoor
open Go Go.RowKit

set_option maxRecDepth 100000 in
set_option maxHeartbeats 4000000 in
theorem rpast_calls (s : ByteArray) (k : Nat) (w : World) (hs : s.size ≤ 1000000000) (hk : k ≤ s.size) :
    Calls Tryz.prog 33 #[.string s, .int .i64 k] w fun e w' => e = .returned (.int .i64 (past s.data.toList k : Nat)) ∧ w = w' := by
  obtain ⟨P, hP⟩ : ∃ P, past s.data.toList k = P := ⟨_, rfl⟩
  have H0 := Lib.hid hP
  rw [hP]
  clear hP
  go_enter Tryz.func33, Tryz.ntmps33
  go_wp2
  go_loop [1] (fun i => ∃ j : Nat, j ≤ s.size ∧ i = .int .i64 j ∧ Hid (past s.data.toList j = P)) (fun i => s.size - (intOf i).toNat)
  case atStart => exact ⟨k, hk, rfl, H0⟩
  case round =>
    obtain ⟨j, hj, rfl, hh⟩ := hrel
    clear H0
    by_cases hlt : j < s.size
    · obtain ⟨c, hc⟩ : ∃ c, s[j] = c := ⟨_, rfl⟩
      have hg : s.data.toList[j]? = some c := by rw [get_byte s hlt, hc]
      have hcl := byte_lt c
      by_cases hbl : isBlank c = true
      · have HN : Hid (past s.data.toList (j + 1) = P) := by rw [← past_step hg hbl]; exact hh.out
        unfold isBlank at hbl
        simp only [Bool.or_eq_true, beq_iff_eq] at hbl
        clear hg hh
        rcases hbl with ((hbl | hbl) | hbl) | hbl
        all_goals
          subst hbl
          go_wp2
          go_round
          case rel => exact ⟨j + 1, by omega, by go_num, HN⟩
          case measure => simp [intOf]; omega
      · have HN : Hid (j = P) := by rw [← hh.out, past_stop hg (by simpa using hbl)]; exact rfl
        unfold isBlank at hbl
        simp only [Bool.or_eq_true, beq_iff_eq, not_or] at hbl
        obtain ⟨⟨⟨h9, h10⟩, h13⟩, h32⟩ := hbl
        have ne : ∀ n : Nat, n < 256 → c ≠ UInt8.ofNat n → ((c.toNat : Int) == (n : Int)) = false := fun n hn h => by rw [byte_eq hn]; simpa using h
        have e9 : ((c.toNat : Int) == 9) = false := ne 9 (by decide) h9
        have e10 : ((c.toNat : Int) == 10) = false := ne 10 (by decide) h10
        have e13 : ((c.toNat : Int) == 13) = false := ne 13 (by decide) h13
        have e32 : ((c.toNat : Int) == 32) = false := ne 32 (by decide) h32
        clear ne h9 h10 h13 h32 hg hh
        go_wp2
        go_ret
        exact ⟨by rw [← HN.out]; rfl, rfl⟩
    · have HN : Hid (j = P) := by rw [← hh.out, past_end (by rw [← Lib.size_eq]; omega)]; exact rfl
      clear hh
      go_wp2
      go_ret
      exact ⟨by rw [← HN.out]; rfl, rfl⟩

theorem ris_yes {s : ByteArray} {k : Nat} {c : UInt8} (h : s.data.toList[k]? = some c) (w : World) (_hs : s.size ≤ 1000000000) :
    Calls Tryz.prog 96 #[.string s, .int .i64 k, .int .u8 c.toNat] w fun e w' => e = .returned (.bool true) ∧ w = w' := by
  have hlt : k < s.size := by have := get_lt h; rwa [← Lib.size_eq] at this
  have hc : s[k] = c := by rw [get_byte s hlt] at h; exact Option.some.inj h
  have hcl := byte_lt c
  clear h
  go_enter Tryz.func96, Tryz.ntmps96
  go_wp2
  go_ret
  exact ⟨rfl, rfl⟩
theorem ris_no {s : ByteArray} {k : Nat} {c : UInt8} (h : ¬(s.data.toList[k]? = some c)) (w : World) (_hs : s.size ≤ 1000000000) (_hk : k ≤ s.size) :
    Calls Tryz.prog 96 #[.string s, .int .i64 k, .int .u8 c.toNat] w fun e w' => e = .returned (.bool false) ∧ w = w' := by
  have hcl := byte_lt c
  by_cases hlt : k < s.size
  · obtain ⟨x, hx⟩ : ∃ x, s[k] = x := ⟨_, rfl⟩
    have hne : ((x.toNat : Int) == (c.toNat : Int)) = false := by
      rw [get_byte s hlt, hx] at h
      rw [beq_eq_false_iff_ne]
      intro e
      exact h (by rw [UInt8.toNat_inj.1 (by omega : x.toNat = c.toNat)])
    have hxl := byte_lt x
    clear h
    go_enter Tryz.func96, Tryz.ntmps96
    go_wp2
    go_ret
    exact ⟨rfl, rfl⟩
  · clear h
    go_enter Tryz.func96, Tryz.ntmps96
    go_wp2
    go_ret
    exact ⟨rfl, rfl⟩
/-- Both answers, as one Bool. -/
theorem ris_calls {s : ByteArray} {k : Nat} {c : UInt8} {B : Bool} (h : decide (s.data.toList[k]? = some c) = B) (w : World) (hs : s.size ≤ 1000000000) (hk : k ≤ s.size) :
    Calls Tryz.prog 96 #[.string s, .int .i64 k, .int .u8 c.toNat] w fun e w' => e = .returned (.bool B) ∧ w = w' := by
  subst h
  by_cases hy : s.data.toList[k]? = some c
  · rw [decide_eq_true hy]; exact ris_yes hy w hs
  · rw [decide_eq_false hy]; exact ris_no hy w hs hk
end Go.Proofs.YtgjiienipeoajaaGreatDoor
