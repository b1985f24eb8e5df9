/- Why a value may not be: the reference's function, over an object's members. Condition: a bulk of at most 10^9. -/
import Derived.Test.YtjmkafbdmppfaaaDoorProg
import Derived.Test.YtjmkafbdmppfaaaDoorMayR
namespace Go.Proofs.YtjmkafbdmppfaaaDoor
open Go.RowKit

set_option maxHeartbeats 4000000 in
theorem mayR_obj (k : Int) (b : Bool) (n : Int) (t : ByteArray) (o : List (ByteArray × Val)) (la oa : Option Addr) (lc oc : Nat) (d : Int) (w : World) (g off : Nat) (hoa : o = [] ∨ (oa = some ⟨g, off, none⟩ ∧ g < w.heap.size ∧ HoldsO w w.heap.size o g off))
    (hb : bulkO o + t.size ≤ 1000000000) (h0 : 0 ≤ d) (h64 : d ≤ 64) (IH : ∀ m ∈ o, MayRC m.2) (hodd : oddB k b n t 0 o.length = false) (hval : validB t = true) :
    Calls Tryd.prog 28 #[.agg #[.int .i64 k, .bool b, .int .i64 n, .string t, .slice la 0 lc, .slice oa o.length oc], .int .i64 d] w fun e w' => e = .returned (.int .i64 (mayO o none (d + 1))) ∧ Below w.heap.size w w' := by
  have hlen : o.length ≤ 1000000000 := by have := bulkO_len o; omega
  have h64' : ¬ (64 < d) := by omega
  have H : Hid (mayO (o.drop 0) (lastKey o 0) (d + 1) = mayO o none (d + 1)) := by rw [List.drop_zero]; exact rfl
  go_enter Tryd.func28, Tryd.ntmps28
  go_wp2_with (first | (go_at_call 57; refine (bare_calls2 hodd _).mono ?_; rintro e w1 ⟨rfl, hb1⟩; obtain ⟨hc1, hf1⟩ := bcell hb1; have hz1 := hb1.size; simp only [World.size_alloc] at hz1; have hbw1 : Below w.heap.size w w1 := ((Below.refl _ _).alloc (Nat.le_refl _) _).trans (hb1.mono (by simp)); have hbox1 : w1.heap[w.heap.size]? = some (.cells #[.int .i64 k, .bool b, .int .i64 n, .string t, .slice la 0 lc, .slice oa o.length oc] 26 (0, 0)) := (hb1.block _ (by simp)).trans (heap_alloc_new _ _)) | (go_at_call 17; refine (RValid_calls2 hval _ (by omega)).mono ?_; rintro e w2 ⟨rfl, rfl⟩))
  clear hb1 hodd hc1 hf1 hz1
  go_loopw [5] (fun i wx => i = .int .i64 0 ∧ wx = w1) (fun _ _ => 0)
  case atStart => exact ⟨rfl, rfl⟩
  case round =>
    obtain ⟨rfl, rfl⟩ := hrel
    have hbx0 : w.heap.size < wr.heap.size := (Array.getElem?_eq_some_iff.1 hbox1).1
    have b40 : wr.cell? ⟨w.heap.size, 4, none⟩ = some (.slice la 0 lc) := by rw [Lib.cell_of_heap hbox1]; rfl
    go_wp2
    clear b40 hbx0
    rename World => w1
    go_loopw [7, 8] (fun q i wr => ∃ j : Nat, ∃ lk : ByteArray, j ≤ o.length ∧ i = .int .i64 j ∧ q = .string lk ∧ (0 < j → lastKey o j = some lk) ∧ Hid (mayO (o.drop j) (lastKey o j) (d + 1) = mayO o none (d + 1)) ∧ Below w.heap.size w wr ∧ wr.heap[w.heap.size]? = some (.cells #[.int .i64 k, .bool b, .int .i64 n, .string t, .slice la 0 lc, .slice oa o.length oc] 26 (0, 0))) (fun _ i _ => o.length - (intOf i).toNat)
    case atStart => exact ⟨0, ByteArray.empty, Nat.zero_le _, rfl, rfl, fun h => absurd h (by omega), H, hbw1, hbox1⟩
    case round =>
      obtain ⟨j, q, hj, rfl, rfl, hlk, hm, hbw, hbox⟩ := hrel
      clear H hbw1 hbox1
      have hbx : w.heap.size < wr.heap.size := (Array.getElem?_eq_some_iff.1 hbox).1
      have b5 : wr.cell? ⟨w.heap.size, 5, none⟩ = some (.slice oa o.length oc) := by rw [Lib.cell_of_heap hbox]; rfl
      have hz := hbw.size
      by_cases hlt : j < o.length
      · obtain ⟨rfl, hg, hL⟩ : oa = some ⟨g, off, none⟩ ∧ g < w.heap.size ∧ HoldsO w w.heap.size o g off := by
          rcases hoa with rfl | h
          · simp at hlt
          · exact h
        obtain ⟨⟨key, v⟩, hv⟩ : ∃ v, o[j]? = some v := ⟨_, List.getElem?_eq_getElem hlt⟩
        have hdrop : o.drop j = (key, v) :: o.drop (j + 1) := drop_of_get hv
        have hmem : (key, v) ∈ o := List.mem_of_getElem? hv
        have hbv := bulkO_mem hmem
        simp only at hbv
        have IHv := Lib.hid (IH (key, v) hmem)
        have hlast : lastKey o (j + 1) = some key := by simp [lastKey, hv]
        have Hlast := Lib.hid hlast
        have hm' := hm.out
        rw [hdrop] at hm'
        simp only [mayO, mayP, ← hlast] at hm'
        clear hm hdrop hmem IH hlast
        have hLr := hL.below hg hbw
        have hgr : g < wr.heap.size := by omega
        obtain ⟨k', b', n', t', l', o'⟩ := v
        obtain ⟨la', lc', oa', oc', hvs, c0, c1, c2, c3, c4, c5, c6⟩ := hLr.seven hv
        clear hL hLr hv hoa
        by_cases hval2 : validB key = true
        · rw [hval2] at hm'
          simp only [if_true] at hm'
          by_cases hjp : 0 < j
          · rw [hlk hjp] at hm'
            simp only at hm'
            have hgd : decide (0 < j) = true := by simpa using hjp
            clear hlk
            by_cases hle : leB key q = true
            · rw [if_pos hle] at hm'
              unfold leB at hle
              have Hm := Lib.hid hm'
              clear hm'
              go_wp2_with (go_at_call 17; refine (RValid_calls2 hval2 _ (by omega)).mono ?_; rintro e wv ⟨rfl, rfl⟩)
              go_ret
              exact ⟨by rw [← Hm.out]; rfl, hbw⟩
            · rw [if_neg hle] at hm'
              have hle' : (Op.bytesLess key.toList q.toList || key.toList == q.toList) = false := by simpa [leB] using hle
              clear hle
              obtain ⟨m, hmv⟩ : ∃ m, mayV (.mk k' b' n' t' l' o') (d + 1) = m := ⟨_, rfl⟩
              rw [hmv] at hm'
              have Hmv := Lib.hid hmv
              clear hmv
              by_cases hm0 : m = 0
              · rw [if_pos hm0] at hm'
                subst hm0
                have Hm := Lib.hid hm'
                clear hm'
                go_wp2_with (first | (go_at_call 17; refine (RValid_calls2 hval2 _ (by omega)).mono ?_; rintro e wv ⟨rfl, rfl⟩) | (go_at_call 28; refine (IHv.out _ (d + 1) _ (HoldsV.more (by omega) _ _ hvs) (by omega) (by omega) (by omega)).mono ?_; rintro e w3 ⟨he, hb3⟩; rw [Hmv.out] at he; subst he; have hbw3 : Below w.heap.size w w3 := hbw.trans (hb3.mono hz); have hbox3 := (hb3.block _ hbx).trans hbox))
                go_roundw
                case rel => exact ⟨j + 1, key, by omega, by go_num, rfl, fun _ => Hlast.out, Hm, hbw3, hbox3⟩
                case measure => simp [intOf]; omega
              · rw [if_neg hm0] at hm'
                have hm1 : (m == 0) = false := by simpa using hm0
                have hm2 : (m != 0) = true := by simpa using hm0
                have Hm := Lib.hid hm'
                clear hm'
                go_wp2_with (first | (go_at_call 17; refine (RValid_calls2 hval2 _ (by omega)).mono ?_; rintro e wv ⟨rfl, rfl⟩) | (go_at_call 28; refine (IHv.out _ (d + 1) _ (HoldsV.more (by omega) _ _ hvs) (by omega) (by omega) (by omega)).mono ?_; rintro e w3 ⟨he, hb3⟩; rw [Hmv.out] at he; subst he; have hbw3 : Below w.heap.size w w3 := hbw.trans (hb3.mono hz); have hbox3 := (hb3.block _ hbx).trans hbox))
                go_ret
                exact ⟨by rw [← Hm.out]; rfl, hbw3⟩
          · have hlk0 : lastKey o j = none := by
              obtain rfl : j = 0 := by omega
              rfl
            rw [hlk0] at hm'
            simp only at hm'
            have hgd : decide (0 < j) = false := by simpa using hjp
            have hk0 : j ≤ 0 := by omega
            clear hlk hlk0
            obtain ⟨m, hmv⟩ : ∃ m, mayV (.mk k' b' n' t' l' o') (d + 1) = m := ⟨_, rfl⟩
            rw [hmv] at hm'
            have Hmv := Lib.hid hmv
            clear hmv
            by_cases hm0 : m = 0
            · rw [if_pos hm0] at hm'
              subst hm0
              have Hm := Lib.hid hm'
              clear hm'
              go_wp2_with (first | (go_at_call 17; refine (RValid_calls2 hval2 _ (by omega)).mono ?_; rintro e wv ⟨rfl, rfl⟩) | (go_at_call 28; refine (IHv.out _ (d + 1) _ (HoldsV.more (by omega) _ _ hvs) (by omega) (by omega) (by omega)).mono ?_; rintro e w3 ⟨he, hb3⟩; rw [Hmv.out] at he; subst he; have hbw3 : Below w.heap.size w w3 := hbw.trans (hb3.mono hz); have hbox3 := (hb3.block _ hbx).trans hbox))
              go_roundw
              case rel => exact ⟨j + 1, key, by omega, by go_num, rfl, fun _ => Hlast.out, Hm, hbw3, hbox3⟩
              case measure => simp [intOf]; omega
            · rw [if_neg hm0] at hm'
              have hm1 : (m == 0) = false := by simpa using hm0
              have hm2 : (m != 0) = true := by simpa using hm0
              have Hm := Lib.hid hm'
              clear hm'
              go_wp2_with (first | (go_at_call 17; refine (RValid_calls2 hval2 _ (by omega)).mono ?_; rintro e wv ⟨rfl, rfl⟩) | (go_at_call 28; refine (IHv.out _ (d + 1) _ (HoldsV.more (by omega) _ _ hvs) (by omega) (by omega) (by omega)).mono ?_; rintro e w3 ⟨he, hb3⟩; rw [Hmv.out] at he; subst he; have hbw3 : Below w.heap.size w w3 := hbw.trans (hb3.mono hz); have hbox3 := (hb3.block _ hbx).trans hbox))
              go_ret
              exact ⟨by rw [← Hm.out]; rfl, hbw3⟩
        · have hvf : validB key = false := by simpa using hval2
          rw [hvf] at hm'
          have Hm := Lib.hid hm'
          clear hm' hval2 hlk
          go_wp2_with (go_at_call 17; refine (RValid_calls2 hvf _ (by omega)).mono ?_; rintro e wv ⟨rfl, rfl⟩)
          go_ret
          exact ⟨by rw [← Hm.out]; simp, hbw⟩
      · obtain rfl : j = o.length := by omega
        have hm' := hm.out
        rw [List.drop_length] at hm'
        have Hm := Lib.hid hm'
        clear hm hm' hlk hoa IH
        go_wp2
        go_ret
        exact ⟨by rw [← Hm.out]; rfl, hbw⟩

end Go.Proofs.YtjmkafbdmppfaaaDoor
