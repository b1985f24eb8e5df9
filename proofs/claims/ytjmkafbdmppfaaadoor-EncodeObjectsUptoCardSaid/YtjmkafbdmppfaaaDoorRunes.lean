/- utf.Runes: the iterator over a text's runes and their places. Condition: a text shorter than 10^9. -/
import Derived.Test.YtjmkafbdmppfaaaDoorProg
import Derived.Test.YtjmkafbdmppfaaaDoorMay
import Derived.Test.YtjmkafbdmppfaaaDoorRange
import Derived.Lib.MapLaws
import Derived.Lib.TrimUEq
import Derived.LoopIn
import Derived.LoopNIn
namespace Go.Proofs.YtjmkafbdmppfaaaDoor
open Go.RowKit
attribute [local go_sem] Oper.semAt_some

/-- The runes of what stands from a place on, and their places. -/
def runesFrom : Nat → List UInt8 → Nat → List (Nat × Nat)
  | 0, _, _ => []
  | n + 1, l, p => if l = [] then [] else if (Lib.decodeL l).1 = 65533 ∧ (Lib.decodeL l).2 = 1 then [] else (p, (Lib.decodeL l).1) :: runesFrom n (l.drop (Lib.decodeL l).2) (p + (Lib.decodeL l).2)
def runes (s : ByteArray) : List (Nat × Nat) := runesFrom s.size s.data.toList 0

theorem decode_tail (s : ByteArray) (k : Nat) (h : k < s.size) : (if (s.extract k s.size).size = 0 then (65533, 0) else Utf8.decode (s.extract k s.size) 0) = Lib.decodeL (s.data.toList.drop k) := by
  have e : (s.extract k s.size) = ⟨(s.data.toList.drop k).toArray⟩ := by
    apply ByteArray.ext
    apply Array.ext'
    rw [Lib.extract_data]
    dsimp only
    rw [List.take_of_length_le (by rw [List.length_drop, ← Lib.size_eq]; omega)]
  rw [if_neg (by rw [ByteArray.size_extract]; omega), e]
  rfl

theorem Runes_calls (s : ByteArray) (w : World) :
    Calls Tryd.prog 37 #[.string s] w fun e w' => e = .returned (.func (.func 63) #[] #[.pointer (some ⟨w.heap.size, 0, none⟩)]) ∧ w.alloc (.cells #[.string s] 9) = w' := by
  go_enter Tryd.func37, Tryd.ntmps37
  go_wp2
  go_ret
  exact ⟨rfl, rfl⟩

set_option maxRecDepth 100000 in
set_option maxHeartbeats 2000000 in
theorem runes_yields (s : ByteArray) (b : Nat) (hs : s.size ≤ 1000000000) :
    Yields Tryd.prog 63 #[.pointer (some ⟨b, 0, none⟩)] (fun x : Nat × Nat => #[.int .i64 x.1, .int .i32 x.2]) (runes s) (fun A => A.cell? ⟨b, 0, none⟩ = some (.string s) ∧ Tabs A) := by
  intro n l J W hJn hJb hY h0
  refine callsIn_of_wp Tryd.func63 rfl trivial ?_ rfl
  simp only [Tryd.ntmps63, List.size_toArray, List.length_cons, List.length_nil, Nat.reduceAdd, Nat.reduceSub, Array.replicate_succ, Array.replicate_zero, List.push_toArray, List.append_toArray, List.nil_append, List.cons_append]
  gi_wp2
  gi_loopw [3] (fun i wr => ∃ (pre : List (Nat × Nat)) (f k : Nat), i = .int .i64 k ∧ k ≤ s.size ∧ s.size - k ≤ f ∧ Hid (runes s = pre ++ runesFrom f (s.data.toList.drop k) k) ∧ J pre wr) (fun i _ => s.size - (intOf i).toNat)
  case atStart => exact ⟨[], s.size, 0, rfl, Nat.zero_le _, by omega, rfl, h0⟩
  case round =>
    obtain ⟨pre, f, k, rfl, hk, hf, hr, hJ⟩ := hrel
    have hcr : wr.cell? ⟨b, 0, none⟩ = some (.string s) := (hJb _ _ hJ).1
    have hTr : Tabs wr := (hJb _ _ hJ).2
    by_cases hlt : k < s.size
    · have hne : s.data.toList.drop k ≠ [] := by
        intro e
        have := congrArg List.length e
        rw [List.length_drop, ← Lib.size_eq] at this
        simp at this
        omega
      obtain ⟨f, rfl⟩ : ∃ f', f = f' + 1 := ⟨f - 1, by omega⟩
      have cD := Tryd.utf8_DecodeRuneInString (s.extract k s.size) wr hTr.2.1
      have hdc : Lib.decodeGo (s.extract k s.size) = Lib.decodeL (s.data.toList.drop k) := decode_tail s k hlt
      have hw1 := Lib.decodeL_width (s.data.toList.drop k)
      have hw2 := Lib.decodeL_le _ hne
      have hw3 := Lib.decodeL_rune (s.data.toList.drop k)
      rw [List.length_drop, ← Lib.size_eq] at hw2
      have hr' := hr.out
      simp only [runesFrom] at hr'
      rw [if_neg hne, List.drop_drop] at hr'
      rw [hdc] at cD
      generalize Lib.decodeL (s.data.toList.drop k) = D at cD hw1 hw2 hw3 hr'
      obtain ⟨r, z⟩ := D
      simp only at cD hw1 hw2 hw3 hr'
      have CD := Lib.hid cD
      clear cD hdc hne hr
      by_cases hbad : r = 65533 ∧ z = 1
      · rw [if_pos hbad, List.append_nil] at hr'
        have Hr := Lib.hid hr'
        obtain ⟨hr1, hz1⟩ := hbad
        have e1 : ((r : Int) == 65533) = true := by simp; omega
        have e2 : ((z : Int) == 1) = true := by simp; omega
        clear hr' hr1 hz1
        gi_wp2_with (refine ⟨trivial, ?_⟩; gi_at_call 64; refine (callsIn_wide.2 CD.out).mono ?_; rintro e w2 ⟨rfl, hb2⟩; have hJ2 := hJn _ _ _ hJ hb2)
        refine bodyPost_ret (results_none rfl _ _ _) rfl ?_
        exact ⟨⟨_, rfl⟩, by rw [Hr.out]; exact hJ2⟩
      · rw [if_neg hbad] at hr'
        have Hr := Lib.hid hr'
        have Hr2 : Hid (runes s = (pre ++ [(k, r)]) ++ runesFrom f (s.data.toList.drop (k + z)) (k + z)) := by
          show runes s = _
          rw [hr']; simp
        clear hr'
        rcases (by omega : r ≠ 65533 ∨ (r = 65533 ∧ z ≠ 1)) with h1 | ⟨h1, h2⟩
        · have e1 : ((r : Int) == 65533) = false := by simp; omega
          clear h1 hbad
          gi_wp2_with (refine ⟨trivial, ?_⟩; gi_at_call 64; refine (callsIn_wide.2 CD.out).mono ?_; rintro e w2 ⟨rfl, hb2⟩; obtain ⟨fn, tmps, assign, body, hy, hR⟩ := hY pre (k, r) _ w2 Hr.out (hJn _ _ _ hJ hb2); dsimp only at hy)
          refine hR.mono ?_
          rintro e W3 ⟨rfl, hJ3⟩
          clear hy hR
          gi_wp2
          go_roundw
          case rel => exact ⟨pre ++ [(k, r)], f, k + z, by go_num, by omega, by omega, Hr2, hJ3⟩
          case measure => simp [intOf]; omega
        · have e1 : ((r : Int) == 65533) = true := by simp; omega
          have e2 : ((z : Int) == 1) = false := by simp; omega
          clear h1 h2 hbad
          gi_wp2_with (refine ⟨trivial, ?_⟩; gi_at_call 64; refine (callsIn_wide.2 CD.out).mono ?_; rintro e w2 ⟨rfl, hb2⟩; obtain ⟨fn, tmps, assign, body, hy, hR⟩ := hY pre (k, r) _ w2 Hr.out (hJn _ _ _ hJ hb2); dsimp only at hy)
          refine hR.mono ?_
          rintro e W3 ⟨rfl, hJ3⟩
          clear hy hR
          gi_wp2
          go_roundw
          case rel => exact ⟨pre ++ [(k, r)], f, k + z, by go_num, by omega, by omega, Hr2, hJ3⟩
          case measure => simp [intOf]; omega
    · obtain rfl : k = s.size := by omega
      have hr' := hr.out
      rw [List.drop_eq_nil_of_le (by rw [← Lib.size_eq]; omega)] at hr'
      have hz : runesFrom f [] s.size = [] := by cases f <;> simp [runesFrom]
      rw [hz, List.append_nil] at hr'
      have Hr := Lib.hid hr'
      clear hr hr'
      gi_wp2
      go_end0
      exact ⟨⟨_, rfl⟩, by rw [Hr.out]; exact hJ⟩

end Go.Proofs.YtjmkafbdmppfaaaDoor
