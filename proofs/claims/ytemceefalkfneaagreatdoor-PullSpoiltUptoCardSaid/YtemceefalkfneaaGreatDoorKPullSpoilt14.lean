/- Parts, joined: The law PullSpoilt returns true. Condition: a bulk of at most 5 * 10^6. -/
import Derived.Test.YtemceefalkfneaaGreatDoorProg
import Derived.Test.YtemceefalkfneaaGreatDoorKCm27
import Derived.Test.YtemceefalkfneaaGreatDoorKPullSpoilt1
import Derived.Test.YtemceefalkfneaaGreatDoorKPullSpoilt9
import Derived.Test.YtemceefalkfneaaGreatDoorKPullSpoilt10
import Derived.Test.YtemceefalkfneaaGreatDoorKPullSpoilt12
import Derived.Test.YtemceefalkfneaaGreatDoorKPullSpoilt13
/- The law PullSpoilt returns true. Condition: a bulk of at most 5 * 10^6. -/
namespace Go.Proofs.YtemceefalkfneaaGreatDoor
open Go Go.RowKit

set_option maxRecDepth 100000 in
set_option maxHeartbeats 2000000 in
theorem spoilt_no (c b k s : Int) (l : List POp) (i : Int) (m : UInt8) (h0 : 0 ≤ c) (hm : mayResp c b k s l ≠ 0) (a : Option Addr) (n cc : Nat) (w : World) (hT : Tabs w) (hN : Names w) (h : Holds w w.heap.size (.row 8 (dQs l)) [.slice a n cc]) (hb : bulkQ l ≤ 5000000) (hin : inQ l) :
    Calls Tryz.prog 3 #[.agg #[.int .u64 c, .int .u64 b, .int .u64 k, .int .u64 s, .slice a n cc], .int .i64 i, .int .u8 m.toNat] w fun e w' => e = .returned (.bool true) ∧ Below w.heap.size w w' := by
  have h1 := fun (W : World) hB => answer_calls c b k s l a n cc W ((h.below (w' := W) hB).more hB.size) (by omega)
  have h2 := fun (W : World) hB a' n' c' hh => encResp_no c b k s l hm a' n' c' W (hT.below (w' := W) hB) hh (by omega) hin
  have h3 := fun (W : World) hB => RMayResponse_calls c b k s h0 l a n cc W (hT.below (w' := W) hB) ((h.below hB).more hB.size) (by omega) hin
  have h4 := fun (W : World) hB => known18_calls W (hT.below (w' := W) hB) (hN.below hB)
  generalize mayResp c b k s l = X at hm h2 h3
  have tX : (X != 0) = true := by simpa using hm
  obtain ⟨wi, hwi⟩ : ∃ wi, w.alloc (.cells #[.int .u64 c, .int .u64 b, .int .u64 k, .int .u64 s, .slice a n cc] 25) = wi := ⟨_, rfl⟩
  have hxb : Blk wi w.heap.size 25 #[.int .u64 c, .int .u64 b, .int .u64 k, .int .u64 s, .slice a n cc] := hwi ▸ Blk.new _ _ _
  have hbi : Below w.heap.size w wi := hwi ▸ alloc_below _ _
  have d0 := hxb.cell 0
  have d1 := hxb.cell 1
  have d2 := hxb.cell 2
  have d3 := hxb.cell 3
  have d4 := hxb.cell 4
  have g0 := hxb.lt
  have H1 := Lib.hid h1
  have H2 := Lib.hid h2
  have H3 := Lib.hid h3
  have H4 := Lib.hid h4
  have Hxb := Lib.hid hxb
  have Hbi := Lib.hid hbi
  have HT := Lib.hid hT
  have HN := Lib.hid hN
  have H := Lib.hid h
  clear h1 h2 h3 h4 hxb hbi hT hN h
  clear hm
  go_enter Tryz.func3, Tryz.ntmps3
  go_upto_region 1 with (fail)
  clear hwi
  go_wp2_with (fail)
  refine (H1.out _ Hbi.out).mono ?_
  rintro e w1 ⟨hb1, a1, c1, rfl, hf1⟩
  have hbw1 := Hbi.out.trans (hb1.mono Hbi.out.size)
  go_wp2_with (fail)
  refine (H2.out _ hbw1 _ _ _ hf1.now).mono ?_
  rintro e w2 ⟨rfl, hb2⟩
  have hbw2 := hbw1.trans (hb2.mono hbw1.size)
  have hbr2 : Below wi.heap.size wi w2 := hb1.trans (hb2.mono hb1.size)
  obtain ⟨hc2, hg2⟩ := bcellM hbr2
  go_wp2_with (fail)
  refine (H3.out _ hbw2).mono ?_
  rintro e w3 ⟨rfl, hb3⟩
  have hbw3 := hbw2.trans (hb3.mono hbw2.size)
  go_wp2_with (fail)
  refine (H4.out _ hbw3).mono ?_
  rintro e w4 ⟨rfl, hb4⟩
  have hbw4 := hbw3.trans (hb4.mono hbw3.size)
  go_wp2
  go_ret
  exact ⟨rfl, hbw4⟩

set_option maxRecDepth 100000 in
set_option maxHeartbeats 4000000 in
theorem spoilt_yes (c b k s : Int) (l : List POp) (i : Int) (m : UInt8) (hi64 : -9223372036854775808 ≤ i ∧ i ≤ 9223372036854775807) (h0 : 0 ≤ c ∧ 0 ≤ b ∧ 0 ≤ k ∧ 0 ≤ s) (hm : mayResp c b k s l = 0) (a : Option Addr) (n cc : Nat) (w : World) (hT : Tabs w) (hN : Names w) (h : Holds w w.heap.size (.row 8 (dQs l)) [.slice a n cc]) (hb : bulkQ l ≤ 5000000) (hin : inQ l) :
    Calls Tryz.prog 3 #[.agg #[.int .u64 c, .int .u64 b, .int .u64 k, .int .u64 s, .slice a n cc], .int .i64 i, .int .u8 m.toNat] w fun e w' => e = .returned (.bool true) ∧ Below w.heap.size w w' := by
  obtain ⟨y1, y2, y3, y4, y5, hml⟩ : 0 < c ∧ c ≤ 4611686018427387903 ∧ b ≤ 4611686018427387903 ∧ k ≤ 4611686018427387903 ∧ s ≤ 4611686018427387903 ∧ mayOps none l = 0 := by
    have hm' := hm
    unfold mayResp at hm'
    split at hm'
    · rename_i hc
      exact ⟨hc.1, hc.2.1, hc.2.2.1, hc.2.2.2.1, hc.2.2.2.2, hm'⟩
    · cases hm'
  have hmv := may_resp c b k s hml
  have hiv : inV (ov (respO c b k s l)) := in_resp (by omega) y2 h0.2.2.1 y4 h0.2.1 y3 h0.2.2.2 y5 hin
  have hbv := bulk_resp c b k s hb
  have hbo : (ov (respO c b k s l)).bulk ≤ 100000000 := by simp only [ov, Val.bulk, bulkL]; have : nil0.size = 0 := rfl; omega
  have hln := textV_len _ (okV_of _ 1 hmv hiv)
  have h1 := fun (W : World) hB => answer_calls c b k s l a n cc W ((h.below (w' := W) hB).more hB.size) (by omega)
  have h2 := fun (W : World) hB a' n' c' hh => encResp_calls c b k s l ⟨h0.2.1, h0.2.2.1, h0.2.2.2⟩ hm a' n' c' W (hT.below (w' := W) hB) (hN.below hB) hh hb hin
  have h3 := fun (W : World) hB => RMayResponse_calls c b k s h0.1 l a n cc W (hT.below (w' := W) hB) ((h.below hB).more hB.size) (by omega) hin
  have h4 := fun (W : World) hB => known18_calls W (hT.below (w' := W) hB) (hN.below hB)
  have h7 := fun W => same18_zero W
  rw [hm] at h3
  have hlM : (sealL (3 :: textV (ov (respO c b k s l)))).length ≤ 1000000000 := by unfold sealL; simp [sumBytes]; omega
  have hBE : ∀ (j : Nat) (x : UInt8), (sealL (3 :: textV (ov (respO c b k s l))))[j]? = some x → m ≠ 0 → bodyE 3 ((sealL (3 :: textV (ov (respO c b k s l)))).set j (x ^^^ m)) = 11 := fun j x hx hm => bodyE_spoilt 3 _ j x _ hx (mask_ne hm)
  generalize sealL (3 :: textV (ov (respO c b k s l))) = M at h2 hlM hBE
  have h5 := fun (W : World) a n c h => spoil_calls M i m a n c W h hlM
  have h6 : ∀ (j : Nat) (x : UInt8), M[j]? = some x → m ≠ 0 → ∀ (W : World) (a : Option Addr) (n c : Nat), Holds W W.heap.size (.row 1 (dB (M.set j (x ^^^ m)))) [.slice a n c] → n ≤ c → Calls Tryz.prog 10 #[.slice a n c] W fun e w' => e = .returned (.tuple #[.agg #[.int .u64 0, .int .u64 0, .int .u64 0, .int .u64 0, .slice none 0 0], .int .i64 11]) ∧ Below W.heap.size W w' := fun j x hx hm W a n c hh hc => decodeResp_no _ 11 (hBE j x hx hm) (by omega) a n c W hh hc (by rw [List.length_set]; exact hlM)
  obtain ⟨wi, hwi⟩ : ∃ wi, w.alloc (.cells #[.int .u64 c, .int .u64 b, .int .u64 k, .int .u64 s, .slice a n cc] 25) = wi := ⟨_, rfl⟩
  have hxb : Blk wi w.heap.size 25 #[.int .u64 c, .int .u64 b, .int .u64 k, .int .u64 s, .slice a n cc] := hwi ▸ Blk.new _ _ _
  have hbi : Below w.heap.size w wi := hwi ▸ alloc_below _ _
  have d0 := hxb.cell 0
  have d1 := hxb.cell 1
  have d2 := hxb.cell 2
  have d3 := hxb.cell 3
  have d4 := hxb.cell 4
  have g0 := hxb.lt
  have H1 := Lib.hid h1
  have H2 := Lib.hid h2
  have H3 := Lib.hid h3
  have H4 := Lib.hid h4
  have H5 := Lib.hid h5
  have H6 := Lib.hid h6
  have H7 := Lib.hid h7
  have Hxb := Lib.hid hxb
  have Hbi := Lib.hid hbi
  have HT := Lib.hid hT
  have HN := Lib.hid hN
  have H := Lib.hid h
  clear h1 h2 h3 h4 h5 h6 h7 hxb hbi hT hN h
  clear hm hml hmv hiv hbv hbo hln hBE
  go_enter Tryz.func3, Tryz.ntmps3
  go_upto_region 1 with (fail)
  clear hwi
  go_wp2_with (fail)
  refine (H1.out _ Hbi.out).mono ?_
  rintro e w1 ⟨hb1, a1, c1, rfl, hf1⟩
  have hbw1 := Hbi.out.trans (hb1.mono Hbi.out.size)
  go_wp2_with (fail)
  refine (H2.out _ hbw1 _ _ _ hf1.now).mono ?_
  rintro e w2 ⟨a2, c2, rfl, hf2, hb2⟩
  have hbw2 := hbw1.trans (hb2.mono hbw1.size)
  have hbr2 : Below wi.heap.size wi w2 := hb1.trans (hb2.mono hb1.size)
  obtain ⟨hc2, hg2⟩ := bcellM hbr2
  go_wp2_with (fail)
  refine (H3.out _ hbw2).mono ?_
  rintro e w3 ⟨rfl, hb3⟩
  have hbw3 := hbw2.trans (hb3.mono hbw2.size)
  clear hc2 hg2
  go_wp2_with (fail)
  refine (H5.out _ _ _ _ (hf2.later hb3).now).mono ?_
  rintro e w4 ⟨hb4, hr⟩
  have hbw4 := hbw3.trans (hb4.mono hbw3.size)
  by_cases hE : spoilE i m M.length = 0
  · rw [if_pos hE] at hr
    obtain ⟨a4, c4, x, hx, rfl, hf4⟩ := hr
    have hm0 : m ≠ 0 := by
      unfold spoilE at hE
      intro e
      rw [if_pos e] at hE
      split at hE <;> cases hE
    go_wp2_with (fail)
    refine (H6.out _ _ hx hm0 _ _ _ _ (by simpa using hf4.now) (by omega)).mono ?_
    rintro e w5 ⟨rfl, hb5⟩
    have hbw5 := hbw4.trans (hb5.mono hbw4.size)
    have hbA := hbw5.alloc hbw5.size (.cells #[.int .u64 0, .int .u64 0, .int .u64 0, .int .u64 0, .slice none 0 0] 25)
    go_wp2_with (fail)
    refine (H7.out _).mono ?_
    rintro e w6 ⟨rfl, hb6⟩
    have hbw6 := hbA.trans (hb6.mono hbA.size)
    go_wp2_with (fail)
    refine (H4.out _ hbw6).mono ?_
    rintro e w7 ⟨rfl, hb7⟩
    have hbw7 := hbw6.trans (hb7.mono hbw6.size)
    go_wp2
    go_ret
    exact ⟨rfl, hbw7⟩
  · rw [if_neg hE] at hr
    obtain rfl := hr
    have tE : (spoilE i m M.length != 0) = true := by simpa using hE
    have hK : i < 0 ∨ (¬ i < 0 ∧ (M.length : Int) ≤ i) ∨ (¬ i < 0 ∧ ¬ (M.length : Int) ≤ i ∧ m = 0) := by
      by_cases h1 : i < 0
      · exact .inl h1
      · by_cases h2 : (M.length : Int) ≤ i
        · exact .inr (.inl ⟨h1, h2⟩)
        · refine .inr (.inr ⟨h1, h2, ?_⟩)
          unfold spoilE at hE
          rw [if_pos ⟨by omega, by omega⟩] at hE
          by_cases hm : m = 0
          · exact hm
          · rw [if_neg hm] at hE
            exact absurd rfl hE
    generalize spoilE i m M.length = V at tE
    have hmz := u8_ne0 m
    clear hE
    rcases hK with e1 | ⟨e1, e2⟩ | ⟨e1, e2, e3⟩
    · have t1 : decide (i < 0) = true := decide_eq_true e1
      go_wp2_with (fail)
      refine (H4.out _ hbw4).mono ?_
      rintro e w7 ⟨rfl, hb7⟩
      have hbw7 := hbw4.trans (hb7.mono hbw4.size)
      go_wp2
      go_ret
      exact ⟨rfl, hbw7⟩
    · have t1 : decide (i < 0) = false := decide_eq_false e1
      have t2 : decide ((M.length : Int) ≤ i) = true := decide_eq_true e2
      go_wp2_with (fail)
      refine (H4.out _ hbw4).mono ?_
      rintro e w7 ⟨rfl, hb7⟩
      have hbw7 := hbw4.trans (hb7.mono hbw4.size)
      go_wp2
      go_ret
      exact ⟨rfl, hbw7⟩
    · have t1 : decide (i < 0) = false := decide_eq_false e1
      have t2 : decide ((M.length : Int) ≤ i) = false := decide_eq_false e2
      have t3 : (((m.toNat : Nat) : Int) == 0) = true := by rw [e3]; decide
      go_wp2_with (fail)
      refine (H4.out _ hbw4).mono ?_
      rintro e w7 ⟨rfl, hb7⟩
      have hbw7 := hbw4.trans (hb7.mono hbw4.size)
      go_wp2
      go_ret
      exact ⟨rfl, hbw7⟩

theorem PullSpoilt_law (c b k s : Int) (l : List POp) (i : Int) (m : UInt8) (hi64 : -9223372036854775808 ≤ i ∧ i ≤ 9223372036854775807) (h0 : 0 ≤ c ∧ 0 ≤ b ∧ 0 ≤ k ∧ 0 ≤ s) (a : Option Addr) (n cc : Nat) (w : World) (hT : Tabs w) (hN : Names w) (h : Holds w w.heap.size (.row 8 (dQs l)) [.slice a n cc]) (hb : bulkQ l ≤ 5000000) (hin : inQ l) :
    Calls Tryz.prog 3 #[.agg #[.int .u64 c, .int .u64 b, .int .u64 k, .int .u64 s, .slice a n cc], .int .i64 i, .int .u8 m.toNat] w fun e w' => e = .returned (.bool true) ∧ Below w.heap.size w w' := by
  by_cases hm : mayResp c b k s l = 0
  · exact spoilt_yes c b k s l i m hi64 h0 hm a n cc w hT hN h hb hin
  · exact spoilt_no c b k s l i m h0.1 hm a n cc w hT hN h hb hin
end Go.Proofs.YtemceefalkfneaaGreatDoor
