/- Parts, joined: Whether an answer may be: the program's word and the reference's. Condition: a bulk of at most 10^8. pull.DecodeResponse of what is no frame of an answer. Condition: at most 10^9 bytes. -/
import Derived.Test.YtemceefalkfneaaGreatDoorProg
import Derived.WalkLawsBesides
import Derived.Test.YtemceefalkfneaaGreatDoorKCm17
import Derived.Test.YtemceefalkfneaaGreatDoorKCm19
import Derived.Test.YtemceefalkfneaaGreatDoorKCm27
import Derived.Test.YtemceefalkfneaaGreatDoorKPullSpoilt1
import Derived.Test.YtemceefalkfneaaGreatDoorKPullSpoilt7
/- Whether an answer may be: the program's word and the reference's. Condition: a bulk of at most 10^8. -/
namespace Go.Proofs.YtemceefalkfneaaGreatDoor
open Go.RowKit


set_option maxRecDepth 100000 in
set_option maxHeartbeats 1000000 in
theorem MayResponse_calls (c b k s : Int) (l : List POp) (a : Option Addr) (n cc : Nat) (w : World) (hT : Tabs w) (h : Holds w w.heap.size (.row 8 (dQs l)) [.slice a n cc]) (hb : bulkQ l ≤ 100000000) (hin : inQ l) :
    Calls Tryz.prog 17 #[.agg #[.int .u64 c, .int .u64 b, .int .u64 k, .int .u64 s, .slice a n cc]] w fun e w' => e = .returned (.int .i64 (mayResp c b k s l)) ∧ Below w.heap.size w w' := by
  have hb0 := fun o => alloc_below w o
  have hM := fun (W : World) hB => patMay_calls l a n cc W (hT.below (w' := W) hB) ((h.below hB).more hB.size) hb hin
  by_cases h1 : 0 < c ∧ c ≤ 4611686018427387903
  · obtain ⟨h1, h2⟩ := h1
    have hC := fun W => isClient_calls c true W (by simp [h1, h2])
    by_cases h3 : b ≤ 4611686018427387903 ∧ k ≤ 4611686018427387903 ∧ s ≤ 4611686018427387903
    · have hm : mayResp c b k s l = mayOps none l := by unfold mayResp; rw [if_pos ⟨h1, h2, h3⟩]
      obtain ⟨h3, h4, h5⟩ := h3
      have h6 : max (max b k) s ≤ 4611686018427387903 := by omega
      have HC := Lib.hid hC
      have Hm := Lib.hid hm
      have HM := Lib.hid hM
      have H := Lib.hid h
      have HT := Lib.hid hT
      have Hb0 := Lib.hid hb0
      clear hC hm hM h hT hb0
      go_enter Tryz.func17, Tryz.ntmps17
      go_wp2_with (first
        | (go_at_call 43; (with_reducible refine (HC.out _).mono ?_); rintro e w' ⟨rfl, rfl⟩)
        | (go_at_call 44; (with_reducible refine (HM.out _ (Hb0.out _)).mono ?_); rintro e w2 ⟨rfl, hb2⟩))
      all_goals (go_ret; exact ⟨by rw [Hm.out]; rfl, (Hb0.out _).trans (hb2.mono (by simp))⟩)
    · have hm : mayResp c b k s l = 2 := by unfold mayResp; rw [if_neg (by omega)]
      have h6 : 4611686018427387903 < max (max b k) s := by omega
      have HC := Lib.hid hC
      have Hm := Lib.hid hm
      have HM := Lib.hid hM
      have H := Lib.hid h
      have HT := Lib.hid hT
      have Hb0 := Lib.hid hb0
      clear hC hm hM h hT hb0
      clear h3
      go_enter Tryz.func17, Tryz.ntmps17
      go_wp2_with (first
        | (go_at_call 43; (with_reducible refine (HC.out _).mono ?_); rintro e w' ⟨rfl, rfl⟩))
      all_goals first | (go_ret; exact ⟨by rw [Hm.out]; rfl, Hb0.out _⟩) | (exfalso; omega)
  · have hC := fun W => isClient_calls c false W (by simp; omega)
    have hm : mayResp c b k s l = 2 := by unfold mayResp; rw [if_neg (by omega)]
    have HC := Lib.hid hC
    have Hm := Lib.hid hm
    have HM := Lib.hid hM
    have H := Lib.hid h
    have HT := Lib.hid hT
    have Hb0 := Lib.hid hb0
    clear hC hm hM h hT hb0
    clear h1
    go_enter Tryz.func17, Tryz.ntmps17
    go_wp2_with (first
      | (go_at_call 43; (with_reducible refine (HC.out _).mono ?_); rintro e w' ⟨rfl, rfl⟩))
    go_ret
    exact ⟨by rw [Hm.out]; rfl, Hb0.out _⟩

set_option maxRecDepth 100000 in
set_option maxHeartbeats 1000000 in
theorem RMayResponse_calls (c b k s : Int) (h0 : 0 ≤ c) (l : List POp) (a : Option Addr) (n cc : Nat) (w : World) (hT : Tabs w) (h : Holds w w.heap.size (.row 8 (dQs l)) [.slice a n cc]) (hb : bulkQ l ≤ 100000000) (hin : inQ l) :
    Calls Tryz.prog 7 #[.agg #[.int .u64 c, .int .u64 b, .int .u64 k, .int .u64 s, .slice a n cc]] w fun e w' => e = .returned (.int .i64 (mayResp c b k s l)) ∧ Below w.heap.size w w' := by
  have hb0 := fun o => alloc_below w o
  have hM := fun (W : World) hB => rpatMay_calls l a n cc W (hT.below (w' := W) hB) ((h.below hB).more hB.size) hb hin
  by_cases h1 : c = 0
  · subst h1
    have hm : mayResp 0 b k s l = 2 := by unfold mayResp; rw [if_neg (by omega)]
    have Hm := Lib.hid hm
    have HM := Lib.hid hM
    have H := Lib.hid h
    have HT := Lib.hid hT
    have Hb0 := Lib.hid hb0
    clear hm hM h hT hb0
    go_enter Tryz.func7, Tryz.ntmps7
    go_wp2
    go_ret
    exact ⟨by rw [Hm.out]; rfl, Hb0.out _⟩
  have e0 : (c == 0) = false := by simpa using h1
  by_cases h2 : c ≤ 4611686018427387903 ∧ b ≤ 4611686018427387903 ∧ k ≤ 4611686018427387903 ∧ s ≤ 4611686018427387903
  · have hm : mayResp c b k s l = mayOps none l := by unfold mayResp; rw [if_pos ⟨by omega, h2⟩]
    obtain ⟨h2, h3, h4, h5⟩ := h2
    have Hm := Lib.hid hm
    have HM := Lib.hid hM
    have H := Lib.hid h
    have HT := Lib.hid hT
    have Hb0 := Lib.hid hb0
    clear hm hM h hT hb0
    clear h1
    go_enter Tryz.func7, Tryz.ntmps7
    go_wp2_with (first
      | (go_at_call 22; (with_reducible refine (HM.out _ (Hb0.out _)).mono ?_); rintro e w2 ⟨rfl, hb2⟩))
    go_ret
    exact ⟨by rw [Hm.out]; rfl, (Hb0.out _).trans (hb2.mono (by simp))⟩
  · have hm : mayResp c b k s l = 2 := by unfold mayResp; rw [if_neg (by omega)]
    have Hm := Lib.hid hm
    have HM := Lib.hid hM
    have H := Lib.hid h
    have HT := Lib.hid hT
    have Hb0 := Lib.hid hb0
    clear hm hM h hT hb0
    clear h1
    go_enter Tryz.func7, Tryz.ntmps7
    go_wp2
    all_goals first | (go_ret; exact ⟨by rw [Hm.out]; rfl, Hb0.out _⟩) | (exfalso; omega)
end Go.Proofs.YtemceefalkfneaaGreatDoor

/- pull.DecodeResponse of what is no frame of an answer. Condition: at most 10^9 bytes. -/
namespace Go.Proofs.YtemceefalkfneaaGreatDoor
open Go Go.RowKit

theorem results_resp_t {fn : Func} {t u : Tmp} {tmps : Array Value} {W : World} {R : Nat} {a0 a1 a2 a3 a4 : Value} (h : fn.results = #[.cell t 25, .tmp u]) (hp : tmps.getD t undef = .pointer (some ⟨R, 0, none⟩)) (hx : Blk W R 25 #[a0, a1, a2, a3, a4]) :
    (results fn tmps).run Tryz.prog W = .ok (.tuple #[.agg #[a0, a1, a2, a3, a4], tmps.getD u undef]) W := by
  have c0 := hx.cell 0
  have c1 := hx.cell 1
  have c2 := hx.cell 2
  have c3 := hx.cell 3
  have c4 := hx.cell 4
  clear hx
  have hp' : tmps[t]?.getD undef = .pointer (some ⟨R, 0, none⟩) := by simpa using hp
  simp [results, h, hp', go_sem, c0, c1, c2, c3, c4]

set_option maxRecDepth 100000 in
set_option maxHeartbeats 2000000 in
theorem decodeR_no (l : List UInt8) (x : Int) (hE : bodyE 3 l = x) (hx : x ≠ 0) (a : Option Addr) (n c : Nat) (w : World) (h : Holds w w.heap.size (.row 1 (dB l)) [.slice a n c]) (hc : n ≤ c) (hl : l.length ≤ 1000000000) (v1 v2 v3 : Value) :
    Calls Tryz.prog 30 #[.int .u8 3, .slice a n c, v1, v2, v3] w fun e w' => e = .returned (.tuple #[.agg #[.int .u64 0, .int .u64 0, .int .u64 0, .int .u64 0, .slice none 0 0], .int .i64 x]) ∧ Below w.heap.size w w' := by
  obtain ⟨w0, hw0⟩ : ∃ w0, ((w.alloc (.cells #[.int .u64 0, .int .u64 0, .int .u64 0, .int .u64 0, .slice none 0 0] 25)).alloc (.cells #[.int .u64 0, .int .u64 0, .int .u64 0, .int .u64 0, .slice none 0 0] 25)).alloc (.cells #[.int .u64 0, .int .u64 0, .int .u64 0, .int .u64 0, .slice none 0 0] 25) = w0 := ⟨_, rfl⟩
  have hz0 : w0.heap.size = w.heap.size + 3 := by rw [← hw0]; simp
  have hb0 : Below w.heap.size w w0 := hw0 ▸ (((Below.refl _ _).alloc (Nat.le_refl _) _).alloc (by simp) _).alloc (by simp; omega) _
  have hR : Blk w0 w.heap.size 25 #[.int .u64 0, .int .u64 0, .int .u64 0, .int .u64 0, .slice none 0 0] := hw0 ▸ ((Blk.new w _ _).alloc _).alloc _
  have hX : Blk w0 (w.heap.size + 1 + 1) 25 #[.int .u64 0, .int .u64 0, .int .u64 0, .int .u64 0, .slice none 0 0] := hw0 ▸ by simpa using Blk.new ((w.alloc (.cells #[.int .u64 0, .int .u64 0, .int .u64 0, .int .u64 0, .slice none 0 0] 25)).alloc (.cells #[.int .u64 0, .int .u64 0, .int .u64 0, .int .u64 0, .slice none 0 0] 25)) 25 #[.int .u64 0, .int .u64 0, .int .u64 0, .int .u64 0, .slice none 0 0]
  have hB : Calls Tryz.prog 51 #[.int .u8 3, .slice a n c] w0 (BodyPost 3 l w0) := body_calls 3 l a n c w0 ((h.below hb0).more hb0.size) hc hl
  have tX : (x != 0) = true := by simpa using hx
  have HB := Lib.hid hB
  have Hb0 := Lib.hid hb0
  have HR := Lib.hid hR
  have HX := Lib.hid hX
  have H := Lib.hid h
  have HE := Lib.hid hE
  clear hB hb0 hR hX h hE
  go_enter Tryz.func30, Tryz.ntmps30
  go_upto_region 2 with (fail)
  clear hw0
  go_wp2_with (fail)
  with_reducible refine (HB.out).mono ?_
  rintro e w1 ⟨hb1, hr⟩
  rw [HE.out, if_neg hx] at hr
  obtain rfl := hr
  have hw1 := Hb0.out.trans (hb1.mono Hb0.out.size)
  have hR1 := HR.out.below hb1 HR.out.lt
  have hX1 := HX.out.below hb1 HX.out.lt
  have r0 := hR1.cell 0
  have r1 := hR1.cell 1
  have r2 := hR1.cell 2
  have r3 := hR1.cell 3
  have r4 := hR1.cell 4
  have x0 := hX1.cell 0
  have x1 := hX1.cell 1
  have x2 := hX1.cell 2
  have x3 := hX1.cell 3
  have x4 := hX1.cell 4
  have fz := hR1.frozen
  have lt1 := hR1.lt
  have lt2 := hX1.lt
  have Hb1 := Lib.hid hb1
  have Hw1 := Lib.hid hw1
  have HR1 := Lib.hid hR1
  have HX1 := Lib.hid hX1
  clear hb1 hw1 hR1 hX1
  go_upto_region 4 with (fail)
  repeat go_step
  have hxf := ((((HR1.out.set_ 0 (.int .u64 0)).set_ 1 (.int .u64 0)).set_ 2 (.int .u64 0)).set_ 3 (.int .u64 0)).set_ 4 (.slice none 0 0)
  have hbf := setMany_below [.int .u64 0, .int .u64 0, .int .u64 0, .int .u64 0, .slice none 0 0] Hw1.out (Nat.le_refl w.heap.size) (o := 0)
  exact bodyPost_ret (results_resp_t rfl rfl hxf) rfl ⟨rfl, hbf⟩
set_option maxRecDepth 100000 in
set_option maxHeartbeats 2000000 in
theorem decodeResp_no (l : List UInt8) (x : Int) (hE : bodyE 3 l = x) (hx : x ≠ 0) (a : Option Addr) (n c : Nat) (w : World) (h : Holds w w.heap.size (.row 1 (dB l)) [.slice a n c]) (hc : n ≤ c) (hl : l.length ≤ 1000000000) :
    Calls Tryz.prog 10 #[.slice a n c] w fun e w' => e = .returned (.tuple #[.agg #[.int .u64 0, .int .u64 0, .int .u64 0, .int .u64 0, .slice none 0 0], .int .i64 x]) ∧ Below w.heap.size w w' := by
  obtain ⟨w0, hw0⟩ : ∃ w0, w.alloc (.cells #[.int .u64 0, .int .u64 0, .int .u64 0, .int .u64 0, .slice none 0 0] 25) = w0 := ⟨_, rfl⟩
  have hb0 : Below w.heap.size w w0 := hw0 ▸ alloc_below _ _
  have hR : Blk w0 w.heap.size 25 #[.int .u64 0, .int .u64 0, .int .u64 0, .int .u64 0, .slice none 0 0] := hw0 ▸ Blk.new w _ _
  have hB := fun v1 v2 v3 => decodeR_no l x hE hx a n c w0 ((h.below hb0).more hb0.size) hc hl v1 v2 v3
  have HB := Lib.hid hB
  have Hb0 := Lib.hid hb0
  have HR := Lib.hid hR
  have H := Lib.hid h
  have HE := Lib.hid hE
  clear hB hb0 hR h hE
  go_enter Tryz.func10, Tryz.ntmps10
  go_upto_region 1 with (fail)
  clear hw0
  go_wp2_with (fail)
  with_reducible refine (HB.out _ _ _).mono ?_
  rintro e w1 ⟨rfl, hb1⟩
  have hw1 := Hb0.out.trans (hb1.mono Hb0.out.size)
  have hR1 := HR.out.below hb1 HR.out.lt
  have r0 := hR1.cell 0
  have r1 := hR1.cell 1
  have r2 := hR1.cell 2
  have r3 := hR1.cell 3
  have r4 := hR1.cell 4
  have fz := hR1.frozen
  have lt1 := hR1.lt
  have Hb1 := Lib.hid hb1
  have Hw1 := Lib.hid hw1
  have HR1 := Lib.hid hR1
  clear hb1 hw1 hR1
  dsimp only
  repeat go_step
  have hxf := ((((HR1.out.set_ 0 (.int .u64 0)).set_ 1 (.int .u64 0)).set_ 2 (.int .u64 0)).set_ 3 (.int .u64 0)).set_ 4 (.slice none 0 0)
  have hbf := setMany_below [.int .u64 0, .int .u64 0, .int .u64 0, .int .u64 0, .slice none 0 0] Hw1.out (Nat.le_refl w.heap.size) (o := 0)
  exact bodyPost_ret (results_resp_t rfl rfl hxf) rfl ⟨rfl, hbf⟩
end Go.Proofs.YtemceefalkfneaaGreatDoor
