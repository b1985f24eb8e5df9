/- Parts, joined: pull.EncodeRequest, pull.EncodeResponse of what may be. Condition: a bulk of at most 5 * 10^6. -/
import Derived.Test.YtemceefalkfneaaGreatDoorProg
import Derived.Deep.RegionHeld3
import Derived.Test.YtemceefalkfneaaGreatDoorKPullSpoilt8
import Derived.Test.YtemceefalkfneaaGreatDoorKPullSpoilt9
/- pull.EncodeRequest, pull.EncodeResponse of what may be. Condition: a bulk of at most 5 * 10^6. -/
namespace Go.Proofs.YtemceefalkfneaaGreatDoor
open Go Go.RowKit

theorem req_all (c k : Int) : objAll (reqO c k) [] = some (reqO c k) := by kernel_rfl
theorem resp_all (c b k s : Int) (l : List POp) : objAll (respO c b k s l) [] = some (respO c b k s l) := by kernel_rfl
theorem may_req (c k : Int) : mayV (ov (reqO c k)) 1 = 0 := by
  have v1 : validB kClient = true := by decide
  have v2 : validB kCookie = true := by decide
  have l1 : leB kCookie kClient = false := by decide +kernel
  exact may_ov (by omega) (mayO_cons v1 (may_iv (by omega)) (last_none _) (mayO_cons v2 (may_iv (by omega)) (last_some l1) (by simp [mayO])))
theorem may_resp (c b k s : Int) {l : List POp} (h : mayOps none l = 0) : mayV (ov (respO c b k s l)) 1 = 0 := by
  have v0 : validB kBase = true := by decide
  have v1 : validB kClient = true := by decide
  have v2 : validB kCookie = true := by decide
  have v3 : validB kLast = true := by decide
  have v4 : validB kPatch = true := by decide
  have l0 : leB kClient kBase = false := by decide +kernel
  have l1 : leB kCookie kClient = false := by decide +kernel
  have l2 : leB kLast kCookie = false := by decide +kernel
  have l3 : leB kPatch kLast = false := by decide +kernel
  exact may_ov (by omega) (mayO_cons v0 (may_iv (by omega)) (last_none _) (mayO_cons v1 (may_iv (by omega)) (last_some l0) (mayO_cons v2 (may_iv (by omega)) (last_some l1) (mayO_cons v3 (may_iv (by omega)) (last_some l2) (mayO_cons v4 (may_listQ (mayOps_all h) (by omega)) (last_some l3) (by simp [mayO]))))))
theorem in_req {c k : Int} (h0 : 0 ≤ c) (h1 : c ≤ 4611686018427387903) (h2 : 0 ≤ k) (h3 : k ≤ 4611686018427387903) : inV (ov (reqO c k)) := by
  simp only [ov, reqO, inV, inL, inO, inP]
  exact ⟨by omega, trivial, in_iv h0 h1, in_iv h2 h3, trivial⟩
theorem in_resp {c b k s : Int} {l : List POp} (h0 : 0 ≤ c) (h1 : c ≤ 4611686018427387903) (h2 : 0 ≤ k) (h3 : k ≤ 4611686018427387903) (h4 : 0 ≤ b) (h5 : b ≤ 4611686018427387903) (h6 : 0 ≤ s) (h7 : s ≤ 4611686018427387903) (hl : inQ l) : inV (ov (respO c b k s l)) := by
  simp only [ov, respO, inV, inL, inO, inP]
  exact ⟨by omega, trivial, in_iv h4 h5, in_iv h0 h1, in_iv h2 h3, in_iv h6 h7, in_listQ hl, trivial⟩
theorem bulk_req (c k : Int) : bulkO (reqO c k) ≤ 100 := by
  have e1 : kClient.size = 6 := rfl
  have e2 : kCookie.size = 6 := rfl
  simp only [reqO, bulkO, bulkP, bulk_iv, e1, e2]; omega
theorem bulk_resp (c b k s : Int) {l : List POp} (h : bulkQ l ≤ 5000000) : bulkO (respO c b k s l) ≤ 60000000 := by
  have e0 : kBase.size = 4 := rfl
  have e1 : kClient.size = 6 := rfl
  have e2 : kCookie.size = 6 := rfl
  have e3 : kLast.size = 4 := rfl
  have e4 : kPatch.size = 5 := rfl
  have h1 := bulk_listQ l
  have h2 := bulkQ_len l
  simp only [respO, bulkO, bulkP, bulk_iv, e0, e1, e2, e3, e4]; omega
theorem holds_req (w : World) (c k : Int) : Holds (w.alloc (.cells #[.string kClient, .int .i64 3, .bool false, .int .i64 c, .string ⟨#[]⟩, .slice none 0 0, .slice none 0 0, .string kCookie, .int .i64 3, .bool false, .int .i64 k, .string ⟨#[]⟩, .slice none 0 0, .slice none 0 0] 57)) (w.alloc (.cells #[.string kClient, .int .i64 3, .bool false, .int .i64 c, .string ⟨#[]⟩, .slice none 0 0, .slice none 0 0, .string kCookie, .int .i64 3, .bool false, .int .i64 k, .string ⟨#[]⟩, .slice none 0 0, .slice none 0 0] 57)).heap.size (.row 7 (dO (reqO c k))) [.slice (some ⟨w.heap.size, 0, none⟩) 2 2] :=
  holds_blk (Blk.new _ _ _) (dO_cells _) ((HoldsA.one (holds_ivP _ _ kClient c)).app (HoldsA.one (holds_ivP _ _ kCookie k))) rfl

set_option maxRecDepth 100000 in
set_option maxHeartbeats 2000000 in
theorem encReq_calls (c k : Int) (h1 : 0 < c) (h2 : c ≤ 4611686018427387903) (h3 : 0 ≤ k) (h4 : k ≤ 4611686018427387903) (w : World) (hT : Tabs w) :
    Calls Tryz.prog 23 #[.agg #[.int .u64 c, .int .u64 k]] w (BytesPost0 (sealL (2 :: textV (ov (reqO c k)))) w) := by
  have hm : mayReq c k = 0 := by unfold mayReq; rw [if_pos ⟨h1, h2, h4⟩]
  have hM := fun W => MayRequest_calls c k W
  rw [hm] at hM
  have hn1 := fun W => number_calls kClient c (by omega) h2 W
  have hn2 := fun W => number_calls kCookie k h3 h4 W
  have hF := fun (W : World) a n cc hB h => pframed_calls 2 (by decide) (reqO c k) _ a n cc W (hT.below hB) h (by have := bulk_req c k; omega) (req_all c k) (may_req c k) (in_req (by omega) h2 h3 h4)
  have hH := fun W => holds_req W c k
  generalize sealL (2 :: textV (ov (reqO c k))) = L at hF ⊢
  have HM := Lib.hid hM
  have Hn1 := Lib.hid hn1
  have Hn2 := Lib.hid hn2
  have HF := Lib.hid hF
  have HH := Lib.hid hH
  have Hm := Lib.hid hm
  clear hM hn1 hn2 hF hH hm
  go_enter Tryz.func23, Tryz.ntmps23
  go_upto_region 4 with (go_at_call 50; (with_reducible refine (HM.out _).mono ?_); rintro e w1 ⟨rfl, hb1⟩)
  have hb0 : Below w.heap.size w (w.alloc (.cells #[.int .u64 c, .int .u64 k] 66)) := (Below.refl _ _).alloc (Nat.le_refl _) _
  have hx1 := (Blk.new w 66 #[.int .u64 c, .int .u64 k]).below hb1 (Blk.lt (Blk.new _ _ _))
  have d0 := hx1.cell 0
  have d1 := hx1.cell 1
  have hb01 := hb0.trans (hb1.mono hb0.size)
  have hgx := hx1.lt
  have Hx1 := Lib.hid hx1
  have Hb0 := Lib.hid hb0
  have Hb01 := Lib.hid hb01
  clear hx1 hb0 hb01
  clear hb1
  go_region_held3 (fun W => W.cell? ⟨w.heap.size, 0, none⟩ = some (.int .u64 c) ∧ W.cell? ⟨w.heap.size, 1, none⟩ = some (.int .u64 k)) (go_keep) (first
    | (go_at_call 20; refine (Hn1.out _).mono ?_; rintro e w2 ⟨rfl, hb2⟩; have hbr2 : Below w1.heap.size w1 w2 := ((Below.drew (Below.refl _ _)).trans hb2); obtain ⟨hc2, hf2⟩ := bcellM hbr2)
    | (go_at_call 20; refine (Hn2.out _).mono ?_; rintro e w3 ⟨rfl, hb3⟩; have hbr3 := hbr2.trans (hb3.mono hbr2.size); obtain ⟨hc3, hf3⟩ := bcellM hbr3)
    | (go_at_call 19; refine (HF.out _ _ _ _ ((Hb01.out.trans (hbr3.mono Hb01.out.size)).alloc (Nat.le_trans Hb01.out.size hbr3.size) _) (HH.out _)).mono ?_; rintro e w4 ⟨a2, c2, rfl, hf4, hb4⟩; have hbr4 := (hbr3.alloc hbr3.size _).trans (hb4.mono (by have := hbr3.size; simp; omega)); obtain ⟨hc4, hf4'⟩ := bcellM hbr4))
  all_goals
    have HP := Lib.hid (And.intro hf4 (And.intro hbr4 hbr3.size))
    clear hc2 hf2 hc3 hf3 hc4 hf4' hb2 hb3 hb4 hbr2 hbr3 hbr4 hf4
    go_wp2
    go_ret2
    obtain ⟨p1, p2, p3⟩ := HP.out
    have hzz := Hb01.out.size
    exact ⟨a2, c2, rfl, p1.keep (by simp; omega) (Nat.le_refl _) (fun _ _ _ => rfl), Hb01.out.trans (p2.mono hzz)⟩

theorem holds_resp (w : World) (c b k s : Int) (l : List POp) (la : Option Addr) (lc : Nat) (h : Fresh w.heap.size w (dV (listQ l)) [.int .i64 5, .bool false, .int .i64 0, .string ⟨#[]⟩, .slice la l.length lc, .slice none 0 0] ∨ ∃ B, ∃ w0, Fresh B w0 (dV (listQ l)) [.int .i64 5, .bool false, .int .i64 0, .string ⟨#[]⟩, .slice la l.length lc, .slice none 0 0] ∧ Below w0.heap.size w0 w) :
    Holds (w.alloc (.cells #[.string kBase, .int .i64 3, .bool false, .int .i64 b, .string ⟨#[]⟩, .slice none 0 0, .slice none 0 0, .string kClient, .int .i64 3, .bool false, .int .i64 c, .string ⟨#[]⟩, .slice none 0 0, .slice none 0 0, .string kCookie, .int .i64 3, .bool false, .int .i64 k, .string ⟨#[]⟩, .slice none 0 0, .slice none 0 0, .string kLast, .int .i64 3, .bool false, .int .i64 s, .string ⟨#[]⟩, .slice none 0 0, .slice none 0 0, .string kPatch, .int .i64 5, .bool false, .int .i64 0, .string ⟨#[]⟩, .slice la l.length lc, .slice none 0 0] 57)) (w.alloc (.cells #[.string kBase, .int .i64 3, .bool false, .int .i64 b, .string ⟨#[]⟩, .slice none 0 0, .slice none 0 0, .string kClient, .int .i64 3, .bool false, .int .i64 c, .string ⟨#[]⟩, .slice none 0 0, .slice none 0 0, .string kCookie, .int .i64 3, .bool false, .int .i64 k, .string ⟨#[]⟩, .slice none 0 0, .slice none 0 0, .string kLast, .int .i64 3, .bool false, .int .i64 s, .string ⟨#[]⟩, .slice none 0 0, .slice none 0 0, .string kPatch, .int .i64 5, .bool false, .int .i64 0, .string ⟨#[]⟩, .slice la l.length lc, .slice none 0 0] 57)).heap.size (.row 7 (dO (respO c b k s l))) [.slice (some ⟨w.heap.size, 0, none⟩) 5 5] := by
  have hv : Holds (w.alloc (.cells #[.string kBase, .int .i64 3, .bool false, .int .i64 b, .string ⟨#[]⟩, .slice none 0 0, .slice none 0 0, .string kClient, .int .i64 3, .bool false, .int .i64 c, .string ⟨#[]⟩, .slice none 0 0, .slice none 0 0, .string kCookie, .int .i64 3, .bool false, .int .i64 k, .string ⟨#[]⟩, .slice none 0 0, .slice none 0 0, .string kLast, .int .i64 3, .bool false, .int .i64 s, .string ⟨#[]⟩, .slice none 0 0, .slice none 0 0, .string kPatch, .int .i64 5, .bool false, .int .i64 0, .string ⟨#[]⟩, .slice la l.length lc, .slice none 0 0] 57)) (w.alloc (.cells #[.string kBase, .int .i64 3, .bool false, .int .i64 b, .string ⟨#[]⟩, .slice none 0 0, .slice none 0 0, .string kClient, .int .i64 3, .bool false, .int .i64 c, .string ⟨#[]⟩, .slice none 0 0, .slice none 0 0, .string kCookie, .int .i64 3, .bool false, .int .i64 k, .string ⟨#[]⟩, .slice none 0 0, .slice none 0 0, .string kLast, .int .i64 3, .bool false, .int .i64 s, .string ⟨#[]⟩, .slice none 0 0, .slice none 0 0, .string kPatch, .int .i64 5, .bool false, .int .i64 0, .string ⟨#[]⟩, .slice la l.length lc, .slice none 0 0] 57)).heap.size (dV (listQ l)) [.int .i64 5, .bool false, .int .i64 0, .string ⟨#[]⟩, .slice la l.length lc, .slice none 0 0] := by
    rcases h with h | ⟨B, w0, h, hb⟩
    · exact (h.later (alloc_below _ _)).now
    · have hb' := hb.alloc hb.size (.cells #[.string kBase, .int .i64 3, .bool false, .int .i64 b, .string ⟨#[]⟩, .slice none 0 0, .slice none 0 0, .string kClient, .int .i64 3, .bool false, .int .i64 c, .string ⟨#[]⟩, .slice none 0 0, .slice none 0 0, .string kCookie, .int .i64 3, .bool false, .int .i64 k, .string ⟨#[]⟩, .slice none 0 0, .slice none 0 0, .string kLast, .int .i64 3, .bool false, .int .i64 s, .string ⟨#[]⟩, .slice none 0 0, .slice none 0 0, .string kPatch, .int .i64 5, .bool false, .int .i64 0, .string ⟨#[]⟩, .slice la l.length lc, .slice none 0 0] 57)
      exact (h.later hb').now
  have hp : Holds (w.alloc (.cells #[.string kBase, .int .i64 3, .bool false, .int .i64 b, .string ⟨#[]⟩, .slice none 0 0, .slice none 0 0, .string kClient, .int .i64 3, .bool false, .int .i64 c, .string ⟨#[]⟩, .slice none 0 0, .slice none 0 0, .string kCookie, .int .i64 3, .bool false, .int .i64 k, .string ⟨#[]⟩, .slice none 0 0, .slice none 0 0, .string kLast, .int .i64 3, .bool false, .int .i64 s, .string ⟨#[]⟩, .slice none 0 0, .slice none 0 0, .string kPatch, .int .i64 5, .bool false, .int .i64 0, .string ⟨#[]⟩, .slice la l.length lc, .slice none 0 0] 57)) (w.alloc (.cells #[.string kBase, .int .i64 3, .bool false, .int .i64 b, .string ⟨#[]⟩, .slice none 0 0, .slice none 0 0, .string kClient, .int .i64 3, .bool false, .int .i64 c, .string ⟨#[]⟩, .slice none 0 0, .slice none 0 0, .string kCookie, .int .i64 3, .bool false, .int .i64 k, .string ⟨#[]⟩, .slice none 0 0, .slice none 0 0, .string kLast, .int .i64 3, .bool false, .int .i64 s, .string ⟨#[]⟩, .slice none 0 0, .slice none 0 0, .string kPatch, .int .i64 5, .bool false, .int .i64 0, .string ⟨#[]⟩, .slice la l.length lc, .slice none 0 0] 57)).heap.size (dP (kPatch, listQ l)) [.string kPatch, .int .i64 5, .bool false, .int .i64 0, .string ⟨#[]⟩, .slice la l.length lc, .slice none 0 0] := ⟨[.string kPatch], _, rfl, ⟨rfl, rfl⟩, _, [], by simp, hv, rfl⟩
  exact holds_blk (Blk.new _ _ _) (dO_cells _) ((HoldsA.one (holds_ivP _ _ kBase b)).app ((HoldsA.one (holds_ivP _ _ kClient c)).app ((HoldsA.one (holds_ivP _ _ kCookie k)).app ((HoldsA.one (holds_ivP _ _ kLast s)).app (HoldsA.one hp))))) rfl

set_option maxRecDepth 100000 in
set_option maxHeartbeats 8000000 in
theorem encResp_calls (c b k s : Int) (l : List POp) (h0 : 0 ≤ b ∧ 0 ≤ k ∧ 0 ≤ s) (hm : mayResp c b k s l = 0) (a : Option Addr) (n cc : Nat) (w : World) (hT : Tabs w) (hN : Names w) (h : Holds w w.heap.size (.row 8 (dQs l)) [.slice a n cc]) (hb : bulkQ l ≤ 5000000) (hin : inQ l) :
    Calls Tryz.prog 5 #[.agg #[.int .u64 c, .int .u64 b, .int .u64 k, .int .u64 s, .slice a n cc]] w (BytesPost0 (sealL (3 :: textV (ov (respO c b k s l)))) w) := by
  obtain ⟨h1, h2, h3, h4, h5, hml⟩ : 0 < c ∧ c ≤ 4611686018427387903 ∧ b ≤ 4611686018427387903 ∧ k ≤ 4611686018427387903 ∧ s ≤ 4611686018427387903 ∧ mayOps none l = 0 := by
    unfold mayResp at hm
    split at hm
    · rename_i hc
      exact ⟨hc.1, hc.2.1, hc.2.2.1, hc.2.2.2.1, hc.2.2.2.2, hm⟩
    · cases hm
  obtain ⟨h6, h7, h8⟩ := h0
  have hb0 : Below w.heap.size w (w.alloc (.cells #[.int .u64 c, .int .u64 b, .int .u64 k, .int .u64 s, .slice a n cc] 25)) := (Below.refl _ _).alloc (Nat.le_refl _) _
  have hM := MayResponse_calls c b k s l a n cc (w.alloc (.cells #[.int .u64 c, .int .u64 b, .int .u64 k, .int .u64 s, .slice a n cc] 25)) (hT.below hb0) ((h.below hb0).more hb0.size) (by omega) hin
  rw [hm] at hM
  have hL := fun (W : World) hB => patList_calls l a n cc W (hT.below (w' := W) hB) (hN.below hB) ((h.below hB).more hB.size) (by omega) hin hml
  have hn1 := fun W => number_calls kBase b h6 h3 W
  have hn2 := fun W => number_calls kClient c (by omega) h2 W
  have hn3 := fun W => number_calls kCookie k h7 h4 W
  have hn4 := fun W => number_calls kLast s h8 h5 W
  have hF := fun (W : World) a n cc hB h => pframed_calls 3 (by decide) (respO c b k s l) _ a n cc W (hT.below hB) h (by have := bulk_resp c b k s hb; omega) (resp_all c b k s l) (may_resp c b k s hml) (in_resp (by omega) h2 h7 h4 h6 h3 h8 h5 hin)
  generalize sealL (3 :: textV (ov (respO c b k s l))) = L at hF ⊢
  have HM := Lib.hid hM
  have Hn1 := Lib.hid hn1
  have Hn2 := Lib.hid hn2
  have Hn3 := Lib.hid hn3
  have Hn4 := Lib.hid hn4
  have HF := Lib.hid hF
  have Hm := Lib.hid hm
  have HL := Lib.hid hL
  have Hb0 := Lib.hid hb0
  have HT := Lib.hid hT
  have HN := Lib.hid hN
  have H := Lib.hid h
  clear hM hn1 hn2 hn3 hn4 hF hm hL hb0 hT hN h
  go_enter Tryz.func5, Tryz.ntmps5
  go_upto_region 4 with (go_at_call 17; (with_reducible refine (HM.out).mono ?_); rintro e w1 ⟨rfl, hb1⟩)
  have hx1 := (Blk.new w 25 #[.int .u64 c, .int .u64 b, .int .u64 k, .int .u64 s, .slice a n cc]).below hb1 (Blk.lt (Blk.new _ _ _))
  have d4 := hx1.cell 4
  have hb01 := Hb0.out.trans (hb1.mono Hb0.out.size)
  have Hx1 := Lib.hid hx1
  have Hb01 := Lib.hid hb01
  clear hx1 hb01
  clear hb1
  go_upto_region 7 with (go_at_call 18; (with_reducible refine (HL.out _ Hb01.out).mono ?_); rintro e w2 ⟨hb2, la, lc, rfl, hf2⟩)
  obtain ⟨wi, hwi⟩ : ∃ wi, w2.alloc (.cells #[.int .i64 5, .bool false, .int .i64 0, .string ⟨#[]⟩, .slice la l.length lc, .slice none 0 0] 52) = wi := ⟨_, rfl⟩
  have hxi : Blk wi w2.heap.size 52 #[.int .i64 5, .bool false, .int .i64 0, .string ⟨#[]⟩, .slice la l.length lc, .slice none 0 0] := by rw [← hwi]; exact Blk.new _ _ _
  have hb2i : Below w2.heap.size w2 wi := hwi ▸ alloc_below _ _
  have hx2 := (Hx1.out.below hb2 Hx1.out.lt).below hb2i (Nat.lt_of_lt_of_le Hx1.out.lt hb2.size)
  have hbi := (Hb01.out.trans (hb2.mono Hb01.out.size)).trans (hb2i.mono (Nat.le_trans Hb01.out.size hb2.size))
  have hfi := hf2.later hb2i
  have d0 := hx2.cell 0
  have d1 := hx2.cell 1
  have d2 := hx2.cell 2
  have d3 := hx2.cell 3
  obtain ⟨r0, r1, r2, r3, r4, r5⟩ := vcell hxi
  have hgx := hx2.lt
  have hgi := hxi.lt
  rw [hwi]
  have Hx2 := Lib.hid hx2
  have Hxi := Lib.hid hxi
  have Hbi := Lib.hid hbi
  have Hfi := Lib.hid hfi
  clear hx2 hxi hbi hfi
  clear hb2 hf2 hb2i hwi d4
  go_region_held3 (fun W => W.cell? ⟨w.heap.size, 0, none⟩ = some (.int .u64 c) ∧ W.cell? ⟨w.heap.size, 1, none⟩ = some (.int .u64 b) ∧ W.cell? ⟨w.heap.size, 2, none⟩ = some (.int .u64 k) ∧ W.cell? ⟨w.heap.size, 3, none⟩ = some (.int .u64 s) ∧ W.cell? ⟨w2.heap.size, 0, none⟩ = some (.int .i64 5) ∧ W.cell? ⟨w2.heap.size, 1, none⟩ = some (.bool false) ∧ W.cell? ⟨w2.heap.size, 2, none⟩ = some (.int .i64 0) ∧ W.cell? ⟨w2.heap.size, 3, none⟩ = some (.string ⟨#[]⟩) ∧ W.cell? ⟨w2.heap.size, 4, none⟩ = some (.slice la l.length lc) ∧ W.cell? ⟨w2.heap.size, 5, none⟩ = some (.slice none 0 0)) (go_keep) (first
    | (go_at_call 20; refine (Hn1.out _).mono ?_; rintro e w3 ⟨rfl, hb3⟩; have hbr3 : Below wi.heap.size wi w3 := ((Below.drew (Below.refl _ _)).trans hb3); obtain ⟨hc3, hg3⟩ := bcellM hbr3)
    | (go_at_call 20; refine (Hn2.out _).mono ?_; rintro e w4 ⟨rfl, hb4⟩; have hbr4 := hbr3.trans (hb4.mono hbr3.size); obtain ⟨hc4, hg4⟩ := bcellM hbr4)
    | (go_at_call 20; refine (Hn3.out _).mono ?_; rintro e w5 ⟨rfl, hb5⟩; have hbr5 := hbr4.trans (hb5.mono hbr4.size); obtain ⟨hc5, hg5⟩ := bcellM hbr5)
    | (go_at_call 20; refine (Hn4.out _).mono ?_; rintro e w6 ⟨rfl, hb6⟩; have hbr6 := hbr5.trans (hb6.mono hbr5.size); obtain ⟨hc6, hg6⟩ := bcellM hbr6)
    | (go_at_call 19; refine (HF.out _ _ _ _ ((Hbi.out.trans (hbr6.mono Hbi.out.size)).alloc (Nat.le_trans Hbi.out.size hbr6.size) _) (holds_resp w6 c b k s l la lc (.inr ⟨_, _, Hfi.out, hbr6⟩))).mono ?_; rintro e w7 ⟨a2, c2, rfl, hf7, hb7⟩; have hbr7 := (hbr6.alloc hbr6.size _).trans (hb7.mono (by have := hbr6.size; simp; omega)); obtain ⟨hc7, hg7⟩ := bcellM hbr7))
  all_goals
    have HP := Lib.hid (And.intro hf7 (And.intro hbr7 hbr6.size))
    clear hc3 hg3 hc4 hg4 hc5 hg5 hc6 hg6 hc7 hg7 hb3 hb4 hb5 hb6 hb7 hbr3 hbr4 hbr5 hbr6 hbr7 hf7
    go_wp2
    go_ret2
    obtain ⟨p1, p2, p3⟩ := HP.out
    have hzz := Hbi.out.size
    exact ⟨a2, c2, rfl, p1.keep (by simp; omega) (Nat.le_refl _) (fun _ _ _ => rfl), Hbi.out.trans (p2.mono hzz)⟩
end Go.Proofs.YtemceefalkfneaaGreatDoor
