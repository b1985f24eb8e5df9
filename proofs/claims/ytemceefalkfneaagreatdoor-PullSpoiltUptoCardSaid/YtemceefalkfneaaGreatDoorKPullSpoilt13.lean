/- Parts, joined: commonplacelaw18.known: the chapter's rows are so. No condition. -/
import Derived.Test.YtemceefalkfneaaGreatDoorProg
import Derived.Test.YtemceefalkfneaaGreatDoorKPullSpoilt11
/- commonplacelaw18.known: the chapter's rows are so. No condition. -/
namespace Go.Proofs.YtemceefalkfneaaGreatDoor
open Go Go.RowKit

abbrev sReq : ByteArray := ⟨#[123, 34, 99, 108, 105, 101, 110, 116, 34, 58, 55, 44, 34, 99, 111, 111, 107, 105, 101, 34, 58, 51, 125]⟩
abbrev sResp : ByteArray := ⟨([123, 34, 98, 97, 115, 101, 34, 58, 51, 44, 34, 99, 108, 105, 101, 110, 116, 34, 58, 55, 44, 34, 99, 111, 111, 107, 105, 101, 34, 58, 53, 44, 34, 108, 97, 115, 116].append [34, 58, 50, 44, 34, 112, 97, 116, 99, 104, 34, 58, 91, 123, 34, 107, 101, 121, 34, 58, 34, 97, 34, 44, 34, 111, 112, 34, 58, 34, 100, 101, 108, 34, 125, 93, 125]).toArray⟩
def knownOps : List POp := [⟨2, ⟨#[97]⟩, zeroV⟩]
theorem known_req : textV (ov (reqO 7 3)) = sReq.data.toList := by kernel_rfl
theorem known_resp : textV (ov (respO 7 3 5 2 knownOps)) = sResp.data.toList := by kernel_rfl
theorem known_may : mayResp 7 3 5 2 knownOps = 0 := by decide +kernel
theorem known_holds (w : World) : Holds (w.alloc (.cells #[.int .i64 2, .string ⟨#[97]⟩, .int .i64 0, .bool false, .int .i64 0, .string ⟨#[]⟩, .slice none 0 0, .slice none 0 0] 61)) (w.alloc (.cells #[.int .i64 2, .string ⟨#[97]⟩, .int .i64 0, .bool false, .int .i64 0, .string ⟨#[]⟩, .slice none 0 0, .slice none 0 0] 61)).heap.size (.row 8 (dQs knownOps)) [.slice (some ⟨w.heap.size, 0, none⟩) 1 1] :=
  holds_blk (Blk.new _ _ _) (dQs_cells _) (HoldsA.one ⟨[.int .i64 2], _, rfl, ⟨rfl, rfl⟩, [.string ⟨#[97]⟩], _, rfl, ⟨rfl, rfl⟩, _, [], by simp, holds_of_V _ _ (holds_zero _ _), rfl⟩) rfl

set_option maxRecDepth 100000 in
set_option maxHeartbeats 2000000 in
theorem known18_calls (w : World) (hT : Tabs w) (hN : Names w) : Calls Tryz.prog 8 #[] w fun e w' => e = .returned (.bool true) ∧ Below w.heap.size w w' := by
  have hQ := encReq_calls 7 3 (by omega) (by omega) (by omega) (by omega) w hT
  have hR := fun (W : World) hB => encResp_calls 7 3 5 2 knownOps (by omega) known_may _ 1 1 _ (hT.below (w' := W.alloc _) hB) (hN.below hB) (known_holds W) (by decide) (by intro p hp; simp [knownOps] at hp; subst hp; simp [inV, inL, inO])
  have hF := fun W => lframed_calls 2 (by decide) sReq (by decide) W
  have hG := fun W => lframed_calls 3 (by decide) sResp (by decide) W
  rw [known_req] at hQ
  rw [known_resp] at hR
  obtain ⟨L, hL⟩ : ∃ L, sealL (2 :: sReq.data.toList) = L := ⟨_, rfl⟩
  obtain ⟨M, hM⟩ : ∃ M, sealL (3 :: sResp.data.toList) = M := ⟨_, rfl⟩
  rw [hL] at hQ hF
  rw [hM] at hR hG
  have hl : L.length ≤ 2000000000 := by rw [← hL]; unfold sealL; simp [sumBytes]
  have hm : M.length ≤ 2000000000 := by rw [← hM]; unfold sealL; simp [sumBytes]
  have hS := fun (W : World) a n c a' n' c' h h' => same_calls L L a a' n c n' c' true W h h' hl hl (by simp)
  have hS' := fun (W : World) a n c a' n' c' h h' => same_calls M M a a' n c n' c' true W h h' hm hm (by simp)
  have HQ := Lib.hid hQ
  have HR := Lib.hid hR
  have HF := Lib.hid hF
  have HG := Lib.hid hG
  have HL := Lib.hid hL
  have HM := Lib.hid hM
  have HS := Lib.hid hS
  have HS' := Lib.hid hS'
  clear hQ hR hF hG hL hM hS hS'
  clear hl hm
  go_enter Tryz.func8, Tryz.ntmps8
  go_wp2_with (fail)
  refine (HQ.out).mono ?_
  rintro e w1 ⟨a1, c1, rfl, hf1, hb1⟩
  go_wp2_with (fail)
  refine (HR.out w1 (hb1.alloc hb1.size _)).mono ?_
  rintro e w2 ⟨a2, c2, rfl, hf2, hb2⟩
  have hb2' := (hb1.alloc hb1.size _).trans (hb2.mono (Nat.le_trans hb1.size (by simp)))
  have hb12 := (alloc_below w1 _).trans (hb2.mono (by simp))
  go_wp2_with (fail)
  refine (HF.out _).mono ?_
  rintro e w3 ⟨a3, c3, rfl, hf3, hb3⟩
  go_wp2_with (fail)
  refine (HS.out _ _ _ _ _ _ _ ((hf1.later hb12).later hb3).now hf3.now).mono ?_
  rintro e w4 ⟨rfl, hb4⟩
  go_wp2_with (fail)
  refine (HG.out _).mono ?_
  rintro e w5 ⟨a5, c5, rfl, hf5, hb5⟩
  go_wp2_with (fail)
  refine (HS'.out _ _ _ _ _ _ _ (((hf2.later hb3).later hb4).later hb5).now hf5.now).mono ?_
  rintro e w6 ⟨rfl, hb6⟩
  go_wp2
  go_ret
  have z2 := hb2'.size
  have z3 := hb3.size
  have z4 := hb4.size
  have z5 := hb5.size
  exact ⟨rfl, (((hb2'.trans (hb3.mono z2)).trans (hb4.mono (by omega))).trans (hb5.mono (by omega))).trans (hb6.mono (by omega))⟩
end Go.Proofs.YtemceefalkfneaaGreatDoor
