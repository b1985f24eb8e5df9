/- Parts, joined: pull.EncodeResponse of an answer that may not be. Condition: a bulk of at most 10^8. -/
import Derived.Test.YtjjbbnodmpemiaaGreatDoorProg
import Derived.Test.YtjjbbnodmpemiaaGreatDoorKPull39
/- pull.EncodeResponse of an answer that may not be. Condition: a bulk of at most 10^8. -/
namespace Go.Proofs.YtjjbbnodmpemiaaGreatDoor
open Go Go.RowKit

set_option maxRecDepth 100000 in
set_option maxHeartbeats 1000000 in
theorem encResp_no (c b k s : Int) (l : List POp) (hm : mayResp c b k s l ≠ 0) (a : Option Addr) (n cc : Nat) (w : World) (hT : Tabs w) (h : Holds w w.heap.size (.row 8 (dQs l)) [.slice a n cc]) (hb : bulkQ l ≤ 100000000) (hin : inQ l) :
    Calls Tryz.prog 10 #[.agg #[.int .u64 c, .int .u64 b, .int .u64 k, .int .u64 s, .slice a n cc]] w fun e w' => e = .returned (.tuple #[.slice none 0 0, .int .i64 (mayResp c b k s l)]) ∧ Below w.heap.size w w' := by
  have hb0 : Below w.heap.size w (w.alloc (.cells #[.int .u64 c, .int .u64 b, .int .u64 k, .int .u64 s, .slice a n cc] 27)) := (Below.refl _ _).alloc (Nat.le_refl _) _
  have hM := MayResponse_calls c b k s l a n cc (w.alloc (.cells #[.int .u64 c, .int .u64 b, .int .u64 k, .int .u64 s, .slice a n cc] 27)) (hT.below hb0) ((h.below hb0).more hb0.size) hb hin
  generalize mayResp c b k s l = X at hm hM ⊢
  have tX : (X != 0) = true := by simpa using hm
  have HM := Lib.hid hM
  have Hb0 := Lib.hid hb0
  have HT := Lib.hid hT
  have H := Lib.hid h
  clear hM hb0 hT h
  clear hm
  go_enter Tryz.func10, Tryz.ntmps10
  go_wp2_with (go_at_call 7; (with_reducible refine (HM.out).mono ?_); rintro e w1 ⟨rfl, hb1⟩)
  go_ret2
  exact ⟨rfl, Hb0.out.trans (hb1.mono Hb0.out.size)⟩
end Go.Proofs.YtjjbbnodmpemiaaGreatDoor
