/- Parts, joined: The tables and the two errors that the rows list: a world for the witnesses. No condition. Pulls and answers: why they may not be, their objects' members. Plain. No condition. Whether a pull may be: the program's word and the reference's. No condition. commonplaceref02.Copy: what its contract says. No condition. -/
import Derived.Test.YtemceefalkfneaaGreatDoorProg
import Derived.Test.YtemceefalkfneaaGreatDoorChecked
import Derived.Test.YtemceefalkfneaaGreatDoorRows
import Derived.Lay
import Derived.Lib.LaidIn
import Derived.Lib.LaidU8T
import Derived.LaidSub
import Derived.Lib.ItoaNum
import Derived.Deep.DeepHandedRow
import Derived.ProofKit
import Derived.WalkKit
import Derived.Lib.Hide
import Derived.Test.YtemceefalkfneaaGreatDoorKCm12
import Derived.Test.YtemceefalkfneaaGreatDoorKCm22
import Derived.Test.YtemceefalkfneaaGreatDoorKCm26
/- The tables and the two errors that the rows list: a world for the witnesses. No condition. -/
namespace Go.Proofs.YtemceefalkfneaaGreatDoor
open Go.RowKit Go.ChangeShapes Go.WideShapes Go.ChangeAt

theorem own_knob : ownKnob Tryz.prog.godebug = none := by kernel_rfl
/-- A world that holds what the rows list. -/
noncomputable def laidWorld (os : Os) : World := World.laidAll Tryz.prog os Rows.pullSpoiltRow.laid
theorem laid_first : Rows.laid_unicode_utf8_first = Lib.firstData := by kernel_rfl
theorem laid_accept : Rows.laid_unicode_utf8_acceptRanges (H := Unit) = Lib.acceptData := by kernel_rfl
theorem laid_pow10 : Rows.laid_internal_strconv_uint64pow10 (H := Unit) = Lib.tabData .u64 Lib.pow10Tab := by kernel_rfl
theorem laid_met (os : Os) (args : Array Value) : laidMet Tryz.prog Rows.pullSpoiltRow.laid ((laidWorld os).forCall (fun _ _ => 0) ⟨#[], args, []⟩).memory :=
  laidMet_laidAll _ (by kernel_rfl) (by kernel_rfl)
end Go.Proofs.YtemceefalkfneaaGreatDoor

/- Pulls and answers: why they may not be, their objects' members. Plain. No condition. -/
namespace Go.Proofs.YtemceefalkfneaaGreatDoor
/-- Why a pull may not be. -/
def mayReq (c k : Int) : Int := if 0 < c ∧ c ≤ 4611686018427387903 ∧ k ≤ 4611686018427387903 then 0 else 2
/-- Why an answer may not be. -/
def mayResp (c b k s : Int) (l : List POp) : Int := if 0 < c ∧ c ≤ 4611686018427387903 ∧ b ≤ 4611686018427387903 ∧ k ≤ 4611686018427387903 ∧ s ≤ 4611686018427387903 then mayOps none l else 2
abbrev kClient : ByteArray := ⟨#[99, 108, 105, 101, 110, 116]⟩
abbrev kCookie : ByteArray := ⟨#[99, 111, 111, 107, 105, 101]⟩
abbrev kBase : ByteArray := ⟨#[98, 97, 115, 101]⟩
abbrev kLast : ByteArray := ⟨#[108, 97, 115, 116]⟩
abbrev kPatch : ByteArray := ⟨#[112, 97, 116, 99, 104]⟩
def reqO (c k : Int) : List (ByteArray × Val) := [(kClient, iv c), (kCookie, iv k)]
def respO (c b k s : Int) (l : List POp) : List (ByteArray × Val) := [(kBase, iv b), (kClient, iv c), (kCookie, iv k), (kLast, iv s), (kPatch, listQ l)]
end Go.Proofs.YtemceefalkfneaaGreatDoor

/- Whether a pull may be: the program's word and the reference's. No condition. -/
namespace Go.Proofs.YtemceefalkfneaaGreatDoor
open Go.RowKit

theorem isClient_calls (n : Int) (B : Bool) (w : World) (h : (decide (0 < n) && decide (n ≤ 4611686018427387903)) = B) : Calls Tryz.prog 43 #[.int .u64 n] w fun e w' => e = .returned (.bool B) ∧ w = w' := by
  by_cases h1 : 0 < n
  · by_cases h2 : n ≤ 4611686018427387903
    · obtain rfl : true = B := by rw [← h]; simp [h1, h2]
      clear h
      go_enter Tryz.func43, Tryz.ntmps43
      go_wp2
      go_ret
      exact ⟨rfl, rfl⟩
    · obtain rfl : false = B := by rw [← h]; simp [h1, h2]
      clear h
      have h3 : 4611686018427387903 < n := by omega
      go_enter Tryz.func43, Tryz.ntmps43
      go_wp2
      go_ret
      exact ⟨rfl, rfl⟩
  · obtain rfl : false = B := by rw [← h]; simp [h1]
    clear h
    have h2 : n ≤ 0 := by omega
    go_enter Tryz.func43, Tryz.ntmps43
    go_wp2
    go_ret
    exact ⟨rfl, rfl⟩


theorem MayRequest_calls (c k : Int) (w : World) : Calls Tryz.prog 50 #[.agg #[.int .u64 c, .int .u64 k]] w fun e w' => e = .returned (.int .i64 (mayReq c k)) ∧ Below w.heap.size w w' := by
  by_cases h1 : 0 < c ∧ c ≤ 4611686018427387903
  · obtain ⟨h1, h2⟩ := h1
    have hC := fun W => isClient_calls c true W (by simp [h1, h2])
    by_cases h3 : k ≤ 4611686018427387903
    · have hm : mayReq c k = 0 := by unfold mayReq; rw [if_pos ⟨h1, h2, h3⟩]
      have HC := Lib.hid hC
      have Hm := Lib.hid hm
      clear hC hm
      go_enter Tryz.func50, Tryz.ntmps50
      go_wp2_with (fail)
      with_reducible refine (HC.out _).mono ?_
      rintro e w' ⟨rfl, rfl⟩
      go_wp2
      go_ret
      exact ⟨by rw [Hm.out]; rfl, (Below.refl _ _).alloc (Nat.le_refl _) _⟩
    · have hm : mayReq c k = 2 := by unfold mayReq; rw [if_neg (by omega)]
      have h4 : 4611686018427387903 < k := by omega
      have HC := Lib.hid hC
      have Hm := Lib.hid hm
      clear hC hm
      clear h3
      go_enter Tryz.func50, Tryz.ntmps50
      go_wp2_with (fail)
      with_reducible refine (HC.out _).mono ?_
      rintro e w' ⟨rfl, rfl⟩
      go_wp2
      go_ret
      exact ⟨by rw [Hm.out]; rfl, (Below.refl _ _).alloc (Nat.le_refl _) _⟩
  · have hC := fun W => isClient_calls c false W (by simp; omega)
    have hm : mayReq c k = 2 := by unfold mayReq; rw [if_neg (by omega)]
    have HC := Lib.hid hC
    have Hm := Lib.hid hm
    clear hC hm
    clear h1
    go_enter Tryz.func50, Tryz.ntmps50
    go_wp2_with (fail)
    with_reducible refine (HC.out _).mono ?_
    rintro e w' ⟨rfl, rfl⟩
    go_wp2
    go_ret
    exact ⟨by rw [Hm.out]; rfl, (Below.refl _ _).alloc (Nat.le_refl _) _⟩
end Go.Proofs.YtemceefalkfneaaGreatDoor

/- commonplaceref02.Copy: what its contract says. No condition. -/
namespace Go.Proofs.YtemceefalkfneaaGreatDoor
open Go.RowKit

/-- What Copy does with a value. -/
def CopyC (v : Val) : Prop := ∀ (cs : List Value) (w : World), HoldsV w w.heap.size v cs → v.bulk ≤ 100000000 →
    Calls Tryz.prog 21 #[.agg cs.toArray] w fun e w' => (∃ cs', e = .returned (.agg (cs' : List Value).toArray) ∧ cs'.length = 6 ∧ FreshV w w' v cs') ∧ Below w.heap.size w w'
end Go.Proofs.YtemceefalkfneaaGreatDoor

namespace Go.Proofs.YtemceefalkfneaaGreatDoor
open Go Go.RowKit

set_option maxHeartbeats 1000000 in
theorem same14_nil (w : World) : Calls Tryz.prog 33 #[.slice none 0 0, .slice none 0 0] w fun e w' => e = .returned (.bool true) ∧ w = w' := by
  go_enter Tryz.func33, Tryz.ntmps33
  go_wp2_with (fail)
  refine wp_loop_rounds 1 ?_
  rw [rounds_succ]
  go_wp2
  go_ret
  exact ⟨rfl, rfl⟩
set_option maxHeartbeats 1000000 in
theorem same18_zero (w : World) : Calls Tryz.prog 11 #[.agg #[.int .u64 0, .int .u64 0, .int .u64 0, .int .u64 0, .slice none 0 0], .agg #[.int .u64 0, .int .u64 0, .int .u64 0, .int .u64 0, .slice none 0 0]] w fun e w' => e = .returned (.bool true) ∧ Below w.heap.size w w' := by
  have hC := fun W => same14_nil W
  have HC := Lib.hid hC
  clear hC
  go_enter Tryz.func11, Tryz.ntmps11
  go_wp2_with (fail)
  with_reducible refine (HC.out _).mono ?_
  rintro e w2 ⟨rfl, rfl⟩
  go_wp2
  go_ret
  exact ⟨rfl, two_boxes _ _ _⟩
end Go.Proofs.YtemceefalkfneaaGreatDoor
