/- The tables that the rows list: what they give the walks, and a world for the witnesses. No condition. -/
import Derived.Test.YtjmkafbdmppfaaaDoorProg
import Derived.Test.YtjmkafbdmppfaaaDoorChecked
import Derived.Test.YtjmkafbdmppfaaaDoorRows
import Derived.Lib.LaidIn
import Derived.Lib.LaidU8T
import Derived.LaidSub
import Derived.Lib.ItoaNum
import Derived.Deep.DeepHandedRow
import Derived.ProofKit
namespace Go.Proofs.YtjmkafbdmppfaaaDoor
open Go.RowKit Go.ChangeShapes Go.WideShapes Go.ChangeAt

def tab32 : List Int := [0, 1, 28, 2, 29, 14, 24, 3, 30, 22, 20, 15, 25, 17, 4, 8, 31, 27, 13, 23, 21, 19, 16, 7, 26, 12, 18, 6, 11, 5, 10, 9]
def tab64 : List Int := [0, 1, 56, 2, 57, 49, 28, 3, 61, 58, 42, 50, 38, 29, 17, 4, 62, 47, 59, 36, 45, 43, 51, 22, 53, 39, 33, 30, 24, 18, 12, 5, 63, 55, 48, 27, 60, 41, 37, 16, 46, 35, 44, 21, 52, 32, 23, 11, 54, 26, 40, 15, 34, 20, 31, 10, 25, 14, 19, 9, 13, 8, 7, 6]

theorem own_knob : ownKnob Tryd.prog.godebug = none := by kernel_rfl

/-- A world that holds the five tables. -/
noncomputable def laidWorld (os : Os) : World :=
  let w0 := World.holding Tryd.prog os ⟨#[], #[], []⟩
  let put (h : Array Obj) (g : Nat) (cs : Array Value) : Array Obj := h.modify g fun
    | .cells _ t frozen => .cells cs t frozen
    | o => o
  let h0 := put w0.heap 0 (Lib.firstTab.map fun z => Value.int .u8 z).toArray
  let h1 := put h0 1 ((List.range 16).flatMap fun i => [Value.int .u8 (Lib.accLo i), Value.int .u8 (Lib.accHi i)]).toArray
  let h2 := put h1 2 (Lib.pow10Tab.map fun z => Value.int .u64 z).toArray
  let h3 := put h2 3 (tab32.map fun z => Value.int .u8 z).toArray
  let h4 := put h3 4 (tab64.map fun z => Value.int .u8 z).toArray
  { w0 with heap := h4 }

theorem laid_first : Rows.laid_unicode_utf8_first = Lib.firstData := by kernel_rfl
theorem laid_accept : Rows.laid_unicode_utf8_acceptRanges (H := Unit) = Lib.acceptData := by kernel_rfl
theorem laid_pow10 : Rows.laid_internal_strconv_uint64pow10 (H := Unit) = Lib.tabData .u64 Lib.pow10Tab := by kernel_rfl

theorem laid_met (os : Os) (args : Array Value) : laidMet Tryd.prog Rows.encodeIntsRow.laid ((laidWorld os).forCall (fun _ _ => 0) ⟨#[], args, []⟩).memory :=
  (LaidIn.of_run (l := Rows.encodeIntsRow.laid) [0, 1, 2, 3, 4] 8 (by kernel_rfl) (by kernel_rfl) (by kernel_rfl) (by kernel_rfl)).met

end Go.Proofs.YtjmkafbdmppfaaaDoor
