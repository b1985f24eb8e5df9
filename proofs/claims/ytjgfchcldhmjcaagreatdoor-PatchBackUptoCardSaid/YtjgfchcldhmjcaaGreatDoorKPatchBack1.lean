/- Parts: The tables and the two errors that the rows list: a world for the witnesses. No condition. -/
import Derived.Test.YtjgfchcldhmjcaaGreatDoorProg
import Derived.Test.YtjgfchcldhmjcaaGreatDoorChecked
import Derived.Test.YtjgfchcldhmjcaaGreatDoorRows
import Derived.Lay
import Derived.Lib.LaidIn
import Derived.Lib.LaidU8T
import Derived.LaidSub
import Derived.Lib.ItoaNum
import Derived.Deep.DeepHandedRow
import Derived.ProofKit
namespace Go.Proofs.YtjgfchcldhmjcaaGreatDoor
open Go.RowKit Go.ChangeShapes Go.WideShapes Go.ChangeAt
theorem Ajl:ownKnob Tryz.prog.godebug=none:=by kernel_rfl
noncomputable def Qa (os:Os):World:=World.laidAll Tryz.prog os Rows.patchBackRow.laid
theorem Acx:Rows.laid_unicode_utf8_first=Lib.firstData:=by kernel_rfl
theorem Z5:Rows.laid_unicode_utf8_acceptRanges (H:=Unit)=Lib.acceptData:=by kernel_rfl
theorem Acy:Rows.laid_internal_strconv_uint64pow10 (H:=Unit)=Lib.tabData .u64 Lib.pow10Tab:=by kernel_rfl
theorem Ai1 (os:Os) (args:Array Value):laidMet Tryz.prog Rows.patchBackRow.laid ((Qa os).forCall (fun _ _=>0) ⟨#[],args, []⟩).memory:=
 laidMet_laidAll _ (by kernel_rfl) (by kernel_rfl)
end Go.Proofs.YtjgfchcldhmjcaaGreatDoor
