/- What the rows' listed tables give the walks. No condition. -/
import Derived.Test.YtjmkafbdmppfaaaDoorProg
import Derived.Test.YtjmkafbdmppfaaaDoorLaid
import Derived.Test.YtjmkafbdmppfaaaDoorMay
namespace Go.Proofs.YtjmkafbdmppfaaaDoor
open Go.RowKit Go.ChangeShapes Go.WideShapes Go.ChangeAt

theorem tab_pow10 {W : World} (h : Lib.VarReads Tryd.prog W "internal/strconv.uint64pow10" (Lib.tabData .u64 Lib.pow10Tab)) : Lib.TabIs Tryd.prog W "internal/strconv.uint64pow10" .u64 Lib.pow10Tab := by
  obtain ⟨g', t', cs, fuel, p, hg', ht', hvar, hd⟩ := h
  have hg : Tryd.prog.globalNamed "internal/strconv.uint64pow10" = some 2 := by kernel_rfl
  have hty : (Tryd.prog.globals[2]?).map (·.type) = some 118 := by kernel_rfl
  obtain rfl := Option.some.inj (hg.symm.trans hg')
  obtain rfl := Option.some.inj (hty.symm.trans ht')
  unfold Lib.TabIs
  rw [hvar, ← Lib.cells_of_tab Tryd.underlying118 Tryd.underlying101 (by kernel_rfl) (by kernel_rfl) hd]

theorem tabs_of {W : World} (h : laidMetH Tryd.prog Rows.encodeIntsRow.laid W) : Tabs W := by
  have hL : laidMet Tryd.prog Rows.encodeIntsRow.laid W := by
    have := (laidMetH_iff.1 h).1
    have e : (Rows.encodeIntsRow.laid.filter fun x => x.2.handleName?.isNone) = Rows.encodeIntsRow.laid := by kernel_rfl
    rwa [e] at this
  have hu : Lib.Utf8Tabs 0 1 W :=
    utf8Tabs_of_readsT (U8Types.of196 Tryd.lays196) ⟨by kernel_rfl, by kernel_rfl, by kernel_rfl, by kernel_rfl, by kernel_rfl, by kernel_rfl, by kernel_rfl⟩
      (Lib.laidMet.reads hL (n := "unicode/utf8.first") (d := Lib.firstData) (by rw [← laid_first]; simp [Rows.encodeIntsRow])) (Lib.laidMet.reads hL (n := "unicode/utf8.acceptRanges") (d := Lib.acceptData) (by rw [← laid_accept]; simp [Rows.encodeIntsRow]))
  have hp := tab_pow10 (Lib.laidMet.reads hL (n := "internal/strconv.uint64pow10") (d := Lib.tabData .u64 Lib.pow10Tab) (by rw [← laid_pow10]; simp [Rows.encodeIntsRow]))
  have h64 : Lib.VarReads Tryd.prog W "math/bits.deBruijn64tab" Rows.laid_math_bits_deBruijn64tab := Lib.laidMet.reads hL (by simp [Rows.encodeIntsRow])
  refine ⟨?_, hu, hp⟩
  obtain ⟨g', t', cs, fuel, p, hg', ht', hvar, hd⟩ := h64
  have hg : Tryd.prog.globalNamed "math/bits.deBruijn64tab" = some 4 := by kernel_rfl
  obtain rfl := Option.some.inj (hg.symm.trans hg')
  unfold World.var? at hvar
  rw [hg] at hvar
  simp only [Option.bind_some] at hvar
  rcases Nat.lt_or_ge 4 W.heap.size with h' | h'
  · exact h'
  · rw [Array.getElem?_eq_none h'] at hvar
    cases hvar

end Go.Proofs.YtjmkafbdmppfaaaDoor
