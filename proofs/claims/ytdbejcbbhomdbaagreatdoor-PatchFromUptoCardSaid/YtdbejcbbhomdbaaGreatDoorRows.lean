/-
  NARROWER THAN 'FOR EVERY INPUT', by the rows' own cells (each row's printed sentence says how): PatchMay: loops, laid · PatchForms: loops, laid · PatchFrom: loops, laid · PatchReads: loops, laid · PatchLeast: loops, laid · PatchApplies: loops, laid · PatchChains: loops, laid · PatchLeads: loops, laid.
  DERIVED. THE GIVEN ROWS OF THIS SEAT. 8 by the template 'for every input the law returns true; each argument reads behind the call as it read before'; 0 by the template 'total and deterministic' (their statements: YtdbejcbbhomdbaaGreatDoorTotals.lean).
  GIVEN WITH THE SEED: the statements are not yours to turn. If you find one false, say at which input.
  Laid BY PROGRAM, IN A SANDBOX (cutbox-rows.mjs): the forced cells as the released guide's own fill.sh prints them over the translation dff3c7ab2a26a192… (all of the seat's roots in one cut). By AI agents, Wed Nov 11 2026. No macro, syntax, notation, axiom, sorry.
-/
import Derived.Test.YtdbejcbbhomdbaaGreatDoorChecked
import GoSem.PinnedTables
import GoSem.Claim
import GoSem.ClaimJoined
import GoSem.ClaimMapViews
import Derived.JoinedTies
import Derived.KernelRfl
namespace Go.Proofs.YtdbejcbbhomdbaaGreatDoor
/- THE CELL 'sum', in the pinned program and in every row, IS THE sha256 OF THE DUMP (.gsa) THAT YtdbejcbbhomdbaaGreatDoorProg.lean LOADS. Nothing in Lean hashes anything: it is a label: what it is worth is what the hold of that sum in a sandbox is worth. -/
noncomputable def Tryz.pinned : Pinned := { name := "ytdbejcbbhomdbaagreatdoor", sum := "dff3c7ab2a26a192a090a6a407756d064ca2a76f51ee6b1ea982b9d2c57d749e", checked := Tryz.checked }
namespace Rows
def none {H : Type} : Left H := { results := [], args := [] }

/- WHAT THE LISTED PACKAGE-LEVEL VARIABLES READ AS WHEN THE CALL BEGINS. Each datum BY PROGRAM (the guide's laid-datum.mjs) off the statement by which the dump's own 'gosem.cut.vars' lays the variable. In a bare row this is a premise. The card (YtdbejcbbhomdbaaGreatDoorCards.lean) ties it to the program's text. -/
def laid_math_bits_deBruijn32tab {H : Type} : DataW H := .agg [.lit (.int .u8 0), .lit (.int .u8 1), .lit (.int .u8 28), .lit (.int .u8 2), .lit (.int .u8 29), .lit (.int .u8 14), .lit (.int .u8 24), .lit (.int .u8 3), .lit (.int .u8 30), .lit (.int .u8 22), .lit (.int .u8 20), .lit (.int .u8 15), .lit (.int .u8 25), .lit (.int .u8 17), .lit (.int .u8 4), .lit (.int .u8 8), .lit (.int .u8 31), .lit (.int .u8 27), .lit (.int .u8 13), .lit (.int .u8 23), .lit (.int .u8 21), .lit (.int .u8 19), .lit (.int .u8 16), .lit (.int .u8 7), .lit (.int .u8 26), .lit (.int .u8 12), .lit (.int .u8 18), .lit (.int .u8 6), .lit (.int .u8 11), .lit (.int .u8 5), .lit (.int .u8 10), .lit (.int .u8 9)]
def laid_math_bits_deBruijn64tab {H : Type} : DataW H := .agg [.lit (.int .u8 0), .lit (.int .u8 1), .lit (.int .u8 56), .lit (.int .u8 2), .lit (.int .u8 57), .lit (.int .u8 49), .lit (.int .u8 28), .lit (.int .u8 3), .lit (.int .u8 61), .lit (.int .u8 58), .lit (.int .u8 42), .lit (.int .u8 50), .lit (.int .u8 38), .lit (.int .u8 29), .lit (.int .u8 17), .lit (.int .u8 4), .lit (.int .u8 62), .lit (.int .u8 47), .lit (.int .u8 59), .lit (.int .u8 36), .lit (.int .u8 45), .lit (.int .u8 43), .lit (.int .u8 51), .lit (.int .u8 22), .lit (.int .u8 53), .lit (.int .u8 39), .lit (.int .u8 33), .lit (.int .u8 30), .lit (.int .u8 24), .lit (.int .u8 18), .lit (.int .u8 12), .lit (.int .u8 5), .lit (.int .u8 63), .lit (.int .u8 55), .lit (.int .u8 48), .lit (.int .u8 27), .lit (.int .u8 60), .lit (.int .u8 41), .lit (.int .u8 37), .lit (.int .u8 16), .lit (.int .u8 46), .lit (.int .u8 35), .lit (.int .u8 44), .lit (.int .u8 21), .lit (.int .u8 52), .lit (.int .u8 32), .lit (.int .u8 23), .lit (.int .u8 11), .lit (.int .u8 54), .lit (.int .u8 26), .lit (.int .u8 40), .lit (.int .u8 15), .lit (.int .u8 34), .lit (.int .u8 20), .lit (.int .u8 31), .lit (.int .u8 10), .lit (.int .u8 25), .lit (.int .u8 14), .lit (.int .u8 19), .lit (.int .u8 9), .lit (.int .u8 13), .lit (.int .u8 8), .lit (.int .u8 7), .lit (.int .u8 6)]
def laid_internal_strconv_uint64pow10 {H : Type} : DataW H := .agg [.lit (.int .u64 1), .lit (.int .u64 10), .lit (.int .u64 100), .lit (.int .u64 1000), .lit (.int .u64 10000), .lit (.int .u64 100000), .lit (.int .u64 1000000), .lit (.int .u64 10000000), .lit (.int .u64 100000000), .lit (.int .u64 1000000000), .lit (.int .u64 10000000000), .lit (.int .u64 100000000000), .lit (.int .u64 1000000000000), .lit (.int .u64 10000000000000), .lit (.int .u64 100000000000000), .lit (.int .u64 1000000000000000), .lit (.int .u64 10000000000000000), .lit (.int .u64 100000000000000000), .lit (.int .u64 1000000000000000000), .lit (.int .u64 10000000000000000000)]
def laid_unicode_utf8_acceptRanges {H : Type} : DataW H := .agg [.agg [.lit (.int .u8 128), .lit (.int .u8 191)], .agg [.lit (.int .u8 160), .lit (.int .u8 191)], .agg [.lit (.int .u8 128), .lit (.int .u8 159)], .agg [.lit (.int .u8 144), .lit (.int .u8 191)], .agg [.lit (.int .u8 128), .lit (.int .u8 143)], .agg [.lit (.int .u8 0), .lit (.int .u8 0)], .agg [.lit (.int .u8 0), .lit (.int .u8 0)], .agg [.lit (.int .u8 0), .lit (.int .u8 0)], .agg [.lit (.int .u8 0), .lit (.int .u8 0)], .agg [.lit (.int .u8 0), .lit (.int .u8 0)], .agg [.lit (.int .u8 0), .lit (.int .u8 0)], .agg [.lit (.int .u8 0), .lit (.int .u8 0)], .agg [.lit (.int .u8 0), .lit (.int .u8 0)], .agg [.lit (.int .u8 0), .lit (.int .u8 0)], .agg [.lit (.int .u8 0), .lit (.int .u8 0)], .agg [.lit (.int .u8 0), .lit (.int .u8 0)]]
def laid_commonplace_patch_names {H : Type} : DataW H := .agg [.lit (.string []), .lit (.string [112, 117, 116]), .lit (.string [100, 101, 108]), .lit (.string [99, 108, 101, 97, 114])]
/-- One of Go's own tables, pinned by name: the form's constant. -/
def laid_unicode_utf8_first : DataW Unit := Go.Pinned.utf8First

/-- 'commonplacelaw14.PatchMay': WHATEVER THE INPUT: true; the input reads as it did. -/
def patchMaySpec : ChangeSpec := { name := "patchMay", fn := fun _ => fun
  | [d] => { results := [.lit (.bool true)], args := [d] }
  | _ => none }
def patchMayRow : OpenClaim := { program := "ytdbejcbbhomdbaagreatdoor", sum := "dff3c7ab2a26a192a090a6a407756d064ca2a76f51ee6b1ea982b9d2c57d749e", func := "commonplace/commonplacelaw14.PatchMay", spec := "patchMay", inPlace := ["internal/abi.NoEscape", "slices.overlaps[commonplace/api.Entry]", "slices.overlaps[*commonplace/node.Node]", "internal/bytealg.abigen_runtime_cmpstring", "internal/reflectlite.ValueOf", "internal/reflectlite.Swapper", "(internal/reflectlite.Value).Len"], unfollowed := true, recurses := true, named := ["unicode/utf8.first", "unicode/utf8.acceptRanges", "internal/strconv.uint64pow10", "math/bits.deBruijn32tab", "math/bits.deBruijn64tab", "commonplace/patch.names"], loops := true, apart := false, laid := [("math/bits.deBruijn32tab", laid_math_bits_deBruijn32tab), ("math/bits.deBruijn64tab", laid_math_bits_deBruijn64tab), ("internal/strconv.uint64pow10", laid_internal_strconv_uint64pow10), ("unicode/utf8.acceptRanges", laid_unicode_utf8_acceptRanges), ("commonplace/patch.names", laid_commonplace_patch_names), ("unicode/utf8.first", laid_unicode_utf8_first)] }
def PatchMaySaid : Prop := patchMayRow.holds Tryz.pinned (OpenSpec.ofChange patchMaySpec)

/-- ITS FALSE NEIGHBOUR: 'it returns false'. Refute it at one input. -/
def patchMayWrong : ChangeSpec := { name := "patchMay", fn := fun _ => fun
  | [d] => { results := [.lit (.bool false)], args := [d] }
  | _ => none }
def PatchMayWrongFalsely : Prop := patchMayRow.holds Tryz.pinned (OpenSpec.ofChange patchMayWrong)

/-- 'commonplacelaw14.PatchForms': WHATEVER THE INPUT: true; the input reads as it did. -/
def patchFormsSpec : ChangeSpec := { name := "patchForms", fn := fun _ => fun
  | [d] => { results := [.lit (.bool true)], args := [d] }
  | _ => none }
def patchFormsRow : OpenClaim := { program := "ytdbejcbbhomdbaagreatdoor", sum := "dff3c7ab2a26a192a090a6a407756d064ca2a76f51ee6b1ea982b9d2c57d749e", func := "commonplace/commonplacelaw14.PatchForms", spec := "patchForms", inPlace := ["internal/abi.NoEscape", "internal/reflectlite.ValueOf", "internal/reflectlite.Swapper", "(internal/reflectlite.Value).Len", "slices.overlaps[commonplace/api.Entry]", "slices.overlaps[*commonplace/node.Node]", "internal/bytealg.abigen_runtime_cmpstring"], unfollowed := true, recurses := true, named := ["unicode/utf8.first", "unicode/utf8.acceptRanges", "internal/strconv.uint64pow10", "math/bits.deBruijn32tab", "math/bits.deBruijn64tab", "commonplace/patch.names"], loops := true, apart := false, laid := [("math/bits.deBruijn32tab", laid_math_bits_deBruijn32tab), ("math/bits.deBruijn64tab", laid_math_bits_deBruijn64tab), ("internal/strconv.uint64pow10", laid_internal_strconv_uint64pow10), ("unicode/utf8.acceptRanges", laid_unicode_utf8_acceptRanges), ("commonplace/patch.names", laid_commonplace_patch_names), ("unicode/utf8.first", laid_unicode_utf8_first)] }
def PatchFormsSaid : Prop := patchFormsRow.holds Tryz.pinned (OpenSpec.ofChange patchFormsSpec)

/-- ITS FALSE NEIGHBOUR: 'it returns false'. Refute it at one input. -/
def patchFormsWrong : ChangeSpec := { name := "patchForms", fn := fun _ => fun
  | [d] => { results := [.lit (.bool false)], args := [d] }
  | _ => none }
def PatchFormsWrongFalsely : Prop := patchFormsRow.holds Tryz.pinned (OpenSpec.ofChange patchFormsWrong)

/-- 'commonplacelaw14.PatchFrom': WHATEVER THE INPUT: true; the input reads as it did. -/
def patchFromSpec : ChangeSpec := { name := "patchFrom", fn := fun _ => fun
  | [d1, d2] => { results := [.lit (.bool true)], args := [d1, d2] }
  | _ => none }
def patchFromRow : OpenClaim := { program := "ytdbejcbbhomdbaagreatdoor", sum := "dff3c7ab2a26a192a090a6a407756d064ca2a76f51ee6b1ea982b9d2c57d749e", func := "commonplace/commonplacelaw14.PatchFrom", spec := "patchFrom", inPlace := ["slices.overlaps[commonplace/api.Entry]", "slices.overlaps[*commonplace/node.Node]", "internal/bytealg.abigen_runtime_cmpstring", "internal/abi.NoEscape", "internal/reflectlite.ValueOf", "internal/reflectlite.Swapper", "(internal/reflectlite.Value).Len"], unfollowed := true, recurses := true, named := ["unicode/utf8.first", "unicode/utf8.acceptRanges", "internal/strconv.uint64pow10", "math/bits.deBruijn32tab", "math/bits.deBruijn64tab", "commonplace/patch.names"], loops := true, apart := false, laid := [("math/bits.deBruijn32tab", laid_math_bits_deBruijn32tab), ("math/bits.deBruijn64tab", laid_math_bits_deBruijn64tab), ("internal/strconv.uint64pow10", laid_internal_strconv_uint64pow10), ("unicode/utf8.acceptRanges", laid_unicode_utf8_acceptRanges), ("commonplace/patch.names", laid_commonplace_patch_names), ("unicode/utf8.first", laid_unicode_utf8_first)] }
def PatchFromSaid : Prop := patchFromRow.holds Tryz.pinned (OpenSpec.ofChange patchFromSpec)

/-- ITS FALSE NEIGHBOUR: 'it returns false'. Refute it at one input. -/
def patchFromWrong : ChangeSpec := { name := "patchFrom", fn := fun _ => fun
  | [d1, d2] => { results := [.lit (.bool false)], args := [d1, d2] }
  | _ => none }
def PatchFromWrongFalsely : Prop := patchFromRow.holds Tryz.pinned (OpenSpec.ofChange patchFromWrong)

/-- 'commonplacelaw14.PatchReads': WHATEVER THE INPUT: true; the input reads as it did. -/
def patchReadsSpec : ChangeSpec := { name := "patchReads", fn := fun _ => fun
  | [d] => { results := [.lit (.bool true)], args := [d] }
  | _ => none }
def patchReadsRow : OpenClaim := { program := "ytdbejcbbhomdbaagreatdoor", sum := "dff3c7ab2a26a192a090a6a407756d064ca2a76f51ee6b1ea982b9d2c57d749e", func := "commonplace/commonplacelaw14.PatchReads", spec := "patchReads", inPlace := ["internal/abi.NoEscape", "slices.overlaps[commonplace/api.Entry]", "slices.overlaps[*commonplace/node.Node]", "internal/bytealg.abigen_runtime_cmpstring", "internal/reflectlite.ValueOf", "internal/reflectlite.Swapper", "(internal/reflectlite.Value).Len"], unfollowed := true, recurses := true, named := ["unicode/utf8.first", "unicode/utf8.acceptRanges", "internal/strconv.uint64pow10", "math/bits.deBruijn32tab", "math/bits.deBruijn64tab", "commonplace/patch.names"], loops := true, apart := false, laid := [("math/bits.deBruijn32tab", laid_math_bits_deBruijn32tab), ("math/bits.deBruijn64tab", laid_math_bits_deBruijn64tab), ("internal/strconv.uint64pow10", laid_internal_strconv_uint64pow10), ("unicode/utf8.acceptRanges", laid_unicode_utf8_acceptRanges), ("commonplace/patch.names", laid_commonplace_patch_names), ("unicode/utf8.first", laid_unicode_utf8_first)] }
def PatchReadsSaid : Prop := patchReadsRow.holds Tryz.pinned (OpenSpec.ofChange patchReadsSpec)

/-- ITS FALSE NEIGHBOUR: 'it returns false'. Refute it at one input. -/
def patchReadsWrong : ChangeSpec := { name := "patchReads", fn := fun _ => fun
  | [d] => { results := [.lit (.bool false)], args := [d] }
  | _ => none }
def PatchReadsWrongFalsely : Prop := patchReadsRow.holds Tryz.pinned (OpenSpec.ofChange patchReadsWrong)

/-- 'commonplacelaw14.PatchLeast': WHATEVER THE INPUT: true; the input reads as it did. -/
def patchLeastSpec : ChangeSpec := { name := "patchLeast", fn := fun _ => fun
  | [d1, d2] => { results := [.lit (.bool true)], args := [d1, d2] }
  | _ => none }
def patchLeastRow : OpenClaim := { program := "ytdbejcbbhomdbaagreatdoor", sum := "dff3c7ab2a26a192a090a6a407756d064ca2a76f51ee6b1ea982b9d2c57d749e", func := "commonplace/commonplacelaw14.PatchLeast", spec := "patchLeast", inPlace := ["slices.overlaps[commonplace/api.Entry]", "slices.overlaps[*commonplace/node.Node]", "internal/abi.NoEscape", "internal/bytealg.abigen_runtime_cmpstring", "internal/reflectlite.ValueOf", "internal/reflectlite.Swapper", "(internal/reflectlite.Value).Len"], unfollowed := true, recurses := true, named := ["unicode/utf8.first", "unicode/utf8.acceptRanges", "internal/strconv.uint64pow10", "math/bits.deBruijn32tab", "math/bits.deBruijn64tab", "commonplace/patch.names"], loops := true, apart := false, laid := [("math/bits.deBruijn32tab", laid_math_bits_deBruijn32tab), ("math/bits.deBruijn64tab", laid_math_bits_deBruijn64tab), ("internal/strconv.uint64pow10", laid_internal_strconv_uint64pow10), ("unicode/utf8.acceptRanges", laid_unicode_utf8_acceptRanges), ("commonplace/patch.names", laid_commonplace_patch_names), ("unicode/utf8.first", laid_unicode_utf8_first)] }
def PatchLeastSaid : Prop := patchLeastRow.holds Tryz.pinned (OpenSpec.ofChange patchLeastSpec)

/-- ITS FALSE NEIGHBOUR: 'it returns false'. Refute it at one input. -/
def patchLeastWrong : ChangeSpec := { name := "patchLeast", fn := fun _ => fun
  | [d1, d2] => { results := [.lit (.bool false)], args := [d1, d2] }
  | _ => none }
def PatchLeastWrongFalsely : Prop := patchLeastRow.holds Tryz.pinned (OpenSpec.ofChange patchLeastWrong)

/-- 'commonplacelaw14.PatchApplies': WHATEVER THE INPUT: true; the input reads as it did. -/
def patchAppliesSpec : ChangeSpec := { name := "patchApplies", fn := fun _ => fun
  | [d1, d2] => { results := [.lit (.bool true)], args := [d1, d2] }
  | _ => none }
def patchAppliesRow : OpenClaim := { program := "ytdbejcbbhomdbaagreatdoor", sum := "dff3c7ab2a26a192a090a6a407756d064ca2a76f51ee6b1ea982b9d2c57d749e", func := "commonplace/commonplacelaw14.PatchApplies", spec := "patchApplies", inPlace := ["slices.overlaps[commonplace/api.Entry]", "slices.overlaps[*commonplace/node.Node]", "internal/abi.NoEscape", "internal/bytealg.abigen_runtime_cmpstring", "internal/reflectlite.ValueOf", "internal/reflectlite.Swapper", "(internal/reflectlite.Value).Len"], unfollowed := true, recurses := true, named := ["unicode/utf8.first", "unicode/utf8.acceptRanges", "internal/strconv.uint64pow10", "math/bits.deBruijn32tab", "math/bits.deBruijn64tab", "commonplace/patch.names"], loops := true, apart := false, laid := [("math/bits.deBruijn32tab", laid_math_bits_deBruijn32tab), ("math/bits.deBruijn64tab", laid_math_bits_deBruijn64tab), ("internal/strconv.uint64pow10", laid_internal_strconv_uint64pow10), ("unicode/utf8.acceptRanges", laid_unicode_utf8_acceptRanges), ("commonplace/patch.names", laid_commonplace_patch_names), ("unicode/utf8.first", laid_unicode_utf8_first)] }
def PatchAppliesSaid : Prop := patchAppliesRow.holds Tryz.pinned (OpenSpec.ofChange patchAppliesSpec)

/-- ITS FALSE NEIGHBOUR: 'it returns false'. Refute it at one input. -/
def patchAppliesWrong : ChangeSpec := { name := "patchApplies", fn := fun _ => fun
  | [d1, d2] => { results := [.lit (.bool false)], args := [d1, d2] }
  | _ => none }
def PatchAppliesWrongFalsely : Prop := patchAppliesRow.holds Tryz.pinned (OpenSpec.ofChange patchAppliesWrong)

/-- 'commonplacelaw14.PatchChains': WHATEVER THE INPUT: true; the input reads as it did. -/
def patchChainsSpec : ChangeSpec := { name := "patchChains", fn := fun _ => fun
  | [d1, d2, d3] => { results := [.lit (.bool true)], args := [d1, d2, d3] }
  | _ => none }
def patchChainsRow : OpenClaim := { program := "ytdbejcbbhomdbaagreatdoor", sum := "dff3c7ab2a26a192a090a6a407756d064ca2a76f51ee6b1ea982b9d2c57d749e", func := "commonplace/commonplacelaw14.PatchChains", spec := "patchChains", inPlace := ["slices.overlaps[commonplace/api.Entry]", "slices.overlaps[*commonplace/node.Node]", "internal/bytealg.abigen_runtime_cmpstring", "internal/abi.NoEscape", "internal/reflectlite.ValueOf", "internal/reflectlite.Swapper", "(internal/reflectlite.Value).Len"], unfollowed := true, recurses := true, named := ["unicode/utf8.first", "unicode/utf8.acceptRanges", "internal/strconv.uint64pow10", "math/bits.deBruijn32tab", "math/bits.deBruijn64tab", "commonplace/patch.names"], loops := true, apart := false, laid := [("math/bits.deBruijn32tab", laid_math_bits_deBruijn32tab), ("math/bits.deBruijn64tab", laid_math_bits_deBruijn64tab), ("internal/strconv.uint64pow10", laid_internal_strconv_uint64pow10), ("unicode/utf8.acceptRanges", laid_unicode_utf8_acceptRanges), ("commonplace/patch.names", laid_commonplace_patch_names), ("unicode/utf8.first", laid_unicode_utf8_first)] }
def PatchChainsSaid : Prop := patchChainsRow.holds Tryz.pinned (OpenSpec.ofChange patchChainsSpec)

/-- ITS FALSE NEIGHBOUR: 'it returns false'. Refute it at one input. -/
def patchChainsWrong : ChangeSpec := { name := "patchChains", fn := fun _ => fun
  | [d1, d2, d3] => { results := [.lit (.bool false)], args := [d1, d2, d3] }
  | _ => none }
def PatchChainsWrongFalsely : Prop := patchChainsRow.holds Tryz.pinned (OpenSpec.ofChange patchChainsWrong)

/-- 'commonplacelaw14.PatchLeads': WHATEVER THE INPUT: true; the input reads as it did. -/
def patchLeadsSpec : ChangeSpec := { name := "patchLeads", fn := fun _ => fun
  | [d1, d2, d3] => { results := [.lit (.bool true)], args := [d1, d2, d3] }
  | _ => none }
def patchLeadsRow : OpenClaim := { program := "ytdbejcbbhomdbaagreatdoor", sum := "dff3c7ab2a26a192a090a6a407756d064ca2a76f51ee6b1ea982b9d2c57d749e", func := "commonplace/commonplacelaw14.PatchLeads", spec := "patchLeads", inPlace := ["slices.overlaps[commonplace/api.Entry]", "slices.overlaps[*commonplace/node.Node]", "internal/bytealg.abigen_runtime_cmpstring", "internal/abi.NoEscape", "internal/reflectlite.ValueOf", "internal/reflectlite.Swapper", "(internal/reflectlite.Value).Len"], unfollowed := true, recurses := true, named := ["unicode/utf8.first", "unicode/utf8.acceptRanges", "internal/strconv.uint64pow10", "math/bits.deBruijn32tab", "math/bits.deBruijn64tab", "commonplace/patch.names"], loops := true, apart := false, laid := [("math/bits.deBruijn32tab", laid_math_bits_deBruijn32tab), ("math/bits.deBruijn64tab", laid_math_bits_deBruijn64tab), ("internal/strconv.uint64pow10", laid_internal_strconv_uint64pow10), ("unicode/utf8.acceptRanges", laid_unicode_utf8_acceptRanges), ("commonplace/patch.names", laid_commonplace_patch_names), ("unicode/utf8.first", laid_unicode_utf8_first)] }
def PatchLeadsSaid : Prop := patchLeadsRow.holds Tryz.pinned (OpenSpec.ofChange patchLeadsSpec)

/-- ITS FALSE NEIGHBOUR: 'it returns false'. Refute it at one input. -/
def patchLeadsWrong : ChangeSpec := { name := "patchLeads", fn := fun _ => fun
  | [d1, d2, d3] => { results := [.lit (.bool false)], args := [d1, d2, d3] }
  | _ => none }
def PatchLeadsWrongFalsely : Prop := patchLeadsRow.holds Tryz.pinned (OpenSpec.ofChange patchLeadsWrong)

/- THE SECOND FORM. 'bulk': how many values and letters a reading holds, each counted each time it is reached (what is shared counts as often as it is met; a slice's spare places count too). A statement '..UptoSaid' is the law's where the arguments, and the package variables that the reading takes, are together of bulk at most 1048576: NARROWER than '..Said'. Prove '..Said' where nothing that the law and all that it calls make is longer than what came in: it says more and counts as full. Else prove '..UptoSaid'. A law counts once. -/
mutual
def uptoBulk {H : Type} : DataW H → Nat
  | .lit (.string bytes) => bytes.length + 1
  | .lit _ => 1
  | .nil => 1
  | .ptr d => uptoBulk d + 1
  | .slice elems spare => uptoBulkAll elems + uptoBulkAll spare + 1
  | .agg parts => uptoBulkAll parts + 1
  | .iface _ d => uptoBulk d + 1
  | .map entries => uptoBulkEntries entries + 1
  | .held _ => 1
def uptoBulkAll {H : Type} : List (DataW H) → Nat
  | [] => 0
  | d :: r => uptoBulk d + uptoBulkAll r
def uptoBulkEntries {H : Type} : List (Lit × DataW H) → Nat
  | [] => 0
  | x :: r => uptoBulkEntry x + uptoBulkEntries r
def uptoBulkEntry {H : Type} : Lit × DataW H → Nat
  | (.string bytes, d) => bytes.length + uptoBulk d + 1
  | (_, d) => uptoBulk d + 1
 end
def uptoSmall : (H : Type) → List (DataW H) → Bool := fun _ ds => decide (uptoBulkAll ds ≤ 1048576)
def OpenSpec.upto (s : _root_.Go.ChangeSpec) : _root_.Go.OpenSpec := { _root_.Go.OpenSpec.ofChange s with cond := some uptoSmall }

/-- 'commonplacelaw14.PatchMay', WHERE WHAT IT READS IS OF BULK AT MOST 1048576: true; the input reads as it did. -/
def patchMayUptoRow : OpenClaim := { program := "ytdbejcbbhomdbaagreatdoor", sum := "dff3c7ab2a26a192a090a6a407756d064ca2a76f51ee6b1ea982b9d2c57d749e", func := "commonplace/commonplacelaw14.PatchMay", spec := "patchMay", inPlace := ["internal/abi.NoEscape", "slices.overlaps[commonplace/api.Entry]", "slices.overlaps[*commonplace/node.Node]", "internal/bytealg.abigen_runtime_cmpstring", "internal/reflectlite.ValueOf", "internal/reflectlite.Swapper", "(internal/reflectlite.Value).Len"], unfollowed := true, recurses := true, named := ["unicode/utf8.first", "unicode/utf8.acceptRanges", "internal/strconv.uint64pow10", "math/bits.deBruijn32tab", "math/bits.deBruijn64tab", "commonplace/patch.names"], loops := true, apart := false, laid := [("math/bits.deBruijn32tab", laid_math_bits_deBruijn32tab), ("math/bits.deBruijn64tab", laid_math_bits_deBruijn64tab), ("internal/strconv.uint64pow10", laid_internal_strconv_uint64pow10), ("unicode/utf8.acceptRanges", laid_unicode_utf8_acceptRanges), ("commonplace/patch.names", laid_commonplace_patch_names), ("unicode/utf8.first", laid_unicode_utf8_first)], narrowed := true }
def PatchMayUptoSaid : Prop := patchMayUptoRow.holds Tryz.pinned (OpenSpec.upto patchMaySpec)

/-- 'commonplacelaw14.PatchForms', WHERE WHAT IT READS IS OF BULK AT MOST 1048576: true; the input reads as it did. -/
def patchFormsUptoRow : OpenClaim := { program := "ytdbejcbbhomdbaagreatdoor", sum := "dff3c7ab2a26a192a090a6a407756d064ca2a76f51ee6b1ea982b9d2c57d749e", func := "commonplace/commonplacelaw14.PatchForms", spec := "patchForms", inPlace := ["internal/abi.NoEscape", "internal/reflectlite.ValueOf", "internal/reflectlite.Swapper", "(internal/reflectlite.Value).Len", "slices.overlaps[commonplace/api.Entry]", "slices.overlaps[*commonplace/node.Node]", "internal/bytealg.abigen_runtime_cmpstring"], unfollowed := true, recurses := true, named := ["unicode/utf8.first", "unicode/utf8.acceptRanges", "internal/strconv.uint64pow10", "math/bits.deBruijn32tab", "math/bits.deBruijn64tab", "commonplace/patch.names"], loops := true, apart := false, laid := [("math/bits.deBruijn32tab", laid_math_bits_deBruijn32tab), ("math/bits.deBruijn64tab", laid_math_bits_deBruijn64tab), ("internal/strconv.uint64pow10", laid_internal_strconv_uint64pow10), ("unicode/utf8.acceptRanges", laid_unicode_utf8_acceptRanges), ("commonplace/patch.names", laid_commonplace_patch_names), ("unicode/utf8.first", laid_unicode_utf8_first)], narrowed := true }
def PatchFormsUptoSaid : Prop := patchFormsUptoRow.holds Tryz.pinned (OpenSpec.upto patchFormsSpec)

/-- 'commonplacelaw14.PatchFrom', WHERE WHAT IT READS IS OF BULK AT MOST 1048576: true; the input reads as it did. -/
def patchFromUptoRow : OpenClaim := { program := "ytdbejcbbhomdbaagreatdoor", sum := "dff3c7ab2a26a192a090a6a407756d064ca2a76f51ee6b1ea982b9d2c57d749e", func := "commonplace/commonplacelaw14.PatchFrom", spec := "patchFrom", inPlace := ["slices.overlaps[commonplace/api.Entry]", "slices.overlaps[*commonplace/node.Node]", "internal/bytealg.abigen_runtime_cmpstring", "internal/abi.NoEscape", "internal/reflectlite.ValueOf", "internal/reflectlite.Swapper", "(internal/reflectlite.Value).Len"], unfollowed := true, recurses := true, named := ["unicode/utf8.first", "unicode/utf8.acceptRanges", "internal/strconv.uint64pow10", "math/bits.deBruijn32tab", "math/bits.deBruijn64tab", "commonplace/patch.names"], loops := true, apart := false, laid := [("math/bits.deBruijn32tab", laid_math_bits_deBruijn32tab), ("math/bits.deBruijn64tab", laid_math_bits_deBruijn64tab), ("internal/strconv.uint64pow10", laid_internal_strconv_uint64pow10), ("unicode/utf8.acceptRanges", laid_unicode_utf8_acceptRanges), ("commonplace/patch.names", laid_commonplace_patch_names), ("unicode/utf8.first", laid_unicode_utf8_first)], narrowed := true }
def PatchFromUptoSaid : Prop := patchFromUptoRow.holds Tryz.pinned (OpenSpec.upto patchFromSpec)

/-- 'commonplacelaw14.PatchReads', WHERE WHAT IT READS IS OF BULK AT MOST 1048576: true; the input reads as it did. -/
def patchReadsUptoRow : OpenClaim := { program := "ytdbejcbbhomdbaagreatdoor", sum := "dff3c7ab2a26a192a090a6a407756d064ca2a76f51ee6b1ea982b9d2c57d749e", func := "commonplace/commonplacelaw14.PatchReads", spec := "patchReads", inPlace := ["internal/abi.NoEscape", "slices.overlaps[commonplace/api.Entry]", "slices.overlaps[*commonplace/node.Node]", "internal/bytealg.abigen_runtime_cmpstring", "internal/reflectlite.ValueOf", "internal/reflectlite.Swapper", "(internal/reflectlite.Value).Len"], unfollowed := true, recurses := true, named := ["unicode/utf8.first", "unicode/utf8.acceptRanges", "internal/strconv.uint64pow10", "math/bits.deBruijn32tab", "math/bits.deBruijn64tab", "commonplace/patch.names"], loops := true, apart := false, laid := [("math/bits.deBruijn32tab", laid_math_bits_deBruijn32tab), ("math/bits.deBruijn64tab", laid_math_bits_deBruijn64tab), ("internal/strconv.uint64pow10", laid_internal_strconv_uint64pow10), ("unicode/utf8.acceptRanges", laid_unicode_utf8_acceptRanges), ("commonplace/patch.names", laid_commonplace_patch_names), ("unicode/utf8.first", laid_unicode_utf8_first)], narrowed := true }
def PatchReadsUptoSaid : Prop := patchReadsUptoRow.holds Tryz.pinned (OpenSpec.upto patchReadsSpec)

/-- 'commonplacelaw14.PatchLeast', WHERE WHAT IT READS IS OF BULK AT MOST 1048576: true; the input reads as it did. -/
def patchLeastUptoRow : OpenClaim := { program := "ytdbejcbbhomdbaagreatdoor", sum := "dff3c7ab2a26a192a090a6a407756d064ca2a76f51ee6b1ea982b9d2c57d749e", func := "commonplace/commonplacelaw14.PatchLeast", spec := "patchLeast", inPlace := ["slices.overlaps[commonplace/api.Entry]", "slices.overlaps[*commonplace/node.Node]", "internal/abi.NoEscape", "internal/bytealg.abigen_runtime_cmpstring", "internal/reflectlite.ValueOf", "internal/reflectlite.Swapper", "(internal/reflectlite.Value).Len"], unfollowed := true, recurses := true, named := ["unicode/utf8.first", "unicode/utf8.acceptRanges", "internal/strconv.uint64pow10", "math/bits.deBruijn32tab", "math/bits.deBruijn64tab", "commonplace/patch.names"], loops := true, apart := false, laid := [("math/bits.deBruijn32tab", laid_math_bits_deBruijn32tab), ("math/bits.deBruijn64tab", laid_math_bits_deBruijn64tab), ("internal/strconv.uint64pow10", laid_internal_strconv_uint64pow10), ("unicode/utf8.acceptRanges", laid_unicode_utf8_acceptRanges), ("commonplace/patch.names", laid_commonplace_patch_names), ("unicode/utf8.first", laid_unicode_utf8_first)], narrowed := true }
def PatchLeastUptoSaid : Prop := patchLeastUptoRow.holds Tryz.pinned (OpenSpec.upto patchLeastSpec)

/-- 'commonplacelaw14.PatchApplies', WHERE WHAT IT READS IS OF BULK AT MOST 1048576: true; the input reads as it did. -/
def patchAppliesUptoRow : OpenClaim := { program := "ytdbejcbbhomdbaagreatdoor", sum := "dff3c7ab2a26a192a090a6a407756d064ca2a76f51ee6b1ea982b9d2c57d749e", func := "commonplace/commonplacelaw14.PatchApplies", spec := "patchApplies", inPlace := ["slices.overlaps[commonplace/api.Entry]", "slices.overlaps[*commonplace/node.Node]", "internal/abi.NoEscape", "internal/bytealg.abigen_runtime_cmpstring", "internal/reflectlite.ValueOf", "internal/reflectlite.Swapper", "(internal/reflectlite.Value).Len"], unfollowed := true, recurses := true, named := ["unicode/utf8.first", "unicode/utf8.acceptRanges", "internal/strconv.uint64pow10", "math/bits.deBruijn32tab", "math/bits.deBruijn64tab", "commonplace/patch.names"], loops := true, apart := false, laid := [("math/bits.deBruijn32tab", laid_math_bits_deBruijn32tab), ("math/bits.deBruijn64tab", laid_math_bits_deBruijn64tab), ("internal/strconv.uint64pow10", laid_internal_strconv_uint64pow10), ("unicode/utf8.acceptRanges", laid_unicode_utf8_acceptRanges), ("commonplace/patch.names", laid_commonplace_patch_names), ("unicode/utf8.first", laid_unicode_utf8_first)], narrowed := true }
def PatchAppliesUptoSaid : Prop := patchAppliesUptoRow.holds Tryz.pinned (OpenSpec.upto patchAppliesSpec)

/-- 'commonplacelaw14.PatchChains', WHERE WHAT IT READS IS OF BULK AT MOST 1048576: true; the input reads as it did. -/
def patchChainsUptoRow : OpenClaim := { program := "ytdbejcbbhomdbaagreatdoor", sum := "dff3c7ab2a26a192a090a6a407756d064ca2a76f51ee6b1ea982b9d2c57d749e", func := "commonplace/commonplacelaw14.PatchChains", spec := "patchChains", inPlace := ["slices.overlaps[commonplace/api.Entry]", "slices.overlaps[*commonplace/node.Node]", "internal/bytealg.abigen_runtime_cmpstring", "internal/abi.NoEscape", "internal/reflectlite.ValueOf", "internal/reflectlite.Swapper", "(internal/reflectlite.Value).Len"], unfollowed := true, recurses := true, named := ["unicode/utf8.first", "unicode/utf8.acceptRanges", "internal/strconv.uint64pow10", "math/bits.deBruijn32tab", "math/bits.deBruijn64tab", "commonplace/patch.names"], loops := true, apart := false, laid := [("math/bits.deBruijn32tab", laid_math_bits_deBruijn32tab), ("math/bits.deBruijn64tab", laid_math_bits_deBruijn64tab), ("internal/strconv.uint64pow10", laid_internal_strconv_uint64pow10), ("unicode/utf8.acceptRanges", laid_unicode_utf8_acceptRanges), ("commonplace/patch.names", laid_commonplace_patch_names), ("unicode/utf8.first", laid_unicode_utf8_first)], narrowed := true }
def PatchChainsUptoSaid : Prop := patchChainsUptoRow.holds Tryz.pinned (OpenSpec.upto patchChainsSpec)

/-- 'commonplacelaw14.PatchLeads', WHERE WHAT IT READS IS OF BULK AT MOST 1048576: true; the input reads as it did. -/
def patchLeadsUptoRow : OpenClaim := { program := "ytdbejcbbhomdbaagreatdoor", sum := "dff3c7ab2a26a192a090a6a407756d064ca2a76f51ee6b1ea982b9d2c57d749e", func := "commonplace/commonplacelaw14.PatchLeads", spec := "patchLeads", inPlace := ["slices.overlaps[commonplace/api.Entry]", "slices.overlaps[*commonplace/node.Node]", "internal/bytealg.abigen_runtime_cmpstring", "internal/abi.NoEscape", "internal/reflectlite.ValueOf", "internal/reflectlite.Swapper", "(internal/reflectlite.Value).Len"], unfollowed := true, recurses := true, named := ["unicode/utf8.first", "unicode/utf8.acceptRanges", "internal/strconv.uint64pow10", "math/bits.deBruijn32tab", "math/bits.deBruijn64tab", "commonplace/patch.names"], loops := true, apart := false, laid := [("math/bits.deBruijn32tab", laid_math_bits_deBruijn32tab), ("math/bits.deBruijn64tab", laid_math_bits_deBruijn64tab), ("internal/strconv.uint64pow10", laid_internal_strconv_uint64pow10), ("unicode/utf8.acceptRanges", laid_unicode_utf8_acceptRanges), ("commonplace/patch.names", laid_commonplace_patch_names), ("unicode/utf8.first", laid_unicode_utf8_first)], narrowed := true }
def PatchLeadsUptoSaid : Prop := patchLeadsUptoRow.holds Tryz.pinned (OpenSpec.upto patchLeadsSpec)

end Rows
end Go.Proofs.YtdbejcbbhomdbaaGreatDoor
