/-
  NARROWER THAN 'FOR EVERY INPUT', by the rows' own cells (each row's printed sentence says how): MutatorForms: loops, laid · MutatorNests: loops, laid · MutatorOwn: loops, laid · MutatorBack: loops, laid · MutatorUnlike: loops, laid · MutatorMeasures: loops, laid.
  DERIVED. THE GIVEN ROWS OF THIS SEAT. 6 by the template 'for every input the law returns true; each argument reads behind the call as it read before'; 0 by the template 'total and deterministic' (their statements: YtmglfdckpjegdaaGreatDoorTotals.lean).
  GIVEN WITH THE SEED: the statements are not yours to turn. If you find one false, say at which input.
  Laid BY PROGRAM, IN A SANDBOX (cutbox-rows.mjs): the forced cells as the released guide's own fill.sh prints them over the translation ccf7e0fd2a52e120… (all of the seat's roots in one cut). By AI agents, Wed Nov 11 2026. No macro, syntax, notation, axiom, sorry.
-/
import Derived.Test.YtmglfdckpjegdaaGreatDoorChecked
import GoSem.PinnedTables
import GoSem.Claim
import GoSem.ClaimJoined
import GoSem.ClaimMapViews
import Derived.JoinedTies
import Derived.KernelRfl
namespace Go.Proofs.YtmglfdckpjegdaaGreatDoor
/- THE CELL 'sum', in the pinned program and in every row, IS THE sha256 OF THE DUMP (.gsa) THAT YtmglfdckpjegdaaGreatDoorProg.lean LOADS. Nothing in Lean hashes anything: it is a label: what it is worth is what the hold of that sum in a sandbox is worth. -/
noncomputable def Tryz.pinned : Pinned := { name := "ytmglfdckpjegdaagreatdoor", sum := "ccf7e0fd2a52e1208ddcce3f36ba93845f9c94dce19b88dfaea90e7ddce95a5c", checked := Tryz.checked }
namespace Rows
def none {H : Type} : Left H := { results := [], args := [] }

/- WHAT THE LISTED PACKAGE-LEVEL VARIABLES READ AS WHEN THE CALL BEGINS. Each datum BY PROGRAM (the guide's laid-datum.mjs) off the statement by which the dump's own 'gosem.cut.vars' lays the variable. In a bare row this is a premise. The card (YtmglfdckpjegdaaGreatDoorCards.lean) ties it to the program's text. -/
def laid_math_bits_deBruijn32tab {H : Type} : DataW H := .agg [.lit (.int .u8 0), .lit (.int .u8 1), .lit (.int .u8 28), .lit (.int .u8 2), .lit (.int .u8 29), .lit (.int .u8 14), .lit (.int .u8 24), .lit (.int .u8 3), .lit (.int .u8 30), .lit (.int .u8 22), .lit (.int .u8 20), .lit (.int .u8 15), .lit (.int .u8 25), .lit (.int .u8 17), .lit (.int .u8 4), .lit (.int .u8 8), .lit (.int .u8 31), .lit (.int .u8 27), .lit (.int .u8 13), .lit (.int .u8 23), .lit (.int .u8 21), .lit (.int .u8 19), .lit (.int .u8 16), .lit (.int .u8 7), .lit (.int .u8 26), .lit (.int .u8 12), .lit (.int .u8 18), .lit (.int .u8 6), .lit (.int .u8 11), .lit (.int .u8 5), .lit (.int .u8 10), .lit (.int .u8 9)]
def laid_math_bits_deBruijn64tab {H : Type} : DataW H := .agg [.lit (.int .u8 0), .lit (.int .u8 1), .lit (.int .u8 56), .lit (.int .u8 2), .lit (.int .u8 57), .lit (.int .u8 49), .lit (.int .u8 28), .lit (.int .u8 3), .lit (.int .u8 61), .lit (.int .u8 58), .lit (.int .u8 42), .lit (.int .u8 50), .lit (.int .u8 38), .lit (.int .u8 29), .lit (.int .u8 17), .lit (.int .u8 4), .lit (.int .u8 62), .lit (.int .u8 47), .lit (.int .u8 59), .lit (.int .u8 36), .lit (.int .u8 45), .lit (.int .u8 43), .lit (.int .u8 51), .lit (.int .u8 22), .lit (.int .u8 53), .lit (.int .u8 39), .lit (.int .u8 33), .lit (.int .u8 30), .lit (.int .u8 24), .lit (.int .u8 18), .lit (.int .u8 12), .lit (.int .u8 5), .lit (.int .u8 63), .lit (.int .u8 55), .lit (.int .u8 48), .lit (.int .u8 27), .lit (.int .u8 60), .lit (.int .u8 41), .lit (.int .u8 37), .lit (.int .u8 16), .lit (.int .u8 46), .lit (.int .u8 35), .lit (.int .u8 44), .lit (.int .u8 21), .lit (.int .u8 52), .lit (.int .u8 32), .lit (.int .u8 23), .lit (.int .u8 11), .lit (.int .u8 54), .lit (.int .u8 26), .lit (.int .u8 40), .lit (.int .u8 15), .lit (.int .u8 34), .lit (.int .u8 20), .lit (.int .u8 31), .lit (.int .u8 10), .lit (.int .u8 25), .lit (.int .u8 14), .lit (.int .u8 19), .lit (.int .u8 9), .lit (.int .u8 13), .lit (.int .u8 8), .lit (.int .u8 7), .lit (.int .u8 6)]
def laid_internal_strconv_uint64pow10 {H : Type} : DataW H := .agg [.lit (.int .u64 1), .lit (.int .u64 10), .lit (.int .u64 100), .lit (.int .u64 1000), .lit (.int .u64 10000), .lit (.int .u64 100000), .lit (.int .u64 1000000), .lit (.int .u64 10000000), .lit (.int .u64 100000000), .lit (.int .u64 1000000000), .lit (.int .u64 10000000000), .lit (.int .u64 100000000000), .lit (.int .u64 1000000000000), .lit (.int .u64 10000000000000), .lit (.int .u64 100000000000000), .lit (.int .u64 1000000000000000), .lit (.int .u64 10000000000000000), .lit (.int .u64 100000000000000000), .lit (.int .u64 1000000000000000000), .lit (.int .u64 10000000000000000000)]
def laid_unicode_utf8_acceptRanges {H : Type} : DataW H := .agg [.agg [.lit (.int .u8 128), .lit (.int .u8 191)], .agg [.lit (.int .u8 160), .lit (.int .u8 191)], .agg [.lit (.int .u8 128), .lit (.int .u8 159)], .agg [.lit (.int .u8 144), .lit (.int .u8 191)], .agg [.lit (.int .u8 128), .lit (.int .u8 143)], .agg [.lit (.int .u8 0), .lit (.int .u8 0)], .agg [.lit (.int .u8 0), .lit (.int .u8 0)], .agg [.lit (.int .u8 0), .lit (.int .u8 0)], .agg [.lit (.int .u8 0), .lit (.int .u8 0)], .agg [.lit (.int .u8 0), .lit (.int .u8 0)], .agg [.lit (.int .u8 0), .lit (.int .u8 0)], .agg [.lit (.int .u8 0), .lit (.int .u8 0)], .agg [.lit (.int .u8 0), .lit (.int .u8 0)], .agg [.lit (.int .u8 0), .lit (.int .u8 0)], .agg [.lit (.int .u8 0), .lit (.int .u8 0)], .agg [.lit (.int .u8 0), .lit (.int .u8 0)]]
def laid_strconv_ErrRange {H : Type} : DataW H := .iface "*errors.errorString" (.ptr (.agg [.lit (.string [118, 97, 108, 117, 101, 32, 111, 117, 116, 32, 111, 102, 32, 114, 97, 110, 103, 101])]))
def laid_strconv_ErrSyntax {H : Type} : DataW H := .iface "*errors.errorString" (.ptr (.agg [.lit (.string [105, 110, 118, 97, 108, 105, 100, 32, 115, 121, 110, 116, 97, 120])]))
def laid_commonplace_mutator_names {H : Type} : DataW H := .agg [.lit (.string []), .lit (.string [112, 117, 116]), .lit (.string [100, 101, 108]), .lit (.string [105, 110, 99]), .lit (.string [99, 97, 115]), .lit (.string [97, 112, 112, 101, 110, 100]), .lit (.string [109, 111, 118, 101]), .lit (.string [115, 101, 113])]
/-- One of Go's own tables, pinned by name: the form's constant. -/
def laid_unicode_utf8_first : DataW Unit := Go.Pinned.utf8First

/-- 'commonplacelaw11.MutatorForms': WHATEVER THE INPUT: true; the input reads as it did. -/
def mutatorFormsSpec : ChangeSpec := { name := "mutatorForms", fn := fun _ => fun
  | [d] => { results := [.lit (.bool true)], args := [d] }
  | _ => none }
def mutatorFormsRow : OpenClaim := { program := "ytmglfdckpjegdaagreatdoor", sum := "ccf7e0fd2a52e1208ddcce3f36ba93845f9c94dce19b88dfaea90e7ddce95a5c", func := "commonplace/commonplacelaw11.MutatorForms", spec := "mutatorForms", inPlace := ["internal/abi.NoEscape", "internal/bytealg.abigen_runtime_cmpstring"], unfollowed := true, recurses := true, named := ["unicode/utf8.first", "unicode/utf8.acceptRanges", "internal/strconv.uint64pow10", "math/bits.deBruijn32tab", "math/bits.deBruijn64tab", "commonplace/mutator.names", "strconv.ErrSyntax", "strconv.ErrRange"], loops := true, apart := false, laid := [("math/bits.deBruijn32tab", laid_math_bits_deBruijn32tab), ("math/bits.deBruijn64tab", laid_math_bits_deBruijn64tab), ("internal/strconv.uint64pow10", laid_internal_strconv_uint64pow10), ("unicode/utf8.acceptRanges", laid_unicode_utf8_acceptRanges), ("strconv.ErrRange", laid_strconv_ErrRange), ("strconv.ErrSyntax", laid_strconv_ErrSyntax), ("commonplace/mutator.names", laid_commonplace_mutator_names), ("unicode/utf8.first", laid_unicode_utf8_first)] }
def MutatorFormsSaid : Prop := mutatorFormsRow.holds Tryz.pinned (OpenSpec.ofChange mutatorFormsSpec)

/-- ITS FALSE NEIGHBOUR: 'it returns false'. Refute it at one input. -/
def mutatorFormsWrong : ChangeSpec := { name := "mutatorForms", fn := fun _ => fun
  | [d] => { results := [.lit (.bool false)], args := [d] }
  | _ => none }
def MutatorFormsWrongFalsely : Prop := mutatorFormsRow.holds Tryz.pinned (OpenSpec.ofChange mutatorFormsWrong)

/-- 'commonplacelaw11.MutatorNests': WHATEVER THE INPUT: true; the input reads as it did. -/
def mutatorNestsSpec : ChangeSpec := { name := "mutatorNests", fn := fun _ => fun
  | [d1, d2] => { results := [.lit (.bool true)], args := [d1, d2] }
  | _ => none }
def mutatorNestsRow : OpenClaim := { program := "ytmglfdckpjegdaagreatdoor", sum := "ccf7e0fd2a52e1208ddcce3f36ba93845f9c94dce19b88dfaea90e7ddce95a5c", func := "commonplace/commonplacelaw11.MutatorNests", spec := "mutatorNests", inPlace := ["internal/abi.NoEscape", "internal/bytealg.abigen_runtime_cmpstring"], unfollowed := true, recurses := true, named := ["unicode/utf8.first", "unicode/utf8.acceptRanges", "internal/strconv.uint64pow10", "math/bits.deBruijn32tab", "math/bits.deBruijn64tab", "commonplace/mutator.names", "strconv.ErrSyntax", "strconv.ErrRange"], loops := true, apart := false, laid := [("math/bits.deBruijn32tab", laid_math_bits_deBruijn32tab), ("math/bits.deBruijn64tab", laid_math_bits_deBruijn64tab), ("internal/strconv.uint64pow10", laid_internal_strconv_uint64pow10), ("unicode/utf8.acceptRanges", laid_unicode_utf8_acceptRanges), ("strconv.ErrRange", laid_strconv_ErrRange), ("strconv.ErrSyntax", laid_strconv_ErrSyntax), ("commonplace/mutator.names", laid_commonplace_mutator_names), ("unicode/utf8.first", laid_unicode_utf8_first)] }
def MutatorNestsSaid : Prop := mutatorNestsRow.holds Tryz.pinned (OpenSpec.ofChange mutatorNestsSpec)

/-- ITS FALSE NEIGHBOUR: 'it returns false'. Refute it at one input. -/
def mutatorNestsWrong : ChangeSpec := { name := "mutatorNests", fn := fun _ => fun
  | [d1, d2] => { results := [.lit (.bool false)], args := [d1, d2] }
  | _ => none }
def MutatorNestsWrongFalsely : Prop := mutatorNestsRow.holds Tryz.pinned (OpenSpec.ofChange mutatorNestsWrong)

/-- 'commonplacelaw11.MutatorOwn': WHATEVER THE INPUT: true; the input reads as it did. -/
def mutatorOwnSpec : ChangeSpec := { name := "mutatorOwn", fn := fun _ => fun
  | [d] => { results := [.lit (.bool true)], args := [d] }
  | _ => none }
def mutatorOwnRow : OpenClaim := { program := "ytmglfdckpjegdaagreatdoor", sum := "ccf7e0fd2a52e1208ddcce3f36ba93845f9c94dce19b88dfaea90e7ddce95a5c", func := "commonplace/commonplacelaw11.MutatorOwn", spec := "mutatorOwn", inPlace := ["internal/abi.NoEscape", "internal/bytealg.abigen_runtime_cmpstring"], unfollowed := true, recurses := true, named := ["unicode/utf8.first", "unicode/utf8.acceptRanges", "internal/strconv.uint64pow10", "math/bits.deBruijn32tab", "math/bits.deBruijn64tab", "commonplace/mutator.names", "strconv.ErrSyntax", "strconv.ErrRange"], loops := true, apart := false, laid := [("math/bits.deBruijn32tab", laid_math_bits_deBruijn32tab), ("math/bits.deBruijn64tab", laid_math_bits_deBruijn64tab), ("internal/strconv.uint64pow10", laid_internal_strconv_uint64pow10), ("unicode/utf8.acceptRanges", laid_unicode_utf8_acceptRanges), ("strconv.ErrRange", laid_strconv_ErrRange), ("strconv.ErrSyntax", laid_strconv_ErrSyntax), ("commonplace/mutator.names", laid_commonplace_mutator_names), ("unicode/utf8.first", laid_unicode_utf8_first)] }
def MutatorOwnSaid : Prop := mutatorOwnRow.holds Tryz.pinned (OpenSpec.ofChange mutatorOwnSpec)

/-- ITS FALSE NEIGHBOUR: 'it returns false'. Refute it at one input. -/
def mutatorOwnWrong : ChangeSpec := { name := "mutatorOwn", fn := fun _ => fun
  | [d] => { results := [.lit (.bool false)], args := [d] }
  | _ => none }
def MutatorOwnWrongFalsely : Prop := mutatorOwnRow.holds Tryz.pinned (OpenSpec.ofChange mutatorOwnWrong)

/-- 'commonplacelaw11.MutatorBack': WHATEVER THE INPUT: true; the input reads as it did. -/
def mutatorBackSpec : ChangeSpec := { name := "mutatorBack", fn := fun _ => fun
  | [d1, d2] => { results := [.lit (.bool true)], args := [d1, d2] }
  | _ => none }
def mutatorBackRow : OpenClaim := { program := "ytmglfdckpjegdaagreatdoor", sum := "ccf7e0fd2a52e1208ddcce3f36ba93845f9c94dce19b88dfaea90e7ddce95a5c", func := "commonplace/commonplacelaw11.MutatorBack", spec := "mutatorBack", inPlace := ["internal/abi.NoEscape", "internal/bytealg.abigen_runtime_cmpstring"], unfollowed := true, recurses := true, named := ["unicode/utf8.first", "unicode/utf8.acceptRanges", "internal/strconv.uint64pow10", "math/bits.deBruijn32tab", "math/bits.deBruijn64tab", "commonplace/mutator.names", "strconv.ErrSyntax", "strconv.ErrRange"], loops := true, apart := false, laid := [("math/bits.deBruijn32tab", laid_math_bits_deBruijn32tab), ("math/bits.deBruijn64tab", laid_math_bits_deBruijn64tab), ("internal/strconv.uint64pow10", laid_internal_strconv_uint64pow10), ("unicode/utf8.acceptRanges", laid_unicode_utf8_acceptRanges), ("strconv.ErrRange", laid_strconv_ErrRange), ("strconv.ErrSyntax", laid_strconv_ErrSyntax), ("commonplace/mutator.names", laid_commonplace_mutator_names), ("unicode/utf8.first", laid_unicode_utf8_first)] }
def MutatorBackSaid : Prop := mutatorBackRow.holds Tryz.pinned (OpenSpec.ofChange mutatorBackSpec)

/-- ITS FALSE NEIGHBOUR: 'it returns false'. Refute it at one input. -/
def mutatorBackWrong : ChangeSpec := { name := "mutatorBack", fn := fun _ => fun
  | [d1, d2] => { results := [.lit (.bool false)], args := [d1, d2] }
  | _ => none }
def MutatorBackWrongFalsely : Prop := mutatorBackRow.holds Tryz.pinned (OpenSpec.ofChange mutatorBackWrong)

/-- 'commonplacelaw11.MutatorUnlike': WHATEVER THE INPUT: true; the input reads as it did. -/
def mutatorUnlikeSpec : ChangeSpec := { name := "mutatorUnlike", fn := fun _ => fun
  | [d1, d2] => { results := [.lit (.bool true)], args := [d1, d2] }
  | _ => none }
def mutatorUnlikeRow : OpenClaim := { program := "ytmglfdckpjegdaagreatdoor", sum := "ccf7e0fd2a52e1208ddcce3f36ba93845f9c94dce19b88dfaea90e7ddce95a5c", func := "commonplace/commonplacelaw11.MutatorUnlike", spec := "mutatorUnlike", inPlace := ["internal/bytealg.abigen_runtime_cmpstring", "internal/abi.NoEscape"], unfollowed := true, recurses := true, named := ["unicode/utf8.first", "unicode/utf8.acceptRanges", "internal/strconv.uint64pow10", "math/bits.deBruijn32tab", "math/bits.deBruijn64tab", "commonplace/mutator.names", "strconv.ErrSyntax", "strconv.ErrRange"], loops := true, apart := false, laid := [("math/bits.deBruijn32tab", laid_math_bits_deBruijn32tab), ("math/bits.deBruijn64tab", laid_math_bits_deBruijn64tab), ("internal/strconv.uint64pow10", laid_internal_strconv_uint64pow10), ("unicode/utf8.acceptRanges", laid_unicode_utf8_acceptRanges), ("strconv.ErrRange", laid_strconv_ErrRange), ("strconv.ErrSyntax", laid_strconv_ErrSyntax), ("commonplace/mutator.names", laid_commonplace_mutator_names), ("unicode/utf8.first", laid_unicode_utf8_first)] }
def MutatorUnlikeSaid : Prop := mutatorUnlikeRow.holds Tryz.pinned (OpenSpec.ofChange mutatorUnlikeSpec)

/-- ITS FALSE NEIGHBOUR: 'it returns false'. Refute it at one input. -/
def mutatorUnlikeWrong : ChangeSpec := { name := "mutatorUnlike", fn := fun _ => fun
  | [d1, d2] => { results := [.lit (.bool false)], args := [d1, d2] }
  | _ => none }
def MutatorUnlikeWrongFalsely : Prop := mutatorUnlikeRow.holds Tryz.pinned (OpenSpec.ofChange mutatorUnlikeWrong)

/-- 'commonplacelaw11.MutatorMeasures': WHATEVER THE INPUT: true; the input reads as it did. -/
def mutatorMeasuresSpec : ChangeSpec := { name := "mutatorMeasures", fn := fun _ => fun
  | [d] => { results := [.lit (.bool true)], args := [d] }
  | _ => none }
def mutatorMeasuresRow : OpenClaim := { program := "ytmglfdckpjegdaagreatdoor", sum := "ccf7e0fd2a52e1208ddcce3f36ba93845f9c94dce19b88dfaea90e7ddce95a5c", func := "commonplace/commonplacelaw11.MutatorMeasures", spec := "mutatorMeasures", inPlace := ["internal/abi.NoEscape", "internal/bytealg.abigen_runtime_cmpstring"], unfollowed := true, recurses := true, named := ["unicode/utf8.first", "unicode/utf8.acceptRanges", "internal/strconv.uint64pow10", "math/bits.deBruijn32tab", "math/bits.deBruijn64tab", "commonplace/mutator.names", "strconv.ErrSyntax", "strconv.ErrRange"], loops := true, apart := false, laid := [("math/bits.deBruijn32tab", laid_math_bits_deBruijn32tab), ("math/bits.deBruijn64tab", laid_math_bits_deBruijn64tab), ("internal/strconv.uint64pow10", laid_internal_strconv_uint64pow10), ("unicode/utf8.acceptRanges", laid_unicode_utf8_acceptRanges), ("strconv.ErrRange", laid_strconv_ErrRange), ("strconv.ErrSyntax", laid_strconv_ErrSyntax), ("commonplace/mutator.names", laid_commonplace_mutator_names), ("unicode/utf8.first", laid_unicode_utf8_first)] }
def MutatorMeasuresSaid : Prop := mutatorMeasuresRow.holds Tryz.pinned (OpenSpec.ofChange mutatorMeasuresSpec)

/-- ITS FALSE NEIGHBOUR: 'it returns false'. Refute it at one input. -/
def mutatorMeasuresWrong : ChangeSpec := { name := "mutatorMeasures", fn := fun _ => fun
  | [d] => { results := [.lit (.bool false)], args := [d] }
  | _ => none }
def MutatorMeasuresWrongFalsely : Prop := mutatorMeasuresRow.holds Tryz.pinned (OpenSpec.ofChange mutatorMeasuresWrong)

/- THE SECOND FORM. 'bulk': how many values and letters a reading holds, each counted each time it is reached (what is shared counts as often as it is met; a slice's spare places count too). A statement '..UptoSaid' is the law's where the arguments, and the package variables that the reading takes, are together of bulk at most 1048576: NARROWER than '..Said'. Prove '..Said' where nothing that the law and all that it calls make is longer than what came in: it says more and counts as full. Else prove '..UptoSaid'. A law counts once. -/
mutual
def uptoBulk {H : Type} : DataW H → Nat
  | .lit (.string bytes) => bytes.length + 1
  | .lit _ => 1
  | .nil => 1
  | .ptr d => uptoBulk d + 1
  | .slice elems spare => uptoBulkAll elems + uptoBulkAll spare + 1
  | .agg parts => uptoBulkAll parts + 1
  | .iface _ d => uptoBulk d + 1
  | .map entries => uptoBulkEntries entries + 1
  | .held _ => 1
def uptoBulkAll {H : Type} : List (DataW H) → Nat
  | [] => 0
  | d :: r => uptoBulk d + uptoBulkAll r
def uptoBulkEntries {H : Type} : List (Lit × DataW H) → Nat
  | [] => 0
  | x :: r => uptoBulkEntry x + uptoBulkEntries r
def uptoBulkEntry {H : Type} : Lit × DataW H → Nat
  | (.string bytes, d) => bytes.length + uptoBulk d + 1
  | (_, d) => uptoBulk d + 1
 end
def uptoSmall : (H : Type) → List (DataW H) → Bool := fun _ ds => decide (uptoBulkAll ds ≤ 1048576)
def OpenSpec.upto (s : _root_.Go.ChangeSpec) : _root_.Go.OpenSpec := { _root_.Go.OpenSpec.ofChange s with cond := some uptoSmall }

/-- 'commonplacelaw11.MutatorForms', WHERE WHAT IT READS IS OF BULK AT MOST 1048576: true; the input reads as it did. -/
def mutatorFormsUptoRow : OpenClaim := { program := "ytmglfdckpjegdaagreatdoor", sum := "ccf7e0fd2a52e1208ddcce3f36ba93845f9c94dce19b88dfaea90e7ddce95a5c", func := "commonplace/commonplacelaw11.MutatorForms", spec := "mutatorForms", inPlace := ["internal/abi.NoEscape", "internal/bytealg.abigen_runtime_cmpstring"], unfollowed := true, recurses := true, named := ["unicode/utf8.first", "unicode/utf8.acceptRanges", "internal/strconv.uint64pow10", "math/bits.deBruijn32tab", "math/bits.deBruijn64tab", "commonplace/mutator.names", "strconv.ErrSyntax", "strconv.ErrRange"], loops := true, apart := false, laid := [("math/bits.deBruijn32tab", laid_math_bits_deBruijn32tab), ("math/bits.deBruijn64tab", laid_math_bits_deBruijn64tab), ("internal/strconv.uint64pow10", laid_internal_strconv_uint64pow10), ("unicode/utf8.acceptRanges", laid_unicode_utf8_acceptRanges), ("strconv.ErrRange", laid_strconv_ErrRange), ("strconv.ErrSyntax", laid_strconv_ErrSyntax), ("commonplace/mutator.names", laid_commonplace_mutator_names), ("unicode/utf8.first", laid_unicode_utf8_first)], narrowed := true }
def MutatorFormsUptoSaid : Prop := mutatorFormsUptoRow.holds Tryz.pinned (OpenSpec.upto mutatorFormsSpec)

/-- 'commonplacelaw11.MutatorNests', WHERE WHAT IT READS IS OF BULK AT MOST 1048576: true; the input reads as it did. -/
def mutatorNestsUptoRow : OpenClaim := { program := "ytmglfdckpjegdaagreatdoor", sum := "ccf7e0fd2a52e1208ddcce3f36ba93845f9c94dce19b88dfaea90e7ddce95a5c", func := "commonplace/commonplacelaw11.MutatorNests", spec := "mutatorNests", inPlace := ["internal/abi.NoEscape", "internal/bytealg.abigen_runtime_cmpstring"], unfollowed := true, recurses := true, named := ["unicode/utf8.first", "unicode/utf8.acceptRanges", "internal/strconv.uint64pow10", "math/bits.deBruijn32tab", "math/bits.deBruijn64tab", "commonplace/mutator.names", "strconv.ErrSyntax", "strconv.ErrRange"], loops := true, apart := false, laid := [("math/bits.deBruijn32tab", laid_math_bits_deBruijn32tab), ("math/bits.deBruijn64tab", laid_math_bits_deBruijn64tab), ("internal/strconv.uint64pow10", laid_internal_strconv_uint64pow10), ("unicode/utf8.acceptRanges", laid_unicode_utf8_acceptRanges), ("strconv.ErrRange", laid_strconv_ErrRange), ("strconv.ErrSyntax", laid_strconv_ErrSyntax), ("commonplace/mutator.names", laid_commonplace_mutator_names), ("unicode/utf8.first", laid_unicode_utf8_first)], narrowed := true }
def MutatorNestsUptoSaid : Prop := mutatorNestsUptoRow.holds Tryz.pinned (OpenSpec.upto mutatorNestsSpec)

/-- 'commonplacelaw11.MutatorOwn', WHERE WHAT IT READS IS OF BULK AT MOST 1048576: true; the input reads as it did. -/
def mutatorOwnUptoRow : OpenClaim := { program := "ytmglfdckpjegdaagreatdoor", sum := "ccf7e0fd2a52e1208ddcce3f36ba93845f9c94dce19b88dfaea90e7ddce95a5c", func := "commonplace/commonplacelaw11.MutatorOwn", spec := "mutatorOwn", inPlace := ["internal/abi.NoEscape", "internal/bytealg.abigen_runtime_cmpstring"], unfollowed := true, recurses := true, named := ["unicode/utf8.first", "unicode/utf8.acceptRanges", "internal/strconv.uint64pow10", "math/bits.deBruijn32tab", "math/bits.deBruijn64tab", "commonplace/mutator.names", "strconv.ErrSyntax", "strconv.ErrRange"], loops := true, apart := false, laid := [("math/bits.deBruijn32tab", laid_math_bits_deBruijn32tab), ("math/bits.deBruijn64tab", laid_math_bits_deBruijn64tab), ("internal/strconv.uint64pow10", laid_internal_strconv_uint64pow10), ("unicode/utf8.acceptRanges", laid_unicode_utf8_acceptRanges), ("strconv.ErrRange", laid_strconv_ErrRange), ("strconv.ErrSyntax", laid_strconv_ErrSyntax), ("commonplace/mutator.names", laid_commonplace_mutator_names), ("unicode/utf8.first", laid_unicode_utf8_first)], narrowed := true }
def MutatorOwnUptoSaid : Prop := mutatorOwnUptoRow.holds Tryz.pinned (OpenSpec.upto mutatorOwnSpec)

/-- 'commonplacelaw11.MutatorBack', WHERE WHAT IT READS IS OF BULK AT MOST 1048576: true; the input reads as it did. -/
def mutatorBackUptoRow : OpenClaim := { program := "ytmglfdckpjegdaagreatdoor", sum := "ccf7e0fd2a52e1208ddcce3f36ba93845f9c94dce19b88dfaea90e7ddce95a5c", func := "commonplace/commonplacelaw11.MutatorBack", spec := "mutatorBack", inPlace := ["internal/abi.NoEscape", "internal/bytealg.abigen_runtime_cmpstring"], unfollowed := true, recurses := true, named := ["unicode/utf8.first", "unicode/utf8.acceptRanges", "internal/strconv.uint64pow10", "math/bits.deBruijn32tab", "math/bits.deBruijn64tab", "commonplace/mutator.names", "strconv.ErrSyntax", "strconv.ErrRange"], loops := true, apart := false, laid := [("math/bits.deBruijn32tab", laid_math_bits_deBruijn32tab), ("math/bits.deBruijn64tab", laid_math_bits_deBruijn64tab), ("internal/strconv.uint64pow10", laid_internal_strconv_uint64pow10), ("unicode/utf8.acceptRanges", laid_unicode_utf8_acceptRanges), ("strconv.ErrRange", laid_strconv_ErrRange), ("strconv.ErrSyntax", laid_strconv_ErrSyntax), ("commonplace/mutator.names", laid_commonplace_mutator_names), ("unicode/utf8.first", laid_unicode_utf8_first)], narrowed := true }
def MutatorBackUptoSaid : Prop := mutatorBackUptoRow.holds Tryz.pinned (OpenSpec.upto mutatorBackSpec)

/-- 'commonplacelaw11.MutatorUnlike', WHERE WHAT IT READS IS OF BULK AT MOST 1048576: true; the input reads as it did. -/
def mutatorUnlikeUptoRow : OpenClaim := { program := "ytmglfdckpjegdaagreatdoor", sum := "ccf7e0fd2a52e1208ddcce3f36ba93845f9c94dce19b88dfaea90e7ddce95a5c", func := "commonplace/commonplacelaw11.MutatorUnlike", spec := "mutatorUnlike", inPlace := ["internal/bytealg.abigen_runtime_cmpstring", "internal/abi.NoEscape"], unfollowed := true, recurses := true, named := ["unicode/utf8.first", "unicode/utf8.acceptRanges", "internal/strconv.uint64pow10", "math/bits.deBruijn32tab", "math/bits.deBruijn64tab", "commonplace/mutator.names", "strconv.ErrSyntax", "strconv.ErrRange"], loops := true, apart := false, laid := [("math/bits.deBruijn32tab", laid_math_bits_deBruijn32tab), ("math/bits.deBruijn64tab", laid_math_bits_deBruijn64tab), ("internal/strconv.uint64pow10", laid_internal_strconv_uint64pow10), ("unicode/utf8.acceptRanges", laid_unicode_utf8_acceptRanges), ("strconv.ErrRange", laid_strconv_ErrRange), ("strconv.ErrSyntax", laid_strconv_ErrSyntax), ("commonplace/mutator.names", laid_commonplace_mutator_names), ("unicode/utf8.first", laid_unicode_utf8_first)], narrowed := true }
def MutatorUnlikeUptoSaid : Prop := mutatorUnlikeUptoRow.holds Tryz.pinned (OpenSpec.upto mutatorUnlikeSpec)

/-- 'commonplacelaw11.MutatorMeasures', WHERE WHAT IT READS IS OF BULK AT MOST 1048576: true; the input reads as it did. -/
def mutatorMeasuresUptoRow : OpenClaim := { program := "ytmglfdckpjegdaagreatdoor", sum := "ccf7e0fd2a52e1208ddcce3f36ba93845f9c94dce19b88dfaea90e7ddce95a5c", func := "commonplace/commonplacelaw11.MutatorMeasures", spec := "mutatorMeasures", inPlace := ["internal/abi.NoEscape", "internal/bytealg.abigen_runtime_cmpstring"], unfollowed := true, recurses := true, named := ["unicode/utf8.first", "unicode/utf8.acceptRanges", "internal/strconv.uint64pow10", "math/bits.deBruijn32tab", "math/bits.deBruijn64tab", "commonplace/mutator.names", "strconv.ErrSyntax", "strconv.ErrRange"], loops := true, apart := false, laid := [("math/bits.deBruijn32tab", laid_math_bits_deBruijn32tab), ("math/bits.deBruijn64tab", laid_math_bits_deBruijn64tab), ("internal/strconv.uint64pow10", laid_internal_strconv_uint64pow10), ("unicode/utf8.acceptRanges", laid_unicode_utf8_acceptRanges), ("strconv.ErrRange", laid_strconv_ErrRange), ("strconv.ErrSyntax", laid_strconv_ErrSyntax), ("commonplace/mutator.names", laid_commonplace_mutator_names), ("unicode/utf8.first", laid_unicode_utf8_first)], narrowed := true }
def MutatorMeasuresUptoSaid : Prop := mutatorMeasuresUptoRow.holds Tryz.pinned (OpenSpec.upto mutatorMeasuresSpec)

end Rows
end Go.Proofs.YtmglfdckpjegdaaGreatDoor
