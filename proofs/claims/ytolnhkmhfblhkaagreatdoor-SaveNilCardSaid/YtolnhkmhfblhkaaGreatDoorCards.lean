/-
  DERIVED. GIVEN WITH THE SEED: THE CARDS: each row of YtolnhkmhfblhkaaGreatDoorRows.lean that lists a variable, with what it lists TIED to the program's text (the seventh form; the later family's looks); each row that meets fmt, with fmt's text TOLD by the authors' own Lean function (tested against real Go, not proved from fmt's source: count such statements apart). THE CARD IS WHAT COUNTS. Prove the row's statement (the work); the ties are given (YtolnhkmhfblhkaaGreatDoorTie.lean); close each card by the builder's one call (the guide's Derived/Test/ToyasCard.lean, 'card_holds'). Laid BY PROGRAM, IN A SANDBOX (cutbox-door.mjs). By AI agents, Wed Nov 11 2026. No macro, syntax, notation, axiom, sorry.
-/
import Derived.Test.YtolnhkmhfblhkaaGreatDoorRows
import GoSem.ClaimSeven
namespace Go.Proofs.YtolnhkmhfblhkaaGreatDoor
namespace Rows

/-- THE TIED CARD OF 'commonplacelaw26.SaveNil'. -/
def saveNilCard : Claim7 := { stood := { row := saveNilRow, standIns := [], harness := (true, "d767be28f8ea5eb044c49903ddfcfb249e8ed414b9f2814230bf257cf6b2c914"), looks := true }, kinds := [], alts := [], laidByText := true, laidKinds := [.data, .data, .data, .data, .sentinel, .sentinel, .data, .pinned], laidTests := true, laidLooks := .later }
def SaveNilCardSaid : Prop := Claim7.holds Tryz.pinned (.plain (OpenSpec.ofChange saveNilSpec)) saveNilCard

/-- THE SECOND FORM's CARD OF 'commonplacelaw26.SaveNil'. -/
def saveNilUptoCard : Claim7 := { stood := { row := saveNilUptoRow, standIns := [], harness := (true, "d767be28f8ea5eb044c49903ddfcfb249e8ed414b9f2814230bf257cf6b2c914"), looks := true }, kinds := [], alts := [], laidByText := true, laidKinds := [.data, .data, .data, .data, .sentinel, .sentinel, .data, .pinned], laidTests := true, laidLooks := .later }
def SaveNilUptoCardSaid : Prop := Claim7.holds Tryz.pinned (.plain (OpenSpec.upto saveNilSpec)) saveNilUptoCard
end Rows
end Go.Proofs.YtolnhkmhfblhkaaGreatDoor
