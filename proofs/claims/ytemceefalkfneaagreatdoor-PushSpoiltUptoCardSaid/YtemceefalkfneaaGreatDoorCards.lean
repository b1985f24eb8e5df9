/-
  DERIVED. GIVEN WITH THE SEED: THE CARDS: each row of YtemceefalkfneaaGreatDoorRows.lean that lists a variable, with what it lists TIED to the program's text (the seventh form; the later family's looks); each row that meets fmt, with fmt's text TOLD by the authors' own Lean function (tested against real Go, not proved from fmt's source: count such statements apart). THE CARD IS WHAT COUNTS. Prove the row's statement (the work); the ties are given (YtemceefalkfneaaGreatDoorTie.lean); close each card by the builder's one call (the guide's Derived/Test/ToyasCard.lean, 'card_holds'). Laid BY PROGRAM, IN A SANDBOX (cutbox-door.mjs). By AI agents, Wed Nov 11 2026. No macro, syntax, notation, axiom, sorry.
-/
import Derived.Test.YtemceefalkfneaaGreatDoorRows
import GoSem.ClaimSeven
namespace Go.Proofs.YtemceefalkfneaaGreatDoor
namespace Rows

/-- THE TIED CARD OF 'commonplacelaw18.PullSpoilt'. -/
def pullSpoiltCard : Claim7 := { stood := { row := pullSpoiltRow, standIns := [], harness := (true, "b6f08ba7fc346acf520b3addecc53e2aa0b51ff1c429a0bef62e60219123fd3f"), looks := true }, kinds := [], alts := [], laidByText := true, laidKinds := [.data, .data, .data, .data, .sentinel, .sentinel, .data, .pinned], laidTests := true, laidLooks := .later }
def PullSpoiltCardSaid : Prop := Claim7.holds Tryz.pinned (.plain (OpenSpec.ofChange pullSpoiltSpec)) pullSpoiltCard

/-- THE TIED CARD OF 'commonplacelaw17.PushSpoilt'. -/
def pushSpoiltCard : Claim7 := { stood := { row := pushSpoiltRow, standIns := [], harness := (true, "b6f08ba7fc346acf520b3addecc53e2aa0b51ff1c429a0bef62e60219123fd3f"), looks := true }, kinds := [], alts := [], laidByText := true, laidKinds := [.data, .data, .data, .data, .sentinel, .sentinel, .data, .pinned], laidTests := true, laidLooks := .later }
def PushSpoiltCardSaid : Prop := Claim7.holds Tryz.pinned (.plain (OpenSpec.ofChange pushSpoiltSpec)) pushSpoiltCard

/-- THE SECOND FORM's CARD OF 'commonplacelaw18.PullSpoilt'. -/
def pullSpoiltUptoCard : Claim7 := { stood := { row := pullSpoiltUptoRow, standIns := [], harness := (true, "b6f08ba7fc346acf520b3addecc53e2aa0b51ff1c429a0bef62e60219123fd3f"), looks := true }, kinds := [], alts := [], laidByText := true, laidKinds := [.data, .data, .data, .data, .sentinel, .sentinel, .data, .pinned], laidTests := true, laidLooks := .later }
def PullSpoiltUptoCardSaid : Prop := Claim7.holds Tryz.pinned (.plain (OpenSpec.upto pullSpoiltSpec)) pullSpoiltUptoCard

/-- THE SECOND FORM's CARD OF 'commonplacelaw17.PushSpoilt'. -/
def pushSpoiltUptoCard : Claim7 := { stood := { row := pushSpoiltUptoRow, standIns := [], harness := (true, "b6f08ba7fc346acf520b3addecc53e2aa0b51ff1c429a0bef62e60219123fd3f"), looks := true }, kinds := [], alts := [], laidByText := true, laidKinds := [.data, .data, .data, .data, .sentinel, .sentinel, .data, .pinned], laidTests := true, laidLooks := .later }
def PushSpoiltUptoCardSaid : Prop := Claim7.holds Tryz.pinned (.plain (OpenSpec.upto pushSpoiltSpec)) pushSpoiltUptoCard
end Rows
end Go.Proofs.YtemceefalkfneaaGreatDoor
