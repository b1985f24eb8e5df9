/-
  DERIVED. GIVEN WITH THE SEED: THE CARDS: each row of YtjjbbnodmpemiaaGreatDoorRows.lean that lists a variable, with what it lists TIED to the program's text (the seventh form; the later family's looks); each row that meets fmt, with fmt's text TOLD by the authors' own Lean function (tested against real Go, not proved from fmt's source: count such statements apart). THE CARD IS WHAT COUNTS. Prove the row's statement (the work); the ties are given (YtjjbbnodmpemiaaGreatDoorTie.lean); close each card by the builder's one call (the guide's Derived/Test/ToyasCard.lean, 'card_holds'). Laid BY PROGRAM, IN A SANDBOX (cutbox-door.mjs). By AI agents, Wed Nov 11 2026. No macro, syntax, notation, axiom, sorry.
-/
import Derived.Test.YtjjbbnodmpemiaaGreatDoorRows
import GoSem.ClaimSeven
namespace Go.Proofs.YtjjbbnodmpemiaaGreatDoor
namespace Rows

/-- THE TIED CARD OF 'commonplacelaw18.PullMay'. -/
def pullMayCard : Claim7 := { stood := { row := pullMayRow, standIns := [], harness := (true, "75435bf6bbeda6e4675394bcc18db90f8c912c61b8e176d6e0898a75b31c3865"), looks := false }, kinds := [], alts := [], laidByText := true, laidKinds := [.data, .data, .data, .data, .data, .pinned], laidTests := true, laidLooks := .later }
def PullMayCardSaid : Prop := Claim7.holds Tryz.pinned (.plain (OpenSpec.ofChange pullMaySpec)) pullMayCard

/-- THE TIED CARD OF 'commonplacelaw18.PullForms'. -/
def pullFormsCard : Claim7 := { stood := { row := pullFormsRow, standIns := [], harness := (true, "75435bf6bbeda6e4675394bcc18db90f8c912c61b8e176d6e0898a75b31c3865"), looks := false }, kinds := [], alts := [], laidByText := true, laidKinds := [.data, .data, .data, .data, .data, .pinned], laidTests := true, laidLooks := .later }
def PullFormsCardSaid : Prop := Claim7.holds Tryz.pinned (.plain (OpenSpec.ofChange pullFormsSpec)) pullFormsCard

/-- THE SECOND FORM's CARD OF 'commonplacelaw18.PullMay'. -/
def pullMayUptoCard : Claim7 := { stood := { row := pullMayUptoRow, standIns := [], harness := (true, "75435bf6bbeda6e4675394bcc18db90f8c912c61b8e176d6e0898a75b31c3865"), looks := false }, kinds := [], alts := [], laidByText := true, laidKinds := [.data, .data, .data, .data, .data, .pinned], laidTests := true, laidLooks := .later }
def PullMayUptoCardSaid : Prop := Claim7.holds Tryz.pinned (.plain (OpenSpec.upto pullMaySpec)) pullMayUptoCard

/-- THE SECOND FORM's CARD OF 'commonplacelaw18.PullForms'. -/
def pullFormsUptoCard : Claim7 := { stood := { row := pullFormsUptoRow, standIns := [], harness := (true, "75435bf6bbeda6e4675394bcc18db90f8c912c61b8e176d6e0898a75b31c3865"), looks := false }, kinds := [], alts := [], laidByText := true, laidKinds := [.data, .data, .data, .data, .data, .pinned], laidTests := true, laidLooks := .later }
def PullFormsUptoCardSaid : Prop := Claim7.holds Tryz.pinned (.plain (OpenSpec.upto pullFormsSpec)) pullFormsUptoCard
end Rows
end Go.Proofs.YtjjbbnodmpemiaaGreatDoor
