/-
  DERIVED. GIVEN WITH THE SEED: THE CARDS: each row of YtmglfdckpjegdaaGreatDoorRows.lean that lists a variable, with what it lists TIED to the program's text (the seventh form; the later family's looks); each row that meets fmt, with fmt's text TOLD by the authors' own Lean function (tested against real Go, not proved from fmt's source: count such statements apart). THE CARD IS WHAT COUNTS. Prove the row's statement (the work); the ties are given (YtmglfdckpjegdaaGreatDoorTie.lean); close each card by the builder's one call (the guide's Derived/Test/ToyasCard.lean, 'card_holds'). Laid BY PROGRAM, IN A SANDBOX (cutbox-door.mjs). By AI agents, Wed Nov 11 2026. No macro, syntax, notation, axiom, sorry.
-/
import Derived.Test.YtmglfdckpjegdaaGreatDoorRows
import GoSem.ClaimSeven
namespace Go.Proofs.YtmglfdckpjegdaaGreatDoor
namespace Rows

/-- THE TIED CARD OF 'commonplacelaw11.MutatorForms'. -/
def mutatorFormsCard : Claim7 := { stood := { row := mutatorFormsRow, standIns := [], harness := (true, "a513371dfbd547aaeaaee77a57950635855d2ea17ce6af28d8d22044bff43480"), looks := true }, kinds := [], alts := [], laidByText := true, laidKinds := [.data, .data, .data, .data, .sentinel, .sentinel, .data, .pinned], laidTests := true, laidLooks := .later }
def MutatorFormsCardSaid : Prop := Claim7.holds Tryz.pinned (.plain (OpenSpec.ofChange mutatorFormsSpec)) mutatorFormsCard

/-- THE TIED CARD OF 'commonplacelaw11.MutatorNests'. -/
def mutatorNestsCard : Claim7 := { stood := { row := mutatorNestsRow, standIns := [], harness := (true, "a513371dfbd547aaeaaee77a57950635855d2ea17ce6af28d8d22044bff43480"), looks := true }, kinds := [], alts := [], laidByText := true, laidKinds := [.data, .data, .data, .data, .sentinel, .sentinel, .data, .pinned], laidTests := true, laidLooks := .later }
def MutatorNestsCardSaid : Prop := Claim7.holds Tryz.pinned (.plain (OpenSpec.ofChange mutatorNestsSpec)) mutatorNestsCard

/-- THE TIED CARD OF 'commonplacelaw11.MutatorOwn'. -/
def mutatorOwnCard : Claim7 := { stood := { row := mutatorOwnRow, standIns := [], harness := (true, "a513371dfbd547aaeaaee77a57950635855d2ea17ce6af28d8d22044bff43480"), looks := true }, kinds := [], alts := [], laidByText := true, laidKinds := [.data, .data, .data, .data, .sentinel, .sentinel, .data, .pinned], laidTests := true, laidLooks := .later }
def MutatorOwnCardSaid : Prop := Claim7.holds Tryz.pinned (.plain (OpenSpec.ofChange mutatorOwnSpec)) mutatorOwnCard

/-- THE TIED CARD OF 'commonplacelaw11.MutatorBack'. -/
def mutatorBackCard : Claim7 := { stood := { row := mutatorBackRow, standIns := [], harness := (true, "a513371dfbd547aaeaaee77a57950635855d2ea17ce6af28d8d22044bff43480"), looks := true }, kinds := [], alts := [], laidByText := true, laidKinds := [.data, .data, .data, .data, .sentinel, .sentinel, .data, .pinned], laidTests := true, laidLooks := .later }
def MutatorBackCardSaid : Prop := Claim7.holds Tryz.pinned (.plain (OpenSpec.ofChange mutatorBackSpec)) mutatorBackCard

/-- THE TIED CARD OF 'commonplacelaw11.MutatorUnlike'. -/
def mutatorUnlikeCard : Claim7 := { stood := { row := mutatorUnlikeRow, standIns := [], harness := (true, "a513371dfbd547aaeaaee77a57950635855d2ea17ce6af28d8d22044bff43480"), looks := true }, kinds := [], alts := [], laidByText := true, laidKinds := [.data, .data, .data, .data, .sentinel, .sentinel, .data, .pinned], laidTests := true, laidLooks := .later }
def MutatorUnlikeCardSaid : Prop := Claim7.holds Tryz.pinned (.plain (OpenSpec.ofChange mutatorUnlikeSpec)) mutatorUnlikeCard

/-- THE TIED CARD OF 'commonplacelaw11.MutatorMeasures'. -/
def mutatorMeasuresCard : Claim7 := { stood := { row := mutatorMeasuresRow, standIns := [], harness := (true, "a513371dfbd547aaeaaee77a57950635855d2ea17ce6af28d8d22044bff43480"), looks := true }, kinds := [], alts := [], laidByText := true, laidKinds := [.data, .data, .data, .data, .sentinel, .sentinel, .data, .pinned], laidTests := true, laidLooks := .later }
def MutatorMeasuresCardSaid : Prop := Claim7.holds Tryz.pinned (.plain (OpenSpec.ofChange mutatorMeasuresSpec)) mutatorMeasuresCard

/-- THE SECOND FORM's CARD OF 'commonplacelaw11.MutatorForms'. -/
def mutatorFormsUptoCard : Claim7 := { stood := { row := mutatorFormsUptoRow, standIns := [], harness := (true, "a513371dfbd547aaeaaee77a57950635855d2ea17ce6af28d8d22044bff43480"), looks := true }, kinds := [], alts := [], laidByText := true, laidKinds := [.data, .data, .data, .data, .sentinel, .sentinel, .data, .pinned], laidTests := true, laidLooks := .later }
def MutatorFormsUptoCardSaid : Prop := Claim7.holds Tryz.pinned (.plain (OpenSpec.upto mutatorFormsSpec)) mutatorFormsUptoCard

/-- THE SECOND FORM's CARD OF 'commonplacelaw11.MutatorNests'. -/
def mutatorNestsUptoCard : Claim7 := { stood := { row := mutatorNestsUptoRow, standIns := [], harness := (true, "a513371dfbd547aaeaaee77a57950635855d2ea17ce6af28d8d22044bff43480"), looks := true }, kinds := [], alts := [], laidByText := true, laidKinds := [.data, .data, .data, .data, .sentinel, .sentinel, .data, .pinned], laidTests := true, laidLooks := .later }
def MutatorNestsUptoCardSaid : Prop := Claim7.holds Tryz.pinned (.plain (OpenSpec.upto mutatorNestsSpec)) mutatorNestsUptoCard

/-- THE SECOND FORM's CARD OF 'commonplacelaw11.MutatorOwn'. -/
def mutatorOwnUptoCard : Claim7 := { stood := { row := mutatorOwnUptoRow, standIns := [], harness := (true, "a513371dfbd547aaeaaee77a57950635855d2ea17ce6af28d8d22044bff43480"), looks := true }, kinds := [], alts := [], laidByText := true, laidKinds := [.data, .data, .data, .data, .sentinel, .sentinel, .data, .pinned], laidTests := true, laidLooks := .later }
def MutatorOwnUptoCardSaid : Prop := Claim7.holds Tryz.pinned (.plain (OpenSpec.upto mutatorOwnSpec)) mutatorOwnUptoCard

/-- THE SECOND FORM's CARD OF 'commonplacelaw11.MutatorBack'. -/
def mutatorBackUptoCard : Claim7 := { stood := { row := mutatorBackUptoRow, standIns := [], harness := (true, "a513371dfbd547aaeaaee77a57950635855d2ea17ce6af28d8d22044bff43480"), looks := true }, kinds := [], alts := [], laidByText := true, laidKinds := [.data, .data, .data, .data, .sentinel, .sentinel, .data, .pinned], laidTests := true, laidLooks := .later }
def MutatorBackUptoCardSaid : Prop := Claim7.holds Tryz.pinned (.plain (OpenSpec.upto mutatorBackSpec)) mutatorBackUptoCard

/-- THE SECOND FORM's CARD OF 'commonplacelaw11.MutatorUnlike'. -/
def mutatorUnlikeUptoCard : Claim7 := { stood := { row := mutatorUnlikeUptoRow, standIns := [], harness := (true, "a513371dfbd547aaeaaee77a57950635855d2ea17ce6af28d8d22044bff43480"), looks := true }, kinds := [], alts := [], laidByText := true, laidKinds := [.data, .data, .data, .data, .sentinel, .sentinel, .data, .pinned], laidTests := true, laidLooks := .later }
def MutatorUnlikeUptoCardSaid : Prop := Claim7.holds Tryz.pinned (.plain (OpenSpec.upto mutatorUnlikeSpec)) mutatorUnlikeUptoCard

/-- THE SECOND FORM's CARD OF 'commonplacelaw11.MutatorMeasures'. -/
def mutatorMeasuresUptoCard : Claim7 := { stood := { row := mutatorMeasuresUptoRow, standIns := [], harness := (true, "a513371dfbd547aaeaaee77a57950635855d2ea17ce6af28d8d22044bff43480"), looks := true }, kinds := [], alts := [], laidByText := true, laidKinds := [.data, .data, .data, .data, .sentinel, .sentinel, .data, .pinned], laidTests := true, laidLooks := .later }
def MutatorMeasuresUptoCardSaid : Prop := Claim7.holds Tryz.pinned (.plain (OpenSpec.upto mutatorMeasuresSpec)) mutatorMeasuresUptoCard
end Rows
end Go.Proofs.YtmglfdckpjegdaaGreatDoor
