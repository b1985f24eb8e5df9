/-
  DERIVED. GIVEN WITH THE SEED: THE CARDS: each row of YtkoliaodkojghaaGreatDoorRows.lean that lists a variable, with what it lists TIED to the program's text (the seventh form; the later family's looks); each row that meets fmt, with fmt's text TOLD by the authors' own Lean function (tested against real Go, not proved from fmt's source: count such statements apart). THE CARD IS WHAT COUNTS. Prove the row's statement (the work); the ties are given (YtkoliaodkojghaaGreatDoorTie.lean); close each card by the builder's one call (the guide's Derived/Test/ToyasCard.lean, 'card_holds'). Laid BY PROGRAM, IN A SANDBOX (cutbox-door.mjs). By AI agents, Wed Nov 11 2026. No macro, syntax, notation, axiom, sorry.
-/
import Derived.Test.YtkoliaodkojghaaGreatDoorRows
import GoSem.ClaimSeven
namespace Go.Proofs.YtkoliaodkojghaaGreatDoor
namespace Rows

/-- THE TIED CARD OF 'commonplacelaw17.PushMay'. -/
def pushMayCard : Claim7 := { stood := { row := pushMayRow, standIns := [], harness := (true, "98e7b34952542dd4cae498759a73b6f299387875c9fdef061b7d724c5b51820b"), looks := true }, kinds := [], alts := [], laidByText := true, laidKinds := [.data, .data, .data, .data, .data, .pinned], laidTests := true, laidLooks := .later }
def PushMayCardSaid : Prop := Claim7.holds Tryz.pinned (.plain (OpenSpec.ofChange pushMaySpec)) pushMayCard

/-- THE TIED CARD OF 'commonplacelaw17.PushForms'. -/
def pushFormsCard : Claim7 := { stood := { row := pushFormsRow, standIns := [], harness := (true, "98e7b34952542dd4cae498759a73b6f299387875c9fdef061b7d724c5b51820b"), looks := true }, kinds := [], alts := [], laidByText := true, laidKinds := [.data, .data, .data, .data, .data, .pinned], laidTests := true, laidLooks := .later }
def PushFormsCardSaid : Prop := Claim7.holds Tryz.pinned (.plain (OpenSpec.ofChange pushFormsSpec)) pushFormsCard

/-- THE TIED CARD OF 'commonplacelaw17.PushUnlike'. -/
def pushUnlikeCard : Claim7 := { stood := { row := pushUnlikeRow, standIns := [], harness := (true, "98e7b34952542dd4cae498759a73b6f299387875c9fdef061b7d724c5b51820b"), looks := true }, kinds := [], alts := [], laidByText := true, laidKinds := [.data, .data, .data, .data, .data, .pinned], laidTests := true, laidLooks := .later }
def PushUnlikeCardSaid : Prop := Claim7.holds Tryz.pinned (.plain (OpenSpec.ofChange pushUnlikeSpec)) pushUnlikeCard

/-- THE SECOND FORM's CARD OF 'commonplacelaw17.PushMay'. -/
def pushMayUptoCard : Claim7 := { stood := { row := pushMayUptoRow, standIns := [], harness := (true, "98e7b34952542dd4cae498759a73b6f299387875c9fdef061b7d724c5b51820b"), looks := true }, kinds := [], alts := [], laidByText := true, laidKinds := [.data, .data, .data, .data, .data, .pinned], laidTests := true, laidLooks := .later }
def PushMayUptoCardSaid : Prop := Claim7.holds Tryz.pinned (.plain (OpenSpec.upto pushMaySpec)) pushMayUptoCard

/-- THE SECOND FORM's CARD OF 'commonplacelaw17.PushForms'. -/
def pushFormsUptoCard : Claim7 := { stood := { row := pushFormsUptoRow, standIns := [], harness := (true, "98e7b34952542dd4cae498759a73b6f299387875c9fdef061b7d724c5b51820b"), looks := true }, kinds := [], alts := [], laidByText := true, laidKinds := [.data, .data, .data, .data, .data, .pinned], laidTests := true, laidLooks := .later }
def PushFormsUptoCardSaid : Prop := Claim7.holds Tryz.pinned (.plain (OpenSpec.upto pushFormsSpec)) pushFormsUptoCard

/-- THE SECOND FORM's CARD OF 'commonplacelaw17.PushUnlike'. -/
def pushUnlikeUptoCard : Claim7 := { stood := { row := pushUnlikeUptoRow, standIns := [], harness := (true, "98e7b34952542dd4cae498759a73b6f299387875c9fdef061b7d724c5b51820b"), looks := true }, kinds := [], alts := [], laidByText := true, laidKinds := [.data, .data, .data, .data, .data, .pinned], laidTests := true, laidLooks := .later }
def PushUnlikeUptoCardSaid : Prop := Claim7.holds Tryz.pinned (.plain (OpenSpec.upto pushUnlikeSpec)) pushUnlikeUptoCard
end Rows
end Go.Proofs.YtkoliaodkojghaaGreatDoor
