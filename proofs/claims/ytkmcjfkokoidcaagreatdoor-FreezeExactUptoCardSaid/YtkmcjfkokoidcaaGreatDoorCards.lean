/-
  DERIVED. GIVEN WITH THE SEED: THE CARDS: each row of YtkmcjfkokoidcaaGreatDoorRows.lean that lists a variable, with what it lists TIED to the program's text (the seventh form; the later family's looks); each row that meets fmt, with fmt's text TOLD by the authors' own Lean function (tested against real Go, not proved from fmt's source: count such statements apart). THE CARD IS WHAT COUNTS. Prove the row's statement (the work); the ties are given (YtkmcjfkokoidcaaGreatDoorTie.lean); close each card by the builder's one call (the guide's Derived/Test/ToyasCard.lean, 'card_holds'). Laid BY PROGRAM, IN A SANDBOX (cutbox-door.mjs). By AI agents, Wed Nov 11 2026. No macro, syntax, notation, axiom, sorry.
-/
import Derived.Test.YtkmcjfkokoidcaaGreatDoorRows
import GoSem.ClaimSeven
namespace Go.Proofs.YtkmcjfkokoidcaaGreatDoor
namespace Rows

/-- THE TIED CARD OF 'commonplacelaw10.FreezeTexts'. -/
def freezeTextsCard : Claim7 := { stood := { row := freezeTextsRow, standIns := [], harness := (true, "00fe403dd076e6858eeb6fc07a3d4469f02c7926ac2e2330452067ce08a53828"), looks := true }, kinds := [], alts := [], laidByText := true, laidKinds := [.data, .data, .data, .data, .sentinel, .sentinel, .pinned], laidTests := true, laidLooks := .later }
def FreezeTextsCardSaid : Prop := Claim7.holds Tryz.pinned (.plain (OpenSpec.ofChange freezeTextsSpec)) freezeTextsCard

/-- THE TIED CARD OF 'commonplacelaw10.FreezeUnlike'. -/
def freezeUnlikeCard : Claim7 := { stood := { row := freezeUnlikeRow, standIns := [], harness := (true, "00fe403dd076e6858eeb6fc07a3d4469f02c7926ac2e2330452067ce08a53828"), looks := true }, kinds := [], alts := [], laidByText := true, laidKinds := [.data, .data, .data, .data, .sentinel, .sentinel, .pinned], laidTests := true, laidLooks := .later }
def FreezeUnlikeCardSaid : Prop := Claim7.holds Tryz.pinned (.plain (OpenSpec.ofChange freezeUnlikeSpec)) freezeUnlikeCard

/-- THE TIED CARD OF 'commonplacelaw10.FreezeReads'. -/
def freezeReadsCard : Claim7 := { stood := { row := freezeReadsRow, standIns := [], harness := (true, "00fe403dd076e6858eeb6fc07a3d4469f02c7926ac2e2330452067ce08a53828"), looks := true }, kinds := [], alts := [], laidByText := true, laidKinds := [.data, .data, .data, .data, .sentinel, .sentinel, .pinned], laidTests := true, laidLooks := .later }
def FreezeReadsCardSaid : Prop := Claim7.holds Tryz.pinned (.plain (OpenSpec.ofChange freezeReadsSpec)) freezeReadsCard

/-- THE TIED CARD OF 'commonplacelaw10.FreezeFrom'. -/
def freezeFromCard : Claim7 := { stood := { row := freezeFromRow, standIns := [], harness := (true, "00fe403dd076e6858eeb6fc07a3d4469f02c7926ac2e2330452067ce08a53828"), looks := true }, kinds := [], alts := [], laidByText := true, laidKinds := [.data, .data, .data, .data, .sentinel, .sentinel, .pinned], laidTests := true, laidLooks := .later }
def FreezeFromCardSaid : Prop := Claim7.holds Tryz.pinned (.plain (OpenSpec.ofChange freezeFromSpec)) freezeFromCard

/-- THE TIED CARD OF 'commonplacelaw10.FreezeExact'. -/
def freezeExactCard : Claim7 := { stood := { row := freezeExactRow, standIns := [], harness := (true, "00fe403dd076e6858eeb6fc07a3d4469f02c7926ac2e2330452067ce08a53828"), looks := true }, kinds := [], alts := [], laidByText := true, laidKinds := [.data, .data, .data, .data, .sentinel, .sentinel, .pinned], laidTests := true, laidLooks := .later }
def FreezeExactCardSaid : Prop := Claim7.holds Tryz.pinned (.plain (OpenSpec.ofChange freezeExactSpec)) freezeExactCard

/-- THE TIED CARD OF 'commonplacelaw10.FreezeOrder'. -/
def freezeOrderCard : Claim7 := { stood := { row := freezeOrderRow, standIns := [], harness := (true, "00fe403dd076e6858eeb6fc07a3d4469f02c7926ac2e2330452067ce08a53828"), looks := true }, kinds := [], alts := [], laidByText := true, laidKinds := [.data, .data, .data, .data, .sentinel, .sentinel, .pinned], laidTests := true, laidLooks := .later }
def FreezeOrderCardSaid : Prop := Claim7.holds Tryz.pinned (.plain (OpenSpec.ofChange freezeOrderSpec)) freezeOrderCard

/-- THE TIED CARD OF 'commonplacelaw10.FreezeBack'. -/
def freezeBackCard : Claim7 := { stood := { row := freezeBackRow, standIns := [], harness := (true, "00fe403dd076e6858eeb6fc07a3d4469f02c7926ac2e2330452067ce08a53828"), looks := true }, kinds := [], alts := [], laidByText := true, laidKinds := [.data, .data, .data, .data, .sentinel, .sentinel, .pinned], laidTests := true, laidLooks := .later }
def FreezeBackCardSaid : Prop := Claim7.holds Tryz.pinned (.plain (OpenSpec.ofChange freezeBackSpec)) freezeBackCard

/-- THE TIED CARD OF 'commonplacelaw14.PatchBack'. -/
def patchBackCard : Claim7 := { stood := { row := patchBackRow, standIns := [], harness := (true, "00fe403dd076e6858eeb6fc07a3d4469f02c7926ac2e2330452067ce08a53828"), looks := true }, kinds := [], alts := [], laidByText := true, laidKinds := [.data, .data, .data, .data, .sentinel, .sentinel, .data, .pinned], laidTests := true, laidLooks := .later }
def PatchBackCardSaid : Prop := Claim7.holds Tryz.pinned (.plain (OpenSpec.ofChange patchBackSpec)) patchBackCard

/-- THE SECOND FORM's CARD OF 'commonplacelaw10.FreezeTexts'. -/
def freezeTextsUptoCard : Claim7 := { stood := { row := freezeTextsUptoRow, standIns := [], harness := (true, "00fe403dd076e6858eeb6fc07a3d4469f02c7926ac2e2330452067ce08a53828"), looks := true }, kinds := [], alts := [], laidByText := true, laidKinds := [.data, .data, .data, .data, .sentinel, .sentinel, .pinned], laidTests := true, laidLooks := .later }
def FreezeTextsUptoCardSaid : Prop := Claim7.holds Tryz.pinned (.plain (OpenSpec.upto freezeTextsSpec)) freezeTextsUptoCard

/-- THE SECOND FORM's CARD OF 'commonplacelaw10.FreezeUnlike'. -/
def freezeUnlikeUptoCard : Claim7 := { stood := { row := freezeUnlikeUptoRow, standIns := [], harness := (true, "00fe403dd076e6858eeb6fc07a3d4469f02c7926ac2e2330452067ce08a53828"), looks := true }, kinds := [], alts := [], laidByText := true, laidKinds := [.data, .data, .data, .data, .sentinel, .sentinel, .pinned], laidTests := true, laidLooks := .later }
def FreezeUnlikeUptoCardSaid : Prop := Claim7.holds Tryz.pinned (.plain (OpenSpec.upto freezeUnlikeSpec)) freezeUnlikeUptoCard

/-- THE SECOND FORM's CARD OF 'commonplacelaw10.FreezeReads'. -/
def freezeReadsUptoCard : Claim7 := { stood := { row := freezeReadsUptoRow, standIns := [], harness := (true, "00fe403dd076e6858eeb6fc07a3d4469f02c7926ac2e2330452067ce08a53828"), looks := true }, kinds := [], alts := [], laidByText := true, laidKinds := [.data, .data, .data, .data, .sentinel, .sentinel, .pinned], laidTests := true, laidLooks := .later }
def FreezeReadsUptoCardSaid : Prop := Claim7.holds Tryz.pinned (.plain (OpenSpec.upto freezeReadsSpec)) freezeReadsUptoCard

/-- THE SECOND FORM's CARD OF 'commonplacelaw10.FreezeFrom'. -/
def freezeFromUptoCard : Claim7 := { stood := { row := freezeFromUptoRow, standIns := [], harness := (true, "00fe403dd076e6858eeb6fc07a3d4469f02c7926ac2e2330452067ce08a53828"), looks := true }, kinds := [], alts := [], laidByText := true, laidKinds := [.data, .data, .data, .data, .sentinel, .sentinel, .pinned], laidTests := true, laidLooks := .later }
def FreezeFromUptoCardSaid : Prop := Claim7.holds Tryz.pinned (.plain (OpenSpec.upto freezeFromSpec)) freezeFromUptoCard

/-- THE SECOND FORM's CARD OF 'commonplacelaw10.FreezeExact'. -/
def freezeExactUptoCard : Claim7 := { stood := { row := freezeExactUptoRow, standIns := [], harness := (true, "00fe403dd076e6858eeb6fc07a3d4469f02c7926ac2e2330452067ce08a53828"), looks := true }, kinds := [], alts := [], laidByText := true, laidKinds := [.data, .data, .data, .data, .sentinel, .sentinel, .pinned], laidTests := true, laidLooks := .later }
def FreezeExactUptoCardSaid : Prop := Claim7.holds Tryz.pinned (.plain (OpenSpec.upto freezeExactSpec)) freezeExactUptoCard

/-- THE SECOND FORM's CARD OF 'commonplacelaw10.FreezeOrder'. -/
def freezeOrderUptoCard : Claim7 := { stood := { row := freezeOrderUptoRow, standIns := [], harness := (true, "00fe403dd076e6858eeb6fc07a3d4469f02c7926ac2e2330452067ce08a53828"), looks := true }, kinds := [], alts := [], laidByText := true, laidKinds := [.data, .data, .data, .data, .sentinel, .sentinel, .pinned], laidTests := true, laidLooks := .later }
def FreezeOrderUptoCardSaid : Prop := Claim7.holds Tryz.pinned (.plain (OpenSpec.upto freezeOrderSpec)) freezeOrderUptoCard

/-- THE SECOND FORM's CARD OF 'commonplacelaw10.FreezeBack'. -/
def freezeBackUptoCard : Claim7 := { stood := { row := freezeBackUptoRow, standIns := [], harness := (true, "00fe403dd076e6858eeb6fc07a3d4469f02c7926ac2e2330452067ce08a53828"), looks := true }, kinds := [], alts := [], laidByText := true, laidKinds := [.data, .data, .data, .data, .sentinel, .sentinel, .pinned], laidTests := true, laidLooks := .later }
def FreezeBackUptoCardSaid : Prop := Claim7.holds Tryz.pinned (.plain (OpenSpec.upto freezeBackSpec)) freezeBackUptoCard

/-- THE SECOND FORM's CARD OF 'commonplacelaw14.PatchBack'. -/
def patchBackUptoCard : Claim7 := { stood := { row := patchBackUptoRow, standIns := [], harness := (true, "00fe403dd076e6858eeb6fc07a3d4469f02c7926ac2e2330452067ce08a53828"), looks := true }, kinds := [], alts := [], laidByText := true, laidKinds := [.data, .data, .data, .data, .sentinel, .sentinel, .data, .pinned], laidTests := true, laidLooks := .later }
def PatchBackUptoCardSaid : Prop := Claim7.holds Tryz.pinned (.plain (OpenSpec.upto patchBackSpec)) patchBackUptoCard
end Rows
end Go.Proofs.YtkmcjfkokoidcaaGreatDoor
