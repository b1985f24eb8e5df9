/-
  DERIVED. GIVEN WITH THE SEED: THE CARDS: each row of YtdbejcbbhomdbaaGreatDoorRows.lean that lists a variable, with what it lists TIED to the program's text (the seventh form; the later family's looks); each row that meets fmt, with fmt's text TOLD by the authors' own Lean function (tested against real Go, not proved from fmt's source: count such statements apart). THE CARD IS WHAT COUNTS. Prove the row's statement (the work); the ties are given (YtdbejcbbhomdbaaGreatDoorTie.lean); close each card by the builder's one call (the guide's Derived/Test/ToyasCard.lean, 'card_holds'). Laid BY PROGRAM, IN A SANDBOX (cutbox-door.mjs). By AI agents, Wed Nov 11 2026. No macro, syntax, notation, axiom, sorry.
-/
import Derived.Test.YtdbejcbbhomdbaaGreatDoorRows
import GoSem.ClaimSeven
namespace Go.Proofs.YtdbejcbbhomdbaaGreatDoor
namespace Rows

/-- THE TIED CARD OF 'commonplacelaw14.PatchMay'. -/
def patchMayCard : Claim7 := { stood := { row := patchMayRow, standIns := [], harness := (true, "e6c89f7096f4e6079363bdc9767fc906d22c9c4a8caca7e30a55f9a994a7ef0f"), looks := false }, kinds := [], alts := [], laidByText := true, laidKinds := [.data, .data, .data, .data, .data, .pinned], laidTests := true, laidLooks := .later }
def PatchMayCardSaid : Prop := Claim7.holds Tryz.pinned (.plain (OpenSpec.ofChange patchMaySpec)) patchMayCard

/-- THE TIED CARD OF 'commonplacelaw14.PatchForms'. -/
def patchFormsCard : Claim7 := { stood := { row := patchFormsRow, standIns := [], harness := (true, "e6c89f7096f4e6079363bdc9767fc906d22c9c4a8caca7e30a55f9a994a7ef0f"), looks := false }, kinds := [], alts := [], laidByText := true, laidKinds := [.data, .data, .data, .data, .data, .pinned], laidTests := true, laidLooks := .later }
def PatchFormsCardSaid : Prop := Claim7.holds Tryz.pinned (.plain (OpenSpec.ofChange patchFormsSpec)) patchFormsCard

/-- THE TIED CARD OF 'commonplacelaw14.PatchFrom'. -/
def patchFromCard : Claim7 := { stood := { row := patchFromRow, standIns := [], harness := (true, "e6c89f7096f4e6079363bdc9767fc906d22c9c4a8caca7e30a55f9a994a7ef0f"), looks := false }, kinds := [], alts := [], laidByText := true, laidKinds := [.data, .data, .data, .data, .data, .pinned], laidTests := true, laidLooks := .later }
def PatchFromCardSaid : Prop := Claim7.holds Tryz.pinned (.plain (OpenSpec.ofChange patchFromSpec)) patchFromCard

/-- THE TIED CARD OF 'commonplacelaw14.PatchReads'. -/
def patchReadsCard : Claim7 := { stood := { row := patchReadsRow, standIns := [], harness := (true, "e6c89f7096f4e6079363bdc9767fc906d22c9c4a8caca7e30a55f9a994a7ef0f"), looks := false }, kinds := [], alts := [], laidByText := true, laidKinds := [.data, .data, .data, .data, .data, .pinned], laidTests := true, laidLooks := .later }
def PatchReadsCardSaid : Prop := Claim7.holds Tryz.pinned (.plain (OpenSpec.ofChange patchReadsSpec)) patchReadsCard

/-- THE TIED CARD OF 'commonplacelaw14.PatchLeast'. -/
def patchLeastCard : Claim7 := { stood := { row := patchLeastRow, standIns := [], harness := (true, "e6c89f7096f4e6079363bdc9767fc906d22c9c4a8caca7e30a55f9a994a7ef0f"), looks := false }, kinds := [], alts := [], laidByText := true, laidKinds := [.data, .data, .data, .data, .data, .pinned], laidTests := true, laidLooks := .later }
def PatchLeastCardSaid : Prop := Claim7.holds Tryz.pinned (.plain (OpenSpec.ofChange patchLeastSpec)) patchLeastCard

/-- THE TIED CARD OF 'commonplacelaw14.PatchApplies'. -/
def patchAppliesCard : Claim7 := { stood := { row := patchAppliesRow, standIns := [], harness := (true, "e6c89f7096f4e6079363bdc9767fc906d22c9c4a8caca7e30a55f9a994a7ef0f"), looks := false }, kinds := [], alts := [], laidByText := true, laidKinds := [.data, .data, .data, .data, .data, .pinned], laidTests := true, laidLooks := .later }
def PatchAppliesCardSaid : Prop := Claim7.holds Tryz.pinned (.plain (OpenSpec.ofChange patchAppliesSpec)) patchAppliesCard

/-- THE TIED CARD OF 'commonplacelaw14.PatchChains'. -/
def patchChainsCard : Claim7 := { stood := { row := patchChainsRow, standIns := [], harness := (true, "e6c89f7096f4e6079363bdc9767fc906d22c9c4a8caca7e30a55f9a994a7ef0f"), looks := false }, kinds := [], alts := [], laidByText := true, laidKinds := [.data, .data, .data, .data, .data, .pinned], laidTests := true, laidLooks := .later }
def PatchChainsCardSaid : Prop := Claim7.holds Tryz.pinned (.plain (OpenSpec.ofChange patchChainsSpec)) patchChainsCard

/-- THE TIED CARD OF 'commonplacelaw14.PatchLeads'. -/
def patchLeadsCard : Claim7 := { stood := { row := patchLeadsRow, standIns := [], harness := (true, "e6c89f7096f4e6079363bdc9767fc906d22c9c4a8caca7e30a55f9a994a7ef0f"), looks := false }, kinds := [], alts := [], laidByText := true, laidKinds := [.data, .data, .data, .data, .data, .pinned], laidTests := true, laidLooks := .later }
def PatchLeadsCardSaid : Prop := Claim7.holds Tryz.pinned (.plain (OpenSpec.ofChange patchLeadsSpec)) patchLeadsCard

/-- THE SECOND FORM's CARD OF 'commonplacelaw14.PatchMay'. -/
def patchMayUptoCard : Claim7 := { stood := { row := patchMayUptoRow, standIns := [], harness := (true, "e6c89f7096f4e6079363bdc9767fc906d22c9c4a8caca7e30a55f9a994a7ef0f"), looks := false }, kinds := [], alts := [], laidByText := true, laidKinds := [.data, .data, .data, .data, .data, .pinned], laidTests := true, laidLooks := .later }
def PatchMayUptoCardSaid : Prop := Claim7.holds Tryz.pinned (.plain (OpenSpec.upto patchMaySpec)) patchMayUptoCard

/-- THE SECOND FORM's CARD OF 'commonplacelaw14.PatchForms'. -/
def patchFormsUptoCard : Claim7 := { stood := { row := patchFormsUptoRow, standIns := [], harness := (true, "e6c89f7096f4e6079363bdc9767fc906d22c9c4a8caca7e30a55f9a994a7ef0f"), looks := false }, kinds := [], alts := [], laidByText := true, laidKinds := [.data, .data, .data, .data, .data, .pinned], laidTests := true, laidLooks := .later }
def PatchFormsUptoCardSaid : Prop := Claim7.holds Tryz.pinned (.plain (OpenSpec.upto patchFormsSpec)) patchFormsUptoCard

/-- THE SECOND FORM's CARD OF 'commonplacelaw14.PatchFrom'. -/
def patchFromUptoCard : Claim7 := { stood := { row := patchFromUptoRow, standIns := [], harness := (true, "e6c89f7096f4e6079363bdc9767fc906d22c9c4a8caca7e30a55f9a994a7ef0f"), looks := false }, kinds := [], alts := [], laidByText := true, laidKinds := [.data, .data, .data, .data, .data, .pinned], laidTests := true, laidLooks := .later }
def PatchFromUptoCardSaid : Prop := Claim7.holds Tryz.pinned (.plain (OpenSpec.upto patchFromSpec)) patchFromUptoCard

/-- THE SECOND FORM's CARD OF 'commonplacelaw14.PatchReads'. -/
def patchReadsUptoCard : Claim7 := { stood := { row := patchReadsUptoRow, standIns := [], harness := (true, "e6c89f7096f4e6079363bdc9767fc906d22c9c4a8caca7e30a55f9a994a7ef0f"), looks := false }, kinds := [], alts := [], laidByText := true, laidKinds := [.data, .data, .data, .data, .data, .pinned], laidTests := true, laidLooks := .later }
def PatchReadsUptoCardSaid : Prop := Claim7.holds Tryz.pinned (.plain (OpenSpec.upto patchReadsSpec)) patchReadsUptoCard

/-- THE SECOND FORM's CARD OF 'commonplacelaw14.PatchLeast'. -/
def patchLeastUptoCard : Claim7 := { stood := { row := patchLeastUptoRow, standIns := [], harness := (true, "e6c89f7096f4e6079363bdc9767fc906d22c9c4a8caca7e30a55f9a994a7ef0f"), looks := false }, kinds := [], alts := [], laidByText := true, laidKinds := [.data, .data, .data, .data, .data, .pinned], laidTests := true, laidLooks := .later }
def PatchLeastUptoCardSaid : Prop := Claim7.holds Tryz.pinned (.plain (OpenSpec.upto patchLeastSpec)) patchLeastUptoCard

/-- THE SECOND FORM's CARD OF 'commonplacelaw14.PatchApplies'. -/
def patchAppliesUptoCard : Claim7 := { stood := { row := patchAppliesUptoRow, standIns := [], harness := (true, "e6c89f7096f4e6079363bdc9767fc906d22c9c4a8caca7e30a55f9a994a7ef0f"), looks := false }, kinds := [], alts := [], laidByText := true, laidKinds := [.data, .data, .data, .data, .data, .pinned], laidTests := true, laidLooks := .later }
def PatchAppliesUptoCardSaid : Prop := Claim7.holds Tryz.pinned (.plain (OpenSpec.upto patchAppliesSpec)) patchAppliesUptoCard

/-- THE SECOND FORM's CARD OF 'commonplacelaw14.PatchChains'. -/
def patchChainsUptoCard : Claim7 := { stood := { row := patchChainsUptoRow, standIns := [], harness := (true, "e6c89f7096f4e6079363bdc9767fc906d22c9c4a8caca7e30a55f9a994a7ef0f"), looks := false }, kinds := [], alts := [], laidByText := true, laidKinds := [.data, .data, .data, .data, .data, .pinned], laidTests := true, laidLooks := .later }
def PatchChainsUptoCardSaid : Prop := Claim7.holds Tryz.pinned (.plain (OpenSpec.upto patchChainsSpec)) patchChainsUptoCard

/-- THE SECOND FORM's CARD OF 'commonplacelaw14.PatchLeads'. -/
def patchLeadsUptoCard : Claim7 := { stood := { row := patchLeadsUptoRow, standIns := [], harness := (true, "e6c89f7096f4e6079363bdc9767fc906d22c9c4a8caca7e30a55f9a994a7ef0f"), looks := false }, kinds := [], alts := [], laidByText := true, laidKinds := [.data, .data, .data, .data, .data, .pinned], laidTests := true, laidLooks := .later }
def PatchLeadsUptoCardSaid : Prop := Claim7.holds Tryz.pinned (.plain (OpenSpec.upto patchLeadsSpec)) patchLeadsUptoCard
end Rows
end Go.Proofs.YtdbejcbbhomdbaaGreatDoor
