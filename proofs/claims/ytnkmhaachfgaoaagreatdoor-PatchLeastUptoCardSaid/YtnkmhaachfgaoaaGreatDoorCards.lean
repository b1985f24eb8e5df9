/-
  DERIVED. GIVEN WITH THE SEED: THE CARDS: each row of YtnkmhaachfgaoaaGreatDoorRows.lean that lists a variable, with what it lists TIED to the program's text (the seventh form; the later family's looks); each row that meets fmt, with fmt's text TOLD by the authors' own Lean function (tested against real Go, not proved from fmt's source: count such statements apart). THE CARD IS WHAT COUNTS. Prove the row's statement (the work); the ties are given (YtnkmhaachfgaoaaGreatDoorTie.lean); close each card by the builder's one call (the guide's Derived/Test/ToyasCard.lean, 'card_holds'). Laid BY PROGRAM, IN A SANDBOX (cutbox-door.mjs). By AI agents, Wed Nov 11 2026. No macro, syntax, notation, axiom, sorry.
-/
import Derived.Test.YtnkmhaachfgaoaaGreatDoorRows
import GoSem.ClaimSeven
namespace Go.Proofs.YtnkmhaachfgaoaaGreatDoor
namespace Rows

/-- THE TIED CARD OF 'commonplacelaw14.PatchLeast'. -/
def patchLeastCard : Claim7 := { stood := { row := patchLeastRow, standIns := [], harness := (true, "7c3d12e0261ea5efa93bbdf2eb77329f5a60c638f1162c9f748c38f9bb3bd9df"), looks := true }, kinds := [], alts := [], laidByText := true, laidKinds := [.data, .data, .data, .data, .data, .pinned], laidTests := true, laidLooks := .later }
def PatchLeastCardSaid : Prop := Claim7.holds Tryz.pinned (.plain (OpenSpec.ofChange patchLeastSpec)) patchLeastCard

/-- THE TIED CARD OF 'commonplacelaw14.PatchApplies'. -/
def patchAppliesCard : Claim7 := { stood := { row := patchAppliesRow, standIns := [], harness := (true, "7c3d12e0261ea5efa93bbdf2eb77329f5a60c638f1162c9f748c38f9bb3bd9df"), looks := true }, kinds := [], alts := [], laidByText := true, laidKinds := [.data, .data, .data, .data, .data, .pinned], laidTests := true, laidLooks := .later }
def PatchAppliesCardSaid : Prop := Claim7.holds Tryz.pinned (.plain (OpenSpec.ofChange patchAppliesSpec)) patchAppliesCard

/-- THE TIED CARD OF 'commonplacelaw14.PatchChains'. -/
def patchChainsCard : Claim7 := { stood := { row := patchChainsRow, standIns := [], harness := (true, "7c3d12e0261ea5efa93bbdf2eb77329f5a60c638f1162c9f748c38f9bb3bd9df"), looks := true }, kinds := [], alts := [], laidByText := true, laidKinds := [.data, .data, .data, .data, .data, .pinned], laidTests := true, laidLooks := .later }
def PatchChainsCardSaid : Prop := Claim7.holds Tryz.pinned (.plain (OpenSpec.ofChange patchChainsSpec)) patchChainsCard

/-- THE TIED CARD OF 'commonplacelaw14.PatchLeads'. -/
def patchLeadsCard : Claim7 := { stood := { row := patchLeadsRow, standIns := [], harness := (true, "7c3d12e0261ea5efa93bbdf2eb77329f5a60c638f1162c9f748c38f9bb3bd9df"), looks := true }, kinds := [], alts := [], laidByText := true, laidKinds := [.data, .data, .data, .data, .data, .pinned], laidTests := true, laidLooks := .later }
def PatchLeadsCardSaid : Prop := Claim7.holds Tryz.pinned (.plain (OpenSpec.ofChange patchLeadsSpec)) patchLeadsCard

/-- THE TIED CARD OF 'commonplacelaw10.FreezeTexts'. -/
def freezeTextsCard : Claim7 := { stood := { row := freezeTextsRow, standIns := [], harness := (true, "7c3d12e0261ea5efa93bbdf2eb77329f5a60c638f1162c9f748c38f9bb3bd9df"), looks := true }, kinds := [], alts := [], laidByText := true, laidKinds := [.data, .data, .data, .data, .sentinel, .sentinel, .pinned], laidTests := true, laidLooks := .later }
def FreezeTextsCardSaid : Prop := Claim7.holds Tryz.pinned (.plain (OpenSpec.ofChange freezeTextsSpec)) freezeTextsCard

/-- THE TIED CARD OF 'commonplacelaw10.FreezeUnlike'. -/
def freezeUnlikeCard : Claim7 := { stood := { row := freezeUnlikeRow, standIns := [], harness := (true, "7c3d12e0261ea5efa93bbdf2eb77329f5a60c638f1162c9f748c38f9bb3bd9df"), looks := true }, kinds := [], alts := [], laidByText := true, laidKinds := [.data, .data, .data, .data, .sentinel, .sentinel, .pinned], laidTests := true, laidLooks := .later }
def FreezeUnlikeCardSaid : Prop := Claim7.holds Tryz.pinned (.plain (OpenSpec.ofChange freezeUnlikeSpec)) freezeUnlikeCard

/-- THE TIED CARD OF 'commonplacelaw10.FreezeOrder'. -/
def freezeOrderCard : Claim7 := { stood := { row := freezeOrderRow, standIns := [], harness := (true, "7c3d12e0261ea5efa93bbdf2eb77329f5a60c638f1162c9f748c38f9bb3bd9df"), looks := true }, kinds := [], alts := [], laidByText := true, laidKinds := [.data, .data, .data, .data, .sentinel, .sentinel, .pinned], laidTests := true, laidLooks := .later }
def FreezeOrderCardSaid : Prop := Claim7.holds Tryz.pinned (.plain (OpenSpec.ofChange freezeOrderSpec)) freezeOrderCard

/-- THE SECOND FORM's CARD OF 'commonplacelaw14.PatchLeast'. -/
def patchLeastUptoCard : Claim7 := { stood := { row := patchLeastUptoRow, standIns := [], harness := (true, "7c3d12e0261ea5efa93bbdf2eb77329f5a60c638f1162c9f748c38f9bb3bd9df"), looks := true }, kinds := [], alts := [], laidByText := true, laidKinds := [.data, .data, .data, .data, .data, .pinned], laidTests := true, laidLooks := .later }
def PatchLeastUptoCardSaid : Prop := Claim7.holds Tryz.pinned (.plain (OpenSpec.upto patchLeastSpec)) patchLeastUptoCard

/-- THE SECOND FORM's CARD OF 'commonplacelaw14.PatchApplies'. -/
def patchAppliesUptoCard : Claim7 := { stood := { row := patchAppliesUptoRow, standIns := [], harness := (true, "7c3d12e0261ea5efa93bbdf2eb77329f5a60c638f1162c9f748c38f9bb3bd9df"), looks := true }, kinds := [], alts := [], laidByText := true, laidKinds := [.data, .data, .data, .data, .data, .pinned], laidTests := true, laidLooks := .later }
def PatchAppliesUptoCardSaid : Prop := Claim7.holds Tryz.pinned (.plain (OpenSpec.upto patchAppliesSpec)) patchAppliesUptoCard

/-- THE SECOND FORM's CARD OF 'commonplacelaw14.PatchChains'. -/
def patchChainsUptoCard : Claim7 := { stood := { row := patchChainsUptoRow, standIns := [], harness := (true, "7c3d12e0261ea5efa93bbdf2eb77329f5a60c638f1162c9f748c38f9bb3bd9df"), looks := true }, kinds := [], alts := [], laidByText := true, laidKinds := [.data, .data, .data, .data, .data, .pinned], laidTests := true, laidLooks := .later }
def PatchChainsUptoCardSaid : Prop := Claim7.holds Tryz.pinned (.plain (OpenSpec.upto patchChainsSpec)) patchChainsUptoCard

/-- THE SECOND FORM's CARD OF 'commonplacelaw14.PatchLeads'. -/
def patchLeadsUptoCard : Claim7 := { stood := { row := patchLeadsUptoRow, standIns := [], harness := (true, "7c3d12e0261ea5efa93bbdf2eb77329f5a60c638f1162c9f748c38f9bb3bd9df"), looks := true }, kinds := [], alts := [], laidByText := true, laidKinds := [.data, .data, .data, .data, .data, .pinned], laidTests := true, laidLooks := .later }
def PatchLeadsUptoCardSaid : Prop := Claim7.holds Tryz.pinned (.plain (OpenSpec.upto patchLeadsSpec)) patchLeadsUptoCard

/-- THE SECOND FORM's CARD OF 'commonplacelaw10.FreezeTexts'. -/
def freezeTextsUptoCard : Claim7 := { stood := { row := freezeTextsUptoRow, standIns := [], harness := (true, "7c3d12e0261ea5efa93bbdf2eb77329f5a60c638f1162c9f748c38f9bb3bd9df"), looks := true }, kinds := [], alts := [], laidByText := true, laidKinds := [.data, .data, .data, .data, .sentinel, .sentinel, .pinned], laidTests := true, laidLooks := .later }
def FreezeTextsUptoCardSaid : Prop := Claim7.holds Tryz.pinned (.plain (OpenSpec.upto freezeTextsSpec)) freezeTextsUptoCard

/-- THE SECOND FORM's CARD OF 'commonplacelaw10.FreezeUnlike'. -/
def freezeUnlikeUptoCard : Claim7 := { stood := { row := freezeUnlikeUptoRow, standIns := [], harness := (true, "7c3d12e0261ea5efa93bbdf2eb77329f5a60c638f1162c9f748c38f9bb3bd9df"), looks := true }, kinds := [], alts := [], laidByText := true, laidKinds := [.data, .data, .data, .data, .sentinel, .sentinel, .pinned], laidTests := true, laidLooks := .later }
def FreezeUnlikeUptoCardSaid : Prop := Claim7.holds Tryz.pinned (.plain (OpenSpec.upto freezeUnlikeSpec)) freezeUnlikeUptoCard

/-- THE SECOND FORM's CARD OF 'commonplacelaw10.FreezeOrder'. -/
def freezeOrderUptoCard : Claim7 := { stood := { row := freezeOrderUptoRow, standIns := [], harness := (true, "7c3d12e0261ea5efa93bbdf2eb77329f5a60c638f1162c9f748c38f9bb3bd9df"), looks := true }, kinds := [], alts := [], laidByText := true, laidKinds := [.data, .data, .data, .data, .sentinel, .sentinel, .pinned], laidTests := true, laidLooks := .later }
def FreezeOrderUptoCardSaid : Prop := Claim7.holds Tryz.pinned (.plain (OpenSpec.upto freezeOrderSpec)) freezeOrderUptoCard
end Rows
end Go.Proofs.YtnkmhaachfgaoaaGreatDoor
