/-
  DERIVED. GIVEN WITH THE SEED: THE CARDS: each row of YtjgfchcldhmjcaaGreatDoorRows.lean that lists a variable, with what it lists TIED to the program's text (the seventh form; the later family's looks); each row that meets fmt, with fmt's text TOLD by the authors' own Lean function (tested against real Go, not proved from fmt's source: count such statements apart). THE CARD IS WHAT COUNTS. Prove the row's statement (the work); the ties are given (YtjgfchcldhmjcaaGreatDoorTie.lean); close each card by the builder's one call (the guide's Derived/Test/ToyasCard.lean, 'card_holds'). Laid BY PROGRAM, IN A SANDBOX (cutbox-door.mjs). By AI agents, Wed Nov 11 2026. No macro, syntax, notation, axiom, sorry.
-/
import Derived.Test.YtjgfchcldhmjcaaGreatDoorRows
import GoSem.ClaimSeven
namespace Go.Proofs.YtjgfchcldhmjcaaGreatDoor
namespace Rows

/-- THE TIED CARD OF 'commonplacelaw17.PushBack'. -/
def pushBackCard : Claim7 := { stood := { row := pushBackRow, standIns := [], harness := (true, "27a702ca98a4af7fd38be6eb41430eb769a8b71a3276d18869e67ddc862d5131"), looks := true }, kinds := [], alts := [], laidByText := true, laidKinds := [.data, .data, .data, .data, .sentinel, .sentinel, .data, .pinned], laidTests := true, laidLooks := .later }
def PushBackCardSaid : Prop := Claim7.holds Tryz.pinned (.plain (OpenSpec.ofChange pushBackSpec)) pushBackCard

/-- THE TIED CARD OF 'commonplacelaw17.PushOwn'. -/
def pushOwnCard : Claim7 := { stood := { row := pushOwnRow, standIns := [], harness := (true, "27a702ca98a4af7fd38be6eb41430eb769a8b71a3276d18869e67ddc862d5131"), looks := true }, kinds := [], alts := [], laidByText := true, laidKinds := [.data, .data, .data, .data, .sentinel, .sentinel, .data, .pinned], laidTests := true, laidLooks := .later }
def PushOwnCardSaid : Prop := Claim7.holds Tryz.pinned (.plain (OpenSpec.ofChange pushOwnSpec)) pushOwnCard

/-- THE TIED CARD OF 'commonplacelaw14.PatchBack'. -/
def patchBackCard : Claim7 := { stood := { row := patchBackRow, standIns := [], harness := (true, "27a702ca98a4af7fd38be6eb41430eb769a8b71a3276d18869e67ddc862d5131"), looks := true }, kinds := [], alts := [], laidByText := true, laidKinds := [.data, .data, .data, .data, .sentinel, .sentinel, .data, .pinned], laidTests := true, laidLooks := .later }
def PatchBackCardSaid : Prop := Claim7.holds Tryz.pinned (.plain (OpenSpec.ofChange patchBackSpec)) patchBackCard

/-- THE SECOND FORM's CARD OF 'commonplacelaw17.PushBack'. -/
def pushBackUptoCard : Claim7 := { stood := { row := pushBackUptoRow, standIns := [], harness := (true, "27a702ca98a4af7fd38be6eb41430eb769a8b71a3276d18869e67ddc862d5131"), looks := true }, kinds := [], alts := [], laidByText := true, laidKinds := [.data, .data, .data, .data, .sentinel, .sentinel, .data, .pinned], laidTests := true, laidLooks := .later }
def PushBackUptoCardSaid : Prop := Claim7.holds Tryz.pinned (.plain (OpenSpec.upto pushBackSpec)) pushBackUptoCard

/-- THE SECOND FORM's CARD OF 'commonplacelaw17.PushOwn'. -/
def pushOwnUptoCard : Claim7 := { stood := { row := pushOwnUptoRow, standIns := [], harness := (true, "27a702ca98a4af7fd38be6eb41430eb769a8b71a3276d18869e67ddc862d5131"), looks := true }, kinds := [], alts := [], laidByText := true, laidKinds := [.data, .data, .data, .data, .sentinel, .sentinel, .data, .pinned], laidTests := true, laidLooks := .later }
def PushOwnUptoCardSaid : Prop := Claim7.holds Tryz.pinned (.plain (OpenSpec.upto pushOwnSpec)) pushOwnUptoCard

/-- THE SECOND FORM's CARD OF 'commonplacelaw14.PatchBack'. -/
def patchBackUptoCard : Claim7 := { stood := { row := patchBackUptoRow, standIns := [], harness := (true, "27a702ca98a4af7fd38be6eb41430eb769a8b71a3276d18869e67ddc862d5131"), looks := true }, kinds := [], alts := [], laidByText := true, laidKinds := [.data, .data, .data, .data, .sentinel, .sentinel, .data, .pinned], laidTests := true, laidLooks := .later }
def PatchBackUptoCardSaid : Prop := Claim7.holds Tryz.pinned (.plain (OpenSpec.upto patchBackSpec)) patchBackUptoCard
end Rows
end Go.Proofs.YtjgfchcldhmjcaaGreatDoor
