/-
  DERIVED. GIVEN WITH THE SEED: THE CARDS: each row of YtobmaegpfbheoaaGreatDoorRows.lean that lists a variable, with what it lists TIED to the program's text (the seventh form; the later family's looks); each row that meets fmt, with fmt's text TOLD by the authors' own Lean function (tested against real Go, not proved from fmt's source: count such statements apart). THE CARD IS WHAT COUNTS. Prove the row's statement (the work); the ties are given (YtobmaegpfbheoaaGreatDoorTie.lean); close each card by the builder's one call (the guide's Derived/Test/ToyasCard.lean, 'card_holds'). Laid BY PROGRAM, IN A SANDBOX (cutbox-door.mjs). By AI agents, Wed Nov 11 2026. No macro, syntax, notation, axiom, sorry.
-/
import Derived.Test.YtobmaegpfbheoaaGreatDoorRows
import GoSem.ClaimSeven
namespace Go.Proofs.YtobmaegpfbheoaaGreatDoor
namespace Rows

/-- THE TIED CARD OF 'commonplacelaw17.PushForms'. -/
def pushFormsCard : Claim7 := { stood := { row := pushFormsRow, standIns := [], harness := (true, "89d77634eb10d67d5e35a3bb93c1e4b61a4147c65e24ff9947a1abe75b6c4523"), looks := true }, kinds := [], alts := [], laidByText := true, laidKinds := [.data, .data, .data, .data, .data, .pinned], laidTests := true, laidLooks := .later }
def PushFormsCardSaid : Prop := Claim7.holds Tryz.pinned (.plain (OpenSpec.ofChange pushFormsSpec)) pushFormsCard

/-- THE TIED CARD OF 'commonplacelaw11.MutatorOwn'. -/
def mutatorOwnCard : Claim7 := { stood := { row := mutatorOwnRow, standIns := [], harness := (true, "89d77634eb10d67d5e35a3bb93c1e4b61a4147c65e24ff9947a1abe75b6c4523"), looks := true }, kinds := [], alts := [], laidByText := true, laidKinds := [.data, .data, .data, .data, .sentinel, .sentinel, .data, .pinned], laidTests := true, laidLooks := .later }
def MutatorOwnCardSaid : Prop := Claim7.holds Tryz.pinned (.plain (OpenSpec.ofChange mutatorOwnSpec)) mutatorOwnCard

/-- THE TIED CARD OF 'commonplacelaw17.PushBack'. -/
def pushBackCard : Claim7 := { stood := { row := pushBackRow, standIns := [], harness := (true, "89d77634eb10d67d5e35a3bb93c1e4b61a4147c65e24ff9947a1abe75b6c4523"), looks := true }, kinds := [], alts := [], laidByText := true, laidKinds := [.data, .data, .data, .data, .sentinel, .sentinel, .data, .pinned], laidTests := true, laidLooks := .later }
def PushBackCardSaid : Prop := Claim7.holds Tryz.pinned (.plain (OpenSpec.ofChange pushBackSpec)) pushBackCard

/-- THE TIED CARD OF 'commonplacelaw17.PushOwn'. -/
def pushOwnCard : Claim7 := { stood := { row := pushOwnRow, standIns := [], harness := (true, "89d77634eb10d67d5e35a3bb93c1e4b61a4147c65e24ff9947a1abe75b6c4523"), looks := true }, kinds := [], alts := [], laidByText := true, laidKinds := [.data, .data, .data, .data, .sentinel, .sentinel, .data, .pinned], laidTests := true, laidLooks := .later }
def PushOwnCardSaid : Prop := Claim7.holds Tryz.pinned (.plain (OpenSpec.ofChange pushOwnSpec)) pushOwnCard

/-- THE SECOND FORM's CARD OF 'commonplacelaw17.PushForms'. -/
def pushFormsUptoCard : Claim7 := { stood := { row := pushFormsUptoRow, standIns := [], harness := (true, "89d77634eb10d67d5e35a3bb93c1e4b61a4147c65e24ff9947a1abe75b6c4523"), looks := true }, kinds := [], alts := [], laidByText := true, laidKinds := [.data, .data, .data, .data, .data, .pinned], laidTests := true, laidLooks := .later }
def PushFormsUptoCardSaid : Prop := Claim7.holds Tryz.pinned (.plain (OpenSpec.upto pushFormsSpec)) pushFormsUptoCard

/-- THE SECOND FORM's CARD OF 'commonplacelaw11.MutatorOwn'. -/
def mutatorOwnUptoCard : Claim7 := { stood := { row := mutatorOwnUptoRow, standIns := [], harness := (true, "89d77634eb10d67d5e35a3bb93c1e4b61a4147c65e24ff9947a1abe75b6c4523"), looks := true }, kinds := [], alts := [], laidByText := true, laidKinds := [.data, .data, .data, .data, .sentinel, .sentinel, .data, .pinned], laidTests := true, laidLooks := .later }
def MutatorOwnUptoCardSaid : Prop := Claim7.holds Tryz.pinned (.plain (OpenSpec.upto mutatorOwnSpec)) mutatorOwnUptoCard

/-- THE SECOND FORM's CARD OF 'commonplacelaw17.PushBack'. -/
def pushBackUptoCard : Claim7 := { stood := { row := pushBackUptoRow, standIns := [], harness := (true, "89d77634eb10d67d5e35a3bb93c1e4b61a4147c65e24ff9947a1abe75b6c4523"), looks := true }, kinds := [], alts := [], laidByText := true, laidKinds := [.data, .data, .data, .data, .sentinel, .sentinel, .data, .pinned], laidTests := true, laidLooks := .later }
def PushBackUptoCardSaid : Prop := Claim7.holds Tryz.pinned (.plain (OpenSpec.upto pushBackSpec)) pushBackUptoCard

/-- THE SECOND FORM's CARD OF 'commonplacelaw17.PushOwn'. -/
def pushOwnUptoCard : Claim7 := { stood := { row := pushOwnUptoRow, standIns := [], harness := (true, "89d77634eb10d67d5e35a3bb93c1e4b61a4147c65e24ff9947a1abe75b6c4523"), looks := true }, kinds := [], alts := [], laidByText := true, laidKinds := [.data, .data, .data, .data, .sentinel, .sentinel, .data, .pinned], laidTests := true, laidLooks := .later }
def PushOwnUptoCardSaid : Prop := Claim7.holds Tryz.pinned (.plain (OpenSpec.upto pushOwnSpec)) pushOwnUptoCard
end Rows
end Go.Proofs.YtobmaegpfbheoaaGreatDoor
