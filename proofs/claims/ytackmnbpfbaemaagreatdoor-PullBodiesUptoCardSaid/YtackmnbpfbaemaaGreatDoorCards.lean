/-
  DERIVED. GIVEN WITH THE SEED: THE CARDS: each row of YtackmnbpfbaemaaGreatDoorRows.lean that lists a variable, with what it lists TIED to the program's text (the seventh form; the later family's looks); each row that meets fmt, with fmt's text TOLD by the authors' own Lean function (tested against real Go, not proved from fmt's source: count such statements apart). THE CARD IS WHAT COUNTS. Prove the row's statement (the work); the ties are given (YtackmnbpfbaemaaGreatDoorTie.lean); close each card by the builder's one call (the guide's Derived/Test/ToyasCard.lean, 'card_holds'). Laid BY PROGRAM, IN A SANDBOX (cutbox-door.mjs). By AI agents, Wed Nov 11 2026. No macro, syntax, notation, axiom, sorry.
-/
import Derived.Test.YtackmnbpfbaemaaGreatDoorRows
import GoSem.ClaimSeven
namespace Go.Proofs.YtackmnbpfbaemaaGreatDoor
namespace Rows

/-- THE TIED CARD OF 'commonplacelaw18.PullAsks'. -/
def pullAsksCard : Claim7 := { stood := { row := pullAsksRow, standIns := [], harness := (true, "fa4ab44faec2f3025d6ff4df0f66959c47a705bc72734cd70cf192d2b2604762"), looks := true }, kinds := [], alts := [], laidByText := true, laidKinds := [.data, .data, .data, .data, .sentinel, .sentinel, .data, .pinned], laidTests := true, laidLooks := .later }
def PullAsksCardSaid : Prop := Claim7.holds Tryz.pinned (.plain (OpenSpec.ofChange pullAsksSpec)) pullAsksCard

/-- THE TIED CARD OF 'commonplacelaw18.PullReads'. -/
def pullReadsCard : Claim7 := { stood := { row := pullReadsRow, standIns := [], harness := (true, "fa4ab44faec2f3025d6ff4df0f66959c47a705bc72734cd70cf192d2b2604762"), looks := true }, kinds := [], alts := [], laidByText := true, laidKinds := [.data, .data, .data, .data, .sentinel, .sentinel, .data, .pinned], laidTests := true, laidLooks := .later }
def PullReadsCardSaid : Prop := Claim7.holds Tryz.pinned (.plain (OpenSpec.ofChange pullReadsSpec)) pullReadsCard

/-- THE TIED CARD OF 'commonplacelaw18.PullBodies'. -/
def pullBodiesCard : Claim7 := { stood := { row := pullBodiesRow, standIns := [], harness := (true, "fa4ab44faec2f3025d6ff4df0f66959c47a705bc72734cd70cf192d2b2604762"), looks := true }, kinds := [], alts := [], laidByText := true, laidKinds := [.data, .data, .data, .data, .sentinel, .sentinel, .data, .pinned], laidTests := true, laidLooks := .later }
def PullBodiesCardSaid : Prop := Claim7.holds Tryz.pinned (.plain (OpenSpec.ofChange pullBodiesSpec)) pullBodiesCard

/-- THE TIED CARD OF 'commonplacelaw18.PullBack'. -/
def pullBackCard : Claim7 := { stood := { row := pullBackRow, standIns := [], harness := (true, "fa4ab44faec2f3025d6ff4df0f66959c47a705bc72734cd70cf192d2b2604762"), looks := true }, kinds := [], alts := [], laidByText := true, laidKinds := [.data, .data, .data, .data, .sentinel, .sentinel, .data, .pinned], laidTests := true, laidLooks := .later }
def PullBackCardSaid : Prop := Claim7.holds Tryz.pinned (.plain (OpenSpec.ofChange pullBackSpec)) pullBackCard

/-- THE SECOND FORM's CARD OF 'commonplacelaw18.PullAsks'. -/
def pullAsksUptoCard : Claim7 := { stood := { row := pullAsksUptoRow, standIns := [], harness := (true, "fa4ab44faec2f3025d6ff4df0f66959c47a705bc72734cd70cf192d2b2604762"), looks := true }, kinds := [], alts := [], laidByText := true, laidKinds := [.data, .data, .data, .data, .sentinel, .sentinel, .data, .pinned], laidTests := true, laidLooks := .later }
def PullAsksUptoCardSaid : Prop := Claim7.holds Tryz.pinned (.plain (OpenSpec.upto pullAsksSpec)) pullAsksUptoCard

/-- THE SECOND FORM's CARD OF 'commonplacelaw18.PullReads'. -/
def pullReadsUptoCard : Claim7 := { stood := { row := pullReadsUptoRow, standIns := [], harness := (true, "fa4ab44faec2f3025d6ff4df0f66959c47a705bc72734cd70cf192d2b2604762"), looks := true }, kinds := [], alts := [], laidByText := true, laidKinds := [.data, .data, .data, .data, .sentinel, .sentinel, .data, .pinned], laidTests := true, laidLooks := .later }
def PullReadsUptoCardSaid : Prop := Claim7.holds Tryz.pinned (.plain (OpenSpec.upto pullReadsSpec)) pullReadsUptoCard

/-- THE SECOND FORM's CARD OF 'commonplacelaw18.PullBodies'. -/
def pullBodiesUptoCard : Claim7 := { stood := { row := pullBodiesUptoRow, standIns := [], harness := (true, "fa4ab44faec2f3025d6ff4df0f66959c47a705bc72734cd70cf192d2b2604762"), looks := true }, kinds := [], alts := [], laidByText := true, laidKinds := [.data, .data, .data, .data, .sentinel, .sentinel, .data, .pinned], laidTests := true, laidLooks := .later }
def PullBodiesUptoCardSaid : Prop := Claim7.holds Tryz.pinned (.plain (OpenSpec.upto pullBodiesSpec)) pullBodiesUptoCard

/-- THE SECOND FORM's CARD OF 'commonplacelaw18.PullBack'. -/
def pullBackUptoCard : Claim7 := { stood := { row := pullBackUptoRow, standIns := [], harness := (true, "fa4ab44faec2f3025d6ff4df0f66959c47a705bc72734cd70cf192d2b2604762"), looks := true }, kinds := [], alts := [], laidByText := true, laidKinds := [.data, .data, .data, .data, .sentinel, .sentinel, .data, .pinned], laidTests := true, laidLooks := .later }
def PullBackUptoCardSaid : Prop := Claim7.holds Tryz.pinned (.plain (OpenSpec.upto pullBackSpec)) pullBackUptoCard
end Rows
end Go.Proofs.YtackmnbpfbaemaaGreatDoor
