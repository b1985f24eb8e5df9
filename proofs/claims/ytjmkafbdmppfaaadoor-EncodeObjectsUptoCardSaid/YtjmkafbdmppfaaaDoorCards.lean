/-
  DERIVED. GIVEN WITH THE SEED: THE CARDS: each row of YtjmkafbdmppfaaaDoorRows.lean that lists a variable, with what it lists TIED to the program's text (the seventh form; the later family's looks); each row that meets fmt, with fmt's text TOLD by the authors' own Lean function (tested against real Go, not proved from fmt's source: count such statements apart). THE CARD IS WHAT COUNTS. Prove the row's statement (the work); the ties are given (YtjmkafbdmppfaaaDoorTie.lean); close each card by the builder's one call (the guide's Derived/Test/ToyasCard.lean, 'card_holds'). Laid BY PROGRAM, IN A SANDBOX (cutbox-door.mjs). By AI agents, Wed Nov 11 2026. No macro, syntax, notation, axiom, sorry.
-/
import Derived.Test.YtjmkafbdmppfaaaDoorRows
import GoSem.ClaimSeven
namespace Go.Proofs.YtjmkafbdmppfaaaDoor
namespace Rows

/-- THE TIED CARD OF 'commonplacelaw03.EncodeTexts'. -/
def encodeTextsCard : Claim7 := { stood := { row := encodeTextsRow, standIns := [], harness := (true, "c8ee9f748cfd1fdbc3c64f4ceecb9acf8afa331b6c5744c292f1095acf244c55"), looks := false }, kinds := [], alts := [], laidByText := true, laidKinds := [.data, .data, .data, .data, .pinned], laidTests := true, laidLooks := .later }
def EncodeTextsCardSaid : Prop := Claim7.holds Tryd.pinned (.plain (OpenSpec.ofChange encodeTextsSpec)) encodeTextsCard

/-- THE TIED CARD OF 'commonplacelaw03.EncodeUnlike'. -/
def encodeUnlikeCard : Claim7 := { stood := { row := encodeUnlikeRow, standIns := [], harness := (true, "c8ee9f748cfd1fdbc3c64f4ceecb9acf8afa331b6c5744c292f1095acf244c55"), looks := false }, kinds := [], alts := [], laidByText := true, laidKinds := [.data, .data, .data, .data, .pinned], laidTests := true, laidLooks := .later }
def EncodeUnlikeCardSaid : Prop := Claim7.holds Tryd.pinned (.plain (OpenSpec.ofChange encodeUnlikeSpec)) encodeUnlikeCard

/-- THE TIED CARD OF 'commonplacelaw03.EncodeClean'. -/
def encodeCleanCard : Claim7 := { stood := { row := encodeCleanRow, standIns := [], harness := (true, "c8ee9f748cfd1fdbc3c64f4ceecb9acf8afa331b6c5744c292f1095acf244c55"), looks := false }, kinds := [], alts := [], laidByText := true, laidKinds := [.data, .data, .data, .data, .pinned], laidTests := true, laidLooks := .later }
def EncodeCleanCardSaid : Prop := Claim7.holds Tryd.pinned (.plain (OpenSpec.ofChange encodeCleanSpec)) encodeCleanCard

/-- THE TIED CARD OF 'commonplacelaw03.EncodeLists'. -/
def encodeListsCard : Claim7 := { stood := { row := encodeListsRow, standIns := [], harness := (true, "c8ee9f748cfd1fdbc3c64f4ceecb9acf8afa331b6c5744c292f1095acf244c55"), looks := false }, kinds := [], alts := [], laidByText := true, laidKinds := [.data, .data, .data, .data, .pinned], laidTests := true, laidLooks := .later }
def EncodeListsCardSaid : Prop := Claim7.holds Tryd.pinned (.plain (OpenSpec.ofChange encodeListsSpec)) encodeListsCard

/-- THE TIED CARD OF 'commonplacelaw03.EncodeObjects'. -/
def encodeObjectsCard : Claim7 := { stood := { row := encodeObjectsRow, standIns := [], harness := (true, "c8ee9f748cfd1fdbc3c64f4ceecb9acf8afa331b6c5744c292f1095acf244c55"), looks := false }, kinds := [], alts := [], laidByText := true, laidKinds := [.data, .data, .data, .data, .pinned], laidTests := true, laidLooks := .later }
def EncodeObjectsCardSaid : Prop := Claim7.holds Tryd.pinned (.plain (OpenSpec.ofChange encodeObjectsSpec)) encodeObjectsCard

/-- THE TIED CARD OF 'commonplacelaw03.EncodeInts'. -/
def encodeIntsCard : Claim7 := { stood := { row := encodeIntsRow, standIns := [], harness := (true, "c8ee9f748cfd1fdbc3c64f4ceecb9acf8afa331b6c5744c292f1095acf244c55"), looks := false }, kinds := [], alts := [], laidByText := true, laidKinds := [.data, .data, .data, .data, .pinned], laidTests := true, laidLooks := .later }
def EncodeIntsCardSaid : Prop := Claim7.holds Tryd.pinned (.plain (OpenSpec.ofChange encodeIntsSpec)) encodeIntsCard

/-- THE TIED CARD OF 'commonplacelaw03.EncodeShort'. -/
def encodeShortCard : Claim7 := { stood := { row := encodeShortRow, standIns := [], harness := (true, "c8ee9f748cfd1fdbc3c64f4ceecb9acf8afa331b6c5744c292f1095acf244c55"), looks := false }, kinds := [], alts := [], laidByText := true, laidKinds := [.data, .data, .data, .data, .pinned], laidTests := true, laidLooks := .later }
def EncodeShortCardSaid : Prop := Claim7.holds Tryd.pinned (.plain (OpenSpec.ofChange encodeShortSpec)) encodeShortCard

/-- THE TIED CARD OF 'commonplacelaw03.EncodeFits'. -/
def encodeFitsCard : Claim7 := { stood := { row := encodeFitsRow, standIns := [], harness := (true, "c8ee9f748cfd1fdbc3c64f4ceecb9acf8afa331b6c5744c292f1095acf244c55"), looks := false }, kinds := [], alts := [], laidByText := true, laidKinds := [.data, .data, .data, .data, .pinned], laidTests := true, laidLooks := .later }
def EncodeFitsCardSaid : Prop := Claim7.holds Tryd.pinned (.plain (OpenSpec.ofChange encodeFitsSpec)) encodeFitsCard

/-- THE SECOND FORM's CARD OF 'commonplacelaw03.EncodeTexts'. -/
def encodeTextsUptoCard : Claim7 := { stood := { row := encodeTextsUptoRow, standIns := [], harness := (true, "c8ee9f748cfd1fdbc3c64f4ceecb9acf8afa331b6c5744c292f1095acf244c55"), looks := false }, kinds := [], alts := [], laidByText := true, laidKinds := [.data, .data, .data, .data, .pinned], laidTests := true, laidLooks := .later }
def EncodeTextsUptoCardSaid : Prop := Claim7.holds Tryd.pinned (.plain (OpenSpec.upto encodeTextsSpec)) encodeTextsUptoCard

/-- THE SECOND FORM's CARD OF 'commonplacelaw03.EncodeUnlike'. -/
def encodeUnlikeUptoCard : Claim7 := { stood := { row := encodeUnlikeUptoRow, standIns := [], harness := (true, "c8ee9f748cfd1fdbc3c64f4ceecb9acf8afa331b6c5744c292f1095acf244c55"), looks := false }, kinds := [], alts := [], laidByText := true, laidKinds := [.data, .data, .data, .data, .pinned], laidTests := true, laidLooks := .later }
def EncodeUnlikeUptoCardSaid : Prop := Claim7.holds Tryd.pinned (.plain (OpenSpec.upto encodeUnlikeSpec)) encodeUnlikeUptoCard

/-- THE SECOND FORM's CARD OF 'commonplacelaw03.EncodeClean'. -/
def encodeCleanUptoCard : Claim7 := { stood := { row := encodeCleanUptoRow, standIns := [], harness := (true, "c8ee9f748cfd1fdbc3c64f4ceecb9acf8afa331b6c5744c292f1095acf244c55"), looks := false }, kinds := [], alts := [], laidByText := true, laidKinds := [.data, .data, .data, .data, .pinned], laidTests := true, laidLooks := .later }
def EncodeCleanUptoCardSaid : Prop := Claim7.holds Tryd.pinned (.plain (OpenSpec.upto encodeCleanSpec)) encodeCleanUptoCard

/-- THE SECOND FORM's CARD OF 'commonplacelaw03.EncodeLists'. -/
def encodeListsUptoCard : Claim7 := { stood := { row := encodeListsUptoRow, standIns := [], harness := (true, "c8ee9f748cfd1fdbc3c64f4ceecb9acf8afa331b6c5744c292f1095acf244c55"), looks := false }, kinds := [], alts := [], laidByText := true, laidKinds := [.data, .data, .data, .data, .pinned], laidTests := true, laidLooks := .later }
def EncodeListsUptoCardSaid : Prop := Claim7.holds Tryd.pinned (.plain (OpenSpec.upto encodeListsSpec)) encodeListsUptoCard

/-- THE SECOND FORM's CARD OF 'commonplacelaw03.EncodeObjects'. -/
def encodeObjectsUptoCard : Claim7 := { stood := { row := encodeObjectsUptoRow, standIns := [], harness := (true, "c8ee9f748cfd1fdbc3c64f4ceecb9acf8afa331b6c5744c292f1095acf244c55"), looks := false }, kinds := [], alts := [], laidByText := true, laidKinds := [.data, .data, .data, .data, .pinned], laidTests := true, laidLooks := .later }
def EncodeObjectsUptoCardSaid : Prop := Claim7.holds Tryd.pinned (.plain (OpenSpec.upto encodeObjectsSpec)) encodeObjectsUptoCard

/-- THE SECOND FORM's CARD OF 'commonplacelaw03.EncodeInts'. -/
def encodeIntsUptoCard : Claim7 := { stood := { row := encodeIntsUptoRow, standIns := [], harness := (true, "c8ee9f748cfd1fdbc3c64f4ceecb9acf8afa331b6c5744c292f1095acf244c55"), looks := false }, kinds := [], alts := [], laidByText := true, laidKinds := [.data, .data, .data, .data, .pinned], laidTests := true, laidLooks := .later }
def EncodeIntsUptoCardSaid : Prop := Claim7.holds Tryd.pinned (.plain (OpenSpec.upto encodeIntsSpec)) encodeIntsUptoCard

/-- THE SECOND FORM's CARD OF 'commonplacelaw03.EncodeShort'. -/
def encodeShortUptoCard : Claim7 := { stood := { row := encodeShortUptoRow, standIns := [], harness := (true, "c8ee9f748cfd1fdbc3c64f4ceecb9acf8afa331b6c5744c292f1095acf244c55"), looks := false }, kinds := [], alts := [], laidByText := true, laidKinds := [.data, .data, .data, .data, .pinned], laidTests := true, laidLooks := .later }
def EncodeShortUptoCardSaid : Prop := Claim7.holds Tryd.pinned (.plain (OpenSpec.upto encodeShortSpec)) encodeShortUptoCard

/-- THE SECOND FORM's CARD OF 'commonplacelaw03.EncodeFits'. -/
def encodeFitsUptoCard : Claim7 := { stood := { row := encodeFitsUptoRow, standIns := [], harness := (true, "c8ee9f748cfd1fdbc3c64f4ceecb9acf8afa331b6c5744c292f1095acf244c55"), looks := false }, kinds := [], alts := [], laidByText := true, laidKinds := [.data, .data, .data, .data, .pinned], laidTests := true, laidLooks := .later }
def EncodeFitsUptoCardSaid : Prop := Claim7.holds Tryd.pinned (.plain (OpenSpec.upto encodeFitsSpec)) encodeFitsUptoCard
end Rows
end Go.Proofs.YtjmkafbdmppfaaaDoor
