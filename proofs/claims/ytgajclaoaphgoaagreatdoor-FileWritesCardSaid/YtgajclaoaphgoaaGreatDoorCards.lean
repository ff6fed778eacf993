/-
  DERIVED. GIVEN WITH THE SEED: THE CARDS: each row of YtgajclaoaphgoaaGreatDoorRows.lean that lists a variable, with what it lists TIED to the program's text (the seventh form; the later family's looks); each row that meets fmt, with fmt's text TOLD by the authors' own Lean function (tested against real Go, not proved from fmt's source: count such statements apart). THE CARD IS WHAT COUNTS. Prove the row's statement (the work); the ties are given (YtgajclaoaphgoaaGreatDoorTie.lean); close each card by the builder's one call (the guide's Derived/Test/ToyasCard.lean, 'card_holds'). Laid BY PROGRAM, IN A SANDBOX (cutbox-door.mjs). By AI agents, Wed Nov 11 2026. No macro, syntax, notation, axiom, sorry.
-/
import Derived.Test.YtgajclaoaphgoaaGreatDoorRows
import GoSem.ClaimSeven
namespace Go.Proofs.YtgajclaoaphgoaaGreatDoor
namespace Rows

/-- THE TIED CARD OF 'clewlaw42.FileWrites'. -/
def fileWritesCard : Claim7 := { stood := { row := fileWritesRow, standIns := [], harness := (true, "0cec2078f74286a53174dca7a64f6f00d90bdc877fe611ef388d789726c3cf34"), looks := false }, kinds := [], alts := [], laidByText := true, laidKinds := [.data, .pinned], laidTests := true, laidLooks := .later }
def FileWritesCardSaid : Prop := Claim7.holds Tryz.pinned (.plain (OpenSpec.ofChange fileWritesSpec)) fileWritesCard

/-- THE TIED CARD OF 'clewlaw42.FileReads'. -/
def fileReadsCard : Claim7 := { stood := { row := fileReadsRow, standIns := [], harness := (true, "0cec2078f74286a53174dca7a64f6f00d90bdc877fe611ef388d789726c3cf34"), looks := false }, kinds := [], alts := [], laidByText := true, laidKinds := [.data, .pinned], laidTests := true, laidLooks := .later }
def FileReadsCardSaid : Prop := Claim7.holds Tryz.pinned (.plain (OpenSpec.ofChange fileReadsSpec)) fileReadsCard

/-- THE TIED CARD OF 'clewlaw42.FileSeals'. -/
def fileSealsCard : Claim7 := { stood := { row := fileSealsRow, standIns := [], harness := (true, "0cec2078f74286a53174dca7a64f6f00d90bdc877fe611ef388d789726c3cf34"), looks := false }, kinds := [], alts := [], laidByText := true, laidKinds := [.data, .pinned], laidTests := true, laidLooks := .later }
def FileSealsCardSaid : Prop := Claim7.holds Tryz.pinned (.plain (OpenSpec.ofChange fileSealsSpec)) fileSealsCard

/-- THE SECOND FORM's CARD OF 'clewlaw42.FileWrites'. -/
def fileWritesUptoCard : Claim7 := { stood := { row := fileWritesUptoRow, standIns := [], harness := (true, "0cec2078f74286a53174dca7a64f6f00d90bdc877fe611ef388d789726c3cf34"), looks := false }, kinds := [], alts := [], laidByText := true, laidKinds := [.data, .pinned], laidTests := true, laidLooks := .later }
def FileWritesUptoCardSaid : Prop := Claim7.holds Tryz.pinned (.plain (OpenSpec.upto fileWritesSpec)) fileWritesUptoCard

/-- THE SECOND FORM's CARD OF 'clewlaw42.FileReads'. -/
def fileReadsUptoCard : Claim7 := { stood := { row := fileReadsUptoRow, standIns := [], harness := (true, "0cec2078f74286a53174dca7a64f6f00d90bdc877fe611ef388d789726c3cf34"), looks := false }, kinds := [], alts := [], laidByText := true, laidKinds := [.data, .pinned], laidTests := true, laidLooks := .later }
def FileReadsUptoCardSaid : Prop := Claim7.holds Tryz.pinned (.plain (OpenSpec.upto fileReadsSpec)) fileReadsUptoCard

/-- THE SECOND FORM's CARD OF 'clewlaw42.FileSeals'. -/
def fileSealsUptoCard : Claim7 := { stood := { row := fileSealsUptoRow, standIns := [], harness := (true, "0cec2078f74286a53174dca7a64f6f00d90bdc877fe611ef388d789726c3cf34"), looks := false }, kinds := [], alts := [], laidByText := true, laidKinds := [.data, .pinned], laidTests := true, laidLooks := .later }
def FileSealsUptoCardSaid : Prop := Claim7.holds Tryz.pinned (.plain (OpenSpec.upto fileSealsSpec)) fileSealsUptoCard
end Rows
end Go.Proofs.YtgajclaoaphgoaaGreatDoor
