/-
  DERIVED. GIVEN WITH THE SEED: THE CARDS: each row of YtnklgkjfoggpbaaGreatDoorRows.lean that lists a variable, with what it lists TIED to the program's text (the seventh form; the later family's looks); each row that meets fmt, with fmt's text TOLD by the authors' own Lean function (tested against real Go, not proved from fmt's source: count such statements apart). THE CARD IS WHAT COUNTS. Prove the row's statement (the work); the ties are given (YtnklgkjfoggpbaaGreatDoorTie.lean); close each card by the builder's one call (the guide's Derived/Test/ToyasCard.lean, 'card_holds'). Laid BY PROGRAM, IN A SANDBOX (cutbox-door.mjs). By AI agents, Wed Nov 11 2026. No macro, syntax, notation, axiom, sorry.
-/
import Derived.Test.YtnklgkjfoggpbaaGreatDoorRows
import GoSem.ClaimSeven
namespace Go.Proofs.YtnklgkjfoggpbaaGreatDoor
namespace Rows

/-- THE TIED CARD OF 'clewlaw42.FileVerifies'. -/
def fileVerifiesCard : Claim7 := { stood := { row := fileVerifiesRow, standIns := [], harness := (true, "4901496a7280545f3fabbd379eb6fe6e375748c85138e95366214f33c8ad4e48"), looks := false }, kinds := [], alts := [], laidByText := true, laidKinds := [.data, .pinned], laidTests := true, laidLooks := .later }
def FileVerifiesCardSaid : Prop := Claim7.holds Tryz.pinned (.plain (OpenSpec.ofChange fileVerifiesSpec)) fileVerifiesCard

/-- THE TIED CARD OF 'clewlaw42.FileBack'. -/
def fileBackCard : Claim7 := { stood := { row := fileBackRow, standIns := [], harness := (true, "4901496a7280545f3fabbd379eb6fe6e375748c85138e95366214f33c8ad4e48"), looks := false }, kinds := [], alts := [], laidByText := true, laidKinds := [.data, .pinned], laidTests := true, laidLooks := .later }
def FileBackCardSaid : Prop := Claim7.holds Tryz.pinned (.plain (OpenSpec.ofChange fileBackSpec)) fileBackCard

/-- THE TIED CARD OF 'clewlaw42.FileSame'. -/
def fileSameCard : Claim7 := { stood := { row := fileSameRow, standIns := [], harness := (true, "4901496a7280545f3fabbd379eb6fe6e375748c85138e95366214f33c8ad4e48"), looks := false }, kinds := [], alts := [], laidByText := true, laidKinds := [.data, .pinned], laidTests := true, laidLooks := .later }
def FileSameCardSaid : Prop := Claim7.holds Tryz.pinned (.plain (OpenSpec.ofChange fileSameSpec)) fileSameCard

/-- THE SECOND FORM's CARD OF 'clewlaw42.FileVerifies'. -/
def fileVerifiesUptoCard : Claim7 := { stood := { row := fileVerifiesUptoRow, standIns := [], harness := (true, "4901496a7280545f3fabbd379eb6fe6e375748c85138e95366214f33c8ad4e48"), looks := false }, kinds := [], alts := [], laidByText := true, laidKinds := [.data, .pinned], laidTests := true, laidLooks := .later }
def FileVerifiesUptoCardSaid : Prop := Claim7.holds Tryz.pinned (.plain (OpenSpec.upto fileVerifiesSpec)) fileVerifiesUptoCard

/-- THE SECOND FORM's CARD OF 'clewlaw42.FileBack'. -/
def fileBackUptoCard : Claim7 := { stood := { row := fileBackUptoRow, standIns := [], harness := (true, "4901496a7280545f3fabbd379eb6fe6e375748c85138e95366214f33c8ad4e48"), looks := false }, kinds := [], alts := [], laidByText := true, laidKinds := [.data, .pinned], laidTests := true, laidLooks := .later }
def FileBackUptoCardSaid : Prop := Claim7.holds Tryz.pinned (.plain (OpenSpec.upto fileBackSpec)) fileBackUptoCard

/-- THE SECOND FORM's CARD OF 'clewlaw42.FileSame'. -/
def fileSameUptoCard : Claim7 := { stood := { row := fileSameUptoRow, standIns := [], harness := (true, "4901496a7280545f3fabbd379eb6fe6e375748c85138e95366214f33c8ad4e48"), looks := false }, kinds := [], alts := [], laidByText := true, laidKinds := [.data, .pinned], laidTests := true, laidLooks := .later }
def FileSameUptoCardSaid : Prop := Claim7.holds Tryz.pinned (.plain (OpenSpec.upto fileSameSpec)) fileSameUptoCard
end Rows
end Go.Proofs.YtnklgkjfoggpbaaGreatDoor
