/-
  DERIVED. GIVEN WITH THE SEED: THE CARDS: each row of YtpbaiighifhfnaaDoorRows.lean that lists a variable, with what it lists TIED to the program's text (the seventh form; the later family's looks); each row that meets fmt, with fmt's text TOLD by the authors' own Lean function (tested against real Go, not proved from fmt's source: count such statements apart). THE CARD IS WHAT COUNTS. Prove the row's statement (the work); the ties are given (YtpbaiighifhfnaaDoorTie.lean); close each card by the builder's one call (the guide's Derived/Test/ToyasCard.lean, 'card_holds'). Laid BY PROGRAM, IN A SANDBOX (cutbox-door.mjs). By AI agents, Wed Nov 11 2026. No macro, syntax, notation, axiom, sorry.
-/
import Derived.Test.YtpbaiighifhfnaaDoorRows
import GoSem.ClaimSeven
namespace Go.Proofs.YtpbaiighifhfnaaDoor
namespace Rows

/-- THE TIED CARD OF 'clewlaw08.PoolMakes'. -/
def poolMakesCard : Claim7 := { stood := { row := poolMakesRow, standIns := [], harness := (true, "66d460175a815751abf9a98e243f35116170a54ea9e49523691cb4e212238497"), looks := false }, kinds := [], alts := [], laidByText := true, laidKinds := [.data, .pinned], laidTests := true, laidLooks := .later }
def PoolMakesCardSaid : Prop := Claim7.holds Tryd.pinned (.plain (OpenSpec.ofChange poolMakesSpec)) poolMakesCard

/-- THE TIED CARD OF 'clewlaw08.PoolCounts'. -/
def poolCountsCard : Claim7 := { stood := { row := poolCountsRow, standIns := [], harness := (true, "66d460175a815751abf9a98e243f35116170a54ea9e49523691cb4e212238497"), looks := false }, kinds := [], alts := [], laidByText := true, laidKinds := [.data, .pinned], laidTests := true, laidLooks := .later }
def PoolCountsCardSaid : Prop := Claim7.holds Tryd.pinned (.plain (OpenSpec.ofChange poolCountsSpec)) poolCountsCard

/-- THE TIED CARD OF 'clewlaw08.PoolBits'. -/
def poolBitsCard : Claim7 := { stood := { row := poolBitsRow, standIns := [], harness := (true, "66d460175a815751abf9a98e243f35116170a54ea9e49523691cb4e212238497"), looks := false }, kinds := [], alts := [], laidByText := true, laidKinds := [.data, .pinned], laidTests := true, laidLooks := .later }
def PoolBitsCardSaid : Prop := Claim7.holds Tryd.pinned (.plain (OpenSpec.ofChange poolBitsSpec)) poolBitsCard

/-- THE TIED CARD OF 'clewlaw08.PoolTexts'. -/
def poolTextsCard : Claim7 := { stood := { row := poolTextsRow, standIns := [], harness := (true, "66d460175a815751abf9a98e243f35116170a54ea9e49523691cb4e212238497"), looks := false }, kinds := [], alts := [], laidByText := true, laidKinds := [.data, .pinned], laidTests := true, laidLooks := .later }
def PoolTextsCardSaid : Prop := Claim7.holds Tryd.pinned (.plain (OpenSpec.ofChange poolTextsSpec)) poolTextsCard

/-- THE TIED CARD OF 'clewlaw08.PoolBack'. -/
def poolBackCard : Claim7 := { stood := { row := poolBackRow, standIns := [], harness := (true, "66d460175a815751abf9a98e243f35116170a54ea9e49523691cb4e212238497"), looks := false }, kinds := [], alts := [], laidByText := true, laidKinds := [.data, .pinned], laidTests := true, laidLooks := .later }
def PoolBackCardSaid : Prop := Claim7.holds Tryd.pinned (.plain (OpenSpec.ofChange poolBackSpec)) poolBackCard

/-- THE SECOND FORM's CARD OF 'clewlaw08.PoolMakes'. -/
def poolMakesUptoCard : Claim7 := { stood := { row := poolMakesUptoRow, standIns := [], harness := (true, "66d460175a815751abf9a98e243f35116170a54ea9e49523691cb4e212238497"), looks := false }, kinds := [], alts := [], laidByText := true, laidKinds := [.data, .pinned], laidTests := true, laidLooks := .later }
def PoolMakesUptoCardSaid : Prop := Claim7.holds Tryd.pinned (.plain (OpenSpec.upto poolMakesSpec)) poolMakesUptoCard

/-- THE SECOND FORM's CARD OF 'clewlaw08.PoolCounts'. -/
def poolCountsUptoCard : Claim7 := { stood := { row := poolCountsUptoRow, standIns := [], harness := (true, "66d460175a815751abf9a98e243f35116170a54ea9e49523691cb4e212238497"), looks := false }, kinds := [], alts := [], laidByText := true, laidKinds := [.data, .pinned], laidTests := true, laidLooks := .later }
def PoolCountsUptoCardSaid : Prop := Claim7.holds Tryd.pinned (.plain (OpenSpec.upto poolCountsSpec)) poolCountsUptoCard

/-- THE SECOND FORM's CARD OF 'clewlaw08.PoolBits'. -/
def poolBitsUptoCard : Claim7 := { stood := { row := poolBitsUptoRow, standIns := [], harness := (true, "66d460175a815751abf9a98e243f35116170a54ea9e49523691cb4e212238497"), looks := false }, kinds := [], alts := [], laidByText := true, laidKinds := [.data, .pinned], laidTests := true, laidLooks := .later }
def PoolBitsUptoCardSaid : Prop := Claim7.holds Tryd.pinned (.plain (OpenSpec.upto poolBitsSpec)) poolBitsUptoCard

/-- THE SECOND FORM's CARD OF 'clewlaw08.PoolTexts'. -/
def poolTextsUptoCard : Claim7 := { stood := { row := poolTextsUptoRow, standIns := [], harness := (true, "66d460175a815751abf9a98e243f35116170a54ea9e49523691cb4e212238497"), looks := false }, kinds := [], alts := [], laidByText := true, laidKinds := [.data, .pinned], laidTests := true, laidLooks := .later }
def PoolTextsUptoCardSaid : Prop := Claim7.holds Tryd.pinned (.plain (OpenSpec.upto poolTextsSpec)) poolTextsUptoCard

/-- THE SECOND FORM's CARD OF 'clewlaw08.PoolBack'. -/
def poolBackUptoCard : Claim7 := { stood := { row := poolBackUptoRow, standIns := [], harness := (true, "66d460175a815751abf9a98e243f35116170a54ea9e49523691cb4e212238497"), looks := false }, kinds := [], alts := [], laidByText := true, laidKinds := [.data, .pinned], laidTests := true, laidLooks := .later }
def PoolBackUptoCardSaid : Prop := Claim7.holds Tryd.pinned (.plain (OpenSpec.upto poolBackSpec)) poolBackUptoCard
end Rows
end Go.Proofs.YtpbaiighifhfnaaDoor
