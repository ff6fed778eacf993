/-
  DERIVED. GIVEN WITH THE SEED: THE CARDS: each row of YtfbpbpapfkimfaaDoorRows.lean that lists a variable, with what it lists TIED to the program's text (the seventh form; the later family's looks); each row that meets fmt, with fmt's text TOLD by the authors' own Lean function (tested against real Go, not proved from fmt's source: count such statements apart). THE CARD IS WHAT COUNTS. Prove the row's statement (the work); the ties are given (YtfbpbpapfkimfaaDoorTie.lean); close each card by the builder's one call (the guide's Derived/Test/ToyasCard.lean, 'card_holds'). Laid BY PROGRAM, IN A SANDBOX (cutbox-door.mjs). By AI agents, Wed Nov 11 2026. No macro, syntax, notation, axiom, sorry.
-/
import Derived.Test.YtfbpbpapfkimfaaDoorRows
import GoSem.ClaimSeven
namespace Go.Proofs.YtfbpbpapfkimfaaDoor
namespace Rows

/-- THE TIED CARD OF 'clewlaw07.AbbrevChooses'. -/
def abbrevChoosesCard : Claim7 := { stood := { row := abbrevChoosesRow, standIns := [], harness := (true, "b19e12b13064faa52078fde4f946043f962cc1511ae31a8f134aaacccac69591"), looks := false }, kinds := [], alts := [], laidByText := true, laidKinds := [.data, .pinned], laidTests := true, laidLooks := .later }
def AbbrevChoosesCardSaid : Prop := Claim7.holds Tryd.pinned (.plain (OpenSpec.ofChange abbrevChoosesSpec)) abbrevChoosesCard

/-- THE TIED CARD OF 'clewlaw07.AbbrevCuts'. -/
def abbrevCutsCard : Claim7 := { stood := { row := abbrevCutsRow, standIns := [], harness := (true, "b19e12b13064faa52078fde4f946043f962cc1511ae31a8f134aaacccac69591"), looks := false }, kinds := [], alts := [], laidByText := true, laidKinds := [.data, .pinned], laidTests := true, laidLooks := .later }
def AbbrevCutsCardSaid : Prop := Claim7.holds Tryd.pinned (.plain (OpenSpec.ofChange abbrevCutsSpec)) abbrevCutsCard

/-- THE TIED CARD OF 'clewlaw07.AbbrevBack'. -/
def abbrevBackCard : Claim7 := { stood := { row := abbrevBackRow, standIns := [], harness := (true, "b19e12b13064faa52078fde4f946043f962cc1511ae31a8f134aaacccac69591"), looks := false }, kinds := [], alts := [], laidByText := true, laidKinds := [.data, .pinned], laidTests := true, laidLooks := .later }
def AbbrevBackCardSaid : Prop := Claim7.holds Tryd.pinned (.plain (OpenSpec.ofChange abbrevBackSpec)) abbrevBackCard

/-- THE TIED CARD OF 'clewlaw07.AbbrevJoins'. -/
def abbrevJoinsCard : Claim7 := { stood := { row := abbrevJoinsRow, standIns := [], harness := (true, "b19e12b13064faa52078fde4f946043f962cc1511ae31a8f134aaacccac69591"), looks := false }, kinds := [], alts := [], laidByText := true, laidKinds := [.data, .pinned], laidTests := true, laidLooks := .later }
def AbbrevJoinsCardSaid : Prop := Claim7.holds Tryd.pinned (.plain (OpenSpec.ofChange abbrevJoinsSpec)) abbrevJoinsCard

/-- THE TIED CARD OF 'clewlaw07.AbbrevPays'. -/
def abbrevPaysCard : Claim7 := { stood := { row := abbrevPaysRow, standIns := [], harness := (true, "b19e12b13064faa52078fde4f946043f962cc1511ae31a8f134aaacccac69591"), looks := false }, kinds := [], alts := [], laidByText := true, laidKinds := [.data, .pinned], laidTests := true, laidLooks := .later }
def AbbrevPaysCardSaid : Prop := Claim7.holds Tryd.pinned (.plain (OpenSpec.ofChange abbrevPaysSpec)) abbrevPaysCard

/-- THE TIED CARD OF 'clewlaw07.AbbrevPlain'. -/
def abbrevPlainCard : Claim7 := { stood := { row := abbrevPlainRow, standIns := [], harness := (true, "b19e12b13064faa52078fde4f946043f962cc1511ae31a8f134aaacccac69591"), looks := false }, kinds := [], alts := [], laidByText := true, laidKinds := [.data, .pinned], laidTests := true, laidLooks := .later }
def AbbrevPlainCardSaid : Prop := Claim7.holds Tryd.pinned (.plain (OpenSpec.ofChange abbrevPlainSpec)) abbrevPlainCard

/-- THE SECOND FORM's CARD OF 'clewlaw07.AbbrevChooses'. -/
def abbrevChoosesUptoCard : Claim7 := { stood := { row := abbrevChoosesUptoRow, standIns := [], harness := (true, "b19e12b13064faa52078fde4f946043f962cc1511ae31a8f134aaacccac69591"), looks := false }, kinds := [], alts := [], laidByText := true, laidKinds := [.data, .pinned], laidTests := true, laidLooks := .later }
def AbbrevChoosesUptoCardSaid : Prop := Claim7.holds Tryd.pinned (.plain (OpenSpec.upto abbrevChoosesSpec)) abbrevChoosesUptoCard

/-- THE SECOND FORM's CARD OF 'clewlaw07.AbbrevCuts'. -/
def abbrevCutsUptoCard : Claim7 := { stood := { row := abbrevCutsUptoRow, standIns := [], harness := (true, "b19e12b13064faa52078fde4f946043f962cc1511ae31a8f134aaacccac69591"), looks := false }, kinds := [], alts := [], laidByText := true, laidKinds := [.data, .pinned], laidTests := true, laidLooks := .later }
def AbbrevCutsUptoCardSaid : Prop := Claim7.holds Tryd.pinned (.plain (OpenSpec.upto abbrevCutsSpec)) abbrevCutsUptoCard

/-- THE SECOND FORM's CARD OF 'clewlaw07.AbbrevBack'. -/
def abbrevBackUptoCard : Claim7 := { stood := { row := abbrevBackUptoRow, standIns := [], harness := (true, "b19e12b13064faa52078fde4f946043f962cc1511ae31a8f134aaacccac69591"), looks := false }, kinds := [], alts := [], laidByText := true, laidKinds := [.data, .pinned], laidTests := true, laidLooks := .later }
def AbbrevBackUptoCardSaid : Prop := Claim7.holds Tryd.pinned (.plain (OpenSpec.upto abbrevBackSpec)) abbrevBackUptoCard

/-- THE SECOND FORM's CARD OF 'clewlaw07.AbbrevJoins'. -/
def abbrevJoinsUptoCard : Claim7 := { stood := { row := abbrevJoinsUptoRow, standIns := [], harness := (true, "b19e12b13064faa52078fde4f946043f962cc1511ae31a8f134aaacccac69591"), looks := false }, kinds := [], alts := [], laidByText := true, laidKinds := [.data, .pinned], laidTests := true, laidLooks := .later }
def AbbrevJoinsUptoCardSaid : Prop := Claim7.holds Tryd.pinned (.plain (OpenSpec.upto abbrevJoinsSpec)) abbrevJoinsUptoCard

/-- THE SECOND FORM's CARD OF 'clewlaw07.AbbrevPays'. -/
def abbrevPaysUptoCard : Claim7 := { stood := { row := abbrevPaysUptoRow, standIns := [], harness := (true, "b19e12b13064faa52078fde4f946043f962cc1511ae31a8f134aaacccac69591"), looks := false }, kinds := [], alts := [], laidByText := true, laidKinds := [.data, .pinned], laidTests := true, laidLooks := .later }
def AbbrevPaysUptoCardSaid : Prop := Claim7.holds Tryd.pinned (.plain (OpenSpec.upto abbrevPaysSpec)) abbrevPaysUptoCard

/-- THE SECOND FORM's CARD OF 'clewlaw07.AbbrevPlain'. -/
def abbrevPlainUptoCard : Claim7 := { stood := { row := abbrevPlainUptoRow, standIns := [], harness := (true, "b19e12b13064faa52078fde4f946043f962cc1511ae31a8f134aaacccac69591"), looks := false }, kinds := [], alts := [], laidByText := true, laidKinds := [.data, .pinned], laidTests := true, laidLooks := .later }
def AbbrevPlainUptoCardSaid : Prop := Claim7.holds Tryd.pinned (.plain (OpenSpec.upto abbrevPlainSpec)) abbrevPlainUptoCard
end Rows
end Go.Proofs.YtfbpbpapfkimfaaDoor
