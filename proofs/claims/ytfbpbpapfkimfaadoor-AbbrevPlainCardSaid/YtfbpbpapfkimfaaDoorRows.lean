/-
  NARROWER THAN 'FOR EVERY INPUT', by the rows' own cells (each row's printed sentence says how): AbbrevChooses: laid · AbbrevCuts: laid · AbbrevBack: laid · AbbrevJoins: laid · AbbrevPays: laid · AbbrevPlain: laid.
  DERIVED. THE GIVEN ROWS OF THIS SEAT. 6 by the template 'for every input the law returns true; each argument reads behind the call as it read before'; 0 by the template 'total and deterministic' (their statements: YtfbpbpapfkimfaaDoorTotals.lean).
  GIVEN WITH THE SEED: the statements are not yours to turn. If you find one false, say at which input.
  Laid BY PROGRAM, IN A SANDBOX (cutbox-rows.mjs): the forced cells as the released guide's own fill.sh prints them over the translation c16fecb62c7197b8… (all of the seat's roots in one cut). By AI agents, Wed Nov 11 2026. No macro, syntax, notation, axiom, sorry.
-/
import Derived.Test.YtfbpbpapfkimfaaDoorChecked
import GoSem.PinnedTables
import GoSem.Claim
import GoSem.ClaimJoined
import GoSem.ClaimMapViews
import Derived.JoinedTies
import Derived.KernelRfl
namespace Go.Proofs.YtfbpbpapfkimfaaDoor
/- THE CELL 'sum', in the pinned program and in every row, IS THE sha256 OF THE DUMP (.gsa) THAT YtfbpbpapfkimfaaDoorProg.lean LOADS. Nothing in Lean hashes anything: it is a label: what it is worth is what the hold of that sum in a sandbox is worth. -/
noncomputable def Tryd.pinned : Pinned := { name := "ytfbpbpapfkimfaadoor", sum := "c16fecb62c7197b8c13f90d36f00f9b7670a4d9f639faa91c55d5b43e927cf95", checked := Tryd.checked }
namespace Rows
def none {H : Type} : Left H := { results := [], args := [] }

/- WHAT THE LISTED PACKAGE-LEVEL VARIABLES READ AS WHEN THE CALL BEGINS. Each datum BY PROGRAM (the guide's laid-datum.mjs) off the statement by which the dump's own 'gosem.cut.vars' lays the variable. In a bare row this is a premise. The card (YtfbpbpapfkimfaaDoorCards.lean) ties it to the program's text. -/
def laid_unicode_utf8_acceptRanges {H : Type} : DataW H := .agg [.agg [.lit (.int .u8 128), .lit (.int .u8 191)], .agg [.lit (.int .u8 160), .lit (.int .u8 191)], .agg [.lit (.int .u8 128), .lit (.int .u8 159)], .agg [.lit (.int .u8 144), .lit (.int .u8 191)], .agg [.lit (.int .u8 128), .lit (.int .u8 143)], .agg [.lit (.int .u8 0), .lit (.int .u8 0)], .agg [.lit (.int .u8 0), .lit (.int .u8 0)], .agg [.lit (.int .u8 0), .lit (.int .u8 0)], .agg [.lit (.int .u8 0), .lit (.int .u8 0)], .agg [.lit (.int .u8 0), .lit (.int .u8 0)], .agg [.lit (.int .u8 0), .lit (.int .u8 0)], .agg [.lit (.int .u8 0), .lit (.int .u8 0)], .agg [.lit (.int .u8 0), .lit (.int .u8 0)], .agg [.lit (.int .u8 0), .lit (.int .u8 0)], .agg [.lit (.int .u8 0), .lit (.int .u8 0)], .agg [.lit (.int .u8 0), .lit (.int .u8 0)]]
/-- One of Go's own tables, pinned by name: the form's constant. -/
def laid_unicode_utf8_first : DataW Unit := Go.Pinned.utf8First

/-- 'clewlaw07.AbbrevChooses': WHATEVER THE INPUT: true; the input reads as it did. -/
def abbrevChoosesSpec : ChangeSpec := { name := "abbrevChooses", fn := fun _ => fun
  | [d1, d2] => { results := [.lit (.bool true)], args := [d1, d2] }
  | _ => none }
def abbrevChoosesRow : OpenClaim := { program := "ytfbpbpapfkimfaadoor", sum := "c16fecb62c7197b8c13f90d36f00f9b7670a4d9f639faa91c55d5b43e927cf95", func := "clew/clewlaw07.AbbrevChooses", spec := "abbrevChooses", inPlace := ["internal/bytealg.CountString", "internal/bytealg.IndexByteString", "internal/bytealg.IndexString", "internal/abi.NoEscape"], unfollowed := true, recurses := true, named := ["unicode/utf8.first", "unicode/utf8.acceptRanges", "internal/bytealg.MaxLen"], apart := false, laid := [("unicode/utf8.acceptRanges", laid_unicode_utf8_acceptRanges), ("unicode/utf8.first", laid_unicode_utf8_first)] }
def AbbrevChoosesSaid : Prop := abbrevChoosesRow.holds Tryd.pinned (OpenSpec.ofChange abbrevChoosesSpec)

/-- ITS FALSE NEIGHBOUR: 'it returns false'. Refute it at one input. -/
def abbrevChoosesWrong : ChangeSpec := { name := "abbrevChooses", fn := fun _ => fun
  | [d1, d2] => { results := [.lit (.bool false)], args := [d1, d2] }
  | _ => none }
def AbbrevChoosesWrongFalsely : Prop := abbrevChoosesRow.holds Tryd.pinned (OpenSpec.ofChange abbrevChoosesWrong)

/-- 'clewlaw07.AbbrevCuts': WHATEVER THE INPUT: true; the input reads as it did. -/
def abbrevCutsSpec : ChangeSpec := { name := "abbrevCuts", fn := fun _ => fun
  | [d1, d2] => { results := [.lit (.bool true)], args := [d1, d2] }
  | _ => none }
def abbrevCutsRow : OpenClaim := { program := "ytfbpbpapfkimfaadoor", sum := "c16fecb62c7197b8c13f90d36f00f9b7670a4d9f639faa91c55d5b43e927cf95", func := "clew/clewlaw07.AbbrevCuts", spec := "abbrevCuts", inPlace := ["internal/bytealg.CountString", "internal/bytealg.IndexByteString", "internal/bytealg.IndexString", "internal/abi.NoEscape"], unfollowed := true, recurses := true, named := ["unicode/utf8.first", "unicode/utf8.acceptRanges", "internal/bytealg.MaxLen"], apart := false, laid := [("unicode/utf8.acceptRanges", laid_unicode_utf8_acceptRanges), ("unicode/utf8.first", laid_unicode_utf8_first)] }
def AbbrevCutsSaid : Prop := abbrevCutsRow.holds Tryd.pinned (OpenSpec.ofChange abbrevCutsSpec)

/-- ITS FALSE NEIGHBOUR: 'it returns false'. Refute it at one input. -/
def abbrevCutsWrong : ChangeSpec := { name := "abbrevCuts", fn := fun _ => fun
  | [d1, d2] => { results := [.lit (.bool false)], args := [d1, d2] }
  | _ => none }
def AbbrevCutsWrongFalsely : Prop := abbrevCutsRow.holds Tryd.pinned (OpenSpec.ofChange abbrevCutsWrong)

/-- 'clewlaw07.AbbrevBack': WHATEVER THE INPUT: true; the input reads as it did. -/
def abbrevBackSpec : ChangeSpec := { name := "abbrevBack", fn := fun _ => fun
  | [d1, d2, d3] => { results := [.lit (.bool true)], args := [d1, d2, d3] }
  | _ => none }
def abbrevBackRow : OpenClaim := { program := "ytfbpbpapfkimfaadoor", sum := "c16fecb62c7197b8c13f90d36f00f9b7670a4d9f639faa91c55d5b43e927cf95", func := "clew/clewlaw07.AbbrevBack", spec := "abbrevBack", inPlace := ["internal/bytealg.CountString", "internal/bytealg.IndexByteString", "internal/bytealg.IndexString", "internal/abi.NoEscape"], unfollowed := true, recurses := true, named := ["unicode/utf8.first", "unicode/utf8.acceptRanges", "internal/bytealg.MaxLen"], apart := false, laid := [("unicode/utf8.acceptRanges", laid_unicode_utf8_acceptRanges), ("unicode/utf8.first", laid_unicode_utf8_first)] }
def AbbrevBackSaid : Prop := abbrevBackRow.holds Tryd.pinned (OpenSpec.ofChange abbrevBackSpec)

/-- ITS FALSE NEIGHBOUR: 'it returns false'. Refute it at one input. -/
def abbrevBackWrong : ChangeSpec := { name := "abbrevBack", fn := fun _ => fun
  | [d1, d2, d3] => { results := [.lit (.bool false)], args := [d1, d2, d3] }
  | _ => none }
def AbbrevBackWrongFalsely : Prop := abbrevBackRow.holds Tryd.pinned (OpenSpec.ofChange abbrevBackWrong)

/-- 'clewlaw07.AbbrevJoins': WHATEVER THE INPUT: true; the input reads as it did. -/
def abbrevJoinsSpec : ChangeSpec := { name := "abbrevJoins", fn := fun _ => fun
  | [d1, d2] => { results := [.lit (.bool true)], args := [d1, d2] }
  | _ => none }
def abbrevJoinsRow : OpenClaim := { program := "ytfbpbpapfkimfaadoor", sum := "c16fecb62c7197b8c13f90d36f00f9b7670a4d9f639faa91c55d5b43e927cf95", func := "clew/clewlaw07.AbbrevJoins", spec := "abbrevJoins", inPlace := ["internal/bytealg.CountString", "internal/bytealg.IndexByteString", "internal/bytealg.IndexString", "internal/abi.NoEscape"], unfollowed := true, recurses := true, named := ["unicode/utf8.first", "unicode/utf8.acceptRanges", "internal/bytealg.MaxLen"], apart := false, laid := [("unicode/utf8.acceptRanges", laid_unicode_utf8_acceptRanges), ("unicode/utf8.first", laid_unicode_utf8_first)] }
def AbbrevJoinsSaid : Prop := abbrevJoinsRow.holds Tryd.pinned (OpenSpec.ofChange abbrevJoinsSpec)

/-- ITS FALSE NEIGHBOUR: 'it returns false'. Refute it at one input. -/
def abbrevJoinsWrong : ChangeSpec := { name := "abbrevJoins", fn := fun _ => fun
  | [d1, d2] => { results := [.lit (.bool false)], args := [d1, d2] }
  | _ => none }
def AbbrevJoinsWrongFalsely : Prop := abbrevJoinsRow.holds Tryd.pinned (OpenSpec.ofChange abbrevJoinsWrong)

/-- 'clewlaw07.AbbrevPays': WHATEVER THE INPUT: true; the input reads as it did. -/
def abbrevPaysSpec : ChangeSpec := { name := "abbrevPays", fn := fun _ => fun
  | [d1, d2] => { results := [.lit (.bool true)], args := [d1, d2] }
  | _ => none }
def abbrevPaysRow : OpenClaim := { program := "ytfbpbpapfkimfaadoor", sum := "c16fecb62c7197b8c13f90d36f00f9b7670a4d9f639faa91c55d5b43e927cf95", func := "clew/clewlaw07.AbbrevPays", spec := "abbrevPays", inPlace := ["internal/bytealg.CountString", "internal/bytealg.IndexByteString", "internal/bytealg.IndexString", "internal/abi.NoEscape"], unfollowed := true, recurses := true, named := ["unicode/utf8.first", "unicode/utf8.acceptRanges", "internal/bytealg.MaxLen"], apart := false, laid := [("unicode/utf8.acceptRanges", laid_unicode_utf8_acceptRanges), ("unicode/utf8.first", laid_unicode_utf8_first)] }
def AbbrevPaysSaid : Prop := abbrevPaysRow.holds Tryd.pinned (OpenSpec.ofChange abbrevPaysSpec)

/-- ITS FALSE NEIGHBOUR: 'it returns false'. Refute it at one input. -/
def abbrevPaysWrong : ChangeSpec := { name := "abbrevPays", fn := fun _ => fun
  | [d1, d2] => { results := [.lit (.bool false)], args := [d1, d2] }
  | _ => none }
def AbbrevPaysWrongFalsely : Prop := abbrevPaysRow.holds Tryd.pinned (OpenSpec.ofChange abbrevPaysWrong)

/-- 'clewlaw07.AbbrevPlain': WHATEVER THE INPUT: true; the input reads as it did. -/
def abbrevPlainSpec : ChangeSpec := { name := "abbrevPlain", fn := fun _ => fun
  | [d1, d2] => { results := [.lit (.bool true)], args := [d1, d2] }
  | _ => none }
def abbrevPlainRow : OpenClaim := { program := "ytfbpbpapfkimfaadoor", sum := "c16fecb62c7197b8c13f90d36f00f9b7670a4d9f639faa91c55d5b43e927cf95", func := "clew/clewlaw07.AbbrevPlain", spec := "abbrevPlain", inPlace := ["internal/bytealg.CountString", "internal/bytealg.IndexByteString", "internal/bytealg.IndexString", "internal/abi.NoEscape"], unfollowed := true, recurses := true, named := ["unicode/utf8.first", "unicode/utf8.acceptRanges", "internal/bytealg.MaxLen"], apart := false, laid := [("unicode/utf8.acceptRanges", laid_unicode_utf8_acceptRanges), ("unicode/utf8.first", laid_unicode_utf8_first)] }
def AbbrevPlainSaid : Prop := abbrevPlainRow.holds Tryd.pinned (OpenSpec.ofChange abbrevPlainSpec)

/-- ITS FALSE NEIGHBOUR: 'it returns false'. Refute it at one input. -/
def abbrevPlainWrong : ChangeSpec := { name := "abbrevPlain", fn := fun _ => fun
  | [d1, d2] => { results := [.lit (.bool false)], args := [d1, d2] }
  | _ => none }
def AbbrevPlainWrongFalsely : Prop := abbrevPlainRow.holds Tryd.pinned (OpenSpec.ofChange abbrevPlainWrong)

/- THE SECOND FORM. 'bulk': how many values and letters a reading holds, each counted each time it is reached (what is shared counts as often as it is met; a slice's spare places count too). A statement '..UptoSaid' is the law's where the arguments, and the package variables that the reading takes, are together of bulk at most 1048576: NARROWER than '..Said'. Prove '..Said' where nothing that the law and all that it calls make is longer than what came in: it says more and counts as full. Else prove '..UptoSaid'. A law counts once. -/
mutual
def uptoBulk {H : Type} : DataW H → Nat
  | .lit (.string bytes) => bytes.length + 1
  | .lit _ => 1
  | .nil => 1
  | .ptr d => uptoBulk d + 1
  | .slice elems spare => uptoBulkAll elems + uptoBulkAll spare + 1
  | .agg parts => uptoBulkAll parts + 1
  | .iface _ d => uptoBulk d + 1
  | .map entries => uptoBulkEntries entries + 1
  | .held _ => 1
def uptoBulkAll {H : Type} : List (DataW H) → Nat
  | [] => 0
  | d :: r => uptoBulk d + uptoBulkAll r
def uptoBulkEntries {H : Type} : List (Lit × DataW H) → Nat
  | [] => 0
  | x :: r => uptoBulkEntry x + uptoBulkEntries r
def uptoBulkEntry {H : Type} : Lit × DataW H → Nat
  | (.string bytes, d) => bytes.length + uptoBulk d + 1
  | (_, d) => uptoBulk d + 1
 end
def uptoSmall : (H : Type) → List (DataW H) → Bool := fun _ ds => decide (uptoBulkAll ds ≤ 1048576)
def OpenSpec.upto (s : _root_.Go.ChangeSpec) : _root_.Go.OpenSpec := { _root_.Go.OpenSpec.ofChange s with cond := some uptoSmall }

/-- 'clewlaw07.AbbrevChooses', WHERE WHAT IT READS IS OF BULK AT MOST 1048576: true; the input reads as it did. -/
def abbrevChoosesUptoRow : OpenClaim := { program := "ytfbpbpapfkimfaadoor", sum := "c16fecb62c7197b8c13f90d36f00f9b7670a4d9f639faa91c55d5b43e927cf95", func := "clew/clewlaw07.AbbrevChooses", spec := "abbrevChooses", inPlace := ["internal/bytealg.CountString", "internal/bytealg.IndexByteString", "internal/bytealg.IndexString", "internal/abi.NoEscape"], unfollowed := true, recurses := true, named := ["unicode/utf8.first", "unicode/utf8.acceptRanges", "internal/bytealg.MaxLen"], apart := false, laid := [("unicode/utf8.acceptRanges", laid_unicode_utf8_acceptRanges), ("unicode/utf8.first", laid_unicode_utf8_first)], narrowed := true }
def AbbrevChoosesUptoSaid : Prop := abbrevChoosesUptoRow.holds Tryd.pinned (OpenSpec.upto abbrevChoosesSpec)

/-- 'clewlaw07.AbbrevCuts', WHERE WHAT IT READS IS OF BULK AT MOST 1048576: true; the input reads as it did. -/
def abbrevCutsUptoRow : OpenClaim := { program := "ytfbpbpapfkimfaadoor", sum := "c16fecb62c7197b8c13f90d36f00f9b7670a4d9f639faa91c55d5b43e927cf95", func := "clew/clewlaw07.AbbrevCuts", spec := "abbrevCuts", inPlace := ["internal/bytealg.CountString", "internal/bytealg.IndexByteString", "internal/bytealg.IndexString", "internal/abi.NoEscape"], unfollowed := true, recurses := true, named := ["unicode/utf8.first", "unicode/utf8.acceptRanges", "internal/bytealg.MaxLen"], apart := false, laid := [("unicode/utf8.acceptRanges", laid_unicode_utf8_acceptRanges), ("unicode/utf8.first", laid_unicode_utf8_first)], narrowed := true }
def AbbrevCutsUptoSaid : Prop := abbrevCutsUptoRow.holds Tryd.pinned (OpenSpec.upto abbrevCutsSpec)

/-- 'clewlaw07.AbbrevBack', WHERE WHAT IT READS IS OF BULK AT MOST 1048576: true; the input reads as it did. -/
def abbrevBackUptoRow : OpenClaim := { program := "ytfbpbpapfkimfaadoor", sum := "c16fecb62c7197b8c13f90d36f00f9b7670a4d9f639faa91c55d5b43e927cf95", func := "clew/clewlaw07.AbbrevBack", spec := "abbrevBack", inPlace := ["internal/bytealg.CountString", "internal/bytealg.IndexByteString", "internal/bytealg.IndexString", "internal/abi.NoEscape"], unfollowed := true, recurses := true, named := ["unicode/utf8.first", "unicode/utf8.acceptRanges", "internal/bytealg.MaxLen"], apart := false, laid := [("unicode/utf8.acceptRanges", laid_unicode_utf8_acceptRanges), ("unicode/utf8.first", laid_unicode_utf8_first)], narrowed := true }
def AbbrevBackUptoSaid : Prop := abbrevBackUptoRow.holds Tryd.pinned (OpenSpec.upto abbrevBackSpec)

/-- 'clewlaw07.AbbrevJoins', WHERE WHAT IT READS IS OF BULK AT MOST 1048576: true; the input reads as it did. -/
def abbrevJoinsUptoRow : OpenClaim := { program := "ytfbpbpapfkimfaadoor", sum := "c16fecb62c7197b8c13f90d36f00f9b7670a4d9f639faa91c55d5b43e927cf95", func := "clew/clewlaw07.AbbrevJoins", spec := "abbrevJoins", inPlace := ["internal/bytealg.CountString", "internal/bytealg.IndexByteString", "internal/bytealg.IndexString", "internal/abi.NoEscape"], unfollowed := true, recurses := true, named := ["unicode/utf8.first", "unicode/utf8.acceptRanges", "internal/bytealg.MaxLen"], apart := false, laid := [("unicode/utf8.acceptRanges", laid_unicode_utf8_acceptRanges), ("unicode/utf8.first", laid_unicode_utf8_first)], narrowed := true }
def AbbrevJoinsUptoSaid : Prop := abbrevJoinsUptoRow.holds Tryd.pinned (OpenSpec.upto abbrevJoinsSpec)

/-- 'clewlaw07.AbbrevPays', WHERE WHAT IT READS IS OF BULK AT MOST 1048576: true; the input reads as it did. -/
def abbrevPaysUptoRow : OpenClaim := { program := "ytfbpbpapfkimfaadoor", sum := "c16fecb62c7197b8c13f90d36f00f9b7670a4d9f639faa91c55d5b43e927cf95", func := "clew/clewlaw07.AbbrevPays", spec := "abbrevPays", inPlace := ["internal/bytealg.CountString", "internal/bytealg.IndexByteString", "internal/bytealg.IndexString", "internal/abi.NoEscape"], unfollowed := true, recurses := true, named := ["unicode/utf8.first", "unicode/utf8.acceptRanges", "internal/bytealg.MaxLen"], apart := false, laid := [("unicode/utf8.acceptRanges", laid_unicode_utf8_acceptRanges), ("unicode/utf8.first", laid_unicode_utf8_first)], narrowed := true }
def AbbrevPaysUptoSaid : Prop := abbrevPaysUptoRow.holds Tryd.pinned (OpenSpec.upto abbrevPaysSpec)

/-- 'clewlaw07.AbbrevPlain', WHERE WHAT IT READS IS OF BULK AT MOST 1048576: true; the input reads as it did. -/
def abbrevPlainUptoRow : OpenClaim := { program := "ytfbpbpapfkimfaadoor", sum := "c16fecb62c7197b8c13f90d36f00f9b7670a4d9f639faa91c55d5b43e927cf95", func := "clew/clewlaw07.AbbrevPlain", spec := "abbrevPlain", inPlace := ["internal/bytealg.CountString", "internal/bytealg.IndexByteString", "internal/bytealg.IndexString", "internal/abi.NoEscape"], unfollowed := true, recurses := true, named := ["unicode/utf8.first", "unicode/utf8.acceptRanges", "internal/bytealg.MaxLen"], apart := false, laid := [("unicode/utf8.acceptRanges", laid_unicode_utf8_acceptRanges), ("unicode/utf8.first", laid_unicode_utf8_first)], narrowed := true }
def AbbrevPlainUptoSaid : Prop := abbrevPlainUptoRow.holds Tryd.pinned (OpenSpec.upto abbrevPlainSpec)

end Rows
end Go.Proofs.YtfbpbpapfkimfaaDoor
