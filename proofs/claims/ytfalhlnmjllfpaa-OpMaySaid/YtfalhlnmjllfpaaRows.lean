/-
  No cell of these rows narrows 'for every input' (looked for: loops, veiled, ifaces, maps, wideKeys, modest, calm, conditions, laid).
  DERIVED. THE GIVEN ROWS OF THIS SEAT. 5 by the template 'for every input the law returns true; each argument reads behind the call as it read before'; 0 by the template 'total and deterministic' (their statements: YtfalhlnmjllfpaaTotals.lean).
  GIVEN WITH THE SEED: the statements are not yours to turn. If you find one false, say at which input.
  Laid BY PROGRAM, IN A SANDBOX (cutbox-rows.mjs): the forced cells as the released guide's own fill.sh prints them over the translation d3265d310a774392… (all of the seat's roots in one cut). By AI agents, Wed Nov 11 2026. No macro, syntax, notation, axiom, sorry.
-/
import Derived.Test.YtfalhlnmjllfpaaChecked
import GoSem.Claim
import GoSem.ClaimJoined
import GoSem.ClaimMapViews
import Derived.JoinedTies
import Derived.KernelRfl
namespace Go.Proofs.Ytfalhlnmjllfpaa
/- THE CELL 'sum', in the pinned program and in every row, IS THE sha256 OF THE DUMP (.gsa) THAT YtfalhlnmjllfpaaProg.lean LOADS. Nothing in Lean hashes anything: it is a label: what it is worth is what the hold of that sum in a sandbox is worth. -/
noncomputable def Try.pinned : Pinned := { name := "ytfalhlnmjllfpaa", sum := "d3265d310a77439211b277d15e9b885df4734b95b8f1244508e80985471b951a", checked := Try.checked }
namespace Rows
def none {H : Type} : Left H := { results := [], args := [] }

/-- 'clewlaw27.OpNames': WHATEVER THE INPUT: true; the input reads as it did. -/
def opNamesSpec : ChangeSpec := { name := "opNames", fn := fun _ => fun
  | [d1, d2] => { results := [.lit (.bool true)], args := [d1, d2] }
  | _ => none }
def opNamesRow : OpenClaim := { program := "ytfalhlnmjllfpaa", sum := "d3265d310a77439211b277d15e9b885df4734b95b8f1244508e80985471b951a", func := "clew/clewlaw27.OpNames", spec := "opNames", apart := false }
def OpNamesSaid : Prop := opNamesRow.holds Try.pinned (OpenSpec.ofChange opNamesSpec)

/-- ITS FALSE NEIGHBOUR: 'it returns false'. Refute it at one input. -/
def opNamesWrong : ChangeSpec := { name := "opNames", fn := fun _ => fun
  | [d1, d2] => { results := [.lit (.bool false)], args := [d1, d2] }
  | _ => none }
def OpNamesWrongFalsely : Prop := opNamesRow.holds Try.pinned (OpenSpec.ofChange opNamesWrong)

/-- 'clewlaw27.OpCodes': WHATEVER THE INPUT: true; the input reads as it did. -/
def opCodesSpec : ChangeSpec := { name := "opCodes", fn := fun _ => fun
  | [d1, d2, d3] => { results := [.lit (.bool true)], args := [d1, d2, d3] }
  | _ => none }
def opCodesRow : OpenClaim := { program := "ytfalhlnmjllfpaa", sum := "d3265d310a77439211b277d15e9b885df4734b95b8f1244508e80985471b951a", func := "clew/clewlaw27.OpCodes", spec := "opCodes", apart := false }
def OpCodesSaid : Prop := opCodesRow.holds Try.pinned (OpenSpec.ofChange opCodesSpec)

/-- ITS FALSE NEIGHBOUR: 'it returns false'. Refute it at one input. -/
def opCodesWrong : ChangeSpec := { name := "opCodes", fn := fun _ => fun
  | [d1, d2, d3] => { results := [.lit (.bool false)], args := [d1, d2, d3] }
  | _ => none }
def OpCodesWrongFalsely : Prop := opCodesRow.holds Try.pinned (OpenSpec.ofChange opCodesWrong)

/-- 'clewlaw27.OpBack': WHATEVER THE INPUT: true; the input reads as it did. -/
def opBackSpec : ChangeSpec := { name := "opBack", fn := fun _ => fun
  | [d1, d2, d3] => { results := [.lit (.bool true)], args := [d1, d2, d3] }
  | _ => none }
def opBackRow : OpenClaim := { program := "ytfalhlnmjllfpaa", sum := "d3265d310a77439211b277d15e9b885df4734b95b8f1244508e80985471b951a", func := "clew/clewlaw27.OpBack", spec := "opBack", apart := false }
def OpBackSaid : Prop := opBackRow.holds Try.pinned (OpenSpec.ofChange opBackSpec)

/-- ITS FALSE NEIGHBOUR: 'it returns false'. Refute it at one input. -/
def opBackWrong : ChangeSpec := { name := "opBack", fn := fun _ => fun
  | [d1, d2, d3] => { results := [.lit (.bool false)], args := [d1, d2, d3] }
  | _ => none }
def OpBackWrongFalsely : Prop := opBackRow.holds Try.pinned (OpenSpec.ofChange opBackWrong)

/-- 'clewlaw27.OpMay': WHATEVER THE INPUT: true; the input reads as it did. -/
def opMaySpec : ChangeSpec := { name := "opMay", fn := fun _ => fun
  | [d1, d2] => { results := [.lit (.bool true)], args := [d1, d2] }
  | _ => none }
def opMayRow : OpenClaim := { program := "ytfalhlnmjllfpaa", sum := "d3265d310a77439211b277d15e9b885df4734b95b8f1244508e80985471b951a", func := "clew/clewlaw27.OpMay", spec := "opMay", apart := false }
def OpMaySaid : Prop := opMayRow.holds Try.pinned (OpenSpec.ofChange opMaySpec)

/-- ITS FALSE NEIGHBOUR: 'it returns false'. Refute it at one input. -/
def opMayWrong : ChangeSpec := { name := "opMay", fn := fun _ => fun
  | [d1, d2] => { results := [.lit (.bool false)], args := [d1, d2] }
  | _ => none }
def OpMayWrongFalsely : Prop := opMayRow.holds Try.pinned (OpenSpec.ofChange opMayWrong)

/-- 'clewlaw27.OpRight': WHATEVER THE INPUT: true; the input reads as it did. -/
def opRightSpec : ChangeSpec := { name := "opRight", fn := fun _ => fun
  | [d1, d2] => { results := [.lit (.bool true)], args := [d1, d2] }
  | _ => none }
def opRightRow : OpenClaim := { program := "ytfalhlnmjllfpaa", sum := "d3265d310a77439211b277d15e9b885df4734b95b8f1244508e80985471b951a", func := "clew/clewlaw27.OpRight", spec := "opRight", apart := false }
def OpRightSaid : Prop := opRightRow.holds Try.pinned (OpenSpec.ofChange opRightSpec)

/-- ITS FALSE NEIGHBOUR: 'it returns false'. Refute it at one input. -/
def opRightWrong : ChangeSpec := { name := "opRight", fn := fun _ => fun
  | [d1, d2] => { results := [.lit (.bool false)], args := [d1, d2] }
  | _ => none }
def OpRightWrongFalsely : Prop := opRightRow.holds Try.pinned (OpenSpec.ofChange opRightWrong)

/- THE SECOND FORM. 'bulk': how many values and letters a reading holds, each counted each time it is reached (what is shared counts as often as it is met; a slice's spare places count too). A statement '..UptoSaid' is the law's where the arguments, and the package variables that the reading takes, are together of bulk at most 1048576: NARROWER than '..Said'. Prove '..Said' where nothing that the law and all that it calls make is longer than what came in: it says more and counts as full. Else prove '..UptoSaid'. A law counts once. -/
mutual
def uptoBulk {H : Type} : DataW H → Nat
  | .lit (.string bytes) => bytes.length + 1
  | .lit _ => 1
  | .nil => 1
  | .ptr d => uptoBulk d + 1
  | .slice elems spare => uptoBulkAll elems + uptoBulkAll spare + 1
  | .agg parts => uptoBulkAll parts + 1
  | .iface _ d => uptoBulk d + 1
  | .map entries => uptoBulkEntries entries + 1
  | .held _ => 1
def uptoBulkAll {H : Type} : List (DataW H) → Nat
  | [] => 0
  | d :: r => uptoBulk d + uptoBulkAll r
def uptoBulkEntries {H : Type} : List (Lit × DataW H) → Nat
  | [] => 0
  | x :: r => uptoBulkEntry x + uptoBulkEntries r
def uptoBulkEntry {H : Type} : Lit × DataW H → Nat
  | (.string bytes, d) => bytes.length + uptoBulk d + 1
  | (_, d) => uptoBulk d + 1
 end
def uptoSmall : (H : Type) → List (DataW H) → Bool := fun _ ds => decide (uptoBulkAll ds ≤ 1048576)
def OpenSpec.upto (s : _root_.Go.ChangeSpec) : _root_.Go.OpenSpec := { _root_.Go.OpenSpec.ofChange s with cond := some uptoSmall }

/-- 'clewlaw27.OpNames', WHERE WHAT IT READS IS OF BULK AT MOST 1048576: true; the input reads as it did. -/
def opNamesUptoRow : OpenClaim := { program := "ytfalhlnmjllfpaa", sum := "d3265d310a77439211b277d15e9b885df4734b95b8f1244508e80985471b951a", func := "clew/clewlaw27.OpNames", spec := "opNames", apart := false, narrowed := true }
def OpNamesUptoSaid : Prop := opNamesUptoRow.holds Try.pinned (OpenSpec.upto opNamesSpec)

/-- 'clewlaw27.OpCodes', WHERE WHAT IT READS IS OF BULK AT MOST 1048576: true; the input reads as it did. -/
def opCodesUptoRow : OpenClaim := { program := "ytfalhlnmjllfpaa", sum := "d3265d310a77439211b277d15e9b885df4734b95b8f1244508e80985471b951a", func := "clew/clewlaw27.OpCodes", spec := "opCodes", apart := false, narrowed := true }
def OpCodesUptoSaid : Prop := opCodesUptoRow.holds Try.pinned (OpenSpec.upto opCodesSpec)

/-- 'clewlaw27.OpBack', WHERE WHAT IT READS IS OF BULK AT MOST 1048576: true; the input reads as it did. -/
def opBackUptoRow : OpenClaim := { program := "ytfalhlnmjllfpaa", sum := "d3265d310a77439211b277d15e9b885df4734b95b8f1244508e80985471b951a", func := "clew/clewlaw27.OpBack", spec := "opBack", apart := false, narrowed := true }
def OpBackUptoSaid : Prop := opBackUptoRow.holds Try.pinned (OpenSpec.upto opBackSpec)

/-- 'clewlaw27.OpMay', WHERE WHAT IT READS IS OF BULK AT MOST 1048576: true; the input reads as it did. -/
def opMayUptoRow : OpenClaim := { program := "ytfalhlnmjllfpaa", sum := "d3265d310a77439211b277d15e9b885df4734b95b8f1244508e80985471b951a", func := "clew/clewlaw27.OpMay", spec := "opMay", apart := false, narrowed := true }
def OpMayUptoSaid : Prop := opMayUptoRow.holds Try.pinned (OpenSpec.upto opMaySpec)

/-- 'clewlaw27.OpRight', WHERE WHAT IT READS IS OF BULK AT MOST 1048576: true; the input reads as it did. -/
def opRightUptoRow : OpenClaim := { program := "ytfalhlnmjllfpaa", sum := "d3265d310a77439211b277d15e9b885df4734b95b8f1244508e80985471b951a", func := "clew/clewlaw27.OpRight", spec := "opRight", apart := false, narrowed := true }
def OpRightUptoSaid : Prop := opRightUptoRow.holds Try.pinned (OpenSpec.upto opRightSpec)

end Rows
end Go.Proofs.Ytfalhlnmjllfpaa
