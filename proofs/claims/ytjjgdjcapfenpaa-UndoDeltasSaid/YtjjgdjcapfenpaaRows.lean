/-
  No cell of these rows narrows 'for every input' (looked for: loops, veiled, ifaces, maps, wideKeys, modest, calm, conditions, laid).
  DERIVED. THE GIVEN ROWS OF THIS SEAT. 4 by the template 'for every input the law returns true; each argument reads behind the call as it read before'; 0 by the template 'total and deterministic' (their statements: YtjjgdjcapfenpaaTotals.lean).
  GIVEN WITH THE SEED: the statements are not yours to turn. If you find one false, say at which input.
  Laid BY PROGRAM, IN A SANDBOX (cutbox-rows.mjs): the forced cells as the released guide's own fill.sh prints them over the translation 7d1fa8ede58ecce9… (all of the seat's roots in one cut). By AI agents, Wed Nov 11 2026. No macro, syntax, notation, axiom, sorry.
-/
import Derived.Test.YtjjgdjcapfenpaaChecked
import GoSem.Claim
import GoSem.ClaimJoined
import GoSem.ClaimMapViews
import Derived.JoinedTies
import Derived.KernelRfl
namespace Go.Proofs.Ytjjgdjcapfenpaa
/- THE CELL 'sum', in the pinned program and in every row, IS THE sha256 OF THE DUMP (.gsa) THAT YtjjgdjcapfenpaaProg.lean LOADS. Nothing in Lean hashes anything: it is a label: what it is worth is what the hold of that sum in a sandbox is worth. -/
noncomputable def Try.pinned : Pinned := { name := "ytjjgdjcapfenpaa", sum := "7d1fa8ede58ecce9cffaf054091fff68f2ce6d9a8a9f11745ebf930d4dd6a8f5", checked := Try.checked }
namespace Rows
def none {H : Type} : Left H := { results := [], args := [] }

/-- 'clewlaw46.UndoPushes': WHATEVER THE INPUT: true; the input reads as it did. -/
def undoPushesSpec : ChangeSpec := { name := "undoPushes", fn := fun _ => fun
  | [d1, d2] => { results := [.lit (.bool true)], args := [d1, d2] }
  | _ => none }
def undoPushesRow : OpenClaim := { program := "ytjjgdjcapfenpaa", sum := "7d1fa8ede58ecce9cffaf054091fff68f2ce6d9a8a9f11745ebf930d4dd6a8f5", func := "clew/clewlaw46.UndoPushes", spec := "undoPushes", unfollowed := true, recurses := true, apart := false }
def UndoPushesSaid : Prop := undoPushesRow.holds Try.pinned (OpenSpec.ofChange undoPushesSpec)

/-- ITS FALSE NEIGHBOUR: 'it returns false'. Refute it at one input. -/
def undoPushesWrong : ChangeSpec := { name := "undoPushes", fn := fun _ => fun
  | [d1, d2] => { results := [.lit (.bool false)], args := [d1, d2] }
  | _ => none }
def UndoPushesWrongFalsely : Prop := undoPushesRow.holds Try.pinned (OpenSpec.ofChange undoPushesWrong)

/-- 'clewlaw46.UndoPops': WHATEVER THE INPUT: true; the input reads as it did. -/
def undoPopsSpec : ChangeSpec := { name := "undoPops", fn := fun _ => fun
  | [d] => { results := [.lit (.bool true)], args := [d] }
  | _ => none }
def undoPopsRow : OpenClaim := { program := "ytjjgdjcapfenpaa", sum := "7d1fa8ede58ecce9cffaf054091fff68f2ce6d9a8a9f11745ebf930d4dd6a8f5", func := "clew/clewlaw46.UndoPops", spec := "undoPops", unfollowed := true, recurses := true, apart := false }
def UndoPopsSaid : Prop := undoPopsRow.holds Try.pinned (OpenSpec.ofChange undoPopsSpec)

/-- ITS FALSE NEIGHBOUR: 'it returns false'. Refute it at one input. -/
def undoPopsWrong : ChangeSpec := { name := "undoPops", fn := fun _ => fun
  | [d] => { results := [.lit (.bool false)], args := [d] }
  | _ => none }
def UndoPopsWrongFalsely : Prop := undoPopsRow.holds Try.pinned (OpenSpec.ofChange undoPopsWrong)

/-- 'clewlaw46.UndoBack': WHATEVER THE INPUT: true; the input reads as it did. -/
def undoBackSpec : ChangeSpec := { name := "undoBack", fn := fun _ => fun
  | [d1, d2] => { results := [.lit (.bool true)], args := [d1, d2] }
  | _ => none }
def undoBackRow : OpenClaim := { program := "ytjjgdjcapfenpaa", sum := "7d1fa8ede58ecce9cffaf054091fff68f2ce6d9a8a9f11745ebf930d4dd6a8f5", func := "clew/clewlaw46.UndoBack", spec := "undoBack", unfollowed := true, recurses := true, apart := false }
def UndoBackSaid : Prop := undoBackRow.holds Try.pinned (OpenSpec.ofChange undoBackSpec)

/-- ITS FALSE NEIGHBOUR: 'it returns false'. Refute it at one input. -/
def undoBackWrong : ChangeSpec := { name := "undoBack", fn := fun _ => fun
  | [d1, d2] => { results := [.lit (.bool false)], args := [d1, d2] }
  | _ => none }
def UndoBackWrongFalsely : Prop := undoBackRow.holds Try.pinned (OpenSpec.ofChange undoBackWrong)

/-- 'clewlaw46.UndoDeltas': WHATEVER THE INPUT: true; the input reads as it did. -/
def undoDeltasSpec : ChangeSpec := { name := "undoDeltas", fn := fun _ => fun
  | [d1, d2, d3, d4] => { results := [.lit (.bool true)], args := [d1, d2, d3, d4] }
  | _ => none }
def undoDeltasRow : OpenClaim := { program := "ytjjgdjcapfenpaa", sum := "7d1fa8ede58ecce9cffaf054091fff68f2ce6d9a8a9f11745ebf930d4dd6a8f5", func := "clew/clewlaw46.UndoDeltas", spec := "undoDeltas", unfollowed := true, recurses := true, apart := false }
def UndoDeltasSaid : Prop := undoDeltasRow.holds Try.pinned (OpenSpec.ofChange undoDeltasSpec)

/-- ITS FALSE NEIGHBOUR: 'it returns false'. Refute it at one input. -/
def undoDeltasWrong : ChangeSpec := { name := "undoDeltas", fn := fun _ => fun
  | [d1, d2, d3, d4] => { results := [.lit (.bool false)], args := [d1, d2, d3, d4] }
  | _ => none }
def UndoDeltasWrongFalsely : Prop := undoDeltasRow.holds Try.pinned (OpenSpec.ofChange undoDeltasWrong)

/- THE SECOND FORM. 'bulk': how many values and letters a reading holds, each counted each time it is reached (what is shared counts as often as it is met; a slice's spare places count too). A statement '..UptoSaid' is the law's where the arguments, and the package variables that the reading takes, are together of bulk at most 1048576: NARROWER than '..Said'. Prove '..Said' where nothing that the law and all that it calls make is longer than what came in: it says more and counts as full. Else prove '..UptoSaid'. A law counts once. -/
mutual
def uptoBulk {H : Type} : DataW H → Nat
  | .lit (.string bytes) => bytes.length + 1
  | .lit _ => 1
  | .nil => 1
  | .ptr d => uptoBulk d + 1
  | .slice elems spare => uptoBulkAll elems + uptoBulkAll spare + 1
  | .agg parts => uptoBulkAll parts + 1
  | .iface _ d => uptoBulk d + 1
  | .map entries => uptoBulkEntries entries + 1
  | .held _ => 1
def uptoBulkAll {H : Type} : List (DataW H) → Nat
  | [] => 0
  | d :: r => uptoBulk d + uptoBulkAll r
def uptoBulkEntries {H : Type} : List (Lit × DataW H) → Nat
  | [] => 0
  | x :: r => uptoBulkEntry x + uptoBulkEntries r
def uptoBulkEntry {H : Type} : Lit × DataW H → Nat
  | (.string bytes, d) => bytes.length + uptoBulk d + 1
  | (_, d) => uptoBulk d + 1
 end
def uptoSmall : (H : Type) → List (DataW H) → Bool := fun _ ds => decide (uptoBulkAll ds ≤ 1048576)
def OpenSpec.upto (s : _root_.Go.ChangeSpec) : _root_.Go.OpenSpec := { _root_.Go.OpenSpec.ofChange s with cond := some uptoSmall }

/-- 'clewlaw46.UndoPushes', WHERE WHAT IT READS IS OF BULK AT MOST 1048576: true; the input reads as it did. -/
def undoPushesUptoRow : OpenClaim := { program := "ytjjgdjcapfenpaa", sum := "7d1fa8ede58ecce9cffaf054091fff68f2ce6d9a8a9f11745ebf930d4dd6a8f5", func := "clew/clewlaw46.UndoPushes", spec := "undoPushes", unfollowed := true, recurses := true, apart := false, narrowed := true }
def UndoPushesUptoSaid : Prop := undoPushesUptoRow.holds Try.pinned (OpenSpec.upto undoPushesSpec)

/-- 'clewlaw46.UndoPops', WHERE WHAT IT READS IS OF BULK AT MOST 1048576: true; the input reads as it did. -/
def undoPopsUptoRow : OpenClaim := { program := "ytjjgdjcapfenpaa", sum := "7d1fa8ede58ecce9cffaf054091fff68f2ce6d9a8a9f11745ebf930d4dd6a8f5", func := "clew/clewlaw46.UndoPops", spec := "undoPops", unfollowed := true, recurses := true, apart := false, narrowed := true }
def UndoPopsUptoSaid : Prop := undoPopsUptoRow.holds Try.pinned (OpenSpec.upto undoPopsSpec)

/-- 'clewlaw46.UndoBack', WHERE WHAT IT READS IS OF BULK AT MOST 1048576: true; the input reads as it did. -/
def undoBackUptoRow : OpenClaim := { program := "ytjjgdjcapfenpaa", sum := "7d1fa8ede58ecce9cffaf054091fff68f2ce6d9a8a9f11745ebf930d4dd6a8f5", func := "clew/clewlaw46.UndoBack", spec := "undoBack", unfollowed := true, recurses := true, apart := false, narrowed := true }
def UndoBackUptoSaid : Prop := undoBackUptoRow.holds Try.pinned (OpenSpec.upto undoBackSpec)

/-- 'clewlaw46.UndoDeltas', WHERE WHAT IT READS IS OF BULK AT MOST 1048576: true; the input reads as it did. -/
def undoDeltasUptoRow : OpenClaim := { program := "ytjjgdjcapfenpaa", sum := "7d1fa8ede58ecce9cffaf054091fff68f2ce6d9a8a9f11745ebf930d4dd6a8f5", func := "clew/clewlaw46.UndoDeltas", spec := "undoDeltas", unfollowed := true, recurses := true, apart := false, narrowed := true }
def UndoDeltasUptoSaid : Prop := undoDeltasUptoRow.holds Try.pinned (OpenSpec.upto undoDeltasSpec)

end Rows
end Go.Proofs.Ytjjgdjcapfenpaa
