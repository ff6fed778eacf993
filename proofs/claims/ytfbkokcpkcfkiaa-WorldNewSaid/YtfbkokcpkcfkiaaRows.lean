/-
  No cell of these rows narrows 'for every input' (looked for: loops, veiled, ifaces, maps, wideKeys, modest, calm, conditions, laid).
  DERIVED. THE GIVEN ROWS OF THIS SEAT. 5 by the template 'for every input the law returns true; each argument reads behind the call as it read before'; 0 by the template 'total and deterministic' (their statements: YtfbkokcpkcfkiaaTotals.lean).
  GIVEN WITH THE SEED: the statements are not yours to turn. If you find one false, say at which input.
  Laid BY PROGRAM, IN A SANDBOX (cutbox-rows.mjs): the forced cells as the released guide's own fill.sh prints them over the translation c71434f0b3932e92… (all of the seat's roots in one cut). By AI agents, Wed Nov 11 2026. No macro, syntax, notation, axiom, sorry.
-/
import Derived.Test.YtfbkokcpkcfkiaaChecked
import GoSem.Claim
import GoSem.ClaimJoined
import GoSem.ClaimMapViews
import Derived.JoinedTies
import Derived.KernelRfl
namespace Go.Proofs.Ytfbkokcpkcfkiaa
/- THE CELL 'sum', in the pinned program and in every row, IS THE sha256 OF THE DUMP (.gsa) THAT YtfbkokcpkcfkiaaProg.lean LOADS. Nothing in Lean hashes anything: it is a label: what it is worth is what the hold of that sum in a sandbox is worth. -/
noncomputable def Try.pinned : Pinned := { name := "ytfbkokcpkcfkiaa", sum := "c71434f0b3932e92346f068d3d7a2577aabe4aadc81469ac7e5cf57e7df68002", checked := Try.checked }
namespace Rows
def none {H : Type} : Left H := { results := [], args := [] }

/-- 'clewlaw19.WorldFits': WHATEVER THE INPUT: true; the input reads as it did. -/
def worldFitsSpec : ChangeSpec := { name := "worldFits", fn := fun _ => fun
  | [d] => { results := [.lit (.bool true)], args := [d] }
  | _ => none }
def worldFitsRow : OpenClaim := { program := "ytfbkokcpkcfkiaa", sum := "c71434f0b3932e92346f068d3d7a2577aabe4aadc81469ac7e5cf57e7df68002", func := "clew/clewlaw19.WorldFits", spec := "worldFits", unfollowed := true, recurses := true, apart := false }
def WorldFitsSaid : Prop := worldFitsRow.holds Try.pinned (OpenSpec.ofChange worldFitsSpec)

/-- ITS FALSE NEIGHBOUR: 'it returns false'. Refute it at one input. -/
def worldFitsWrong : ChangeSpec := { name := "worldFits", fn := fun _ => fun
  | [d] => { results := [.lit (.bool false)], args := [d] }
  | _ => none }
def WorldFitsWrongFalsely : Prop := worldFitsRow.holds Try.pinned (OpenSpec.ofChange worldFitsWrong)

/-- 'clewlaw19.WorldSame': WHATEVER THE INPUT: true; the input reads as it did. -/
def worldSameSpec : ChangeSpec := { name := "worldSame", fn := fun _ => fun
  | [d1, d2] => { results := [.lit (.bool true)], args := [d1, d2] }
  | _ => none }
def worldSameRow : OpenClaim := { program := "ytfbkokcpkcfkiaa", sum := "c71434f0b3932e92346f068d3d7a2577aabe4aadc81469ac7e5cf57e7df68002", func := "clew/clewlaw19.WorldSame", spec := "worldSame", unfollowed := true, recurses := true, apart := false }
def WorldSameSaid : Prop := worldSameRow.holds Try.pinned (OpenSpec.ofChange worldSameSpec)

/-- ITS FALSE NEIGHBOUR: 'it returns false'. Refute it at one input. -/
def worldSameWrong : ChangeSpec := { name := "worldSame", fn := fun _ => fun
  | [d1, d2] => { results := [.lit (.bool false)], args := [d1, d2] }
  | _ => none }
def WorldSameWrongFalsely : Prop := worldSameRow.holds Try.pinned (OpenSpec.ofChange worldSameWrong)

/-- 'clewlaw19.WorldKey': WHATEVER THE INPUT: true; the input reads as it did. -/
def worldKeySpec : ChangeSpec := { name := "worldKey", fn := fun _ => fun
  | [d1, d2] => { results := [.lit (.bool true)], args := [d1, d2] }
  | _ => none }
def worldKeyRow : OpenClaim := { program := "ytfbkokcpkcfkiaa", sum := "c71434f0b3932e92346f068d3d7a2577aabe4aadc81469ac7e5cf57e7df68002", func := "clew/clewlaw19.WorldKey", spec := "worldKey", unfollowed := true, recurses := true, apart := false }
def WorldKeySaid : Prop := worldKeyRow.holds Try.pinned (OpenSpec.ofChange worldKeySpec)

/-- ITS FALSE NEIGHBOUR: 'it returns false'. Refute it at one input. -/
def worldKeyWrong : ChangeSpec := { name := "worldKey", fn := fun _ => fun
  | [d1, d2] => { results := [.lit (.bool false)], args := [d1, d2] }
  | _ => none }
def WorldKeyWrongFalsely : Prop := worldKeyRow.holds Try.pinned (OpenSpec.ofChange worldKeyWrong)

/-- 'clewlaw19.WorldNew': WHATEVER THE INPUT: true; the input reads as it did. -/
def worldNewSpec : ChangeSpec := { name := "worldNew", fn := fun _ => fun
  | [d] => { results := [.lit (.bool true)], args := [d] }
  | _ => none }
def worldNewRow : OpenClaim := { program := "ytfbkokcpkcfkiaa", sum := "c71434f0b3932e92346f068d3d7a2577aabe4aadc81469ac7e5cf57e7df68002", func := "clew/clewlaw19.WorldNew", spec := "worldNew", unfollowed := true, recurses := true, apart := false }
def WorldNewSaid : Prop := worldNewRow.holds Try.pinned (OpenSpec.ofChange worldNewSpec)

/-- ITS FALSE NEIGHBOUR: 'it returns false'. Refute it at one input. -/
def worldNewWrong : ChangeSpec := { name := "worldNew", fn := fun _ => fun
  | [d] => { results := [.lit (.bool false)], args := [d] }
  | _ => none }
def WorldNewWrongFalsely : Prop := worldNewRow.holds Try.pinned (OpenSpec.ofChange worldNewWrong)

/-- 'clewlaw19.WorldRight': WHATEVER THE INPUT: true; the input reads as it did. -/
def worldRightSpec : ChangeSpec := { name := "worldRight", fn := fun _ => fun
  | [d1, d2] => { results := [.lit (.bool true)], args := [d1, d2] }
  | _ => none }
def worldRightRow : OpenClaim := { program := "ytfbkokcpkcfkiaa", sum := "c71434f0b3932e92346f068d3d7a2577aabe4aadc81469ac7e5cf57e7df68002", func := "clew/clewlaw19.WorldRight", spec := "worldRight", unfollowed := true, recurses := true, apart := false }
def WorldRightSaid : Prop := worldRightRow.holds Try.pinned (OpenSpec.ofChange worldRightSpec)

/-- ITS FALSE NEIGHBOUR: 'it returns false'. Refute it at one input. -/
def worldRightWrong : ChangeSpec := { name := "worldRight", fn := fun _ => fun
  | [d1, d2] => { results := [.lit (.bool false)], args := [d1, d2] }
  | _ => none }
def WorldRightWrongFalsely : Prop := worldRightRow.holds Try.pinned (OpenSpec.ofChange worldRightWrong)

/- THE SECOND FORM. 'bulk': how many values and letters a reading holds, each counted each time it is reached (what is shared counts as often as it is met; a slice's spare places count too). A statement '..UptoSaid' is the law's where the arguments, and the package variables that the reading takes, are together of bulk at most 1048576: NARROWER than '..Said'. Prove '..Said' where nothing that the law and all that it calls make is longer than what came in: it says more and counts as full. Else prove '..UptoSaid'. A law counts once. -/
mutual
def uptoBulk {H : Type} : DataW H → Nat
  | .lit (.string bytes) => bytes.length + 1
  | .lit _ => 1
  | .nil => 1
  | .ptr d => uptoBulk d + 1
  | .slice elems spare => uptoBulkAll elems + uptoBulkAll spare + 1
  | .agg parts => uptoBulkAll parts + 1
  | .iface _ d => uptoBulk d + 1
  | .map entries => uptoBulkEntries entries + 1
  | .held _ => 1
def uptoBulkAll {H : Type} : List (DataW H) → Nat
  | [] => 0
  | d :: r => uptoBulk d + uptoBulkAll r
def uptoBulkEntries {H : Type} : List (Lit × DataW H) → Nat
  | [] => 0
  | x :: r => uptoBulkEntry x + uptoBulkEntries r
def uptoBulkEntry {H : Type} : Lit × DataW H → Nat
  | (.string bytes, d) => bytes.length + uptoBulk d + 1
  | (_, d) => uptoBulk d + 1
 end
def uptoSmall : (H : Type) → List (DataW H) → Bool := fun _ ds => decide (uptoBulkAll ds ≤ 1048576)
def OpenSpec.upto (s : _root_.Go.ChangeSpec) : _root_.Go.OpenSpec := { _root_.Go.OpenSpec.ofChange s with cond := some uptoSmall }

/-- 'clewlaw19.WorldFits', WHERE WHAT IT READS IS OF BULK AT MOST 1048576: true; the input reads as it did. -/
def worldFitsUptoRow : OpenClaim := { program := "ytfbkokcpkcfkiaa", sum := "c71434f0b3932e92346f068d3d7a2577aabe4aadc81469ac7e5cf57e7df68002", func := "clew/clewlaw19.WorldFits", spec := "worldFits", unfollowed := true, recurses := true, apart := false, narrowed := true }
def WorldFitsUptoSaid : Prop := worldFitsUptoRow.holds Try.pinned (OpenSpec.upto worldFitsSpec)

/-- 'clewlaw19.WorldSame', WHERE WHAT IT READS IS OF BULK AT MOST 1048576: true; the input reads as it did. -/
def worldSameUptoRow : OpenClaim := { program := "ytfbkokcpkcfkiaa", sum := "c71434f0b3932e92346f068d3d7a2577aabe4aadc81469ac7e5cf57e7df68002", func := "clew/clewlaw19.WorldSame", spec := "worldSame", unfollowed := true, recurses := true, apart := false, narrowed := true }
def WorldSameUptoSaid : Prop := worldSameUptoRow.holds Try.pinned (OpenSpec.upto worldSameSpec)

/-- 'clewlaw19.WorldKey', WHERE WHAT IT READS IS OF BULK AT MOST 1048576: true; the input reads as it did. -/
def worldKeyUptoRow : OpenClaim := { program := "ytfbkokcpkcfkiaa", sum := "c71434f0b3932e92346f068d3d7a2577aabe4aadc81469ac7e5cf57e7df68002", func := "clew/clewlaw19.WorldKey", spec := "worldKey", unfollowed := true, recurses := true, apart := false, narrowed := true }
def WorldKeyUptoSaid : Prop := worldKeyUptoRow.holds Try.pinned (OpenSpec.upto worldKeySpec)

/-- 'clewlaw19.WorldNew', WHERE WHAT IT READS IS OF BULK AT MOST 1048576: true; the input reads as it did. -/
def worldNewUptoRow : OpenClaim := { program := "ytfbkokcpkcfkiaa", sum := "c71434f0b3932e92346f068d3d7a2577aabe4aadc81469ac7e5cf57e7df68002", func := "clew/clewlaw19.WorldNew", spec := "worldNew", unfollowed := true, recurses := true, apart := false, narrowed := true }
def WorldNewUptoSaid : Prop := worldNewUptoRow.holds Try.pinned (OpenSpec.upto worldNewSpec)

/-- 'clewlaw19.WorldRight', WHERE WHAT IT READS IS OF BULK AT MOST 1048576: true; the input reads as it did. -/
def worldRightUptoRow : OpenClaim := { program := "ytfbkokcpkcfkiaa", sum := "c71434f0b3932e92346f068d3d7a2577aabe4aadc81469ac7e5cf57e7df68002", func := "clew/clewlaw19.WorldRight", spec := "worldRight", unfollowed := true, recurses := true, apart := false, narrowed := true }
def WorldRightUptoSaid : Prop := worldRightUptoRow.holds Try.pinned (OpenSpec.upto worldRightSpec)

end Rows
end Go.Proofs.Ytfbkokcpkcfkiaa
