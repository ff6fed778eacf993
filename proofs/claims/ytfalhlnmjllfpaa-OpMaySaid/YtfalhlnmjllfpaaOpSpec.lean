/- The operations of chapter 27 as plain lists of numbers. No program stands in this text. -/
import Derived.Test.YtfalhlnmjllfpaaTexts
namespace Go.Proofs.Ytfalhlnmjllfpaa
set_option linter.unusedVariables false

def wrap16 (n : Int) : Int := (n + 32768) % 65536 - 32768
theorem wrap16_bd (n : Int) : -32768 ≤ wrap16 n ∧ wrap16 n ≤ 32767 := by unfold wrap16; omega
theorem wrap16_in (n : Int) (h : -32768 ≤ n ∧ n ≤ 32767) : wrap16 n = n := by unfold wrap16; omega
/-- Those that have an argument. -/
def hasL : List Int := [1, 3, 4, 5, 6, 7, 8, 12, 13, 14, 15, 16, 19, 21, 24, 25, 26, 32, 33, 38]
def hasB (n : Int) : Bool := hasL.contains n
def knB (n : Int) : Bool := decide (1 ≤ n ∧ n ≤ 38)
/-- How many bytes an argument has. -/
def sizeN (n : Int) : Nat := if n = 0 then 0 else if -128 ≤ n ∧ n ≤ 127 then 1 else 2
theorem sizeN_le (n : Int) : sizeN n ≤ 2 := by unfold sizeN; split <;> (try split) <;> omega
/-- An argument's bytes. -/
def argB (n : Int) : List Int := match sizeN n with | 0 => [] | 1 => [n % 256] | _ => [n / 256 % 256, n % 256]
theorem argB_len (n : Int) : (argB n).length = sizeN n := by
  have := sizeN_le n
  unfold argB
  match sizeN n, this with
  | 0, _ => rfl
  | 1, _ => rfl
  | 2, _ => rfl
/-- The argument that counts. -/
def insA (op arg : Int) : Int := if hasB op = true then wrap16 arg else 0
theorem insA_bd (op arg : Int) : -32768 ≤ insA op arg ∧ insA op arg ≤ 32767 := by
  unfold insA
  split
  · exact wrap16_bd arg
  · omega
/-- An instruction's bytes. -/
def opEnc (op arg : Int) : List Int := if knB op = true ∧ op ≠ 38 then (4 * op + sizeN (insA op arg)) :: argB (insA op arg) else []
/-- The argument that bytes say. -/
def argOf : List Int → Int
  | [] => 0
  | [a] => (a + 128) % 256 - 128
  | a :: b :: _ => ((a + 128) % 256 - 128) * 256 + b
/-- What stands at a place: the operation, its argument, the place behind, the error. -/
def opDec (bs : List Int) (at_ : Int) : Int × Int × Int × Int :=
  if 0 ≤ at_ ∧ at_ < bs.length then
    let x := bs.getD at_.toNat 0
    let op := x / 4
    let k := x % 4
    if knB op = false ∨ op = 38 ∨ k = 3 ∨ (0 < k ∧ hasB op = false) then (0, 0, 0, 16)
    else if (bs.length : Int) - at_ - 1 < k then (0, 0, 0, 2)
    else
      let n := argOf ((bs.drop (at_.toNat + 1)).take k.toNat)
      if (sizeN n : Int) ≠ k ∧ op ≠ 24 ∧ op ≠ 25 then (0, 0, 0, 4) else (op, n, at_ + 1 + k, 0)
  else (0, 0, 0, 2)
end Go.Proofs.Ytfalhlnmjllfpaa
