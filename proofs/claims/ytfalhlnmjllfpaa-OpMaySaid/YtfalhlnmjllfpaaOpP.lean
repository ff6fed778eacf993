/- The contracts of op.Right and the document's. -/
import Derived.Test.YtfalhlnmjllfpaaOpK
import Derived.Test.YtfalhlnmjllfpaaLay
namespace Go.Proofs.Ytfalhlnmjllfpaa
open Go.RowKit Go.IntWalk
set_option maxRecDepth 100000
set_option linter.unusedVariables false
set_option linter.unusedSimpArgs false

def is16 (n : Int) : Bool := decide (-32768 ≤ n ∧ n ≤ 32767)
/-- Whether an instruction may be: of how many globals, properties, texts, functions, daemons, and flags. -/
def rgtB (fl : Int) (nT nP nG nF nD : Nat) (op arg : Int) : Bool :=
  if op == 38 then false else if op == 1 || (op == 24 || op == 25) then is16 arg else if op == 3 || op == 4 then ltB arg 0 nG else if op == 5 || op == 6 then ltB arg 0 24
  else if op == 7 then ltB arg 1 7 else if op == 19 then ltB arg 1 4 else if op == 8 then ltB arg 3 15 else if op == 12 || (op == 15 || op == 16) then ltB arg 0 fl
  else if op == 13 || op == 14 then ltB arg 0 nP else if op == 21 then ltB arg 0 nT else if op == 26 then ltB arg 0 nF else if op == 32 || op == 33 then ltB arg 0 nD
  else knB op && (arg == 0)
theorem ret_bool {a b : Bool} (h : a = b) : Ending.returned (.bool a) = .returned (.bool b) := by rw [h]
theorem is_any (n : Int) (w : World) : Calls Try.prog 36 #[.int .i64 n] w fun e w' => e = .returned (.bool (is16 n)) ∧ w = w' := by
  go_enter Try.func36, Try.ntmps36
  go_wp2
  go_ret
  exact ⟨ret_bool (by rw [w_i16, wrap64_in _ (by omega)]; unfold is16; rw [Bool.eq_iff_iff]; simp; omega), rfl⟩
theorem ris_any (n : Int) (w : World) : Calls Try.prog 38 #[.int .i64 n] w fun e w' => e = .returned (.bool (is16 n)) ∧ w = w' := by
  by_cases h1 : -32768 ≤ n
  · by_cases h2 : n ≤ 32767
    · have key : Hid (is16 n = true) := by unfold Hid is16; simp; omega
      go_enter Try.func38, Try.ntmps38
      go_wp2
      go_ret
      exact ⟨by rw [key.out]; rfl, rfl⟩
    · have key : Hid (is16 n = false) := by unfold Hid is16; simp; omega
      have h3 : 32767 < n := by omega
      go_enter Try.func38, Try.ntmps38
      go_wp2
      go_ret
      exact ⟨by rw [key.out]; rfl, rfl⟩
  · have key : Hid (is16 n = false) := by unfold Hid is16; simp; omega
    have h3 : n < -32768 := by omega
    go_enter Try.func38, Try.ntmps38
    go_wp2
    go_ret
    exact ⟨by rw [key.out]; rfl, rfl⟩
set_option maxHeartbeats 6400000 in
theorem right_any (x0 x1 x2 x3 : Int) (tA : Option Addr) (nT tc : Nat) (fl : Int) (pA : Option Addr) (nP pc : Nat) (gA : Option Addr) (nG gc : Nat) (A8 : Option Addr) (n8 c8 : Nat) (A9 : Option Addr) (n9 c9 : Nat) (A10 : Option Addr) (n10 c10 : Nat) (fA : Option Addr) (nF fc : Nat) (dA : Option Addr) (nD dc : Nat) (qA : Option Addr) (nQ qc : Nat) (lA : Option Addr) (nL lc : Nat) (op arg : Int) (w : World) :
    Calls Try.prog 20 #[.agg #[.int .i64 x0, .int .i64 x1, .int .i64 x2, .int .i64 x3, .slice tA nT tc, .int .i64 fl, .slice pA nP pc, .slice gA nG gc, .slice A8 n8 c8, .slice A9 n9 c9, .slice A10 n10 c10, .slice fA nF fc, .slice dA nD dc, .slice qA nQ qc, .slice lA nL lc], .agg #[.int .i64 op, .int .i64 arg]] w
      fun e w' => e = .returned (.bool (rgtB fl nT nP nG nF nD op arg)) ∧ Below w.heap.size w w' := by
  have hbx := ((Below.refl w.heap.size w).alloc (Nat.le_refl _) (.cells #[.int .i64 x0, .int .i64 x1, .int .i64 x2, .int .i64 x3, .slice tA nT tc, .int .i64 fl, .slice pA nP pc, .slice gA nG gc, .slice A8 n8 c8, .slice A9 n9 c9, .slice A10 n10 c10, .slice fA nF fc, .slice dA nD dc, .slice qA nQ qc, .slice lA nL lc] 46)).alloc (by simp) (.cells #[.int .i64 op, .int .i64 arg] 28)
  obtain ⟨R, hR⟩ : ∃ R, rgtB fl nT nP nG nF nD op arg = R := ⟨_, rfl⟩
  rw [hR]
  have HR := Lib.hid hR
  have HBX := Lib.hid hbx
  clear hR hbx
  cases hk : knB op
  · go_enter Try.func20, Try.ntmps20
    go_wp2_with (first | (go_at_call 36; refine (is_any _ _).mono ?_; rintro e w' ⟨rfl, rfl⟩) | (go_at_call 31; refine (opAmong_any _ _ _ _).mono ?_; rintro e w' ⟨rfl, rfl⟩) | (go_at_call 27; refine (known_any _ _).mono ?_; rw [hk]; rintro e w' ⟨rfl, rfl⟩))
    all_goals
      go_ret
      refine ⟨ret_bool ?_, HBX.out⟩
      rw [← HR.out]
      unfold rgtB
      simp only [*, if_true, if_false, Bool.false_eq_true, Bool.or_true, Bool.true_or, Bool.or_false, Bool.false_or, Bool.true_and, Bool.false_and, Bool.and_true, Bool.and_false]
  · go_enter Try.func20, Try.ntmps20
    go_wp2_with (first | (go_at_call 36; refine (is_any _ _).mono ?_; rintro e w' ⟨rfl, rfl⟩) | (go_at_call 31; refine (opAmong_any _ _ _ _).mono ?_; rintro e w' ⟨rfl, rfl⟩) | (go_at_call 27; refine (known_any _ _).mono ?_; rw [hk]; rintro e w' ⟨rfl, rfl⟩))
    all_goals
      go_ret
      refine ⟨ret_bool ?_, HBX.out⟩
      rw [← HR.out]
      unfold rgtB
      simp only [*, if_true, if_false, Bool.false_eq_true, Bool.or_true, Bool.true_or, Bool.or_false, Bool.false_or, Bool.true_and, Bool.false_and, Bool.and_true, Bool.and_false]
end Go.Proofs.Ytfalhlnmjllfpaa
