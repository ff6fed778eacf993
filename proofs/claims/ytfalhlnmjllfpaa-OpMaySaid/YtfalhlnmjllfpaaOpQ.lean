/- The contract of the document's Right. -/
import Derived.Test.YtfalhlnmjllfpaaOpP
import Derived.Deep.Light
namespace Go.Proofs.Ytfalhlnmjllfpaa
open Go.RowKit Go.IntWalk
set_option maxRecDepth 100000
set_option linter.unusedVariables false
set_option linter.unusedSimpArgs false

set_option maxHeartbeats 6400000 in
theorem rright_any (x0 x1 x2 x3 : Int) (tA : Option Addr) (nT tc : Nat) (fl : Int) (pA : Option Addr) (nP pc : Nat) (gA : Option Addr) (nG gc : Nat) (A8 : Option Addr) (n8 c8 : Nat) (A9 : Option Addr) (n9 c9 : Nat) (A10 : Option Addr) (n10 c10 : Nat) (fA : Option Addr) (nF fc : Nat) (dA : Option Addr) (nD dc : Nat) (qA : Option Addr) (nQ qc : Nat) (lA : Option Addr) (nL lc : Nat) (op arg : Int) (w : World) (hT : nT ≤ 9223372036854775807) (hP : nP ≤ 9223372036854775807) (hG : nG ≤ 9223372036854775807) (hF : nF ≤ 9223372036854775807) (hD : nD ≤ 9223372036854775807) :
    Calls Try.prog 26 #[.agg #[.int .i64 x0, .int .i64 x1, .int .i64 x2, .int .i64 x3, .slice tA nT tc, .int .i64 fl, .slice pA nP pc, .slice gA nG gc, .slice A8 n8 c8, .slice A9 n9 c9, .slice A10 n10 c10, .slice fA nF fc, .slice dA nD dc, .slice qA nQ qc, .slice lA nL lc], .agg #[.int .i64 op, .int .i64 arg]] w
      fun e w' => e = .returned (.bool (rgtB fl nT nP nG nF nD op arg)) ∧ Below w.heap.size w w' := by
  have hbx := ((Below.refl w.heap.size w).alloc (Nat.le_refl _) (.cells #[.int .i64 x0, .int .i64 x1, .int .i64 x2, .int .i64 x3, .slice tA nT tc, .int .i64 fl, .slice pA nP pc, .slice gA nG gc, .slice A8 n8 c8, .slice A9 n9 c9, .slice A10 n10 c10, .slice fA nF fc, .slice dA nD dc, .slice qA nQ qc, .slice lA nL lc] 46)).alloc (by simp) (.cells #[.int .i64 op, .int .i64 arg] 28)
  obtain ⟨R, hR⟩ : ∃ R, rgtB fl nT nP nG nF nD op arg = R := ⟨_, rfl⟩
  rw [hR]
  have HR := Lib.hid hR
  have HBX := Lib.hid hbx
  clear hR hbx
  go_enter Try.func26, Try.ntmps26
  go_wp2_with (go_at_call 38; refine (ris_any _ _).mono ?_; rintro e w' ⟨rfl, rfl⟩)
  all_goals
    go_ret
    refine ⟨ret_bool ?_, HBX.out⟩
    rw [← HR.out]
    unfold rgtB
    simp only [*, if_true, if_false, Bool.false_eq_true, Bool.or_true, Bool.true_or, Bool.or_false, Bool.false_or, Bool.true_and, Bool.false_and, Bool.and_true, Bool.and_false]
    all_goals
      go_light
      simp only [beq_iff_eq, beq_eq_false_iff_ne, ne_eq] at *
      repeat rw [if_neg (by omega)]
      try rw [wrap64_in _ (by omega)]
      try unfold ltB
      try unfold knB
      try rw [Bool.eq_iff_iff]
      try simp
      try omega
end Go.Proofs.Ytfalhlnmjllfpaa
