/- Chapter 31: has, params of the document's trees, walked. Chapter 31: deep, walked. Chapter 31: trees of bounded rows; how deep an expression is. Chapter 31: Few, walked. Chapter 31: which trees the document's generator takes, and how long their code is. No program stands in this text. -/
import Derived.Test.YtfipllnodgbghaaVt
import Derived.Test.YtfipllnodgbghaaProg
import Derived.KernelRfl
import Derived.Test.YtfipllnodgbghaaVi
namespace Go.Proofs.Ytfipllnodgbghaa
open Go.RowKit
set_option maxRecDepth 100000
set_option linter.unusedVariables false
set_option linter.unusedSimpArgs false
set_option maxHeartbeats 800000 in
theorem has_pc (s : StmtP) (named : Bool) (n : Int) (body other : Bool) : PC Try.prog 52 [stmtAv s, vb named, vi n, vb body, vb other] (vb (hasS s named n body other)) := by
  rw [stmtAv_eq]
  refine FC.body 2 47 Try.func52 rfl (by kernel_rfl) ?_
  refine aw_seq ?_
  refine aw_text rfl ?_
  refine ch_v (R := []) rfl rfl (oc_box (x := .agg _) rfl rfl) trivial ?_
  refine ch_v (R := []) rfl rfl (oc_assign (x := .val _) rfl rfl) trivial ?_
  refine ck_nil ?_
  refine aw_seq ?_
  refine aw_text rfl ?_
  refine ch_v (R := []) rfl rfl (oc_fieldAddr (off := 3) rfl rfl rfl (by kernel_rfl) rfl) trivial ?_
  refine ch_v (R := []) rfl rfl (oc_load rfl rfl (by kernel_rfl) cells_sl) trivial ?_
  refine ch_v (R := []) rfl rfl (oc_len rfl rfl (by kernel_rfl)) trivial ?_
  refine ch_v (R := []) rfl rfl (oc_move (x := .val _) rfl rfl) trivial ?_
  refine ch_v (R := []) rfl rfl (oc_binZ rfl rfl rfl rfl) trivial ?_
  refine ch_v (R := []) rfl rfl (oc_move (x := .val _) rfl rfl) trivial ?_
  refine ch_g (R := []) rfl rfl rfl gate_t (fun hC => oc_move (x := .val _) rfl rfl) (fun hC => ⟨(by first | rfl | exact hC | (simp only [Bool.and_eq_true] at hC; first | exact hC.1 | exact hC.1.1 | exact hC.2) | simp_all), trivial⟩) trivial ?_
  refine ch_g (R := []) rfl rfl rfl gate_t (fun hC => oc_move (x := .val _) rfl rfl) (fun hC => ⟨(by first | rfl | exact hC | (simp only [Bool.and_eq_true] at hC; first | exact hC.1 | exact hC.1.1 | exact hC.2) | simp_all), trivial⟩) trivial ?_
  refine ch_g (R := []) rfl rfl rfl gate_gf (fun hC => oc_fieldAddr (off := 4) rfl rfl rfl (by kernel_rfl) rfl) (fun hC => ⟨(by first | rfl | exact hC | (simp only [Bool.and_eq_true] at hC; first | exact hC.1 | exact hC.1.1 | exact hC.2) | simp_all), trivial⟩) trivial ?_
  refine ch_g (R := []) rfl rfl rfl gate_gf (fun hC => oc_load rfl rfl (by kernel_rfl) cells_sl) (fun hC => ⟨(by first | rfl | exact hC | (simp only [Bool.and_eq_true] at hC; first | exact hC.1 | exact hC.1.1 | exact hC.2) | simp_all), trivial⟩) trivial ?_
  refine ch_g (R := []) rfl rfl rfl gate_gf (fun hC => oc_len rfl rfl (by kernel_rfl)) (fun hC => ⟨(by first | rfl | exact hC | (simp only [Bool.and_eq_true] at hC; first | exact hC.1 | exact hC.1.1 | exact hC.2) | simp_all), trivial⟩) trivial ?_
  refine ch_g (R := []) rfl rfl rfl gate_gf (fun hC => oc_binZ rfl rfl rfl rfl) (fun hC => ⟨(by first | rfl | exact hC | (simp only [Bool.and_eq_true] at hC; first | exact hC.1 | exact hC.1.1 | exact hC.2) | simp_all), (by first | rfl | exact hC | (simp only [Bool.and_eq_true] at hC; first | exact hC.1 | exact hC.1.1 | exact hC.2) | simp_all), trivial⟩) trivial ?_
  refine ch_gp rfl rfl rfl rfl gate_t (fun hC => (by first | rfl | exact hC | (simp only [Bool.and_eq_true] at hC; first | exact hC.1 | exact hC.1.1 | exact hC.2) | simp_all)) rfl (fun hC E a hp hq => pk_or rfl (by first | exact fun h => tt2 hC h | exact fun h => h | simp_all) hq) ?_
  refine ch_v (R := []) rfl rfl (oc_and rfl rfl rfl rfl (by first | exact fun h => h | simp_all)) trivial ?_
  refine ch_v (R := []) rfl rfl (oc_move (x := .val _) rfl rfl) trivial ?_
  refine ch_g (R := []) rfl rfl rfl gate_t (fun hC => oc_move (x := .val _) rfl rfl) (fun hC => ⟨(by first | rfl | exact hC | (simp only [Bool.and_eq_true] at hC; first | exact hC.1 | exact hC.1.1 | exact hC.2) | simp_all), trivial⟩) trivial ?_
  refine ch_g (R := []) rfl rfl rfl gate_t (fun hC => oc_move (x := .val _) rfl rfl) (fun hC => ⟨(by first | rfl | exact hC | (simp only [Bool.and_eq_true] at hC; first | exact hC.1 | exact hC.1.1 | exact hC.2) | simp_all), trivial⟩) trivial ?_
  refine ch_g (R := []) rfl rfl rfl gate_gf (fun hC => oc_fieldAddr (off := 5) rfl rfl rfl (by kernel_rfl) rfl) (fun hC => ⟨(by first | rfl | exact hC | (simp only [Bool.and_eq_true] at hC; first | exact hC.1 | exact hC.1.1 | exact hC.2) | simp_all), trivial⟩) trivial ?_
  refine ch_g (R := []) rfl rfl rfl gate_gf (fun hC => oc_load rfl rfl (by kernel_rfl) cells_sl) (fun hC => ⟨(by first | rfl | exact hC | (simp only [Bool.and_eq_true] at hC; first | exact hC.1 | exact hC.1.1 | exact hC.2) | simp_all), trivial⟩) trivial ?_
  refine ch_g (R := []) rfl rfl rfl gate_gf (fun hC => oc_len rfl rfl (by kernel_rfl)) (fun hC => ⟨(by first | rfl | exact hC | (simp only [Bool.and_eq_true] at hC; first | exact hC.1 | exact hC.1.1 | exact hC.2) | simp_all), trivial⟩) trivial ?_
  refine ch_g (R := []) rfl rfl rfl gate_gf (fun hC => oc_binZ rfl rfl rfl rfl) (fun hC => ⟨(by first | rfl | exact hC | (simp only [Bool.and_eq_true] at hC; first | exact hC.1 | exact hC.1.1 | exact hC.2) | simp_all), (by first | rfl | exact hC | (simp only [Bool.and_eq_true] at hC; first | exact hC.1 | exact hC.1.1 | exact hC.2) | simp_all), trivial⟩) trivial ?_
  refine ch_gp rfl rfl rfl rfl gate_t (fun hC => (by first | rfl | exact hC | (simp only [Bool.and_eq_true] at hC; first | exact hC.1 | exact hC.1.1 | exact hC.2) | simp_all)) rfl (fun hC E a hp hq => pk_or rfl (by first | exact fun h => tt2 hC h | exact fun h => h | simp_all) hq) ?_
  refine ch_v (R := []) rfl rfl (oc_and rfl rfl rfl rfl (by first | exact fun h => h | simp_all)) trivial ?_
  refine ch_v (R := []) rfl rfl (oc_move (x := .val _) rfl rfl) trivial ?_
  refine ch_g (R := []) rfl rfl rfl gate_t (fun hC => oc_move (x := .val _) rfl rfl) (fun hC => ⟨(by first | rfl | exact hC | (simp only [Bool.and_eq_true] at hC; first | exact hC.1 | exact hC.1.1 | exact hC.2) | simp_all), trivial⟩) trivial ?_
  refine ch_g (R := []) rfl rfl rfl gate_t (fun hC => oc_move (x := .val _) rfl rfl) (fun hC => ⟨(by first | rfl | exact hC | (simp only [Bool.and_eq_true] at hC; first | exact hC.1 | exact hC.1.1 | exact hC.2) | simp_all), trivial⟩) trivial ?_
  refine ch_g (R := []) rfl rfl rfl gate_gf (fun hC => oc_fieldAddr (off := 2) rfl rfl rfl (by kernel_rfl) rfl) (fun hC => ⟨(by first | rfl | exact hC | (simp only [Bool.and_eq_true] at hC; first | exact hC.1 | exact hC.1.1 | exact hC.2) | simp_all), trivial⟩) trivial ?_
  refine ch_g (R := []) rfl rfl rfl gate_gf (fun hC => oc_load rfl rfl (by kernel_rfl) cells_str) (fun hC => ⟨(by first | rfl | exact hC | (simp only [Bool.and_eq_true] at hC; first | exact hC.1 | exact hC.1.1 | exact hC.2) | simp_all), trivial⟩) trivial ?_
  refine ch_g (R := []) rfl rfl rfl gate_gf (fun hC => oc_str_eq rfl rfl rfl) (fun hC => ⟨(by first | rfl | exact hC | (simp only [Bool.and_eq_true] at hC; first | exact hC.1 | exact hC.1.1 | exact hC.2) | simp_all), (by first | rfl | exact hC | (simp only [Bool.and_eq_true] at hC; first | exact hC.1 | exact hC.1.1 | exact hC.2) | simp_all), trivial⟩) trivial ?_
  refine ch_g (R := []) rfl rfl rfl gate_gf (fun hC => oc_move (x := .val _) rfl rfl) (fun hC => ⟨(by first | rfl | exact hC | (simp only [Bool.and_eq_true] at hC; first | exact hC.1 | exact hC.1.1 | exact hC.2) | simp_all), trivial⟩) trivial ?_
  refine ch_g (R := []) rfl rfl rfl gate_gt (fun hC => oc_fieldAddr (off := 1) rfl rfl rfl (by kernel_rfl) rfl) (fun hC => ⟨(by first | rfl | exact hC | (simp only [Bool.and_eq_true] at hC; first | exact hC.1 | exact hC.1.1 | exact hC.2) | simp_all), trivial⟩) trivial ?_
  refine ch_g (R := []) rfl rfl rfl gate_gt (fun hC => oc_load rfl rfl (by kernel_rfl) cells_int) (fun hC => ⟨(by first | rfl | exact hC | (simp only [Bool.and_eq_true] at hC; first | exact hC.1 | exact hC.1.1 | exact hC.2) | simp_all), trivial⟩) trivial ?_
  refine ch_g (R := []) rfl rfl rfl gate_gt (fun hC => oc_binZ rfl rfl rfl rfl) (fun hC => ⟨(by first | rfl | exact hC | (simp only [Bool.and_eq_true] at hC; first | exact hC.1 | exact hC.1.1 | exact hC.2) | simp_all), (by first | rfl | exact hC | (simp only [Bool.and_eq_true] at hC; first | exact hC.1 | exact hC.1.1 | exact hC.2) | simp_all), trivial⟩) trivial ?_
  refine ch_gp rfl rfl rfl rfl gate_gf (fun hC => (by first | rfl | exact hC | (simp only [Bool.and_eq_true] at hC; first | exact hC.1 | exact hC.1.1 | exact hC.2) | simp_all)) rfl (fun hC E a hp hq => pk_and rfl (by first | exact fun h => tt2 hC h | exact fun h => h | simp_all) hp) ?_
  refine ch_gp rfl rfl rfl rfl gate_t (fun hC => (by first | rfl | exact hC | (simp only [Bool.and_eq_true] at hC; first | exact hC.1 | exact hC.1.1 | exact hC.2) | simp_all)) rfl (fun hC E a hp hq => pk_or rfl (by first | exact fun h => tt2 hC h | exact fun h => h | simp_all) hq) ?_
  refine ch_v (R := []) rfl rfl (oc_and rfl rfl rfl rfl (by first | exact fun h => h | simp_all)) trivial ?_
  refine ch_v (R := []) rfl rfl (oc_assign (x := .val _) rfl rfl) trivial ?_
  refine ck_nil ?_
  refine aw_ret ?_
  exact ⟨.inl rfl, ResOk.tmp rfl (vb_eq (by rw [str_eqB]; rfl)), trivial⟩
set_option maxHeartbeats 800000 in
theorem params10_pc (t : TabP) (f : Int) (hf : t.funcs.length ≤ 140737488355328) (hp : t.params.length ≤ 140737488355328) : PC Try.prog 56 [tabAv t, vi f] (vi (paramsT t f)) := by
  refine FC.body 2 34 Try.func56 rfl (by kernel_rfl) ?_
  refine aw_seq ?_
  refine aw_text rfl ?_
  refine ch_v (R := []) rfl rfl (oc_box (x := .agg _) rfl rfl) trivial ?_
  refine ch_v (R := []) rfl rfl (oc_assign (x := .val _) rfl rfl) trivial ?_
  refine ck_nil ?_
  refine aw_seq ?_
  refine aw_seq ?_
  refine aw_draw mixed ?_
  refine ch_v (R := []) rfl rfl (oc_move (x := .val _) rfl rfl) trivial ?_
  refine ch_v (R := []) rfl rfl (oc_fieldAddr (off := 11) rfl rfl rfl (by kernel_rfl) rfl) trivial ?_
  refine ch_v (R := []) rfl rfl (oc_load rfl rfl (by kernel_rfl) cells_sl) trivial ?_
  refine ch_v (R := []) rfl rfl (oc_len rfl rfl (by kernel_rfl)) trivial ?_
  refine ch_v (R := []) rfl rfl (oc_binZ rfl rfl rfl (by first | exact binW_sub (by omega) (by omega) | rfl)) trivial ?_
  refine ch_v (R := []) rfl rfl (oc_call rfl (by kernel_rfl) (among10_pc f 0 ((t.funcs.length : Int) - 1)) rfl (by simp only [PureL, Pure, and_self, pure_slI, pure_slS, pure_tab, expr_pure, exprs_pure, stmt_pure, stmts_pure, code_pure, insAv, implies_true]) (by simp only [PureL, Pure, and_self, pure_slI, pure_slS, pure_tab, expr_pure, exprs_pure, stmt_pure, stmts_pure, code_pure, insAv, implies_true])) trivial ?_
  refine ch_v (R := []) rfl rfl (oc_not rfl rfl) trivial ?_
  refine ch_v (R := []) rfl rfl (oc_move (x := .val _) rfl rfl) trivial ?_
  refine ch_g (R := []) rfl rfl rfl gate_f (fun hC => oc_fieldAddr (off := 11) rfl rfl rfl (by kernel_rfl) rfl) (fun hC => ⟨(by first | rfl | exact hC | (simp only [Bool.and_eq_true] at hC; first | exact hC.1 | exact hC.1.1 | exact hC.2) | simp_all), trivial⟩) trivial ?_
  refine ch_g (R := []) rfl rfl rfl gate_f (fun hC => oc_load rfl rfl (by kernel_rfl) cells_sl) (fun hC => ⟨(by first | rfl | exact hC | (simp only [Bool.and_eq_true] at hC; first | exact hC.1 | exact hC.1.1 | exact hC.2) | simp_all), trivial⟩) trivial ?_
  refine ch_g (R := []) rfl rfl rfl gate_f (fun hC => oc_move (x := .val _) rfl rfl) (fun hC => ⟨(by first | rfl | exact hC | (simp only [Bool.and_eq_true] at hC; first | exact hC.1 | exact hC.1.1 | exact hC.2) | simp_all), trivial⟩) trivial ?_
  refine ch_g (R := []) rfl rfl rfl gate_f (fun hC => by
        have hr : 0 ≤ f ∧ f ≤ (t.funcs.length : Int) - 1 := among_iff.1 (by simpa using hC)
        exact oc_index (j := f.toNat) rfl rfl rfl (by kernel_rfl) (by omega) (by omega) rfl) (fun hC => ⟨(by first | rfl | exact hC | (simp only [Bool.and_eq_true] at hC; first | exact hC.1 | exact hC.1.1 | exact hC.2) | simp_all), (by first | rfl | exact hC | (simp only [Bool.and_eq_true] at hC; first | exact hC.1 | exact hC.1.1 | exact hC.2) | simp_all), trivial⟩) trivial ?_
  refine ch_g (R := []) rfl rfl rfl gate_f (fun hC => oc_load rfl rfl (by kernel_rfl) cells_int) (fun hC => ⟨(by first | rfl | exact hC | (simp only [Bool.and_eq_true] at hC; first | exact hC.1 | exact hC.1.1 | exact hC.2) | simp_all), trivial⟩) trivial ?_
  refine ch_g (R := []) rfl rfl rfl gate_f (fun hC => oc_fieldAddr (off := 13) rfl rfl rfl (by kernel_rfl) rfl) (fun hC => ⟨(by first | rfl | exact hC | (simp only [Bool.and_eq_true] at hC; first | exact hC.1 | exact hC.1.1 | exact hC.2) | simp_all), trivial⟩) trivial ?_
  refine ch_g (R := []) rfl rfl rfl gate_f (fun hC => oc_load rfl rfl (by kernel_rfl) cells_sl) (fun hC => ⟨(by first | rfl | exact hC | (simp only [Bool.and_eq_true] at hC; first | exact hC.1 | exact hC.1.1 | exact hC.2) | simp_all), trivial⟩) trivial ?_
  refine ch_g (R := []) rfl rfl rfl gate_f (fun hC => oc_len rfl rfl (by kernel_rfl)) (fun hC => ⟨(by first | rfl | exact hC | (simp only [Bool.and_eq_true] at hC; first | exact hC.1 | exact hC.1.1 | exact hC.2) | simp_all), trivial⟩) trivial ?_
  refine ch_g (R := []) rfl rfl rfl gate_f (fun hC => oc_binZ rfl rfl rfl (by first | exact binW_sub (by omega) (by omega) | rfl)) (fun hC => ⟨(by first | rfl | exact hC | (simp only [Bool.and_eq_true] at hC; first | exact hC.1 | exact hC.1.1 | exact hC.2) | simp_all), (by first | rfl | exact hC | (simp only [Bool.and_eq_true] at hC; first | exact hC.1 | exact hC.1.1 | exact hC.2) | simp_all), trivial⟩) trivial ?_
  refine ch_g (R := []) rfl rfl rfl gate_f (fun hC => oc_call rfl (by kernel_rfl) (among10_pc (t.funcs.getD f.toNat 0) 0 ((t.params.length : Int) - 1)) rfl (by simp only [PureL, Pure, and_self, pure_slI, pure_slS, pure_tab, expr_pure, exprs_pure, stmt_pure, stmts_pure, code_pure, insAv, implies_true]) (by simp only [PureL, Pure, and_self, pure_slI, pure_slS, pure_tab, expr_pure, exprs_pure, stmt_pure, stmts_pure, code_pure, insAv, implies_true])) (fun hC => ⟨(by first | rfl | exact hC | (simp only [Bool.and_eq_true] at hC; first | exact hC.1 | exact hC.1.1 | exact hC.2) | simp_all), (by first | rfl | exact hC | (simp only [Bool.and_eq_true] at hC; first | exact hC.1 | exact hC.1.1 | exact hC.2) | simp_all), (by first | rfl | exact hC | (simp only [Bool.and_eq_true] at hC; first | exact hC.1 | exact hC.1.1 | exact hC.2) | simp_all), (by first | rfl | exact hC | (simp only [Bool.and_eq_true] at hC; first | exact hC.1 | exact hC.1.1 | exact hC.2) | simp_all), trivial⟩) trivial ?_
  refine ch_g (R := []) rfl rfl rfl gate_f (fun hC => oc_not rfl rfl) (fun hC => ⟨(by first | rfl | exact hC | (simp only [Bool.and_eq_true] at hC; first | exact hC.1 | exact hC.1.1 | exact hC.2) | simp_all), trivial⟩) trivial ?_
  refine ch_v (R := []) rfl rfl (oc_or rfl rfl rfl (by first | exact fun h => h | simp_all)) trivial ?_
  refine ck_nil ⟨by kernel_rfl, ?_⟩
  refine aw_cond rfl (fun hb => ?_) (fun hb => ?_)
  · have hn : ¬ (among f 0 ((t.funcs.length : Int) - 1) = true ∧ among (getZ t.funcs f) 0 ((t.params.length : Int) - 1) = true) := by
      rintro ⟨h1, h2⟩
      unfold getZ at h2
      rw [h1, h2] at hb
      cases hb
    refine aw_seq ?_
    refine aw_text rfl ?_
    refine ch_v (R := []) rfl rfl (oc_assign (x := .val _) rfl rfl) trivial ?_
    refine ck_nil ?_
    refine aw_ret ?_
    exact ⟨.inl rfl, ResOk.tmp rfl (vi_eq (by unfold paramsT; rw [if_neg hn])), trivial⟩
  · have hy : among f 0 ((t.funcs.length : Int) - 1) = true ∧ among (getZ t.funcs f) 0 ((t.params.length : Int) - 1) = true := by
      unfold getZ
      simpa using hb
    have hr1 := among_iff.1 hy.1
    have hr2 : 0 ≤ t.funcs.getD f.toNat 0 ∧ t.funcs.getD f.toNat 0 ≤ (t.params.length : Int) - 1 := among_iff.1 hy.2
    refine aw_skip ?_
    refine aw_seq ?_
    refine aw_draw mixed ?_
    refine ch_v (R := []) rfl rfl (oc_fieldAddr (off := 13) rfl rfl rfl (by kernel_rfl) rfl) trivial ?_
    refine ch_v (R := []) rfl rfl (oc_load rfl rfl (by kernel_rfl) cells_sl) trivial ?_
    refine ch_v (R := []) rfl rfl (oc_fieldAddr (off := 11) rfl rfl rfl (by kernel_rfl) rfl) trivial ?_
    refine ch_v (R := []) rfl rfl (oc_load rfl rfl (by kernel_rfl) cells_sl) trivial ?_
    refine ch_v (R := []) rfl rfl (oc_move (x := .val _) rfl rfl) trivial ?_
    refine ch_v (R := []) rfl rfl (oc_index (j := f.toNat) rfl rfl rfl (by kernel_rfl) (by omega) (by omega) rfl) trivial ?_
    refine ch_v (R := []) rfl rfl (oc_load rfl rfl (by kernel_rfl) cells_int) trivial ?_
    refine ch_v (R := []) rfl rfl (oc_index (j := (t.funcs.getD f.toNat 0).toNat) rfl rfl rfl (by kernel_rfl) (by omega) (by omega) rfl) trivial ?_
    refine ch_v (R := []) rfl rfl (oc_load rfl rfl (by kernel_rfl) cells_int) trivial ?_
    refine ch_v (R := []) rfl rfl (oc_assign (x := .val _) rfl rfl) trivial ?_
    refine ck_nil ⟨by kernel_rfl, ?_⟩
    refine aw_ret ?_
    exact ⟨.inl rfl, ResOk.tmp rfl (vi_eq (by unfold paramsT; rw [if_pos hy]; rfl)), trivial⟩
end Go.Proofs.Ytfipllnodgbghaa
namespace Go.Proofs.Ytfipllnodgbghaa
open Go.RowKit
set_option maxRecDepth 100000
set_option linter.unusedVariables false
set_option linter.unusedSimpArgs false
theorem deepEs_drop {l : List ExprP} {k : Nat} (h : k < l.length) (m n : Int) : deepEs (l.drop k) m n = deepEs (l.drop (k + 1)) m (if deepE (l.getD k dExpr) m > n then deepE (l.getD k dExpr) m else n) := by
  rw [List.drop_eq_getElem_cons h, List.getD, List.getElem?_eq_getElem h]
  rfl
theorem deepE_is (e : ExprP) (m : Int) : deepE e m = (if m > 1 then deepEs e.args (m - 1) 0 else 0) + 1 := by cases e; rfl
set_option maxHeartbeats 1600000 in
theorem deep_step (e : ExprP) (m : Int) (hm : m ≤ 1000) (hlen : e.args.length ≤ 140737488355328) (ih : ∀ x ∈ e.args, ∀ m : Int, m ≤ 1000 → PC Try.prog 51 [exprAv x, vi m] (vi (deepE x m))) : PC Try.prog 51 [exprAv e, vi m] (vi (deepE e m)) := by
  rw [exprAv_eq]
  refine FC.body 3 29 Try.func51 rfl (by kernel_rfl) ?_
  refine aw_seq ?_
  refine aw_text rfl ?_
  refine ch_v (R := []) rfl rfl (oc_box (x := .agg _) rfl rfl) trivial ?_
  refine ch_v (R := []) rfl rfl (oc_assign (x := .val _) rfl rfl) trivial ?_
  refine ck_nil ?_
  refine aw_seq ?_
  refine aw_text rfl ?_
  refine ch_v (R := []) rfl rfl (oc_assign (x := .val _) rfl rfl) trivial ?_
  refine ck_nil ?_
  refine aw_seq ?_
  refine aw_seq ?_
  refine aw_text rfl ?_
  refine ch_v (R := []) rfl rfl (oc_move (x := .val _) rfl rfl) trivial ?_
  refine ch_v (R := []) rfl rfl (oc_binZ rfl rfl rfl rfl) trivial ?_
  refine ck_nil ?_
  refine aw_cond rfl (fun hb => ?_) (fun hb => ?_)
  · have h1 : m > 1 := of_decide_eq_true hb
    refine aw_seq ?_
    refine aw_text rfl ?_
    refine ch_v (R := []) rfl rfl (oc_fieldAddr (off := 4) rfl rfl rfl (by kernel_rfl) rfl) trivial ?_
    refine ch_v (R := []) rfl rfl (oc_load rfl rfl (by kernel_rfl) cells_sl) trivial ?_
    refine ch_v (R := []) rfl rfl (oc_len rfl rfl (by kernel_rfl)) trivial ?_
    refine ch_v (R := []) rfl rfl (oc_move (x := .val _) rfl rfl) trivial ?_
    refine ck_nil ?_
    refine aw_block ?_
    refine aw_loop (ι := (Nat × Int)) (fun q => ⟨[(1, vi m), (5, vi q.2), (12, exprsAv e.args), (13, vi (e.args.length : Int)), (14, vi (q.1 : Int))], [(1, .unborn)]⟩) (fun q => q.1 ≤ e.args.length ∧ deepEs e.args (m - 1) 0 = deepEs (e.args.drop q.1) (m - 1) q.2 ∧ 0 ≤ q.2 ∧ q.2 ≤ 1000) (fun q => e.args.length - q.1) (0, 0) (⟨Nat.zero_le _, rfl, Int.le_refl _, by decide⟩) (Le.sub ⟨.inr rfl, .inr rfl, .inr rfl, .inr rfl, .inr rfl, trivial⟩ ⟨rfl, trivial⟩) ?_
    intro q hI
    obtain ⟨g1, g2, g3, g4⟩ := hI
    refine aw_seq ?_
    refine aw_text rfl ?_
    refine ch_v (R := []) rfl rfl (oc_binZ rfl rfl rfl rfl) trivial ?_
    refine ck_nil ?_
    refine aw_seq ?_
    refine aw_cond rfl (fun hb => ?_) (fun hb => ?_)
    · have hlt : q.1 < e.args.length := by have h0 := of_decide_eq_true hb; omega
      have hmem : (e.args.getD q.1 dExpr) ∈ e.args := by rw [List.getD, List.getElem?_eq_getElem hlt]; exact List.getElem_mem hlt
      have hbd : deepE (e.args.getD q.1 dExpr) (m - 1) ≤ 1000 := by have := deepE_eq (e.args.getD q.1 dExpr) (m - 1).toNat (by omega); rw [show (((m - 1).toNat : Nat) : Int) = m - 1 by omega] at this; omega
      refine aw_skip ?_
      refine aw_seq ?_
      refine aw_block ?_
      refine aw_seq ?_
      refine aw_text rfl ?_
      refine ch_v (R := []) rfl rfl (OC.cast (oc_indexN (j := q.1) rfl rfl rfl (by kernel_rfl) (by omega)) (show Av.ptr (exprRow e.args q.1) = .ptr (.agg [vi (e.args.getD q.1 dExpr).kind, vi (e.args.getD q.1 dExpr).op, vi (e.args.getD q.1 dExpr).num, vs (e.args.getD q.1 dExpr).name, exprsAv (e.args.getD q.1 dExpr).args]) from by rw [exprRow_at hlt, exprAv_eq])) trivial ?_
      refine ch_v (R := []) rfl rfl (oc_load_row rfl rfl (by kernel_rfl) (by kernel_rfl) rfl) trivial ?_
      refine ch_u rfl rfl (oc_alloc (zs := [.int .i64 0, .int .i64 0, .int .i64 0, .string ⟨#[]⟩, .slice none 0 0]) (cs := [.val _, .val _, .val _, .val _, .val _]) 1 rfl (by kernel_rfl) rfl rfl) ⟨rfl, trivial⟩ ?_
      refine ch_n rfl rfl (oc_store_row (x := .agg _) (cs' := [_, _, _, _, _]) rfl rfl rfl rfl (by kernel_rfl) (by first | decide | exact Nat.le_of_ble_eq_true rfl | simp) (by first | decide | exact Nat.le_of_ble_eq_true rfl | simp) rfl) ⟨rfl, trivial⟩ ?_
      refine ck_nil ?_
      refine aw_seq ?_
      refine aw_text rfl ?_
      refine ch_v (R := [(_, .live _ _)]) rfl rfl (oc_load_own_row (k := 5) (ds := [_, _, _, _, _]) rfl rfl (by kernel_rfl) (by kernel_rfl) rfl rfl (by decide)) ⟨rfl, trivial⟩ ?_
      refine ch_v (R := []) rfl rfl (oc_move (x := .val _) rfl rfl) trivial ?_
      refine ch_v (R := []) rfl rfl (oc_binZ rfl rfl rfl (by first | exact binW_sub (by omega) (by omega) | rfl)) trivial ?_
      refine ch_v (R := []) rfl rfl (oc_call rfl (by kernel_rfl) ((show PC _ _ [(.agg [vi (e.args.getD q.1 dExpr).kind, vi (e.args.getD q.1 dExpr).op, vi (e.args.getD q.1 dExpr).num, vs (e.args.getD q.1 dExpr).name, exprsAv (e.args.getD q.1 dExpr).args]), vi (m - 1)] _ from exprAv_eq (e.args.getD q.1 dExpr) ▸ ih (e.args.getD q.1 dExpr) hmem (m - 1) (by omega))) rfl (by simp only [PureL, Pure, and_self, pure_slI, pure_slS, pure_tab, expr_pure, exprs_pure, stmt_pure, stmts_pure, code_pure, insAv, implies_true]) (by simp only [PureL, Pure, and_self, pure_slI, pure_slS, pure_tab, expr_pure, exprs_pure, stmt_pure, stmts_pure, code_pure, insAv, implies_true])) trivial ?_
      refine ch_v (R := []) rfl rfl (oc_assign (x := .val _) rfl rfl) trivial ?_
      refine ck_nil ?_
      refine aw_seq ?_
      refine aw_text rfl ?_
      refine ch_v (R := []) rfl rfl (oc_move (x := .val _) rfl rfl) trivial ?_
      refine ch_v (R := []) rfl rfl (oc_move (x := .val _) rfl rfl) trivial ?_
      refine ch_v (R := []) rfl rfl (oc_binZ rfl rfl rfl rfl) trivial ?_
      refine ck_nil ?_
      refine aw_cond rfl (fun hb => ?_) (fun hb => ?_)
      · have hg : deepE (e.args.getD q.1 dExpr) (m - 1) > q.2 := of_decide_eq_true hb
        refine aw_text rfl ?_
        refine ch_v (R := []) rfl rfl (oc_move (x := .val _) rfl rfl) trivial ?_
        refine ch_v (R := []) rfl rfl (oc_assign (x := .val _) rfl rfl) trivial ?_
        refine ck_nil ?_
        refine aw_text rfl ?_
        refine ch_v (R := []) rfl rfl (oc_binZ rfl rfl rfl (by first | exact binW_add (by omega) (by omega) | rfl)) trivial ?_
        refine ch_v (R := []) rfl rfl (oc_move (x := .val _) rfl rfl) trivial ?_
        refine ck_nil ?_
        exact ⟨(q.1 + 1, deepE (e.args.getD q.1 dExpr) (m - 1)), ⟨by show q.1 + 1 ≤ _; omega, by rw [g2, deepEs_drop hlt, if_pos hg], by show 0 ≤ deepE _ _; omega, by show deepE _ _ ≤ _; omega⟩, by show _ - (q.1 + 1) < _; omega, Le.reset [1] (by simp) ⟨.inr rfl, .inr rfl, .inr rfl, .inr rfl, .inr (vi_eq (by show (q.1 : Int) + 1 = ((q.1 + 1 : Nat) : Int); omega)), trivial⟩ ⟨by simp [NoN], by simp [NoN], NoN.of_pure _ (exprs_pure e.args), by simp [NoN], by simp [NoN], trivial⟩ ⟨by rw [if_pos (by decide)], trivial⟩⟩
      · have hg : ¬ deepE (e.args.getD q.1 dExpr) (m - 1) > q.2 := of_decide_eq_false hb
        refine aw_skip ?_
        refine aw_text rfl ?_
        refine ch_v (R := []) rfl rfl (oc_binZ rfl rfl rfl (by first | exact binW_add (by omega) (by omega) | rfl)) trivial ?_
        refine ch_v (R := []) rfl rfl (oc_move (x := .val _) rfl rfl) trivial ?_
        refine ck_nil ?_
        exact ⟨(q.1 + 1, q.2), ⟨by show q.1 + 1 ≤ _; omega, by rw [g2, deepEs_drop hlt, if_neg hg], g3, g4⟩, by show _ - (q.1 + 1) < _; omega, Le.reset [1] (by simp) ⟨.inr rfl, .inr rfl, .inr rfl, .inr rfl, .inr (vi_eq (by show (q.1 : Int) + 1 = ((q.1 + 1 : Nat) : Int); omega)), trivial⟩ ⟨by simp [NoN], by simp [NoN], NoN.of_pure _ (exprs_pure e.args), by simp [NoN], by simp [NoN], trivial⟩ ⟨by rw [if_pos (by decide)], trivial⟩⟩
    · have hge : q.1 = e.args.length := by have h0 := of_decide_eq_false hb; omega
      have hfin : deepE e m = q.2 + 1 := by rw [deepE_is, if_pos h1, g2, hge, List.drop_length]; rfl
      refine aw_exit ?_
      refine aw_seq ?_
      refine aw_text rfl ?_
      refine ch_v (R := []) rfl rfl (oc_move (x := .val _) rfl rfl) trivial ?_
      refine ch_v (R := []) rfl rfl (oc_binZ rfl rfl rfl (by first | exact binW_add (by omega) (by omega) | rfl)) trivial ?_
      refine ch_v (R := []) rfl rfl (oc_assign (x := .val _) rfl rfl) trivial ?_
      refine ck_nil ?_
      refine aw_ret ?_
      exact ⟨.inl rfl, ResOk.tmp rfl (vi_eq hfin.symm), trivial⟩
  · have h1 : ¬ m > 1 := of_decide_eq_false hb
    refine aw_skip ?_
    refine aw_seq ?_
    refine aw_text rfl ?_
    refine ch_v (R := []) rfl rfl (oc_move (x := .val _) rfl rfl) trivial ?_
    refine ch_v (R := []) rfl rfl (oc_binZ rfl rfl rfl (by first | exact binW_add (by omega) (by omega) | rfl)) trivial ?_
    refine ch_v (R := []) rfl rfl (oc_assign (x := .val _) rfl rfl) trivial ?_
    refine ck_nil ?_
    refine aw_ret ?_
    exact ⟨.inl rfl, ResOk.tmp rfl (vi_eq (by rw [deepE_is, if_neg h1])), trivial⟩
end Go.Proofs.Ytfipllnodgbghaa
namespace Go.Proofs.Ytfipllnodgbghaa
open Go.RowKit
set_option linter.unusedVariables false
set_option linter.unusedSimpArgs false
mutual
def wfE : ExprP → Prop
  | .mk _ _ _ _ l => l.length ≤ 140737488355328 ∧ wfEs l
def wfEs : List ExprP → Prop
  | [] => True
  | e :: l => wfE e ∧ wfEs l
end
theorem wfE_in {e : ExprP} (h : wfE e) : e.args.length ≤ 140737488355328 ∧ wfEs e.args := by cases e; exact h
theorem wfEs_mem : ∀ {l : List ExprP} {x : ExprP}, x ∈ l → wfEs l → wfE x
  | e :: l, x, hx, h => by
    rcases List.mem_cons.1 hx with rfl | hx
    · exact h.1
    · exact wfEs_mem hx h.2
theorem sizeEs_mem : ∀ {l : List ExprP} {x : ExprP}, x ∈ l → sizeE x ≤ sizeEs l
  | e :: l, x, hx => by
    unfold sizeEs
    rcases List.mem_cons.1 hx with rfl | hx
    · exact Nat.le_add_right _ _
    · exact Nat.le_trans (sizeEs_mem hx) (Nat.le_add_left _ _)
theorem deep_pc : ∀ (N : Nat) (e : ExprP), sizeE e ≤ N → wfE e → ∀ m : Int, m ≤ 1000 → PC Try.prog 51 [exprAv e, vi m] (vi (deepE e m))
  | 0, e, h, _, m, hm => by rw [sizeE_eq] at h; omega
  | N + 1, e, h, hw, m, hm => deep_step e m hm (wfE_in hw).1 fun x hx m hm => deep_pc N x (by have := sizeEs_mem hx; rw [sizeE_eq] at h; omega) (wfEs_mem hx (wfE_in hw).2) m hm
end Go.Proofs.Ytfipllnodgbghaa
namespace Go.Proofs.Ytfipllnodgbghaa
open Go.RowKit
set_option maxRecDepth 100000
set_option linter.unusedVariables false
set_option linter.unusedSimpArgs false
theorem fewEs_drop {l : List ExprP} {k : Nat} (h : k < l.length) (m : Int) : fewEs (l.drop k) m = if m < 0 then m else fewEs (l.drop (k + 1)) (fewE (l.getD k dExpr) m) := by
  rw [List.drop_eq_getElem_cons h, List.getD, List.getElem?_eq_getElem h]
  rfl
theorem fewE_is (e : ExprP) (m : Int) : fewE e m = fewEs e.args (IntKind.i64.wrap (m - 1)) := by cases e; rfl
set_option maxHeartbeats 1600000 in
theorem few_step (e : ExprP) (m : Int) (hlen : e.args.length ≤ 140737488355328) (ih : ∀ x ∈ e.args, ∀ m : Int, PC Try.prog 11 [exprAv x, vi m] (vi (fewE x m))) : PC Try.prog 11 [exprAv e, vi m] (vi (fewE e m)) := by
  rw [exprAv_eq]
  refine FC.body 3 24 Try.func11 rfl (by kernel_rfl) ?_
  refine aw_seq ?_
  refine aw_text rfl ?_
  refine ch_v (R := []) rfl rfl (oc_box (x := .agg _) rfl rfl) trivial ?_
  refine ch_v (R := []) rfl rfl (oc_assign (x := .val _) rfl rfl) trivial ?_
  refine ck_nil ?_
  refine aw_seq ?_
  refine aw_text rfl ?_
  refine ch_v (R := []) rfl rfl (oc_move (x := .val _) rfl rfl) trivial ?_
  refine ch_v (R := []) rfl rfl (oc_binZ rfl rfl rfl rfl) trivial ?_
  refine ch_v (R := []) rfl rfl (oc_assign (x := .val _) rfl rfl) trivial ?_
  refine ck_nil ?_
  refine aw_seq ?_
  refine aw_seq ?_
  refine aw_text rfl ?_
  refine ch_v (R := []) rfl rfl (oc_fieldAddr (off := 4) rfl rfl rfl (by kernel_rfl) rfl) trivial ?_
  refine ch_v (R := []) rfl rfl (oc_load rfl rfl (by kernel_rfl) cells_sl) trivial ?_
  refine ch_v (R := []) rfl rfl (oc_len rfl rfl (by kernel_rfl)) trivial ?_
  refine ch_v (R := []) rfl rfl (oc_move (x := .val _) rfl rfl) trivial ?_
  refine ck_nil ?_
  refine aw_block ?_
  refine aw_loop (ι := (Nat × Int)) (fun q => ⟨[(1, vi q.2), (10, exprsAv e.args), (11, vi (e.args.length : Int)), (12, vi (q.1 : Int))], [(1, .unborn)]⟩) (fun q => q.1 ≤ e.args.length ∧ fewE e m = fewEs (e.args.drop q.1) q.2) (fun q => e.args.length - q.1) (0, IntKind.i64.wrap (m - 1)) (⟨Nat.zero_le _, fewE_is e m⟩) (Le.sub ⟨.inr rfl, .inr rfl, .inr rfl, .inr rfl, trivial⟩ ⟨rfl, trivial⟩) ?_
  intro q hI
  obtain ⟨g1, g2⟩ := hI
  refine aw_seq ?_
  refine aw_text rfl ?_
  refine ch_v (R := []) rfl rfl (oc_binZ rfl rfl rfl rfl) trivial ?_
  refine ck_nil ?_
  refine aw_seq ?_
  refine aw_cond rfl (fun hb => ?_) (fun hb => ?_)
  · have hlt : q.1 < e.args.length := by have h0 := of_decide_eq_true hb; omega
    have hmem : (e.args.getD q.1 dExpr) ∈ e.args := by rw [List.getD, List.getElem?_eq_getElem hlt]; exact List.getElem_mem hlt
    refine aw_skip ?_
    refine aw_seq ?_
    refine aw_block ?_
    refine aw_seq ?_
    refine aw_text rfl ?_
    refine ch_v (R := []) rfl rfl (OC.cast (oc_indexN (j := q.1) rfl rfl rfl (by kernel_rfl) (by omega)) (show Av.ptr (exprRow e.args q.1) = .ptr (.agg [vi (e.args.getD q.1 dExpr).kind, vi (e.args.getD q.1 dExpr).op, vi (e.args.getD q.1 dExpr).num, vs (e.args.getD q.1 dExpr).name, exprsAv (e.args.getD q.1 dExpr).args]) from by rw [exprRow_at hlt, exprAv_eq])) trivial ?_
    refine ch_v (R := []) rfl rfl (oc_load_row rfl rfl (by kernel_rfl) (by kernel_rfl) rfl) trivial ?_
    refine ch_u rfl rfl (oc_alloc (zs := [.int .i64 0, .int .i64 0, .int .i64 0, .string ⟨#[]⟩, .slice none 0 0]) (cs := [.val _, .val _, .val _, .val _, .val _]) 1 rfl (by kernel_rfl) rfl rfl) ⟨rfl, trivial⟩ ?_
    refine ch_n rfl rfl (oc_store_row (x := .agg _) (cs' := [_, _, _, _, _]) rfl rfl rfl rfl (by kernel_rfl) (by first | decide | exact Nat.le_of_ble_eq_true rfl | simp) (by first | decide | exact Nat.le_of_ble_eq_true rfl | simp) rfl) ⟨rfl, trivial⟩ ?_
    refine ck_nil ?_
    refine aw_seq ?_
    refine aw_seq ?_
    refine aw_text rfl ?_
    refine ch_v (R := []) rfl rfl (oc_move (x := .val _) rfl rfl) trivial ?_
    refine ch_v (R := []) rfl rfl (oc_binZ rfl rfl rfl rfl) trivial ?_
    refine ck_nil ?_
    refine aw_cond rfl (fun hb => ?_) (fun hb => ?_)
    · have hg : q.2 < 0 := of_decide_eq_true hb
      refine aw_seq ?_
      refine aw_text rfl ?_
      refine ch_v (R := []) rfl rfl (oc_move (x := .val _) rfl rfl) trivial ?_
      refine ch_v (R := []) rfl rfl (oc_assign (x := .val _) rfl rfl) trivial ?_
      refine ck_nil ?_
      refine aw_ret ?_
      exact ⟨.inl rfl, ResOk.tmp rfl (vi_eq (by rw [g2, fewEs_drop hlt, if_pos hg])), trivial⟩
    · have hg : ¬ q.2 < 0 := of_decide_eq_false hb
      refine aw_skip ?_
      refine aw_text rfl ?_
      refine ch_v (R := [(_, .live _ _)]) rfl rfl (oc_load_own_row (k := 5) (ds := [_, _, _, _, _]) rfl rfl (by kernel_rfl) (by kernel_rfl) rfl rfl (by decide)) ⟨rfl, trivial⟩ ?_
      refine ch_v (R := []) rfl rfl (oc_move (x := .val _) rfl rfl) trivial ?_
      refine ch_v (R := []) rfl rfl (oc_call rfl (by kernel_rfl) ((show PC _ _ [(.agg [vi (e.args.getD q.1 dExpr).kind, vi (e.args.getD q.1 dExpr).op, vi (e.args.getD q.1 dExpr).num, vs (e.args.getD q.1 dExpr).name, exprsAv (e.args.getD q.1 dExpr).args]), vi q.2] _ from exprAv_eq (e.args.getD q.1 dExpr) ▸ ih (e.args.getD q.1 dExpr) hmem q.2)) rfl (by simp only [PureL, Pure, and_self, pure_slI, pure_slS, pure_tab, expr_pure, exprs_pure, stmt_pure, stmts_pure, code_pure, insAv, implies_true]) (by simp only [PureL, Pure, and_self, pure_slI, pure_slS, pure_tab, expr_pure, exprs_pure, stmt_pure, stmts_pure, code_pure, insAv, implies_true])) trivial ?_
      refine ch_v (R := []) rfl rfl (oc_assign (x := .val _) rfl rfl) trivial ?_
      refine ck_nil ?_
      refine aw_text rfl ?_
      refine ch_v (R := []) rfl rfl (oc_binZ rfl rfl rfl (by first | exact binW_add (by omega) (by omega) | rfl)) trivial ?_
      refine ch_v (R := []) rfl rfl (oc_move (x := .val _) rfl rfl) trivial ?_
      refine ck_nil ?_
      exact ⟨(q.1 + 1, fewE (e.args.getD q.1 dExpr) q.2), ⟨by show q.1 + 1 ≤ _; omega, by rw [g2, fewEs_drop hlt, if_neg hg]⟩, by show _ - (q.1 + 1) < _; omega, Le.reset [1] (by simp) ⟨.inr rfl, .inr rfl, .inr rfl, .inr (vi_eq (by show (q.1 : Int) + 1 = ((q.1 + 1 : Nat) : Int); omega)), trivial⟩ ⟨by simp [NoN], NoN.of_pure _ (exprs_pure e.args), by simp [NoN], by simp [NoN], trivial⟩ ⟨by rw [if_pos (by decide)], trivial⟩⟩
  · have hge : q.1 = e.args.length := by have h0 := of_decide_eq_false hb; omega
    have hfin : fewE e m = q.2 := by rw [g2, hge, List.drop_length]; rfl
    refine aw_exit ?_
    refine aw_seq ?_
    refine aw_text rfl ?_
    refine ch_v (R := []) rfl rfl (oc_move (x := .val _) rfl rfl) trivial ?_
    refine ch_v (R := []) rfl rfl (oc_assign (x := .val _) rfl rfl) trivial ?_
    refine ck_nil ?_
    refine aw_ret ?_
    exact ⟨.inl rfl, ResOk.tmp rfl (vi_eq hfin.symm), trivial⟩
theorem few_pc : ∀ (N : Nat) (e : ExprP), sizeE e ≤ N → wfE e → ∀ m : Int, PC Try.prog 11 [exprAv e, vi m] (vi (fewE e m))
  | 0, e, h, _, m => by rw [sizeE_eq] at h; omega
  | N + 1, e, h, hw, m => few_step e m (wfE_in hw).1 fun x hx m => few_pc N x (by have := sizeEs_mem hx; rw [sizeE_eq] at h; omega) (wfEs_mem hx (wfE_in hw).2) m
end Go.Proofs.Ytfipllnodgbghaa
namespace Go.Proofs.Ytfipllnodgbghaa
open Go.RowKit
set_option linter.unusedVariables false
set_option linter.unusedSimpArgs false
mutual
def shE : ExprP → Prop
  | .mk k _ _ _ l => ((k = 6 → 2 ≤ l.length) ∧ (k = 13 → 1 ≤ l.length)) ∧ shEs l
def shEs : List ExprP → Prop
  | [] => True
  | e :: l => shE e ∧ shEs l
end
mutual
def shS : StmtP → Prop
  | .mk k n _ l b c => (((k = 9 ∨ k = 10 ∨ k = 11) → 1 ≤ l.length) ∧ (k = 11 → -1000000000 ≤ n ∧ n ≤ 1000000000)) ∧ shEs l ∧ shSs b ∧ shSs c
def shSs : List StmtP → Prop
  | [] => True
  | s :: l => shS s ∧ shSs l
end
theorem shE_in {e : ExprP} (h : shE e) : ((e.kind = 6 → 2 ≤ e.args.length) ∧ (e.kind = 13 → 1 ≤ e.args.length)) ∧ shEs e.args := by cases e; exact h
theorem shS_in {s : StmtP} (h : shS s) : (((s.kind = 9 ∨ s.kind = 10 ∨ s.kind = 11) → 1 ≤ s.args.length) ∧ (s.kind = 11 → -1000000000 ≤ s.num ∧ s.num ≤ 1000000000)) ∧ shEs s.args ∧ shSs s.body ∧ shSs s.els := by cases s; exact h
theorem shEs_mem : ∀ {l : List ExprP} {x : ExprP}, x ∈ l → shEs l → shE x
  | e :: l, x, hx, h => by
    rcases List.mem_cons.1 hx with rfl | hx
    · exact h.1
    · exact shEs_mem hx h.2
theorem shSs_mem : ∀ {l : List StmtP} {x : StmtP}, x ∈ l → shSs l → shS x
  | e :: l, x, hx, h => by
    rcases List.mem_cons.1 hx with rfl | hx
    · exact h.1
    · exact shSs_mem hx h.2
theorem sizeSs_mem : ∀ {l : List StmtP} {x : StmtP}, x ∈ l → sizeS x ≤ sizeSs l
  | e :: l, x, hx => by
    unfold sizeSs
    rcases List.mem_cons.1 hx with rfl | hx
    · exact Nat.le_add_right _ _
    · exact Nat.le_trans (sizeSs_mem hx) (Nat.le_add_left _ _)
theorem sizeEs_len : ∀ l : List ExprP, l.length ≤ sizeEs l
  | [] => Nat.le_refl _
  | e :: l => by
    have := sizeEs_len l
    have := sizeE_eq e
    unfold sizeEs
    rw [List.length_cons]
    omega
theorem sizeSs_len : ∀ l : List StmtP, l.length ≤ sizeSs l
  | [] => Nat.le_refl _
  | s :: l => by
    have := sizeSs_len l
    have := sizeS_eq s
    unfold sizeSs
    rw [List.length_cons]
    omega
theorem getD_memE {l : List ExprP} {j : Nat} (h : j < l.length) : l.getD j dExpr ∈ l := by
  rw [List.getD, List.getElem?_eq_getElem h]
  exact List.getElem_mem h
theorem getD_memS {l : List StmtP} {j : Nat} (h : j < l.length) : l.getD j dStmt ∈ l := by
  rw [List.getD, List.getElem?_eq_getElem h]
  exact List.getElem_mem h
/-! ### The cases of the code, by place -/
theorem genE_log2 {e : ExprP} {m : Int} (h : e.kind = 6 ∧ (e.op = 1 ∨ e.op = 2)) (hl : 2 ≤ e.args.length) : genE e m = (if e.op = 1 then ((genE (e.args.getD 0 dExpr) (m + 2)).1 ++ [(25, m)] ++ [(1, 1), (24, m + 1), (38, m)] ++ (genE (e.args.getD 1 dExpr) (genE (e.args.getD 0 dExpr) (m + 2)).2).1 ++ [(11, 0), (38, m + 1)], (genE (e.args.getD 1 dExpr) (genE (e.args.getD 0 dExpr) (m + 2)).2).2) else ((genE (e.args.getD 0 dExpr) (m + 2)).1 ++ [(25, m)] ++ (genE (e.args.getD 1 dExpr) (genE (e.args.getD 0 dExpr) (m + 2)).2).1 ++ [(11, 0), (24, m + 1), (38, m), (1, 0), (38, m + 1)], (genE (e.args.getD 1 dExpr) (genE (e.args.getD 0 dExpr) (m + 2)).2).2)) := by
  obtain ⟨k, o, n, s, l⟩ := e
  match l, hl with
  | x :: y :: r, _ =>
    have h' : k = 6 ∧ (o = 1 ∨ o = 2) := h
    conv => lhs; unfold genE
    rw [if_pos h']
    rfl
theorem genE_flat2 {e : ExprP} {m : Int} (h : ¬ (e.kind = 6 ∧ (e.op = 1 ∨ e.op = 2))) : genE e m = ((genEs e.args m).1 ++ [ownI e], (genEs e.args m).2) := by
  obtain ⟨k, o, n, s, l⟩ := e
  exact genE_flat h
theorem genEs_drop {l : List ExprP} {k : Nat} (h : k < l.length) (m : Int) : genEs (l.drop k) m = ((genE (l.getD k dExpr) m).1 ++ (genEs (l.drop (k + 1)) (genE (l.getD k dExpr) m).2).1, (genEs (l.drop (k + 1)) (genE (l.getD k dExpr) m).2).2) := by
  rw [List.drop_eq_getElem_cons h, List.getD, List.getElem?_eq_getElem h]
  conv => lhs; unfold genEs
  rfl
theorem genB_drop {l : List StmtP} {k : Nat} (h : k < l.length) (m : Int) : genB (l.drop k) m = ((genS (l.getD k dStmt) m).1 ++ (genB (l.drop (k + 1)) (genS (l.getD k dStmt) m).2).1, (genB (l.drop (k + 1)) (genS (l.getD k dStmt) m).2).2) := by
  rw [List.drop_eq_getElem_cons h, List.getD, List.getElem?_eq_getElem h]
  conv => lhs; unfold genB
  rfl
theorem genSay_drop {l : List ExprP} {k : Nat} (h : k < l.length) (m : Int) : genSay (l.drop k) m = (if (l.getD k dExpr).kind = 19 then ((21, (l.getD k dExpr).num) :: (genSay (l.drop (k + 1)) m).1, (genSay (l.drop (k + 1)) m).2)
    else if (l.getD k dExpr).kind = 13 then ((genE ((l.getD k dExpr).args.getD 0 dExpr) m).1 ++ [(23, 0)] ++ (genSay (l.drop (k + 1)) (genE ((l.getD k dExpr).args.getD 0 dExpr) m).2).1, (genSay (l.drop (k + 1)) (genE ((l.getD k dExpr).args.getD 0 dExpr) m).2).2)
    else ((genE (l.getD k dExpr) m).1 ++ [(22, 0)] ++ (genSay (l.drop (k + 1)) (genE (l.getD k dExpr) m).2).1, (genSay (l.drop (k + 1)) (genE (l.getD k dExpr) m).2).2)) := by
  rw [List.drop_eq_getElem_cons h, List.getD, List.getElem?_eq_getElem h]
  conv => lhs; unfold genSay
  rfl
theorem genS_if2 {s : StmtP} {m : Int} (hk : s.kind = 9) (hc : s.els.length = 0) : genS s m = ([(37, 0)] ++ (genE (s.args.getD 0 dExpr) (m + 1)).1 ++ [(25, m)] ++ (genB s.body (genE (s.args.getD 0 dExpr) (m + 1)).2).1 ++ [(38, m)], (genB s.body (genE (s.args.getD 0 dExpr) (m + 1)).2).2) := by cases s; exact genS_if hk hc
theorem genS_else2 {s : StmtP} {m : Int} (hk : s.kind = 9) (hc : ¬ s.els.length = 0) : genS s m = ([(37, 0)] ++ (genE (s.args.getD 0 dExpr) (m + 2)).1 ++ [(25, m)] ++ (genB s.body (genE (s.args.getD 0 dExpr) (m + 2)).2).1 ++ [(24, m + 1), (38, m)] ++ (genB s.els (genB s.body (genE (s.args.getD 0 dExpr) (m + 2)).2).2).1 ++ [(38, m + 1)], (genB s.els (genB s.body (genE (s.args.getD 0 dExpr) (m + 2)).2).2).2) := by cases s; exact genS_else hk hc
theorem genS_while2 {s : StmtP} {m : Int} (hk : s.kind = 10) : genS s m = ([(38, m), (37, 0)] ++ (genE (s.args.getD 0 dExpr) (m + 2)).1 ++ [(25, m + 1)] ++ (genB s.body (genE (s.args.getD 0 dExpr) (m + 2)).2).1 ++ [(24, m), (38, m + 1)], (genB s.body (genE (s.args.getD 0 dExpr) (m + 2)).2).2) := by cases s; exact genS_while hk
theorem genS_each2 {s : StmtP} {m : Int} (hk : s.kind = 11) : genS s m = ([(37, 0)] ++ (genE (s.args.getD 0 dExpr) (m + 2)).1 ++ [(19, 2), (6, s.num), (38, m), (5, s.num), (25, m + 1), (37, 0)] ++ [(5, s.num), (19, 3), (6, s.num + 1)] ++ (genB s.body (genE (s.args.getD 0 dExpr) (m + 2)).2).1 ++ [(5, s.num + 1), (6, s.num), (24, m), (38, m + 1)], (genB s.body (genE (s.args.getD 0 dExpr) (m + 2)).2).2) := by cases s; exact genS_each hk
theorem genS_say2 {s : StmtP} {m : Int} (hk : s.kind = 1) : genS s m = ([(37, 0)] ++ (genSay s.args m).1, (genSay s.args m).2) := by cases s; exact genS_say hk
theorem genS_flat2 {s : StmtP} {m : Int} (hk : s.kind ≠ 1 ∧ s.kind ≠ 9 ∧ s.kind ≠ 10 ∧ s.kind ≠ 11) : genS s m = ([(37, 0)] ++ (genEs s.args m).1 ++ [deedI s], (genEs s.args m).2) := by cases s; exact genS_flat hk
/-! ### How long -/
mutual
theorem genE_len : ∀ (e : ExprP) (m : Int), (genE e m).1.length ≤ 8 * sizeE e ∧ m ≤ (genE e m).2 ∧ (genE e m).2 ≤ m + 2 * sizeE e
  | .mk k o n s l, m => by
    by_cases h : k = 6 ∧ (o = 1 ∨ o = 2)
    · match l with
      | [] =>
        unfold genE sizeE sizeEs
        rw [if_pos h]
        simp
        omega
      | [x] =>
        unfold genE
        rw [if_pos h]
        simp
        omega
      | x :: y :: r =>
        have h1 := genE_len x (m + 2)
        have h2 := genE_len y (genE x (m + 2)).2
        unfold genE sizeE sizeEs sizeEs
        rw [if_pos h]
        by_cases ho : o = 1
        · simp only [if_pos ho, List.length_append, List.length_cons, List.length_nil]
          omega
        · simp only [if_neg ho, List.length_append, List.length_cons, List.length_nil]
          omega
    · have h1 := genEs_len l m
      rw [genE_flat h]
      unfold sizeE
      simp only [List.length_append, List.length_cons, List.length_nil]
      omega
theorem genEs_len : ∀ (l : List ExprP) (m : Int), (genEs l m).1.length ≤ 8 * sizeEs l ∧ m ≤ (genEs l m).2 ∧ (genEs l m).2 ≤ m + 2 * sizeEs l
  | [], m => by unfold genEs sizeEs; simp
  | e :: l, m => by
    have h1 := genE_len e m
    have h2 := genEs_len l (genE e m).2
    unfold genEs sizeEs
    simp only [List.length_append]
    omega
end
theorem sizeE_arg0 (e : ExprP) : sizeE (e.args.getD 0 dExpr) ≤ sizeE e := by
  obtain ⟨k, o, n, s, l⟩ := e
  match l with
  | [] => unfold sizeE; show sizeE dExpr ≤ _; unfold dExpr sizeE sizeEs; omega
  | x :: r => show sizeE x ≤ _; rw [sizeE_eq (.mk k o n s (x :: r))]; show _ ≤ 1 + sizeEs (x :: r); unfold sizeEs; omega
theorem genSay_len : ∀ (l : List ExprP) (m : Int), (genSay l m).1.length ≤ 9 * sizeEs l ∧ m ≤ (genSay l m).2 ∧ (genSay l m).2 ≤ m + 2 * sizeEs l
  | [], m => by unfold genSay sizeEs; simp
  | x :: l, m => by
    have hz := sizeE_arg0 x
    have hx := sizeE_eq x
    unfold genSay sizeEs
    by_cases h : x.kind = 19
    · have h2 := genSay_len l m
      rw [if_pos h]
      simp only [List.length_cons]
      omega
    · rw [if_neg h]
      by_cases h' : x.kind = 13
      · have h1 := genE_len (x.args.getD 0 dExpr) m
        have h2 := genSay_len l (genE (x.args.getD 0 dExpr) m).2
        rw [if_pos h']
        simp only [List.length_append, List.length_cons, List.length_nil]
        omega
      · have h1 := genE_len x m
        have h2 := genSay_len l (genE x m).2
        rw [if_neg h']
        simp only [List.length_append, List.length_cons, List.length_nil]
        omega
theorem sizeEs_arg0 (l : List ExprP) : sizeE (l.getD 0 dExpr) ≤ sizeEs l + 1 := by
  match l with
  | [] => show sizeE dExpr ≤ _; unfold dExpr sizeE sizeEs; omega
  | x :: r => show sizeE x ≤ _; unfold sizeEs; omega
mutual
theorem genS_len : ∀ (s : StmtP) (m : Int), (genS s m).1.length ≤ 30 * sizeS s ∧ m ≤ (genS s m).2 ∧ (genS s m).2 ≤ m + 4 * sizeS s
  | .mk k n s l b c, m => by
    have hz := sizeEs_arg0 l
    unfold sizeS
    by_cases h9 : k = 9
    · by_cases hc : c.length = 0
      · rw [genS_if h9 hc]
        have h1 := genE_len (l.getD 0 dExpr) (m + 1)
        have h2 := genB_len b (genE (l.getD 0 dExpr) (m + 1)).2
        simp only [List.length_append, List.length_cons, List.length_nil]
        omega
      · rw [genS_else h9 hc]
        have h1 := genE_len (l.getD 0 dExpr) (m + 2)
        have h2 := genB_len b (genE (l.getD 0 dExpr) (m + 2)).2
        have h3 := genB_len c (genB b (genE (l.getD 0 dExpr) (m + 2)).2).2
        simp only [List.length_append, List.length_cons, List.length_nil]
        omega
    · have h1 := genE_len (l.getD 0 dExpr) (m + 2)
      have h2 := genB_len b (genE (l.getD 0 dExpr) (m + 2)).2
      by_cases h10 : k = 10
      · rw [genS_while h10]
        simp only [List.length_append, List.length_cons, List.length_nil]
        omega
      · by_cases h11 : k = 11
        · rw [genS_each h11]
          simp only [List.length_append, List.length_cons, List.length_nil]
          omega
        · by_cases h1 : k = 1
          · have h4 := genSay_len l m
            rw [genS_say h1]
            simp only [List.length_append, List.length_cons, List.length_nil]
            omega
          · have h4 := genEs_len l m
            rw [genS_flat ⟨h1, h9, h10, h11⟩]
            simp only [List.length_append, List.length_cons, List.length_nil]
            omega
theorem genB_len : ∀ (l : List StmtP) (m : Int), (genB l m).1.length ≤ 30 * sizeSs l ∧ m ≤ (genB l m).2 ∧ (genB l m).2 ≤ m + 4 * sizeSs l
  | [], m => by unfold genB sizeSs; simp
  | s :: l, m => by
    have h1 := genS_len s m
    have h2 := genB_len l (genS s m).2
    unfold genB sizeSs
    simp only [List.length_append]
    omega
end
theorem code_of (l : List InsP) (E : Env) (v : Value) (h : Rep E (.sl 2 l.length (rowL (l.map insAv))) v) : Rep E (codeAv l) v := rep_rows (fun E j hj v hv => by
  have e : rowL (l.map insAv) j = insAv (l.getD j dIns) := by
    show (l.map insAv).getD j .any = _
    rw [List.getD, List.getElem?_map, List.getD, List.getElem?_eq_getElem hj]
    rfl
  rwa [e] at hv) E v h
theorem code_nil (E : Env) (v : Value) (h : Rep E (.val (.slice none 0 0)) v) : Rep E (codeAv []) v := rep_nil0 (k := 2) E v h
theorem pair_code {p q : List InsP × Int} (h : p = q) : Av.tup [codeAv p.1, vi p.2] = .tup [codeAv q.1, vi q.2] := by rw [h]
end Go.Proofs.Ytfipllnodgbghaa
