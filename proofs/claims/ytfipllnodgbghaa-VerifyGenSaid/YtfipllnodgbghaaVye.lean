/- Chapter 31: which statements may be, walked. -/
import Derived.Test.YtfipllnodgbghaaVyd
import Derived.Test.YtfipllnodgbghaaVya
import Derived.Test.YtfipllnodgbghaaProg
import Derived.KernelRfl
namespace Go.Proofs.Ytfipllnodgbghaa
open Go.RowKit
set_option maxRecDepth 100000
set_option linter.unusedVariables false
set_option linter.unusedSimpArgs false
theorem pair_bool {p q : Bool × Bool} (h : p = q) : Av.tup [vb p.1, vb p.2] = .tup [vb q.1, vb q.2] := by rw [h]
set_option maxHeartbeats 6400000 in
theorem shape_pc (s : StmtP) : PC Try.prog 29 [stmtAv s] (.tup [vb (shapeS s).1, vb (shapeS s).2]) := by
  rw [stmtAv_eq]
  refine FC.body 2 68 Try.func29 rfl (by kernel_rfl) ?_
  refine aw_seq ?_
  refine aw_text rfl ?_
  refine ch_v (R := []) rfl rfl (oc_box (x := .agg _) rfl rfl) trivial ?_
  refine ch_v (R := []) rfl rfl (oc_assign (x := .val _) rfl rfl) trivial ?_
  refine ch_v (R := []) rfl rfl (oc_assign (x := .val _) rfl rfl) trivial ?_
  refine ck_nil ?_
  refine aw_seq ?_
  refine aw_seq ?_
  refine aw_text rfl ?_
  refine ch_v (R := []) rfl rfl (oc_fieldAddr (off := 0) rfl rfl rfl (by kernel_rfl) rfl) trivial ?_
  refine ch_v (R := []) rfl rfl (oc_load rfl rfl (by kernel_rfl) cells_int) trivial ?_
  refine ck_nil ?_
  refine aw_block ?_
  refine aw_seq ?_
  refine aw_text rfl ?_
  refine ch_v (R := []) rfl rfl (oc_binZ rfl rfl rfl rfl) trivial ?_
  refine ch_v (R := []) rfl rfl (oc_assign (x := .val _) rfl rfl) trivial ?_
  refine ck_nil ?_
  refine aw_cond rfl (fun hb => ?_) (fun hb => ?_)
  · have k1 : s.kind = 1 := by simpa using hb
    refine aw_seq ?_
    refine aw_text rfl ?_
    refine ch_v (R := []) rfl rfl (oc_load_row rfl rfl (by kernel_rfl) (by kernel_rfl) rfl) trivial ?_
    refine ch_v (R := []) rfl rfl (oc_fieldAddr (off := 3) rfl rfl rfl (by kernel_rfl) rfl) trivial ?_
    refine ch_v (R := []) rfl rfl (oc_load rfl rfl (by kernel_rfl) cells_sl) trivial ?_
    refine ch_v (R := []) rfl rfl (oc_len rfl rfl (by kernel_rfl)) trivial ?_
    refine ch_v (R := []) rfl rfl (oc_call rfl (by kernel_rfl) ((show PC _ _ [(.agg [vi s.kind, vi s.num, vs s.name, exprsAv s.args, stmtsAv s.body, stmtsAv s.els]), vb false, vi (s.args.length : Int), vb false, vb false] _ from stmtAv_eq s ▸ has_pc s false (s.args.length : Int) false false)) rfl (by simp only [PureL, Pure, and_self, pure_slI, pure_slS, pure_tab, expr_pure, exprs_pure, stmt_pure, stmts_pure, code_pure, insAv, implies_true]) (by simp only [PureL, Pure, and_self, pure_slI, pure_slS, pure_tab, expr_pure, exprs_pure, stmt_pure, stmts_pure, code_pure, insAv, implies_true])) trivial ?_
    refine ch_v (R := []) rfl rfl (oc_move (x := .val _) rfl rfl) trivial ?_
    refine ch_g (R := []) rfl rfl rfl gate_t (fun hC => oc_fieldAddr (off := 3) rfl rfl rfl (by kernel_rfl) rfl) (fun hC => ⟨(by first | rfl | exact hC | (simp only [Bool.and_eq_true] at hC; first | exact hC.1 | exact hC.1.1 | exact hC.2) | simp_all), trivial⟩) trivial ?_
    refine ch_g (R := []) rfl rfl rfl gate_t (fun hC => oc_load rfl rfl (by kernel_rfl) cells_sl) (fun hC => ⟨(by first | rfl | exact hC | (simp only [Bool.and_eq_true] at hC; first | exact hC.1 | exact hC.1.1 | exact hC.2) | simp_all), trivial⟩) trivial ?_
    refine ch_g (R := []) rfl rfl rfl gate_t (fun hC => oc_len rfl rfl (by kernel_rfl)) (fun hC => ⟨(by first | rfl | exact hC | (simp only [Bool.and_eq_true] at hC; first | exact hC.1 | exact hC.1.1 | exact hC.2) | simp_all), trivial⟩) trivial ?_
    refine ch_g (R := []) rfl rfl rfl gate_t (fun hC => oc_call rfl (by kernel_rfl) (among10_pc (s.args.length : Int) 1 8) rfl (by simp only [PureL, Pure, and_self, pure_slI, pure_slS, pure_tab, expr_pure, exprs_pure, stmt_pure, stmts_pure, code_pure, insAv, implies_true]) (by simp only [PureL, Pure, and_self, pure_slI, pure_slS, pure_tab, expr_pure, exprs_pure, stmt_pure, stmts_pure, code_pure, insAv, implies_true])) (fun hC => ⟨(by first | rfl | exact hC | (simp only [Bool.and_eq_true] at hC; first | exact hC.1 | exact hC.1.1 | exact hC.2) | simp_all), (by first | rfl | exact hC | (simp only [Bool.and_eq_true] at hC; first | exact hC.1 | exact hC.1.1 | exact hC.2) | simp_all), (by first | rfl | exact hC | (simp only [Bool.and_eq_true] at hC; first | exact hC.1 | exact hC.1.1 | exact hC.2) | simp_all), (by first | rfl | exact hC | (simp only [Bool.and_eq_true] at hC; first | exact hC.1 | exact hC.1.1 | exact hC.2) | simp_all), trivial⟩) trivial ?_
    refine ch_v (R := []) rfl rfl (oc_and rfl rfl rfl rfl (by first | exact fun h => h | simp_all)) trivial ?_
    refine ch_v (R := []) rfl rfl (oc_assign (x := .val _) rfl rfl) trivial ?_
    refine ch_v (R := []) rfl rfl (oc_assign (x := .val _) rfl rfl) trivial ?_
    refine ck_nil ?_
    refine aw_ret ?_
    exact ⟨.inl rfl, by rw [pair_bool (show shapeS s = (hasS s false (s.args.length : Int) false false && among (s.args.length : Int) 1 8, false) by unfold shapeS; rw [if_pos k1])]; exact ResOk.two rfl (ResC.tmp rfl) (ResC.tmp rfl), trivial⟩
  · have k1 : ¬ (s.kind = 1) := by simpa using hb
    refine aw_seq ?_
    refine aw_seq ?_
    refine aw_text rfl ?_
    refine ch_v (R := []) rfl rfl (oc_binZ rfl rfl rfl rfl) trivial ?_
    refine ch_v (R := []) rfl rfl (oc_assign (x := .val _) rfl rfl) trivial ?_
    refine ck_nil ?_
    refine aw_joinQ (τ := ⟨[(1, .ptr (.agg [vi s.kind, vi s.num, vs s.name, exprsAv s.args, stmtsAv s.body, stmtsAv s.els])), (5, vi s.kind), (19, vb ((s.kind == 2 || (s.kind == 3 || (s.kind == 5 || (s.kind == 6 || (s.kind == 17 || s.kind == 23)))))))], []⟩) ?_ ?_
    · refine aw_cond rfl (fun hb => ?_) (fun hb => ?_)
      · have z0 : s.kind = 2 := by simpa using hb
        refine aw_skip ?_
        exact Le.sub ⟨.inr rfl, .inr rfl, .inr (vb_eq (by rw [Bool.eq_iff_iff]; simp only [Bool.or_eq_true, beq_iff_eq]; omega)), trivial⟩ trivial
      · have z0 : ¬ s.kind = 2 := by simpa using hb
        refine aw_seq ?_
        refine aw_text rfl ?_
        refine ch_v (R := []) rfl rfl (oc_binZ rfl rfl rfl rfl) trivial ?_
        refine ch_v (R := []) rfl rfl (oc_assign (x := .val _) rfl rfl) trivial ?_
        refine ck_nil ?_
        refine aw_cond rfl (fun hb => ?_) (fun hb => ?_)
        · have z1 : s.kind = 3 := by simpa using hb
          refine aw_skip ?_
          exact Le.sub ⟨.inr rfl, .inr rfl, .inr (vb_eq (by rw [Bool.eq_iff_iff]; simp only [Bool.or_eq_true, beq_iff_eq]; omega)), trivial⟩ trivial
        · have z1 : ¬ s.kind = 3 := by simpa using hb
          refine aw_seq ?_
          refine aw_text rfl ?_
          refine ch_v (R := []) rfl rfl (oc_binZ rfl rfl rfl rfl) trivial ?_
          refine ch_v (R := []) rfl rfl (oc_assign (x := .val _) rfl rfl) trivial ?_
          refine ck_nil ?_
          refine aw_cond rfl (fun hb => ?_) (fun hb => ?_)
          · have z2 : s.kind = 5 := by simpa using hb
            refine aw_skip ?_
            exact Le.sub ⟨.inr rfl, .inr rfl, .inr (vb_eq (by rw [Bool.eq_iff_iff]; simp only [Bool.or_eq_true, beq_iff_eq]; omega)), trivial⟩ trivial
          · have z2 : ¬ s.kind = 5 := by simpa using hb
            refine aw_seq ?_
            refine aw_text rfl ?_
            refine ch_v (R := []) rfl rfl (oc_binZ rfl rfl rfl rfl) trivial ?_
            refine ch_v (R := []) rfl rfl (oc_assign (x := .val _) rfl rfl) trivial ?_
            refine ck_nil ?_
            refine aw_cond rfl (fun hb => ?_) (fun hb => ?_)
            · have z3 : s.kind = 6 := by simpa using hb
              refine aw_skip ?_
              exact Le.sub ⟨.inr rfl, .inr rfl, .inr (vb_eq (by rw [Bool.eq_iff_iff]; simp only [Bool.or_eq_true, beq_iff_eq]; omega)), trivial⟩ trivial
            · have z3 : ¬ s.kind = 6 := by simpa using hb
              refine aw_seq ?_
              refine aw_text rfl ?_
              refine ch_v (R := []) rfl rfl (oc_binZ rfl rfl rfl rfl) trivial ?_
              refine ch_v (R := []) rfl rfl (oc_assign (x := .val _) rfl rfl) trivial ?_
              refine ck_nil ?_
              refine aw_cond rfl (fun hb => ?_) (fun hb => ?_)
              · have z4 : s.kind = 17 := by simpa using hb
                refine aw_skip ?_
                exact Le.sub ⟨.inr rfl, .inr rfl, .inr (vb_eq (by rw [Bool.eq_iff_iff]; simp only [Bool.or_eq_true, beq_iff_eq]; omega)), trivial⟩ trivial
              · have z4 : ¬ s.kind = 17 := by simpa using hb
                refine aw_text rfl ?_
                refine ch_v (R := []) rfl rfl (oc_binZ rfl rfl rfl rfl) trivial ?_
                refine ch_v (R := []) rfl rfl (oc_assign (x := .val _) rfl rfl) trivial ?_
                refine ck_nil ?_
                exact Le.sub ⟨.inr rfl, .inr rfl, .inr (vb_eq (by rw [Bool.eq_iff_iff]; simp only [Bool.or_eq_true, beq_iff_eq]; omega)), trivial⟩ trivial
    · refine aw_cond rfl (fun hb => ?_) (fun hb => ?_)
      · have k2 : s.kind = 2 ∨ s.kind = 3 ∨ s.kind = 5 ∨ s.kind = 6 ∨ s.kind = 17 ∨ s.kind = 23 := by simpa using hb
        refine aw_seq ?_
        refine aw_text rfl ?_
        refine ch_v (R := []) rfl rfl (oc_load_row rfl rfl (by kernel_rfl) (by kernel_rfl) rfl) trivial ?_
        refine ch_v (R := []) rfl rfl (oc_call rfl (by kernel_rfl) ((show PC _ _ [(.agg [vi s.kind, vi s.num, vs s.name, exprsAv s.args, stmtsAv s.body, stmtsAv s.els]), vb true, vi 1, vb false, vb false] _ from stmtAv_eq s ▸ has_pc s true 1 false false)) rfl (by simp only [PureL, Pure, and_self, pure_slI, pure_slS, pure_tab, expr_pure, exprs_pure, stmt_pure, stmts_pure, code_pure, insAv, implies_true]) (by simp only [PureL, Pure, and_self, pure_slI, pure_slS, pure_tab, expr_pure, exprs_pure, stmt_pure, stmts_pure, code_pure, insAv, implies_true])) trivial ?_
        refine ch_v (R := []) rfl rfl (oc_assign (x := .val _) rfl rfl) trivial ?_
        refine ch_v (R := []) rfl rfl (oc_assign (x := .val _) rfl rfl) trivial ?_
        refine ck_nil ?_
        refine aw_ret ?_
        exact ⟨.inl rfl, by rw [pair_bool (show shapeS s = (hasS s true 1 false false, true) by unfold shapeS; rw [if_neg k1, if_pos k2])]; exact ResOk.two rfl (ResC.tmp rfl) (ResC.tmp rfl), trivial⟩
      · have k2 : ¬ (s.kind = 2 ∨ s.kind = 3 ∨ s.kind = 5 ∨ s.kind = 6 ∨ s.kind = 17 ∨ s.kind = 23) := by simpa using hb
        refine aw_seq ?_
        refine aw_text rfl ?_
        refine ch_v (R := []) rfl rfl (oc_binZ rfl rfl rfl rfl) trivial ?_
        refine ch_v (R := []) rfl rfl (oc_assign (x := .val _) rfl rfl) trivial ?_
        refine ck_nil ?_
        refine aw_cond rfl (fun hb => ?_) (fun hb => ?_)
        · have k4 : s.kind = 4 := by simpa using hb
          refine aw_seq ?_
          refine aw_text rfl ?_
          refine ch_v (R := []) rfl rfl (oc_load_row rfl rfl (by kernel_rfl) (by kernel_rfl) rfl) trivial ?_
          refine ch_v (R := []) rfl rfl (oc_call rfl (by kernel_rfl) ((show PC _ _ [(.agg [vi s.kind, vi s.num, vs s.name, exprsAv s.args, stmtsAv s.body, stmtsAv s.els]), vb true, vi 2, vb false, vb false] _ from stmtAv_eq s ▸ has_pc s true 2 false false)) rfl (by simp only [PureL, Pure, and_self, pure_slI, pure_slS, pure_tab, expr_pure, exprs_pure, stmt_pure, stmts_pure, code_pure, insAv, implies_true]) (by simp only [PureL, Pure, and_self, pure_slI, pure_slS, pure_tab, expr_pure, exprs_pure, stmt_pure, stmts_pure, code_pure, insAv, implies_true])) trivial ?_
          refine ch_v (R := []) rfl rfl (oc_assign (x := .val _) rfl rfl) trivial ?_
          refine ch_v (R := []) rfl rfl (oc_assign (x := .val _) rfl rfl) trivial ?_
          refine ck_nil ?_
          refine aw_ret ?_
          exact ⟨.inl rfl, by rw [pair_bool (show shapeS s = (hasS s true 2 false false, true) by unfold shapeS; rw [if_neg k1, if_neg k2, if_pos k4])]; exact ResOk.two rfl (ResC.tmp rfl) (ResC.tmp rfl), trivial⟩
        · have k4 : ¬ (s.kind = 4) := by simpa using hb
          refine aw_seq ?_
          refine aw_text rfl ?_
          refine ch_v (R := []) rfl rfl (oc_binZ rfl rfl rfl rfl) trivial ?_
          refine ch_v (R := []) rfl rfl (oc_assign (x := .val _) rfl rfl) trivial ?_
          refine ck_nil ?_
          refine aw_cond rfl (fun hb => ?_) (fun hb => ?_)
          · have k7 : s.kind = 7 := by simpa using hb
            refine aw_seq ?_
            refine aw_text rfl ?_
            refine ch_v (R := []) rfl rfl (oc_load_row rfl rfl (by kernel_rfl) (by kernel_rfl) rfl) trivial ?_
            refine ch_v (R := []) rfl rfl (oc_call rfl (by kernel_rfl) ((show PC _ _ [(.agg [vi s.kind, vi s.num, vs s.name, exprsAv s.args, stmtsAv s.body, stmtsAv s.els]), vb false, vi 2, vb false, vb false] _ from stmtAv_eq s ▸ has_pc s false 2 false false)) rfl (by simp only [PureL, Pure, and_self, pure_slI, pure_slS, pure_tab, expr_pure, exprs_pure, stmt_pure, stmts_pure, code_pure, insAv, implies_true]) (by simp only [PureL, Pure, and_self, pure_slI, pure_slS, pure_tab, expr_pure, exprs_pure, stmt_pure, stmts_pure, code_pure, insAv, implies_true])) trivial ?_
            refine ch_v (R := []) rfl rfl (oc_assign (x := .val _) rfl rfl) trivial ?_
            refine ch_v (R := []) rfl rfl (oc_assign (x := .val _) rfl rfl) trivial ?_
            refine ck_nil ?_
            refine aw_ret ?_
            exact ⟨.inl rfl, by rw [pair_bool (show shapeS s = (hasS s false 2 false false, false) by unfold shapeS; rw [if_neg k1, if_neg k2, if_neg k4, if_pos k7])]; exact ResOk.two rfl (ResC.tmp rfl) (ResC.tmp rfl), trivial⟩
          · have k7 : ¬ (s.kind = 7) := by simpa using hb
            refine aw_seq ?_
            refine aw_seq ?_
            refine aw_text rfl ?_
            refine ch_v (R := []) rfl rfl (oc_binZ rfl rfl rfl rfl) trivial ?_
            refine ch_v (R := []) rfl rfl (oc_assign (x := .val _) rfl rfl) trivial ?_
            refine ck_nil ?_
            refine aw_joinQ (τ := ⟨[(1, .ptr (.agg [vi s.kind, vi s.num, vs s.name, exprsAv s.args, stmtsAv s.body, stmtsAv s.els])), (5, vi s.kind), (36, vb ((s.kind == 8 || (s.kind == 12 || (s.kind == 16 || (s.kind == 20 || (s.kind == 22 || s.kind == 19)))))))], []⟩) ?_ ?_
            · refine aw_cond rfl (fun hb => ?_) (fun hb => ?_)
              · have z0 : s.kind = 8 := by simpa using hb
                refine aw_skip ?_
                exact Le.sub ⟨.inr rfl, .inr rfl, .inr (vb_eq (by rw [Bool.eq_iff_iff]; simp only [Bool.or_eq_true, beq_iff_eq]; omega)), trivial⟩ trivial
              · have z0 : ¬ s.kind = 8 := by simpa using hb
                refine aw_seq ?_
                refine aw_text rfl ?_
                refine ch_v (R := []) rfl rfl (oc_binZ rfl rfl rfl rfl) trivial ?_
                refine ch_v (R := []) rfl rfl (oc_assign (x := .val _) rfl rfl) trivial ?_
                refine ck_nil ?_
                refine aw_cond rfl (fun hb => ?_) (fun hb => ?_)
                · have z1 : s.kind = 12 := by simpa using hb
                  refine aw_skip ?_
                  exact Le.sub ⟨.inr rfl, .inr rfl, .inr (vb_eq (by rw [Bool.eq_iff_iff]; simp only [Bool.or_eq_true, beq_iff_eq]; omega)), trivial⟩ trivial
                · have z1 : ¬ s.kind = 12 := by simpa using hb
                  refine aw_seq ?_
                  refine aw_text rfl ?_
                  refine ch_v (R := []) rfl rfl (oc_binZ rfl rfl rfl rfl) trivial ?_
                  refine ch_v (R := []) rfl rfl (oc_assign (x := .val _) rfl rfl) trivial ?_
                  refine ck_nil ?_
                  refine aw_cond rfl (fun hb => ?_) (fun hb => ?_)
                  · have z2 : s.kind = 16 := by simpa using hb
                    refine aw_skip ?_
                    exact Le.sub ⟨.inr rfl, .inr rfl, .inr (vb_eq (by rw [Bool.eq_iff_iff]; simp only [Bool.or_eq_true, beq_iff_eq]; omega)), trivial⟩ trivial
                  · have z2 : ¬ s.kind = 16 := by simpa using hb
                    refine aw_seq ?_
                    refine aw_text rfl ?_
                    refine ch_v (R := []) rfl rfl (oc_binZ rfl rfl rfl rfl) trivial ?_
                    refine ch_v (R := []) rfl rfl (oc_assign (x := .val _) rfl rfl) trivial ?_
                    refine ck_nil ?_
                    refine aw_cond rfl (fun hb => ?_) (fun hb => ?_)
                    · have z3 : s.kind = 20 := by simpa using hb
                      refine aw_skip ?_
                      exact Le.sub ⟨.inr rfl, .inr rfl, .inr (vb_eq (by rw [Bool.eq_iff_iff]; simp only [Bool.or_eq_true, beq_iff_eq]; omega)), trivial⟩ trivial
                    · have z3 : ¬ s.kind = 20 := by simpa using hb
                      refine aw_seq ?_
                      refine aw_text rfl ?_
                      refine ch_v (R := []) rfl rfl (oc_binZ rfl rfl rfl rfl) trivial ?_
                      refine ch_v (R := []) rfl rfl (oc_assign (x := .val _) rfl rfl) trivial ?_
                      refine ck_nil ?_
                      refine aw_cond rfl (fun hb => ?_) (fun hb => ?_)
                      · have z4 : s.kind = 22 := by simpa using hb
                        refine aw_skip ?_
                        exact Le.sub ⟨.inr rfl, .inr rfl, .inr (vb_eq (by rw [Bool.eq_iff_iff]; simp only [Bool.or_eq_true, beq_iff_eq]; omega)), trivial⟩ trivial
                      · have z4 : ¬ s.kind = 22 := by simpa using hb
                        refine aw_text rfl ?_
                        refine ch_v (R := []) rfl rfl (oc_binZ rfl rfl rfl rfl) trivial ?_
                        refine ch_v (R := []) rfl rfl (oc_assign (x := .val _) rfl rfl) trivial ?_
                        refine ck_nil ?_
                        exact Le.sub ⟨.inr rfl, .inr rfl, .inr (vb_eq (by rw [Bool.eq_iff_iff]; simp only [Bool.or_eq_true, beq_iff_eq]; omega)), trivial⟩ trivial
            · refine aw_cond rfl (fun hb => ?_) (fun hb => ?_)
              · have k8 : s.kind = 8 ∨ s.kind = 12 ∨ s.kind = 16 ∨ s.kind = 20 ∨ s.kind = 22 ∨ s.kind = 19 := by simpa using hb
                refine aw_seq ?_
                refine aw_text rfl ?_
                refine ch_v (R := []) rfl rfl (oc_load_row rfl rfl (by kernel_rfl) (by kernel_rfl) rfl) trivial ?_
                refine ch_v (R := []) rfl rfl (oc_call rfl (by kernel_rfl) ((show PC _ _ [(.agg [vi s.kind, vi s.num, vs s.name, exprsAv s.args, stmtsAv s.body, stmtsAv s.els]), vb false, vi 1, vb false, vb false] _ from stmtAv_eq s ▸ has_pc s false 1 false false)) rfl (by simp only [PureL, Pure, and_self, pure_slI, pure_slS, pure_tab, expr_pure, exprs_pure, stmt_pure, stmts_pure, code_pure, insAv, implies_true]) (by simp only [PureL, Pure, and_self, pure_slI, pure_slS, pure_tab, expr_pure, exprs_pure, stmt_pure, stmts_pure, code_pure, insAv, implies_true])) trivial ?_
                refine ch_v (R := []) rfl rfl (oc_assign (x := .val _) rfl rfl) trivial ?_
                refine ch_v (R := []) rfl rfl (oc_assign (x := .val _) rfl rfl) trivial ?_
                refine ck_nil ?_
                refine aw_ret ?_
                exact ⟨.inl rfl, by rw [pair_bool (show shapeS s = (hasS s false 1 false false, false) by unfold shapeS; rw [if_neg k1, if_neg k2, if_neg k4, if_neg k7, if_pos k8])]; exact ResOk.two rfl (ResC.tmp rfl) (ResC.tmp rfl), trivial⟩
              · have k8 : ¬ (s.kind = 8 ∨ s.kind = 12 ∨ s.kind = 16 ∨ s.kind = 20 ∨ s.kind = 22 ∨ s.kind = 19) := by simpa using hb
                refine aw_seq ?_
                refine aw_text rfl ?_
                refine ch_v (R := []) rfl rfl (oc_binZ rfl rfl rfl rfl) trivial ?_
                refine ch_v (R := []) rfl rfl (oc_assign (x := .val _) rfl rfl) trivial ?_
                refine ck_nil ?_
                refine aw_cond rfl (fun hb => ?_) (fun hb => ?_)
                · have k9 : s.kind = 9 := by simpa using hb
                  refine aw_seq ?_
                  refine aw_text rfl ?_
                  refine ch_v (R := []) rfl rfl (oc_load_row rfl rfl (by kernel_rfl) (by kernel_rfl) rfl) trivial ?_
                  refine ch_v (R := []) rfl rfl (oc_call rfl (by kernel_rfl) ((show PC _ _ [(.agg [vi s.kind, vi s.num, vs s.name, exprsAv s.args, stmtsAv s.body, stmtsAv s.els]), vb false, vi 1, vb true, vb true] _ from stmtAv_eq s ▸ has_pc s false 1 true true)) rfl (by simp only [PureL, Pure, and_self, pure_slI, pure_slS, pure_tab, expr_pure, exprs_pure, stmt_pure, stmts_pure, code_pure, insAv, implies_true]) (by simp only [PureL, Pure, and_self, pure_slI, pure_slS, pure_tab, expr_pure, exprs_pure, stmt_pure, stmts_pure, code_pure, insAv, implies_true])) trivial ?_
                  refine ch_v (R := []) rfl rfl (oc_assign (x := .val _) rfl rfl) trivial ?_
                  refine ch_v (R := []) rfl rfl (oc_assign (x := .val _) rfl rfl) trivial ?_
                  refine ck_nil ?_
                  refine aw_ret ?_
                  exact ⟨.inl rfl, by rw [pair_bool (show shapeS s = (hasS s false 1 true true, false) by unfold shapeS; rw [if_neg k1, if_neg k2, if_neg k4, if_neg k7, if_neg k8, if_pos k9])]; exact ResOk.two rfl (ResC.tmp rfl) (ResC.tmp rfl), trivial⟩
                · have k9 : ¬ (s.kind = 9) := by simpa using hb
                  refine aw_seq ?_
                  refine aw_text rfl ?_
                  refine ch_v (R := []) rfl rfl (oc_binZ rfl rfl rfl rfl) trivial ?_
                  refine ch_v (R := []) rfl rfl (oc_assign (x := .val _) rfl rfl) trivial ?_
                  refine ck_nil ?_
                  refine aw_cond rfl (fun hb => ?_) (fun hb => ?_)
                  · have k10 : s.kind = 10 := by simpa using hb
                    refine aw_seq ?_
                    refine aw_text rfl ?_
                    refine ch_v (R := []) rfl rfl (oc_load_row rfl rfl (by kernel_rfl) (by kernel_rfl) rfl) trivial ?_
                    refine ch_v (R := []) rfl rfl (oc_call rfl (by kernel_rfl) ((show PC _ _ [(.agg [vi s.kind, vi s.num, vs s.name, exprsAv s.args, stmtsAv s.body, stmtsAv s.els]), vb false, vi 1, vb true, vb false] _ from stmtAv_eq s ▸ has_pc s false 1 true false)) rfl (by simp only [PureL, Pure, and_self, pure_slI, pure_slS, pure_tab, expr_pure, exprs_pure, stmt_pure, stmts_pure, code_pure, insAv, implies_true]) (by simp only [PureL, Pure, and_self, pure_slI, pure_slS, pure_tab, expr_pure, exprs_pure, stmt_pure, stmts_pure, code_pure, insAv, implies_true])) trivial ?_
                    refine ch_v (R := []) rfl rfl (oc_assign (x := .val _) rfl rfl) trivial ?_
                    refine ch_v (R := []) rfl rfl (oc_assign (x := .val _) rfl rfl) trivial ?_
                    refine ck_nil ?_
                    refine aw_ret ?_
                    exact ⟨.inl rfl, by rw [pair_bool (show shapeS s = (hasS s false 1 true false, false) by unfold shapeS; rw [if_neg k1, if_neg k2, if_neg k4, if_neg k7, if_neg k8, if_neg k9, if_pos k10])]; exact ResOk.two rfl (ResC.tmp rfl) (ResC.tmp rfl), trivial⟩
                  · have k10 : ¬ (s.kind = 10) := by simpa using hb
                    refine aw_seq ?_
                    refine aw_text rfl ?_
                    refine ch_v (R := []) rfl rfl (oc_binZ rfl rfl rfl rfl) trivial ?_
                    refine ch_v (R := []) rfl rfl (oc_assign (x := .val _) rfl rfl) trivial ?_
                    refine ck_nil ?_
                    refine aw_cond rfl (fun hb => ?_) (fun hb => ?_)
                    · have k11 : s.kind = 11 := by simpa using hb
                      refine aw_seq ?_
                      refine aw_text rfl ?_
                      refine ch_v (R := []) rfl rfl (oc_load_row rfl rfl (by kernel_rfl) (by kernel_rfl) rfl) trivial ?_
                      refine ch_v (R := []) rfl rfl (oc_call rfl (by kernel_rfl) ((show PC _ _ [(.agg [vi s.kind, vi s.num, vs s.name, exprsAv s.args, stmtsAv s.body, stmtsAv s.els]), vb true, vi 1, vb true, vb false] _ from stmtAv_eq s ▸ has_pc s true 1 true false)) rfl (by simp only [PureL, Pure, and_self, pure_slI, pure_slS, pure_tab, expr_pure, exprs_pure, stmt_pure, stmts_pure, code_pure, insAv, implies_true]) (by simp only [PureL, Pure, and_self, pure_slI, pure_slS, pure_tab, expr_pure, exprs_pure, stmt_pure, stmts_pure, code_pure, insAv, implies_true])) trivial ?_
                      refine ch_v (R := []) rfl rfl (oc_assign (x := .val _) rfl rfl) trivial ?_
                      refine ch_v (R := []) rfl rfl (oc_assign (x := .val _) rfl rfl) trivial ?_
                      refine ck_nil ?_
                      refine aw_ret ?_
                      exact ⟨.inl rfl, by rw [pair_bool (show shapeS s = (hasS s true 1 true false, true) by unfold shapeS; rw [if_neg k1, if_neg k2, if_neg k4, if_neg k7, if_neg k8, if_neg k9, if_neg k10, if_pos k11])]; exact ResOk.two rfl (ResC.tmp rfl) (ResC.tmp rfl), trivial⟩
                    · have k11 : ¬ (s.kind = 11) := by simpa using hb
                      refine aw_seq ?_
                      refine aw_text rfl ?_
                      refine ch_v (R := []) rfl rfl (oc_binZ rfl rfl rfl rfl) trivial ?_
                      refine ch_v (R := []) rfl rfl (oc_assign (x := .val _) rfl rfl) trivial ?_
                      refine ck_nil ?_
                      refine aw_cond rfl (fun hb => ?_) (fun hb => ?_)
                      · have k18 : s.kind = 18 := by simpa using hb
                        refine aw_seq ?_
                        refine aw_text rfl ?_
                        refine ch_v (R := []) rfl rfl (oc_load_row rfl rfl (by kernel_rfl) (by kernel_rfl) rfl) trivial ?_
                        refine ch_v (R := []) rfl rfl (oc_call rfl (by kernel_rfl) ((show PC _ _ [(.agg [vi s.kind, vi s.num, vs s.name, exprsAv s.args, stmtsAv s.body, stmtsAv s.els]), vb true, vi 0, vb false, vb false] _ from stmtAv_eq s ▸ has_pc s true 0 false false)) rfl (by simp only [PureL, Pure, and_self, pure_slI, pure_slS, pure_tab, expr_pure, exprs_pure, stmt_pure, stmts_pure, code_pure, insAv, implies_true]) (by simp only [PureL, Pure, and_self, pure_slI, pure_slS, pure_tab, expr_pure, exprs_pure, stmt_pure, stmts_pure, code_pure, insAv, implies_true])) trivial ?_
                        refine ch_v (R := []) rfl rfl (oc_assign (x := .val _) rfl rfl) trivial ?_
                        refine ch_v (R := []) rfl rfl (oc_assign (x := .val _) rfl rfl) trivial ?_
                        refine ck_nil ?_
                        refine aw_ret ?_
                        exact ⟨.inl rfl, by rw [pair_bool (show shapeS s = (hasS s true 0 false false, true) by unfold shapeS; rw [if_neg k1, if_neg k2, if_neg k4, if_neg k7, if_neg k8, if_neg k9, if_neg k10, if_neg k11, if_pos k18])]; exact ResOk.two rfl (ResC.tmp rfl) (ResC.tmp rfl), trivial⟩
                      · have k18 : ¬ (s.kind = 18) := by simpa using hb
                        refine aw_seq ?_
                        refine aw_seq ?_
                        refine aw_text rfl ?_
                        refine ch_v (R := []) rfl rfl (oc_binZ rfl rfl rfl rfl) trivial ?_
                        refine ch_v (R := []) rfl rfl (oc_assign (x := .val _) rfl rfl) trivial ?_
                        refine ck_nil ?_
                        refine aw_joinQ (τ := ⟨[(1, .ptr (.agg [vi s.kind, vi s.num, vs s.name, exprsAv s.args, stmtsAv s.body, stmtsAv s.els])), (5, vi s.kind), (61, vb ((s.kind == 13 || (s.kind == 14 || (s.kind == 15 || s.kind == 21)))))], []⟩) ?_ ?_
                        · refine aw_cond rfl (fun hb => ?_) (fun hb => ?_)
                          · have z0 : s.kind = 13 := by simpa using hb
                            refine aw_skip ?_
                            exact Le.sub ⟨.inr rfl, .inr rfl, .inr (vb_eq (by rw [Bool.eq_iff_iff]; simp only [Bool.or_eq_true, beq_iff_eq]; omega)), trivial⟩ trivial
                          · have z0 : ¬ s.kind = 13 := by simpa using hb
                            refine aw_seq ?_
                            refine aw_text rfl ?_
                            refine ch_v (R := []) rfl rfl (oc_binZ rfl rfl rfl rfl) trivial ?_
                            refine ch_v (R := []) rfl rfl (oc_assign (x := .val _) rfl rfl) trivial ?_
                            refine ck_nil ?_
                            refine aw_cond rfl (fun hb => ?_) (fun hb => ?_)
                            · have z1 : s.kind = 14 := by simpa using hb
                              refine aw_skip ?_
                              exact Le.sub ⟨.inr rfl, .inr rfl, .inr (vb_eq (by rw [Bool.eq_iff_iff]; simp only [Bool.or_eq_true, beq_iff_eq]; omega)), trivial⟩ trivial
                            · have z1 : ¬ s.kind = 14 := by simpa using hb
                              refine aw_seq ?_
                              refine aw_text rfl ?_
                              refine ch_v (R := []) rfl rfl (oc_binZ rfl rfl rfl rfl) trivial ?_
                              refine ch_v (R := []) rfl rfl (oc_assign (x := .val _) rfl rfl) trivial ?_
                              refine ck_nil ?_
                              refine aw_cond rfl (fun hb => ?_) (fun hb => ?_)
                              · have z2 : s.kind = 15 := by simpa using hb
                                refine aw_skip ?_
                                exact Le.sub ⟨.inr rfl, .inr rfl, .inr (vb_eq (by rw [Bool.eq_iff_iff]; simp only [Bool.or_eq_true, beq_iff_eq]; omega)), trivial⟩ trivial
                              · have z2 : ¬ s.kind = 15 := by simpa using hb
                                refine aw_text rfl ?_
                                refine ch_v (R := []) rfl rfl (oc_binZ rfl rfl rfl rfl) trivial ?_
                                refine ch_v (R := []) rfl rfl (oc_assign (x := .val _) rfl rfl) trivial ?_
                                refine ck_nil ?_
                                exact Le.sub ⟨.inr rfl, .inr rfl, .inr (vb_eq (by rw [Bool.eq_iff_iff]; simp only [Bool.or_eq_true, beq_iff_eq]; omega)), trivial⟩ trivial
                        · refine aw_cond rfl (fun hb => ?_) (fun hb => ?_)
                          · have k13 : s.kind = 13 ∨ s.kind = 14 ∨ s.kind = 15 ∨ s.kind = 21 := by simpa using hb
                            refine aw_seq ?_
                            refine aw_text rfl ?_
                            refine ch_v (R := []) rfl rfl (oc_load_row rfl rfl (by kernel_rfl) (by kernel_rfl) rfl) trivial ?_
                            refine ch_v (R := []) rfl rfl (oc_call rfl (by kernel_rfl) ((show PC _ _ [(.agg [vi s.kind, vi s.num, vs s.name, exprsAv s.args, stmtsAv s.body, stmtsAv s.els]), vb false, vi 0, vb false, vb false] _ from stmtAv_eq s ▸ has_pc s false 0 false false)) rfl (by simp only [PureL, Pure, and_self, pure_slI, pure_slS, pure_tab, expr_pure, exprs_pure, stmt_pure, stmts_pure, code_pure, insAv, implies_true]) (by simp only [PureL, Pure, and_self, pure_slI, pure_slS, pure_tab, expr_pure, exprs_pure, stmt_pure, stmts_pure, code_pure, insAv, implies_true])) trivial ?_
                            refine ch_v (R := []) rfl rfl (oc_assign (x := .val _) rfl rfl) trivial ?_
                            refine ch_v (R := []) rfl rfl (oc_assign (x := .val _) rfl rfl) trivial ?_
                            refine ck_nil ?_
                            refine aw_ret ?_
                            exact ⟨.inl rfl, by rw [pair_bool (show shapeS s = (hasS s false 0 false false, false) by unfold shapeS; rw [if_neg k1, if_neg k2, if_neg k4, if_neg k7, if_neg k8, if_neg k9, if_neg k10, if_neg k11, if_neg k18, if_pos k13])]; exact ResOk.two rfl (ResC.tmp rfl) (ResC.tmp rfl), trivial⟩
                          · have k13 : ¬ (s.kind = 13 ∨ s.kind = 14 ∨ s.kind = 15 ∨ s.kind = 21) := by simpa using hb
                            refine aw_skip ?_
                            refine aw_seq ?_
                            refine aw_text rfl ?_
                            refine ch_v (R := []) rfl rfl (oc_assign (x := .val _) rfl rfl) trivial ?_
                            refine ch_v (R := []) rfl rfl (oc_assign (x := .val _) rfl rfl) trivial ?_
                            refine ck_nil ?_
                            refine aw_ret ?_
                            exact ⟨.inl rfl, by rw [pair_bool (show shapeS s = (false, false) by unfold shapeS; rw [if_neg k1, if_neg k2, if_neg k4, if_neg k7, if_neg k8, if_neg k9, if_neg k10, if_neg k11, if_neg k18, if_neg k13])]; exact ResOk.two rfl (ResC.tmp rfl) (ResC.tmp rfl), trivial⟩
theorem str_neB (s t : ByteArray) : (s.toList != t.toList) = decide (s ≠ t) := by
  rw [show (s.toList != t.toList) = !(s.toList == t.toList) from rfl, str_eqB]
  by_cases e : s = t <;> simp [e]
theorem loc_wrap {locals a : Int} (hl : -9223372036854775808 ≤ locals ∧ locals < 9223372036854775808) : ((decide (a ≥ 0) && decide (a < IntKind.i64.wrap (locals - 1))) && decide (locals > 1)) = ((decide (a ≥ 0) && decide (a < locals - 1)) && decide (locals > 1)) := by
  by_cases h : locals > 1
  · rw [i64_in _ (by omega) (by omega)]
  · simp [h]
structure TLen (t : TabP) : Prop where
  globals : t.globals.length ≤ 140737488355328
  props : t.props.length ≤ 140737488355328
  daemons : t.daemons.length ≤ 140737488355328
  texts : t.texts.length ≤ 140737488355328
  funcs : t.funcs.length ≤ 140737488355328
  params : t.params.length ≤ 140737488355328
set_option maxHeartbeats 6400000 in
theorem there_pc (t : TabP) (hT : TLen t) (s : StmtP) (locals : Int) (hl : -9223372036854775808 ≤ locals ∧ locals < 9223372036854775808) : PC Try.prog 30 [tabAv t, stmtAv s, vi locals] (vb (thereS t s locals)) := by
  obtain ⟨l1, l2, l3, l4, l5, l6⟩ := hT
  rw [stmtAv_eq]
  refine FC.body 2 81 Try.func30 rfl (by kernel_rfl) ?_
  refine aw_seq ?_
  refine aw_text rfl ?_
  refine ch_v (R := []) rfl rfl (oc_box (x := .agg _) rfl rfl) trivial ?_
  refine ch_v (R := []) rfl rfl (oc_box (x := .agg _) rfl rfl) trivial ?_
  refine ch_v (R := []) rfl rfl (oc_assign (x := .val _) rfl rfl) trivial ?_
  refine ck_nil ?_
  refine aw_seq ?_
  refine aw_seq ?_
  refine aw_text rfl ?_
  refine ch_v (R := []) rfl rfl (oc_fieldAddr (off := 2) rfl rfl rfl (by kernel_rfl) rfl) trivial ?_
  refine ch_v (R := []) rfl rfl (oc_load rfl rfl (by kernel_rfl) cells_str) trivial ?_
  refine ch_v (R := []) rfl rfl (oc_str_ne rfl rfl rfl) trivial ?_
  refine ck_nil ?_
  refine aw_cond rfl (fun hb => ?_) (fun hb => ?_)
  · have hnm : s.name ≠ ByteArray.empty := by rw [str_neB] at hb; exact of_decide_eq_true hb
    refine aw_seq ?_
    refine aw_text rfl ?_
    refine ch_v (R := []) rfl rfl (oc_assign (x := .val _) rfl rfl) trivial ?_
    refine ck_nil ?_
    refine aw_ret ?_
    exact ⟨.inl rfl, ResOk.tmp rfl (vb_eq (by unfold thereS; rw [if_pos hnm])), trivial⟩
  · have hnm : ¬ s.name ≠ ByteArray.empty := by rw [str_neB] at hb; exact of_decide_eq_false hb
    refine aw_skip ?_
    refine aw_seq ?_
    refine aw_seq ?_
    refine aw_text rfl ?_
    refine ch_v (R := []) rfl rfl (oc_fieldAddr (off := 0) rfl rfl rfl (by kernel_rfl) rfl) trivial ?_
    refine ch_v (R := []) rfl rfl (oc_load rfl rfl (by kernel_rfl) cells_int) trivial ?_
    refine ck_nil ?_
    refine aw_block ?_
    refine aw_seq ?_
    refine aw_seq ?_
    refine aw_text rfl ?_
    refine ch_v (R := []) rfl rfl (oc_binZ rfl rfl rfl rfl) trivial ?_
    refine ch_v (R := []) rfl rfl (oc_assign (x := .val _) rfl rfl) trivial ?_
    refine ck_nil ?_
    refine aw_joinQ (τ := ⟨[(2, vi locals), (3, .ptr (tabAv t)), (4, .ptr (.agg [vi s.kind, vi s.num, vs s.name, exprsAv s.args, stmtsAv s.body, stmtsAv s.els])), (11, vi s.kind), (12, vb ((s.kind == 2 || s.kind == 3)))], []⟩) ?_ ?_
    · refine aw_cond rfl (fun hb => ?_) (fun hb => ?_)
      · have z0 : s.kind = 2 := by simpa using hb
        refine aw_skip ?_
        exact Le.sub ⟨.inr rfl, .inr rfl, .inr rfl, .inr rfl, .inr (vb_eq (by rw [Bool.eq_iff_iff]; simp only [Bool.or_eq_true, beq_iff_eq]; omega)), trivial⟩ trivial
      · have z0 : ¬ s.kind = 2 := by simpa using hb
        refine aw_text rfl ?_
        refine ch_v (R := []) rfl rfl (oc_binZ rfl rfl rfl rfl) trivial ?_
        refine ch_v (R := []) rfl rfl (oc_assign (x := .val _) rfl rfl) trivial ?_
        refine ck_nil ?_
        exact Le.sub ⟨.inr rfl, .inr rfl, .inr rfl, .inr rfl, .inr (vb_eq (by rw [Bool.eq_iff_iff]; simp only [Bool.or_eq_true, beq_iff_eq]; omega)), trivial⟩ trivial
    · refine aw_cond rfl (fun hb => ?_) (fun hb => ?_)
      · have k2 : s.kind = 2 ∨ s.kind = 3 := by simpa using hb
        refine aw_seq ?_
        refine aw_text rfl ?_
        refine ch_v (R := []) rfl rfl (oc_fieldAddr (off := 1) rfl rfl rfl (by kernel_rfl) rfl) trivial ?_
        refine ch_v (R := []) rfl rfl (oc_load rfl rfl (by kernel_rfl) cells_int) trivial ?_
        refine ch_v (R := []) rfl rfl (oc_binZ rfl rfl rfl rfl) trivial ?_
        refine ch_v (R := []) rfl rfl (oc_move (x := .val _) rfl rfl) trivial ?_
        refine ch_g (R := []) rfl rfl rfl gate_t (fun hC => oc_fieldAddr (off := 1) rfl rfl rfl (by kernel_rfl) rfl) (fun hC => ⟨(by first | rfl | exact hC | (simp only [Bool.and_eq_true] at hC; first | exact hC.1 | exact hC.1.1 | exact hC.2) | simp_all), trivial⟩) trivial ?_
        refine ch_g (R := []) rfl rfl rfl gate_t (fun hC => oc_load rfl rfl (by kernel_rfl) cells_int) (fun hC => ⟨(by first | rfl | exact hC | (simp only [Bool.and_eq_true] at hC; first | exact hC.1 | exact hC.1.1 | exact hC.2) | simp_all), trivial⟩) trivial ?_
        refine ch_g (R := []) rfl rfl rfl gate_t (fun hC => oc_move (x := .val _) rfl rfl) (fun hC => ⟨(by first | rfl | exact hC | (simp only [Bool.and_eq_true] at hC; first | exact hC.1 | exact hC.1.1 | exact hC.2) | simp_all), trivial⟩) trivial ?_
        refine ch_g (R := []) rfl rfl rfl gate_t (fun hC => oc_binZ rfl rfl rfl rfl) (fun hC => ⟨(by first | rfl | exact hC | (simp only [Bool.and_eq_true] at hC; first | exact hC.1 | exact hC.1.1 | exact hC.2) | simp_all), (by first | rfl | exact hC | (simp only [Bool.and_eq_true] at hC; first | exact hC.1 | exact hC.1.1 | exact hC.2) | simp_all), trivial⟩) trivial ?_
        refine ch_v (R := []) rfl rfl (oc_and rfl rfl rfl rfl (by first | exact fun h => h | simp_all)) trivial ?_
        refine ch_v (R := []) rfl rfl (oc_assign (x := .val _) rfl rfl) trivial ?_
        refine ck_nil ?_
        refine aw_ret ?_
        exact ⟨.inl rfl, ResOk.tmp rfl (vb_eq (by unfold thereS; rw [if_neg hnm, if_pos k2])), trivial⟩
      · have k2 : ¬ (s.kind = 2 ∨ s.kind = 3) := by simpa using hb
        refine aw_seq ?_
        refine aw_text rfl ?_
        refine ch_v (R := []) rfl rfl (oc_binZ rfl rfl rfl rfl) trivial ?_
        refine ch_v (R := []) rfl rfl (oc_assign (x := .val _) rfl rfl) trivial ?_
        refine ck_nil ?_
        refine aw_cond rfl (fun hb => ?_) (fun hb => ?_)
        · have k11 : s.kind = 11 := by simpa using hb
          refine aw_seq ?_
          refine aw_text rfl ?_
          refine ch_v (R := []) rfl rfl (oc_fieldAddr (off := 1) rfl rfl rfl (by kernel_rfl) rfl) trivial ?_
          refine ch_v (R := []) rfl rfl (oc_load rfl rfl (by kernel_rfl) cells_int) trivial ?_
          refine ch_v (R := []) rfl rfl (oc_binZ rfl rfl rfl rfl) trivial ?_
          refine ch_v (R := []) rfl rfl (oc_move (x := .val _) rfl rfl) trivial ?_
          refine ch_g (R := []) rfl rfl rfl gate_t (fun hC => oc_fieldAddr (off := 1) rfl rfl rfl (by kernel_rfl) rfl) (fun hC => ⟨(by first | rfl | exact hC | (simp only [Bool.and_eq_true] at hC; first | exact hC.1 | exact hC.1.1 | exact hC.2) | simp_all), trivial⟩) trivial ?_
          refine ch_g (R := []) rfl rfl rfl gate_t (fun hC => oc_load rfl rfl (by kernel_rfl) cells_int) (fun hC => ⟨(by first | rfl | exact hC | (simp only [Bool.and_eq_true] at hC; first | exact hC.1 | exact hC.1.1 | exact hC.2) | simp_all), trivial⟩) trivial ?_
          refine ch_g (R := []) rfl rfl rfl gate_t (fun hC => oc_move (x := .val _) rfl rfl) (fun hC => ⟨(by first | rfl | exact hC | (simp only [Bool.and_eq_true] at hC; first | exact hC.1 | exact hC.1.1 | exact hC.2) | simp_all), trivial⟩) trivial ?_
          refine ch_g (R := []) rfl rfl rfl gate_t (fun hC => oc_binZ rfl rfl rfl rfl) (fun hC => ⟨(by first | rfl | exact hC | (simp only [Bool.and_eq_true] at hC; first | exact hC.1 | exact hC.1.1 | exact hC.2) | simp_all), (by first | rfl | exact hC | (simp only [Bool.and_eq_true] at hC; first | exact hC.1 | exact hC.1.1 | exact hC.2) | simp_all), trivial⟩) trivial ?_
          refine ch_g (R := []) rfl rfl rfl gate_t (fun hC => oc_binZ rfl rfl rfl rfl) (fun hC => ⟨(by first | rfl | exact hC | (simp only [Bool.and_eq_true] at hC; first | exact hC.1 | exact hC.1.1 | exact hC.2) | simp_all), (by first | rfl | exact hC | (simp only [Bool.and_eq_true] at hC; first | exact hC.1 | exact hC.1.1 | exact hC.2) | simp_all), trivial⟩) trivial ?_
          refine ch_v (R := []) rfl rfl (oc_and rfl rfl rfl rfl (by first | exact fun h => h | simp_all)) trivial ?_
          refine ch_v (R := []) rfl rfl (oc_move (x := .val _) rfl rfl) trivial ?_
          refine ch_g (R := []) rfl rfl rfl gate_t (fun hC => oc_move (x := .val _) rfl rfl) (fun hC => ⟨(by first | rfl | exact hC | (simp only [Bool.and_eq_true] at hC; first | exact hC.1 | exact hC.1.1 | exact hC.2) | simp_all), trivial⟩) trivial ?_
          refine ch_g (R := []) rfl rfl rfl gate_t (fun hC => oc_binZ rfl rfl rfl rfl) (fun hC => ⟨(by first | rfl | exact hC | (simp only [Bool.and_eq_true] at hC; first | exact hC.1 | exact hC.1.1 | exact hC.2) | simp_all), (by first | rfl | exact hC | (simp only [Bool.and_eq_true] at hC; first | exact hC.1 | exact hC.1.1 | exact hC.2) | simp_all), trivial⟩) trivial ?_
          refine ch_v (R := []) rfl rfl (oc_and rfl rfl rfl rfl (by first | exact fun h => h | simp_all)) trivial ?_
          refine ch_v (R := []) rfl rfl (oc_assign (x := .val _) rfl rfl) trivial ?_
          refine ck_nil ?_
          refine aw_ret ?_
          exact ⟨.inl rfl, ResOk.tmp rfl (vb_eq (by unfold thereS; rw [if_neg hnm, if_neg k2, if_pos k11]; exact loc_wrap hl)), trivial⟩
        · have k11 : ¬ (s.kind = 11) := by simpa using hb
          refine aw_seq ?_
          refine aw_text rfl ?_
          refine ch_v (R := []) rfl rfl (oc_binZ rfl rfl rfl rfl) trivial ?_
          refine ch_v (R := []) rfl rfl (oc_assign (x := .val _) rfl rfl) trivial ?_
          refine ck_nil ?_
          refine aw_cond rfl (fun hb => ?_) (fun hb => ?_)
          · have k23 : s.kind = 23 := by simpa using hb
            refine aw_seq ?_
            refine aw_text rfl ?_
            refine ch_v (R := []) rfl rfl (oc_fieldAddr (off := 1) rfl rfl rfl (by kernel_rfl) rfl) trivial ?_
            refine ch_v (R := []) rfl rfl (oc_load rfl rfl (by kernel_rfl) cells_int) trivial ?_
            refine ch_v (R := []) rfl rfl (oc_fieldAddr (off := 7) rfl rfl rfl (by kernel_rfl) rfl) trivial ?_
            refine ch_v (R := []) rfl rfl (oc_load rfl rfl (by kernel_rfl) cells_sl) trivial ?_
            refine ch_v (R := []) rfl rfl (oc_len rfl rfl (by kernel_rfl)) trivial ?_
            refine ch_v (R := []) rfl rfl (oc_binZ rfl rfl rfl (by first | exact binW_sub (by omega) (by omega) | rfl)) trivial ?_
            refine ch_v (R := []) rfl rfl (oc_call rfl (by kernel_rfl) (among10_pc s.num 0 ((t.globals.length : Int) - 1)) rfl (by simp only [PureL, Pure, and_self, pure_slI, pure_slS, pure_tab, expr_pure, exprs_pure, stmt_pure, stmts_pure, code_pure, insAv, implies_true]) (by simp only [PureL, Pure, and_self, pure_slI, pure_slS, pure_tab, expr_pure, exprs_pure, stmt_pure, stmts_pure, code_pure, insAv, implies_true])) trivial ?_
            refine ch_v (R := []) rfl rfl (oc_assign (x := .val _) rfl rfl) trivial ?_
            refine ck_nil ?_
            refine aw_ret ?_
            exact ⟨.inl rfl, ResOk.tmp rfl (vb_eq (by unfold thereS; rw [if_neg hnm, if_neg k2, if_neg k11, if_pos k23])), trivial⟩
          · have k23 : ¬ (s.kind = 23) := by simpa using hb
            refine aw_seq ?_
            refine aw_text rfl ?_
            refine ch_v (R := []) rfl rfl (oc_binZ rfl rfl rfl rfl) trivial ?_
            refine ch_v (R := []) rfl rfl (oc_assign (x := .val _) rfl rfl) trivial ?_
            refine ck_nil ?_
            refine aw_cond rfl (fun hb => ?_) (fun hb => ?_)
            · have k4 : s.kind = 4 := by simpa using hb
              refine aw_seq ?_
              refine aw_text rfl ?_
              refine ch_v (R := []) rfl rfl (oc_fieldAddr (off := 1) rfl rfl rfl (by kernel_rfl) rfl) trivial ?_
              refine ch_v (R := []) rfl rfl (oc_load rfl rfl (by kernel_rfl) cells_int) trivial ?_
              refine ch_v (R := []) rfl rfl (oc_fieldAddr (off := 6) rfl rfl rfl (by kernel_rfl) rfl) trivial ?_
              refine ch_v (R := []) rfl rfl (oc_load rfl rfl (by kernel_rfl) cells_sl) trivial ?_
              refine ch_v (R := []) rfl rfl (oc_len rfl rfl (by kernel_rfl)) trivial ?_
              refine ch_v (R := []) rfl rfl (oc_binZ rfl rfl rfl (by first | exact binW_sub (by omega) (by omega) | rfl)) trivial ?_
              refine ch_v (R := []) rfl rfl (oc_call rfl (by kernel_rfl) (among10_pc s.num 0 ((t.props.length : Int) - 1)) rfl (by simp only [PureL, Pure, and_self, pure_slI, pure_slS, pure_tab, expr_pure, exprs_pure, stmt_pure, stmts_pure, code_pure, insAv, implies_true]) (by simp only [PureL, Pure, and_self, pure_slI, pure_slS, pure_tab, expr_pure, exprs_pure, stmt_pure, stmts_pure, code_pure, insAv, implies_true])) trivial ?_
              refine ch_v (R := []) rfl rfl (oc_assign (x := .val _) rfl rfl) trivial ?_
              refine ck_nil ?_
              refine aw_ret ?_
              exact ⟨.inl rfl, ResOk.tmp rfl (vb_eq (by unfold thereS; rw [if_neg hnm, if_neg k2, if_neg k11, if_neg k23, if_pos k4])), trivial⟩
            · have k4 : ¬ (s.kind = 4) := by simpa using hb
              refine aw_seq ?_
              refine aw_seq ?_
              refine aw_text rfl ?_
              refine ch_v (R := []) rfl rfl (oc_binZ rfl rfl rfl rfl) trivial ?_
              refine ch_v (R := []) rfl rfl (oc_assign (x := .val _) rfl rfl) trivial ?_
              refine ck_nil ?_
              refine aw_joinQ (τ := ⟨[(2, vi locals), (3, .ptr (tabAv t)), (4, .ptr (.agg [vi s.kind, vi s.num, vs s.name, exprsAv s.args, stmtsAv s.body, stmtsAv s.els])), (11, vi s.kind), (58, vb ((s.kind == 5 || s.kind == 6)))], []⟩) ?_ ?_
              · refine aw_cond rfl (fun hb => ?_) (fun hb => ?_)
                · have z0 : s.kind = 5 := by simpa using hb
                  refine aw_skip ?_
                  exact Le.sub ⟨.inr rfl, .inr rfl, .inr rfl, .inr rfl, .inr (vb_eq (by rw [Bool.eq_iff_iff]; simp only [Bool.or_eq_true, beq_iff_eq]; omega)), trivial⟩ trivial
                · have z0 : ¬ s.kind = 5 := by simpa using hb
                  refine aw_text rfl ?_
                  refine ch_v (R := []) rfl rfl (oc_binZ rfl rfl rfl rfl) trivial ?_
                  refine ch_v (R := []) rfl rfl (oc_assign (x := .val _) rfl rfl) trivial ?_
                  refine ck_nil ?_
                  exact Le.sub ⟨.inr rfl, .inr rfl, .inr rfl, .inr rfl, .inr (vb_eq (by rw [Bool.eq_iff_iff]; simp only [Bool.or_eq_true, beq_iff_eq]; omega)), trivial⟩ trivial
              · refine aw_cond rfl (fun hb => ?_) (fun hb => ?_)
                · have k5 : s.kind = 5 ∨ s.kind = 6 := by simpa using hb
                  refine aw_seq ?_
                  refine aw_text rfl ?_
                  refine ch_v (R := []) rfl rfl (oc_fieldAddr (off := 1) rfl rfl rfl (by kernel_rfl) rfl) trivial ?_
                  refine ch_v (R := []) rfl rfl (oc_load rfl rfl (by kernel_rfl) cells_int) trivial ?_
                  refine ch_v (R := []) rfl rfl (oc_binZ rfl rfl rfl rfl) trivial ?_
                  refine ch_v (R := []) rfl rfl (oc_move (x := .val _) rfl rfl) trivial ?_
                  refine ch_g (R := []) rfl rfl rfl gate_t (fun hC => oc_fieldAddr (off := 1) rfl rfl rfl (by kernel_rfl) rfl) (fun hC => ⟨(by first | rfl | exact hC | (simp only [Bool.and_eq_true] at hC; first | exact hC.1 | exact hC.1.1 | exact hC.2) | simp_all), trivial⟩) trivial ?_
                  refine ch_g (R := []) rfl rfl rfl gate_t (fun hC => oc_load rfl rfl (by kernel_rfl) cells_int) (fun hC => ⟨(by first | rfl | exact hC | (simp only [Bool.and_eq_true] at hC; first | exact hC.1 | exact hC.1.1 | exact hC.2) | simp_all), trivial⟩) trivial ?_
                  refine ch_g (R := []) rfl rfl rfl gate_t (fun hC => oc_fieldAddr (off := 5) rfl rfl rfl (by kernel_rfl) rfl) (fun hC => ⟨(by first | rfl | exact hC | (simp only [Bool.and_eq_true] at hC; first | exact hC.1 | exact hC.1.1 | exact hC.2) | simp_all), trivial⟩) trivial ?_
                  refine ch_g (R := []) rfl rfl rfl gate_t (fun hC => oc_load rfl rfl (by kernel_rfl) cells_int) (fun hC => ⟨(by first | rfl | exact hC | (simp only [Bool.and_eq_true] at hC; first | exact hC.1 | exact hC.1.1 | exact hC.2) | simp_all), trivial⟩) trivial ?_
                  refine ch_g (R := []) rfl rfl rfl gate_t (fun hC => oc_binZ rfl rfl rfl rfl) (fun hC => ⟨(by first | rfl | exact hC | (simp only [Bool.and_eq_true] at hC; first | exact hC.1 | exact hC.1.1 | exact hC.2) | simp_all), (by first | rfl | exact hC | (simp only [Bool.and_eq_true] at hC; first | exact hC.1 | exact hC.1.1 | exact hC.2) | simp_all), trivial⟩) trivial ?_
                  refine ch_v (R := []) rfl rfl (oc_and rfl rfl rfl rfl (by first | exact fun h => h | simp_all)) trivial ?_
                  refine ch_v (R := []) rfl rfl (oc_assign (x := .val _) rfl rfl) trivial ?_
                  refine ck_nil ?_
                  refine aw_ret ?_
                  exact ⟨.inl rfl, ResOk.tmp rfl (vb_eq (by unfold thereS; rw [if_neg hnm, if_neg k2, if_neg k11, if_neg k23, if_neg k4, if_pos k5])), trivial⟩
                · have k5 : ¬ (s.kind = 5 ∨ s.kind = 6) := by simpa using hb
                  refine aw_seq ?_
                  refine aw_seq ?_
                  refine aw_text rfl ?_
                  refine ch_v (R := []) rfl rfl (oc_binZ rfl rfl rfl rfl) trivial ?_
                  refine ch_v (R := []) rfl rfl (oc_assign (x := .val _) rfl rfl) trivial ?_
                  refine ck_nil ?_
                  refine aw_joinQ (τ := ⟨[(2, vi locals), (3, .ptr (tabAv t)), (4, .ptr (.agg [vi s.kind, vi s.num, vs s.name, exprsAv s.args, stmtsAv s.body, stmtsAv s.els])), (11, vi s.kind), (71, vb ((s.kind == 17 || s.kind == 18)))], []⟩) ?_ ?_
                  · refine aw_cond rfl (fun hb => ?_) (fun hb => ?_)
                    · have z0 : s.kind = 17 := by simpa using hb
                      refine aw_skip ?_
                      exact Le.sub ⟨.inr rfl, .inr rfl, .inr rfl, .inr rfl, .inr (vb_eq (by rw [Bool.eq_iff_iff]; simp only [Bool.or_eq_true, beq_iff_eq]; omega)), trivial⟩ trivial
                    · have z0 : ¬ s.kind = 17 := by simpa using hb
                      refine aw_text rfl ?_
                      refine ch_v (R := []) rfl rfl (oc_binZ rfl rfl rfl rfl) trivial ?_
                      refine ch_v (R := []) rfl rfl (oc_assign (x := .val _) rfl rfl) trivial ?_
                      refine ck_nil ?_
                      exact Le.sub ⟨.inr rfl, .inr rfl, .inr rfl, .inr rfl, .inr (vb_eq (by rw [Bool.eq_iff_iff]; simp only [Bool.or_eq_true, beq_iff_eq]; omega)), trivial⟩ trivial
                  · refine aw_cond rfl (fun hb => ?_) (fun hb => ?_)
                    · have k17 : s.kind = 17 ∨ s.kind = 18 := by simpa using hb
                      refine aw_seq ?_
                      refine aw_text rfl ?_
                      refine ch_v (R := []) rfl rfl (oc_fieldAddr (off := 1) rfl rfl rfl (by kernel_rfl) rfl) trivial ?_
                      refine ch_v (R := []) rfl rfl (oc_load rfl rfl (by kernel_rfl) cells_int) trivial ?_
                      refine ch_v (R := []) rfl rfl (oc_fieldAddr (off := 12) rfl rfl rfl (by kernel_rfl) rfl) trivial ?_
                      refine ch_v (R := []) rfl rfl (oc_load rfl rfl (by kernel_rfl) cells_sl) trivial ?_
                      refine ch_v (R := []) rfl rfl (oc_len rfl rfl (by kernel_rfl)) trivial ?_
                      refine ch_v (R := []) rfl rfl (oc_binZ rfl rfl rfl (by first | exact binW_sub (by omega) (by omega) | rfl)) trivial ?_
                      refine ch_v (R := []) rfl rfl (oc_call rfl (by kernel_rfl) (among10_pc s.num 0 ((t.daemons.length : Int) - 1)) rfl (by simp only [PureL, Pure, and_self, pure_slI, pure_slS, pure_tab, expr_pure, exprs_pure, stmt_pure, stmts_pure, code_pure, insAv, implies_true]) (by simp only [PureL, Pure, and_self, pure_slI, pure_slS, pure_tab, expr_pure, exprs_pure, stmt_pure, stmts_pure, code_pure, insAv, implies_true])) trivial ?_
                      refine ch_v (R := []) rfl rfl (oc_assign (x := .val _) rfl rfl) trivial ?_
                      refine ck_nil ?_
                      refine aw_ret ?_
                      exact ⟨.inl rfl, ResOk.tmp rfl (vb_eq (by unfold thereS; rw [if_neg hnm, if_neg k2, if_neg k11, if_neg k23, if_neg k4, if_neg k5, if_pos k17])), trivial⟩
                    · have k17 : ¬ (s.kind = 17 ∨ s.kind = 18) := by simpa using hb
                      refine aw_skip ?_
                      refine aw_seq ?_
                      refine aw_text rfl ?_
                      refine ch_v (R := []) rfl rfl (oc_assign (x := .val _) rfl rfl) trivial ?_
                      refine ck_nil ?_
                      refine aw_ret ?_
                      exact ⟨.inl rfl, ResOk.tmp rfl (vb_eq (by unfold thereS; rw [if_neg hnm, if_neg k2, if_neg k11, if_neg k23, if_neg k4, if_neg k5, if_neg k17])), trivial⟩
end Go.Proofs.Ytfipllnodgbghaa
