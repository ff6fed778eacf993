/- Chapter 31: op.Right, walked. Chapter 31: met, walked. Maps as abstract values: made, read, written, ranged over in any order. No program stands in this text. m[k] with 'ok', of a map of the call's own and of one that is only read. No program stands in this text. -/
import Derived.Test.YtfipllnodgbghaaVm
import Derived.Test.YtfipllnodgbghaaProg
import Derived.KernelRfl
import Derived.Test.YtfipllnodgbghaaOkr
import Derived.Maps.RangeWalk
import Derived.Maps.OwnOps
import Derived.Test.YtfipllnodgbghaaVi
import Derived.Maps.OwnSet
namespace Go.Proofs.Ytfipllnodgbghaa
open Go.RowKit
set_option maxRecDepth 100000
set_option linter.unusedVariables false
set_option linter.unusedSimpArgs false
theorem right_rng {t : TabP} {x : InsP} {lo hi h' : Int} (h1 : ¬ (x.1 = 1 ∨ x.1 = 24 ∨ x.1 = 25)) (h2 : ¬ (x.1 = 12 ∨ x.1 = 15 ∨ x.1 = 16)) (hp : (if x.1 = 3 ∨ x.1 = 4 then ((0 : Int), (t.globals.length : Int) - 1) else if x.1 = 5 ∨ x.1 = 6 then (0, 23) else if x.1 = 7 then (1, 6) else if x.1 = 8 then (3, 14) else if x.1 = 19 then (1, 3) else if x.1 = 13 ∨ x.1 = 14 then (0, (t.props.length : Int) - 1) else if x.1 = 21 then (0, (t.texts.length : Int) - 1) else if x.1 = 26 then (0, (t.funcs.length : Int) - 1) else if x.1 = 32 ∨ x.1 = 33 then (0, (t.daemons.length : Int) - 1) else (0, 0)) = (lo, hi)) (hc : 1 ≤ x.1 ∧ x.1 < 38) (hh : h' = hi + 1) : rangeB x.2 lo h' = rightI t x := by
  unfold rightI
  rw [if_neg h1, if_neg h2]
  simp only [hp]
  unfold rangeB
  rw [decide_eq_true (show x.1 ≥ 1 from hc.1), decide_eq_true hc.2, Bool.true_and, Bool.true_and, hh]
  congr 1
  rw [decide_eq_decide]
  omega
theorem right_none {t : TabP} {x : InsP} (h1 : ¬ (x.1 = 1 ∨ x.1 = 24 ∨ x.1 = 25)) (h2 : ¬ (x.1 = 12 ∨ x.1 = 15 ∨ x.1 = 16)) (h38 : ¬ x.1 = 38) (h3 : ¬ (x.1 = 3 ∨ x.1 = 4)) (h5 : ¬ (x.1 = 5 ∨ x.1 = 6)) (h7 : ¬ x.1 = 7) (h8 : ¬ x.1 = 8) (h19 : ¬ x.1 = 19) (h13 : ¬ (x.1 = 13 ∨ x.1 = 14)) (h21 : ¬ x.1 = 21) (h26 : ¬ x.1 = 26) (h32 : ¬ (x.1 = 32 ∨ x.1 = 33)) : ((decide (x.1 ≥ 1) && decide (x.1 ≤ 38)) && (x.2 == 0)) = rightI t x := by
  unfold rightI
  rw [if_neg h1, if_neg h2]
  simp only [if_neg h3, if_neg h5, if_neg h7, if_neg h8, if_neg h19, if_neg h13, if_neg h21, if_neg h26, if_neg h32]
  rw [Bool.eq_iff_iff]
  simp only [Bool.and_eq_true, decide_eq_true_eq, beq_iff_eq]
  omega
set_option maxHeartbeats 1600000 in
theorem right_pc (t : TabP) (x : InsP) : PC Try.prog 47 [tabAv t, insAv x] (vb (rightI t x)) := by
  refine FC.body 2 97 Try.func47 rfl (by kernel_rfl) ?_
  refine aw_seq ?_
  refine aw_text rfl ?_
  refine ch_v (R := []) rfl rfl (oc_box (x := .agg _) rfl rfl) trivial ?_
  refine ch_v (R := []) rfl rfl (oc_box (x := .agg _) rfl rfl) trivial ?_
  refine ch_v (R := []) rfl rfl (oc_assign (x := .val _) rfl rfl) trivial ?_
  refine ck_nil ?_
  refine aw_seq ?_
  refine aw_seq ?_
  refine aw_text rfl ?_
  refine ch_v (R := []) rfl rfl (oc_fieldAddr (off := 0) rfl rfl rfl (by kernel_rfl) rfl) trivial ?_
  refine ch_v (R := []) rfl rfl (oc_load rfl rfl (by kernel_rfl) cells_int) trivial ?_
  refine ck_nil ?_
  refine aw_block ?_
  refine aw_seq ?_
  refine aw_text rfl ?_
  refine ch_v (R := []) rfl rfl (oc_binZ rfl rfl rfl rfl) trivial ?_
  refine ch_v (R := []) rfl rfl (oc_assign (x := .val _) rfl rfl) trivial ?_
  refine ck_nil ?_
  refine aw_cond rfl (fun hb => ?_) (fun hb => ?_)
  · have k38 : x.1 = 38 := by simpa using hb
    refine aw_seq ?_
    refine aw_text rfl ?_
    refine ch_v (R := []) rfl rfl (oc_assign (x := .val _) rfl rfl) trivial ?_
    refine ck_nil ?_
    refine aw_ret ?_
    exact ⟨.inl rfl, ResOk.tmp rfl (vb_eq (by unfold rightI; rw [if_neg (by omega), if_neg (by omega), decide_eq_false (show ¬ x.1 < 38 by omega), Bool.and_false, Bool.false_and])), trivial⟩
  · have k38 : ¬ x.1 = 38 := by simpa using hb
    refine aw_seq ?_
    refine aw_seq ?_
    refine aw_text rfl ?_
    refine ch_v (R := []) rfl rfl (oc_binZ rfl rfl rfl rfl) trivial ?_
    refine ch_v (R := []) rfl rfl (oc_assign (x := .val _) rfl rfl) trivial ?_
    refine ck_nil ?_
    refine aw_joinQ (τ := ⟨[(2, .ptr (tabAv t)), (3, .ptr (insAv x)), (6, vi x.1), (9, vb ((x.1 == 1 || ((x.1 == 24 || (x.1 == 25))))))], []⟩) ?_ ?_
    · refine aw_cond rfl (fun hb => ?_) (fun hb => ?_)
      · refine aw_skip ?_
        exact Le.sub ⟨.inr rfl, .inr rfl, .inr rfl, .inr (vb_eq (by first | (rw [q0, q1, Bool.false_or, Bool.false_or]; done) | simp_all)), trivial⟩ trivial
      · have q0 : (x.1 == 1) = false := hb
        refine aw_seq ?_
        refine aw_text rfl ?_
        refine ch_v (R := []) rfl rfl (oc_binZ rfl rfl rfl rfl) trivial ?_
        refine ch_v (R := []) rfl rfl (oc_assign (x := .val _) rfl rfl) trivial ?_
        refine ck_nil ?_
        refine aw_cond rfl (fun hb => ?_) (fun hb => ?_)
        · refine aw_skip ?_
          exact Le.sub ⟨.inr rfl, .inr rfl, .inr rfl, .inr (vb_eq (by first | (rw [q0, q1, Bool.false_or, Bool.false_or]; done) | simp_all)), trivial⟩ trivial
        · have q1 : (x.1 == 24) = false := hb
          refine aw_text rfl ?_
          refine ch_v (R := []) rfl rfl (oc_binZ rfl rfl rfl rfl) trivial ?_
          refine ch_v (R := []) rfl rfl (oc_assign (x := .val _) rfl rfl) trivial ?_
          refine ck_nil ?_
          exact Le.sub ⟨.inr rfl, .inr rfl, .inr rfl, .inr (vb_eq (by first | (rw [q0, q1, Bool.false_or, Bool.false_or]; done) | simp_all)), trivial⟩ trivial
    · refine aw_cond rfl (fun hb => ?_) (fun hb => ?_)
      · have k1 : x.1 = 1 ∨ x.1 = 24 ∨ x.1 = 25 := by simpa using hb
        refine aw_seq ?_
        refine aw_text rfl ?_
        refine ch_v (R := []) rfl rfl (oc_fieldAddr (off := 1) rfl rfl rfl (by kernel_rfl) rfl) trivial ?_
        refine ch_v (R := []) rfl rfl (oc_load rfl rfl (by kernel_rfl) cells_int) trivial ?_
        refine ch_v (R := []) rfl rfl (oc_call rfl (by kernel_rfl) (numIs_pc x.2) rfl (by simp only [PureL, Pure, and_self, pure_slI, pure_slS, pure_tab, expr_pure, exprs_pure, stmt_pure, stmts_pure, code_pure, insAv, implies_true]) (by simp only [PureL, Pure, and_self, pure_slI, pure_slS, pure_tab, expr_pure, exprs_pure, stmt_pure, stmts_pure, code_pure, insAv, implies_true])) trivial ?_
        refine ch_v (R := []) rfl rfl (oc_assign (x := .val _) rfl rfl) trivial ?_
        refine ck_nil ?_
        refine aw_ret ?_
        exact ⟨.inl rfl, ResOk.tmp rfl (vb_eq (by unfold rightI; rw [if_pos k1])), trivial⟩
      · have k1 : ¬ (x.1 = 1 ∨ x.1 = 24 ∨ x.1 = 25) := by simpa using hb
        refine aw_seq ?_
        refine aw_seq ?_
        refine aw_text rfl ?_
        refine ch_v (R := []) rfl rfl (oc_binZ rfl rfl rfl rfl) trivial ?_
        refine ch_v (R := []) rfl rfl (oc_assign (x := .val _) rfl rfl) trivial ?_
        refine ck_nil ?_
        refine aw_joinQ (τ := ⟨[(2, .ptr (tabAv t)), (3, .ptr (insAv x)), (6, vi x.1), (16, vb ((x.1 == 3 || (x.1 == 4))))], []⟩) ?_ ?_
        · refine aw_cond rfl (fun hb => ?_) (fun hb => ?_)
          · refine aw_skip ?_
            exact Le.sub ⟨.inr rfl, .inr rfl, .inr rfl, .inr (vb_eq (by first | (rw [q0, q1, Bool.false_or, Bool.false_or]; done) | simp_all)), trivial⟩ trivial
          · refine aw_text rfl ?_
            refine ch_v (R := []) rfl rfl (oc_binZ rfl rfl rfl rfl) trivial ?_
            refine ch_v (R := []) rfl rfl (oc_assign (x := .val _) rfl rfl) trivial ?_
            refine ck_nil ?_
            exact Le.sub ⟨.inr rfl, .inr rfl, .inr rfl, .inr (vb_eq (by first | (rw [q0, q1, Bool.false_or, Bool.false_or]; done) | simp_all)), trivial⟩ trivial
        · refine aw_cond rfl (fun hb => ?_) (fun hb => ?_)
          · have k3 : x.1 = 3 ∨ x.1 = 4 := by simpa using hb
            refine aw_seq ?_
            refine aw_text rfl ?_
            refine ch_v (R := []) rfl rfl (oc_fieldAddr (off := 1) rfl rfl rfl (by kernel_rfl) rfl) trivial ?_
            refine ch_v (R := []) rfl rfl (oc_load rfl rfl (by kernel_rfl) cells_int) trivial ?_
            refine ch_v (R := []) rfl rfl (oc_fieldAddr (off := 7) rfl rfl rfl (by kernel_rfl) rfl) trivial ?_
            refine ch_v (R := []) rfl rfl (oc_load rfl rfl (by kernel_rfl) cells_sl) trivial ?_
            refine ch_v (R := []) rfl rfl (oc_len rfl rfl (by kernel_rfl)) trivial ?_
            refine ch_v (R := []) rfl rfl (oc_call rfl (by kernel_rfl) (oamong_pc x.2 0 (t.globals.length : Int)) rfl (by simp only [PureL, Pure, and_self, pure_slI, pure_slS, pure_tab, expr_pure, exprs_pure, stmt_pure, stmts_pure, code_pure, insAv, implies_true]) (by simp only [PureL, Pure, and_self, pure_slI, pure_slS, pure_tab, expr_pure, exprs_pure, stmt_pure, stmts_pure, code_pure, insAv, implies_true])) trivial ?_
            refine ch_v (R := []) rfl rfl (oc_assign (x := .val _) rfl rfl) trivial ?_
            refine ck_nil ?_
            refine aw_ret ?_
            exact ⟨.inl rfl, ResOk.tmp rfl (vb_eq (by exact right_rng (lo := 0) (hi := (t.globals.length : Int) - 1) k1 (by omega) (by rw [if_pos k3]) (by omega) (by omega))), trivial⟩
          · have k3 : ¬ (x.1 = 3 ∨ x.1 = 4) := by simpa using hb
            refine aw_seq ?_
            refine aw_seq ?_
            refine aw_text rfl ?_
            refine ch_v (R := []) rfl rfl (oc_binZ rfl rfl rfl rfl) trivial ?_
            refine ch_v (R := []) rfl rfl (oc_assign (x := .val _) rfl rfl) trivial ?_
            refine ck_nil ?_
            refine aw_joinQ (τ := ⟨[(2, .ptr (tabAv t)), (3, .ptr (insAv x)), (6, vi x.1), (25, vb ((x.1 == 5 || (x.1 == 6))))], []⟩) ?_ ?_
            · refine aw_cond rfl (fun hb => ?_) (fun hb => ?_)
              · refine aw_skip ?_
                exact Le.sub ⟨.inr rfl, .inr rfl, .inr rfl, .inr (vb_eq (by first | (rw [q0, q1, Bool.false_or, Bool.false_or]; done) | simp_all)), trivial⟩ trivial
              · refine aw_text rfl ?_
                refine ch_v (R := []) rfl rfl (oc_binZ rfl rfl rfl rfl) trivial ?_
                refine ch_v (R := []) rfl rfl (oc_assign (x := .val _) rfl rfl) trivial ?_
                refine ck_nil ?_
                exact Le.sub ⟨.inr rfl, .inr rfl, .inr rfl, .inr (vb_eq (by first | (rw [q0, q1, Bool.false_or, Bool.false_or]; done) | simp_all)), trivial⟩ trivial
            · refine aw_cond rfl (fun hb => ?_) (fun hb => ?_)
              · have k5 : x.1 = 5 ∨ x.1 = 6 := by simpa using hb
                refine aw_seq ?_
                refine aw_text rfl ?_
                refine ch_v (R := []) rfl rfl (oc_fieldAddr (off := 1) rfl rfl rfl (by kernel_rfl) rfl) trivial ?_
                refine ch_v (R := []) rfl rfl (oc_load rfl rfl (by kernel_rfl) cells_int) trivial ?_
                refine ch_v (R := []) rfl rfl (oc_call rfl (by kernel_rfl) (oamong_pc x.2 0 24) rfl (by simp only [PureL, Pure, and_self, pure_slI, pure_slS, pure_tab, expr_pure, exprs_pure, stmt_pure, stmts_pure, code_pure, insAv, implies_true]) (by simp only [PureL, Pure, and_self, pure_slI, pure_slS, pure_tab, expr_pure, exprs_pure, stmt_pure, stmts_pure, code_pure, insAv, implies_true])) trivial ?_
                refine ch_v (R := []) rfl rfl (oc_assign (x := .val _) rfl rfl) trivial ?_
                refine ck_nil ?_
                refine aw_ret ?_
                exact ⟨.inl rfl, ResOk.tmp rfl (vb_eq (by exact right_rng (lo := 0) (hi := 23) k1 (by omega) (by rw [if_neg (by omega), if_pos k5]) (by omega) (by omega))), trivial⟩
              · have k5 : ¬ (x.1 = 5 ∨ x.1 = 6) := by simpa using hb
                refine aw_seq ?_
                refine aw_text rfl ?_
                refine ch_v (R := []) rfl rfl (oc_binZ rfl rfl rfl rfl) trivial ?_
                refine ch_v (R := []) rfl rfl (oc_assign (x := .val _) rfl rfl) trivial ?_
                refine ck_nil ?_
                refine aw_cond rfl (fun hb => ?_) (fun hb => ?_)
                · have k7 : x.1 = 7 := by simpa using hb
                  refine aw_seq ?_
                  refine aw_text rfl ?_
                  refine ch_v (R := []) rfl rfl (oc_fieldAddr (off := 1) rfl rfl rfl (by kernel_rfl) rfl) trivial ?_
                  refine ch_v (R := []) rfl rfl (oc_load rfl rfl (by kernel_rfl) cells_int) trivial ?_
                  refine ch_v (R := []) rfl rfl (oc_call rfl (by kernel_rfl) (oamong_pc x.2 1 7) rfl (by simp only [PureL, Pure, and_self, pure_slI, pure_slS, pure_tab, expr_pure, exprs_pure, stmt_pure, stmts_pure, code_pure, insAv, implies_true]) (by simp only [PureL, Pure, and_self, pure_slI, pure_slS, pure_tab, expr_pure, exprs_pure, stmt_pure, stmts_pure, code_pure, insAv, implies_true])) trivial ?_
                  refine ch_v (R := []) rfl rfl (oc_assign (x := .val _) rfl rfl) trivial ?_
                  refine ck_nil ?_
                  refine aw_ret ?_
                  exact ⟨.inl rfl, ResOk.tmp rfl (vb_eq (by exact right_rng (lo := 1) (hi := 6) k1 (by omega) (by rw [if_neg (by omega), if_neg (by omega), if_pos k7]) (by omega) (by omega))), trivial⟩
                · have k7 : ¬ (x.1 = 7) := by simpa using hb
                  refine aw_seq ?_
                  refine aw_text rfl ?_
                  refine ch_v (R := []) rfl rfl (oc_binZ rfl rfl rfl rfl) trivial ?_
                  refine ch_v (R := []) rfl rfl (oc_assign (x := .val _) rfl rfl) trivial ?_
                  refine ck_nil ?_
                  refine aw_cond rfl (fun hb => ?_) (fun hb => ?_)
                  · have k19 : x.1 = 19 := by simpa using hb
                    refine aw_seq ?_
                    refine aw_text rfl ?_
                    refine ch_v (R := []) rfl rfl (oc_fieldAddr (off := 1) rfl rfl rfl (by kernel_rfl) rfl) trivial ?_
                    refine ch_v (R := []) rfl rfl (oc_load rfl rfl (by kernel_rfl) cells_int) trivial ?_
                    refine ch_v (R := []) rfl rfl (oc_call rfl (by kernel_rfl) (oamong_pc x.2 1 4) rfl (by simp only [PureL, Pure, and_self, pure_slI, pure_slS, pure_tab, expr_pure, exprs_pure, stmt_pure, stmts_pure, code_pure, insAv, implies_true]) (by simp only [PureL, Pure, and_self, pure_slI, pure_slS, pure_tab, expr_pure, exprs_pure, stmt_pure, stmts_pure, code_pure, insAv, implies_true])) trivial ?_
                    refine ch_v (R := []) rfl rfl (oc_assign (x := .val _) rfl rfl) trivial ?_
                    refine ck_nil ?_
                    refine aw_ret ?_
                    exact ⟨.inl rfl, ResOk.tmp rfl (vb_eq (by exact right_rng (lo := 1) (hi := 3) k1 (by omega) (by rw [if_neg (by omega), if_neg (by omega), if_neg (by omega), if_neg (by omega), if_pos k19]) (by omega) (by omega))), trivial⟩
                  · have k19 : ¬ (x.1 = 19) := by simpa using hb
                    refine aw_seq ?_
                    refine aw_text rfl ?_
                    refine ch_v (R := []) rfl rfl (oc_binZ rfl rfl rfl rfl) trivial ?_
                    refine ch_v (R := []) rfl rfl (oc_assign (x := .val _) rfl rfl) trivial ?_
                    refine ck_nil ?_
                    refine aw_cond rfl (fun hb => ?_) (fun hb => ?_)
                    · have k8 : x.1 = 8 := by simpa using hb
                      refine aw_seq ?_
                      refine aw_text rfl ?_
                      refine ch_v (R := []) rfl rfl (oc_fieldAddr (off := 1) rfl rfl rfl (by kernel_rfl) rfl) trivial ?_
                      refine ch_v (R := []) rfl rfl (oc_load rfl rfl (by kernel_rfl) cells_int) trivial ?_
                      refine ch_v (R := []) rfl rfl (oc_call rfl (by kernel_rfl) (oamong_pc x.2 3 15) rfl (by simp only [PureL, Pure, and_self, pure_slI, pure_slS, pure_tab, expr_pure, exprs_pure, stmt_pure, stmts_pure, code_pure, insAv, implies_true]) (by simp only [PureL, Pure, and_self, pure_slI, pure_slS, pure_tab, expr_pure, exprs_pure, stmt_pure, stmts_pure, code_pure, insAv, implies_true])) trivial ?_
                      refine ch_v (R := []) rfl rfl (oc_assign (x := .val _) rfl rfl) trivial ?_
                      refine ck_nil ?_
                      refine aw_ret ?_
                      exact ⟨.inl rfl, ResOk.tmp rfl (vb_eq (by exact right_rng (lo := 3) (hi := 14) k1 (by omega) (by rw [if_neg (by omega), if_neg (by omega), if_neg (by omega), if_pos k8]) (by omega) (by omega))), trivial⟩
                    · have k8 : ¬ (x.1 = 8) := by simpa using hb
                      refine aw_seq ?_
                      refine aw_seq ?_
                      refine aw_text rfl ?_
                      refine ch_v (R := []) rfl rfl (oc_binZ rfl rfl rfl rfl) trivial ?_
                      refine ch_v (R := []) rfl rfl (oc_assign (x := .val _) rfl rfl) trivial ?_
                      refine ck_nil ?_
                      refine aw_joinQ (τ := ⟨[(2, .ptr (tabAv t)), (3, .ptr (insAv x)), (6, vi x.1), (46, vb ((x.1 == 12 || ((x.1 == 15 || (x.1 == 16))))))], []⟩) ?_ ?_
                      · refine aw_cond rfl (fun hb => ?_) (fun hb => ?_)
                        · refine aw_skip ?_
                          exact Le.sub ⟨.inr rfl, .inr rfl, .inr rfl, .inr (vb_eq (by first | (rw [q0, q1, Bool.false_or, Bool.false_or]; done) | simp_all)), trivial⟩ trivial
                        · have q0 : (x.1 == 12) = false := hb
                          refine aw_seq ?_
                          refine aw_text rfl ?_
                          refine ch_v (R := []) rfl rfl (oc_binZ rfl rfl rfl rfl) trivial ?_
                          refine ch_v (R := []) rfl rfl (oc_assign (x := .val _) rfl rfl) trivial ?_
                          refine ck_nil ?_
                          refine aw_cond rfl (fun hb => ?_) (fun hb => ?_)
                          · refine aw_skip ?_
                            exact Le.sub ⟨.inr rfl, .inr rfl, .inr rfl, .inr (vb_eq (by first | (rw [q0, q1, Bool.false_or, Bool.false_or]; done) | simp_all)), trivial⟩ trivial
                          · have q1 : (x.1 == 15) = false := hb
                            refine aw_text rfl ?_
                            refine ch_v (R := []) rfl rfl (oc_binZ rfl rfl rfl rfl) trivial ?_
                            refine ch_v (R := []) rfl rfl (oc_assign (x := .val _) rfl rfl) trivial ?_
                            refine ck_nil ?_
                            exact Le.sub ⟨.inr rfl, .inr rfl, .inr rfl, .inr (vb_eq (by first | (rw [q0, q1, Bool.false_or, Bool.false_or]; done) | simp_all)), trivial⟩ trivial
                      · refine aw_cond rfl (fun hb => ?_) (fun hb => ?_)
                        · have k12 : x.1 = 12 ∨ x.1 = 15 ∨ x.1 = 16 := by simpa using hb
                          refine aw_seq ?_
                          refine aw_text rfl ?_
                          refine ch_v (R := []) rfl rfl (oc_fieldAddr (off := 1) rfl rfl rfl (by kernel_rfl) rfl) trivial ?_
                          refine ch_v (R := []) rfl rfl (oc_load rfl rfl (by kernel_rfl) cells_int) trivial ?_
                          refine ch_v (R := []) rfl rfl (oc_fieldAddr (off := 5) rfl rfl rfl (by kernel_rfl) rfl) trivial ?_
                          refine ch_v (R := []) rfl rfl (oc_load rfl rfl (by kernel_rfl) cells_int) trivial ?_
                          refine ch_v (R := []) rfl rfl (oc_call rfl (by kernel_rfl) (oamong_pc x.2 0 t.flags) rfl (by simp only [PureL, Pure, and_self, pure_slI, pure_slS, pure_tab, expr_pure, exprs_pure, stmt_pure, stmts_pure, code_pure, insAv, implies_true]) (by simp only [PureL, Pure, and_self, pure_slI, pure_slS, pure_tab, expr_pure, exprs_pure, stmt_pure, stmts_pure, code_pure, insAv, implies_true])) trivial ?_
                          refine ch_v (R := []) rfl rfl (oc_assign (x := .val _) rfl rfl) trivial ?_
                          refine ck_nil ?_
                          refine aw_ret ?_
                          exact ⟨.inl rfl, ResOk.tmp rfl (vb_eq (by unfold rightI rangeB; rw [if_neg k1, if_pos k12])), trivial⟩
                        · have k12 : ¬ (x.1 = 12 ∨ x.1 = 15 ∨ x.1 = 16) := by simpa using hb
                          refine aw_seq ?_
                          refine aw_seq ?_
                          refine aw_text rfl ?_
                          refine ch_v (R := []) rfl rfl (oc_binZ rfl rfl rfl rfl) trivial ?_
                          refine ch_v (R := []) rfl rfl (oc_assign (x := .val _) rfl rfl) trivial ?_
                          refine ck_nil ?_
                          refine aw_joinQ (τ := ⟨[(2, .ptr (tabAv t)), (3, .ptr (insAv x)), (6, vi x.1), (55, vb ((x.1 == 13 || (x.1 == 14))))], []⟩) ?_ ?_
                          · refine aw_cond rfl (fun hb => ?_) (fun hb => ?_)
                            · refine aw_skip ?_
                              exact Le.sub ⟨.inr rfl, .inr rfl, .inr rfl, .inr (vb_eq (by first | (rw [q0, q1, Bool.false_or, Bool.false_or]; done) | simp_all)), trivial⟩ trivial
                            · refine aw_text rfl ?_
                              refine ch_v (R := []) rfl rfl (oc_binZ rfl rfl rfl rfl) trivial ?_
                              refine ch_v (R := []) rfl rfl (oc_assign (x := .val _) rfl rfl) trivial ?_
                              refine ck_nil ?_
                              exact Le.sub ⟨.inr rfl, .inr rfl, .inr rfl, .inr (vb_eq (by first | (rw [q0, q1, Bool.false_or, Bool.false_or]; done) | simp_all)), trivial⟩ trivial
                          · refine aw_cond rfl (fun hb => ?_) (fun hb => ?_)
                            · have k13 : x.1 = 13 ∨ x.1 = 14 := by simpa using hb
                              refine aw_seq ?_
                              refine aw_text rfl ?_
                              refine ch_v (R := []) rfl rfl (oc_fieldAddr (off := 1) rfl rfl rfl (by kernel_rfl) rfl) trivial ?_
                              refine ch_v (R := []) rfl rfl (oc_load rfl rfl (by kernel_rfl) cells_int) trivial ?_
                              refine ch_v (R := []) rfl rfl (oc_fieldAddr (off := 6) rfl rfl rfl (by kernel_rfl) rfl) trivial ?_
                              refine ch_v (R := []) rfl rfl (oc_load rfl rfl (by kernel_rfl) cells_sl) trivial ?_
                              refine ch_v (R := []) rfl rfl (oc_len rfl rfl (by kernel_rfl)) trivial ?_
                              refine ch_v (R := []) rfl rfl (oc_call rfl (by kernel_rfl) (oamong_pc x.2 0 (t.props.length : Int)) rfl (by simp only [PureL, Pure, and_self, pure_slI, pure_slS, pure_tab, expr_pure, exprs_pure, stmt_pure, stmts_pure, code_pure, insAv, implies_true]) (by simp only [PureL, Pure, and_self, pure_slI, pure_slS, pure_tab, expr_pure, exprs_pure, stmt_pure, stmts_pure, code_pure, insAv, implies_true])) trivial ?_
                              refine ch_v (R := []) rfl rfl (oc_assign (x := .val _) rfl rfl) trivial ?_
                              refine ck_nil ?_
                              refine aw_ret ?_
                              exact ⟨.inl rfl, ResOk.tmp rfl (vb_eq (by exact right_rng (lo := 0) (hi := (t.props.length : Int) - 1) k1 (by omega) (by rw [if_neg (by omega), if_neg (by omega), if_neg (by omega), if_neg (by omega), if_neg (by omega), if_pos k13]) (by omega) (by omega))), trivial⟩
                            · have k13 : ¬ (x.1 = 13 ∨ x.1 = 14) := by simpa using hb
                              refine aw_seq ?_
                              refine aw_text rfl ?_
                              refine ch_v (R := []) rfl rfl (oc_binZ rfl rfl rfl rfl) trivial ?_
                              refine ch_v (R := []) rfl rfl (oc_assign (x := .val _) rfl rfl) trivial ?_
                              refine ck_nil ?_
                              refine aw_cond rfl (fun hb => ?_) (fun hb => ?_)
                              · have k21 : x.1 = 21 := by simpa using hb
                                refine aw_seq ?_
                                refine aw_text rfl ?_
                                refine ch_v (R := []) rfl rfl (oc_fieldAddr (off := 1) rfl rfl rfl (by kernel_rfl) rfl) trivial ?_
                                refine ch_v (R := []) rfl rfl (oc_load rfl rfl (by kernel_rfl) cells_int) trivial ?_
                                refine ch_v (R := []) rfl rfl (oc_fieldAddr (off := 4) rfl rfl rfl (by kernel_rfl) rfl) trivial ?_
                                refine ch_v (R := []) rfl rfl (oc_load rfl rfl (by kernel_rfl) cells_sl) trivial ?_
                                refine ch_v (R := []) rfl rfl (oc_len rfl rfl (by kernel_rfl)) trivial ?_
                                refine ch_v (R := []) rfl rfl (oc_call rfl (by kernel_rfl) (oamong_pc x.2 0 (t.texts.length : Int)) rfl (by simp only [PureL, Pure, and_self, pure_slI, pure_slS, pure_tab, expr_pure, exprs_pure, stmt_pure, stmts_pure, code_pure, insAv, implies_true]) (by simp only [PureL, Pure, and_self, pure_slI, pure_slS, pure_tab, expr_pure, exprs_pure, stmt_pure, stmts_pure, code_pure, insAv, implies_true])) trivial ?_
                                refine ch_v (R := []) rfl rfl (oc_assign (x := .val _) rfl rfl) trivial ?_
                                refine ck_nil ?_
                                refine aw_ret ?_
                                exact ⟨.inl rfl, ResOk.tmp rfl (vb_eq (by exact right_rng (lo := 0) (hi := (t.texts.length : Int) - 1) k1 (by omega) (by rw [if_neg (by omega), if_neg (by omega), if_neg (by omega), if_neg (by omega), if_neg (by omega), if_neg (by omega), if_pos k21]) (by omega) (by omega))), trivial⟩
                              · have k21 : ¬ (x.1 = 21) := by simpa using hb
                                refine aw_seq ?_
                                refine aw_text rfl ?_
                                refine ch_v (R := []) rfl rfl (oc_binZ rfl rfl rfl rfl) trivial ?_
                                refine ch_v (R := []) rfl rfl (oc_assign (x := .val _) rfl rfl) trivial ?_
                                refine ck_nil ?_
                                refine aw_cond rfl (fun hb => ?_) (fun hb => ?_)
                                · have k26 : x.1 = 26 := by simpa using hb
                                  refine aw_seq ?_
                                  refine aw_text rfl ?_
                                  refine ch_v (R := []) rfl rfl (oc_fieldAddr (off := 1) rfl rfl rfl (by kernel_rfl) rfl) trivial ?_
                                  refine ch_v (R := []) rfl rfl (oc_load rfl rfl (by kernel_rfl) cells_int) trivial ?_
                                  refine ch_v (R := []) rfl rfl (oc_fieldAddr (off := 11) rfl rfl rfl (by kernel_rfl) rfl) trivial ?_
                                  refine ch_v (R := []) rfl rfl (oc_load rfl rfl (by kernel_rfl) cells_sl) trivial ?_
                                  refine ch_v (R := []) rfl rfl (oc_len rfl rfl (by kernel_rfl)) trivial ?_
                                  refine ch_v (R := []) rfl rfl (oc_call rfl (by kernel_rfl) (oamong_pc x.2 0 (t.funcs.length : Int)) rfl (by simp only [PureL, Pure, and_self, pure_slI, pure_slS, pure_tab, expr_pure, exprs_pure, stmt_pure, stmts_pure, code_pure, insAv, implies_true]) (by simp only [PureL, Pure, and_self, pure_slI, pure_slS, pure_tab, expr_pure, exprs_pure, stmt_pure, stmts_pure, code_pure, insAv, implies_true])) trivial ?_
                                  refine ch_v (R := []) rfl rfl (oc_assign (x := .val _) rfl rfl) trivial ?_
                                  refine ck_nil ?_
                                  refine aw_ret ?_
                                  exact ⟨.inl rfl, ResOk.tmp rfl (vb_eq (by exact right_rng (lo := 0) (hi := (t.funcs.length : Int) - 1) k1 (by omega) (by rw [if_neg (by omega), if_neg (by omega), if_neg (by omega), if_neg (by omega), if_neg (by omega), if_neg (by omega), if_neg (by omega), if_pos k26]) (by omega) (by omega))), trivial⟩
                                · have k26 : ¬ (x.1 = 26) := by simpa using hb
                                  refine aw_seq ?_
                                  refine aw_seq ?_
                                  refine aw_text rfl ?_
                                  refine ch_v (R := []) rfl rfl (oc_binZ rfl rfl rfl rfl) trivial ?_
                                  refine ch_v (R := []) rfl rfl (oc_assign (x := .val _) rfl rfl) trivial ?_
                                  refine ck_nil ?_
                                  refine aw_joinQ (τ := ⟨[(2, .ptr (tabAv t)), (3, .ptr (insAv x)), (6, vi x.1), (80, vb ((x.1 == 32 || (x.1 == 33))))], []⟩) ?_ ?_
                                  · refine aw_cond rfl (fun hb => ?_) (fun hb => ?_)
                                    · refine aw_skip ?_
                                      exact Le.sub ⟨.inr rfl, .inr rfl, .inr rfl, .inr (vb_eq (by first | (rw [q0, q1, Bool.false_or, Bool.false_or]; done) | simp_all)), trivial⟩ trivial
                                    · refine aw_text rfl ?_
                                      refine ch_v (R := []) rfl rfl (oc_binZ rfl rfl rfl rfl) trivial ?_
                                      refine ch_v (R := []) rfl rfl (oc_assign (x := .val _) rfl rfl) trivial ?_
                                      refine ck_nil ?_
                                      exact Le.sub ⟨.inr rfl, .inr rfl, .inr rfl, .inr (vb_eq (by first | (rw [q0, q1, Bool.false_or, Bool.false_or]; done) | simp_all)), trivial⟩ trivial
                                  · refine aw_cond rfl (fun hb => ?_) (fun hb => ?_)
                                    · have k32 : x.1 = 32 ∨ x.1 = 33 := by simpa using hb
                                      refine aw_seq ?_
                                      refine aw_text rfl ?_
                                      refine ch_v (R := []) rfl rfl (oc_fieldAddr (off := 1) rfl rfl rfl (by kernel_rfl) rfl) trivial ?_
                                      refine ch_v (R := []) rfl rfl (oc_load rfl rfl (by kernel_rfl) cells_int) trivial ?_
                                      refine ch_v (R := []) rfl rfl (oc_fieldAddr (off := 12) rfl rfl rfl (by kernel_rfl) rfl) trivial ?_
                                      refine ch_v (R := []) rfl rfl (oc_load rfl rfl (by kernel_rfl) cells_sl) trivial ?_
                                      refine ch_v (R := []) rfl rfl (oc_len rfl rfl (by kernel_rfl)) trivial ?_
                                      refine ch_v (R := []) rfl rfl (oc_call rfl (by kernel_rfl) (oamong_pc x.2 0 (t.daemons.length : Int)) rfl (by simp only [PureL, Pure, and_self, pure_slI, pure_slS, pure_tab, expr_pure, exprs_pure, stmt_pure, stmts_pure, code_pure, insAv, implies_true]) (by simp only [PureL, Pure, and_self, pure_slI, pure_slS, pure_tab, expr_pure, exprs_pure, stmt_pure, stmts_pure, code_pure, insAv, implies_true])) trivial ?_
                                      refine ch_v (R := []) rfl rfl (oc_assign (x := .val _) rfl rfl) trivial ?_
                                      refine ck_nil ?_
                                      refine aw_ret ?_
                                      exact ⟨.inl rfl, ResOk.tmp rfl (vb_eq (by exact right_rng (lo := 0) (hi := (t.daemons.length : Int) - 1) k1 (by omega) (by rw [if_neg (by omega), if_neg (by omega), if_neg (by omega), if_neg (by omega), if_neg (by omega), if_neg (by omega), if_neg (by omega), if_neg (by omega), if_pos k32]) (by omega) (by omega))), trivial⟩
                                    · have k32 : ¬ (x.1 = 32 ∨ x.1 = 33) := by simpa using hb
                                      refine aw_skip ?_
                                      refine aw_seq ?_
                                      refine aw_text rfl ?_
                                      refine ch_v (R := []) rfl rfl (oc_fieldAddr (off := 0) rfl rfl rfl (by kernel_rfl) rfl) trivial ?_
                                      refine ch_v (R := []) rfl rfl (oc_load rfl rfl (by kernel_rfl) cells_int) trivial ?_
                                      refine ch_v (R := []) rfl rfl (oc_call rfl (by kernel_rfl) (known_pc x.1) rfl (by simp only [PureL, Pure, and_self, pure_slI, pure_slS, pure_tab, expr_pure, exprs_pure, stmt_pure, stmts_pure, code_pure, insAv, implies_true]) (by simp only [PureL, Pure, and_self, pure_slI, pure_slS, pure_tab, expr_pure, exprs_pure, stmt_pure, stmts_pure, code_pure, insAv, implies_true])) trivial ?_
                                      refine ch_v (R := []) rfl rfl (oc_move (x := .val _) rfl rfl) trivial ?_
                                      refine ch_g (R := []) rfl rfl rfl gate_t (fun hC => oc_fieldAddr (off := 1) rfl rfl rfl (by kernel_rfl) rfl) (fun hC => ⟨(by first | rfl | exact hC | (simp only [Bool.and_eq_true] at hC; first | exact hC.1 | exact hC.1.1 | exact hC.2) | simp_all), trivial⟩) trivial ?_
                                      refine ch_g (R := []) rfl rfl rfl gate_t (fun hC => oc_load rfl rfl (by kernel_rfl) cells_int) (fun hC => ⟨(by first | rfl | exact hC | (simp only [Bool.and_eq_true] at hC; first | exact hC.1 | exact hC.1.1 | exact hC.2) | simp_all), trivial⟩) trivial ?_
                                      refine ch_g (R := []) rfl rfl rfl gate_t (fun hC => oc_binZ rfl rfl rfl rfl) (fun hC => ⟨(by first | rfl | exact hC | (simp only [Bool.and_eq_true] at hC; first | exact hC.1 | exact hC.1.1 | exact hC.2) | simp_all), (by first | rfl | exact hC | (simp only [Bool.and_eq_true] at hC; first | exact hC.1 | exact hC.1.1 | exact hC.2) | simp_all), trivial⟩) trivial ?_
                                      refine ch_v (R := []) rfl rfl (oc_and rfl rfl rfl rfl (by first | exact fun h => h | simp_all)) trivial ?_
                                      refine ch_v (R := []) rfl rfl (oc_assign (x := .val _) rfl rfl) trivial ?_
                                      refine ck_nil ?_
                                      refine aw_ret ?_
                                      exact ⟨.inl rfl, ResOk.tmp rfl (vb_eq (right_none k1 k12 k38 k3 k5 k7 k8 k19 k13 k21 k26 k32)), trivial⟩
end Go.Proofs.Ytfipllnodgbghaa
namespace Go.Proofs.Ytfipllnodgbghaa
open Go.RowKit
set_option maxRecDepth 100000
set_option linter.unusedVariables false
set_option linter.unusedSimpArgs false
theorem pair_int {p q : Int × Int} (h : p = q) : Av.tup [vi p.1, vi p.2] = .tup [vi q.1, vi q.2] := by rw [h]
theorem pushes_bd (x : InsP) : 0 ≤ pushesI x ∧ pushesI x ≤ 1 := by unfold pushesI; split <;> omega
set_option maxHeartbeats 800000 in
theorem met_pc (t : TabP) (x : InsP) (h : Int) (is_ : Bool) (hf : t.funcs.length ≤ 140737488355328) (hp : t.params.length ≤ 140737488355328) (hh : -1000000 ≤ h ∧ h ≤ 1000000) : PC Try.prog 24 [tabAv t, insAv x, vi h, vb is_] (.tup [vi (metP t x h is_).1, vi (metP t x h is_).2]) := by
  have hpb := pushes_bd x
  refine FC.body 2 58 Try.func24 rfl (by kernel_rfl) ?_
  refine aw_seq ?_
  refine aw_text rfl ?_
  refine ch_v (R := []) rfl rfl (oc_box (x := .agg _) rfl rfl) trivial ?_
  refine ch_v (R := []) rfl rfl (oc_box (x := .agg _) rfl rfl) trivial ?_
  refine ch_v (R := []) rfl rfl (oc_assign (x := .val _) rfl rfl) trivial ?_
  refine ch_v (R := []) rfl rfl (oc_assign (x := .val _) rfl rfl) trivial ?_
  refine ck_nil ?_
  refine aw_seq ?_
  refine aw_seq ?_
  refine aw_text rfl ?_
  refine ch_v (R := []) rfl rfl (oc_fieldAddr (off := 0) rfl rfl rfl (by kernel_rfl) rfl) trivial ?_
  refine ch_v (R := []) rfl rfl (oc_load rfl rfl (by kernel_rfl) cells_int) trivial ?_
  refine ch_v (R := []) rfl rfl (oc_binZ rfl rfl rfl rfl) trivial ?_
  refine ck_nil ?_
  refine aw_cond rfl (fun hb => ?_) (fun hb => ?_)
  · have k1 : x.1 = 38 := by simpa using hb
    refine aw_seq ?_
    refine aw_text rfl ?_
    refine ch_v (R := []) rfl rfl (oc_move (x := .val _) rfl rfl) trivial ?_
    refine ch_v (R := []) rfl rfl (oc_assign (x := .val _) rfl rfl) trivial ?_
    refine ch_v (R := []) rfl rfl (oc_assign (x := .val _) rfl rfl) trivial ?_
    refine ck_nil ?_
    refine aw_ret ?_
    exact ⟨.inl rfl, by rw [pair_int (show metP t x h is_ = (h, 0) from if_pos k1)]; exact ResOk.two rfl (ResC.tmp rfl) (ResC.tmp rfl), trivial⟩
  · have k1 : ¬ x.1 = 38 := by simpa using hb
    refine aw_skip ?_
    refine aw_seq ?_
    refine aw_seq ?_
    refine aw_text rfl ?_
    refine ch_v (R := []) rfl rfl (oc_load_row rfl rfl (by kernel_rfl) (by kernel_rfl) rfl) trivial ?_
    refine ch_v (R := []) rfl rfl (oc_load_row rfl rfl (by kernel_rfl) (by kernel_rfl) rfl) trivial ?_
    refine ch_v (R := []) rfl rfl (oc_call rfl (by kernel_rfl) (right_pc t x) rfl (by simp only [PureL, Pure, and_self, pure_slI, pure_slS, pure_tab, expr_pure, exprs_pure, stmt_pure, stmts_pure, code_pure, insAv, implies_true]) (by simp only [PureL, Pure, and_self, pure_slI, pure_slS, pure_tab, expr_pure, exprs_pure, stmt_pure, stmts_pure, code_pure, insAv, implies_true])) trivial ?_
    refine ch_v (R := []) rfl rfl (oc_not rfl rfl) trivial ?_
    refine ch_v (R := []) rfl rfl (oc_move (x := .val _) rfl rfl) trivial ?_
    refine ch_g (R := []) rfl rfl rfl gate_f (fun hC => oc_load_row rfl rfl (by kernel_rfl) (by kernel_rfl) rfl) (fun hC => ⟨(by first | rfl | exact hC | (simp only [Bool.and_eq_true] at hC; first | exact hC.1 | exact hC.1.1 | exact hC.2) | simp_all), trivial⟩) trivial ?_
    refine ch_g (R := []) rfl rfl rfl gate_f (fun hC => oc_call rfl (by kernel_rfl) (goes_pc x) rfl (by simp only [PureL, Pure, and_self, pure_slI, pure_slS, pure_tab, expr_pure, exprs_pure, stmt_pure, stmts_pure, code_pure, insAv, implies_true]) (by simp only [PureL, Pure, and_self, pure_slI, pure_slS, pure_tab, expr_pure, exprs_pure, stmt_pure, stmts_pure, code_pure, insAv, implies_true])) (fun hC => ⟨(by first | rfl | exact hC | (simp only [Bool.and_eq_true] at hC; first | exact hC.1 | exact hC.1.1 | exact hC.2) | simp_all), (by first | rfl | exact hC | (simp only [Bool.and_eq_true] at hC; first | exact hC.1 | exact hC.1.1 | exact hC.2) | simp_all), trivial⟩) trivial ?_
    refine ch_g (R := []) rfl rfl rfl gate_f (fun hC => oc_move (x := .val _) rfl rfl) (fun hC => ⟨(by first | rfl | exact hC | (simp only [Bool.and_eq_true] at hC; first | exact hC.1 | exact hC.1.1 | exact hC.2) | simp_all), trivial⟩) trivial ?_
    refine ch_g (R := []) rfl rfl rfl gate_gt (fun hC => oc_move (x := .val _) rfl rfl) (fun hC => ⟨(by first | rfl | exact hC | (simp only [Bool.and_eq_true] at hC; first | exact hC.1 | exact hC.1.1 | exact hC.2) | simp_all), trivial⟩) trivial ?_
    refine ch_g (R := []) rfl rfl rfl gate_gt (fun hC => oc_not rfl rfl) (fun hC => ⟨(by first | rfl | exact hC | (simp only [Bool.and_eq_true] at hC; first | exact hC.1 | exact hC.1.1 | exact hC.2) | simp_all), trivial⟩) trivial ?_
    refine ch_gp rfl rfl rfl rfl gate_f (fun hC => (by first | rfl | exact hC | (simp only [Bool.and_eq_true] at hC; first | exact hC.1 | exact hC.1.1 | exact hC.2) | simp_all)) rfl (fun hC E a hp hq => pk_and rfl (by first | exact fun h => tt2 hC h | exact fun h => h | simp_all) hp) ?_
    refine ch_v (R := []) rfl rfl (oc_or rfl rfl rfl (by first | exact fun h => h | simp_all)) trivial ?_
    refine ck_nil ?_
    refine aw_cond rfl (fun hb => ?_) (fun hb => ?_)
    · have k2 : rightI t x = false ∨ (x.1 = 24 ∨ x.1 = 25) ∧ is_ = false := by simpa using hb
      refine aw_seq ?_
      refine aw_text rfl ?_
      refine ch_v (R := []) rfl rfl (oc_assign (x := .val _) rfl rfl) trivial ?_
      refine ch_v (R := []) rfl rfl (oc_assign (x := .val _) rfl rfl) trivial ?_
      refine ck_nil ?_
      refine aw_ret ?_
      exact ⟨.inl rfl, by rw [pair_int (show metP t x h is_ = (0, 16) by unfold metP; rw [if_neg k1, if_pos k2])]; exact ResOk.two rfl (ResC.tmp rfl) (ResC.tmp rfl), trivial⟩
    · have k2 : ¬ (rightI t x = false ∨ (x.1 = 24 ∨ x.1 = 25) ∧ is_ = false) := by
        rintro (h1 | ⟨h1, h2⟩)
        · rw [h1] at hb; cases hb
        · rw [h2] at hb
          rcases h1 with h1 | h1 <;> simp [h1] at hb
      refine aw_skip ?_
      refine aw_seq ?_
      refine aw_draw mixed ?_
      refine ch_v (R := []) rfl rfl (oc_load_row rfl rfl (by kernel_rfl) (by kernel_rfl) rfl) trivial ?_
      refine ch_v (R := []) rfl rfl (oc_load_row rfl rfl (by kernel_rfl) (by kernel_rfl) rfl) trivial ?_
      refine ch_v (R := []) rfl rfl (oc_call rfl (by kernel_rfl) (pops_pc t x hf hp) rfl (by simp only [PureL, Pure, and_self, pure_slI, pure_slS, pure_tab, expr_pure, exprs_pure, stmt_pure, stmts_pure, code_pure, insAv, implies_true]) (by simp only [PureL, Pure, and_self, pure_slI, pure_slS, pure_tab, expr_pure, exprs_pure, stmt_pure, stmts_pure, code_pure, insAv, implies_true])) trivial ?_
      refine ch_v (R := []) rfl rfl (oc_load_row rfl rfl (by kernel_rfl) (by kernel_rfl) rfl) trivial ?_
      refine ch_v (R := []) rfl rfl (oc_call rfl (by kernel_rfl) (pushes_pc x) rfl (by simp only [PureL, Pure, and_self, pure_slI, pure_slS, pure_tab, expr_pure, exprs_pure, stmt_pure, stmts_pure, code_pure, insAv, implies_true]) (by simp only [PureL, Pure, and_self, pure_slI, pure_slS, pure_tab, expr_pure, exprs_pure, stmt_pure, stmts_pure, code_pure, insAv, implies_true])) trivial ?_
      refine ch_v (R := []) rfl rfl (oc_assign (x := .val _) rfl rfl) trivial ?_
      refine ch_v (R := []) rfl rfl (oc_assign (x := .val _) rfl rfl) trivial ?_
      refine ck_nil ⟨by kernel_rfl, ?_⟩
      refine aw_seq ?_
      refine aw_seq ?_
      refine aw_text rfl ?_
      refine ch_v (R := []) rfl rfl (oc_move (x := .val _) rfl rfl) trivial ?_
      refine ch_v (R := []) rfl rfl (oc_move (x := .val _) rfl rfl) trivial ?_
      refine ch_v (R := []) rfl rfl (oc_binZ rfl rfl rfl rfl) trivial ?_
      refine ch_v (R := []) rfl rfl (oc_move (x := .val _) rfl rfl) trivial ?_
      refine ch_g (R := []) rfl rfl rfl gate_f (fun hC => oc_fieldAddr (off := 0) rfl rfl rfl (by kernel_rfl) rfl) (fun hC => ⟨(by first | rfl | exact hC | (simp only [Bool.and_eq_true] at hC; first | exact hC.1 | exact hC.1.1 | exact hC.2) | simp_all), trivial⟩) trivial ?_
      refine ch_g (R := []) rfl rfl rfl gate_f (fun hC => oc_load rfl rfl (by kernel_rfl) cells_int) (fun hC => ⟨(by first | rfl | exact hC | (simp only [Bool.and_eq_true] at hC; first | exact hC.1 | exact hC.1.1 | exact hC.2) | simp_all), trivial⟩) trivial ?_
      refine ch_g (R := []) rfl rfl rfl gate_f (fun hC => oc_binZ rfl rfl rfl rfl) (fun hC => ⟨(by first | rfl | exact hC | (simp only [Bool.and_eq_true] at hC; first | exact hC.1 | exact hC.1.1 | exact hC.2) | simp_all), (by first | rfl | exact hC | (simp only [Bool.and_eq_true] at hC; first | exact hC.1 | exact hC.1.1 | exact hC.2) | simp_all), trivial⟩) trivial ?_
      refine ch_g (R := []) rfl rfl rfl gate_f (fun hC => oc_move (x := .val _) rfl rfl) (fun hC => ⟨(by first | rfl | exact hC | (simp only [Bool.and_eq_true] at hC; first | exact hC.1 | exact hC.1.1 | exact hC.2) | simp_all), trivial⟩) trivial ?_
      refine ch_g (R := []) rfl rfl rfl gate_gt (fun hC => oc_move (x := .val _) rfl rfl) (fun hC => ⟨(by first | rfl | exact hC | (simp only [Bool.and_eq_true] at hC; first | exact hC.1 | exact hC.1.1 | exact hC.2) | simp_all), trivial⟩) trivial ?_
      refine ch_g (R := []) rfl rfl rfl gate_gt (fun hC => oc_binZ rfl rfl rfl rfl) (fun hC => ⟨(by first | rfl | exact hC | (simp only [Bool.and_eq_true] at hC; first | exact hC.1 | exact hC.1.1 | exact hC.2) | simp_all), (by first | rfl | exact hC | (simp only [Bool.and_eq_true] at hC; first | exact hC.1 | exact hC.1.1 | exact hC.2) | simp_all), trivial⟩) trivial ?_
      refine ch_gp rfl rfl rfl rfl gate_f (fun hC => (by first | rfl | exact hC | (simp only [Bool.and_eq_true] at hC; first | exact hC.1 | exact hC.1.1 | exact hC.2) | simp_all)) rfl (fun hC E a hp hq => pk_and rfl (by first | exact fun h => tt2 hC h | exact fun h => h | simp_all) hp) ?_
      refine ch_v (R := []) rfl rfl (oc_or rfl rfl rfl (by first | exact fun h => h | simp_all)) trivial ?_
      refine ch_v (R := []) rfl rfl (oc_move (x := .val _) rfl rfl) trivial ?_
      refine ch_g (R := []) rfl rfl rfl gate_f (fun hC => oc_move (x := .val _) rfl rfl) (fun hC => ⟨(by first | rfl | exact hC | (simp only [Bool.and_eq_true] at hC; first | exact hC.1 | exact hC.1.1 | exact hC.2) | simp_all), trivial⟩) trivial ?_
      refine ch_g (R := []) rfl rfl rfl gate_f (fun hC => oc_move (x := .val _) rfl rfl) (fun hC => ⟨(by first | rfl | exact hC | (simp only [Bool.and_eq_true] at hC; first | exact hC.1 | exact hC.1.1 | exact hC.2) | simp_all), trivial⟩) trivial ?_
      refine ch_g (R := []) rfl rfl rfl gate_f (fun hC => oc_move (x := .val _) rfl rfl) (fun hC => ⟨(by first | rfl | exact hC | (simp only [Bool.and_eq_true] at hC; first | exact hC.1 | exact hC.1.1 | exact hC.2) | simp_all), trivial⟩) trivial ?_
      refine ch_g (R := []) rfl rfl rfl gate_f (fun hC => oc_binZ rfl rfl rfl (by first | exact binW_add (by omega) (by omega) | rfl)) (fun hC => ⟨(by first | rfl | exact hC | (simp only [Bool.and_eq_true] at hC; first | exact hC.1 | exact hC.1.1 | exact hC.2) | simp_all), (by first | rfl | exact hC | (simp only [Bool.and_eq_true] at hC; first | exact hC.1 | exact hC.1.1 | exact hC.2) | simp_all), trivial⟩) trivial ?_
      refine ch_g (R := []) rfl rfl rfl gate_f (fun hC => oc_binZ rfl rfl rfl (by first | exact binW_sub (by omega) (by omega) | rfl)) (fun hC => ⟨(by first | rfl | exact hC | (simp only [Bool.and_eq_true] at hC; first | exact hC.1 | exact hC.1.1 | exact hC.2) | simp_all), (by first | rfl | exact hC | (simp only [Bool.and_eq_true] at hC; first | exact hC.1 | exact hC.1.1 | exact hC.2) | simp_all), trivial⟩) trivial ?_
      refine ch_g (R := []) rfl rfl rfl gate_f (fun hC => oc_binZ rfl rfl rfl rfl) (fun hC => ⟨(by first | rfl | exact hC | (simp only [Bool.and_eq_true] at hC; first | exact hC.1 | exact hC.1.1 | exact hC.2) | simp_all), (by first | rfl | exact hC | (simp only [Bool.and_eq_true] at hC; first | exact hC.1 | exact hC.1.1 | exact hC.2) | simp_all), trivial⟩) trivial ?_
      refine ch_v (R := []) rfl rfl (oc_or rfl rfl rfl (by first | exact fun h => h | simp_all)) trivial ?_
      refine ck_nil ?_
      refine aw_cond rfl (fun hb => ?_) (fun hb => ?_)
      · have k3 : h < popsI t x ∨ x.1 = 27 ∧ h ≠ 1 ∨ popsI t x < h + pushesI x - 256 := by
          simp only [Bool.or_eq_true, Bool.and_eq_true, decide_eq_true_eq, beq_iff_eq, bne_iff_ne, ne_eq] at hb
          rcases hb with (h1 | h1) | h1
          · exact .inl h1
          · exact .inr (.inl h1)
          · exact .inr (.inr h1)
        refine aw_seq ?_
        refine aw_text rfl ?_
        refine ch_v (R := []) rfl rfl (oc_assign (x := .val _) rfl rfl) trivial ?_
        refine ch_v (R := []) rfl rfl (oc_assign (x := .val _) rfl rfl) trivial ?_
        refine ck_nil ?_
        refine aw_ret ?_
        exact ⟨.inl rfl, by rw [pair_int (show metP t x h is_ = (0, 17) by unfold metP; rw [if_neg k1, if_neg k2, if_pos k3])]; exact ResOk.two rfl (ResC.tmp rfl) (ResC.tmp rfl), trivial⟩
      · have k3 : ¬ (h < popsI t x ∨ x.1 = 27 ∧ h ≠ 1 ∨ popsI t x < h + pushesI x - 256) := by
          simp only [Bool.or_eq_false_iff, Bool.and_eq_false_iff, decide_eq_false_iff_not, beq_eq_false_iff_ne, bne_eq_false_iff_eq, ne_eq] at hb
          rintro (h1 | ⟨h1, h2⟩ | h1)
          · exact hb.1.1 h1
          · rcases hb.1.2 with h3 | h3
            · exact h3 h1
            · exact h2 h3
          · exact hb.2 h1
        refine aw_skip ?_
        refine aw_seq ?_
        refine aw_text rfl ?_
        refine ch_v (R := []) rfl rfl (oc_move (x := .val _) rfl rfl) trivial ?_
        refine ch_v (R := []) rfl rfl (oc_move (x := .val _) rfl rfl) trivial ?_
        refine ch_v (R := []) rfl rfl (oc_binZ rfl rfl rfl (by first | exact binW_sub (by omega) (by omega) | rfl)) trivial ?_
        refine ch_v (R := []) rfl rfl (oc_move (x := .val _) rfl rfl) trivial ?_
        refine ch_v (R := []) rfl rfl (oc_binZ rfl rfl rfl (by first | exact binW_add (by omega) (by omega) | rfl)) trivial ?_
        refine ch_v (R := []) rfl rfl (oc_assign (x := .val _) rfl rfl) trivial ?_
        refine ch_v (R := []) rfl rfl (oc_assign (x := .val _) rfl rfl) trivial ?_
        refine ck_nil ?_
        refine aw_ret ?_
        exact ⟨.inl rfl, by rw [pair_int (show metP t x h is_ = (h - popsI t x + pushesI x, 0) by unfold metP; rw [if_neg k1, if_neg k2, if_neg k3])]; exact ResOk.two rfl (ResC.tmp rfl) (ResC.tmp rfl), trivial⟩
end Go.Proofs.Ytfipllnodgbghaa
namespace Go.Proofs.Ytfipllnodgbghaa
open Go.RowKit Go.Maps
set_option linter.unusedVariables false
set_option linter.unusedSimpArgs false

def mapB (P : Program) (T : TypeId) : Option (TypeId × TypeId) := match P.underlying T with | some (.map k e) => some (k, e) | _ => none
theorem mapB_some {P : Program} {T k e : TypeId} (h : mapB P T = some (k, e)) : P.underlying T = some (.map k e) := by
  unfold mapB at h
  split at h
  · rename_i hu
    injection h with h
    injection h with h1 h2
    subst h1; subst h2
    exact hu
  · cases h
def intE (P : Program) (e : TypeId) : Option IntKind := match P.underlying e with | some (.int q) => some q | _ => none
theorem intE_some {P : Program} {e : TypeId} {q : IntKind} (h : intE P e = some q) : P.underlying e = some (.int q) := by
  unfold intE at h
  split at h
  · rename_i hu
    injection h with h
    subst h
    exact hu
  · cases h
/-- A named block that holds no cells is turned. -/
theorem Step.turn {E : Env} (hG : Good E) {n b : Nat} (hn : E.loc n = .at b) (hnc : ∀ cur t, E.w.heap[b]? ≠ some (.cells cur t (0, 0))) {w' : World} (hg : E.w.grownBy w' (some b)) : Step E { E with w := w' } [n] ∧ Good { E with w := w' } := by
  refine ⟨⟨hg.os, hg.tape, hg.output, hg.size, rfl, fun c hc hno => hg.block c hc fun e => ?_, fun m hm => ⟨rfl, fun c hc => hg.block c (hG.lt m c hc).1 fun e => ?_⟩, fun m h => h, fun m c h => .inl h, fun m h => .inl h, fun m c cur t hc hc' hcur => ?_⟩, fun c hc => Nat.lt_of_lt_of_le (hG.old c hc) hg.size, hG.inj, fun m c hc => ⟨Nat.lt_of_lt_of_le (hG.lt m c hc).1 hg.size, (hG.lt m c hc).2⟩, hG.shp.same fun c hc => ⟨⟨Nat.lt_of_lt_of_le hc.1 hg.size, hc.2.1, hc.2.2⟩, hg.block c hc.1 fun e => by injection e with e; exact hc.2.2 n (e ▸ hn)⟩⟩
  · injection e with e
    exact hno n (e ▸ hn)
  · injection e with e
    subst e
    exact hm (by simp [hG.inj m n c hc hn])
  · refine ⟨cur, ?_, rfl⟩
    have hlt := (Array.getElem?_eq_some_iff.1 hcur).1
    rw [hg.block c hlt fun e => ?_]
    · exact hcur
    · injection e with e
      subst e
      exact hnc _ _ hcur
theorem ownsMap_noCells {w : World} {P : Program} {k e : TypeId} {b n : Nat} {D : DataW Unit} (h : w.ownsMap P k (plainElem P e) b n D) : ∀ cur t, w.heap[b]? ≠ some (.cells cur t (0, 0)) := fun cur t hc => by
  obtain ⟨es, clock, h1, _⟩ := h
  rw [h1] at hc
  cases hc
/-- No more than what stands in it. -/
theorem ownsMap_size {w : World} {P : Program} {k e : TypeId} {b n : Nat} {D : DataW Unit} (h : w.ownsMap P k (plainElem P e) b n D) : w.ownsMap P k (plainElem P e) b (Maps.size D) D := by
  obtain ⟨es, clock, h1, F, _, rfl⟩ := h
  refine ⟨es, clock, h1, F, ?_, rfl⟩
  rw [Maps.size_eq, length_sorted]
  simp
section
variable {P : Program} {o : Oper} {ρ : Operand → Av} {p q r : Operand} {T k e : TypeId} {kk : IntKind} {D : DataW Unit}
theorem oc_makeMap (m : Nat) (ho : o.op = .makeMap T none) (hT : mapB P T = some (k, e)) : OC P o ρ [(m, .unborn)] (.mp m) [(m, .map P k e (.map []))] := by
  intro E a hG hr hH
  have hn : E.loc m = .unborn := hH m .unborn (by simp)
  unfold grows execOp
  simp only [ho, Option.map_none, Sem.run_bind, run_makeMap, Result.andThen_ok, Sem.run_pure, growUpon]
  have hb : Below E.w.heap.size E.w (E.w.alloc (.map #[] 0)) := (Below.refl _ _).alloc (Nat.le_refl _) _
  refine ⟨E.give (E.w.alloc (.map #[] 0)) m E.w.heap.size, rfl, Step.give hG hb hn (Nat.le_refl _), hG.give hb (Nat.le_refl _) (by simp), ?_, fun i y hy => ?_⟩
  · unfold Rep
    refine ⟨⟨by simp [Env.give], _, rfl⟩, fun b hb => ?_⟩
    simp [Env.give] at hb
    rw [hb]
  · simp only [lkH] at hy
    by_cases e1 : m = i
    · subst e1
      simp at hy
      subst hy
      exact ⟨E.w.heap.size, 0, by simp [Env.give], World.ownsMap_made E.w P k (plainElem P e)⟩
    · rw [beqF e1, cond_false] at hy
      cases hy
/-- m[k] = v. -/
theorem oc_mapUpdate {n : Nat} {key : Value} {kl : Lit} {c : Int} (K : Keyed P k) (ho : o.op = .mapUpdate T p q r) (hp : ρ p = .mp n) (hq : ρ q = .val key) (hr' : ρ r = .val (.int kk c)) (hT : mapB P T = some (k, e)) (he : intE P e = some kk) (hkey : keyOf P k key = some kl) (hw : (Lit.int kk c).wf = true) (hs : Maps.size D < maxLen) :
    OC P o ρ [(n, .map P k e D)] .any [(n, .map P k e (D.put kl (.lit (.int kk c))))] := by
  intro E a hG hr hH
  have h1 := hr p (by simp [ho, Op.operands])
  have h2 := hr q (by simp [ho, Op.operands])
  have h3 := hr r (by simp [ho, Op.operands])
  rw [hp] at h1
  rw [hq] at h2
  rw [hr'] at h3
  unfold Rep at h1 h2 h3
  obtain ⟨b, m, h4, h5⟩ := hH n (.map P k e D) (by simp)
  obtain ⟨w', hrun, h6, h7⟩ := (ownsMap_size h5).update K (mapB_some hT) hs hkey (plainElem_int (H := Unit) (intE_some he) hw)
  unfold grows execOp
  simp only [ho, h1.2 b h4, h2, h3, Sem.run_bind, hrun, Result.andThen_ok, Sem.run_pure, growUpon]
  obtain ⟨hS, hG'⟩ := Step.turn hG h4 (ownsMap_noCells h5) h7
  refine ⟨{ E with w := w' }, rfl, hS, hG', by unfold Rep; trivial, fun i y hy => ?_⟩
  simp only [lkH] at hy
  by_cases e1 : n = i
  · subst e1
    simp at hy
    subst hy
    exact ⟨b, _, h4, h6⟩
  · rw [beqF e1, cond_false] at hy
    cases hy
theorem zero_run {P : Program} {e : TypeId} {z : Value} (h : (P.info? e).bind (·.zero) = some z) (w : World) : (zeroValue e).run P w = .ok z w := by
  cases hi : P.info? e with
  | none => simp [hi] at h
  | some i =>
    cases hz : i.zero with
    | none => simp [hi, hz] at h
    | some y =>
      simp [hi, hz] at h
      subst h
      simp [zeroValue, typeInfo, hi, hz, Sem.run_bind]
/-- A map that is only read from here on. -/
theorem Le.freezeMap {N : Nat} {D' : List Nat} {s : List (Nat × Av)} {h : List (Nat × Hs)} (t n : Nat) (hs : lkS s t = .mp n) (hn : lkH h n = some (.map P k e D)) : Le N D' ⟨s, h⟩ ⟨(t, .fm P k e D) :: s, (n, .dead) :: h⟩ := Le.step fun E a hF => by
  have hv := hF.holds.1 t
  rw [hs] at hv
  obtain ⟨b, m, h4, h5⟩ := hF.holds.2 n _ hn
  have hn0 : E.loc n ≠ .unborn := by rw [h4]; simp
  have hS := Step.kill E n hn0
  refine ⟨E.re n .dead, [n], rfl, hS, hF.good.re (by simp), fun u => ?_, fun j y hy => ?_⟩
  · by_cases e1 : t = u
    · subst e1
      rw [lkS_eq]
      unfold Rep at hv ⊢
      exact ⟨b, m, hv.2 b h4, re_ok hF.good h4, h5⟩
    · rw [lkS_ne _ _ e1]
      exact Rep.step hS _ _ (hF.holds.1 u)
  · by_cases e1 : n = j
    · subst e1
      simp [lkH] at hy
      subst hy
      show (E.re n .dead).loc n = .dead
      simp [Env.re]
    · simp only [lkH, beqF e1, cond_false] at hy
      exact HAt.step hS (by simp [Ne.symm e1]) (hF.holds.2 j y hy)
end
section
variable {ro : Option Nat} {P : Program} {N : Nat} {D : List Nat} {s : List (Nat × Av)} {h : List (Nat × Hs)} {Q : Exit → Ctx → Prop} {k e : TypeId} {M : DataW Unit}
end
/-! ### Strings as keys, numbers as elements -/
end Go.Proofs.Ytfipllnodgbghaa
namespace Go.Proofs.Ytfipllnodgbghaa
open Go.RowKit Go.Maps
set_option linter.unusedVariables false
set_option linter.unusedSimpArgs false
section
variable {P : Program} {o : Oper} {ρ : Operand → Av} {T k e : TypeId} {p q : Operand} {kk : IntKind} {D : DataW Unit}
theorem look_run {E : World} {b m : Nat} {key : Value} {kl : Lit} {c : Int} (h5 : E.ownsMap P k (plainElem P e) b m D) (K : Keyed P k) (hT : mapB P T = some (k, e)) (he : intE P e = some kk) (hz : (P.info? e).bind (·.zero) = some (.int kk 0)) (hkey : keyOf P k key = some kl) (hat : D.atKey kl (.lit (.int kk 0)) = .lit (.int kk c)) : (Instr.lookup T (.map (some b)) key true).run P E = .ok (.tuple #[.int kk c, .bool (Maps.has D kl)]) E := by
  obtain ⟨v, ps, hrun, hv⟩ := h5.look_ok K (mapB_some hT) (zero_run hz E) (plainElem_int (intE_some he) (by cases kk <;> decide)) hkey
  obtain ⟨c', rfl, hc, _⟩ := plainElem_int_inv (intE_some he) hv
  simp only [Prod.mk.injEq] at hc
  rw [hat] at hc
  have h1 := hc.1
  injection h1 with h1
  injection h1 with _ h1
  subst h1
  exact hrun
theorem rep_tupIB {E : Env} {c : Int} {is_ : Bool} : Rep E (.tup [.val (.int kk c), vb is_]) (.tuple #[.int kk c, .bool is_]) := by
  unfold Rep
  refine ⟨[_, _], rfl, ?_⟩
  unfold RepL RepL RepL
  exact ⟨_, _, rfl, by unfold Rep; rfl, _, _, rfl, by unfold Rep; rfl, rfl⟩
theorem oc_lookupOk {n : Nat} {key : Value} {kl : Lit} {c : Int} (K : Keyed P k) (ho : o.op = .lookup T p q true) (hp : ρ p = .mp n) (hq : ρ q = .val key) (hT : mapB P T = some (k, e)) (he : intE P e = some kk) (hz : (P.info? e).bind (·.zero) = some (.int kk 0)) (hkey : keyOf P k key = some kl) (hat : D.atKey kl (.lit (.int kk 0)) = .lit (.int kk c)) :
    OC P o ρ [(n, .map P k e D)] (.tup [.val (.int kk c), vb (Maps.has D kl)]) [] := oc_read fun E a hG hr hH => by
  have h1 := hr p (by simp [ho, Op.operands])
  have h2 := hr q (by simp [ho, Op.operands])
  rw [hp] at h1
  rw [hq] at h2
  unfold Rep at h1 h2
  obtain ⟨b, m, h4, h5⟩ := hH n (.map P k e D) (by simp)
  refine ⟨_, ?_, rep_tupIB⟩
  unfold execOp
  simp only [ho, h1.2 b h4, h2, Sem.run_bind, look_run h5 K hT he hz hkey hat, Result.andThen_ok, Sem.run_pure]
theorem oc_lookupOkF {key : Value} {kl : Lit} {c : Int} (K : Keyed P k) (ho : o.op = .lookup T p q true) (hp : ρ p = .fm P k e D) (hq : ρ q = .val key) (hT : mapB P T = some (k, e)) (he : intE P e = some kk) (hz : (P.info? e).bind (·.zero) = some (.int kk 0)) (hkey : keyOf P k key = some kl) (hat : D.atKey kl (.lit (.int kk 0)) = .lit (.int kk c)) :
    OC P o ρ [] (.tup [.val (.int kk c), vb (Maps.has D kl)]) [] := oc_read fun E a hG hr hH => by
  have h1 := hr p (by simp [ho, Op.operands])
  have h2 := hr q (by simp [ho, Op.operands])
  rw [hp] at h1
  rw [hq] at h2
  unfold Rep at h1 h2
  obtain ⟨b, m, h3, _, h5⟩ := h1
  refine ⟨_, ?_, rep_tupIB⟩
  unfold execOp
  simp only [ho, h3, h2, Sem.run_bind, look_run h5 K hT he hz hkey hat, Result.andThen_ok, Sem.run_pure]
end
end Go.Proofs.Ytfipllnodgbghaa
