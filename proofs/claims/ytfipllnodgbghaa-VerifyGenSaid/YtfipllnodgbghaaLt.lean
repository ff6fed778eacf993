/- Chapter 31: the code of expressions, walked. The end of a loop's round: a new block takes the name of the old one, and other names are forgotten. No program stands in this text. -/
import Derived.Test.YtfipllnodgbghaaVya
import Derived.Test.YtfipllnodgbghaaVt
import Derived.Test.YtfipllnodgbghaaProg
import Derived.KernelRfl
import Derived.Test.YtfipllnodgbghaaOkr
namespace Go.Proofs.Ytfipllnodgbghaa
open Go.RowKit
set_option maxRecDepth 100000
set_option linter.unusedVariables false
set_option linter.unusedSimpArgs false
theorem sizeEs_drop {l : List ExprP} {k : Nat} (h : k < l.length) : sizeEs (l.drop k) = sizeE (l.getD k dExpr) + sizeEs (l.drop (k + 1)) := by
  rw [List.drop_eq_getElem_cons h, List.getD, List.getElem?_eq_getElem h]
  rfl
theorem sizeEs_dropLe : ∀ (l : List ExprP) (k : Nat), sizeEs (l.drop k) ≤ sizeEs l
  | [], k => by simp
  | e :: l, 0 => Nat.le_refl _
  | e :: l, k + 1 => by show sizeEs (l.drop k) ≤ sizeE e + sizeEs l; have := sizeEs_dropLe l k; omega
set_option maxHeartbeats 1600000 in
theorem exprs_step (l : List ExprP) (n : Int) (hn : 0 ≤ n ∧ n + 2 * sizeEs l ≤ 1000000000) (hs : sizeEs l ≤ 10000000) (ih : ∀ x ∈ l, ∀ n : Int, 0 ≤ n → n + 2 * sizeE x ≤ 1000000000 → PC Try.prog 73 [exprAv x, vi n] (.tup [codeAv (genE x n).1, vi (genE x n).2])) : PC Try.prog 79 [exprsAv l, vi n] (.tup [codeAv (genEs l n).1, vi (genEs l n).2]) := by
  have hlen := sizeEs_len l
  have h0 := genEs_len l n
  refine FC.body 2 31 Try.func79 rfl (by kernel_rfl) ?_
  refine aw_seq ?_
  refine aw_text rfl ?_
  refine ch_v (R := []) rfl rfl (oc_assign (x := .val _) rfl rfl) trivial ?_
  refine ch_v (R := []) rfl rfl (oc_assign (x := .val _) rfl rfl) trivial ?_
  refine ck_nil ?_
  refine aw_seq ?_
  refine aw_text rfl ?_
  refine ch_v (R := []) rfl rfl (OC.to (oc_assign (x := .val _) rfl rfl) (code_nil)) trivial ?_
  refine ck_nil ?_
  refine aw_seq ?_
  refine aw_seq ?_
  refine aw_text rfl ?_
  refine ch_v (R := []) rfl rfl (oc_assign (x := .val _) rfl rfl) trivial ?_
  refine ck_nil ?_
  refine aw_block ?_
  refine aw_loop (ι := (Nat × List InsP × Int)) (fun q => ⟨[(0, exprsAv l), (1, vi q.2.2), (6, codeAv q.2.1), (7, vi (q.1 : Int))], []⟩) (fun q => q.1 ≤ l.length ∧ genEs l n = (q.2.1 ++ (genEs (l.drop q.1) q.2.2).1, (genEs (l.drop q.1) q.2.2).2) ∧ n ≤ q.2.2 ∧ q.2.2 + 2 * sizeEs (l.drop q.1) ≤ n + 2 * sizeEs l) (fun q => l.length - q.1) (0, [], n) (⟨Nat.zero_le _, by rw [List.drop_zero]; rfl, Int.le_refl _, by rw [List.drop_zero]; exact Int.le_refl _⟩) (Le.sub ⟨.inr rfl, .inr rfl, .inr rfl, .inr rfl, trivial⟩ trivial) ?_
  intro q hI
  obtain ⟨g1, g2, g3, g4⟩ := hI
  have hL : (genEs l n).1.length = q.2.1.length + (genEs (l.drop q.1) q.2.2).1.length := by rw [g2, List.length_append]
  have h1 := genEs_len (l.drop q.1) q.2.2
  refine aw_seq ?_
  refine aw_seq ?_
  refine aw_text rfl ?_
  refine ch_v (R := []) rfl rfl (oc_move (x := .val _) rfl rfl) trivial ?_
  refine ch_v (R := []) rfl rfl (oc_move (x := .sl _ _ _) rfl rfl) trivial ?_
  refine ch_v (R := []) rfl rfl (oc_len rfl rfl (by kernel_rfl)) trivial ?_
  refine ch_v (R := []) rfl rfl (oc_binZ rfl rfl rfl rfl) trivial ?_
  refine ck_nil ?_
  refine aw_cond rfl (fun hb => ?_) (fun hb => ?_)
  · have hlt : q.1 < l.length := by have h0 := of_decide_eq_true hb; omega
    have hdl := sizeEs_dropLe l q.1
    have hmem := getD_memE hlt
    have hz := sizeEs_drop hlt
    have h2 := genE_len (l.getD q.1 dExpr) q.2.2
    have h3 := congrArg (fun p => p.2) (genEs_drop hlt q.2.2)
    have h4 := congrArg (fun p => p.1.length) (genEs_drop hlt q.2.2)
    simp only [List.length_append] at h3 h4
    have h5 := genEs_len (l.drop (q.1 + 1)) (genE (l.getD q.1 dExpr) q.2.2).2
    refine aw_skip ?_
    refine aw_seq ?_
    refine aw_block ?_
    refine aw_seq ?_
    refine aw_text rfl ?_
    refine ch_v (R := []) rfl rfl (oc_move (x := .sl _ _ _) rfl rfl) trivial ?_
    refine ch_v (R := []) rfl rfl (oc_move (x := .val _) rfl rfl) trivial ?_
    refine ch_v (R := []) rfl rfl (OC.cast (oc_indexN (j := q.1) rfl rfl rfl (by kernel_rfl) (by omega)) (show Av.ptr (exprRow l q.1) = .ptr (.agg [vi (l.getD q.1 dExpr).kind, vi (l.getD q.1 dExpr).op, vi (l.getD q.1 dExpr).num, vs (l.getD q.1 dExpr).name, exprsAv (l.getD q.1 dExpr).args]) from by rw [exprRow_at hlt, exprAv_eq])) trivial ?_
    refine ch_v (R := []) rfl rfl (oc_load_row rfl rfl (by kernel_rfl) (by kernel_rfl) rfl) trivial ?_
    refine ch_v (R := []) rfl rfl (oc_move (x := .val _) rfl rfl) trivial ?_
    refine ch_v (R := []) rfl rfl (oc_call rfl (by kernel_rfl) ((show PC _ _ [(.agg [vi (l.getD q.1 dExpr).kind, vi (l.getD q.1 dExpr).op, vi (l.getD q.1 dExpr).num, vs (l.getD q.1 dExpr).name, exprsAv (l.getD q.1 dExpr).args]), vi q.2.2] _ from exprAv_eq (l.getD q.1 dExpr) ▸ ih (l.getD q.1 dExpr) hmem q.2.2 (by omega) (by omega))) rfl (by simp only [PureL, Pure, and_self, pure_slI, pure_slS, pure_tab, expr_pure, exprs_pure, stmt_pure, stmts_pure, code_pure, insAv, implies_true]) (by simp only [PureL, Pure, and_self, pure_slI, pure_slS, pure_tab, expr_pure, exprs_pure, stmt_pure, stmts_pure, code_pure, insAv, implies_true])) trivial ?_
    refine ch_v (R := []) rfl rfl (oc_move (x := .tup _) rfl rfl) trivial ?_
    refine ch_v (R := []) rfl rfl (oc_extract rfl rfl rfl) trivial ?_
    refine ch_v (R := []) rfl rfl (oc_extract rfl rfl rfl) trivial ?_
    refine ch_v (R := []) rfl rfl (oc_assign (x := .sl _ _ _) rfl rfl) trivial ?_
    refine ch_v (R := []) rfl rfl (oc_assign (x := .val _) rfl rfl) trivial ?_
    refine ck_nil ?_
    refine aw_seq ?_
    refine aw_text rfl ?_
    refine ch_v (R := []) rfl rfl (oc_move (x := .sl _ _ _) rfl rfl) trivial ?_
    refine ch_v (R := []) rfl rfl (oc_move (x := .sl _ _ _) rfl rfl) trivial ?_
    refine ch_v (R := []) rfl rfl (oc_call rfl (by kernel_rfl) (join_pc q.2.1 (genE (l.getD q.1 dExpr) q.2.2).1 (by omega) (by omega)) rfl (by simp only [PureL, Pure, and_self, pure_slI, pure_slS, pure_tab, expr_pure, exprs_pure, stmt_pure, stmts_pure, code_pure, insAv, implies_true]) (by simp only [PureL, Pure, and_self, pure_slI, pure_slS, pure_tab, expr_pure, exprs_pure, stmt_pure, stmts_pure, code_pure, insAv, implies_true])) trivial ?_
    refine ch_v (R := []) rfl rfl (oc_assign (x := .sl _ _ _) rfl rfl) trivial ?_
    refine ck_nil ?_
    refine aw_text rfl ?_
    refine ch_v (R := []) rfl rfl (oc_move (x := .val _) rfl rfl) trivial ?_
    refine ch_v (R := []) rfl rfl (oc_assign (x := .val _) rfl rfl) trivial ?_
    refine ck_nil ?_
    refine aw_text rfl ?_
    refine ch_v (R := []) rfl rfl (oc_move (x := .val _) rfl rfl) trivial ?_
    refine ch_v (R := []) rfl rfl (oc_binZ rfl rfl rfl (by first | exact binW_add (by omega) (by omega) | rfl)) trivial ?_
    refine ch_v (R := []) rfl rfl (oc_assign (x := .val _) rfl rfl) trivial ?_
    refine ck_nil ?_
    exact ⟨(q.1 + 1, q.2.1 ++ (genE (l.getD q.1 dExpr) q.2.2).1, (genE (l.getD q.1 dExpr) q.2.2).2), ⟨by show q.1 + 1 ≤ _; omega, by rw [g2, genEs_drop hlt, List.append_assoc], by show n ≤ (genE _ _).2; omega, by show (genE _ _).2 + 2 * sizeEs (l.drop (q.1 + 1)) ≤ _; omega⟩, by show _ - (q.1 + 1) < _; omega, Le.sub ⟨.inr rfl, .inr rfl, .inr rfl, .inr (vi_eq (by show (q.1 : Int) + 1 = ((q.1 + 1 : Nat) : Int); omega)), trivial⟩ trivial⟩
  · have hge : q.1 = l.length := by have h0 := of_decide_eq_false hb; omega
    have hfin : genEs l n = (q.2.1, q.2.2) := by rw [g2, hge, List.drop_length]; show (q.2.1 ++ [], q.2.2) = _; rw [List.append_nil]
    refine aw_exit ?_
    refine aw_seq ?_
    refine aw_text rfl ?_
    refine ch_v (R := []) rfl rfl (oc_move (x := .sl _ _ _) rfl rfl) trivial ?_
    refine ch_v (R := []) rfl rfl (oc_move (x := .val _) rfl rfl) trivial ?_
    refine ch_v (R := []) rfl rfl (oc_assign (x := .sl _ _ _) rfl rfl) trivial ?_
    refine ch_v (R := []) rfl rfl (oc_assign (x := .val _) rfl rfl) trivial ?_
    refine ck_nil ?_
    refine aw_ret ?_
    exact ⟨.inl rfl, by rw [pair_code hfin]; exact ResOk.two rfl (ResC.tmp rfl) (ResC.tmp rfl), trivial⟩
theorem sizeEs_two {l : List ExprP} (h : 2 ≤ l.length) : sizeE (l.getD 0 dExpr) + sizeE (l.getD 1 dExpr) ≤ sizeEs l := by
  match l, h with
  | x :: y :: r, _ =>
    show sizeE x + sizeE y ≤ _
    unfold sizeEs sizeEs
    omega
set_option maxHeartbeats 3200000 in
theorem expr_step (e : ExprP) (n : Int) (hn : 0 ≤ n ∧ n + 2 * sizeE e ≤ 1000000000) (hs : sizeE e ≤ 10000000) (hsh : (e.kind = 6 → 2 ≤ e.args.length) ∧ (e.kind = 13 → 1 ≤ e.args.length)) (ih : ∀ x ∈ e.args, ∀ n : Int, 0 ≤ n → n + 2 * sizeE x ≤ 1000000000 → PC Try.prog 73 [exprAv x, vi n] (.tup [codeAv (genE x n).1, vi (genE x n).2])) (hes : PC Try.prog 79 [exprsAv e.args, vi n] (.tup [codeAv (genEs e.args n).1, vi (genEs e.args n).2])) : PC Try.prog 73 [exprAv e, vi n] (.tup [codeAv (genE e n).1, vi (genE e n).2]) := by
  have hz := sizeE_eq e
  have h0 := genEs_len e.args n
  rw [exprAv_eq]
  refine FC.body 2 101 Try.func73 rfl (by kernel_rfl) ?_
  refine aw_seq ?_
  refine aw_text rfl ?_
  refine ch_v (R := []) rfl rfl (oc_box (x := .agg _) rfl rfl) trivial ?_
  refine ch_v (R := []) rfl rfl (oc_assign (x := .val _) rfl rfl) trivial ?_
  refine ch_v (R := []) rfl rfl (oc_assign (x := .val _) rfl rfl) trivial ?_
  refine ck_nil ?_
  refine aw_seq ?_
  refine aw_seq ?_
  refine aw_text rfl ?_
  refine ch_v (R := []) rfl rfl (oc_fieldAddr (off := 0) rfl rfl rfl (by kernel_rfl) rfl) trivial ?_
  refine ch_v (R := []) rfl rfl (oc_load rfl rfl (by kernel_rfl) cells_int) trivial ?_
  refine ch_v (R := []) rfl rfl (oc_binZ rfl rfl rfl rfl) trivial ?_
  refine ch_v (R := []) rfl rfl (oc_move (x := .val _) rfl rfl) trivial ?_
  refine ch_g (R := []) rfl rfl rfl gate_t (fun hC => oc_fieldAddr (off := 1) rfl rfl rfl (by kernel_rfl) rfl) (fun hC => ⟨(by first | rfl | exact hC | (simp only [Bool.and_eq_true] at hC; first | exact hC.1 | exact hC.1.1 | exact hC.2) | simp_all), trivial⟩) trivial ?_
  refine ch_g (R := []) rfl rfl rfl gate_t (fun hC => oc_load rfl rfl (by kernel_rfl) cells_int) (fun hC => ⟨(by first | rfl | exact hC | (simp only [Bool.and_eq_true] at hC; first | exact hC.1 | exact hC.1.1 | exact hC.2) | simp_all), trivial⟩) trivial ?_
  refine ch_g (R := []) rfl rfl rfl gate_t (fun hC => oc_binZ rfl rfl rfl rfl) (fun hC => ⟨(by first | rfl | exact hC | (simp only [Bool.and_eq_true] at hC; first | exact hC.1 | exact hC.1.1 | exact hC.2) | simp_all), (by first | rfl | exact hC | (simp only [Bool.and_eq_true] at hC; first | exact hC.1 | exact hC.1.1 | exact hC.2) | simp_all), trivial⟩) trivial ?_
  refine ch_g (R := []) rfl rfl rfl gate_t (fun hC => oc_move (x := .val _) rfl rfl) (fun hC => ⟨(by first | rfl | exact hC | (simp only [Bool.and_eq_true] at hC; first | exact hC.1 | exact hC.1.1 | exact hC.2) | simp_all), trivial⟩) trivial ?_
  refine ch_g (R := []) rfl rfl rfl gate_gf (fun hC => oc_fieldAddr (off := 1) rfl rfl rfl (by kernel_rfl) rfl) (fun hC => ⟨(by first | rfl | exact hC | (simp only [Bool.and_eq_true] at hC; first | exact hC.1 | exact hC.1.1 | exact hC.2) | simp_all), trivial⟩) trivial ?_
  refine ch_g (R := []) rfl rfl rfl gate_gf (fun hC => oc_load rfl rfl (by kernel_rfl) cells_int) (fun hC => ⟨(by first | rfl | exact hC | (simp only [Bool.and_eq_true] at hC; first | exact hC.1 | exact hC.1.1 | exact hC.2) | simp_all), trivial⟩) trivial ?_
  refine ch_g (R := []) rfl rfl rfl gate_gf (fun hC => oc_binZ rfl rfl rfl rfl) (fun hC => ⟨(by first | rfl | exact hC | (simp only [Bool.and_eq_true] at hC; first | exact hC.1 | exact hC.1.1 | exact hC.2) | simp_all), (by first | rfl | exact hC | (simp only [Bool.and_eq_true] at hC; first | exact hC.1 | exact hC.1.1 | exact hC.2) | simp_all), trivial⟩) trivial ?_
  refine ch_gp rfl rfl rfl rfl gate_t (fun hC => (by first | rfl | exact hC | (simp only [Bool.and_eq_true] at hC; first | exact hC.1 | exact hC.1.1 | exact hC.2) | simp_all)) rfl (fun hC E a hp hq => pk_or rfl (by first | exact fun h => tt2 hC h | exact fun h => h | simp_all) hq) ?_
  refine ch_v (R := []) rfl rfl (oc_and rfl rfl rfl rfl (by first | exact fun h => h | simp_all)) trivial ?_
  refine ck_nil ?_
  refine aw_cond rfl (fun hb => ?_) (fun hb => ?_)
  · have hk : e.kind = 6 ∧ (e.op = 1 ∨ e.op = 2) := by simpa using hb
    have hl2 := hsh.1 hk.1
    have m0 := getD_memE (l := e.args) (j := 0) (by omega)
    have m1 := getD_memE (l := e.args) (j := 1) (by omega)
    have z0 := sizeEs_mem m0
    have z1 := sizeEs_mem m1
    have z2 : sizeE (e.args.getD 0 dExpr) + sizeE (e.args.getD 1 dExpr) ≤ sizeEs e.args := sizeEs_two hl2
    have a0 := genE_len (e.args.getD 0 dExpr) (n + 2)
    have a1 := genE_len (e.args.getD 1 dExpr) (genE (e.args.getD 0 dExpr) (n + 2)).2
    refine aw_seq ?_
    refine aw_text rfl ?_
    refine ch_v (R := []) rfl rfl (oc_fieldAddr (off := 4) rfl rfl rfl (by kernel_rfl) rfl) trivial ?_
    refine ch_v (R := []) rfl rfl (oc_load rfl rfl (by kernel_rfl) cells_sl) trivial ?_
    refine ch_v (R := []) rfl rfl (OC.cast (oc_indexN (j := 0) rfl rfl rfl (by kernel_rfl) (by omega)) (show Av.ptr (exprRow e.args 0) = .ptr (.agg [vi (e.args.getD 0 dExpr).kind, vi (e.args.getD 0 dExpr).op, vi (e.args.getD 0 dExpr).num, vs (e.args.getD 0 dExpr).name, exprsAv (e.args.getD 0 dExpr).args]) from by rw [exprRow_at (by omega), exprAv_eq])) trivial ?_
    refine ch_v (R := []) rfl rfl (oc_load_row rfl rfl (by kernel_rfl) (by kernel_rfl) rfl) trivial ?_
    refine ch_v (R := []) rfl rfl (oc_move (x := .val _) rfl rfl) trivial ?_
    refine ch_v (R := []) rfl rfl (oc_binZ rfl rfl rfl (by first | exact binW_add (by omega) (by omega) | rfl)) trivial ?_
    refine ch_v (R := []) rfl rfl (oc_call rfl (by kernel_rfl) ((show PC _ _ [(.agg [vi (e.args.getD 0 dExpr).kind, vi (e.args.getD 0 dExpr).op, vi (e.args.getD 0 dExpr).num, vs (e.args.getD 0 dExpr).name, exprsAv (e.args.getD 0 dExpr).args]), vi (n + 2)] _ from exprAv_eq (e.args.getD 0 dExpr) ▸ ih (e.args.getD 0 dExpr) m0 (n + 2) (by omega) (by omega))) rfl (by simp only [PureL, Pure, and_self, pure_slI, pure_slS, pure_tab, expr_pure, exprs_pure, stmt_pure, stmts_pure, code_pure, insAv, implies_true]) (by simp only [PureL, Pure, and_self, pure_slI, pure_slS, pure_tab, expr_pure, exprs_pure, stmt_pure, stmts_pure, code_pure, insAv, implies_true])) trivial ?_
    refine ch_v (R := []) rfl rfl (oc_move (x := .tup _) rfl rfl) trivial ?_
    refine ch_v (R := []) rfl rfl (oc_extract rfl rfl rfl) trivial ?_
    refine ch_v (R := []) rfl rfl (oc_extract rfl rfl rfl) trivial ?_
    refine ch_v (R := []) rfl rfl (oc_assign (x := .sl _ _ _) rfl rfl) trivial ?_
    refine ch_v (R := []) rfl rfl (oc_assign (x := .val _) rfl rfl) trivial ?_
    refine ck_nil ?_
    refine aw_seq ?_
    refine aw_text rfl ?_
    refine ch_v (R := []) rfl rfl (oc_fieldAddr (off := 4) rfl rfl rfl (by kernel_rfl) rfl) trivial ?_
    refine ch_v (R := []) rfl rfl (oc_load rfl rfl (by kernel_rfl) cells_sl) trivial ?_
    refine ch_v (R := []) rfl rfl (OC.cast (oc_indexN (j := 1) rfl rfl rfl (by kernel_rfl) (by omega)) (show Av.ptr (exprRow e.args 1) = .ptr (.agg [vi (e.args.getD 1 dExpr).kind, vi (e.args.getD 1 dExpr).op, vi (e.args.getD 1 dExpr).num, vs (e.args.getD 1 dExpr).name, exprsAv (e.args.getD 1 dExpr).args]) from by rw [exprRow_at (by omega), exprAv_eq])) trivial ?_
    refine ch_v (R := []) rfl rfl (oc_load_row rfl rfl (by kernel_rfl) (by kernel_rfl) rfl) trivial ?_
    refine ch_v (R := []) rfl rfl (oc_move (x := .val _) rfl rfl) trivial ?_
    refine ch_v (R := []) rfl rfl (oc_call rfl (by kernel_rfl) ((show PC _ _ [(.agg [vi (e.args.getD 1 dExpr).kind, vi (e.args.getD 1 dExpr).op, vi (e.args.getD 1 dExpr).num, vs (e.args.getD 1 dExpr).name, exprsAv (e.args.getD 1 dExpr).args]), vi (genE (e.args.getD 0 dExpr) (n + 2)).2] _ from exprAv_eq (e.args.getD 1 dExpr) ▸ ih (e.args.getD 1 dExpr) m1 (genE (e.args.getD 0 dExpr) (n + 2)).2 (by omega) (by omega))) rfl (by simp only [PureL, Pure, and_self, pure_slI, pure_slS, pure_tab, expr_pure, exprs_pure, stmt_pure, stmts_pure, code_pure, insAv, implies_true]) (by simp only [PureL, Pure, and_self, pure_slI, pure_slS, pure_tab, expr_pure, exprs_pure, stmt_pure, stmts_pure, code_pure, insAv, implies_true])) trivial ?_
    refine ch_v (R := []) rfl rfl (oc_move (x := .tup _) rfl rfl) trivial ?_
    refine ch_v (R := []) rfl rfl (oc_extract rfl rfl rfl) trivial ?_
    refine ch_v (R := []) rfl rfl (oc_extract rfl rfl rfl) trivial ?_
    refine ch_v (R := []) rfl rfl (oc_assign (x := .sl _ _ _) rfl rfl) trivial ?_
    refine ch_v (R := []) rfl rfl (oc_assign (x := .val _) rfl rfl) trivial ?_
    refine ck_nil ?_
    refine aw_seq ?_
    refine aw_text rfl ?_
    refine ch_v (R := []) rfl rfl (oc_move (x := .sl _ _ _) rfl rfl) trivial ?_
    refine ch_v (R := []) rfl rfl (oc_move (x := .val _) rfl rfl) trivial ?_
    refine ch_v (R := []) rfl rfl (oc_call rfl (by kernel_rfl) (zero28_pc n) rfl (by simp only [PureL, Pure, and_self, pure_slI, pure_slS, pure_tab, expr_pure, exprs_pure, stmt_pure, stmts_pure, code_pure, insAv, implies_true]) (by simp only [PureL, Pure, and_self, pure_slI, pure_slS, pure_tab, expr_pure, exprs_pure, stmt_pure, stmts_pure, code_pure, insAv, implies_true])) trivial ?_
    refine ch_v (R := []) rfl rfl (OC.to (oc_buildSlice (ps := [.tmp 47]) (xs := [.agg _]) (e := 40) (k := 2) (by_ := 16) (zs := [.int .i64 0, .int .i64 0]) rfl (by kernel_rfl) (by kernel_rfl) rfl rfl rfl (by decide) (by decide)) (code_of [(25, n)])) trivial ?_
    refine ch_v (R := []) rfl rfl (oc_call rfl (by kernel_rfl) (join_pc (genE (e.args.getD 0 dExpr) (n + 2)).1 [(25, n)] (by omega) (by simp)) rfl (by simp only [PureL, Pure, and_self, pure_slI, pure_slS, pure_tab, expr_pure, exprs_pure, stmt_pure, stmts_pure, code_pure, insAv, implies_true]) (by simp only [PureL, Pure, and_self, pure_slI, pure_slS, pure_tab, expr_pure, exprs_pure, stmt_pure, stmts_pure, code_pure, insAv, implies_true])) trivial ?_
    refine ch_v (R := []) rfl rfl (oc_assign (x := .sl _ _ _) rfl rfl) trivial ?_
    refine ck_nil ?_
    refine aw_seq ?_
    refine aw_seq ?_
    refine aw_text rfl ?_
    refine ch_v (R := []) rfl rfl (oc_fieldAddr (off := 1) rfl rfl rfl (by kernel_rfl) rfl) trivial ?_
    refine ch_v (R := []) rfl rfl (oc_load rfl rfl (by kernel_rfl) cells_int) trivial ?_
    refine ch_v (R := []) rfl rfl (oc_binZ rfl rfl rfl rfl) trivial ?_
    refine ck_nil ?_
    refine aw_cond rfl (fun hb => ?_) (fun hb => ?_)
    · have ho : e.op = 1 := by simpa using hb
      have hfin := genE_log2 (m := n) hk hl2
      rw [if_pos ho] at hfin
      refine aw_seq ?_
      refine aw_text rfl ?_
      refine ch_v (R := []) rfl rfl (oc_move (x := .sl _ _ _) rfl rfl) trivial ?_
      refine ch_v (R := []) rfl rfl (oc_call rfl (by kernel_rfl) (code_pc 1 1) rfl (by simp only [PureL, Pure, and_self, pure_slI, pure_slS, pure_tab, expr_pure, exprs_pure, stmt_pure, stmts_pure, code_pure, insAv, implies_true]) (by simp only [PureL, Pure, and_self, pure_slI, pure_slS, pure_tab, expr_pure, exprs_pure, stmt_pure, stmts_pure, code_pure, insAv, implies_true])) trivial ?_
      refine ch_v (R := []) rfl rfl (oc_move (x := .val _) rfl rfl) trivial ?_
      refine ch_v (R := []) rfl rfl (oc_binZ rfl rfl rfl (by first | exact binW_add (by omega) (by omega) | rfl)) trivial ?_
      refine ch_v (R := []) rfl rfl (oc_call rfl (by kernel_rfl) (jump28_pc (n + 1)) rfl (by simp only [PureL, Pure, and_self, pure_slI, pure_slS, pure_tab, expr_pure, exprs_pure, stmt_pure, stmts_pure, code_pure, insAv, implies_true]) (by simp only [PureL, Pure, and_self, pure_slI, pure_slS, pure_tab, expr_pure, exprs_pure, stmt_pure, stmts_pure, code_pure, insAv, implies_true])) trivial ?_
      refine ch_v (R := []) rfl rfl (oc_move (x := .val _) rfl rfl) trivial ?_
      refine ch_v (R := []) rfl rfl (oc_call rfl (by kernel_rfl) (label28_pc n) rfl (by simp only [PureL, Pure, and_self, pure_slI, pure_slS, pure_tab, expr_pure, exprs_pure, stmt_pure, stmts_pure, code_pure, insAv, implies_true]) (by simp only [PureL, Pure, and_self, pure_slI, pure_slS, pure_tab, expr_pure, exprs_pure, stmt_pure, stmts_pure, code_pure, insAv, implies_true])) trivial ?_
      refine ch_v (R := []) rfl rfl (OC.to (oc_buildSlice (ps := [.tmp 54, .tmp 57, .tmp 59]) (xs := [.agg _, .agg _, .agg _]) (e := 40) (k := 2) (by_ := 16) (zs := [.int .i64 0, .int .i64 0]) rfl (by kernel_rfl) (by kernel_rfl) rfl rfl rfl (by decide) (by decide)) (code_of [(1, 1), (24, n + 1), (38, n)])) trivial ?_
      refine ch_v (R := []) rfl rfl (oc_call rfl (by kernel_rfl) (join_pc ((genE (e.args.getD 0 dExpr) (n + 2)).1 ++ [(25, n)]) [(1, 1), (24, n + 1), (38, n)] (by rw [List.length_append]; show _ + 1 ≤ _; omega) (by simp)) rfl (by simp only [PureL, Pure, and_self, pure_slI, pure_slS, pure_tab, expr_pure, exprs_pure, stmt_pure, stmts_pure, code_pure, insAv, implies_true]) (by simp only [PureL, Pure, and_self, pure_slI, pure_slS, pure_tab, expr_pure, exprs_pure, stmt_pure, stmts_pure, code_pure, insAv, implies_true])) trivial ?_
      refine ch_v (R := []) rfl rfl (oc_assign (x := .sl _ _ _) rfl rfl) trivial ?_
      refine ck_nil ?_
      refine aw_seq ?_
      refine aw_text rfl ?_
      refine ch_v (R := []) rfl rfl (oc_move (x := .sl _ _ _) rfl rfl) trivial ?_
      refine ch_v (R := []) rfl rfl (oc_move (x := .sl _ _ _) rfl rfl) trivial ?_
      refine ch_v (R := []) rfl rfl (oc_call rfl (by kernel_rfl) (join_pc ((genE (e.args.getD 0 dExpr) (n + 2)).1 ++ [(25, n)] ++ [(1, 1), (24, n + 1), (38, n)]) (genE (e.args.getD 1 dExpr) (genE (e.args.getD 0 dExpr) (n + 2)).2).1 (by rw [List.length_append, List.length_append]; show _ + 1 + 3 ≤ _; omega) (by omega)) rfl (by simp only [PureL, Pure, and_self, pure_slI, pure_slS, pure_tab, expr_pure, exprs_pure, stmt_pure, stmts_pure, code_pure, insAv, implies_true]) (by simp only [PureL, Pure, and_self, pure_slI, pure_slS, pure_tab, expr_pure, exprs_pure, stmt_pure, stmts_pure, code_pure, insAv, implies_true])) trivial ?_
      refine ch_v (R := []) rfl rfl (oc_call rfl (by kernel_rfl) (code_pc 11 0) rfl (by simp only [PureL, Pure, and_self, pure_slI, pure_slS, pure_tab, expr_pure, exprs_pure, stmt_pure, stmts_pure, code_pure, insAv, implies_true]) (by simp only [PureL, Pure, and_self, pure_slI, pure_slS, pure_tab, expr_pure, exprs_pure, stmt_pure, stmts_pure, code_pure, insAv, implies_true])) trivial ?_
      refine ch_v (R := []) rfl rfl (oc_move (x := .val _) rfl rfl) trivial ?_
      refine ch_v (R := []) rfl rfl (oc_binZ rfl rfl rfl (by first | exact binW_add (by omega) (by omega) | rfl)) trivial ?_
      refine ch_v (R := []) rfl rfl (oc_call rfl (by kernel_rfl) (label28_pc (n + 1)) rfl (by simp only [PureL, Pure, and_self, pure_slI, pure_slS, pure_tab, expr_pure, exprs_pure, stmt_pure, stmts_pure, code_pure, insAv, implies_true]) (by simp only [PureL, Pure, and_self, pure_slI, pure_slS, pure_tab, expr_pure, exprs_pure, stmt_pure, stmts_pure, code_pure, insAv, implies_true])) trivial ?_
      refine ch_v (R := []) rfl rfl (OC.to (oc_buildSlice (ps := [.tmp 65, .tmp 68]) (xs := [.agg _, .agg _]) (e := 40) (k := 2) (by_ := 16) (zs := [.int .i64 0, .int .i64 0]) rfl (by kernel_rfl) (by kernel_rfl) rfl rfl rfl (by decide) (by decide)) (code_of [(11, 0), (38, n + 1)])) trivial ?_
      refine ch_v (R := []) rfl rfl (oc_call rfl (by kernel_rfl) (join_pc ((genE (e.args.getD 0 dExpr) (n + 2)).1 ++ [(25, n)] ++ [(1, 1), (24, n + 1), (38, n)] ++ (genE (e.args.getD 1 dExpr) (genE (e.args.getD 0 dExpr) (n + 2)).2).1) [(11, 0), (38, n + 1)] (by rw [List.length_append, List.length_append, List.length_append]; show _ + 1 + 3 + _ ≤ _; omega) (by simp)) rfl (by simp only [PureL, Pure, and_self, pure_slI, pure_slS, pure_tab, expr_pure, exprs_pure, stmt_pure, stmts_pure, code_pure, insAv, implies_true]) (by simp only [PureL, Pure, and_self, pure_slI, pure_slS, pure_tab, expr_pure, exprs_pure, stmt_pure, stmts_pure, code_pure, insAv, implies_true])) trivial ?_
      refine ch_v (R := []) rfl rfl (oc_move (x := .val _) rfl rfl) trivial ?_
      refine ch_v (R := []) rfl rfl (oc_assign (x := .sl _ _ _) rfl rfl) trivial ?_
      refine ch_v (R := []) rfl rfl (oc_assign (x := .val _) rfl rfl) trivial ?_
      refine ck_nil ?_
      refine aw_ret ?_
      exact ⟨.inl rfl, by rw [pair_code hfin]; exact ResOk.two rfl (ResC.tmp rfl) (ResC.tmp rfl), trivial⟩
    · have ho : ¬ e.op = 1 := by simpa using hb
      have hfin := genE_log2 (m := n) hk hl2
      rw [if_neg ho] at hfin
      refine aw_skip ?_
      refine aw_seq ?_
      refine aw_text rfl ?_
      refine ch_v (R := []) rfl rfl (oc_move (x := .sl _ _ _) rfl rfl) trivial ?_
      refine ch_v (R := []) rfl rfl (oc_move (x := .sl _ _ _) rfl rfl) trivial ?_
      refine ch_v (R := []) rfl rfl (oc_call rfl (by kernel_rfl) (join_pc ((genE (e.args.getD 0 dExpr) (n + 2)).1 ++ [(25, n)]) (genE (e.args.getD 1 dExpr) (genE (e.args.getD 0 dExpr) (n + 2)).2).1 (by rw [List.length_append]; show _ + 1 ≤ _; omega) (by omega)) rfl (by simp only [PureL, Pure, and_self, pure_slI, pure_slS, pure_tab, expr_pure, exprs_pure, stmt_pure, stmts_pure, code_pure, insAv, implies_true]) (by simp only [PureL, Pure, and_self, pure_slI, pure_slS, pure_tab, expr_pure, exprs_pure, stmt_pure, stmts_pure, code_pure, insAv, implies_true])) trivial ?_
      refine ch_v (R := []) rfl rfl (oc_call rfl (by kernel_rfl) (code_pc 11 0) rfl (by simp only [PureL, Pure, and_self, pure_slI, pure_slS, pure_tab, expr_pure, exprs_pure, stmt_pure, stmts_pure, code_pure, insAv, implies_true]) (by simp only [PureL, Pure, and_self, pure_slI, pure_slS, pure_tab, expr_pure, exprs_pure, stmt_pure, stmts_pure, code_pure, insAv, implies_true])) trivial ?_
      refine ch_v (R := []) rfl rfl (oc_move (x := .val _) rfl rfl) trivial ?_
      refine ch_v (R := []) rfl rfl (oc_binZ rfl rfl rfl (by first | exact binW_add (by omega) (by omega) | rfl)) trivial ?_
      refine ch_v (R := []) rfl rfl (oc_call rfl (by kernel_rfl) (jump28_pc (n + 1)) rfl (by simp only [PureL, Pure, and_self, pure_slI, pure_slS, pure_tab, expr_pure, exprs_pure, stmt_pure, stmts_pure, code_pure, insAv, implies_true]) (by simp only [PureL, Pure, and_self, pure_slI, pure_slS, pure_tab, expr_pure, exprs_pure, stmt_pure, stmts_pure, code_pure, insAv, implies_true])) trivial ?_
      refine ch_v (R := []) rfl rfl (oc_move (x := .val _) rfl rfl) trivial ?_
      refine ch_v (R := []) rfl rfl (oc_call rfl (by kernel_rfl) (label28_pc n) rfl (by simp only [PureL, Pure, and_self, pure_slI, pure_slS, pure_tab, expr_pure, exprs_pure, stmt_pure, stmts_pure, code_pure, insAv, implies_true]) (by simp only [PureL, Pure, and_self, pure_slI, pure_slS, pure_tab, expr_pure, exprs_pure, stmt_pure, stmts_pure, code_pure, insAv, implies_true])) trivial ?_
      refine ch_v (R := []) rfl rfl (oc_call rfl (by kernel_rfl) (code_pc 1 0) rfl (by simp only [PureL, Pure, and_self, pure_slI, pure_slS, pure_tab, expr_pure, exprs_pure, stmt_pure, stmts_pure, code_pure, insAv, implies_true]) (by simp only [PureL, Pure, and_self, pure_slI, pure_slS, pure_tab, expr_pure, exprs_pure, stmt_pure, stmts_pure, code_pure, insAv, implies_true])) trivial ?_
      refine ch_v (R := []) rfl rfl (oc_move (x := .val _) rfl rfl) trivial ?_
      refine ch_v (R := []) rfl rfl (oc_binZ rfl rfl rfl (by first | exact binW_add (by omega) (by omega) | rfl)) trivial ?_
      refine ch_v (R := []) rfl rfl (oc_call rfl (by kernel_rfl) (label28_pc (n + 1)) rfl (by simp only [PureL, Pure, and_self, pure_slI, pure_slS, pure_tab, expr_pure, exprs_pure, stmt_pure, stmts_pure, code_pure, insAv, implies_true]) (by simp only [PureL, Pure, and_self, pure_slI, pure_slS, pure_tab, expr_pure, exprs_pure, stmt_pure, stmts_pure, code_pure, insAv, implies_true])) trivial ?_
      refine ch_v (R := []) rfl rfl (OC.to (oc_buildSlice (ps := [.tmp 75, .tmp 78, .tmp 80, .tmp 81, .tmp 84]) (xs := [.agg _, .agg _, .agg _, .agg _, .agg _]) (e := 40) (k := 2) (by_ := 16) (zs := [.int .i64 0, .int .i64 0]) rfl (by kernel_rfl) (by kernel_rfl) rfl rfl rfl (by decide) (by decide)) (code_of [(11, 0), (24, n + 1), (38, n), (1, 0), (38, n + 1)])) trivial ?_
      refine ch_v (R := []) rfl rfl (oc_call rfl (by kernel_rfl) (join_pc ((genE (e.args.getD 0 dExpr) (n + 2)).1 ++ [(25, n)] ++ (genE (e.args.getD 1 dExpr) (genE (e.args.getD 0 dExpr) (n + 2)).2).1) [(11, 0), (24, n + 1), (38, n), (1, 0), (38, n + 1)] (by rw [List.length_append, List.length_append]; show _ + 1 + _ ≤ _; omega) (by simp)) rfl (by simp only [PureL, Pure, and_self, pure_slI, pure_slS, pure_tab, expr_pure, exprs_pure, stmt_pure, stmts_pure, code_pure, insAv, implies_true]) (by simp only [PureL, Pure, and_self, pure_slI, pure_slS, pure_tab, expr_pure, exprs_pure, stmt_pure, stmts_pure, code_pure, insAv, implies_true])) trivial ?_
      refine ch_v (R := []) rfl rfl (oc_move (x := .val _) rfl rfl) trivial ?_
      refine ch_v (R := []) rfl rfl (oc_assign (x := .sl _ _ _) rfl rfl) trivial ?_
      refine ch_v (R := []) rfl rfl (oc_assign (x := .val _) rfl rfl) trivial ?_
      refine ck_nil ?_
      refine aw_ret ?_
      exact ⟨.inl rfl, by rw [pair_code hfin]; exact ResOk.two rfl (ResC.tmp rfl) (ResC.tmp rfl), trivial⟩
  · have hk : ¬ (e.kind = 6 ∧ (e.op = 1 ∨ e.op = 2)) := by
      rintro ⟨h1, h2⟩
      rw [h1] at hb
      rcases h2 with h2 | h2 <;> rw [h2] at hb <;> cases hb
    refine aw_skip ?_
    refine aw_seq ?_
    refine aw_text rfl ?_
    refine ch_v (R := []) rfl rfl (oc_fieldAddr (off := 4) rfl rfl rfl (by kernel_rfl) rfl) trivial ?_
    refine ch_v (R := []) rfl rfl (oc_load rfl rfl (by kernel_rfl) cells_sl) trivial ?_
    refine ch_v (R := []) rfl rfl (oc_move (x := .val _) rfl rfl) trivial ?_
    refine ch_v (R := []) rfl rfl (oc_call rfl (by kernel_rfl) (hes) rfl (by simp only [PureL, Pure, and_self, pure_slI, pure_slS, pure_tab, expr_pure, exprs_pure, stmt_pure, stmts_pure, code_pure, insAv, implies_true]) (by simp only [PureL, Pure, and_self, pure_slI, pure_slS, pure_tab, expr_pure, exprs_pure, stmt_pure, stmts_pure, code_pure, insAv, implies_true])) trivial ?_
    refine ch_v (R := []) rfl rfl (oc_move (x := .tup _) rfl rfl) trivial ?_
    refine ch_v (R := []) rfl rfl (oc_extract rfl rfl rfl) trivial ?_
    refine ch_v (R := []) rfl rfl (oc_extract rfl rfl rfl) trivial ?_
    refine ch_v (R := []) rfl rfl (oc_assign (x := .sl _ _ _) rfl rfl) trivial ?_
    refine ch_v (R := []) rfl rfl (oc_assign (x := .val _) rfl rfl) trivial ?_
    refine ck_nil ?_
    refine aw_seq ?_
    refine aw_text rfl ?_
    refine ch_v (R := []) rfl rfl (oc_move (x := .sl _ _ _) rfl rfl) trivial ?_
    refine ch_v (R := []) rfl rfl (oc_load_row rfl rfl (by kernel_rfl) (by kernel_rfl) rfl) trivial ?_
    refine ch_v (R := []) rfl rfl (oc_call rfl (by kernel_rfl) ((show PC _ _ [(.agg [vi e.kind, vi e.op, vi e.num, vs e.name, exprsAv e.args])] _ from exprAv_eq e ▸ own_pc e)) rfl (by simp only [PureL, Pure, and_self, pure_slI, pure_slS, pure_tab, expr_pure, exprs_pure, stmt_pure, stmts_pure, code_pure, insAv, implies_true]) (by simp only [PureL, Pure, and_self, pure_slI, pure_slS, pure_tab, expr_pure, exprs_pure, stmt_pure, stmts_pure, code_pure, insAv, implies_true])) trivial ?_
    refine ch_v (R := []) rfl rfl (OC.to (oc_buildSlice (ps := [.tmp 97]) (xs := [.agg _]) (e := 40) (k := 2) (by_ := 16) (zs := [.int .i64 0, .int .i64 0]) rfl (by kernel_rfl) (by kernel_rfl) rfl rfl rfl (by decide) (by decide)) (code_of [ownI e])) trivial ?_
    refine ch_v (R := []) rfl rfl (oc_call rfl (by kernel_rfl) (join_pc (genEs e.args n).1 [ownI e] (by omega) (by simp)) rfl (by simp only [PureL, Pure, and_self, pure_slI, pure_slS, pure_tab, expr_pure, exprs_pure, stmt_pure, stmts_pure, code_pure, insAv, implies_true]) (by simp only [PureL, Pure, and_self, pure_slI, pure_slS, pure_tab, expr_pure, exprs_pure, stmt_pure, stmts_pure, code_pure, insAv, implies_true])) trivial ?_
    refine ch_v (R := []) rfl rfl (oc_move (x := .val _) rfl rfl) trivial ?_
    refine ch_v (R := []) rfl rfl (oc_assign (x := .sl _ _ _) rfl rfl) trivial ?_
    refine ch_v (R := []) rfl rfl (oc_assign (x := .val _) rfl rfl) trivial ?_
    refine ck_nil ?_
    refine aw_ret ?_
    exact ⟨.inl rfl, by rw [pair_code (genE_flat2 hk)]; exact ResOk.two rfl (ResC.tmp rfl) (ResC.tmp rfl), trivial⟩
theorem expr_pc : ∀ (N : Nat) (e : ExprP), sizeE e ≤ N → shE e → sizeE e ≤ 10000000 → ∀ n : Int, 0 ≤ n → n + 2 * sizeE e ≤ 1000000000 → PC Try.prog 73 [exprAv e, vi n] (.tup [codeAv (genE e n).1, vi (genE e n).2])
  | 0, e, h, _, _, _, _, _ => by rw [sizeE_eq] at h; omega
  | N + 1, e, h, hsh, hs, n, h0, h1 => by
    have hz := sizeE_eq e
    have ih : ∀ x ∈ e.args, ∀ n : Int, 0 ≤ n → n + 2 * sizeE x ≤ 1000000000 → PC Try.prog 73 [exprAv x, vi n] (.tup [codeAv (genE x n).1, vi (genE x n).2]) := fun x hx n h0 h1 => by
      have := sizeEs_mem hx
      exact expr_pc N x (by omega) (shEs_mem hx (shE_in hsh).2) (by omega) n h0 h1
    exact expr_step e n ⟨h0, h1⟩ hs (shE_in hsh).1 ih (exprs_step e.args n ⟨h0, by omega⟩ (by omega) ih)
theorem exprs_pc (l : List ExprP) (hsh : shEs l) (hs : sizeEs l ≤ 10000000) (n : Int) (h0 : 0 ≤ n) (h1 : n + 2 * sizeEs l ≤ 1000000000) : PC Try.prog 79 [exprsAv l, vi n] (.tup [codeAv (genEs l n).1, vi (genEs l n).2]) :=
  exprs_step l n ⟨h0, h1⟩ hs fun x hx n h0 h1 => by
    have := sizeEs_mem hx
    exact expr_pc _ x (Nat.le_refl _) (shEs_mem hx hsh) (by omega) n h0 h1
end Go.Proofs.Ytfipllnodgbghaa
namespace Go.Proofs.Ytfipllnodgbghaa
open Go.RowKit
set_option linter.unusedVariables false
set_option linter.unusedSimpArgs false
mutual
theorem ren_non {Z : List Nat} {a b : Nat} (ha : a ∈ Z) (hb : b ∈ Z) : ∀ x : Av, NoN Z x → x.ren (swapN a b) = x
  | .any, _ => by unfold Av.ren; rfl
  | .val v, _ => by unfold Av.ren; rfl
  | .sl k n row, h => by unfold NoN at h; unfold Av.ren; congr 1; funext j; exact ren_non ha hb (row j) (h j)
  | .ptr x, h => by unfold NoN at h; unfold Av.ren; rw [ren_non ha hb x h]
  | .agg cs, h => by unfold NoN at h; unfold Av.ren; rw [renL_non ha hb cs h]
  | .tup cs, h => by unfold NoN at h; unfold Av.ren; rw [renL_non ha hb cs h]
  | .clo _ cs, h => by unfold NoN at h; unfold Av.ren; rw [renL_non ha hb cs h]
  | .own n off, h => by unfold NoN at h; unfold Av.ren; rw [swap_ne (a := a) (b := b) (fun e => h (by rw [e]; exact ha)) (fun e => h (by rw [e]; exact hb))]
  | .osl k n len, h => by unfold NoN at h; unfold Av.ren; rw [swap_ne (a := a) (b := b) (fun e => h (by rw [e]; exact ha)) (fun e => h (by rw [e]; exact hb))]
  | .oss n off len, h => by unfold NoN at h; unfold Av.ren; rw [swap_ne (a := a) (b := b) (fun e => h (by rw [e]; exact ha)) (fun e => h (by rw [e]; exact hb))]
  | .mp n, h => by unfold NoN at h; unfold Av.ren; rw [swap_ne (a := a) (b := b) (fun e => h (by rw [e]; exact ha)) (fun e => h (by rw [e]; exact hb))]
  | .fm P k e D, _ => by unfold Av.ren; rfl
  | .frz q T xs, _ => by unfold Av.ren; rfl
  | .gd c x, h => by unfold NoN at h; unfold Av.ren; rw [ren_non ha hb x h]
  | .nz x, h => by unfold NoN at h; unfold Av.ren; rw [ren_non ha hb x h]
theorem renL_non {Z : List Nat} {a b : Nat} (ha : a ∈ Z) (hb : b ∈ Z) : ∀ xs : List Av, NoNL Z xs → renL (swapN a b) xs = xs
  | [], _ => by unfold renL; rfl
  | x :: xs, h => by unfold NoNL at h; unfold renL; rw [ren_non ha hb x h.1, renL_non ha hb xs h.2]
end
mutual
theorem non_tail {a : Nat} {Z : List Nat} : ∀ x : Av, NoN (a :: Z) x → NoN Z x
  | .any, _ => by unfold NoN; trivial
  | .val v, _ => by unfold NoN; trivial
  | .sl k n row, h => by unfold NoN at h ⊢; exact fun j => non_tail (row j) (h j)
  | .ptr x, h => by unfold NoN at h ⊢; exact non_tail x h
  | .agg cs, h => by unfold NoN at h ⊢; exact nonL_tail cs h
  | .tup cs, h => by unfold NoN at h ⊢; exact nonL_tail cs h
  | .clo _ cs, h => by unfold NoN at h ⊢; exact nonL_tail cs h
  | .own n off, h => by unfold NoN at h ⊢; exact fun hn => h (List.mem_cons_of_mem _ hn)
  | .osl k n len, h => by unfold NoN at h ⊢; exact fun hn => h (List.mem_cons_of_mem _ hn)
  | .oss n off len, h => by unfold NoN at h ⊢; exact fun hn => h (List.mem_cons_of_mem _ hn)
  | .mp n, h => by unfold NoN at h ⊢; exact fun hn => h (List.mem_cons_of_mem _ hn)
  | .fm P k e D, _ => by unfold NoN; trivial
  | .frz q T xs, _ => by unfold NoN; trivial
  | .gd c x, h => by unfold NoN at h ⊢; exact non_tail x h
  | .nz x, h => by unfold NoN at h ⊢; exact non_tail x h
theorem nonL_tail {a : Nat} {Z : List Nat} : ∀ xs : List Av, NoNL (a :: Z) xs → NoNL Z xs
  | [], _ => by unfold NoNL; trivial
  | x :: xs, h => by unfold NoNL at h ⊢; exact ⟨non_tail x h.1, nonL_tail xs h.2⟩
end
/-- x' becomes x. -/
def turnA (a b : Nat) (Z : List Nat) (x' x : Av) : Prop := (x' = x ∧ NoN (a :: Z) x) ∨ ((∃ k len, x = .osl k a len ∧ x' = .osl k b len) ∨ ∃ off, x = .own a off ∧ x' = .own b off)
def turnL (a b : Nat) (Z : List Nat) : List Av → List Av → Prop
  | [], [] => True
  | x :: xs, y :: ys => turnA a b Z x y ∧ turnL a b Z xs ys
  | _, _ => False
theorem turnL_refl {a b : Nat} {Z : List Nat} : ∀ {xs : List Av}, (∀ z ∈ xs, NoN (a :: Z) z) → turnL a b Z xs xs
  | [], _ => trivial
  | x :: xs, h => ⟨.inl ⟨rfl, h x (by simp)⟩, turnL_refl fun z hz => h z (by simp [hz])⟩
theorem turnL_get {a b : Nat} {Z : List Nat} : ∀ {xs ys : List Av}, turnL a b Z xs ys → ∀ (i : Nat) (y : Av), ys[i]? = some y → ∃ x, xs[i]? = some x ∧ turnA a b Z x y
  | [], [], _, i, y, h => by simp at h
  | x :: xs, y :: ys, h, 0, z, hz => by simp at hz; subst hz; exact ⟨x, rfl, h.1⟩
  | x :: xs, y :: ys, h, i + 1, z, hz => by
    obtain ⟨u, h1, h2⟩ := turnL_get h.2 i z (by simpa using hz)
    exact ⟨u, by simpa using h1, h2⟩
  | [], _ :: _, h, _, _, _ => h.elim
  | _ :: _, [], h, _, _, _ => h.elim
theorem turnL_len {a b : Nat} {Z : List Nat} : ∀ {xs ys : List Av}, turnL a b Z xs ys → xs.length = ys.length
  | [], [], _ => rfl
  | x :: xs, y :: ys, h => by simp [turnL_len h.2]
  | [], _ :: _, h => h.elim
  | _ :: _, [], h => h.elim
def turnS (a b : Nat) (Z : List Nat) (σ : List (Nat × Av)) : List (Nat × Av) → Prop
  | [] => True
  | (t, x) :: r => turnA a b Z (lkS σ t) x ∧ turnS a b Z σ r
/-- One named block: it is the new one; or it is forgotten; or it stays. -/
def turn1 (a b : Nat) (Z : List Nat) (η : List (Nat × Hs)) (n : Nat) (y : Hs) : Prop :=
  (n = a ∧ ∃ T cs cs', y = .live T cs ∧ lkH η b = some (.live T cs') ∧ turnL a b Z cs' cs) ∨ (n ∈ Z ∧ n ≠ a ∧ y = .unborn) ∨ (n ≠ a ∧ n ≠ b ∧ n ∉ Z ∧ ((∃ T cs cs', y = .live T cs ∧ lkH η n = some (.live T cs') ∧ turnL a b Z cs' cs) ∨ (y = .dead ∧ lkH η n = some .dead) ∨ ∃ P k e D, y = .map P k e D ∧ lkH η n = some y))
def turnH (a b : Nat) (Z : List Nat) (η : List (Nat × Hs)) : List (Nat × Hs) → Prop
  | [] => True
  | (n, y) :: r => turn1 a b Z η n y ∧ turnH a b Z η r
theorem turnS_get {a b : Nat} {Z : List Nat} {σ : List (Nat × Av)} : ∀ {τ : List (Nat × Av)}, turnS a b Z σ τ → ∀ t, lkS τ t = .any ∨ turnA a b Z (lkS σ t) (lkS τ t)
  | [], _, t => .inl rfl
  | (u, x) :: r, h, t => by
    by_cases e : u = t
    · subst e; rw [lkS_eq]; exact .inr h.1
    · rw [lkS_ne _ _ e]; exact turnS_get h.2 t
theorem turnH_get {a b : Nat} {Z : List Nat} {η : List (Nat × Hs)} : ∀ {τ : List (Nat × Hs)}, turnH a b Z η τ → ∀ n y, lkH τ n = some y → turn1 a b Z η n y
  | [], _, n, y, h => by simp [lkH] at h
  | (u, x) :: r, h, n, y, hy => by
    by_cases e : u = n
    · subst e
      simp [lkH] at hy
      subst hy
      exact h.1
    · simp only [lkH, beqF e, cond_false] at hy
      exact turnH_get h.2 n y hy
theorem swap_l (a b : Nat) : swapN a b a = b := by simp [swapN]
theorem turnA_rep {E : Env} {a b : Nat} {Z : List Nat} (haZ : a ∉ Z) (hbZ : b ∈ Z) {x' x : Av} (h : turnA a b Z x' x) {v : Value} (hv : Rep E x' v) : Rep ((E.ren (swapN a b)).reset Z) x v := by
  rcases h with ⟨rfl, h⟩ | ⟨k, len, rfl, rfl⟩ | ⟨off, rfl, rfl⟩
  · refine Rep.reset _ _ (non_tail _ h) (Rep.ren _ _ ?_)
    rwa [ren_non (by simp) (List.mem_cons_of_mem _ hbZ) _ h]
  · refine Rep.reset _ _ (by unfold NoN; exact haZ) (Rep.ren _ _ ?_)
    unfold Av.ren
    rwa [swap_l]
  · refine Rep.reset _ _ (by unfold NoN; exact haZ) (Rep.ren _ _ ?_)
    unfold Av.ren
    rwa [swap_l]
/-- **The new block b takes the name a; the names Z are forgotten.** -/
theorem Le.turn {N : Nat} {D : List Nat} {Γ τ : Ctx} (a b : Nat) (Z : List Nat) (ha : a ∉ D) (hD : ∀ n ∈ D, n ∉ Z) (haZ : a ∉ Z) (hbZ : b ∈ Z) (hs : turnS a b Z Γ.s τ.s) (hh : turnH a b Z Γ.h τ.h) : Le N D Γ τ := fun E x hF => by
  have hb : b ∉ D := fun h => hD b h hbZ
  have hDs : ∀ n ∈ D, swapN a b n = n := fun n hn => swap_ne (fun e => ha (e ▸ hn)) (fun e => hb (e ▸ hn))
  have hl : ∀ n ∈ D, ((E.ren (swapN a b)).reset Z).loc n = E.loc n := fun n hn => by simp [Env.ren, Env.reset, hDs n hn, hD n hn]
  have hr : ∀ {n c : Nat}, ((E.ren (swapN a b)).reset Z).loc n = .at c → E.loc (swapN a b n) = .at c := fun {n c} h => (reset_loc h : (E.ren (swapN a b)).loc n = .at c)
  have keepL : ∀ n, n ≠ a → n ≠ b → n ∉ Z → ((E.ren (swapN a b)).reset Z).loc n = E.loc n := fun n h1 h2 h3 => by simp [Env.ren, Env.reset, swap_ne h1 h2, h3]
  have newL : ((E.ren (swapN a b)).reset Z).loc a = E.loc b := by simp [Env.ren, Env.reset, swap_l, haZ]
  have live : ∀ {n m T cs cs'}, ((E.ren (swapN a b)).reset Z).loc n = E.loc m → HAt E m (.live T cs') → turnL a b Z cs' cs → HAt ((E.ren (swapN a b)).reset Z) n (.live T cs) := fun {n m T cs cs'} he hm ht => by
    rcases hm with ⟨h2, h3⟩ | ⟨c, cur, h2, h3, h4⟩
    · refine .inl ⟨he.trans h2, ?_⟩
      have := turnL_len ht
      rw [h3] at this
      exact List.eq_nil_of_length_eq_zero this.symm
    · refine .inr ⟨c, cur, he.trans h2, h3, fun i z hz => ?_⟩
      obtain ⟨z', h5, h6⟩ := turnL_get ht i z hz
      obtain ⟨u, h7, h8, h9⟩ := h4 i z' h5
      exact ⟨u, h7, h8, turnA_rep haZ hbZ h6 h9⟩
  refine ⟨(E.ren (swapN a b)).reset Z, rfl, ⟨rfl, rfl, rfl, Nat.le_refl _, rfl, fun _ _ _ => rfl, fun n c hc => .inr ⟨_, hr hc⟩, fun n hn => by rw [hl n hn]; exact hF.born n hn, fun n hn h => by rwa [hl n hn] at h, fun n hn c hc => ⟨by rwa [hl n hn] at hc, fun cur t hc => ⟨cur, hc, rfl⟩⟩⟩,
    ⟨⟨hF.good.old, fun n m c hn hm => swap_inj a b n m (hF.good.inj _ _ c (hr hn) (hr hm)), fun n c hn => hF.good.lt _ c (hr hn), hF.good.shp.same fun c hc => ⟨⟨hc.1, hc.2.1, fun n hn => hc.2.2 _ (hr hn)⟩, rfl⟩⟩, hF.size, fun n hn => by rw [hl n hn]; exact hF.born n hn, fun t => ?_, fun n y hy => ?_⟩⟩
  · rcases turnS_get hs t with h1 | h1
    · rw [h1]; unfold Rep; trivial
    · exact turnA_rep haZ hbZ h1 (hF.holds.1 t)
  · rcases turnH_get hh n y hy with ⟨rfl, T, cs, cs', rfl, h2, h3⟩ | ⟨h1, _, rfl⟩ | ⟨h1, h2, h3, ⟨T, cs, cs', rfl, h4, h5⟩ | ⟨rfl, h4⟩ | ⟨P, k, e, M, rfl, h4⟩⟩
    · exact live newL (hF.holds.2 _ _ h2) h3
    · show ((E.ren (swapN a b)).reset Z).loc n = .unborn
      simp [Env.reset, h1]
    · exact live (keepL n h1 h2 h3) (hF.holds.2 _ _ h4) h5
    · exact (keepL n h1 h2 h3).trans (hF.holds.2 _ _ h4)
    · obtain ⟨c, m, h5, h6⟩ := hF.holds.2 _ _ h4
      exact ⟨c, m, (keepL n h1 h2 h3).trans h5, h6⟩
/-! ### The side proofs, by their forms -/
theorem tA_non {a b : Nat} {Z : List Nat} {x' x : Av} (e : x' = x) (h : NoN (a :: Z) x) : turnA a b Z x' x := .inl ⟨e, h⟩
theorem tA_pure {a b : Nat} {Z : List Nat} {x' x : Av} (e : x' = x) (h : Pure x) : turnA a b Z x' x := .inl ⟨e, NoN.of_pure _ h⟩
theorem tA_vi {a b : Nat} {Z : List Nat} {m n : Int} (e : m = n) : turnA a b Z (vi m) (vi n) := .inl ⟨by rw [e], by simp [NoN]⟩
theorem tA_osl {a b : Nat} {Z : List Nat} {k m n : Nat} (e : m = n) : turnA a b Z (.osl k b m) (.osl k a n) := .inr (.inl ⟨k, n, rfl, by rw [e]⟩)
theorem t1_new {a b : Nat} {Z : List Nat} {η : List (Nat × Hs)} {T : TypeId} {cs : List Av} (h : lkH η b = some (.live T cs)) (hn : ∀ z ∈ cs, NoN (a :: Z) z) : turn1 a b Z η a (.live T cs) := .inl ⟨rfl, T, cs, cs, rfl, h, turnL_refl hn⟩
theorem t1_unb {a b : Nat} {Z : List Nat} {η : List (Nat × Hs)} {n : Nat} (h : n ∈ Z) (hn : n ≠ a) : turn1 a b Z η n .unborn := .inr (.inl ⟨h, hn, rfl⟩)
theorem t1_stay {a b : Nat} {Z : List Nat} {η : List (Nat × Hs)} {n : Nat} {T : TypeId} {cs : List Av} (h1 : n ≠ a) (h2 : n ≠ b) (h3 : n ∉ Z) (h : lkH η n = some (.live T cs)) (hn : ∀ z ∈ cs, NoN (a :: Z) z) : turn1 a b Z η n (.live T cs) := .inr (.inr ⟨h1, h2, h3, .inl ⟨T, cs, cs, rfl, h, turnL_refl hn⟩⟩)
theorem t1_cell {a b : Nat} {Z : List Nat} {η : List (Nat × Hs)} {n : Nat} {T : TypeId} {cs cs' : List Av} (h1 : n ≠ a) (h2 : n ≠ b) (h3 : n ∉ Z) (h : lkH η n = some (.live T cs')) (hn : turnL a b Z cs' cs) : turn1 a b Z η n (.live T cs) := .inr (.inr ⟨h1, h2, h3, .inl ⟨T, cs, cs', rfl, h, hn⟩⟩)
theorem tA_own {a b : Nat} {Z : List Nat} {off : Nat} : turnA a b Z (.own b off) (.own a off) := .inr (.inr ⟨off, rfl, rfl⟩)
/-- Less is known of a named row. -/
theorem Le.cut {N : Nat} {D : List Nat} {s : List (Nat × Av)} {h : List (Nat × Hs)} (n : Nat) {T : TypeId} {cs : List Av} (cs' : List Av) (hn : lkH h n = some (.live T cs)) (hc : ∀ (i : Nat) (y : Av), cs'[i]? = some y → cs[i]? = some y) : Le N D ⟨s, h⟩ ⟨s, (n, .live T cs') :: h⟩ := fun E a hF => ⟨E, rfl, Kept.refl hF.born, ⟨hF.good, hF.size, hF.born, hF.holds.1, fun m y hy => by
  by_cases e : n = m
  · subst e
    simp [lkH] at hy
    subst hy
    rcases hF.holds.2 n _ hn with ⟨h1, h2⟩ | ⟨b, cur, h1, h2, h3⟩
    · refine .inl ⟨h1, ?_⟩
      cases cs' with
      | nil => rfl
      | cons z r =>
        have := hc 0 z rfl
        rw [h2] at this
        simp at this
    · exact .inr ⟨b, cur, h1, h2, fun i z hz => h3 i z (hc i z hz)⟩
  · simp only [lkH, beqF e, cond_false] at hy
    exact hF.holds.2 m y hy⟩⟩
/-- Ways that meet, the states by an index. -/
theorem aw_joinJ {P : Program} {N : Nat} {D : List Nat} {x y : Code} {Q : Exit → Ctx → Prop} {Γ : Ctx} {ro : Option Nat} {ι : Type} (F : ι → Ctx) (I : ι → Prop) (h1 : AWo ro P N D x (thenA (fun Γ' => ∃ i, I i ∧ Le N D Γ' (F i)) Q) Γ) (h2 : ∀ i, I i → AWo ro P N D y Q (F i)) : AWo ro P N D x (thenA (AWo ro P N D y Q) Q) Γ := aw_mono h1 fun e Γ' h => by
  cases e
  case normal =>
    obtain ⟨i, hi, hl⟩ := h
    exact aw_le hl (h2 i hi)
  all_goals exact h
/-- The front part of a named row. -/
theorem oc_slice_ownH {P : Program} {o : Oper} {ρ : Operand → Av} {p q : Operand} {T e t : TypeId} {k by_ n len : Nat} {zs : List Value} {kk : IntKind} {cs : List Av} (h : Nat) (ho : o.op = .slice T p none (some q) none) (hp : ρ p = .osl k n len) (hq : ρ q = .val (.int kk (h : Int))) (hT : eB P T = some e) (hi : infoB P e = some (k, by_, zs)) (hl : h ≤ len) : OC P o ρ [(n, .live t cs)] (.osl k n h) [] := oc_read fun E a hG hr hH => by
  have h1 := hr p (by simp [ho, Op.operands])
  have h2 := hr q (by simp [ho, Op.operands])
  rw [hp] at h1
  rw [hq] at h2
  unfold Rep at h1 h2
  have hform : ∃ A c, a.eval p = .slice A len c ∧ len ≤ c ∧ (E.loc n = .nil → A = none ∧ c = 0) ∧ ∀ b, E.loc n = .at b → A = some ⟨b, 0, none⟩ ∧ c ≤ maxLen ∧ ∃ cur t, E.w.heap[b]? = some (.cells cur t (0, 0)) ∧ cur.size = c * k := by
    rcases hH n (.live t cs) (by simp) with ⟨h3, _⟩ | ⟨b, cur, h3, _⟩
    · obtain ⟨h4, rfl⟩ := h1.1.2.2 h3
      exact ⟨none, 0, h4, Nat.le_refl _, fun _ => ⟨rfl, rfl⟩, fun b hb => by rw [h3] at hb; cases hb⟩
    · obtain ⟨c, cur, t, h4, h5, h6, h7, h8⟩ := h1.2 b h3
      exact ⟨_, c, h4, h5, (fun (hn : E.loc n = .nil) => by rw [h3] at hn; cases hn), fun b' hb => by rw [h3] at hb; injection hb with hb; subst hb; exact ⟨rfl, h6, cur, t, h7, h8⟩⟩
  obtain ⟨A, c, h3, h4, h5, h6⟩ := hform
  have hs : sliced A 0 h c k = .slice A h c := by
    unfold sliced
    cases A with
    | none => simp
    | some ad => by_cases e0 : c = 0 <;> simp [e0, Addr.add]
  refine ⟨_, part_exec ho hT hi h3 h4 (.inl ⟨rfl, rfl⟩) (.inr ⟨q, kk, rfl, h2⟩) (Nat.zero_le _) hl, ?_⟩
  rw [hs]
  unfold Rep
  refine ⟨⟨h1.1.1, ⟨_, _, rfl⟩, fun hn => ?_⟩, fun b hb => ?_⟩
  · obtain ⟨rfl, rfl⟩ := h5 hn
    have : h = 0 := by omega
    subst this
    exact ⟨rfl, rfl⟩
  · obtain ⟨rfl, h7, cur, t, h8, h9⟩ := h6 b hb
    exact ⟨c, cur, t, rfl, by omega, h7, h8, h9⟩
end Go.Proofs.Ytfipllnodgbghaa
