/- Chapter 31: the code of a say, walked. -/
import Derived.Test.YtfipllnodgbghaaLt
import Derived.Test.YtfipllnodgbghaaProg
import Derived.KernelRfl
namespace Go.Proofs.Ytfipllnodgbghaa
open Go.RowKit
set_option maxRecDepth 100000
set_option linter.unusedVariables false
set_option linter.unusedSimpArgs false
theorem inN_code {Z : Nat → Prop} (l : List InsP) : InN Z (codeAv l) := InN.of_pure _ (code_pure l)
theorem inNL_ins2 {Z : Nat → Prop} : ∀ l : List InsP, InNL Z (ins2 l)
  | [] => by unfold ins2; simp [InNL]
  | p :: l => by
    have h := inNL_ins2 (Z := Z) l
    unfold ins2 at h ⊢
    simp [InNL, InN, h]
set_option maxHeartbeats 800000 in
theorem join_fc (a b : List InsP) (ha : a.length ≤ 1000000000) (hb0 : b.length ≤ 1000000000) : FC Try.prog 19 [codeAv a, codeAv b] ([]) (.osl 2 5 (a ++ b).length) ([(5, .live 40 (ins2 (a ++ b)))]) := by
  refine FC.body 6 10 Try.func19 rfl (by kernel_rfl) ?_
  refine aw_seq ?_
  refine aw_text rfl ?_
  refine ch_v (R := []) rfl rfl (oc_assign (x := .val _) rfl rfl) trivial ?_
  refine ck_nil ?_
  refine aw_seq ?_
  refine aw_text rfl ?_
  refine ch_u rfl rfl (oc_buildSlice_ownK (ps := []) (xs := []) (e := 40) (k := 2) (by_ := 16) (zs := [.int .i64 0, .int .i64 0]) 0 rfl (by kernel_rfl) (by kernel_rfl) rfl rfl (by decide) (fun z hz => by first | cases hz | (simp only [List.mem_cons, List.not_mem_nil, or_false] at hz; subst hz; rfl)) rfl (by decide) (by decide)) ⟨rfl, trivial⟩ ?_
  refine ch_v (R := []) rfl rfl (oc_move (x := .sl _ _ _) rfl rfl) trivial ?_
  refine ch_u rfl rfl (oc_append (e := 40) (k := 2) (by_ := 16) (zs := [.int .i64 0, .int .i64 0]) (cs := []) (ds := ins2 a) 1 rfl rfl rfl (by kernel_rfl) (by kernel_rfl) rfl (by decide) (by decide) rfl (by rw [ins2_len]) (app_ins2 a) (by omega) (by omega)) ⟨rfl, rfl, trivial⟩ ?_
  refine ch_v (R := []) rfl rfl (oc_move (x := .sl _ _ _) rfl rfl) trivial ?_
  refine ch_u rfl rfl (oc_append (e := 40) (k := 2) (by_ := 16) (zs := [.int .i64 0, .int .i64 0]) (cs := ins2 a) (ds := ins2 b) 5 rfl rfl rfl (by kernel_rfl) (by kernel_rfl) rfl (by decide) (by decide) (by rw [ins2_len]; omega) (by rw [ins2_len]) (app_ins2 b) (by omega) (by omega)) ⟨rfl, rfl, trivial⟩ ?_
  refine ch_v (R := []) rfl rfl (oc_assign (x := .osl _ _ _) rfl rfl) trivial ?_
  refine ck_nil ?_
  refine aw_ret ?_
  exact ⟨.inl rfl, ResOk.tmp rfl (by show Av.osl 2 5 _ = _; rw [List.length_append]; congr 1; omega), ⟨by rw [ins2_app]; rfl, trivial⟩⟩
set_option maxHeartbeats 3200000 in
theorem say_step (l : List ExprP) (n : Int) (hn : 0 ≤ n ∧ n + 2 * sizeEs l ≤ 1000000000) (hs : sizeEs l ≤ 10000000) (hsh : shEs l) : PC Try.prog 78 [exprsAv l, vi n] (.tup [codeAv (genSay l n).1, vi (genSay l n).2]) := by
  have hlen := sizeEs_len l
  have h0 := genSay_len l n
  refine FC.body 6 60 Try.func78 rfl (by kernel_rfl) ?_
  refine aw_seq ?_
  refine aw_text rfl ?_
  refine ch_v (R := []) rfl rfl (oc_assign (x := .val _) rfl rfl) trivial ?_
  refine ch_v (R := []) rfl rfl (oc_assign (x := .val _) rfl rfl) trivial ?_
  refine ck_nil ?_
  refine aw_seq ?_
  refine aw_text rfl ?_
  refine ch_v (R := []) rfl rfl (oc_assign (x := .val _) rfl rfl) trivial ?_
  refine ck_nil ?_
  refine aw_seq ?_
  refine aw_seq ?_
  refine aw_text rfl ?_
  refine ch_v (R := []) rfl rfl (oc_assign (x := .val _) rfl rfl) trivial ?_
  refine ck_nil ?_
  refine aw_block ?_
  refine aw_le (Le.nameNil 6 0 2 40 rfl rfl) ?_
  refine aw_loop (ι := (Nat × List InsP × Int)) (fun q => ⟨[(0, exprsAv l), (1, vi q.2.2), (6, .osl 2 0 q.2.1.length), (7, vi (q.1 : Int))], [(0, .live 40 (ins2 q.2.1)), (1, .unborn), (2, .unborn), (5, .unborn)]⟩) (fun q => q.1 ≤ l.length ∧ genSay l n = (q.2.1 ++ (genSay (l.drop q.1) q.2.2).1, (genSay (l.drop q.1) q.2.2).2) ∧ n ≤ q.2.2 ∧ q.2.2 + 2 * sizeEs (l.drop q.1) ≤ n + 2 * sizeEs l) (fun q => l.length - q.1) (0, [], n) (⟨Nat.zero_le _, by rw [List.drop_zero]; rfl, Int.le_refl _, by rw [List.drop_zero]; exact Int.le_refl _⟩) (Le.sub ⟨.inr rfl, .inr rfl, .inr rfl, .inr rfl, trivial⟩ ⟨rfl, rfl, rfl, rfl, trivial⟩) ?_
  intro q hI
  obtain ⟨g1, g2, g3, g4⟩ := hI
  have hL : (genSay l n).1.length = q.2.1.length + (genSay (l.drop q.1) q.2.2).1.length := by rw [g2, List.length_append]
  refine aw_seq ?_
  refine aw_seq ?_
  refine aw_text rfl ?_
  refine ch_v (R := []) rfl rfl (oc_move (x := .val _) rfl rfl) trivial ?_
  refine ch_v (R := []) rfl rfl (oc_move (x := .sl _ _ _) rfl rfl) trivial ?_
  refine ch_v (R := []) rfl rfl (oc_len rfl rfl (by kernel_rfl)) trivial ?_
  refine ch_v (R := []) rfl rfl (oc_binZ rfl rfl rfl rfl) trivial ?_
  refine ck_nil ?_
  refine aw_cond rfl (fun hb => ?_) (fun hb => ?_)
  · have hlt : q.1 < l.length := by have h0 := of_decide_eq_true hb; omega
    have hdl := sizeEs_dropLe l q.1
    have hmem := getD_memE hlt
    have hz := sizeEs_drop hlt
    refine aw_skip ?_
    refine aw_seq ?_
    refine aw_block ?_
    refine aw_seq ?_
    refine aw_seq ?_
    refine aw_text rfl ?_
    refine ch_v (R := []) rfl rfl (oc_move (x := .sl _ _ _) rfl rfl) trivial ?_
    refine ch_v (R := []) rfl rfl (oc_move (x := .val _) rfl rfl) trivial ?_
    refine ch_v (R := []) rfl rfl (OC.cast (oc_indexN (j := q.1) rfl rfl rfl (by kernel_rfl) (by omega)) (show Av.ptr (exprRow l q.1) = .ptr (.agg [vi (l.getD q.1 dExpr).kind, vi (l.getD q.1 dExpr).op, vi (l.getD q.1 dExpr).num, vs (l.getD q.1 dExpr).name, exprsAv (l.getD q.1 dExpr).args]) from by rw [exprRow_at hlt, exprAv_eq])) trivial ?_
    refine ch_v (R := []) rfl rfl (oc_fieldAddr (off := 0) rfl rfl rfl (by kernel_rfl) rfl) trivial ?_
    refine ch_v (R := []) rfl rfl (oc_load rfl rfl (by kernel_rfl) cells_int) trivial ?_
    refine ch_v (R := []) rfl rfl (oc_binZ rfl rfl rfl rfl) trivial ?_
    refine ck_nil ?_
    refine aw_cond rfl (fun hb => ?_) (fun hb => ?_)
    · have hk : (l.getD q.1 dExpr).kind = 19 := by simpa using hb
      have hsz := sizeE_eq (l.getD q.1 dExpr)
      refine aw_seq ?_
      refine aw_text rfl ?_
      refine ch_v (R := []) rfl rfl (oc_move (x := .osl _ _ _) rfl rfl) trivial ?_
      refine ch_v (R := []) rfl rfl (oc_move (x := .sl _ _ _) rfl rfl) trivial ?_
      refine ch_v (R := []) rfl rfl (oc_move (x := .val _) rfl rfl) trivial ?_
      refine ch_v (R := []) rfl rfl (OC.cast (oc_indexN (j := q.1) rfl rfl rfl (by kernel_rfl) (by omega)) (show Av.ptr (exprRow l q.1) = .ptr (.agg [vi (l.getD q.1 dExpr).kind, vi (l.getD q.1 dExpr).op, vi (l.getD q.1 dExpr).num, vs (l.getD q.1 dExpr).name, exprsAv (l.getD q.1 dExpr).args]) from by rw [exprRow_at hlt, exprAv_eq])) trivial ?_
      refine ch_v (R := []) rfl rfl (oc_fieldAddr (off := 2) rfl rfl rfl (by kernel_rfl) rfl) trivial ?_
      refine ch_v (R := []) rfl rfl (oc_load rfl rfl (by kernel_rfl) cells_int) trivial ?_
      refine ch_v (R := []) rfl rfl (oc_call rfl (by kernel_rfl) (code_pc 21 (l.getD q.1 dExpr).num) rfl (by simp only [PureL, Pure, and_self, pure_slI, pure_slS, pure_tab, expr_pure, exprs_pure, stmt_pure, stmts_pure, code_pure, insAv, implies_true]) (by simp only [PureL, Pure, and_self, pure_slI, pure_slS, pure_tab, expr_pure, exprs_pure, stmt_pure, stmts_pure, code_pure, insAv, implies_true])) trivial ?_
      refine ch_v (R := []) rfl rfl (OC.to (oc_buildSlice (ps := [.tmp 30]) (xs := [.agg _]) (e := 40) (k := 2) (by_ := 16) (zs := [.int .i64 0, .int .i64 0]) rfl (by kernel_rfl) (by kernel_rfl) rfl rfl rfl (by decide) (by decide)) (code_of [(21, (l.getD q.1 dExpr).num)])) trivial ?_
      refine ch_u rfl rfl (oc_append (e := 40) (k := 2) (by_ := 16) (zs := [.int .i64 0, .int .i64 0]) (cs := ins2 q.2.1) (ds := ins2 [(21, (l.getD q.1 dExpr).num)]) 1 rfl rfl rfl (by kernel_rfl) (by kernel_rfl) rfl (by decide) (by decide) (by rw [ins2_len]) (by rw [ins2_len]) (app_ins2 _) (by simp only [List.length_cons, List.length_nil]; omega) (by simp only [List.length_cons, List.length_nil]; omega)) ⟨rfl, rfl, trivial⟩ ?_
      refine ch_v (R := []) rfl rfl (oc_assign (x := .osl _ _ _) rfl rfl) trivial ?_
      refine ck_nil ?_
      refine aw_exit ?_
      refine aw_text rfl ?_
      refine ch_v (R := []) rfl rfl (oc_move (x := .val _) rfl rfl) trivial ?_
      refine ch_v (R := []) rfl rfl (oc_binZ rfl rfl rfl (by first | exact binW_add (by omega) (by omega) | rfl)) trivial ?_
      refine ch_v (R := []) rfl rfl (oc_assign (x := .val _) rfl rfl) trivial ?_
      refine ck_nil ?_
      exact ⟨(q.1 + 1, q.2.1 ++ [(21, (l.getD q.1 dExpr).num)], q.2.2), ⟨by show q.1 + 1 ≤ _; omega, by rw [g2, genSay_drop hlt, if_pos hk, List.append_assoc]; rfl, g3, by show q.2.2 + 2 * sizeEs (l.drop (q.1 + 1)) ≤ _; omega⟩, by show _ - (q.1 + 1) < _; omega, Le.turn 0 1 [1, 2, 5] (by simp) (by simp) (by decide) (by decide) ⟨tA_pure rfl (exprs_pure l), tA_vi rfl, tA_osl (by simp), tA_vi (by show (q.1 : Int) + 1 = ((q.1 + 1 : Nat) : Int); omega), trivial⟩ ⟨t1_new (by rw [ins2_app]; rfl) (non_ins2 _), t1_unb (by decide) (by decide), t1_unb (by decide) (by decide), t1_unb (by decide) (by decide), trivial⟩⟩
    · have hk : ¬ (l.getD q.1 dExpr).kind = 19 := by simpa using hb
      obtain ⟨Y, hY⟩ : ∃ Y, Y = (if (l.getD q.1 dExpr).kind = 13 then (l.getD q.1 dExpr).args.getD 0 dExpr else (l.getD q.1 dExpr)) := ⟨_, rfl⟩
      obtain ⟨o, ho⟩ : ∃ o : Int, o = (if (l.getD q.1 dExpr).kind = 13 then 23 else 22) := ⟨_, rfl⟩
      have hxs := shEs_mem hmem hsh
      have hd : genSay (l.drop q.1) q.2.2 = ((genE Y q.2.2).1 ++ [(o, 0)] ++ (genSay (l.drop (q.1 + 1)) (genE Y q.2.2).2).1, (genSay (l.drop (q.1 + 1)) (genE Y q.2.2).2).2) := by
        rw [genSay_drop hlt, if_neg hk, hY, ho]
        by_cases h13 : (l.getD q.1 dExpr).kind = 13
        · rw [if_pos h13, if_pos h13, if_pos h13]
        · rw [if_neg h13, if_neg h13, if_neg h13]
      have hYs : shE Y ∧ sizeE Y ≤ sizeE (l.getD q.1 dExpr) := by
        by_cases h13 : (l.getD q.1 dExpr).kind = 13
        · rw [hY, if_pos h13]
          have h1 := (shE_in hxs).1.2 h13
          exact ⟨shEs_mem (getD_memE (by omega)) (shE_in hxs).2, sizeE_arg0 _⟩
        · rw [hY, if_neg h13]
          exact ⟨hxs, Nat.le_refl _⟩
      have hYe := expr_pc _ Y (Nat.le_refl _) hYs.1 (by omega) q.2.2 (by omega) (by omega)
      have hYl := genE_len Y q.2.2
      have h4 := congrArg (fun p => p.1.length) hd
      simp only [List.length_append] at h4
      refine aw_skip ?_
      refine aw_seq ?_
      refine aw_text rfl ?_
      refine ch_v (R := []) rfl rfl (oc_move (x := .sl _ _ _) rfl rfl) trivial ?_
      refine ch_v (R := []) rfl rfl (oc_move (x := .val _) rfl rfl) trivial ?_
      refine ch_v (R := []) rfl rfl (OC.cast (oc_indexN (j := q.1) rfl rfl rfl (by kernel_rfl) (by omega)) (show Av.ptr (exprRow l q.1) = .ptr (.agg [vi (l.getD q.1 dExpr).kind, vi (l.getD q.1 dExpr).op, vi (l.getD q.1 dExpr).num, vs (l.getD q.1 dExpr).name, exprsAv (l.getD q.1 dExpr).args]) from by rw [exprRow_at hlt, exprAv_eq])) trivial ?_
      refine ch_v (R := []) rfl rfl (oc_load_row rfl rfl (by kernel_rfl) (by kernel_rfl) rfl) trivial ?_
      refine ch_u rfl rfl (oc_alloc (zs := [.int .i64 0, .int .i64 0, .int .i64 0, .string ⟨#[]⟩, .slice none 0 0]) (cs := [.val _, .val _, .val _, .val _, .val _]) 2 rfl (by kernel_rfl) rfl rfl) ⟨rfl, trivial⟩ ?_
      refine ch_n rfl rfl (oc_store_row (x := .agg _) (cs' := [_, _, _, _, _]) rfl rfl rfl rfl (by kernel_rfl) (by first | decide | exact Nat.le_of_ble_eq_true rfl | simp) (by first | decide | exact Nat.le_of_ble_eq_true rfl | simp) rfl) ⟨rfl, trivial⟩ ?_
      refine ch_v (R := []) rfl rfl (oc_assign (x := .val _) rfl rfl) trivial ?_
      refine ck_nil ?_
      refine aw_seq ?_
      refine aw_seq ?_
      refine aw_text rfl ?_
      refine ch_v (R := [(_, .live _ _)]) rfl rfl (oc_fieldAddr_own (off := 0) (sz := 1) (r := false) rfl rfl (by first | decide | simp) (by kernel_rfl) (by decide)) ⟨rfl, trivial⟩ ?_
      refine ch_v (R := [(_, .live _ _)]) rfl rfl (oc_load_own rfl rfl (by kernel_rfl) rfl) ⟨rfl, trivial⟩ ?_
      refine ch_v (R := []) rfl rfl (oc_binZ rfl rfl rfl rfl) trivial ?_
      refine ck_nil ?_
      refine aw_joinQ (τ := ⟨[(0, exprsAv l), (1, vi q.2.2), (6, .osl 2 0 q.2.1.length), (7, vi (q.1 : Int)), (8, .own 2 0), (9, vi o)], [(0, .live 40 (ins2 q.2.1)), (1, .unborn), (2, .live 46 [vi Y.kind, vi Y.op, vi Y.num, vs Y.name, exprsAv Y.args]), (5, .unborn)]⟩) ?_ ?_
      · refine aw_cond rfl (fun hb => ?_) (fun hb => ?_)
        · have h13 : (l.getD q.1 dExpr).kind = 13 := by simpa using hb
          have h131 := (shE_in hxs).1.2 h13
          rw [if_pos h13] at hY ho
          subst hY
          subst ho
          refine aw_seq ?_
          refine aw_text rfl ?_
          refine ch_v (R := [(_, .live _ _)]) rfl rfl (oc_fieldAddr_own (off := 4) (sz := 1) (r := false) rfl rfl (by first | decide | simp) (by kernel_rfl) (by decide)) ⟨rfl, trivial⟩ ?_
          refine ch_v (R := [(_, .live _ _)]) rfl rfl (oc_load_own rfl rfl (by kernel_rfl) rfl) ⟨rfl, trivial⟩ ?_
          refine ch_v (R := []) rfl rfl (OC.cast (oc_indexN (j := 0) rfl rfl rfl (by kernel_rfl) (by omega)) (show Av.ptr (exprRow (l.getD q.1 dExpr).args 0) = .ptr (.agg [vi ((l.getD q.1 dExpr).args.getD 0 dExpr).kind, vi ((l.getD q.1 dExpr).args.getD 0 dExpr).op, vi ((l.getD q.1 dExpr).args.getD 0 dExpr).num, vs ((l.getD q.1 dExpr).args.getD 0 dExpr).name, exprsAv ((l.getD q.1 dExpr).args.getD 0 dExpr).args]) from by rw [exprRow_at (by omega), exprAv_eq])) trivial ?_
          refine ch_v (R := []) rfl rfl (oc_load_row rfl rfl (by kernel_rfl) (by kernel_rfl) rfl) trivial ?_
          refine ch_n rfl rfl (oc_store_row (x := .agg _) (cs' := [_, _, _, _, _]) rfl rfl rfl rfl (by kernel_rfl) (by first | decide | exact Nat.le_of_ble_eq_true rfl | simp) (by first | decide | exact Nat.le_of_ble_eq_true rfl | simp) rfl) ⟨rfl, trivial⟩ ?_
          refine ck_nil ?_
          refine aw_text rfl ?_
          refine ch_v (R := []) rfl rfl (oc_assign (x := .val _) rfl rfl) trivial ?_
          refine ck_nil ?_
          exact Le.sub ⟨.inr rfl, .inr rfl, .inr rfl, .inr rfl, .inr rfl, .inr rfl, trivial⟩ ⟨rfl, rfl, rfl, rfl, trivial⟩
        · have h13 : ¬ (l.getD q.1 dExpr).kind = 13 := by simpa using hb
          rw [if_neg h13] at hY ho
          subst hY
          subst ho
          refine aw_skip ?_
          exact Le.sub ⟨.inr rfl, .inr rfl, .inr rfl, .inr rfl, .inr rfl, .inr rfl, trivial⟩ ⟨rfl, rfl, rfl, rfl, trivial⟩
      · refine aw_seq ?_
        refine aw_text rfl ?_
        refine ch_v (R := [(_, .live _ _)]) rfl rfl (oc_load_own_row (k := 5) (ds := [_, _, _, _, _]) rfl rfl (by kernel_rfl) (by kernel_rfl) rfl rfl (by decide)) ⟨rfl, trivial⟩ ?_
        refine ch_v (R := []) rfl rfl (oc_move (x := .val _) rfl rfl) trivial ?_
        refine ch_v (R := []) rfl rfl (oc_call rfl (by kernel_rfl) ((show PC _ _ [(.agg [vi Y.kind, vi Y.op, vi Y.num, vs Y.name, exprsAv Y.args]), vi q.2.2] _ from exprAv_eq Y ▸ hYe)) rfl (by simp only [PureL, Pure, and_self, pure_slI, pure_slS, pure_tab, expr_pure, exprs_pure, stmt_pure, stmts_pure, code_pure, insAv, implies_true]) (by simp only [PureL, Pure, and_self, pure_slI, pure_slS, pure_tab, expr_pure, exprs_pure, stmt_pure, stmts_pure, code_pure, insAv, implies_true])) trivial ?_
        refine ch_v (R := []) rfl rfl (oc_move (x := .tup _) rfl rfl) trivial ?_
        refine ch_v (R := []) rfl rfl (oc_extract rfl rfl rfl) trivial ?_
        refine ch_v (R := []) rfl rfl (oc_extract rfl rfl rfl) trivial ?_
        refine ch_v (R := []) rfl rfl (oc_assign (x := .sl _ _ _) rfl rfl) trivial ?_
        refine ch_v (R := []) rfl rfl (oc_assign (x := .val _) rfl rfl) trivial ?_
        refine ck_nil ?_
        refine aw_seq ?_
        refine aw_le (Le.freezeI 6 0 q.2.1 rfl rfl) ?_
        refine aw_text rfl ?_
        refine ch_v (R := []) rfl rfl (oc_move (x := .sl _ _ _) rfl rfl) trivial ?_
        refine ch_v (R := []) rfl rfl (oc_move (x := .sl _ _ _) rfl rfl) trivial ?_
        refine ch_v (R := []) rfl rfl (oc_call rfl (by kernel_rfl) (join_pc q.2.1 (genE Y q.2.2).1 (by omega) (by omega)) rfl (by simp only [PureL, Pure, and_self, pure_slI, pure_slS, pure_tab, expr_pure, exprs_pure, stmt_pure, stmts_pure, code_pure, insAv, implies_true]) (by simp only [PureL, Pure, and_self, pure_slI, pure_slS, pure_tab, expr_pure, exprs_pure, stmt_pure, stmts_pure, code_pure, insAv, implies_true])) trivial ?_
        refine ch_v (R := []) rfl rfl (oc_move (x := .val _) rfl rfl) trivial ?_
        refine ch_v (R := []) rfl rfl (oc_call rfl (by kernel_rfl) (code_pc o 0) rfl (by simp only [PureL, Pure, and_self, pure_slI, pure_slS, pure_tab, expr_pure, exprs_pure, stmt_pure, stmts_pure, code_pure, insAv, implies_true]) (by simp only [PureL, Pure, and_self, pure_slI, pure_slS, pure_tab, expr_pure, exprs_pure, stmt_pure, stmts_pure, code_pure, insAv, implies_true])) trivial ?_
        refine ch_v (R := []) rfl rfl (OC.to (oc_buildSlice (ps := [.tmp 54]) (xs := [.agg _]) (e := 40) (k := 2) (by_ := 16) (zs := [.int .i64 0, .int .i64 0]) rfl (by kernel_rfl) (by kernel_rfl) rfl rfl rfl (by decide) (by decide)) (code_of [(o, 0)])) trivial ?_
        refine ch_u rfl rfl (oc_callFC [5] rfl (by kernel_rfl) ((join_fc (q.2.1 ++ (genE Y q.2.2).1) [(o, 0)] (by rw [List.length_append]; omega) (by simp)).m) rfl (by simp) (by simp [bornH]) (by simp) (by simp) (by simp [InNL, InN, inN_code, inNL_ins2]) (by simp [InHs, InH, InNL, InN, inN_code, inNL_ins2]) (by simp [InN, InNL, inN_code, inNL_ins2]) (by simp [InHs, InH, InNL, InN, inN_code, inNL_ins2])) ⟨rfl, trivial⟩ ?_
        refine ch_v (R := []) rfl rfl (oc_assign (x := .osl _ _ _) rfl rfl) trivial ?_
        refine ck_nil ?_
        refine aw_text rfl ?_
        refine ch_v (R := []) rfl rfl (oc_move (x := .val _) rfl rfl) trivial ?_
        refine ch_v (R := []) rfl rfl (oc_assign (x := .val _) rfl rfl) trivial ?_
        refine ck_nil ?_
        refine aw_text rfl ?_
        refine ch_v (R := []) rfl rfl (oc_move (x := .val _) rfl rfl) trivial ?_
        refine ch_v (R := []) rfl rfl (oc_binZ rfl rfl rfl (by first | exact binW_add (by omega) (by omega) | rfl)) trivial ?_
        refine ch_v (R := []) rfl rfl (oc_assign (x := .val _) rfl rfl) trivial ?_
        refine ck_nil ?_
        exact ⟨(q.1 + 1, q.2.1 ++ (genE Y q.2.2).1 ++ [(o, 0)], (genE Y q.2.2).2), ⟨by show q.1 + 1 ≤ _; omega, by rw [g2, hd, List.append_assoc, List.append_assoc, List.append_assoc], by show n ≤ (genE _ _).2; omega, by show (genE _ _).2 + 2 * sizeEs (l.drop (q.1 + 1)) ≤ _; omega⟩, by show _ - (q.1 + 1) < _; omega, Le.turn 0 5 [1, 2, 5] (by simp) (by simp) (by decide) (by decide) ⟨tA_pure rfl (exprs_pure l), tA_vi rfl, tA_osl (by simp), tA_vi (by show (q.1 : Int) + 1 = ((q.1 + 1 : Nat) : Int); omega), trivial⟩ ⟨t1_new (by rfl) (non_ins2 _), t1_unb (by decide) (by decide), t1_unb (by decide) (by decide), t1_unb (by decide) (by decide), trivial⟩⟩
  · have hge : q.1 = l.length := by have h0 := of_decide_eq_false hb; omega
    have hfin : genSay l n = (q.2.1, q.2.2) := by rw [g2, hge, List.drop_length]; show (q.2.1 ++ [], q.2.2) = _; rw [List.append_nil]
    refine aw_exit ?_
    refine aw_seq ?_
    refine aw_le (Le.freezeI 6 0 q.2.1 rfl rfl) ?_
    refine aw_text rfl ?_
    refine ch_v (R := []) rfl rfl (oc_move (x := .sl _ _ _) rfl rfl) trivial ?_
    refine ch_v (R := []) rfl rfl (oc_move (x := .val _) rfl rfl) trivial ?_
    refine ch_v (R := []) rfl rfl (oc_assign (x := .sl _ _ _) rfl rfl) trivial ?_
    refine ch_v (R := []) rfl rfl (oc_assign (x := .val _) rfl rfl) trivial ?_
    refine ck_nil ?_
    refine aw_ret ?_
    exact ⟨.inl rfl, by rw [pair_code hfin]; exact ResOk.two rfl (ResC.tmp rfl) (ResC.tmp rfl), trivial⟩
end Go.Proofs.Ytfipllnodgbghaa
