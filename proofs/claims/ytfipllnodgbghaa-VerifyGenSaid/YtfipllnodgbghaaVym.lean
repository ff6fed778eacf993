/- Chapter 31: how many statements, how deep, walked. Chapter 31: bound trees are what the generator takes; the arguments of the code are numbers of 64 bits. No program stands in this text. -/
import Derived.Test.YtfipllnodgbghaaVyf
import Derived.Test.YtfipllnodgbghaaProg
import Derived.KernelRfl
import Derived.Test.YtfipllnodgbghaaVya
namespace Go.Proofs.Ytfipllnodgbghaa
open Go.RowKit
set_option maxRecDepth 100000
set_option linter.unusedVariables false
set_option linter.unusedSimpArgs false
mutual
def wfS : StmtP → Prop
  | .mk _ _ _ l b c => (l.length ≤ 140737488355328 ∧ b.length ≤ 140737488355328 ∧ c.length ≤ 140737488355328) ∧ wfEs l ∧ wfSs b ∧ wfSs c
def wfSs : List StmtP → Prop
  | [] => True
  | e :: l => wfS e ∧ wfSs l
end
theorem wfS_in {s : StmtP} (h : wfS s) : (s.args.length ≤ 140737488355328 ∧ s.body.length ≤ 140737488355328 ∧ s.els.length ≤ 140737488355328) ∧ wfEs s.args ∧ wfSs s.body ∧ wfSs s.els := by cases s; exact h
theorem wfSs_mem : ∀ {l : List StmtP} {x : StmtP}, x ∈ l → wfSs l → wfS x
  | e :: l, x, hx, h => by
    rcases List.mem_cons.1 hx with rfl | hx
    · exact h.1
    · exact wfSs_mem hx h.2
theorem fewSs_drop {l : List StmtP} {k : Nat} (h : k < l.length) (m : Int) : fewSs (l.drop k) m = if fewEs (l.getD k dStmt).args (IntKind.i64.wrap (m - 1)) < 0 then fewEs (l.getD k dStmt).args (IntKind.i64.wrap (m - 1)) else fewSs (l.drop (k + 1)) (fewS (l.getD k dStmt) m) := by
  rw [List.drop_eq_getElem_cons h, List.getD, List.getElem?_eq_getElem h]
  rfl
theorem fewS_is (s : StmtP) (m : Int) : fewS s m = fewSs s.els (fewSs s.body (fewEs s.args (IntKind.i64.wrap (m - 1)))) := by cases s; rfl
theorem deepSs_drop {l : List StmtP} {k : Nat} (h : k < l.length) (m n : Int) : deepSs (l.drop k) m n = deepSs (l.drop (k + 1)) m (deepS (l.getD k dStmt) m n) := by
  rw [List.drop_eq_getElem_cons h, List.getD, List.getElem?_eq_getElem h]
  rfl
theorem deepArgs_drop {l : List ExprP} {k : Nat} (h : k < l.length) (m n : Int) : deepArgs (l.drop k) m n = deepArgs (l.drop (k + 1)) m (maxI n (deepE (l.getD k dExpr) m)) := by
  rw [List.drop_eq_getElem_cons h, List.getD, List.getElem?_eq_getElem h]
  rfl
theorem deepS_is (s : StmtP) (m n : Int) : deepS s m n = maxI (deepArgs s.args m n) (maxI (deepB s.body m) (deepB s.els m)) := by cases s; rfl
theorem deepB_is (l : List StmtP) (h : l ≠ []) (m : Int) : deepB l m = (if m > 1 then deepSs l (m - 1) 0 else 0) + 1 := by
  cases l with
  | nil => exact absurd rfl h
  | cons s l => rfl
theorem deepE_bd (e : ExprP) {m : Int} (h : 1 ≤ m) (h' : m ≤ 1000) : 0 ≤ deepE e m ∧ deepE e m ≤ 1000 := by
  have := deepE_eq e m.toNat (by omega)
  rw [show ((m.toNat : Nat) : Int) = m by omega] at this
  omega
theorem deepB_bd (l : List StmtP) {m : Int} (h : 1 ≤ m) (h' : m ≤ 1000) : 0 ≤ deepB l m ∧ deepB l m ≤ 1000 := by
  have := deepB_eq l m.toNat (by omega)
  rw [show ((m.toNat : Nat) : Int) = m by omega] at this
  omega
theorem maxI_bd {a b : Int} (h : 0 ≤ a ∧ a ≤ 1000) (h' : 0 ≤ b ∧ b ≤ 1000) : 0 ≤ maxI a b ∧ maxI a b ≤ 1000 := by unfold maxI; split <;> assumption
theorem non_stmt {Z : List Nat} (s : StmtP) : ∀ z ∈ [vi s.kind, vi s.num, vs s.name, exprsAv s.args, stmtsAv s.body, stmtsAv s.els], NoN Z z := fun z hz => by
    simp only [List.mem_cons, List.not_mem_nil, or_false] at hz
    rcases hz with rfl | rfl | rfl | rfl | rfl | rfl
    · simp [NoN]
    · simp [NoN]
    · simp [NoN]
    · exact NoN.of_pure _ (exprs_pure _)
    · exact NoN.of_pure _ (stmts_pure _)
    · exact NoN.of_pure _ (stmts_pure _)
set_option maxHeartbeats 3200000 in
theorem fewBlock_step (l : List StmtP) (m0 : Int) (hlen : l.length ≤ 140737488355328) (hw : wfSs l) (ih : ∀ x ∈ l, ∀ m : Int, PC Try.prog 4 [stmtsAv x.body, vi m] (vi (fewSs x.body m)) ∧ PC Try.prog 4 [stmtsAv x.els, vi m] (vi (fewSs x.els m))) : PC Try.prog 4 [stmtsAv l, vi m0] (vi (fewSs l m0)) := by
  refine FC.body 4 43 Try.func4 rfl (by kernel_rfl) ?_
  refine aw_seq ?_
  refine aw_text rfl ?_
  refine ch_v (R := []) rfl rfl (oc_assign (x := .val _) rfl rfl) trivial ?_
  refine ck_nil ?_
  refine aw_seq ?_
  refine aw_seq ?_
  refine aw_text rfl ?_
  refine ch_v (R := []) rfl rfl (oc_move (x := .sl _ _ _) rfl rfl) trivial ?_
  refine ch_v (R := []) rfl rfl (oc_len rfl rfl (by kernel_rfl)) trivial ?_
  refine ch_v (R := []) rfl rfl (oc_move (x := .val _) rfl rfl) trivial ?_
  refine ck_nil ?_
  refine aw_block ?_
  refine aw_loop (ι := (Nat × Int)) (fun q => ⟨[(1, vi q.2), (9, stmtsAv l), (10, vi (l.length : Int)), (11, vi (q.1 : Int))], [(1, .unborn), (2, .unborn)]⟩) (fun q => q.1 ≤ l.length ∧ fewSs l m0 = fewSs (l.drop q.1) q.2) (fun q => l.length - q.1) (0, m0) (⟨Nat.zero_le _, rfl⟩) (Le.sub ⟨.inr rfl, .inr rfl, .inr rfl, .inr rfl, trivial⟩ ⟨rfl, rfl, trivial⟩) ?_
  intro q hI
  obtain ⟨g1, g2⟩ := hI
  refine aw_seq ?_
  refine aw_text rfl ?_
  refine ch_v (R := []) rfl rfl (oc_binZ rfl rfl rfl rfl) trivial ?_
  refine ck_nil ?_
  refine aw_seq ?_
  refine aw_cond rfl (fun hb => ?_) (fun hb => ?_)
  · have hlt : q.1 < l.length := by have h0 := of_decide_eq_true hb; omega
    have hmem := getD_memS hlt
    have hws := wfS_in (wfSs_mem hmem hw)
    refine aw_skip ?_
    refine aw_seq ?_
    refine aw_block ?_
    refine aw_seq ?_
    refine aw_text rfl ?_
    refine ch_v (R := []) rfl rfl (OC.cast (oc_indexN (j := q.1) rfl rfl rfl (by kernel_rfl) (by omega)) (show Av.ptr (stmtRow l q.1) = .ptr (.agg [vi (l.getD q.1 dStmt).kind, vi (l.getD q.1 dStmt).num, vs (l.getD q.1 dStmt).name, exprsAv (l.getD q.1 dStmt).args, stmtsAv (l.getD q.1 dStmt).body, stmtsAv (l.getD q.1 dStmt).els]) from by rw [stmtRow_at hlt, stmtAv_eq])) trivial ?_
    refine ch_v (R := []) rfl rfl (oc_load_row rfl rfl (by kernel_rfl) (by kernel_rfl) rfl) trivial ?_
    refine ch_u rfl rfl (oc_alloc (zs := [.int .i64 0, .int .i64 0, .string ⟨#[]⟩, .slice none 0 0, .slice none 0 0, .slice none 0 0]) (cs := [.val _, .val _, .val _, .val _, .val _, .val _]) 1 rfl (by kernel_rfl) rfl rfl) ⟨rfl, trivial⟩ ?_
    refine ch_n rfl rfl (oc_store_row (x := .agg _) (cs' := [_, _, _, _, _, _]) rfl rfl rfl rfl (by kernel_rfl) (by first | decide | exact Nat.le_of_ble_eq_true rfl | simp) (by first | decide | exact Nat.le_of_ble_eq_true rfl | simp) rfl) ⟨rfl, trivial⟩ ?_
    refine ck_nil ?_
    refine aw_seq ?_
    refine aw_text rfl ?_
    refine ch_v (R := []) rfl rfl (oc_move (x := .val _) rfl rfl) trivial ?_
    refine ch_v (R := []) rfl rfl (oc_binZ rfl rfl rfl rfl) trivial ?_
    refine ch_v (R := []) rfl rfl (oc_assign (x := .val _) rfl rfl) trivial ?_
    refine ck_nil ?_
    refine aw_seq ?_
    refine aw_seq ?_
    refine aw_text rfl ?_
    refine ch_v (R := [(_, .live _ _)]) rfl rfl (oc_fieldAddr_own (off := 3) (sz := 1) (r := false) rfl rfl (by first | decide | simp) (by kernel_rfl) (by decide)) ⟨rfl, trivial⟩ ?_
    refine ch_v (R := [(_, .live _ _)]) rfl rfl (oc_load_own rfl rfl (by kernel_rfl) rfl) ⟨rfl, trivial⟩ ?_
    refine ch_v (R := []) rfl rfl (oc_len rfl rfl (by kernel_rfl)) trivial ?_
    refine ch_v (R := []) rfl rfl (oc_move (x := .val _) rfl rfl) trivial ?_
    refine ck_nil ?_
    refine aw_block ?_
    refine aw_loop (ι := (Nat × Int)) (fun r => ⟨[(1, vi r.2), (6, .own 1 0), (9, stmtsAv l), (10, vi (l.length : Int)), (11, vi (q.1 : Int)), (18, exprsAv (l.getD q.1 dStmt).args), (19, vi ((l.getD q.1 dStmt).args.length : Int)), (20, vi (r.1 : Int))], [(1, .live 44 [vi (l.getD q.1 dStmt).kind, vi (l.getD q.1 dStmt).num, vs (l.getD q.1 dStmt).name, exprsAv (l.getD q.1 dStmt).args, stmtsAv (l.getD q.1 dStmt).body, stmtsAv (l.getD q.1 dStmt).els]), (2, .unborn)]⟩) (fun r => r.1 ≤ (l.getD q.1 dStmt).args.length ∧ fewEs (l.getD q.1 dStmt).args (IntKind.i64.wrap (q.2 - 1)) = fewEs ((l.getD q.1 dStmt).args.drop r.1) r.2) (fun r => (l.getD q.1 dStmt).args.length - r.1) (0, (IntKind.i64.wrap (q.2 - 1))) (⟨Nat.zero_le _, rfl⟩) (Le.sub ⟨.inr rfl, .inr rfl, .inr rfl, .inr rfl, .inr rfl, .inr rfl, .inr rfl, .inr rfl, trivial⟩ ⟨rfl, rfl, trivial⟩) ?_
    intro r hI
    obtain ⟨r1, r2⟩ := hI
    refine aw_seq ?_
    refine aw_text rfl ?_
    refine ch_v (R := []) rfl rfl (oc_binZ rfl rfl rfl rfl) trivial ?_
    refine ck_nil ?_
    refine aw_seq ?_
    refine aw_cond rfl (fun hb => ?_) (fun hb => ?_)
    · have hlr : r.1 < (l.getD q.1 dStmt).args.length := by have h0 := of_decide_eq_true hb; omega
      have hme := getD_memE hlr
      refine aw_skip ?_
      refine aw_seq ?_
      refine aw_block ?_
      refine aw_seq ?_
      refine aw_text rfl ?_
      refine ch_v (R := []) rfl rfl (OC.cast (oc_indexN (j := r.1) rfl rfl rfl (by kernel_rfl) (by omega)) (show Av.ptr (exprRow (l.getD q.1 dStmt).args r.1) = .ptr (.agg [vi ((l.getD q.1 dStmt).args.getD r.1 dExpr).kind, vi ((l.getD q.1 dStmt).args.getD r.1 dExpr).op, vi ((l.getD q.1 dStmt).args.getD r.1 dExpr).num, vs ((l.getD q.1 dStmt).args.getD r.1 dExpr).name, exprsAv ((l.getD q.1 dStmt).args.getD r.1 dExpr).args]) from by rw [exprRow_at hlr, exprAv_eq])) trivial ?_
      refine ch_v (R := []) rfl rfl (oc_load_row rfl rfl (by kernel_rfl) (by kernel_rfl) rfl) trivial ?_
      refine ch_u rfl rfl (oc_alloc (zs := [.int .i64 0, .int .i64 0, .int .i64 0, .string ⟨#[]⟩, .slice none 0 0]) (cs := [.val _, .val _, .val _, .val _, .val _]) 2 rfl (by kernel_rfl) rfl rfl) ⟨rfl, trivial⟩ ?_
      refine ch_n rfl rfl (oc_store_row (x := .agg _) (cs' := [_, _, _, _, _]) rfl rfl rfl rfl (by kernel_rfl) (by first | decide | exact Nat.le_of_ble_eq_true rfl | simp) (by first | decide | exact Nat.le_of_ble_eq_true rfl | simp) rfl) ⟨rfl, trivial⟩ ?_
      refine ck_nil ?_
      refine aw_seq ?_
      refine aw_seq ?_
      refine aw_text rfl ?_
      refine ch_v (R := []) rfl rfl (oc_move (x := .val _) rfl rfl) trivial ?_
      refine ch_v (R := []) rfl rfl (oc_binZ rfl rfl rfl rfl) trivial ?_
      refine ck_nil ?_
      refine aw_cond rfl (fun hb => ?_) (fun hb => ?_)
      · have hng : r.2 < 0 := of_decide_eq_true hb
        refine aw_seq ?_
        refine aw_text rfl ?_
        refine ch_v (R := []) rfl rfl (oc_move (x := .val _) rfl rfl) trivial ?_
        refine ch_v (R := []) rfl rfl (oc_assign (x := .val _) rfl rfl) trivial ?_
        refine ck_nil ?_
        refine aw_ret ?_
        exact ⟨.inl rfl, ResOk.tmp rfl (vi_eq (by rw [g2, fewSs_drop hlt, r2, fewEs_neg _ hng, if_pos hng])), trivial⟩
      · have hng : ¬ r.2 < 0 := of_decide_eq_false hb
        refine aw_skip ?_
        refine aw_text rfl ?_
        refine ch_v (R := [(_, .live _ _)]) rfl rfl (oc_load_own_row (k := 5) (ds := [_, _, _, _, _]) rfl rfl (by kernel_rfl) (by kernel_rfl) rfl rfl (by decide)) ⟨rfl, trivial⟩ ?_
        refine ch_v (R := []) rfl rfl (oc_move (x := .val _) rfl rfl) trivial ?_
        refine ch_v (R := []) rfl rfl (oc_call rfl (by kernel_rfl) ((show PC _ _ [(.agg [vi ((l.getD q.1 dStmt).args.getD r.1 dExpr).kind, vi ((l.getD q.1 dStmt).args.getD r.1 dExpr).op, vi ((l.getD q.1 dStmt).args.getD r.1 dExpr).num, vs ((l.getD q.1 dStmt).args.getD r.1 dExpr).name, exprsAv ((l.getD q.1 dStmt).args.getD r.1 dExpr).args]), vi r.2] _ from exprAv_eq ((l.getD q.1 dStmt).args.getD r.1 dExpr) ▸ few_pc _ ((l.getD q.1 dStmt).args.getD r.1 dExpr) (Nat.le_refl _) (wfEs_mem hme hws.2.1) r.2)) rfl (by simp only [PureL, Pure, and_self, pure_slI, pure_slS, pure_tab, expr_pure, exprs_pure, stmt_pure, stmts_pure, code_pure, insAv, implies_true]) (by simp only [PureL, Pure, and_self, pure_slI, pure_slS, pure_tab, expr_pure, exprs_pure, stmt_pure, stmts_pure, code_pure, insAv, implies_true])) trivial ?_
        refine ch_v (R := []) rfl rfl (oc_assign (x := .val _) rfl rfl) trivial ?_
        refine ck_nil ?_
        refine aw_text rfl ?_
        refine ch_v (R := []) rfl rfl (oc_binZ rfl rfl rfl (by first | exact binW_add (by omega) (by omega) | rfl)) trivial ?_
        refine ch_v (R := []) rfl rfl (oc_move (x := .val _) rfl rfl) trivial ?_
        refine ck_nil ?_
        exact ⟨(r.1 + 1, fewE ((l.getD q.1 dStmt).args.getD r.1 dExpr) r.2), ⟨by show r.1 + 1 ≤ _; omega, by rw [r2, fewEs_drop hlr, if_neg hng]⟩, by show _ - (r.1 + 1) < _; omega, Le.reset [2] (by simp) ⟨.inr rfl, .inr rfl, .inr rfl, .inr rfl, .inr rfl, .inr rfl, .inr rfl, .inr (vi_eq (by show (r.1 : Int) + 1 = ((r.1 + 1 : Nat) : Int); omega)), trivial⟩ ⟨by simp [NoN], by simp [NoN], NoN.of_pure _ (stmts_pure l), by simp [NoN], by simp [NoN], NoN.of_pure _ (exprs_pure (l.getD q.1 dStmt).args), by simp [NoN], by simp [NoN], trivial⟩ ⟨by rw [if_neg (by decide)]; exact ⟨rfl, non_stmt _⟩, by rw [if_pos (by decide)], trivial⟩⟩
    · have hge : r.1 = (l.getD q.1 dStmt).args.length := by have h0 := of_decide_eq_false hb; omega
      have hr2 : fewEs (l.getD q.1 dStmt).args (IntKind.i64.wrap (q.2 - 1)) = r.2 := by rw [r2, hge, List.drop_length]; rfl
      refine aw_exit ?_
      refine aw_seq ?_
      refine aw_seq ?_
      refine aw_text rfl ?_
      refine ch_v (R := []) rfl rfl (oc_move (x := .val _) rfl rfl) trivial ?_
      refine ch_v (R := []) rfl rfl (oc_binZ rfl rfl rfl rfl) trivial ?_
      refine ck_nil ?_
      refine aw_cond rfl (fun hb => ?_) (fun hb => ?_)
      · have hnn : r.2 < 0 := of_decide_eq_true hb
        refine aw_seq ?_
        refine aw_text rfl ?_
        refine ch_v (R := []) rfl rfl (oc_move (x := .val _) rfl rfl) trivial ?_
        refine ch_v (R := []) rfl rfl (oc_assign (x := .val _) rfl rfl) trivial ?_
        refine ck_nil ?_
        refine aw_ret ?_
        exact ⟨.inl rfl, ResOk.tmp rfl (vi_eq (by rw [g2, fewSs_drop hlt, hr2, if_pos hnn])), trivial⟩
      · have hnn : ¬ fewEs (l.getD q.1 dStmt).args (IntKind.i64.wrap (q.2 - 1)) < 0 := by rw [hr2]; exact of_decide_eq_false hb
        refine aw_skip ?_
        refine aw_draw mixed ?_
        refine ch_v (R := [(_, .live _ _)]) rfl rfl (oc_fieldAddr_own (off := 5) (sz := 1) (r := false) rfl rfl (by first | decide | simp) (by kernel_rfl) (by decide)) ⟨rfl, trivial⟩ ?_
        refine ch_v (R := [(_, .live _ _)]) rfl rfl (oc_load_own rfl rfl (by kernel_rfl) rfl) ⟨rfl, trivial⟩ ?_
        refine ch_v (R := [(_, .live _ _)]) rfl rfl (oc_fieldAddr_own (off := 4) (sz := 1) (r := false) rfl rfl (by first | decide | simp) (by kernel_rfl) (by decide)) ⟨rfl, trivial⟩ ?_
        refine ch_v (R := [(_, .live _ _)]) rfl rfl (oc_load_own rfl rfl (by kernel_rfl) rfl) ⟨rfl, trivial⟩ ?_
        refine ch_v (R := []) rfl rfl (oc_move (x := .val _) rfl rfl) trivial ?_
        refine ch_v (R := []) rfl rfl (oc_call rfl (by kernel_rfl) ((ih (l.getD q.1 dStmt) hmem r.2).1) rfl (by simp only [PureL, Pure, and_self, pure_slI, pure_slS, pure_tab, expr_pure, exprs_pure, stmt_pure, stmts_pure, code_pure, insAv, implies_true]) (by simp only [PureL, Pure, and_self, pure_slI, pure_slS, pure_tab, expr_pure, exprs_pure, stmt_pure, stmts_pure, code_pure, insAv, implies_true])) trivial ?_
        refine ch_v (R := []) rfl rfl (oc_call rfl (by kernel_rfl) ((ih (l.getD q.1 dStmt) hmem (fewSs (l.getD q.1 dStmt).body r.2)).2) rfl (by simp only [PureL, Pure, and_self, pure_slI, pure_slS, pure_tab, expr_pure, exprs_pure, stmt_pure, stmts_pure, code_pure, insAv, implies_true]) (by simp only [PureL, Pure, and_self, pure_slI, pure_slS, pure_tab, expr_pure, exprs_pure, stmt_pure, stmts_pure, code_pure, insAv, implies_true])) trivial ?_
        refine ch_v (R := []) rfl rfl (oc_assign (x := .val _) rfl rfl) trivial ?_
        refine ck_nil ⟨by kernel_rfl, ?_⟩
        refine aw_text rfl ?_
        refine ch_v (R := []) rfl rfl (oc_binZ rfl rfl rfl (by first | exact binW_add (by omega) (by omega) | rfl)) trivial ?_
        refine ch_v (R := []) rfl rfl (oc_move (x := .val _) rfl rfl) trivial ?_
        refine ck_nil ?_
        exact ⟨(q.1 + 1, fewS (l.getD q.1 dStmt) q.2), ⟨by show q.1 + 1 ≤ _; omega, by rw [g2, fewSs_drop hlt, if_neg hnn]⟩, by show _ - (q.1 + 1) < _; omega, Le.reset [1, 2] (by simp) ⟨.inr (vi_eq (by rw [fewS_is, hr2])), .inr rfl, .inr rfl, .inr (vi_eq (by show (q.1 : Int) + 1 = ((q.1 + 1 : Nat) : Int); omega)), trivial⟩ ⟨by simp [NoN], NoN.of_pure _ (stmts_pure l), by simp [NoN], by simp [NoN], trivial⟩ ⟨by rw [if_pos (by decide)], by rw [if_pos (by decide)], trivial⟩⟩
  · have hge : q.1 = l.length := by have h0 := of_decide_eq_false hb; omega
    have hfin : fewSs l m0 = q.2 := by rw [g2, hge, List.drop_length]; rfl
    refine aw_exit ?_
    refine aw_seq ?_
    refine aw_text rfl ?_
    refine ch_v (R := []) rfl rfl (oc_move (x := .val _) rfl rfl) trivial ?_
    refine ch_v (R := []) rfl rfl (oc_assign (x := .val _) rfl rfl) trivial ?_
    refine ck_nil ?_
    refine aw_ret ?_
    exact ⟨.inl rfl, ResOk.tmp rfl (vi_eq hfin.symm), trivial⟩
theorem fewBlock_pc : ∀ (N : Nat) (l : List StmtP), sizeSs l ≤ N → l.length ≤ 140737488355328 → wfSs l → ∀ m : Int, PC Try.prog 4 [stmtsAv l, vi m] (vi (fewSs l m))
  | 0, l, h, hl, hw, m => fewBlock_step l m hl hw fun x hx => by
    have := sizeSs_mem hx
    have := sizeS_eq x
    omega
  | N + 1, l, h, hl, hw, m => fewBlock_step l m hl hw fun x hx m => by
    have h1 := sizeSs_mem hx
    have h2 := sizeS_eq x
    have h3 := wfS_in (wfSs_mem hx hw)
    exact ⟨fewBlock_pc N x.body (by omega) h3.1.2.1 h3.2.2.1 m, fewBlock_pc N x.els (by omega) h3.1.2.2 h3.2.2.2 m⟩
set_option maxHeartbeats 3200000 in
theorem deepBlock_step (l : List StmtP) (m : Int) (hm : m ≤ 1000) (hlen : l.length ≤ 140737488355328) (hw : wfSs l) (ih : ∀ x ∈ l, ∀ m : Int, m ≤ 1000 → PC Try.prog 28 [stmtsAv x.body, vi m] (vi (deepB x.body m)) ∧ PC Try.prog 28 [stmtsAv x.els, vi m] (vi (deepB x.els m))) : PC Try.prog 28 [stmtsAv l, vi m] (vi (deepB l m)) := by
  refine FC.body 4 51 Try.func28 rfl (by kernel_rfl) ?_
  refine aw_seq ?_
  refine aw_text rfl ?_
  refine ch_v (R := []) rfl rfl (oc_assign (x := .val _) rfl rfl) trivial ?_
  refine ck_nil ?_
  refine aw_seq ?_
  refine aw_seq ?_
  refine aw_text rfl ?_
  refine ch_v (R := []) rfl rfl (oc_move (x := .sl _ _ _) rfl rfl) trivial ?_
  refine ch_v (R := []) rfl rfl (oc_len rfl rfl (by kernel_rfl)) trivial ?_
  refine ch_v (R := []) rfl rfl (oc_binZ rfl rfl rfl rfl) trivial ?_
  refine ck_nil ?_
  refine aw_cond rfl (fun hb => ?_) (fun hb => ?_)
  · have hnil : l = [] := List.eq_nil_of_length_eq_zero (by simpa using hb)
    have hz : deepB l m = 0 := by rw [hnil]; rfl
    refine aw_seq ?_
    refine aw_text rfl ?_
    refine ch_v (R := []) rfl rfl (oc_assign (x := .val _) rfl rfl) trivial ?_
    refine ck_nil ?_
    refine aw_ret ?_
    exact ⟨.inl rfl, ResOk.tmp rfl (vi_eq hz.symm), trivial⟩
  · have hnil : l ≠ [] := by rintro rfl; simp at hb
    have his := deepB_is l hnil m
    refine aw_skip ?_
    refine aw_seq ?_
    refine aw_text rfl ?_
    refine ch_v (R := []) rfl rfl (oc_assign (x := .val _) rfl rfl) trivial ?_
    refine ck_nil ?_
    refine aw_seq ?_
    refine aw_seq ?_
    refine aw_text rfl ?_
    refine ch_v (R := []) rfl rfl (oc_move (x := .val _) rfl rfl) trivial ?_
    refine ch_v (R := []) rfl rfl (oc_binZ rfl rfl rfl rfl) trivial ?_
    refine ck_nil ?_
    refine aw_cond rfl (fun hb => ?_) (fun hb => ?_)
    · have h1 : m > 1 := of_decide_eq_true hb
      rw [if_pos h1] at his
      refine aw_seq ?_
      refine aw_text rfl ?_
      refine ch_v (R := []) rfl rfl (oc_move (x := .sl _ _ _) rfl rfl) trivial ?_
      refine ch_v (R := []) rfl rfl (oc_len rfl rfl (by kernel_rfl)) trivial ?_
      refine ch_v (R := []) rfl rfl (oc_move (x := .val _) rfl rfl) trivial ?_
      refine ck_nil ?_
      refine aw_block ?_
      refine aw_loop (ι := (Nat × Int)) (fun q => ⟨[(1, vi m), (5, vi q.2), (15, stmtsAv l), (16, vi (l.length : Int)), (17, vi (q.1 : Int))], [(1, .unborn), (2, .unborn)]⟩) (fun q => q.1 ≤ l.length ∧ deepSs l (m - 1) 0 = deepSs (l.drop q.1) (m - 1) q.2 ∧ 0 ≤ q.2 ∧ q.2 ≤ 1000) (fun q => l.length - q.1) (0, 0) (⟨Nat.zero_le _, rfl, Int.le_refl _, by decide⟩) (Le.sub ⟨.inr rfl, .inr rfl, .inr rfl, .inr rfl, .inr rfl, trivial⟩ ⟨rfl, rfl, trivial⟩) ?_
      intro q hI
      obtain ⟨g1, g2, g3, g4⟩ := hI
      refine aw_seq ?_
      refine aw_text rfl ?_
      refine ch_v (R := []) rfl rfl (oc_binZ rfl rfl rfl rfl) trivial ?_
      refine ck_nil ?_
      refine aw_seq ?_
      refine aw_cond rfl (fun hb => ?_) (fun hb => ?_)
      · have hlt : q.1 < l.length := by have h0 := of_decide_eq_true hb; omega
        have hmem := getD_memS hlt
        have hws := wfS_in (wfSs_mem hmem hw)
        refine aw_skip ?_
        refine aw_seq ?_
        refine aw_block ?_
        refine aw_seq ?_
        refine aw_text rfl ?_
        refine ch_v (R := []) rfl rfl (OC.cast (oc_indexN (j := q.1) rfl rfl rfl (by kernel_rfl) (by omega)) (show Av.ptr (stmtRow l q.1) = .ptr (.agg [vi (l.getD q.1 dStmt).kind, vi (l.getD q.1 dStmt).num, vs (l.getD q.1 dStmt).name, exprsAv (l.getD q.1 dStmt).args, stmtsAv (l.getD q.1 dStmt).body, stmtsAv (l.getD q.1 dStmt).els]) from by rw [stmtRow_at hlt, stmtAv_eq])) trivial ?_
        refine ch_v (R := []) rfl rfl (oc_load_row rfl rfl (by kernel_rfl) (by kernel_rfl) rfl) trivial ?_
        refine ch_u rfl rfl (oc_alloc (zs := [.int .i64 0, .int .i64 0, .string ⟨#[]⟩, .slice none 0 0, .slice none 0 0, .slice none 0 0]) (cs := [.val _, .val _, .val _, .val _, .val _, .val _]) 1 rfl (by kernel_rfl) rfl rfl) ⟨rfl, trivial⟩ ?_
        refine ch_n rfl rfl (oc_store_row (x := .agg _) (cs' := [_, _, _, _, _, _]) rfl rfl rfl rfl (by kernel_rfl) (by first | decide | exact Nat.le_of_ble_eq_true rfl | simp) (by first | decide | exact Nat.le_of_ble_eq_true rfl | simp) rfl) ⟨rfl, trivial⟩ ?_
        refine ck_nil ?_
        refine aw_seq ?_
        refine aw_seq ?_
        refine aw_text rfl ?_
        refine ch_v (R := [(_, .live _ _)]) rfl rfl (oc_fieldAddr_own (off := 3) (sz := 1) (r := false) rfl rfl (by first | decide | simp) (by kernel_rfl) (by decide)) ⟨rfl, trivial⟩ ?_
        refine ch_v (R := [(_, .live _ _)]) rfl rfl (oc_load_own rfl rfl (by kernel_rfl) rfl) ⟨rfl, trivial⟩ ?_
        refine ch_v (R := []) rfl rfl (oc_len rfl rfl (by kernel_rfl)) trivial ?_
        refine ch_v (R := []) rfl rfl (oc_move (x := .val _) rfl rfl) trivial ?_
        refine ck_nil ?_
        refine aw_block ?_
        refine aw_loop (ι := (Nat × Int)) (fun r => ⟨[(1, vi m), (5, vi r.2), (7, .own 1 0), (15, stmtsAv l), (16, vi (l.length : Int)), (17, vi (q.1 : Int)), (22, exprsAv (l.getD q.1 dStmt).args), (23, vi ((l.getD q.1 dStmt).args.length : Int)), (24, vi (r.1 : Int))], [(1, .live 44 [vi (l.getD q.1 dStmt).kind, vi (l.getD q.1 dStmt).num, vs (l.getD q.1 dStmt).name, exprsAv (l.getD q.1 dStmt).args, stmtsAv (l.getD q.1 dStmt).body, stmtsAv (l.getD q.1 dStmt).els]), (2, .unborn)]⟩) (fun r => r.1 ≤ (l.getD q.1 dStmt).args.length ∧ deepArgs (l.getD q.1 dStmt).args (m - 1) q.2 = deepArgs ((l.getD q.1 dStmt).args.drop r.1) (m - 1) r.2 ∧ 0 ≤ r.2 ∧ r.2 ≤ 1000) (fun r => (l.getD q.1 dStmt).args.length - r.1) (0, q.2) (⟨Nat.zero_le _, rfl, g3, g4⟩) (Le.sub ⟨.inr rfl, .inr rfl, .inr rfl, .inr rfl, .inr rfl, .inr rfl, .inr rfl, .inr rfl, .inr rfl, trivial⟩ ⟨rfl, rfl, trivial⟩) ?_
        intro r hI
        obtain ⟨r1, r2, r3, r4⟩ := hI
        refine aw_seq ?_
        refine aw_text rfl ?_
        refine ch_v (R := []) rfl rfl (oc_binZ rfl rfl rfl rfl) trivial ?_
        refine ck_nil ?_
        refine aw_seq ?_
        refine aw_cond rfl (fun hb => ?_) (fun hb => ?_)
        · have hlr : r.1 < (l.getD q.1 dStmt).args.length := by have h0 := of_decide_eq_true hb; omega
          have hme := getD_memE hlr
          have hbm := maxI_bd ⟨r3, r4⟩ (deepE_bd ((l.getD q.1 dStmt).args.getD r.1 dExpr) (m := m - 1) (by omega) (by omega))
          refine aw_skip ?_
          refine aw_seq ?_
          refine aw_block ?_
          refine aw_seq ?_
          refine aw_text rfl ?_
          refine ch_v (R := []) rfl rfl (OC.cast (oc_indexN (j := r.1) rfl rfl rfl (by kernel_rfl) (by omega)) (show Av.ptr (exprRow (l.getD q.1 dStmt).args r.1) = .ptr (.agg [vi ((l.getD q.1 dStmt).args.getD r.1 dExpr).kind, vi ((l.getD q.1 dStmt).args.getD r.1 dExpr).op, vi ((l.getD q.1 dStmt).args.getD r.1 dExpr).num, vs ((l.getD q.1 dStmt).args.getD r.1 dExpr).name, exprsAv ((l.getD q.1 dStmt).args.getD r.1 dExpr).args]) from by rw [exprRow_at hlr, exprAv_eq])) trivial ?_
          refine ch_v (R := []) rfl rfl (oc_load_row rfl rfl (by kernel_rfl) (by kernel_rfl) rfl) trivial ?_
          refine ch_u rfl rfl (oc_alloc (zs := [.int .i64 0, .int .i64 0, .int .i64 0, .string ⟨#[]⟩, .slice none 0 0]) (cs := [.val _, .val _, .val _, .val _, .val _]) 2 rfl (by kernel_rfl) rfl rfl) ⟨rfl, trivial⟩ ?_
          refine ch_n rfl rfl (oc_store_row (x := .agg _) (cs' := [_, _, _, _, _]) rfl rfl rfl rfl (by kernel_rfl) (by first | decide | exact Nat.le_of_ble_eq_true rfl | simp) (by first | decide | exact Nat.le_of_ble_eq_true rfl | simp) rfl) ⟨rfl, trivial⟩ ?_
          refine ck_nil ?_
          refine aw_text rfl ?_
          refine ch_v (R := []) rfl rfl (oc_move (x := .val _) rfl rfl) trivial ?_
          refine ch_v (R := [(_, .live _ _)]) rfl rfl (oc_load_own_row (k := 5) (ds := [_, _, _, _, _]) rfl rfl (by kernel_rfl) (by kernel_rfl) rfl rfl (by decide)) ⟨rfl, trivial⟩ ?_
          refine ch_v (R := []) rfl rfl (oc_move (x := .val _) rfl rfl) trivial ?_
          refine ch_v (R := []) rfl rfl (oc_binZ rfl rfl rfl (by first | exact binW_sub (by omega) (by omega) | rfl)) trivial ?_
          refine ch_v (R := []) rfl rfl (oc_call rfl (by kernel_rfl) ((show PC _ _ [(.agg [vi ((l.getD q.1 dStmt).args.getD r.1 dExpr).kind, vi ((l.getD q.1 dStmt).args.getD r.1 dExpr).op, vi ((l.getD q.1 dStmt).args.getD r.1 dExpr).num, vs ((l.getD q.1 dStmt).args.getD r.1 dExpr).name, exprsAv ((l.getD q.1 dStmt).args.getD r.1 dExpr).args]), vi (m - 1)] _ from exprAv_eq ((l.getD q.1 dStmt).args.getD r.1 dExpr) ▸ deep_pc _ ((l.getD q.1 dStmt).args.getD r.1 dExpr) (Nat.le_refl _) (wfEs_mem hme hws.2.1) (m - 1) (by omega))) rfl (by simp only [PureL, Pure, and_self, pure_slI, pure_slS, pure_tab, expr_pure, exprs_pure, stmt_pure, stmts_pure, code_pure, insAv, implies_true]) (by simp only [PureL, Pure, and_self, pure_slI, pure_slS, pure_tab, expr_pure, exprs_pure, stmt_pure, stmts_pure, code_pure, insAv, implies_true])) trivial ?_
          refine ch_v (R := []) rfl rfl (oc_call rfl (by kernel_rfl) (greater_pc _ _) rfl (by simp only [PureL, Pure, and_self, pure_slI, pure_slS, pure_tab, expr_pure, exprs_pure, stmt_pure, stmts_pure, code_pure, insAv, implies_true]) (by simp only [PureL, Pure, and_self, pure_slI, pure_slS, pure_tab, expr_pure, exprs_pure, stmt_pure, stmts_pure, code_pure, insAv, implies_true])) trivial ?_
          refine ch_v (R := []) rfl rfl (oc_assign (x := .val _) rfl rfl) trivial ?_
          refine ck_nil ?_
          refine aw_text rfl ?_
          refine ch_v (R := []) rfl rfl (oc_binZ rfl rfl rfl (by first | exact binW_add (by omega) (by omega) | rfl)) trivial ?_
          refine ch_v (R := []) rfl rfl (oc_move (x := .val _) rfl rfl) trivial ?_
          refine ck_nil ?_
          exact ⟨(r.1 + 1, maxI r.2 (deepE ((l.getD q.1 dStmt).args.getD r.1 dExpr) (m - 1))), ⟨by show r.1 + 1 ≤ _; omega, by rw [r2, deepArgs_drop hlr], hbm.1, hbm.2⟩, by show _ - (r.1 + 1) < _; omega, Le.reset [2] (by simp) ⟨.inr rfl, .inr rfl, .inr rfl, .inr rfl, .inr rfl, .inr rfl, .inr rfl, .inr rfl, .inr (vi_eq (by show (r.1 : Int) + 1 = ((r.1 + 1 : Nat) : Int); omega)), trivial⟩ ⟨by simp [NoN], by simp [NoN], by simp [NoN], NoN.of_pure _ (stmts_pure l), by simp [NoN], by simp [NoN], NoN.of_pure _ (exprs_pure (l.getD q.1 dStmt).args), by simp [NoN], by simp [NoN], trivial⟩ ⟨by rw [if_neg (by decide)]; exact ⟨rfl, non_stmt _⟩, by rw [if_pos (by decide)], trivial⟩⟩
        · have hge : r.1 = (l.getD q.1 dStmt).args.length := by have h0 := of_decide_eq_false hb; omega
          have hr2 : deepArgs (l.getD q.1 dStmt).args (m - 1) q.2 = r.2 := by rw [r2, hge, List.drop_length]; rfl
          have hbb := maxI_bd ⟨r3, r4⟩ (maxI_bd (deepB_bd (l.getD q.1 dStmt).body (m := m - 1) (by omega) (by omega)) (deepB_bd (l.getD q.1 dStmt).els (m := m - 1) (by omega) (by omega)))
          refine aw_exit ?_
          refine aw_draw mixed ?_
          refine ch_v (R := []) rfl rfl (oc_move (x := .val _) rfl rfl) trivial ?_
          refine ch_v (R := [(_, .live _ _)]) rfl rfl (oc_fieldAddr_own (off := 4) (sz := 1) (r := false) rfl rfl (by first | decide | simp) (by kernel_rfl) (by decide)) ⟨rfl, trivial⟩ ?_
          refine ch_v (R := [(_, .live _ _)]) rfl rfl (oc_load_own rfl rfl (by kernel_rfl) rfl) ⟨rfl, trivial⟩ ?_
          refine ch_v (R := []) rfl rfl (oc_move (x := .val _) rfl rfl) trivial ?_
          refine ch_v (R := []) rfl rfl (oc_binZ rfl rfl rfl (by first | exact binW_sub (by omega) (by omega) | rfl)) trivial ?_
          refine ch_v (R := []) rfl rfl (oc_call rfl (by kernel_rfl) ((ih (l.getD q.1 dStmt) hmem (m - 1) (by omega)).1) rfl (by simp only [PureL, Pure, and_self, pure_slI, pure_slS, pure_tab, expr_pure, exprs_pure, stmt_pure, stmts_pure, code_pure, insAv, implies_true]) (by simp only [PureL, Pure, and_self, pure_slI, pure_slS, pure_tab, expr_pure, exprs_pure, stmt_pure, stmts_pure, code_pure, insAv, implies_true])) trivial ?_
          refine ch_v (R := [(_, .live _ _)]) rfl rfl (oc_fieldAddr_own (off := 5) (sz := 1) (r := false) rfl rfl (by first | decide | simp) (by kernel_rfl) (by decide)) ⟨rfl, trivial⟩ ?_
          refine ch_v (R := [(_, .live _ _)]) rfl rfl (oc_load_own rfl rfl (by kernel_rfl) rfl) ⟨rfl, trivial⟩ ?_
          refine ch_v (R := []) rfl rfl (oc_move (x := .val _) rfl rfl) trivial ?_
          refine ch_v (R := []) rfl rfl (oc_binZ rfl rfl rfl (by first | exact binW_sub (by omega) (by omega) | rfl)) trivial ?_
          refine ch_v (R := []) rfl rfl (oc_call rfl (by kernel_rfl) ((ih (l.getD q.1 dStmt) hmem (m - 1) (by omega)).2) rfl (by simp only [PureL, Pure, and_self, pure_slI, pure_slS, pure_tab, expr_pure, exprs_pure, stmt_pure, stmts_pure, code_pure, insAv, implies_true]) (by simp only [PureL, Pure, and_self, pure_slI, pure_slS, pure_tab, expr_pure, exprs_pure, stmt_pure, stmts_pure, code_pure, insAv, implies_true])) trivial ?_
          refine ch_v (R := []) rfl rfl (oc_call rfl (by kernel_rfl) (greater_pc _ _) rfl (by simp only [PureL, Pure, and_self, pure_slI, pure_slS, pure_tab, expr_pure, exprs_pure, stmt_pure, stmts_pure, code_pure, insAv, implies_true]) (by simp only [PureL, Pure, and_self, pure_slI, pure_slS, pure_tab, expr_pure, exprs_pure, stmt_pure, stmts_pure, code_pure, insAv, implies_true])) trivial ?_
          refine ch_v (R := []) rfl rfl (oc_call rfl (by kernel_rfl) (greater_pc _ _) rfl (by simp only [PureL, Pure, and_self, pure_slI, pure_slS, pure_tab, expr_pure, exprs_pure, stmt_pure, stmts_pure, code_pure, insAv, implies_true]) (by simp only [PureL, Pure, and_self, pure_slI, pure_slS, pure_tab, expr_pure, exprs_pure, stmt_pure, stmts_pure, code_pure, insAv, implies_true])) trivial ?_
          refine ch_v (R := []) rfl rfl (oc_assign (x := .val _) rfl rfl) trivial ?_
          refine ck_nil ⟨by kernel_rfl, ?_⟩
          refine aw_text rfl ?_
          refine ch_v (R := []) rfl rfl (oc_binZ rfl rfl rfl (by first | exact binW_add (by omega) (by omega) | rfl)) trivial ?_
          refine ch_v (R := []) rfl rfl (oc_move (x := .val _) rfl rfl) trivial ?_
          refine ck_nil ?_
          exact ⟨(q.1 + 1, deepS (l.getD q.1 dStmt) (m - 1) q.2), ⟨by show q.1 + 1 ≤ _; omega, by rw [g2, deepSs_drop hlt], by show 0 ≤ deepS _ _ _; rw [deepS_is, hr2]; exact hbb.1, by show deepS _ _ _ ≤ _; rw [deepS_is, hr2]; exact hbb.2⟩, by show _ - (q.1 + 1) < _; omega, Le.reset [1, 2] (by simp) ⟨.inr rfl, .inr (vi_eq (by rw [deepS_is, hr2])), .inr rfl, .inr rfl, .inr (vi_eq (by show (q.1 : Int) + 1 = ((q.1 + 1 : Nat) : Int); omega)), trivial⟩ ⟨by simp [NoN], by simp [NoN], NoN.of_pure _ (stmts_pure l), by simp [NoN], by simp [NoN], trivial⟩ ⟨by rw [if_pos (by decide)], by rw [if_pos (by decide)], trivial⟩⟩
      · have hge : q.1 = l.length := by have h0 := of_decide_eq_false hb; omega
        have hfin : deepB l m = q.2 + 1 := by rw [his, g2, hge, List.drop_length]; rfl
        refine aw_exit ?_
        refine aw_seq ?_
        refine aw_text rfl ?_
        refine ch_v (R := []) rfl rfl (oc_move (x := .val _) rfl rfl) trivial ?_
        refine ch_v (R := []) rfl rfl (oc_binZ rfl rfl rfl (by first | exact binW_add (by omega) (by omega) | rfl)) trivial ?_
        refine ch_v (R := []) rfl rfl (oc_assign (x := .val _) rfl rfl) trivial ?_
        refine ck_nil ?_
        refine aw_ret ?_
        exact ⟨.inl rfl, ResOk.tmp rfl (vi_eq hfin.symm), trivial⟩
    · have h1 : ¬ m > 1 := of_decide_eq_false hb
      rw [if_neg h1] at his
      refine aw_skip ?_
      refine aw_seq ?_
      refine aw_text rfl ?_
      refine ch_v (R := []) rfl rfl (oc_move (x := .val _) rfl rfl) trivial ?_
      refine ch_v (R := []) rfl rfl (oc_binZ rfl rfl rfl (by first | exact binW_add (by omega) (by omega) | rfl)) trivial ?_
      refine ch_v (R := []) rfl rfl (oc_assign (x := .val _) rfl rfl) trivial ?_
      refine ck_nil ?_
      refine aw_ret ?_
      exact ⟨.inl rfl, ResOk.tmp rfl (vi_eq his.symm), trivial⟩
theorem deepBlock_pc : ∀ (N : Nat) (l : List StmtP), sizeSs l ≤ N → l.length ≤ 140737488355328 → wfSs l → ∀ m : Int, m ≤ 1000 → PC Try.prog 28 [stmtsAv l, vi m] (vi (deepB l m))
  | 0, l, h, hl, hw, m, hm => deepBlock_step l m hm hl hw fun x hx => by
    have := sizeSs_mem hx
    have := sizeS_eq x
    omega
  | N + 1, l, h, hl, hw, m, hm => deepBlock_step l m hm hl hw fun x hx m hm => by
    have h1 := sizeSs_mem hx
    have h2 := sizeS_eq x
    have h3 := wfS_in (wfSs_mem hx hw)
    exact ⟨deepBlock_pc N x.body (by omega) h3.1.2.1 h3.2.2.1 m hm, deepBlock_pc N x.els (by omega) h3.1.2.2 h3.2.2.2 m hm⟩
set_option maxHeartbeats 800000 in
theorem depthBlock_pc (l : List StmtP) (hl : l.length ≤ 140737488355328) (hw : wfSs l) : PC Try.prog 12 [stmtsAv l] (vi (deepB l 65)) := by
  refine FC.body 2 5 Try.func12 rfl (by kernel_rfl) ?_
  refine aw_seq ?_
  refine aw_text rfl ?_
  refine ch_v (R := []) rfl rfl (oc_assign (x := .val _) rfl rfl) trivial ?_
  refine ck_nil ?_
  refine aw_seq ?_
  refine aw_text rfl ?_
  refine ch_v (R := []) rfl rfl (oc_move (x := .sl _ _ _) rfl rfl) trivial ?_
  refine ch_v (R := []) rfl rfl (oc_call rfl (by kernel_rfl) (deepBlock_pc _ l (Nat.le_refl _) hl hw 65 (by decide)) rfl (by simp only [PureL, Pure, and_self, pure_slI, pure_slS, pure_tab, expr_pure, exprs_pure, stmt_pure, stmts_pure, code_pure, insAv, implies_true]) (by simp only [PureL, Pure, and_self, pure_slI, pure_slS, pure_tab, expr_pure, exprs_pure, stmt_pure, stmts_pure, code_pure, insAv, implies_true])) trivial ?_
  refine ch_v (R := []) rfl rfl (oc_assign (x := .val _) rfl rfl) trivial ?_
  refine ck_nil ?_
  refine aw_ret ?_
  exact ⟨.inl rfl, ResOk.tmp rfl rfl, trivial⟩
end Go.Proofs.Ytfipllnodgbghaa
namespace Go.Proofs.Ytfipllnodgbghaa
open Go.RowKit
set_option linter.unusedVariables false
set_option linter.unusedSimpArgs false
def i64P (n : Int) : Prop := -9223372036854775808 ≤ n ∧ n < 9223372036854775808
mutual
def nE : ExprP → Prop
  | .mk _ o n _ l => (i64P o ∧ i64P n) ∧ nEs l
def nEs : List ExprP → Prop
  | [] => True
  | e :: l => nE e ∧ nEs l
end
mutual
def nS : StmtP → Prop
  | .mk _ n _ l b c => i64P n ∧ nEs l ∧ nSs b ∧ nSs c
def nSs : List StmtP → Prop
  | [] => True
  | e :: l => nS e ∧ nSs l
end
theorem ite_arg {c : Prop} [Decidable c] {a b : InsP} (ha : i64P a.2) (hb : i64P b.2) : i64P (if c then a else b).2 := by split <;> assumption
theorem own_arg (e : ExprP) (h1 : i64P e.op) (h2 : i64P e.num) : i64P (ownI e).2 := by
  have h0 : i64P 0 := by unfold i64P; omega
  unfold ownI
  repeat' split
  all_goals first | exact h1 | exact h2 | exact h0
theorem deed_arg (s : StmtP) (h2 : i64P s.num) : i64P (deedI s).2 := by
  have h0 : i64P 0 := by unfold i64P; omega
  unfold deedI
  repeat' (first | exact h2 | exact h0 | refine ite_arg ?_ ?_)
theorem nEs_get {l : List ExprP} (h : nEs l) : nE (l.getD 0 dExpr) := by
  cases l with
  | nil => exact ⟨⟨by unfold i64P; omega, by unfold i64P; omega⟩, trivial⟩
  | cons e l => exact h.1
theorem nE_args {e : ExprP} (h : nE e) : nEs e.args := by cases e; exact h.2
def argsOk (C : List InsP) : Prop := ∀ x ∈ C, i64P x.2
theorem args_app {C D : List InsP} (h : argsOk C) (k : argsOk D) : argsOk (C ++ D) := fun x hx => (List.mem_append.1 hx).elim (h x) (k x)
theorem args_nil : argsOk [] := fun x hx => by cases hx
theorem args_cons {x : InsP} {C : List InsP} (h : i64P x.2) (k : argsOk C) : argsOk (x :: C) := fun y hy => by
  rcases List.mem_cons.1 hy with rfl | hy
  · exact h
  · exact k y hy
mutual
theorem argE : ∀ (e : ExprP) (m : Int), nE e → 0 ≤ m → m + 2 * sizeE e ≤ 1000000000 → argsOk (genE e m).1
  | .mk k o n s l, m, hn, h0, h1 => by
    unfold sizeE at h1
    by_cases h : k = 6 ∧ (o = 1 ∨ o = 2)
    · match l with
      | [] => unfold genE; rw [if_pos h]; exact args_nil
      | [x] => unfold genE; rw [if_pos h]; exact args_nil
      | x :: y :: r =>
        unfold sizeEs sizeEs at h1
        have g1 := genE_len x (m + 2)
        have a1 := argE x (m + 2) hn.2.1 (by omega) (by omega)
        have a2 := argE y (genE x (m + 2)).2 hn.2.2.1 (by omega) (by omega)
        have q : ∀ z : Int, 0 ≤ z → z ≤ 1000000001 → i64P z := fun z hz hz' => by unfold i64P; omega
        unfold genE
        rw [if_pos h]
        by_cases ho : o = 1
        · simp only [if_pos ho]
          exact args_app (args_app (args_app (args_app a1 (args_cons (q m h0 (by omega)) args_nil)) (args_cons (q 1 (by omega) (by omega)) (args_cons (q _ (by omega) (by omega)) (args_cons (q m h0 (by omega)) args_nil)))) a2) (args_cons (q 0 (by omega) (by omega)) (args_cons (q _ (by omega) (by omega)) args_nil))
        · simp only [if_neg ho]
          exact args_app (args_app (args_app a1 (args_cons (q m h0 (by omega)) args_nil)) a2) (args_cons (q 0 (by omega) (by omega)) (args_cons (q _ (by omega) (by omega)) (args_cons (q m h0 (by omega)) (args_cons (q 0 (by omega) (by omega)) (args_cons (q _ (by omega) (by omega)) args_nil)))))
    · rw [genE_flat h]
      exact args_app (argEs l m hn.2 h0 (by omega)) (args_cons (own_arg (.mk k o n s l) hn.1.1 hn.1.2) args_nil)
theorem argEs : ∀ (l : List ExprP) (m : Int), nEs l → 0 ≤ m → m + 2 * sizeEs l ≤ 1000000000 → argsOk (genEs l m).1
  | [], m, _, _, _ => by unfold genEs; exact args_nil
  | e :: l, m, hn, h0, h1 => by
    unfold sizeEs at h1
    have g1 := genE_len e m
    unfold genEs
    exact args_app (argE e m hn.1 h0 (by omega)) (argEs l _ hn.2 (by omega) (by omega))
end
theorem argSay : ∀ (l : List ExprP) (m : Int), nEs l → 0 ≤ m → m + 2 * sizeEs l ≤ 1000000000 → argsOk (genSay l m).1
  | [], m, _, _, _ => by unfold genSay; exact args_nil
  | x :: l, m, hn, h0, h1 => by
    have z : i64P 0 := by unfold i64P; omega
    unfold sizeEs at h1
    unfold genSay
    by_cases h : x.kind = 19
    · rw [if_pos h]
      exact args_cons (by obtain ⟨k, o, n, s, r⟩ := x; exact hn.1.1.2) (argSay l m hn.2 h0 (by omega))
    · rw [if_neg h]
      by_cases h' : x.kind = 13
      · rw [if_pos h']
        have hz := sizeE_arg0 x
        have g1 := genE_len (x.args.getD 0 dExpr) m
        exact args_app (args_app (argE _ m (nEs_get (nE_args hn.1)) h0 (by omega)) (args_cons z args_nil)) (argSay l _ hn.2 (by omega) (by omega))
      · rw [if_neg h']
        have g1 := genE_len x m
        exact args_app (args_app (argE _ m hn.1 h0 (by omega)) (args_cons z args_nil)) (argSay l _ hn.2 (by omega) (by omega))
mutual
theorem argSt : ∀ (s : StmtP) (m : Int), nS s → shS s → 0 ≤ m → m + 4 * sizeS s ≤ 1000000000 → argsOk (genS s m).1
  | .mk k n s l b c, m, hn, hsh, h0, h1 => by
    unfold sizeS at h1
    have hz := sizeEs_arg0 l
    have q : ∀ z : Int, 0 ≤ z → z ≤ 1000000001 → i64P z := fun z hz hz' => by unfold i64P; omega
    have z := q 0 (by omega) (by omega)
    by_cases h9 : k = 9
    · by_cases hc : c.length = 0
      · rw [genS_if h9 hc]
        have g1 := genE_len (l.getD 0 dExpr) (m + 1)
        exact args_app (args_app (args_app (args_app (args_cons z args_nil) (argE _ _ (nEs_get hn.2.1) (by omega) (by omega))) (args_cons (q m h0 (by omega)) args_nil)) (argB b _ hn.2.2.1 hsh.2.2.1 (by omega) (by omega))) (args_cons (q m h0 (by omega)) args_nil)
      · rw [genS_else h9 hc]
        have g1 := genE_len (l.getD 0 dExpr) (m + 2)
        have g2 := genB_len b (genE (l.getD 0 dExpr) (m + 2)).2
        have hcl := sizeSs_len c
        exact args_app (args_app (args_app (args_app (args_app (args_app (args_cons z args_nil) (argE _ _ (nEs_get hn.2.1) (by omega) (by omega))) (args_cons (q m h0 (by omega)) args_nil)) (argB b _ hn.2.2.1 hsh.2.2.1 (by omega) (by omega))) (args_cons (q _ (by omega) (by omega)) (args_cons (q m h0 (by omega)) args_nil))) (argB c _ hn.2.2.2 hsh.2.2.2 (by omega) (by omega))) (args_cons (q _ (by omega) (by omega)) args_nil)
    · have g1 := genE_len (l.getD 0 dExpr) (m + 2)
      by_cases h10 : k = 10
      · have hl := hsh.1.1 (.inr (.inl h10))
        have hl' := sizeEs_len l
        rw [genS_while h10]
        exact args_app (args_app (args_app (args_app (args_cons (q m h0 (by omega)) (args_cons z args_nil)) (argE _ _ (nEs_get hn.2.1) (by omega) (by omega))) (args_cons (q _ (by omega) (by omega)) args_nil)) (argB b _ hn.2.2.1 hsh.2.2.1 (by omega) (by omega))) (args_cons (q m h0 (by omega)) (args_cons (q _ (by omega) (by omega)) args_nil))
      · by_cases h11 : k = 11
        · have hnum := hsh.1.2 h11
          have hl := hsh.1.1 (.inr (.inr h11))
          have hl' := sizeEs_len l
          have p : ∀ d : Int, 0 ≤ d → d ≤ 1 → i64P (n + d) := fun d h h' => by unfold i64P; omega
          have p0 : i64P n := by have := p 0 (by omega) (by omega); rwa [Int.add_zero] at this
          have p1 := p 1 (by omega) (by omega)
          rw [genS_each h11]
          exact args_app (args_app (args_app (args_app (args_app (args_cons z args_nil) (argE _ _ (nEs_get hn.2.1) (by omega) (by omega))) (args_cons (q 2 (by omega) (by omega)) (args_cons p0 (args_cons (q m h0 (by omega)) (args_cons p0 (args_cons (q _ (by omega) (by omega)) (args_cons z args_nil))))))) (args_cons p0 (args_cons (q 3 (by omega) (by omega)) (args_cons p1 args_nil)))) (argB b _ hn.2.2.1 hsh.2.2.1 (by omega) (by omega))) (args_cons p1 (args_cons p0 (args_cons (q m h0 (by omega)) (args_cons (q _ (by omega) (by omega)) args_nil))))
        · by_cases h1' : k = 1
          · rw [genS_say h1']
            exact args_app (args_cons z args_nil) (argSay l m hn.2.1 h0 (by omega))
          · rw [genS_flat ⟨h1', h9, h10, h11⟩]
            exact args_app (args_app (args_cons z args_nil) (argEs l m hn.2.1 h0 (by omega))) (args_cons (deed_arg (.mk k n s l b c) hn.1) args_nil)
theorem argB : ∀ (l : List StmtP) (m : Int), nSs l → shSs l → 0 ≤ m → m + 4 * sizeSs l ≤ 1000000000 → argsOk (genB l m).1
  | [], m, _, _, _, _ => by unfold genB; exact args_nil
  | s :: l, m, hn, hsh, h0, h1 => by
    unfold sizeSs at h1
    have g1 := genS_len s m
    unfold genB
    exact args_app (argSt s m hn.1 hsh.1 h0 (by omega)) (argB l _ hn.2 hsh.2 (by omega) (by omega))
end
theorem argRoutine {l : List StmtP} (hn : nSs l) (hsh : shSs l) (hs : sizeSs l ≤ 1000000) : argsOk (routineP l) := args_app (argB l 0 hn hsh (by omega) (by omega)) (args_cons (by show i64P 0; unfold i64P; omega) (args_cons (by show i64P 0; unfold i64P; omega) args_nil))
theorem argsOk.get {C : List InsP} (h : argsOk C) : ∀ k, -9223372036854775808 ≤ (C.getD k dIns).2 ∧ (C.getD k dIns).2 < 9223372036854775808 := fun k => by
  rw [List.getD]
  cases hc : C[k]? with
  | none => exact ⟨by decide, by decide⟩
  | some x => exact h x (List.mem_of_getElem? hc)
/-! ### Bound trees -/
theorem bound_sh1 {t : TabP} {locals : Int} {e : ExprP} {said : Bool} (h : boundK t locals e said = true) : (e.kind = 6 → 2 ≤ e.args.length) ∧ (e.kind = 13 → 1 ≤ e.args.length) := by
  refine ⟨fun hk => ?_, fun hk => ?_⟩
  · obtain ⟨x, y, hxy⟩ := bound_two h hk
    rw [hxy]
    simp
  · unfold boundK at h
    rw [if_neg (by omega), if_neg (by omega), if_neg (by omega), if_neg (by omega), if_neg (by omega), if_pos hk] at h
    simp only [Bool.and_eq_true] at h
    have hb := h.2
    unfold bareE at hb
    simp only [Bool.and_eq_true, decide_eq_true_eq] at hb
    omega
mutual
theorem bound_shE {t : TabP} {locals : Int} : ∀ (e : ExprP) (said : Bool), boundE t locals e said = true → shE e
  | .mk k o n s l, said, h => by
    unfold boundE at h
    rw [Bool.and_eq_true] at h
    exact ⟨bound_sh1 h.1, bound_shEs l h.2⟩
theorem bound_shEs {t : TabP} {locals : Int} : ∀ (l : List ExprP), boundEs t locals l = true → shEs l
  | [], _ => trivial
  | e :: l, h => by
    unfold boundEs at h
    rw [Bool.and_eq_true] at h
    exact ⟨bound_shE e false h.1, bound_shEs l h.2⟩
end
theorem bound_shArgs {t : TabP} {locals : Int} {said : Bool} : ∀ (l : List ExprP), boundArgs t locals said l = true → shEs l
  | [], _ => trivial
  | e :: l, h => by
    unfold boundArgs at h
    rw [Bool.and_eq_true] at h
    exact ⟨bound_shE e said h.1, bound_shArgs l h.2⟩
theorem shape_one {s : StmtP} (h : (shapeS s).1 = true) (hk : s.kind = 9 ∨ s.kind = 10 ∨ s.kind = 11) : s.args.length = 1 := by
  have hs : ∀ a b c, hasS s a 1 b c = true → s.args.length = 1 := fun a b c h => by
    unfold hasS at h
    simp only [Bool.and_eq_true, decide_eq_true_eq] at h
    omega
  unfold shapeS at h
  rw [if_neg (by omega), if_neg (by omega), if_neg (by omega), if_neg (by omega), if_neg (by omega)] at h
  by_cases h9 : s.kind = 9
  · rw [if_pos h9] at h; exact hs _ _ _ h
  · rw [if_neg h9] at h
    by_cases h10 : s.kind = 10
    · rw [if_pos h10] at h; exact hs _ _ _ h
    · rw [if_neg h10, if_pos (by omega)] at h; exact hs _ _ _ h
theorem there_each {t : TabP} {s : StmtP} {locals : Int} (h : thereS t s locals = true) (hk : s.kind = 11) (hlo : locals ≤ 24) : -1000000000 ≤ s.num ∧ s.num ≤ 1000000000 := by
  unfold thereS at h
  by_cases hn : s.name ≠ ByteArray.empty
  · rw [if_pos hn] at h
    cases h
  · rw [if_neg hn, if_neg (by omega), if_pos hk] at h
    simp only [Bool.and_eq_true, decide_eq_true_eq] at h
    omega
mutual
theorem bound_shS {t : TabP} {locals : Int} (hlo : locals ≤ 24) : ∀ (s : StmtP), boundS t locals s = true → shS s
  | .mk k n s l b c, h => by
    unfold boundS at h
    simp only [Bool.and_eq_true] at h
    obtain ⟨⟨⟨h1, h2⟩, _⟩, h3, ⟨h4, _⟩, h5, _⟩ := h
    exact ⟨⟨fun hk => by have := shape_one h1 hk; exact Nat.le_of_eq (show 1 = l.length from this.symm), fun hk => there_each h2 hk hlo⟩, bound_shArgs l h3, bound_shAll hlo b h4, bound_shAll hlo c h5⟩
theorem bound_shAll {t : TabP} {locals : Int} (hlo : locals ≤ 24) : ∀ (l : List StmtP), boundAll t locals l = true → shSs l
  | [], _ => trivial
  | e :: l, h => by
    unfold boundAll at h
    rw [Bool.and_eq_true] at h
    exact ⟨bound_shS hlo e h.1, bound_shAll hlo l h.2⟩
end
theorem few_size {l : List StmtP} (h : ¬ fewSs l 300 < 0) (hd : deepB l 65 ≤ 32) : dB l ≤ 32 ∧ sizeSs l ≤ 300 := by
  have h1 := deepB_eq l 65 (by omega)
  have h2 : ((65 : Nat) : Int) = 65 := rfl
  rw [h2] at h1
  have h3 := fewSs_eq l 300 (by omega) (by omega) (by omega)
  omega
end Go.Proofs.Ytfipllnodgbghaa
