/- Chapter 31: the law, walked. -/
import Derived.Test.YtfipllnodgbghaaVyl
import Derived.Test.YtfipllnodgbghaaVyj
import Derived.Test.YtfipllnodgbghaaProg
import Derived.KernelRfl
namespace Go.Proofs.Ytfipllnodgbghaa
open Go.RowKit
set_option maxRecDepth 100000
set_option linter.unusedVariables false
set_option linter.unusedSimpArgs false
theorem tfit_of {t : TabP} (h : rfitsB t = true) : TFit t := ⟨fun j hj => by
  unfold rfitsB at h
  rw [Bool.and_eq_true, Bool.and_eq_true] at h
  have h1 := h.1.1
  unfold rheadB at h1
  simp only [Bool.and_eq_true, List.all_eq_true, List.mem_range] at h1
  have h2 := h1.2 j hj
  unfold rtBad at h2
  simp only [Bool.not_eq_true', Bool.or_eq_false_iff, Bool.not_eq_false'] at h2
  exact among_iff.1 h2.1⟩
set_option maxHeartbeats 3200000 in
theorem verifyGen_walk (t : TabP) (ht : t.wf ∧ TLen t) (l : List StmtP) (hl : (wfSs l ∧ nSs l) ∧ l.length ≤ 140737488355328) (locals : Int) (hlo : -9223372036854775808 ≤ locals ∧ locals < 9223372036854775808) : PC Try.prog 3 [tabAv t, stmtsAv l, vi locals] (vb true) := by
  refine FC.body 3 90 Try.func3 rfl (by kernel_rfl) ?_
  refine aw_seq ?_
  refine aw_text rfl ?_
  refine ch_v (R := []) rfl rfl (oc_box (x := .agg _) rfl rfl) trivial ?_
  refine ch_v (R := []) rfl rfl (oc_assign (x := .val _) rfl rfl) trivial ?_
  refine ck_nil ?_
  refine aw_seq ?_
  refine aw_seq ?_
  refine aw_text rfl ?_
  refine ch_v (R := []) rfl rfl (oc_move (x := .sl _ _ _) rfl rfl) trivial ?_
  refine ch_v (R := []) rfl rfl (oc_call rfl (by kernel_rfl) (fewBlock_pc _ l (Nat.le_refl _) hl.2 hl.1.1 300) rfl (by simp only [PureL, Pure, and_self, pure_slI, pure_slS, pure_tab, expr_pure, exprs_pure, stmt_pure, stmts_pure, code_pure, insAv, storyAv_pure, bs_pure, implies_true]) (by simp only [PureL, Pure, and_self, pure_slI, pure_slS, pure_tab, expr_pure, exprs_pure, stmt_pure, stmts_pure, code_pure, insAv, storyAv_pure, bs_pure, implies_true])) trivial ?_
  refine ch_v (R := []) rfl rfl (oc_binZ rfl rfl rfl rfl) trivial ?_
  refine ch_v (R := []) rfl rfl (oc_move (x := .val _) rfl rfl) trivial ?_
  refine ch_g (R := []) rfl rfl rfl gate_f (fun hC => oc_load_row rfl rfl (by kernel_rfl) (by kernel_rfl) rfl) (fun hC => ⟨(by first | rfl | exact hC | (simp only [Bool.and_eq_true] at hC; first | exact hC.1 | exact hC.1.1 | exact hC.2) | simp_all), trivial⟩) trivial ?_
  refine ch_g (R := []) rfl rfl rfl gate_f (fun hC => oc_move (x := .sl _ _ _) rfl rfl) (fun hC => ⟨(by first | rfl | exact hC | (simp only [Bool.and_eq_true] at hC; first | exact hC.1 | exact hC.1.1 | exact hC.2) | simp_all), trivial⟩) trivial ?_
  refine ch_g (R := []) rfl rfl rfl gate_f (fun hC => oc_move (x := .val _) rfl rfl) (fun hC => ⟨(by first | rfl | exact hC | (simp only [Bool.and_eq_true] at hC; first | exact hC.1 | exact hC.1.1 | exact hC.2) | simp_all), trivial⟩) trivial ?_
  refine ch_g (R := []) rfl rfl rfl gate_f (fun hC => oc_call rfl (by kernel_rfl) (boundAll_pc t ht.2 l locals hlo hl.2 hl.1.1) rfl (by simp only [PureL, Pure, and_self, pure_slI, pure_slS, pure_tab, expr_pure, exprs_pure, stmt_pure, stmts_pure, code_pure, insAv, storyAv_pure, bs_pure, implies_true]) (by simp only [PureL, Pure, and_self, pure_slI, pure_slS, pure_tab, expr_pure, exprs_pure, stmt_pure, stmts_pure, code_pure, insAv, storyAv_pure, bs_pure, implies_true])) (fun hC => ⟨(by first | rfl | exact hC | (simp only [Bool.and_eq_true] at hC; first | exact hC.1 | exact hC.1.1 | exact hC.2) | simp_all), (by first | rfl | exact hC | (simp only [Bool.and_eq_true] at hC; first | exact hC.1 | exact hC.1.1 | exact hC.2) | simp_all), (by first | rfl | exact hC | (simp only [Bool.and_eq_true] at hC; first | exact hC.1 | exact hC.1.1 | exact hC.2) | simp_all), (by first | rfl | exact hC | (simp only [Bool.and_eq_true] at hC; first | exact hC.1 | exact hC.1.1 | exact hC.2) | simp_all), trivial⟩) trivial ?_
  refine ch_g (R := []) rfl rfl rfl gate_f (fun hC => oc_not rfl rfl) (fun hC => ⟨(by first | rfl | exact hC | (simp only [Bool.and_eq_true] at hC; first | exact hC.1 | exact hC.1.1 | exact hC.2) | simp_all), trivial⟩) trivial ?_
  refine ch_v (R := []) rfl rfl (oc_or rfl rfl rfl (by first | exact fun h => h | simp_all)) trivial ?_
  refine ch_v (R := []) rfl rfl (oc_move (x := .val _) rfl rfl) trivial ?_
  refine ch_g (R := []) rfl rfl rfl gate_f (fun hC => oc_move (x := .val _) rfl rfl) (fun hC => ⟨(by first | rfl | exact hC | (simp only [Bool.and_eq_true] at hC; first | exact hC.1 | exact hC.1.1 | exact hC.2) | simp_all), trivial⟩) trivial ?_
  refine ch_g (R := []) rfl rfl rfl gate_f (fun hC => oc_binZ rfl rfl rfl rfl) (fun hC => ⟨(by first | rfl | exact hC | (simp only [Bool.and_eq_true] at hC; first | exact hC.1 | exact hC.1.1 | exact hC.2) | simp_all), (by first | rfl | exact hC | (simp only [Bool.and_eq_true] at hC; first | exact hC.1 | exact hC.1.1 | exact hC.2) | simp_all), trivial⟩) trivial ?_
  refine ch_v (R := []) rfl rfl (oc_or rfl rfl rfl (by first | exact fun h => h | simp_all)) trivial ?_
  refine ch_v (R := []) rfl rfl (oc_move (x := .val _) rfl rfl) trivial ?_
  refine ch_g (R := []) rfl rfl rfl gate_f (fun hC => oc_load_row rfl rfl (by kernel_rfl) (by kernel_rfl) rfl) (fun hC => ⟨(by first | rfl | exact hC | (simp only [Bool.and_eq_true] at hC; first | exact hC.1 | exact hC.1.1 | exact hC.2) | simp_all), trivial⟩) trivial ?_
  refine ch_g (R := []) rfl rfl rfl gate_f (fun hC => oc_call rfl (by kernel_rfl) (rfits_pc t ht.1) rfl (by simp only [PureL, Pure, and_self, pure_slI, pure_slS, pure_tab, expr_pure, exprs_pure, stmt_pure, stmts_pure, code_pure, insAv, storyAv_pure, bs_pure, implies_true]) (by simp only [PureL, Pure, and_self, pure_slI, pure_slS, pure_tab, expr_pure, exprs_pure, stmt_pure, stmts_pure, code_pure, insAv, storyAv_pure, bs_pure, implies_true])) (fun hC => ⟨(by first | rfl | exact hC | (simp only [Bool.and_eq_true] at hC; first | exact hC.1 | exact hC.1.1 | exact hC.2) | simp_all), (by first | rfl | exact hC | (simp only [Bool.and_eq_true] at hC; first | exact hC.1 | exact hC.1.1 | exact hC.2) | simp_all), trivial⟩) trivial ?_
  refine ch_g (R := []) rfl rfl rfl gate_f (fun hC => oc_not rfl rfl) (fun hC => ⟨(by first | rfl | exact hC | (simp only [Bool.and_eq_true] at hC; first | exact hC.1 | exact hC.1.1 | exact hC.2) | simp_all), trivial⟩) trivial ?_
  refine ch_v (R := []) rfl rfl (oc_or rfl rfl rfl (by first | exact fun h => h | simp_all)) trivial ?_
  refine ck_nil ?_
  refine aw_cond rfl (fun hb => ?_) (fun hb => ?_)
  · refine aw_seq ?_
    refine aw_text rfl ?_
    refine ch_v (R := []) rfl rfl (oc_call rfl (by kernel_rfl) (awake_pc) rfl (by simp only [PureL, Pure, and_self, pure_slI, pure_slS, pure_tab, expr_pure, exprs_pure, stmt_pure, stmts_pure, code_pure, insAv, storyAv_pure, bs_pure, implies_true]) (by simp only [PureL, Pure, and_self, pure_slI, pure_slS, pure_tab, expr_pure, exprs_pure, stmt_pure, stmts_pure, code_pure, insAv, storyAv_pure, bs_pure, implies_true])) trivial ?_
    refine ch_v (R := []) rfl rfl (oc_assign (x := .val _) rfl rfl) trivial ?_
    refine ck_nil ?_
    refine aw_ret ?_
    exact ⟨.inl rfl, ResOk.tmp rfl rfl, trivial⟩
  · have hq : ¬ fewSs l 300 < 0 ∧ (deepB l 65 ≤ 32 ∧ boundB t locals l = true) ∧ ¬ locals > 24 ∧ rfitsB t = true := by
      simp only [Bool.or_eq_false_iff, decide_eq_false_iff_not, Bool.not_eq_false', Bool.and_eq_true, decide_eq_true_eq] at hb
      exact ⟨hb.1.1.1, hb.1.1.2, hb.1.2, hb.2⟩
    obtain ⟨hf, ⟨hd, hbd⟩, hl24, hfit⟩ := hq
    have hsz := few_size hf hd
    have hsh : shSs l := by
      unfold boundB at hbd
      rw [Bool.and_eq_true] at hbd
      exact bound_shAll (by omega) l hbd.1
    have hT := tfit_of hfit
    obtain ⟨H, hty⟩ := routine_typed hT (by omega) hbd hsz.1 hsz.2
    have hglen := genB_len l 0
    have hlen : (routineP l).length ≤ 10000 := by
      unfold routineP
      rw [List.length_append]
      show _ + 2 ≤ _
      omega
    obtain ⟨e1, e2, e3⟩ := heights_typed hty (3 * (routineP l).length + 2) (List.replicate (routineP l).length (-1)) [(0, 0)] (by simp) (fun i hi => .inl (by rw [List.getD, List.getElem?_replicate, if_pos hi]; rfl)) (fun p hp => by rw [List.mem_singleton] at hp; subst hp; exact ⟨hty.start.1, hty.start.2.symm⟩)
    have e1 : (heightsP t (routineP l)).2 = 0 := e1
    have e2 : (heightsP t (routineP l)).1.length = (routineP l).length := e2
    have e3 : ∀ i, i < (routineP l).length → (heightsP t (routineP l)).1.getD i 0 = -1 ∨ (heightsP t (routineP l)).1.getD i 0 = H.getD i 0 := e3
    refine aw_skip ?_
    refine aw_seq ?_
    refine aw_text rfl ?_
    refine ch_v (R := []) rfl rfl (oc_move (x := .sl _ _ _) rfl rfl) trivial ?_
    refine ch_v (R := []) rfl rfl (oc_call rfl (by kernel_rfl) (routine_pc l hsh (by omega)) rfl (by simp only [PureL, Pure, and_self, pure_slI, pure_slS, pure_tab, expr_pure, exprs_pure, stmt_pure, stmts_pure, code_pure, insAv, storyAv_pure, bs_pure, implies_true]) (by simp only [PureL, Pure, and_self, pure_slI, pure_slS, pure_tab, expr_pure, exprs_pure, stmt_pure, stmts_pure, code_pure, insAv, storyAv_pure, bs_pure, implies_true])) trivial ?_
    refine ch_v (R := []) rfl rfl (oc_assign (x := .sl _ _ _) rfl rfl) trivial ?_
    refine ck_nil ?_
    refine aw_seq ?_
    refine aw_text rfl ?_
    refine ch_v (R := []) rfl rfl (oc_load_row rfl rfl (by kernel_rfl) (by kernel_rfl) rfl) trivial ?_
    refine ch_v (R := []) rfl rfl (oc_move (x := .sl _ _ _) rfl rfl) trivial ?_
    refine ch_v (R := []) rfl rfl (oc_call rfl (by kernel_rfl) (heights_pc t (routineP l) (by omega) (argRoutine hl.1.2 hsh (by omega)).get (Nat.le_trans ht.2.funcs (by decide)) (Nat.le_trans ht.2.params (by decide))) rfl (by simp only [PureL, Pure, and_self, pure_slI, pure_slS, pure_tab, expr_pure, exprs_pure, stmt_pure, stmts_pure, code_pure, insAv, storyAv_pure, bs_pure, implies_true]) (by simp only [PureL, Pure, and_self, pure_slI, pure_slS, pure_tab, expr_pure, exprs_pure, stmt_pure, stmts_pure, code_pure, insAv, storyAv_pure, bs_pure, implies_true])) trivial ?_
    refine ch_v (R := []) rfl rfl (oc_move (x := .tup _) rfl rfl) trivial ?_
    refine ch_v (R := []) rfl rfl (oc_extract rfl rfl rfl) trivial ?_
    refine ch_v (R := []) rfl rfl (oc_extract rfl rfl rfl) trivial ?_
    refine ch_v (R := []) rfl rfl (oc_assign (x := .sl _ _ _) rfl rfl) trivial ?_
    refine ch_v (R := []) rfl rfl (oc_assign (x := .val _) rfl rfl) trivial ?_
    refine ck_nil ?_
    refine aw_seq ?_
    refine aw_seq ?_
    refine aw_text rfl ?_
    refine ch_v (R := []) rfl rfl (oc_move (x := .val _) rfl rfl) trivial ?_
    refine ch_v (R := []) rfl rfl (oc_binZ rfl rfl rfl rfl) trivial ?_
    refine ch_v (R := []) rfl rfl (oc_move (x := .val _) rfl rfl) trivial ?_
    refine ch_g (R := []) rfl rfl rfl gate_f (fun hC => oc_move (x := .sl _ _ _) rfl rfl) (fun hC => ⟨(by first | rfl | exact hC | (simp only [Bool.and_eq_true] at hC; first | exact hC.1 | exact hC.1.1 | exact hC.2) | simp_all), trivial⟩) trivial ?_
    refine ch_g (R := []) rfl rfl rfl gate_f (fun hC => oc_len rfl rfl (by kernel_rfl)) (fun hC => ⟨(by first | rfl | exact hC | (simp only [Bool.and_eq_true] at hC; first | exact hC.1 | exact hC.1.1 | exact hC.2) | simp_all), trivial⟩) trivial ?_
    refine ch_g (R := []) rfl rfl rfl gate_f (fun hC => oc_move (x := .sl _ _ _) rfl rfl) (fun hC => ⟨(by first | rfl | exact hC | (simp only [Bool.and_eq_true] at hC; first | exact hC.1 | exact hC.1.1 | exact hC.2) | simp_all), trivial⟩) trivial ?_
    refine ch_g (R := []) rfl rfl rfl gate_f (fun hC => oc_len rfl rfl (by kernel_rfl)) (fun hC => ⟨(by first | rfl | exact hC | (simp only [Bool.and_eq_true] at hC; first | exact hC.1 | exact hC.1.1 | exact hC.2) | simp_all), trivial⟩) trivial ?_
    refine ch_g (R := []) rfl rfl rfl gate_f (fun hC => oc_binZ rfl rfl rfl rfl) (fun hC => ⟨(by first | rfl | exact hC | (simp only [Bool.and_eq_true] at hC; first | exact hC.1 | exact hC.1.1 | exact hC.2) | simp_all), (by first | rfl | exact hC | (simp only [Bool.and_eq_true] at hC; first | exact hC.1 | exact hC.1.1 | exact hC.2) | simp_all), trivial⟩) trivial ?_
    refine ch_v (R := []) rfl rfl (oc_or rfl rfl rfl (by first | exact fun h => h | simp_all)) trivial ?_
    refine ck_nil ?_
    refine aw_cond rfl (fun hb => ?_) (fun hb => ?_)
    · exact absurd hb (by rw [e1, e2]; simp)
    · refine aw_skip ?_
      refine aw_seq ?_
      refine aw_seq ?_
      refine aw_text rfl ?_
      refine ch_v (R := []) rfl rfl (oc_move (x := .sl _ _ _) rfl rfl) trivial ?_
      refine ch_v (R := []) rfl rfl (oc_len rfl rfl (by kernel_rfl)) trivial ?_
      refine ch_v (R := []) rfl rfl (oc_move (x := .val _) rfl rfl) trivial ?_
      refine ck_nil ?_
      refine aw_block ?_
      refine aw_loop (ι := Nat) (fun k => ⟨[(3, .ptr (tabAv t)), (8, slI (heightsP t (routineP l)).1), (49, codeAv (routineP l)), (50, vi ((routineP l).length : Int)), (51, vi k)], [(0, .unborn)]⟩) (fun k => k ≤ (routineP l).length) (fun k => (routineP l).length - k) 0 (Nat.zero_le _) (Le.sub ⟨.inr rfl, .inr rfl, .inr rfl, .inr rfl, .inr rfl, trivial⟩ ⟨rfl, trivial⟩) ?_
      intro k hI
      refine aw_seq ?_
      refine aw_text rfl ?_
      refine ch_v (R := []) rfl rfl (oc_binZ rfl rfl rfl rfl) trivial ?_
      refine ck_nil ?_
      refine aw_seq ?_
      refine aw_cond rfl (fun hb => ?_) (fun hb => ?_)
      · have hlt : k < (routineP l).length := by have h0 := of_decide_eq_true hb; omega
        refine aw_skip ?_
        refine aw_seq ?_
        refine aw_block ?_
        refine aw_seq ?_
        refine aw_text rfl ?_
        refine ch_v (R := []) rfl rfl (oc_move (x := .val _) rfl rfl) trivial ?_
        refine ch_v (R := []) rfl rfl ((by first | exact oc_indexN rfl rfl rfl (by kernel_rfl) (by omega) | exact oc_index rfl rfl rfl (by kernel_rfl) (by omega) (by omega) rfl)) trivial ?_
        refine ch_v (R := []) rfl rfl (oc_load_row rfl rfl (by kernel_rfl) (by kernel_rfl) rfl) trivial ?_
        refine ch_u rfl rfl (oc_alloc (zs := [.int .i64 0, .int .i64 0]) (cs := [.val _, .val _]) 0 rfl (by kernel_rfl) rfl rfl) ⟨rfl, trivial⟩ ?_
        refine ch_v (R := []) rfl rfl (oc_assign (x := .val _) rfl rfl) trivial ?_
        refine ch_n rfl rfl (oc_store_row (x := .agg _) (cs' := [_, _]) rfl rfl rfl rfl (by kernel_rfl) (by first | decide | exact Nat.le_of_ble_eq_true rfl | simp) (by first | decide | exact Nat.le_of_ble_eq_true rfl | simp) rfl) ⟨rfl, trivial⟩ ?_
        refine ck_nil ?_
        refine aw_seq ?_
        refine aw_draw mixed ?_
        refine ch_v (R := []) rfl rfl (oc_move (x := .sl _ _ _) rfl rfl) trivial ?_
        refine ch_v (R := []) rfl rfl (oc_move (x := .val _) rfl rfl) trivial ?_
        refine ch_v (R := []) rfl rfl ((by first | exact oc_indexN rfl rfl rfl (by kernel_rfl) (by omega) | exact oc_index rfl rfl rfl (by kernel_rfl) (by omega) (by omega) rfl)) trivial ?_
        refine ch_v (R := []) rfl rfl (oc_load rfl rfl (by kernel_rfl) cells_int) trivial ?_
        refine ch_v (R := []) rfl rfl (oc_binZ rfl rfl rfl rfl) trivial ?_
        refine ch_v (R := []) rfl rfl (oc_move (x := .val _) rfl rfl) trivial ?_
        refine ch_g (R := [(_, .live _ _)]) rfl rfl rfl gate_t (fun hC => oc_fieldAddr_own (off := 0) (sz := 1) (r := false) rfl rfl (by first | decide | simp) (by kernel_rfl) (by decide)) (fun hC => ⟨(by first | rfl | exact hC | (simp only [Bool.and_eq_true] at hC; first | exact hC.1 | exact hC.1.1 | exact hC.2) | simp_all), trivial⟩) ⟨rfl, trivial⟩ ?_
        refine ch_g (R := [(_, .live _ _)]) rfl rfl rfl gate_t (fun hC => oc_load_own rfl rfl (by kernel_rfl) rfl) (fun hC => ⟨(by first | rfl | exact hC | (simp only [Bool.and_eq_true] at hC; first | exact hC.1 | exact hC.1.1 | exact hC.2) | simp_all), trivial⟩) ⟨rfl, trivial⟩ ?_
        refine ch_g (R := []) rfl rfl rfl gate_t (fun hC => oc_binZ rfl rfl rfl rfl) (fun hC => ⟨(by first | rfl | exact hC | (simp only [Bool.and_eq_true] at hC; first | exact hC.1 | exact hC.1.1 | exact hC.2) | simp_all), (by first | rfl | exact hC | (simp only [Bool.and_eq_true] at hC; first | exact hC.1 | exact hC.1.1 | exact hC.2) | simp_all), trivial⟩) trivial ?_
        refine ch_g (R := []) rfl rfl rfl gate_t (fun hC => oc_move (x := .val _) rfl rfl) (fun hC => ⟨(by first | rfl | exact hC | (simp only [Bool.and_eq_true] at hC; first | exact hC.1 | exact hC.1.1 | exact hC.2) | simp_all), trivial⟩) trivial ?_
        refine ch_g (R := []) rfl rfl rfl gate_gt (fun hC => oc_move (x := .sl _ _ _) rfl rfl) (fun hC => ⟨(by first | rfl | exact hC | (simp only [Bool.and_eq_true] at hC; first | exact hC.1 | exact hC.1.1 | exact hC.2) | simp_all), trivial⟩) trivial ?_
        refine ch_g (R := []) rfl rfl rfl gate_gt (fun hC => oc_move (x := .val _) rfl rfl) (fun hC => ⟨(by first | rfl | exact hC | (simp only [Bool.and_eq_true] at hC; first | exact hC.1 | exact hC.1.1 | exact hC.2) | simp_all), trivial⟩) trivial ?_
        refine ch_g (R := []) rfl rfl rfl gate_gt (fun hC => (by first | exact oc_indexN rfl rfl rfl (by kernel_rfl) (by omega) | exact oc_index rfl rfl rfl (by kernel_rfl) (by omega) (by omega) rfl)) (fun hC => ⟨(by first | rfl | exact hC | (simp only [Bool.and_eq_true] at hC; first | exact hC.1 | exact hC.1.1 | exact hC.2) | simp_all), (by first | rfl | exact hC | (simp only [Bool.and_eq_true] at hC; first | exact hC.1 | exact hC.1.1 | exact hC.2) | simp_all), trivial⟩) trivial ?_
        refine ch_g (R := []) rfl rfl rfl gate_gt (fun hC => oc_load rfl rfl (by kernel_rfl) cells_int) (fun hC => ⟨(by first | rfl | exact hC | (simp only [Bool.and_eq_true] at hC; first | exact hC.1 | exact hC.1.1 | exact hC.2) | simp_all), trivial⟩) trivial ?_
        refine ch_g (R := []) rfl rfl rfl gate_gt (fun hC => oc_binZ rfl rfl rfl rfl) (fun hC => ⟨(by first | rfl | exact hC | (simp only [Bool.and_eq_true] at hC; first | exact hC.1 | exact hC.1.1 | exact hC.2) | simp_all), (by first | rfl | exact hC | (simp only [Bool.and_eq_true] at hC; first | exact hC.1 | exact hC.1.1 | exact hC.2) | simp_all), trivial⟩) trivial ?_
        refine ch_gp rfl rfl rfl rfl gate_t (fun hC => (by first | rfl | exact hC | (simp only [Bool.and_eq_true] at hC; first | exact hC.1 | exact hC.1.1 | exact hC.2) | simp_all)) rfl (fun hC E a hp hq => pk_and rfl (by first | exact fun h => tt2 hC h | exact fun h => h | simp_all) hp) ?_
        refine ch_g (R := []) rfl rfl rfl gate_t (fun hC => oc_move (x := .val _) rfl rfl) (fun hC => ⟨(by first | rfl | exact hC | (simp only [Bool.and_eq_true] at hC; first | exact hC.1 | exact hC.1.1 | exact hC.2) | simp_all), trivial⟩) trivial ?_
        refine ch_g (R := [(_, .live _ _)]) rfl rfl rfl gate_gf (fun hC => oc_fieldAddr_own (off := 0) (sz := 1) (r := false) rfl rfl (by first | decide | simp) (by kernel_rfl) (by decide)) (fun hC => ⟨(by first | rfl | exact hC | (simp only [Bool.and_eq_true] at hC; first | exact hC.1 | exact hC.1.1 | exact hC.2) | simp_all), trivial⟩) ⟨rfl, trivial⟩ ?_
        refine ch_g (R := [(_, .live _ _)]) rfl rfl rfl gate_gf (fun hC => oc_load_own rfl rfl (by kernel_rfl) rfl) (fun hC => ⟨(by first | rfl | exact hC | (simp only [Bool.and_eq_true] at hC; first | exact hC.1 | exact hC.1.1 | exact hC.2) | simp_all), trivial⟩) ⟨rfl, trivial⟩ ?_
        refine ch_g (R := []) rfl rfl rfl gate_gf (fun hC => oc_binZ rfl rfl rfl rfl) (fun hC => ⟨(by first | rfl | exact hC | (simp only [Bool.and_eq_true] at hC; first | exact hC.1 | exact hC.1.1 | exact hC.2) | simp_all), (by first | rfl | exact hC | (simp only [Bool.and_eq_true] at hC; first | exact hC.1 | exact hC.1.1 | exact hC.2) | simp_all), trivial⟩) trivial ?_
        refine ch_g (R := []) rfl rfl rfl gate_gf (fun hC => oc_move (x := .val _) rfl rfl) (fun hC => ⟨(by first | rfl | exact hC | (simp only [Bool.and_eq_true] at hC; first | exact hC.1 | exact hC.1.1 | exact hC.2) | simp_all), trivial⟩) trivial ?_
        refine ch_g (R := []) rfl rfl rfl gate_gt (fun hC => oc_move (x := .sl _ _ _) rfl rfl) (fun hC => ⟨(by first | rfl | exact hC | (simp only [Bool.and_eq_true] at hC; first | exact hC.1 | exact hC.1.1 | exact hC.2) | simp_all), trivial⟩) trivial ?_
        refine ch_g (R := []) rfl rfl rfl gate_gt (fun hC => oc_move (x := .val _) rfl rfl) (fun hC => ⟨(by first | rfl | exact hC | (simp only [Bool.and_eq_true] at hC; first | exact hC.1 | exact hC.1.1 | exact hC.2) | simp_all), trivial⟩) trivial ?_
        refine ch_g (R := []) rfl rfl rfl gate_gt (fun hC => (by first | exact oc_indexN rfl rfl rfl (by kernel_rfl) (by omega) | exact oc_index rfl rfl rfl (by kernel_rfl) (by omega) (by omega) rfl)) (fun hC => ⟨(by first | rfl | exact hC | (simp only [Bool.and_eq_true] at hC; first | exact hC.1 | exact hC.1.1 | exact hC.2) | simp_all), (by first | rfl | exact hC | (simp only [Bool.and_eq_true] at hC; first | exact hC.1 | exact hC.1.1 | exact hC.2) | simp_all), trivial⟩) trivial ?_
        refine ch_g (R := []) rfl rfl rfl gate_gt (fun hC => oc_load rfl rfl (by kernel_rfl) cells_int) (fun hC => ⟨(by first | rfl | exact hC | (simp only [Bool.and_eq_true] at hC; first | exact hC.1 | exact hC.1.1 | exact hC.2) | simp_all), trivial⟩) trivial ?_
        refine ch_g (R := []) rfl rfl rfl gate_gt (fun hC => oc_load_row rfl rfl (by kernel_rfl) (by kernel_rfl) rfl) (fun hC => ⟨(by first | rfl | exact hC | (simp only [Bool.and_eq_true] at hC; first | exact hC.1 | exact hC.1.1 | exact hC.2) | simp_all), trivial⟩) trivial ?_
        refine ch_g (R := [(_, .live _ _)]) rfl rfl rfl gate_gt (fun hC => oc_load_own_row (k := 2) (ds := [_, _]) rfl rfl (by kernel_rfl) (by kernel_rfl) rfl rfl (by decide)) (fun hC => ⟨(by first | rfl | exact hC | (simp only [Bool.and_eq_true] at hC; first | exact hC.1 | exact hC.1.1 | exact hC.2) | simp_all), trivial⟩) ⟨rfl, trivial⟩ ?_
        refine ch_g (R := []) rfl rfl rfl gate_gt (fun hC => oc_call rfl (by kernel_rfl) (rpops_pc t ((routineP l).getD k dIns) (Nat.le_trans ht.2.funcs (by decide)) (Nat.le_trans ht.2.params (by decide))) rfl (by simp only [PureL, Pure, and_self, pure_slI, pure_slS, pure_tab, expr_pure, exprs_pure, stmt_pure, stmts_pure, code_pure, insAv, storyAv_pure, bs_pure, implies_true]) (by simp only [PureL, Pure, and_self, pure_slI, pure_slS, pure_tab, expr_pure, exprs_pure, stmt_pure, stmts_pure, code_pure, insAv, storyAv_pure, bs_pure, implies_true])) (fun hC => ⟨(by first | rfl | exact hC | (simp only [Bool.and_eq_true] at hC; first | exact hC.1 | exact hC.1.1 | exact hC.2) | simp_all), (by first | rfl | exact hC | (simp only [Bool.and_eq_true] at hC; first | exact hC.1 | exact hC.1.1 | exact hC.2) | simp_all), (by first | rfl | exact hC | (simp only [Bool.and_eq_true] at hC; first | exact hC.1 | exact hC.1.1 | exact hC.2) | simp_all), trivial⟩) trivial ?_
        refine ch_g (R := []) rfl rfl rfl gate_gt (fun hC => oc_binZ rfl rfl rfl rfl) (fun hC => ⟨(by first | rfl | exact hC | (simp only [Bool.and_eq_true] at hC; first | exact hC.1 | exact hC.1.1 | exact hC.2) | simp_all), (by first | rfl | exact hC | (simp only [Bool.and_eq_true] at hC; first | exact hC.1 | exact hC.1.1 | exact hC.2) | simp_all), trivial⟩) trivial ?_
        refine ch_gp rfl rfl rfl rfl gate_gf (fun hC => (by first | rfl | exact hC | (simp only [Bool.and_eq_true] at hC; first | exact hC.1 | exact hC.1.1 | exact hC.2) | simp_all)) rfl (fun hC E a hp hq => pk_and rfl (by first | exact fun h => tt2 hC h | exact fun h => h | simp_all) hp) ?_
        refine ch_gp rfl rfl rfl rfl gate_t (fun hC => (by first | rfl | exact hC | (simp only [Bool.and_eq_true] at hC; first | exact hC.1 | exact hC.1.1 | exact hC.2) | simp_all)) rfl (fun hC E a hp hq => pk_or rfl (by first | exact fun h => tt2 hC h | exact fun h => h | simp_all) hq) ?_
        refine ch_v (R := []) rfl rfl (oc_and rfl rfl rfl rfl (by first | exact fun h => h | simp_all)) trivial ?_
        refine ck_nil ⟨by kernel_rfl, ?_⟩
        refine aw_cond rfl (fun hb => ?_) (fun hb => ?_)
        · exact absurd hb (by 
              intro hb
              simp only [Bool.and_eq_true, Bool.or_eq_true, decide_eq_true_eq, beq_iff_eq, bne_iff_ne, ne_eq] at hb
              have q1 := e3 k hlt
              have q2 := hty.tick k hlt
              have q3 := hty.pops k hlt
              omega)
        · refine aw_skip ?_
          refine aw_text rfl ?_
          refine ch_v (R := []) rfl rfl (oc_binZ rfl rfl rfl (by first | exact binW_add (by omega) (by omega) | rfl)) trivial ?_
          refine ch_v (R := []) rfl rfl (oc_move (x := .val _) rfl rfl) trivial ?_
          refine ck_nil ?_
          exact ⟨k + 1, by omega, by omega, Le.reset [0] (by simp) ⟨.inr rfl, .inr rfl, .inr rfl, .inr rfl, .inr (vi_eq (by omega)), trivial⟩ ⟨NoN.of_pure _ (by unfold Pure; exact pure_tab t), NoN.of_pure _ (pure_slI _), NoN.of_pure _ (code_pure _), by simp [NoN], by simp [NoN], trivial⟩ ⟨by rw [if_pos (by decide)], trivial⟩⟩
      · have hge : k = (routineP l).length := by have h0 := of_decide_eq_false hb; omega
        refine aw_exit ?_
        refine aw_seq ?_
        refine aw_text rfl ?_
        refine ch_v (R := []) rfl rfl (oc_call rfl (by kernel_rfl) (awake_pc) rfl (by simp only [PureL, Pure, and_self, pure_slI, pure_slS, pure_tab, expr_pure, exprs_pure, stmt_pure, stmts_pure, code_pure, insAv, storyAv_pure, bs_pure, implies_true]) (by simp only [PureL, Pure, and_self, pure_slI, pure_slS, pure_tab, expr_pure, exprs_pure, stmt_pure, stmts_pure, code_pure, insAv, storyAv_pure, bs_pure, implies_true])) trivial ?_
        refine ch_v (R := []) rfl rfl (oc_assign (x := .val _) rfl rfl) trivial ?_
        refine ck_nil ?_
        refine aw_ret ?_
        exact ⟨.inl rfl, ResOk.tmp rfl rfl, trivial⟩
theorem verifyGen_pc (t : TabP) (ht : t.wf ∧ TLen t) (l : List StmtP) (hl : (wfSs l ∧ nSs l) ∧ l.length ≤ 140737488355328) (locals : Int) (hlo : (Lit.int .i64 locals).wf = true) : PC Try.prog 3 [tabAv t, stmtsAv l, vi locals] (vb true) := verifyGen_walk t ht l hl locals (i64_wf hlo)
end Go.Proofs.Ytfipllnodgbghaa
