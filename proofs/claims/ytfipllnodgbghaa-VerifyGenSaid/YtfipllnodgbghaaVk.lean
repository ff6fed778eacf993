/- Chapter 31: short functions, walked. Chapter 31: own, deed, join, walked. -/
import Derived.Test.YtfipllnodgbghaaVi
import Derived.Test.YtfipllnodgbghaaFwa
import Derived.Test.YtfipllnodgbghaaProg
import Derived.KernelRfl
namespace Go.Proofs.Ytfipllnodgbghaa
open Go.RowKit
set_option maxRecDepth 100000
set_option linter.unusedVariables false
set_option linter.unusedSimpArgs false
theorem not_mem_of {l : List Int} {n : Int} (h : ∀ j, j < l.length → l.getD j 0 ≠ n) : decide (n ∈ l) = false := decide_eq_false fun hm => by
  obtain ⟨j, hj, e⟩ := List.mem_iff_getElem.1 hm
  refine h j hj ?_
  rw [List.getD, List.getElem?_eq_getElem hj]
  exact e
theorem ins_eq {a b : InsP} (h : a = b) : insAv a = insAv b := by rw [h]
theorem slI_of (l : List Int) (E : Env) (v : Value) (h : Rep E (.sl 1 l.length (rowL (l.map vi))) v) : Rep E (slI l) v := rep_rows (fun E j hj v hv => by
  have e : rowL (l.map vi) j = vi (l.getD j 0) := by
    show (l.map vi).getD j .any = _
    rw [List.getD, List.getElem?_map, List.getD, List.getElem?_eq_getElem hj]
    rfl
  rwa [e] at hv) E v h
theorem grows_mono' {P : Program} {o : Oper} {a : Act} {w : World} {K K' : Value → World → Prop} (h : grows P o a w K) (hk : ∀ v w', K v w' → K' v w') : grows P o a w K' := by
  unfold grows at h ⊢
  generalize (execOp a.eval o).run P w = r at *
  cases r with
  | ok n w' =>
    cases n <;> simp only [growUpon] at h ⊢
    case value u => exact hk _ _ h
    case skip => exact hk _ _ h
    case enter f args => exact h.mono fun e w'' ⟨v, he, hh⟩ => ⟨v, he, hk _ _ hh⟩
  | halt x w' => simp only [growUpon] at h
theorem OC.to {P : Program} {o : Oper} {ρ : Operand → Av} {R U : List (Nat × Hs)} {x y : Av} (h : OC P o ρ R x U) (hxy : ∀ E v, Rep E x v → Rep E y v) : OC P o ρ R y U := fun E a hG hp hR => grows_mono' (h E a hG hp hR) fun v w' ⟨E', h1, h2, h3, h4, h5⟩ => ⟨E', h1, h2, h3, hxy _ _ h4, h5⟩
set_option maxHeartbeats 800000 in
theorem code_pc (o n : Int) : PC Try.prog 21 [vi o, vi n] (insAv (o, n)) := by
  refine FC.body 2 8 Try.func21 rfl (by kernel_rfl) ?_
  refine aw_seq ?_
  refine aw_text rfl ?_
  refine ch_u rfl rfl (oc_alloc (zs := [.int .i64 0, .int .i64 0]) (cs := [.val _, .val _]) 0 rfl (by kernel_rfl) rfl rfl) ⟨rfl, trivial⟩ ?_
  refine ck_nil ?_
  refine aw_seq ?_
  refine aw_text rfl ?_
  refine ch_v (R := []) rfl rfl (oc_move (x := .val _) rfl rfl) trivial ?_
  refine ch_v (R := []) rfl rfl (oc_move (x := .val _) rfl rfl) trivial ?_
  refine ch_v (R := []) rfl rfl (oc_build (pl := [(0, 1), (1, 1)]) (zs := [.int .i64 0, .int .i64 0]) (ds := [.val _, .val _]) rfl (by kernel_rfl) rfl (by kernel_rfl) (by first | rfl | decide) rfl) trivial ?_
  refine ch_n rfl rfl (oc_store_row (x := .agg _) (cs' := [_, _]) rfl rfl rfl rfl (by kernel_rfl) (by first | decide | exact Nat.le_of_ble_eq_true rfl | simp) (by first | decide | exact Nat.le_of_ble_eq_true rfl | simp) rfl) ⟨rfl, trivial⟩ ?_
  refine ck_nil ?_
  refine aw_ret ?_
  exact ⟨.inl rfl, ResOk.cell rfl rfl rfl (by kernel_rfl) (by kernel_rfl) (Nat.le_of_ble_eq_true rfl), trivial⟩
set_option maxHeartbeats 800000 in
theorem zero28_pc (n : Int) : PC Try.prog 74 [vi n] (insAv (25, n)) := by
  refine FC.body 2 5 Try.func74 rfl (by kernel_rfl) ?_
  refine aw_seq ?_
  refine aw_text rfl ?_
  refine ch_u rfl rfl (oc_alloc (zs := [.int .i64 0, .int .i64 0]) (cs := [.val _, .val _]) 0 rfl (by kernel_rfl) rfl rfl) ⟨rfl, trivial⟩ ?_
  refine ck_nil ?_
  refine aw_seq ?_
  refine aw_text rfl ?_
  refine ch_v (R := []) rfl rfl (oc_move (x := .val _) rfl rfl) trivial ?_
  refine ch_v (R := []) rfl rfl (oc_call rfl (by kernel_rfl) (code_pc 25 n) rfl (by simp only [PureL, Pure, and_self, pure_slI, pure_slS, pure_tab, expr_pure, exprs_pure, stmt_pure, stmts_pure, code_pure, insAv, implies_true]) (by simp only [PureL, Pure, and_self, pure_slI, pure_slS, pure_tab, expr_pure, exprs_pure, stmt_pure, stmts_pure, code_pure, insAv, implies_true])) trivial ?_
  refine ch_n rfl rfl (oc_store_row (x := .agg _) (cs' := [_, _]) rfl rfl rfl rfl (by kernel_rfl) (by first | decide | exact Nat.le_of_ble_eq_true rfl | simp) (by first | decide | exact Nat.le_of_ble_eq_true rfl | simp) rfl) ⟨rfl, trivial⟩ ?_
  refine ck_nil ?_
  refine aw_ret ?_
  exact ⟨.inl rfl, ResOk.cell rfl rfl rfl (by kernel_rfl) (by kernel_rfl) (Nat.le_of_ble_eq_true rfl), trivial⟩
set_option maxHeartbeats 800000 in
theorem label28_pc (n : Int) : PC Try.prog 75 [vi n] (insAv (38, n)) := by
  refine FC.body 2 5 Try.func75 rfl (by kernel_rfl) ?_
  refine aw_seq ?_
  refine aw_text rfl ?_
  refine ch_u rfl rfl (oc_alloc (zs := [.int .i64 0, .int .i64 0]) (cs := [.val _, .val _]) 0 rfl (by kernel_rfl) rfl rfl) ⟨rfl, trivial⟩ ?_
  refine ck_nil ?_
  refine aw_seq ?_
  refine aw_text rfl ?_
  refine ch_v (R := []) rfl rfl (oc_move (x := .val _) rfl rfl) trivial ?_
  refine ch_v (R := []) rfl rfl (oc_call rfl (by kernel_rfl) (code_pc 38 n) rfl (by simp only [PureL, Pure, and_self, pure_slI, pure_slS, pure_tab, expr_pure, exprs_pure, stmt_pure, stmts_pure, code_pure, insAv, implies_true]) (by simp only [PureL, Pure, and_self, pure_slI, pure_slS, pure_tab, expr_pure, exprs_pure, stmt_pure, stmts_pure, code_pure, insAv, implies_true])) trivial ?_
  refine ch_n rfl rfl (oc_store_row (x := .agg _) (cs' := [_, _]) rfl rfl rfl rfl (by kernel_rfl) (by first | decide | exact Nat.le_of_ble_eq_true rfl | simp) (by first | decide | exact Nat.le_of_ble_eq_true rfl | simp) rfl) ⟨rfl, trivial⟩ ?_
  refine ck_nil ?_
  refine aw_ret ?_
  exact ⟨.inl rfl, ResOk.cell rfl rfl rfl (by kernel_rfl) (by kernel_rfl) (Nat.le_of_ble_eq_true rfl), trivial⟩
set_option maxHeartbeats 800000 in
theorem jump28_pc (n : Int) : PC Try.prog 76 [vi n] (insAv (24, n)) := by
  refine FC.body 2 5 Try.func76 rfl (by kernel_rfl) ?_
  refine aw_seq ?_
  refine aw_text rfl ?_
  refine ch_u rfl rfl (oc_alloc (zs := [.int .i64 0, .int .i64 0]) (cs := [.val _, .val _]) 0 rfl (by kernel_rfl) rfl rfl) ⟨rfl, trivial⟩ ?_
  refine ck_nil ?_
  refine aw_seq ?_
  refine aw_text rfl ?_
  refine ch_v (R := []) rfl rfl (oc_move (x := .val _) rfl rfl) trivial ?_
  refine ch_v (R := []) rfl rfl (oc_call rfl (by kernel_rfl) (code_pc 24 n) rfl (by simp only [PureL, Pure, and_self, pure_slI, pure_slS, pure_tab, expr_pure, exprs_pure, stmt_pure, stmts_pure, code_pure, insAv, implies_true]) (by simp only [PureL, Pure, and_self, pure_slI, pure_slS, pure_tab, expr_pure, exprs_pure, stmt_pure, stmts_pure, code_pure, insAv, implies_true])) trivial ?_
  refine ch_n rfl rfl (oc_store_row (x := .agg _) (cs' := [_, _]) rfl rfl rfl rfl (by kernel_rfl) (by first | decide | exact Nat.le_of_ble_eq_true rfl | simp) (by first | decide | exact Nat.le_of_ble_eq_true rfl | simp) rfl) ⟨rfl, trivial⟩ ?_
  refine ck_nil ?_
  refine aw_ret ?_
  exact ⟨.inl rfl, ResOk.cell rfl rfl rfl (by kernel_rfl) (by kernel_rfl) (Nat.le_of_ble_eq_true rfl), trivial⟩
set_option maxHeartbeats 800000 in
theorem goes_pc (x : InsP) : PC Try.prog 25 [insAv x] (vb (x.1 == 24 || x.1 == 25)) := by
  refine FC.body 2 11 Try.func25 rfl (by kernel_rfl) ?_
  refine aw_seq ?_
  refine aw_text rfl ?_
  refine ch_v (R := []) rfl rfl (oc_box (x := .agg _) rfl rfl) trivial ?_
  refine ch_v (R := []) rfl rfl (oc_assign (x := .val _) rfl rfl) trivial ?_
  refine ck_nil ?_
  refine aw_seq ?_
  refine aw_text rfl ?_
  refine ch_v (R := []) rfl rfl (oc_fieldAddr (off := 0) rfl rfl rfl (by kernel_rfl) rfl) trivial ?_
  refine ch_v (R := []) rfl rfl (oc_load rfl rfl (by kernel_rfl) cells_int) trivial ?_
  refine ch_v (R := []) rfl rfl (oc_binZ rfl rfl rfl rfl) trivial ?_
  refine ch_v (R := []) rfl rfl (oc_move (x := .val _) rfl rfl) trivial ?_
  refine ch_g (R := []) rfl rfl rfl gate_f (fun hC => oc_fieldAddr (off := 0) rfl rfl rfl (by kernel_rfl) rfl) (fun hC => ⟨(by first | rfl | exact hC | (simp only [Bool.and_eq_true] at hC; first | exact hC.1 | exact hC.1.1 | exact hC.2) | simp_all), trivial⟩) trivial ?_
  refine ch_g (R := []) rfl rfl rfl gate_f (fun hC => oc_load rfl rfl (by kernel_rfl) cells_int) (fun hC => ⟨(by first | rfl | exact hC | (simp only [Bool.and_eq_true] at hC; first | exact hC.1 | exact hC.1.1 | exact hC.2) | simp_all), trivial⟩) trivial ?_
  refine ch_g (R := []) rfl rfl rfl gate_f (fun hC => oc_binZ rfl rfl rfl rfl) (fun hC => ⟨(by first | rfl | exact hC | (simp only [Bool.and_eq_true] at hC; first | exact hC.1 | exact hC.1.1 | exact hC.2) | simp_all), (by first | rfl | exact hC | (simp only [Bool.and_eq_true] at hC; first | exact hC.1 | exact hC.1.1 | exact hC.2) | simp_all), trivial⟩) trivial ?_
  refine ch_v (R := []) rfl rfl (oc_or rfl rfl rfl (by first | exact fun h => h | simp_all)) trivial ?_
  refine ch_v (R := []) rfl rfl (oc_assign (x := .val _) rfl rfl) trivial ?_
  refine ck_nil ?_
  refine aw_ret ?_
  exact ⟨.inl rfl, ResOk.tmp rfl rfl, trivial⟩
set_option maxHeartbeats 800000 in
theorem ends_pc (x : InsP) : PC Try.prog 26 [insAv x] (vb (((x.1 == 27 || x.1 == 28) || x.1 == 29) || x.1 == 30)) := by
  refine FC.body 2 21 Try.func26 rfl (by kernel_rfl) ?_
  refine aw_seq ?_
  refine aw_text rfl ?_
  refine ch_v (R := []) rfl rfl (oc_box (x := .agg _) rfl rfl) trivial ?_
  refine ch_v (R := []) rfl rfl (oc_assign (x := .val _) rfl rfl) trivial ?_
  refine ck_nil ?_
  refine aw_seq ?_
  refine aw_text rfl ?_
  refine ch_v (R := []) rfl rfl (oc_fieldAddr (off := 0) rfl rfl rfl (by kernel_rfl) rfl) trivial ?_
  refine ch_v (R := []) rfl rfl (oc_load rfl rfl (by kernel_rfl) cells_int) trivial ?_
  refine ch_v (R := []) rfl rfl (oc_binZ rfl rfl rfl rfl) trivial ?_
  refine ch_v (R := []) rfl rfl (oc_move (x := .val _) rfl rfl) trivial ?_
  refine ch_g (R := []) rfl rfl rfl gate_f (fun hC => oc_fieldAddr (off := 0) rfl rfl rfl (by kernel_rfl) rfl) (fun hC => ⟨(by first | rfl | exact hC | (simp only [Bool.and_eq_true] at hC; first | exact hC.1 | exact hC.1.1 | exact hC.2) | simp_all), trivial⟩) trivial ?_
  refine ch_g (R := []) rfl rfl rfl gate_f (fun hC => oc_load rfl rfl (by kernel_rfl) cells_int) (fun hC => ⟨(by first | rfl | exact hC | (simp only [Bool.and_eq_true] at hC; first | exact hC.1 | exact hC.1.1 | exact hC.2) | simp_all), trivial⟩) trivial ?_
  refine ch_g (R := []) rfl rfl rfl gate_f (fun hC => oc_binZ rfl rfl rfl rfl) (fun hC => ⟨(by first | rfl | exact hC | (simp only [Bool.and_eq_true] at hC; first | exact hC.1 | exact hC.1.1 | exact hC.2) | simp_all), (by first | rfl | exact hC | (simp only [Bool.and_eq_true] at hC; first | exact hC.1 | exact hC.1.1 | exact hC.2) | simp_all), trivial⟩) trivial ?_
  refine ch_v (R := []) rfl rfl (oc_or rfl rfl rfl (by first | exact fun h => h | simp_all)) trivial ?_
  refine ch_v (R := []) rfl rfl (oc_move (x := .val _) rfl rfl) trivial ?_
  refine ch_g (R := []) rfl rfl rfl gate_f (fun hC => oc_fieldAddr (off := 0) rfl rfl rfl (by kernel_rfl) rfl) (fun hC => ⟨(by first | rfl | exact hC | (simp only [Bool.and_eq_true] at hC; first | exact hC.1 | exact hC.1.1 | exact hC.2) | simp_all), trivial⟩) trivial ?_
  refine ch_g (R := []) rfl rfl rfl gate_f (fun hC => oc_load rfl rfl (by kernel_rfl) cells_int) (fun hC => ⟨(by first | rfl | exact hC | (simp only [Bool.and_eq_true] at hC; first | exact hC.1 | exact hC.1.1 | exact hC.2) | simp_all), trivial⟩) trivial ?_
  refine ch_g (R := []) rfl rfl rfl gate_f (fun hC => oc_binZ rfl rfl rfl rfl) (fun hC => ⟨(by first | rfl | exact hC | (simp only [Bool.and_eq_true] at hC; first | exact hC.1 | exact hC.1.1 | exact hC.2) | simp_all), (by first | rfl | exact hC | (simp only [Bool.and_eq_true] at hC; first | exact hC.1 | exact hC.1.1 | exact hC.2) | simp_all), trivial⟩) trivial ?_
  refine ch_v (R := []) rfl rfl (oc_or rfl rfl rfl (by first | exact fun h => h | simp_all)) trivial ?_
  refine ch_v (R := []) rfl rfl (oc_move (x := .val _) rfl rfl) trivial ?_
  refine ch_g (R := []) rfl rfl rfl gate_f (fun hC => oc_fieldAddr (off := 0) rfl rfl rfl (by kernel_rfl) rfl) (fun hC => ⟨(by first | rfl | exact hC | (simp only [Bool.and_eq_true] at hC; first | exact hC.1 | exact hC.1.1 | exact hC.2) | simp_all), trivial⟩) trivial ?_
  refine ch_g (R := []) rfl rfl rfl gate_f (fun hC => oc_load rfl rfl (by kernel_rfl) cells_int) (fun hC => ⟨(by first | rfl | exact hC | (simp only [Bool.and_eq_true] at hC; first | exact hC.1 | exact hC.1.1 | exact hC.2) | simp_all), trivial⟩) trivial ?_
  refine ch_g (R := []) rfl rfl rfl gate_f (fun hC => oc_binZ rfl rfl rfl rfl) (fun hC => ⟨(by first | rfl | exact hC | (simp only [Bool.and_eq_true] at hC; first | exact hC.1 | exact hC.1.1 | exact hC.2) | simp_all), (by first | rfl | exact hC | (simp only [Bool.and_eq_true] at hC; first | exact hC.1 | exact hC.1.1 | exact hC.2) | simp_all), trivial⟩) trivial ?_
  refine ch_v (R := []) rfl rfl (oc_or rfl rfl rfl (by first | exact fun h => h | simp_all)) trivial ?_
  refine ch_v (R := []) rfl rfl (oc_assign (x := .val _) rfl rfl) trivial ?_
  refine ck_nil ?_
  refine aw_ret ?_
  exact ⟨.inl rfl, ResOk.tmp rfl rfl, trivial⟩
set_option maxHeartbeats 800000 in
theorem is16_pc (n : Int) : PC Try.prog 55 [vi n] (vb (isV16 n)) := by
  refine FC.body 2 9 Try.func55 rfl (by kernel_rfl) ?_
  refine aw_seq ?_
  refine aw_text rfl ?_
  refine ch_v (R := []) rfl rfl (oc_assign (x := .val _) rfl rfl) trivial ?_
  refine ck_nil ?_
  refine aw_seq ?_
  refine aw_text rfl ?_
  refine ch_v (R := []) rfl rfl (oc_move (x := .val _) rfl rfl) trivial ?_
  refine ch_v (R := []) rfl rfl (oc_binZ rfl rfl rfl rfl) trivial ?_
  refine ch_v (R := []) rfl rfl (oc_move (x := .val _) rfl rfl) trivial ?_
  refine ch_g (R := []) rfl rfl rfl gate_t (fun hC => oc_move (x := .val _) rfl rfl) (fun hC => ⟨(by first | rfl | exact hC | (simp only [Bool.and_eq_true] at hC; first | exact hC.1 | exact hC.1.1 | exact hC.2) | simp_all), trivial⟩) trivial ?_
  refine ch_g (R := []) rfl rfl rfl gate_t (fun hC => oc_binZ rfl rfl rfl rfl) (fun hC => ⟨(by first | rfl | exact hC | (simp only [Bool.and_eq_true] at hC; first | exact hC.1 | exact hC.1.1 | exact hC.2) | simp_all), (by first | rfl | exact hC | (simp only [Bool.and_eq_true] at hC; first | exact hC.1 | exact hC.1.1 | exact hC.2) | simp_all), trivial⟩) trivial ?_
  refine ch_v (R := []) rfl rfl (oc_and rfl rfl rfl rfl (by first | exact fun h => h | simp_all)) trivial ?_
  refine ch_v (R := []) rfl rfl (oc_assign (x := .val _) rfl rfl) trivial ?_
  refine ck_nil ?_
  refine aw_ret ?_
  exact ⟨.inl rfl, ResOk.tmp rfl rfl, trivial⟩
set_option maxHeartbeats 800000 in
theorem among27_pc (n : Int) (l : List Int) (hl : l.length ≤ 1000000) : PC Try.prog 27 [vi n, slI l] (vb (decide (n ∈ l))) := by
  refine FC.body 2 18 Try.func27 rfl (by kernel_rfl) ?_
  refine aw_seq ?_
  refine aw_text rfl ?_
  refine ch_v (R := []) rfl rfl (oc_assign (x := .val _) rfl rfl) trivial ?_
  refine ck_nil ?_
  refine aw_seq ?_
  refine aw_seq ?_
  refine aw_text rfl ?_
  refine ch_v (R := []) rfl rfl (oc_assign (x := .val _) rfl rfl) trivial ?_
  refine ck_nil ?_
  refine aw_block ?_
  refine aw_loop (ι := Nat) (fun k => ⟨[(0, vi n), (1, slI l), (5, vi k)], []⟩) (fun k => k ≤ l.length ∧ ∀ j, j < k → l.getD j 0 ≠ n) (fun k => l.length - k) 0 (⟨Nat.zero_le _, fun j hj => absurd hj (by omega)⟩) (Le.sub (by repeat (first | trivial | refine ⟨.inr rfl, ?_⟩ | refine ⟨.inr (vi_eq (by omega)), ?_⟩)) (by repeat (first | trivial | refine ⟨rfl, ?_⟩))) ?_
  intro k hI
  refine aw_seq ?_
  refine aw_seq ?_
  refine aw_text rfl ?_
  refine ch_v (R := []) rfl rfl (oc_move (x := .val _) rfl rfl) trivial ?_
  refine ch_v (R := []) rfl rfl (oc_move (x := .sl _ _ _) rfl rfl) trivial ?_
  refine ch_v (R := []) rfl rfl (oc_len rfl rfl (by kernel_rfl)) trivial ?_
  refine ch_v (R := []) rfl rfl (oc_binZ rfl rfl rfl rfl) trivial ?_
  refine ck_nil ?_
  refine aw_cond rfl (fun hb => ?_) (fun hb => ?_)
  · have hlt : k < l.length := by have h0 := of_decide_eq_true hb; omega
    refine aw_skip ?_
    refine aw_seq ?_
    refine aw_block ?_
    refine aw_seq ?_
    refine aw_text rfl ?_
    refine ch_v (R := []) rfl rfl (oc_move (x := .sl _ _ _) rfl rfl) trivial ?_
    refine ch_v (R := []) rfl rfl (oc_move (x := .val _) rfl rfl) trivial ?_
    refine ch_v (R := []) rfl rfl ((by first | exact oc_indexN rfl rfl rfl (by kernel_rfl) (by omega) | exact oc_index rfl rfl rfl (by kernel_rfl) (by omega) (by omega) rfl)) trivial ?_
    refine ch_v (R := []) rfl rfl (oc_load rfl rfl (by kernel_rfl) cells_int) trivial ?_
    refine ch_v (R := []) rfl rfl (oc_move (x := .val _) rfl rfl) trivial ?_
    refine ch_v (R := []) rfl rfl (oc_binZ rfl rfl rfl rfl) trivial ?_
    refine ck_nil ?_
    refine aw_cond rfl (fun hb => ?_) (fun hb => ?_)
    · have heq : l.getD k 0 = n := by simpa using hb
      refine aw_seq ?_
      refine aw_text rfl ?_
      refine ch_v (R := []) rfl rfl (oc_assign (x := .val _) rfl rfl) trivial ?_
      refine ck_nil ?_
      refine aw_ret ?_
      exact ⟨.inl rfl, ResOk.tmp rfl (by rw [decide_eq_true (show n ∈ l from by rw [← heq, List.getD, List.getElem?_eq_getElem hlt]; exact List.getElem_mem hlt)]; rfl), trivial⟩
    · have hne : l.getD k 0 ≠ n := by simpa using hb
      refine aw_skip ?_
      refine aw_text rfl ?_
      refine ch_v (R := []) rfl rfl (oc_move (x := .val _) rfl rfl) trivial ?_
      refine ch_v (R := []) rfl rfl (oc_binZ rfl rfl rfl (by first | exact binW_add (by omega) (by omega) | rfl)) trivial ?_
      refine ch_v (R := []) rfl rfl (oc_assign (x := .val _) rfl rfl) trivial ?_
      refine ck_nil ?_
      exact ⟨k + 1, ⟨by omega, fun j hj => by
        rcases Nat.lt_or_ge j k with h1 | h1
        · exact hI.2 j h1
        · have : j = k := by omega
          subst this
          exact hne⟩, by omega, Le.sub (by repeat (first | exact trivial | refine ⟨.inr rfl, ?_⟩ | refine ⟨.inr (vi_eq (by omega)), ?_⟩)) trivial⟩
  · have hge : k = l.length := by have h0 := of_decide_eq_false hb; omega
    refine aw_exit ?_
    refine aw_seq ?_
    refine aw_text rfl ?_
    refine ch_v (R := []) rfl rfl (oc_assign (x := .val _) rfl rfl) trivial ?_
    refine ck_nil ?_
    refine aw_ret ?_
    exact ⟨.inl rfl, ResOk.tmp rfl (by rw [not_mem_of (fun j hj => hI.2 j (by omega))]; rfl), trivial⟩
set_option maxHeartbeats 1600000 in
theorem rpops_pc (t : TabP) (x : InsP) (hf : t.funcs.length ≤ 140737488355328) (hp : t.params.length ≤ 140737488355328) : PC Try.prog 10 [tabAv t, insAv x] (vi (popsI t x)) := by
  refine FC.body 2 50 Try.func10 rfl (by kernel_rfl) ?_
  refine aw_seq ?_
  refine aw_text rfl ?_
  refine ch_v (R := []) rfl rfl (oc_box (x := .agg _) rfl rfl) trivial ?_
  refine ch_v (R := []) rfl rfl (oc_box (x := .agg _) rfl rfl) trivial ?_
  refine ch_v (R := []) rfl rfl (oc_assign (x := .val _) rfl rfl) trivial ?_
  refine ck_nil ?_
  refine aw_seq ?_
  refine aw_seq ?_
  refine aw_text rfl ?_
  refine ch_v (R := []) rfl rfl (oc_fieldAddr (off := 0) rfl rfl rfl (by kernel_rfl) rfl) trivial ?_
  refine ch_v (R := []) rfl rfl (oc_load rfl rfl (by kernel_rfl) cells_int) trivial ?_
  refine ch_v (R := []) rfl rfl (OC.to (oc_buildSlice (ps := [_, _, _]) (xs := [.val _, .val _, .val _]) (e := 3) (k := 1) (by_ := 8) (zs := [.int .i64 0]) rfl (by kernel_rfl) (by kernel_rfl) rfl rfl rfl (by decide) (by decide)) (slI_of [(8 : Int), 14, 17])) trivial ?_
  refine ch_v (R := []) rfl rfl (oc_call rfl (by kernel_rfl) (among27_pc x.1 [(8 : Int), 14, 17] (by decide)) rfl (by simp only [PureL, Pure, and_self, pure_slI, pure_slS, pure_tab, expr_pure, exprs_pure, stmt_pure, stmts_pure, code_pure, insAv, implies_true]) (by simp only [PureL, Pure, and_self, pure_slI, pure_slS, pure_tab, expr_pure, exprs_pure, stmt_pure, stmts_pure, code_pure, insAv, implies_true])) trivial ?_
  refine ck_nil ?_
  refine aw_cond rfl (fun hb => ?_) (fun hb => ?_)
  · have h1 : x.1 ∈ [(8 : Int), 14, 17] := of_decide_eq_true hb
    refine aw_seq ?_
    refine aw_text rfl ?_
    refine ch_v (R := []) rfl rfl (oc_assign (x := .val _) rfl rfl) trivial ?_
    refine ck_nil ?_
    refine aw_ret ?_
    exact ⟨.inl rfl, ResOk.tmp rfl (vi_eq (by unfold popsI; rw [if_pos h1])), trivial⟩
  · have h1 : ¬ x.1 ∈ [(8 : Int), 14, 17] := of_decide_eq_false hb
    refine aw_skip ?_
    refine aw_seq ?_
    refine aw_seq ?_
    refine aw_text rfl ?_
    refine ch_v (R := []) rfl rfl (oc_fieldAddr (off := 0) rfl rfl rfl (by kernel_rfl) rfl) trivial ?_
    refine ch_v (R := []) rfl rfl (oc_load rfl rfl (by kernel_rfl) cells_int) trivial ?_
    refine ch_v (R := []) rfl rfl (OC.to (oc_buildSlice (ps := [_, _, _, _, _, _, _, _, _, _, _, _, _, _, _, _, _, _, _, _, _]) (xs := [.val _, .val _, .val _, .val _, .val _, .val _, .val _, .val _, .val _, .val _, .val _, .val _, .val _, .val _, .val _, .val _, .val _, .val _, .val _, .val _, .val _]) (e := 3) (k := 1) (by_ := 8) (zs := [.int .i64 0]) rfl (by kernel_rfl) (by kernel_rfl) rfl rfl rfl (by decide) (by decide)) (slI_of [(2 : Int), 4, 6, 9, 10, 11, 12, 13, 15, 16, 18, 19, 20, 22, 23, 25, 27, 31, 32, 34, 36])) trivial ?_
    refine ch_v (R := []) rfl rfl (oc_call rfl (by kernel_rfl) (among27_pc x.1 [(2 : Int), 4, 6, 9, 10, 11, 12, 13, 15, 16, 18, 19, 20, 22, 23, 25, 27, 31, 32, 34, 36] (by decide)) rfl (by simp only [PureL, Pure, and_self, pure_slI, pure_slS, pure_tab, expr_pure, exprs_pure, stmt_pure, stmts_pure, code_pure, insAv, implies_true]) (by simp only [PureL, Pure, and_self, pure_slI, pure_slS, pure_tab, expr_pure, exprs_pure, stmt_pure, stmts_pure, code_pure, insAv, implies_true])) trivial ?_
    refine ck_nil ?_
    refine aw_cond rfl (fun hb => ?_) (fun hb => ?_)
    · have h2 : x.1 ∈ [(2 : Int), 4, 6, 9, 10, 11, 12, 13, 15, 16, 18, 19, 20, 22, 23, 25, 27, 31, 32, 34, 36] := of_decide_eq_true hb
      refine aw_seq ?_
      refine aw_text rfl ?_
      refine ch_v (R := []) rfl rfl (oc_assign (x := .val _) rfl rfl) trivial ?_
      refine ck_nil ?_
      refine aw_ret ?_
      exact ⟨.inl rfl, ResOk.tmp rfl (vi_eq (by unfold popsI; rw [if_neg h1, if_pos h2])), trivial⟩
    · have h2 : ¬ x.1 ∈ [(2 : Int), 4, 6, 9, 10, 11, 12, 13, 15, 16, 18, 19, 20, 22, 23, 25, 27, 31, 32, 34, 36] := of_decide_eq_false hb
      refine aw_skip ?_
      refine aw_seq ?_
      refine aw_seq ?_
      refine aw_text rfl ?_
      refine ch_v (R := []) rfl rfl (oc_fieldAddr (off := 0) rfl rfl rfl (by kernel_rfl) rfl) trivial ?_
      refine ch_v (R := []) rfl rfl (oc_load rfl rfl (by kernel_rfl) cells_int) trivial ?_
      refine ch_v (R := []) rfl rfl (oc_binZ rfl rfl rfl rfl) trivial ?_
      refine ch_v (R := []) rfl rfl (oc_move (x := .val _) rfl rfl) trivial ?_
      refine ch_g (R := []) rfl rfl rfl gate_f (fun hC => oc_fieldAddr (off := 1) rfl rfl rfl (by kernel_rfl) rfl) (fun hC => ⟨(by first | rfl | exact hC | (simp only [Bool.and_eq_true] at hC; first | exact hC.1 | exact hC.1.1 | exact hC.2) | simp_all), trivial⟩) trivial ?_
      refine ch_g (R := []) rfl rfl rfl gate_f (fun hC => oc_load rfl rfl (by kernel_rfl) cells_int) (fun hC => ⟨(by first | rfl | exact hC | (simp only [Bool.and_eq_true] at hC; first | exact hC.1 | exact hC.1.1 | exact hC.2) | simp_all), trivial⟩) trivial ?_
      refine ch_g (R := []) rfl rfl rfl gate_f (fun hC => oc_binZ rfl rfl rfl rfl) (fun hC => ⟨(by first | rfl | exact hC | (simp only [Bool.and_eq_true] at hC; first | exact hC.1 | exact hC.1.1 | exact hC.2) | simp_all), (by first | rfl | exact hC | (simp only [Bool.and_eq_true] at hC; first | exact hC.1 | exact hC.1.1 | exact hC.2) | simp_all), trivial⟩) trivial ?_
      refine ch_v (R := []) rfl rfl (oc_or rfl rfl rfl (by first | exact fun h => h | simp_all)) trivial ?_
      refine ch_v (R := []) rfl rfl (oc_move (x := .val _) rfl rfl) trivial ?_
      refine ch_g (R := []) rfl rfl rfl gate_f (fun hC => oc_fieldAddr (off := 1) rfl rfl rfl (by kernel_rfl) rfl) (fun hC => ⟨(by first | rfl | exact hC | (simp only [Bool.and_eq_true] at hC; first | exact hC.1 | exact hC.1.1 | exact hC.2) | simp_all), trivial⟩) trivial ?_
      refine ch_g (R := []) rfl rfl rfl gate_f (fun hC => oc_load rfl rfl (by kernel_rfl) cells_int) (fun hC => ⟨(by first | rfl | exact hC | (simp only [Bool.and_eq_true] at hC; first | exact hC.1 | exact hC.1.1 | exact hC.2) | simp_all), trivial⟩) trivial ?_
      refine ch_g (R := []) rfl rfl rfl gate_f (fun hC => oc_fieldAddr (off := 11) rfl rfl rfl (by kernel_rfl) rfl) (fun hC => ⟨(by first | rfl | exact hC | (simp only [Bool.and_eq_true] at hC; first | exact hC.1 | exact hC.1.1 | exact hC.2) | simp_all), trivial⟩) trivial ?_
      refine ch_g (R := []) rfl rfl rfl gate_f (fun hC => oc_load rfl rfl (by kernel_rfl) cells_sl) (fun hC => ⟨(by first | rfl | exact hC | (simp only [Bool.and_eq_true] at hC; first | exact hC.1 | exact hC.1.1 | exact hC.2) | simp_all), trivial⟩) trivial ?_
      refine ch_g (R := []) rfl rfl rfl gate_f (fun hC => oc_len rfl rfl (by kernel_rfl)) (fun hC => ⟨(by first | rfl | exact hC | (simp only [Bool.and_eq_true] at hC; first | exact hC.1 | exact hC.1.1 | exact hC.2) | simp_all), trivial⟩) trivial ?_
      refine ch_g (R := []) rfl rfl rfl gate_f (fun hC => oc_binZ rfl rfl rfl rfl) (fun hC => ⟨(by first | rfl | exact hC | (simp only [Bool.and_eq_true] at hC; first | exact hC.1 | exact hC.1.1 | exact hC.2) | simp_all), (by first | rfl | exact hC | (simp only [Bool.and_eq_true] at hC; first | exact hC.1 | exact hC.1.1 | exact hC.2) | simp_all), trivial⟩) trivial ?_
      refine ch_v (R := []) rfl rfl (oc_or rfl rfl rfl (by first | exact fun h => h | simp_all)) trivial ?_
      refine ck_nil ?_
      refine aw_cond rfl (fun hb => ?_) (fun hb => ?_)
      · have h3 : x.1 ≠ 26 ∨ x.2 < 0 ∨ x.2 ≥ (t.funcs.length : Int) := by
          simp only [Bool.or_eq_true, decide_eq_true_eq, bne_iff_ne, ne_eq] at hb
          rcases hb with (h | h) | h
          · exact .inl h
          · exact .inr (.inl h)
          · exact .inr (.inr h)
        refine aw_seq ?_
        refine aw_text rfl ?_
        refine ch_v (R := []) rfl rfl (oc_assign (x := .val _) rfl rfl) trivial ?_
        refine ck_nil ?_
        refine aw_ret ?_
        exact ⟨.inl rfl, ResOk.tmp rfl (vi_eq (by unfold popsI; rw [if_neg h1, if_neg h2, if_pos h3])), trivial⟩
      · have h3 : ¬ (x.1 ≠ 26 ∨ x.2 < 0 ∨ x.2 ≥ (t.funcs.length : Int)) := by
          simp only [Bool.or_eq_false_iff, decide_eq_false_iff_not, bne_eq_false_iff_eq] at hb
          rintro (h | h | h)
          · exact h hb.1.1
          · exact hb.1.2 h
          · exact hb.2 h
        refine aw_skip ?_
        refine aw_seq ?_
        refine aw_text rfl ?_
        refine ch_v (R := []) rfl rfl (oc_fieldAddr (off := 11) rfl rfl rfl (by kernel_rfl) rfl) trivial ?_
        refine ch_v (R := []) rfl rfl (oc_load rfl rfl (by kernel_rfl) cells_sl) trivial ?_
        refine ch_v (R := []) rfl rfl (oc_fieldAddr (off := 1) rfl rfl rfl (by kernel_rfl) rfl) trivial ?_
        refine ch_v (R := []) rfl rfl (oc_load rfl rfl (by kernel_rfl) cells_int) trivial ?_
        refine ch_v (R := []) rfl rfl (oc_index (j := x.2.toNat) rfl rfl rfl (by kernel_rfl) (by omega) (by omega) rfl) trivial ?_
        refine ch_v (R := []) rfl rfl (oc_load rfl rfl (by kernel_rfl) cells_int) trivial ?_
        refine ch_v (R := []) rfl rfl (oc_assign (x := .val _) rfl rfl) trivial ?_
        refine ck_nil ?_
        refine aw_seq ?_
        refine aw_seq ?_
        refine aw_text rfl ?_
        refine ch_v (R := []) rfl rfl (oc_move (x := .val _) rfl rfl) trivial ?_
        refine ch_v (R := []) rfl rfl (oc_binZ rfl rfl rfl rfl) trivial ?_
        refine ch_v (R := []) rfl rfl (oc_move (x := .val _) rfl rfl) trivial ?_
        refine ch_g (R := []) rfl rfl rfl gate_f (fun hC => oc_move (x := .val _) rfl rfl) (fun hC => ⟨(by first | rfl | exact hC | (simp only [Bool.and_eq_true] at hC; first | exact hC.1 | exact hC.1.1 | exact hC.2) | simp_all), trivial⟩) trivial ?_
        refine ch_g (R := []) rfl rfl rfl gate_f (fun hC => oc_fieldAddr (off := 13) rfl rfl rfl (by kernel_rfl) rfl) (fun hC => ⟨(by first | rfl | exact hC | (simp only [Bool.and_eq_true] at hC; first | exact hC.1 | exact hC.1.1 | exact hC.2) | simp_all), trivial⟩) trivial ?_
        refine ch_g (R := []) rfl rfl rfl gate_f (fun hC => oc_load rfl rfl (by kernel_rfl) cells_sl) (fun hC => ⟨(by first | rfl | exact hC | (simp only [Bool.and_eq_true] at hC; first | exact hC.1 | exact hC.1.1 | exact hC.2) | simp_all), trivial⟩) trivial ?_
        refine ch_g (R := []) rfl rfl rfl gate_f (fun hC => oc_len rfl rfl (by kernel_rfl)) (fun hC => ⟨(by first | rfl | exact hC | (simp only [Bool.and_eq_true] at hC; first | exact hC.1 | exact hC.1.1 | exact hC.2) | simp_all), trivial⟩) trivial ?_
        refine ch_g (R := []) rfl rfl rfl gate_f (fun hC => oc_binZ rfl rfl rfl rfl) (fun hC => ⟨(by first | rfl | exact hC | (simp only [Bool.and_eq_true] at hC; first | exact hC.1 | exact hC.1.1 | exact hC.2) | simp_all), (by first | rfl | exact hC | (simp only [Bool.and_eq_true] at hC; first | exact hC.1 | exact hC.1.1 | exact hC.2) | simp_all), trivial⟩) trivial ?_
        refine ch_v (R := []) rfl rfl (oc_or rfl rfl rfl (by first | exact fun h => h | simp_all)) trivial ?_
        refine ck_nil ?_
        refine aw_cond rfl (fun hb => ?_) (fun hb => ?_)
        · have h4 : getZ t.funcs x.2 < 0 ∨ getZ t.funcs x.2 ≥ (t.params.length : Int) := by
            simp only [Bool.or_eq_true, decide_eq_true_eq] at hb
            exact hb
          refine aw_seq ?_
          refine aw_text rfl ?_
          refine ch_v (R := []) rfl rfl (oc_assign (x := .val _) rfl rfl) trivial ?_
          refine ck_nil ?_
          refine aw_ret ?_
          exact ⟨.inl rfl, ResOk.tmp rfl (vi_eq (by unfold popsI; rw [if_neg h1, if_neg h2, if_neg h3, if_pos h4])), trivial⟩
        · have h4 : ¬ (getZ t.funcs x.2 < 0 ∨ getZ t.funcs x.2 ≥ (t.params.length : Int)) := by
            simp only [Bool.or_eq_false_iff, decide_eq_false_iff_not] at hb
            rintro (h | h)
            · exact hb.1 h
            · exact hb.2 h
          have h5 : 0 ≤ t.funcs.getD x.2.toNat 0 ∧ t.funcs.getD x.2.toNat 0 < (t.params.length : Int) := by unfold getZ at h4; omega
          refine aw_skip ?_
          refine aw_seq ?_
          refine aw_text rfl ?_
          refine ch_v (R := []) rfl rfl (oc_fieldAddr (off := 13) rfl rfl rfl (by kernel_rfl) rfl) trivial ?_
          refine ch_v (R := []) rfl rfl (oc_load rfl rfl (by kernel_rfl) cells_sl) trivial ?_
          refine ch_v (R := []) rfl rfl (oc_move (x := .val _) rfl rfl) trivial ?_
          refine ch_v (R := []) rfl rfl (oc_index (j := (t.funcs.getD x.2.toNat 0).toNat) rfl rfl rfl (by kernel_rfl) (by omega) (by omega) rfl) trivial ?_
          refine ch_v (R := []) rfl rfl (oc_load rfl rfl (by kernel_rfl) cells_int) trivial ?_
          refine ch_v (R := []) rfl rfl (oc_assign (x := .val _) rfl rfl) trivial ?_
          refine ck_nil ?_
          refine aw_ret ?_
          exact ⟨.inl rfl, ResOk.tmp rfl (vi_eq (by unfold popsI; rw [if_neg h1, if_neg h2, if_neg h3, if_neg h4]; rfl)), trivial⟩
end Go.Proofs.Ytfipllnodgbghaa
namespace Go.Proofs.Ytfipllnodgbghaa
open Go.RowKit
set_option maxRecDepth 100000
set_option linter.unusedVariables false
set_option linter.unusedSimpArgs false
set_option maxHeartbeats 1600000 in
theorem own_pc (e : ExprP) : PC Try.prog 84 [exprAv e] (insAv (ownI e)) := by
  rw [exprAv_eq]
  refine FC.body 2 57 Try.func84 rfl (by kernel_rfl) ?_
  refine aw_seq ?_
  refine aw_text rfl ?_
  refine ch_v (R := []) rfl rfl (oc_box (x := .agg _) rfl rfl) trivial ?_
  refine ch_u rfl rfl (oc_alloc (zs := [.int .i64 0, .int .i64 0]) (cs := [.val _, .val _]) 0 rfl (by kernel_rfl) rfl rfl) ⟨rfl, trivial⟩ ?_
  refine ck_nil ?_
  refine aw_seq ?_
  refine aw_seq ?_
  refine aw_text rfl ?_
  refine ch_v (R := []) rfl rfl (oc_fieldAddr (off := 0) rfl rfl rfl (by kernel_rfl) rfl) trivial ?_
  refine ch_v (R := []) rfl rfl (oc_load rfl rfl (by kernel_rfl) cells_int) trivial ?_
  refine ck_nil ?_
  refine aw_block ?_
  refine aw_seq ?_
  refine aw_text rfl ?_
  refine ch_v (R := []) rfl rfl (oc_binZ rfl rfl rfl rfl) trivial ?_
  refine ch_v (R := []) rfl rfl (oc_assign (x := .val _) rfl rfl) trivial ?_
  refine ck_nil ?_
  refine aw_cond rfl (fun hb => ?_) (fun hb => ?_)
  · have k1 : e.kind = 1 := by simpa using hb
    refine aw_seq ?_
    refine aw_text rfl ?_
    refine ch_v (R := []) rfl rfl (oc_fieldAddr (off := 2) rfl rfl rfl (by kernel_rfl) rfl) trivial ?_
    refine ch_v (R := []) rfl rfl (oc_load rfl rfl (by kernel_rfl) cells_int) trivial ?_
    refine ch_v (R := []) rfl rfl (oc_call rfl (by kernel_rfl) (code_pc 1 (e.num)) rfl (by simp only [PureL, Pure, and_self, pure_slI, pure_slS, pure_tab, expr_pure, exprs_pure, stmt_pure, stmts_pure, code_pure, insAv, implies_true]) (by simp only [PureL, Pure, and_self, pure_slI, pure_slS, pure_tab, expr_pure, exprs_pure, stmt_pure, stmts_pure, code_pure, insAv, implies_true])) trivial ?_
    refine ch_n rfl rfl (oc_store_row (x := .agg _) (cs' := [_, _]) rfl rfl rfl rfl (by kernel_rfl) (by first | decide | exact Nat.le_of_ble_eq_true rfl | simp) (by first | decide | exact Nat.le_of_ble_eq_true rfl | simp) rfl) ⟨rfl, trivial⟩ ?_
    refine ck_nil ?_
    refine aw_ret ?_
    exact ⟨.inl rfl, by rw [ins_eq (show ownI e = (1, e.num) by unfold ownI; rw [if_pos k1])]; exact ResOk.cell rfl rfl rfl (by kernel_rfl) (by kernel_rfl) (Nat.le_of_ble_eq_true rfl), trivial⟩
  · have k1 : ¬ e.kind = 1 := by simpa using hb
    refine aw_seq ?_
    refine aw_text rfl ?_
    refine ch_v (R := []) rfl rfl (oc_binZ rfl rfl rfl rfl) trivial ?_
    refine ch_v (R := []) rfl rfl (oc_assign (x := .val _) rfl rfl) trivial ?_
    refine ck_nil ?_
    refine aw_cond rfl (fun hb => ?_) (fun hb => ?_)
    · have k14 : e.kind = 14 := by simpa using hb
      refine aw_seq ?_
      refine aw_text rfl ?_
      refine ch_v (R := []) rfl rfl (oc_fieldAddr (off := 2) rfl rfl rfl (by kernel_rfl) rfl) trivial ?_
      refine ch_v (R := []) rfl rfl (oc_load rfl rfl (by kernel_rfl) cells_int) trivial ?_
      refine ch_v (R := []) rfl rfl (oc_call rfl (by kernel_rfl) (code_pc 3 (e.num)) rfl (by simp only [PureL, Pure, and_self, pure_slI, pure_slS, pure_tab, expr_pure, exprs_pure, stmt_pure, stmts_pure, code_pure, insAv, implies_true]) (by simp only [PureL, Pure, and_self, pure_slI, pure_slS, pure_tab, expr_pure, exprs_pure, stmt_pure, stmts_pure, code_pure, insAv, implies_true])) trivial ?_
      refine ch_n rfl rfl (oc_store_row (x := .agg _) (cs' := [_, _]) rfl rfl rfl rfl (by kernel_rfl) (by first | decide | exact Nat.le_of_ble_eq_true rfl | simp) (by first | decide | exact Nat.le_of_ble_eq_true rfl | simp) rfl) ⟨rfl, trivial⟩ ?_
      refine ck_nil ?_
      refine aw_ret ?_
      exact ⟨.inl rfl, by rw [ins_eq (show ownI e = (3, e.num) by unfold ownI; rw [if_neg k1, if_pos k14])]; exact ResOk.cell rfl rfl rfl (by kernel_rfl) (by kernel_rfl) (Nat.le_of_ble_eq_true rfl), trivial⟩
    · have k14 : ¬ e.kind = 14 := by simpa using hb
      refine aw_seq ?_
      refine aw_text rfl ?_
      refine ch_v (R := []) rfl rfl (oc_binZ rfl rfl rfl rfl) trivial ?_
      refine ch_v (R := []) rfl rfl (oc_assign (x := .val _) rfl rfl) trivial ?_
      refine ck_nil ?_
      refine aw_cond rfl (fun hb => ?_) (fun hb => ?_)
      · have k15 : e.kind = 15 := by simpa using hb
        refine aw_seq ?_
        refine aw_text rfl ?_
        refine ch_v (R := []) rfl rfl (oc_fieldAddr (off := 2) rfl rfl rfl (by kernel_rfl) rfl) trivial ?_
        refine ch_v (R := []) rfl rfl (oc_load rfl rfl (by kernel_rfl) cells_int) trivial ?_
        refine ch_v (R := []) rfl rfl (oc_call rfl (by kernel_rfl) (code_pc 5 (e.num)) rfl (by simp only [PureL, Pure, and_self, pure_slI, pure_slS, pure_tab, expr_pure, exprs_pure, stmt_pure, stmts_pure, code_pure, insAv, implies_true]) (by simp only [PureL, Pure, and_self, pure_slI, pure_slS, pure_tab, expr_pure, exprs_pure, stmt_pure, stmts_pure, code_pure, insAv, implies_true])) trivial ?_
        refine ch_n rfl rfl (oc_store_row (x := .agg _) (cs' := [_, _]) rfl rfl rfl rfl (by kernel_rfl) (by first | decide | exact Nat.le_of_ble_eq_true rfl | simp) (by first | decide | exact Nat.le_of_ble_eq_true rfl | simp) rfl) ⟨rfl, trivial⟩ ?_
        refine ck_nil ?_
        refine aw_ret ?_
        exact ⟨.inl rfl, by rw [ins_eq (show ownI e = (5, e.num) by unfold ownI; rw [if_neg k1, if_neg k14, if_pos k15])]; exact ResOk.cell rfl rfl rfl (by kernel_rfl) (by kernel_rfl) (Nat.le_of_ble_eq_true rfl), trivial⟩
      · have k15 : ¬ e.kind = 15 := by simpa using hb
        refine aw_seq ?_
        refine aw_text rfl ?_
        refine ch_v (R := []) rfl rfl (oc_binZ rfl rfl rfl rfl) trivial ?_
        refine ch_v (R := []) rfl rfl (oc_assign (x := .val _) rfl rfl) trivial ?_
        refine ck_nil ?_
        refine aw_cond rfl (fun hb => ?_) (fun hb => ?_)
        · have k12 : e.kind = 12 := by simpa using hb
          refine aw_seq ?_
          refine aw_text rfl ?_
          refine ch_v (R := []) rfl rfl (oc_fieldAddr (off := 1) rfl rfl rfl (by kernel_rfl) rfl) trivial ?_
          refine ch_v (R := []) rfl rfl (oc_load rfl rfl (by kernel_rfl) cells_int) trivial ?_
          refine ch_v (R := []) rfl rfl (oc_call rfl (by kernel_rfl) (code_pc 7 (e.op)) rfl (by simp only [PureL, Pure, and_self, pure_slI, pure_slS, pure_tab, expr_pure, exprs_pure, stmt_pure, stmts_pure, code_pure, insAv, implies_true]) (by simp only [PureL, Pure, and_self, pure_slI, pure_slS, pure_tab, expr_pure, exprs_pure, stmt_pure, stmts_pure, code_pure, insAv, implies_true])) trivial ?_
          refine ch_n rfl rfl (oc_store_row (x := .agg _) (cs' := [_, _]) rfl rfl rfl rfl (by kernel_rfl) (by first | decide | exact Nat.le_of_ble_eq_true rfl | simp) (by first | decide | exact Nat.le_of_ble_eq_true rfl | simp) rfl) ⟨rfl, trivial⟩ ?_
          refine ck_nil ?_
          refine aw_ret ?_
          exact ⟨.inl rfl, by rw [ins_eq (show ownI e = (7, e.op) by unfold ownI; rw [if_neg k1, if_neg k14, if_neg k15, if_pos k12])]; exact ResOk.cell rfl rfl rfl (by kernel_rfl) (by kernel_rfl) (Nat.le_of_ble_eq_true rfl), trivial⟩
        · have k12 : ¬ e.kind = 12 := by simpa using hb
          refine aw_seq ?_
          refine aw_text rfl ?_
          refine ch_v (R := []) rfl rfl (oc_binZ rfl rfl rfl rfl) trivial ?_
          refine ch_v (R := []) rfl rfl (oc_assign (x := .val _) rfl rfl) trivial ?_
          refine ck_nil ?_
          refine aw_cond rfl (fun hb => ?_) (fun hb => ?_)
          · have k4 : e.kind = 4 := by simpa using hb
            refine aw_seq ?_
            refine aw_text rfl ?_
            refine ch_v (R := []) rfl rfl (oc_call rfl (by kernel_rfl) (code_pc 9 (0)) rfl (by simp only [PureL, Pure, and_self, pure_slI, pure_slS, pure_tab, expr_pure, exprs_pure, stmt_pure, stmts_pure, code_pure, insAv, implies_true]) (by simp only [PureL, Pure, and_self, pure_slI, pure_slS, pure_tab, expr_pure, exprs_pure, stmt_pure, stmts_pure, code_pure, insAv, implies_true])) trivial ?_
            refine ch_n rfl rfl (oc_store_row (x := .agg _) (cs' := [_, _]) rfl rfl rfl rfl (by kernel_rfl) (by first | decide | exact Nat.le_of_ble_eq_true rfl | simp) (by first | decide | exact Nat.le_of_ble_eq_true rfl | simp) rfl) ⟨rfl, trivial⟩ ?_
            refine ck_nil ?_
            refine aw_ret ?_
            exact ⟨.inl rfl, by rw [ins_eq (show ownI e = (9, 0) by unfold ownI; rw [if_neg k1, if_neg k14, if_neg k15, if_neg k12, if_pos k4])]; exact ResOk.cell rfl rfl rfl (by kernel_rfl) (by kernel_rfl) (Nat.le_of_ble_eq_true rfl), trivial⟩
          · have k4 : ¬ e.kind = 4 := by simpa using hb
            refine aw_seq ?_
            refine aw_text rfl ?_
            refine ch_v (R := []) rfl rfl (oc_binZ rfl rfl rfl rfl) trivial ?_
            refine ch_v (R := []) rfl rfl (oc_assign (x := .val _) rfl rfl) trivial ?_
            refine ck_nil ?_
            refine aw_cond rfl (fun hb => ?_) (fun hb => ?_)
            · have k5 : e.kind = 5 := by simpa using hb
              refine aw_seq ?_
              refine aw_text rfl ?_
              refine ch_v (R := []) rfl rfl (oc_call rfl (by kernel_rfl) (code_pc 10 (0)) rfl (by simp only [PureL, Pure, and_self, pure_slI, pure_slS, pure_tab, expr_pure, exprs_pure, stmt_pure, stmts_pure, code_pure, insAv, implies_true]) (by simp only [PureL, Pure, and_self, pure_slI, pure_slS, pure_tab, expr_pure, exprs_pure, stmt_pure, stmts_pure, code_pure, insAv, implies_true])) trivial ?_
              refine ch_n rfl rfl (oc_store_row (x := .agg _) (cs' := [_, _]) rfl rfl rfl rfl (by kernel_rfl) (by first | decide | exact Nat.le_of_ble_eq_true rfl | simp) (by first | decide | exact Nat.le_of_ble_eq_true rfl | simp) rfl) ⟨rfl, trivial⟩ ?_
              refine ck_nil ?_
              refine aw_ret ?_
              exact ⟨.inl rfl, by rw [ins_eq (show ownI e = (10, 0) by unfold ownI; rw [if_neg k1, if_neg k14, if_neg k15, if_neg k12, if_neg k4, if_pos k5])]; exact ResOk.cell rfl rfl rfl (by kernel_rfl) (by kernel_rfl) (Nat.le_of_ble_eq_true rfl), trivial⟩
            · have k5 : ¬ e.kind = 5 := by simpa using hb
              refine aw_seq ?_
              refine aw_text rfl ?_
              refine ch_v (R := []) rfl rfl (oc_binZ rfl rfl rfl rfl) trivial ?_
              refine ch_v (R := []) rfl rfl (oc_assign (x := .val _) rfl rfl) trivial ?_
              refine ck_nil ?_
              refine aw_cond rfl (fun hb => ?_) (fun hb => ?_)
              · have k11 : e.kind = 11 := by simpa using hb
                refine aw_seq ?_
                refine aw_text rfl ?_
                refine ch_v (R := []) rfl rfl (oc_call rfl (by kernel_rfl) (code_pc 20 (0)) rfl (by simp only [PureL, Pure, and_self, pure_slI, pure_slS, pure_tab, expr_pure, exprs_pure, stmt_pure, stmts_pure, code_pure, insAv, implies_true]) (by simp only [PureL, Pure, and_self, pure_slI, pure_slS, pure_tab, expr_pure, exprs_pure, stmt_pure, stmts_pure, code_pure, insAv, implies_true])) trivial ?_
                refine ch_n rfl rfl (oc_store_row (x := .agg _) (cs' := [_, _]) rfl rfl rfl rfl (by kernel_rfl) (by first | decide | exact Nat.le_of_ble_eq_true rfl | simp) (by first | decide | exact Nat.le_of_ble_eq_true rfl | simp) rfl) ⟨rfl, trivial⟩ ?_
                refine ck_nil ?_
                refine aw_ret ?_
                exact ⟨.inl rfl, by rw [ins_eq (show ownI e = (20, 0) by unfold ownI; rw [if_neg k1, if_neg k14, if_neg k15, if_neg k12, if_neg k4, if_neg k5, if_pos k11])]; exact ResOk.cell rfl rfl rfl (by kernel_rfl) (by kernel_rfl) (Nat.le_of_ble_eq_true rfl), trivial⟩
              · have k11 : ¬ e.kind = 11 := by simpa using hb
                refine aw_seq ?_
                refine aw_text rfl ?_
                refine ch_v (R := []) rfl rfl (oc_binZ rfl rfl rfl rfl) trivial ?_
                refine ch_v (R := []) rfl rfl (oc_assign (x := .val _) rfl rfl) trivial ?_
                refine ck_nil ?_
                refine aw_cond rfl (fun hb => ?_) (fun hb => ?_)
                · have k6 : e.kind = 6 := by simpa using hb
                  refine aw_seq ?_
                  refine aw_text rfl ?_
                  refine ch_v (R := []) rfl rfl (oc_fieldAddr (off := 1) rfl rfl rfl (by kernel_rfl) rfl) trivial ?_
                  refine ch_v (R := []) rfl rfl (oc_load rfl rfl (by kernel_rfl) cells_int) trivial ?_
                  refine ch_v (R := []) rfl rfl (oc_call rfl (by kernel_rfl) (code_pc 8 (e.op)) rfl (by simp only [PureL, Pure, and_self, pure_slI, pure_slS, pure_tab, expr_pure, exprs_pure, stmt_pure, stmts_pure, code_pure, insAv, implies_true]) (by simp only [PureL, Pure, and_self, pure_slI, pure_slS, pure_tab, expr_pure, exprs_pure, stmt_pure, stmts_pure, code_pure, insAv, implies_true])) trivial ?_
                  refine ch_n rfl rfl (oc_store_row (x := .agg _) (cs' := [_, _]) rfl rfl rfl rfl (by kernel_rfl) (by first | decide | exact Nat.le_of_ble_eq_true rfl | simp) (by first | decide | exact Nat.le_of_ble_eq_true rfl | simp) rfl) ⟨rfl, trivial⟩ ?_
                  refine ck_nil ?_
                  refine aw_ret ?_
                  exact ⟨.inl rfl, by rw [ins_eq (show ownI e = (8, e.op) by unfold ownI; rw [if_neg k1, if_neg k14, if_neg k15, if_neg k12, if_neg k4, if_neg k5, if_neg k11, if_pos k6])]; exact ResOk.cell rfl rfl rfl (by kernel_rfl) (by kernel_rfl) (Nat.le_of_ble_eq_true rfl), trivial⟩
                · have k6 : ¬ e.kind = 6 := by simpa using hb
                  refine aw_seq ?_
                  refine aw_text rfl ?_
                  refine ch_v (R := []) rfl rfl (oc_binZ rfl rfl rfl rfl) trivial ?_
                  refine ch_v (R := []) rfl rfl (oc_assign (x := .val _) rfl rfl) trivial ?_
                  refine ck_nil ?_
                  refine aw_cond rfl (fun hb => ?_) (fun hb => ?_)
                  · have k16 : e.kind = 16 := by simpa using hb
                    refine aw_seq ?_
                    refine aw_text rfl ?_
                    refine ch_v (R := []) rfl rfl (oc_fieldAddr (off := 2) rfl rfl rfl (by kernel_rfl) rfl) trivial ?_
                    refine ch_v (R := []) rfl rfl (oc_load rfl rfl (by kernel_rfl) cells_int) trivial ?_
                    refine ch_v (R := []) rfl rfl (oc_call rfl (by kernel_rfl) (code_pc 12 (e.num)) rfl (by simp only [PureL, Pure, and_self, pure_slI, pure_slS, pure_tab, expr_pure, exprs_pure, stmt_pure, stmts_pure, code_pure, insAv, implies_true]) (by simp only [PureL, Pure, and_self, pure_slI, pure_slS, pure_tab, expr_pure, exprs_pure, stmt_pure, stmts_pure, code_pure, insAv, implies_true])) trivial ?_
                    refine ch_n rfl rfl (oc_store_row (x := .agg _) (cs' := [_, _]) rfl rfl rfl rfl (by kernel_rfl) (by first | decide | exact Nat.le_of_ble_eq_true rfl | simp) (by first | decide | exact Nat.le_of_ble_eq_true rfl | simp) rfl) ⟨rfl, trivial⟩ ?_
                    refine ck_nil ?_
                    refine aw_ret ?_
                    exact ⟨.inl rfl, by rw [ins_eq (show ownI e = (12, e.num) by unfold ownI; rw [if_neg k1, if_neg k14, if_neg k15, if_neg k12, if_neg k4, if_neg k5, if_neg k11, if_neg k6, if_pos k16])]; exact ResOk.cell rfl rfl rfl (by kernel_rfl) (by kernel_rfl) (Nat.le_of_ble_eq_true rfl), trivial⟩
                  · have k16 : ¬ e.kind = 16 := by simpa using hb
                    refine aw_seq ?_
                    refine aw_text rfl ?_
                    refine ch_v (R := []) rfl rfl (oc_binZ rfl rfl rfl rfl) trivial ?_
                    refine ch_v (R := []) rfl rfl (oc_assign (x := .val _) rfl rfl) trivial ?_
                    refine ck_nil ?_
                    refine aw_cond rfl (fun hb => ?_) (fun hb => ?_)
                    · have k17 : e.kind = 17 := by simpa using hb
                      refine aw_seq ?_
                      refine aw_text rfl ?_
                      refine ch_v (R := []) rfl rfl (oc_fieldAddr (off := 2) rfl rfl rfl (by kernel_rfl) rfl) trivial ?_
                      refine ch_v (R := []) rfl rfl (oc_load rfl rfl (by kernel_rfl) cells_int) trivial ?_
                      refine ch_v (R := []) rfl rfl (oc_call rfl (by kernel_rfl) (code_pc 13 (e.num)) rfl (by simp only [PureL, Pure, and_self, pure_slI, pure_slS, pure_tab, expr_pure, exprs_pure, stmt_pure, stmts_pure, code_pure, insAv, implies_true]) (by simp only [PureL, Pure, and_self, pure_slI, pure_slS, pure_tab, expr_pure, exprs_pure, stmt_pure, stmts_pure, code_pure, insAv, implies_true])) trivial ?_
                      refine ch_n rfl rfl (oc_store_row (x := .agg _) (cs' := [_, _]) rfl rfl rfl rfl (by kernel_rfl) (by first | decide | exact Nat.le_of_ble_eq_true rfl | simp) (by first | decide | exact Nat.le_of_ble_eq_true rfl | simp) rfl) ⟨rfl, trivial⟩ ?_
                      refine ck_nil ?_
                      refine aw_ret ?_
                      exact ⟨.inl rfl, by rw [ins_eq (show ownI e = (13, e.num) by unfold ownI; rw [if_neg k1, if_neg k14, if_neg k15, if_neg k12, if_neg k4, if_neg k5, if_neg k11, if_neg k6, if_neg k16, if_pos k17])]; exact ResOk.cell rfl rfl rfl (by kernel_rfl) (by kernel_rfl) (Nat.le_of_ble_eq_true rfl), trivial⟩
                    · have k17 : ¬ e.kind = 17 := by simpa using hb
                      refine aw_seq ?_
                      refine aw_text rfl ?_
                      refine ch_v (R := []) rfl rfl (oc_binZ rfl rfl rfl rfl) trivial ?_
                      refine ch_v (R := []) rfl rfl (oc_assign (x := .val _) rfl rfl) trivial ?_
                      refine ck_nil ?_
                      refine aw_cond rfl (fun hb => ?_) (fun hb => ?_)
                      · have k18 : e.kind = 18 := by simpa using hb
                        refine aw_seq ?_
                        refine aw_text rfl ?_
                        refine ch_v (R := []) rfl rfl (oc_fieldAddr (off := 2) rfl rfl rfl (by kernel_rfl) rfl) trivial ?_
                        refine ch_v (R := []) rfl rfl (oc_load rfl rfl (by kernel_rfl) cells_int) trivial ?_
                        refine ch_v (R := []) rfl rfl (oc_call rfl (by kernel_rfl) (code_pc 26 (e.num)) rfl (by simp only [PureL, Pure, and_self, pure_slI, pure_slS, pure_tab, expr_pure, exprs_pure, stmt_pure, stmts_pure, code_pure, insAv, implies_true]) (by simp only [PureL, Pure, and_self, pure_slI, pure_slS, pure_tab, expr_pure, exprs_pure, stmt_pure, stmts_pure, code_pure, insAv, implies_true])) trivial ?_
                        refine ch_n rfl rfl (oc_store_row (x := .agg _) (cs' := [_, _]) rfl rfl rfl rfl (by kernel_rfl) (by first | decide | exact Nat.le_of_ble_eq_true rfl | simp) (by first | decide | exact Nat.le_of_ble_eq_true rfl | simp) rfl) ⟨rfl, trivial⟩ ?_
                        refine ck_nil ?_
                        refine aw_ret ?_
                        exact ⟨.inl rfl, by rw [ins_eq (show ownI e = (26, e.num) by unfold ownI; rw [if_neg k1, if_neg k14, if_neg k15, if_neg k12, if_neg k4, if_neg k5, if_neg k11, if_neg k6, if_neg k16, if_neg k17, if_pos k18])]; exact ResOk.cell rfl rfl rfl (by kernel_rfl) (by kernel_rfl) (Nat.le_of_ble_eq_true rfl), trivial⟩
                      · have k18 : ¬ e.kind = 18 := by simpa using hb
                        refine aw_skip ?_
                        refine aw_seq ?_
                        refine aw_text rfl ?_
                        refine ch_v (R := []) rfl rfl (oc_fieldAddr (off := 1) rfl rfl rfl (by kernel_rfl) rfl) trivial ?_
                        refine ch_v (R := []) rfl rfl (oc_load rfl rfl (by kernel_rfl) cells_int) trivial ?_
                        refine ch_v (R := []) rfl rfl (oc_call rfl (by kernel_rfl) (code_pc 19 e.op) rfl (by simp only [PureL, Pure, and_self, pure_slI, pure_slS, pure_tab, expr_pure, exprs_pure, stmt_pure, stmts_pure, code_pure, insAv, implies_true]) (by simp only [PureL, Pure, and_self, pure_slI, pure_slS, pure_tab, expr_pure, exprs_pure, stmt_pure, stmts_pure, code_pure, insAv, implies_true])) trivial ?_
                        refine ch_n rfl rfl (oc_store_row (x := .agg _) (cs' := [_, _]) rfl rfl rfl rfl (by kernel_rfl) (by first | decide | exact Nat.le_of_ble_eq_true rfl | simp) (by first | decide | exact Nat.le_of_ble_eq_true rfl | simp) rfl) ⟨rfl, trivial⟩ ?_
                        refine ck_nil ?_
                        refine aw_ret ?_
                        exact ⟨.inl rfl, by rw [ins_eq (show ownI e = (19, e.op) by unfold ownI; rw [if_neg k1, if_neg k14, if_neg k15, if_neg k12, if_neg k4, if_neg k5, if_neg k11, if_neg k6, if_neg k16, if_neg k17, if_neg k18])]; exact ResOk.cell rfl rfl rfl (by kernel_rfl) (by kernel_rfl) (Nat.le_of_ble_eq_true rfl), trivial⟩
set_option maxHeartbeats 800000 in
theorem join_pc (a b : List InsP) (ha : a.length ≤ 1000000000) (hb0 : b.length ≤ 1000000000) : PC Try.prog 19 [codeAv a, codeAv b] (codeAv (a ++ b)) := by
  refine FC.body 4 10 Try.func19 rfl (by kernel_rfl) ?_
  refine aw_seq ?_
  refine aw_text rfl ?_
  refine ch_v (R := []) rfl rfl (oc_assign (x := .val _) rfl rfl) trivial ?_
  refine ck_nil ?_
  refine aw_seq ?_
  refine aw_text rfl ?_
  refine ch_u rfl rfl (oc_buildSlice_ownK (ps := []) (xs := []) (e := 40) (k := 2) (by_ := 16) (zs := [.int .i64 0, .int .i64 0]) 0 rfl (by kernel_rfl) (by kernel_rfl) rfl rfl (by decide) (fun z hz => by first | cases hz | (simp only [List.mem_cons, List.not_mem_nil, or_false] at hz; subst hz; rfl)) rfl (by decide) (by decide)) ⟨rfl, trivial⟩ ?_
  refine ch_v (R := []) rfl rfl (oc_move (x := .sl _ _ _) rfl rfl) trivial ?_
  refine ch_u rfl rfl (oc_append (e := 40) (k := 2) (by_ := 16) (zs := [.int .i64 0, .int .i64 0]) (cs := []) (ds := ins2 a) 1 rfl rfl rfl (by kernel_rfl) (by kernel_rfl) rfl (by decide) (by decide) rfl (by rw [ins2_len]) (app_ins2 a) (by omega) (by omega)) ⟨rfl, rfl, trivial⟩ ?_
  refine ch_v (R := []) rfl rfl (oc_move (x := .sl _ _ _) rfl rfl) trivial ?_
  refine ch_u rfl rfl (oc_append (e := 40) (k := 2) (by_ := 16) (zs := [.int .i64 0, .int .i64 0]) (cs := ins2 a) (ds := ins2 b) 2 rfl rfl rfl (by kernel_rfl) (by kernel_rfl) rfl (by decide) (by decide) (by rw [ins2_len]; omega) (by rw [ins2_len]) (app_ins2 b) (by omega) (by omega)) ⟨rfl, rfl, trivial⟩ ?_
  refine ch_v (R := []) rfl rfl (oc_assign (x := .osl _ _ _) rfl rfl) trivial ?_
  refine ck_nil ?_
  refine aw_le (Le.freezeI 4 2 (a ++ b) (by show Av.osl 2 2 _ = _; rw [List.length_append]; congr 1; omega) (by rw [ins2_app]; rfl)) ?_
  refine aw_ret ?_
  exact ⟨.inl rfl, ResOk.tmp rfl rfl, trivial⟩
set_option maxHeartbeats 800000 in
theorem known_pc (n : Int) : PC Try.prog 63 [vi n] (vb (decide (n ≥ 1) && decide (n ≤ 38))) := by
  refine FC.body 2 9 Try.func63 rfl (by kernel_rfl) ?_
  refine aw_seq ?_
  refine aw_text rfl ?_
  refine ch_v (R := []) rfl rfl (oc_assign (x := .val _) rfl rfl) trivial ?_
  refine ck_nil ?_
  refine aw_seq ?_
  refine aw_text rfl ?_
  refine ch_v (R := []) rfl rfl (oc_move (x := .val _) rfl rfl) trivial ?_
  refine ch_v (R := []) rfl rfl (oc_binZ rfl rfl rfl rfl) trivial ?_
  refine ch_v (R := []) rfl rfl (oc_move (x := .val _) rfl rfl) trivial ?_
  refine ch_g (R := []) rfl rfl rfl gate_t (fun hC => oc_move (x := .val _) rfl rfl) (fun hC => ⟨(by first | rfl | exact hC | (simp only [Bool.and_eq_true] at hC; first | exact hC.1 | exact hC.1.1 | exact hC.2) | simp_all), trivial⟩) trivial ?_
  refine ch_g (R := []) rfl rfl rfl gate_t (fun hC => oc_binZ rfl rfl rfl rfl) (fun hC => ⟨(by first | rfl | exact hC | (simp only [Bool.and_eq_true] at hC; first | exact hC.1 | exact hC.1.1 | exact hC.2) | simp_all), (by first | rfl | exact hC | (simp only [Bool.and_eq_true] at hC; first | exact hC.1 | exact hC.1.1 | exact hC.2) | simp_all), trivial⟩) trivial ?_
  refine ch_v (R := []) rfl rfl (oc_and rfl rfl rfl rfl (by first | exact fun h => h | simp_all)) trivial ?_
  refine ch_v (R := []) rfl rfl (oc_assign (x := .val _) rfl rfl) trivial ?_
  refine ck_nil ?_
  refine aw_ret ?_
  exact ⟨.inl rfl, ResOk.tmp rfl rfl, trivial⟩
end Go.Proofs.Ytfipllnodgbghaa
