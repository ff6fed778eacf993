/- Chapter 8: the examples, walked. Chapter 8: contracts at a made pool. -/
import Derived.Test.YtpbaiighifhfnaaDoorPn
import Derived.Test.YtpbaiighifhfnaaDoorBcg
import Derived.Test.YtpbaiighifhfnaaDoorProg
import Derived.KernelRfl
namespace Go.Proofs.YtpbaiighifhfnaaDoor
open Go.RowKit
set_option maxRecDepth 100000
set_option linter.unusedVariables false
set_option linter.unusedSimpArgs false
theorem slI_of (l : List Int) (E : Env) (v : Value) (h : Rep E (.sl 1 l.length (rowL (l.map vi))) v) : Rep E (slI l) v := rep_rows (fun E j hj v hv => by
  have e : rowL (l.map vi) j = vi (l.getD j 0) := by
    show (l.map vi).getD j .any = _
    rw [List.getD, List.getElem?_map, List.getD, List.getElem?_eq_getElem hj]
    rfl
  rwa [e] at hv) E v h
def exL : List ByteArray := [(⟨#[108, 97, 109, 112]⟩ : ByteArray), (⟨#[111, 105, 108, 32, 108, 97, 109, 112]⟩ : ByteArray)]
def exTab : List ByteArray := [(⟨#[9]⟩ : ByteArray)]
def ex5 : PoolP := ⟨[], [5], []⟩
theorem ex5_to (E : Env) (v : Value) (h : Rep E (.agg [.val (.slice none 0 0), slI [5], .val (.slice none 0 0)]) v) : Rep E (poolAv ex5) v := rep_agg (ys := [slS [], slI [5], bs []]) h rfl fun E i x y hx hy v h => by
  rcases i with _ | _ | _ | i <;> simp at hx hy <;> subst hx <;> subst hy <;> first | exact h | exact rep_nil (by decide) E v h
theorem exL_good : Good8 exL := ⟨by decide, by decide, fun j hj => by
  rcases j with _ | _ | j
  · decide
  · decide
  · exact absurd hj (by show ¬ j + 2 < 2; omega)⟩
noncomputable def exP : PoolP := (makeP exL).1
theorem exM_pc : PC Tryd.prog 10 [slS exL] (.tup [poolAv exP, vi 0]) := by
  have := make_pl_pc exL exL_good.wt
  rwa [g_err exL_good] at this
theorem exTab_is : makeP exTab = (noPool, 13) := make_text (by decide) (k := 0) (by decide) (by decide)
theorem exM2_pc : PC Tryd.prog 10 [slS exTab] (.tup [poolAv noPool, vi 13]) := by
  have := make_pl_pc exTab (by decide)
  rwa [exTab_is] at this
theorem exP_hyp : exP.at_.length = 2 ∧ exP.bytes.length ≤ 3844 ∧ Bts exP.bytes ∧ (∀ i, (bytesP exP i).1.length ≤ 5000) ∧ (∀ k, (exP.abbrevs.getD k ByteArray.empty).size ≤ 1000) ∧ exP.abbrevs.length ≤ 31 := by
  have h1 := g_len exL_good
  have h2 := g_sz exL_good
  exact ⟨h1.1, h1.2, make_bts _, fun i => Nat.le_trans (g_over exL_good i) (by omega), fun k => Nat.le_trans (h2.1 k) (by omega), h2.2⟩
theorem ex1_pc : PC Tryd.prog 14 [poolAv exP, vi 1] (.tup [vs (⟨#[111, 105, 108, 32, 108, 97, 109, 112]⟩ : ByteArray), vi 0]) := by
  obtain ⟨h1, h2, h3, h4, h5, h6⟩ := exP_hyp
  have := ptext_pc exP 1 (by omega) (by omega) h3 (h4 1) h5 (by omega)
  have e : poolTx exP 1 = ((⟨#[111, 105, 108, 32, 108, 97, 109, 112]⟩ : ByteArray), 0) := g_text exL_good (k := 1) (by decide)
  rwa [e] at this
theorem ex2_pc : PC Tryd.prog 14 [poolAv exP, vi 2] (.tup [vs ByteArray.empty, vi 11]) := by
  obtain ⟨h1, h2, h3, h4, h5, h6⟩ := exP_hyp
  have := ptext_pc exP 2 (by omega) (by omega) h3 (h4 2) h5 (by omega)
  have e : bytesP exP 2 = ([], 11) := bytesP_none (.inr (by omega))
  have e2 : poolTx exP 2 = (ByteArray.empty, 11) := by rw [tx_e1 (by rw [e]; decide), e]
  rwa [e2] at this
theorem ex3_pc : PC Tryd.prog 14 [poolAv ex5, vi 0] (.tup [vs ByteArray.empty, vi 5]) := by
  have e : bytesP ex5 0 = ([], 5) := by decide
  have := ptext_pc ex5 0 (by decide) (by decide) (fun c hc => by cases hc) (by rw [e]; decide) (fun k => Nat.zero_le _) (by decide)
  have e2 : poolTx ex5 0 = (ByteArray.empty, 5) := by rw [tx_e1 (by rw [e]; decide), e]
  rwa [e2] at this
theorem exN_pc : PC Tryd.prog 24 [poolAv exP] (vi 2) := by
  have := count_pl_pc exP
  rwa [exP_hyp.1] at this
set_option maxHeartbeats 800000 in
theorem awake8_pc  : PC Tryd.prog 9 [] (vb true) := by
  refine FC.body 4 64 Tryd.func9 rfl (by kernel_rfl) ?_
  refine aw_seq ?_
  refine aw_text rfl ?_
  refine ch_v (R := []) rfl rfl (oc_assign (x := .val _) rfl rfl) trivial ?_
  refine ck_nil ?_
  refine aw_seq ?_
  refine aw_text rfl ?_
  refine ch_v (R := []) rfl rfl (OC.to (oc_buildSlice (ps := [_, _]) (xs := [.val _, .val _]) (e := 9) (k := 1) (by_ := 16) (zs := [.string ⟨#[]⟩]) rfl (by kernel_rfl) (by kernel_rfl) rfl rfl rfl (by decide) (by decide)) (slS_of exL)) trivial ?_
  refine ch_v (R := []) rfl rfl (oc_call rfl (by kernel_rfl) (exM_pc) rfl (by simp only [PureL, Pure, and_self, pure_slI, pure_slS, rowAv, pieces_pure, pool_pure, bs_pure, implies_true]) (by simp only [PureL, Pure, and_self, pure_slI, pure_slS, rowAv, pieces_pure, pool_pure, bs_pure, implies_true])) trivial ?_
  refine ch_v (R := []) rfl rfl (oc_move (x := .tup _) rfl rfl) trivial ?_
  refine ch_v (R := []) rfl rfl (oc_extract rfl rfl rfl) trivial ?_
  refine ch_v (R := []) rfl rfl (oc_extract rfl rfl rfl) trivial ?_
  refine ch_u rfl rfl (oc_alloc (zs := [.slice none 0 0, .slice none 0 0, .slice none 0 0]) (cs := [.val _, .val _, .val _]) 0 rfl (by kernel_rfl) rfl rfl) ⟨rfl, trivial⟩ ?_
  refine ch_n rfl rfl (oc_store_row (x := .agg _) (cs' := [_, _, _]) rfl rfl rfl rfl (by kernel_rfl) (by first | decide | exact Nat.le_of_ble_eq_true rfl | simp) (by first | decide | exact Nat.le_of_ble_eq_true rfl | simp) rfl) ⟨rfl, trivial⟩ ?_
  refine ch_v (R := []) rfl rfl (oc_assign (x := .val _) rfl rfl) trivial ?_
  refine ck_nil ?_
  refine aw_seq ?_
  refine aw_text rfl ?_
  refine ch_v (R := [(_, .live _ _)]) rfl rfl (oc_load_own_row (k := 3) (ds := [_, _, _]) rfl rfl (by kernel_rfl) (by kernel_rfl) rfl rfl (by decide)) ⟨rfl, trivial⟩ ?_
  refine ch_v (R := []) rfl rfl (oc_call rfl (by kernel_rfl) (ex1_pc) rfl (by simp only [PureL, Pure, and_self, pure_slI, pure_slS, rowAv, pieces_pure, pool_pure, bs_pure, implies_true]) (by simp only [PureL, Pure, and_self, pure_slI, pure_slS, rowAv, pieces_pure, pool_pure, bs_pure, implies_true])) trivial ?_
  refine ch_v (R := []) rfl rfl (oc_move (x := .tup _) rfl rfl) trivial ?_
  refine ch_v (R := []) rfl rfl (oc_extract rfl rfl rfl) trivial ?_
  refine ch_v (R := []) rfl rfl (oc_extract rfl rfl rfl) trivial ?_
  refine ch_v (R := []) rfl rfl (oc_assign (x := .val _) rfl rfl) trivial ?_
  refine ch_v (R := []) rfl rfl (oc_assign (x := .val _) rfl rfl) trivial ?_
  refine ck_nil ?_
  refine aw_seq ?_
  refine aw_text rfl ?_
  refine ch_v (R := [(_, .live _ _)]) rfl rfl (oc_load_own_row (k := 3) (ds := [_, _, _]) rfl rfl (by kernel_rfl) (by kernel_rfl) rfl rfl (by decide)) ⟨rfl, trivial⟩ ?_
  refine ch_v (R := []) rfl rfl (oc_call rfl (by kernel_rfl) (ex2_pc) rfl (by simp only [PureL, Pure, and_self, pure_slI, pure_slS, rowAv, pieces_pure, pool_pure, bs_pure, implies_true]) (by simp only [PureL, Pure, and_self, pure_slI, pure_slS, rowAv, pieces_pure, pool_pure, bs_pure, implies_true])) trivial ?_
  refine ch_v (R := []) rfl rfl (oc_move (x := .tup _) rfl rfl) trivial ?_
  refine ch_v (R := []) rfl rfl (oc_extract rfl rfl rfl) trivial ?_
  refine ch_v (R := []) rfl rfl (oc_extract rfl rfl rfl) trivial ?_
  refine ch_v (R := []) rfl rfl (oc_assign (x := .val _) rfl rfl) trivial ?_
  refine ch_v (R := []) rfl rfl (oc_assign (x := .val _) rfl rfl) trivial ?_
  refine ck_nil ?_
  refine aw_seq ?_
  refine aw_text rfl ?_
  refine ch_v (R := []) rfl rfl (OC.to (oc_buildSlice (ps := [_]) (xs := [.val _]) (e := 9) (k := 1) (by_ := 16) (zs := [.string ⟨#[]⟩]) rfl (by kernel_rfl) (by kernel_rfl) rfl rfl rfl (by decide) (by decide)) (slS_of exTab)) trivial ?_
  refine ch_v (R := []) rfl rfl (oc_call rfl (by kernel_rfl) (exM2_pc) rfl (by simp only [PureL, Pure, and_self, pure_slI, pure_slS, rowAv, pieces_pure, pool_pure, bs_pure, implies_true]) (by simp only [PureL, Pure, and_self, pure_slI, pure_slS, rowAv, pieces_pure, pool_pure, bs_pure, implies_true])) trivial ?_
  refine ch_v (R := []) rfl rfl (oc_move (x := .tup _) rfl rfl) trivial ?_
  refine ch_v (R := []) rfl rfl (oc_extract rfl rfl rfl) trivial ?_
  refine ch_v (R := []) rfl rfl (oc_extract rfl rfl rfl) trivial ?_
  refine ch_u rfl rfl (oc_alloc (zs := [.slice none 0 0, .slice none 0 0, .slice none 0 0]) (cs := [.val _, .val _, .val _]) 1 rfl (by kernel_rfl) rfl rfl) ⟨rfl, trivial⟩ ?_
  refine ch_n rfl rfl (oc_store_row (x := .agg _) (cs' := [_, _, _]) rfl rfl rfl rfl (by kernel_rfl) (by first | decide | exact Nat.le_of_ble_eq_true rfl | simp) (by first | decide | exact Nat.le_of_ble_eq_true rfl | simp) rfl) ⟨rfl, trivial⟩ ?_
  refine ch_v (R := []) rfl rfl (oc_assign (x := .val _) rfl rfl) trivial ?_
  refine ck_nil ?_
  refine aw_seq ?_
  refine aw_text rfl ?_
  refine ch_v (R := []) rfl rfl (OC.to (oc_buildSlice (ps := [_]) (xs := [.val _]) (e := 3) (k := 1) (by_ := 8) (zs := [.int .i64 0]) rfl (by kernel_rfl) (by kernel_rfl) rfl rfl rfl (by decide) (by decide)) (slI_of [5])) trivial ?_
  refine ch_v (R := []) rfl rfl (OC.to (oc_build (pl := [(0, 1), (1, 1), (2, 1)]) (zs := [.slice none 0 0, .slice none 0 0, .slice none 0 0]) (ds := [.val _, .sl _ _ _, .val _]) rfl (by kernel_rfl) rfl (by kernel_rfl) (by first | rfl | decide) rfl) (ex5_to)) trivial ?_
  refine ch_v (R := []) rfl rfl (oc_call rfl (by kernel_rfl) (ex3_pc) rfl (by simp only [PureL, Pure, and_self, pure_slI, pure_slS, rowAv, pieces_pure, pool_pure, bs_pure, implies_true]) (by simp only [PureL, Pure, and_self, pure_slI, pure_slS, rowAv, pieces_pure, pool_pure, bs_pure, implies_true])) trivial ?_
  refine ch_v (R := []) rfl rfl (oc_move (x := .tup _) rfl rfl) trivial ?_
  refine ch_v (R := []) rfl rfl (oc_extract rfl rfl rfl) trivial ?_
  refine ch_v (R := []) rfl rfl (oc_extract rfl rfl rfl) trivial ?_
  refine ch_v (R := []) rfl rfl (oc_assign (x := .val _) rfl rfl) trivial ?_
  refine ch_v (R := []) rfl rfl (oc_assign (x := .val _) rfl rfl) trivial ?_
  refine ck_nil ?_
  refine aw_seq ?_
  refine aw_text rfl ?_
  refine ch_v (R := []) rfl rfl (oc_move (x := .val _) rfl rfl) trivial ?_
  refine ch_v (R := []) rfl rfl (oc_binZ rfl rfl rfl rfl) trivial ?_
  refine ch_v (R := []) rfl rfl (oc_move (x := .val _) rfl rfl) trivial ?_
  refine ch_g (R := [(_, .live _ _)]) rfl rfl rfl gate_t (fun hC => oc_load_own_row (k := 3) (ds := [_, _, _]) rfl rfl (by kernel_rfl) (by kernel_rfl) rfl rfl (by decide)) (fun hC => ⟨(by first | rfl | exact hC | (simp only [Bool.and_eq_true] at hC; first | exact hC.1 | exact hC.1.1 | exact hC.2) | simp_all), trivial⟩) ⟨rfl, trivial⟩ ?_
  refine ch_g (R := []) rfl rfl rfl gate_t (fun hC => oc_call rfl (by kernel_rfl) (exN_pc) rfl (by simp only [PureL, Pure, and_self, pure_slI, pure_slS, rowAv, pieces_pure, pool_pure, bs_pure, implies_true]) (by simp only [PureL, Pure, and_self, pure_slI, pure_slS, rowAv, pieces_pure, pool_pure, bs_pure, implies_true])) (fun hC => ⟨(by first | rfl | exact hC | (simp only [Bool.and_eq_true] at hC; first | exact hC.1 | exact hC.1.1 | exact hC.2) | simp_all), (by first | rfl | exact hC | (simp only [Bool.and_eq_true] at hC; first | exact hC.1 | exact hC.1.1 | exact hC.2) | simp_all), trivial⟩) trivial ?_
  refine ch_g (R := []) rfl rfl rfl gate_t (fun hC => oc_binZ rfl rfl rfl rfl) (fun hC => ⟨(by first | rfl | exact hC | (simp only [Bool.and_eq_true] at hC; first | exact hC.1 | exact hC.1.1 | exact hC.2) | simp_all), (by first | rfl | exact hC | (simp only [Bool.and_eq_true] at hC; first | exact hC.1 | exact hC.1.1 | exact hC.2) | simp_all), trivial⟩) trivial ?_
  refine ch_v (R := []) rfl rfl (oc_and rfl rfl rfl rfl (by first | exact fun h => h | simp_all)) trivial ?_
  refine ch_v (R := []) rfl rfl (oc_move (x := .val _) rfl rfl) trivial ?_
  refine ch_g (R := []) rfl rfl rfl gate_t (fun hC => oc_move (x := .val _) rfl rfl) (fun hC => ⟨(by first | rfl | exact hC | (simp only [Bool.and_eq_true] at hC; first | exact hC.1 | exact hC.1.1 | exact hC.2) | simp_all), trivial⟩) trivial ?_
  refine ch_g (R := []) rfl rfl rfl gate_t (fun hC => oc_str_eq rfl rfl rfl) (fun hC => ⟨(by first | rfl | exact hC | (simp only [Bool.and_eq_true] at hC; first | exact hC.1 | exact hC.1.1 | exact hC.2) | simp_all), (by first | rfl | exact hC | (simp only [Bool.and_eq_true] at hC; first | exact hC.1 | exact hC.1.1 | exact hC.2) | simp_all), trivial⟩) trivial ?_
  refine ch_v (R := []) rfl rfl (oc_and rfl rfl rfl rfl (by first | exact fun h => h | simp_all)) trivial ?_
  refine ch_v (R := []) rfl rfl (oc_move (x := .val _) rfl rfl) trivial ?_
  refine ch_g (R := []) rfl rfl rfl gate_t (fun hC => oc_move (x := .val _) rfl rfl) (fun hC => ⟨(by first | rfl | exact hC | (simp only [Bool.and_eq_true] at hC; first | exact hC.1 | exact hC.1.1 | exact hC.2) | simp_all), trivial⟩) trivial ?_
  refine ch_g (R := []) rfl rfl rfl gate_t (fun hC => oc_binZ rfl rfl rfl rfl) (fun hC => ⟨(by first | rfl | exact hC | (simp only [Bool.and_eq_true] at hC; first | exact hC.1 | exact hC.1.1 | exact hC.2) | simp_all), (by first | rfl | exact hC | (simp only [Bool.and_eq_true] at hC; first | exact hC.1 | exact hC.1.1 | exact hC.2) | simp_all), trivial⟩) trivial ?_
  refine ch_v (R := []) rfl rfl (oc_and rfl rfl rfl rfl (by first | exact fun h => h | simp_all)) trivial ?_
  refine ch_v (R := []) rfl rfl (oc_move (x := .val _) rfl rfl) trivial ?_
  refine ch_g (R := []) rfl rfl rfl gate_t (fun hC => oc_move (x := .val _) rfl rfl) (fun hC => ⟨(by first | rfl | exact hC | (simp only [Bool.and_eq_true] at hC; first | exact hC.1 | exact hC.1.1 | exact hC.2) | simp_all), trivial⟩) trivial ?_
  refine ch_g (R := []) rfl rfl rfl gate_t (fun hC => oc_binZ rfl rfl rfl rfl) (fun hC => ⟨(by first | rfl | exact hC | (simp only [Bool.and_eq_true] at hC; first | exact hC.1 | exact hC.1.1 | exact hC.2) | simp_all), (by first | rfl | exact hC | (simp only [Bool.and_eq_true] at hC; first | exact hC.1 | exact hC.1.1 | exact hC.2) | simp_all), trivial⟩) trivial ?_
  refine ch_v (R := []) rfl rfl (oc_and rfl rfl rfl rfl (by first | exact fun h => h | simp_all)) trivial ?_
  refine ch_v (R := []) rfl rfl (oc_move (x := .val _) rfl rfl) trivial ?_
  refine ch_g (R := []) rfl rfl rfl gate_t (fun hC => oc_move (x := .val _) rfl rfl) (fun hC => ⟨(by first | rfl | exact hC | (simp only [Bool.and_eq_true] at hC; first | exact hC.1 | exact hC.1.1 | exact hC.2) | simp_all), trivial⟩) trivial ?_
  refine ch_g (R := []) rfl rfl rfl gate_t (fun hC => oc_binZ rfl rfl rfl rfl) (fun hC => ⟨(by first | rfl | exact hC | (simp only [Bool.and_eq_true] at hC; first | exact hC.1 | exact hC.1.1 | exact hC.2) | simp_all), (by first | rfl | exact hC | (simp only [Bool.and_eq_true] at hC; first | exact hC.1 | exact hC.1.1 | exact hC.2) | simp_all), trivial⟩) trivial ?_
  refine ch_v (R := []) rfl rfl (oc_and rfl rfl rfl rfl (by first | exact fun h => h | simp_all)) trivial ?_
  refine ch_v (R := []) rfl rfl (oc_move (x := .val _) rfl rfl) trivial ?_
  refine ch_g (R := []) rfl rfl rfl gate_t (fun hC => oc_move (x := .val _) rfl rfl) (fun hC => ⟨(by first | rfl | exact hC | (simp only [Bool.and_eq_true] at hC; first | exact hC.1 | exact hC.1.1 | exact hC.2) | simp_all), trivial⟩) trivial ?_
  refine ch_g (R := []) rfl rfl rfl gate_t (fun hC => oc_binZ rfl rfl rfl rfl) (fun hC => ⟨(by first | rfl | exact hC | (simp only [Bool.and_eq_true] at hC; first | exact hC.1 | exact hC.1.1 | exact hC.2) | simp_all), (by first | rfl | exact hC | (simp only [Bool.and_eq_true] at hC; first | exact hC.1 | exact hC.1.1 | exact hC.2) | simp_all), trivial⟩) trivial ?_
  refine ch_v (R := []) rfl rfl (oc_and rfl rfl rfl rfl (by first | exact fun h => h | simp_all)) trivial ?_
  refine ch_v (R := []) rfl rfl (oc_assign (x := .val _) rfl rfl) trivial ?_
  refine ck_nil ?_
  refine aw_ret ?_
  exact ⟨.inl rfl, ResOk.tmp rfl (vb_eq (by simp only [str_eq]; simp)), trivial⟩
end Go.Proofs.YtpbaiighifhfnaaDoor
namespace Go.Proofs.YtpbaiighifhfnaaDoor
open Go.RowKit
set_option maxRecDepth 100000
set_option linter.unusedVariables false
set_option linter.unusedSimpArgs false
theorem good_hyp {l : List ByteArray} (h : Good8 l) : (makeP l).1.at_.length ≤ 1000000 ∧ (makeP l).1.bytes.length ≤ 100000000 ∧ Bts (makeP l).1.bytes ∧ (∀ i, (bytesP (makeP l).1 i).1.length ≤ 5000) ∧ (∀ k, ((makeP l).1.abbrevs.getD k ByteArray.empty).size ≤ 1000) ∧ (makeP l).1.abbrevs.length ≤ 1000000 := by
  have h1 := g_len h
  have h2 := g_sz h
  have h3 := h.few
  exact ⟨by omega, by omega, make_bts _, fun i => Nat.le_trans (g_over h i) (by omega), fun k => Nat.le_trans (h2.1 k) (by omega), by omega⟩
theorem good_text {l : List ByteArray} (h : Good8 l) {k : Nat} (hk : k < l.length) : PC Tryd.prog 14 [poolAv (makeP l).1, vi (k : Int)] (.tup [vs (l.getD k ByteArray.empty), vi 0]) := by
  obtain ⟨h1, h2, h3, h4, h5, h6⟩ := good_hyp h
  have := ptext_pc (makeP l).1 (k : Int) h1 h2 h3 (h4 _) h5 h6
  rwa [g_text h hk] at this
theorem good_all {l : List ByteArray} (h : Good8 l) : PC Tryd.prog 21 [poolAv (makeP l).1] (.tup [slS l, vi 0]) := by
  obtain ⟨h1, h2, h3, h4, h5, h6⟩ := good_hyp h
  have := all_pc (makeP l).1 h1 h2 h3 h4 h5 h6
  rwa [g_all h] at this
theorem good_right {l : List ByteArray} (h : Good8 l) : PC Tryd.prog 25 [poolAv (makeP l).1] (vb true) := by
  obtain ⟨h1, h2, h3, h4, h5, h6⟩ := good_hyp h
  have := right_pl_pc (makeP l).1 h1 h2 h3 h4 h5 h6 (by rw [g_all h]; exact h.wt)
  rwa [g_right h] at this
theorem good_count {l : List ByteArray} (h : Good8 l) : PC Tryd.prog 24 [poolAv (makeP l).1] (vi (l.length : Int)) := by
  have := count_pl_pc (makeP l).1
  rwa [(g_len h).1] at this
theorem texts_self (l : List ByteArray) (h : l.length ≤ 100000000) : PC Tryd.prog 23 [slS l, slS l] (vb true) := by
  have := texts_pc l l h
  rwa [decide_eq_true rfl] at this
theorem good_is {l : List ByteArray} (h : Good8 l) {k : Nat} (hk : k < l.length) : PC Tryd.prog 13 [vs (l.getD k ByteArray.empty)] (vb true) := by
  have h1 := (pack_small [] (h.txt k hk)).1
  have := ristext_pc (l.getD k ByteArray.empty) (by omega)
  rwa [h.txt k hk] at this
theorem bad_pool {l : List ByteArray} (hw : wt l ≤ 10000) (h : (makeP l).2 ≠ 0) : (makeP l).1 = noPool := by
  rcases make_or hw with hg | ⟨_, h1⟩ | ⟨_, h1, _⟩
  · exact absurd (g_err hg) h
  · rw [h1]
  · rw [h1]
theorem good_of {l : List ByteArray} (hw : wt l ≤ 10000) (h : (makeP l).2 = 0) : Good8 l := by
  rcases make_or hw with hg | ⟨_, h1⟩ | ⟨_, h1, _⟩
  · exact hg
  · rw [h1] at h; cases h
  · rw [h1] at h; cases h
end Go.Proofs.YtpbaiighifhfnaaDoor
