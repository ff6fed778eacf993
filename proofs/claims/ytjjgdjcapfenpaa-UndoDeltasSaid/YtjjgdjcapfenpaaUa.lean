/- Chapter 46: short functions, walked. -/
import Derived.Test.YtjjgdjcapfenpaaUs
import Derived.Test.YtjjgdjcapfenpaaDelG
import Derived.Test.YtjjgdjcapfenpaaProg
import Derived.KernelRfl
namespace Go.Proofs.Ytjjgdjcapfenpaa
open Go.RowKit
set_option maxRecDepth 100000
set_option linter.unusedVariables false
set_option linter.unusedSimpArgs false
theorem mixed : Try.prog.follows .mixedOrders = true := by kernel_rfl
theorem make_pc (a b : List Int) (ha : a.length ≤ 1000000) (hb : b.length ≤ 1000000) : PC Try.prog 21 [bs a, bs b] (bs (dMake a b)) := pc_of_ret (e := 5) fun A A' c c' w h1 h2 h3 h4 => make_any A A' _ c _ c' a b w h1 rfl h2 rfl ha hb h4
theorem rmake_pc (a b : List Int) (ha : a.length ≤ 1000000) (hb : b.length ≤ 1000000) : PC Try.prog 25 [bs a, bs b] (bs (dMake a b)) := pc_of_ret (e := 5) fun A A' c c' w h1 h2 h3 h4 => rmake_any A A' _ c _ c' a b w h1 rfl h2 rfl ha hb h4
theorem apply_pc (a d : List Int) (ha : a.length ≤ 1000000) (hd : d.length ≤ 1000000) (hba : Byt a) (hbd : Byt d) : PC Try.prog 26 [bs a, bs d] (.tup [bs (dApp a d).1, vi (dApp a d).2]) := pc_of_app (e := 5) fun A A' c c' w h1 h2 h3 h4 => apply_any A A' _ c _ c' a d w h1 rfl h3 hba h2 rfl h4 hbd ha hd
theorem rapply_pc (a d : List Int) (ha : a.length ≤ 1000000) (hd : d.length ≤ 1000000) (hba : Byt a) (hbd : Byt d) : PC Try.prog 27 [bs a, bs d] (.tup [bs (dApp a d).1, vi (dApp a d).2]) := pc_of_app (e := 5) fun A A' c c' w h1 h2 h3 h4 => rapply_any A A' _ c _ c' a d w h1 rfl h3 hba h2 rfl h4 hbd ha hd
theorem hist_to {m : Int} {now : List Int} (E : Env) (v : Value) (h : Rep E (.agg [vi m, bs now, .val (.slice none 0 0)]) v) : Rep E (histAv ⟨m, now, []⟩) v := rep_agg (ys := [vi m, bs now, bsl []]) h rfl fun E i x y hx hy v h => by
  rcases i with _ | _ | _ | i <;> simp at hx hy <;> subst hx <;> subst hy <;> first | exact h | exact rep_nil0 E v h
theorem hist_to0 {m : Int} (E : Env) (v : Value) (h : Rep E (.agg [vi m, .val (.slice none 0 0), .val (.slice none 0 0)]) v) : Rep E (histAv ⟨m, [], []⟩) v := rep_agg (ys := [vi m, bs [], bsl []]) h rfl fun E i x y hx hy v h => by
  rcases i with _ | _ | _ | i <;> simp at hx hy <;> subst hx <;> subst hy <;> first | exact h | exact rep_nil0 E v h
set_option maxHeartbeats 800000 in
theorem rem_pc (n : Int) : PC Try.prog 22 [vi n] (vi (remN n)) := by
  refine FC.body 6 6 Try.func22 rfl (by kernel_rfl) ?_
  refine aw_seq ?_
  refine aw_text rfl ?_
  refine ch_v (R := []) rfl rfl (oc_assign (x := .val _) rfl rfl) trivial ?_
  refine ck_nil ?_
  refine aw_seq ?_
  refine aw_text rfl ?_
  refine ch_v (R := []) rfl rfl (oc_move (x := .val _) rfl rfl) trivial ?_
  refine ch_v (R := []) rfl rfl (oc_max rfl rfl rfl) trivial ?_
  refine ch_v (R := []) rfl rfl (oc_min rfl rfl rfl) trivial ?_
  refine ch_v (R := []) rfl rfl (oc_assign (x := .val _) rfl rfl) trivial ?_
  refine ck_nil ?_
  refine aw_ret ?_
  exact ⟨.inl rfl, ResOk.tmp rfl rfl, trivial⟩
set_option maxHeartbeats 800000 in
theorem most_pc (n : Int) : PC Try.prog 24 [vi n] (vi (remN n)) := by
  refine FC.body 6 8 Try.func24 rfl (by kernel_rfl) ?_
  refine aw_seq ?_
  refine aw_text rfl ?_
  refine ch_v (R := []) rfl rfl (oc_assign (x := .val _) rfl rfl) trivial ?_
  refine ck_nil ?_
  refine aw_seq ?_
  refine aw_seq ?_
  refine aw_text rfl ?_
  refine ch_v (R := []) rfl rfl (oc_move (x := .val _) rfl rfl) trivial ?_
  refine ch_v (R := []) rfl rfl (oc_binZ rfl rfl rfl rfl) trivial ?_
  refine ck_nil ?_
  refine aw_cond rfl (fun hb => ?_) (fun hb => ?_)
  · refine aw_seq ?_
    refine aw_text rfl ?_
    refine ch_v (R := []) rfl rfl (oc_assign (x := .val _) rfl rfl) trivial ?_
    refine ck_nil ?_
    refine aw_ret ?_
    exact ⟨.inl rfl, ResOk.tmp rfl (vi_eq (by have h0 := of_decide_eq_true hb; unfold remN; omega)), trivial⟩
  · have h1 := of_decide_eq_false hb
    refine aw_skip ?_
    refine aw_seq ?_
    refine aw_seq ?_
    refine aw_text rfl ?_
    refine ch_v (R := []) rfl rfl (oc_move (x := .val _) rfl rfl) trivial ?_
    refine ch_v (R := []) rfl rfl (oc_binZ rfl rfl rfl rfl) trivial ?_
    refine ck_nil ?_
    refine aw_cond rfl (fun hb => ?_) (fun hb => ?_)
    · refine aw_seq ?_
      refine aw_text rfl ?_
      refine ch_v (R := []) rfl rfl (oc_assign (x := .val _) rfl rfl) trivial ?_
      refine ck_nil ?_
      refine aw_ret ?_
      exact ⟨.inl rfl, ResOk.tmp rfl (vi_eq (by have h0 := of_decide_eq_true hb; unfold remN; omega)), trivial⟩
    · refine aw_skip ?_
      refine aw_seq ?_
      refine aw_text rfl ?_
      refine ch_v (R := []) rfl rfl (oc_move (x := .val _) rfl rfl) trivial ?_
      refine ch_v (R := []) rfl rfl (oc_assign (x := .val _) rfl rfl) trivial ?_
      refine ck_nil ?_
      refine aw_ret ?_
      exact ⟨.inl rfl, ResOk.tmp rfl (vi_eq (by have h0 := of_decide_eq_false hb; unfold remN; omega)), trivial⟩
set_option maxHeartbeats 800000 in
theorem empty_pc (h : HistP) : PC Try.prog 23 [histAv h] (vb ((h.now.length : Int) == 0)) := by
  refine FC.body 6 7 Try.func23 rfl (by kernel_rfl) ?_
  refine aw_seq ?_
  refine aw_text rfl ?_
  refine ch_v (R := []) rfl rfl (oc_box (x := .agg _) rfl rfl) trivial ?_
  refine ch_v (R := []) rfl rfl (oc_assign (x := .val _) rfl rfl) trivial ?_
  refine ck_nil ?_
  refine aw_seq ?_
  refine aw_text rfl ?_
  refine ch_v (R := []) rfl rfl (oc_fieldAddr (off := 1) rfl rfl rfl (by kernel_rfl) rfl) trivial ?_
  refine ch_v (R := []) rfl rfl (oc_load rfl rfl (by kernel_rfl) cells_sl) trivial ?_
  refine ch_v (R := []) rfl rfl (oc_len rfl rfl (by kernel_rfl)) trivial ?_
  refine ch_v (R := []) rfl rfl (oc_binZ rfl rfl rfl rfl) trivial ?_
  refine ch_v (R := []) rfl rfl (oc_assign (x := .val _) rfl rfl) trivial ?_
  refine ck_nil ?_
  refine aw_ret ?_
  exact ⟨.inl rfl, ResOk.tmp rfl rfl, trivial⟩
set_option maxHeartbeats 800000 in
theorem new_pc (n : Int) : PC Try.prog 14 [vi n] (histAv (newP n)) := by
  refine FC.body 6 6 Try.func14 rfl (by kernel_rfl) ?_
  refine aw_seq ?_
  refine aw_text rfl ?_
  refine ch_u rfl rfl (oc_alloc (zs := [.int .i64 0, .slice none 0 0, .slice none 0 0]) (cs := [.val _, .val _, .val _]) 0 rfl (by kernel_rfl) rfl rfl) ⟨rfl, trivial⟩ ?_
  refine ck_nil ?_
  refine aw_seq ?_
  refine aw_text rfl ?_
  refine ch_v (R := []) rfl rfl (oc_move (x := .val _) rfl rfl) trivial ?_
  refine ch_v (R := []) rfl rfl (oc_call rfl (by kernel_rfl) (rem_pc n) rfl (by simp only [PureL, Pure, and_self, bs_pure, bsl_pure, histAv, implies_true]) (by simp only [PureL, Pure, and_self, bs_pure, bsl_pure, histAv, implies_true])) trivial ?_
  refine ch_v (R := []) rfl rfl (oc_build (pl := [(0, 1), (1, 1), (2, 1)]) (zs := [.int .i64 0, .slice none 0 0, .slice none 0 0]) (ds := [.val _, .val _, .val _]) rfl (by kernel_rfl) rfl (by kernel_rfl) (by first | rfl | decide) rfl) trivial ?_
  refine ch_n rfl rfl (oc_store_row (x := .agg _) (cs' := [_, _, _]) rfl rfl rfl rfl (by kernel_rfl) (by first | decide | exact Nat.le_of_ble_eq_true rfl | simp) (by first | decide | exact Nat.le_of_ble_eq_true rfl | simp) rfl) ⟨rfl, trivial⟩ ?_
  refine ck_nil ?_
  refine aw_ret ?_
  exact ⟨.inl rfl, (ResOk.cell rfl rfl rfl (by kernel_rfl) (by kernel_rfl) (Nat.le_of_ble_eq_true rfl)).to hist_to0, trivial⟩
set_option maxHeartbeats 800000 in
theorem rnew_pc (n : Int) : PC Try.prog 15 [vi n] (histAv (newP n)) := by
  refine FC.body 6 6 Try.func15 rfl (by kernel_rfl) ?_
  refine aw_seq ?_
  refine aw_text rfl ?_
  refine ch_u rfl rfl (oc_alloc (zs := [.int .i64 0, .slice none 0 0, .slice none 0 0]) (cs := [.val _, .val _, .val _]) 0 rfl (by kernel_rfl) rfl rfl) ⟨rfl, trivial⟩ ?_
  refine ck_nil ?_
  refine aw_seq ?_
  refine aw_text rfl ?_
  refine ch_v (R := []) rfl rfl (oc_move (x := .val _) rfl rfl) trivial ?_
  refine ch_v (R := []) rfl rfl (oc_call rfl (by kernel_rfl) (most_pc n) rfl (by simp only [PureL, Pure, and_self, bs_pure, bsl_pure, histAv, implies_true]) (by simp only [PureL, Pure, and_self, bs_pure, bsl_pure, histAv, implies_true])) trivial ?_
  refine ch_v (R := []) rfl rfl (oc_build (pl := [(0, 1), (1, 1), (2, 1)]) (zs := [.int .i64 0, .slice none 0 0, .slice none 0 0]) (ds := [.val _, .val _, .val _]) rfl (by kernel_rfl) rfl (by kernel_rfl) (by first | rfl | decide) rfl) trivial ?_
  refine ch_n rfl rfl (oc_store_row (x := .agg _) (cs' := [_, _, _]) rfl rfl rfl rfl (by kernel_rfl) (by first | decide | exact Nat.le_of_ble_eq_true rfl | simp) (by first | decide | exact Nat.le_of_ble_eq_true rfl | simp) rfl) ⟨rfl, trivial⟩ ?_
  refine ck_nil ?_
  refine aw_ret ?_
  exact ⟨.inl rfl, (ResOk.cell rfl rfl rfl (by kernel_rfl) (by kernel_rfl) (Nat.le_of_ble_eq_true rfl)).to hist_to0, trivial⟩
set_option maxHeartbeats 800000 in
theorem len_pc (h : HistP) (hk : HOk h) : PC Try.prog 12 [histAv h] (vi (lenP h)) := by
  refine FC.body 6 9 Try.func12 rfl (by kernel_rfl) ?_
  have hcnt := hk.cnt
  refine aw_seq ?_
  refine aw_text rfl ?_
  refine ch_v (R := []) rfl rfl (oc_box (x := .agg _) rfl rfl) trivial ?_
  refine ch_v (R := []) rfl rfl (oc_assign (x := .val _) rfl rfl) trivial ?_
  refine ck_nil ?_
  refine aw_seq ?_
  refine aw_seq ?_
  refine aw_text rfl ?_
  refine ch_v (R := []) rfl rfl (oc_load_row rfl rfl (by kernel_rfl) (by kernel_rfl) rfl) trivial ?_
  refine ch_v (R := []) rfl rfl (oc_call rfl (by kernel_rfl) (empty_pc h) rfl (by simp only [PureL, Pure, and_self, bs_pure, bsl_pure, histAv, implies_true]) (by simp only [PureL, Pure, and_self, bs_pure, bsl_pure, histAv, implies_true])) trivial ?_
  refine ck_nil ?_
  refine aw_cond rfl (fun hb => ?_) (fun hb => ?_)
  · refine aw_seq ?_
    refine aw_text rfl ?_
    refine ch_v (R := []) rfl rfl (oc_assign (x := .val _) rfl rfl) trivial ?_
    refine ck_nil ?_
    refine aw_ret ?_
    exact ⟨.inl rfl, ResOk.tmp rfl (vi_eq (by have h0 : h.now.length = 0 := by simpa using hb
                                              unfold lenP; rw [if_pos h0])), trivial⟩
  · refine aw_skip ?_
    refine aw_seq ?_
    refine aw_text rfl ?_
    refine ch_v (R := []) rfl rfl (oc_fieldAddr (off := 2) rfl rfl rfl (by kernel_rfl) rfl) trivial ?_
    refine ch_v (R := []) rfl rfl (oc_load rfl rfl (by kernel_rfl) cells_sl) trivial ?_
    refine ch_v (R := []) rfl rfl (oc_len rfl rfl (by kernel_rfl)) trivial ?_
    refine ch_v (R := []) rfl rfl (oc_binZ rfl rfl rfl (by first | exact binW_add (by omega) (by omega) | rfl)) trivial ?_
    refine ch_v (R := []) rfl rfl (oc_assign (x := .val _) rfl rfl) trivial ?_
    refine ck_nil ?_
    refine aw_ret ?_
    exact ⟨.inl rfl, ResOk.tmp rfl (vi_eq (by have h0 : ¬ h.now.length = 0 := by simpa using hb
                                              unfold lenP; rw [if_neg h0])), trivial⟩
set_option maxHeartbeats 800000 in
theorem rlen_pc (h : HistP) (hk : HOk h) : PC Try.prog 13 [histAv h] (vi (lenP h)) := by
  refine FC.body 6 11 Try.func13 rfl (by kernel_rfl) ?_
  have hcnt := hk.cnt
  refine aw_seq ?_
  refine aw_text rfl ?_
  refine ch_v (R := []) rfl rfl (oc_box (x := .agg _) rfl rfl) trivial ?_
  refine ch_v (R := []) rfl rfl (oc_assign (x := .val _) rfl rfl) trivial ?_
  refine ck_nil ?_
  refine aw_seq ?_
  refine aw_seq ?_
  refine aw_text rfl ?_
  refine ch_v (R := []) rfl rfl (oc_fieldAddr (off := 1) rfl rfl rfl (by kernel_rfl) rfl) trivial ?_
  refine ch_v (R := []) rfl rfl (oc_load rfl rfl (by kernel_rfl) cells_sl) trivial ?_
  refine ch_v (R := []) rfl rfl (oc_len rfl rfl (by kernel_rfl)) trivial ?_
  refine ch_v (R := []) rfl rfl (oc_binZ rfl rfl rfl rfl) trivial ?_
  refine ck_nil ?_
  refine aw_cond rfl (fun hb => ?_) (fun hb => ?_)
  · refine aw_seq ?_
    refine aw_text rfl ?_
    refine ch_v (R := []) rfl rfl (oc_assign (x := .val _) rfl rfl) trivial ?_
    refine ck_nil ?_
    refine aw_ret ?_
    exact ⟨.inl rfl, ResOk.tmp rfl (vi_eq (by have h0 : h.now.length = 0 := by simpa using hb
                                              unfold lenP; rw [if_pos h0])), trivial⟩
  · refine aw_skip ?_
    refine aw_seq ?_
    refine aw_text rfl ?_
    refine ch_v (R := []) rfl rfl (oc_fieldAddr (off := 2) rfl rfl rfl (by kernel_rfl) rfl) trivial ?_
    refine ch_v (R := []) rfl rfl (oc_load rfl rfl (by kernel_rfl) cells_sl) trivial ?_
    refine ch_v (R := []) rfl rfl (oc_len rfl rfl (by kernel_rfl)) trivial ?_
    refine ch_v (R := []) rfl rfl (oc_binZ rfl rfl rfl (by first | exact binW_add (by omega) (by omega) | rfl)) trivial ?_
    refine ch_v (R := []) rfl rfl (oc_assign (x := .val _) rfl rfl) trivial ?_
    refine ck_nil ?_
    refine aw_ret ?_
    exact ⟨.inl rfl, ResOk.tmp rfl (vi_eq (by have h0 : ¬ h.now.length = 0 := by simpa using hb
                                              unfold lenP; rw [if_neg h0])), trivial⟩
end Go.Proofs.Ytjjgdjcapfenpaa
