/- Chapter 46: an image more, walked. -/
import Derived.Test.YtjjgdjcapfenpaaUc
import Derived.Test.YtjjgdjcapfenpaaProg
import Derived.KernelRfl
namespace Go.Proofs.Ytjjgdjcapfenpaa
open Go.RowKit
set_option maxRecDepth 100000
set_option linter.unusedVariables false
set_option linter.unusedSimpArgs false
theorem push_same {h : HistP} {b : List Int} (hc : b.length = 0 ∨ remN h.most = 0) : pushP h b = h := by unfold pushP; rw [if_pos hc]
theorem push_first {h : HistP} {b : List Int} (hc : ¬ (b.length = 0 ∨ remN h.most = 0)) (h0 : h.now.length = 0) : pushP h b = ⟨h.most, b, []⟩ := by unfold pushP; rw [if_neg hc, if_pos h0]
theorem push_more {h : HistP} {b : List Int} (hc : ¬ (b.length = 0 ∨ remN h.most = 0)) (h0 : ¬ h.now.length = 0) : pushP h b = ⟨h.most, b, (dMake b h.now :: h.ds).take (remN h.most - 1).toNat⟩ := by unfold pushP; rw [if_neg hc, if_neg h0]
def nP (h : HistP) : Nat := min (h.ds.length + 1) (remN h.most - 1).toNat
theorem nP_eq {h : HistP} (hr : ¬ remN h.most = 0) : min ((h.ds.length : Int) + 1) (remN h.most - 1) = (nP h : Int) := by
  have := rem_pos h.most
  unfold nP
  omega
theorem put_len (k off : Nat) (x : Av) (ds : List Av) (h : off + ds.length ≤ k) : (putAt (List.replicate k x) off ds).length = k := by
  simp [putAt]
  omega
theorem min_self (n : Nat) : Nat.min n n = n := by simp
theorem now_rows (b : List Int) (x : Av) : ∀ j, j < b.length → (putAt (List.replicate b.length x) 0 ((List.range (Nat.min b.length b.length)).map (bv b)))[j]? = some (bv b j) ∧ oneA (bv b j) = true := fun j hj => by
  refine ⟨?_, rfl⟩
  simp [putAt, min_self, hj]
theorem bsl_take {h : HistP} {b : List Int} : Av.sl 1 (nP h) (fun j => bs (((dMake b h.now :: h.ds).take (remN h.most - 1).toNat).getD j [])) = bsl ((dMake b h.now :: h.ds).take (remN h.most - 1).toNat) := by
  unfold bsl nP
  rw [List.length_take, List.length_cons, Nat.min_comm]
theorem hist_take {h : HistP} {b : List Int} (E : Env) (v : Value) (hr : Rep E (.agg [vi h.most, .sl 1 b.length (bv b), .sl 1 (nP h) (fun j => bs (((dMake b h.now :: h.ds).take (remN h.most - 1).toNat).getD j []))]) v) : Rep E (histAv ⟨h.most, b, (dMake b h.now :: h.ds).take (remN h.most - 1).toNat⟩) v := by
  unfold histAv
  rw [← bsl_take]
  exact hr
theorem push_len {h : HistP} {b : List Int} (x : Av) (h0 : 0 < nP h) : (putAt ((List.replicate (nP h) x).set 0 (bs (dMake b h.now))) 1 ((List.range (Nat.min h.ds.length (nP h - 1))).map (fun j => bs (h.ds.getD j [])))).length = nP h := by
  have := Nat.min_le_right h.ds.length (nP h - 1)
  have hm : Nat.min h.ds.length (nP h - 1) ≤ nP h - 1 := this
  simp only [putAt, List.length_append, List.length_take, List.length_drop, List.length_set, List.length_replicate, List.length_map, List.length_range]
  omega
theorem push_rows0 {h : HistP} {b : List Int} {cs : List Av} (h0 : nP h = 0) : ∀ j, j < nP h → cs[j]? = some ((fun j => bs (((dMake b h.now :: h.ds).take (remN h.most - 1).toNat).getD j [])) j) ∧ oneA ((fun j => bs (((dMake b h.now :: h.ds).take (remN h.most - 1).toNat).getD j [])) j) = true := fun j hj => by omega
theorem push_rows {h : HistP} {b : List Int} (x : Av) (h0 : 0 < nP h) : ∀ j, j < nP h → (putAt ((List.replicate (nP h) x).set 0 (bs (dMake b h.now))) 1 ((List.range (Nat.min h.ds.length (nP h - 1))).map (fun j => bs (h.ds.getD j []))))[j]? = some ((fun j => bs (((dMake b h.now :: h.ds).take (remN h.most - 1).toNat).getD j [])) j) ∧ oneA ((fun j => bs (((dMake b h.now :: h.ds).take (remN h.most - 1).toNat).getD j [])) j) = true := fun j hj => by
  refine ⟨?_, rfl⟩
  have hn : nP h ≤ h.ds.length + 1 ∧ nP h ≤ (remN h.most - 1).toNat := by unfold nP; omega
  have hm : Nat.min h.ds.length (nP h - 1) = nP h - 1 := Nat.min_eq_right (by omega)
  rw [hm]
  obtain ⟨k, hk⟩ : ∃ k, nP h = k + 1 := ⟨nP h - 1, by omega⟩
  have hrow : ((dMake b h.now :: h.ds).take (remN h.most - 1).toNat).getD j [] = (dMake b h.now :: h.ds).getD j [] := by
    rw [List.getD, List.getD, List.getElem?_take_of_lt (by omega)]
  show _ = some (bs _)
  rw [hrow, hk]
  cases j with
  | zero => simp [putAt, List.replicate_succ]
  | succ j =>
    have hjk : j < k := by omega
    unfold putAt
    rw [List.append_assoc, List.getElem?_append_right (by simp), List.getElem?_append_left (by simp; omega)]
    simp [hjk]
set_option maxHeartbeats 800000 in
theorem push_pc (h : HistP) (hk : HOk h) (b : List Int) (hb1 : b.length ≤ 1000000) : PC Try.prog 10 [histAv h, bs b] (histAv (pushP h b)) := by
  refine FC.body 8 59 Try.func10 rfl (by kernel_rfl) ?_
  have hcnt := hk.cnt
  have hrm := rem_pos h.most
  have hnn : nP h ≤ h.ds.length + 1 := by unfold nP; omega
  refine aw_seq ?_
  refine aw_text rfl ?_
  refine ch_v (R := []) rfl rfl (oc_box (x := .agg _) rfl rfl) trivial ?_
  refine ch_u rfl rfl (oc_alloc (zs := [.int .i64 0, .slice none 0 0, .slice none 0 0]) (cs := [.val _, .val _, .val _]) 0 rfl (by kernel_rfl) rfl rfl) ⟨rfl, trivial⟩ ?_
  refine ck_nil ?_
  refine aw_seq ?_
  refine aw_seq ?_
  refine aw_text rfl ?_
  refine ch_v (R := []) rfl rfl (oc_move (x := .sl _ _ _) rfl rfl) trivial ?_
  refine ch_v (R := []) rfl rfl (oc_len rfl rfl (by kernel_rfl)) trivial ?_
  refine ch_v (R := []) rfl rfl (oc_binZ rfl rfl rfl rfl) trivial ?_
  refine ch_v (R := []) rfl rfl (oc_move (x := .val _) rfl rfl) trivial ?_
  refine ch_g (R := []) rfl rfl rfl gate_f (fun hC => oc_fieldAddr (off := 0) rfl rfl rfl (by kernel_rfl) rfl) (fun hC => ⟨(by first | rfl | exact hC | (simp only [Bool.and_eq_true] at hC; first | exact hC.1 | exact hC.1.1 | exact hC.2) | simp_all), trivial⟩) trivial ?_
  refine ch_g (R := []) rfl rfl rfl gate_f (fun hC => oc_load rfl rfl (by kernel_rfl) cells_int) (fun hC => ⟨(by first | rfl | exact hC | (simp only [Bool.and_eq_true] at hC; first | exact hC.1 | exact hC.1.1 | exact hC.2) | simp_all), trivial⟩) trivial ?_
  refine ch_g (R := []) rfl rfl rfl gate_f (fun hC => oc_call rfl (by kernel_rfl) (rem_pc h.most) rfl (by simp only [PureL, Pure, and_self, bs_pure, bsl_pure, histAv, implies_true]) (by simp only [PureL, Pure, and_self, bs_pure, bsl_pure, histAv, implies_true])) (fun hC => ⟨(by first | rfl | exact hC | (simp only [Bool.and_eq_true] at hC; first | exact hC.1 | exact hC.1.1 | exact hC.2) | simp_all), (by first | rfl | exact hC | (simp only [Bool.and_eq_true] at hC; first | exact hC.1 | exact hC.1.1 | exact hC.2) | simp_all), trivial⟩) trivial ?_
  refine ch_g (R := []) rfl rfl rfl gate_f (fun hC => oc_binZ rfl rfl rfl rfl) (fun hC => ⟨(by first | rfl | exact hC | (simp only [Bool.and_eq_true] at hC; first | exact hC.1 | exact hC.1.1 | exact hC.2) | simp_all), (by first | rfl | exact hC | (simp only [Bool.and_eq_true] at hC; first | exact hC.1 | exact hC.1.1 | exact hC.2) | simp_all), trivial⟩) trivial ?_
  refine ch_v (R := []) rfl rfl (oc_or rfl rfl rfl (by first | exact fun h => h | simp_all)) trivial ?_
  refine ck_nil ?_
  refine aw_cond rfl (fun hb => ?_) (fun hb => ?_)
  · have hc : b.length = 0 ∨ remN h.most = 0 := by simpa using hb
    refine aw_seq ?_
    refine aw_text rfl ?_
    refine ch_v (R := []) rfl rfl (oc_load_row rfl rfl (by kernel_rfl) (by kernel_rfl) rfl) trivial ?_
    refine ch_n rfl rfl (oc_store_row (x := .agg _) (cs' := [_, _, _]) rfl rfl rfl rfl (by kernel_rfl) (by first | decide | exact Nat.le_of_ble_eq_true rfl | simp) (by first | decide | exact Nat.le_of_ble_eq_true rfl | simp) rfl) ⟨rfl, trivial⟩ ?_
    refine ck_nil ?_
    refine aw_ret ?_
    exact ⟨.inl rfl, by rw [push_same hc]; exact ResOk.cell rfl rfl rfl (by kernel_rfl) (by kernel_rfl) (Nat.le_of_ble_eq_true rfl), trivial⟩
  · have hc : ¬ (b.length = 0 ∨ remN h.most = 0) := by simpa using hb
    have hrem : ¬ remN h.most = 0 := fun h => hc (.inr h)
    refine aw_skip ?_
    refine aw_seq ?_
    refine aw_text rfl ?_
    refine ch_v (R := []) rfl rfl (oc_move (x := .sl _ _ _) rfl rfl) trivial ?_
    refine ch_v (R := []) rfl rfl (oc_len rfl rfl (by kernel_rfl)) trivial ?_
    refine ch_u rfl rfl (oc_makeSlice (e := 5) (by_ := 1) (z := .int .u8 0) (m := _) 1 rfl rfl rfl rfl (by kernel_rfl) (by kernel_rfl) rfl (by omega) (by omega)) ⟨rfl, trivial⟩ ?_
    refine ch_v (R := []) rfl rfl (oc_assign (x := .osl _ _ _) rfl rfl) trivial ?_
    refine ck_nil ?_
    refine aw_seq ?_
    refine aw_text rfl ?_
    refine ch_v (R := []) rfl rfl (oc_move (x := .osl _ _ _) rfl rfl) trivial ?_
    refine ch_v (R := []) rfl rfl (oc_move (x := .sl _ _ _) rfl rfl) trivial ?_
    refine ch_u rfl rfl (oc_copy (e := 5) (by_ := 1) (zs := [.int .u8 0]) (off := 0) rfl rfl (.inl ⟨rfl, rfl⟩) rfl (by kernel_rfl) (by kernel_rfl) (by simp) (fun E j v h => by first | exact cells_int E v h | exact cells_sl E v h)) ⟨rfl, trivial⟩ ?_
    refine ck_nil ?_
    refine aw_seq ?_
    refine aw_le (Le.freeze 5 1 (bv b) rfl rfl (put_len _ _ _ _ (by simp)) (now_rows b _)) ?_
    refine aw_text rfl ?_
    refine ch_v (R := []) rfl rfl (oc_fieldAddr (off := 0) rfl rfl rfl (by kernel_rfl) rfl) trivial ?_
    refine ch_v (R := []) rfl rfl (oc_load rfl rfl (by kernel_rfl) cells_int) trivial ?_
    refine ch_v (R := []) rfl rfl (oc_move (x := .sl _ _ _) rfl rfl) trivial ?_
    refine ch_v (R := []) rfl rfl (oc_build (pl := [(0, 1), (1, 1), (2, 1)]) (zs := [.int .i64 0, .slice none 0 0, .slice none 0 0]) (ds := [.val _, .sl _ _ _, .val _]) rfl (by kernel_rfl) rfl (by kernel_rfl) (by first | rfl | decide) rfl) trivial ?_
    refine ch_u rfl rfl (oc_alloc (zs := [.int .i64 0, .slice none 0 0, .slice none 0 0]) (cs := [.val _, .val _, .val _]) 2 rfl (by kernel_rfl) rfl rfl) ⟨rfl, trivial⟩ ?_
    refine ch_n rfl rfl (oc_store_row (x := .agg _) (cs' := [_, _, _]) rfl rfl rfl rfl (by kernel_rfl) (by first | decide | exact Nat.le_of_ble_eq_true rfl | simp) (by first | decide | exact Nat.le_of_ble_eq_true rfl | simp) rfl) ⟨rfl, trivial⟩ ?_
    refine ck_nil ?_
    refine aw_seq ?_
    refine aw_seq ?_
    refine aw_text rfl ?_
    refine ch_v (R := []) rfl rfl (oc_load_row rfl rfl (by kernel_rfl) (by kernel_rfl) rfl) trivial ?_
    refine ch_v (R := []) rfl rfl (oc_call rfl (by kernel_rfl) (empty_pc h) rfl (by simp only [PureL, Pure, and_self, bs_pure, bsl_pure, histAv, implies_true]) (by simp only [PureL, Pure, and_self, bs_pure, bsl_pure, histAv, implies_true])) trivial ?_
    refine ck_nil ?_
    refine aw_cond rfl (fun hb => ?_) (fun hb => ?_)
    · have h0 : h.now.length = 0 := by simpa using hb
      refine aw_seq ?_
      refine aw_text rfl ?_
      refine ch_v (R := [(_, .live _ _)]) rfl rfl (oc_load_own_row (k := 3) (ds := [_, _, _]) rfl rfl (by kernel_rfl) (by kernel_rfl) rfl rfl (by decide)) ⟨rfl, trivial⟩ ?_
      refine ch_n rfl rfl (oc_store_row (x := .agg _) (cs' := [_, _, _]) rfl rfl rfl rfl (by kernel_rfl) (by first | decide | exact Nat.le_of_ble_eq_true rfl | simp) (by first | decide | exact Nat.le_of_ble_eq_true rfl | simp) rfl) ⟨rfl, trivial⟩ ?_
      refine ck_nil ?_
      refine aw_ret ?_
      exact ⟨.inl rfl, by rw [push_first hc h0]; exact (ResOk.cell rfl rfl rfl (by kernel_rfl) (by kernel_rfl) (Nat.le_of_ble_eq_true rfl)).to hist_to, trivial⟩
    · have h0 : ¬ h.now.length = 0 := by simpa using hb
      refine aw_skip ?_
      refine aw_seq ?_
      refine aw_draw mixed ?_
      refine ch_v (R := []) rfl rfl (oc_fieldAddr (off := 2) rfl rfl rfl (by kernel_rfl) rfl) trivial ?_
      refine ch_v (R := []) rfl rfl (oc_load rfl rfl (by kernel_rfl) cells_sl) trivial ?_
      refine ch_v (R := []) rfl rfl (oc_len rfl rfl (by kernel_rfl)) trivial ?_
      refine ch_v (R := []) rfl rfl (oc_binZ rfl rfl rfl (by first | exact binW_add (by omega) (by omega) | rfl)) trivial ?_
      refine ch_v (R := []) rfl rfl (oc_fieldAddr (off := 0) rfl rfl rfl (by kernel_rfl) rfl) trivial ?_
      refine ch_v (R := []) rfl rfl (oc_load rfl rfl (by kernel_rfl) cells_int) trivial ?_
      refine ch_v (R := []) rfl rfl (oc_call rfl (by kernel_rfl) (rem_pc h.most) rfl (by simp only [PureL, Pure, and_self, bs_pure, bsl_pure, histAv, implies_true]) (by simp only [PureL, Pure, and_self, bs_pure, bsl_pure, histAv, implies_true])) trivial ?_
      refine ch_v (R := []) rfl rfl (oc_binZ rfl rfl rfl (by first | exact binW_sub (by omega) (by omega) | rfl)) trivial ?_
      refine ch_v (R := []) rfl rfl (oc_min rfl rfl rfl) trivial ?_
      refine ch_v (R := []) rfl rfl (oc_assign (x := .val _) rfl rfl) trivial ?_
      refine ck_nil ⟨by kernel_rfl, ?_⟩
      refine aw_seq ?_
      refine aw_text rfl ?_
      refine ch_v (R := []) rfl rfl (oc_move (x := .val _) rfl rfl) trivial ?_
      refine ch_u rfl rfl (oc_makeSlice (e := 22) (by_ := 24) (z := .slice none 0 0) (m := nP h) 3 rfl rfl rfl (nP_eq hrem) (by kernel_rfl) (by kernel_rfl) rfl (by omega) (by omega)) ⟨rfl, trivial⟩ ?_
      refine ch_v (R := [(_, .live _ _)]) rfl rfl (oc_fieldAddr_own (off := 2) (sz := 1) (r := false) rfl rfl (by first | decide | simp) (by kernel_rfl) (by decide)) ⟨rfl, trivial⟩ ?_
      refine ch_n rfl rfl (oc_store (y := .osl _ _ _) (cs' := [_, _, _]) rfl rfl rfl (by kernel_rfl) (by kernel_rfl) cells_osl (by first | decide | (simp; done) | (simp; omega)) rfl) ⟨rfl, trivial⟩ ?_
      refine ck_nil ?_
      refine aw_seq ?_
      refine aw_seq ?_
      refine aw_text rfl ?_
      refine ch_v (R := []) rfl rfl (oc_move (x := .val _) rfl rfl) trivial ?_
      refine ch_v (R := []) rfl rfl (oc_binZ rfl rfl rfl rfl) trivial ?_
      refine ck_nil ?_
      refine aw_cond rfl (fun hb => ?_) (fun hb => ?_)
      · have hpos : 0 < nP h := by have h1 := of_decide_eq_true hb; rw [nP_eq hrem] at h1; omega
        refine aw_seq ?_
        refine aw_draw mixed ?_
        refine ch_v (R := [(_, .live _ _)]) rfl rfl (oc_fieldAddr_own (off := 2) (sz := 1) (r := false) rfl rfl (by first | decide | simp) (by kernel_rfl) (by decide)) ⟨rfl, trivial⟩ ?_
        refine ch_v (R := [(_, .live _ _)]) rfl rfl (oc_load_own rfl rfl (by kernel_rfl) rfl) ⟨rfl, trivial⟩ ?_
        refine ch_v (R := []) rfl rfl (oc_move (x := .sl _ _ _) rfl rfl) trivial ?_
        refine ch_v (R := []) rfl rfl (oc_fieldAddr (off := 1) rfl rfl rfl (by kernel_rfl) rfl) trivial ?_
        refine ch_v (R := []) rfl rfl (oc_load rfl rfl (by kernel_rfl) cells_sl) trivial ?_
        refine ch_v (R := []) rfl rfl (oc_call rfl (by kernel_rfl) (make_pc b h.now hb1 (by have := hk.len; omega)) rfl (by simp only [PureL, Pure, and_self, bs_pure, bsl_pure, histAv, implies_true]) (by simp only [PureL, Pure, and_self, bs_pure, bsl_pure, histAv, implies_true])) trivial ?_
        refine ch_v (R := [(_, .live _ _)]) rfl rfl (oc_index_own rfl rfl rfl (by kernel_rfl) (by omega) (by simp; omega) rfl) ⟨rfl, trivial⟩ ?_
        refine ch_n rfl rfl (oc_store (y := .sl _ _ _) rfl rfl rfl (by kernel_rfl) (by kernel_rfl) (by first | exact cells_sl | exact cells_any) (by first | decide | (simp; done) | (simp; omega)) rfl) ⟨rfl, trivial⟩ ?_
        refine ck_nil ⟨by kernel_rfl, ?_⟩
        refine aw_draw mixed ?_
        refine ch_v (R := [(_, .live _ _)]) rfl rfl (oc_fieldAddr_own (off := 2) (sz := 1) (r := false) rfl rfl (by first | decide | simp) (by kernel_rfl) (by decide)) ⟨rfl, trivial⟩ ?_
        refine ch_v (R := [(_, .live _ _)]) rfl rfl (oc_load_own rfl rfl (by kernel_rfl) rfl) ⟨rfl, trivial⟩ ?_
        refine ch_v (R := [(_, .live _ _)]) rfl rfl (oc_slice_own (e := 22) (by_ := 24) (zs := [.slice none 0 0]) 1 rfl rfl rfl (by kernel_rfl) (by kernel_rfl) (by omega)) ⟨rfl, trivial⟩ ?_
        refine ch_v (R := []) rfl rfl (oc_fieldAddr (off := 2) rfl rfl rfl (by kernel_rfl) rfl) trivial ?_
        refine ch_v (R := []) rfl rfl (oc_load rfl rfl (by kernel_rfl) cells_sl) trivial ?_
        refine ch_u rfl rfl (oc_copy (e := 22) (by_ := 24) (zs := [.slice none 0 0]) rfl rfl (.inr rfl) rfl (by kernel_rfl) (by kernel_rfl) (by simp; omega) (fun E j v h => cells_sl E v h)) ⟨rfl, trivial⟩ ?_
        refine ck_nil ⟨by kernel_rfl, ?_⟩
        refine aw_seq ?_
        refine aw_le (Le.freezeCell 2 2 3 (fun j => bs (((dMake b h.now :: h.ds).take (remN h.most - 1).toNat).getD j [])) rfl rfl rfl (by decide) (by first | exact List.length_replicate | exact push_len _ hpos) (by first | exact push_rows0 hz | exact push_rows _ hpos)) ?_
        refine aw_text rfl ?_
        refine ch_v (R := [(_, .live _ _)]) rfl rfl (oc_load_own_row (k := 3) (ds := [_, _, _]) rfl rfl (by kernel_rfl) (by kernel_rfl) rfl rfl (by decide)) ⟨rfl, trivial⟩ ?_
        refine ch_n rfl rfl (oc_store_row (x := .agg _) (cs' := [_, _, _]) rfl rfl rfl rfl (by kernel_rfl) (by first | decide | exact Nat.le_of_ble_eq_true rfl | simp) (by first | decide | exact Nat.le_of_ble_eq_true rfl | simp) rfl) ⟨rfl, trivial⟩ ?_
        refine ck_nil ?_
        refine aw_ret ?_
        exact ⟨.inl rfl, by rw [push_more hc h0]; exact (ResOk.cell rfl rfl rfl (by kernel_rfl) (by kernel_rfl) (Nat.le_of_ble_eq_true rfl)).to hist_take, trivial⟩
      · have hz : nP h = 0 := by have h1 := of_decide_eq_false hb; rw [nP_eq hrem] at h1; omega
        refine aw_skip ?_
        refine aw_seq ?_
        refine aw_le (Le.freezeCell 2 2 3 (fun j => bs (((dMake b h.now :: h.ds).take (remN h.most - 1).toNat).getD j [])) rfl rfl rfl (by decide) (by first | exact List.length_replicate | exact push_len _ hpos) (by first | exact push_rows0 hz | exact push_rows _ hpos)) ?_
        refine aw_text rfl ?_
        refine ch_v (R := [(_, .live _ _)]) rfl rfl (oc_load_own_row (k := 3) (ds := [_, _, _]) rfl rfl (by kernel_rfl) (by kernel_rfl) rfl rfl (by decide)) ⟨rfl, trivial⟩ ?_
        refine ch_n rfl rfl (oc_store_row (x := .agg _) (cs' := [_, _, _]) rfl rfl rfl rfl (by kernel_rfl) (by first | decide | exact Nat.le_of_ble_eq_true rfl | simp) (by first | decide | exact Nat.le_of_ble_eq_true rfl | simp) rfl) ⟨rfl, trivial⟩ ?_
        refine ck_nil ?_
        refine aw_ret ?_
        exact ⟨.inl rfl, by rw [push_more hc h0]; exact (ResOk.cell rfl rfl rfl (by kernel_rfl) (by kernel_rfl) (Nat.le_of_ble_eq_true rfl)).to hist_take, trivial⟩
end Go.Proofs.Ytjjgdjcapfenpaa
