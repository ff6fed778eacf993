/- Chapter 46: the document's Push, walked. -/
import Derived.Test.YtjjgdjcapfenpaaUd
import Derived.Test.YtjjgdjcapfenpaaProg
import Derived.KernelRfl
namespace Go.Proofs.Ytjjgdjcapfenpaa
open Go.RowKit
set_option maxRecDepth 100000
set_option linter.unusedVariables false
set_option linter.unusedSimpArgs false
theorem app_bs (l : List (List Int)) : ∀ j, j < l.length → szB ((fun j => bs (l.getD j [])) j) 1 = true ∧ ∀ i y, i < 1 → (l.map bs)[j * 1 + i]? = some y → (flatA ((fun j => bs (l.getD j [])) j))[i]? = some y := row_one (fun j y hy => by
  rw [List.getElem?_map] at hy
  cases h : l[j]? with
  | none => rw [h] at hy; cases hy
  | some z => rw [h] at hy; simp at hy; subst hy; simp [List.getD, h]) (fun j hj => ⟨rfl, rfl⟩)
theorem row_bs (l : List (List Int)) : ∀ j, j < l.length → (l.map bs)[j]? = some ((fun j => bs (l.getD j [])) j) ∧ oneA ((fun j => bs (l.getD j [])) j) = true := fun j hj => ⟨by simp [hj], rfl⟩
theorem all_rows (x : List Int) (ds : List (List Int)) : ∀ j, j < 1 + ds.length → ([bs x] ++ ds.map bs)[j]? = some ((fun j => bs ((x :: ds).getD j [])) j) ∧ oneA ((fun j => bs ((x :: ds).getD j [])) j) = true := fun j hj => row_bs (x :: ds) j (by simp; omega)
theorem hist_all {m : Int} {b x : List Int} {ds : List (List Int)} {k : Nat} (hk : 1 + ds.length ≤ k) (E : Env) (v : Value) (hr : Rep E (.agg [vi m, bs b, .sl 1 (1 + ds.length) (fun j => bs ((x :: ds).getD j []))]) v) : Rep E (histAv ⟨m, b, (x :: ds).take k⟩) v := by
  rw [List.take_of_length_le (by simp; omega)]
  unfold histAv bsl
  rw [List.length_cons, Nat.add_comm]
  exact hr
theorem hist_part {m : Int} {b x : List Int} {ds : List (List Int)} {k : Nat} (hk : k ≤ 1 + ds.length) (E : Env) (v : Value) (hr : Rep E (.agg [vi m, bs b, .sl 1 k (fun j => bs ((x :: ds).getD j []))]) v) : Rep E (histAv ⟨m, b, (x :: ds).take k⟩) v := rep_agg (ys := [vi m, bs b, bsl ((x :: ds).take k)]) hr rfl fun E i p q hx hy v h => by
  rcases i with _ | _ | _ | i <;> simp at hx hy <;> subst hx <;> subst hy
  · exact h
  · exact h
  · unfold bsl
    have hl : ((x :: ds).take k).length = k := by rw [List.length_take, List.length_cons]; omega
    rw [hl]
    refine rep_rows (fun E j hj v h => ?_) E v h
    rw [show ((x :: ds).take k).getD j [] = (x :: ds).getD j [] from by rw [List.getD, List.getD, List.getElem?_take_of_lt hj]]
    exact h
set_option maxHeartbeats 800000 in
theorem rpush_pc (h : HistP) (hk : HOk h) (b : List Int) (hb1 : b.length ≤ 1000000) : PC Try.prog 11 [histAv h, bs b] (histAv (pushP h b)) := by
  refine FC.body 8 49 Try.func11 rfl (by kernel_rfl) ?_
  have hcnt := hk.cnt
  have hrm := rem_pos h.most
  refine aw_seq ?_
  refine aw_text rfl ?_
  refine ch_v (R := []) rfl rfl (oc_box (x := .agg _) rfl rfl) trivial ?_
  refine ch_u rfl rfl (oc_alloc (zs := [.int .i64 0, .slice none 0 0, .slice none 0 0]) (cs := [.val _, .val _, .val _]) 0 rfl (by kernel_rfl) rfl rfl) ⟨rfl, trivial⟩ ?_
  refine ck_nil ?_
  refine aw_seq ?_
  refine aw_text rfl ?_
  refine ch_v (R := []) rfl rfl (oc_fieldAddr (off := 0) rfl rfl rfl (by kernel_rfl) rfl) trivial ?_
  refine ch_v (R := []) rfl rfl (oc_load rfl rfl (by kernel_rfl) cells_int) trivial ?_
  refine ch_v (R := []) rfl rfl (oc_call rfl (by kernel_rfl) (most_pc h.most) rfl (by simp only [PureL, Pure, and_self, bs_pure, bsl_pure, histAv, implies_true]) (by simp only [PureL, Pure, and_self, bs_pure, bsl_pure, histAv, implies_true])) trivial ?_
  refine ch_v (R := []) rfl rfl (oc_assign (x := .val _) rfl rfl) trivial ?_
  refine ck_nil ?_
  refine aw_seq ?_
  refine aw_seq ?_
  refine aw_text rfl ?_
  refine ch_v (R := []) rfl rfl (oc_move (x := .sl _ _ _) rfl rfl) trivial ?_
  refine ch_v (R := []) rfl rfl (oc_len rfl rfl (by kernel_rfl)) trivial ?_
  refine ch_v (R := []) rfl rfl (oc_binZ rfl rfl rfl rfl) trivial ?_
  refine ch_v (R := []) rfl rfl (oc_move (x := .val _) rfl rfl) trivial ?_
  refine ch_g (R := []) rfl rfl rfl gate_f (fun hC => oc_move (x := .val _) rfl rfl) (fun hC => ⟨(by first | rfl | exact hC | (simp only [Bool.and_eq_true] at hC; first | exact hC.1 | exact hC.1.1 | exact hC.2) | simp_all), trivial⟩) trivial ?_
  refine ch_g (R := []) rfl rfl rfl gate_f (fun hC => oc_binZ rfl rfl rfl rfl) (fun hC => ⟨(by first | rfl | exact hC | (simp only [Bool.and_eq_true] at hC; first | exact hC.1 | exact hC.1.1 | exact hC.2) | simp_all), (by first | rfl | exact hC | (simp only [Bool.and_eq_true] at hC; first | exact hC.1 | exact hC.1.1 | exact hC.2) | simp_all), trivial⟩) trivial ?_
  refine ch_v (R := []) rfl rfl (oc_or rfl rfl rfl (by first | exact fun h => h | simp_all)) trivial ?_
  refine ck_nil ?_
  refine aw_cond rfl (fun hb => ?_) (fun hb => ?_)
  · have hc : b.length = 0 ∨ remN h.most = 0 := by simpa using hb
    refine aw_seq ?_
    refine aw_text rfl ?_
    refine ch_v (R := []) rfl rfl (oc_load_row rfl rfl (by kernel_rfl) (by kernel_rfl) rfl) trivial ?_
    refine ch_n rfl rfl (oc_store_row (x := .agg _) (cs' := [_, _, _]) rfl rfl rfl rfl (by kernel_rfl) (by first | decide | exact Nat.le_of_ble_eq_true rfl | simp) (by first | decide | exact Nat.le_of_ble_eq_true rfl | simp) rfl) ⟨rfl, trivial⟩ ?_
    refine ck_nil ?_
    refine aw_ret ?_
    exact ⟨.inl rfl, by rw [push_same hc]; exact ResOk.cell rfl rfl rfl (by kernel_rfl) (by kernel_rfl) (Nat.le_of_ble_eq_true rfl), trivial⟩
  · have hc : ¬ (b.length = 0 ∨ remN h.most = 0) := by simpa using hb
    have hrem : ¬ remN h.most = 0 := fun h => hc (.inr h)
    refine aw_skip ?_
    refine aw_seq ?_
    refine aw_text rfl ?_
    refine ch_v (R := []) rfl rfl (oc_fieldAddr (off := 0) rfl rfl rfl (by kernel_rfl) rfl) trivial ?_
    refine ch_v (R := []) rfl rfl (oc_load rfl rfl (by kernel_rfl) cells_int) trivial ?_
    refine ch_v (R := []) rfl rfl (oc_move (x := .sl _ _ _) rfl rfl) trivial ?_
    refine ch_v (R := []) rfl rfl (oc_build (pl := [(0, 1), (1, 1), (2, 1)]) (zs := [.int .i64 0, .slice none 0 0, .slice none 0 0]) (ds := [.val _, .sl _ _ _, .val _]) rfl (by kernel_rfl) rfl (by kernel_rfl) (by first | rfl | decide) rfl) trivial ?_
    refine ch_u rfl rfl (oc_alloc (zs := [.int .i64 0, .slice none 0 0, .slice none 0 0]) (cs := [.val _, .val _, .val _]) 1 rfl (by kernel_rfl) rfl rfl) ⟨rfl, trivial⟩ ?_
    refine ch_n rfl rfl (oc_store_row (x := .agg _) (cs' := [_, _, _]) rfl rfl rfl rfl (by kernel_rfl) (by first | decide | exact Nat.le_of_ble_eq_true rfl | simp) (by first | decide | exact Nat.le_of_ble_eq_true rfl | simp) rfl) ⟨rfl, trivial⟩ ?_
    refine ck_nil ?_
    refine aw_seq ?_
    refine aw_seq ?_
    refine aw_text rfl ?_
    refine ch_v (R := []) rfl rfl (oc_fieldAddr (off := 1) rfl rfl rfl (by kernel_rfl) rfl) trivial ?_
    refine ch_v (R := []) rfl rfl (oc_load rfl rfl (by kernel_rfl) cells_sl) trivial ?_
    refine ch_v (R := []) rfl rfl (oc_len rfl rfl (by kernel_rfl)) trivial ?_
    refine ch_v (R := []) rfl rfl (oc_binZ rfl rfl rfl rfl) trivial ?_
    refine ck_nil ?_
    refine aw_cond rfl (fun hb => ?_) (fun hb => ?_)
    · have h0 : h.now.length = 0 := by simpa using hb
      refine aw_seq ?_
      refine aw_text rfl ?_
      refine ch_v (R := [(_, .live _ _)]) rfl rfl (oc_load_own_row (k := 3) (ds := [_, _, _]) rfl rfl (by kernel_rfl) (by kernel_rfl) rfl rfl (by decide)) ⟨rfl, trivial⟩ ?_
      refine ch_n rfl rfl (oc_store_row (x := .agg _) (cs' := [_, _, _]) rfl rfl rfl rfl (by kernel_rfl) (by first | decide | exact Nat.le_of_ble_eq_true rfl | simp) (by first | decide | exact Nat.le_of_ble_eq_true rfl | simp) rfl) ⟨rfl, trivial⟩ ?_
      refine ck_nil ?_
      refine aw_ret ?_
      exact ⟨.inl rfl, by rw [push_first hc h0]; exact (ResOk.cell rfl rfl rfl (by kernel_rfl) (by kernel_rfl) (Nat.le_of_ble_eq_true rfl)).to hist_to, trivial⟩
    · have h0 : ¬ h.now.length = 0 := by simpa using hb
      refine aw_skip ?_
      refine aw_seq ?_
      refine aw_draw mixed ?_
      refine ch_v (R := []) rfl rfl (oc_move (x := .sl _ _ _) rfl rfl) trivial ?_
      refine ch_v (R := []) rfl rfl (oc_fieldAddr (off := 1) rfl rfl rfl (by kernel_rfl) rfl) trivial ?_
      refine ch_v (R := []) rfl rfl (oc_load rfl rfl (by kernel_rfl) cells_sl) trivial ?_
      refine ch_v (R := []) rfl rfl (oc_call rfl (by kernel_rfl) (rmake_pc b h.now hb1 (by have := hk.len; omega)) rfl (by simp only [PureL, Pure, and_self, bs_pure, bsl_pure, histAv, implies_true]) (by simp only [PureL, Pure, and_self, bs_pure, bsl_pure, histAv, implies_true])) trivial ?_
      refine ch_u rfl rfl (oc_buildSlice_own (ps := [.tmp 30]) (xs := [.sl _ _ _]) (e := 22) (by_ := 24) (zs := [.slice none 0 0]) 2 rfl (by kernel_rfl) (by kernel_rfl) rfl rfl rfl rfl (by decide)) ⟨rfl, trivial⟩ ?_
      refine ch_v (R := []) rfl rfl (oc_fieldAddr (off := 2) rfl rfl rfl (by kernel_rfl) rfl) trivial ?_
      refine ch_v (R := []) rfl rfl (oc_load rfl rfl (by kernel_rfl) cells_sl) trivial ?_
      refine ch_u rfl rfl (oc_append (e := 22) (k := 1) (by_ := 24) (zs := [.slice none 0 0]) (cs := [bs (dMake b h.now)]) (ds := h.ds.map bs) 3 rfl rfl rfl (by kernel_rfl) (by kernel_rfl) rfl (by decide) (by decide) (by simp) (by simp) (app_bs _) (by omega) (by omega)) ⟨rfl, rfl, trivial⟩ ?_
      refine ch_v (R := [(_, .live _ _)]) rfl rfl (oc_fieldAddr_own (off := 2) (sz := 1) (r := false) rfl rfl (by first | decide | simp) (by kernel_rfl) (by decide)) ⟨rfl, trivial⟩ ?_
      refine ch_n rfl rfl (oc_store (y := .osl _ _ _) (cs' := [_, _, _]) rfl rfl rfl (by kernel_rfl) (by kernel_rfl) cells_osl (by first | decide | (simp; done) | (simp; omega)) rfl) ⟨rfl, trivial⟩ ?_
      refine ck_nil ⟨by kernel_rfl, ?_⟩
      refine aw_seq ?_
      refine aw_seq ?_
      refine aw_le (Le.freezeCell 1 2 3 (fun j => bs ((dMake b h.now :: h.ds).getD j [])) rfl rfl rfl (by decide) (by simp; omega) (all_rows _ _)) ?_
      refine aw_text rfl ?_
      refine ch_v (R := [(_, .live _ _)]) rfl rfl (oc_fieldAddr_own (off := 2) (sz := 1) (r := false) rfl rfl (by first | decide | simp) (by kernel_rfl) (by decide)) ⟨rfl, trivial⟩ ?_
      refine ch_v (R := [(_, .live _ _)]) rfl rfl (oc_load_own rfl rfl (by kernel_rfl) rfl) ⟨rfl, trivial⟩ ?_
      refine ch_v (R := []) rfl rfl (oc_len rfl rfl (by kernel_rfl)) trivial ?_
      refine ch_v (R := []) rfl rfl (oc_move (x := .val _) rfl rfl) trivial ?_
      refine ch_v (R := []) rfl rfl (oc_binZ rfl rfl rfl (by first | exact binW_sub (by omega) (by omega) | rfl)) trivial ?_
      refine ch_v (R := []) rfl rfl (oc_binZ rfl rfl rfl rfl) trivial ?_
      refine ck_nil ?_
      refine aw_cond rfl (fun hb => ?_) (fun hb => ?_)
      · have hgt : remN h.most - 1 < 1 + (h.ds.length : Int) := by have h1 := of_decide_eq_true hb; omega
        refine aw_text rfl ?_
        refine ch_v (R := [(_, .live _ _)]) rfl rfl (oc_fieldAddr_own (off := 2) (sz := 1) (r := false) rfl rfl (by first | decide | simp) (by kernel_rfl) (by decide)) ⟨rfl, trivial⟩ ?_
        refine ch_v (R := [(_, .live _ _)]) rfl rfl (oc_load_own rfl rfl (by kernel_rfl) rfl) ⟨rfl, trivial⟩ ?_
        refine ch_v (R := []) rfl rfl (oc_move (x := .val _) rfl rfl) trivial ?_
        refine ch_v (R := []) rfl rfl (oc_binZ rfl rfl rfl (by first | exact binW_sub (by omega) (by omega) | rfl)) trivial ?_
        refine ch_v (R := []) rfl rfl (oc_slice_h (e := 22) (by_ := 24) (zs := [.slice none 0 0]) (remN h.most - 1).toNat rfl rfl (vi_eq (by omega)) (by kernel_rfl) (by kernel_rfl) (by omega)) trivial ?_
        refine ch_v (R := [(_, .live _ _)]) rfl rfl (oc_fieldAddr_own (off := 2) (sz := 1) (r := false) rfl rfl (by first | decide | simp) (by kernel_rfl) (by decide)) ⟨rfl, trivial⟩ ?_
        refine ch_n rfl rfl (oc_store (y := .sl _ _ _) (cs' := [_, _, _]) rfl rfl rfl (by kernel_rfl) (by kernel_rfl) (by first | exact cells_sl | exact cells_any) (by first | decide | (simp; done) | (simp; omega)) rfl) ⟨rfl, trivial⟩ ?_
        refine ck_nil ?_
        refine aw_seq ?_
        refine aw_text rfl ?_
        refine ch_v (R := [(_, .live _ _)]) rfl rfl (oc_load_own_row (k := 3) (ds := [_, _, _]) rfl rfl (by kernel_rfl) (by kernel_rfl) rfl rfl (by decide)) ⟨rfl, trivial⟩ ?_
        refine ch_n rfl rfl (oc_store_row (x := .agg _) (cs' := [_, _, _]) rfl rfl rfl rfl (by kernel_rfl) (by first | decide | exact Nat.le_of_ble_eq_true rfl | simp) (by first | decide | exact Nat.le_of_ble_eq_true rfl | simp) rfl) ⟨rfl, trivial⟩ ?_
        refine ck_nil ?_
        refine aw_ret ?_
        exact ⟨.inl rfl, by rw [push_more hc h0]; exact (ResOk.cell rfl rfl rfl (by kernel_rfl) (by kernel_rfl) (Nat.le_of_ble_eq_true rfl)).to (hist_part (by omega)), trivial⟩
      · have hle : 1 + h.ds.length ≤ (remN h.most - 1).toNat := by have h1 := of_decide_eq_false hb; omega
        refine aw_skip ?_
        refine aw_seq ?_
        refine aw_text rfl ?_
        refine ch_v (R := [(_, .live _ _)]) rfl rfl (oc_load_own_row (k := 3) (ds := [_, _, _]) rfl rfl (by kernel_rfl) (by kernel_rfl) rfl rfl (by decide)) ⟨rfl, trivial⟩ ?_
        refine ch_n rfl rfl (oc_store_row (x := .agg _) (cs' := [_, _, _]) rfl rfl rfl rfl (by kernel_rfl) (by first | decide | exact Nat.le_of_ble_eq_true rfl | simp) (by first | decide | exact Nat.le_of_ble_eq_true rfl | simp) rfl) ⟨rfl, trivial⟩ ?_
        refine ck_nil ?_
        refine aw_ret ?_
        exact ⟨.inl rfl, by rw [push_more hc h0]; exact (ResOk.cell rfl rfl rfl (by kernel_rfl) (by kernel_rfl) (Nat.le_of_ble_eq_true rfl)).to (hist_all hle), trivial⟩
end Go.Proofs.Ytjjgdjcapfenpaa
