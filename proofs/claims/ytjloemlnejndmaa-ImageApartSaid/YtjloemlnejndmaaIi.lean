/- Chapter 22: the document's Unpack, walked. -/
import Derived.Test.YtjloemlnejndmaaIh
import Derived.Test.YtjloemlnejndmaaProg
import Derived.KernelRfl
namespace Go.Proofs.Ytjloemlnejndmaa
open Go.RowKit
set_option maxRecDepth 100000
set_option linter.unusedVariables false
set_option linter.unusedSimpArgs false
set_option maxHeartbeats 800000 in
theorem runpack_pc (t : TabP) (xs : List Int) (hx : xs.length ≤ 1000000) (hb : Byt xs) (hF : FitsF t ∨ readE xs ≠ 0) : PC Try.prog 9 [tabAv t, bs xs] (.tup [worldAv (unpP t xs).1, vi (unpP t xs).2]) := by
  refine FC.body 4 129 Try.func9 rfl (by kernel_rfl) ?_
  have htb := tN_bound hb 4 (sB xs)
  have hl4 := li_len xs 4
  have hwr : IntKind.i64.wrap (tN xs 4 (sB xs)).1 = (tN xs 4 (sB xs)).1 := i64_in _ (by omega) (by omega)
  refine aw_seq ?_
  refine aw_text rfl ?_
  refine ch_v (R := []) rfl rfl (oc_box (x := .agg _) rfl rfl) trivial ?_
  refine ch_u rfl rfl (oc_alloc (zs := [.slice none 0 0, .slice none 0 0, .slice none 0 0, .slice none 0 0, .slice none 0 0, .slice none 0 0, .slice none 0 0, .int .u64 0, .int .i64 0, .int .i64 0, .int .i64 0, .int .i64 0, .int .i64 0]) (cs := [.val _, .val _, .val _, .val _, .val _, .val _, .val _, .val _, .val _, .val _, .val _, .val _, .val _]) 0 rfl (by kernel_rfl) rfl rfl) ⟨rfl, trivial⟩ ?_
  refine ch_v (R := []) rfl rfl (oc_assign (x := .val _) rfl rfl) trivial ?_
  refine ck_nil ?_
  refine aw_seq ?_
  refine aw_text rfl ?_
  refine ch_v (R := []) rfl rfl (oc_move (x := .sl _ _ _) rfl rfl) trivial ?_
  refine ch_v (R := []) rfl rfl (oc_build (pl := [(0, 1), (1, 1), (2, 1)]) (zs := [.slice none 0 0, .int .i64 0, .int .i64 0]) (ds := [.sl _ _ _, .val _, .val _]) rfl (by kernel_rfl) rfl (by kernel_rfl) (by first | rfl | decide) rfl) trivial ?_
  refine ch_u rfl rfl (oc_alloc (zs := [.slice none 0 0, .int .i64 0, .int .i64 0]) (cs := [.val _, .val _, .val _]) 1 rfl (by kernel_rfl) rfl rfl) ⟨rfl, trivial⟩ ?_
  refine ch_n rfl rfl (oc_store_row (x := .agg _) (cs' := [_, _, _]) rfl rfl rfl rfl (by kernel_rfl) (by first | decide | exact Nat.le_of_ble_eq_true rfl | simp) (by first | decide | exact Nat.le_of_ble_eq_true rfl | simp) rfl) ⟨rfl, trivial⟩ ?_
  refine ck_nil ?_
  refine aw_seq ?_
  refine aw_text rfl ?_
  refine ch_v (R := [(_, .live _ _)]) rfl rfl (oc_load_own_row (k := 3) (ds := [_, _, _]) rfl rfl (by kernel_rfl) (by kernel_rfl) rfl rfl (by decide)) ⟨rfl, trivial⟩ ?_
  refine ch_v (R := []) rfl rfl (oc_call rfl (by kernel_rfl) (rtakeInts_pc xs (rdK xs 0) hx hb) rfl (by simp only [PureL, Pure, and_self, bs_pure, pure_slI, pure_world, pure_tab, rdAv, vu, implies_true]) (by simp only [PureL, Pure, and_self, bs_pure, pure_slI, pure_world, pure_tab, rdAv, vu, implies_true])) trivial ?_
  refine ch_v (R := []) rfl rfl (oc_move (x := .tup _) rfl rfl) trivial ?_
  refine ch_v (R := []) rfl rfl (oc_extract rfl rfl rfl) trivial ?_
  refine ch_v (R := []) rfl rfl (oc_extract rfl rfl rfl) trivial ?_
  refine ch_v (R := []) rfl rfl (oc_assign (x := .sl _ _ _) rfl rfl) trivial ?_
  refine ch_n rfl rfl (oc_store_row (x := .agg _) (cs' := [_, _, _]) rfl rfl rfl rfl (by kernel_rfl) (by first | decide | exact Nat.le_of_ble_eq_true rfl | simp) (by first | decide | exact Nat.le_of_ble_eq_true rfl | simp) rfl) ⟨rfl, trivial⟩ ?_
  refine ck_nil ?_
  refine aw_seq ?_
  refine aw_text rfl ?_
  refine ch_v (R := [(_, .live _ _)]) rfl rfl (oc_load_own_row (k := 3) (ds := [_, _, _]) rfl rfl (by kernel_rfl) (by kernel_rfl) rfl rfl (by decide)) ⟨rfl, trivial⟩ ?_
  refine ch_v (R := []) rfl rfl (oc_call rfl (by kernel_rfl) (rtakeInts_pc xs (rdK xs 1) hx hb) rfl (by simp only [PureL, Pure, and_self, bs_pure, pure_slI, pure_world, pure_tab, rdAv, vu, implies_true]) (by simp only [PureL, Pure, and_self, bs_pure, pure_slI, pure_world, pure_tab, rdAv, vu, implies_true])) trivial ?_
  refine ch_v (R := []) rfl rfl (oc_move (x := .tup _) rfl rfl) trivial ?_
  refine ch_v (R := []) rfl rfl (oc_extract rfl rfl rfl) trivial ?_
  refine ch_v (R := []) rfl rfl (oc_extract rfl rfl rfl) trivial ?_
  refine ch_v (R := []) rfl rfl (oc_assign (x := .sl _ _ _) rfl rfl) trivial ?_
  refine ch_n rfl rfl (oc_store_row (x := .agg _) (cs' := [_, _, _]) rfl rfl rfl rfl (by kernel_rfl) (by first | decide | exact Nat.le_of_ble_eq_true rfl | simp) (by first | decide | exact Nat.le_of_ble_eq_true rfl | simp) rfl) ⟨rfl, trivial⟩ ?_
  refine ck_nil ?_
  refine aw_seq ?_
  refine aw_text rfl ?_
  refine ch_v (R := [(_, .live _ _)]) rfl rfl (oc_load_own_row (k := 3) (ds := [_, _, _]) rfl rfl (by kernel_rfl) (by kernel_rfl) rfl rfl (by decide)) ⟨rfl, trivial⟩ ?_
  refine ch_v (R := []) rfl rfl (oc_call rfl (by kernel_rfl) (rtakeInts_pc xs (rdK xs 2) hx hb) rfl (by simp only [PureL, Pure, and_self, bs_pure, pure_slI, pure_world, pure_tab, rdAv, vu, implies_true]) (by simp only [PureL, Pure, and_self, bs_pure, pure_slI, pure_world, pure_tab, rdAv, vu, implies_true])) trivial ?_
  refine ch_v (R := []) rfl rfl (oc_move (x := .tup _) rfl rfl) trivial ?_
  refine ch_v (R := []) rfl rfl (oc_extract rfl rfl rfl) trivial ?_
  refine ch_v (R := []) rfl rfl (oc_extract rfl rfl rfl) trivial ?_
  refine ch_v (R := []) rfl rfl (oc_assign (x := .sl _ _ _) rfl rfl) trivial ?_
  refine ch_n rfl rfl (oc_store_row (x := .agg _) (cs' := [_, _, _]) rfl rfl rfl rfl (by kernel_rfl) (by first | decide | exact Nat.le_of_ble_eq_true rfl | simp) (by first | decide | exact Nat.le_of_ble_eq_true rfl | simp) rfl) ⟨rfl, trivial⟩ ?_
  refine ck_nil ?_
  refine aw_seq ?_
  refine aw_text rfl ?_
  refine ch_v (R := [(_, .live _ _)]) rfl rfl (oc_load_own_row (k := 3) (ds := [_, _, _]) rfl rfl (by kernel_rfl) (by kernel_rfl) rfl rfl (by decide)) ⟨rfl, trivial⟩ ?_
  refine ch_v (R := []) rfl rfl (oc_call rfl (by kernel_rfl) (rtakeInts_pc xs (rdK xs 3) hx hb) rfl (by simp only [PureL, Pure, and_self, bs_pure, pure_slI, pure_world, pure_tab, rdAv, vu, implies_true]) (by simp only [PureL, Pure, and_self, bs_pure, pure_slI, pure_world, pure_tab, rdAv, vu, implies_true])) trivial ?_
  refine ch_v (R := []) rfl rfl (oc_move (x := .tup _) rfl rfl) trivial ?_
  refine ch_v (R := []) rfl rfl (oc_extract rfl rfl rfl) trivial ?_
  refine ch_v (R := []) rfl rfl (oc_extract rfl rfl rfl) trivial ?_
  refine ch_v (R := []) rfl rfl (oc_assign (x := .sl _ _ _) rfl rfl) trivial ?_
  refine ch_n rfl rfl (oc_store_row (x := .agg _) (cs' := [_, _, _]) rfl rfl rfl rfl (by kernel_rfl) (by first | decide | exact Nat.le_of_ble_eq_true rfl | simp) (by first | decide | exact Nat.le_of_ble_eq_true rfl | simp) rfl) ⟨rfl, trivial⟩ ?_
  refine ck_nil ?_
  refine aw_seq ?_
  refine aw_text rfl ?_
  refine ch_v (R := [(_, .live _ _)]) rfl rfl (oc_load_own_row (k := 3) (ds := [_, _, _]) rfl rfl (by kernel_rfl) (by kernel_rfl) rfl rfl (by decide)) ⟨rfl, trivial⟩ ?_
  refine ch_v (R := []) rfl rfl (oc_call rfl (by kernel_rfl) (rtakeInts_pc xs (rdK xs 4) hx hb) rfl (by simp only [PureL, Pure, and_self, bs_pure, pure_slI, pure_world, pure_tab, rdAv, vu, implies_true]) (by simp only [PureL, Pure, and_self, bs_pure, pure_slI, pure_world, pure_tab, rdAv, vu, implies_true])) trivial ?_
  refine ch_v (R := []) rfl rfl (oc_move (x := .tup _) rfl rfl) trivial ?_
  refine ch_v (R := []) rfl rfl (oc_extract rfl rfl rfl) trivial ?_
  refine ch_v (R := []) rfl rfl (oc_extract rfl rfl rfl) trivial ?_
  refine ch_v (R := []) rfl rfl (oc_assign (x := .sl _ _ _) rfl rfl) trivial ?_
  refine ch_n rfl rfl (oc_store_row (x := .agg _) (cs' := [_, _, _]) rfl rfl rfl rfl (by kernel_rfl) (by first | decide | exact Nat.le_of_ble_eq_true rfl | simp) (by first | decide | exact Nat.le_of_ble_eq_true rfl | simp) rfl) ⟨rfl, trivial⟩ ?_
  refine ck_nil ?_
  refine aw_seq ?_
  refine aw_text rfl ?_
  refine ch_v (R := [(_, .live _ _)]) rfl rfl (oc_load_own_row (k := 3) (ds := [_, _, _]) rfl rfl (by kernel_rfl) (by kernel_rfl) rfl rfl (by decide)) ⟨rfl, trivial⟩ ?_
  refine ch_v (R := []) rfl rfl (oc_call rfl (by kernel_rfl) (rtakeInts_pc xs (rdK xs 5) hx hb) rfl (by simp only [PureL, Pure, and_self, bs_pure, pure_slI, pure_world, pure_tab, rdAv, vu, implies_true]) (by simp only [PureL, Pure, and_self, bs_pure, pure_slI, pure_world, pure_tab, rdAv, vu, implies_true])) trivial ?_
  refine ch_v (R := []) rfl rfl (oc_move (x := .tup _) rfl rfl) trivial ?_
  refine ch_v (R := []) rfl rfl (oc_extract rfl rfl rfl) trivial ?_
  refine ch_v (R := []) rfl rfl (oc_extract rfl rfl rfl) trivial ?_
  refine ch_v (R := []) rfl rfl (oc_assign (x := .sl _ _ _) rfl rfl) trivial ?_
  refine ch_n rfl rfl (oc_store_row (x := .agg _) (cs' := [_, _, _]) rfl rfl rfl rfl (by kernel_rfl) (by first | decide | exact Nat.le_of_ble_eq_true rfl | simp) (by first | decide | exact Nat.le_of_ble_eq_true rfl | simp) rfl) ⟨rfl, trivial⟩ ?_
  refine ck_nil ?_
  refine aw_seq ?_
  refine aw_text rfl ?_
  refine ch_v (R := [(_, .live _ _)]) rfl rfl (oc_load_own_row (k := 3) (ds := [_, _, _]) rfl rfl (by kernel_rfl) (by kernel_rfl) rfl rfl (by decide)) ⟨rfl, trivial⟩ ?_
  refine ch_v (R := []) rfl rfl (oc_call rfl (by kernel_rfl) (rtakeInts_pc xs (rdK xs 6) hx hb) rfl (by simp only [PureL, Pure, and_self, bs_pure, pure_slI, pure_world, pure_tab, rdAv, vu, implies_true]) (by simp only [PureL, Pure, and_self, bs_pure, pure_slI, pure_world, pure_tab, rdAv, vu, implies_true])) trivial ?_
  refine ch_v (R := []) rfl rfl (oc_move (x := .tup _) rfl rfl) trivial ?_
  refine ch_v (R := []) rfl rfl (oc_extract rfl rfl rfl) trivial ?_
  refine ch_v (R := []) rfl rfl (oc_extract rfl rfl rfl) trivial ?_
  refine ch_v (R := []) rfl rfl (oc_assign (x := .sl _ _ _) rfl rfl) trivial ?_
  refine ch_n rfl rfl (oc_store_row (x := .agg _) (cs' := [_, _, _]) rfl rfl rfl rfl (by kernel_rfl) (by first | decide | exact Nat.le_of_ble_eq_true rfl | simp) (by first | decide | exact Nat.le_of_ble_eq_true rfl | simp) rfl) ⟨rfl, trivial⟩ ?_
  refine ck_nil ?_
  refine aw_seq ?_
  refine aw_text rfl ?_
  refine ch_v (R := [(_, .live _ _)]) rfl rfl (oc_load_own_row (k := 3) (ds := [_, _, _]) rfl rfl (by kernel_rfl) (by kernel_rfl) rfl rfl (by decide)) ⟨rfl, trivial⟩ ?_
  refine ch_v (R := []) rfl rfl (oc_call rfl (by kernel_rfl) (rtakeHuge_pc xs (rdK xs 7) hx hb) rfl (by simp only [PureL, Pure, and_self, bs_pure, pure_slI, pure_world, pure_tab, rdAv, vu, implies_true]) (by simp only [PureL, Pure, and_self, bs_pure, pure_slI, pure_world, pure_tab, rdAv, vu, implies_true])) trivial ?_
  refine ch_v (R := []) rfl rfl (oc_move (x := .tup _) rfl rfl) trivial ?_
  refine ch_v (R := []) rfl rfl (oc_extract rfl rfl rfl) trivial ?_
  refine ch_v (R := []) rfl rfl (oc_extract rfl rfl rfl) trivial ?_
  refine ch_v (R := []) rfl rfl (oc_assign (x := .val _) rfl rfl) trivial ?_
  refine ch_n rfl rfl (oc_store_row (x := .agg _) (cs' := [_, _, _]) rfl rfl rfl rfl (by kernel_rfl) (by first | decide | exact Nat.le_of_ble_eq_true rfl | simp) (by first | decide | exact Nat.le_of_ble_eq_true rfl | simp) rfl) ⟨rfl, trivial⟩ ?_
  refine ck_nil ?_
  refine aw_seq ?_
  refine aw_text rfl ?_
  refine ch_v (R := [(_, .live _ _)]) rfl rfl (oc_load_own_row (k := 3) (ds := [_, _, _]) rfl rfl (by kernel_rfl) (by kernel_rfl) rfl rfl (by decide)) ⟨rfl, trivial⟩ ?_
  refine ch_v (R := []) rfl rfl (oc_call rfl (by kernel_rfl) (rtakeWord_pc xs (sA xs) hx hb) rfl (by simp only [PureL, Pure, and_self, bs_pure, pure_slI, pure_world, pure_tab, rdAv, vu, implies_true]) (by simp only [PureL, Pure, and_self, bs_pure, pure_slI, pure_world, pure_tab, rdAv, vu, implies_true])) trivial ?_
  refine ch_v (R := []) rfl rfl (oc_move (x := .tup _) rfl rfl) trivial ?_
  refine ch_v (R := []) rfl rfl (oc_extract rfl rfl rfl) trivial ?_
  refine ch_v (R := []) rfl rfl (oc_extract rfl rfl rfl) trivial ?_
  refine ch_v (R := []) rfl rfl (oc_assign (x := .val _) rfl rfl) trivial ?_
  refine ch_n rfl rfl (oc_store_row (x := .agg _) (cs' := [_, _, _]) rfl rfl rfl rfl (by kernel_rfl) (by first | decide | exact Nat.le_of_ble_eq_true rfl | simp) (by first | decide | exact Nat.le_of_ble_eq_true rfl | simp) rfl) ⟨rfl, trivial⟩ ?_
  refine ck_nil ?_
  refine aw_seq ?_
  refine aw_text rfl ?_
  refine ch_v (R := [(_, .live _ _)]) rfl rfl (oc_load_own_row (k := 3) (ds := [_, _, _]) rfl rfl (by kernel_rfl) (by kernel_rfl) rfl rfl (by decide)) ⟨rfl, trivial⟩ ?_
  refine ch_v (R := []) rfl rfl (oc_call rfl (by kernel_rfl) (rtakeLong_pc xs (sB xs) hx hb) rfl (by simp only [PureL, Pure, and_self, bs_pure, pure_slI, pure_world, pure_tab, rdAv, vu, implies_true]) (by simp only [PureL, Pure, and_self, bs_pure, pure_slI, pure_world, pure_tab, rdAv, vu, implies_true])) trivial ?_
  refine ch_v (R := []) rfl rfl (oc_move (x := .tup _) rfl rfl) trivial ?_
  refine ch_v (R := []) rfl rfl (oc_extract rfl rfl rfl) trivial ?_
  refine ch_v (R := []) rfl rfl (oc_extract rfl rfl rfl) trivial ?_
  refine ch_v (R := []) rfl rfl (oc_assign (x := .val _) rfl rfl) trivial ?_
  refine ch_n rfl rfl (oc_store_row (x := .agg _) (cs' := [_, _, _]) rfl rfl rfl rfl (by kernel_rfl) (by first | decide | exact Nat.le_of_ble_eq_true rfl | simp) (by first | decide | exact Nat.le_of_ble_eq_true rfl | simp) rfl) ⟨rfl, trivial⟩ ?_
  refine ck_nil ?_
  refine aw_seq ?_
  refine aw_text rfl ?_
  refine ch_v (R := [(_, .live _ _)]) rfl rfl (oc_load_own_row (k := 3) (ds := [_, _, _]) rfl rfl (by kernel_rfl) (by kernel_rfl) rfl rfl (by decide)) ⟨rfl, trivial⟩ ?_
  refine ch_v (R := []) rfl rfl (oc_call rfl (by kernel_rfl) (rtakeByte_pc xs (rbK xs 0) hx hb) rfl (by simp only [PureL, Pure, and_self, bs_pure, pure_slI, pure_world, pure_tab, rdAv, vu, implies_true]) (by simp only [PureL, Pure, and_self, bs_pure, pure_slI, pure_world, pure_tab, rdAv, vu, implies_true])) trivial ?_
  refine ch_v (R := []) rfl rfl (oc_move (x := .tup _) rfl rfl) trivial ?_
  refine ch_v (R := []) rfl rfl (oc_extract rfl rfl rfl) trivial ?_
  refine ch_v (R := []) rfl rfl (oc_extract rfl rfl rfl) trivial ?_
  refine ch_v (R := []) rfl rfl (oc_assign (x := .val _) rfl rfl) trivial ?_
  refine ch_n rfl rfl (oc_store_row (x := .agg _) (cs' := [_, _, _]) rfl rfl rfl rfl (by kernel_rfl) (by first | decide | exact Nat.le_of_ble_eq_true rfl | simp) (by first | decide | exact Nat.le_of_ble_eq_true rfl | simp) rfl) ⟨rfl, trivial⟩ ?_
  refine ck_nil ?_
  refine aw_seq ?_
  refine aw_text rfl ?_
  refine ch_v (R := [(_, .live _ _)]) rfl rfl (oc_load_own_row (k := 3) (ds := [_, _, _]) rfl rfl (by kernel_rfl) (by kernel_rfl) rfl rfl (by decide)) ⟨rfl, trivial⟩ ?_
  refine ch_v (R := []) rfl rfl (oc_call rfl (by kernel_rfl) (rtakeByte_pc xs (rbK xs 1) hx hb) rfl (by simp only [PureL, Pure, and_self, bs_pure, pure_slI, pure_world, pure_tab, rdAv, vu, implies_true]) (by simp only [PureL, Pure, and_self, bs_pure, pure_slI, pure_world, pure_tab, rdAv, vu, implies_true])) trivial ?_
  refine ch_v (R := []) rfl rfl (oc_move (x := .tup _) rfl rfl) trivial ?_
  refine ch_v (R := []) rfl rfl (oc_extract rfl rfl rfl) trivial ?_
  refine ch_v (R := []) rfl rfl (oc_extract rfl rfl rfl) trivial ?_
  refine ch_v (R := []) rfl rfl (oc_assign (x := .val _) rfl rfl) trivial ?_
  refine ch_n rfl rfl (oc_store_row (x := .agg _) (cs' := [_, _, _]) rfl rfl rfl rfl (by kernel_rfl) (by first | decide | exact Nat.le_of_ble_eq_true rfl | simp) (by first | decide | exact Nat.le_of_ble_eq_true rfl | simp) rfl) ⟨rfl, trivial⟩ ?_
  refine ck_nil ?_
  refine aw_seq ?_
  refine aw_text rfl ?_
  refine ch_v (R := [(_, .live _ _)]) rfl rfl (oc_load_own_row (k := 3) (ds := [_, _, _]) rfl rfl (by kernel_rfl) (by kernel_rfl) rfl rfl (by decide)) ⟨rfl, trivial⟩ ?_
  refine ch_v (R := []) rfl rfl (oc_call rfl (by kernel_rfl) (rtakeByte_pc xs (rbK xs 2) hx hb) rfl (by simp only [PureL, Pure, and_self, bs_pure, pure_slI, pure_world, pure_tab, rdAv, vu, implies_true]) (by simp only [PureL, Pure, and_self, bs_pure, pure_slI, pure_world, pure_tab, rdAv, vu, implies_true])) trivial ?_
  refine ch_v (R := []) rfl rfl (oc_move (x := .tup _) rfl rfl) trivial ?_
  refine ch_v (R := []) rfl rfl (oc_extract rfl rfl rfl) trivial ?_
  refine ch_v (R := []) rfl rfl (oc_extract rfl rfl rfl) trivial ?_
  refine ch_v (R := []) rfl rfl (oc_assign (x := .val _) rfl rfl) trivial ?_
  refine ch_n rfl rfl (oc_store_row (x := .agg _) (cs' := [_, _, _]) rfl rfl rfl rfl (by kernel_rfl) (by first | decide | exact Nat.le_of_ble_eq_true rfl | simp) (by first | decide | exact Nat.le_of_ble_eq_true rfl | simp) rfl) ⟨rfl, trivial⟩ ?_
  refine ck_nil ?_
  refine aw_seq ?_
  refine aw_seq ?_
  refine aw_text rfl ?_
  refine ch_v (R := [(_, .live _ _)]) rfl rfl (oc_load_own_row (k := 3) (ds := [_, _, _]) rfl rfl (by kernel_rfl) (by kernel_rfl) rfl rfl (by decide)) ⟨rfl, trivial⟩ ?_
  refine ch_v (R := []) rfl rfl (oc_call rfl (by kernel_rfl) (rend_pc xs (rbK xs 3)) rfl (by simp only [PureL, Pure, and_self, bs_pure, pure_slI, pure_world, pure_tab, rdAv, vu, implies_true]) (by simp only [PureL, Pure, and_self, bs_pure, pure_slI, pure_world, pure_tab, rdAv, vu, implies_true])) trivial ?_
  refine ch_v (R := []) rfl rfl (oc_assign (x := .val _) rfl rfl) trivial ?_
  refine ck_nil ?_
  refine aw_seq ?_
  refine aw_text rfl ?_
  refine ch_v (R := []) rfl rfl (oc_move (x := .val _) rfl rfl) trivial ?_
  refine ch_v (R := []) rfl rfl (oc_binZ rfl rfl rfl rfl) trivial ?_
  refine ck_nil ?_
  refine aw_cond rfl (fun hb_ => ?_) (fun hb_ => ?_)
  · have he : readE xs ≠ 0 := by simpa [readE] using hb_
    refine aw_seq ?_
    refine aw_text rfl ?_
    refine ch_v (R := []) rfl rfl (oc_build (pl := [(0, 1), (1, 1), (2, 1), (3, 1), (4, 1), (5, 1), (6, 1), (7, 1), (8, 1), (9, 1), (10, 1), (11, 1), (12, 1)]) (zs := [.slice none 0 0, .slice none 0 0, .slice none 0 0, .slice none 0 0, .slice none 0 0, .slice none 0 0, .slice none 0 0, .int .u64 0, .int .i64 0, .int .i64 0, .int .i64 0, .int .i64 0, .int .i64 0]) (ds := [.val _, .val _, .val _, .val _, .val _, .val _, .val _, .val _, .val _, .val _, .val _, .val _, .val _]) rfl (by kernel_rfl) rfl (by kernel_rfl) (by first | rfl | decide) rfl) trivial ?_
    refine ch_v (R := []) rfl rfl (oc_move (x := .val _) rfl rfl) trivial ?_
    refine ch_n rfl rfl (oc_store_row (x := .agg _) (cs' := [_, _, _, _, _, _, _, _, _, _, _, _, _]) rfl rfl rfl rfl (by kernel_rfl) (by first | decide | exact Nat.le_of_ble_eq_true rfl | simp) (by first | decide | exact Nat.le_of_ble_eq_true rfl | simp) rfl) ⟨rfl, trivial⟩ ?_
    refine ch_v (R := []) rfl rfl (oc_assign (x := .val _) rfl rfl) trivial ?_
    refine ck_nil ?_
    refine aw_ret ?_
    exact ⟨.inl rfl, by rw [unp_err he]; exact ResOk.two rfl ((ResC.row rfl rfl (by kernel_rfl) (by kernel_rfl) (Nat.le_of_ble_eq_true rfl)).to zero_to) (ResC.tmp rfl), trivial⟩
  · have he : ¬ readE xs ≠ 0 := by simpa [readE] using hb_
    have hF1 := hF.resolve_right he
    refine aw_skip ?_
    refine aw_seq ?_
    refine aw_seq ?_
    refine aw_text rfl ?_
    refine ch_v (R := []) rfl rfl (oc_move (x := .val _) rfl rfl) trivial ?_
    refine ch_v (R := []) rfl rfl (oc_binZ rfl rfl rfl rfl) trivial ?_
    refine ch_v (R := []) rfl rfl (oc_move (x := .val _) rfl rfl) trivial ?_
    refine ch_g (R := []) rfl rfl rfl gate_f (fun hC => oc_move (x := .val _) rfl rfl) (fun hC => ⟨(by first | rfl | exact hC | (simp only [Bool.and_eq_true] at hC; first | exact hC.1 | exact hC.1.1 | exact hC.2) | simp_all), trivial⟩) trivial ?_
    refine ch_g (R := []) rfl rfl rfl gate_f (fun hC => oc_binZ rfl rfl rfl rfl) (fun hC => ⟨(by first | rfl | exact hC | (simp only [Bool.and_eq_true] at hC; first | exact hC.1 | exact hC.1.1 | exact hC.2) | simp_all), (by first | rfl | exact hC | (simp only [Bool.and_eq_true] at hC; first | exact hC.1 | exact hC.1.1 | exact hC.2) | simp_all), trivial⟩) trivial ?_
    refine ch_v (R := []) rfl rfl (oc_or rfl rfl rfl (by first | exact fun h => h | simp_all)) trivial ?_
    refine ch_v (R := []) rfl rfl (oc_move (x := .val _) rfl rfl) trivial ?_
    refine ch_g (R := []) rfl rfl rfl gate_f (fun hC => oc_move (x := .val _) rfl rfl) (fun hC => ⟨(by first | rfl | exact hC | (simp only [Bool.and_eq_true] at hC; first | exact hC.1 | exact hC.1.1 | exact hC.2) | simp_all), trivial⟩) trivial ?_
    refine ch_g (R := []) rfl rfl rfl gate_f (fun hC => oc_conv (k := .u32) .i64 rfl rfl (by kernel_rfl) (by kernel_rfl)) (fun hC => ⟨(by first | rfl | exact hC | (simp only [Bool.and_eq_true] at hC; first | exact hC.1 | exact hC.1.1 | exact hC.2) | simp_all), trivial⟩) trivial ?_
    refine ch_g (R := []) rfl rfl rfl gate_f (fun hC => oc_binZ rfl rfl rfl rfl) (fun hC => ⟨(by first | rfl | exact hC | (simp only [Bool.and_eq_true] at hC; first | exact hC.1 | exact hC.1.1 | exact hC.2) | simp_all), (by first | rfl | exact hC | (simp only [Bool.and_eq_true] at hC; first | exact hC.1 | exact hC.1.1 | exact hC.2) | simp_all), trivial⟩) trivial ?_
    refine ch_v (R := []) rfl rfl (oc_or rfl rfl rfl (by first | exact fun h => h | simp_all)) trivial ?_
    refine ck_nil ?_
    refine aw_cond rfl (fun hb_ => ?_) (fun hb_ => ?_)
    · have h1 : bigB (readW xs) = true := by rw [hwr] at hb_; exact hb_
      refine aw_seq ?_
      refine aw_text rfl ?_
      refine ch_v (R := []) rfl rfl (oc_build (pl := [(0, 1), (1, 1), (2, 1), (3, 1), (4, 1), (5, 1), (6, 1), (7, 1), (8, 1), (9, 1), (10, 1), (11, 1), (12, 1)]) (zs := [.slice none 0 0, .slice none 0 0, .slice none 0 0, .slice none 0 0, .slice none 0 0, .slice none 0 0, .slice none 0 0, .int .u64 0, .int .i64 0, .int .i64 0, .int .i64 0, .int .i64 0, .int .i64 0]) (ds := [.val _, .val _, .val _, .val _, .val _, .val _, .val _, .val _, .val _, .val _, .val _, .val _, .val _]) rfl (by kernel_rfl) rfl (by kernel_rfl) (by first | rfl | decide) rfl) trivial ?_
      refine ch_n rfl rfl (oc_store_row (x := .agg _) (cs' := [_, _, _, _, _, _, _, _, _, _, _, _, _]) rfl rfl rfl rfl (by kernel_rfl) (by first | decide | exact Nat.le_of_ble_eq_true rfl | simp) (by first | decide | exact Nat.le_of_ble_eq_true rfl | simp) rfl) ⟨rfl, trivial⟩ ?_
      refine ch_v (R := []) rfl rfl (oc_assign (x := .val _) rfl rfl) trivial ?_
      refine ck_nil ?_
      refine aw_ret ?_
      exact ⟨.inl rfl, by rw [unp_big he h1]; exact ResOk.two rfl ((ResC.row rfl rfl (by kernel_rfl) (by kernel_rfl) (Nat.le_of_ble_eq_true rfl)).to zero_to) (ResC.tmp rfl), trivial⟩
    · have h1 : bigB (readW xs) = false := by rw [hwr] at hb_; exact hb_
      refine aw_skip ?_
      refine aw_seq ?_
      refine aw_le (Le.sub (τ := ⟨[(2, .ptr (tabAv t)), (4, .own 0 0), (7, slI (liK xs 0)), (8, slI (liK xs 1)), (9, slI (liK xs 2)), (10, slI (liK xs 3)), (11, slI (liK xs 4)), (12, slI (liK xs 5)), (13, slI (liK xs 6)), (14, vu (tN xs 8 (rdK xs 7)).1), (15, vi (wrap16 (tN xs 2 (sA xs)).1)), (16, .val (.int .u32 (tN xs 4 (sB xs)).1)), (17, vi (byK xs 0)), (18, vi (byK xs 1)), (19, vi (byK xs 2))], [(0, .live 34 [.val (.slice none 0 0), .val (.slice none 0 0), .val (.slice none 0 0), .val (.slice none 0 0), .val (.slice none 0 0), .val (.slice none 0 0), .val (.slice none 0 0), .val (.int .u64 0), vi 0, vi 0, vi 0, vi 0, vi 0]), (2, .unborn)]⟩) (by repeat (first | trivial | refine ⟨.inr rfl, ?_⟩)) ⟨rfl, rfl, trivial⟩) ?_
      refine aw_text rfl ?_
      refine ch_v (R := []) rfl rfl (oc_move (x := .sl _ _ _) rfl rfl) trivial ?_
      refine ch_v (R := []) rfl rfl (oc_move (x := .sl _ _ _) rfl rfl) trivial ?_
      refine ch_v (R := []) rfl rfl (oc_move (x := .sl _ _ _) rfl rfl) trivial ?_
      refine ch_v (R := []) rfl rfl (oc_move (x := .sl _ _ _) rfl rfl) trivial ?_
      refine ch_v (R := []) rfl rfl (oc_move (x := .sl _ _ _) rfl rfl) trivial ?_
      refine ch_v (R := []) rfl rfl (oc_call rfl (by kernel_rfl) (up_pc (liK xs 4) (by omega)) rfl (by simp only [PureL, Pure, and_self, bs_pure, pure_slI, pure_world, pure_tab, rdAv, vu, implies_true]) (by simp only [PureL, Pure, and_self, bs_pure, pure_slI, pure_world, pure_tab, rdAv, vu, implies_true])) trivial ?_
      refine ch_v (R := []) rfl rfl (oc_move (x := .sl _ _ _) rfl rfl) trivial ?_
      refine ch_v (R := []) rfl rfl (oc_move (x := .sl _ _ _) rfl rfl) trivial ?_
      refine ch_v (R := []) rfl rfl (oc_move (x := .val _) rfl rfl) trivial ?_
      refine ch_v (R := []) rfl rfl (oc_move (x := .val _) rfl rfl) trivial ?_
      refine ch_v (R := []) rfl rfl (oc_move (x := .val _) rfl rfl) trivial ?_
      refine ch_v (R := []) rfl rfl (OC.cast (oc_conv (k := .u32) .i64 rfl rfl (by kernel_rfl) (by kernel_rfl)) (show Av.val (.int .i64 (IntKind.i64.wrap (tN xs 4 (sB xs)).1)) = vi (tN xs 4 (sB xs)).1 from by rw [hwr])) trivial ?_
      refine ch_v (R := []) rfl rfl (oc_move (x := .val _) rfl rfl) trivial ?_
      refine ch_v (R := []) rfl rfl (oc_move (x := .val _) rfl rfl) trivial ?_
      refine ch_v (R := []) rfl rfl (oc_move (x := .val _) rfl rfl) trivial ?_
      refine ch_v (R := []) rfl rfl (oc_build (pl := [(0, 1), (1, 1), (2, 1), (3, 1), (4, 1), (5, 1), (6, 1), (7, 1), (8, 1), (9, 1), (10, 1), (11, 1), (12, 1)]) (zs := [.slice none 0 0, .slice none 0 0, .slice none 0 0, .slice none 0 0, .slice none 0 0, .slice none 0 0, .slice none 0 0, .int .u64 0, .int .i64 0, .int .i64 0, .int .i64 0, .int .i64 0, .int .i64 0]) (ds := [slI (liK xs 0), slI (liK xs 1), slI (liK xs 2), slI (liK xs 3), slI ((liK xs 4).map (· % 65536)), slI (liK xs 5), slI (liK xs 6), vu (tN xs 8 (rdK xs 7)).1, vi (wrap16 (tN xs 2 (sA xs)).1), vi (tN xs 4 (sB xs)).1, vi (byK xs 0), vi (byK xs 1), vi (byK xs 2)]) rfl (by kernel_rfl) rfl (by kernel_rfl) (by kernel_rfl) (by kernel_rfl)) trivial ?_
      refine ch_u rfl rfl (oc_alloc (zs := [.slice none 0 0, .slice none 0 0, .slice none 0 0, .slice none 0 0, .slice none 0 0, .slice none 0 0, .slice none 0 0, .int .u64 0, .int .i64 0, .int .i64 0, .int .i64 0, .int .i64 0, .int .i64 0]) (cs := [.val _, .val _, .val _, .val _, .val _, .val _, .val _, .val _, .val _, .val _, .val _, .val _, .val _]) 2 rfl (by kernel_rfl) rfl rfl) ⟨rfl, trivial⟩ ?_
      refine ch_n rfl rfl (oc_store_row (x := .agg _) (cs' := [_, _, _, _, _, _, _, _, _, _, _, _, _]) rfl rfl rfl rfl (by kernel_rfl) (by first | decide | exact Nat.le_of_ble_eq_true rfl | simp) (by first | decide | exact Nat.le_of_ble_eq_true rfl | simp) rfl) ⟨rfl, trivial⟩ ?_
      refine ck_nil ?_
      refine aw_seq ?_
      refine aw_seq ?_
      refine aw_text rfl ?_
      refine ch_v (R := []) rfl rfl (oc_load_row rfl rfl (by kernel_rfl) (by kernel_rfl) rfl) trivial ?_
      refine ch_v (R := [(_, .live _ _)]) rfl rfl (oc_load_own_row (k := 13) (ds := [_, _, _, _, _, _, _, _, _, _, _, _, _]) rfl rfl (by kernel_rfl) (by kernel_rfl) rfl rfl (by decide)) ⟨rfl, trivial⟩ ?_
      refine ch_v (R := []) rfl rfl (oc_call rfl (by kernel_rfl) (rright_pc t hF1 (readW xs)) rfl (by simp only [PureL, Pure, and_self, bs_pure, pure_slI, pure_world, pure_tab, rdAv, vu, implies_true]) (by simp only [PureL, Pure, and_self, bs_pure, pure_slI, pure_world, pure_tab, rdAv, vu, implies_true])) trivial ?_
      refine ch_v (R := []) rfl rfl (oc_not rfl rfl) trivial ?_
      refine ck_nil ?_
      refine aw_cond rfl (fun hb_ => ?_) (fun hb_ => ?_)
      · have h2 : rightB t (readW xs) = false := by rw [right_eq hF1]; simpa using hb_
        refine aw_seq ?_
        refine aw_text rfl ?_
        refine ch_v (R := []) rfl rfl (oc_build (pl := [(0, 1), (1, 1), (2, 1), (3, 1), (4, 1), (5, 1), (6, 1), (7, 1), (8, 1), (9, 1), (10, 1), (11, 1), (12, 1)]) (zs := [.slice none 0 0, .slice none 0 0, .slice none 0 0, .slice none 0 0, .slice none 0 0, .slice none 0 0, .slice none 0 0, .int .u64 0, .int .i64 0, .int .i64 0, .int .i64 0, .int .i64 0, .int .i64 0]) (ds := [.val _, .val _, .val _, .val _, .val _, .val _, .val _, .val _, .val _, .val _, .val _, .val _, .val _]) rfl (by kernel_rfl) rfl (by kernel_rfl) (by first | rfl | decide) rfl) trivial ?_
        refine ch_n rfl rfl (oc_store_row (x := .agg _) (cs' := [_, _, _, _, _, _, _, _, _, _, _, _, _]) rfl rfl rfl rfl (by kernel_rfl) (by first | decide | exact Nat.le_of_ble_eq_true rfl | simp) (by first | decide | exact Nat.le_of_ble_eq_true rfl | simp) rfl) ⟨rfl, trivial⟩ ?_
        refine ch_v (R := []) rfl rfl (oc_assign (x := .val _) rfl rfl) trivial ?_
        refine ck_nil ?_
        refine aw_ret ?_
        exact ⟨.inl rfl, by rw [unp_state he h1 h2]; exact ResOk.two rfl ((ResC.row rfl rfl (by kernel_rfl) (by kernel_rfl) (Nat.le_of_ble_eq_true rfl)).to zero_to) (ResC.tmp rfl), trivial⟩
      · have h2 : rightB t (readW xs) = true := by rw [right_eq hF1]; simpa using hb_
        refine aw_skip ?_
        refine aw_seq ?_
        refine aw_text rfl ?_
        refine ch_v (R := [(_, .live _ _)]) rfl rfl (oc_load_own_row (k := 13) (ds := [_, _, _, _, _, _, _, _, _, _, _, _, _]) rfl rfl (by kernel_rfl) (by kernel_rfl) rfl rfl (by decide)) ⟨rfl, trivial⟩ ?_
        refine ch_n rfl rfl (oc_store_row (x := .agg _) (cs' := [_, _, _, _, _, _, _, _, _, _, _, _, _]) rfl rfl rfl rfl (by kernel_rfl) (by first | decide | exact Nat.le_of_ble_eq_true rfl | simp) (by first | decide | exact Nat.le_of_ble_eq_true rfl | simp) rfl) ⟨rfl, trivial⟩ ?_
        refine ch_v (R := []) rfl rfl (oc_assign (x := .val _) rfl rfl) trivial ?_
        refine ck_nil ?_
        refine aw_ret ?_
        exact ⟨.inl rfl, by rw [unp_ok he h1 h2]; exact ResOk.two rfl (ResC.row rfl rfl (by kernel_rfl) (by kernel_rfl) (Nat.le_of_ble_eq_true rfl)) (ResC.tmp rfl), trivial⟩
end Go.Proofs.Ytjloemlnejndmaa
