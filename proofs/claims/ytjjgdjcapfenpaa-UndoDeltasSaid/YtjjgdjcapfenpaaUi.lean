/- Chapter 46: the examples, and the laws UndoPushes and UndoPops, walked. -/
import Derived.Test.YtjjgdjcapfenpaaUh
import Derived.Test.YtjjgdjcapfenpaaProg
import Derived.KernelRfl
namespace Go.Proofs.Ytjjgdjcapfenpaa
open Go.RowKit
set_option maxRecDepth 100000
set_option linter.unusedVariables false
set_option linter.unusedSimpArgs false
theorem bs_row {xs : List Int} {row : Nat → Av} (h : ∀ j, j < xs.length → row j = bv xs j) (E : Env) (v : Value) (hr : Rep E (.sl 1 xs.length row) v) : Rep E (bs xs) v := rep_rows (fun E j hj v hv => h j hj ▸ hv) E v hr
theorem bsl_row {xs : List (List Int)} {row : Nat → Av} (h : ∀ j, j < xs.length → ∀ E v, Rep E (row j) v → Rep E (bs (xs.getD j [])) v) (E : Env) (v : Value) (hr : Rep E (.sl 1 xs.length row) v) : Rep E (bsl xs) v := rep_rows (fun E j hj v hv => h j hj E v hv) E v hr
theorem PC.arg2 {P : Program} {f : Nat} {a x y z : Av} (h : PC P f [a, x] z) (hxy : ∀ E v, Rep E y v → Rep E x v) : PC P f [a, y] z := fun E vs hG hA hR hB hU => h E vs hG (by
  unfold RepL RepL at hA ⊢
  obtain ⟨v, us, h1, h2, u, ws, h3, h4, h5⟩ := hA
  exact ⟨v, us, h1, h2, u, ws, h3, hxy E u h4, h5⟩) hR hB hU
def aw1 : HistP := pushP (newP 2) [1, 2]
def aw2 : HistP := pushP aw1 [1, 3]
def aw3 : HistP := pushP aw2 [4]
theorem bytL (xs : List Int) (h : xs.all (fun x => decide (0 ≤ x) && decide (x < 256)) = true) : Byt xs := fun x hx => by
  have := List.all_eq_true.1 h x hx
  simpa using this
theorem aw1_ok : HOk aw1 := push_ok (new_ok 2) (by decide) (by decide) (bytL _ (by decide))
theorem aw2_ok : HOk aw2 := push_ok aw1_ok (by decide) (by decide +kernel) (bytL _ (by decide))
theorem aw3_ok : HOk aw3 := push_ok aw2_ok (by decide) (by decide +kernel) (bytL _ (by decide))
theorem aw_all : allP aw3 = ([[4], [1, 3]], 0) := by decide +kernel
theorem aw_len : lenP aw3 = 2 := by decide +kernel
theorem aw_pop : (popP (newP 5)).2.2 = 11 := by decide +kernel
theorem aw_none : lenP (pushP (newP 0) [1]) = 0 := by decide +kernel
theorem aw0_ok : HOk (pushP (newP 0) [1]) := push_ok (new_ok 0) (by decide) (by decide) (bytL _ (by decide))
theorem rowOne (x : Int) (E : Env) (v : Value) (h : Rep E (.sl 1 1 (rowL [.val (.int .u8 x)])) v) : Rep E (bs [x]) v := bs_row (xs := [x]) (fun j hj => by rcases j with _ | j <;> first | rfl | (simp at hj)) E v h
theorem rowTwo (x y : Int) (E : Env) (v : Value) (h : Rep E (.sl 1 2 (rowL [.val (.int .u8 x), .val (.int .u8 y)])) v) : Rep E (bs [x, y]) v := bs_row (xs := [x, y]) (fun j hj => by rcases j with _ | _ | j <;> first | rfl | (simp at hj; omega)) E v h
theorem rowRows (E : Env) (v : Value) (h : Rep E (.sl 1 2 (rowL [.sl 1 1 (rowL [.val (.int .u8 4)]), .sl 1 2 (rowL [.val (.int .u8 1), .val (.int .u8 3)])])) v) : Rep E (bsl [[4], [1, 3]]) v := bsl_row (xs := [[4], [1, 3]]) (fun j hj => by
  rcases j with _ | _ | j
  · exact fun E v h => rowOne 4 E v h
  · exact fun E v h => rowTwo 1 3 E v h
  · simp at hj; omega) E v h
theorem pure_rowL {l : List Av} (h : PureL l) : ∀ j, Pure (rowL l j) := by
  induction l with
  | nil => intro j; simp [rowL, Pure]
  | cons x l ih =>
    intro j
    unfold PureL at h
    cases j with
    | zero => exact h.1
    | succ j => exact ih h.2 j
theorem all_len (h : HistP) : ∀ (f : Nat) (acc : List (List Int)) (g : HistP), (allG f acc g).1.length ≤ acc.length + f
  | 0, acc, g => by simp [allG]
  | f + 1, acc, g => by
    unfold allG
    split
    · simp
    · split
      · simp
      · have := all_len h f (acc ++ [(popP g).1]) (popP g).2.1
        simp at this ⊢
        omega
theorem allP_len {h : HistP} (hk : HOk h) : (allP h).1.length ≤ 1000000000 := by
  unfold allP
  split
  · simp
  · have h1 := all_len h (fuelP h) [] h
    have h2 := fuel_le hk
    show (allG (fuelP h) [] h).1.length ≤ _
    simp at h1
    omega
set_option maxHeartbeats 800000 in
theorem awake_pc  : PC Try.prog 8 [] (vb true) := by
  refine FC.body 6 50 Try.func8 rfl (by kernel_rfl) ?_
  refine aw_seq ?_
  refine aw_text rfl ?_
  refine ch_v (R := []) rfl rfl (oc_assign (x := .val _) rfl rfl) trivial ?_
  refine ck_nil ?_
  refine aw_seq ?_
  refine aw_text rfl ?_
  refine ch_v (R := []) rfl rfl (oc_call rfl (by kernel_rfl) (new_pc _) rfl (by first | (simp only [PureL, Pure, and_self, bs_pure, bsl_pure, histAv, implies_true]; done) | (refine ⟨by simp only [Pure, PureL, bs_pure, bsl_pure, histAv, and_self, implies_true], ?_, trivial⟩; unfold Pure; exact pure_rowL (by simp only [PureL, Pure, and_self, implies_true]; try exact ⟨pure_rowL (by simp only [PureL, Pure, and_self]), pure_rowL (by simp only [PureL, Pure, and_self]), trivial⟩))) (by first | (simp only [PureL, Pure, and_self, bs_pure, bsl_pure, histAv, implies_true]; done) | (refine ⟨by simp only [Pure, PureL, bs_pure, bsl_pure, histAv, and_self, implies_true], ?_, trivial⟩; unfold Pure; exact pure_rowL (by simp only [PureL, Pure, and_self, implies_true]; try exact ⟨pure_rowL (by simp only [PureL, Pure, and_self]), pure_rowL (by simp only [PureL, Pure, and_self]), trivial⟩)))) trivial ?_
  refine ch_v (R := []) rfl rfl (oc_buildSlice (ps := [_, _]) (xs := [.val _, .val _]) (e := 5) (k := 1) (by_ := 1) (zs := [.int .u8 0]) rfl (by kernel_rfl) (by kernel_rfl) rfl rfl rfl (by decide) (by decide)) trivial ?_
  refine ch_v (R := []) rfl rfl (oc_call rfl (by kernel_rfl) (PC.arg2 (push_pc (newP 2) (new_ok 2) [1, 2] (by decide)) (rowTwo 1 2)) rfl (by first | (simp only [PureL, Pure, and_self, bs_pure, bsl_pure, histAv, implies_true]; done) | (refine ⟨by simp only [Pure, PureL, bs_pure, bsl_pure, histAv, and_self, implies_true], ?_, trivial⟩; unfold Pure; exact pure_rowL (by simp only [PureL, Pure, and_self, implies_true]; try exact ⟨pure_rowL (by simp only [PureL, Pure, and_self]), pure_rowL (by simp only [PureL, Pure, and_self]), trivial⟩))) (by first | (simp only [PureL, Pure, and_self, bs_pure, bsl_pure, histAv, implies_true]; done) | (refine ⟨by simp only [Pure, PureL, bs_pure, bsl_pure, histAv, and_self, implies_true], ?_, trivial⟩; unfold Pure; exact pure_rowL (by simp only [PureL, Pure, and_self, implies_true]; try exact ⟨pure_rowL (by simp only [PureL, Pure, and_self]), pure_rowL (by simp only [PureL, Pure, and_self]), trivial⟩)))) trivial ?_
  refine ch_v (R := []) rfl rfl (oc_buildSlice (ps := [_, _]) (xs := [.val _, .val _]) (e := 5) (k := 1) (by_ := 1) (zs := [.int .u8 0]) rfl (by kernel_rfl) (by kernel_rfl) rfl rfl rfl (by decide) (by decide)) trivial ?_
  refine ch_v (R := []) rfl rfl (oc_call rfl (by kernel_rfl) (PC.arg2 (push_pc aw1 aw1_ok [1, 3] (by decide)) (rowTwo 1 3)) rfl (by first | (simp only [PureL, Pure, and_self, bs_pure, bsl_pure, histAv, implies_true]; done) | (refine ⟨by simp only [Pure, PureL, bs_pure, bsl_pure, histAv, and_self, implies_true], ?_, trivial⟩; unfold Pure; exact pure_rowL (by simp only [PureL, Pure, and_self, implies_true]; try exact ⟨pure_rowL (by simp only [PureL, Pure, and_self]), pure_rowL (by simp only [PureL, Pure, and_self]), trivial⟩))) (by first | (simp only [PureL, Pure, and_self, bs_pure, bsl_pure, histAv, implies_true]; done) | (refine ⟨by simp only [Pure, PureL, bs_pure, bsl_pure, histAv, and_self, implies_true], ?_, trivial⟩; unfold Pure; exact pure_rowL (by simp only [PureL, Pure, and_self, implies_true]; try exact ⟨pure_rowL (by simp only [PureL, Pure, and_self]), pure_rowL (by simp only [PureL, Pure, and_self]), trivial⟩)))) trivial ?_
  refine ch_v (R := []) rfl rfl (oc_buildSlice (ps := [_]) (xs := [.val _]) (e := 5) (k := 1) (by_ := 1) (zs := [.int .u8 0]) rfl (by kernel_rfl) (by kernel_rfl) rfl rfl rfl (by decide) (by decide)) trivial ?_
  refine ch_v (R := []) rfl rfl (oc_call rfl (by kernel_rfl) (PC.arg2 (push_pc aw2 aw2_ok [4] (by decide)) (rowOne 4)) rfl (by first | (simp only [PureL, Pure, and_self, bs_pure, bsl_pure, histAv, implies_true]; done) | (refine ⟨by simp only [Pure, PureL, bs_pure, bsl_pure, histAv, and_self, implies_true], ?_, trivial⟩; unfold Pure; exact pure_rowL (by simp only [PureL, Pure, and_self, implies_true]; try exact ⟨pure_rowL (by simp only [PureL, Pure, and_self]), pure_rowL (by simp only [PureL, Pure, and_self]), trivial⟩))) (by first | (simp only [PureL, Pure, and_self, bs_pure, bsl_pure, histAv, implies_true]; done) | (refine ⟨by simp only [Pure, PureL, bs_pure, bsl_pure, histAv, and_self, implies_true], ?_, trivial⟩; unfold Pure; exact pure_rowL (by simp only [PureL, Pure, and_self, implies_true]; try exact ⟨pure_rowL (by simp only [PureL, Pure, and_self]), pure_rowL (by simp only [PureL, Pure, and_self]), trivial⟩)))) trivial ?_
  refine ch_u rfl rfl (oc_alloc (zs := [.int .i64 0, .slice none 0 0, .slice none 0 0]) (cs := [.val _, .val _, .val _]) 0 rfl (by kernel_rfl) rfl rfl) ⟨rfl, trivial⟩ ?_
  refine ch_n rfl rfl (oc_store_row (x := .agg _) (cs' := [_, _, _]) rfl rfl rfl rfl (by kernel_rfl) (by first | decide | exact Nat.le_of_ble_eq_true rfl | simp) (by first | decide | exact Nat.le_of_ble_eq_true rfl | simp) rfl) ⟨rfl, trivial⟩ ?_
  refine ck_nil ?_
  refine aw_seq ?_
  refine aw_text rfl ?_
  refine ch_v (R := [(_, .live _ _)]) rfl rfl (oc_load_own_row (k := 3) (ds := [_, _, _]) rfl rfl (by kernel_rfl) (by kernel_rfl) rfl rfl (by decide)) ⟨rfl, trivial⟩ ?_
  refine ch_v (R := []) rfl rfl (oc_call rfl (by kernel_rfl) (all_pc aw3 aw3_ok) rfl (by first | (simp only [PureL, Pure, and_self, bs_pure, bsl_pure, histAv, implies_true]; done) | (refine ⟨by simp only [Pure, PureL, bs_pure, bsl_pure, histAv, and_self, implies_true], ?_, trivial⟩; unfold Pure; exact pure_rowL (by simp only [PureL, Pure, and_self, implies_true]; try exact ⟨pure_rowL (by simp only [PureL, Pure, and_self]), pure_rowL (by simp only [PureL, Pure, and_self]), trivial⟩))) (by first | (simp only [PureL, Pure, and_self, bs_pure, bsl_pure, histAv, implies_true]; done) | (refine ⟨by simp only [Pure, PureL, bs_pure, bsl_pure, histAv, and_self, implies_true], ?_, trivial⟩; unfold Pure; exact pure_rowL (by simp only [PureL, Pure, and_self, implies_true]; try exact ⟨pure_rowL (by simp only [PureL, Pure, and_self]), pure_rowL (by simp only [PureL, Pure, and_self]), trivial⟩)))) trivial ?_
  refine ch_v (R := []) rfl rfl (oc_move (x := .tup _) rfl rfl) trivial ?_
  refine ch_v (R := []) rfl rfl (oc_extract rfl rfl rfl) trivial ?_
  refine ch_v (R := []) rfl rfl (oc_extract rfl rfl rfl) trivial ?_
  refine ch_v (R := []) rfl rfl (oc_assign (x := .sl _ _ _) rfl rfl) trivial ?_
  refine ch_v (R := []) rfl rfl (oc_assign (x := .val _) rfl rfl) trivial ?_
  refine ck_nil ?_
  refine aw_seq ?_
  refine aw_text rfl ?_
  refine ch_v (R := []) rfl rfl (oc_call rfl (by kernel_rfl) (new_pc _) rfl (by first | (simp only [PureL, Pure, and_self, bs_pure, bsl_pure, histAv, implies_true]; done) | (refine ⟨by simp only [Pure, PureL, bs_pure, bsl_pure, histAv, and_self, implies_true], ?_, trivial⟩; unfold Pure; exact pure_rowL (by simp only [PureL, Pure, and_self, implies_true]; try exact ⟨pure_rowL (by simp only [PureL, Pure, and_self]), pure_rowL (by simp only [PureL, Pure, and_self]), trivial⟩))) (by first | (simp only [PureL, Pure, and_self, bs_pure, bsl_pure, histAv, implies_true]; done) | (refine ⟨by simp only [Pure, PureL, bs_pure, bsl_pure, histAv, and_self, implies_true], ?_, trivial⟩; unfold Pure; exact pure_rowL (by simp only [PureL, Pure, and_self, implies_true]; try exact ⟨pure_rowL (by simp only [PureL, Pure, and_self]), pure_rowL (by simp only [PureL, Pure, and_self]), trivial⟩)))) trivial ?_
  refine ch_v (R := []) rfl rfl (oc_call rfl (by kernel_rfl) (pop_pc (newP 5) (new_ok 5)) rfl (by first | (simp only [PureL, Pure, and_self, bs_pure, bsl_pure, histAv, implies_true]; done) | (refine ⟨by simp only [Pure, PureL, bs_pure, bsl_pure, histAv, and_self, implies_true], ?_, trivial⟩; unfold Pure; exact pure_rowL (by simp only [PureL, Pure, and_self, implies_true]; try exact ⟨pure_rowL (by simp only [PureL, Pure, and_self]), pure_rowL (by simp only [PureL, Pure, and_self]), trivial⟩))) (by first | (simp only [PureL, Pure, and_self, bs_pure, bsl_pure, histAv, implies_true]; done) | (refine ⟨by simp only [Pure, PureL, bs_pure, bsl_pure, histAv, and_self, implies_true], ?_, trivial⟩; unfold Pure; exact pure_rowL (by simp only [PureL, Pure, and_self, implies_true]; try exact ⟨pure_rowL (by simp only [PureL, Pure, and_self]), pure_rowL (by simp only [PureL, Pure, and_self]), trivial⟩)))) trivial ?_
  refine ch_v (R := []) rfl rfl (oc_move (x := .tup _) rfl rfl) trivial ?_
  refine ch_v (R := []) rfl rfl (oc_extract rfl rfl rfl) trivial ?_
  refine ch_v (R := []) rfl rfl (oc_extract rfl rfl rfl) trivial ?_
  refine ch_v (R := []) rfl rfl (oc_extract rfl rfl rfl) trivial ?_
  refine ch_u rfl rfl (oc_alloc (zs := [.int .i64 0, .slice none 0 0, .slice none 0 0]) (cs := [.val _, .val _, .val _]) 1 rfl (by kernel_rfl) rfl rfl) ⟨rfl, trivial⟩ ?_
  refine ch_v (R := []) rfl rfl (oc_assign (x := .sl _ _ _) rfl rfl) trivial ?_
  refine ch_n rfl rfl (oc_store_row (x := .agg _) (cs' := [_, _, _]) rfl rfl rfl rfl (by kernel_rfl) (by first | decide | exact Nat.le_of_ble_eq_true rfl | simp) (by first | decide | exact Nat.le_of_ble_eq_true rfl | simp) rfl) ⟨rfl, trivial⟩ ?_
  refine ch_v (R := []) rfl rfl (oc_assign (x := .val _) rfl rfl) trivial ?_
  refine ck_nil ?_
  refine aw_seq ?_
  refine aw_text rfl ?_
  refine ch_v (R := [(_, .live _ _)]) rfl rfl (oc_load_own_row (k := 3) (ds := [_, _, _]) rfl rfl (by kernel_rfl) (by kernel_rfl) rfl rfl (by decide)) ⟨rfl, trivial⟩ ?_
  refine ch_v (R := []) rfl rfl (oc_call rfl (by kernel_rfl) (len_pc aw3 aw3_ok) rfl (by first | (simp only [PureL, Pure, and_self, bs_pure, bsl_pure, histAv, implies_true]; done) | (refine ⟨by simp only [Pure, PureL, bs_pure, bsl_pure, histAv, and_self, implies_true], ?_, trivial⟩; unfold Pure; exact pure_rowL (by simp only [PureL, Pure, and_self, implies_true]; try exact ⟨pure_rowL (by simp only [PureL, Pure, and_self]), pure_rowL (by simp only [PureL, Pure, and_self]), trivial⟩))) (by first | (simp only [PureL, Pure, and_self, bs_pure, bsl_pure, histAv, implies_true]; done) | (refine ⟨by simp only [Pure, PureL, bs_pure, bsl_pure, histAv, and_self, implies_true], ?_, trivial⟩; unfold Pure; exact pure_rowL (by simp only [PureL, Pure, and_self, implies_true]; try exact ⟨pure_rowL (by simp only [PureL, Pure, and_self]), pure_rowL (by simp only [PureL, Pure, and_self]), trivial⟩)))) trivial ?_
  refine ch_v (R := []) rfl rfl (oc_binZ rfl rfl rfl rfl) trivial ?_
  refine ch_v (R := []) rfl rfl (oc_move (x := .val _) rfl rfl) trivial ?_
  refine ch_g (R := []) rfl rfl rfl gate_t (fun hC => oc_move (x := .val _) rfl rfl) (fun hC => ⟨(by first | rfl | exact hC | (simp only [Bool.and_eq_true] at hC; first | exact hC.1 | exact hC.1.1 | exact hC.2) | simp_all), trivial⟩) trivial ?_
  refine ch_g (R := []) rfl rfl rfl gate_t (fun hC => oc_binZ rfl rfl rfl rfl) (fun hC => ⟨(by first | rfl | exact hC | (simp only [Bool.and_eq_true] at hC; first | exact hC.1 | exact hC.1.1 | exact hC.2) | simp_all), (by first | rfl | exact hC | (simp only [Bool.and_eq_true] at hC; first | exact hC.1 | exact hC.1.1 | exact hC.2) | simp_all), trivial⟩) trivial ?_
  refine ch_v (R := []) rfl rfl (oc_and rfl rfl rfl rfl (by first | exact fun h => h | simp_all)) trivial ?_
  refine ch_v (R := []) rfl rfl (oc_move (x := .val _) rfl rfl) trivial ?_
  refine ch_g (R := []) rfl rfl rfl gate_t (fun hC => oc_move (x := .sl _ _ _) rfl rfl) (fun hC => ⟨(by first | rfl | exact hC | (simp only [Bool.and_eq_true] at hC; first | exact hC.1 | exact hC.1.1 | exact hC.2) | simp_all), trivial⟩) trivial ?_
  refine ch_g (R := []) rfl rfl rfl gate_t (fun hC => oc_buildSlice (ps := [_]) (xs := [.val _]) (e := 5) (k := 1) (by_ := 1) (zs := [.int .u8 0]) rfl (by kernel_rfl) (by kernel_rfl) rfl rfl rfl (by decide) (by decide)) (fun hC => ⟨(by first | rfl | exact hC | (simp only [Bool.and_eq_true] at hC; first | exact hC.1 | exact hC.1.1 | exact hC.2) | simp_all), trivial⟩) trivial ?_
  refine ch_g (R := []) rfl rfl rfl gate_t (fun hC => oc_buildSlice (ps := [_, _]) (xs := [.val _, .val _]) (e := 5) (k := 1) (by_ := 1) (zs := [.int .u8 0]) rfl (by kernel_rfl) (by kernel_rfl) rfl rfl rfl (by decide) (by decide)) (fun hC => ⟨(by first | rfl | exact hC | (simp only [Bool.and_eq_true] at hC; first | exact hC.1 | exact hC.1.1 | exact hC.2) | simp_all), (by first | rfl | exact hC | (simp only [Bool.and_eq_true] at hC; first | exact hC.1 | exact hC.1.1 | exact hC.2) | simp_all), trivial⟩) trivial ?_
  refine ch_g (R := []) rfl rfl rfl gate_t (fun hC => oc_buildSlice (ps := [.tmp 34, .tmp 35]) (xs := [.sl _ _ _, .sl _ _ _]) (e := 22) (k := 1) (by_ := 24) (zs := [.slice none 0 0]) rfl (by kernel_rfl) (by kernel_rfl) rfl rfl rfl (by decide) (by decide)) (fun hC => ⟨(by first | rfl | exact hC | (simp only [Bool.and_eq_true] at hC; first | exact hC.1 | exact hC.1.1 | exact hC.2) | simp_all), (by first | rfl | exact hC | (simp only [Bool.and_eq_true] at hC; first | exact hC.1 | exact hC.1.1 | exact hC.2) | simp_all), trivial⟩) trivial ?_
  refine ch_g (R := []) rfl rfl rfl gate_t (fun hC => oc_call rfl (by kernel_rfl) (PC.arg2 (lists_pc (allP aw3).1 [[4], [1, 3]] (allP_len aw3_ok)) rowRows) rfl (by first | (simp only [PureL, Pure, and_self, bs_pure, bsl_pure, histAv, implies_true]; done) | (refine ⟨by simp only [Pure, PureL, bs_pure, bsl_pure, histAv, and_self, implies_true], ?_, trivial⟩; unfold Pure; exact pure_rowL (by simp only [PureL, Pure, and_self, implies_true]; try exact ⟨pure_rowL (by simp only [PureL, Pure, and_self]), pure_rowL (by simp only [PureL, Pure, and_self]), trivial⟩))) (by first | (simp only [PureL, Pure, and_self, bs_pure, bsl_pure, histAv, implies_true]; done) | (refine ⟨by simp only [Pure, PureL, bs_pure, bsl_pure, histAv, and_self, implies_true], ?_, trivial⟩; unfold Pure; exact pure_rowL (by simp only [PureL, Pure, and_self, implies_true]; try exact ⟨pure_rowL (by simp only [PureL, Pure, and_self]), pure_rowL (by simp only [PureL, Pure, and_self]), trivial⟩)))) (fun hC => ⟨(by first | rfl | exact hC | (simp only [Bool.and_eq_true] at hC; first | exact hC.1 | exact hC.1.1 | exact hC.2) | simp_all), (by first | rfl | exact hC | (simp only [Bool.and_eq_true] at hC; first | exact hC.1 | exact hC.1.1 | exact hC.2) | simp_all), (by first | rfl | exact hC | (simp only [Bool.and_eq_true] at hC; first | exact hC.1 | exact hC.1.1 | exact hC.2) | simp_all), trivial⟩) trivial ?_
  refine ch_v (R := []) rfl rfl (oc_and rfl rfl rfl rfl (by first | exact fun h => h | simp_all)) trivial ?_
  refine ch_v (R := []) rfl rfl (oc_move (x := .val _) rfl rfl) trivial ?_
  refine ch_g (R := []) rfl rfl rfl gate_t (fun hC => oc_move (x := .val _) rfl rfl) (fun hC => ⟨(by first | rfl | exact hC | (simp only [Bool.and_eq_true] at hC; first | exact hC.1 | exact hC.1.1 | exact hC.2) | simp_all), trivial⟩) trivial ?_
  refine ch_g (R := []) rfl rfl rfl gate_t (fun hC => oc_binZ rfl rfl rfl rfl) (fun hC => ⟨(by first | rfl | exact hC | (simp only [Bool.and_eq_true] at hC; first | exact hC.1 | exact hC.1.1 | exact hC.2) | simp_all), (by first | rfl | exact hC | (simp only [Bool.and_eq_true] at hC; first | exact hC.1 | exact hC.1.1 | exact hC.2) | simp_all), trivial⟩) trivial ?_
  refine ch_v (R := []) rfl rfl (oc_and rfl rfl rfl rfl (by first | exact fun h => h | simp_all)) trivial ?_
  refine ch_v (R := []) rfl rfl (oc_move (x := .val _) rfl rfl) trivial ?_
  refine ch_g (R := []) rfl rfl rfl gate_t (fun hC => oc_call rfl (by kernel_rfl) (new_pc _) rfl (by first | (simp only [PureL, Pure, and_self, bs_pure, bsl_pure, histAv, implies_true]; done) | (refine ⟨by simp only [Pure, PureL, bs_pure, bsl_pure, histAv, and_self, implies_true], ?_, trivial⟩; unfold Pure; exact pure_rowL (by simp only [PureL, Pure, and_self, implies_true]; try exact ⟨pure_rowL (by simp only [PureL, Pure, and_self]), pure_rowL (by simp only [PureL, Pure, and_self]), trivial⟩))) (by first | (simp only [PureL, Pure, and_self, bs_pure, bsl_pure, histAv, implies_true]; done) | (refine ⟨by simp only [Pure, PureL, bs_pure, bsl_pure, histAv, and_self, implies_true], ?_, trivial⟩; unfold Pure; exact pure_rowL (by simp only [PureL, Pure, and_self, implies_true]; try exact ⟨pure_rowL (by simp only [PureL, Pure, and_self]), pure_rowL (by simp only [PureL, Pure, and_self]), trivial⟩)))) (fun hC => ⟨(by first | rfl | exact hC | (simp only [Bool.and_eq_true] at hC; first | exact hC.1 | exact hC.1.1 | exact hC.2) | simp_all), (by first | rfl | exact hC | (simp only [Bool.and_eq_true] at hC; first | exact hC.1 | exact hC.1.1 | exact hC.2) | simp_all), trivial⟩) trivial ?_
  refine ch_g (R := []) rfl rfl rfl gate_t (fun hC => oc_buildSlice (ps := [_]) (xs := [.val _]) (e := 5) (k := 1) (by_ := 1) (zs := [.int .u8 0]) rfl (by kernel_rfl) (by kernel_rfl) rfl rfl rfl (by decide) (by decide)) (fun hC => ⟨(by first | rfl | exact hC | (simp only [Bool.and_eq_true] at hC; first | exact hC.1 | exact hC.1.1 | exact hC.2) | simp_all), trivial⟩) trivial ?_
  refine ch_g (R := []) rfl rfl rfl gate_t (fun hC => oc_call rfl (by kernel_rfl) (PC.arg2 (push_pc (newP 0) (new_ok 0) [1] (by decide)) (rowOne 1)) rfl (by first | (simp only [PureL, Pure, and_self, bs_pure, bsl_pure, histAv, implies_true]; done) | (refine ⟨by simp only [Pure, PureL, bs_pure, bsl_pure, histAv, and_self, implies_true], ?_, trivial⟩; unfold Pure; exact pure_rowL (by simp only [PureL, Pure, and_self, implies_true]; try exact ⟨pure_rowL (by simp only [PureL, Pure, and_self]), pure_rowL (by simp only [PureL, Pure, and_self]), trivial⟩))) (by first | (simp only [PureL, Pure, and_self, bs_pure, bsl_pure, histAv, implies_true]; done) | (refine ⟨by simp only [Pure, PureL, bs_pure, bsl_pure, histAv, and_self, implies_true], ?_, trivial⟩; unfold Pure; exact pure_rowL (by simp only [PureL, Pure, and_self, implies_true]; try exact ⟨pure_rowL (by simp only [PureL, Pure, and_self]), pure_rowL (by simp only [PureL, Pure, and_self]), trivial⟩)))) (fun hC => ⟨(by first | rfl | exact hC | (simp only [Bool.and_eq_true] at hC; first | exact hC.1 | exact hC.1.1 | exact hC.2) | simp_all), (by first | rfl | exact hC | (simp only [Bool.and_eq_true] at hC; first | exact hC.1 | exact hC.1.1 | exact hC.2) | simp_all), (by first | rfl | exact hC | (simp only [Bool.and_eq_true] at hC; first | exact hC.1 | exact hC.1.1 | exact hC.2) | simp_all), trivial⟩) trivial ?_
  refine ch_g (R := []) rfl rfl rfl gate_t (fun hC => oc_call rfl (by kernel_rfl) (len_pc (pushP (newP 0) [1]) aw0_ok) rfl (by first | (simp only [PureL, Pure, and_self, bs_pure, bsl_pure, histAv, implies_true]; done) | (refine ⟨by simp only [Pure, PureL, bs_pure, bsl_pure, histAv, and_self, implies_true], ?_, trivial⟩; unfold Pure; exact pure_rowL (by simp only [PureL, Pure, and_self, implies_true]; try exact ⟨pure_rowL (by simp only [PureL, Pure, and_self]), pure_rowL (by simp only [PureL, Pure, and_self]), trivial⟩))) (by first | (simp only [PureL, Pure, and_self, bs_pure, bsl_pure, histAv, implies_true]; done) | (refine ⟨by simp only [Pure, PureL, bs_pure, bsl_pure, histAv, and_self, implies_true], ?_, trivial⟩; unfold Pure; exact pure_rowL (by simp only [PureL, Pure, and_self, implies_true]; try exact ⟨pure_rowL (by simp only [PureL, Pure, and_self]), pure_rowL (by simp only [PureL, Pure, and_self]), trivial⟩)))) (fun hC => ⟨(by first | rfl | exact hC | (simp only [Bool.and_eq_true] at hC; first | exact hC.1 | exact hC.1.1 | exact hC.2) | simp_all), (by first | rfl | exact hC | (simp only [Bool.and_eq_true] at hC; first | exact hC.1 | exact hC.1.1 | exact hC.2) | simp_all), trivial⟩) trivial ?_
  refine ch_g (R := []) rfl rfl rfl gate_t (fun hC => oc_binZ rfl rfl rfl rfl) (fun hC => ⟨(by first | rfl | exact hC | (simp only [Bool.and_eq_true] at hC; first | exact hC.1 | exact hC.1.1 | exact hC.2) | simp_all), (by first | rfl | exact hC | (simp only [Bool.and_eq_true] at hC; first | exact hC.1 | exact hC.1.1 | exact hC.2) | simp_all), trivial⟩) trivial ?_
  refine ch_v (R := []) rfl rfl (oc_and rfl rfl rfl rfl (by first | exact fun h => h | simp_all)) trivial ?_
  refine ch_v (R := []) rfl rfl (oc_assign (x := .val _) rfl rfl) trivial ?_
  refine ck_nil ?_
  refine aw_ret ?_
  exact ⟨.inl rfl, ResOk.tmp rfl (vb_eq (by rw [aw_all, aw_len, aw_pop, aw_none]; simp [lists_refl])), trivial⟩
set_option maxHeartbeats 800000 in
theorem undoPushes_pc (h : HistP) (hw : HW h) (b : List Int) (hB : Byt b ∧ b.length ≤ 140737488355328) : PC Try.prog 3 [histAv h, bs b] (vb true) := by
  refine FC.body 6 40 Try.func3 rfl (by kernel_rfl) ?_
  refine aw_seq ?_
  refine aw_text rfl ?_
  refine ch_v (R := []) rfl rfl (oc_box (x := .agg _) rfl rfl) trivial ?_
  refine ch_v (R := []) rfl rfl (oc_assign (x := .val _) rfl rfl) trivial ?_
  refine ck_nil ?_
  refine aw_seq ?_
  refine aw_seq ?_
  refine aw_text rfl ?_
  refine ch_v (R := []) rfl rfl (oc_load_row rfl rfl (by kernel_rfl) (by kernel_rfl) rfl) trivial ?_
  refine ch_v (R := []) rfl rfl (oc_call rfl (by kernel_rfl) (few_pc h hw 40 3000) rfl (by simp only [PureL, Pure, and_self, bs_pure, bsl_pure, histAv, implies_true]) (by simp only [PureL, Pure, and_self, bs_pure, bsl_pure, histAv, implies_true])) trivial ?_
  refine ch_v (R := []) rfl rfl (oc_not rfl rfl) trivial ?_
  refine ch_v (R := []) rfl rfl (oc_move (x := .val _) rfl rfl) trivial ?_
  refine ch_g (R := []) rfl rfl rfl gate_f (fun hC => oc_move (x := .sl _ _ _) rfl rfl) (fun hC => ⟨(by first | rfl | exact hC | (simp only [Bool.and_eq_true] at hC; first | exact hC.1 | exact hC.1.1 | exact hC.2) | simp_all), trivial⟩) trivial ?_
  refine ch_g (R := []) rfl rfl rfl gate_f (fun hC => oc_len rfl rfl (by kernel_rfl)) (fun hC => ⟨(by first | rfl | exact hC | (simp only [Bool.and_eq_true] at hC; first | exact hC.1 | exact hC.1.1 | exact hC.2) | simp_all), trivial⟩) trivial ?_
  refine ch_g (R := []) rfl rfl rfl gate_f (fun hC => oc_binZ rfl rfl rfl rfl) (fun hC => ⟨(by first | rfl | exact hC | (simp only [Bool.and_eq_true] at hC; first | exact hC.1 | exact hC.1.1 | exact hC.2) | simp_all), (by first | rfl | exact hC | (simp only [Bool.and_eq_true] at hC; first | exact hC.1 | exact hC.1.1 | exact hC.2) | simp_all), trivial⟩) trivial ?_
  refine ch_v (R := []) rfl rfl (oc_or rfl rfl rfl (by first | exact fun h => h | simp_all)) trivial ?_
  refine ck_nil ?_
  refine aw_cond rfl (fun hb => ?_) (fun hb => ?_)
  · refine aw_seq ?_
    refine aw_text rfl ?_
    refine ch_v (R := []) rfl rfl (oc_call rfl (by kernel_rfl) (awake_pc) rfl (by simp only [PureL, Pure, and_self, bs_pure, bsl_pure, histAv, implies_true]) (by simp only [PureL, Pure, and_self, bs_pure, bsl_pure, histAv, implies_true])) trivial ?_
    refine ch_v (R := []) rfl rfl (oc_assign (x := .val _) rfl rfl) trivial ?_
    refine ck_nil ?_
    refine aw_ret ?_
    exact ⟨.inl rfl, ResOk.tmp rfl rfl, trivial⟩
  · have hq : fewP h 40 3000 = true ∧ b.length ≤ 1000 := by
      simp only [Bool.or_eq_false_iff, Bool.not_eq_false', decide_eq_false_iff_not] at hb
      exact ⟨hb.1, by have := hb.2; omega⟩
    have hk := few_ok hw hq.1
    have hn := (few_facts hw hq.1).2.1
    have hbl := hq.2
    refine aw_skip ?_
    refine aw_seq ?_
    refine aw_draw mixed ?_
    refine ch_v (R := []) rfl rfl (oc_load_row rfl rfl (by kernel_rfl) (by kernel_rfl) rfl) trivial ?_
    refine ch_v (R := []) rfl rfl (oc_move (x := .sl _ _ _) rfl rfl) trivial ?_
    refine ch_v (R := []) rfl rfl (oc_call rfl (by kernel_rfl) (push_pc h hk b (by omega)) rfl (by simp only [PureL, Pure, and_self, bs_pure, bsl_pure, histAv, implies_true]) (by simp only [PureL, Pure, and_self, bs_pure, bsl_pure, histAv, implies_true])) trivial ?_
    refine ch_v (R := []) rfl rfl (oc_load_row rfl rfl (by kernel_rfl) (by kernel_rfl) rfl) trivial ?_
    refine ch_v (R := []) rfl rfl (oc_move (x := .sl _ _ _) rfl rfl) trivial ?_
    refine ch_v (R := []) rfl rfl (oc_call rfl (by kernel_rfl) (rpush_pc h hk b (by omega)) rfl (by simp only [PureL, Pure, and_self, bs_pure, bsl_pure, histAv, implies_true]) (by simp only [PureL, Pure, and_self, bs_pure, bsl_pure, histAv, implies_true])) trivial ?_
    refine ch_v (R := []) rfl rfl (oc_call rfl (by kernel_rfl) (same_pc (pushP h b) (pushP h b) (by have := (push_ok hk (by omega) hn hB.1).cnt; omega)) rfl (by simp only [PureL, Pure, and_self, bs_pure, bsl_pure, histAv, implies_true]) (by simp only [PureL, Pure, and_self, bs_pure, bsl_pure, histAv, implies_true])) trivial ?_
    refine ch_v (R := []) rfl rfl (oc_move (x := .val _) rfl rfl) trivial ?_
    refine ch_g (R := []) rfl rfl rfl gate_t (fun hC => oc_load_row rfl rfl (by kernel_rfl) (by kernel_rfl) rfl) (fun hC => ⟨(by first | rfl | exact hC | (simp only [Bool.and_eq_true] at hC; first | exact hC.1 | exact hC.1.1 | exact hC.2) | simp_all), trivial⟩) trivial ?_
    refine ch_g (R := []) rfl rfl rfl gate_t (fun hC => oc_call rfl (by kernel_rfl) (len_pc h hk) rfl (by simp only [PureL, Pure, and_self, bs_pure, bsl_pure, histAv, implies_true]) (by simp only [PureL, Pure, and_self, bs_pure, bsl_pure, histAv, implies_true])) (fun hC => ⟨(by first | rfl | exact hC | (simp only [Bool.and_eq_true] at hC; first | exact hC.1 | exact hC.1.1 | exact hC.2) | simp_all), (by first | rfl | exact hC | (simp only [Bool.and_eq_true] at hC; first | exact hC.1 | exact hC.1.1 | exact hC.2) | simp_all), trivial⟩) trivial ?_
    refine ch_g (R := []) rfl rfl rfl gate_t (fun hC => oc_load_row rfl rfl (by kernel_rfl) (by kernel_rfl) rfl) (fun hC => ⟨(by first | rfl | exact hC | (simp only [Bool.and_eq_true] at hC; first | exact hC.1 | exact hC.1.1 | exact hC.2) | simp_all), trivial⟩) trivial ?_
    refine ch_g (R := []) rfl rfl rfl gate_t (fun hC => oc_call rfl (by kernel_rfl) (rlen_pc h hk) rfl (by simp only [PureL, Pure, and_self, bs_pure, bsl_pure, histAv, implies_true]) (by simp only [PureL, Pure, and_self, bs_pure, bsl_pure, histAv, implies_true])) (fun hC => ⟨(by first | rfl | exact hC | (simp only [Bool.and_eq_true] at hC; first | exact hC.1 | exact hC.1.1 | exact hC.2) | simp_all), (by first | rfl | exact hC | (simp only [Bool.and_eq_true] at hC; first | exact hC.1 | exact hC.1.1 | exact hC.2) | simp_all), trivial⟩) trivial ?_
    refine ch_g (R := []) rfl rfl rfl gate_t (fun hC => oc_binZ rfl rfl rfl rfl) (fun hC => ⟨(by first | rfl | exact hC | (simp only [Bool.and_eq_true] at hC; first | exact hC.1 | exact hC.1.1 | exact hC.2) | simp_all), (by first | rfl | exact hC | (simp only [Bool.and_eq_true] at hC; first | exact hC.1 | exact hC.1.1 | exact hC.2) | simp_all), trivial⟩) trivial ?_
    refine ch_v (R := []) rfl rfl (oc_and rfl rfl rfl rfl (by first | exact fun h => h | simp_all)) trivial ?_
    refine ch_v (R := []) rfl rfl (oc_move (x := .val _) rfl rfl) trivial ?_
    refine ch_g (R := []) rfl rfl rfl gate_t (fun hC => oc_fieldAddr (off := 0) rfl rfl rfl (by kernel_rfl) rfl) (fun hC => ⟨(by first | rfl | exact hC | (simp only [Bool.and_eq_true] at hC; first | exact hC.1 | exact hC.1.1 | exact hC.2) | simp_all), trivial⟩) trivial ?_
    refine ch_g (R := []) rfl rfl rfl gate_t (fun hC => oc_load rfl rfl (by kernel_rfl) cells_int) (fun hC => ⟨(by first | rfl | exact hC | (simp only [Bool.and_eq_true] at hC; first | exact hC.1 | exact hC.1.1 | exact hC.2) | simp_all), trivial⟩) trivial ?_
    refine ch_g (R := []) rfl rfl rfl gate_t (fun hC => oc_call rfl (by kernel_rfl) (new_pc h.most) rfl (by simp only [PureL, Pure, and_self, bs_pure, bsl_pure, histAv, implies_true]) (by simp only [PureL, Pure, and_self, bs_pure, bsl_pure, histAv, implies_true])) (fun hC => ⟨(by first | rfl | exact hC | (simp only [Bool.and_eq_true] at hC; first | exact hC.1 | exact hC.1.1 | exact hC.2) | simp_all), (by first | rfl | exact hC | (simp only [Bool.and_eq_true] at hC; first | exact hC.1 | exact hC.1.1 | exact hC.2) | simp_all), trivial⟩) trivial ?_
    refine ch_g (R := []) rfl rfl rfl gate_t (fun hC => oc_fieldAddr (off := 0) rfl rfl rfl (by kernel_rfl) rfl) (fun hC => ⟨(by first | rfl | exact hC | (simp only [Bool.and_eq_true] at hC; first | exact hC.1 | exact hC.1.1 | exact hC.2) | simp_all), trivial⟩) trivial ?_
    refine ch_g (R := []) rfl rfl rfl gate_t (fun hC => oc_load rfl rfl (by kernel_rfl) cells_int) (fun hC => ⟨(by first | rfl | exact hC | (simp only [Bool.and_eq_true] at hC; first | exact hC.1 | exact hC.1.1 | exact hC.2) | simp_all), trivial⟩) trivial ?_
    refine ch_g (R := []) rfl rfl rfl gate_t (fun hC => oc_call rfl (by kernel_rfl) (rnew_pc h.most) rfl (by simp only [PureL, Pure, and_self, bs_pure, bsl_pure, histAv, implies_true]) (by simp only [PureL, Pure, and_self, bs_pure, bsl_pure, histAv, implies_true])) (fun hC => ⟨(by first | rfl | exact hC | (simp only [Bool.and_eq_true] at hC; first | exact hC.1 | exact hC.1.1 | exact hC.2) | simp_all), (by first | rfl | exact hC | (simp only [Bool.and_eq_true] at hC; first | exact hC.1 | exact hC.1.1 | exact hC.2) | simp_all), trivial⟩) trivial ?_
    refine ch_g (R := []) rfl rfl rfl gate_t (fun hC => oc_call rfl (by kernel_rfl) (same_pc (newP h.most) (newP h.most) (by simp [newP])) rfl (by simp only [PureL, Pure, and_self, bs_pure, bsl_pure, histAv, implies_true]) (by simp only [PureL, Pure, and_self, bs_pure, bsl_pure, histAv, implies_true])) (fun hC => ⟨(by first | rfl | exact hC | (simp only [Bool.and_eq_true] at hC; first | exact hC.1 | exact hC.1.1 | exact hC.2) | simp_all), (by first | rfl | exact hC | (simp only [Bool.and_eq_true] at hC; first | exact hC.1 | exact hC.1.1 | exact hC.2) | simp_all), (by first | rfl | exact hC | (simp only [Bool.and_eq_true] at hC; first | exact hC.1 | exact hC.1.1 | exact hC.2) | simp_all), trivial⟩) trivial ?_
    refine ch_v (R := []) rfl rfl (oc_and rfl rfl rfl rfl (by first | exact fun h => h | simp_all)) trivial ?_
    refine ch_v (R := []) rfl rfl (oc_move (x := .val _) rfl rfl) trivial ?_
    refine ch_g (R := []) rfl rfl rfl gate_t (fun hC => oc_call rfl (by kernel_rfl) (awake_pc) rfl (by simp only [PureL, Pure, and_self, bs_pure, bsl_pure, histAv, implies_true]) (by simp only [PureL, Pure, and_self, bs_pure, bsl_pure, histAv, implies_true])) (fun hC => ⟨(by first | rfl | exact hC | (simp only [Bool.and_eq_true] at hC; first | exact hC.1 | exact hC.1.1 | exact hC.2) | simp_all), trivial⟩) trivial ?_
    refine ch_v (R := []) rfl rfl (oc_and rfl rfl rfl rfl (by first | exact fun h => h | simp_all)) trivial ?_
    refine ch_v (R := []) rfl rfl (oc_assign (x := .val _) rfl rfl) trivial ?_
    refine ck_nil ⟨by kernel_rfl, ?_⟩
    refine aw_ret ?_
    exact ⟨.inl rfl, ResOk.tmp rfl (vb_eq (by simp [same_refl])), trivial⟩
set_option maxHeartbeats 800000 in
theorem undoPops_pc (h : HistP) (hw : HW h) : PC Try.prog 4 [histAv h] (vb true) := by
  refine FC.body 6 67 Try.func4 rfl (by kernel_rfl) ?_
  refine aw_seq ?_
  refine aw_text rfl ?_
  refine ch_v (R := []) rfl rfl (oc_box (x := .agg _) rfl rfl) trivial ?_
  refine ch_v (R := []) rfl rfl (oc_assign (x := .val _) rfl rfl) trivial ?_
  refine ck_nil ?_
  refine aw_seq ?_
  refine aw_seq ?_
  refine aw_text rfl ?_
  refine ch_v (R := []) rfl rfl (oc_load_row rfl rfl (by kernel_rfl) (by kernel_rfl) rfl) trivial ?_
  refine ch_v (R := []) rfl rfl (oc_call rfl (by kernel_rfl) (few_pc h hw 40 3000) rfl (by simp only [PureL, Pure, and_self, bs_pure, bsl_pure, histAv, implies_true]) (by simp only [PureL, Pure, and_self, bs_pure, bsl_pure, histAv, implies_true])) trivial ?_
  refine ch_v (R := []) rfl rfl (oc_not rfl rfl) trivial ?_
  refine ck_nil ?_
  refine aw_cond rfl (fun hb => ?_) (fun hb => ?_)
  · refine aw_seq ?_
    refine aw_text rfl ?_
    refine ch_v (R := []) rfl rfl (oc_call rfl (by kernel_rfl) (awake_pc) rfl (by simp only [PureL, Pure, and_self, bs_pure, bsl_pure, histAv, implies_true]) (by simp only [PureL, Pure, and_self, bs_pure, bsl_pure, histAv, implies_true])) trivial ?_
    refine ch_v (R := []) rfl rfl (oc_assign (x := .val _) rfl rfl) trivial ?_
    refine ck_nil ?_
    refine aw_ret ?_
    exact ⟨.inl rfl, ResOk.tmp rfl rfl, trivial⟩
  · have hq : fewP h 40 3000 = true := by simpa using hb
    have hk := few_ok hw hq
    refine aw_skip ?_
    refine aw_seq ?_
    refine aw_text rfl ?_
    refine ch_v (R := []) rfl rfl (oc_load_row rfl rfl (by kernel_rfl) (by kernel_rfl) rfl) trivial ?_
    refine ch_v (R := []) rfl rfl (oc_call rfl (by kernel_rfl) (pop_pc h hk) rfl (by simp only [PureL, Pure, and_self, bs_pure, bsl_pure, histAv, implies_true]) (by simp only [PureL, Pure, and_self, bs_pure, bsl_pure, histAv, implies_true])) trivial ?_
    refine ch_v (R := []) rfl rfl (oc_move (x := .tup _) rfl rfl) trivial ?_
    refine ch_v (R := []) rfl rfl (oc_extract rfl rfl rfl) trivial ?_
    refine ch_v (R := []) rfl rfl (oc_extract rfl rfl rfl) trivial ?_
    refine ch_v (R := []) rfl rfl (oc_extract rfl rfl rfl) trivial ?_
    refine ch_u rfl rfl (oc_alloc (zs := [.int .i64 0, .slice none 0 0, .slice none 0 0]) (cs := [.val _, .val _, .val _]) 0 rfl (by kernel_rfl) rfl rfl) ⟨rfl, trivial⟩ ?_
    refine ch_v (R := []) rfl rfl (oc_assign (x := .sl _ _ _) rfl rfl) trivial ?_
    refine ch_n rfl rfl (oc_store_row (x := .agg _) (cs' := [_, _, _]) rfl rfl rfl rfl (by kernel_rfl) (by first | decide | exact Nat.le_of_ble_eq_true rfl | simp) (by first | decide | exact Nat.le_of_ble_eq_true rfl | simp) rfl) ⟨rfl, trivial⟩ ?_
    refine ch_v (R := []) rfl rfl (oc_assign (x := .val _) rfl rfl) trivial ?_
    refine ck_nil ?_
    refine aw_seq ?_
    refine aw_text rfl ?_
    refine ch_v (R := []) rfl rfl (oc_load_row rfl rfl (by kernel_rfl) (by kernel_rfl) rfl) trivial ?_
    refine ch_v (R := []) rfl rfl (oc_call rfl (by kernel_rfl) (rpop_pc h hk) rfl (by simp only [PureL, Pure, and_self, bs_pure, bsl_pure, histAv, implies_true]) (by simp only [PureL, Pure, and_self, bs_pure, bsl_pure, histAv, implies_true])) trivial ?_
    refine ch_v (R := []) rfl rfl (oc_move (x := .tup _) rfl rfl) trivial ?_
    refine ch_v (R := []) rfl rfl (oc_extract rfl rfl rfl) trivial ?_
    refine ch_v (R := []) rfl rfl (oc_extract rfl rfl rfl) trivial ?_
    refine ch_v (R := []) rfl rfl (oc_extract rfl rfl rfl) trivial ?_
    refine ch_u rfl rfl (oc_alloc (zs := [.int .i64 0, .slice none 0 0, .slice none 0 0]) (cs := [.val _, .val _, .val _]) 1 rfl (by kernel_rfl) rfl rfl) ⟨rfl, trivial⟩ ?_
    refine ch_v (R := []) rfl rfl (oc_assign (x := .sl _ _ _) rfl rfl) trivial ?_
    refine ch_n rfl rfl (oc_store_row (x := .agg _) (cs' := [_, _, _]) rfl rfl rfl rfl (by kernel_rfl) (by first | decide | exact Nat.le_of_ble_eq_true rfl | simp) (by first | decide | exact Nat.le_of_ble_eq_true rfl | simp) rfl) ⟨rfl, trivial⟩ ?_
    refine ch_v (R := []) rfl rfl (oc_assign (x := .val _) rfl rfl) trivial ?_
    refine ck_nil ?_
    refine aw_seq ?_
    refine aw_text rfl ?_
    refine ch_v (R := []) rfl rfl (oc_load_row rfl rfl (by kernel_rfl) (by kernel_rfl) rfl) trivial ?_
    refine ch_v (R := []) rfl rfl (oc_call rfl (by kernel_rfl) (all_pc h hk) rfl (by simp only [PureL, Pure, and_self, bs_pure, bsl_pure, histAv, implies_true]) (by simp only [PureL, Pure, and_self, bs_pure, bsl_pure, histAv, implies_true])) trivial ?_
    refine ch_v (R := []) rfl rfl (oc_move (x := .tup _) rfl rfl) trivial ?_
    refine ch_v (R := []) rfl rfl (oc_extract rfl rfl rfl) trivial ?_
    refine ch_v (R := []) rfl rfl (oc_extract rfl rfl rfl) trivial ?_
    refine ch_v (R := []) rfl rfl (oc_assign (x := .sl _ _ _) rfl rfl) trivial ?_
    refine ch_v (R := []) rfl rfl (oc_assign (x := .val _) rfl rfl) trivial ?_
    refine ck_nil ?_
    refine aw_seq ?_
    refine aw_text rfl ?_
    refine ch_v (R := []) rfl rfl (oc_load_row rfl rfl (by kernel_rfl) (by kernel_rfl) rfl) trivial ?_
    refine ch_v (R := []) rfl rfl (oc_call rfl (by kernel_rfl) (rall_pc h hk) rfl (by simp only [PureL, Pure, and_self, bs_pure, bsl_pure, histAv, implies_true]) (by simp only [PureL, Pure, and_self, bs_pure, bsl_pure, histAv, implies_true])) trivial ?_
    refine ch_v (R := []) rfl rfl (oc_move (x := .tup _) rfl rfl) trivial ?_
    refine ch_v (R := []) rfl rfl (oc_extract rfl rfl rfl) trivial ?_
    refine ch_v (R := []) rfl rfl (oc_extract rfl rfl rfl) trivial ?_
    refine ch_v (R := []) rfl rfl (oc_assign (x := .sl _ _ _) rfl rfl) trivial ?_
    refine ch_v (R := []) rfl rfl (oc_assign (x := .val _) rfl rfl) trivial ?_
    refine ck_nil ?_
    refine aw_seq ?_
    refine aw_text rfl ?_
    refine ch_v (R := []) rfl rfl (oc_move (x := .sl _ _ _) rfl rfl) trivial ?_
    refine ch_v (R := []) rfl rfl (oc_str _ rfl rfl (by kernel_rfl)) trivial ?_
    refine ch_v (R := []) rfl rfl (oc_move (x := .sl _ _ _) rfl rfl) trivial ?_
    refine ch_v (R := []) rfl rfl (oc_str _ rfl rfl (by kernel_rfl)) trivial ?_
    refine ch_v (R := []) rfl rfl (oc_str_eq rfl rfl rfl) trivial ?_
    refine ch_v (R := []) rfl rfl (oc_move (x := .val _) rfl rfl) trivial ?_
    refine ch_g (R := [(_, .live _ _)]) rfl rfl rfl gate_t (fun hC => oc_load_own_row (k := 3) (ds := [_, _, _]) rfl rfl (by kernel_rfl) (by kernel_rfl) rfl rfl (by decide)) (fun hC => ⟨(by first | rfl | exact hC | (simp only [Bool.and_eq_true] at hC; first | exact hC.1 | exact hC.1.1 | exact hC.2) | simp_all), trivial⟩) ⟨rfl, trivial⟩ ?_
    refine ch_g (R := [(_, .live _ _)]) rfl rfl rfl gate_t (fun hC => oc_load_own_row (k := 3) (ds := [_, _, _]) rfl rfl (by kernel_rfl) (by kernel_rfl) rfl rfl (by decide)) (fun hC => ⟨(by first | rfl | exact hC | (simp only [Bool.and_eq_true] at hC; first | exact hC.1 | exact hC.1.1 | exact hC.2) | simp_all), trivial⟩) ⟨rfl, trivial⟩ ?_
    refine ch_g (R := []) rfl rfl rfl gate_t (fun hC => oc_call rfl (by kernel_rfl) (same_pc (popP h).2.1 (popP h).2.1 (by have := (pop_ok hk).cnt; omega)) rfl (by simp only [PureL, Pure, and_self, bs_pure, bsl_pure, histAv, implies_true]) (by simp only [PureL, Pure, and_self, bs_pure, bsl_pure, histAv, implies_true])) (fun hC => ⟨(by first | rfl | exact hC | (simp only [Bool.and_eq_true] at hC; first | exact hC.1 | exact hC.1.1 | exact hC.2) | simp_all), (by first | rfl | exact hC | (simp only [Bool.and_eq_true] at hC; first | exact hC.1 | exact hC.1.1 | exact hC.2) | simp_all), (by first | rfl | exact hC | (simp only [Bool.and_eq_true] at hC; first | exact hC.1 | exact hC.1.1 | exact hC.2) | simp_all), trivial⟩) trivial ?_
    refine ch_v (R := []) rfl rfl (oc_and rfl rfl rfl rfl (by first | exact fun h => h | simp_all)) trivial ?_
    refine ch_v (R := []) rfl rfl (oc_move (x := .val _) rfl rfl) trivial ?_
    refine ch_g (R := []) rfl rfl rfl gate_t (fun hC => oc_move (x := .val _) rfl rfl) (fun hC => ⟨(by first | rfl | exact hC | (simp only [Bool.and_eq_true] at hC; first | exact hC.1 | exact hC.1.1 | exact hC.2) | simp_all), trivial⟩) trivial ?_
    refine ch_g (R := []) rfl rfl rfl gate_t (fun hC => oc_move (x := .val _) rfl rfl) (fun hC => ⟨(by first | rfl | exact hC | (simp only [Bool.and_eq_true] at hC; first | exact hC.1 | exact hC.1.1 | exact hC.2) | simp_all), trivial⟩) trivial ?_
    refine ch_g (R := []) rfl rfl rfl gate_t (fun hC => oc_binZ rfl rfl rfl rfl) (fun hC => ⟨(by first | rfl | exact hC | (simp only [Bool.and_eq_true] at hC; first | exact hC.1 | exact hC.1.1 | exact hC.2) | simp_all), (by first | rfl | exact hC | (simp only [Bool.and_eq_true] at hC; first | exact hC.1 | exact hC.1.1 | exact hC.2) | simp_all), trivial⟩) trivial ?_
    refine ch_v (R := []) rfl rfl (oc_and rfl rfl rfl rfl (by first | exact fun h => h | simp_all)) trivial ?_
    refine ch_v (R := []) rfl rfl (oc_move (x := .val _) rfl rfl) trivial ?_
    refine ch_g (R := []) rfl rfl rfl gate_t (fun hC => oc_move (x := .sl _ _ _) rfl rfl) (fun hC => ⟨(by first | rfl | exact hC | (simp only [Bool.and_eq_true] at hC; first | exact hC.1 | exact hC.1.1 | exact hC.2) | simp_all), trivial⟩) trivial ?_
    refine ch_g (R := []) rfl rfl rfl gate_t (fun hC => oc_move (x := .sl _ _ _) rfl rfl) (fun hC => ⟨(by first | rfl | exact hC | (simp only [Bool.and_eq_true] at hC; first | exact hC.1 | exact hC.1.1 | exact hC.2) | simp_all), trivial⟩) trivial ?_
    refine ch_g (R := []) rfl rfl rfl gate_t (fun hC => oc_call rfl (by kernel_rfl) (lists_pc (allP h).1 (allP h).1 (allP_len hk)) rfl (by simp only [PureL, Pure, and_self, bs_pure, bsl_pure, histAv, implies_true]) (by simp only [PureL, Pure, and_self, bs_pure, bsl_pure, histAv, implies_true])) (fun hC => ⟨(by first | rfl | exact hC | (simp only [Bool.and_eq_true] at hC; first | exact hC.1 | exact hC.1.1 | exact hC.2) | simp_all), (by first | rfl | exact hC | (simp only [Bool.and_eq_true] at hC; first | exact hC.1 | exact hC.1.1 | exact hC.2) | simp_all), (by first | rfl | exact hC | (simp only [Bool.and_eq_true] at hC; first | exact hC.1 | exact hC.1.1 | exact hC.2) | simp_all), trivial⟩) trivial ?_
    refine ch_v (R := []) rfl rfl (oc_and rfl rfl rfl rfl (by first | exact fun h => h | simp_all)) trivial ?_
    refine ch_v (R := []) rfl rfl (oc_move (x := .val _) rfl rfl) trivial ?_
    refine ch_g (R := []) rfl rfl rfl gate_t (fun hC => oc_move (x := .val _) rfl rfl) (fun hC => ⟨(by first | rfl | exact hC | (simp only [Bool.and_eq_true] at hC; first | exact hC.1 | exact hC.1.1 | exact hC.2) | simp_all), trivial⟩) trivial ?_
    refine ch_g (R := []) rfl rfl rfl gate_t (fun hC => oc_move (x := .val _) rfl rfl) (fun hC => ⟨(by first | rfl | exact hC | (simp only [Bool.and_eq_true] at hC; first | exact hC.1 | exact hC.1.1 | exact hC.2) | simp_all), trivial⟩) trivial ?_
    refine ch_g (R := []) rfl rfl rfl gate_t (fun hC => oc_binZ rfl rfl rfl rfl) (fun hC => ⟨(by first | rfl | exact hC | (simp only [Bool.and_eq_true] at hC; first | exact hC.1 | exact hC.1.1 | exact hC.2) | simp_all), (by first | rfl | exact hC | (simp only [Bool.and_eq_true] at hC; first | exact hC.1 | exact hC.1.1 | exact hC.2) | simp_all), trivial⟩) trivial ?_
    refine ch_v (R := []) rfl rfl (oc_and rfl rfl rfl rfl (by first | exact fun h => h | simp_all)) trivial ?_
    refine ch_v (R := []) rfl rfl (oc_move (x := .val _) rfl rfl) trivial ?_
    refine ch_g (R := []) rfl rfl rfl gate_t (fun hC => oc_call rfl (by kernel_rfl) (awake_pc) rfl (by simp only [PureL, Pure, and_self, bs_pure, bsl_pure, histAv, implies_true]) (by simp only [PureL, Pure, and_self, bs_pure, bsl_pure, histAv, implies_true])) (fun hC => ⟨(by first | rfl | exact hC | (simp only [Bool.and_eq_true] at hC; first | exact hC.1 | exact hC.1.1 | exact hC.2) | simp_all), trivial⟩) trivial ?_
    refine ch_v (R := []) rfl rfl (oc_and rfl rfl rfl rfl (by first | exact fun h => h | simp_all)) trivial ?_
    refine ch_v (R := []) rfl rfl (oc_assign (x := .val _) rfl rfl) trivial ?_
    refine ck_nil ?_
    refine aw_ret ?_
    exact ⟨.inl rfl, ResOk.tmp rfl (vb_eq (by simp [same_refl, lists_refl])), trivial⟩
end Go.Proofs.Ytjjgdjcapfenpaa
