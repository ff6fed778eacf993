/- Chapter 22: Unpack, walked. -/
import Derived.Test.YtjloemlnejndmaaIf
import Derived.Test.YtjloemlnejndmaaYo
import Derived.Test.YtjloemlnejndmaaYm
import Derived.Test.YtjloemlnejndmaaProg
import Derived.KernelRfl
namespace Go.Proofs.Ytjloemlnejndmaa
open Go.RowKit
set_option maxRecDepth 100000
set_option linter.unusedVariables false
set_option linter.unusedSimpArgs false
def zeroP : WorldP := { globals := [], parent := [], child := [], next := [], flags := [], props := [], timers := [], seed := 0, score := 0, turns := 0, over := 0, it := 0, go := 0 }
def bigB (w : WorldP) : Bool := decide (w.over > 3) || decide (w.go > 12) || decide (w.turns > 2147483647)
def unpP (t : TabP) (xs : List Int) : WorldP × Int :=
  if readE xs ≠ 0 then (zeroP, readE xs) else if bigB (readW xs) = true then (zeroP, 5) else if rightB t (readW xs) = false then (zeroP, 18) else (readW xs, 0)
theorem unp_err {t : TabP} {xs : List Int} (h : readE xs ≠ 0) : unpP t xs = (zeroP, readE xs) := if_pos h
theorem unp_big {t : TabP} {xs : List Int} (h : ¬ readE xs ≠ 0) (h1 : bigB (readW xs) = true) : unpP t xs = (zeroP, 5) := by unfold unpP; rw [if_neg h, if_pos h1]
theorem unp_state {t : TabP} {xs : List Int} (h : ¬ readE xs ≠ 0) (h1 : bigB (readW xs) = false) (h2 : rightB t (readW xs) = false) : unpP t xs = (zeroP, 18) := by unfold unpP; rw [if_neg h, if_neg (by rw [h1]; simp), if_pos h2]
theorem unp_ok {t : TabP} {xs : List Int} (h : ¬ readE xs ≠ 0) (h1 : bigB (readW xs) = false) (h2 : rightB t (readW xs) = true) : unpP t xs = (readW xs, 0) := by unfold unpP; rw [if_neg h, if_neg (by rw [h1]; simp), if_neg (by rw [h2]; simp)]
theorem zero_to (E : Env) (v : Value) (h : Rep E (.agg [.val (.slice none 0 0), .val (.slice none 0 0), .val (.slice none 0 0), .val (.slice none 0 0), .val (.slice none 0 0), .val (.slice none 0 0), .val (.slice none 0 0), .val (.int .u64 0), vi 0, vi 0, vi 0, vi 0, vi 0]) v) : Rep E (worldAv zeroP) v := by
  refine rep_agg h rfl fun E i x y hx hy v h => ?_
  rcases i with _ | _ | _ | _ | _ | _ | _ | _ | _ | _ | _ | _ | _ | i <;> simp at hx hy <;> subst hx <;> subst hy <;> first | exact h | exact rep_nil0 E v h
theorem read_fit {xs : List Int} (hx : xs.length ≤ 1000000) : (readW xs).fit := fun k hk => by
  have hl := fun i => li_len xs i
  rcases k with _ | _ | _ | _ | _ | _ | _ | k
  · have := hl 0; show (liK xs 0).length ≤ _; omega
  · have := hl 1; show (liK xs 1).length ≤ _; omega
  · have := hl 2; show (liK xs 2).length ≤ _; omega
  · have := hl 3; show (liK xs 3).length ≤ _; omega
  · have := hl 4; show ((liK xs 4).map _).length ≤ _; rw [List.length_map]; omega
  · have := hl 5; show (liK xs 5).length ≤ _; omega
  · have := hl 6; show (liK xs 6).length ≤ _; omega
  · omega
set_option maxHeartbeats 800000 in
theorem unpack_pc (t : TabP) (xs : List Int) (hx : xs.length ≤ 1000000) (hb : Byt xs) (hF : FitsF t ∨ readE xs ≠ 0) : PC Try.prog 8 [tabAv t, bs xs] (.tup [worldAv (unpP t xs).1, vi (unpP t xs).2]) := by
  refine FC.body 4 36 Try.func8 rfl (by kernel_rfl) ?_
  refine aw_seq ?_
  refine aw_text rfl ?_
  refine ch_v (R := []) rfl rfl (oc_box (x := .agg _) rfl rfl) trivial ?_
  refine ch_u rfl rfl (oc_alloc (zs := [.slice none 0 0, .slice none 0 0, .slice none 0 0, .slice none 0 0, .slice none 0 0, .slice none 0 0, .slice none 0 0, .int .u64 0, .int .i64 0, .int .i64 0, .int .i64 0, .int .i64 0, .int .i64 0]) (cs := [.val _, .val _, .val _, .val _, .val _, .val _, .val _, .val _, .val _, .val _, .val _, .val _, .val _]) 0 rfl (by kernel_rfl) rfl rfl) ⟨rfl, trivial⟩ ?_
  refine ch_v (R := []) rfl rfl (oc_assign (x := .val _) rfl rfl) trivial ?_
  refine ck_nil ?_
  refine aw_seq ?_
  refine aw_text rfl ?_
  refine ch_v (R := []) rfl rfl (oc_move (x := .sl _ _ _) rfl rfl) trivial ?_
  refine ch_v (R := []) rfl rfl (oc_call rfl (by kernel_rfl) (read_pc xs hx hb) rfl (by simp only [PureL, Pure, and_self, bs_pure, pure_slI, pure_world, pure_tab, rdAv, vu, implies_true]) (by simp only [PureL, Pure, and_self, bs_pure, pure_slI, pure_world, pure_tab, rdAv, vu, implies_true])) trivial ?_
  refine ch_v (R := []) rfl rfl (oc_move (x := .tup _) rfl rfl) trivial ?_
  refine ch_v (R := []) rfl rfl (oc_extract rfl rfl rfl) trivial ?_
  refine ch_v (R := []) rfl rfl (oc_extract rfl rfl rfl) trivial ?_
  refine ch_u rfl rfl (oc_alloc (zs := [.slice none 0 0, .slice none 0 0, .slice none 0 0, .slice none 0 0, .slice none 0 0, .slice none 0 0, .slice none 0 0, .int .u64 0, .int .i64 0, .int .i64 0, .int .i64 0, .int .i64 0, .int .i64 0]) (cs := [.val _, .val _, .val _, .val _, .val _, .val _, .val _, .val _, .val _, .val _, .val _, .val _, .val _]) 1 rfl (by kernel_rfl) rfl rfl) ⟨rfl, trivial⟩ ?_
  refine ch_n rfl rfl (oc_store_row (x := .agg _) (cs' := [_, _, _, _, _, _, _, _, _, _, _, _, _]) rfl rfl rfl rfl (by kernel_rfl) (by first | decide | exact Nat.le_of_ble_eq_true rfl | simp) (by first | decide | exact Nat.le_of_ble_eq_true rfl | simp) rfl) ⟨rfl, trivial⟩ ?_
  refine ch_v (R := []) rfl rfl (oc_assign (x := .val _) rfl rfl) trivial ?_
  refine ck_nil ?_
  refine aw_seq ?_
  refine aw_block ?_
  refine aw_seq ?_
  refine aw_text rfl ?_
  refine ch_v (R := []) rfl rfl (oc_move (x := .val _) rfl rfl) trivial ?_
  refine ch_v (R := []) rfl rfl (oc_binZ rfl rfl rfl rfl) trivial ?_
  refine ch_v (R := []) rfl rfl (oc_assign (x := .val _) rfl rfl) trivial ?_
  refine ck_nil ?_
  refine aw_cond rfl (fun hb_ => ?_) (fun hb_ => ?_)
  · have he : readE xs ≠ 0 := by simpa using hb_
    refine aw_seq ?_
    refine aw_text rfl ?_
    refine ch_v (R := []) rfl rfl (oc_build (pl := [(0, 1), (1, 1), (2, 1), (3, 1), (4, 1), (5, 1), (6, 1), (7, 1), (8, 1), (9, 1), (10, 1), (11, 1), (12, 1)]) (zs := [.slice none 0 0, .slice none 0 0, .slice none 0 0, .slice none 0 0, .slice none 0 0, .slice none 0 0, .slice none 0 0, .int .u64 0, .int .i64 0, .int .i64 0, .int .i64 0, .int .i64 0, .int .i64 0]) (ds := [.val _, .val _, .val _, .val _, .val _, .val _, .val _, .val _, .val _, .val _, .val _, .val _, .val _]) rfl (by kernel_rfl) rfl (by kernel_rfl) (by first | rfl | decide) rfl) trivial ?_
    refine ch_v (R := []) rfl rfl (oc_move (x := .val _) rfl rfl) trivial ?_
    refine ch_n rfl rfl (oc_store_row (x := .agg _) (cs' := [_, _, _, _, _, _, _, _, _, _, _, _, _]) rfl rfl rfl rfl (by kernel_rfl) (by first | decide | exact Nat.le_of_ble_eq_true rfl | simp) (by first | decide | exact Nat.le_of_ble_eq_true rfl | simp) rfl) ⟨rfl, trivial⟩ ?_
    refine ch_v (R := []) rfl rfl (oc_assign (x := .val _) rfl rfl) trivial ?_
    refine ck_nil ?_
    refine aw_ret ?_
    exact ⟨.inl rfl, by rw [unp_err he]; exact ResOk.two rfl ((ResC.row rfl rfl (by kernel_rfl) (by kernel_rfl) (Nat.le_of_ble_eq_true rfl)).to zero_to) (ResC.tmp rfl), trivial⟩
  · have he : ¬ readE xs ≠ 0 := by simpa using hb_
    refine aw_seq ?_
    refine aw_seq ?_
    refine aw_text rfl ?_
    refine ch_v (R := [(_, .live _ _)]) rfl rfl (oc_fieldAddr_own (off := 10) (sz := 1) (r := false) rfl rfl (by first | decide | simp) (by kernel_rfl) (by decide)) ⟨rfl, trivial⟩ ?_
    refine ch_v (R := [(_, .live _ _)]) rfl rfl (oc_load_own rfl rfl (by kernel_rfl) rfl) ⟨rfl, trivial⟩ ?_
    refine ch_v (R := []) rfl rfl (oc_binZ rfl rfl rfl rfl) trivial ?_
    refine ch_v (R := []) rfl rfl (oc_assign (x := .val _) rfl rfl) trivial ?_
    refine ck_nil ?_
    refine aw_joinQ (τ := ⟨[(2, .ptr (tabAv t)), (4, .own 0 0), (6, .own 1 0), (18, vb (bigB (readW xs)))], [(0, .live 34 [.val (.slice none 0 0), .val (.slice none 0 0), .val (.slice none 0 0), .val (.slice none 0 0), .val (.slice none 0 0), .val (.slice none 0 0), .val (.slice none 0 0), .val (.int .u64 0), vi 0, vi 0, vi 0, vi 0, vi 0]), (1, .live 34 [slI (readW xs).globals, slI (readW xs).parent, slI (readW xs).child, slI (readW xs).next, slI (readW xs).flags, slI (readW xs).props, slI (readW xs).timers, vu (readW xs).seed, vi (readW xs).score, vi (readW xs).turns, vi (readW xs).over, vi (readW xs).it, vi (readW xs).go])]⟩) ?_ ?_
    · refine aw_cond rfl (fun hb_ => ?_) (fun hb_ => ?_)
      · refine aw_skip ?_
        exact Le.sub (by repeat (first | trivial | refine ⟨.inr rfl, ?_⟩ | refine ⟨.inr (vb_eq (by unfold bigB; simp_all <;> omega)), ?_⟩)) ⟨rfl, rfl, trivial⟩
      · refine aw_seq ?_
        refine aw_text rfl ?_
        refine ch_v (R := [(_, .live _ _)]) rfl rfl (oc_fieldAddr_own (off := 12) (sz := 1) (r := false) rfl rfl (by first | decide | simp) (by kernel_rfl) (by decide)) ⟨rfl, trivial⟩ ?_
        refine ch_v (R := [(_, .live _ _)]) rfl rfl (oc_load_own rfl rfl (by kernel_rfl) rfl) ⟨rfl, trivial⟩ ?_
        refine ch_v (R := []) rfl rfl (oc_binZ rfl rfl rfl rfl) trivial ?_
        refine ch_v (R := []) rfl rfl (oc_assign (x := .val _) rfl rfl) trivial ?_
        refine ck_nil ?_
        refine aw_cond rfl (fun hb_ => ?_) (fun hb_ => ?_)
        · refine aw_skip ?_
          exact Le.sub (by repeat (first | trivial | refine ⟨.inr rfl, ?_⟩ | refine ⟨.inr (vb_eq (by unfold bigB; simp_all <;> omega)), ?_⟩)) ⟨rfl, rfl, trivial⟩
        · refine aw_text rfl ?_
          refine ch_v (R := [(_, .live _ _)]) rfl rfl (oc_fieldAddr_own (off := 9) (sz := 1) (r := false) rfl rfl (by first | decide | simp) (by kernel_rfl) (by decide)) ⟨rfl, trivial⟩ ?_
          refine ch_v (R := [(_, .live _ _)]) rfl rfl (oc_load_own rfl rfl (by kernel_rfl) rfl) ⟨rfl, trivial⟩ ?_
          refine ch_v (R := []) rfl rfl (oc_binZ rfl rfl rfl rfl) trivial ?_
          refine ch_v (R := []) rfl rfl (oc_assign (x := .val _) rfl rfl) trivial ?_
          refine ck_nil ?_
          exact Le.sub (by repeat (first | trivial | refine ⟨.inr rfl, ?_⟩ | refine ⟨.inr (vb_eq (by unfold bigB; simp_all <;> omega)), ?_⟩)) ⟨rfl, rfl, trivial⟩
    · refine aw_cond rfl (fun hb_ => ?_) (fun hb_ => ?_)
      · have h1 : bigB (readW xs) = true := hb_
        refine aw_seq ?_
        refine aw_text rfl ?_
        refine ch_v (R := []) rfl rfl (oc_build (pl := [(0, 1), (1, 1), (2, 1), (3, 1), (4, 1), (5, 1), (6, 1), (7, 1), (8, 1), (9, 1), (10, 1), (11, 1), (12, 1)]) (zs := [.slice none 0 0, .slice none 0 0, .slice none 0 0, .slice none 0 0, .slice none 0 0, .slice none 0 0, .slice none 0 0, .int .u64 0, .int .i64 0, .int .i64 0, .int .i64 0, .int .i64 0, .int .i64 0]) (ds := [.val _, .val _, .val _, .val _, .val _, .val _, .val _, .val _, .val _, .val _, .val _, .val _, .val _]) rfl (by kernel_rfl) rfl (by kernel_rfl) (by first | rfl | decide) rfl) trivial ?_
        refine ch_n rfl rfl (oc_store_row (x := .agg _) (cs' := [_, _, _, _, _, _, _, _, _, _, _, _, _]) rfl rfl rfl rfl (by kernel_rfl) (by first | decide | exact Nat.le_of_ble_eq_true rfl | simp) (by first | decide | exact Nat.le_of_ble_eq_true rfl | simp) rfl) ⟨rfl, trivial⟩ ?_
        refine ch_v (R := []) rfl rfl (oc_assign (x := .val _) rfl rfl) trivial ?_
        refine ck_nil ?_
        refine aw_ret ?_
        exact ⟨.inl rfl, by rw [unp_big he h1]; exact ResOk.two rfl ((ResC.row rfl rfl (by kernel_rfl) (by kernel_rfl) (Nat.le_of_ble_eq_true rfl)).to zero_to) (ResC.tmp rfl), trivial⟩
      · have h1 : bigB (readW xs) = false := hb_
        refine aw_seq ?_
        refine aw_text rfl ?_
        refine ch_v (R := []) rfl rfl (oc_load_row rfl rfl (by kernel_rfl) (by kernel_rfl) rfl) trivial ?_
        refine ch_v (R := [(_, .live _ _)]) rfl rfl (oc_load_own_row (k := 13) (ds := [_, _, _, _, _, _, _, _, _, _, _, _, _]) rfl rfl (by kernel_rfl) (by kernel_rfl) rfl rfl (by decide)) ⟨rfl, trivial⟩ ?_
        refine ch_v (R := []) rfl rfl (oc_call rfl (by kernel_rfl) (right_pc t (hF.resolve_right he) (readW xs) (read_fit hx)) rfl (by simp only [PureL, Pure, and_self, bs_pure, pure_slI, pure_world, pure_tab, rdAv, vu, implies_true]) (by simp only [PureL, Pure, and_self, bs_pure, pure_slI, pure_world, pure_tab, rdAv, vu, implies_true])) trivial ?_
        refine ch_v (R := []) rfl rfl (oc_not rfl rfl) trivial ?_
        refine ch_v (R := []) rfl rfl (oc_assign (x := .val _) rfl rfl) trivial ?_
        refine ck_nil ?_
        refine aw_cond rfl (fun hb_ => ?_) (fun hb_ => ?_)
        · have h2 : rightB t (readW xs) = false := by simpa using hb_
          refine aw_seq ?_
          refine aw_text rfl ?_
          refine ch_v (R := []) rfl rfl (oc_build (pl := [(0, 1), (1, 1), (2, 1), (3, 1), (4, 1), (5, 1), (6, 1), (7, 1), (8, 1), (9, 1), (10, 1), (11, 1), (12, 1)]) (zs := [.slice none 0 0, .slice none 0 0, .slice none 0 0, .slice none 0 0, .slice none 0 0, .slice none 0 0, .slice none 0 0, .int .u64 0, .int .i64 0, .int .i64 0, .int .i64 0, .int .i64 0, .int .i64 0]) (ds := [.val _, .val _, .val _, .val _, .val _, .val _, .val _, .val _, .val _, .val _, .val _, .val _, .val _]) rfl (by kernel_rfl) rfl (by kernel_rfl) (by first | rfl | decide) rfl) trivial ?_
          refine ch_n rfl rfl (oc_store_row (x := .agg _) (cs' := [_, _, _, _, _, _, _, _, _, _, _, _, _]) rfl rfl rfl rfl (by kernel_rfl) (by first | decide | exact Nat.le_of_ble_eq_true rfl | simp) (by first | decide | exact Nat.le_of_ble_eq_true rfl | simp) rfl) ⟨rfl, trivial⟩ ?_
          refine ch_v (R := []) rfl rfl (oc_assign (x := .val _) rfl rfl) trivial ?_
          refine ck_nil ?_
          refine aw_ret ?_
          exact ⟨.inl rfl, by rw [unp_state he h1 h2]; exact ResOk.two rfl ((ResC.row rfl rfl (by kernel_rfl) (by kernel_rfl) (Nat.le_of_ble_eq_true rfl)).to zero_to) (ResC.tmp rfl), trivial⟩
        · have h2 : rightB t (readW xs) = true := by simpa using hb_
          refine aw_skip ?_
          refine aw_seq ?_
          refine aw_text rfl ?_
          refine ch_v (R := [(_, .live _ _)]) rfl rfl (oc_load_own_row (k := 13) (ds := [_, _, _, _, _, _, _, _, _, _, _, _, _]) rfl rfl (by kernel_rfl) (by kernel_rfl) rfl rfl (by decide)) ⟨rfl, trivial⟩ ?_
          refine ch_n rfl rfl (oc_store_row (x := .agg _) (cs' := [_, _, _, _, _, _, _, _, _, _, _, _, _]) rfl rfl rfl rfl (by kernel_rfl) (by first | decide | exact Nat.le_of_ble_eq_true rfl | simp) (by first | decide | exact Nat.le_of_ble_eq_true rfl | simp) rfl) ⟨rfl, trivial⟩ ?_
          refine ch_v (R := []) rfl rfl (oc_assign (x := .val _) rfl rfl) trivial ?_
          refine ck_nil ?_
          refine aw_ret ?_
          exact ⟨.inl rfl, by rw [unp_ok he h1 h2]; exact ResOk.two rfl (ResC.row rfl rfl (by kernel_rfl) (by kernel_rfl) (Nat.le_of_ble_eq_true rfl)) (ResC.tmp rfl), trivial⟩
end Go.Proofs.Ytjloemlnejndmaa
