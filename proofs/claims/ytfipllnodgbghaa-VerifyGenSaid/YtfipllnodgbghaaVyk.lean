/- Chapter 31: Heights, walked. -/
import Derived.Test.YtfipllnodgbghaaVyj
import Derived.Test.YtfipllnodgbghaaVt
import Derived.Test.YtfipllnodgbghaaProg
import Derived.KernelRfl
namespace Go.Proofs.Ytfipllnodgbghaa
open Go.RowKit
set_option maxRecDepth 100000
set_option linter.unusedVariables false
set_option linter.unusedSimpArgs false
set_option maxHeartbeats 6400000 in
theorem heights_pc (t : TabP) (C : List InsP) (hl : C.length ≤ 100000000) (hC : ∀ k, -9223372036854775808 ≤ (C.getD k dIns).2 ∧ (C.getD k dIns).2 < 9223372036854775808) (hf : t.funcs.length ≤ 140737488355328) (hp : t.params.length ≤ 140737488355328) : PC Try.prog 9 [tabAv t, codeAv C] (.tup [slI (heightsP t C).1, vi (heightsP t C).2]) := by
  refine FC.body 8 124 Try.func9 rfl (by kernel_rfl) ?_
  refine aw_seq ?_
  refine aw_text rfl ?_
  refine ch_v (R := []) rfl rfl (oc_box (x := .agg _) rfl rfl) trivial ?_
  refine ch_v (R := []) rfl rfl (oc_assign (x := .val _) rfl rfl) trivial ?_
  refine ch_v (R := []) rfl rfl (oc_assign (x := .val _) rfl rfl) trivial ?_
  refine ck_nil ?_
  refine aw_seq ?_
  refine aw_text rfl ?_
  refine ch_v (R := []) rfl rfl (oc_move (x := .sl _ _ _) rfl rfl) trivial ?_
  refine ch_v (R := []) rfl rfl (oc_call rfl (by kernel_rfl) (labels_pc C (by omega) hC) rfl (by simp only [PureL, Pure, and_self, pure_slI, pure_slS, pure_tab, expr_pure, exprs_pure, stmt_pure, stmts_pure, code_pure, insAv, implies_true]) (by simp only [PureL, Pure, and_self, pure_slI, pure_slS, pure_tab, expr_pure, exprs_pure, stmt_pure, stmts_pure, code_pure, insAv, implies_true])) trivial ?_
  refine ch_v (R := []) rfl rfl (oc_assign (x := .fm _ _ _ _) rfl rfl) trivial ?_
  refine ck_nil ?_
  refine aw_seq ?_
  refine aw_text rfl ?_
  refine ch_v (R := []) rfl rfl (oc_move (x := .sl _ _ _) rfl rfl) trivial ?_
  refine ch_v (R := []) rfl rfl (oc_len rfl rfl (by kernel_rfl)) trivial ?_
  refine ch_u rfl rfl (oc_makeSlice (e := 3) (by_ := 8) (z := .int .i64 0) (m := C.length) 0 rfl rfl rfl rfl (by kernel_rfl) (by kernel_rfl) rfl (by omega) (by omega)) ⟨rfl, trivial⟩ ?_
  refine ch_v (R := []) rfl rfl (oc_assign (x := .osl _ _ _) rfl rfl) trivial ?_
  refine ck_nil ?_
  refine aw_seq ?_
  refine aw_seq ?_
  refine aw_text rfl ?_
  refine ch_v (R := []) rfl rfl (oc_move (x := .osl _ _ _) rfl rfl) trivial ?_
  refine ch_v (R := [(_, .live _ _)]) rfl rfl (oc_len_own rfl rfl (by kernel_rfl)) ⟨rfl, trivial⟩ ?_
  refine ch_v (R := []) rfl rfl (oc_move (x := .val _) rfl rfl) trivial ?_
  refine ck_nil ?_
  refine aw_block ?_
  refine aw_loop (ι := Nat) (fun k => ⟨[(1, codeAv C), (2, .ptr (tabAv t)), (6, .fm Try.prog 3 3 (labD C C.length)), (7, .osl 1 0 C.length), (24, vi (C.length : Int)), (25, vi k)], [(0, .live 3 ((fillL C.length k).map vi)), (1, .unborn), (2, .unborn), (3, .unborn), (4, .unborn), (5, .unborn), (6, .unborn), (7, .unborn)]⟩) (fun k => k ≤ C.length) (fun k => C.length - k) 0 (Nat.zero_le _) (Le.sub ⟨.inr rfl, .inr rfl, .inr rfl, .inr rfl, .inr rfl, .inr rfl, trivial⟩ ⟨by show some (Hs.live _ (List.replicate C.length (vi 0))) = _; rw [fill_zero], rfl, rfl, rfl, rfl, rfl, rfl, rfl, trivial⟩) ?_
  intro k hI
  refine aw_seq ?_
  refine aw_text rfl ?_
  refine ch_v (R := []) rfl rfl (oc_binZ rfl rfl rfl rfl) trivial ?_
  refine ck_nil ?_
  refine aw_seq ?_
  refine aw_cond rfl (fun hb => ?_) (fun hb => ?_)
  · have hlt : k < C.length := by have h0 := of_decide_eq_true hb; omega
    refine aw_skip ?_
    refine aw_seq ?_
    refine aw_block ?_
    refine aw_seq ?_
    refine aw_text rfl ?_
    refine ch_v (R := []) rfl rfl (oc_move (x := .val _) rfl rfl) trivial ?_
    refine ch_v (R := []) rfl rfl (oc_assign (x := .val _) rfl rfl) trivial ?_
    refine ck_nil ?_
    refine aw_text rfl ?_
    refine ch_v (R := []) rfl rfl (oc_move (x := .osl _ _ _) rfl rfl) trivial ?_
    refine ch_v (R := []) rfl rfl (oc_move (x := .val _) rfl rfl) trivial ?_
    refine ch_v (R := [(_, .live _ _)]) rfl rfl (oc_index_ownN rfl rfl rfl (by kernel_rfl) (by omega)) ⟨rfl, trivial⟩ ?_
    refine ch_n rfl rfl (oc_store (y := vi (-1)) (cs' := (fillL C.length (k + 1)).map vi) rfl rfl rfl (by kernel_rfl) (by kernel_rfl) cells_int (by rw [List.length_map, fill_len (by omega)]; exact hlt) (by rw [vi_put, fill_set hlt])) ⟨rfl, trivial⟩ ?_
    refine ck_nil ?_
    refine aw_text rfl ?_
    refine ch_v (R := []) rfl rfl (oc_binZ rfl rfl rfl (by first | exact binW_add (by omega) (by omega) | rfl)) trivial ?_
    refine ch_v (R := []) rfl rfl (oc_move (x := .val _) rfl rfl) trivial ?_
    refine ck_nil ?_
    exact ⟨k + 1, by omega, by omega, Le.sub ⟨.inr rfl, .inr rfl, .inr rfl, .inr rfl, .inr rfl, .inr (vi_eq (by omega)), trivial⟩ ⟨rfl, rfl, rfl, rfl, rfl, rfl, rfl, rfl, trivial⟩⟩
  · have hge : k = C.length := by have h0 := of_decide_eq_false hb; omega
    subst hge
    refine aw_exit ?_
    refine aw_seq ?_
    refine aw_text rfl ?_
    refine ch_v (R := []) rfl rfl (oc_build (pl := [(0, 1), (1, 1)]) (zs := [.int .i64 0, .int .i64 0]) (ds := [.val _, .val _]) rfl (by kernel_rfl) rfl (by kernel_rfl) (by first | rfl | decide) rfl) trivial ?_
    refine ch_u rfl rfl (oc_buildSlice_ownK (ps := [.tmp 32]) (xs := [.agg _]) (e := 60) (k := 2) (by_ := 16) (zs := [.int .i64 0, .int .i64 0]) 1 rfl (by kernel_rfl) (by kernel_rfl) rfl rfl (by decide) (fun z hz => by first | (cases hz; done) | (simp only [List.mem_cons, List.not_mem_nil, or_false] at hz; subst hz; rfl)) rfl (by decide) (by decide)) ⟨rfl, trivial⟩ ?_
    refine ch_u rfl rfl (oc_alloc (zs := [.slice none 0 0]) (cs := [.val _]) 2 rfl (by kernel_rfl) rfl rfl) ⟨rfl, trivial⟩ ?_
    refine ch_n rfl rfl (oc_store (y := .osl _ _ _) (cs' := [_]) rfl rfl rfl (by kernel_rfl) (by kernel_rfl) cells_osl (by first | decide | (simp; done) | (simp; omega)) rfl) ⟨rfl, trivial⟩ ?_
    refine ck_nil ?_
    refine aw_seq ?_
    refine aw_text rfl ?_
    refine ch_v (R := []) rfl rfl (oc_makeFunc (cs := [.own _ _]) rfl rfl) trivial ?_
    refine ch_v (R := []) rfl rfl (oc_assign (x := .clo _ _) rfl rfl) trivial ?_
    refine ck_nil ?_
    refine aw_seq ?_
    refine aw_seq ?_
    refine aw_text rfl ?_
    refine ch_v (R := []) rfl rfl (oc_move (x := .clo _ _) rfl rfl) trivial ?_
    refine ch_u rfl rfl (oc_callCloFC [] rfl rfl (by kernel_rfl) ((next_cons [] (0, 0) (by simp)).m) rfl (by simp) (by simp [bornH]) (by simp) (by simp) (by simp [InNL, InN, inN_code, inNL_ins2, inNL_td]) (by simp [InHs, InH, InNL, InN, inN_code, inNL_ins2, inNL_td]) (by simp [InN, InNL, inN_code, inNL_ins2, inNL_td]) (by simp [InHs, InH, InNL, InN, inN_code, inNL_ins2, inNL_td])) ⟨rfl, rfl, trivial⟩ ?_
    refine ch_v (R := []) rfl rfl (oc_move (x := .tup _) rfl rfl) trivial ?_
    refine ch_v (R := []) rfl rfl (oc_extract rfl rfl rfl) trivial ?_
    refine ch_v (R := []) rfl rfl (oc_extract rfl rfl rfl) trivial ?_
    refine ch_u rfl rfl (oc_alloc (zs := [.int .i64 0, .int .i64 0]) (cs := [.val _, .val _]) 3 rfl (by kernel_rfl) rfl rfl) ⟨rfl, trivial⟩ ?_
    refine ch_n rfl rfl (oc_store_row (x := .agg _) (cs' := [_, _]) rfl rfl rfl rfl (by kernel_rfl) (by first | decide | exact Nat.le_of_ble_eq_true rfl | simp) (by first | decide | exact Nat.le_of_ble_eq_true rfl | simp) rfl) ⟨rfl, trivial⟩ ?_
    refine ch_v (R := []) rfl rfl (oc_assign (x := .val _) rfl rfl) trivial ?_
    refine ck_nil ?_
    refine aw_block ?_
    refine aw_loop (ι := (Nat × List Int × List (Nat × Int) × (Nat × Int) × Bool)) (fun q => ⟨[(1, codeAv C), (2, .ptr (tabAv t)), (6, .fm Try.prog 3 3 (labD C C.length)), (7, .osl 1 0 C.length), (9, .own 2 0), (10, .clo 23 [.own 2 0]), (11, .own 3 0), (12, vb q.2.2.2.2)], [(0, .live 3 (q.2.1.map vi)), (1, .live 60 (tdC q.2.2.1)), (2, .live 61 [.osl 2 1 q.2.2.1.length]), (3, .live 60 [vi (q.2.2.2.1.1 : Int), vi q.2.2.2.1.2]), (4, .unborn), (5, .unborn), (6, .unborn), (7, .unborn)]⟩) (fun q => (q.2.2.2.2 = false → heightsP t C = (q.2.1, 0) ∧ q.2.1.length = C.length) ∧ (q.2.2.2.2 = true → heightsP t C = heightsF t C q.1 q.2.1 (q.2.2.1 ++ [q.2.2.2.1]) ∧ q.2.1.length = C.length ∧ 3 * unm q.2.1 + (q.2.2.1.length + 1) < q.1 ∧ (∀ z ∈ q.2.2.1 ++ [q.2.2.2.1], 0 ≤ z.2 ∧ z.2 ≤ 256) ∧ q.1 ≤ 3 * C.length + 2)) (fun q => q.1) (3 * C.length + 2, fillL C.length C.length, [], (0, 0), true) (⟨fun h => (by cases h), fun _ => ⟨by rw [fill_all]; rfl, fill_len (Nat.le_refl _), by show 3 * unm (fillL C.length C.length) + (0 + 1) < 3 * C.length + 2; rw [fill_all, unm_fill]; omega, by simp, Nat.le_refl _⟩⟩) (Le.sub ⟨.inr rfl, .inr rfl, .inr rfl, .inr rfl, .inr rfl, .inr rfl, .inr rfl, .inr rfl, trivial⟩ ⟨rfl, rfl, rfl, rfl, rfl, rfl, rfl, rfl, trivial⟩) ?_
    intro q hI
    obtain ⟨hI0, hI⟩ := hI
    refine aw_seq ?_
    refine aw_seq ?_
    refine aw_text rfl ?_
    refine ch_v (R := []) rfl rfl (oc_move (x := .val _) rfl rfl) trivial ?_
    refine ck_nil ?_
    refine aw_cond rfl (fun hb => ?_) (fun hb => ?_)
    · have hmo : q.2.2.2.2 = true := hb
      have hinv : heightsP t C = heightsF t C q.1 q.2.1 (q.2.2.1 ++ [q.2.2.2.1]) ∧ q.2.1.length = C.length ∧ 3 * unm q.2.1 + (q.2.2.1.length + 1) < q.1 ∧ (∀ z ∈ q.2.2.1 ++ [q.2.2.2.1], 0 ≤ z.2 ∧ z.2 ≤ 256) ∧ q.1 ≤ 3 * C.length + 2 := hI hmo
      obtain ⟨g1, g2, g3, g4, g5⟩ := hinv
      obtain ⟨f0, hf0⟩ : ∃ f0, q.1 = f0 + 1 := ⟨q.1 - 1, by omega⟩
      rw [hf0, heights_step] at g1
      have hx := g4 q.2.2.2.1 (by simp)
      refine aw_skip ?_
      refine aw_seq ?_
      refine aw_joinJ (ι := (List Int × List (Nat × Int))) (fun p => ⟨[(1, codeAv C), (2, .ptr (tabAv t)), (6, .fm Try.prog 3 3 (labD C C.length)), (7, .osl 1 0 C.length), (9, .own 2 0), (10, .clo 23 [.own 2 0]), (11, .own 3 0)], [(0, .live 3 (p.1.map vi)), (1, .live 60 (tdC p.2)), (2, .live 61 [.osl 2 1 p.2.length]), (3, .live 60 [vi (q.2.2.2.1.1 : Int), vi q.2.2.2.1.2]), (7, .unborn)]⟩) (fun p => heightsP t C = heightsF t C f0 p.1 p.2 ∧ p.1.length = C.length ∧ 3 * unm p.1 + p.2.length < f0 ∧ (∀ z ∈ p.2, 0 ≤ z.2 ∧ z.2 ≤ 256)) ?_ (fun p hJ => ?_)
      · refine aw_block ?_
        refine aw_seq ?_
        refine aw_block ?_
        refine aw_seq ?_
        refine aw_text rfl ?_
        refine ch_v (R := [(_, .live _ _)]) rfl rfl (oc_fieldAddr_own (off := 0) (sz := 1) (r := false) rfl rfl (by first | decide | simp) (by kernel_rfl) (by decide)) ⟨rfl, trivial⟩ ?_
        refine ch_v (R := [(_, .live _ _)]) rfl rfl (oc_load_own rfl rfl (by kernel_rfl) rfl) ⟨rfl, trivial⟩ ?_
        refine ch_v (R := []) rfl rfl (oc_move (x := .sl _ _ _) rfl rfl) trivial ?_
        refine ch_v (R := []) rfl rfl (oc_len rfl rfl (by kernel_rfl)) trivial ?_
        refine ch_v (R := []) rfl rfl (oc_binZ rfl rfl rfl rfl) trivial ?_
        refine ch_v (R := []) rfl rfl (oc_assign (x := .val _) rfl rfl) trivial ?_
        refine ck_nil ?_
        refine aw_cond rfl (fun hb => ?_) (fun hb => ?_)
        · have h1 : q.2.2.2.1.1 ≥ C.length := by have h0 := of_decide_eq_true hb; omega
          rw [if_pos h1] at g1
          refine aw_seq ?_
          refine aw_text rfl ?_
          refine ch_v (R := []) rfl rfl (oc_assign (x := .val _) rfl rfl) trivial ?_
          refine ch_v (R := []) rfl rfl (oc_assign (x := .val _) rfl rfl) trivial ?_
          refine ck_nil ?_
          refine aw_ret ?_
          exact ⟨.inl rfl, by rw [pairL g1]; exact ResOk.two rfl (ResC.to (ResC.tmp rfl) (fun E v h => rep_nil0 (k := 1) E v h)) (ResC.tmp rfl), trivial⟩
        · have h1 : ¬ q.2.2.2.1.1 ≥ C.length := by have h0 := of_decide_eq_false hb; omega
          rw [if_neg h1] at g1
          refine aw_seq ?_
          refine aw_draw mixed ?_
          refine ch_v (R := []) rfl rfl (oc_move (x := .osl _ _ _) rfl rfl) trivial ?_
          refine ch_v (R := [(_, .live _ _)]) rfl rfl (oc_fieldAddr_own (off := 0) (sz := 1) (r := false) rfl rfl (by first | decide | simp) (by kernel_rfl) (by decide)) ⟨rfl, trivial⟩ ?_
          refine ch_v (R := [(_, .live _ _)]) rfl rfl (oc_load_own rfl rfl (by kernel_rfl) rfl) ⟨rfl, trivial⟩ ?_
          refine ch_v (R := [(_, .live _ _)]) rfl rfl (oc_index_ownN rfl rfl rfl (by kernel_rfl) (by omega)) ⟨rfl, trivial⟩ ?_
          refine ch_v (R := [(_, .live _ _)]) rfl rfl (oc_load_own rfl rfl (by kernel_rfl) (vi_at (by omega))) ⟨rfl, trivial⟩ ?_
          refine ch_v (R := [(_, .live _ _)]) rfl rfl (oc_fieldAddr_own (off := 1) (sz := 1) (r := false) rfl rfl (by first | decide | simp) (by kernel_rfl) (by decide)) ⟨rfl, trivial⟩ ?_
          refine ch_v (R := [(_, .live _ _)]) rfl rfl (oc_load_own rfl rfl (by kernel_rfl) rfl) ⟨rfl, trivial⟩ ?_
          refine ch_v (R := []) rfl rfl (oc_binZ rfl rfl rfl rfl) trivial ?_
          refine ch_v (R := []) rfl rfl (oc_assign (x := .val _) rfl rfl) trivial ?_
          refine ck_nil ⟨by kernel_rfl, ?_⟩
          refine aw_cond rfl (fun hb => ?_) (fun hb => ?_)
          · have h2 : q.2.1.getD q.2.2.2.1.1 0 = q.2.2.2.1.2 := by simpa using hb
            rw [if_pos h2] at g1
            refine aw_exit ?_
            exact ⟨(q.2.1, q.2.2.1), ⟨g1, g2, by show 3 * unm q.2.1 + q.2.2.1.length < f0; omega, fun z hz => g4 z (by simp [hz])⟩, Le.sub ⟨.inr rfl, .inr rfl, .inr rfl, .inr rfl, .inr rfl, .inr rfl, .inr rfl, trivial⟩ ⟨rfl, rfl, rfl, rfl, rfl, trivial⟩⟩
          · have h2 : ¬ q.2.1.getD q.2.2.2.1.1 0 = q.2.2.2.1.2 := by simpa using hb
            rw [if_neg h2] at g1
            refine aw_seq ?_
            refine aw_text rfl ?_
            refine ch_v (R := []) rfl rfl (oc_move (x := .osl _ _ _) rfl rfl) trivial ?_
            refine ch_v (R := [(_, .live _ _)]) rfl rfl (oc_fieldAddr_own (off := 0) (sz := 1) (r := false) rfl rfl (by first | decide | simp) (by kernel_rfl) (by decide)) ⟨rfl, trivial⟩ ?_
            refine ch_v (R := [(_, .live _ _)]) rfl rfl (oc_load_own rfl rfl (by kernel_rfl) rfl) ⟨rfl, trivial⟩ ?_
            refine ch_v (R := [(_, .live _ _)]) rfl rfl (oc_index_ownN rfl rfl rfl (by kernel_rfl) (by omega)) ⟨rfl, trivial⟩ ?_
            refine ch_v (R := [(_, .live _ _)]) rfl rfl (oc_load_own rfl rfl (by kernel_rfl) (vi_at (by omega))) ⟨rfl, trivial⟩ ?_
            refine ch_v (R := []) rfl rfl (oc_binZ rfl rfl rfl rfl) trivial ?_
            refine ch_v (R := []) rfl rfl (oc_assign (x := .val _) rfl rfl) trivial ?_
            refine ck_nil ?_
            refine aw_cond rfl (fun hb => ?_) (fun hb => ?_)
            · have h3 : q.2.1.getD q.2.2.2.1.1 0 ≠ -1 := by simpa using hb
              rw [if_pos h3] at g1
              refine aw_seq ?_
              refine aw_text rfl ?_
              refine ch_v (R := []) rfl rfl (oc_assign (x := .val _) rfl rfl) trivial ?_
              refine ch_v (R := []) rfl rfl (oc_assign (x := .val _) rfl rfl) trivial ?_
              refine ck_nil ?_
              refine aw_ret ?_
              exact ⟨.inl rfl, by rw [pairL g1]; exact ResOk.two rfl (ResC.to (ResC.tmp rfl) (fun E v h => rep_nil0 (k := 1) E v h)) (ResC.tmp rfl), trivial⟩
            · have h3 : ¬ q.2.1.getD q.2.2.2.1.1 0 ≠ -1 := by simpa using hb
              rw [if_neg h3] at g1
              refine aw_skip ?_
              refine aw_seq ?_
              refine aw_text rfl ?_
              refine ch_v (R := []) rfl rfl (oc_move (x := .sl _ _ _) rfl rfl) trivial ?_
              refine ch_v (R := [(_, .live _ _)]) rfl rfl (oc_fieldAddr_own (off := 0) (sz := 1) (r := false) rfl rfl (by first | decide | simp) (by kernel_rfl) (by decide)) ⟨rfl, trivial⟩ ?_
              refine ch_v (R := [(_, .live _ _)]) rfl rfl (oc_load_own rfl rfl (by kernel_rfl) rfl) ⟨rfl, trivial⟩ ?_
              refine ch_v (R := []) rfl rfl ((by first | exact oc_indexN rfl rfl rfl (by kernel_rfl) (by omega) | exact oc_index rfl rfl rfl (by kernel_rfl) (by omega) (by omega) rfl)) trivial ?_
              refine ch_v (R := []) rfl rfl (oc_load_row rfl rfl (by kernel_rfl) (by kernel_rfl) rfl) trivial ?_
              refine ch_u rfl rfl (oc_alloc (zs := [.int .i64 0, .int .i64 0]) (cs := [.val _, .val _]) 4 rfl (by kernel_rfl) rfl rfl) ⟨rfl, trivial⟩ ?_
              refine ch_n rfl rfl (oc_store_row (x := .agg _) (cs' := [_, _]) rfl rfl rfl rfl (by kernel_rfl) (by first | decide | exact Nat.le_of_ble_eq_true rfl | simp) (by first | decide | exact Nat.le_of_ble_eq_true rfl | simp) rfl) ⟨rfl, trivial⟩ ?_
              refine ck_nil ?_
              refine aw_seq ?_
              refine aw_text rfl ?_
              refine ch_v (R := []) rfl rfl (oc_move (x := .fm _ _ _ _) rfl rfl) trivial ?_
              refine ch_v (R := [(_, .live _ _)]) rfl rfl (oc_fieldAddr_own (off := 1) (sz := 1) (r := false) rfl rfl (by first | decide | simp) (by kernel_rfl) (by decide)) ⟨rfl, trivial⟩ ?_
              refine ch_v (R := [(_, .live _ _)]) rfl rfl (oc_load_own rfl rfl (by kernel_rfl) rfl) ⟨rfl, trivial⟩ ?_
              refine ch_v (R := []) rfl rfl (OC.cast (oc_lookupOkF (k := 3) (e := 3) (Go.Maps.int_keyed Try.underlying3) rfl rfl rfl (by kernel_rfl) (by kernel_rfl) (by kernel_rfl) (Go.Maps.keyOf_int_mk Try.underlying3 (wf_num (hC q.2.2.2.1.1))) ((lab_all C).2 _)) (by rw [show Go.Maps.has (labD C C.length) (Lit.int IntKind.i64 (C.getD q.2.2.2.1.1 dIns).2) = _ from (lab_all C).1 (C.getD q.2.2.2.1.1 dIns).2])) trivial ?_
              refine ch_v (R := []) rfl rfl (oc_move (x := .tup _) rfl rfl) trivial ?_
              refine ch_v (R := []) rfl rfl (oc_extract rfl rfl rfl) trivial ?_
              refine ch_v (R := []) rfl rfl (oc_extract rfl rfl rfl) trivial ?_
              refine ch_v (R := []) rfl rfl (oc_assign (x := .val _) rfl rfl) trivial ?_
              refine ch_v (R := []) rfl rfl (oc_assign (x := .val _) rfl rfl) trivial ?_
              refine ck_nil ?_
              refine aw_seq ?_
              refine aw_text rfl ?_
              refine ch_v (R := []) rfl rfl (oc_load_row rfl rfl (by kernel_rfl) (by kernel_rfl) rfl) trivial ?_
              refine ch_v (R := [(_, .live _ _)]) rfl rfl (oc_load_own_row (k := 2) (ds := [_, _]) rfl rfl (by kernel_rfl) (by kernel_rfl) rfl rfl (by decide)) ⟨rfl, trivial⟩ ?_
              refine ch_v (R := [(_, .live _ _)]) rfl rfl (oc_fieldAddr_own (off := 1) (sz := 1) (r := false) rfl rfl (by first | decide | simp) (by kernel_rfl) (by decide)) ⟨rfl, trivial⟩ ?_
              refine ch_v (R := [(_, .live _ _)]) rfl rfl (oc_load_own rfl rfl (by kernel_rfl) rfl) ⟨rfl, trivial⟩ ?_
              refine ch_v (R := []) rfl rfl (oc_move (x := .val _) rfl rfl) trivial ?_
              refine ch_v (R := []) rfl rfl (oc_call rfl (by kernel_rfl) (met_pc t (C.getD q.2.2.2.1.1 dIns) q.2.2.2.1.2 (standsP C (C.getD q.2.2.2.1.1 dIns).2).isSome hf hp (by omega)) rfl (by simp only [PureL, Pure, and_self, pure_slI, pure_slS, pure_tab, expr_pure, exprs_pure, stmt_pure, stmts_pure, code_pure, insAv, implies_true]) (by simp only [PureL, Pure, and_self, pure_slI, pure_slS, pure_tab, expr_pure, exprs_pure, stmt_pure, stmts_pure, code_pure, insAv, implies_true])) trivial ?_
              refine ch_v (R := []) rfl rfl (oc_move (x := .tup _) rfl rfl) trivial ?_
              refine ch_v (R := []) rfl rfl (oc_extract rfl rfl rfl) trivial ?_
              refine ch_v (R := []) rfl rfl (oc_extract rfl rfl rfl) trivial ?_
              refine ch_v (R := []) rfl rfl (oc_assign (x := .val _) rfl rfl) trivial ?_
              refine ch_v (R := []) rfl rfl (oc_assign (x := .val _) rfl rfl) trivial ?_
              refine ck_nil ?_
              refine aw_seq ?_
              refine aw_seq ?_
              refine aw_text rfl ?_
              refine ch_v (R := []) rfl rfl (oc_move (x := .val _) rfl rfl) trivial ?_
              refine ch_v (R := []) rfl rfl (oc_binZ rfl rfl rfl rfl) trivial ?_
              refine ck_nil ?_
              refine aw_cond rfl (fun hb => ?_) (fun hb => ?_)
              · have h4 : (metP t (C.getD q.2.2.2.1.1 dIns) q.2.2.2.1.2 (standsP C (C.getD q.2.2.2.1.1 dIns).2).isSome).2 ≠ 0 := by simpa using hb
                rw [if_pos h4] at g1
                refine aw_seq ?_
                refine aw_text rfl ?_
                refine ch_v (R := []) rfl rfl (oc_move (x := .val _) rfl rfl) trivial ?_
                refine ch_v (R := []) rfl rfl (oc_assign (x := .val _) rfl rfl) trivial ?_
                refine ch_v (R := []) rfl rfl (oc_assign (x := .val _) rfl rfl) trivial ?_
                refine ck_nil ?_
                refine aw_ret ?_
                exact ⟨.inl rfl, by rw [pairL g1]; exact ResOk.two rfl (ResC.to (ResC.tmp rfl) (fun E v h => rep_nil0 (k := 1) E v h)) (ResC.tmp rfl), trivial⟩
              · have h4 : ¬ (metP t (C.getD q.2.2.2.1.1 dIns) q.2.2.2.1.2 (standsP C (C.getD q.2.2.2.1.1 dIns).2).isSome).2 ≠ 0 := by simpa using hb
                rw [if_neg h4] at g1
                have hbd := met_bd hx (Classical.not_not.1 h4)
                obtain ⟨td1, htd1⟩ : ∃ td1, td1 = (if (C.getD q.2.2.2.1.1 dIns).1 = 24 ∨ (C.getD q.2.2.2.1.1 dIns).1 = 25 then q.2.2.1 ++ [((standsP C (C.getD q.2.2.2.1.1 dIns).2).getD 0, (metP t (C.getD q.2.2.2.1.1 dIns) q.2.2.2.1.2 (standsP C (C.getD q.2.2.2.1.1 dIns).2).isSome).1)] else q.2.2.1) := ⟨_, rfl⟩
                obtain ⟨td2_, htd2⟩ : ∃ td2_, td2_ = (if (C.getD q.2.2.2.1.1 dIns).1 ≠ 24 ∧ ¬ ((C.getD q.2.2.2.1.1 dIns).1 = 27 ∨ (C.getD q.2.2.2.1.1 dIns).1 = 28 ∨ (C.getD q.2.2.2.1.1 dIns).1 = 29 ∨ (C.getD q.2.2.2.1.1 dIns).1 = 30) then td1 ++ [(q.2.2.2.1.1 + 1, (metP t (C.getD q.2.2.2.1.1 dIns) q.2.2.2.1.2 (standsP C (C.getD q.2.2.2.1.1 dIns).2).isSome).1)] else td1) := ⟨_, rfl⟩
                have hpush : pushTo C (C.getD q.2.2.2.1.1 dIns) q.2.2.2.1.1 (metP t (C.getD q.2.2.2.1.1 dIns) q.2.2.2.1.2 (standsP C (C.getD q.2.2.2.1.1 dIns).2).isSome).1 q.2.2.1 = td2_ := by rw [htd2, htd1]; rfl
                have hl1 : td1.length ≤ q.2.2.1.length + 1 := by rw [htd1]; split <;> simp
                have hl2 : td2_.length ≤ td1.length + 1 := by rw [htd2]; split <;> simp
                have hun := unm_set (out := q.2.1) (i := q.2.2.2.1.1) (x := q.2.2.2.1.2) (Classical.not_not.1 h3) (by omega)
                have hin : ∀ z ∈ td2_, 0 ≤ z.2 ∧ z.2 ≤ 256 := by
                  have hr : ∀ z ∈ q.2.2.1, 0 ≤ z.2 ∧ z.2 ≤ 256 := fun z hz => g4 z (by simp [hz])
                  have h1 : ∀ z ∈ td1, 0 ≤ z.2 ∧ z.2 ≤ 256 := fun z hz => by
                    rw [htd1] at hz
                    split at hz
                    · rcases List.mem_append.1 hz with hz | hz
                      · exact hr z hz
                      · rw [List.mem_singleton] at hz; subst hz; exact hbd
                    · exact hr z hz
                  intro z hz
                  rw [htd2] at hz
                  split at hz
                  · rcases List.mem_append.1 hz with hz | hz
                    · exact h1 z hz
                    · rw [List.mem_singleton] at hz; subst hz; exact hbd
                  · exact h1 z hz
                refine aw_skip ?_
                refine aw_seq ?_
                refine aw_text rfl ?_
                refine ch_v (R := []) rfl rfl (oc_move (x := .osl _ _ _) rfl rfl) trivial ?_
                refine ch_v (R := [(_, .live _ _)]) rfl rfl (oc_fieldAddr_own (off := 0) (sz := 1) (r := false) rfl rfl (by first | decide | simp) (by kernel_rfl) (by decide)) ⟨rfl, trivial⟩ ?_
                refine ch_v (R := [(_, .live _ _)]) rfl rfl (oc_load_own rfl rfl (by kernel_rfl) rfl) ⟨rfl, trivial⟩ ?_
                refine ch_v (R := [(_, .live _ _)]) rfl rfl (oc_fieldAddr_own (off := 1) (sz := 1) (r := false) rfl rfl (by first | decide | simp) (by kernel_rfl) (by decide)) ⟨rfl, trivial⟩ ?_
                refine ch_v (R := [(_, .live _ _)]) rfl rfl (oc_load_own rfl rfl (by kernel_rfl) rfl) ⟨rfl, trivial⟩ ?_
                refine ch_v (R := [(_, .live _ _)]) rfl rfl (oc_index_ownN rfl rfl rfl (by kernel_rfl) (by omega)) ⟨rfl, trivial⟩ ?_
                refine ch_n rfl rfl (oc_store (y := vi q.2.2.2.1.2) (cs' := (q.2.1.set q.2.2.2.1.1 q.2.2.2.1.2).map vi) rfl rfl rfl (by kernel_rfl) (by kernel_rfl) cells_int (by rw [List.length_map]; omega) (by rw [vi_put])) ⟨rfl, trivial⟩ ?_
                refine ck_nil ?_
                refine aw_seq ?_
                refine aw_seq ?_
                refine aw_text rfl ?_
                refine ch_v (R := [(_, .live _ _)]) rfl rfl (oc_load_own_row (k := 2) (ds := [_, _]) rfl rfl (by kernel_rfl) (by kernel_rfl) rfl rfl (by decide)) ⟨rfl, trivial⟩ ?_
                refine ch_v (R := []) rfl rfl (oc_call rfl (by kernel_rfl) (goes_pc (C.getD q.2.2.2.1.1 dIns)) rfl (by simp only [PureL, Pure, and_self, pure_slI, pure_slS, pure_tab, expr_pure, exprs_pure, stmt_pure, stmts_pure, code_pure, insAv, implies_true]) (by simp only [PureL, Pure, and_self, pure_slI, pure_slS, pure_tab, expr_pure, exprs_pure, stmt_pure, stmts_pure, code_pure, insAv, implies_true])) trivial ?_
                refine ck_nil ?_
                refine aw_joinQ (τ := ⟨[(1, codeAv C), (2, .ptr (tabAv t)), (6, .fm Try.prog 3 3 (labD C C.length)), (7, .osl 1 0 C.length), (9, .own 2 0), (10, .clo 23 [.own 2 0]), (11, .own 3 0), (13, .own 4 0), (16, vi (metP t (C.getD q.2.2.2.1.1 dIns) q.2.2.2.1.2 (standsP C (C.getD q.2.2.2.1.1 dIns).2).isSome).1)], [(0, .live 3 ((q.2.1.set q.2.2.2.1.1 q.2.2.2.1.2).map vi)), (1, .live 60 (tdC td1)), (2, .live 61 [.osl 2 1 td1.length]), (3, .live 60 [vi (q.2.2.2.1.1 : Int), vi q.2.2.2.1.2]), (4, .live 40 [vi (C.getD q.2.2.2.1.1 dIns).1, vi (C.getD q.2.2.2.1.1 dIns).2]), (6, .unborn), (7, .unborn)]⟩) ?_ ?_
                · refine aw_cond rfl (fun hb => ?_) (fun hb => ?_)
                  · have h5 : (C.getD q.2.2.2.1.1 dIns).1 = 24 ∨ (C.getD q.2.2.2.1.1 dIns).1 = 25 := by simpa using hb
                    rw [if_pos h5] at htd1
                    subst htd1
                    refine aw_text rfl ?_
                    refine ch_v (R := [(_, .live _ _)]) rfl rfl (oc_load_own rfl rfl (by kernel_rfl) rfl) ⟨rfl, trivial⟩ ?_
                    refine ch_v (R := []) rfl rfl (oc_move (x := .val _) rfl rfl) trivial ?_
                    refine ch_v (R := []) rfl rfl (oc_move (x := .val _) rfl rfl) trivial ?_
                    refine ch_v (R := []) rfl rfl (oc_build (pl := [(0, 1), (1, 1)]) (zs := [.int .i64 0, .int .i64 0]) (ds := [.val _, .val _]) rfl (by kernel_rfl) rfl (by kernel_rfl) (by first | rfl | decide) rfl) trivial ?_
                    refine ch_v (R := []) rfl rfl (OC.to (oc_buildSlice (ps := [.tmp 103]) (xs := [.agg _]) (e := 60) (k := 2) (by_ := 16) (zs := [.int .i64 0, .int .i64 0]) rfl (by kernel_rfl) (by kernel_rfl) rfl rfl rfl (by decide) (by decide)) (code_of [(((((standsP C (C.getD q.2.2.2.1.1 dIns).2).getD 0 : Nat) : Int)), (metP t (C.getD q.2.2.2.1.1 dIns) q.2.2.2.1.2 (standsP C (C.getD q.2.2.2.1.1 dIns).2).isSome).1)])) trivial ?_
                    refine ch_u rfl rfl (oc_append (e := 60) (k := 2) (by_ := 16) (zs := [.int .i64 0, .int .i64 0]) (cs := tdC q.2.2.1) (ds := ins2 [(((((standsP C (C.getD q.2.2.2.1.1 dIns).2).getD 0 : Nat) : Int)), (metP t (C.getD q.2.2.2.1.1 dIns) q.2.2.2.1.2 (standsP C (C.getD q.2.2.2.1.1 dIns).2).isSome).1)]) 5 rfl rfl rfl (by kernel_rfl) (by kernel_rfl) rfl (by decide) (by decide) (by rw [td_len]) (by rw [ins2_len]) (app_ins2 _) (by simp only [List.length_cons, List.length_nil]; omega) (by simp only [List.length_cons, List.length_nil]; omega)) ⟨rfl, rfl, trivial⟩ ?_
                    refine ch_n rfl rfl (oc_store (y := .osl _ _ _) (cs' := [_]) rfl rfl rfl (by kernel_rfl) (by kernel_rfl) cells_osl (by first | decide | (simp; done) | (simp; omega)) rfl) ⟨rfl, trivial⟩ ?_
                    refine ck_nil ?_
                    exact (by first | exact Le.turn 1 5 [5, 6, 7] (by simp) (by simp) (by decide) (by decide) ⟨tA_pure rfl (code_pure C), tA_pure rfl (by unfold Pure; exact pure_tab t), tA_non rfl (by simp [NoN]), tA_non rfl (by simp [NoN]), tA_non rfl (by simp [NoN]), tA_non rfl (by simp [NoN, NoNL]), tA_non rfl (by simp [NoN]), tA_non rfl (by simp [NoN]), tA_vi rfl, trivial⟩ ⟨t1_stay (by decide) (by decide) (by decide) rfl (non_vi _), t1_new (by rw [td_app]; rfl) (non_td _), t1_cell (by decide) (by decide) (by decide) rfl ⟨tA_osl (by simp), trivial⟩, t1_stay (by decide) (by decide) (by decide) rfl (by simp [NoN]), t1_stay (by decide) (by decide) (by decide) rfl (by simp [NoN]), t1_unb (by decide) (by decide), t1_unb (by decide) (by decide), trivial⟩ | exact Le.sub ⟨.inr rfl, .inr rfl, .inr rfl, .inr rfl, .inr rfl, .inr rfl, .inr rfl, .inr rfl, .inr rfl, trivial⟩ ⟨rfl, rfl, rfl, rfl, rfl, rfl, rfl, trivial⟩)
                  · have h5 : ¬ ((C.getD q.2.2.2.1.1 dIns).1 = 24 ∨ (C.getD q.2.2.2.1.1 dIns).1 = 25) := by simpa using hb
                    rw [if_neg h5] at htd1
                    subst htd1
                    refine aw_skip ?_
                    exact (by first | exact Le.turn 1 5 [5, 6, 7] (by simp) (by simp) (by decide) (by decide) ⟨tA_pure rfl (code_pure C), tA_pure rfl (by unfold Pure; exact pure_tab t), tA_non rfl (by simp [NoN]), tA_non rfl (by simp [NoN]), tA_non rfl (by simp [NoN]), tA_non rfl (by simp [NoN, NoNL]), tA_non rfl (by simp [NoN]), tA_non rfl (by simp [NoN]), tA_vi rfl, trivial⟩ ⟨t1_stay (by decide) (by decide) (by decide) rfl (non_vi _), t1_new (by rw [td_app]; rfl) (non_td _), t1_cell (by decide) (by decide) (by decide) rfl ⟨tA_osl (by simp), trivial⟩, t1_stay (by decide) (by decide) (by decide) rfl (by simp [NoN]), t1_stay (by decide) (by decide) (by decide) rfl (by simp [NoN]), t1_unb (by decide) (by decide), t1_unb (by decide) (by decide), trivial⟩ | exact Le.sub ⟨.inr rfl, .inr rfl, .inr rfl, .inr rfl, .inr rfl, .inr rfl, .inr rfl, .inr rfl, .inr rfl, trivial⟩ ⟨rfl, rfl, rfl, rfl, rfl, rfl, rfl, trivial⟩)
                · refine aw_seq ?_
                  refine aw_text rfl ?_
                  refine ch_v (R := [(_, .live _ _)]) rfl rfl (oc_fieldAddr_own (off := 0) (sz := 1) (r := false) rfl rfl (by first | decide | simp) (by kernel_rfl) (by decide)) ⟨rfl, trivial⟩ ?_
                  refine ch_v (R := [(_, .live _ _)]) rfl rfl (oc_load_own rfl rfl (by kernel_rfl) rfl) ⟨rfl, trivial⟩ ?_
                  refine ch_v (R := []) rfl rfl (oc_binZ rfl rfl rfl rfl) trivial ?_
                  refine ch_v (R := []) rfl rfl (oc_move (x := .val _) rfl rfl) trivial ?_
                  refine ch_g (R := [(_, .live _ _)]) rfl rfl rfl gate_t (fun hC => oc_load_own_row (k := 2) (ds := [_, _]) rfl rfl (by kernel_rfl) (by kernel_rfl) rfl rfl (by decide)) (fun hC => ⟨(by first | rfl | exact hC | (simp only [Bool.and_eq_true] at hC; first | exact hC.1 | exact hC.1.1 | exact hC.2) | simp_all), trivial⟩) ⟨rfl, trivial⟩ ?_
                  refine ch_g (R := []) rfl rfl rfl gate_t (fun hC => oc_call rfl (by kernel_rfl) (ends_pc (C.getD q.2.2.2.1.1 dIns)) rfl (by simp only [PureL, Pure, and_self, pure_slI, pure_slS, pure_tab, expr_pure, exprs_pure, stmt_pure, stmts_pure, code_pure, insAv, implies_true]) (by simp only [PureL, Pure, and_self, pure_slI, pure_slS, pure_tab, expr_pure, exprs_pure, stmt_pure, stmts_pure, code_pure, insAv, implies_true])) (fun hC => ⟨(by first | rfl | exact hC | (simp only [Bool.and_eq_true] at hC; first | exact hC.1 | exact hC.1.1 | exact hC.2) | simp_all), (by first | rfl | exact hC | (simp only [Bool.and_eq_true] at hC; first | exact hC.1 | exact hC.1.1 | exact hC.2) | simp_all), trivial⟩) trivial ?_
                  refine ch_g (R := []) rfl rfl rfl gate_t (fun hC => oc_not rfl rfl) (fun hC => ⟨(by first | rfl | exact hC | (simp only [Bool.and_eq_true] at hC; first | exact hC.1 | exact hC.1.1 | exact hC.2) | simp_all), trivial⟩) trivial ?_
                  refine ch_v (R := []) rfl rfl (oc_and rfl rfl rfl rfl (by first | exact fun h => h | simp_all)) trivial ?_
                  refine ck_nil ?_
                  refine aw_cond rfl (fun hb => ?_) (fun hb => ?_)
                  · have h6 : (C.getD q.2.2.2.1.1 dIns).1 ≠ 24 ∧ ¬ ((C.getD q.2.2.2.1.1 dIns).1 = 27 ∨ (C.getD q.2.2.2.1.1 dIns).1 = 28 ∨ (C.getD q.2.2.2.1.1 dIns).1 = 29 ∨ (C.getD q.2.2.2.1.1 dIns).1 = 30) := by
                      simp only [Bool.and_eq_true, bne_iff_ne, Bool.not_eq_true', Bool.or_eq_false_iff, beq_eq_false_iff_ne, ne_eq] at hb
                      omega
                    rw [if_pos h6] at htd2
                    subst htd2
                    refine aw_text rfl ?_
                    refine ch_v (R := [(_, .live _ _)]) rfl rfl (oc_load_own rfl rfl (by kernel_rfl) rfl) ⟨rfl, trivial⟩ ?_
                    refine ch_v (R := [(_, .live _ _)]) rfl rfl (oc_fieldAddr_own (off := 0) (sz := 1) (r := false) rfl rfl (by first | decide | simp) (by kernel_rfl) (by decide)) ⟨rfl, trivial⟩ ?_
                    refine ch_v (R := [(_, .live _ _)]) rfl rfl (oc_load_own rfl rfl (by kernel_rfl) rfl) ⟨rfl, trivial⟩ ?_
                    refine ch_v (R := []) rfl rfl (oc_binZ rfl rfl rfl (by first | exact binW_add (by omega) (by omega) | rfl)) trivial ?_
                    refine ch_v (R := []) rfl rfl (oc_move (x := .val _) rfl rfl) trivial ?_
                    refine ch_v (R := []) rfl rfl (oc_build (pl := [(0, 1), (1, 1)]) (zs := [.int .i64 0, .int .i64 0]) (ds := [.val _, .val _]) rfl (by kernel_rfl) rfl (by kernel_rfl) (by first | rfl | decide) rfl) trivial ?_
                    refine ch_v (R := []) rfl rfl (OC.to (oc_buildSlice (ps := [.tmp 119]) (xs := [.agg _]) (e := 60) (k := 2) (by_ := 16) (zs := [.int .i64 0, .int .i64 0]) rfl (by kernel_rfl) (by kernel_rfl) rfl rfl rfl (by decide) (by decide)) (code_of [((q.2.2.2.1.1 : Int) + 1, (metP t (C.getD q.2.2.2.1.1 dIns) q.2.2.2.1.2 (standsP C (C.getD q.2.2.2.1.1 dIns).2).isSome).1)])) trivial ?_
                    refine ch_u rfl rfl (oc_append (e := 60) (k := 2) (by_ := 16) (zs := [.int .i64 0, .int .i64 0]) (cs := tdC td1) (ds := ins2 [((q.2.2.2.1.1 : Int) + 1, (metP t (C.getD q.2.2.2.1.1 dIns) q.2.2.2.1.2 (standsP C (C.getD q.2.2.2.1.1 dIns).2).isSome).1)]) 6 rfl rfl rfl (by kernel_rfl) (by kernel_rfl) rfl (by decide) (by decide) (by rw [td_len]) (by rw [ins2_len]) (app_ins2 _) (by simp only [List.length_cons, List.length_nil]; omega) (by simp only [List.length_cons, List.length_nil]; omega)) ⟨rfl, rfl, trivial⟩ ?_
                    refine ch_n rfl rfl (oc_store (y := .osl _ _ _) (cs' := [_]) rfl rfl rfl (by kernel_rfl) (by kernel_rfl) cells_osl (by first | decide | (simp; done) | (simp; omega)) rfl) ⟨rfl, trivial⟩ ?_
                    refine ck_nil ?_
                    exact ⟨((q.2.1.set q.2.2.2.1.1 q.2.2.2.1.2), (td1 ++ [(q.2.2.2.1.1 + 1, (metP t (C.getD q.2.2.2.1.1 dIns) q.2.2.2.1.2 (standsP C (C.getD q.2.2.2.1.1 dIns).2).isSome).1)])), ⟨by rw [g1, hpush], by show List.length (List.set _ _ _) = _; rw [List.length_set]; exact g2, by show 3 * unm (q.2.1.set q.2.2.2.1.1 q.2.2.2.1.2) + (td1 ++ [(q.2.2.2.1.1 + 1, (metP t (C.getD q.2.2.2.1.1 dIns) q.2.2.2.1.2 (standsP C (C.getD q.2.2.2.1.1 dIns).2).isSome).1)]).length < f0; omega, hin⟩, Le.turn 1 6 [6, 7] (by simp) (by simp) (by decide) (by decide) ⟨tA_pure rfl (code_pure C), tA_pure rfl (by unfold Pure; exact pure_tab t), tA_non rfl (by simp [NoN]), tA_non rfl (by simp [NoN]), tA_non rfl (by simp [NoN]), tA_non rfl (by simp [NoN, NoNL]), tA_non rfl (by simp [NoN]), trivial⟩ ⟨t1_stay (by decide) (by decide) (by decide) rfl (non_vi _), t1_new (by rw [td_app]; rfl) (non_td _), t1_cell (by decide) (by decide) (by decide) rfl ⟨tA_osl (by simp), trivial⟩, t1_stay (by decide) (by decide) (by decide) rfl (by simp [NoN]), t1_unb (by decide) (by decide), trivial⟩⟩
                  · have h6 : ¬ ((C.getD q.2.2.2.1.1 dIns).1 ≠ 24 ∧ ¬ ((C.getD q.2.2.2.1.1 dIns).1 = 27 ∨ (C.getD q.2.2.2.1.1 dIns).1 = 28 ∨ (C.getD q.2.2.2.1.1 dIns).1 = 29 ∨ (C.getD q.2.2.2.1.1 dIns).1 = 30)) := by
                      rintro ⟨k1, k2⟩
                      rw [Bool.and_eq_false_iff] at hb
                      simp only [bne_eq_false_iff_eq, Bool.not_eq_false', Bool.or_eq_true, beq_iff_eq] at hb
                      omega
                    rw [if_neg h6] at htd2
                    subst htd2
                    refine aw_skip ?_
                    exact ⟨((q.2.1.set q.2.2.2.1.1 q.2.2.2.1.2), td2_), ⟨by rw [g1, hpush], by show List.length (List.set _ _ _) = _; rw [List.length_set]; exact g2, by show 3 * unm (q.2.1.set q.2.2.2.1.1 q.2.2.2.1.2) + td2_.length < f0; omega, hin⟩, Le.sub ⟨.inr rfl, .inr rfl, .inr rfl, .inr rfl, .inr rfl, .inr rfl, .inr rfl, trivial⟩ ⟨rfl, rfl, rfl, rfl, rfl, trivial⟩⟩
      · obtain ⟨o2, td⟩ := p
        obtain ⟨j1, j2, j3, j4⟩ := hJ
        refine aw_seq ?_
        refine aw_seq ?_
        refine aw_text rfl ?_
        refine ch_v (R := [(_, .live _ _)]) rfl rfl (oc_load_own_row (k := 2) (ds := [_, _]) rfl rfl (by kernel_rfl) (by kernel_rfl) rfl rfl (by decide)) ⟨rfl, trivial⟩ ?_
        refine ck_nil ?_
        refine aw_text rfl ?_
        refine ch_u rfl rfl (oc_alloc (zs := [.int .i64 0, .int .i64 0]) (cs := [.val _, .val _]) 7 rfl (by kernel_rfl) rfl rfl) ⟨rfl, trivial⟩ ?_
        refine ch_n rfl rfl (oc_store_row (x := .agg _) (cs' := [_, _]) rfl rfl rfl rfl (by kernel_rfl) (by first | decide | exact Nat.le_of_ble_eq_true rfl | simp) (by first | decide | exact Nat.le_of_ble_eq_true rfl | simp) rfl) ⟨rfl, trivial⟩ ?_
        refine ck_nil ?_
        rcases List.eq_nil_or_concat td with hn | ⟨r2, x2, hn⟩
        · subst hn
          refine aw_text rfl ?_
          refine ch_v (R := []) rfl rfl (oc_move (x := .clo _ _) rfl rfl) trivial ?_
          refine ch_u rfl rfl (oc_callCloFC [] rfl rfl (by kernel_rfl) ((next_nil).m) rfl (by simp) (by simp [bornH]) (by simp) (by simp) (by simp [InNL, InN, inN_code, inNL_ins2, inNL_td]) (by simp [InHs, InH, InNL, InN, inN_code, inNL_ins2, inNL_td]) (by simp [InN, InNL, inN_code, inNL_ins2, inNL_td]) (by simp [InHs, InH, InNL, InN, inN_code, inNL_ins2, inNL_td])) ⟨rfl, rfl, trivial⟩ ?_
          refine ch_v (R := []) rfl rfl (oc_move (x := .tup _) rfl rfl) trivial ?_
          refine ch_v (R := []) rfl rfl (oc_extract rfl rfl rfl) trivial ?_
          refine ch_v (R := []) rfl rfl (oc_extract rfl rfl rfl) trivial ?_
          refine ch_n rfl rfl (oc_store_row (x := .agg _) (cs' := [_, _]) rfl rfl rfl rfl (by kernel_rfl) (by first | decide | exact Nat.le_of_ble_eq_true rfl | simp) (by first | decide | exact Nat.le_of_ble_eq_true rfl | simp) rfl) ⟨rfl, trivial⟩ ?_
          refine ch_v (R := []) rfl rfl (oc_assign (x := .val _) rfl rfl) trivial ?_
          refine ck_nil ?_
          exact ⟨(f0, o2, [], (0, 0), false), ⟨fun _ => ⟨by rw [j1, heights_nil], j2⟩, fun h => by cases h⟩, by show f0 < _; omega, Le.turn 3 7 [4, 5, 6, 7] (by simp) (by simp) (by decide) (by decide) ⟨tA_pure rfl (code_pure C), tA_pure rfl (by unfold Pure; exact pure_tab t), tA_non rfl (by simp [NoN]), tA_non rfl (by simp [NoN]), tA_non rfl (by simp [NoN]), tA_non rfl (by simp [NoN, NoNL]), tA_own, tA_non rfl (by simp [NoN]), trivial⟩ ⟨t1_stay (by decide) (by decide) (by decide) rfl (non_vi _), t1_stay (by decide) (by decide) (by decide) rfl (non_td _), t1_stay (by decide) (by decide) (by decide) rfl (by simp [NoN]), t1_new rfl (by simp [NoN]), t1_unb (by decide) (by decide), t1_unb (by decide) (by decide), t1_unb (by decide) (by decide), t1_unb (by decide) (by decide), trivial⟩⟩
        · rw [List.concat_eq_append] at hn
          subst hn
          refine aw_text rfl ?_
          refine ch_v (R := []) rfl rfl (oc_move (x := .clo _ _) rfl rfl) trivial ?_
          refine ch_u rfl rfl (oc_callCloFC [] rfl rfl (by kernel_rfl) ((next_cons r2 x2 (by have := j3; simp at this; omega)).m) rfl (by simp) (by simp [bornH]) (by simp) (by simp) (by simp [InNL, InN, inN_code, inNL_ins2, inNL_td]) (by simp [InHs, InH, InNL, InN, inN_code, inNL_ins2, inNL_td]) (by simp [InN, InNL, inN_code, inNL_ins2, inNL_td]) (by simp [InHs, InH, InNL, InN, inN_code, inNL_ins2, inNL_td])) ⟨rfl, rfl, trivial⟩ ?_
          refine ch_v (R := []) rfl rfl (oc_move (x := .tup _) rfl rfl) trivial ?_
          refine ch_v (R := []) rfl rfl (oc_extract rfl rfl rfl) trivial ?_
          refine ch_v (R := []) rfl rfl (oc_extract rfl rfl rfl) trivial ?_
          refine ch_n rfl rfl (oc_store_row (x := .agg _) (cs' := [_, _]) rfl rfl rfl rfl (by kernel_rfl) (by first | decide | exact Nat.le_of_ble_eq_true rfl | simp) (by first | decide | exact Nat.le_of_ble_eq_true rfl | simp) rfl) ⟨rfl, trivial⟩ ?_
          refine ch_v (R := []) rfl rfl (oc_assign (x := .val _) rfl rfl) trivial ?_
          refine ck_nil ?_
          exact ⟨(f0, o2, r2, x2, true), ⟨fun h => (by cases h), fun _ => ⟨j1, j2, by show 3 * unm o2 + (r2.length + 1) < f0; simp at j3; omega, j4, by show f0 ≤ _; omega⟩⟩, by show f0 < _; omega, Le.turn 3 7 [4, 5, 6, 7] (by simp) (by simp) (by decide) (by decide) ⟨tA_pure rfl (code_pure C), tA_pure rfl (by unfold Pure; exact pure_tab t), tA_non rfl (by simp [NoN]), tA_non rfl (by simp [NoN]), tA_non rfl (by simp [NoN]), tA_non rfl (by simp [NoN, NoNL]), tA_own, tA_non rfl (by simp [NoN]), trivial⟩ ⟨t1_stay (by decide) (by decide) (by decide) rfl (non_vi _), t1_stay (by decide) (by decide) (by decide) rfl (non_td _), t1_stay (by decide) (by decide) (by decide) rfl (by simp [NoN]), t1_new rfl (by simp [NoN]), t1_unb (by decide) (by decide), t1_unb (by decide) (by decide), t1_unb (by decide) (by decide), t1_unb (by decide) (by decide), trivial⟩⟩
    · have hmo : q.2.2.2.2 = false := hb
      refine aw_exit ?_
      refine aw_seq ?_
      obtain ⟨e1, e2⟩ := hI0 hmo
      refine aw_le (Le.freeze 7 0 (fun j => vi (q.2.1.getD j 0)) rfl rfl (by rw [List.length_map, e2]) (fun j hj => row_vi q.2.1 j (by omega))) ?_
      refine aw_text rfl ?_
      refine ch_v (R := []) rfl rfl (oc_move (x := .sl _ _ _) rfl rfl) trivial ?_
      refine ch_v (R := []) rfl rfl (oc_assign (x := .sl _ _ _) rfl rfl) trivial ?_
      refine ch_v (R := []) rfl rfl (oc_assign (x := .val _) rfl rfl) trivial ?_
      refine ck_nil ?_
      refine aw_ret ?_
      exact ⟨.inl rfl, by rw [pairL e1]; exact ResOk.two rfl (ResC.tmp (by show Av.sl 1 C.length _ = Av.sl 1 (List.length _) _; rw [e2])) (ResC.tmp rfl), trivial⟩
end Go.Proofs.Ytfipllnodgbghaa
