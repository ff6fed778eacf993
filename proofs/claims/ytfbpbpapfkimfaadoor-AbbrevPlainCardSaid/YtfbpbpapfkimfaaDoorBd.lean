/- Chapter 7: the best row, walked. -/
import Derived.Test.YtfbpbpapfkimfaaDoorBc
import Derived.Test.YtfbpbpapfkimfaaDoorProg
import Derived.KernelRfl
namespace Go.Proofs.YtfbpbpapfkimfaaDoor
open Go.RowKit
set_option maxRecDepth 100000
set_option linter.unusedVariables false
set_option linter.unusedSimpArgs false
set_option maxHeartbeats 800000 in
theorem ahead_pc (a b : RowP) (ha : a.1.size ≤ 100) (hb0 : b.1.size ≤ 100) : PC Tryd.prog 36 [rowAv a, rowAv b] (vb (aheadB a b)) := by
  refine FC.body 6 36 Tryd.func36 rfl (by kernel_rfl) ?_
  refine aw_seq ?_
  refine aw_text rfl ?_
  refine ch_v (R := []) rfl rfl (oc_box (x := .agg _) rfl rfl) trivial ?_
  refine ch_v (R := []) rfl rfl (oc_box (x := .agg _) rfl rfl) trivial ?_
  refine ch_v (R := []) rfl rfl (oc_assign (x := .val _) rfl rfl) trivial ?_
  refine ck_nil ?_
  refine aw_seq ?_
  refine aw_block ?_
  refine aw_seq ?_
  refine aw_text rfl ?_
  refine ch_v (R := []) rfl rfl (oc_fieldAddr (off := 1) rfl rfl rfl (by kernel_rfl) rfl) trivial ?_
  refine ch_v (R := []) rfl rfl (oc_load rfl rfl (by kernel_rfl) cells_int) trivial ?_
  refine ch_v (R := []) rfl rfl (oc_fieldAddr (off := 1) rfl rfl rfl (by kernel_rfl) rfl) trivial ?_
  refine ch_v (R := []) rfl rfl (oc_load rfl rfl (by kernel_rfl) cells_int) trivial ?_
  refine ch_v (R := []) rfl rfl (oc_binZ rfl rfl rfl rfl) trivial ?_
  refine ch_v (R := []) rfl rfl (oc_assign (x := .val _) rfl rfl) trivial ?_
  refine ck_nil ?_
  refine aw_cond rfl (fun hb => ?_) (fun hb => ?_)
  · have h1 : a.2 ≠ b.2 := by simpa using hb
    refine aw_seq ?_
    refine aw_text rfl ?_
    refine ch_v (R := []) rfl rfl (oc_fieldAddr (off := 1) rfl rfl rfl (by kernel_rfl) rfl) trivial ?_
    refine ch_v (R := []) rfl rfl (oc_load rfl rfl (by kernel_rfl) cells_int) trivial ?_
    refine ch_v (R := []) rfl rfl (oc_fieldAddr (off := 1) rfl rfl rfl (by kernel_rfl) rfl) trivial ?_
    refine ch_v (R := []) rfl rfl (oc_load rfl rfl (by kernel_rfl) cells_int) trivial ?_
    refine ch_v (R := []) rfl rfl (oc_binZ rfl rfl rfl rfl) trivial ?_
    refine ch_v (R := []) rfl rfl (oc_assign (x := .val _) rfl rfl) trivial ?_
    refine ck_nil ?_
    refine aw_ret ?_
    exact ⟨.inl rfl, ResOk.tmp rfl (vb_eq (by unfold aheadB; rw [if_pos h1])), trivial⟩
  · have h1 : a.2 = b.2 := by simpa using hb
    refine aw_seq ?_
    refine aw_text rfl ?_
    refine ch_v (R := []) rfl rfl (oc_fieldAddr (off := 0) rfl rfl rfl (by kernel_rfl) rfl) trivial ?_
    refine ch_v (R := []) rfl rfl (oc_load rfl rfl (by kernel_rfl) cells_str) trivial ?_
    refine ch_v (R := []) rfl rfl (oc_len_str rfl rfl (by kernel_rfl)) trivial ?_
    refine ch_v (R := []) rfl rfl (oc_fieldAddr (off := 0) rfl rfl rfl (by kernel_rfl) rfl) trivial ?_
    refine ch_v (R := []) rfl rfl (oc_load rfl rfl (by kernel_rfl) cells_str) trivial ?_
    refine ch_v (R := []) rfl rfl (oc_len_str rfl rfl (by kernel_rfl)) trivial ?_
    refine ch_v (R := []) rfl rfl (oc_binZ rfl rfl rfl rfl) trivial ?_
    refine ch_v (R := []) rfl rfl (oc_assign (x := .val _) rfl rfl) trivial ?_
    refine ck_nil ?_
    refine aw_cond rfl (fun hb => ?_) (fun hb => ?_)
    · have h2 : (a.1.size : Int) ≠ b.1.size := by simpa using hb
      refine aw_seq ?_
      refine aw_text rfl ?_
      refine ch_v (R := []) rfl rfl (oc_fieldAddr (off := 0) rfl rfl rfl (by kernel_rfl) rfl) trivial ?_
      refine ch_v (R := []) rfl rfl (oc_load rfl rfl (by kernel_rfl) cells_str) trivial ?_
      refine ch_v (R := []) rfl rfl (oc_len_str rfl rfl (by kernel_rfl)) trivial ?_
      refine ch_v (R := []) rfl rfl (oc_fieldAddr (off := 0) rfl rfl rfl (by kernel_rfl) rfl) trivial ?_
      refine ch_v (R := []) rfl rfl (oc_load rfl rfl (by kernel_rfl) cells_str) trivial ?_
      refine ch_v (R := []) rfl rfl (oc_len_str rfl rfl (by kernel_rfl)) trivial ?_
      refine ch_v (R := []) rfl rfl (oc_binZ rfl rfl rfl rfl) trivial ?_
      refine ch_v (R := []) rfl rfl (oc_assign (x := .val _) rfl rfl) trivial ?_
      refine ck_nil ?_
      refine aw_ret ?_
      exact ⟨.inl rfl, ResOk.tmp rfl (vb_eq (by unfold aheadB; rw [if_neg (by omega), if_pos h2])), trivial⟩
    · have h2 : (a.1.size : Int) = b.1.size := by simpa using hb
      refine aw_skip ?_
      refine aw_seq ?_
      refine aw_text rfl ?_
      refine ch_v (R := []) rfl rfl (oc_fieldAddr (off := 0) rfl rfl rfl (by kernel_rfl) rfl) trivial ?_
      refine ch_v (R := []) rfl rfl (oc_load rfl rfl (by kernel_rfl) cells_str) trivial ?_
      refine ch_v (R := []) rfl rfl (oc_fieldAddr (off := 0) rfl rfl rfl (by kernel_rfl) rfl) trivial ?_
      refine ch_v (R := []) rfl rfl (oc_load rfl rfl (by kernel_rfl) cells_str) trivial ?_
      refine ch_v (R := []) rfl rfl (oc_str_lt rfl rfl rfl) trivial ?_
      refine ch_v (R := []) rfl rfl (oc_assign (x := .val _) rfl rfl) trivial ?_
      refine ck_nil ?_
      refine aw_ret ?_
      exact ⟨.inl rfl, ResOk.tmp rfl (vb_eq (by unfold aheadB; rw [if_neg (by omega), if_neg (by omega)])), trivial⟩
theorem keys_empty {D : DataW Unit} (hk : KeysOk D) {left : Lit → Bool} {r : RowP} (h : BestOf D left r) : r.1 = ⟨#[]⟩ → r = (⟨#[]⟩, 0) ∧ ∀ s, Maps.has D (kS s) = true → left (kS s) = true := fun e => by
  rcases h with h | ⟨h1, _⟩
  · exact h
  · have := hk _ h1
    rw [e] at this
    exact absurd this.1 (by decide)
theorem best_size {D : DataW Unit} (hk : KeysOk D) {left : Lit → Bool} {r : RowP} (h : BestOf D left r) : r.1.size ≤ 8 := by
  rcases h with ⟨h, _⟩ | ⟨h1, _⟩
  · rw [h]; decide
  · exact (hk _ h1).2
theorem best_all {D : DataW Unit} {left : Lit → Bool} (hl : ∀ kl, left kl = false) {r : RowP} (h : BestOf D left r) : BestOf D (fun _ => false) r := by
  have : left = fun _ => false := funext hl
  rwa [← this]
theorem str_empty (s : ByteArray) : (s.toList == (⟨#[]⟩ : ByteArray).toList) = decide (s = ⟨#[]⟩) := by
  rw [toList_beq]
  by_cases e : s = ⟨#[]⟩
  · subst e; simp
  · have : ¬ tB s = tB ⟨#[]⟩ := fun h => e (tB_inj h)
    simp [e, this]
abbrev BSt := (Lit → Bool) × Nat × Option (Value × Value) × RowP
set_option maxHeartbeats 800000 in
theorem best_pc (l : List ByteArray) (hl : FewT l) : PC Tryd.prog 23 [slS l] (rowAv (bestR (cAll l l.length))) := by
  refine FC.body 4 38 Tryd.func23 rfl (by kernel_rfl) ?_
  obtain ⟨hm, hms, hmg⟩ := Sane.all hl l.length
  have hko := keys_all hl l.length
  have hll := hl.len
  refine aw_seq ?_
  refine aw_text rfl ?_
  refine ch_u rfl rfl (oc_alloc (zs := [.string ⟨#[]⟩, .int .i64 0]) (cs := [.val _, .val _]) 0 rfl (by kernel_rfl) rfl rfl) ⟨rfl, trivial⟩ ?_
  refine ck_nil ?_
  refine aw_seq ?_
  refine aw_text rfl ?_
  refine ch_v (R := []) rfl rfl (oc_assign (x := .clo _ _) rfl rfl) trivial ?_
  refine ck_nil ?_
  refine aw_seq ?_
  refine aw_text rfl ?_
  refine ch_u rfl rfl (oc_alloc (zs := [.string ⟨#[]⟩, .int .i64 0]) (cs := [.val _, .val _]) 1 rfl (by kernel_rfl) rfl rfl) ⟨rfl, trivial⟩ ?_
  refine ck_nil ?_
  refine aw_seq ?_
  refine aw_seq ?_
  refine aw_text rfl ?_
  refine ch_v (R := []) rfl rfl (oc_move (x := .sl _ _ _) rfl rfl) trivial ?_
  refine ch_v (R := []) rfl rfl (oc_call rfl (by kernel_rfl) (count_pc l hl) rfl (by simp only [PureL, Pure, and_self, pure_slI, pure_slS, rowAv, implies_true]) (by simp only [PureL, Pure, and_self, pure_slI, pure_slS, rowAv, implies_true])) trivial ?_
  refine ch_u rfl rfl (oc_range (k := 9) (e := 3) 2 (Go.Maps.string_keyed Tryd.underlying9) rfl rfl (by kernel_rfl)) ⟨rfl, trivial⟩ ?_
  refine ck_nil ?_
  refine aw_block ?_
  refine aw_loop (ι := BSt) (fun q => ⟨[(2, .own 0 0), (3, .clo 36 []), (4, .own 1 0), (11, .own 2 0)], [(0, .live 42 [vs ⟨#[]⟩, vi 0]), (1, .live 42 [vs q.2.2.2.1, vi q.2.2.2.2]), (2, .iter Tryd.prog 9 3 (cAll l l.length) q.1 q.2.1 q.2.2.1), (3, .unborn)]⟩) (fun q => BestOf (cAll l l.length) q.1 q.2.2.2) (fun q => q.2.1) (Maps.has (cAll l l.length), Maps.size (cAll l l.length), none, (⟨#[]⟩, 0)) (best_start _) (Le.sub (by repeat (first | trivial | refine ⟨.inr rfl, ?_⟩ | refine ⟨.inr (vi_eq (by omega)), ?_⟩)) (by repeat (first | trivial | refine ⟨rfl, ?_⟩))) ?_
  intro q hI
  refine aw_seq ?_
  refine aw_next (k := 9) (e := 3) (Go.Maps.string_keyed Tryd.underlying9) rfl rfl rfl (by kernel_rfl) rfl rfl (fun h0 hl => ?_) (fun key v kl y c' hk hlk hy hat hlt => ?_)
  · refine ch_v (R := []) rfl rfl (oc_extract rfl rfl rfl) trivial ?_
    refine ck_nil ?_
    refine aw_seq ?_
    refine aw_cond rfl (fun hb => ?_) (fun hb => ?_)
    · exact absurd hb (by simp)
    · refine aw_exit ?_
      refine aw_seq ?_
      refine aw_text rfl ?_
      refine ch_v (R := [(_, .live _ _)]) rfl rfl (oc_load_own_row (k := 2) (ds := [_, _]) rfl rfl (by kernel_rfl) (by kernel_rfl) rfl rfl (by decide)) ⟨rfl, trivial⟩ ?_
      refine ch_n rfl rfl (oc_store_row (x := .agg _) (cs' := [_, _]) rfl rfl rfl rfl (by kernel_rfl) (by first | decide | exact Nat.le_of_ble_eq_true rfl | simp) (by first | decide | exact Nat.le_of_ble_eq_true rfl | simp) rfl) ⟨rfl, trivial⟩ ?_
      refine ck_nil ?_
      refine aw_ret ?_
      exact ⟨.inl rfl, (by rw [bestR_eq (best_all hl hI)]; exact ResOk.cell rfl rfl rfl (by kernel_rfl) (by kernel_rfl) (Nat.le_of_ble_eq_true rfl)), trivial⟩
  · obtain ⟨sk, rfl, rfl, hsk⟩ := key_str_inv Tryd.underlying9 hk
    obtain ⟨cv, rfl, rfl, hcv⟩ := plainElem_int_inv (H := Unit) Tryd.underlying3 hy
    have hk1 : q.1 (kS sk) = true := hlk
    have hhas : Maps.has (cAll l l.length) (kS sk) = true := Go.Maps.has_true_of_atKey hat
    have hget : getM (cAll l l.length) sk = cv := by
      have h1 := hm.2 sk
      have h2 := hat (iv 0)
      have h3 : iv (getM (cAll l l.length) sk) = iv cv := h1.symm.trans h2
      unfold iv at h3
      injection h3 with h3
      injection h3 with _ h3
    have hz := hko sk hhas
    have hcs := cost_few hz.2
    have hgv := hmg sk
    rw [hget] at hgv
    have hmul := mul_few (a := costS sk - 2) (c := cv) (by omega) (by omega)
    have hrow : rowOf (cAll l l.length) sk = (sk, (costS sk - 2) * cv - costS sk) := by unfold rowOf; rw [hget]
    have hbs := best_size hko hI
    refine ch_v (R := []) rfl rfl (oc_extract rfl rfl rfl) trivial ?_
    refine ck_nil ?_
    refine aw_seq ?_
    refine aw_cond rfl (fun hb => ?_) (fun hb => ?_)
    · refine aw_skip ?_
      refine aw_block ?_
      refine aw_seq ?_
      refine aw_text rfl ?_
      refine ch_v (R := [(_, .iter _ _ _ _ _ _ _)]) rfl rfl (oc_entry rfl rfl) ⟨rfl, trivial⟩ ?_
      refine ch_v (R := []) rfl rfl (oc_extract rfl rfl rfl) trivial ?_
      refine ch_v (R := []) rfl rfl (oc_extract rfl rfl rfl) trivial ?_
      refine ch_v (R := []) rfl rfl (oc_assign (x := .val _) rfl rfl) trivial ?_
      refine ch_v (R := []) rfl rfl (oc_assign (x := .val _) rfl rfl) trivial ?_
      refine ck_nil ?_
      refine aw_seq ?_
      refine aw_text rfl ?_
      refine ch_v (R := []) rfl rfl (oc_move (x := .val _) rfl rfl) trivial ?_
      refine ch_v (R := []) rfl rfl (oc_call rfl (by kernel_rfl) (cost_pc sk (by omega)) rfl (by simp only [PureL, Pure, and_self, pure_slI, pure_slS, rowAv, implies_true]) (by simp only [PureL, Pure, and_self, pure_slI, pure_slS, rowAv, implies_true])) trivial ?_
      refine ch_v (R := []) rfl rfl (oc_assign (x := .val _) rfl rfl) trivial ?_
      refine ck_nil ?_
      refine aw_seq ?_
      refine aw_text rfl ?_
      refine ch_v (R := []) rfl rfl (oc_move (x := .val _) rfl rfl) trivial ?_
      refine ch_v (R := []) rfl rfl (oc_move (x := .val _) rfl rfl) trivial ?_
      refine ch_v (R := []) rfl rfl (oc_binZ rfl rfl rfl (by first | exact binW_sub (by omega) (by omega) | rfl)) trivial ?_
      refine ch_v (R := []) rfl rfl (oc_move (x := .val _) rfl rfl) trivial ?_
      refine ch_v (R := []) rfl rfl (oc_binZ rfl rfl rfl (by first | exact binW_mul (by omega) (by omega) | rfl)) trivial ?_
      refine ch_v (R := []) rfl rfl (oc_move (x := .val _) rfl rfl) trivial ?_
      refine ch_v (R := []) rfl rfl (oc_binZ rfl rfl rfl (by first | exact binW_sub (by omega) (by omega) | rfl)) trivial ?_
      refine ch_v (R := []) rfl rfl (oc_build (pl := [(0, 1), (1, 1)]) (zs := [.string ⟨#[]⟩, .int .i64 0]) (ds := [.val _, .val _]) rfl (by kernel_rfl) rfl (by kernel_rfl) (by first | rfl | decide) rfl) trivial ?_
      refine ch_u rfl rfl (oc_alloc (zs := [.string ⟨#[]⟩, .int .i64 0]) (cs := [.val _, .val _]) 3 rfl (by kernel_rfl) rfl rfl) ⟨rfl, trivial⟩ ?_
      refine ch_n rfl rfl (oc_store_row (x := .agg _) (cs' := [_, _]) rfl rfl rfl rfl (by kernel_rfl) (by first | decide | exact Nat.le_of_ble_eq_true rfl | simp) (by first | decide | exact Nat.le_of_ble_eq_true rfl | simp) rfl) ⟨rfl, trivial⟩ ?_
      refine ck_nil ?_
      refine aw_seq ?_
      refine aw_text rfl ?_
      refine ch_v (R := [(_, .live _ _)]) rfl rfl (oc_fieldAddr_own (off := 0) (sz := 1) (r := false) rfl rfl (by first | decide | simp) (by kernel_rfl) (by decide)) ⟨rfl, trivial⟩ ?_
      refine ch_v (R := [(_, .live _ _)]) rfl rfl (oc_load_own rfl rfl (by kernel_rfl) rfl) ⟨rfl, trivial⟩ ?_
      refine ch_v (R := []) rfl rfl (oc_str_eq rfl rfl rfl) trivial ?_
      refine ch_v (R := []) rfl rfl (oc_move (x := .val _) rfl rfl) trivial ?_
      refine ch_g (R := []) rfl rfl rfl gate_f (fun hC => oc_move (x := .clo _ _) rfl rfl) (fun hC => ⟨(by first | rfl | exact hC | (simp only [Bool.and_eq_true] at hC; first | exact hC.1 | exact hC.1.1 | exact hC.2) | simp_all), trivial⟩) trivial ?_
      refine ch_g (R := [(_, .live _ _)]) rfl rfl rfl gate_f (fun hC => oc_load_own_row (k := 2) (ds := [_, _]) rfl rfl (by kernel_rfl) (by kernel_rfl) rfl rfl (by decide)) (fun hC => ⟨(by first | rfl | exact hC | (simp only [Bool.and_eq_true] at hC; first | exact hC.1 | exact hC.1.1 | exact hC.2) | simp_all), trivial⟩) ⟨rfl, trivial⟩ ?_
      refine ch_g (R := [(_, .live _ _)]) rfl rfl rfl gate_f (fun hC => oc_load_own_row (k := 2) (ds := [_, _]) rfl rfl (by kernel_rfl) (by kernel_rfl) rfl rfl (by decide)) (fun hC => ⟨(by first | rfl | exact hC | (simp only [Bool.and_eq_true] at hC; first | exact hC.1 | exact hC.1.1 | exact hC.2) | simp_all), trivial⟩) ⟨rfl, trivial⟩ ?_
      refine ch_g (R := []) rfl rfl rfl gate_f (fun hC => oc_callClo rfl rfl (by kernel_rfl) (ahead_pc (sk, (costS sk - 2) * cv - costS sk) q.2.2.2 (by show sk.size ≤ 100; omega) (by omega)) rfl (by simp only [PureL, Pure, and_self, pure_slI, pure_slS, rowAv, implies_true]) (by simp only [PureL, Pure, and_self, pure_slI, pure_slS, rowAv, implies_true])) (fun hC => ⟨(by first | rfl | exact hC | (simp only [Bool.and_eq_true] at hC; first | exact hC.1 | exact hC.1.1 | exact hC.2) | simp_all), (by first | rfl | exact hC | (simp only [Bool.and_eq_true] at hC; first | exact hC.1 | exact hC.1.1 | exact hC.2) | simp_all), (by first | rfl | exact hC | (simp only [Bool.and_eq_true] at hC; first | exact hC.1 | exact hC.1.1 | exact hC.2) | simp_all), trivial⟩) trivial ?_
      refine ch_v (R := []) rfl rfl (oc_or rfl rfl rfl (by first | exact fun h => h | simp_all)) trivial ?_
      refine ck_nil ?_
      refine aw_cond rfl (fun hb => ?_) (fun hb => ?_)
      · have hta : (q.2.2.2.1 = ⟨#[]⟩) ∨ aheadB (rowOf (cAll l l.length) sk) q.2.2.2 = true := by rw [str_empty, Bool.or_eq_true, decide_eq_true_eq] at hb; rw [hrow]; exact hb
        refine aw_text rfl ?_
        refine ch_v (R := [(_, .live _ _)]) rfl rfl (oc_load_own_row (k := 2) (ds := [_, _]) rfl rfl (by kernel_rfl) (by kernel_rfl) rfl rfl (by decide)) ⟨rfl, trivial⟩ ?_
        refine ch_n rfl rfl (oc_store_row (x := .agg _) (cs' := [_, _]) rfl rfl rfl rfl (by kernel_rfl) (by first | decide | exact Nat.le_of_ble_eq_true rfl | simp) (by first | decide | exact Nat.le_of_ble_eq_true rfl | simp) rfl) ⟨rfl, trivial⟩ ?_
        refine ck_nil ?_
        exact ⟨(fun z => q.1 z && !z.sameKey (kS sk), c', some (.string sk, .int .i64 cv), (sk, (costS sk - 2) * cv - costS sk)), (by have h9 := best_take hI hhas (keys_empty hko hI) hta; rw [hrow] at h9; exact h9), hlt, Le.reset [3] (by simp) (by repeat (first | trivial | refine ⟨.inr rfl, ?_⟩)) ⟨by simp [NoN], by simp [NoN, NoNL], by simp [NoN], by simp [NoN], trivial⟩ ⟨by rw [if_neg (by decide)]; exact ⟨rfl, by simp [NoN]⟩, by rw [if_neg (by decide)]; exact ⟨rfl, by simp [NoN]⟩, by rw [if_neg (by decide)]; exact ⟨rfl, trivial⟩, by rw [if_pos (by decide)], trivial⟩⟩
      · have hne : q.2.2.2.1 ≠ ⟨#[]⟩ := by rw [str_empty, Bool.or_eq_false_iff, decide_eq_false_iff_not] at hb; exact hb.1
        have htf : aheadB (rowOf (cAll l l.length) sk) q.2.2.2 = false := by rw [str_empty, Bool.or_eq_false_iff] at hb; rw [hrow]; exact hb.2
        refine aw_skip ?_
        exact ⟨(fun z => q.1 z && !z.sameKey (kS sk), c', some (.string sk, .int .i64 cv), q.2.2.2), best_leave hI hk1 hne htf, hlt, Le.reset [3] (by simp) (by repeat (first | trivial | refine ⟨.inr rfl, ?_⟩)) ⟨by simp [NoN], by simp [NoN, NoNL], by simp [NoN], by simp [NoN], trivial⟩ ⟨by rw [if_neg (by decide)]; exact ⟨rfl, by simp [NoN]⟩, by rw [if_neg (by decide)]; exact ⟨rfl, by simp [NoN]⟩, by rw [if_neg (by decide)]; exact ⟨rfl, trivial⟩, by rw [if_pos (by decide)], trivial⟩⟩
    · exact absurd hb (by simp)
end Go.Proofs.YtfbpbpapfkimfaaDoor
