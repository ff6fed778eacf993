/- Chapter 7: the best row, walked. Chapter 7: the document's counts, what pieces cost, walked. Chapter 7: the document's Saves, Fits, Least, walked. strings.Split, by the library's contract. Chapter 7 as plain data: choosing abbreviations. No program is walked in this text. Chapter 7: Choose, walked. strings.HasPrefix, by the library's contract; what stands at a place. -/
import Derived.Test.YtpbaiighifhfnaaDoorBc
import Derived.Test.YtpbaiighifhfnaaDoorProg
import Derived.KernelRfl
import Derived.Test.YtpbaiighifhfnaaDoorShelf
namespace Go.Proofs.YtpbaiighifhfnaaDoor
open Go.RowKit
set_option maxRecDepth 100000
set_option linter.unusedVariables false
set_option linter.unusedSimpArgs false
set_option maxHeartbeats 800000 in
theorem ahead_pc (a b : RowP) (ha : a.1.size ≤ 100) (hb0 : b.1.size ≤ 100) : PC Tryd.prog 64 [rowAv a, rowAv b] (vb (aheadB a b)) := by
  refine FC.body 6 36 Tryd.func64 rfl (by kernel_rfl) ?_
  refine aw_seq ?_
  refine aw_text rfl ?_
  refine ch_v (R := []) rfl rfl (oc_box (x := .agg _) rfl rfl) trivial ?_
  refine ch_v (R := []) rfl rfl (oc_box (x := .agg _) rfl rfl) trivial ?_
  refine ch_v (R := []) rfl rfl (oc_assign (x := .val _) rfl rfl) trivial ?_
  refine ck_nil ?_
  refine aw_seq ?_
  refine aw_block ?_
  refine aw_seq ?_
  refine aw_text rfl ?_
  refine ch_v (R := []) rfl rfl (oc_fieldAddr (off := 1) rfl rfl rfl (by kernel_rfl) rfl) trivial ?_
  refine ch_v (R := []) rfl rfl (oc_load rfl rfl (by kernel_rfl) cells_int) trivial ?_
  refine ch_v (R := []) rfl rfl (oc_fieldAddr (off := 1) rfl rfl rfl (by kernel_rfl) rfl) trivial ?_
  refine ch_v (R := []) rfl rfl (oc_load rfl rfl (by kernel_rfl) cells_int) trivial ?_
  refine ch_v (R := []) rfl rfl (oc_binZ rfl rfl rfl rfl) trivial ?_
  refine ch_v (R := []) rfl rfl (oc_assign (x := .val _) rfl rfl) trivial ?_
  refine ck_nil ?_
  refine aw_cond rfl (fun hb => ?_) (fun hb => ?_)
  · have h1 : a.2 ≠ b.2 := by simpa using hb
    refine aw_seq ?_
    refine aw_text rfl ?_
    refine ch_v (R := []) rfl rfl (oc_fieldAddr (off := 1) rfl rfl rfl (by kernel_rfl) rfl) trivial ?_
    refine ch_v (R := []) rfl rfl (oc_load rfl rfl (by kernel_rfl) cells_int) trivial ?_
    refine ch_v (R := []) rfl rfl (oc_fieldAddr (off := 1) rfl rfl rfl (by kernel_rfl) rfl) trivial ?_
    refine ch_v (R := []) rfl rfl (oc_load rfl rfl (by kernel_rfl) cells_int) trivial ?_
    refine ch_v (R := []) rfl rfl (oc_binZ rfl rfl rfl rfl) trivial ?_
    refine ch_v (R := []) rfl rfl (oc_assign (x := .val _) rfl rfl) trivial ?_
    refine ck_nil ?_
    refine aw_ret ?_
    exact ⟨.inl rfl, ResOk.tmp rfl (vb_eq (by unfold aheadB; rw [if_pos h1])), trivial⟩
  · have h1 : a.2 = b.2 := by simpa using hb
    refine aw_seq ?_
    refine aw_text rfl ?_
    refine ch_v (R := []) rfl rfl (oc_fieldAddr (off := 0) rfl rfl rfl (by kernel_rfl) rfl) trivial ?_
    refine ch_v (R := []) rfl rfl (oc_load rfl rfl (by kernel_rfl) cells_str) trivial ?_
    refine ch_v (R := []) rfl rfl (oc_len_str rfl rfl (by kernel_rfl)) trivial ?_
    refine ch_v (R := []) rfl rfl (oc_fieldAddr (off := 0) rfl rfl rfl (by kernel_rfl) rfl) trivial ?_
    refine ch_v (R := []) rfl rfl (oc_load rfl rfl (by kernel_rfl) cells_str) trivial ?_
    refine ch_v (R := []) rfl rfl (oc_len_str rfl rfl (by kernel_rfl)) trivial ?_
    refine ch_v (R := []) rfl rfl (oc_binZ rfl rfl rfl rfl) trivial ?_
    refine ch_v (R := []) rfl rfl (oc_assign (x := .val _) rfl rfl) trivial ?_
    refine ck_nil ?_
    refine aw_cond rfl (fun hb => ?_) (fun hb => ?_)
    · have h2 : (a.1.size : Int) ≠ b.1.size := by simpa using hb
      refine aw_seq ?_
      refine aw_text rfl ?_
      refine ch_v (R := []) rfl rfl (oc_fieldAddr (off := 0) rfl rfl rfl (by kernel_rfl) rfl) trivial ?_
      refine ch_v (R := []) rfl rfl (oc_load rfl rfl (by kernel_rfl) cells_str) trivial ?_
      refine ch_v (R := []) rfl rfl (oc_len_str rfl rfl (by kernel_rfl)) trivial ?_
      refine ch_v (R := []) rfl rfl (oc_fieldAddr (off := 0) rfl rfl rfl (by kernel_rfl) rfl) trivial ?_
      refine ch_v (R := []) rfl rfl (oc_load rfl rfl (by kernel_rfl) cells_str) trivial ?_
      refine ch_v (R := []) rfl rfl (oc_len_str rfl rfl (by kernel_rfl)) trivial ?_
      refine ch_v (R := []) rfl rfl (oc_binZ rfl rfl rfl rfl) trivial ?_
      refine ch_v (R := []) rfl rfl (oc_assign (x := .val _) rfl rfl) trivial ?_
      refine ck_nil ?_
      refine aw_ret ?_
      exact ⟨.inl rfl, ResOk.tmp rfl (vb_eq (by unfold aheadB; rw [if_neg (by omega), if_pos h2])), trivial⟩
    · have h2 : (a.1.size : Int) = b.1.size := by simpa using hb
      refine aw_skip ?_
      refine aw_seq ?_
      refine aw_text rfl ?_
      refine ch_v (R := []) rfl rfl (oc_fieldAddr (off := 0) rfl rfl rfl (by kernel_rfl) rfl) trivial ?_
      refine ch_v (R := []) rfl rfl (oc_load rfl rfl (by kernel_rfl) cells_str) trivial ?_
      refine ch_v (R := []) rfl rfl (oc_fieldAddr (off := 0) rfl rfl rfl (by kernel_rfl) rfl) trivial ?_
      refine ch_v (R := []) rfl rfl (oc_load rfl rfl (by kernel_rfl) cells_str) trivial ?_
      refine ch_v (R := []) rfl rfl (oc_str_lt rfl rfl rfl) trivial ?_
      refine ch_v (R := []) rfl rfl (oc_assign (x := .val _) rfl rfl) trivial ?_
      refine ck_nil ?_
      refine aw_ret ?_
      exact ⟨.inl rfl, ResOk.tmp rfl (vb_eq (by unfold aheadB; rw [if_neg (by omega), if_neg (by omega)])), trivial⟩
theorem keys_empty {D : DataW Unit} (hk : KeysOk D) {left : Lit → Bool} {r : RowP} (h : BestOf D left r) : r.1 = ⟨#[]⟩ → r = (⟨#[]⟩, 0) ∧ ∀ s, Maps.has D (kS s) = true → left (kS s) = true := fun e => by
  rcases h with h | ⟨h1, _⟩
  · exact h
  · have := hk _ h1
    rw [e] at this
    exact absurd this.1 (by decide)
theorem best_size {D : DataW Unit} (hk : KeysOk D) {left : Lit → Bool} {r : RowP} (h : BestOf D left r) : r.1.size ≤ 8 := by
  rcases h with ⟨h, _⟩ | ⟨h1, _⟩
  · rw [h]; decide
  · exact (hk _ h1).2
theorem best_all {D : DataW Unit} {left : Lit → Bool} (hl : ∀ kl, left kl = false) {r : RowP} (h : BestOf D left r) : BestOf D (fun _ => false) r := by
  have : left = fun _ => false := funext hl
  rwa [← this]
theorem str_empty (s : ByteArray) : (s.toList == (⟨#[]⟩ : ByteArray).toList) = decide (s = ⟨#[]⟩) := by
  rw [toList_beq]
  by_cases e : s = ⟨#[]⟩
  · subst e; simp
  · have : ¬ tB s = tB ⟨#[]⟩ := fun h => e (tB_inj h)
    simp [e, this]
abbrev BSt := (Lit → Bool) × Nat × Option (Value × Value) × RowP
set_option maxHeartbeats 800000 in
theorem best_pc (l : List ByteArray) (hl : FewT l) : PC Tryd.prog 40 [slS l] (rowAv (bestR (cAll l l.length))) := by
  refine FC.body 4 38 Tryd.func40 rfl (by kernel_rfl) ?_
  obtain ⟨hm, hms, hmg⟩ := Sane.all hl l.length
  have hko := keys_all hl l.length
  have hll := hl.len
  refine aw_seq ?_
  refine aw_text rfl ?_
  refine ch_u rfl rfl (oc_alloc (zs := [.string ⟨#[]⟩, .int .i64 0]) (cs := [.val _, .val _]) 0 rfl (by kernel_rfl) rfl rfl) ⟨rfl, trivial⟩ ?_
  refine ck_nil ?_
  refine aw_seq ?_
  refine aw_text rfl ?_
  refine ch_v (R := []) rfl rfl (oc_assign (x := .clo _ _) rfl rfl) trivial ?_
  refine ck_nil ?_
  refine aw_seq ?_
  refine aw_text rfl ?_
  refine ch_u rfl rfl (oc_alloc (zs := [.string ⟨#[]⟩, .int .i64 0]) (cs := [.val _, .val _]) 1 rfl (by kernel_rfl) rfl rfl) ⟨rfl, trivial⟩ ?_
  refine ck_nil ?_
  refine aw_seq ?_
  refine aw_seq ?_
  refine aw_text rfl ?_
  refine ch_v (R := []) rfl rfl (oc_move (x := .sl _ _ _) rfl rfl) trivial ?_
  refine ch_v (R := []) rfl rfl (oc_call rfl (by kernel_rfl) (count_pc l hl) rfl (by simp only [PureL, Pure, and_self, pure_slI, pure_slS, rowAv, implies_true]) (by simp only [PureL, Pure, and_self, pure_slI, pure_slS, rowAv, implies_true])) trivial ?_
  refine ch_u rfl rfl (oc_range (k := 9) (e := 3) 2 (Go.Maps.string_keyed Tryd.underlying9) rfl rfl (by kernel_rfl)) ⟨rfl, trivial⟩ ?_
  refine ck_nil ?_
  refine aw_block ?_
  refine aw_loop (ι := BSt) (fun q => ⟨[(2, .own 0 0), (3, .clo 64 []), (4, .own 1 0), (11, .own 2 0)], [(0, .live 63 [vs ⟨#[]⟩, vi 0]), (1, .live 63 [vs q.2.2.2.1, vi q.2.2.2.2]), (2, .iter Tryd.prog 9 3 (cAll l l.length) q.1 q.2.1 q.2.2.1), (3, .unborn)]⟩) (fun q => BestOf (cAll l l.length) q.1 q.2.2.2) (fun q => q.2.1) (Maps.has (cAll l l.length), Maps.size (cAll l l.length), none, (⟨#[]⟩, 0)) (best_start _) (Le.sub (by repeat (first | trivial | refine ⟨.inr rfl, ?_⟩ | refine ⟨.inr (vi_eq (by omega)), ?_⟩)) (by repeat (first | trivial | refine ⟨rfl, ?_⟩))) ?_
  intro q hI
  refine aw_seq ?_
  refine aw_next (k := 9) (e := 3) (Go.Maps.string_keyed Tryd.underlying9) rfl rfl rfl (by kernel_rfl) rfl rfl (fun h0 hl => ?_) (fun key v kl y c' hk hlk hy hat hlt => ?_)
  · refine ch_v (R := []) rfl rfl (oc_extract rfl rfl rfl) trivial ?_
    refine ck_nil ?_
    refine aw_seq ?_
    refine aw_cond rfl (fun hb => ?_) (fun hb => ?_)
    · exact absurd hb (by simp)
    · refine aw_exit ?_
      refine aw_seq ?_
      refine aw_text rfl ?_
      refine ch_v (R := [(_, .live _ _)]) rfl rfl (oc_load_own_row (k := 2) (ds := [_, _]) rfl rfl (by kernel_rfl) (by kernel_rfl) rfl rfl (by decide)) ⟨rfl, trivial⟩ ?_
      refine ch_n rfl rfl (oc_store_row (x := .agg _) (cs' := [_, _]) rfl rfl rfl rfl (by kernel_rfl) (by first | decide | exact Nat.le_of_ble_eq_true rfl | simp) (by first | decide | exact Nat.le_of_ble_eq_true rfl | simp) rfl) ⟨rfl, trivial⟩ ?_
      refine ck_nil ?_
      refine aw_ret ?_
      exact ⟨.inl rfl, (by rw [bestR_eq (best_all hl hI)]; exact ResOk.cell rfl rfl rfl (by kernel_rfl) (by kernel_rfl) (Nat.le_of_ble_eq_true rfl)), trivial⟩
  · obtain ⟨sk, rfl, rfl, hsk⟩ := key_str_inv Tryd.underlying9 hk
    obtain ⟨cv, rfl, rfl, hcv⟩ := plainElem_int_inv (H := Unit) Tryd.underlying3 hy
    have hk1 : q.1 (kS sk) = true := hlk
    have hhas : Maps.has (cAll l l.length) (kS sk) = true := Go.Maps.has_true_of_atKey hat
    have hget : getM (cAll l l.length) sk = cv := by
      have h1 := hm.2 sk
      have h2 := hat (iv 0)
      have h3 : iv (getM (cAll l l.length) sk) = iv cv := h1.symm.trans h2
      unfold iv at h3
      injection h3 with h3
      injection h3 with _ h3
    have hz := hko sk hhas
    have hcs := cost_few hz.2
    have hgv := hmg sk
    rw [hget] at hgv
    have hmul := mul_few (a := costS sk - 2) (c := cv) (by omega) (by omega)
    have hrow : rowOf (cAll l l.length) sk = (sk, (costS sk - 2) * cv - costS sk) := by unfold rowOf; rw [hget]
    have hbs := best_size hko hI
    refine ch_v (R := []) rfl rfl (oc_extract rfl rfl rfl) trivial ?_
    refine ck_nil ?_
    refine aw_seq ?_
    refine aw_cond rfl (fun hb => ?_) (fun hb => ?_)
    · refine aw_skip ?_
      refine aw_block ?_
      refine aw_seq ?_
      refine aw_text rfl ?_
      refine ch_v (R := [(_, .iter _ _ _ _ _ _ _)]) rfl rfl (oc_entry rfl rfl) ⟨rfl, trivial⟩ ?_
      refine ch_v (R := []) rfl rfl (oc_extract rfl rfl rfl) trivial ?_
      refine ch_v (R := []) rfl rfl (oc_extract rfl rfl rfl) trivial ?_
      refine ch_v (R := []) rfl rfl (oc_assign (x := .val _) rfl rfl) trivial ?_
      refine ch_v (R := []) rfl rfl (oc_assign (x := .val _) rfl rfl) trivial ?_
      refine ck_nil ?_
      refine aw_seq ?_
      refine aw_text rfl ?_
      refine ch_v (R := []) rfl rfl (oc_move (x := .val _) rfl rfl) trivial ?_
      refine ch_v (R := []) rfl rfl (oc_call rfl (by kernel_rfl) (cost_pc sk (by omega)) rfl (by simp only [PureL, Pure, and_self, pure_slI, pure_slS, rowAv, implies_true]) (by simp only [PureL, Pure, and_self, pure_slI, pure_slS, rowAv, implies_true])) trivial ?_
      refine ch_v (R := []) rfl rfl (oc_assign (x := .val _) rfl rfl) trivial ?_
      refine ck_nil ?_
      refine aw_seq ?_
      refine aw_text rfl ?_
      refine ch_v (R := []) rfl rfl (oc_move (x := .val _) rfl rfl) trivial ?_
      refine ch_v (R := []) rfl rfl (oc_move (x := .val _) rfl rfl) trivial ?_
      refine ch_v (R := []) rfl rfl (oc_binZ rfl rfl rfl (by first | exact binW_sub (by omega) (by omega) | rfl)) trivial ?_
      refine ch_v (R := []) rfl rfl (oc_move (x := .val _) rfl rfl) trivial ?_
      refine ch_v (R := []) rfl rfl (oc_binZ rfl rfl rfl (by first | exact binW_mul (by omega) (by omega) | rfl)) trivial ?_
      refine ch_v (R := []) rfl rfl (oc_move (x := .val _) rfl rfl) trivial ?_
      refine ch_v (R := []) rfl rfl (oc_binZ rfl rfl rfl (by first | exact binW_sub (by omega) (by omega) | rfl)) trivial ?_
      refine ch_v (R := []) rfl rfl (oc_build (pl := [(0, 1), (1, 1)]) (zs := [.string ⟨#[]⟩, .int .i64 0]) (ds := [.val _, .val _]) rfl (by kernel_rfl) rfl (by kernel_rfl) (by first | rfl | decide) rfl) trivial ?_
      refine ch_u rfl rfl (oc_alloc (zs := [.string ⟨#[]⟩, .int .i64 0]) (cs := [.val _, .val _]) 3 rfl (by kernel_rfl) rfl rfl) ⟨rfl, trivial⟩ ?_
      refine ch_n rfl rfl (oc_store_row (x := .agg _) (cs' := [_, _]) rfl rfl rfl rfl (by kernel_rfl) (by first | decide | exact Nat.le_of_ble_eq_true rfl | simp) (by first | decide | exact Nat.le_of_ble_eq_true rfl | simp) rfl) ⟨rfl, trivial⟩ ?_
      refine ck_nil ?_
      refine aw_seq ?_
      refine aw_text rfl ?_
      refine ch_v (R := [(_, .live _ _)]) rfl rfl (oc_fieldAddr_own (off := 0) (sz := 1) (r := false) rfl rfl (by first | decide | simp) (by kernel_rfl) (by decide)) ⟨rfl, trivial⟩ ?_
      refine ch_v (R := [(_, .live _ _)]) rfl rfl (oc_load_own rfl rfl (by kernel_rfl) rfl) ⟨rfl, trivial⟩ ?_
      refine ch_v (R := []) rfl rfl (oc_str_eq rfl rfl rfl) trivial ?_
      refine ch_v (R := []) rfl rfl (oc_move (x := .val _) rfl rfl) trivial ?_
      refine ch_g (R := []) rfl rfl rfl gate_f (fun hC => oc_move (x := .clo _ _) rfl rfl) (fun hC => ⟨(by first | rfl | exact hC | (simp only [Bool.and_eq_true] at hC; first | exact hC.1 | exact hC.1.1 | exact hC.2) | simp_all), trivial⟩) trivial ?_
      refine ch_g (R := [(_, .live _ _)]) rfl rfl rfl gate_f (fun hC => oc_load_own_row (k := 2) (ds := [_, _]) rfl rfl (by kernel_rfl) (by kernel_rfl) rfl rfl (by decide)) (fun hC => ⟨(by first | rfl | exact hC | (simp only [Bool.and_eq_true] at hC; first | exact hC.1 | exact hC.1.1 | exact hC.2) | simp_all), trivial⟩) ⟨rfl, trivial⟩ ?_
      refine ch_g (R := [(_, .live _ _)]) rfl rfl rfl gate_f (fun hC => oc_load_own_row (k := 2) (ds := [_, _]) rfl rfl (by kernel_rfl) (by kernel_rfl) rfl rfl (by decide)) (fun hC => ⟨(by first | rfl | exact hC | (simp only [Bool.and_eq_true] at hC; first | exact hC.1 | exact hC.1.1 | exact hC.2) | simp_all), trivial⟩) ⟨rfl, trivial⟩ ?_
      refine ch_g (R := []) rfl rfl rfl gate_f (fun hC => oc_callClo rfl rfl (by kernel_rfl) (ahead_pc (sk, (costS sk - 2) * cv - costS sk) q.2.2.2 (by show sk.size ≤ 100; omega) (by omega)) rfl (by simp only [PureL, Pure, and_self, pure_slI, pure_slS, rowAv, implies_true]) (by simp only [PureL, Pure, and_self, pure_slI, pure_slS, rowAv, implies_true])) (fun hC => ⟨(by first | rfl | exact hC | (simp only [Bool.and_eq_true] at hC; first | exact hC.1 | exact hC.1.1 | exact hC.2) | simp_all), (by first | rfl | exact hC | (simp only [Bool.and_eq_true] at hC; first | exact hC.1 | exact hC.1.1 | exact hC.2) | simp_all), (by first | rfl | exact hC | (simp only [Bool.and_eq_true] at hC; first | exact hC.1 | exact hC.1.1 | exact hC.2) | simp_all), trivial⟩) trivial ?_
      refine ch_v (R := []) rfl rfl (oc_or rfl rfl rfl (by first | exact fun h => h | simp_all)) trivial ?_
      refine ck_nil ?_
      refine aw_cond rfl (fun hb => ?_) (fun hb => ?_)
      · have hta : (q.2.2.2.1 = ⟨#[]⟩) ∨ aheadB (rowOf (cAll l l.length) sk) q.2.2.2 = true := by rw [str_empty, Bool.or_eq_true, decide_eq_true_eq] at hb; rw [hrow]; exact hb
        refine aw_text rfl ?_
        refine ch_v (R := [(_, .live _ _)]) rfl rfl (oc_load_own_row (k := 2) (ds := [_, _]) rfl rfl (by kernel_rfl) (by kernel_rfl) rfl rfl (by decide)) ⟨rfl, trivial⟩ ?_
        refine ch_n rfl rfl (oc_store_row (x := .agg _) (cs' := [_, _]) rfl rfl rfl rfl (by kernel_rfl) (by first | decide | exact Nat.le_of_ble_eq_true rfl | simp) (by first | decide | exact Nat.le_of_ble_eq_true rfl | simp) rfl) ⟨rfl, trivial⟩ ?_
        refine ck_nil ?_
        exact ⟨(fun z => q.1 z && !z.sameKey (kS sk), c', some (.string sk, .int .i64 cv), (sk, (costS sk - 2) * cv - costS sk)), (by have h9 := best_take hI hhas (keys_empty hko hI) hta; rw [hrow] at h9; exact h9), hlt, Le.reset [3] (by simp) (by repeat (first | trivial | refine ⟨.inr rfl, ?_⟩)) ⟨by simp [NoN], by simp [NoN, NoNL], by simp [NoN], by simp [NoN], trivial⟩ ⟨by rw [if_neg (by decide)]; exact ⟨rfl, by simp [NoN]⟩, by rw [if_neg (by decide)]; exact ⟨rfl, by simp [NoN]⟩, by rw [if_neg (by decide)]; exact ⟨rfl, trivial⟩, by rw [if_pos (by decide)], trivial⟩⟩
      · have hne : q.2.2.2.1 ≠ ⟨#[]⟩ := by rw [str_empty, Bool.or_eq_false_iff, decide_eq_false_iff_not] at hb; exact hb.1
        have htf : aheadB (rowOf (cAll l l.length) sk) q.2.2.2 = false := by rw [str_empty, Bool.or_eq_false_iff] at hb; rw [hrow]; exact hb.2
        refine aw_skip ?_
        exact ⟨(fun z => q.1 z && !z.sameKey (kS sk), c', some (.string sk, .int .i64 cv), q.2.2.2), best_leave hI hk1 hne htf, hlt, Le.reset [3] (by simp) (by repeat (first | trivial | refine ⟨.inr rfl, ?_⟩)) ⟨by simp [NoN], by simp [NoN, NoNL], by simp [NoN], by simp [NoN], trivial⟩ ⟨by rw [if_neg (by decide)]; exact ⟨rfl, by simp [NoN]⟩, by rw [if_neg (by decide)]; exact ⟨rfl, by simp [NoN]⟩, by rw [if_neg (by decide)]; exact ⟨rfl, trivial⟩, by rw [if_pos (by decide)], trivial⟩⟩
    · exact absurd hb (by simp)
end Go.Proofs.YtpbaiighifhfnaaDoor
namespace Go.Proofs.YtpbaiighifhfnaaDoor
open Go.RowKit
set_option maxRecDepth 100000
set_option linter.unusedVariables false
set_option linter.unusedSimpArgs false
theorem str_eq (s t : ByteArray) : (s.toList == t.toList) = decide (s = t) := by
  rw [toList_beq]
  by_cases e : s = t
  · subst e; simp
  · have : ¬ tB s = tB t := fun h => e (tB_inj h)
    simp [e, this]
/-- How often a row stands in a part from a place on, not over itself. -/
def cntF (p r : ByteArray) : Nat → Nat → Int → Int
  | 0, _, n => n
  | f + 1, i, n => if i + r.size ≤ p.size then (if p.extract i (i + r.size) = r then cntF p r f (i + r.size) (n + 1) else cntF p r f (i + 1) n) else n
theorem cntF_bd (p r : ByteArray) : ∀ (f i : Nat) (n : Int), n ≤ cntF p r f i n ∧ cntF p r f i n ≤ n + f
  | 0, i, n => by simp [cntF]
  | f + 1, i, n => by
    unfold cntF
    split
    · split
      · have := cntF_bd p r f (i + r.size) (n + 1); omega
      · have := cntF_bd p r f (i + 1) n; omega
    · omega
theorem cntF_over {p r : ByteArray} {f i : Nat} {n : Int} (h : ¬ i + r.size ≤ p.size) : cntF p r f i n = n := by
  cases f with
  | zero => rfl
  | succ f => unfold cntF; rw [if_neg h]
theorem cntF_more {p r : ByteArray} (hr : 0 < r.size) : ∀ {f f' i : Nat} {n : Int}, p.size < f + i → p.size < f' + i → cntF p r f i n = cntF p r f' i n
  | 0, f', i, n, h, h' => by rw [cntF_over (by omega), cntF_over (by omega)]
  | f + 1, 0, i, n, h, h' => by rw [cntF_over (by omega), cntF_over (by omega)]
  | f + 1, f' + 1, i, n, h, h' => by
    unfold cntF
    split
    · split
      · exact cntF_more hr (by omega) (by omega)
      · exact cntF_more hr (by omega) (by omega)
    · rfl
def cntA (l : List ByteArray) (r : ByteArray) : Nat → Int
  | 0 => 0
  | k + 1 => cntF (l.getD k ⟨#[]⟩) r ((l.getD k ⟨#[]⟩).size + 1) 0 (cntA l r k)
theorem cntA_bd {l : List ByteArray} (h : FewT l) (r : ByteArray) : ∀ k, 0 ≤ cntA l r k ∧ cntA l r k ≤ 10001 * k
  | 0 => by simp [cntA]
  | k + 1 => by
    have h1 := cntA_bd h r k
    have h2 := h.size k
    have h3 := cntF_bd (l.getD k ⟨#[]⟩) r ((l.getD k ⟨#[]⟩).size + 1) 0 (cntA l r k)
    unfold cntA
    omega
/-! ### Pieces -/
abbrev PieceP := ByteArray × Int
def dPiece : PieceP := (⟨#[]⟩, 0)
def pieceAv (p : PieceP) : Av := .agg [vs p.1, vi p.2]
def piecesAv (l : List PieceP) : Av := .sl 2 l.length fun j => pieceAv (l.getD j dPiece)
theorem pieces_pure (l : List PieceP) : Pure (piecesAv l) := by unfold piecesAv Pure; intro j; simp [pieceAv, Pure, PureL]
def pcost (p : PieceP) : Int := if p.2 > 0 then 2 else costS p.1
def costP (l : List PieceP) : Nat → Int
  | 0 => 0
  | k + 1 => costP l k + pcost (l.getD k dPiece)
structure FewP (l : List PieceP) : Prop where
  len : l.length ≤ 1000000
  size : ∀ k, (l.getD k dPiece).1.size ≤ 1000000
theorem pcost_bd {p : PieceP} (h : p.1.size ≤ 1000000) : 0 ≤ pcost p ∧ pcost p ≤ 3000000 := by
  unfold pcost
  split
  · omega
  · have := cst_bd p.1 p.1.size
    unfold costS
    omega
theorem costP_bd {l : List PieceP} (h : FewP l) : ∀ k, 0 ≤ costP l k ∧ costP l k ≤ 3000000 * k
  | 0 => by simp [costP]
  | k + 1 => by
    have h1 := costP_bd h k
    have h2 := pcost_bd (h.size k)
    unfold costP
    omega
theorem costP_succ (l : List PieceP) (k : Nat) : costP l (k + 1) = costP l k + pcost (l.getD k dPiece) := rfl
set_option maxHeartbeats 800000 in
theorem rcount_pc (l : List ByteArray) (hl : FewT l) (r : ByteArray) (hr : 0 < r.size) (hr2 : r.size ≤ 10000) : PC Tryd.prog 78 [slS l, vs r] (vi (cntA l r l.length)) := by
  refine FC.body 6 41 Tryd.func78 rfl (by kernel_rfl) ?_
  refine aw_seq ?_
  refine aw_text rfl ?_
  refine ch_v (R := []) rfl rfl (oc_assign (x := .val _) rfl rfl) trivial ?_
  refine ck_nil ?_
  refine aw_seq ?_
  refine aw_text rfl ?_
  refine ch_v (R := []) rfl rfl (oc_assign (x := .val _) rfl rfl) trivial ?_
  refine ck_nil ?_
  refine aw_seq ?_
  refine aw_seq ?_
  refine aw_text rfl ?_
  refine ch_v (R := []) rfl rfl (oc_move (x := .sl _ _ _) rfl rfl) trivial ?_
  refine ch_v (R := []) rfl rfl (oc_len rfl rfl (by kernel_rfl)) trivial ?_
  refine ch_v (R := []) rfl rfl (oc_move (x := .val _) rfl rfl) trivial ?_
  refine ck_nil ?_
  refine aw_block ?_
  refine aw_loop (ι := Nat) (fun k => ⟨[(1, vs r), (5, vi (cntA l r k)), (9, slS l), (10, vi l.length), (11, vi k)], []⟩) (fun k => k ≤ l.length) (fun k => l.length - k) 0 (Nat.zero_le _) (Le.sub (by repeat (first | trivial | refine ⟨.inr rfl, ?_⟩ | refine ⟨.inr (vi_eq (by omega)), ?_⟩)) (by repeat (first | trivial | refine ⟨rfl, ?_⟩))) ?_
  intro k hI
  refine aw_seq ?_
  refine aw_text rfl ?_
  refine ch_v (R := []) rfl rfl (oc_binZ rfl rfl rfl rfl) trivial ?_
  refine ck_nil ?_
  refine aw_seq ?_
  refine aw_cond rfl (fun hb => ?_) (fun hb => ?_)
  · have hlt : k < l.length := by have h0 := of_decide_eq_true hb; omega
    have hps := hl.size k
    have hll := hl.len
    have hca := cntA_bd hl r k
    refine aw_skip ?_
    refine aw_seq ?_
    refine aw_block ?_
    refine aw_seq ?_
    refine aw_text rfl ?_
    refine ch_v (R := []) rfl rfl ((by first | exact oc_indexN rfl rfl rfl (by kernel_rfl) (by omega) | exact oc_index rfl rfl rfl (by kernel_rfl) (by omega) (by omega) rfl)) trivial ?_
    refine ch_v (R := []) rfl rfl (oc_load rfl rfl (by kernel_rfl) cells_str) trivial ?_
    refine ch_v (R := []) rfl rfl (oc_assign (x := .val _) rfl rfl) trivial ?_
    refine ck_nil ?_
    refine aw_seq ?_
    refine aw_text rfl ?_
    refine ch_v (R := []) rfl rfl (oc_assign (x := .val _) rfl rfl) trivial ?_
    refine ck_nil ?_
    refine aw_block ?_
    refine aw_loop (ι := Nat × Int) (fun q => ⟨[(1, vs r), (5, vi q.2), (9, slS l), (10, vi l.length), (11, vi k), (7, vs (l.getD k ⟨#[]⟩)), (8, vi q.1)], []⟩) (fun q => q.1 ≤ (l.getD k ⟨#[]⟩).size ∧ cntA l r k ≤ q.2 ∧ q.2 ≤ cntA l r k + q.1 ∧ cntF (l.getD k ⟨#[]⟩) r ((l.getD k ⟨#[]⟩).size + 1) 0 (cntA l r k) = cntF (l.getD k ⟨#[]⟩) r ((l.getD k ⟨#[]⟩).size + 1 - q.1) q.1 q.2) (fun q => (l.getD k ⟨#[]⟩).size - q.1) (0, cntA l r k) (⟨Nat.zero_le _, Int.le_refl _, by simp, rfl⟩) (Le.sub (by repeat (first | trivial | refine ⟨.inr rfl, ?_⟩ | refine ⟨.inr (vi_eq (by omega)), ?_⟩)) (by repeat (first | trivial | refine ⟨rfl, ?_⟩))) ?_
    intro q hI
    refine aw_seq ?_
    refine aw_seq ?_
    refine aw_text rfl ?_
    refine ch_v (R := []) rfl rfl (oc_move (x := .val _) rfl rfl) trivial ?_
    refine ch_v (R := []) rfl rfl (oc_move (x := .val _) rfl rfl) trivial ?_
    refine ch_v (R := []) rfl rfl (oc_len_str rfl rfl (by kernel_rfl)) trivial ?_
    refine ch_v (R := []) rfl rfl (oc_binZ rfl rfl rfl (by first | exact binW_add (by omega) (by omega) | rfl)) trivial ?_
    refine ch_v (R := []) rfl rfl (oc_move (x := .val _) rfl rfl) trivial ?_
    refine ch_v (R := []) rfl rfl (oc_len_str rfl rfl (by kernel_rfl)) trivial ?_
    refine ch_v (R := []) rfl rfl (oc_binZ rfl rfl rfl rfl) trivial ?_
    refine ck_nil ?_
    refine aw_cond rfl (fun hb => ?_) (fun hb => ?_)
    · have hin : q.1 + r.size ≤ (l.getD k ⟨#[]⟩).size := by have h0 := of_decide_eq_true hb; omega
      have hfu : (l.getD k ⟨#[]⟩).size + 1 - q.1 = ((l.getD k ⟨#[]⟩).size - q.1) + 1 := by omega
      refine aw_skip ?_
      refine aw_block ?_
      refine aw_seq ?_
      refine aw_text rfl ?_
      refine ch_v (R := []) rfl rfl (oc_move (x := .val _) rfl rfl) trivial ?_
      refine ch_v (R := []) rfl rfl (oc_move (x := .val _) rfl rfl) trivial ?_
      refine ch_v (R := []) rfl rfl (oc_move (x := .val _) rfl rfl) trivial ?_
      refine ch_v (R := []) rfl rfl (oc_move (x := .val _) rfl rfl) trivial ?_
      refine ch_v (R := []) rfl rfl (oc_len_str rfl rfl (by kernel_rfl)) trivial ?_
      refine ch_v (R := []) rfl rfl (oc_binZ rfl rfl rfl (by first | exact binW_add (by omega) (by omega) | rfl)) trivial ?_
      refine ch_v (R := []) rfl rfl (OC.cast (oc_substr rfl rfl rfl rfl (by kernel_rfl) (by omega) (by omega) (by omega)) (show Av.val (.string ((l.getD k ⟨#[]⟩).extract (q.1 : Int).toNat ((q.1 : Int) + (r.size : Int)).toNat)) = vs ((l.getD k ⟨#[]⟩).extract q.1 (q.1 + r.size)) from by rw [ex_nat])) trivial ?_
      refine ch_v (R := []) rfl rfl (oc_move (x := .val _) rfl rfl) trivial ?_
      refine ch_v (R := []) rfl rfl (oc_str_eq rfl rfl rfl) trivial ?_
      refine ck_nil ?_
      refine aw_cond rfl (fun hb => ?_) (fun hb => ?_)
      · have hat : (l.getD k ⟨#[]⟩).extract q.1 (q.1 + r.size) = r := by rw [str_eq] at hb; exact of_decide_eq_true hb
        refine aw_seq ?_
        refine aw_text rfl ?_
        refine ch_v (R := []) rfl rfl (oc_move (x := .val _) rfl rfl) trivial ?_
        refine ch_v (R := []) rfl rfl (oc_binZ rfl rfl rfl (by first | exact binW_add (by omega) (by omega) | rfl)) trivial ?_
        refine ch_v (R := []) rfl rfl (oc_assign (x := .val _) rfl rfl) trivial ?_
        refine ck_nil ?_
        refine aw_text rfl ?_
        refine ch_v (R := []) rfl rfl (oc_move (x := .val _) rfl rfl) trivial ?_
        refine ch_v (R := []) rfl rfl (oc_move (x := .val _) rfl rfl) trivial ?_
        refine ch_v (R := []) rfl rfl (oc_len_str rfl rfl (by kernel_rfl)) trivial ?_
        refine ch_v (R := []) rfl rfl (oc_binZ rfl rfl rfl (by first | exact binW_add (by omega) (by omega) | rfl)) trivial ?_
        refine ch_v (R := []) rfl rfl (oc_assign (x := .val _) rfl rfl) trivial ?_
        refine ck_nil ?_
        exact ⟨(q.1 + r.size, q.2 + 1), ⟨by show q.1 + r.size ≤ _; omega, by show _ ≤ q.2 + 1; omega, by show q.2 + 1 ≤ _ + ((q.1 + r.size : Nat) : Int); omega, by rw [hI.2.2.2, hfu]; show (if _ then _ else _) = _; rw [if_pos hin, if_pos hat]; exact cntF_more hr (by omega) (by show _ < _ + (q.1 + r.size); omega)⟩, by show (l.getD k ⟨#[]⟩).size - (q.1 + r.size) < _; omega, Le.sub (by repeat (first | trivial | refine ⟨.inr rfl, ?_⟩ | refine ⟨.inr (vi_eq (by show (q.1 : Int) + (r.size : Int) = ((q.1 + r.size : Nat) : Int); omega)), ?_⟩)) trivial⟩
      · have hat : ¬ (l.getD k ⟨#[]⟩).extract q.1 (q.1 + r.size) = r := by rw [str_eq] at hb; exact of_decide_eq_false hb
        refine aw_text rfl ?_
        refine ch_v (R := []) rfl rfl (oc_move (x := .val _) rfl rfl) trivial ?_
        refine ch_v (R := []) rfl rfl (oc_binZ rfl rfl rfl (by first | exact binW_add (by omega) (by omega) | rfl)) trivial ?_
        refine ch_v (R := []) rfl rfl (oc_assign (x := .val _) rfl rfl) trivial ?_
        refine ck_nil ?_
        exact ⟨(q.1 + 1, q.2), ⟨by show q.1 + 1 ≤ _; omega, hI.2.1, by show q.2 ≤ _ + ((q.1 + 1 : Nat) : Int); omega, by rw [hI.2.2.2, hfu]; show (if _ then _ else _) = _; rw [if_pos hin, if_neg hat]; exact cntF_more hr (by omega) (by show _ < _ + (q.1 + 1); omega)⟩, by show (l.getD k ⟨#[]⟩).size - (q.1 + 1) < _; omega, Le.sub (by repeat (first | trivial | refine ⟨.inr rfl, ?_⟩ | refine ⟨.inr (vi_eq (by show (q.1 : Int) + 1 = ((q.1 + 1 : Nat) : Int); omega)), ?_⟩)) trivial⟩
    · have hin : ¬ q.1 + r.size ≤ (l.getD k ⟨#[]⟩).size := by have h0 := of_decide_eq_false hb; omega
      have hfin : cntA l r (k + 1) = q.2 := by show cntF _ _ _ _ _ = _; rw [hI.2.2.2, cntF_over hin]
      refine aw_exit ?_
      refine aw_text rfl ?_
      refine ch_v (R := []) rfl rfl (oc_binZ rfl rfl rfl (by first | exact binW_add (by omega) (by omega) | rfl)) trivial ?_
      refine ch_v (R := []) rfl rfl (oc_move (x := .val _) rfl rfl) trivial ?_
      refine ck_nil ?_
      exact ⟨k + 1, by omega, by omega, Le.sub (by repeat (first | trivial | refine ⟨.inr rfl, ?_⟩ | refine ⟨.inr (vi_eq (by first | omega | (show q.2 = cntA l r (k + 1); exact hfin.symm))), ?_⟩)) trivial⟩
  · have hge : k = l.length := by have h0 := of_decide_eq_false hb; omega
    refine aw_exit ?_
    refine aw_seq ?_
    refine aw_text rfl ?_
    refine ch_v (R := []) rfl rfl (oc_move (x := .val _) rfl rfl) trivial ?_
    refine ch_v (R := []) rfl rfl (oc_assign (x := .val _) rfl rfl) trivial ?_
    refine ck_nil ?_
    refine aw_ret ?_
    exact ⟨.inl rfl, ResOk.tmp rfl (vi_eq (by rw [hge])), trivial⟩
set_option maxHeartbeats 800000 in
theorem pcost_pc (l : List PieceP) (hl : FewP l) (ab : List ByteArray) : PC Tryd.prog 15 [piecesAv l, slS ab] (vi (costP l l.length)) := by
  refine FC.body 3 26 Tryd.func15 rfl (by kernel_rfl) ?_
  refine aw_seq ?_
  refine aw_text rfl ?_
  refine ch_v (R := []) rfl rfl (oc_assign (x := .val _) rfl rfl) trivial ?_
  refine ck_nil ?_
  refine aw_seq ?_
  refine aw_text rfl ?_
  refine ch_v (R := []) rfl rfl (oc_assign (x := .val _) rfl rfl) trivial ?_
  refine ck_nil ?_
  refine aw_seq ?_
  refine aw_seq ?_
  refine aw_text rfl ?_
  refine ch_v (R := []) rfl rfl (oc_move (x := .sl _ _ _) rfl rfl) trivial ?_
  refine ch_v (R := []) rfl rfl (oc_len rfl rfl (by kernel_rfl)) trivial ?_
  refine ch_v (R := []) rfl rfl (oc_move (x := .val _) rfl rfl) trivial ?_
  refine ck_nil ?_
  refine aw_block ?_
  refine aw_loop (ι := Nat) (fun k => ⟨[(5, vi (costP l k)), (8, piecesAv l), (9, vi l.length), (10, vi k)], [(0, .unborn)]⟩) (fun k => k ≤ l.length) (fun k => l.length - k) 0 (Nat.zero_le _) (Le.sub (by repeat (first | trivial | refine ⟨.inr rfl, ?_⟩ | refine ⟨.inr (vi_eq (by omega)), ?_⟩)) (by repeat (first | trivial | refine ⟨rfl, ?_⟩))) ?_
  intro k hI
  refine aw_seq ?_
  refine aw_text rfl ?_
  refine ch_v (R := []) rfl rfl (oc_binZ rfl rfl rfl rfl) trivial ?_
  refine ck_nil ?_
  refine aw_seq ?_
  refine aw_cond rfl (fun hb => ?_) (fun hb => ?_)
  · have hlt : k < l.length := by have h0 := of_decide_eq_true hb; omega
    have hps := hl.size k
    have hll := hl.len
    have hca := costP_bd hl k
    have hpc := pcost_bd hps
    have hsu := costP_succ l k
    refine aw_skip ?_
    refine aw_seq ?_
    refine aw_block ?_
    refine aw_seq ?_
    refine aw_text rfl ?_
    refine ch_v (R := []) rfl rfl ((by first | exact oc_indexN rfl rfl rfl (by kernel_rfl) (by omega) | exact oc_index rfl rfl rfl (by kernel_rfl) (by omega) (by omega) rfl)) trivial ?_
    refine ch_v (R := []) rfl rfl (oc_load_row rfl rfl (by kernel_rfl) (by kernel_rfl) rfl) trivial ?_
    refine ch_u rfl rfl (oc_alloc (zs := [.string ⟨#[]⟩, .int .i64 0]) (cs := [.val _, .val _]) 0 rfl (by kernel_rfl) rfl rfl) ⟨rfl, trivial⟩ ?_
    refine ch_n rfl rfl (oc_store_row (x := .agg _) (cs' := [_, _]) rfl rfl rfl rfl (by kernel_rfl) (by first | decide | exact Nat.le_of_ble_eq_true rfl | simp) (by first | decide | exact Nat.le_of_ble_eq_true rfl | simp) rfl) ⟨rfl, trivial⟩ ?_
    refine ck_nil ?_
    refine aw_seq ?_
    refine aw_text rfl ?_
    refine ch_v (R := [(_, .live _ _)]) rfl rfl (oc_fieldAddr_own (off := 1) (sz := 1) (r := false) rfl rfl (by first | decide | simp) (by kernel_rfl) (by decide)) ⟨rfl, trivial⟩ ?_
    refine ch_v (R := [(_, .live _ _)]) rfl rfl (oc_load_own rfl rfl (by kernel_rfl) rfl) ⟨rfl, trivial⟩ ?_
    refine ch_v (R := []) rfl rfl (oc_binZ rfl rfl rfl rfl) trivial ?_
    refine ck_nil ?_
    refine aw_cond rfl (fun hb => ?_) (fun hb => ?_)
    · have hpo : pcost (l.getD k dPiece) = 2 := by unfold pcost; rw [if_pos (by simpa using hb)]
      have hst : costP l k + 2 = costP l (k + 1) := by rw [hsu, hpo]
      refine aw_text rfl ?_
      refine ch_v (R := []) rfl rfl (oc_move (x := .val _) rfl rfl) trivial ?_
      refine ch_v (R := []) rfl rfl (oc_binZ rfl rfl rfl (by first | exact binW_add (by omega) (by omega) | rfl)) trivial ?_
      refine ch_v (R := []) rfl rfl (oc_assign (x := .val _) rfl rfl) trivial ?_
      refine ck_nil ?_
      refine aw_text rfl ?_
      refine ch_v (R := []) rfl rfl (oc_binZ rfl rfl rfl (by first | exact binW_add (by omega) (by omega) | rfl)) trivial ?_
      refine ch_v (R := []) rfl rfl (oc_move (x := .val _) rfl rfl) trivial ?_
      refine ck_nil ?_
      exact ⟨k + 1, by omega, by omega, Le.reset [0] (by simp) (by repeat (first | trivial | refine ⟨.inr rfl, ?_⟩ | refine ⟨.inr (vi_eq (by first | omega | exact hst)), ?_⟩)) ⟨by simp [NoN], NoN.of_pure _ (pieces_pure l), by simp [NoN], by simp [NoN], trivial⟩ ⟨by rw [if_pos (by decide)], trivial⟩⟩
    · have hpo : pcost (l.getD k dPiece) = costS (l.getD k dPiece).1 := by unfold pcost; rw [if_neg (by simpa using hb)]
      have hst : costP l k + costS (l.getD k dPiece).1 = costP l (k + 1) := by rw [hsu, hpo]
      refine aw_text rfl ?_
      refine ch_v (R := []) rfl rfl (oc_move (x := .val _) rfl rfl) trivial ?_
      refine ch_v (R := [(_, .live _ _)]) rfl rfl (oc_fieldAddr_own (off := 0) (sz := 1) (r := false) rfl rfl (by first | decide | simp) (by kernel_rfl) (by decide)) ⟨rfl, trivial⟩ ?_
      refine ch_v (R := [(_, .live _ _)]) rfl rfl (oc_load_own rfl rfl (by kernel_rfl) rfl) ⟨rfl, trivial⟩ ?_
      refine ch_v (R := []) rfl rfl (oc_call rfl (by kernel_rfl) (cost_pc _ (by omega)) rfl (by simp only [PureL, Pure, and_self, pure_slI, pure_slS, rowAv, pieces_pure, implies_true]) (by simp only [PureL, Pure, and_self, pure_slI, pure_slS, rowAv, pieces_pure, implies_true])) trivial ?_
      refine ch_v (R := []) rfl rfl (oc_binZ rfl rfl rfl (by first | exact binW_add (by omega) (by omega) | rfl)) trivial ?_
      refine ch_v (R := []) rfl rfl (oc_assign (x := .val _) rfl rfl) trivial ?_
      refine ck_nil ?_
      refine aw_text rfl ?_
      refine ch_v (R := []) rfl rfl (oc_binZ rfl rfl rfl (by first | exact binW_add (by omega) (by omega) | rfl)) trivial ?_
      refine ch_v (R := []) rfl rfl (oc_move (x := .val _) rfl rfl) trivial ?_
      refine ck_nil ?_
      exact ⟨k + 1, by omega, by omega, Le.reset [0] (by simp) (by repeat (first | trivial | refine ⟨.inr rfl, ?_⟩ | refine ⟨.inr (vi_eq (by first | omega | exact hst)), ?_⟩)) ⟨by simp [NoN], NoN.of_pure _ (pieces_pure l), by simp [NoN], by simp [NoN], trivial⟩ ⟨by rw [if_pos (by decide)], trivial⟩⟩
  · have hge : k = l.length := by have h0 := of_decide_eq_false hb; omega
    refine aw_exit ?_
    refine aw_seq ?_
    refine aw_text rfl ?_
    refine ch_v (R := []) rfl rfl (oc_move (x := .val _) rfl rfl) trivial ?_
    refine ch_v (R := []) rfl rfl (oc_assign (x := .val _) rfl rfl) trivial ?_
    refine ck_nil ?_
    refine aw_ret ?_
    exact ⟨.inl rfl, ResOk.tmp rfl (vi_eq (by rw [hge])), trivial⟩
end Go.Proofs.YtpbaiighifhfnaaDoor
namespace Go.Proofs.YtpbaiighifhfnaaDoor
open Go.RowKit
set_option maxRecDepth 100000
set_option linter.unusedVariables false
set_option linter.unusedSimpArgs false
def fitsB (s : ByteArray) (i : Nat) (ab : List ByteArray) (k : Nat) : Bool := decide (k < 32) && decide (0 < (ab.getD k ByteArray.empty).size) && decide (i + (ab.getD k ByteArray.empty).size ≤ s.size) && decide (s.extract i (i + (ab.getD k ByteArray.empty).size) = ab.getD k ByteArray.empty)
theorem fits_in {s : ByteArray} {i : Nat} {ab : List ByteArray} {k : Nat} (h : fitsB s i ab k = true) : k < 32 ∧ 0 < (ab.getD k ByteArray.empty).size ∧ i + (ab.getD k ByteArray.empty).size ≤ s.size := by
  unfold fitsB at h
  simp only [Bool.and_eq_true, decide_eq_true_eq] at h
  exact ⟨h.1.1.1, h.1.1.2, h.1.2⟩
/-- The least that a place costs, of so many abbreviations. -/
def lsK (s : ByteArray) (ab : List ByteArray) (i : Nat) (A : List Int) : Nat → Int
  | 0 => costS (s.extract i (i + 1)) + A.getD (i + 1) 0
  | k + 1 => if fitsB s i ab k = true ∧ 2 + A.getD (i + (ab.getD k ByteArray.empty).size) 0 < lsK s ab i A k then 2 + A.getD (i + (ab.getD k ByteArray.empty).size) 0 else lsK s ab i A k
def lsA (s : ByteArray) (ab : List ByteArray) : Nat → List Int
  | 0 => List.replicate (s.size + 1) 0
  | d + 1 => (lsA s ab d).set (s.size - 1 - d) (lsK s ab (s.size - 1 - d) (lsA s ab d) ab.length)
theorem lsA_len (s : ByteArray) (ab : List ByteArray) : ∀ d, (lsA s ab d).length = s.size + 1
  | 0 => by simp [lsA]
  | d + 1 => by unfold lsA; rw [List.length_set, lsA_len s ab d]
theorem one_cost {s : ByteArray} {i : Nat} (h : i < s.size) : (s.extract i (i + 1)).size = 1 ∧ 0 ≤ costS (s.extract i (i + 1)) ∧ costS (s.extract i (i + 1)) ≤ 3 := by
  have e : (s.extract i (i + 1)).size = 1 := by rw [← tB_len, tB_one s i h]; rfl
  have := cst_bd (s.extract i (i + 1)) 1
  refine ⟨e, ?_⟩
  unfold costS
  rw [e]
  omega
theorem lsK_bd {s : ByteArray} {ab : List ByteArray} {i : Nat} {A : List Int} {b : Int} (hi : i < s.size) (hA : ∀ j, 0 ≤ A.getD j 0 ∧ A.getD j 0 ≤ b) : ∀ k, 0 ≤ lsK s ab i A k ∧ lsK s ab i A k ≤ b + 3
  | 0 => by
    have h1 := one_cost hi
    have h2 := hA (i + 1)
    unfold lsK
    omega
  | k + 1 => by
    have h1 := lsK_bd hi hA (ab := ab) k
    have h2 := hA (i + (ab.getD k ByteArray.empty).size)
    unfold lsK
    split
    · rename_i h; omega
    · exact h1
theorem getD_put (l : List Int) (i j : Nat) (x : Int) : (l.set i x).getD j 0 = if i = j ∧ i < l.length then x else l.getD j 0 := by
  rw [List.getD, List.getElem?_set]
  by_cases e : i = j
  · by_cases h : i < l.length
    · simp [e, e ▸ h]
    · rw [if_pos e, if_neg h, if_neg (fun hc => h hc.2)]
      rw [List.getD, List.getElem?_eq_none (by omega)]
  · rw [if_neg e, if_neg (fun hc => e hc.1)]
    rfl
theorem lsA_bd (s : ByteArray) (ab : List ByteArray) : ∀ d, d ≤ s.size → ∀ j, 0 ≤ (lsA s ab d).getD j 0 ∧ (lsA s ab d).getD j 0 ≤ 3 * (d : Int)
  | 0, _, j => by
    have : (List.replicate (s.size + 1) (0 : Int)).getD j 0 = 0 := by
      rw [List.getD, List.getElem?_replicate]
      split <;> rfl
    unfold lsA
    omega
  | d + 1, hd, j => by
    have h1 := lsA_bd s ab d (by omega)
    have h2 := lsK_bd (s := s) (ab := ab) (i := s.size - 1 - d) (by omega) h1 ab.length
    unfold lsA
    rw [getD_put]
    split
    · omega
    · have := h1 j; omega
/-- What stands in the array while a place is asked. -/
def lsW (s : ByteArray) (ab : List ByteArray) (i : Nat) (A : List Int) (k : Nat) : List Int := A.set i (lsK s ab i A k)
theorem lsW_at {s : ByteArray} {ab : List ByteArray} {i k j : Nat} {A : List Int} (h : i < A.length) : (lsW s ab i A k).getD j 0 = if i = j then lsK s ab i A k else A.getD j 0 := by
  unfold lsW
  rw [getD_put]
  by_cases e : i = j
  · rw [if_pos ⟨e, h⟩, if_pos e]
  · rw [if_neg (fun hc => e hc.1), if_neg e]
theorem lsW_put {s : ByteArray} {ab : List ByteArray} {i k : Nat} {A : List Int} : (lsW s ab i A k).set i (lsK s ab i A (k + 1)) = lsW s ab i A (k + 1) := by
  unfold lsW
  rw [List.set_set]
theorem lsW_len (s : ByteArray) (ab : List ByteArray) (i k : Nat) (A : List Int) : (lsW s ab i A k).length = A.length := by unfold lsW; rw [List.length_set]
theorem lsA_step {s : ByteArray} {ab : List ByteArray} {i : Nat} (h : i < s.size) : lsA s ab (s.size - i) = lsW s ab i (lsA s ab (s.size - (i + 1))) ab.length := by
  have e : s.size - i = (s.size - (i + 1)) + 1 := by omega
  have e2 : s.size - 1 - (s.size - (i + 1)) = i := by omega
  rw [e]
  show (lsA s ab (s.size - (i + 1))).set (s.size - 1 - (s.size - (i + 1))) _ = _
  rw [e2]
  rfl
set_option maxHeartbeats 800000 in
theorem saves_pc (l : List ByteArray) (hl : FewT l) (r : ByteArray) (hr : 2 ≤ r.size) (hr2 : r.size ≤ 8) : PC Tryd.prog 70 [slS l, vs r] (vi ((costS r - 2) * cntA l r l.length - costS r)) := by
  refine FC.body 6 16 Tryd.func70 rfl (by kernel_rfl) ?_
  have hcs := cost_few hr2
  have hca := cntA_bd hl r l.length
  have hll := hl.len
  have hmul := mul_few (a := costS r - 2) (c := cntA l r l.length) (by omega) (by omega)
  refine aw_seq ?_
  refine aw_text rfl ?_
  refine ch_v (R := []) rfl rfl (oc_assign (x := .val _) rfl rfl) trivial ?_
  refine ck_nil ?_
  refine aw_seq ?_
  refine aw_text rfl ?_
  refine ch_v (R := []) rfl rfl (oc_move (x := .val _) rfl rfl) trivial ?_
  refine ch_v (R := []) rfl rfl (oc_call rfl (by kernel_rfl) (rcost_pc r (by omega)) rfl (by simp only [PureL, Pure, and_self, pure_slI, pure_slS, rowAv, pieces_pure, implies_true]) (by simp only [PureL, Pure, and_self, pure_slI, pure_slS, rowAv, pieces_pure, implies_true])) trivial ?_
  refine ch_v (R := []) rfl rfl (oc_assign (x := .val _) rfl rfl) trivial ?_
  refine ck_nil ?_
  refine aw_seq ?_
  refine aw_text rfl ?_
  refine ch_v (R := []) rfl rfl (oc_move (x := .val _) rfl rfl) trivial ?_
  refine ch_v (R := []) rfl rfl (oc_binZ rfl rfl rfl (by first | exact binW_sub (by omega) (by omega) | rfl)) trivial ?_
  refine ch_v (R := []) rfl rfl (oc_move (x := .sl _ _ _) rfl rfl) trivial ?_
  refine ch_v (R := []) rfl rfl (oc_move (x := .val _) rfl rfl) trivial ?_
  refine ch_v (R := []) rfl rfl (oc_call rfl (by kernel_rfl) (rcount_pc l hl r (by omega) (by omega)) rfl (by simp only [PureL, Pure, and_self, pure_slI, pure_slS, rowAv, pieces_pure, implies_true]) (by simp only [PureL, Pure, and_self, pure_slI, pure_slS, rowAv, pieces_pure, implies_true])) trivial ?_
  refine ch_v (R := []) rfl rfl (oc_binZ rfl rfl rfl (by first | exact binW_mul (by omega) (by omega) | rfl)) trivial ?_
  refine ch_v (R := []) rfl rfl (oc_move (x := .val _) rfl rfl) trivial ?_
  refine ch_v (R := []) rfl rfl (oc_binZ rfl rfl rfl (by first | exact binW_sub (by omega) (by omega) | rfl)) trivial ?_
  refine ch_v (R := []) rfl rfl (oc_assign (x := .val _) rfl rfl) trivial ?_
  refine ck_nil ?_
  refine aw_ret ?_
  exact ⟨.inl rfl, ResOk.tmp rfl rfl, trivial⟩
set_option maxHeartbeats 800000 in
theorem fits_pc (s : ByteArray) (i : Nat) (ab : List ByteArray) (k : Nat) (hs : s.size ≤ 1000000) (hi : i ≤ s.size) (hk : k < ab.length) (hb : (ab.getD k ByteArray.empty).size ≤ 1000000) : PC Tryd.prog 56 [vs s, vi i, slS ab, vi k] (vb (fitsB s i ab k)) := by
  refine FC.body 6 41 Tryd.func56 rfl (by kernel_rfl) ?_
  refine aw_seq ?_
  refine aw_text rfl ?_
  refine ch_v (R := []) rfl rfl (oc_assign (x := .val _) rfl rfl) trivial ?_
  refine ck_nil ?_
  refine aw_seq ?_
  refine aw_text rfl ?_
  refine ch_v (R := []) rfl rfl (oc_move (x := .sl _ _ _) rfl rfl) trivial ?_
  refine ch_v (R := []) rfl rfl (oc_move (x := .val _) rfl rfl) trivial ?_
  refine ch_v (R := []) rfl rfl ((by first | exact oc_indexN rfl rfl rfl (by kernel_rfl) (by omega) | exact oc_index rfl rfl rfl (by kernel_rfl) (by omega) (by omega) rfl)) trivial ?_
  refine ch_v (R := []) rfl rfl (oc_load rfl rfl (by kernel_rfl) cells_str) trivial ?_
  refine ch_v (R := []) rfl rfl (oc_assign (x := .val _) rfl rfl) trivial ?_
  refine ck_nil ?_
  refine aw_seq ?_
  refine aw_text rfl ?_
  refine ch_v (R := []) rfl rfl (oc_move (x := .val _) rfl rfl) trivial ?_
  refine ch_v (R := []) rfl rfl (oc_binZ rfl rfl rfl rfl) trivial ?_
  refine ch_v (R := []) rfl rfl (oc_move (x := .val _) rfl rfl) trivial ?_
  refine ch_g (R := []) rfl rfl rfl gate_t (fun hC => oc_move (x := .val _) rfl rfl) (fun hC => ⟨(by first | rfl | exact hC | (simp only [Bool.and_eq_true] at hC; first | exact hC.1 | exact hC.1.1 | exact hC.2) | simp_all), trivial⟩) trivial ?_
  refine ch_g (R := []) rfl rfl rfl gate_t (fun hC => oc_len_str rfl rfl (by kernel_rfl)) (fun hC => ⟨(by first | rfl | exact hC | (simp only [Bool.and_eq_true] at hC; first | exact hC.1 | exact hC.1.1 | exact hC.2) | simp_all), trivial⟩) trivial ?_
  refine ch_g (R := []) rfl rfl rfl gate_t (fun hC => oc_binZ rfl rfl rfl rfl) (fun hC => ⟨(by first | rfl | exact hC | (simp only [Bool.and_eq_true] at hC; first | exact hC.1 | exact hC.1.1 | exact hC.2) | simp_all), (by first | rfl | exact hC | (simp only [Bool.and_eq_true] at hC; first | exact hC.1 | exact hC.1.1 | exact hC.2) | simp_all), trivial⟩) trivial ?_
  refine ch_v (R := []) rfl rfl (oc_and rfl rfl rfl rfl (by first | exact fun h => h | simp_all)) trivial ?_
  refine ch_v (R := []) rfl rfl (oc_move (x := .val _) rfl rfl) trivial ?_
  refine ch_g (R := []) rfl rfl rfl gate_t (fun hC => oc_move (x := .val _) rfl rfl) (fun hC => ⟨(by first | rfl | exact hC | (simp only [Bool.and_eq_true] at hC; first | exact hC.1 | exact hC.1.1 | exact hC.2) | simp_all), trivial⟩) trivial ?_
  refine ch_g (R := []) rfl rfl rfl gate_t (fun hC => oc_move (x := .val _) rfl rfl) (fun hC => ⟨(by first | rfl | exact hC | (simp only [Bool.and_eq_true] at hC; first | exact hC.1 | exact hC.1.1 | exact hC.2) | simp_all), trivial⟩) trivial ?_
  refine ch_g (R := []) rfl rfl rfl gate_t (fun hC => oc_len_str rfl rfl (by kernel_rfl)) (fun hC => ⟨(by first | rfl | exact hC | (simp only [Bool.and_eq_true] at hC; first | exact hC.1 | exact hC.1.1 | exact hC.2) | simp_all), trivial⟩) trivial ?_
  refine ch_g (R := []) rfl rfl rfl gate_t (fun hC => oc_binZ rfl rfl rfl (by first | exact binW_add (by omega) (by omega) | rfl)) (fun hC => ⟨(by first | rfl | exact hC | (simp only [Bool.and_eq_true] at hC; first | exact hC.1 | exact hC.1.1 | exact hC.2) | simp_all), (by first | rfl | exact hC | (simp only [Bool.and_eq_true] at hC; first | exact hC.1 | exact hC.1.1 | exact hC.2) | simp_all), trivial⟩) trivial ?_
  refine ch_g (R := []) rfl rfl rfl gate_t (fun hC => oc_move (x := .val _) rfl rfl) (fun hC => ⟨(by first | rfl | exact hC | (simp only [Bool.and_eq_true] at hC; first | exact hC.1 | exact hC.1.1 | exact hC.2) | simp_all), trivial⟩) trivial ?_
  refine ch_g (R := []) rfl rfl rfl gate_t (fun hC => oc_len_str rfl rfl (by kernel_rfl)) (fun hC => ⟨(by first | rfl | exact hC | (simp only [Bool.and_eq_true] at hC; first | exact hC.1 | exact hC.1.1 | exact hC.2) | simp_all), trivial⟩) trivial ?_
  refine ch_g (R := []) rfl rfl rfl gate_t (fun hC => oc_binZ rfl rfl rfl rfl) (fun hC => ⟨(by first | rfl | exact hC | (simp only [Bool.and_eq_true] at hC; first | exact hC.1 | exact hC.1.1 | exact hC.2) | simp_all), (by first | rfl | exact hC | (simp only [Bool.and_eq_true] at hC; first | exact hC.1 | exact hC.1.1 | exact hC.2) | simp_all), trivial⟩) trivial ?_
  refine ch_v (R := []) rfl rfl (oc_and rfl rfl rfl rfl (by first | exact fun h => h | simp_all)) trivial ?_
  refine ch_v (R := []) rfl rfl (oc_move (x := .val _) rfl rfl) trivial ?_
  refine ch_g (R := []) rfl rfl rfl gate_t (fun hC => oc_move (x := .val _) rfl rfl) (fun hC => ⟨(by first | rfl | exact hC | (simp only [Bool.and_eq_true] at hC; first | exact hC.1 | exact hC.1.1 | exact hC.2) | simp_all), trivial⟩) trivial ?_
  refine ch_g (R := []) rfl rfl rfl gate_t (fun hC => oc_move (x := .val _) rfl rfl) (fun hC => ⟨(by first | rfl | exact hC | (simp only [Bool.and_eq_true] at hC; first | exact hC.1 | exact hC.1.1 | exact hC.2) | simp_all), trivial⟩) trivial ?_
  refine ch_g (R := []) rfl rfl rfl gate_t (fun hC => oc_move (x := .val _) rfl rfl) (fun hC => ⟨(by first | rfl | exact hC | (simp only [Bool.and_eq_true] at hC; first | exact hC.1 | exact hC.1.1 | exact hC.2) | simp_all), trivial⟩) trivial ?_
  refine ch_g (R := []) rfl rfl rfl gate_t (fun hC => oc_move (x := .val _) rfl rfl) (fun hC => ⟨(by first | rfl | exact hC | (simp only [Bool.and_eq_true] at hC; first | exact hC.1 | exact hC.1.1 | exact hC.2) | simp_all), trivial⟩) trivial ?_
  refine ch_g (R := []) rfl rfl rfl gate_t (fun hC => oc_len_str rfl rfl (by kernel_rfl)) (fun hC => ⟨(by first | rfl | exact hC | (simp only [Bool.and_eq_true] at hC; first | exact hC.1 | exact hC.1.1 | exact hC.2) | simp_all), trivial⟩) trivial ?_
  refine ch_g (R := []) rfl rfl rfl gate_t (fun hC => oc_binZ rfl rfl rfl (by first | exact binW_add (by omega) (by omega) | rfl)) (fun hC => ⟨(by first | rfl | exact hC | (simp only [Bool.and_eq_true] at hC; first | exact hC.1 | exact hC.1.1 | exact hC.2) | simp_all), (by first | rfl | exact hC | (simp only [Bool.and_eq_true] at hC; first | exact hC.1 | exact hC.1.1 | exact hC.2) | simp_all), trivial⟩) trivial ?_
  refine ch_g (R := []) rfl rfl rfl gate_t (fun hC => by
        have hc : i + (ab.getD k ByteArray.empty).size ≤ s.size := by simp only [Bool.and_eq_true, decide_eq_true_eq] at hC; omega
        exact OC.cast (oc_substr rfl rfl rfl rfl (by kernel_rfl) (by omega) (by omega) (by omega)) (show Av.val (.string (s.extract (i : Int).toNat ((i : Int) + ((ab.getD k ByteArray.empty).size : Int)).toNat)) = vs (s.extract i (i + (ab.getD k ByteArray.empty).size)) from by rw [ex_nat])) (fun hC => ⟨(by first | rfl | exact hC | (simp only [Bool.and_eq_true] at hC; first | exact hC.1 | exact hC.1.1 | exact hC.2) | simp_all), (by first | rfl | exact hC | (simp only [Bool.and_eq_true] at hC; first | exact hC.1 | exact hC.1.1 | exact hC.2) | simp_all), (by first | rfl | exact hC | (simp only [Bool.and_eq_true] at hC; first | exact hC.1 | exact hC.1.1 | exact hC.2) | simp_all), trivial⟩) trivial ?_
  refine ch_g (R := []) rfl rfl rfl gate_t (fun hC => oc_move (x := .val _) rfl rfl) (fun hC => ⟨(by first | rfl | exact hC | (simp only [Bool.and_eq_true] at hC; first | exact hC.1 | exact hC.1.1 | exact hC.2) | simp_all), trivial⟩) trivial ?_
  refine ch_g (R := []) rfl rfl rfl gate_t (fun hC => oc_str_eq rfl rfl rfl) (fun hC => ⟨(by first | rfl | exact hC | (simp only [Bool.and_eq_true] at hC; first | exact hC.1 | exact hC.1.1 | exact hC.2) | simp_all), (by first | rfl | exact hC | (simp only [Bool.and_eq_true] at hC; first | exact hC.1 | exact hC.1.1 | exact hC.2) | simp_all), trivial⟩) trivial ?_
  refine ch_v (R := []) rfl rfl (oc_and rfl rfl rfl rfl (by first | exact fun h => h | simp_all)) trivial ?_
  refine ch_v (R := []) rfl rfl (oc_assign (x := .val _) rfl rfl) trivial ?_
  refine ck_nil ?_
  refine aw_ret ?_
  exact ⟨.inl rfl, ResOk.tmp rfl (vb_eq (by unfold fitsB; rw [str_eq]; congr 1; congr 1; (congr 1; (rw [decide_eq_decide]; omega); (rw [decide_eq_decide]; omega)); (rw [decide_eq_decide]; omega))), trivial⟩
set_option maxHeartbeats 800000 in
theorem least_pc (s : ByteArray) (ab : List ByteArray) (hs : s.size ≤ 1000000) (hb2 : ∀ k, (ab.getD k ByteArray.empty).size ≤ 1000000) (hbl : ab.length ≤ 1000000) : PC Tryd.prog 54 [vs s, slS ab] (slI (lsA s ab s.size)) := by
  refine FC.body 3 78 Tryd.func54 rfl (by kernel_rfl) ?_
  refine aw_seq ?_
  refine aw_text rfl ?_
  refine ch_v (R := []) rfl rfl (oc_assign (x := .val _) rfl rfl) trivial ?_
  refine ck_nil ?_
  refine aw_seq ?_
  refine aw_text rfl ?_
  refine ch_v (R := []) rfl rfl (oc_move (x := .val _) rfl rfl) trivial ?_
  refine ch_v (R := []) rfl rfl (oc_len_str rfl rfl (by kernel_rfl)) trivial ?_
  refine ch_v (R := []) rfl rfl (oc_binZ rfl rfl rfl (by first | exact binW_add (by omega) (by omega) | rfl)) trivial ?_
  refine ch_u rfl rfl (oc_makeSlice (e := 3) (by_ := 8) (z := .int .i64 0) (m := s.size + 1) 0 rfl rfl rfl rfl (by kernel_rfl) (by kernel_rfl) rfl (by omega) (by omega)) ⟨rfl, trivial⟩ ?_
  refine ch_v (R := []) rfl rfl (oc_assign (x := .osl _ _ _) rfl rfl) trivial ?_
  refine ck_nil ?_
  refine aw_seq ?_
  refine aw_seq ?_
  refine aw_text rfl ?_
  refine ch_v (R := []) rfl rfl (oc_move (x := .val _) rfl rfl) trivial ?_
  refine ch_v (R := []) rfl rfl (oc_len_str rfl rfl (by kernel_rfl)) trivial ?_
  refine ch_v (R := []) rfl rfl (oc_binZ rfl rfl rfl (by first | exact binW_sub (by omega) (by omega) | rfl)) trivial ?_
  refine ch_v (R := []) rfl rfl (oc_assign (x := .val _) rfl rfl) trivial ?_
  refine ck_nil ?_
  refine aw_block ?_
  refine aw_loop (ι := Nat) (fun m => ⟨[(0, vs s), (1, slS ab), (5, .osl 1 0 (s.size + 1)), (6, vi ((m : Int) - 1))], [(0, .live 3 ((lsA s ab (s.size - m)).map vi))]⟩) (fun m => m ≤ s.size) (fun m => m) s.size (Nat.le_refl _) (Le.sub (by repeat (first | trivial | refine ⟨.inr rfl, ?_⟩)) ⟨by rw [Nat.sub_self]; show _ = some (Hs.live _ ((List.replicate (s.size + 1) (0 : Int)).map vi)); rw [List.map_replicate]; rfl, trivial⟩) ?_
  intro m hI
  refine aw_seq ?_
  refine aw_seq ?_
  refine aw_text rfl ?_
  refine ch_v (R := []) rfl rfl (oc_move (x := .val _) rfl rfl) trivial ?_
  refine ch_v (R := []) rfl rfl (oc_binZ rfl rfl rfl rfl) trivial ?_
  refine ck_nil ?_
  refine aw_cond rfl (fun hb => ?_) (fun hb => ?_)
  · obtain ⟨i, rfl⟩ : ∃ i, m = i + 1 := ⟨m - 1, by have h0 := of_decide_eq_true hb; omega⟩
    have h1 := one_cost (s := s) (i := i) (by omega)
    have hbd := lsA_bd s ab (s.size - (i + 1)) (by omega)
    have hal := lsA_len s ab (s.size - (i + 1))
    refine aw_le (Le.sub (τ := ⟨[(0, vs s), (1, slS ab), (5, .osl 1 0 (s.size + 1)), (6, vi (i : Int))], [(0, .live 3 ((lsA s ab (s.size - (i + 1))).map vi))]⟩) (by repeat (first | trivial | refine ⟨.inr rfl, ?_⟩ | refine ⟨.inr (vi_eq (by omega)), ?_⟩)) ⟨rfl, trivial⟩) ?_
    have hb1 := hbd (i + 1)
    refine aw_skip ?_
    refine aw_seq ?_
    refine aw_block ?_
    refine aw_seq ?_
    refine aw_draw mixed ?_
    refine ch_v (R := []) rfl rfl (oc_move (x := .osl _ _ _) rfl rfl) trivial ?_
    refine ch_v (R := []) rfl rfl (oc_move (x := .val _) rfl rfl) trivial ?_
    refine ch_v (R := []) rfl rfl (oc_move (x := .val _) rfl rfl) trivial ?_
    refine ch_v (R := []) rfl rfl (oc_move (x := .val _) rfl rfl) trivial ?_
    refine ch_v (R := []) rfl rfl (oc_move (x := .val _) rfl rfl) trivial ?_
    refine ch_v (R := []) rfl rfl (oc_binZ rfl rfl rfl (by first | exact binW_add (by omega) (by omega) | rfl)) trivial ?_
    refine ch_v (R := []) rfl rfl (OC.cast (oc_substr rfl rfl rfl rfl (by kernel_rfl) (by omega) (by omega) (by omega)) (show Av.val (.string (s.extract (i : Int).toNat ((i : Int) + 1).toNat)) = vs (s.extract i (i + 1)) from by have := ex_nat s i 1; rw [← this]; rfl)) trivial ?_
    refine ch_v (R := []) rfl rfl (oc_call rfl (by kernel_rfl) (rcost_pc _ (by rw [h1.1]; omega)) rfl (by simp only [PureL, Pure, and_self, pure_slI, pure_slS, rowAv, pieces_pure, implies_true]) (by simp only [PureL, Pure, and_self, pure_slI, pure_slS, rowAv, pieces_pure, implies_true])) trivial ?_
    refine ch_v (R := []) rfl rfl (oc_move (x := .osl _ _ _) rfl rfl) trivial ?_
    refine ch_v (R := []) rfl rfl (oc_move (x := .val _) rfl rfl) trivial ?_
    refine ch_v (R := []) rfl rfl (oc_binZ rfl rfl rfl (by first | exact binW_add (by omega) (by omega) | rfl)) trivial ?_
    refine ch_v (R := [(_, .live _ _)]) rfl rfl (oc_index_own (j := i + 1) rfl rfl rfl (by kernel_rfl) (by omega) (by omega) (by omega)) ⟨rfl, trivial⟩ ?_
    refine ch_v (R := [(_, .live _ _)]) rfl rfl (oc_load_own (y := vi ((lsA s ab (s.size - (i + 1))).getD (i + 1) 0)) rfl rfl (by kernel_rfl) (vi_at (by rw [hal]; omega))) ⟨rfl, trivial⟩ ?_
    refine ch_v (R := []) rfl rfl (oc_binZ rfl rfl rfl (by first | exact binW_add (by omega) (by omega) | rfl)) trivial ?_
    refine ch_v (R := [(_, .live _ _)]) rfl rfl (oc_index_ownN rfl rfl rfl (by kernel_rfl) (by omega)) ⟨rfl, trivial⟩ ?_
    refine ch_n rfl rfl (oc_store (y := vi (costS (s.extract i (i + 1)) + (lsA s ab (s.size - (i + 1))).getD (i + 1) 0)) (cs' := (lsW s ab i (lsA s ab (s.size - (i + 1))) 0).map vi) rfl rfl rfl (by kernel_rfl) (by kernel_rfl) cells_int (by rw [List.length_map, hal]; omega) (vi_put _ _ _)) ⟨rfl, trivial⟩ ?_
    refine ck_nil ⟨by kernel_rfl, ?_⟩
    refine aw_seq ?_
    refine aw_text rfl ?_
    refine ch_v (R := []) rfl rfl (oc_assign (x := .val _) rfl rfl) trivial ?_
    refine ck_nil ?_
    refine aw_block ?_
    refine aw_loop (ι := Nat) (fun k => ⟨[(0, vs s), (1, slS ab), (5, .osl 1 0 (s.size + 1)), (6, vi (i : Int)), (7, vi k)], [(0, .live 3 ((lsW s ab i (lsA s ab (s.size - (i + 1))) k).map vi))]⟩) (fun k => k ≤ ab.length) (fun k => ab.length - k) 0 (Nat.zero_le _) (Le.sub (by repeat (first | trivial | refine ⟨.inr rfl, ?_⟩)) ⟨rfl, trivial⟩) ?_
    intro k hI
    refine aw_seq ?_
    refine aw_seq ?_
    refine aw_text rfl ?_
    refine ch_v (R := []) rfl rfl (oc_move (x := .val _) rfl rfl) trivial ?_
    refine ch_v (R := []) rfl rfl (oc_move (x := .sl _ _ _) rfl rfl) trivial ?_
    refine ch_v (R := []) rfl rfl (oc_len rfl rfl (by kernel_rfl)) trivial ?_
    refine ch_v (R := []) rfl rfl (oc_binZ rfl rfl rfl rfl) trivial ?_
    refine ck_nil ?_
    refine aw_cond rfl (fun hb => ?_) (fun hb => ?_)
    · have hlt : k < ab.length := by have h0 := of_decide_eq_true hb; omega
      have hkb := lsK_bd (s := s) (ab := ab) (i := i) (A := (lsA s ab (s.size - (i + 1)))) (by omega) hbd k
      have hbk := hb2 k
      refine aw_skip ?_
      refine aw_seq ?_
      refine aw_block ?_
      refine aw_seq ?_
      refine aw_draw mixed ?_
      refine ch_v (R := []) rfl rfl (oc_move (x := .val _) rfl rfl) trivial ?_
      refine ch_v (R := []) rfl rfl (oc_move (x := .val _) rfl rfl) trivial ?_
      refine ch_v (R := []) rfl rfl (oc_move (x := .sl _ _ _) rfl rfl) trivial ?_
      refine ch_v (R := []) rfl rfl (oc_move (x := .val _) rfl rfl) trivial ?_
      refine ch_v (R := []) rfl rfl (oc_call rfl (by kernel_rfl) (fits_pc s i ab k hs (by omega) hlt (hb2 k)) rfl (by simp only [PureL, Pure, and_self, pure_slI, pure_slS, rowAv, pieces_pure, implies_true]) (by simp only [PureL, Pure, and_self, pure_slI, pure_slS, rowAv, pieces_pure, implies_true])) trivial ?_
      refine ch_v (R := []) rfl rfl (oc_move (x := .val _) rfl rfl) trivial ?_
      refine ch_g (R := []) rfl rfl rfl gate_t (fun hC => oc_move (x := .osl _ _ _) rfl rfl) (fun hC => ⟨(by first | rfl | exact hC | (simp only [Bool.and_eq_true] at hC; first | exact hC.1 | exact hC.1.1 | exact hC.2) | simp_all), trivial⟩) trivial ?_
      refine ch_g (R := []) rfl rfl rfl gate_t (fun hC => oc_move (x := .val _) rfl rfl) (fun hC => ⟨(by first | rfl | exact hC | (simp only [Bool.and_eq_true] at hC; first | exact hC.1 | exact hC.1.1 | exact hC.2) | simp_all), trivial⟩) trivial ?_
      refine ch_g (R := []) rfl rfl rfl gate_t (fun hC => oc_move (x := .sl _ _ _) rfl rfl) (fun hC => ⟨(by first | rfl | exact hC | (simp only [Bool.and_eq_true] at hC; first | exact hC.1 | exact hC.1.1 | exact hC.2) | simp_all), trivial⟩) trivial ?_
      refine ch_g (R := []) rfl rfl rfl gate_t (fun hC => oc_move (x := .val _) rfl rfl) (fun hC => ⟨(by first | rfl | exact hC | (simp only [Bool.and_eq_true] at hC; first | exact hC.1 | exact hC.1.1 | exact hC.2) | simp_all), trivial⟩) trivial ?_
      refine ch_g (R := []) rfl rfl rfl gate_t (fun hC => (by first | exact oc_indexN rfl rfl rfl (by kernel_rfl) (by omega) | exact oc_index rfl rfl rfl (by kernel_rfl) (by omega) (by omega) rfl)) (fun hC => ⟨(by first | rfl | exact hC | (simp only [Bool.and_eq_true] at hC; first | exact hC.1 | exact hC.1.1 | exact hC.2) | simp_all), (by first | rfl | exact hC | (simp only [Bool.and_eq_true] at hC; first | exact hC.1 | exact hC.1.1 | exact hC.2) | simp_all), trivial⟩) trivial ?_
      refine ch_g (R := []) rfl rfl rfl gate_t (fun hC => oc_load rfl rfl (by kernel_rfl) cells_str) (fun hC => ⟨(by first | rfl | exact hC | (simp only [Bool.and_eq_true] at hC; first | exact hC.1 | exact hC.1.1 | exact hC.2) | simp_all), trivial⟩) trivial ?_
      refine ch_g (R := []) rfl rfl rfl gate_t (fun hC => oc_len_str rfl rfl (by kernel_rfl)) (fun hC => ⟨(by first | rfl | exact hC | (simp only [Bool.and_eq_true] at hC; first | exact hC.1 | exact hC.1.1 | exact hC.2) | simp_all), trivial⟩) trivial ?_
      refine ch_g (R := []) rfl rfl rfl gate_t (fun hC => oc_binZ rfl rfl rfl (by first | exact binW_add (by omega) (by omega) | rfl)) (fun hC => ⟨(by first | rfl | exact hC | (simp only [Bool.and_eq_true] at hC; first | exact hC.1 | exact hC.1.1 | exact hC.2) | simp_all), (by first | rfl | exact hC | (simp only [Bool.and_eq_true] at hC; first | exact hC.1 | exact hC.1.1 | exact hC.2) | simp_all), trivial⟩) trivial ?_
      refine ch_g (R := [(_, .live _ _)]) rfl rfl rfl gate_t (fun hC => by
            have hf := fits_in hC
            exact oc_index_own (t := 3) (cs := (lsW s ab i (lsA s ab (s.size - (i + 1))) k).map vi) (j := i + (ab.getD k ByteArray.empty).size) rfl rfl rfl (by kernel_rfl) (by omega) (by omega) (by omega)) (fun hC => ⟨(by first | rfl | exact hC | (simp only [Bool.and_eq_true] at hC; first | exact hC.1 | exact hC.1.1 | exact hC.2) | simp_all), (by first | rfl | exact hC | (simp only [Bool.and_eq_true] at hC; first | exact hC.1 | exact hC.1.1 | exact hC.2) | simp_all), trivial⟩) ⟨rfl, trivial⟩ ?_
      refine ch_g (R := [(_, .live _ _)]) rfl rfl rfl gate_t (fun hC => by
            have hf := fits_in hC
            have hat : (lsW s ab i (lsA s ab (s.size - (i + 1))) k).getD (i + (ab.getD k ByteArray.empty).size) 0 = (lsA s ab (s.size - (i + 1))).getD (i + (ab.getD k ByteArray.empty).size) 0 := by rw [lsW_at (by omega), if_neg (by omega)]
            exact oc_load_own (t := 3) (cs := (lsW s ab i (lsA s ab (s.size - (i + 1))) k).map vi) (y := vi ((lsA s ab (s.size - (i + 1))).getD (i + (ab.getD k ByteArray.empty).size) 0)) rfl rfl (by kernel_rfl) (by rw [← hat]; exact vi_at (by rw [lsW_len, lsA_len]; omega))) (fun hC => ⟨(by first | rfl | exact hC | (simp only [Bool.and_eq_true] at hC; first | exact hC.1 | exact hC.1.1 | exact hC.2) | simp_all), trivial⟩) ⟨rfl, trivial⟩ ?_
      refine ch_g (R := []) rfl rfl rfl gate_t (fun hC => by
            have hbj := hbd (i + (ab.getD k ByteArray.empty).size)
            exact oc_binZ rfl rfl rfl (by first | exact binW_add (by omega) (by omega) | rfl)) (fun hC => ⟨(by first | rfl | exact hC | (simp only [Bool.and_eq_true] at hC; first | exact hC.1 | exact hC.1.1 | exact hC.2) | simp_all), (by first | rfl | exact hC | (simp only [Bool.and_eq_true] at hC; first | exact hC.1 | exact hC.1.1 | exact hC.2) | simp_all), trivial⟩) trivial ?_
      refine ch_g (R := []) rfl rfl rfl gate_t (fun hC => oc_move (x := .osl _ _ _) rfl rfl) (fun hC => ⟨(by first | rfl | exact hC | (simp only [Bool.and_eq_true] at hC; first | exact hC.1 | exact hC.1.1 | exact hC.2) | simp_all), trivial⟩) trivial ?_
      refine ch_g (R := []) rfl rfl rfl gate_t (fun hC => oc_move (x := .val _) rfl rfl) (fun hC => ⟨(by first | rfl | exact hC | (simp only [Bool.and_eq_true] at hC; first | exact hC.1 | exact hC.1.1 | exact hC.2) | simp_all), trivial⟩) trivial ?_
      refine ch_g (R := [(_, .live _ _)]) rfl rfl rfl gate_t (fun hC => oc_index_ownN rfl rfl rfl (by kernel_rfl) (by omega)) (fun hC => ⟨(by first | rfl | exact hC | (simp only [Bool.and_eq_true] at hC; first | exact hC.1 | exact hC.1.1 | exact hC.2) | simp_all), (by first | rfl | exact hC | (simp only [Bool.and_eq_true] at hC; first | exact hC.1 | exact hC.1.1 | exact hC.2) | simp_all), trivial⟩) ⟨rfl, trivial⟩ ?_
      refine ch_g (R := [(_, .live _ _)]) rfl rfl rfl gate_t (fun hC => by
            have hat : (lsW s ab i (lsA s ab (s.size - (i + 1))) k).getD i 0 = lsK s ab i (lsA s ab (s.size - (i + 1))) k := by rw [lsW_at (by omega), if_pos rfl]
            exact oc_load_own (t := 3) (cs := (lsW s ab i (lsA s ab (s.size - (i + 1))) k).map vi) (y := vi (lsK s ab i (lsA s ab (s.size - (i + 1))) k)) rfl rfl (by kernel_rfl) (by rw [← hat]; exact vi_at (by rw [lsW_len, lsA_len]; omega))) (fun hC => ⟨(by first | rfl | exact hC | (simp only [Bool.and_eq_true] at hC; first | exact hC.1 | exact hC.1.1 | exact hC.2) | simp_all), trivial⟩) ⟨rfl, trivial⟩ ?_
      refine ch_g (R := []) rfl rfl rfl gate_t (fun hC => oc_binZ rfl rfl rfl rfl) (fun hC => ⟨(by first | rfl | exact hC | (simp only [Bool.and_eq_true] at hC; first | exact hC.1 | exact hC.1.1 | exact hC.2) | simp_all), (by first | rfl | exact hC | (simp only [Bool.and_eq_true] at hC; first | exact hC.1 | exact hC.1.1 | exact hC.2) | simp_all), trivial⟩) trivial ?_
      refine ch_v (R := []) rfl rfl (oc_and rfl rfl rfl rfl (by first | exact fun h => h | simp_all)) trivial ?_
      refine ck_nil ⟨by kernel_rfl, ?_⟩
      refine aw_cond rfl (fun hb => ?_) (fun hb => ?_)
      · have hq := hb
        simp only [Bool.and_eq_true, decide_eq_true_eq] at hq
        have hf := fits_in hq.1
        have hbj := hbd (i + (ab.getD k ByteArray.empty).size)
        have hat : (lsW s ab i (lsA s ab (s.size - (i + 1))) k).getD (i + (ab.getD k ByteArray.empty).size) 0 = (lsA s ab (s.size - (i + 1))).getD (i + (ab.getD k ByteArray.empty).size) 0 := by rw [lsW_at (by omega), if_neg (by omega)]
        have hsk : lsK s ab i (lsA s ab (s.size - (i + 1))) (k + 1) = 2 + (lsA s ab (s.size - (i + 1))).getD (i + (ab.getD k ByteArray.empty).size) 0 := by show (if _ then _ else _) = _; rw [if_pos ⟨hq.1, hq.2⟩]
        have hst : lsW s ab i (lsA s ab (s.size - (i + 1))) (k + 1) = (lsW s ab i (lsA s ab (s.size - (i + 1))) k).set i (2 + (lsA s ab (s.size - (i + 1))).getD (i + (ab.getD k ByteArray.empty).size) 0) := by rw [← hsk, lsW_put]
        refine aw_text rfl ?_
        refine ch_v (R := []) rfl rfl (oc_move (x := .osl _ _ _) rfl rfl) trivial ?_
        refine ch_v (R := []) rfl rfl (oc_move (x := .val _) rfl rfl) trivial ?_
        refine ch_v (R := []) rfl rfl (oc_move (x := .osl _ _ _) rfl rfl) trivial ?_
        refine ch_v (R := []) rfl rfl (oc_move (x := .val _) rfl rfl) trivial ?_
        refine ch_v (R := []) rfl rfl (oc_move (x := .sl _ _ _) rfl rfl) trivial ?_
        refine ch_v (R := []) rfl rfl (oc_move (x := .val _) rfl rfl) trivial ?_
        refine ch_v (R := []) rfl rfl ((by first | exact oc_indexN rfl rfl rfl (by kernel_rfl) (by omega) | exact oc_index rfl rfl rfl (by kernel_rfl) (by omega) (by omega) rfl)) trivial ?_
        refine ch_v (R := []) rfl rfl (oc_load rfl rfl (by kernel_rfl) cells_str) trivial ?_
        refine ch_v (R := []) rfl rfl (oc_len_str rfl rfl (by kernel_rfl)) trivial ?_
        refine ch_v (R := []) rfl rfl (oc_binZ rfl rfl rfl (by first | exact binW_add (by omega) (by omega) | rfl)) trivial ?_
        refine ch_v (R := [(_, .live _ _)]) rfl rfl (oc_index_own (j := i + (ab.getD k ByteArray.empty).size) rfl rfl rfl (by kernel_rfl) (by omega) (by omega) (by omega)) ⟨rfl, trivial⟩ ?_
        refine ch_v (R := [(_, .live _ _)]) rfl rfl (oc_load_own (t := 3) (cs := (lsW s ab i (lsA s ab (s.size - (i + 1))) k).map vi) (y := vi ((lsA s ab (s.size - (i + 1))).getD (i + (ab.getD k ByteArray.empty).size) 0)) rfl rfl (by kernel_rfl) (by rw [← hat]; exact vi_at (by rw [lsW_len, lsA_len]; omega))) ⟨rfl, trivial⟩ ?_
        refine ch_v (R := []) rfl rfl (oc_binZ rfl rfl rfl (by first | exact binW_add (by omega) (by omega) | rfl)) trivial ?_
        refine ch_v (R := [(_, .live _ _)]) rfl rfl (oc_index_ownN rfl rfl rfl (by kernel_rfl) (by omega)) ⟨rfl, trivial⟩ ?_
        refine ch_n rfl rfl (oc_store (y := vi (2 + (lsA s ab (s.size - (i + 1))).getD (i + (ab.getD k ByteArray.empty).size) 0)) (cs' := ((lsW s ab i (lsA s ab (s.size - (i + 1))) k).set i (2 + (lsA s ab (s.size - (i + 1))).getD (i + (ab.getD k ByteArray.empty).size) 0)).map vi) rfl rfl rfl (by kernel_rfl) (by kernel_rfl) cells_int (by rw [List.length_map, lsW_len, hal]; omega) (vi_put _ _ _)) ⟨rfl, trivial⟩ ?_
        refine ck_nil ?_
        refine aw_text rfl ?_
        refine ch_v (R := []) rfl rfl (oc_move (x := .val _) rfl rfl) trivial ?_
        refine ch_v (R := []) rfl rfl (oc_binZ rfl rfl rfl (by first | exact binW_add (by omega) (by omega) | rfl)) trivial ?_
        refine ch_v (R := []) rfl rfl (oc_assign (x := .val _) rfl rfl) trivial ?_
        refine ck_nil ?_
        exact ⟨k + 1, by omega, by omega, Le.sub (by repeat (first | trivial | refine ⟨.inr rfl, ?_⟩ | refine ⟨.inr (vi_eq (by omega)), ?_⟩)) ⟨by rw [← hst]; rfl, trivial⟩⟩
      · have hst : lsW s ab i (lsA s ab (s.size - (i + 1))) (k + 1) = lsW s ab i (lsA s ab (s.size - (i + 1))) k := by
          have hsk : lsK s ab i (lsA s ab (s.size - (i + 1))) (k + 1) = lsK s ab i (lsA s ab (s.size - (i + 1))) k := by
            show (if _ then _ else _) = _
            rw [if_neg (fun hc => by rw [Bool.and_eq_false_iff, decide_eq_false_iff_not] at hb; rcases hb with hb | hb; (rw [hc.1] at hb; cases hb); exact hb hc.2)]
          unfold lsW
          rw [hsk]
        refine aw_skip ?_
        refine aw_text rfl ?_
        refine ch_v (R := []) rfl rfl (oc_move (x := .val _) rfl rfl) trivial ?_
        refine ch_v (R := []) rfl rfl (oc_binZ rfl rfl rfl (by first | exact binW_add (by omega) (by omega) | rfl)) trivial ?_
        refine ch_v (R := []) rfl rfl (oc_assign (x := .val _) rfl rfl) trivial ?_
        refine ck_nil ?_
        exact ⟨k + 1, by omega, by omega, Le.sub (by repeat (first | trivial | refine ⟨.inr rfl, ?_⟩ | refine ⟨.inr (vi_eq (by omega)), ?_⟩)) ⟨by rw [← hst]; rfl, trivial⟩⟩
    · have hke : k = ab.length := by have h0 := of_decide_eq_false hb; omega
      have hfin := lsA_step (s := s) (ab := ab) (i := i) (by omega)
      refine aw_exit ?_
      refine aw_text rfl ?_
      refine ch_v (R := []) rfl rfl (oc_move (x := .val _) rfl rfl) trivial ?_
      refine ch_v (R := []) rfl rfl (oc_binZ rfl rfl rfl (by first | exact binW_sub (by omega) (by omega) | rfl)) trivial ?_
      refine ch_v (R := []) rfl rfl (oc_assign (x := .val _) rfl rfl) trivial ?_
      refine ck_nil ?_
      exact ⟨i, by omega, by omega, Le.sub (by repeat (first | trivial | refine ⟨.inr rfl, ?_⟩ | refine ⟨.inr (vi_eq (by omega)), ?_⟩)) ⟨by rw [hfin, ← hke]; rfl, trivial⟩⟩
  · have hm0 : m = 0 := by have h0 := of_decide_eq_false hb; omega
    refine aw_exit ?_
    refine aw_seq ?_
    subst hm0
    refine aw_le (Le.freeze 5 0 (fun j => vi ((lsA s ab s.size).getD j 0)) rfl rfl (by rw [List.length_map, lsA_len]) (fun j hj => row_vi _ j (by rw [lsA_len]; exact hj))) ?_
    refine aw_text rfl ?_
    refine ch_v (R := []) rfl rfl (oc_move (x := .sl _ _ _) rfl rfl) trivial ?_
    refine ch_v (R := []) rfl rfl (oc_assign (x := .sl _ _ _) rfl rfl) trivial ?_
    refine ck_nil ?_
    refine aw_ret ?_
    exact ⟨.inl rfl, ResOk.tmp rfl (by unfold slI; rw [lsA_len]; rfl), trivial⟩
end Go.Proofs.YtpbaiighifhfnaaDoor
namespace Go.Proofs.YtpbaiighifhfnaaDoor
open Go.RowKit
set_option maxRecDepth 100000
set_option linter.unusedVariables false
set_option linter.unusedSimpArgs false
/-- A new row of strings. -/
theorem slS_new {E : Env} (hG : Good E) {t : TypeId} {l : List ByteArray} (hl : l.length ≤ maxLen) : Rep { E with w := E.w.alloc (.cells (l.map Value.string).toArray t) } (slS l) (.slice (some ⟨E.w.heap.size, 0, none⟩) l.length l.length) := by
  have hnew : (E.w.alloc (.cells (l.map Value.string).toArray t)).heap[E.w.heap.size]? = some (.cells (l.map Value.string).toArray t (0, 0)) := heap_alloc_new _ _
  unfold slS Rep
  refine ⟨_, _, rfl, Nat.le_refl _, hl, fun h0 => ⟨E.w.heap.size, 0, rfl, ⟨by simp, fun hbad => by have := hG.old _ hbad; omega, fun n hn => by have := (hG.lt n _ hn).1; omega⟩, fun j hj => ⟨.string (l.getD j ByteArray.empty), by unfold Rep; rfl, rfl, fun i u hu => ?_⟩⟩⟩
  have hi : i = 0 ∧ u = .string (l.getD j ByteArray.empty) := by
    cases i with
    | zero => simp [Value.cells] at hu; exact ⟨rfl, hu.symm⟩
    | succ i => simp [Value.cells] at hu
  obtain ⟨rfl, rfl⟩ := hi
  rw [cell_cur hnew]
  simp [hj]
def splitP (s r : ByteArray) : List ByteArray := Lib.splitB r 0 (Lib.countB s r) s
theorem split_pc (s r : ByteArray) (hs : s.size < 4294967281) (hr : 1 ≤ r.size) : PC Tryd.prog 41 [vs s, vs r] (slS (splitP s r)) := by
  intro E vs hG hA _ _ _
  unfold RepL RepL RepL at hA
  obtain ⟨v, us, rfl, hv, v', us', rfl, hv', rfl⟩ := hA
  unfold Rep at hv hv'
  subst hv
  subst hv'
  obtain ⟨_, m, hm⟩ := hG.shp 0 (by simp [gsOf])
  have hlen : (splitP s r).length = Lib.countB s r + 1 := Lib.splitB_all r hr 0 _ s rfl
  have hle := Lib.countB_le r hr s.size s (Nat.le_refl _)
  refine (Tryd.strings_Split s r m E.w hs hm hr).mono ?_
  rintro en w' ⟨rfl, rfl⟩
  have hb : Below E.w.heap.size E.w (E.w.alloc (.cells ((splitP s r).map Value.string).toArray 9)) := (Below.refl _ _).alloc (Nat.le_refl _) _
  have hml : maxLen = 9223372036854775807 := rfl
  have hrep := slS_new hG (t := 9) (l := splitP s r) (by omega)
  rw [hlen] at hrep
  exact ⟨{ E with w := E.w.alloc (.cells ((splitP s r).map Value.string).toArray 9) }, _, rfl, rfl, hG.grow hb, (Step.grow hG hb).kept (by simp), hrep, fun n y hn => by simp [lkH] at hn⟩
end Go.Proofs.YtpbaiighifhfnaaDoor
namespace Go.Proofs.YtpbaiighifhfnaaDoor
open Go.RowKit
set_option linter.unusedVariables false
/-- Bytes and texts, together. -/
def wt : List ByteArray → Nat
  | [] => 0
  | s :: l => s.size + 1 + wt l
theorem wt_append (a b : List ByteArray) : wt (a ++ b) = wt a + wt b := by
  induction a with
  | nil => simp [wt]
  | cons x a ih => simp only [List.cons_append, wt, ih]; omega
theorem wt_len (l : List ByteArray) : l.length ≤ wt l := by
  induction l with
  | nil => exact Nat.le_refl _
  | cons x l ih => simp only [List.length_cons, wt]; omega
theorem wt_size (l : List ByteArray) : ∀ k, (l.getD k ⟨#[]⟩).size ≤ wt l := by
  induction l with
  | nil => intro k; simp; exact Nat.zero_le _
  | cons x l ih =>
    intro k
    cases k with
    | zero => simp only [List.getD_cons_zero, wt]; omega
    | succ k => have := ih k; simp only [List.getD_cons_succ, wt]; omega
theorem few_wt {l : List ByteArray} (h : wt l ≤ 10000) : FewT l := ⟨by have := wt_len l; omega, fun k => by have := wt_size l k; omega⟩
theorem wt_split {r : ByteArray} (hr : 1 ≤ r.size) : ∀ (k : Nat) (s : ByteArray), wt (Lib.splitB r 0 k s) ≤ s.size + 1
  | 0, s => by rw [Lib.splitB_zero]; simp [wt]
  | k + 1, s => by
    rcases Lib.indexB_cases s r with h | ⟨i, h, hi⟩
    · rw [Lib.splitB_miss r 0 (k + 1) s h]; simp [wt]
    · rw [Lib.splitB_hit r 0 k s i h]
      have h1 := wt_split hr k (s.extract (i + r.size) s.size)
      have e1 : (s.extract (i + r.size) s.size).size = s.size - (i + r.size) := by rw [ByteArray.size_extract]; omega
      have e2 : (s.extract 0 (i + 0)).size = i := by rw [ByteArray.size_extract]; omega
      simp only [wt]
      omega
/-- The first k texts, split. -/
def splA (l : List ByteArray) (r : ByteArray) : Nat → List ByteArray
  | 0 => []
  | k + 1 => splA l r k ++ splitP (l.getD k ByteArray.empty) r
theorem wt_splA {r : ByteArray} (hr : 1 ≤ r.size) (l : List ByteArray) : ∀ k, k ≤ l.length → wt (splA l r k) ≤ wt (l.take k)
  | 0, _ => Nat.le_refl _
  | k + 1, hk => by
    have h1 := wt_splA hr l k (by omega)
    have h2 := wt_split hr (Lib.countB (l.getD k ByteArray.empty) r) (l.getD k ByteArray.empty)
    have e : l.take (k + 1) = l.take k ++ [l.getD k ByteArray.empty] := by rw [List.take_add_one]; simp [show k < l.length from hk]
    unfold splA
    rw [wt_append, e, wt_append]
    have : wt [l.getD k ByteArray.empty] = (l.getD k ByteArray.empty).size + 1 := by simp [wt]
    unfold splitP
    omega
theorem wt_spl {r : ByteArray} (hr : 1 ≤ r.size) (l : List ByteArray) : wt (splA l r l.length) ≤ wt l := by
  have := wt_splA hr l l.length (Nat.le_refl _)
  rwa [List.take_length] at this
noncomputable def bestL (l : List ByteArray) : RowP := bestR (cAll l l.length)
noncomputable def chF (upto : Int) : Nat → List ByteArray → List ByteArray → List ByteArray
  | 0, out, _ => out
  | f + 1, out, parts => if (out.length : Int) < min upto 32 then (if (bestL parts).2 ≤ 0 then out else chF upto f (out ++ [(bestL parts).1]) (splA parts (bestL parts).1 parts.length)) else out
noncomputable def chooseP (l : List ByteArray) (upto : Int) : List ByteArray := chF upto 33 [] l
/-- The best is none, or a row of 2 to 8 bytes that stands there. -/
theorem bestL_ok {l : List ByteArray} (h : FewT l) : (bestL l).1.size ≤ 8 ∧ ((bestL l).2 > 0 → 2 ≤ (bestL l).1.size) := by
  have hk := keys_all h l.length
  by_cases hx : ∃ r, BestOf (cAll l l.length) (fun _ => false) r
  · obtain ⟨r, hr⟩ := hx
    unfold bestL
    rw [bestR_eq hr]
    refine ⟨best_size hk hr, fun hp => ?_⟩
    rcases hr with ⟨h1, _⟩ | ⟨h1, _⟩
    · rw [h1] at hp
      exact absurd hp (by decide)
    · exact (hk _ h1).1
  · have e : bestL l = (⟨#[]⟩, 0) := by unfold bestL bestR; rw [dif_neg hx]
    rw [e]
    exact ⟨by decide, fun hp => absurd hp (by decide)⟩
theorem app_vs (l : List ByteArray) : ∀ j, j < l.length → szB ((fun j => vs (l.getD j ByteArray.empty)) j) 1 = true ∧ ∀ i y, i < 1 → (l.map vs)[j * 1 + i]? = some y → (flatA ((fun j => vs (l.getD j ByteArray.empty)) j))[i]? = some y := row_one (fun j y hy => by
  rw [List.getElem?_map] at hy
  cases h : l[j]? with
  | none => rw [h] at hy; cases hy
  | some z => rw [h] at hy; simp at hy; subst hy; simp [List.getD, h]) (fun j hj => ⟨rfl, rfl⟩)
theorem app_vs1 (c : ByteArray) : ∀ j, j < 1 → szB (rowL [vs c] j) 1 = true ∧ ∀ i y, i < 1 → [vs c][j * 1 + i]? = some y → (flatA (rowL [vs c] j))[i]? = some y := fun j hj => by
  have : j = 0 := by omega
  subst this
  refine ⟨rfl, fun i y hi hy => ?_⟩
  have : i = 0 := by omega
  subst this
  exact hy
theorem row_vs (l : List ByteArray) : ∀ j, j < l.length → (l.map vs)[j]? = some ((fun j => vs (l.getD j ByteArray.empty)) j) ∧ oneA ((fun j => vs (l.getD j ByteArray.empty)) j) = true := fun j hj => ⟨by simp [hj], rfl⟩
end Go.Proofs.YtpbaiighifhfnaaDoor
namespace Go.Proofs.YtpbaiighifhfnaaDoor
open Go.RowKit
set_option maxRecDepth 100000
set_option linter.unusedVariables false
set_option linter.unusedSimpArgs false
theorem wt_take {l : List ByteArray} {k b : Nat} (h : wt l ≤ b) : wt (l.take k) ≤ b := by
  have e := List.take_append_drop k l
  have := wt_append (l.take k) (l.drop k)
  rw [e] at this
  omega
abbrev ChSt := List ByteArray × List ByteArray
theorem ren_vs (π : Nat → Nat) (l : List ByteArray) : (l.map vs).map (Av.ren π) = l.map vs := by
  rw [List.map_map]
  exact List.map_congr_left fun x _ => by simp [Av.ren]
theorem non_vs {Z : List Nat} (l : List ByteArray) : ∀ z ∈ l.map vs, NoN Z z := fun z hz => by
  obtain ⟨u, _, rfl⟩ := List.mem_map.1 hz
  simp [NoN]
set_option maxHeartbeats 800000 in
theorem choose_pc (l : List ByteArray) (hl : wt l ≤ 10000) (upto : Int) : PC Tryd.prog 18 [slS l, vi upto] (slS (chooseP l upto)) := by
  refine FC.body 5 42 Tryd.func18 rfl (by kernel_rfl) ?_
  refine aw_seq ?_
  refine aw_text rfl ?_
  refine ch_v (R := []) rfl rfl (oc_assign (x := .val _) rfl rfl) trivial ?_
  refine ck_nil ?_
  refine aw_seq ?_
  refine aw_text rfl ?_
  refine ch_v (R := []) rfl rfl (oc_assign (x := .val _) rfl rfl) trivial ?_
  refine ck_nil ?_
  refine aw_seq ?_
  refine aw_text rfl ?_
  refine ch_v (R := []) rfl rfl (oc_move (x := .sl _ _ _) rfl rfl) trivial ?_
  refine ch_v (R := []) rfl rfl (oc_assign (x := .sl _ _ _) rfl rfl) trivial ?_
  refine ck_nil ?_
  refine aw_seq ?_
  refine aw_block ?_
  refine aw_le (Le.nameNil 5 0 1 9 rfl rfl) ?_
  refine aw_loop (ι := ChSt) (fun q => ⟨[(1, vi upto), (5, .osl 1 0 q.1.length), (6, slS q.2)], [(0, .live 9 (q.1.map vs)), (1, .unborn), (2, .unborn), (3, .unborn), (4, .unborn)]⟩) (fun q => chooseP l upto = chF upto (33 - q.1.length) q.1 q.2 ∧ q.1.length ≤ 32 ∧ wt q.2 ≤ 10000) (fun q => 33 - q.1.length) ([], l) (⟨rfl, Nat.zero_le _, hl⟩) (Le.sub (by repeat (first | trivial | refine ⟨.inr rfl, ?_⟩ | refine ⟨.inr (vi_eq (by omega)), ?_⟩)) (by repeat (first | trivial | refine ⟨rfl, ?_⟩))) ?_
  intro q hI
  refine aw_seq ?_
  refine aw_seq ?_
  refine aw_text rfl ?_
  refine ch_v (R := []) rfl rfl (oc_move (x := .osl _ _ _) rfl rfl) trivial ?_
  refine ch_v (R := [(_, .live _ _)]) rfl rfl (oc_len_own rfl rfl (by kernel_rfl)) ⟨rfl, trivial⟩ ?_
  refine ch_v (R := []) rfl rfl (oc_move (x := .val _) rfl rfl) trivial ?_
  refine ch_v (R := []) rfl rfl (oc_min rfl rfl rfl) trivial ?_
  refine ch_v (R := []) rfl rfl (oc_binZ rfl rfl rfl rfl) trivial ?_
  refine ck_nil ?_
  refine aw_cond rfl (fun hb => ?_) (fun hb => ?_)
  · have hlt : (q.1.length : Int) < min upto 32 := of_decide_eq_true hb
    have hfw := few_wt hI.2.2
    have hwt := hI.2.2
    have hll := hfw.len
    have hbo := bestL_ok hfw
    have hul : q.1.length < 32 := by omega
    refine aw_skip ?_
    refine aw_block ?_
    refine aw_seq ?_
    refine aw_text rfl ?_
    refine ch_v (R := []) rfl rfl (oc_move (x := .sl _ _ _) rfl rfl) trivial ?_
    refine ch_v (R := []) rfl rfl (oc_call rfl (by kernel_rfl) (best_pc q.2 (few_wt hI.2.2)) rfl (by simp only [PureL, Pure, and_self, pure_slI, pure_slS, rowAv, pieces_pure, implies_true]) (by simp only [PureL, Pure, and_self, pure_slI, pure_slS, rowAv, pieces_pure, implies_true])) trivial ?_
    refine ch_u rfl rfl (oc_alloc (zs := [.string ⟨#[]⟩, .int .i64 0]) (cs := [.val _, .val _]) 1 rfl (by kernel_rfl) rfl rfl) ⟨rfl, trivial⟩ ?_
    refine ch_n rfl rfl (oc_store_row (x := .agg _) (cs' := [_, _]) rfl rfl rfl rfl (by kernel_rfl) (by first | decide | exact Nat.le_of_ble_eq_true rfl | simp) (by first | decide | exact Nat.le_of_ble_eq_true rfl | simp) rfl) ⟨rfl, trivial⟩ ?_
    refine ck_nil ?_
    refine aw_seq ?_
    refine aw_seq ?_
    refine aw_text rfl ?_
    refine ch_v (R := [(_, .live _ _)]) rfl rfl (oc_fieldAddr_own (off := 1) (sz := 1) (r := false) rfl rfl (by first | decide | simp) (by kernel_rfl) (by decide)) ⟨rfl, trivial⟩ ?_
    refine ch_v (R := [(_, .live _ _)]) rfl rfl (oc_load_own rfl rfl (by kernel_rfl) rfl) ⟨rfl, trivial⟩ ?_
    refine ch_v (R := []) rfl rfl (oc_binZ rfl rfl rfl rfl) trivial ?_
    refine ck_nil ?_
    refine aw_cond rfl (fun hb => ?_) (fun hb => ?_)
    · have hle : (bestL q.2).2 ≤ 0 := of_decide_eq_true hb
      have hfin : chooseP l upto = q.1 := by rw [hI.1, show 33 - q.1.length = (32 - q.1.length) + 1 from by omega]; show (if _ then _ else _) = _; rw [if_pos hlt, if_pos hle]
      refine aw_exit ?_
      refine aw_seq ?_
      refine aw_le (Le.freeze 5 0 (fun j => vs (q.1.getD j ByteArray.empty)) rfl rfl (by simp) (row_vs _)) ?_
      refine aw_text rfl ?_
      refine ch_v (R := []) rfl rfl (oc_move (x := .sl _ _ _) rfl rfl) trivial ?_
      refine ch_v (R := []) rfl rfl (oc_assign (x := .sl _ _ _) rfl rfl) trivial ?_
      refine ck_nil ?_
      refine aw_ret ?_
      exact ⟨.inl rfl, ResOk.tmp rfl (by rw [hfin]; rfl), trivial⟩
    · have hle : ¬ (bestL q.2).2 ≤ 0 := of_decide_eq_false hb
      have hx2 := hbo.2 (by omega)
      have hch : chooseP l upto = chF upto (33 - (q.1 ++ [(bestL q.2).1]).length) (q.1 ++ [(bestL q.2).1]) (splA q.2 (bestL q.2).1 q.2.length) := by rw [hI.1, show 33 - q.1.length = (32 - q.1.length) + 1 from by omega]; show (if _ then _ else _) = _; rw [if_pos hlt, if_neg hle]; congr 1; (first | (simp; done) | (simp; omega))
      refine aw_skip ?_
      refine aw_seq ?_
      refine aw_text rfl ?_
      refine ch_v (R := []) rfl rfl (oc_move (x := .osl _ _ _) rfl rfl) trivial ?_
      refine ch_v (R := [(_, .live _ _)]) rfl rfl (oc_fieldAddr_own (off := 0) (sz := 1) (r := false) rfl rfl (by first | decide | simp) (by kernel_rfl) (by decide)) ⟨rfl, trivial⟩ ?_
      refine ch_v (R := [(_, .live _ _)]) rfl rfl (oc_load_own rfl rfl (by kernel_rfl) rfl) ⟨rfl, trivial⟩ ?_
      refine ch_v (R := []) rfl rfl (oc_buildSlice (ps := [.tmp 24]) (xs := [.val _]) (e := 9) (k := 1) (by_ := 16) (zs := [.string ⟨#[]⟩]) rfl (by kernel_rfl) (by kernel_rfl) rfl rfl rfl (by decide) (by decide)) trivial ?_
      refine ch_u rfl rfl (oc_append (e := 9) (k := 1) (by_ := 16) (zs := [.string ⟨#[]⟩]) (cs := q.1.map vs) (ds := [vs (bestL q.2).1]) 3 rfl rfl rfl (by kernel_rfl) (by kernel_rfl) rfl (by decide) (by decide) (by simp) rfl (app_vs1 _) (by omega) (by omega)) ⟨rfl, rfl, trivial⟩ ?_
      refine ch_v (R := []) rfl rfl (oc_assign (x := .osl _ _ _) rfl rfl) trivial ?_
      refine ck_nil ?_
      refine aw_le (Le.trans (Le.swap (τ := ⟨[(1, vi upto), (5, .osl 1 0 (q.1.length + 1)), (6, slS q.2), (7, .own 1 0)], [(0, .live 9 ((q.1 ++ [(bestL q.2).1]).map vs)), (1, .live 63 [vs (bestL q.2).1, vi (bestL q.2).2]), (2, .unborn), (3, .dead), (4, .unborn)]⟩) 0 3 (by simp) (by simp) ⟨rfl, rfl, (ren_pure _ _ (pure_slS _)).symm, rfl, trivial⟩ ⟨by show lkH _ 3 = some (Hs.live _ (((q.1 ++ [(bestL q.2).1]).map vs).map _)); rw [ren_vs, List.map_append] <;> rfl, rfl, rfl, rfl, rfl, trivial⟩) (Le.reset (τ := ⟨[(1, vi upto), (5, .osl 1 0 (q.1.length + 1)), (6, slS q.2), (7, .own 1 0)], [(0, .live 9 ((q.1 ++ [(bestL q.2).1]).map vs)), (1, .live 63 [vs (bestL q.2).1, vi (bestL q.2).2]), (2, .unborn), (3, .unborn), (4, .unborn)]⟩) [3] (by simp) (by repeat (first | trivial | refine ⟨.inr rfl, ?_⟩)) ⟨by simp [NoN], by simp [NoN], NoN.of_pure _ (pure_slS _), by simp [NoN], trivial⟩ ⟨by rw [if_neg (by decide)]; exact ⟨rfl, non_vs _⟩, by rw [if_neg (by decide)]; exact ⟨rfl, by simp [NoN]⟩, by rw [if_neg (by decide)]; exact ⟨rfl, trivial⟩, by rw [if_pos (by decide)], by rw [if_neg (by decide)]; exact ⟨rfl, trivial⟩, trivial⟩)) ?_
      refine aw_seq ?_
      refine aw_text rfl ?_
      refine ch_v (R := []) rfl rfl (oc_assign (x := .val _) rfl rfl) trivial ?_
      refine ck_nil ?_
      refine aw_seq ?_
      refine aw_seq ?_
      refine aw_text rfl ?_
      refine ch_v (R := []) rfl rfl (oc_move (x := .sl _ _ _) rfl rfl) trivial ?_
      refine ch_v (R := []) rfl rfl (oc_len rfl rfl (by kernel_rfl)) trivial ?_
      refine ch_v (R := []) rfl rfl (oc_move (x := .val _) rfl rfl) trivial ?_
      refine ck_nil ?_
      refine aw_block ?_
      refine aw_le (Le.nameNil 8 2 1 9 rfl rfl) ?_
      refine aw_loop (ι := Nat) (fun k => ⟨[(1, vi upto), (5, .osl 1 0 (q.1.length + 1)), (7, .own 1 0), (8, .osl 1 2 (splA q.2 (bestL q.2).1 k).length), (27, slS q.2), (28, vi q.2.length), (29, vi k)], [(0, .live 9 ((q.1 ++ [(bestL q.2).1]).map vs)), (1, .live 63 [vs (bestL q.2).1, vi (bestL q.2).2]), (2, .live 9 ((splA q.2 (bestL q.2).1 k).map vs)), (3, .unborn), (4, .unborn)]⟩) (fun k => k ≤ q.2.length) (fun k => q.2.length - k) 0 (Nat.zero_le _) (Le.sub (by repeat (first | trivial | refine ⟨.inr rfl, ?_⟩ | refine ⟨.inr (vi_eq (by omega)), ?_⟩)) (by repeat (first | trivial | refine ⟨rfl, ?_⟩))) ?_
      intro k hI
      refine aw_seq ?_
      refine aw_text rfl ?_
      refine ch_v (R := []) rfl rfl (oc_binZ rfl rfl rfl rfl) trivial ?_
      refine ck_nil ?_
      refine aw_seq ?_
      refine aw_cond rfl (fun hb => ?_) (fun hb => ?_)
      · have hk : k < q.2.length := by have h0 := of_decide_eq_true hb; omega
        have hs1 : (splA q.2 (bestL q.2).1 (k + 1)) = (splA q.2 (bestL q.2).1 k) ++ splitP (q.2.getD k ByteArray.empty) (bestL q.2).1 := rfl
        have hm1 : ((splA q.2 (bestL q.2).1 k) ++ splitP (q.2.getD k ByteArray.empty) (bestL q.2).1).map vs = (splA q.2 (bestL q.2).1 k).map vs ++ (splitP (q.2.getD k ByteArray.empty) (bestL q.2).1).map vs := List.map_append
        have hl1 : (splA q.2 (bestL q.2).1 (k + 1)).length = (splA q.2 (bestL q.2).1 k).length + (splitP (q.2.getD k ByteArray.empty) (bestL q.2).1).length := by rw [hs1, List.length_append]
        have hsz := wt_size q.2 k
        have hwl := wt_splA (r := (bestL q.2).1) (by omega) q.2 k (by omega)
        have hws := wt_split (r := (bestL q.2).1) (by omega) (Lib.countB (q.2.getD k ByteArray.empty) (bestL q.2).1) (q.2.getD k ByteArray.empty)
        have hln := wt_len (splA q.2 (bestL q.2).1 k)
        have hln2 := wt_len (splitP (q.2.getD k ByteArray.empty) (bestL q.2).1)
        have hszk : (q.2.getD k ByteArray.empty).size ≤ wt q.2 := hsz
        have htk : wt (q.2.take k) ≤ 10000 := wt_take hwt
        have hsp : wt (splitP (q.2.getD k ByteArray.empty) (bestL q.2).1) ≤ (q.2.getD k ByteArray.empty).size + 1 := hws
        refine aw_skip ?_
        refine aw_seq ?_
        refine aw_block ?_
        refine aw_seq ?_
        refine aw_text rfl ?_
        refine ch_v (R := []) rfl rfl ((by first | exact oc_indexN rfl rfl rfl (by kernel_rfl) (by omega) | exact oc_index rfl rfl rfl (by kernel_rfl) (by omega) (by omega) rfl)) trivial ?_
        refine ch_v (R := []) rfl rfl (oc_load rfl rfl (by kernel_rfl) cells_str) trivial ?_
        refine ch_v (R := []) rfl rfl (oc_assign (x := .val _) rfl rfl) trivial ?_
        refine ck_nil ?_
        refine aw_text rfl ?_
        refine ch_v (R := []) rfl rfl (oc_move (x := .osl _ _ _) rfl rfl) trivial ?_
        refine ch_v (R := []) rfl rfl (oc_move (x := .val _) rfl rfl) trivial ?_
        refine ch_v (R := [(_, .live _ _)]) rfl rfl (oc_fieldAddr_own (off := 0) (sz := 1) (r := false) rfl rfl (by first | decide | simp) (by kernel_rfl) (by decide)) ⟨rfl, trivial⟩ ?_
        refine ch_v (R := [(_, .live _ _)]) rfl rfl (oc_load_own rfl rfl (by kernel_rfl) rfl) ⟨rfl, trivial⟩ ?_
        refine ch_v (R := []) rfl rfl (oc_call rfl (by kernel_rfl) (split_pc _ _ (by omega) (by omega)) rfl (by simp only [PureL, Pure, and_self, pure_slI, pure_slS, rowAv, pieces_pure, implies_true]) (by simp only [PureL, Pure, and_self, pure_slI, pure_slS, rowAv, pieces_pure, implies_true])) trivial ?_
        refine ch_u rfl rfl (oc_append (e := 9) (k := 1) (by_ := 16) (zs := [.string ⟨#[]⟩]) (cs := (splA q.2 (bestL q.2).1 k).map vs) (ds := (splitP (q.2.getD k ByteArray.empty) (bestL q.2).1).map vs) 4 rfl rfl rfl (by kernel_rfl) (by kernel_rfl) rfl (by decide) (by decide) (by simp) (by simp) (app_vs _) (by omega) (by omega)) ⟨rfl, rfl, trivial⟩ ?_
        refine ch_v (R := []) rfl rfl (oc_assign (x := .osl _ _ _) rfl rfl) trivial ?_
        refine ck_nil ?_
        refine aw_le (Le.trans (Le.swap (τ := ⟨[(1, vi upto), (5, .osl 1 0 (q.1.length + 1)), (7, .own 1 0), (8, .osl 1 2 (splA q.2 (bestL q.2).1 (k + 1)).length), (27, slS q.2), (28, vi q.2.length), (29, vi k)], [(0, .live 9 ((q.1 ++ [(bestL q.2).1]).map vs)), (1, .live 63 [vs (bestL q.2).1, vi (bestL q.2).2]), (2, .live 9 ((splA q.2 (bestL q.2).1 (k + 1)).map vs)), (3, .unborn), (4, .dead)]⟩) 2 4 (by simp) (by simp) ⟨rfl, rfl, rfl, by rw [hl1]; rfl, (ren_pure _ _ (pure_slS _)).symm, rfl, rfl, trivial⟩ ⟨by show lkH _ 0 = some (Hs.live _ (((q.1 ++ [(bestL q.2).1]).map vs).map _)); rw [ren_vs]; rfl, rfl, by show lkH _ 4 = some (Hs.live _ (((splA q.2 (bestL q.2).1 (k + 1)).map vs).map _)); rw [ren_vs, hs1, hm1]; rfl, rfl, rfl, trivial⟩) (Le.reset (τ := ⟨[(1, vi upto), (5, .osl 1 0 (q.1.length + 1)), (7, .own 1 0), (8, .osl 1 2 (splA q.2 (bestL q.2).1 (k + 1)).length), (27, slS q.2), (28, vi q.2.length), (29, vi k)], [(0, .live 9 ((q.1 ++ [(bestL q.2).1]).map vs)), (1, .live 63 [vs (bestL q.2).1, vi (bestL q.2).2]), (2, .live 9 ((splA q.2 (bestL q.2).1 (k + 1)).map vs)), (3, .unborn), (4, .unborn)]⟩) [4] (by simp) (by repeat (first | trivial | refine ⟨.inr rfl, ?_⟩)) ⟨by simp [NoN], by simp [NoN], by simp [NoN], by simp [NoN], NoN.of_pure _ (pure_slS _), by simp [NoN], by simp [NoN], trivial⟩ ⟨by rw [if_neg (by decide)]; exact ⟨rfl, non_vs _⟩, by rw [if_neg (by decide)]; exact ⟨rfl, by simp [NoN]⟩, by rw [if_neg (by decide)]; exact ⟨rfl, non_vs _⟩, by rw [if_neg (by decide)]; exact ⟨rfl, trivial⟩, by rw [if_pos (by decide)], trivial⟩)) ?_
        refine aw_text rfl ?_
        refine ch_v (R := []) rfl rfl (oc_binZ rfl rfl rfl (by first | exact binW_add (by omega) (by omega) | rfl)) trivial ?_
        refine ch_v (R := []) rfl rfl (oc_move (x := .val _) rfl rfl) trivial ?_
        refine ck_nil ?_
        exact ⟨k + 1, by omega, by omega, Le.sub (by repeat (first | trivial | refine ⟨.inr rfl, ?_⟩ | refine ⟨.inr (vi_eq (by omega)), ?_⟩)) ⟨rfl, rfl, rfl, rfl, rfl, trivial⟩⟩
      · have hke : k = q.2.length := by have h0 := of_decide_eq_false hb; omega
        subst hke
        refine aw_exit ?_
        refine aw_le (Le.freeze 8 2 (fun j => vs ((splA q.2 (bestL q.2).1 q.2.length).getD j ByteArray.empty)) rfl rfl (by simp) (row_vs _)) ?_
        refine aw_text rfl ?_
        refine ch_v (R := []) rfl rfl (oc_move (x := .sl _ _ _) rfl rfl) trivial ?_
        refine ch_v (R := []) rfl rfl (oc_assign (x := .sl _ _ _) rfl rfl) trivial ?_
        refine ck_nil ?_
        exact ⟨(q.1 ++ [(bestL q.2).1], splA q.2 (bestL q.2).1 q.2.length), ⟨hch, by simp; omega, by have h9 := wt_spl (r := (bestL q.2).1) (by omega) q.2; show wt (splA _ _ _) ≤ _; omega⟩, by simp; omega, Le.reset [1, 2] (by simp) (by repeat (first | trivial | refine ⟨.inr rfl, ?_⟩ | refine ⟨.inr (by show lkS _ 5 = Av.osl 1 0 (q.1 ++ [(bestL q.2).1]).length; rw [List.length_append]; rfl), ?_⟩)) ⟨by simp [NoN], by simp [NoN], NoN.of_pure _ (pure_slS _), trivial⟩ ⟨by rw [if_neg (by decide)]; exact ⟨rfl, by intro z hz; obtain ⟨u, _, rfl⟩ := List.mem_map.1 hz; simp [NoN]⟩, by rw [if_pos (by decide)], by rw [if_pos (by decide)], by rw [if_neg (by decide)]; exact ⟨rfl, trivial⟩, by rw [if_neg (by decide)]; exact ⟨rfl, trivial⟩, trivial⟩⟩
  · have hge : ¬ (q.1.length : Int) < min upto 32 := of_decide_eq_false hb
    have hfin : chooseP l upto = q.1 := by rw [hI.1]; cases 33 - q.1.length <;> simp [chF, hge]
    refine aw_exit ?_
    refine aw_seq ?_
    refine aw_le (Le.freeze 5 0 (fun j => vs (q.1.getD j ByteArray.empty)) rfl rfl (by simp) (row_vs _)) ?_
    refine aw_text rfl ?_
    refine ch_v (R := []) rfl rfl (oc_move (x := .sl _ _ _) rfl rfl) trivial ?_
    refine ch_v (R := []) rfl rfl (oc_assign (x := .sl _ _ _) rfl rfl) trivial ?_
    refine ck_nil ?_
    refine aw_ret ?_
    exact ⟨.inl rfl, ResOk.tmp rfl (by rw [hfin]; rfl), trivial⟩
end Go.Proofs.YtpbaiighifhfnaaDoor
namespace Go.Proofs.YtpbaiighifhfnaaDoor
open Go.RowKit
set_option maxRecDepth 100000
set_option linter.unusedVariables false
theorem pref_list (s p : ByteArray) : Lib.hasPrefix s.data.toList p.data.toList = (decide (p.size ≤ s.size) && decide (s.extract 0 p.size = p)) := by
  rw [Bool.eq_iff_iff]
  unfold Lib.hasPrefix
  rw [List.isPrefixOf_iff_prefix, Bool.and_eq_true, decide_eq_true_eq, decide_eq_true_eq]
  have hs : s.data.toList.length = s.size := by rw [Array.length_toList]; rfl
  have hp : p.data.toList.length = p.size := by rw [Array.length_toList]; rfl
  have key : (s.extract 0 p.size).data.toList = s.data.toList.take p.size := by
    rw [ByteArray.data_extract, Array.toList_extract, List.extract_eq_take_drop]
    simp
  constructor
  · intro h
    have hl := h.length_le
    refine ⟨by omega, ?_⟩
    have e := List.prefix_iff_eq_take.1 h
    rw [hp] at e
    have : (s.extract 0 p.size).data.toList = p.data.toList := by rw [key, ← e]
    exact ByteArray.ext (Array.toList_inj.1 this)
  · intro h
    rw [List.prefix_iff_eq_take, hp, ← key, h.2]
theorem hasPrefix_pc (s p : ByteArray) : PC Tryd.prog 37 [vs s, vs p] (vb (decide (p.size ≤ s.size) && decide (s.extract 0 p.size = p))) := by
  intro E vs hG hA _ _ _
  unfold RepL RepL RepL at hA
  obtain ⟨v, us, rfl, hv, v', us', rfl, hv', rfl⟩ := hA
  unfold Rep at hv hv'
  subst hv
  subst hv'
  refine (Tryd.strings_HasPrefix s p E.w).mono ?_
  rintro en w' ⟨rfl, rfl⟩
  have hb : Below E.w.heap.size E.w E.w := Below.refl _ _
  exact ⟨E, _, rfl, rfl, hG, (Step.refl E).kept (by simp), by rw [pref_list]; unfold Rep; rfl, fun n y hn => by simp [lkH] at hn⟩
/-- From a place on. -/
theorem pref_at {s a : ByteArray} {i : Nat} (hi : i ≤ s.size) : (decide (a.size ≤ (s.extract i s.size).size) && decide ((s.extract i s.size).extract 0 a.size = a)) = (decide (i + a.size ≤ s.size) && decide (s.extract i (i + a.size) = a)) := by
  have e1 : (s.extract i s.size).size = s.size - i := by rw [ByteArray.size_extract]; omega
  rw [e1]
  by_cases h : i + a.size ≤ s.size
  · have e2 : (s.extract i s.size).extract 0 a.size = s.extract i (i + a.size) := by
      refine tB_inj ?_
      rw [tB_extract, tB_extract, tB_extract]
      rw [List.drop_zero, List.take_of_length_le (l := tB s) (by rw [tB_len]; exact Nat.le_refl _), List.drop_take]
      congr 1
      omega
    rw [e2]
    congr 1
    rw [decide_eq_decide]
    omega
  · have f2 : decide (i + a.size ≤ s.size) = false := by simp; omega
    have f3 : decide (a.size ≤ s.size - i) = false := by simp; omega
    rw [f2, f3]
    rfl
end Go.Proofs.YtpbaiighifhfnaaDoor
