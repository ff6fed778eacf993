/- The walks of the tables' tests. -/
import Derived.Test.YtjloemlnejndmaaIsp
import Derived.Test.YtjloemlnejndmaaProg
import Derived.KernelRfl
namespace Go.Proofs.Ytjloemlnejndmaa
open Go.RowKit
set_option maxRecDepth 100000
set_option linter.unusedVariables false
set_option linter.unusedSimpArgs false
theorem mixed : Try.prog.follows .mixedOrders = true := by kernel_rfl
set_option maxHeartbeats 800000 in
theorem among_pc (n lo hi : Int) : PC Try.prog 64 [vi n, vi lo, vi hi] (vb (among n lo hi)) := by
  refine FC.body 6 15 Try.func64 rfl (by kernel_rfl) ?_
  refine aw_seq ?_
  refine aw_text rfl ?_
  refine ch_v (R := []) rfl rfl (oc_assign (x := .val _) rfl rfl) trivial ?_
  refine ck_nil ?_
  refine aw_seq ?_
  refine aw_text rfl ?_
  refine ch_v (R := []) rfl rfl (oc_move (x := .val _) rfl rfl) trivial ?_
  refine ch_v (R := []) rfl rfl (oc_move (x := .val _) rfl rfl) trivial ?_
  refine ch_v (R := []) rfl rfl (oc_binZ rfl rfl rfl rfl) trivial ?_
  refine ch_v (R := []) rfl rfl (oc_move (x := .val _) rfl rfl) trivial ?_
  refine ch_g (R := []) rfl rfl rfl gate_t (fun hC => oc_move (x := .val _) rfl rfl) (fun hC => ⟨(by first | rfl | exact hC | (simp only [Bool.and_eq_true] at hC; first | exact hC.1 | exact hC.1.1 | exact hC.2) | simp_all), trivial⟩) trivial ?_
  refine ch_g (R := []) rfl rfl rfl gate_t (fun hC => oc_move (x := .val _) rfl rfl) (fun hC => ⟨(by first | rfl | exact hC | (simp only [Bool.and_eq_true] at hC; first | exact hC.1 | exact hC.1.1 | exact hC.2) | simp_all), trivial⟩) trivial ?_
  refine ch_g (R := []) rfl rfl rfl gate_t (fun hC => oc_binZ rfl rfl rfl rfl) (fun hC => ⟨(by first | rfl | exact hC | (simp only [Bool.and_eq_true] at hC; first | exact hC.1 | exact hC.1.1 | exact hC.2) | simp_all), (by first | rfl | exact hC | (simp only [Bool.and_eq_true] at hC; first | exact hC.1 | exact hC.1.1 | exact hC.2) | simp_all), trivial⟩) trivial ?_
  refine ch_v (R := []) rfl rfl (oc_and rfl rfl rfl rfl (by first | exact fun h => h | simp_all)) trivial ?_
  refine ch_v (R := []) rfl rfl (oc_assign (x := .val _) rfl rfl) trivial ?_
  refine ck_nil ?_
  refine aw_ret ?_
  exact ⟨.inl rfl, ResOk.tmp rfl rfl, trivial⟩
set_option maxHeartbeats 800000 in
theorem rfrom_pc (n lo hi : Int) : PC Try.prog 31 [vi n, vi lo, vi hi] (vb (among n lo hi)) := by
  refine FC.body 6 15 Try.func31 rfl (by kernel_rfl) ?_
  refine aw_seq ?_
  refine aw_text rfl ?_
  refine ch_v (R := []) rfl rfl (oc_assign (x := .val _) rfl rfl) trivial ?_
  refine ck_nil ?_
  refine aw_seq ?_
  refine aw_text rfl ?_
  refine ch_v (R := []) rfl rfl (oc_move (x := .val _) rfl rfl) trivial ?_
  refine ch_v (R := []) rfl rfl (oc_move (x := .val _) rfl rfl) trivial ?_
  refine ch_v (R := []) rfl rfl (oc_binZ rfl rfl rfl rfl) trivial ?_
  refine ch_v (R := []) rfl rfl (oc_move (x := .val _) rfl rfl) trivial ?_
  refine ch_g (R := []) rfl rfl rfl gate_t (fun hC => oc_move (x := .val _) rfl rfl) (fun hC => ⟨(by first | rfl | exact hC | (simp only [Bool.and_eq_true] at hC; first | exact hC.1 | exact hC.1.1 | exact hC.2) | simp_all), trivial⟩) trivial ?_
  refine ch_g (R := []) rfl rfl rfl gate_t (fun hC => oc_move (x := .val _) rfl rfl) (fun hC => ⟨(by first | rfl | exact hC | (simp only [Bool.and_eq_true] at hC; first | exact hC.1 | exact hC.1.1 | exact hC.2) | simp_all), trivial⟩) trivial ?_
  refine ch_g (R := []) rfl rfl rfl gate_t (fun hC => oc_binZ rfl rfl rfl rfl) (fun hC => ⟨(by first | rfl | exact hC | (simp only [Bool.and_eq_true] at hC; first | exact hC.1 | exact hC.1.1 | exact hC.2) | simp_all), (by first | rfl | exact hC | (simp only [Bool.and_eq_true] at hC; first | exact hC.1 | exact hC.1.1 | exact hC.2) | simp_all), trivial⟩) trivial ?_
  refine ch_v (R := []) rfl rfl (oc_and rfl rfl rfl rfl (by first | exact fun h => h | simp_all)) trivial ?_
  refine ch_v (R := []) rfl rfl (oc_assign (x := .val _) rfl rfl) trivial ?_
  refine ck_nil ?_
  refine aw_ret ?_
  exact ⟨.inl rfl, ResOk.tmp rfl rfl, trivial⟩
set_option maxHeartbeats 800000 in
theorem rIs_pc (n : Int) : PC Try.prog 30 [vi n] (vb (isV16 n)) := by
  refine FC.body 6 9 Try.func30 rfl (by kernel_rfl) ?_
  refine aw_seq ?_
  refine aw_text rfl ?_
  refine ch_v (R := []) rfl rfl (oc_assign (x := .val _) rfl rfl) trivial ?_
  refine ck_nil ?_
  refine aw_seq ?_
  refine aw_text rfl ?_
  refine ch_v (R := []) rfl rfl (oc_move (x := .val _) rfl rfl) trivial ?_
  refine ch_v (R := []) rfl rfl (oc_binZ rfl rfl rfl rfl) trivial ?_
  refine ch_v (R := []) rfl rfl (oc_move (x := .val _) rfl rfl) trivial ?_
  refine ch_g (R := []) rfl rfl rfl gate_t (fun hC => oc_move (x := .val _) rfl rfl) (fun hC => ⟨(by first | rfl | exact hC | (simp only [Bool.and_eq_true] at hC; first | exact hC.1 | exact hC.1.1 | exact hC.2) | simp_all), trivial⟩) trivial ?_
  refine ch_g (R := []) rfl rfl rfl gate_t (fun hC => oc_binZ rfl rfl rfl rfl) (fun hC => ⟨(by first | rfl | exact hC | (simp only [Bool.and_eq_true] at hC; first | exact hC.1 | exact hC.1.1 | exact hC.2) | simp_all), (by first | rfl | exact hC | (simp only [Bool.and_eq_true] at hC; first | exact hC.1 | exact hC.1.1 | exact hC.2) | simp_all), trivial⟩) trivial ?_
  refine ch_v (R := []) rfl rfl (oc_and rfl rfl rfl rfl (by first | exact fun h => h | simp_all)) trivial ?_
  refine ch_v (R := []) rfl rfl (oc_assign (x := .val _) rfl rfl) trivial ?_
  refine ck_nil ?_
  refine aw_ret ?_
  exact ⟨.inl rfl, ResOk.tmp rfl rfl, trivial⟩
set_option maxHeartbeats 800000 in
theorem rsmall_pc (n : Int) : PC Try.prog 93 [.val (.int .u8 n)] (vb (smallC n)) := by
  refine FC.body 6 9 Try.func93 rfl (by kernel_rfl) ?_
  refine aw_seq ?_
  refine aw_text rfl ?_
  refine ch_v (R := []) rfl rfl (oc_assign (x := .val _) rfl rfl) trivial ?_
  refine ck_nil ?_
  refine aw_seq ?_
  refine aw_text rfl ?_
  refine ch_v (R := []) rfl rfl (oc_move (x := .val _) rfl rfl) trivial ?_
  refine ch_v (R := []) rfl rfl (oc_binZ rfl rfl rfl rfl) trivial ?_
  refine ch_v (R := []) rfl rfl (oc_move (x := .val _) rfl rfl) trivial ?_
  refine ch_g (R := []) rfl rfl rfl gate_t (fun hC => oc_move (x := .val _) rfl rfl) (fun hC => ⟨(by first | rfl | exact hC | (simp only [Bool.and_eq_true] at hC; first | exact hC.1 | exact hC.1.1 | exact hC.2) | simp_all), trivial⟩) trivial ?_
  refine ch_g (R := []) rfl rfl rfl gate_t (fun hC => oc_binZ rfl rfl rfl rfl) (fun hC => ⟨(by first | rfl | exact hC | (simp only [Bool.and_eq_true] at hC; first | exact hC.1 | exact hC.1.1 | exact hC.2) | simp_all), (by first | rfl | exact hC | (simp only [Bool.and_eq_true] at hC; first | exact hC.1 | exact hC.1.1 | exact hC.2) | simp_all), trivial⟩) trivial ?_
  refine ch_v (R := []) rfl rfl (oc_and rfl rfl rfl rfl (by first | exact fun h => h | simp_all)) trivial ?_
  refine ch_v (R := []) rfl rfl (oc_assign (x := .val _) rfl rfl) trivial ?_
  refine ck_nil ?_
  refine aw_ret ?_
  exact ⟨.inl rfl, ResOk.tmp rfl rfl, trivial⟩
set_option maxHeartbeats 800000 in
theorem rdigit_pc (n : Int) : PC Try.prog 94 [.val (.int .u8 n)] (vb (digitC n)) := by
  refine FC.body 6 9 Try.func94 rfl (by kernel_rfl) ?_
  refine aw_seq ?_
  refine aw_text rfl ?_
  refine ch_v (R := []) rfl rfl (oc_assign (x := .val _) rfl rfl) trivial ?_
  refine ck_nil ?_
  refine aw_seq ?_
  refine aw_text rfl ?_
  refine ch_v (R := []) rfl rfl (oc_move (x := .val _) rfl rfl) trivial ?_
  refine ch_v (R := []) rfl rfl (oc_binZ rfl rfl rfl rfl) trivial ?_
  refine ch_v (R := []) rfl rfl (oc_move (x := .val _) rfl rfl) trivial ?_
  refine ch_g (R := []) rfl rfl rfl gate_t (fun hC => oc_move (x := .val _) rfl rfl) (fun hC => ⟨(by first | rfl | exact hC | (simp only [Bool.and_eq_true] at hC; first | exact hC.1 | exact hC.1.1 | exact hC.2) | simp_all), trivial⟩) trivial ?_
  refine ch_g (R := []) rfl rfl rfl gate_t (fun hC => oc_binZ rfl rfl rfl rfl) (fun hC => ⟨(by first | rfl | exact hC | (simp only [Bool.and_eq_true] at hC; first | exact hC.1 | exact hC.1.1 | exact hC.2) | simp_all), (by first | rfl | exact hC | (simp only [Bool.and_eq_true] at hC; first | exact hC.1 | exact hC.1.1 | exact hC.2) | simp_all), trivial⟩) trivial ?_
  refine ch_v (R := []) rfl rfl (oc_and rfl rfl rfl rfl (by first | exact fun h => h | simp_all)) trivial ?_
  refine ch_v (R := []) rfl rfl (oc_assign (x := .val _) rfl rfl) trivial ?_
  refine ck_nil ?_
  refine aw_ret ?_
  exact ⟨.inl rfl, ResOk.tmp rfl rfl, trivial⟩
set_option maxHeartbeats 800000 in
theorem rgreat_pc (n : Int) : PC Try.prog 96 [.val (.int .u8 n)] (vb (greatC n)) := by
  refine FC.body 6 9 Try.func96 rfl (by kernel_rfl) ?_
  refine aw_seq ?_
  refine aw_text rfl ?_
  refine ch_v (R := []) rfl rfl (oc_assign (x := .val _) rfl rfl) trivial ?_
  refine ck_nil ?_
  refine aw_seq ?_
  refine aw_text rfl ?_
  refine ch_v (R := []) rfl rfl (oc_move (x := .val _) rfl rfl) trivial ?_
  refine ch_v (R := []) rfl rfl (oc_binZ rfl rfl rfl rfl) trivial ?_
  refine ch_v (R := []) rfl rfl (oc_move (x := .val _) rfl rfl) trivial ?_
  refine ch_g (R := []) rfl rfl rfl gate_t (fun hC => oc_move (x := .val _) rfl rfl) (fun hC => ⟨(by first | rfl | exact hC | (simp only [Bool.and_eq_true] at hC; first | exact hC.1 | exact hC.1.1 | exact hC.2) | simp_all), trivial⟩) trivial ?_
  refine ch_g (R := []) rfl rfl rfl gate_t (fun hC => oc_binZ rfl rfl rfl rfl) (fun hC => ⟨(by first | rfl | exact hC | (simp only [Bool.and_eq_true] at hC; first | exact hC.1 | exact hC.1.1 | exact hC.2) | simp_all), (by first | rfl | exact hC | (simp only [Bool.and_eq_true] at hC; first | exact hC.1 | exact hC.1.1 | exact hC.2) | simp_all), trivial⟩) trivial ?_
  refine ch_v (R := []) rfl rfl (oc_and rfl rfl rfl rfl (by first | exact fun h => h | simp_all)) trivial ?_
  refine ch_v (R := []) rfl rfl (oc_assign (x := .val _) rfl rfl) trivial ?_
  refine ck_nil ?_
  refine aw_ret ?_
  exact ⟨.inl rfl, ResOk.tmp rfl rfl, trivial⟩
set_option maxHeartbeats 800000 in
theorem rRow_pc (n : Int) : PC Try.prog 95 [.val (.int .u8 n)] (vb (rowC n)) := by
  refine FC.body 6 21 Try.func95 rfl (by kernel_rfl) ?_
  refine aw_seq ?_
  refine aw_text rfl ?_
  refine ch_v (R := []) rfl rfl (oc_assign (x := .val _) rfl rfl) trivial ?_
  refine ck_nil ?_
  refine aw_seq ?_
  refine aw_text rfl ?_
  refine ch_v (R := []) rfl rfl (oc_move (x := .val _) rfl rfl) trivial ?_
  refine ch_v (R := []) rfl rfl (oc_call rfl (by kernel_rfl) (rsmall_pc _) rfl (by simp only [PureL, Pure, and_self, pure_tab, pure_th, pure_slI, pure_slS, pure_ways, pure_way, pure_line, pure_lines, pure_slot, pure_verb, pure_deed, pure_things, pure_acts, pure_deeds]) (by simp only [PureL, Pure, and_self, pure_tab, pure_th, pure_slI, pure_slS, pure_ways, pure_way, pure_line, pure_lines, pure_slot, pure_verb, pure_deed, pure_things, pure_acts, pure_deeds])) trivial ?_
  refine ch_v (R := []) rfl rfl (oc_move (x := .val _) rfl rfl) trivial ?_
  refine ch_g (R := []) rfl rfl rfl gate_f (fun hC => oc_move (x := .val _) rfl rfl) (fun hC => ⟨(by first | rfl | exact hC | (simp only [Bool.and_eq_true] at hC; first | exact hC.1 | exact hC.1.1 | exact hC.2) | simp_all), trivial⟩) trivial ?_
  refine ch_g (R := []) rfl rfl rfl gate_f (fun hC => oc_call rfl (by kernel_rfl) (rgreat_pc _) rfl (by simp only [PureL, Pure, and_self, pure_tab, pure_th, pure_slI, pure_slS, pure_ways, pure_way, pure_line, pure_lines, pure_slot, pure_verb, pure_deed, pure_things, pure_acts, pure_deeds]) (by simp only [PureL, Pure, and_self, pure_tab, pure_th, pure_slI, pure_slS, pure_ways, pure_way, pure_line, pure_lines, pure_slot, pure_verb, pure_deed, pure_things, pure_acts, pure_deeds])) (fun hC => ⟨(by first | rfl | exact hC | (simp only [Bool.and_eq_true] at hC; first | exact hC.1 | exact hC.1.1 | exact hC.2) | simp_all), (by first | rfl | exact hC | (simp only [Bool.and_eq_true] at hC; first | exact hC.1 | exact hC.1.1 | exact hC.2) | simp_all), trivial⟩) trivial ?_
  refine ch_v (R := []) rfl rfl (oc_or rfl rfl rfl (by first | exact fun h => h | simp_all)) trivial ?_
  refine ch_v (R := []) rfl rfl (oc_move (x := .val _) rfl rfl) trivial ?_
  refine ch_g (R := []) rfl rfl rfl gate_f (fun hC => oc_move (x := .val _) rfl rfl) (fun hC => ⟨(by first | rfl | exact hC | (simp only [Bool.and_eq_true] at hC; first | exact hC.1 | exact hC.1.1 | exact hC.2) | simp_all), trivial⟩) trivial ?_
  refine ch_g (R := []) rfl rfl rfl gate_f (fun hC => oc_call rfl (by kernel_rfl) (rdigit_pc _) rfl (by simp only [PureL, Pure, and_self, pure_tab, pure_th, pure_slI, pure_slS, pure_ways, pure_way, pure_line, pure_lines, pure_slot, pure_verb, pure_deed, pure_things, pure_acts, pure_deeds]) (by simp only [PureL, Pure, and_self, pure_tab, pure_th, pure_slI, pure_slS, pure_ways, pure_way, pure_line, pure_lines, pure_slot, pure_verb, pure_deed, pure_things, pure_acts, pure_deeds])) (fun hC => ⟨(by first | rfl | exact hC | (simp only [Bool.and_eq_true] at hC; first | exact hC.1 | exact hC.1.1 | exact hC.2) | simp_all), (by first | rfl | exact hC | (simp only [Bool.and_eq_true] at hC; first | exact hC.1 | exact hC.1.1 | exact hC.2) | simp_all), trivial⟩) trivial ?_
  refine ch_v (R := []) rfl rfl (oc_or rfl rfl rfl (by first | exact fun h => h | simp_all)) trivial ?_
  refine ch_v (R := []) rfl rfl (oc_move (x := .val _) rfl rfl) trivial ?_
  refine ch_g (R := []) rfl rfl rfl gate_f (fun hC => oc_move (x := .val _) rfl rfl) (fun hC => ⟨(by first | rfl | exact hC | (simp only [Bool.and_eq_true] at hC; first | exact hC.1 | exact hC.1.1 | exact hC.2) | simp_all), trivial⟩) trivial ?_
  refine ch_g (R := []) rfl rfl rfl gate_f (fun hC => oc_binZ rfl rfl rfl rfl) (fun hC => ⟨(by first | rfl | exact hC | (simp only [Bool.and_eq_true] at hC; first | exact hC.1 | exact hC.1.1 | exact hC.2) | simp_all), (by first | rfl | exact hC | (simp only [Bool.and_eq_true] at hC; first | exact hC.1 | exact hC.1.1 | exact hC.2) | simp_all), trivial⟩) trivial ?_
  refine ch_v (R := []) rfl rfl (oc_or rfl rfl rfl (by first | exact fun h => h | simp_all)) trivial ?_
  refine ch_v (R := []) rfl rfl (oc_move (x := .val _) rfl rfl) trivial ?_
  refine ch_g (R := []) rfl rfl rfl gate_f (fun hC => oc_move (x := .val _) rfl rfl) (fun hC => ⟨(by first | rfl | exact hC | (simp only [Bool.and_eq_true] at hC; first | exact hC.1 | exact hC.1.1 | exact hC.2) | simp_all), trivial⟩) trivial ?_
  refine ch_g (R := []) rfl rfl rfl gate_f (fun hC => oc_binZ rfl rfl rfl rfl) (fun hC => ⟨(by first | rfl | exact hC | (simp only [Bool.and_eq_true] at hC; first | exact hC.1 | exact hC.1.1 | exact hC.2) | simp_all), (by first | rfl | exact hC | (simp only [Bool.and_eq_true] at hC; first | exact hC.1 | exact hC.1.1 | exact hC.2) | simp_all), trivial⟩) trivial ?_
  refine ch_v (R := []) rfl rfl (oc_or rfl rfl rfl (by first | exact fun h => h | simp_all)) trivial ?_
  refine ch_v (R := []) rfl rfl (oc_assign (x := .val _) rfl rfl) trivial ?_
  refine ck_nil ?_
  refine aw_ret ?_
  exact ⟨.inl rfl, ResOk.tmp rfl rfl, trivial⟩
theorem is16 (n : Int) : (n == IntKind.i64.wrap (IntKind.i16.wrap n)) = isV16 n := by
  have h := w_i16 n
  rw [i64_in _ (by omega) (by omega), h]
  unfold isV16 among
  rw [Bool.eq_iff_iff]
  simp
  omega
set_option maxHeartbeats 800000 in
theorem Is_pc (n : Int) : PC Try.prog 60 [vi n] (vb (isV16 n)) := by
  refine FC.body 6 8 Try.func60 rfl (by kernel_rfl) ?_
  refine aw_seq ?_
  refine aw_text rfl ?_
  refine ch_v (R := []) rfl rfl (oc_assign (x := .val _) rfl rfl) trivial ?_
  refine ck_nil ?_
  refine aw_seq ?_
  refine aw_text rfl ?_
  refine ch_v (R := []) rfl rfl (oc_move (x := .val _) rfl rfl) trivial ?_
  refine ch_v (R := []) rfl rfl (oc_move (x := .val _) rfl rfl) trivial ?_
  refine ch_v (R := []) rfl rfl (oc_conv (k := .i64) .i16 rfl rfl (by kernel_rfl) (by kernel_rfl)) trivial ?_
  refine ch_v (R := []) rfl rfl (oc_conv (k := .i16) .i64 rfl rfl (by kernel_rfl) (by kernel_rfl)) trivial ?_
  refine ch_v (R := []) rfl rfl (oc_binZ rfl rfl rfl rfl) trivial ?_
  refine ch_v (R := []) rfl rfl (oc_assign (x := .val _) rfl rfl) trivial ?_
  refine ck_nil ?_
  refine aw_ret ?_
  exact ⟨.inl rfl, ResOk.tmp rfl (vb_eq (is16 n)), trivial⟩
set_option maxHeartbeats 800000 in
theorem thing_pc (t : TabP) (n : Int) : PC Try.prog 65 [tabAv t, vi n] (vb (thingB t n)) := by
  refine FC.body 6 11 Try.func65 rfl (by kernel_rfl) ?_
  refine aw_fact (t := 0) (x := tabAv t) rfl (tab_few t) fun hf => ?_
  have hf1 := hf.params
  have hf2 := hf.texts
  have hf3 := hf.things
  have hf4 := hf.acts
  refine aw_seq ?_
  refine aw_text rfl ?_
  refine ch_v (R := []) rfl rfl (oc_box (x := .agg _) rfl rfl) trivial ?_
  refine ch_v (R := []) rfl rfl (oc_assign (x := .val _) rfl rfl) trivial ?_
  refine ck_nil ?_
  refine aw_seq ?_
  refine aw_text rfl ?_
  refine ch_v (R := []) rfl rfl (oc_move (x := .val _) rfl rfl) trivial ?_
  refine ch_v (R := []) rfl rfl (oc_fieldAddr (off := 8) rfl rfl rfl (by kernel_rfl) rfl) trivial ?_
  refine ch_v (R := []) rfl rfl (oc_load rfl rfl (by kernel_rfl) cells_sl) trivial ?_
  refine ch_v (R := []) rfl rfl (oc_len rfl rfl (by kernel_rfl)) trivial ?_
  refine ch_v (R := []) rfl rfl (oc_binZ rfl rfl rfl (by first | exact binW_sub (by omega) (by omega) | rfl)) trivial ?_
  refine ch_v (R := []) rfl rfl (oc_call rfl (by kernel_rfl) (among_pc _ _ _) rfl (by simp only [PureL, Pure, and_self, pure_tab, pure_th, pure_slI, pure_slS, pure_ways, pure_way, pure_line, pure_lines, pure_slot, pure_verb, pure_deed, pure_things, pure_acts, pure_deeds]) (by simp only [PureL, Pure, and_self, pure_tab, pure_th, pure_slI, pure_slS, pure_ways, pure_way, pure_line, pure_lines, pure_slot, pure_verb, pure_deed, pure_things, pure_acts, pure_deeds])) trivial ?_
  refine ch_v (R := []) rfl rfl (oc_assign (x := .val _) rfl rfl) trivial ?_
  refine ck_nil ?_
  refine aw_ret ?_
  exact ⟨.inl rfl, ResOk.tmp rfl rfl, trivial⟩
set_option maxHeartbeats 800000 in
theorem rthing_pc (t : TabP) (n : Int) : PC Try.prog 44 [tabAv t, vi n] (vb (thingB t n)) := by
  refine FC.body 6 11 Try.func44 rfl (by kernel_rfl) ?_
  refine aw_fact (t := 0) (x := tabAv t) rfl (tab_few t) fun hf => ?_
  have hf1 := hf.params
  have hf2 := hf.texts
  have hf3 := hf.things
  have hf4 := hf.acts
  refine aw_seq ?_
  refine aw_text rfl ?_
  refine ch_v (R := []) rfl rfl (oc_box (x := .agg _) rfl rfl) trivial ?_
  refine ch_v (R := []) rfl rfl (oc_assign (x := .val _) rfl rfl) trivial ?_
  refine ck_nil ?_
  refine aw_seq ?_
  refine aw_text rfl ?_
  refine ch_v (R := []) rfl rfl (oc_move (x := .val _) rfl rfl) trivial ?_
  refine ch_v (R := []) rfl rfl (oc_fieldAddr (off := 8) rfl rfl rfl (by kernel_rfl) rfl) trivial ?_
  refine ch_v (R := []) rfl rfl (oc_load rfl rfl (by kernel_rfl) cells_sl) trivial ?_
  refine ch_v (R := []) rfl rfl (oc_len rfl rfl (by kernel_rfl)) trivial ?_
  refine ch_v (R := []) rfl rfl (oc_binZ rfl rfl rfl (by first | exact binW_sub (by omega) (by omega) | rfl)) trivial ?_
  refine ch_v (R := []) rfl rfl (oc_call rfl (by kernel_rfl) (rfrom_pc _ _ _) rfl (by simp only [PureL, Pure, and_self, pure_tab, pure_th, pure_slI, pure_slS, pure_ways, pure_way, pure_line, pure_lines, pure_slot, pure_verb, pure_deed, pure_things, pure_acts, pure_deeds]) (by simp only [PureL, Pure, and_self, pure_tab, pure_th, pure_slI, pure_slS, pure_ways, pure_way, pure_line, pure_lines, pure_slot, pure_verb, pure_deed, pure_things, pure_acts, pure_deeds])) trivial ?_
  refine ch_v (R := []) rfl rfl (oc_assign (x := .val _) rfl rfl) trivial ?_
  refine ck_nil ?_
  refine aw_ret ?_
  exact ⟨.inl rfl, ResOk.tmp rfl rfl, trivial⟩
set_option maxHeartbeats 800000 in
theorem room_pc (t : TabP) (n : Int) : PC Try.prog 66 [tabAv t, vi n] (vb (roomB t n)) := by
  refine FC.body 6 16 Try.func66 rfl (by kernel_rfl) ?_
  refine aw_fact (t := 0) (x := tabAv t) rfl (tab_few t) fun hf => ?_
  have hf1 := hf.params
  have hf2 := hf.texts
  have hf3 := hf.things
  have hf4 := hf.acts
  refine aw_seq ?_
  refine aw_text rfl ?_
  refine ch_v (R := []) rfl rfl (oc_box (x := .agg _) rfl rfl) trivial ?_
  refine ch_v (R := []) rfl rfl (oc_assign (x := .val _) rfl rfl) trivial ?_
  refine ck_nil ?_
  refine aw_seq ?_
  refine aw_text rfl ?_
  refine ch_v (R := []) rfl rfl (oc_load_row rfl rfl (by kernel_rfl) (by kernel_rfl) rfl) trivial ?_
  refine ch_v (R := []) rfl rfl (oc_move (x := .val _) rfl rfl) trivial ?_
  refine ch_v (R := []) rfl rfl (oc_call rfl (by kernel_rfl) (thing_pc t _) rfl (by simp only [PureL, Pure, and_self, pure_tab, pure_th, pure_slI, pure_slS, pure_ways, pure_way, pure_line, pure_lines, pure_slot, pure_verb, pure_deed, pure_things, pure_acts, pure_deeds]) (by simp only [PureL, Pure, and_self, pure_tab, pure_th, pure_slI, pure_slS, pure_ways, pure_way, pure_line, pure_lines, pure_slot, pure_verb, pure_deed, pure_things, pure_acts, pure_deeds])) trivial ?_
  refine ch_v (R := []) rfl rfl (oc_move (x := .val _) rfl rfl) trivial ?_
  refine ch_g (R := []) rfl rfl rfl gate_t (fun hC => oc_fieldAddr (off := 8) rfl rfl rfl (by kernel_rfl) rfl) (fun hC => ⟨(by first | rfl | exact hC | (simp only [Bool.and_eq_true] at hC; first | exact hC.1 | exact hC.1.1 | exact hC.2) | simp_all), trivial⟩) trivial ?_
  refine ch_g (R := []) rfl rfl rfl gate_t (fun hC => oc_load rfl rfl (by kernel_rfl) cells_sl) (fun hC => ⟨(by first | rfl | exact hC | (simp only [Bool.and_eq_true] at hC; first | exact hC.1 | exact hC.1.1 | exact hC.2) | simp_all), trivial⟩) trivial ?_
  refine ch_g (R := []) rfl rfl rfl gate_t (fun hC => oc_move (x := .val _) rfl rfl) (fun hC => ⟨(by first | rfl | exact hC | (simp only [Bool.and_eq_true] at hC; first | exact hC.1 | exact hC.1.1 | exact hC.2) | simp_all), trivial⟩) trivial ?_
  refine ch_g (R := []) rfl rfl rfl gate_t (fun hC => by
        have h1 := among_iff.1 (show among _ _ _ = true from hC)
        exact (by first | exact oc_indexN rfl rfl rfl (by kernel_rfl) (by omega) | exact oc_index rfl rfl rfl (by kernel_rfl) (by omega) (by omega) rfl)) (fun hC => ⟨(by first | rfl | exact hC | (simp only [Bool.and_eq_true] at hC; first | exact hC.1 | exact hC.1.1 | exact hC.2) | simp_all), (by first | rfl | exact hC | (simp only [Bool.and_eq_true] at hC; first | exact hC.1 | exact hC.1.1 | exact hC.2) | simp_all), trivial⟩) trivial ?_
  refine ch_g (R := []) rfl rfl rfl gate_t (fun hC => oc_fieldAddr (off := 4) rfl rfl rfl (by kernel_rfl) rfl) (fun hC => ⟨(by first | rfl | exact hC | (simp only [Bool.and_eq_true] at hC; first | exact hC.1 | exact hC.1.1 | exact hC.2) | simp_all), trivial⟩) trivial ?_
  refine ch_g (R := []) rfl rfl rfl gate_t (fun hC => oc_load rfl rfl (by kernel_rfl) cells_bool) (fun hC => ⟨(by first | rfl | exact hC | (simp only [Bool.and_eq_true] at hC; first | exact hC.1 | exact hC.1.1 | exact hC.2) | simp_all), trivial⟩) trivial ?_
  refine ch_v (R := []) rfl rfl (oc_and rfl rfl rfl rfl (by first | exact fun h => h | simp_all)) trivial ?_
  refine ch_v (R := []) rfl rfl (oc_assign (x := .val _) rfl rfl) trivial ?_
  refine ck_nil ?_
  refine aw_ret ?_
  exact ⟨.inl rfl, ResOk.tmp rfl rfl, trivial⟩
set_option maxHeartbeats 800000 in
theorem rtext_pc (t : TabP) (n : Int) (q : Bool) : PC Try.prog 40 [tabAv t, vi n, vb q] (vb (textB t n || (q && n == -1))) := by
  refine FC.body 6 20 Try.func40 rfl (by kernel_rfl) ?_
  refine aw_fact (t := 0) (x := tabAv t) rfl (tab_few t) fun hf => ?_
  have hf1 := hf.params
  have hf2 := hf.texts
  have hf3 := hf.things
  have hf4 := hf.acts
  refine aw_seq ?_
  refine aw_text rfl ?_
  refine ch_v (R := []) rfl rfl (oc_box (x := .agg _) rfl rfl) trivial ?_
  refine ch_v (R := []) rfl rfl (oc_assign (x := .val _) rfl rfl) trivial ?_
  refine ck_nil ?_
  refine aw_seq ?_
  refine aw_text rfl ?_
  refine ch_v (R := []) rfl rfl (oc_move (x := .val _) rfl rfl) trivial ?_
  refine ch_v (R := []) rfl rfl (oc_fieldAddr (off := 4) rfl rfl rfl (by kernel_rfl) rfl) trivial ?_
  refine ch_v (R := []) rfl rfl (oc_load rfl rfl (by kernel_rfl) cells_sl) trivial ?_
  refine ch_v (R := []) rfl rfl (oc_len rfl rfl (by kernel_rfl)) trivial ?_
  refine ch_v (R := []) rfl rfl (oc_binZ rfl rfl rfl (by first | exact binW_sub (by omega) (by omega) | rfl)) trivial ?_
  refine ch_v (R := []) rfl rfl (oc_call rfl (by kernel_rfl) (rfrom_pc _ _ _) rfl (by simp only [PureL, Pure, and_self, pure_tab, pure_th, pure_slI, pure_slS, pure_ways, pure_way, pure_line, pure_lines, pure_slot, pure_verb, pure_deed, pure_things, pure_acts, pure_deeds]) (by simp only [PureL, Pure, and_self, pure_tab, pure_th, pure_slI, pure_slS, pure_ways, pure_way, pure_line, pure_lines, pure_slot, pure_verb, pure_deed, pure_things, pure_acts, pure_deeds])) trivial ?_
  refine ch_v (R := []) rfl rfl (oc_move (x := .val _) rfl rfl) trivial ?_
  refine ch_g (R := []) rfl rfl rfl gate_f (fun hC => oc_move (x := .val _) rfl rfl) (fun hC => ⟨(by first | rfl | exact hC | (simp only [Bool.and_eq_true] at hC; first | exact hC.1 | exact hC.1.1 | exact hC.2) | simp_all), trivial⟩) trivial ?_
  refine ch_g (R := []) rfl rfl rfl gate_f (fun hC => oc_move (x := .val _) rfl rfl) (fun hC => ⟨(by first | rfl | exact hC | (simp only [Bool.and_eq_true] at hC; first | exact hC.1 | exact hC.1.1 | exact hC.2) | simp_all), trivial⟩) trivial ?_
  refine ch_g (R := []) rfl rfl rfl gate_gt (fun hC => oc_move (x := .val _) rfl rfl) (fun hC => ⟨(by first | rfl | exact hC | (simp only [Bool.and_eq_true] at hC; first | exact hC.1 | exact hC.1.1 | exact hC.2) | simp_all), trivial⟩) trivial ?_
  refine ch_g (R := []) rfl rfl rfl gate_gt (fun hC => oc_binZ rfl rfl rfl rfl) (fun hC => ⟨(by first | rfl | exact hC | (simp only [Bool.and_eq_true] at hC; first | exact hC.1 | exact hC.1.1 | exact hC.2) | simp_all), (by first | rfl | exact hC | (simp only [Bool.and_eq_true] at hC; first | exact hC.1 | exact hC.1.1 | exact hC.2) | simp_all), trivial⟩) trivial ?_
  refine ch_gp rfl rfl rfl rfl gate_f (fun hC => (by first | rfl | exact hC | (simp only [Bool.and_eq_true] at hC; first | exact hC.1 | exact hC.1.1 | exact hC.2) | simp_all)) rfl (fun hC E a hp hq => pk_and rfl (by first | exact fun h => tt2 hC h | exact fun h => h | simp_all) hp) ?_
  refine ch_v (R := []) rfl rfl (oc_or rfl rfl rfl (by first | exact fun h => h | simp_all)) trivial ?_
  refine ch_v (R := []) rfl rfl (oc_assign (x := .val _) rfl rfl) trivial ?_
  refine ck_nil ?_
  refine aw_ret ?_
  exact ⟨.inl rfl, ResOk.tmp rfl rfl, trivial⟩
set_option maxHeartbeats 800000 in
theorem rroutine_pc (t : TabP) (n : Int) (q : Bool) : PC Try.prog 49 [tabAv t, vi n, vb q] (vb ((q && n == -1) || freeB t n)) := by
  refine FC.body 6 28 Try.func49 rfl (by kernel_rfl) ?_
  refine aw_fact (t := 0) (x := tabAv t) rfl (tab_few t) fun hf => ?_
  have hf1 := hf.params
  have hf2 := hf.texts
  have hf3 := hf.things
  have hf4 := hf.acts
  refine aw_seq ?_
  refine aw_text rfl ?_
  refine ch_v (R := []) rfl rfl (oc_box (x := .agg _) rfl rfl) trivial ?_
  refine ch_v (R := []) rfl rfl (oc_assign (x := .val _) rfl rfl) trivial ?_
  refine ck_nil ?_
  refine aw_seq ?_
  refine aw_text rfl ?_
  refine ch_v (R := []) rfl rfl (oc_move (x := .val _) rfl rfl) trivial ?_
  refine ch_v (R := []) rfl rfl (oc_move (x := .val _) rfl rfl) trivial ?_
  refine ch_g (R := []) rfl rfl rfl gate_t (fun hC => oc_move (x := .val _) rfl rfl) (fun hC => ⟨(by first | rfl | exact hC | (simp only [Bool.and_eq_true] at hC; first | exact hC.1 | exact hC.1.1 | exact hC.2) | simp_all), trivial⟩) trivial ?_
  refine ch_g (R := []) rfl rfl rfl gate_t (fun hC => oc_binZ rfl rfl rfl rfl) (fun hC => ⟨(by first | rfl | exact hC | (simp only [Bool.and_eq_true] at hC; first | exact hC.1 | exact hC.1.1 | exact hC.2) | simp_all), (by first | rfl | exact hC | (simp only [Bool.and_eq_true] at hC; first | exact hC.1 | exact hC.1.1 | exact hC.2) | simp_all), trivial⟩) trivial ?_
  refine ch_v (R := []) rfl rfl (oc_and rfl rfl rfl rfl (by first | exact fun h => h | simp_all)) trivial ?_
  refine ch_v (R := []) rfl rfl (oc_move (x := .val _) rfl rfl) trivial ?_
  refine ch_g (R := []) rfl rfl rfl gate_f (fun hC => oc_move (x := .val _) rfl rfl) (fun hC => ⟨(by first | rfl | exact hC | (simp only [Bool.and_eq_true] at hC; first | exact hC.1 | exact hC.1.1 | exact hC.2) | simp_all), trivial⟩) trivial ?_
  refine ch_g (R := []) rfl rfl rfl gate_f (fun hC => oc_fieldAddr (off := 13) rfl rfl rfl (by kernel_rfl) rfl) (fun hC => ⟨(by first | rfl | exact hC | (simp only [Bool.and_eq_true] at hC; first | exact hC.1 | exact hC.1.1 | exact hC.2) | simp_all), trivial⟩) trivial ?_
  refine ch_g (R := []) rfl rfl rfl gate_f (fun hC => oc_load rfl rfl (by kernel_rfl) cells_sl) (fun hC => ⟨(by first | rfl | exact hC | (simp only [Bool.and_eq_true] at hC; first | exact hC.1 | exact hC.1.1 | exact hC.2) | simp_all), trivial⟩) trivial ?_
  refine ch_g (R := []) rfl rfl rfl gate_f (fun hC => oc_len rfl rfl (by kernel_rfl)) (fun hC => ⟨(by first | rfl | exact hC | (simp only [Bool.and_eq_true] at hC; first | exact hC.1 | exact hC.1.1 | exact hC.2) | simp_all), trivial⟩) trivial ?_
  refine ch_g (R := []) rfl rfl rfl gate_f (fun hC => oc_binZ rfl rfl rfl (by first | exact binW_sub (by omega) (by omega) | rfl)) (fun hC => ⟨(by first | rfl | exact hC | (simp only [Bool.and_eq_true] at hC; first | exact hC.1 | exact hC.1.1 | exact hC.2) | simp_all), (by first | rfl | exact hC | (simp only [Bool.and_eq_true] at hC; first | exact hC.1 | exact hC.1.1 | exact hC.2) | simp_all), trivial⟩) trivial ?_
  refine ch_g (R := []) rfl rfl rfl gate_f (fun hC => oc_call rfl (by kernel_rfl) (rfrom_pc _ _ _) rfl (by simp only [PureL, Pure, and_self, pure_tab, pure_th, pure_slI, pure_slS, pure_ways, pure_way, pure_line, pure_lines, pure_slot, pure_verb, pure_deed, pure_things, pure_acts, pure_deeds]) (by simp only [PureL, Pure, and_self, pure_tab, pure_th, pure_slI, pure_slS, pure_ways, pure_way, pure_line, pure_lines, pure_slot, pure_verb, pure_deed, pure_things, pure_acts, pure_deeds])) (fun hC => ⟨(by first | rfl | exact hC | (simp only [Bool.and_eq_true] at hC; first | exact hC.1 | exact hC.1.1 | exact hC.2) | simp_all), (by first | rfl | exact hC | (simp only [Bool.and_eq_true] at hC; first | exact hC.1 | exact hC.1.1 | exact hC.2) | simp_all), (by first | rfl | exact hC | (simp only [Bool.and_eq_true] at hC; first | exact hC.1 | exact hC.1.1 | exact hC.2) | simp_all), (by first | rfl | exact hC | (simp only [Bool.and_eq_true] at hC; first | exact hC.1 | exact hC.1.1 | exact hC.2) | simp_all), trivial⟩) trivial ?_
  refine ch_g (R := []) rfl rfl rfl gate_f (fun hC => oc_move (x := .val _) rfl rfl) (fun hC => ⟨(by first | rfl | exact hC | (simp only [Bool.and_eq_true] at hC; first | exact hC.1 | exact hC.1.1 | exact hC.2) | simp_all), trivial⟩) trivial ?_
  refine ch_g (R := []) rfl rfl rfl gate_gt (fun hC => oc_fieldAddr (off := 13) rfl rfl rfl (by kernel_rfl) rfl) (fun hC => ⟨(by first | rfl | exact hC | (simp only [Bool.and_eq_true] at hC; first | exact hC.1 | exact hC.1.1 | exact hC.2) | simp_all), trivial⟩) trivial ?_
  refine ch_g (R := []) rfl rfl rfl gate_gt (fun hC => oc_load rfl rfl (by kernel_rfl) cells_sl) (fun hC => ⟨(by first | rfl | exact hC | (simp only [Bool.and_eq_true] at hC; first | exact hC.1 | exact hC.1.1 | exact hC.2) | simp_all), trivial⟩) trivial ?_
  refine ch_g (R := []) rfl rfl rfl gate_gt (fun hC => oc_move (x := .val _) rfl rfl) (fun hC => ⟨(by first | rfl | exact hC | (simp only [Bool.and_eq_true] at hC; first | exact hC.1 | exact hC.1.1 | exact hC.2) | simp_all), trivial⟩) trivial ?_
  refine ch_g (R := []) rfl rfl rfl gate_gt (fun hC => by
        have h1 := among_iff.1 (by simpa using (Bool.and_eq_true _ _ ▸ hC : _ ∧ _).2)
        exact (by first | exact oc_indexN rfl rfl rfl (by kernel_rfl) (by omega) | exact oc_index rfl rfl rfl (by kernel_rfl) (by omega) (by omega) rfl)) (fun hC => ⟨(by first | rfl | exact hC | (simp only [Bool.and_eq_true] at hC; first | exact hC.1 | exact hC.1.1 | exact hC.2) | simp_all), (by first | rfl | exact hC | (simp only [Bool.and_eq_true] at hC; first | exact hC.1 | exact hC.1.1 | exact hC.2) | simp_all), trivial⟩) trivial ?_
  refine ch_g (R := []) rfl rfl rfl gate_gt (fun hC => oc_load rfl rfl (by kernel_rfl) cells_int) (fun hC => ⟨(by first | rfl | exact hC | (simp only [Bool.and_eq_true] at hC; first | exact hC.1 | exact hC.1.1 | exact hC.2) | simp_all), trivial⟩) trivial ?_
  refine ch_g (R := []) rfl rfl rfl gate_gt (fun hC => oc_binZ rfl rfl rfl rfl) (fun hC => ⟨(by first | rfl | exact hC | (simp only [Bool.and_eq_true] at hC; first | exact hC.1 | exact hC.1.1 | exact hC.2) | simp_all), (by first | rfl | exact hC | (simp only [Bool.and_eq_true] at hC; first | exact hC.1 | exact hC.1.1 | exact hC.2) | simp_all), trivial⟩) trivial ?_
  refine ch_gp rfl rfl rfl rfl gate_f (fun hC => (by first | rfl | exact hC | (simp only [Bool.and_eq_true] at hC; first | exact hC.1 | exact hC.1.1 | exact hC.2) | simp_all)) rfl (fun hC E a hp hq => pk_and rfl (by first | exact fun h => tt2 hC h | exact fun h => h | simp_all) hp) ?_
  refine ch_v (R := []) rfl rfl (oc_or rfl rfl rfl (by first | exact fun h => h | simp_all)) trivial ?_
  refine ch_v (R := []) rfl rfl (oc_assign (x := .val _) rfl rfl) trivial ?_
  refine ck_nil ?_
  refine aw_ret ?_
  exact ⟨.inl rfl, ResOk.tmp rfl rfl, trivial⟩
theorem sall_true {s : ByteArray} {p : Int → Bool} {k : Nat} (hk : k = s.size) (h : ∀ j, j < k → p ((tB s).getD j 0) = true) : (tB s).all p = true := all_of (d := 0) fun j hj => h j (by rw [tB_len] at hj; omega)
theorem sall_false {s : ByteArray} {p : Int → Bool} {k : Nat} (hk : k < s.size) (h : p ((tB s).getD k 0) = false) : (tB s).all p = false := all_not (d := 0) (by rw [tB_len]; exact hk) h
set_option maxHeartbeats 800000 in
theorem rIsText_pc (s : ByteArray) (hs : s.size ≤ 9223372036854775807) : PC Try.prog 41 [vs s] (vb (isTextS s)) := by
  refine FC.body 6 29 Try.func41 rfl (by kernel_rfl) ?_
  refine aw_seq ?_
  refine aw_text rfl ?_
  refine ch_v (R := []) rfl rfl (oc_assign (x := .val _) rfl rfl) trivial ?_
  refine ck_nil ?_
  refine aw_seq ?_
  refine aw_seq ?_
  refine aw_text rfl ?_
  refine ch_v (R := []) rfl rfl (oc_assign (x := .val _) rfl rfl) trivial ?_
  refine ck_nil ?_
  refine aw_block ?_
  refine aw_loop (ι := Nat) (fun k => ⟨[(0, vs s), (3, vi k)], []⟩) (fun k => k ≤ s.size ∧ ∀ j, j < k → textC ((tB s).getD j 0) = true) (fun k => s.size - k) 0 (⟨Nat.zero_le _, rall_zero⟩) (Le.sub (by repeat (first | trivial | refine ⟨.inr rfl, ?_⟩ | refine ⟨.inr (vi_eq (by omega)), ?_⟩)) (by repeat (first | trivial | refine ⟨rfl, ?_⟩))) ?_
  intro k hI
  refine aw_seq ?_
  refine aw_seq ?_
  refine aw_text rfl ?_
  refine ch_v (R := []) rfl rfl (oc_move (x := .val _) rfl rfl) trivial ?_
  refine ch_v (R := []) rfl rfl (oc_move (x := .val _) rfl rfl) trivial ?_
  refine ch_v (R := []) rfl rfl (oc_len_str rfl rfl (by kernel_rfl)) trivial ?_
  refine ch_v (R := []) rfl rfl (oc_binZ rfl rfl rfl rfl) trivial ?_
  refine ck_nil ?_
  refine aw_cond rfl (fun hb => ?_) (fun hb => ?_)
  · have hlt : k < s.size := by simpa using hb
    refine aw_skip ?_
    refine aw_seq ?_
    refine aw_block ?_
    refine aw_seq ?_
    refine aw_text rfl ?_
    refine ch_v (R := []) rfl rfl (oc_move (x := .val _) rfl rfl) trivial ?_
    refine ch_v (R := []) rfl rfl (oc_move (x := .val _) rfl rfl) trivial ?_
    refine ch_v (R := []) rfl rfl (oc_strIndex rfl rfl rfl (by kernel_rfl) (by omega) (by omega) rfl) trivial ?_
    refine ch_v (R := []) rfl rfl (oc_binZ rfl rfl rfl rfl) trivial ?_
    refine ch_v (R := []) rfl rfl (oc_move (x := .val _) rfl rfl) trivial ?_
    refine ch_g (R := []) rfl rfl rfl gate_f (fun hC => oc_move (x := .val _) rfl rfl) (fun hC => ⟨(by first | rfl | exact hC | (simp only [Bool.and_eq_true] at hC; first | exact hC.1 | exact hC.1.1 | exact hC.2) | simp_all), trivial⟩) trivial ?_
    refine ch_g (R := []) rfl rfl rfl gate_f (fun hC => oc_move (x := .val _) rfl rfl) (fun hC => ⟨(by first | rfl | exact hC | (simp only [Bool.and_eq_true] at hC; first | exact hC.1 | exact hC.1.1 | exact hC.2) | simp_all), trivial⟩) trivial ?_
    refine ch_g (R := []) rfl rfl rfl gate_f (fun hC => oc_strIndex rfl rfl rfl (by kernel_rfl) (by omega) (by omega) rfl) (fun hC => ⟨(by first | rfl | exact hC | (simp only [Bool.and_eq_true] at hC; first | exact hC.1 | exact hC.1.1 | exact hC.2) | simp_all), (by first | rfl | exact hC | (simp only [Bool.and_eq_true] at hC; first | exact hC.1 | exact hC.1.1 | exact hC.2) | simp_all), trivial⟩) trivial ?_
    refine ch_g (R := []) rfl rfl rfl gate_f (fun hC => oc_binZ rfl rfl rfl rfl) (fun hC => ⟨(by first | rfl | exact hC | (simp only [Bool.and_eq_true] at hC; first | exact hC.1 | exact hC.1.1 | exact hC.2) | simp_all), (by first | rfl | exact hC | (simp only [Bool.and_eq_true] at hC; first | exact hC.1 | exact hC.1.1 | exact hC.2) | simp_all), trivial⟩) trivial ?_
    refine ch_v (R := []) rfl rfl (oc_or rfl rfl rfl (by first | exact fun h => h | simp_all)) trivial ?_
    refine ch_v (R := []) rfl rfl (oc_move (x := .val _) rfl rfl) trivial ?_
    refine ch_g (R := []) rfl rfl rfl gate_t (fun hC => oc_move (x := .val _) rfl rfl) (fun hC => ⟨(by first | rfl | exact hC | (simp only [Bool.and_eq_true] at hC; first | exact hC.1 | exact hC.1.1 | exact hC.2) | simp_all), trivial⟩) trivial ?_
    refine ch_g (R := []) rfl rfl rfl gate_t (fun hC => oc_move (x := .val _) rfl rfl) (fun hC => ⟨(by first | rfl | exact hC | (simp only [Bool.and_eq_true] at hC; first | exact hC.1 | exact hC.1.1 | exact hC.2) | simp_all), trivial⟩) trivial ?_
    refine ch_g (R := []) rfl rfl rfl gate_t (fun hC => oc_strIndex rfl rfl rfl (by kernel_rfl) (by omega) (by omega) rfl) (fun hC => ⟨(by first | rfl | exact hC | (simp only [Bool.and_eq_true] at hC; first | exact hC.1 | exact hC.1.1 | exact hC.2) | simp_all), (by first | rfl | exact hC | (simp only [Bool.and_eq_true] at hC; first | exact hC.1 | exact hC.1.1 | exact hC.2) | simp_all), trivial⟩) trivial ?_
    refine ch_g (R := []) rfl rfl rfl gate_t (fun hC => oc_binZ rfl rfl rfl rfl) (fun hC => ⟨(by first | rfl | exact hC | (simp only [Bool.and_eq_true] at hC; first | exact hC.1 | exact hC.1.1 | exact hC.2) | simp_all), (by first | rfl | exact hC | (simp only [Bool.and_eq_true] at hC; first | exact hC.1 | exact hC.1.1 | exact hC.2) | simp_all), trivial⟩) trivial ?_
    refine ch_v (R := []) rfl rfl (oc_and rfl rfl rfl rfl (by first | exact fun h => h | simp_all)) trivial ?_
    refine ck_nil ?_
    refine aw_cond rfl (fun hb => ?_) (fun hb => ?_)
    · refine aw_seq ?_
      refine aw_text rfl ?_
      refine ch_v (R := []) rfl rfl (oc_assign (x := .val _) rfl rfl) trivial ?_
      refine ck_nil ?_
      refine aw_ret ?_
      exact ⟨.inl rfl, ResOk.tmp rfl (vb_eq (by unfold isTextS; rw [sall_false hlt (by have h1 := (textC_not ((tB s).getD k 0)).symm.trans hb; simpa using h1)]; rfl)), trivial⟩
    · refine aw_skip ?_
      refine aw_text rfl ?_
      refine ch_v (R := []) rfl rfl (oc_move (x := .val _) rfl rfl) trivial ?_
      refine ch_v (R := []) rfl rfl (oc_binZ rfl rfl rfl (by first | exact binW_add (by omega) (by omega) | rfl)) trivial ?_
      refine ch_v (R := []) rfl rfl (oc_assign (x := .val _) rfl rfl) trivial ?_
      refine ck_nil ?_
      exact ⟨k + 1, ⟨by omega, rall_step (p := fun j => textC ((tB s).getD j 0)) hI.2 (by have h1 := (textC_not ((tB s).getD k 0)).symm.trans hb; simpa using h1)⟩, by omega, Le.sub (by repeat (first | trivial | refine ⟨.inr rfl, ?_⟩ | refine ⟨.inr (vi_eq (by omega)), ?_⟩)) (by repeat (first | trivial | refine ⟨rfl, ?_⟩))⟩
  · have hge : k = s.size := by simp at hb; omega
    refine aw_exit ?_
    refine aw_seq ?_
    refine aw_text rfl ?_
    refine ch_v (R := []) rfl rfl (oc_move (x := .val _) rfl rfl) trivial ?_
    refine ch_v (R := []) rfl rfl (oc_len_str rfl rfl (by kernel_rfl)) trivial ?_
    refine ch_v (R := []) rfl rfl (oc_binZ rfl rfl rfl rfl) trivial ?_
    refine ch_v (R := []) rfl rfl (oc_assign (x := .val _) rfl rfl) trivial ?_
    refine ck_nil ?_
    refine aw_ret ?_
    exact ⟨.inl rfl, ResOk.tmp rfl (vb_eq (by unfold isTextS; rw [sall_true hge hI.2]; rfl)), trivial⟩
set_option maxHeartbeats 800000 in
theorem rIsWord_pc (s : ByteArray) (hs : s.size ≤ 9223372036854775807) : PC Try.prog 84 [vs s] (vb (isWordS s)) := by
  refine FC.body 6 41 Try.func84 rfl (by kernel_rfl) ?_
  refine aw_seq ?_
  refine aw_text rfl ?_
  refine ch_v (R := []) rfl rfl (oc_assign (x := .val _) rfl rfl) trivial ?_
  refine ck_nil ?_
  refine aw_seq ?_
  refine aw_seq ?_
  refine aw_text rfl ?_
  refine ch_v (R := []) rfl rfl (oc_move (x := .val _) rfl rfl) trivial ?_
  refine ch_v (R := []) rfl rfl (oc_len_str rfl rfl (by kernel_rfl)) trivial ?_
  refine ch_v (R := []) rfl rfl (oc_binZ rfl rfl rfl rfl) trivial ?_
  refine ch_v (R := []) rfl rfl (oc_move (x := .val _) rfl rfl) trivial ?_
  refine ch_g (R := []) rfl rfl rfl gate_f (fun hC => oc_move (x := .val _) rfl rfl) (fun hC => ⟨(by first | rfl | exact hC | (simp only [Bool.and_eq_true] at hC; first | exact hC.1 | exact hC.1.1 | exact hC.2) | simp_all), trivial⟩) trivial ?_
  refine ch_g (R := []) rfl rfl rfl gate_f (fun hC => oc_len_str rfl rfl (by kernel_rfl)) (fun hC => ⟨(by first | rfl | exact hC | (simp only [Bool.and_eq_true] at hC; first | exact hC.1 | exact hC.1.1 | exact hC.2) | simp_all), trivial⟩) trivial ?_
  refine ch_g (R := []) rfl rfl rfl gate_f (fun hC => oc_binZ rfl rfl rfl rfl) (fun hC => ⟨(by first | rfl | exact hC | (simp only [Bool.and_eq_true] at hC; first | exact hC.1 | exact hC.1.1 | exact hC.2) | simp_all), (by first | rfl | exact hC | (simp only [Bool.and_eq_true] at hC; first | exact hC.1 | exact hC.1.1 | exact hC.2) | simp_all), trivial⟩) trivial ?_
  refine ch_v (R := []) rfl rfl (oc_or rfl rfl rfl (by first | exact fun h => h | simp_all)) trivial ?_
  refine ch_v (R := []) rfl rfl (oc_move (x := .val _) rfl rfl) trivial ?_
  refine ch_g (R := []) rfl rfl rfl gate_f (fun hC => oc_move (x := .val _) rfl rfl) (fun hC => ⟨(by first | rfl | exact hC | (simp only [Bool.and_eq_true] at hC; first | exact hC.1 | exact hC.1.1 | exact hC.2) | simp_all), trivial⟩) trivial ?_
  refine ch_g (R := []) rfl rfl rfl gate_f (fun hC => by
        have hh := hC
        simp only [Bool.and_eq_true, Bool.not_eq_true', Bool.or_eq_false_iff, decide_eq_false_iff_not] at hh
        exact oc_strIndex rfl rfl rfl (by kernel_rfl) (by omega) (by omega) rfl) (fun hC => ⟨(by first | rfl | exact hC | (simp only [Bool.and_eq_true] at hC; first | exact hC.1 | exact hC.1.1 | exact hC.2) | simp_all), (by first | rfl | exact hC | (simp only [Bool.and_eq_true] at hC; first | exact hC.1 | exact hC.1.1 | exact hC.2) | simp_all), trivial⟩) trivial ?_
  refine ch_g (R := []) rfl rfl rfl gate_f (fun hC => oc_call rfl (by kernel_rfl) (rsmall_pc _) rfl (by simp only [PureL, Pure, and_self, pure_tab, pure_th, pure_slI, pure_slS, pure_ways, pure_way, pure_line, pure_lines, pure_slot, pure_verb, pure_deed, pure_things, pure_acts, pure_deeds]) (by simp only [PureL, Pure, and_self, pure_tab, pure_th, pure_slI, pure_slS, pure_ways, pure_way, pure_line, pure_lines, pure_slot, pure_verb, pure_deed, pure_things, pure_acts, pure_deeds])) (fun hC => ⟨(by first | rfl | exact hC | (simp only [Bool.and_eq_true] at hC; first | exact hC.1 | exact hC.1.1 | exact hC.2) | simp_all), (by first | rfl | exact hC | (simp only [Bool.and_eq_true] at hC; first | exact hC.1 | exact hC.1.1 | exact hC.2) | simp_all), trivial⟩) trivial ?_
  refine ch_g (R := []) rfl rfl rfl gate_f (fun hC => oc_not rfl rfl) (fun hC => ⟨(by first | rfl | exact hC | (simp only [Bool.and_eq_true] at hC; first | exact hC.1 | exact hC.1.1 | exact hC.2) | simp_all), trivial⟩) trivial ?_
  refine ch_g (R := []) rfl rfl rfl gate_f (fun hC => oc_move (x := .val _) rfl rfl) (fun hC => ⟨(by first | rfl | exact hC | (simp only [Bool.and_eq_true] at hC; first | exact hC.1 | exact hC.1.1 | exact hC.2) | simp_all), trivial⟩) trivial ?_
  refine ch_g (R := []) rfl rfl rfl gate_gt (fun hC => by
        have hh := hC
        simp only [Bool.and_eq_true, Bool.not_eq_true', Bool.or_eq_false_iff, decide_eq_false_iff_not] at hh
        exact oc_move (x := .val _) rfl rfl) (fun hC => ⟨(by first | rfl | exact hC | (simp only [Bool.and_eq_true] at hC; first | exact hC.1 | exact hC.1.1 | exact hC.2) | simp_all), trivial⟩) trivial ?_
  refine ch_g (R := []) rfl rfl rfl gate_gt (fun hC => by
        have hh := hC
        simp only [Bool.and_eq_true, Bool.not_eq_true', Bool.or_eq_false_iff, decide_eq_false_iff_not] at hh
        exact oc_strIndex rfl rfl rfl (by kernel_rfl) (by omega) (by omega) rfl) (fun hC => ⟨(by first | rfl | exact hC | (simp only [Bool.and_eq_true] at hC; first | exact hC.1 | exact hC.1.1 | exact hC.2) | simp_all), (by first | rfl | exact hC | (simp only [Bool.and_eq_true] at hC; first | exact hC.1 | exact hC.1.1 | exact hC.2) | simp_all), trivial⟩) trivial ?_
  refine ch_g (R := []) rfl rfl rfl gate_gt (fun hC => oc_call rfl (by kernel_rfl) (rdigit_pc _) rfl (by simp only [PureL, Pure, and_self, pure_tab, pure_th, pure_slI, pure_slS, pure_ways, pure_way, pure_line, pure_lines, pure_slot, pure_verb, pure_deed, pure_things, pure_acts, pure_deeds]) (by simp only [PureL, Pure, and_self, pure_tab, pure_th, pure_slI, pure_slS, pure_ways, pure_way, pure_line, pure_lines, pure_slot, pure_verb, pure_deed, pure_things, pure_acts, pure_deeds])) (fun hC => ⟨(by first | rfl | exact hC | (simp only [Bool.and_eq_true] at hC; first | exact hC.1 | exact hC.1.1 | exact hC.2) | simp_all), (by first | rfl | exact hC | (simp only [Bool.and_eq_true] at hC; first | exact hC.1 | exact hC.1.1 | exact hC.2) | simp_all), trivial⟩) trivial ?_
  refine ch_g (R := []) rfl rfl rfl gate_gt (fun hC => oc_not rfl rfl) (fun hC => ⟨(by first | rfl | exact hC | (simp only [Bool.and_eq_true] at hC; first | exact hC.1 | exact hC.1.1 | exact hC.2) | simp_all), trivial⟩) trivial ?_
  refine ch_gp rfl rfl rfl rfl gate_f (fun hC => (by first | rfl | exact hC | (simp only [Bool.and_eq_true] at hC; first | exact hC.1 | exact hC.1.1 | exact hC.2) | simp_all)) rfl (fun hC E a hp hq => pk_and rfl (by first | exact fun h => tt2 hC h | exact fun h => h | simp_all) hp) ?_
  refine ch_v (R := []) rfl rfl (oc_or rfl rfl rfl (by first | exact fun h => h | simp_all)) trivial ?_
  refine ck_nil ?_
  refine aw_cond rfl (fun hb => ?_) (fun hb => ?_)
  · have hw : wordHead s = false := by have h1 := (wordHead_not s).symm.trans hb; simpa using h1
    refine aw_seq ?_
    refine aw_text rfl ?_
    refine ch_v (R := []) rfl rfl (oc_assign (x := .val _) rfl rfl) trivial ?_
    refine ck_nil ?_
    refine aw_ret ?_
    exact ⟨.inl rfl, ResOk.tmp rfl (vb_eq (by unfold isWordS; rw [hw]; rfl)), trivial⟩
  · have hw : wordHead s = true := by have h1 := (wordHead_not s).symm.trans hb; simpa using h1
    refine aw_skip ?_
    refine aw_seq ?_
    refine aw_seq ?_
    refine aw_text rfl ?_
    refine ch_v (R := []) rfl rfl (oc_assign (x := .val _) rfl rfl) trivial ?_
    refine ck_nil ?_
    refine aw_block ?_
    refine aw_loop (ι := Nat) (fun k => ⟨[(0, vs s), (3, vi k)], []⟩) (fun k => k ≤ s.size ∧ ∀ j, j < k → wordC ((tB s).getD j 0) = true) (fun k => s.size - k) 0 (⟨Nat.zero_le _, rall_zero⟩) (Le.sub (by repeat (first | trivial | refine ⟨.inr rfl, ?_⟩ | refine ⟨.inr (vi_eq (by omega)), ?_⟩)) (by repeat (first | trivial | refine ⟨rfl, ?_⟩))) ?_
    intro k hI
    refine aw_seq ?_
    refine aw_seq ?_
    refine aw_text rfl ?_
    refine ch_v (R := []) rfl rfl (oc_move (x := .val _) rfl rfl) trivial ?_
    refine ch_v (R := []) rfl rfl (oc_move (x := .val _) rfl rfl) trivial ?_
    refine ch_v (R := []) rfl rfl (oc_len_str rfl rfl (by kernel_rfl)) trivial ?_
    refine ch_v (R := []) rfl rfl (oc_binZ rfl rfl rfl rfl) trivial ?_
    refine ck_nil ?_
    refine aw_cond rfl (fun hb => ?_) (fun hb => ?_)
    · have hlt : k < s.size := by simpa using hb
      refine aw_skip ?_
      refine aw_seq ?_
      refine aw_block ?_
      refine aw_seq ?_
      refine aw_text rfl ?_
      refine ch_v (R := []) rfl rfl (oc_move (x := .val _) rfl rfl) trivial ?_
      refine ch_v (R := []) rfl rfl (oc_move (x := .val _) rfl rfl) trivial ?_
      refine ch_v (R := []) rfl rfl (oc_strIndex rfl rfl rfl (by kernel_rfl) (by omega) (by omega) rfl) trivial ?_
      refine ch_v (R := []) rfl rfl (oc_call rfl (by kernel_rfl) (rRow_pc _) rfl (by simp only [PureL, Pure, and_self, pure_tab, pure_th, pure_slI, pure_slS, pure_ways, pure_way, pure_line, pure_lines, pure_slot, pure_verb, pure_deed, pure_things, pure_acts, pure_deeds]) (by simp only [PureL, Pure, and_self, pure_tab, pure_th, pure_slI, pure_slS, pure_ways, pure_way, pure_line, pure_lines, pure_slot, pure_verb, pure_deed, pure_things, pure_acts, pure_deeds])) trivial ?_
      refine ch_v (R := []) rfl rfl (oc_not rfl rfl) trivial ?_
      refine ch_v (R := []) rfl rfl (oc_move (x := .val _) rfl rfl) trivial ?_
      refine ch_g (R := []) rfl rfl rfl gate_f (fun hC => oc_move (x := .val _) rfl rfl) (fun hC => ⟨(by first | rfl | exact hC | (simp only [Bool.and_eq_true] at hC; first | exact hC.1 | exact hC.1.1 | exact hC.2) | simp_all), trivial⟩) trivial ?_
      refine ch_g (R := []) rfl rfl rfl gate_f (fun hC => oc_move (x := .val _) rfl rfl) (fun hC => ⟨(by first | rfl | exact hC | (simp only [Bool.and_eq_true] at hC; first | exact hC.1 | exact hC.1.1 | exact hC.2) | simp_all), trivial⟩) trivial ?_
      refine ch_g (R := []) rfl rfl rfl gate_f (fun hC => oc_strIndex rfl rfl rfl (by kernel_rfl) (by omega) (by omega) rfl) (fun hC => ⟨(by first | rfl | exact hC | (simp only [Bool.and_eq_true] at hC; first | exact hC.1 | exact hC.1.1 | exact hC.2) | simp_all), (by first | rfl | exact hC | (simp only [Bool.and_eq_true] at hC; first | exact hC.1 | exact hC.1.1 | exact hC.2) | simp_all), trivial⟩) trivial ?_
      refine ch_g (R := []) rfl rfl rfl gate_f (fun hC => oc_call rfl (by kernel_rfl) (rgreat_pc _) rfl (by simp only [PureL, Pure, and_self, pure_tab, pure_th, pure_slI, pure_slS, pure_ways, pure_way, pure_line, pure_lines, pure_slot, pure_verb, pure_deed, pure_things, pure_acts, pure_deeds]) (by simp only [PureL, Pure, and_self, pure_tab, pure_th, pure_slI, pure_slS, pure_ways, pure_way, pure_line, pure_lines, pure_slot, pure_verb, pure_deed, pure_things, pure_acts, pure_deeds])) (fun hC => ⟨(by first | rfl | exact hC | (simp only [Bool.and_eq_true] at hC; first | exact hC.1 | exact hC.1.1 | exact hC.2) | simp_all), (by first | rfl | exact hC | (simp only [Bool.and_eq_true] at hC; first | exact hC.1 | exact hC.1.1 | exact hC.2) | simp_all), trivial⟩) trivial ?_
      refine ch_v (R := []) rfl rfl (oc_or rfl rfl rfl (by first | exact fun h => h | simp_all)) trivial ?_
      refine ck_nil ?_
      refine aw_cond rfl (fun hb => ?_) (fun hb => ?_)
      · refine aw_seq ?_
        refine aw_text rfl ?_
        refine ch_v (R := []) rfl rfl (oc_assign (x := .val _) rfl rfl) trivial ?_
        refine ck_nil ?_
        refine aw_ret ?_
        exact ⟨.inl rfl, ResOk.tmp rfl (vb_eq (by unfold isWordS; rw [sall_false hlt (by have h1 := (wordC_not ((tB s).getD k 0)).symm.trans hb; simpa using h1), Bool.and_false])), trivial⟩
      · refine aw_skip ?_
        refine aw_text rfl ?_
        refine ch_v (R := []) rfl rfl (oc_move (x := .val _) rfl rfl) trivial ?_
        refine ch_v (R := []) rfl rfl (oc_binZ rfl rfl rfl (by first | exact binW_add (by omega) (by omega) | rfl)) trivial ?_
        refine ch_v (R := []) rfl rfl (oc_assign (x := .val _) rfl rfl) trivial ?_
        refine ck_nil ?_
        exact ⟨k + 1, ⟨by omega, rall_step (p := fun j => wordC ((tB s).getD j 0)) hI.2 (by have h1 := (wordC_not ((tB s).getD k 0)).symm.trans hb; simpa using h1)⟩, by omega, Le.sub (by repeat (first | trivial | refine ⟨.inr rfl, ?_⟩ | refine ⟨.inr (vi_eq (by omega)), ?_⟩)) (by repeat (first | trivial | refine ⟨rfl, ?_⟩))⟩
    · have hge : k = s.size := by simp at hb; omega
      refine aw_exit ?_
      refine aw_seq ?_
      refine aw_text rfl ?_
      refine ch_v (R := []) rfl rfl (oc_assign (x := .val _) rfl rfl) trivial ?_
      refine ck_nil ?_
      refine aw_ret ?_
      exact ⟨.inl rfl, ResOk.tmp rfl (vb_eq (by unfold isWordS; rw [sall_true hge hI.2, hw]; rfl)), trivial⟩
end Go.Proofs.Ytjloemlnejndmaa
