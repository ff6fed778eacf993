/- The walks of the tables' loops. -/
import Derived.Test.YtjloemlnejndmaaYa
import Derived.Test.YtjloemlnejndmaaProg
import Derived.KernelRfl
namespace Go.Proofs.Ytjloemlnejndmaa
open Go.RowKit
set_option maxRecDepth 100000
set_option linter.unusedVariables false
set_option linter.unusedSimpArgs false
set_option maxHeartbeats 800000 in
theorem allInt_pc (l : List Int) (K : Nat) (caps : List Av) (p : Int → Bool) (hK : callB Try.prog K = true) (hpc : PureL caps) (hp : ∀ x ∈ l, PC Try.prog K ([vi x] ++ caps) (vb (p x))) : PC Try.prog 59 [slI l, .clo K caps] (vb (l.all p)) := by
  refine FC.body 6 18 Try.func59 rfl (by kernel_rfl) ?_
  refine aw_fact (t := 0) (x := slI l) rfl sl_le fun hf => ?_
  refine aw_seq ?_
  refine aw_text rfl ?_
  refine ch_v (R := []) rfl rfl (oc_assign (x := .val _) rfl rfl) trivial ?_
  refine ck_nil ?_
  refine aw_seq ?_
  refine aw_seq ?_
  refine aw_text rfl ?_
  refine ch_v (R := []) rfl rfl (oc_move (x := .sl _ _ _) rfl rfl) trivial ?_
  refine ch_v (R := []) rfl rfl (oc_len rfl rfl (by kernel_rfl)) trivial ?_
  refine ch_v (R := []) rfl rfl (oc_move (x := .val _) rfl rfl) trivial ?_
  refine ck_nil ?_
  refine aw_block ?_
  refine aw_loop (ι := Nat) (fun k => ⟨[(1, .clo K caps), (7, slI l), (8, vi l.length), (9, vi k)], []⟩) (fun k => k ≤ l.length ∧ ∀ j, j < k → p (l.getD j 0) = true) (fun k => l.length - k) 0 (⟨Nat.zero_le _, rall_zero⟩) (Le.sub (by repeat (first | trivial | refine ⟨.inr rfl, ?_⟩ | refine ⟨.inr (vi_eq (by omega)), ?_⟩)) (by repeat (first | trivial | refine ⟨rfl, ?_⟩))) ?_
  intro k hI
  refine aw_seq ?_
  refine aw_text rfl ?_
  refine ch_v (R := []) rfl rfl (oc_binZ rfl rfl rfl rfl) trivial ?_
  refine ck_nil ?_
  refine aw_seq ?_
  refine aw_cond rfl (fun hb => ?_) (fun hb => ?_)
  · have hlt : k < l.length := by have h0 := of_decide_eq_true hb; omega
    refine aw_skip ?_
    refine aw_seq ?_
    refine aw_block ?_
    refine aw_seq ?_
    refine aw_text rfl ?_
    refine ch_v (R := []) rfl rfl ((by first | exact oc_indexN rfl rfl rfl (by kernel_rfl) (by omega) | exact oc_index rfl rfl rfl (by kernel_rfl) (by omega) (by omega) rfl)) trivial ?_
    refine ch_v (R := []) rfl rfl (oc_load rfl rfl (by kernel_rfl) cells_int) trivial ?_
    refine ch_v (R := []) rfl rfl (oc_assign (x := .val _) rfl rfl) trivial ?_
    refine ck_nil ?_
    refine aw_seq ?_
    refine aw_text rfl ?_
    refine ch_v (R := []) rfl rfl (oc_move (x := .clo _ _) rfl rfl) trivial ?_
    refine ch_v (R := []) rfl rfl (oc_move (x := .val _) rfl rfl) trivial ?_
    refine ch_v (R := []) rfl rfl (oc_callClo (f := K) (caps := caps) rfl rfl hK (hp _ (getD_mem hlt)) rfl ⟨by simp only [Pure, PureL, and_self, pure_tab, pure_th, pure_slI, pure_slS, pure_ways, pure_way, pure_line, pure_lines, pure_slot, pure_verb, pure_deed, pure_things, pure_acts, pure_deeds], hpc⟩ trivial) trivial ?_
    refine ch_v (R := []) rfl rfl (oc_not rfl rfl) trivial ?_
    refine ck_nil ?_
    refine aw_cond rfl (fun hb => ?_) (fun hb => ?_)
    · refine aw_seq ?_
      refine aw_text rfl ?_
      refine ch_v (R := []) rfl rfl (oc_assign (x := .val _) rfl rfl) trivial ?_
      refine ck_nil ?_
      refine aw_ret ?_
      exact ⟨.inl rfl, ResOk.tmp rfl (vb_eq (by rw [all_not (d := 0) hlt (by simpa using hb)])), trivial⟩
    · refine aw_skip ?_
      refine aw_text rfl ?_
      refine ch_v (R := []) rfl rfl (oc_binZ rfl rfl rfl (by first | exact binW_add (by omega) (by omega) | rfl)) trivial ?_
      refine ch_v (R := []) rfl rfl (oc_move (x := .val _) rfl rfl) trivial ?_
      refine ck_nil ?_
      exact ⟨k + 1, ⟨by omega, rall_step (p := fun j => p (l.getD j 0)) hI.2 (by simpa using hb)⟩, by omega, Le.sub (by repeat (first | trivial | refine ⟨.inr rfl, ?_⟩ | refine ⟨.inr (vi_eq (by omega)), ?_⟩)) (by repeat (first | trivial | refine ⟨rfl, ?_⟩))⟩
  · have hge : k = l.length := by have h0 := of_decide_eq_false hb; omega
    refine aw_exit ?_
    refine aw_seq ?_
    refine aw_text rfl ?_
    refine ch_v (R := []) rfl rfl (oc_assign (x := .val _) rfl rfl) trivial ?_
    refine ck_nil ?_
    refine aw_ret ?_
    exact ⟨.inl rfl, ResOk.tmp rfl (vb_eq (by rw [all_of (d := 0) fun j hj => hI.2 j (by omega)])), trivial⟩
set_option maxHeartbeats 800000 in
theorem rwords_pc (l : List ByteArray) (hl : SW l) (most : Int) : PC Try.prog 43 [slS l, vi most] (vb (wordsB l most)) := by
  refine FC.body 6 22 Try.func43 rfl (by kernel_rfl) ?_
  refine aw_fact (t := 0) (x := slS l) rfl sl_le fun hf => ?_
  refine aw_seq ?_
  refine aw_text rfl ?_
  refine ch_v (R := []) rfl rfl (oc_assign (x := .val _) rfl rfl) trivial ?_
  refine ck_nil ?_
  refine aw_seq ?_
  refine aw_seq ?_
  refine aw_text rfl ?_
  refine ch_v (R := []) rfl rfl (oc_assign (x := .val _) rfl rfl) trivial ?_
  refine ck_nil ?_
  refine aw_block ?_
  refine aw_loop (ι := Nat) (fun k => ⟨[(0, slS l), (1, vi most), (5, vi k)], []⟩) (fun k => k ≤ l.length ∧ ∀ j, j < k → isWordS (l.getD j ByteArray.empty) = true) (fun k => l.length - k) 0 (⟨Nat.zero_le _, rall_zero⟩) (Le.sub (by repeat (first | trivial | refine ⟨.inr rfl, ?_⟩ | refine ⟨.inr (vi_eq (by omega)), ?_⟩)) (by repeat (first | trivial | refine ⟨rfl, ?_⟩))) ?_
  intro k hI
  refine aw_seq ?_
  refine aw_seq ?_
  refine aw_text rfl ?_
  refine ch_v (R := []) rfl rfl (oc_move (x := .val _) rfl rfl) trivial ?_
  refine ch_v (R := []) rfl rfl (oc_move (x := .sl _ _ _) rfl rfl) trivial ?_
  refine ch_v (R := []) rfl rfl (oc_len rfl rfl (by kernel_rfl)) trivial ?_
  refine ch_v (R := []) rfl rfl (oc_binZ rfl rfl rfl rfl) trivial ?_
  refine ck_nil ?_
  refine aw_cond rfl (fun hb => ?_) (fun hb => ?_)
  · have hlt : k < l.length := by have h0 := of_decide_eq_true hb; omega
    refine aw_skip ?_
    refine aw_seq ?_
    refine aw_block ?_
    refine aw_seq ?_
    refine aw_text rfl ?_
    refine ch_v (R := []) rfl rfl (oc_move (x := .sl _ _ _) rfl rfl) trivial ?_
    refine ch_v (R := []) rfl rfl (oc_move (x := .val _) rfl rfl) trivial ?_
    refine ch_v (R := []) rfl rfl ((by first | exact oc_indexN rfl rfl rfl (by kernel_rfl) (by omega) | exact oc_index rfl rfl rfl (by kernel_rfl) (by omega) (by omega) rfl)) trivial ?_
    refine ch_v (R := []) rfl rfl (oc_load rfl rfl (by kernel_rfl) cells_str) trivial ?_
    refine ch_v (R := []) rfl rfl (oc_call rfl (by kernel_rfl) (rIsWord_pc _ (hl _ (getD_mem hlt))) rfl (by simp only [PureL, Pure, and_self, pure_tab, pure_th, pure_slI, pure_slS, pure_ways, pure_way, pure_line, pure_lines, pure_slot, pure_verb, pure_deed, pure_things, pure_acts, pure_deeds]) (by simp only [PureL, Pure, and_self, pure_tab, pure_th, pure_slI, pure_slS, pure_ways, pure_way, pure_line, pure_lines, pure_slot, pure_verb, pure_deed, pure_things, pure_acts, pure_deeds])) trivial ?_
    refine ch_v (R := []) rfl rfl (oc_not rfl rfl) trivial ?_
    refine ck_nil ?_
    refine aw_cond rfl (fun hb => ?_) (fun hb => ?_)
    · refine aw_seq ?_
      refine aw_text rfl ?_
      refine ch_v (R := []) rfl rfl (oc_assign (x := .val _) rfl rfl) trivial ?_
      refine ck_nil ?_
      refine aw_ret ?_
      exact ⟨.inl rfl, ResOk.tmp rfl (vb_eq (by unfold wordsB; rw [all_not (d := ByteArray.empty) hlt (by simpa using hb), Bool.and_false])), trivial⟩
    · refine aw_skip ?_
      refine aw_text rfl ?_
      refine ch_v (R := []) rfl rfl (oc_move (x := .val _) rfl rfl) trivial ?_
      refine ch_v (R := []) rfl rfl (oc_binZ rfl rfl rfl (by first | exact binW_add (by omega) (by omega) | rfl)) trivial ?_
      refine ch_v (R := []) rfl rfl (oc_assign (x := .val _) rfl rfl) trivial ?_
      refine ck_nil ?_
      exact ⟨k + 1, ⟨by omega, rall_step (p := fun j => isWordS (l.getD j ByteArray.empty)) hI.2 (by simpa using hb)⟩, by omega, Le.sub (by repeat (first | trivial | refine ⟨.inr rfl, ?_⟩ | refine ⟨.inr (vi_eq (by omega)), ?_⟩)) (by repeat (first | trivial | refine ⟨rfl, ?_⟩))⟩
  · have hge : k = l.length := by have h0 := of_decide_eq_false hb; omega
    refine aw_exit ?_
    refine aw_seq ?_
    refine aw_text rfl ?_
    refine ch_v (R := []) rfl rfl (oc_move (x := .sl _ _ _) rfl rfl) trivial ?_
    refine ch_v (R := []) rfl rfl (oc_len rfl rfl (by kernel_rfl)) trivial ?_
    refine ch_v (R := []) rfl rfl (oc_move (x := .val _) rfl rfl) trivial ?_
    refine ch_v (R := []) rfl rfl (oc_binZ rfl rfl rfl rfl) trivial ?_
    refine ch_v (R := []) rfl rfl (oc_assign (x := .val _) rfl rfl) trivial ?_
    refine ck_nil ?_
    refine aw_ret ?_
    exact ⟨.inl rfl, ResOk.tmp rfl (vb_eq (by unfold wordsB; rw [all_of (d := ByteArray.empty) fun j hj => hI.2 j (by omega), Bool.and_true])), trivial⟩
set_option maxHeartbeats 800000 in
theorem rvalues_pc (l : List Int) : PC Try.prog 27 [slI l] (vb (l.all isV16)) := by
  refine FC.body 6 16 Try.func27 rfl (by kernel_rfl) ?_
  refine aw_fact (t := 0) (x := slI l) rfl sl_le fun hf => ?_
  refine aw_seq ?_
  refine aw_text rfl ?_
  refine ch_v (R := []) rfl rfl (oc_assign (x := .val _) rfl rfl) trivial ?_
  refine ck_nil ?_
  refine aw_seq ?_
  refine aw_seq ?_
  refine aw_text rfl ?_
  refine ch_v (R := []) rfl rfl (oc_assign (x := .val _) rfl rfl) trivial ?_
  refine ck_nil ?_
  refine aw_block ?_
  refine aw_loop (ι := Nat) (fun k => ⟨[(0, slI l), (3, vi k)], []⟩) (fun k => k ≤ l.length ∧ ∀ j, j < k → isV16 (l.getD j 0) = true) (fun k => l.length - k) 0 (⟨Nat.zero_le _, rall_zero⟩) (Le.sub (by repeat (first | trivial | refine ⟨.inr rfl, ?_⟩ | refine ⟨.inr (vi_eq (by omega)), ?_⟩)) (by repeat (first | trivial | refine ⟨rfl, ?_⟩))) ?_
  intro k hI
  refine aw_seq ?_
  refine aw_seq ?_
  refine aw_text rfl ?_
  refine ch_v (R := []) rfl rfl (oc_move (x := .val _) rfl rfl) trivial ?_
  refine ch_v (R := []) rfl rfl (oc_move (x := .sl _ _ _) rfl rfl) trivial ?_
  refine ch_v (R := []) rfl rfl (oc_len rfl rfl (by kernel_rfl)) trivial ?_
  refine ch_v (R := []) rfl rfl (oc_binZ rfl rfl rfl rfl) trivial ?_
  refine ck_nil ?_
  refine aw_cond rfl (fun hb => ?_) (fun hb => ?_)
  · have hlt : k < l.length := by have h0 := of_decide_eq_true hb; omega
    refine aw_skip ?_
    refine aw_seq ?_
    refine aw_block ?_
    refine aw_seq ?_
    refine aw_text rfl ?_
    refine ch_v (R := []) rfl rfl (oc_move (x := .sl _ _ _) rfl rfl) trivial ?_
    refine ch_v (R := []) rfl rfl (oc_move (x := .val _) rfl rfl) trivial ?_
    refine ch_v (R := []) rfl rfl ((by first | exact oc_indexN rfl rfl rfl (by kernel_rfl) (by omega) | exact oc_index rfl rfl rfl (by kernel_rfl) (by omega) (by omega) rfl)) trivial ?_
    refine ch_v (R := []) rfl rfl (oc_load rfl rfl (by kernel_rfl) cells_int) trivial ?_
    refine ch_v (R := []) rfl rfl (oc_call rfl (by kernel_rfl) (rIs_pc _) rfl (by simp only [PureL, Pure, and_self, pure_tab, pure_th, pure_slI, pure_slS, pure_ways, pure_way, pure_line, pure_lines, pure_slot, pure_verb, pure_deed, pure_things, pure_acts, pure_deeds]) (by simp only [PureL, Pure, and_self, pure_tab, pure_th, pure_slI, pure_slS, pure_ways, pure_way, pure_line, pure_lines, pure_slot, pure_verb, pure_deed, pure_things, pure_acts, pure_deeds])) trivial ?_
    refine ch_v (R := []) rfl rfl (oc_not rfl rfl) trivial ?_
    refine ck_nil ?_
    refine aw_cond rfl (fun hb => ?_) (fun hb => ?_)
    · refine aw_seq ?_
      refine aw_text rfl ?_
      refine ch_v (R := []) rfl rfl (oc_assign (x := .val _) rfl rfl) trivial ?_
      refine ck_nil ?_
      refine aw_ret ?_
      exact ⟨.inl rfl, ResOk.tmp rfl (vb_eq (by rw [all_not (d := 0) hlt (by simpa using hb)])), trivial⟩
    · refine aw_skip ?_
      refine aw_text rfl ?_
      refine ch_v (R := []) rfl rfl (oc_move (x := .val _) rfl rfl) trivial ?_
      refine ch_v (R := []) rfl rfl (oc_binZ rfl rfl rfl (by first | exact binW_add (by omega) (by omega) | rfl)) trivial ?_
      refine ch_v (R := []) rfl rfl (oc_assign (x := .val _) rfl rfl) trivial ?_
      refine ck_nil ?_
      exact ⟨k + 1, ⟨by omega, rall_step (p := fun j => isV16 (l.getD j 0)) hI.2 (by simpa using hb)⟩, by omega, Le.sub (by repeat (first | trivial | refine ⟨.inr rfl, ?_⟩ | refine ⟨.inr (vi_eq (by omega)), ?_⟩)) (by repeat (first | trivial | refine ⟨rfl, ?_⟩))⟩
  · have hge : k = l.length := by have h0 := of_decide_eq_false hb; omega
    refine aw_exit ?_
    refine aw_seq ?_
    refine aw_text rfl ?_
    refine ch_v (R := []) rfl rfl (oc_assign (x := .val _) rfl rfl) trivial ?_
    refine ck_nil ?_
    refine aw_ret ?_
    exact ⟨.inl rfl, ResOk.tmp rfl (vb_eq (by rw [all_of (d := 0) fun j hj => hI.2 j (by omega)])), trivial⟩
set_option maxHeartbeats 800000 in
theorem rall_pc (l : List Int) (lo hi : Int) : PC Try.prog 28 [slI l, vi lo, vi hi] (vb (allZ l lo hi)) := by
  refine FC.body 6 22 Try.func28 rfl (by kernel_rfl) ?_
  refine aw_fact (t := 0) (x := slI l) rfl sl_le fun hf => ?_
  refine aw_seq ?_
  refine aw_text rfl ?_
  refine ch_v (R := []) rfl rfl (oc_assign (x := .val _) rfl rfl) trivial ?_
  refine ck_nil ?_
  refine aw_seq ?_
  refine aw_seq ?_
  refine aw_text rfl ?_
  refine ch_v (R := []) rfl rfl (oc_assign (x := .val _) rfl rfl) trivial ?_
  refine ck_nil ?_
  refine aw_block ?_
  refine aw_loop (ι := Nat) (fun k => ⟨[(0, slI l), (1, vi lo), (2, vi hi), (7, vi k)], []⟩) (fun k => k ≤ l.length ∧ ∀ j, j < k → among (l.getD j 0) lo hi = true) (fun k => l.length - k) 0 (⟨Nat.zero_le _, rall_zero⟩) (Le.sub (by repeat (first | trivial | refine ⟨.inr rfl, ?_⟩ | refine ⟨.inr (vi_eq (by omega)), ?_⟩)) (by repeat (first | trivial | refine ⟨rfl, ?_⟩))) ?_
  intro k hI
  refine aw_seq ?_
  refine aw_seq ?_
  refine aw_text rfl ?_
  refine ch_v (R := []) rfl rfl (oc_move (x := .val _) rfl rfl) trivial ?_
  refine ch_v (R := []) rfl rfl (oc_move (x := .sl _ _ _) rfl rfl) trivial ?_
  refine ch_v (R := []) rfl rfl (oc_len rfl rfl (by kernel_rfl)) trivial ?_
  refine ch_v (R := []) rfl rfl (oc_binZ rfl rfl rfl rfl) trivial ?_
  refine ck_nil ?_
  refine aw_cond rfl (fun hb => ?_) (fun hb => ?_)
  · have hlt : k < l.length := by have h0 := of_decide_eq_true hb; omega
    refine aw_skip ?_
    refine aw_seq ?_
    refine aw_block ?_
    refine aw_seq ?_
    refine aw_text rfl ?_
    refine ch_v (R := []) rfl rfl (oc_move (x := .sl _ _ _) rfl rfl) trivial ?_
    refine ch_v (R := []) rfl rfl (oc_move (x := .val _) rfl rfl) trivial ?_
    refine ch_v (R := []) rfl rfl ((by first | exact oc_indexN rfl rfl rfl (by kernel_rfl) (by omega) | exact oc_index rfl rfl rfl (by kernel_rfl) (by omega) (by omega) rfl)) trivial ?_
    refine ch_v (R := []) rfl rfl (oc_load rfl rfl (by kernel_rfl) cells_int) trivial ?_
    refine ch_v (R := []) rfl rfl (oc_move (x := .val _) rfl rfl) trivial ?_
    refine ch_v (R := []) rfl rfl (oc_move (x := .val _) rfl rfl) trivial ?_
    refine ch_v (R := []) rfl rfl (oc_call rfl (by kernel_rfl) (rfrom_pc _ _ _) rfl (by simp only [PureL, Pure, and_self, pure_tab, pure_th, pure_slI, pure_slS, pure_ways, pure_way, pure_line, pure_lines, pure_slot, pure_verb, pure_deed, pure_things, pure_acts, pure_deeds]) (by simp only [PureL, Pure, and_self, pure_tab, pure_th, pure_slI, pure_slS, pure_ways, pure_way, pure_line, pure_lines, pure_slot, pure_verb, pure_deed, pure_things, pure_acts, pure_deeds])) trivial ?_
    refine ch_v (R := []) rfl rfl (oc_not rfl rfl) trivial ?_
    refine ck_nil ?_
    refine aw_cond rfl (fun hb => ?_) (fun hb => ?_)
    · refine aw_seq ?_
      refine aw_text rfl ?_
      refine ch_v (R := []) rfl rfl (oc_assign (x := .val _) rfl rfl) trivial ?_
      refine ck_nil ?_
      refine aw_ret ?_
      exact ⟨.inl rfl, ResOk.tmp rfl (vb_eq (by unfold allZ; rw [all_not (d := 0) hlt (by simpa using hb)])), trivial⟩
    · refine aw_skip ?_
      refine aw_text rfl ?_
      refine ch_v (R := []) rfl rfl (oc_move (x := .val _) rfl rfl) trivial ?_
      refine ch_v (R := []) rfl rfl (oc_binZ rfl rfl rfl (by first | exact binW_add (by omega) (by omega) | rfl)) trivial ?_
      refine ch_v (R := []) rfl rfl (oc_assign (x := .val _) rfl rfl) trivial ?_
      refine ck_nil ?_
      exact ⟨k + 1, ⟨by omega, rall_step (p := fun j => among (l.getD j 0) lo hi) hI.2 (by simpa using hb)⟩, by omega, Le.sub (by repeat (first | trivial | refine ⟨.inr rfl, ?_⟩ | refine ⟨.inr (vi_eq (by omega)), ?_⟩)) (by repeat (first | trivial | refine ⟨rfl, ?_⟩))⟩
  · have hge : k = l.length := by have h0 := of_decide_eq_false hb; omega
    refine aw_exit ?_
    refine aw_seq ?_
    refine aw_text rfl ?_
    refine ch_v (R := []) rfl rfl (oc_assign (x := .val _) rfl rfl) trivial ?_
    refine ck_nil ?_
    refine aw_ret ?_
    exact ⟨.inl rfl, ResOk.tmp rfl (vb_eq (by unfold allZ; rw [all_of (d := 0) fun j hj => hI.2 j (by omega)])), trivial⟩
end Go.Proofs.Ytjloemlnejndmaa
