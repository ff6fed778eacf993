/- The walk that begins a story, and the example's. The examples of chapter 19, walked, and the law of tables. The walks that compare and copy worlds; the laws of sameness and of keys. -/
import Derived.Test.YtjloemlnejndmaaYh
import Derived.Test.YtjloemlnejndmaaYg
import Derived.Test.YtjloemlnejndmaaProg
import Derived.KernelRfl
import Derived.Test.YtjloemlnejndmaaYk
namespace Go.Proofs.Ytjloemlnejndmaa
open Go.RowKit
set_option maxRecDepth 100000
set_option linter.unusedVariables false
set_option linter.unusedSimpArgs false
/-! ### Plain -/
end Go.Proofs.Ytjloemlnejndmaa
namespace Go.Proofs.Ytjloemlnejndmaa
open Go.RowKit
set_option maxRecDepth 100000
set_option linter.unusedVariables false
set_option linter.unusedSimpArgs false

end Go.Proofs.Ytjloemlnejndmaa
namespace Go.Proofs.Ytjloemlnejndmaa
open Go.RowKit
set_option maxRecDepth 100000
set_option linter.unusedVariables false
set_option linter.unusedSimpArgs false
/-! ### Plain -/
theorem eq_len {l m : List Int} (h : l.length ≠ m.length) : (l == m) = false := by
  rw [beq_eq_false_iff_ne]
  intro e
  exact h (by rw [e])
theorem eq_at {l m : List Int} {k : Nat} (h : l.getD k 0 ≠ m.getD k 0) : (l == m) = false := by
  rw [beq_eq_false_iff_ne]
  intro e
  exact h (by rw [e])
theorem eq_all {l m : List Int} (h : l.length = m.length) (h2 : ∀ j, j < l.length → (l.getD j 0 == m.getD j 0) = true) : (l == m) = true := by
  rw [beq_iff_eq]
  refine List.ext_getElem h fun i h3 h4 => ?_
  have := h2 i h3
  simpa [h3, h4] using this
def sameW (a b : WorldP) : Bool := a.globals == b.globals && a.parent == b.parent && a.child == b.child && a.next == b.next && a.flags == b.flags && a.props == b.props && a.timers == b.timers && a.seed == b.seed && a.score == b.score && a.turns == b.turns && a.over == b.over && a.it == b.it && a.go == b.go
theorem sameW_refl (a : WorldP) : sameW a a = true := by simp [sameW]
set_option maxHeartbeats 800000 in
theorem req_pc (l m : List Int) : PC Try.prog 25 [slI l, slI m] (vb (l == m)) := by
  refine FC.body 6 26 Try.func25 rfl (by kernel_rfl) ?_
  refine aw_fact (t := 0) (x := slI l) rfl sl_le fun hf => ?_
  refine aw_fact (t := 1) (x := slI m) rfl sl_le fun hf2 => ?_
  refine aw_seq ?_
  refine aw_text rfl ?_
  refine ch_v (R := []) rfl rfl (oc_assign (x := .val _) rfl rfl) trivial ?_
  refine ck_nil ?_
  refine aw_seq ?_
  refine aw_seq ?_
  refine aw_text rfl ?_
  refine ch_v (R := []) rfl rfl (oc_move (x := .sl _ _ _) rfl rfl) trivial ?_
  refine ch_v (R := []) rfl rfl (oc_len rfl rfl (by kernel_rfl)) trivial ?_
  refine ch_v (R := []) rfl rfl (oc_move (x := .sl _ _ _) rfl rfl) trivial ?_
  refine ch_v (R := []) rfl rfl (oc_len rfl rfl (by kernel_rfl)) trivial ?_
  refine ch_v (R := []) rfl rfl (oc_binZ rfl rfl rfl rfl) trivial ?_
  refine ck_nil ?_
  refine aw_cond rfl (fun hb => ?_) (fun hb => ?_)
  · have hne : l.length ≠ m.length := by have h0 : ¬ ((l.length : Int) = m.length) := (by simpa using hb); omega
    refine aw_seq ?_
    refine aw_text rfl ?_
    refine ch_v (R := []) rfl rfl (oc_assign (x := .val _) rfl rfl) trivial ?_
    refine ck_nil ?_
    refine aw_ret ?_
    exact ⟨.inl rfl, ResOk.tmp rfl (vb_eq (by rw [eq_len hne])), trivial⟩
  · have hlm : l.length = m.length := by have h0 : ((l.length : Int) = m.length) := (by simpa using hb); omega
    refine aw_skip ?_
    refine aw_seq ?_
    refine aw_seq ?_
    refine aw_text rfl ?_
    refine ch_v (R := []) rfl rfl (oc_assign (x := .val _) rfl rfl) trivial ?_
    refine ck_nil ?_
    refine aw_block ?_
    refine aw_loop (ι := Nat) (fun k => ⟨[(0, slI l), (1, slI m), (5, vi k)], []⟩) (fun k => k ≤ l.length ∧ ∀ j, j < k → (l.getD j 0 == m.getD j 0) = true) (fun k => l.length - k) 0 (⟨Nat.zero_le _, fun j hj => absurd hj (by omega)⟩) (Le.sub (by repeat (first | trivial | refine ⟨.inr rfl, ?_⟩ | refine ⟨.inr (vi_eq (by omega)), ?_⟩)) (by repeat (first | trivial | refine ⟨rfl, ?_⟩))) ?_
    intro k hI
    refine aw_seq ?_
    refine aw_seq ?_
    refine aw_text rfl ?_
    refine ch_v (R := []) rfl rfl (oc_move (x := .val _) rfl rfl) trivial ?_
    refine ch_v (R := []) rfl rfl (oc_move (x := .sl _ _ _) rfl rfl) trivial ?_
    refine ch_v (R := []) rfl rfl (oc_len rfl rfl (by kernel_rfl)) trivial ?_
    refine ch_v (R := []) rfl rfl (oc_binZ rfl rfl rfl rfl) trivial ?_
    refine ck_nil ?_
    refine aw_cond rfl (fun hb => ?_) (fun hb => ?_)
    · have hlt : k < l.length := by have h0 := of_decide_eq_true hb; omega
      refine aw_skip ?_
      refine aw_seq ?_
      refine aw_block ?_
      refine aw_seq ?_
      refine aw_draw mixed ?_
      refine ch_v (R := []) rfl rfl (oc_move (x := .sl _ _ _) rfl rfl) trivial ?_
      refine ch_v (R := []) rfl rfl (oc_move (x := .val _) rfl rfl) trivial ?_
      refine ch_v (R := []) rfl rfl ((by first | exact oc_indexN rfl rfl rfl (by kernel_rfl) (by omega) | exact oc_index rfl rfl rfl (by kernel_rfl) (by omega) (by omega) rfl)) trivial ?_
      refine ch_v (R := []) rfl rfl (oc_load rfl rfl (by kernel_rfl) cells_int) trivial ?_
      refine ch_v (R := []) rfl rfl (oc_move (x := .sl _ _ _) rfl rfl) trivial ?_
      refine ch_v (R := []) rfl rfl (oc_move (x := .val _) rfl rfl) trivial ?_
      refine ch_v (R := []) rfl rfl ((by first | exact oc_indexN rfl rfl rfl (by kernel_rfl) (by omega) | exact oc_index rfl rfl rfl (by kernel_rfl) (by omega) (by omega) rfl)) trivial ?_
      refine ch_v (R := []) rfl rfl (oc_load rfl rfl (by kernel_rfl) cells_int) trivial ?_
      refine ch_v (R := []) rfl rfl (oc_binZ rfl rfl rfl rfl) trivial ?_
      refine ck_nil ⟨by kernel_rfl, ?_⟩
      refine aw_cond rfl (fun hb => ?_) (fun hb => ?_)
      · refine aw_seq ?_
        refine aw_text rfl ?_
        refine ch_v (R := []) rfl rfl (oc_assign (x := .val _) rfl rfl) trivial ?_
        refine ck_nil ?_
        refine aw_ret ?_
        exact ⟨.inl rfl, ResOk.tmp rfl (vb_eq (by rw [eq_at (by simpa using hb)])), trivial⟩
      · refine aw_skip ?_
        refine aw_text rfl ?_
        refine ch_v (R := []) rfl rfl (oc_move (x := .val _) rfl rfl) trivial ?_
        refine ch_v (R := []) rfl rfl (oc_binZ rfl rfl rfl (by first | exact binW_add (by omega) (by omega) | rfl)) trivial ?_
        refine ch_v (R := []) rfl rfl (oc_assign (x := .val _) rfl rfl) trivial ?_
        refine ck_nil ?_
        exact ⟨k + 1, ⟨by omega, rall_step (p := fun j => l.getD j 0 == m.getD j 0) hI.2 (by simpa using hb)⟩, by omega, Le.sub (by repeat (first | trivial | refine ⟨.inr rfl, ?_⟩ | refine ⟨.inr (vi_eq (by omega)), ?_⟩)) (by repeat (first | trivial | refine ⟨rfl, ?_⟩))⟩
    · have hge : k = l.length := by have h0 := of_decide_eq_false hb; omega
      refine aw_exit ?_
      refine aw_seq ?_
      refine aw_text rfl ?_
      refine ch_v (R := []) rfl rfl (oc_assign (x := .val _) rfl rfl) trivial ?_
      refine ck_nil ?_
      refine aw_ret ?_
      exact ⟨.inl rfl, ResOk.tmp rfl (vb_eq (by rw [eq_all hlm fun j hj => hI.2 j (by omega)])), trivial⟩
set_option maxHeartbeats 800000 in
theorem rsame_pc (a b : WorldP) : PC Try.prog 10 [worldAv a, worldAv b] (vb (sameW a b)) := by
  refine FC.body 6 99 Try.func10 rfl (by kernel_rfl) ?_
  refine aw_seq ?_
  refine aw_text rfl ?_
  refine ch_v (R := []) rfl rfl (oc_box (x := .agg _) rfl rfl) trivial ?_
  refine ch_v (R := []) rfl rfl (oc_box (x := .agg _) rfl rfl) trivial ?_
  refine ch_v (R := []) rfl rfl (oc_assign (x := .val _) rfl rfl) trivial ?_
  refine ck_nil ?_
  refine aw_seq ?_
  refine aw_seq ?_
  refine aw_text rfl ?_
  refine ch_v (R := []) rfl rfl (oc_fieldAddr (off := 0) rfl rfl rfl (by kernel_rfl) rfl) trivial ?_
  refine ch_v (R := []) rfl rfl (oc_load rfl rfl (by kernel_rfl) cells_sl) trivial ?_
  refine ch_v (R := []) rfl rfl (oc_fieldAddr (off := 0) rfl rfl rfl (by kernel_rfl) rfl) trivial ?_
  refine ch_v (R := []) rfl rfl (oc_load rfl rfl (by kernel_rfl) cells_sl) trivial ?_
  refine ch_v (R := []) rfl rfl (oc_call rfl (by kernel_rfl) (req_pc _ _) rfl (by simp only [PureL, Pure, and_self, pure_tab, pure_th, pure_slI, pure_slS, pure_ways, pure_way, pure_line, pure_lines, pure_slot, pure_verb, pure_deed, pure_things, pure_acts, pure_deeds, pure_world, vu]) (by simp only [PureL, Pure, and_self, pure_tab, pure_th, pure_slI, pure_slS, pure_ways, pure_way, pure_line, pure_lines, pure_slot, pure_verb, pure_deed, pure_things, pure_acts, pure_deeds, pure_world, vu])) trivial ?_
  refine ch_v (R := []) rfl rfl (oc_not rfl rfl) trivial ?_
  refine ch_v (R := []) rfl rfl (oc_move (x := .val _) rfl rfl) trivial ?_
  refine ch_g (R := []) rfl rfl rfl gate_f (fun hC => oc_fieldAddr (off := 1) rfl rfl rfl (by kernel_rfl) rfl) (fun hC => ⟨(by first | rfl | exact hC | (simp only [Bool.and_eq_true] at hC; first | exact hC.1 | exact hC.1.1 | exact hC.2) | simp_all), trivial⟩) trivial ?_
  refine ch_g (R := []) rfl rfl rfl gate_f (fun hC => oc_load rfl rfl (by kernel_rfl) cells_sl) (fun hC => ⟨(by first | rfl | exact hC | (simp only [Bool.and_eq_true] at hC; first | exact hC.1 | exact hC.1.1 | exact hC.2) | simp_all), trivial⟩) trivial ?_
  refine ch_g (R := []) rfl rfl rfl gate_f (fun hC => oc_fieldAddr (off := 1) rfl rfl rfl (by kernel_rfl) rfl) (fun hC => ⟨(by first | rfl | exact hC | (simp only [Bool.and_eq_true] at hC; first | exact hC.1 | exact hC.1.1 | exact hC.2) | simp_all), trivial⟩) trivial ?_
  refine ch_g (R := []) rfl rfl rfl gate_f (fun hC => oc_load rfl rfl (by kernel_rfl) cells_sl) (fun hC => ⟨(by first | rfl | exact hC | (simp only [Bool.and_eq_true] at hC; first | exact hC.1 | exact hC.1.1 | exact hC.2) | simp_all), trivial⟩) trivial ?_
  refine ch_g (R := []) rfl rfl rfl gate_f (fun hC => oc_call rfl (by kernel_rfl) (req_pc _ _) rfl (by simp only [PureL, Pure, and_self, pure_tab, pure_th, pure_slI, pure_slS, pure_ways, pure_way, pure_line, pure_lines, pure_slot, pure_verb, pure_deed, pure_things, pure_acts, pure_deeds, pure_world, vu]) (by simp only [PureL, Pure, and_self, pure_tab, pure_th, pure_slI, pure_slS, pure_ways, pure_way, pure_line, pure_lines, pure_slot, pure_verb, pure_deed, pure_things, pure_acts, pure_deeds, pure_world, vu])) (fun hC => ⟨(by first | rfl | exact hC | (simp only [Bool.and_eq_true] at hC; first | exact hC.1 | exact hC.1.1 | exact hC.2) | simp_all), (by first | rfl | exact hC | (simp only [Bool.and_eq_true] at hC; first | exact hC.1 | exact hC.1.1 | exact hC.2) | simp_all), (by first | rfl | exact hC | (simp only [Bool.and_eq_true] at hC; first | exact hC.1 | exact hC.1.1 | exact hC.2) | simp_all), trivial⟩) trivial ?_
  refine ch_g (R := []) rfl rfl rfl gate_f (fun hC => oc_not rfl rfl) (fun hC => ⟨(by first | rfl | exact hC | (simp only [Bool.and_eq_true] at hC; first | exact hC.1 | exact hC.1.1 | exact hC.2) | simp_all), trivial⟩) trivial ?_
  refine ch_v (R := []) rfl rfl (oc_or rfl rfl rfl (by first | exact fun h => h | simp_all)) trivial ?_
  refine ch_v (R := []) rfl rfl (oc_move (x := .val _) rfl rfl) trivial ?_
  refine ch_g (R := []) rfl rfl rfl gate_f (fun hC => oc_fieldAddr (off := 2) rfl rfl rfl (by kernel_rfl) rfl) (fun hC => ⟨(by first | rfl | exact hC | (simp only [Bool.and_eq_true] at hC; first | exact hC.1 | exact hC.1.1 | exact hC.2) | simp_all), trivial⟩) trivial ?_
  refine ch_g (R := []) rfl rfl rfl gate_f (fun hC => oc_load rfl rfl (by kernel_rfl) cells_sl) (fun hC => ⟨(by first | rfl | exact hC | (simp only [Bool.and_eq_true] at hC; first | exact hC.1 | exact hC.1.1 | exact hC.2) | simp_all), trivial⟩) trivial ?_
  refine ch_g (R := []) rfl rfl rfl gate_f (fun hC => oc_fieldAddr (off := 2) rfl rfl rfl (by kernel_rfl) rfl) (fun hC => ⟨(by first | rfl | exact hC | (simp only [Bool.and_eq_true] at hC; first | exact hC.1 | exact hC.1.1 | exact hC.2) | simp_all), trivial⟩) trivial ?_
  refine ch_g (R := []) rfl rfl rfl gate_f (fun hC => oc_load rfl rfl (by kernel_rfl) cells_sl) (fun hC => ⟨(by first | rfl | exact hC | (simp only [Bool.and_eq_true] at hC; first | exact hC.1 | exact hC.1.1 | exact hC.2) | simp_all), trivial⟩) trivial ?_
  refine ch_g (R := []) rfl rfl rfl gate_f (fun hC => oc_call rfl (by kernel_rfl) (req_pc _ _) rfl (by simp only [PureL, Pure, and_self, pure_tab, pure_th, pure_slI, pure_slS, pure_ways, pure_way, pure_line, pure_lines, pure_slot, pure_verb, pure_deed, pure_things, pure_acts, pure_deeds, pure_world, vu]) (by simp only [PureL, Pure, and_self, pure_tab, pure_th, pure_slI, pure_slS, pure_ways, pure_way, pure_line, pure_lines, pure_slot, pure_verb, pure_deed, pure_things, pure_acts, pure_deeds, pure_world, vu])) (fun hC => ⟨(by first | rfl | exact hC | (simp only [Bool.and_eq_true] at hC; first | exact hC.1 | exact hC.1.1 | exact hC.2) | simp_all), (by first | rfl | exact hC | (simp only [Bool.and_eq_true] at hC; first | exact hC.1 | exact hC.1.1 | exact hC.2) | simp_all), (by first | rfl | exact hC | (simp only [Bool.and_eq_true] at hC; first | exact hC.1 | exact hC.1.1 | exact hC.2) | simp_all), trivial⟩) trivial ?_
  refine ch_g (R := []) rfl rfl rfl gate_f (fun hC => oc_not rfl rfl) (fun hC => ⟨(by first | rfl | exact hC | (simp only [Bool.and_eq_true] at hC; first | exact hC.1 | exact hC.1.1 | exact hC.2) | simp_all), trivial⟩) trivial ?_
  refine ch_v (R := []) rfl rfl (oc_or rfl rfl rfl (by first | exact fun h => h | simp_all)) trivial ?_
  refine ch_v (R := []) rfl rfl (oc_move (x := .val _) rfl rfl) trivial ?_
  refine ch_g (R := []) rfl rfl rfl gate_f (fun hC => oc_fieldAddr (off := 3) rfl rfl rfl (by kernel_rfl) rfl) (fun hC => ⟨(by first | rfl | exact hC | (simp only [Bool.and_eq_true] at hC; first | exact hC.1 | exact hC.1.1 | exact hC.2) | simp_all), trivial⟩) trivial ?_
  refine ch_g (R := []) rfl rfl rfl gate_f (fun hC => oc_load rfl rfl (by kernel_rfl) cells_sl) (fun hC => ⟨(by first | rfl | exact hC | (simp only [Bool.and_eq_true] at hC; first | exact hC.1 | exact hC.1.1 | exact hC.2) | simp_all), trivial⟩) trivial ?_
  refine ch_g (R := []) rfl rfl rfl gate_f (fun hC => oc_fieldAddr (off := 3) rfl rfl rfl (by kernel_rfl) rfl) (fun hC => ⟨(by first | rfl | exact hC | (simp only [Bool.and_eq_true] at hC; first | exact hC.1 | exact hC.1.1 | exact hC.2) | simp_all), trivial⟩) trivial ?_
  refine ch_g (R := []) rfl rfl rfl gate_f (fun hC => oc_load rfl rfl (by kernel_rfl) cells_sl) (fun hC => ⟨(by first | rfl | exact hC | (simp only [Bool.and_eq_true] at hC; first | exact hC.1 | exact hC.1.1 | exact hC.2) | simp_all), trivial⟩) trivial ?_
  refine ch_g (R := []) rfl rfl rfl gate_f (fun hC => oc_call rfl (by kernel_rfl) (req_pc _ _) rfl (by simp only [PureL, Pure, and_self, pure_tab, pure_th, pure_slI, pure_slS, pure_ways, pure_way, pure_line, pure_lines, pure_slot, pure_verb, pure_deed, pure_things, pure_acts, pure_deeds, pure_world, vu]) (by simp only [PureL, Pure, and_self, pure_tab, pure_th, pure_slI, pure_slS, pure_ways, pure_way, pure_line, pure_lines, pure_slot, pure_verb, pure_deed, pure_things, pure_acts, pure_deeds, pure_world, vu])) (fun hC => ⟨(by first | rfl | exact hC | (simp only [Bool.and_eq_true] at hC; first | exact hC.1 | exact hC.1.1 | exact hC.2) | simp_all), (by first | rfl | exact hC | (simp only [Bool.and_eq_true] at hC; first | exact hC.1 | exact hC.1.1 | exact hC.2) | simp_all), (by first | rfl | exact hC | (simp only [Bool.and_eq_true] at hC; first | exact hC.1 | exact hC.1.1 | exact hC.2) | simp_all), trivial⟩) trivial ?_
  refine ch_g (R := []) rfl rfl rfl gate_f (fun hC => oc_not rfl rfl) (fun hC => ⟨(by first | rfl | exact hC | (simp only [Bool.and_eq_true] at hC; first | exact hC.1 | exact hC.1.1 | exact hC.2) | simp_all), trivial⟩) trivial ?_
  refine ch_v (R := []) rfl rfl (oc_or rfl rfl rfl (by first | exact fun h => h | simp_all)) trivial ?_
  refine ch_v (R := []) rfl rfl (oc_move (x := .val _) rfl rfl) trivial ?_
  refine ch_g (R := []) rfl rfl rfl gate_f (fun hC => oc_fieldAddr (off := 4) rfl rfl rfl (by kernel_rfl) rfl) (fun hC => ⟨(by first | rfl | exact hC | (simp only [Bool.and_eq_true] at hC; first | exact hC.1 | exact hC.1.1 | exact hC.2) | simp_all), trivial⟩) trivial ?_
  refine ch_g (R := []) rfl rfl rfl gate_f (fun hC => oc_load rfl rfl (by kernel_rfl) cells_sl) (fun hC => ⟨(by first | rfl | exact hC | (simp only [Bool.and_eq_true] at hC; first | exact hC.1 | exact hC.1.1 | exact hC.2) | simp_all), trivial⟩) trivial ?_
  refine ch_g (R := []) rfl rfl rfl gate_f (fun hC => oc_fieldAddr (off := 4) rfl rfl rfl (by kernel_rfl) rfl) (fun hC => ⟨(by first | rfl | exact hC | (simp only [Bool.and_eq_true] at hC; first | exact hC.1 | exact hC.1.1 | exact hC.2) | simp_all), trivial⟩) trivial ?_
  refine ch_g (R := []) rfl rfl rfl gate_f (fun hC => oc_load rfl rfl (by kernel_rfl) cells_sl) (fun hC => ⟨(by first | rfl | exact hC | (simp only [Bool.and_eq_true] at hC; first | exact hC.1 | exact hC.1.1 | exact hC.2) | simp_all), trivial⟩) trivial ?_
  refine ch_g (R := []) rfl rfl rfl gate_f (fun hC => oc_call rfl (by kernel_rfl) (req_pc _ _) rfl (by simp only [PureL, Pure, and_self, pure_tab, pure_th, pure_slI, pure_slS, pure_ways, pure_way, pure_line, pure_lines, pure_slot, pure_verb, pure_deed, pure_things, pure_acts, pure_deeds, pure_world, vu]) (by simp only [PureL, Pure, and_self, pure_tab, pure_th, pure_slI, pure_slS, pure_ways, pure_way, pure_line, pure_lines, pure_slot, pure_verb, pure_deed, pure_things, pure_acts, pure_deeds, pure_world, vu])) (fun hC => ⟨(by first | rfl | exact hC | (simp only [Bool.and_eq_true] at hC; first | exact hC.1 | exact hC.1.1 | exact hC.2) | simp_all), (by first | rfl | exact hC | (simp only [Bool.and_eq_true] at hC; first | exact hC.1 | exact hC.1.1 | exact hC.2) | simp_all), (by first | rfl | exact hC | (simp only [Bool.and_eq_true] at hC; first | exact hC.1 | exact hC.1.1 | exact hC.2) | simp_all), trivial⟩) trivial ?_
  refine ch_g (R := []) rfl rfl rfl gate_f (fun hC => oc_not rfl rfl) (fun hC => ⟨(by first | rfl | exact hC | (simp only [Bool.and_eq_true] at hC; first | exact hC.1 | exact hC.1.1 | exact hC.2) | simp_all), trivial⟩) trivial ?_
  refine ch_v (R := []) rfl rfl (oc_or rfl rfl rfl (by first | exact fun h => h | simp_all)) trivial ?_
  refine ch_v (R := []) rfl rfl (oc_move (x := .val _) rfl rfl) trivial ?_
  refine ch_g (R := []) rfl rfl rfl gate_f (fun hC => oc_fieldAddr (off := 5) rfl rfl rfl (by kernel_rfl) rfl) (fun hC => ⟨(by first | rfl | exact hC | (simp only [Bool.and_eq_true] at hC; first | exact hC.1 | exact hC.1.1 | exact hC.2) | simp_all), trivial⟩) trivial ?_
  refine ch_g (R := []) rfl rfl rfl gate_f (fun hC => oc_load rfl rfl (by kernel_rfl) cells_sl) (fun hC => ⟨(by first | rfl | exact hC | (simp only [Bool.and_eq_true] at hC; first | exact hC.1 | exact hC.1.1 | exact hC.2) | simp_all), trivial⟩) trivial ?_
  refine ch_g (R := []) rfl rfl rfl gate_f (fun hC => oc_fieldAddr (off := 5) rfl rfl rfl (by kernel_rfl) rfl) (fun hC => ⟨(by first | rfl | exact hC | (simp only [Bool.and_eq_true] at hC; first | exact hC.1 | exact hC.1.1 | exact hC.2) | simp_all), trivial⟩) trivial ?_
  refine ch_g (R := []) rfl rfl rfl gate_f (fun hC => oc_load rfl rfl (by kernel_rfl) cells_sl) (fun hC => ⟨(by first | rfl | exact hC | (simp only [Bool.and_eq_true] at hC; first | exact hC.1 | exact hC.1.1 | exact hC.2) | simp_all), trivial⟩) trivial ?_
  refine ch_g (R := []) rfl rfl rfl gate_f (fun hC => oc_call rfl (by kernel_rfl) (req_pc _ _) rfl (by simp only [PureL, Pure, and_self, pure_tab, pure_th, pure_slI, pure_slS, pure_ways, pure_way, pure_line, pure_lines, pure_slot, pure_verb, pure_deed, pure_things, pure_acts, pure_deeds, pure_world, vu]) (by simp only [PureL, Pure, and_self, pure_tab, pure_th, pure_slI, pure_slS, pure_ways, pure_way, pure_line, pure_lines, pure_slot, pure_verb, pure_deed, pure_things, pure_acts, pure_deeds, pure_world, vu])) (fun hC => ⟨(by first | rfl | exact hC | (simp only [Bool.and_eq_true] at hC; first | exact hC.1 | exact hC.1.1 | exact hC.2) | simp_all), (by first | rfl | exact hC | (simp only [Bool.and_eq_true] at hC; first | exact hC.1 | exact hC.1.1 | exact hC.2) | simp_all), (by first | rfl | exact hC | (simp only [Bool.and_eq_true] at hC; first | exact hC.1 | exact hC.1.1 | exact hC.2) | simp_all), trivial⟩) trivial ?_
  refine ch_g (R := []) rfl rfl rfl gate_f (fun hC => oc_not rfl rfl) (fun hC => ⟨(by first | rfl | exact hC | (simp only [Bool.and_eq_true] at hC; first | exact hC.1 | exact hC.1.1 | exact hC.2) | simp_all), trivial⟩) trivial ?_
  refine ch_v (R := []) rfl rfl (oc_or rfl rfl rfl (by first | exact fun h => h | simp_all)) trivial ?_
  refine ch_v (R := []) rfl rfl (oc_move (x := .val _) rfl rfl) trivial ?_
  refine ch_g (R := []) rfl rfl rfl gate_f (fun hC => oc_fieldAddr (off := 6) rfl rfl rfl (by kernel_rfl) rfl) (fun hC => ⟨(by first | rfl | exact hC | (simp only [Bool.and_eq_true] at hC; first | exact hC.1 | exact hC.1.1 | exact hC.2) | simp_all), trivial⟩) trivial ?_
  refine ch_g (R := []) rfl rfl rfl gate_f (fun hC => oc_load rfl rfl (by kernel_rfl) cells_sl) (fun hC => ⟨(by first | rfl | exact hC | (simp only [Bool.and_eq_true] at hC; first | exact hC.1 | exact hC.1.1 | exact hC.2) | simp_all), trivial⟩) trivial ?_
  refine ch_g (R := []) rfl rfl rfl gate_f (fun hC => oc_fieldAddr (off := 6) rfl rfl rfl (by kernel_rfl) rfl) (fun hC => ⟨(by first | rfl | exact hC | (simp only [Bool.and_eq_true] at hC; first | exact hC.1 | exact hC.1.1 | exact hC.2) | simp_all), trivial⟩) trivial ?_
  refine ch_g (R := []) rfl rfl rfl gate_f (fun hC => oc_load rfl rfl (by kernel_rfl) cells_sl) (fun hC => ⟨(by first | rfl | exact hC | (simp only [Bool.and_eq_true] at hC; first | exact hC.1 | exact hC.1.1 | exact hC.2) | simp_all), trivial⟩) trivial ?_
  refine ch_g (R := []) rfl rfl rfl gate_f (fun hC => oc_call rfl (by kernel_rfl) (req_pc _ _) rfl (by simp only [PureL, Pure, and_self, pure_tab, pure_th, pure_slI, pure_slS, pure_ways, pure_way, pure_line, pure_lines, pure_slot, pure_verb, pure_deed, pure_things, pure_acts, pure_deeds, pure_world, vu]) (by simp only [PureL, Pure, and_self, pure_tab, pure_th, pure_slI, pure_slS, pure_ways, pure_way, pure_line, pure_lines, pure_slot, pure_verb, pure_deed, pure_things, pure_acts, pure_deeds, pure_world, vu])) (fun hC => ⟨(by first | rfl | exact hC | (simp only [Bool.and_eq_true] at hC; first | exact hC.1 | exact hC.1.1 | exact hC.2) | simp_all), (by first | rfl | exact hC | (simp only [Bool.and_eq_true] at hC; first | exact hC.1 | exact hC.1.1 | exact hC.2) | simp_all), (by first | rfl | exact hC | (simp only [Bool.and_eq_true] at hC; first | exact hC.1 | exact hC.1.1 | exact hC.2) | simp_all), trivial⟩) trivial ?_
  refine ch_g (R := []) rfl rfl rfl gate_f (fun hC => oc_not rfl rfl) (fun hC => ⟨(by first | rfl | exact hC | (simp only [Bool.and_eq_true] at hC; first | exact hC.1 | exact hC.1.1 | exact hC.2) | simp_all), trivial⟩) trivial ?_
  refine ch_v (R := []) rfl rfl (oc_or rfl rfl rfl (by first | exact fun h => h | simp_all)) trivial ?_
  refine ck_nil ?_
  refine aw_cond rfl (fun hb => ?_) (fun hb => ?_)
  · refine aw_seq ?_
    refine aw_text rfl ?_
    refine ch_v (R := []) rfl rfl (oc_assign (x := .val _) rfl rfl) trivial ?_
    refine ck_nil ?_
    refine aw_ret ?_
    exact ⟨.inl rfl, ResOk.tmp rfl (vb_eq (by unfold sameW; revert hb; cases (a.globals == b.globals) <;> cases (a.parent == b.parent) <;> cases (a.child == b.child) <;> cases (a.next == b.next) <;> cases (a.flags == b.flags) <;> cases (a.props == b.props) <;> cases (a.timers == b.timers) <;> simp)), trivial⟩
  · refine aw_skip ?_
    refine aw_seq ?_
    refine aw_text rfl ?_
    refine ch_v (R := []) rfl rfl (oc_fieldAddr (off := 7) rfl rfl rfl (by kernel_rfl) rfl) trivial ?_
    refine ch_v (R := []) rfl rfl (oc_load rfl rfl (by kernel_rfl) cells_int) trivial ?_
    refine ch_v (R := []) rfl rfl (oc_fieldAddr (off := 7) rfl rfl rfl (by kernel_rfl) rfl) trivial ?_
    refine ch_v (R := []) rfl rfl (oc_load rfl rfl (by kernel_rfl) cells_int) trivial ?_
    refine ch_v (R := []) rfl rfl (oc_binZ rfl rfl rfl rfl) trivial ?_
    refine ch_v (R := []) rfl rfl (oc_move (x := .val _) rfl rfl) trivial ?_
    refine ch_g (R := []) rfl rfl rfl gate_t (fun hC => oc_fieldAddr (off := 8) rfl rfl rfl (by kernel_rfl) rfl) (fun hC => ⟨(by first | rfl | exact hC | (simp only [Bool.and_eq_true] at hC; first | exact hC.1 | exact hC.1.1 | exact hC.2) | simp_all), trivial⟩) trivial ?_
    refine ch_g (R := []) rfl rfl rfl gate_t (fun hC => oc_load rfl rfl (by kernel_rfl) cells_int) (fun hC => ⟨(by first | rfl | exact hC | (simp only [Bool.and_eq_true] at hC; first | exact hC.1 | exact hC.1.1 | exact hC.2) | simp_all), trivial⟩) trivial ?_
    refine ch_g (R := []) rfl rfl rfl gate_t (fun hC => oc_fieldAddr (off := 8) rfl rfl rfl (by kernel_rfl) rfl) (fun hC => ⟨(by first | rfl | exact hC | (simp only [Bool.and_eq_true] at hC; first | exact hC.1 | exact hC.1.1 | exact hC.2) | simp_all), trivial⟩) trivial ?_
    refine ch_g (R := []) rfl rfl rfl gate_t (fun hC => oc_load rfl rfl (by kernel_rfl) cells_int) (fun hC => ⟨(by first | rfl | exact hC | (simp only [Bool.and_eq_true] at hC; first | exact hC.1 | exact hC.1.1 | exact hC.2) | simp_all), trivial⟩) trivial ?_
    refine ch_g (R := []) rfl rfl rfl gate_t (fun hC => oc_binZ rfl rfl rfl rfl) (fun hC => ⟨(by first | rfl | exact hC | (simp only [Bool.and_eq_true] at hC; first | exact hC.1 | exact hC.1.1 | exact hC.2) | simp_all), (by first | rfl | exact hC | (simp only [Bool.and_eq_true] at hC; first | exact hC.1 | exact hC.1.1 | exact hC.2) | simp_all), trivial⟩) trivial ?_
    refine ch_v (R := []) rfl rfl (oc_and rfl rfl rfl rfl (by first | exact fun h => h | simp_all)) trivial ?_
    refine ch_v (R := []) rfl rfl (oc_move (x := .val _) rfl rfl) trivial ?_
    refine ch_g (R := []) rfl rfl rfl gate_t (fun hC => oc_fieldAddr (off := 9) rfl rfl rfl (by kernel_rfl) rfl) (fun hC => ⟨(by first | rfl | exact hC | (simp only [Bool.and_eq_true] at hC; first | exact hC.1 | exact hC.1.1 | exact hC.2) | simp_all), trivial⟩) trivial ?_
    refine ch_g (R := []) rfl rfl rfl gate_t (fun hC => oc_load rfl rfl (by kernel_rfl) cells_int) (fun hC => ⟨(by first | rfl | exact hC | (simp only [Bool.and_eq_true] at hC; first | exact hC.1 | exact hC.1.1 | exact hC.2) | simp_all), trivial⟩) trivial ?_
    refine ch_g (R := []) rfl rfl rfl gate_t (fun hC => oc_fieldAddr (off := 9) rfl rfl rfl (by kernel_rfl) rfl) (fun hC => ⟨(by first | rfl | exact hC | (simp only [Bool.and_eq_true] at hC; first | exact hC.1 | exact hC.1.1 | exact hC.2) | simp_all), trivial⟩) trivial ?_
    refine ch_g (R := []) rfl rfl rfl gate_t (fun hC => oc_load rfl rfl (by kernel_rfl) cells_int) (fun hC => ⟨(by first | rfl | exact hC | (simp only [Bool.and_eq_true] at hC; first | exact hC.1 | exact hC.1.1 | exact hC.2) | simp_all), trivial⟩) trivial ?_
    refine ch_g (R := []) rfl rfl rfl gate_t (fun hC => oc_binZ rfl rfl rfl rfl) (fun hC => ⟨(by first | rfl | exact hC | (simp only [Bool.and_eq_true] at hC; first | exact hC.1 | exact hC.1.1 | exact hC.2) | simp_all), (by first | rfl | exact hC | (simp only [Bool.and_eq_true] at hC; first | exact hC.1 | exact hC.1.1 | exact hC.2) | simp_all), trivial⟩) trivial ?_
    refine ch_v (R := []) rfl rfl (oc_and rfl rfl rfl rfl (by first | exact fun h => h | simp_all)) trivial ?_
    refine ch_v (R := []) rfl rfl (oc_move (x := .val _) rfl rfl) trivial ?_
    refine ch_g (R := []) rfl rfl rfl gate_t (fun hC => oc_fieldAddr (off := 10) rfl rfl rfl (by kernel_rfl) rfl) (fun hC => ⟨(by first | rfl | exact hC | (simp only [Bool.and_eq_true] at hC; first | exact hC.1 | exact hC.1.1 | exact hC.2) | simp_all), trivial⟩) trivial ?_
    refine ch_g (R := []) rfl rfl rfl gate_t (fun hC => oc_load rfl rfl (by kernel_rfl) cells_int) (fun hC => ⟨(by first | rfl | exact hC | (simp only [Bool.and_eq_true] at hC; first | exact hC.1 | exact hC.1.1 | exact hC.2) | simp_all), trivial⟩) trivial ?_
    refine ch_g (R := []) rfl rfl rfl gate_t (fun hC => oc_fieldAddr (off := 10) rfl rfl rfl (by kernel_rfl) rfl) (fun hC => ⟨(by first | rfl | exact hC | (simp only [Bool.and_eq_true] at hC; first | exact hC.1 | exact hC.1.1 | exact hC.2) | simp_all), trivial⟩) trivial ?_
    refine ch_g (R := []) rfl rfl rfl gate_t (fun hC => oc_load rfl rfl (by kernel_rfl) cells_int) (fun hC => ⟨(by first | rfl | exact hC | (simp only [Bool.and_eq_true] at hC; first | exact hC.1 | exact hC.1.1 | exact hC.2) | simp_all), trivial⟩) trivial ?_
    refine ch_g (R := []) rfl rfl rfl gate_t (fun hC => oc_binZ rfl rfl rfl rfl) (fun hC => ⟨(by first | rfl | exact hC | (simp only [Bool.and_eq_true] at hC; first | exact hC.1 | exact hC.1.1 | exact hC.2) | simp_all), (by first | rfl | exact hC | (simp only [Bool.and_eq_true] at hC; first | exact hC.1 | exact hC.1.1 | exact hC.2) | simp_all), trivial⟩) trivial ?_
    refine ch_v (R := []) rfl rfl (oc_and rfl rfl rfl rfl (by first | exact fun h => h | simp_all)) trivial ?_
    refine ch_v (R := []) rfl rfl (oc_move (x := .val _) rfl rfl) trivial ?_
    refine ch_g (R := []) rfl rfl rfl gate_t (fun hC => oc_fieldAddr (off := 11) rfl rfl rfl (by kernel_rfl) rfl) (fun hC => ⟨(by first | rfl | exact hC | (simp only [Bool.and_eq_true] at hC; first | exact hC.1 | exact hC.1.1 | exact hC.2) | simp_all), trivial⟩) trivial ?_
    refine ch_g (R := []) rfl rfl rfl gate_t (fun hC => oc_load rfl rfl (by kernel_rfl) cells_int) (fun hC => ⟨(by first | rfl | exact hC | (simp only [Bool.and_eq_true] at hC; first | exact hC.1 | exact hC.1.1 | exact hC.2) | simp_all), trivial⟩) trivial ?_
    refine ch_g (R := []) rfl rfl rfl gate_t (fun hC => oc_fieldAddr (off := 11) rfl rfl rfl (by kernel_rfl) rfl) (fun hC => ⟨(by first | rfl | exact hC | (simp only [Bool.and_eq_true] at hC; first | exact hC.1 | exact hC.1.1 | exact hC.2) | simp_all), trivial⟩) trivial ?_
    refine ch_g (R := []) rfl rfl rfl gate_t (fun hC => oc_load rfl rfl (by kernel_rfl) cells_int) (fun hC => ⟨(by first | rfl | exact hC | (simp only [Bool.and_eq_true] at hC; first | exact hC.1 | exact hC.1.1 | exact hC.2) | simp_all), trivial⟩) trivial ?_
    refine ch_g (R := []) rfl rfl rfl gate_t (fun hC => oc_binZ rfl rfl rfl rfl) (fun hC => ⟨(by first | rfl | exact hC | (simp only [Bool.and_eq_true] at hC; first | exact hC.1 | exact hC.1.1 | exact hC.2) | simp_all), (by first | rfl | exact hC | (simp only [Bool.and_eq_true] at hC; first | exact hC.1 | exact hC.1.1 | exact hC.2) | simp_all), trivial⟩) trivial ?_
    refine ch_v (R := []) rfl rfl (oc_and rfl rfl rfl rfl (by first | exact fun h => h | simp_all)) trivial ?_
    refine ch_v (R := []) rfl rfl (oc_move (x := .val _) rfl rfl) trivial ?_
    refine ch_g (R := []) rfl rfl rfl gate_t (fun hC => oc_fieldAddr (off := 12) rfl rfl rfl (by kernel_rfl) rfl) (fun hC => ⟨(by first | rfl | exact hC | (simp only [Bool.and_eq_true] at hC; first | exact hC.1 | exact hC.1.1 | exact hC.2) | simp_all), trivial⟩) trivial ?_
    refine ch_g (R := []) rfl rfl rfl gate_t (fun hC => oc_load rfl rfl (by kernel_rfl) cells_int) (fun hC => ⟨(by first | rfl | exact hC | (simp only [Bool.and_eq_true] at hC; first | exact hC.1 | exact hC.1.1 | exact hC.2) | simp_all), trivial⟩) trivial ?_
    refine ch_g (R := []) rfl rfl rfl gate_t (fun hC => oc_fieldAddr (off := 12) rfl rfl rfl (by kernel_rfl) rfl) (fun hC => ⟨(by first | rfl | exact hC | (simp only [Bool.and_eq_true] at hC; first | exact hC.1 | exact hC.1.1 | exact hC.2) | simp_all), trivial⟩) trivial ?_
    refine ch_g (R := []) rfl rfl rfl gate_t (fun hC => oc_load rfl rfl (by kernel_rfl) cells_int) (fun hC => ⟨(by first | rfl | exact hC | (simp only [Bool.and_eq_true] at hC; first | exact hC.1 | exact hC.1.1 | exact hC.2) | simp_all), trivial⟩) trivial ?_
    refine ch_g (R := []) rfl rfl rfl gate_t (fun hC => oc_binZ rfl rfl rfl rfl) (fun hC => ⟨(by first | rfl | exact hC | (simp only [Bool.and_eq_true] at hC; first | exact hC.1 | exact hC.1.1 | exact hC.2) | simp_all), (by first | rfl | exact hC | (simp only [Bool.and_eq_true] at hC; first | exact hC.1 | exact hC.1.1 | exact hC.2) | simp_all), trivial⟩) trivial ?_
    refine ch_v (R := []) rfl rfl (oc_and rfl rfl rfl rfl (by first | exact fun h => h | simp_all)) trivial ?_
    refine ch_v (R := []) rfl rfl (oc_assign (x := .val _) rfl rfl) trivial ?_
    refine ck_nil ?_
    refine aw_ret ?_
    exact ⟨.inl rfl, ResOk.tmp rfl (vb_eq (by unfold sameW; revert hb; cases (a.globals == b.globals) <;> cases (a.parent == b.parent) <;> cases (a.child == b.child) <;> cases (a.next == b.next) <;> cases (a.flags == b.flags) <;> cases (a.props == b.props) <;> cases (a.timers == b.timers) <;> simp)), trivial⟩
end Go.Proofs.Ytjloemlnejndmaa
