/- Chapter 7: Few, Same, the document's Without, walked. -/
import Derived.Test.YtfbpbpapfkimfaaDoorBj
import Derived.Test.YtfbpbpapfkimfaaDoorProg
import Derived.KernelRfl
namespace Go.Proofs.YtfbpbpapfkimfaaDoor
open Go.RowKit
set_option maxRecDepth 100000
set_option linter.unusedVariables false
set_option linter.unusedSimpArgs false
/-- So many bytes in the first k texts. -/
def byK (l : List ByteArray) : Nat → Int
  | 0 => 0
  | k + 1 => byK l k + ((l.getD k ByteArray.empty).size : Int)
theorem byK_succ (l : List ByteArray) (k : Nat) : byK l (k + 1) = byK l k + ((l.getD k ByteArray.empty).size : Int) := rfl
def fewB (l : List ByteArray) (n most : Int) : Bool := decide ((l.length : Int) ≤ n) && ((List.range l.length).all fun k => decide (((l.getD k ByteArray.empty).size : Int) ≤ most)) && decide (byK l l.length ≤ most)
theorem byK_bd {l : List ByteArray} {most : Int} (hm : 0 ≤ most) : ∀ k, (∀ j, j < k → ((l.getD j ByteArray.empty).size : Int) ≤ most) → 0 ≤ byK l k ∧ byK l k ≤ most * k
  | 0, _ => by simp [byK]
  | k + 1, h => by
    have h1 := byK_bd hm k fun j hj => h j (by omega)
    have h2 := h k (by omega)
    rw [byK_succ]
    have h3 : most * ((k + 1 : Nat) : Int) = most * k + most := by rw [Int.natCast_add, Int.mul_add]; simp
    rw [h3]
    omega
def sameL (a b : List ByteArray) : Bool := (a.length : Int) == b.length && (List.range a.length).all fun k => decide (a.getD k ByteArray.empty = b.getD k ByteArray.empty)
set_option maxHeartbeats 800000 in
theorem few_pc (l : List ByteArray) (n most : Int) (hn : n ≤ 1000) (hm : 0 ≤ most) (hm2 : most ≤ 100000) : PC Tryd.prog 9 [slS l, vi n, vi most] (vb (fewB l n most)) := by
  refine FC.body 6 36 Tryd.func9 rfl (by kernel_rfl) ?_
  refine aw_seq ?_
  refine aw_text rfl ?_
  refine ch_v (R := []) rfl rfl (oc_assign (x := .val _) rfl rfl) trivial ?_
  refine ck_nil ?_
  refine aw_seq ?_
  refine aw_seq ?_
  refine aw_text rfl ?_
  refine ch_v (R := []) rfl rfl (oc_move (x := .sl _ _ _) rfl rfl) trivial ?_
  refine ch_v (R := []) rfl rfl (oc_len rfl rfl (by kernel_rfl)) trivial ?_
  refine ch_v (R := []) rfl rfl (oc_move (x := .val _) rfl rfl) trivial ?_
  refine ch_v (R := []) rfl rfl (oc_binZ rfl rfl rfl rfl) trivial ?_
  refine ck_nil ?_
  refine aw_cond rfl (fun hb => ?_) (fun hb => ?_)
  · have hlong : ¬ (l.length : Int) ≤ n := by have h0 := of_decide_eq_true hb; omega
    refine aw_seq ?_
    refine aw_text rfl ?_
    refine ch_v (R := []) rfl rfl (oc_assign (x := .val _) rfl rfl) trivial ?_
    refine ck_nil ?_
    refine aw_ret ?_
    exact ⟨.inl rfl, ResOk.tmp rfl (vb_eq (by unfold fewB; simp [hlong])), trivial⟩
  · have hlen : (l.length : Int) ≤ n := by have h0 := of_decide_eq_false hb; omega
    refine aw_skip ?_
    refine aw_seq ?_
    refine aw_text rfl ?_
    refine ch_v (R := []) rfl rfl (oc_assign (x := .val _) rfl rfl) trivial ?_
    refine ck_nil ?_
    refine aw_seq ?_
    refine aw_seq ?_
    refine aw_text rfl ?_
    refine ch_v (R := []) rfl rfl (oc_assign (x := .val _) rfl rfl) trivial ?_
    refine ck_nil ?_
    refine aw_block ?_
    refine aw_loop (ι := Nat) (fun k => ⟨[(0, slS l), (2, vi most), (7, vi (byK l k)), (8, vi k)], []⟩) (fun k => k ≤ l.length ∧ ∀ j, j < k → ((l.getD j ByteArray.empty).size : Int) ≤ most) (fun k => l.length - k) 0 (⟨Nat.zero_le _, fun j hj => absurd hj (by omega)⟩) (Le.sub (by repeat (first | trivial | refine ⟨.inr rfl, ?_⟩ | refine ⟨.inr (vi_eq (by omega)), ?_⟩)) (by repeat (first | trivial | refine ⟨rfl, ?_⟩))) ?_
    intro k hI
    refine aw_seq ?_
    refine aw_seq ?_
    refine aw_text rfl ?_
    refine ch_v (R := []) rfl rfl (oc_move (x := .val _) rfl rfl) trivial ?_
    refine ch_v (R := []) rfl rfl (oc_move (x := .sl _ _ _) rfl rfl) trivial ?_
    refine ch_v (R := []) rfl rfl (oc_len rfl rfl (by kernel_rfl)) trivial ?_
    refine ch_v (R := []) rfl rfl (oc_binZ rfl rfl rfl rfl) trivial ?_
    refine ck_nil ?_
    refine aw_cond rfl (fun hb => ?_) (fun hb => ?_)
    · have hlt : k < l.length := by have h0 := of_decide_eq_true hb; omega
      have hbk := byK_bd hm k hI.2
      have hmk : most * (k : Int) ≤ 100000 * (k : Int) := Int.mul_le_mul_of_nonneg_right hm2 (by omega)
      refine aw_skip ?_
      refine aw_seq ?_
      refine aw_block ?_
      refine aw_seq ?_
      refine aw_seq ?_
      refine aw_text rfl ?_
      refine ch_v (R := []) rfl rfl (oc_move (x := .sl _ _ _) rfl rfl) trivial ?_
      refine ch_v (R := []) rfl rfl (oc_move (x := .val _) rfl rfl) trivial ?_
      refine ch_v (R := []) rfl rfl ((by first | exact oc_indexN rfl rfl rfl (by kernel_rfl) (by omega) | exact oc_index rfl rfl rfl (by kernel_rfl) (by omega) (by omega) rfl)) trivial ?_
      refine ch_v (R := []) rfl rfl (oc_load rfl rfl (by kernel_rfl) cells_str) trivial ?_
      refine ch_v (R := []) rfl rfl (oc_len_str rfl rfl (by kernel_rfl)) trivial ?_
      refine ch_v (R := []) rfl rfl (oc_move (x := .val _) rfl rfl) trivial ?_
      refine ch_v (R := []) rfl rfl (oc_binZ rfl rfl rfl rfl) trivial ?_
      refine ck_nil ?_
      refine aw_cond rfl (fun hb => ?_) (fun hb => ?_)
      · have hsz : ¬ (((l.getD k ByteArray.empty)).size : Int) ≤ most := by have h0 := of_decide_eq_true hb; omega
        refine aw_seq ?_
        refine aw_text rfl ?_
        refine ch_v (R := []) rfl rfl (oc_assign (x := .val _) rfl rfl) trivial ?_
        refine ck_nil ?_
        refine aw_ret ?_
        exact ⟨.inl rfl, ResOk.tmp rfl (vb_eq (by unfold fewB; rw [rall_false (p := fun k => decide (((l.getD k ByteArray.empty).size : Int) ≤ most)) hlt (by simpa using hsz)]; simp)), trivial⟩
      · have hsz : (((l.getD k ByteArray.empty)).size : Int) ≤ most := by have h0 := of_decide_eq_false hb; omega
        have hsu := byK_succ l k
        refine aw_skip ?_
        refine aw_text rfl ?_
        refine ch_v (R := []) rfl rfl (oc_move (x := .val _) rfl rfl) trivial ?_
        refine ch_v (R := []) rfl rfl (oc_move (x := .sl _ _ _) rfl rfl) trivial ?_
        refine ch_v (R := []) rfl rfl (oc_move (x := .val _) rfl rfl) trivial ?_
        refine ch_v (R := []) rfl rfl ((by first | exact oc_indexN rfl rfl rfl (by kernel_rfl) (by omega) | exact oc_index rfl rfl rfl (by kernel_rfl) (by omega) (by omega) rfl)) trivial ?_
        refine ch_v (R := []) rfl rfl (oc_load rfl rfl (by kernel_rfl) cells_str) trivial ?_
        refine ch_v (R := []) rfl rfl (oc_len_str rfl rfl (by kernel_rfl)) trivial ?_
        refine ch_v (R := []) rfl rfl (oc_binZ rfl rfl rfl (by first | exact binW_add (by omega) (by omega) | rfl)) trivial ?_
        refine ch_v (R := []) rfl rfl (oc_assign (x := .val _) rfl rfl) trivial ?_
        refine ck_nil ?_
        refine aw_text rfl ?_
        refine ch_v (R := []) rfl rfl (oc_move (x := .val _) rfl rfl) trivial ?_
        refine ch_v (R := []) rfl rfl (oc_binZ rfl rfl rfl (by first | exact binW_add (by omega) (by omega) | rfl)) trivial ?_
        refine ch_v (R := []) rfl rfl (oc_assign (x := .val _) rfl rfl) trivial ?_
        refine ck_nil ?_
        exact ⟨k + 1, ⟨by omega, fun j hj => by rcases Nat.lt_or_ge j k with h1 | h1; (exact hI.2 j h1); (obtain rfl : j = k := by omega); exact hsz⟩, by omega, Le.sub (by repeat (first | trivial | refine ⟨.inr rfl, ?_⟩ | refine ⟨.inr (vi_eq (by omega)), ?_⟩)) trivial⟩
    · have hge : k = l.length := by have h0 := of_decide_eq_false hb; omega
      refine aw_exit ?_
      refine aw_seq ?_
      refine aw_text rfl ?_
      refine ch_v (R := []) rfl rfl (oc_move (x := .val _) rfl rfl) trivial ?_
      refine ch_v (R := []) rfl rfl (oc_move (x := .val _) rfl rfl) trivial ?_
      refine ch_v (R := []) rfl rfl (oc_binZ rfl rfl rfl rfl) trivial ?_
      refine ch_v (R := []) rfl rfl (oc_assign (x := .val _) rfl rfl) trivial ?_
      refine ck_nil ?_
      refine aw_ret ?_
      exact ⟨.inl rfl, ResOk.tmp rfl (vb_eq (by unfold fewB; rw [rall_true (p := fun k => decide (((l.getD k ByteArray.empty).size : Int) ≤ most)) (fun j hj => by simpa using hI.2 j (by omega)), ← hge]; simp [show (k : Int) ≤ n from by omega])), trivial⟩
set_option maxHeartbeats 800000 in
theorem sameL_pc (a b : List ByteArray) (ha : a.length ≤ 1000000) : PC Tryd.prog 11 [slS a, slS b] (vb (sameL a b)) := by
  refine FC.body 6 26 Tryd.func11 rfl (by kernel_rfl) ?_
  refine aw_seq ?_
  refine aw_text rfl ?_
  refine ch_v (R := []) rfl rfl (oc_assign (x := .val _) rfl rfl) trivial ?_
  refine ck_nil ?_
  refine aw_seq ?_
  refine aw_seq ?_
  refine aw_text rfl ?_
  refine ch_v (R := []) rfl rfl (oc_move (x := .sl _ _ _) rfl rfl) trivial ?_
  refine ch_v (R := []) rfl rfl (oc_len rfl rfl (by kernel_rfl)) trivial ?_
  refine ch_v (R := []) rfl rfl (oc_move (x := .sl _ _ _) rfl rfl) trivial ?_
  refine ch_v (R := []) rfl rfl (oc_len rfl rfl (by kernel_rfl)) trivial ?_
  refine ch_v (R := []) rfl rfl (oc_binZ rfl rfl rfl rfl) trivial ?_
  refine ck_nil ?_
  refine aw_cond rfl (fun hb => ?_) (fun hb => ?_)
  · have hne : ¬ (a.length : Int) = b.length := by simpa using hb
    refine aw_seq ?_
    refine aw_text rfl ?_
    refine ch_v (R := []) rfl rfl (oc_assign (x := .val _) rfl rfl) trivial ?_
    refine ck_nil ?_
    refine aw_ret ?_
    exact ⟨.inl rfl, ResOk.tmp rfl (vb_eq (by unfold sameL; simp only [beq_eq_false_iff_ne.2 hne]; rfl)), trivial⟩
  · have hll : (a.length : Int) = b.length := by simpa using hb
    refine aw_skip ?_
    refine aw_seq ?_
    refine aw_seq ?_
    refine aw_text rfl ?_
    refine ch_v (R := []) rfl rfl (oc_assign (x := .val _) rfl rfl) trivial ?_
    refine ck_nil ?_
    refine aw_block ?_
    refine aw_loop (ι := Nat) (fun k => ⟨[(0, slS a), (1, slS b), (5, vi k)], []⟩) (fun k => k ≤ a.length ∧ ∀ j, j < k → decide (a.getD j ByteArray.empty = b.getD j ByteArray.empty) = true) (fun k => a.length - k) 0 (⟨Nat.zero_le _, rall_zero⟩) (Le.sub (by repeat (first | trivial | refine ⟨.inr rfl, ?_⟩ | refine ⟨.inr (vi_eq (by omega)), ?_⟩)) (by repeat (first | trivial | refine ⟨rfl, ?_⟩))) ?_
    intro k hI
    refine aw_seq ?_
    refine aw_seq ?_
    refine aw_text rfl ?_
    refine ch_v (R := []) rfl rfl (oc_move (x := .val _) rfl rfl) trivial ?_
    refine ch_v (R := []) rfl rfl (oc_move (x := .sl _ _ _) rfl rfl) trivial ?_
    refine ch_v (R := []) rfl rfl (oc_len rfl rfl (by kernel_rfl)) trivial ?_
    refine ch_v (R := []) rfl rfl (oc_binZ rfl rfl rfl rfl) trivial ?_
    refine ck_nil ?_
    refine aw_cond rfl (fun hb => ?_) (fun hb => ?_)
    · have hlt : k < a.length := by have h0 := of_decide_eq_true hb; omega
      refine aw_skip ?_
      refine aw_seq ?_
      refine aw_block ?_
      refine aw_seq ?_
      refine aw_draw mixed ?_
      refine ch_v (R := []) rfl rfl (oc_move (x := .sl _ _ _) rfl rfl) trivial ?_
      refine ch_v (R := []) rfl rfl (oc_move (x := .val _) rfl rfl) trivial ?_
      refine ch_v (R := []) rfl rfl ((by first | exact oc_indexN rfl rfl rfl (by kernel_rfl) (by omega) | exact oc_index rfl rfl rfl (by kernel_rfl) (by omega) (by omega) rfl)) trivial ?_
      refine ch_v (R := []) rfl rfl (oc_load rfl rfl (by kernel_rfl) cells_str) trivial ?_
      refine ch_v (R := []) rfl rfl (oc_move (x := .sl _ _ _) rfl rfl) trivial ?_
      refine ch_v (R := []) rfl rfl (oc_move (x := .val _) rfl rfl) trivial ?_
      refine ch_v (R := []) rfl rfl ((by first | exact oc_indexN rfl rfl rfl (by kernel_rfl) (by omega) | exact oc_index rfl rfl rfl (by kernel_rfl) (by omega) (by omega) rfl)) trivial ?_
      refine ch_v (R := []) rfl rfl (oc_load rfl rfl (by kernel_rfl) cells_str) trivial ?_
      refine ch_v (R := []) rfl rfl (oc_str_ne rfl rfl rfl) trivial ?_
      refine ck_nil ⟨by kernel_rfl, ?_⟩
      refine aw_cond rfl (fun hb => ?_) (fun hb => ?_)
      · have heq : ¬ a.getD k ByteArray.empty = b.getD k ByteArray.empty := by rw [show ((a.getD k ByteArray.empty).toList != (b.getD k ByteArray.empty).toList) = !((a.getD k ByteArray.empty).toList == (b.getD k ByteArray.empty).toList) from rfl, str_eq] at hb; simpa using hb
        refine aw_seq ?_
        refine aw_text rfl ?_
        refine ch_v (R := []) rfl rfl (oc_assign (x := .val _) rfl rfl) trivial ?_
        refine ck_nil ?_
        refine aw_ret ?_
        exact ⟨.inl rfl, ResOk.tmp rfl (vb_eq (by unfold sameL; rw [rall_false (p := fun k => decide (a.getD k ByteArray.empty = b.getD k ByteArray.empty)) hlt (by simpa using heq), Bool.and_false])), trivial⟩
      · have heq : a.getD k ByteArray.empty = b.getD k ByteArray.empty := by rw [show ((a.getD k ByteArray.empty).toList != (b.getD k ByteArray.empty).toList) = !((a.getD k ByteArray.empty).toList == (b.getD k ByteArray.empty).toList) from rfl, str_eq] at hb; simpa using hb
        refine aw_skip ?_
        refine aw_text rfl ?_
        refine ch_v (R := []) rfl rfl (oc_move (x := .val _) rfl rfl) trivial ?_
        refine ch_v (R := []) rfl rfl (oc_binZ rfl rfl rfl (by first | exact binW_add (by omega) (by omega) | rfl)) trivial ?_
        refine ch_v (R := []) rfl rfl (oc_assign (x := .val _) rfl rfl) trivial ?_
        refine ck_nil ?_
        exact ⟨k + 1, ⟨by omega, rall_step (p := fun j => decide (a.getD j ByteArray.empty = b.getD j ByteArray.empty)) hI.2 (by simpa using heq)⟩, by omega, Le.sub (by repeat (first | trivial | refine ⟨.inr rfl, ?_⟩ | refine ⟨.inr (vi_eq (by omega)), ?_⟩)) trivial⟩
    · have hge : k = a.length := by have h0 := of_decide_eq_false hb; omega
      refine aw_exit ?_
      refine aw_seq ?_
      refine aw_text rfl ?_
      refine ch_v (R := []) rfl rfl (oc_assign (x := .val _) rfl rfl) trivial ?_
      refine ck_nil ?_
      refine aw_ret ?_
      exact ⟨.inl rfl, ResOk.tmp rfl (vb_eq (by unfold sameL; rw [rall_true (p := fun k => decide (a.getD k ByteArray.empty = b.getD k ByteArray.empty)) (fun j hj => hI.2 j (by omega)), hll]; simp)), trivial⟩
end Go.Proofs.YtfbpbpapfkimfaaDoor
