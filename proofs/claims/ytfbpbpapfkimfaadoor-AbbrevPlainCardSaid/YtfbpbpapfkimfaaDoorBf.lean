/- Chapter 7: the document's Saves, Fits, Least, walked. -/
import Derived.Test.YtfbpbpapfkimfaaDoorBe
import Derived.Test.YtfbpbpapfkimfaaDoorProg
import Derived.KernelRfl
namespace Go.Proofs.YtfbpbpapfkimfaaDoor
open Go.RowKit
set_option maxRecDepth 100000
set_option linter.unusedVariables false
set_option linter.unusedSimpArgs false
def fitsB (s : ByteArray) (i : Nat) (ab : List ByteArray) (k : Nat) : Bool := decide (k < 32) && decide (0 < (ab.getD k ByteArray.empty).size) && decide (i + (ab.getD k ByteArray.empty).size ≤ s.size) && decide (s.extract i (i + (ab.getD k ByteArray.empty).size) = ab.getD k ByteArray.empty)
theorem fits_in {s : ByteArray} {i : Nat} {ab : List ByteArray} {k : Nat} (h : fitsB s i ab k = true) : k < 32 ∧ 0 < (ab.getD k ByteArray.empty).size ∧ i + (ab.getD k ByteArray.empty).size ≤ s.size := by
  unfold fitsB at h
  simp only [Bool.and_eq_true, decide_eq_true_eq] at h
  exact ⟨h.1.1.1, h.1.1.2, h.1.2⟩
/-- The least that a place costs, of so many abbreviations. -/
def lsK (s : ByteArray) (ab : List ByteArray) (i : Nat) (A : List Int) : Nat → Int
  | 0 => costS (s.extract i (i + 1)) + A.getD (i + 1) 0
  | k + 1 => if fitsB s i ab k = true ∧ 2 + A.getD (i + (ab.getD k ByteArray.empty).size) 0 < lsK s ab i A k then 2 + A.getD (i + (ab.getD k ByteArray.empty).size) 0 else lsK s ab i A k
def lsA (s : ByteArray) (ab : List ByteArray) : Nat → List Int
  | 0 => List.replicate (s.size + 1) 0
  | d + 1 => (lsA s ab d).set (s.size - 1 - d) (lsK s ab (s.size - 1 - d) (lsA s ab d) ab.length)
theorem lsA_len (s : ByteArray) (ab : List ByteArray) : ∀ d, (lsA s ab d).length = s.size + 1
  | 0 => by simp [lsA]
  | d + 1 => by unfold lsA; rw [List.length_set, lsA_len s ab d]
theorem one_cost {s : ByteArray} {i : Nat} (h : i < s.size) : (s.extract i (i + 1)).size = 1 ∧ 0 ≤ costS (s.extract i (i + 1)) ∧ costS (s.extract i (i + 1)) ≤ 3 := by
  have e : (s.extract i (i + 1)).size = 1 := by rw [← tB_len, tB_one s i h]; rfl
  have := cst_bd (s.extract i (i + 1)) 1
  refine ⟨e, ?_⟩
  unfold costS
  rw [e]
  omega
theorem lsK_bd {s : ByteArray} {ab : List ByteArray} {i : Nat} {A : List Int} {b : Int} (hi : i < s.size) (hA : ∀ j, 0 ≤ A.getD j 0 ∧ A.getD j 0 ≤ b) : ∀ k, 0 ≤ lsK s ab i A k ∧ lsK s ab i A k ≤ b + 3
  | 0 => by
    have h1 := one_cost hi
    have h2 := hA (i + 1)
    unfold lsK
    omega
  | k + 1 => by
    have h1 := lsK_bd hi hA (ab := ab) k
    have h2 := hA (i + (ab.getD k ByteArray.empty).size)
    unfold lsK
    split
    · rename_i h; omega
    · exact h1
theorem getD_put (l : List Int) (i j : Nat) (x : Int) : (l.set i x).getD j 0 = if i = j ∧ i < l.length then x else l.getD j 0 := by
  rw [List.getD, List.getElem?_set]
  by_cases e : i = j
  · by_cases h : i < l.length
    · simp [e, e ▸ h]
    · rw [if_pos e, if_neg h, if_neg (fun hc => h hc.2)]
      rw [List.getD, List.getElem?_eq_none (by omega)]
  · rw [if_neg e, if_neg (fun hc => e hc.1)]
    rfl
theorem lsA_bd (s : ByteArray) (ab : List ByteArray) : ∀ d, d ≤ s.size → ∀ j, 0 ≤ (lsA s ab d).getD j 0 ∧ (lsA s ab d).getD j 0 ≤ 3 * (d : Int)
  | 0, _, j => by
    have : (List.replicate (s.size + 1) (0 : Int)).getD j 0 = 0 := by
      rw [List.getD, List.getElem?_replicate]
      split <;> rfl
    unfold lsA
    omega
  | d + 1, hd, j => by
    have h1 := lsA_bd s ab d (by omega)
    have h2 := lsK_bd (s := s) (ab := ab) (i := s.size - 1 - d) (by omega) h1 ab.length
    unfold lsA
    rw [getD_put]
    split
    · omega
    · have := h1 j; omega
/-- What stands in the array while a place is asked. -/
def lsW (s : ByteArray) (ab : List ByteArray) (i : Nat) (A : List Int) (k : Nat) : List Int := A.set i (lsK s ab i A k)
theorem lsW_at {s : ByteArray} {ab : List ByteArray} {i k j : Nat} {A : List Int} (h : i < A.length) : (lsW s ab i A k).getD j 0 = if i = j then lsK s ab i A k else A.getD j 0 := by
  unfold lsW
  rw [getD_put]
  by_cases e : i = j
  · rw [if_pos ⟨e, h⟩, if_pos e]
  · rw [if_neg (fun hc => e hc.1), if_neg e]
theorem lsW_put {s : ByteArray} {ab : List ByteArray} {i k : Nat} {A : List Int} : (lsW s ab i A k).set i (lsK s ab i A (k + 1)) = lsW s ab i A (k + 1) := by
  unfold lsW
  rw [List.set_set]
theorem lsW_len (s : ByteArray) (ab : List ByteArray) (i k : Nat) (A : List Int) : (lsW s ab i A k).length = A.length := by unfold lsW; rw [List.length_set]
theorem lsA_step {s : ByteArray} {ab : List ByteArray} {i : Nat} (h : i < s.size) : lsA s ab (s.size - i) = lsW s ab i (lsA s ab (s.size - (i + 1))) ab.length := by
  have e : s.size - i = (s.size - (i + 1)) + 1 := by omega
  have e2 : s.size - 1 - (s.size - (i + 1)) = i := by omega
  rw [e]
  show (lsA s ab (s.size - (i + 1))).set (s.size - 1 - (s.size - (i + 1))) _ = _
  rw [e2]
  rfl
set_option maxHeartbeats 800000 in
theorem saves_pc (l : List ByteArray) (hl : FewT l) (r : ByteArray) (hr : 2 ≤ r.size) (hr2 : r.size ≤ 8) : PC Tryd.prog 39 [slS l, vs r] (vi ((costS r - 2) * cntA l r l.length - costS r)) := by
  refine FC.body 6 16 Tryd.func39 rfl (by kernel_rfl) ?_
  have hcs := cost_few hr2
  have hca := cntA_bd hl r l.length
  have hll := hl.len
  have hmul := mul_few (a := costS r - 2) (c := cntA l r l.length) (by omega) (by omega)
  refine aw_seq ?_
  refine aw_text rfl ?_
  refine ch_v (R := []) rfl rfl (oc_assign (x := .val _) rfl rfl) trivial ?_
  refine ck_nil ?_
  refine aw_seq ?_
  refine aw_text rfl ?_
  refine ch_v (R := []) rfl rfl (oc_move (x := .val _) rfl rfl) trivial ?_
  refine ch_v (R := []) rfl rfl (oc_call rfl (by kernel_rfl) (rcost_pc r (by omega)) rfl (by simp only [PureL, Pure, and_self, pure_slI, pure_slS, rowAv, pieces_pure, implies_true]) (by simp only [PureL, Pure, and_self, pure_slI, pure_slS, rowAv, pieces_pure, implies_true])) trivial ?_
  refine ch_v (R := []) rfl rfl (oc_assign (x := .val _) rfl rfl) trivial ?_
  refine ck_nil ?_
  refine aw_seq ?_
  refine aw_text rfl ?_
  refine ch_v (R := []) rfl rfl (oc_move (x := .val _) rfl rfl) trivial ?_
  refine ch_v (R := []) rfl rfl (oc_binZ rfl rfl rfl (by first | exact binW_sub (by omega) (by omega) | rfl)) trivial ?_
  refine ch_v (R := []) rfl rfl (oc_move (x := .sl _ _ _) rfl rfl) trivial ?_
  refine ch_v (R := []) rfl rfl (oc_move (x := .val _) rfl rfl) trivial ?_
  refine ch_v (R := []) rfl rfl (oc_call rfl (by kernel_rfl) (rcount_pc l hl r (by omega) (by omega)) rfl (by simp only [PureL, Pure, and_self, pure_slI, pure_slS, rowAv, pieces_pure, implies_true]) (by simp only [PureL, Pure, and_self, pure_slI, pure_slS, rowAv, pieces_pure, implies_true])) trivial ?_
  refine ch_v (R := []) rfl rfl (oc_binZ rfl rfl rfl (by first | exact binW_mul (by omega) (by omega) | rfl)) trivial ?_
  refine ch_v (R := []) rfl rfl (oc_move (x := .val _) rfl rfl) trivial ?_
  refine ch_v (R := []) rfl rfl (oc_binZ rfl rfl rfl (by first | exact binW_sub (by omega) (by omega) | rfl)) trivial ?_
  refine ch_v (R := []) rfl rfl (oc_assign (x := .val _) rfl rfl) trivial ?_
  refine ck_nil ?_
  refine aw_ret ?_
  exact ⟨.inl rfl, ResOk.tmp rfl rfl, trivial⟩
set_option maxHeartbeats 800000 in
theorem fits_pc (s : ByteArray) (i : Nat) (ab : List ByteArray) (k : Nat) (hs : s.size ≤ 1000000) (hi : i ≤ s.size) (hk : k < ab.length) (hb : (ab.getD k ByteArray.empty).size ≤ 1000000) : PC Tryd.prog 30 [vs s, vi i, slS ab, vi k] (vb (fitsB s i ab k)) := by
  refine FC.body 6 41 Tryd.func30 rfl (by kernel_rfl) ?_
  refine aw_seq ?_
  refine aw_text rfl ?_
  refine ch_v (R := []) rfl rfl (oc_assign (x := .val _) rfl rfl) trivial ?_
  refine ck_nil ?_
  refine aw_seq ?_
  refine aw_text rfl ?_
  refine ch_v (R := []) rfl rfl (oc_move (x := .sl _ _ _) rfl rfl) trivial ?_
  refine ch_v (R := []) rfl rfl (oc_move (x := .val _) rfl rfl) trivial ?_
  refine ch_v (R := []) rfl rfl ((by first | exact oc_indexN rfl rfl rfl (by kernel_rfl) (by omega) | exact oc_index rfl rfl rfl (by kernel_rfl) (by omega) (by omega) rfl)) trivial ?_
  refine ch_v (R := []) rfl rfl (oc_load rfl rfl (by kernel_rfl) cells_str) trivial ?_
  refine ch_v (R := []) rfl rfl (oc_assign (x := .val _) rfl rfl) trivial ?_
  refine ck_nil ?_
  refine aw_seq ?_
  refine aw_text rfl ?_
  refine ch_v (R := []) rfl rfl (oc_move (x := .val _) rfl rfl) trivial ?_
  refine ch_v (R := []) rfl rfl (oc_binZ rfl rfl rfl rfl) trivial ?_
  refine ch_v (R := []) rfl rfl (oc_move (x := .val _) rfl rfl) trivial ?_
  refine ch_g (R := []) rfl rfl rfl gate_t (fun hC => oc_move (x := .val _) rfl rfl) (fun hC => ⟨(by first | rfl | exact hC | (simp only [Bool.and_eq_true] at hC; first | exact hC.1 | exact hC.1.1 | exact hC.2) | simp_all), trivial⟩) trivial ?_
  refine ch_g (R := []) rfl rfl rfl gate_t (fun hC => oc_len_str rfl rfl (by kernel_rfl)) (fun hC => ⟨(by first | rfl | exact hC | (simp only [Bool.and_eq_true] at hC; first | exact hC.1 | exact hC.1.1 | exact hC.2) | simp_all), trivial⟩) trivial ?_
  refine ch_g (R := []) rfl rfl rfl gate_t (fun hC => oc_binZ rfl rfl rfl rfl) (fun hC => ⟨(by first | rfl | exact hC | (simp only [Bool.and_eq_true] at hC; first | exact hC.1 | exact hC.1.1 | exact hC.2) | simp_all), (by first | rfl | exact hC | (simp only [Bool.and_eq_true] at hC; first | exact hC.1 | exact hC.1.1 | exact hC.2) | simp_all), trivial⟩) trivial ?_
  refine ch_v (R := []) rfl rfl (oc_and rfl rfl rfl rfl (by first | exact fun h => h | simp_all)) trivial ?_
  refine ch_v (R := []) rfl rfl (oc_move (x := .val _) rfl rfl) trivial ?_
  refine ch_g (R := []) rfl rfl rfl gate_t (fun hC => oc_move (x := .val _) rfl rfl) (fun hC => ⟨(by first | rfl | exact hC | (simp only [Bool.and_eq_true] at hC; first | exact hC.1 | exact hC.1.1 | exact hC.2) | simp_all), trivial⟩) trivial ?_
  refine ch_g (R := []) rfl rfl rfl gate_t (fun hC => oc_move (x := .val _) rfl rfl) (fun hC => ⟨(by first | rfl | exact hC | (simp only [Bool.and_eq_true] at hC; first | exact hC.1 | exact hC.1.1 | exact hC.2) | simp_all), trivial⟩) trivial ?_
  refine ch_g (R := []) rfl rfl rfl gate_t (fun hC => oc_len_str rfl rfl (by kernel_rfl)) (fun hC => ⟨(by first | rfl | exact hC | (simp only [Bool.and_eq_true] at hC; first | exact hC.1 | exact hC.1.1 | exact hC.2) | simp_all), trivial⟩) trivial ?_
  refine ch_g (R := []) rfl rfl rfl gate_t (fun hC => oc_binZ rfl rfl rfl (by first | exact binW_add (by omega) (by omega) | rfl)) (fun hC => ⟨(by first | rfl | exact hC | (simp only [Bool.and_eq_true] at hC; first | exact hC.1 | exact hC.1.1 | exact hC.2) | simp_all), (by first | rfl | exact hC | (simp only [Bool.and_eq_true] at hC; first | exact hC.1 | exact hC.1.1 | exact hC.2) | simp_all), trivial⟩) trivial ?_
  refine ch_g (R := []) rfl rfl rfl gate_t (fun hC => oc_move (x := .val _) rfl rfl) (fun hC => ⟨(by first | rfl | exact hC | (simp only [Bool.and_eq_true] at hC; first | exact hC.1 | exact hC.1.1 | exact hC.2) | simp_all), trivial⟩) trivial ?_
  refine ch_g (R := []) rfl rfl rfl gate_t (fun hC => oc_len_str rfl rfl (by kernel_rfl)) (fun hC => ⟨(by first | rfl | exact hC | (simp only [Bool.and_eq_true] at hC; first | exact hC.1 | exact hC.1.1 | exact hC.2) | simp_all), trivial⟩) trivial ?_
  refine ch_g (R := []) rfl rfl rfl gate_t (fun hC => oc_binZ rfl rfl rfl rfl) (fun hC => ⟨(by first | rfl | exact hC | (simp only [Bool.and_eq_true] at hC; first | exact hC.1 | exact hC.1.1 | exact hC.2) | simp_all), (by first | rfl | exact hC | (simp only [Bool.and_eq_true] at hC; first | exact hC.1 | exact hC.1.1 | exact hC.2) | simp_all), trivial⟩) trivial ?_
  refine ch_v (R := []) rfl rfl (oc_and rfl rfl rfl rfl (by first | exact fun h => h | simp_all)) trivial ?_
  refine ch_v (R := []) rfl rfl (oc_move (x := .val _) rfl rfl) trivial ?_
  refine ch_g (R := []) rfl rfl rfl gate_t (fun hC => oc_move (x := .val _) rfl rfl) (fun hC => ⟨(by first | rfl | exact hC | (simp only [Bool.and_eq_true] at hC; first | exact hC.1 | exact hC.1.1 | exact hC.2) | simp_all), trivial⟩) trivial ?_
  refine ch_g (R := []) rfl rfl rfl gate_t (fun hC => oc_move (x := .val _) rfl rfl) (fun hC => ⟨(by first | rfl | exact hC | (simp only [Bool.and_eq_true] at hC; first | exact hC.1 | exact hC.1.1 | exact hC.2) | simp_all), trivial⟩) trivial ?_
  refine ch_g (R := []) rfl rfl rfl gate_t (fun hC => oc_move (x := .val _) rfl rfl) (fun hC => ⟨(by first | rfl | exact hC | (simp only [Bool.and_eq_true] at hC; first | exact hC.1 | exact hC.1.1 | exact hC.2) | simp_all), trivial⟩) trivial ?_
  refine ch_g (R := []) rfl rfl rfl gate_t (fun hC => oc_move (x := .val _) rfl rfl) (fun hC => ⟨(by first | rfl | exact hC | (simp only [Bool.and_eq_true] at hC; first | exact hC.1 | exact hC.1.1 | exact hC.2) | simp_all), trivial⟩) trivial ?_
  refine ch_g (R := []) rfl rfl rfl gate_t (fun hC => oc_len_str rfl rfl (by kernel_rfl)) (fun hC => ⟨(by first | rfl | exact hC | (simp only [Bool.and_eq_true] at hC; first | exact hC.1 | exact hC.1.1 | exact hC.2) | simp_all), trivial⟩) trivial ?_
  refine ch_g (R := []) rfl rfl rfl gate_t (fun hC => oc_binZ rfl rfl rfl (by first | exact binW_add (by omega) (by omega) | rfl)) (fun hC => ⟨(by first | rfl | exact hC | (simp only [Bool.and_eq_true] at hC; first | exact hC.1 | exact hC.1.1 | exact hC.2) | simp_all), (by first | rfl | exact hC | (simp only [Bool.and_eq_true] at hC; first | exact hC.1 | exact hC.1.1 | exact hC.2) | simp_all), trivial⟩) trivial ?_
  refine ch_g (R := []) rfl rfl rfl gate_t (fun hC => by
        have hc : i + (ab.getD k ByteArray.empty).size ≤ s.size := by simp only [Bool.and_eq_true, decide_eq_true_eq] at hC; omega
        exact OC.cast (oc_substr rfl rfl rfl rfl (by kernel_rfl) (by omega) (by omega) (by omega)) (show Av.val (.string (s.extract (i : Int).toNat ((i : Int) + ((ab.getD k ByteArray.empty).size : Int)).toNat)) = vs (s.extract i (i + (ab.getD k ByteArray.empty).size)) from by rw [ex_nat])) (fun hC => ⟨(by first | rfl | exact hC | (simp only [Bool.and_eq_true] at hC; first | exact hC.1 | exact hC.1.1 | exact hC.2) | simp_all), (by first | rfl | exact hC | (simp only [Bool.and_eq_true] at hC; first | exact hC.1 | exact hC.1.1 | exact hC.2) | simp_all), (by first | rfl | exact hC | (simp only [Bool.and_eq_true] at hC; first | exact hC.1 | exact hC.1.1 | exact hC.2) | simp_all), trivial⟩) trivial ?_
  refine ch_g (R := []) rfl rfl rfl gate_t (fun hC => oc_move (x := .val _) rfl rfl) (fun hC => ⟨(by first | rfl | exact hC | (simp only [Bool.and_eq_true] at hC; first | exact hC.1 | exact hC.1.1 | exact hC.2) | simp_all), trivial⟩) trivial ?_
  refine ch_g (R := []) rfl rfl rfl gate_t (fun hC => oc_str_eq rfl rfl rfl) (fun hC => ⟨(by first | rfl | exact hC | (simp only [Bool.and_eq_true] at hC; first | exact hC.1 | exact hC.1.1 | exact hC.2) | simp_all), (by first | rfl | exact hC | (simp only [Bool.and_eq_true] at hC; first | exact hC.1 | exact hC.1.1 | exact hC.2) | simp_all), trivial⟩) trivial ?_
  refine ch_v (R := []) rfl rfl (oc_and rfl rfl rfl rfl (by first | exact fun h => h | simp_all)) trivial ?_
  refine ch_v (R := []) rfl rfl (oc_assign (x := .val _) rfl rfl) trivial ?_
  refine ck_nil ?_
  refine aw_ret ?_
  exact ⟨.inl rfl, ResOk.tmp rfl (vb_eq (by unfold fitsB; rw [str_eq]; congr 1; congr 1; (congr 1; (rw [decide_eq_decide]; omega); (rw [decide_eq_decide]; omega)); (rw [decide_eq_decide]; omega))), trivial⟩
set_option maxHeartbeats 800000 in
theorem least_pc (s : ByteArray) (ab : List ByteArray) (hs : s.size ≤ 1000000) (hb2 : ∀ k, (ab.getD k ByteArray.empty).size ≤ 1000000) (hbl : ab.length ≤ 1000000) : PC Tryd.prog 29 [vs s, slS ab] (slI (lsA s ab s.size)) := by
  refine FC.body 3 78 Tryd.func29 rfl (by kernel_rfl) ?_
  refine aw_seq ?_
  refine aw_text rfl ?_
  refine ch_v (R := []) rfl rfl (oc_assign (x := .val _) rfl rfl) trivial ?_
  refine ck_nil ?_
  refine aw_seq ?_
  refine aw_text rfl ?_
  refine ch_v (R := []) rfl rfl (oc_move (x := .val _) rfl rfl) trivial ?_
  refine ch_v (R := []) rfl rfl (oc_len_str rfl rfl (by kernel_rfl)) trivial ?_
  refine ch_v (R := []) rfl rfl (oc_binZ rfl rfl rfl (by first | exact binW_add (by omega) (by omega) | rfl)) trivial ?_
  refine ch_u rfl rfl (oc_makeSlice (e := 3) (by_ := 8) (z := .int .i64 0) (m := s.size + 1) 0 rfl rfl rfl rfl (by kernel_rfl) (by kernel_rfl) rfl (by omega) (by omega)) ⟨rfl, trivial⟩ ?_
  refine ch_v (R := []) rfl rfl (oc_assign (x := .osl _ _ _) rfl rfl) trivial ?_
  refine ck_nil ?_
  refine aw_seq ?_
  refine aw_seq ?_
  refine aw_text rfl ?_
  refine ch_v (R := []) rfl rfl (oc_move (x := .val _) rfl rfl) trivial ?_
  refine ch_v (R := []) rfl rfl (oc_len_str rfl rfl (by kernel_rfl)) trivial ?_
  refine ch_v (R := []) rfl rfl (oc_binZ rfl rfl rfl (by first | exact binW_sub (by omega) (by omega) | rfl)) trivial ?_
  refine ch_v (R := []) rfl rfl (oc_assign (x := .val _) rfl rfl) trivial ?_
  refine ck_nil ?_
  refine aw_block ?_
  refine aw_loop (ι := Nat) (fun m => ⟨[(0, vs s), (1, slS ab), (5, .osl 1 0 (s.size + 1)), (6, vi ((m : Int) - 1))], [(0, .live 3 ((lsA s ab (s.size - m)).map vi))]⟩) (fun m => m ≤ s.size) (fun m => m) s.size (Nat.le_refl _) (Le.sub (by repeat (first | trivial | refine ⟨.inr rfl, ?_⟩)) ⟨by rw [Nat.sub_self]; show _ = some (Hs.live _ ((List.replicate (s.size + 1) (0 : Int)).map vi)); rw [List.map_replicate]; rfl, trivial⟩) ?_
  intro m hI
  refine aw_seq ?_
  refine aw_seq ?_
  refine aw_text rfl ?_
  refine ch_v (R := []) rfl rfl (oc_move (x := .val _) rfl rfl) trivial ?_
  refine ch_v (R := []) rfl rfl (oc_binZ rfl rfl rfl rfl) trivial ?_
  refine ck_nil ?_
  refine aw_cond rfl (fun hb => ?_) (fun hb => ?_)
  · obtain ⟨i, rfl⟩ : ∃ i, m = i + 1 := ⟨m - 1, by have h0 := of_decide_eq_true hb; omega⟩
    have h1 := one_cost (s := s) (i := i) (by omega)
    have hbd := lsA_bd s ab (s.size - (i + 1)) (by omega)
    have hal := lsA_len s ab (s.size - (i + 1))
    refine aw_le (Le.sub (τ := ⟨[(0, vs s), (1, slS ab), (5, .osl 1 0 (s.size + 1)), (6, vi (i : Int))], [(0, .live 3 ((lsA s ab (s.size - (i + 1))).map vi))]⟩) (by repeat (first | trivial | refine ⟨.inr rfl, ?_⟩ | refine ⟨.inr (vi_eq (by omega)), ?_⟩)) ⟨rfl, trivial⟩) ?_
    have hb1 := hbd (i + 1)
    refine aw_skip ?_
    refine aw_seq ?_
    refine aw_block ?_
    refine aw_seq ?_
    refine aw_draw mixed ?_
    refine ch_v (R := []) rfl rfl (oc_move (x := .osl _ _ _) rfl rfl) trivial ?_
    refine ch_v (R := []) rfl rfl (oc_move (x := .val _) rfl rfl) trivial ?_
    refine ch_v (R := []) rfl rfl (oc_move (x := .val _) rfl rfl) trivial ?_
    refine ch_v (R := []) rfl rfl (oc_move (x := .val _) rfl rfl) trivial ?_
    refine ch_v (R := []) rfl rfl (oc_move (x := .val _) rfl rfl) trivial ?_
    refine ch_v (R := []) rfl rfl (oc_binZ rfl rfl rfl (by first | exact binW_add (by omega) (by omega) | rfl)) trivial ?_
    refine ch_v (R := []) rfl rfl (OC.cast (oc_substr rfl rfl rfl rfl (by kernel_rfl) (by omega) (by omega) (by omega)) (show Av.val (.string (s.extract (i : Int).toNat ((i : Int) + 1).toNat)) = vs (s.extract i (i + 1)) from by have := ex_nat s i 1; rw [← this]; rfl)) trivial ?_
    refine ch_v (R := []) rfl rfl (oc_call rfl (by kernel_rfl) (rcost_pc _ (by rw [h1.1]; omega)) rfl (by simp only [PureL, Pure, and_self, pure_slI, pure_slS, rowAv, pieces_pure, implies_true]) (by simp only [PureL, Pure, and_self, pure_slI, pure_slS, rowAv, pieces_pure, implies_true])) trivial ?_
    refine ch_v (R := []) rfl rfl (oc_move (x := .osl _ _ _) rfl rfl) trivial ?_
    refine ch_v (R := []) rfl rfl (oc_move (x := .val _) rfl rfl) trivial ?_
    refine ch_v (R := []) rfl rfl (oc_binZ rfl rfl rfl (by first | exact binW_add (by omega) (by omega) | rfl)) trivial ?_
    refine ch_v (R := [(_, .live _ _)]) rfl rfl (oc_index_own (j := i + 1) rfl rfl rfl (by kernel_rfl) (by omega) (by omega) (by omega)) ⟨rfl, trivial⟩ ?_
    refine ch_v (R := [(_, .live _ _)]) rfl rfl (oc_load_own (y := vi ((lsA s ab (s.size - (i + 1))).getD (i + 1) 0)) rfl rfl (by kernel_rfl) (vi_at (by rw [hal]; omega))) ⟨rfl, trivial⟩ ?_
    refine ch_v (R := []) rfl rfl (oc_binZ rfl rfl rfl (by first | exact binW_add (by omega) (by omega) | rfl)) trivial ?_
    refine ch_v (R := [(_, .live _ _)]) rfl rfl (oc_index_ownN rfl rfl rfl (by kernel_rfl) (by omega)) ⟨rfl, trivial⟩ ?_
    refine ch_n rfl rfl (oc_store (y := vi (costS (s.extract i (i + 1)) + (lsA s ab (s.size - (i + 1))).getD (i + 1) 0)) (cs' := (lsW s ab i (lsA s ab (s.size - (i + 1))) 0).map vi) rfl rfl rfl (by kernel_rfl) (by kernel_rfl) cells_int (by rw [List.length_map, hal]; omega) (vi_put _ _ _)) ⟨rfl, trivial⟩ ?_
    refine ck_nil ⟨by kernel_rfl, ?_⟩
    refine aw_seq ?_
    refine aw_text rfl ?_
    refine ch_v (R := []) rfl rfl (oc_assign (x := .val _) rfl rfl) trivial ?_
    refine ck_nil ?_
    refine aw_block ?_
    refine aw_loop (ι := Nat) (fun k => ⟨[(0, vs s), (1, slS ab), (5, .osl 1 0 (s.size + 1)), (6, vi (i : Int)), (7, vi k)], [(0, .live 3 ((lsW s ab i (lsA s ab (s.size - (i + 1))) k).map vi))]⟩) (fun k => k ≤ ab.length) (fun k => ab.length - k) 0 (Nat.zero_le _) (Le.sub (by repeat (first | trivial | refine ⟨.inr rfl, ?_⟩)) ⟨rfl, trivial⟩) ?_
    intro k hI
    refine aw_seq ?_
    refine aw_seq ?_
    refine aw_text rfl ?_
    refine ch_v (R := []) rfl rfl (oc_move (x := .val _) rfl rfl) trivial ?_
    refine ch_v (R := []) rfl rfl (oc_move (x := .sl _ _ _) rfl rfl) trivial ?_
    refine ch_v (R := []) rfl rfl (oc_len rfl rfl (by kernel_rfl)) trivial ?_
    refine ch_v (R := []) rfl rfl (oc_binZ rfl rfl rfl rfl) trivial ?_
    refine ck_nil ?_
    refine aw_cond rfl (fun hb => ?_) (fun hb => ?_)
    · have hlt : k < ab.length := by have h0 := of_decide_eq_true hb; omega
      have hkb := lsK_bd (s := s) (ab := ab) (i := i) (A := (lsA s ab (s.size - (i + 1)))) (by omega) hbd k
      have hbk := hb2 k
      refine aw_skip ?_
      refine aw_seq ?_
      refine aw_block ?_
      refine aw_seq ?_
      refine aw_draw mixed ?_
      refine ch_v (R := []) rfl rfl (oc_move (x := .val _) rfl rfl) trivial ?_
      refine ch_v (R := []) rfl rfl (oc_move (x := .val _) rfl rfl) trivial ?_
      refine ch_v (R := []) rfl rfl (oc_move (x := .sl _ _ _) rfl rfl) trivial ?_
      refine ch_v (R := []) rfl rfl (oc_move (x := .val _) rfl rfl) trivial ?_
      refine ch_v (R := []) rfl rfl (oc_call rfl (by kernel_rfl) (fits_pc s i ab k hs (by omega) hlt (hb2 k)) rfl (by simp only [PureL, Pure, and_self, pure_slI, pure_slS, rowAv, pieces_pure, implies_true]) (by simp only [PureL, Pure, and_self, pure_slI, pure_slS, rowAv, pieces_pure, implies_true])) trivial ?_
      refine ch_v (R := []) rfl rfl (oc_move (x := .val _) rfl rfl) trivial ?_
      refine ch_g (R := []) rfl rfl rfl gate_t (fun hC => oc_move (x := .osl _ _ _) rfl rfl) (fun hC => ⟨(by first | rfl | exact hC | (simp only [Bool.and_eq_true] at hC; first | exact hC.1 | exact hC.1.1 | exact hC.2) | simp_all), trivial⟩) trivial ?_
      refine ch_g (R := []) rfl rfl rfl gate_t (fun hC => oc_move (x := .val _) rfl rfl) (fun hC => ⟨(by first | rfl | exact hC | (simp only [Bool.and_eq_true] at hC; first | exact hC.1 | exact hC.1.1 | exact hC.2) | simp_all), trivial⟩) trivial ?_
      refine ch_g (R := []) rfl rfl rfl gate_t (fun hC => oc_move (x := .sl _ _ _) rfl rfl) (fun hC => ⟨(by first | rfl | exact hC | (simp only [Bool.and_eq_true] at hC; first | exact hC.1 | exact hC.1.1 | exact hC.2) | simp_all), trivial⟩) trivial ?_
      refine ch_g (R := []) rfl rfl rfl gate_t (fun hC => oc_move (x := .val _) rfl rfl) (fun hC => ⟨(by first | rfl | exact hC | (simp only [Bool.and_eq_true] at hC; first | exact hC.1 | exact hC.1.1 | exact hC.2) | simp_all), trivial⟩) trivial ?_
      refine ch_g (R := []) rfl rfl rfl gate_t (fun hC => (by first | exact oc_indexN rfl rfl rfl (by kernel_rfl) (by omega) | exact oc_index rfl rfl rfl (by kernel_rfl) (by omega) (by omega) rfl)) (fun hC => ⟨(by first | rfl | exact hC | (simp only [Bool.and_eq_true] at hC; first | exact hC.1 | exact hC.1.1 | exact hC.2) | simp_all), (by first | rfl | exact hC | (simp only [Bool.and_eq_true] at hC; first | exact hC.1 | exact hC.1.1 | exact hC.2) | simp_all), trivial⟩) trivial ?_
      refine ch_g (R := []) rfl rfl rfl gate_t (fun hC => oc_load rfl rfl (by kernel_rfl) cells_str) (fun hC => ⟨(by first | rfl | exact hC | (simp only [Bool.and_eq_true] at hC; first | exact hC.1 | exact hC.1.1 | exact hC.2) | simp_all), trivial⟩) trivial ?_
      refine ch_g (R := []) rfl rfl rfl gate_t (fun hC => oc_len_str rfl rfl (by kernel_rfl)) (fun hC => ⟨(by first | rfl | exact hC | (simp only [Bool.and_eq_true] at hC; first | exact hC.1 | exact hC.1.1 | exact hC.2) | simp_all), trivial⟩) trivial ?_
      refine ch_g (R := []) rfl rfl rfl gate_t (fun hC => oc_binZ rfl rfl rfl (by first | exact binW_add (by omega) (by omega) | rfl)) (fun hC => ⟨(by first | rfl | exact hC | (simp only [Bool.and_eq_true] at hC; first | exact hC.1 | exact hC.1.1 | exact hC.2) | simp_all), (by first | rfl | exact hC | (simp only [Bool.and_eq_true] at hC; first | exact hC.1 | exact hC.1.1 | exact hC.2) | simp_all), trivial⟩) trivial ?_
      refine ch_g (R := [(_, .live _ _)]) rfl rfl rfl gate_t (fun hC => by
            have hf := fits_in hC
            exact oc_index_own (t := 3) (cs := (lsW s ab i (lsA s ab (s.size - (i + 1))) k).map vi) (j := i + (ab.getD k ByteArray.empty).size) rfl rfl rfl (by kernel_rfl) (by omega) (by omega) (by omega)) (fun hC => ⟨(by first | rfl | exact hC | (simp only [Bool.and_eq_true] at hC; first | exact hC.1 | exact hC.1.1 | exact hC.2) | simp_all), (by first | rfl | exact hC | (simp only [Bool.and_eq_true] at hC; first | exact hC.1 | exact hC.1.1 | exact hC.2) | simp_all), trivial⟩) ⟨rfl, trivial⟩ ?_
      refine ch_g (R := [(_, .live _ _)]) rfl rfl rfl gate_t (fun hC => by
            have hf := fits_in hC
            have hat : (lsW s ab i (lsA s ab (s.size - (i + 1))) k).getD (i + (ab.getD k ByteArray.empty).size) 0 = (lsA s ab (s.size - (i + 1))).getD (i + (ab.getD k ByteArray.empty).size) 0 := by rw [lsW_at (by omega), if_neg (by omega)]
            exact oc_load_own (t := 3) (cs := (lsW s ab i (lsA s ab (s.size - (i + 1))) k).map vi) (y := vi ((lsA s ab (s.size - (i + 1))).getD (i + (ab.getD k ByteArray.empty).size) 0)) rfl rfl (by kernel_rfl) (by rw [← hat]; exact vi_at (by rw [lsW_len, lsA_len]; omega))) (fun hC => ⟨(by first | rfl | exact hC | (simp only [Bool.and_eq_true] at hC; first | exact hC.1 | exact hC.1.1 | exact hC.2) | simp_all), trivial⟩) ⟨rfl, trivial⟩ ?_
      refine ch_g (R := []) rfl rfl rfl gate_t (fun hC => by
            have hbj := hbd (i + (ab.getD k ByteArray.empty).size)
            exact oc_binZ rfl rfl rfl (by first | exact binW_add (by omega) (by omega) | rfl)) (fun hC => ⟨(by first | rfl | exact hC | (simp only [Bool.and_eq_true] at hC; first | exact hC.1 | exact hC.1.1 | exact hC.2) | simp_all), (by first | rfl | exact hC | (simp only [Bool.and_eq_true] at hC; first | exact hC.1 | exact hC.1.1 | exact hC.2) | simp_all), trivial⟩) trivial ?_
      refine ch_g (R := []) rfl rfl rfl gate_t (fun hC => oc_move (x := .osl _ _ _) rfl rfl) (fun hC => ⟨(by first | rfl | exact hC | (simp only [Bool.and_eq_true] at hC; first | exact hC.1 | exact hC.1.1 | exact hC.2) | simp_all), trivial⟩) trivial ?_
      refine ch_g (R := []) rfl rfl rfl gate_t (fun hC => oc_move (x := .val _) rfl rfl) (fun hC => ⟨(by first | rfl | exact hC | (simp only [Bool.and_eq_true] at hC; first | exact hC.1 | exact hC.1.1 | exact hC.2) | simp_all), trivial⟩) trivial ?_
      refine ch_g (R := [(_, .live _ _)]) rfl rfl rfl gate_t (fun hC => oc_index_ownN rfl rfl rfl (by kernel_rfl) (by omega)) (fun hC => ⟨(by first | rfl | exact hC | (simp only [Bool.and_eq_true] at hC; first | exact hC.1 | exact hC.1.1 | exact hC.2) | simp_all), (by first | rfl | exact hC | (simp only [Bool.and_eq_true] at hC; first | exact hC.1 | exact hC.1.1 | exact hC.2) | simp_all), trivial⟩) ⟨rfl, trivial⟩ ?_
      refine ch_g (R := [(_, .live _ _)]) rfl rfl rfl gate_t (fun hC => by
            have hat : (lsW s ab i (lsA s ab (s.size - (i + 1))) k).getD i 0 = lsK s ab i (lsA s ab (s.size - (i + 1))) k := by rw [lsW_at (by omega), if_pos rfl]
            exact oc_load_own (t := 3) (cs := (lsW s ab i (lsA s ab (s.size - (i + 1))) k).map vi) (y := vi (lsK s ab i (lsA s ab (s.size - (i + 1))) k)) rfl rfl (by kernel_rfl) (by rw [← hat]; exact vi_at (by rw [lsW_len, lsA_len]; omega))) (fun hC => ⟨(by first | rfl | exact hC | (simp only [Bool.and_eq_true] at hC; first | exact hC.1 | exact hC.1.1 | exact hC.2) | simp_all), trivial⟩) ⟨rfl, trivial⟩ ?_
      refine ch_g (R := []) rfl rfl rfl gate_t (fun hC => oc_binZ rfl rfl rfl rfl) (fun hC => ⟨(by first | rfl | exact hC | (simp only [Bool.and_eq_true] at hC; first | exact hC.1 | exact hC.1.1 | exact hC.2) | simp_all), (by first | rfl | exact hC | (simp only [Bool.and_eq_true] at hC; first | exact hC.1 | exact hC.1.1 | exact hC.2) | simp_all), trivial⟩) trivial ?_
      refine ch_v (R := []) rfl rfl (oc_and rfl rfl rfl rfl (by first | exact fun h => h | simp_all)) trivial ?_
      refine ck_nil ⟨by kernel_rfl, ?_⟩
      refine aw_cond rfl (fun hb => ?_) (fun hb => ?_)
      · have hq := hb
        simp only [Bool.and_eq_true, decide_eq_true_eq] at hq
        have hf := fits_in hq.1
        have hbj := hbd (i + (ab.getD k ByteArray.empty).size)
        have hat : (lsW s ab i (lsA s ab (s.size - (i + 1))) k).getD (i + (ab.getD k ByteArray.empty).size) 0 = (lsA s ab (s.size - (i + 1))).getD (i + (ab.getD k ByteArray.empty).size) 0 := by rw [lsW_at (by omega), if_neg (by omega)]
        have hsk : lsK s ab i (lsA s ab (s.size - (i + 1))) (k + 1) = 2 + (lsA s ab (s.size - (i + 1))).getD (i + (ab.getD k ByteArray.empty).size) 0 := by show (if _ then _ else _) = _; rw [if_pos ⟨hq.1, hq.2⟩]
        have hst : lsW s ab i (lsA s ab (s.size - (i + 1))) (k + 1) = (lsW s ab i (lsA s ab (s.size - (i + 1))) k).set i (2 + (lsA s ab (s.size - (i + 1))).getD (i + (ab.getD k ByteArray.empty).size) 0) := by rw [← hsk, lsW_put]
        refine aw_text rfl ?_
        refine ch_v (R := []) rfl rfl (oc_move (x := .osl _ _ _) rfl rfl) trivial ?_
        refine ch_v (R := []) rfl rfl (oc_move (x := .val _) rfl rfl) trivial ?_
        refine ch_v (R := []) rfl rfl (oc_move (x := .osl _ _ _) rfl rfl) trivial ?_
        refine ch_v (R := []) rfl rfl (oc_move (x := .val _) rfl rfl) trivial ?_
        refine ch_v (R := []) rfl rfl (oc_move (x := .sl _ _ _) rfl rfl) trivial ?_
        refine ch_v (R := []) rfl rfl (oc_move (x := .val _) rfl rfl) trivial ?_
        refine ch_v (R := []) rfl rfl ((by first | exact oc_indexN rfl rfl rfl (by kernel_rfl) (by omega) | exact oc_index rfl rfl rfl (by kernel_rfl) (by omega) (by omega) rfl)) trivial ?_
        refine ch_v (R := []) rfl rfl (oc_load rfl rfl (by kernel_rfl) cells_str) trivial ?_
        refine ch_v (R := []) rfl rfl (oc_len_str rfl rfl (by kernel_rfl)) trivial ?_
        refine ch_v (R := []) rfl rfl (oc_binZ rfl rfl rfl (by first | exact binW_add (by omega) (by omega) | rfl)) trivial ?_
        refine ch_v (R := [(_, .live _ _)]) rfl rfl (oc_index_own (j := i + (ab.getD k ByteArray.empty).size) rfl rfl rfl (by kernel_rfl) (by omega) (by omega) (by omega)) ⟨rfl, trivial⟩ ?_
        refine ch_v (R := [(_, .live _ _)]) rfl rfl (oc_load_own (t := 3) (cs := (lsW s ab i (lsA s ab (s.size - (i + 1))) k).map vi) (y := vi ((lsA s ab (s.size - (i + 1))).getD (i + (ab.getD k ByteArray.empty).size) 0)) rfl rfl (by kernel_rfl) (by rw [← hat]; exact vi_at (by rw [lsW_len, lsA_len]; omega))) ⟨rfl, trivial⟩ ?_
        refine ch_v (R := []) rfl rfl (oc_binZ rfl rfl rfl (by first | exact binW_add (by omega) (by omega) | rfl)) trivial ?_
        refine ch_v (R := [(_, .live _ _)]) rfl rfl (oc_index_ownN rfl rfl rfl (by kernel_rfl) (by omega)) ⟨rfl, trivial⟩ ?_
        refine ch_n rfl rfl (oc_store (y := vi (2 + (lsA s ab (s.size - (i + 1))).getD (i + (ab.getD k ByteArray.empty).size) 0)) (cs' := ((lsW s ab i (lsA s ab (s.size - (i + 1))) k).set i (2 + (lsA s ab (s.size - (i + 1))).getD (i + (ab.getD k ByteArray.empty).size) 0)).map vi) rfl rfl rfl (by kernel_rfl) (by kernel_rfl) cells_int (by rw [List.length_map, lsW_len, hal]; omega) (vi_put _ _ _)) ⟨rfl, trivial⟩ ?_
        refine ck_nil ?_
        refine aw_text rfl ?_
        refine ch_v (R := []) rfl rfl (oc_move (x := .val _) rfl rfl) trivial ?_
        refine ch_v (R := []) rfl rfl (oc_binZ rfl rfl rfl (by first | exact binW_add (by omega) (by omega) | rfl)) trivial ?_
        refine ch_v (R := []) rfl rfl (oc_assign (x := .val _) rfl rfl) trivial ?_
        refine ck_nil ?_
        exact ⟨k + 1, by omega, by omega, Le.sub (by repeat (first | trivial | refine ⟨.inr rfl, ?_⟩ | refine ⟨.inr (vi_eq (by omega)), ?_⟩)) ⟨by rw [← hst]; rfl, trivial⟩⟩
      · have hst : lsW s ab i (lsA s ab (s.size - (i + 1))) (k + 1) = lsW s ab i (lsA s ab (s.size - (i + 1))) k := by
          have hsk : lsK s ab i (lsA s ab (s.size - (i + 1))) (k + 1) = lsK s ab i (lsA s ab (s.size - (i + 1))) k := by
            show (if _ then _ else _) = _
            rw [if_neg (fun hc => by rw [Bool.and_eq_false_iff, decide_eq_false_iff_not] at hb; rcases hb with hb | hb; (rw [hc.1] at hb; cases hb); exact hb hc.2)]
          unfold lsW
          rw [hsk]
        refine aw_skip ?_
        refine aw_text rfl ?_
        refine ch_v (R := []) rfl rfl (oc_move (x := .val _) rfl rfl) trivial ?_
        refine ch_v (R := []) rfl rfl (oc_binZ rfl rfl rfl (by first | exact binW_add (by omega) (by omega) | rfl)) trivial ?_
        refine ch_v (R := []) rfl rfl (oc_assign (x := .val _) rfl rfl) trivial ?_
        refine ck_nil ?_
        exact ⟨k + 1, by omega, by omega, Le.sub (by repeat (first | trivial | refine ⟨.inr rfl, ?_⟩ | refine ⟨.inr (vi_eq (by omega)), ?_⟩)) ⟨by rw [← hst]; rfl, trivial⟩⟩
    · have hke : k = ab.length := by have h0 := of_decide_eq_false hb; omega
      have hfin := lsA_step (s := s) (ab := ab) (i := i) (by omega)
      refine aw_exit ?_
      refine aw_text rfl ?_
      refine ch_v (R := []) rfl rfl (oc_move (x := .val _) rfl rfl) trivial ?_
      refine ch_v (R := []) rfl rfl (oc_binZ rfl rfl rfl (by first | exact binW_sub (by omega) (by omega) | rfl)) trivial ?_
      refine ch_v (R := []) rfl rfl (oc_assign (x := .val _) rfl rfl) trivial ?_
      refine ck_nil ?_
      exact ⟨i, by omega, by omega, Le.sub (by repeat (first | trivial | refine ⟨.inr rfl, ?_⟩ | refine ⟨.inr (vi_eq (by omega)), ?_⟩)) ⟨by rw [hfin, ← hke]; rfl, trivial⟩⟩
  · have hm0 : m = 0 := by have h0 := of_decide_eq_false hb; omega
    refine aw_exit ?_
    refine aw_seq ?_
    subst hm0
    refine aw_le (Le.freeze 5 0 (fun j => vi ((lsA s ab s.size).getD j 0)) rfl rfl (by rw [List.length_map, lsA_len]) (fun j hj => row_vi _ j (by rw [lsA_len]; exact hj))) ?_
    refine aw_text rfl ?_
    refine ch_v (R := []) rfl rfl (oc_move (x := .sl _ _ _) rfl rfl) trivial ?_
    refine ch_v (R := []) rfl rfl (oc_assign (x := .sl _ _ _) rfl rfl) trivial ?_
    refine ck_nil ?_
    refine aw_ret ?_
    exact ⟨.inl rfl, ResOk.tmp rfl (by unfold slI; rw [lsA_len]; rfl), trivial⟩
end Go.Proofs.YtfbpbpapfkimfaaDoor
