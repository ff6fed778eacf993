/- Chapter 7: the document's Best, walked. -/
import Derived.Test.YtfbpbpapfkimfaaDoorBl
import Derived.Test.YtfbpbpapfkimfaaDoorProg
import Derived.KernelRfl
namespace Go.Proofs.YtfbpbpapfkimfaaDoor
open Go.RowKit
set_option maxRecDepth 100000
set_option linter.unusedVariables false
set_option linter.unusedSimpArgs false
def savesOf (l : List ByteArray) (r : ByteArray) : Int := (costS r - 2) * cntA l r l.length - costS r
def betterB (s : Int) (row : ByteArray) (b : RowP) : Bool := decide (s > b.2) || (((s == b.2) && decide (s > 0)) && (decide ((row.size : Int) > b.1.size) || (((row.size : Int) == (b.1.size : Int)) && Op.bytesLess row.toList b.1.toList)))
def rbStep (l : List ByteArray) (p : ByteArray) (i n : Nat) (b : RowP) : RowP := if betterB (savesOf l (p.extract i (i + n))) (p.extract i (i + n)) b = true then (p.extract i (i + n), savesOf l (p.extract i (i + n))) else b
def rbRow (l : List ByteArray) (p : ByteArray) (i : Nat) (b : RowP) : Nat → RowP
  | 0 => b
  | k + 1 => if k + 2 ≤ 8 ∧ i + (k + 2) ≤ p.size then rbStep l p i (k + 2) (rbRow l p i b k) else rbRow l p i b k
def rbPart (l : List ByteArray) (p : ByteArray) (b : RowP) : Nat → RowP
  | 0 => b
  | i + 1 => rbRow l p i (rbPart l p b i) 7
def rbAll (l : List ByteArray) : Nat → RowP
  | 0 => (⟨#[]⟩, 0)
  | k + 1 => rbPart l (l.getD k ByteArray.empty) (rbAll l k) (l.getD k ByteArray.empty).size
theorem rbRow_stop {l : List ByteArray} {p : ByteArray} {i : Nat} {b : RowP} {j : Nat} (hj : j ≤ 7) (h : ¬ (j + 2 ≤ 8 ∧ i + (j + 2) ≤ p.size)) : rbRow l p i b 7 = rbRow l p i b j := by
  have key : ∀ d, j + d ≤ 7 → rbRow l p i b (j + d) = rbRow l p i b j := by
    intro d
    induction d with
    | zero => intro _; rfl
    | succ d ih =>
      intro hd
      rw [← Nat.add_assoc]
      show (if j + d + 2 ≤ 8 ∧ i + (j + d + 2) ≤ p.size then _ else _) = _
      rw [if_neg (by omega)]
      exact ih (by omega)
  have := key (7 - j) (by omega)
  rwa [show j + (7 - j) = 7 from by omega] at this
set_option maxHeartbeats 800000 in
theorem rbest_pc (l : List ByteArray) (hl : FewT l) : PC Tryd.prog 25 [slS l] (vs (rbAll l l.length).1) := by
  refine FC.body 6 79 Tryd.func25 rfl (by kernel_rfl) ?_
  refine aw_seq ?_
  refine aw_text rfl ?_
  refine ch_v (R := []) rfl rfl (oc_assign (x := .val _) rfl rfl) trivial ?_
  refine ck_nil ?_
  refine aw_seq ?_
  refine aw_text rfl ?_
  refine ch_v (R := []) rfl rfl (oc_assign (x := .val _) rfl rfl) trivial ?_
  refine ch_v (R := []) rfl rfl (oc_assign (x := .val _) rfl rfl) trivial ?_
  refine ck_nil ?_
  refine aw_seq ?_
  refine aw_seq ?_
  refine aw_text rfl ?_
  refine ch_v (R := []) rfl rfl (oc_move (x := .sl _ _ _) rfl rfl) trivial ?_
  refine ch_v (R := []) rfl rfl (oc_len rfl rfl (by kernel_rfl)) trivial ?_
  refine ch_v (R := []) rfl rfl (oc_move (x := .val _) rfl rfl) trivial ?_
  refine ck_nil ?_
  refine aw_block ?_
  refine aw_loop (ι := Nat) (fun k => ⟨[(0, slS l), (3, vs (rbAll l k).1), (4, vi (rbAll l k).2), (11, slS l), (12, vi l.length), (13, vi k)], []⟩) (fun k => k ≤ l.length) (fun k => l.length - k) 0 (Nat.zero_le _) (Le.sub (by repeat (first | trivial | refine ⟨.inr rfl, ?_⟩ | refine ⟨.inr (vi_eq (by omega)), ?_⟩)) (by repeat (first | trivial | refine ⟨rfl, ?_⟩))) ?_
  intro k hI
  refine aw_seq ?_
  refine aw_text rfl ?_
  refine ch_v (R := []) rfl rfl (oc_binZ rfl rfl rfl rfl) trivial ?_
  refine ck_nil ?_
  refine aw_seq ?_
  refine aw_cond rfl (fun hb => ?_) (fun hb => ?_)
  · have hlt : k < l.length := by have h0 := of_decide_eq_true hb; omega
    have hps : (l.getD k ByteArray.empty).size ≤ 10000 := hl.size k
    have hll := hl.len
    refine aw_skip ?_
    refine aw_seq ?_
    refine aw_block ?_
    refine aw_seq ?_
    refine aw_text rfl ?_
    refine ch_v (R := []) rfl rfl ((by first | exact oc_indexN rfl rfl rfl (by kernel_rfl) (by omega) | exact oc_index rfl rfl rfl (by kernel_rfl) (by omega) (by omega) rfl)) trivial ?_
    refine ch_v (R := []) rfl rfl (oc_load rfl rfl (by kernel_rfl) cells_str) trivial ?_
    refine ch_v (R := []) rfl rfl (oc_assign (x := .val _) rfl rfl) trivial ?_
    refine ck_nil ?_
    refine aw_seq ?_
    refine aw_text rfl ?_
    refine ch_v (R := []) rfl rfl (oc_assign (x := .val _) rfl rfl) trivial ?_
    refine ck_nil ?_
    refine aw_block ?_
    refine aw_loop (ι := Nat) (fun i => ⟨[(0, slS l), (3, vs (rbPart l (l.getD k ByteArray.empty) (rbAll l k) i).1), (4, vi (rbPart l (l.getD k ByteArray.empty) (rbAll l k) i).2), (11, slS l), (12, vi l.length), (13, vi k), (6, vs (l.getD k ByteArray.empty)), (7, vi i)], []⟩) (fun i => i ≤ (l.getD k ByteArray.empty).size) (fun i => (l.getD k ByteArray.empty).size - i) 0 (Nat.zero_le _) (Le.sub (by repeat (first | trivial | refine ⟨.inr rfl, ?_⟩ | refine ⟨.inr (vi_eq (by omega)), ?_⟩)) (by repeat (first | trivial | refine ⟨rfl, ?_⟩))) ?_
    intro i hI
    refine aw_seq ?_
    refine aw_seq ?_
    refine aw_text rfl ?_
    refine ch_v (R := []) rfl rfl (oc_move (x := .val _) rfl rfl) trivial ?_
    refine ch_v (R := []) rfl rfl (oc_move (x := .val _) rfl rfl) trivial ?_
    refine ch_v (R := []) rfl rfl (oc_len_str rfl rfl (by kernel_rfl)) trivial ?_
    refine ch_v (R := []) rfl rfl (oc_binZ rfl rfl rfl rfl) trivial ?_
    refine ck_nil ?_
    refine aw_cond rfl (fun hb => ?_) (fun hb => ?_)
    · have hli : i < (l.getD k ByteArray.empty).size := by have h0 := of_decide_eq_true hb; omega
      refine aw_skip ?_
      refine aw_seq ?_
      refine aw_block ?_
      refine aw_seq ?_
      refine aw_text rfl ?_
      refine ch_v (R := []) rfl rfl (oc_assign (x := .val _) rfl rfl) trivial ?_
      refine ck_nil ?_
      refine aw_block ?_
      refine aw_loop (ι := Nat) (fun j => ⟨[(0, slS l), (3, vs (rbRow l (l.getD k ByteArray.empty) i (rbPart l (l.getD k ByteArray.empty) (rbAll l k) i) j).1), (4, vi (rbRow l (l.getD k ByteArray.empty) i (rbPart l (l.getD k ByteArray.empty) (rbAll l k) i) j).2), (11, slS l), (12, vi l.length), (13, vi k), (6, vs (l.getD k ByteArray.empty)), (7, vi i), (8, vi ((j + 2 : Nat) : Int))], []⟩) (fun j => j ≤ 7) (fun j => 7 - j) 0 (Nat.zero_le _) (Le.sub (by repeat (first | trivial | refine ⟨.inr rfl, ?_⟩ | refine ⟨.inr (vi_eq (by omega)), ?_⟩)) (by repeat (first | trivial | refine ⟨rfl, ?_⟩))) ?_
      intro j hI
      refine aw_seq ?_
      refine aw_seq ?_
      refine aw_text rfl ?_
      refine ch_v (R := []) rfl rfl (oc_move (x := .val _) rfl rfl) trivial ?_
      refine ch_v (R := []) rfl rfl (oc_binZ rfl rfl rfl rfl) trivial ?_
      refine ch_v (R := []) rfl rfl (oc_move (x := .val _) rfl rfl) trivial ?_
      refine ch_g (R := []) rfl rfl rfl gate_t (fun hC => oc_move (x := .val _) rfl rfl) (fun hC => ⟨(by first | rfl | exact hC | (simp only [Bool.and_eq_true] at hC; first | exact hC.1 | exact hC.1.1 | exact hC.2) | simp_all), trivial⟩) trivial ?_
      refine ch_g (R := []) rfl rfl rfl gate_t (fun hC => oc_move (x := .val _) rfl rfl) (fun hC => ⟨(by first | rfl | exact hC | (simp only [Bool.and_eq_true] at hC; first | exact hC.1 | exact hC.1.1 | exact hC.2) | simp_all), trivial⟩) trivial ?_
      refine ch_g (R := []) rfl rfl rfl gate_t (fun hC => oc_binZ rfl rfl rfl (by first | exact binW_add (by omega) (by omega) | rfl)) (fun hC => ⟨(by first | rfl | exact hC | (simp only [Bool.and_eq_true] at hC; first | exact hC.1 | exact hC.1.1 | exact hC.2) | simp_all), (by first | rfl | exact hC | (simp only [Bool.and_eq_true] at hC; first | exact hC.1 | exact hC.1.1 | exact hC.2) | simp_all), trivial⟩) trivial ?_
      refine ch_g (R := []) rfl rfl rfl gate_t (fun hC => oc_move (x := .val _) rfl rfl) (fun hC => ⟨(by first | rfl | exact hC | (simp only [Bool.and_eq_true] at hC; first | exact hC.1 | exact hC.1.1 | exact hC.2) | simp_all), trivial⟩) trivial ?_
      refine ch_g (R := []) rfl rfl rfl gate_t (fun hC => oc_len_str rfl rfl (by kernel_rfl)) (fun hC => ⟨(by first | rfl | exact hC | (simp only [Bool.and_eq_true] at hC; first | exact hC.1 | exact hC.1.1 | exact hC.2) | simp_all), trivial⟩) trivial ?_
      refine ch_g (R := []) rfl rfl rfl gate_t (fun hC => oc_binZ rfl rfl rfl rfl) (fun hC => ⟨(by first | rfl | exact hC | (simp only [Bool.and_eq_true] at hC; first | exact hC.1 | exact hC.1.1 | exact hC.2) | simp_all), (by first | rfl | exact hC | (simp only [Bool.and_eq_true] at hC; first | exact hC.1 | exact hC.1.1 | exact hC.2) | simp_all), trivial⟩) trivial ?_
      refine ch_v (R := []) rfl rfl (oc_and rfl rfl rfl rfl (by first | exact fun h => h | simp_all)) trivial ?_
      refine ck_nil ?_
      refine aw_cond rfl (fun hb => ?_) (fun hb => ?_)
      · have hn : j + 2 ≤ 8 ∧ i + (j + 2) ≤ (l.getD k ByteArray.empty).size := by simp only [Bool.and_eq_true, decide_eq_true_eq] at hb; omega
        have hx := ex_nat (l.getD k ByteArray.empty) i (j + 2)
        have hxs := ex_size (l.getD k ByteArray.empty) i (j + 2) hn.2
        refine aw_skip ?_
        refine aw_seq ?_
        refine aw_block ?_
        refine aw_seq ?_
        refine aw_text rfl ?_
        refine ch_v (R := []) rfl rfl (oc_move (x := .val _) rfl rfl) trivial ?_
        refine ch_v (R := []) rfl rfl (oc_move (x := .val _) rfl rfl) trivial ?_
        refine ch_v (R := []) rfl rfl (oc_move (x := .val _) rfl rfl) trivial ?_
        refine ch_v (R := []) rfl rfl (oc_move (x := .val _) rfl rfl) trivial ?_
        refine ch_v (R := []) rfl rfl (oc_binZ rfl rfl rfl (by first | exact binW_add (by omega) (by omega) | rfl)) trivial ?_
        refine ch_v (R := []) rfl rfl (OC.cast (oc_substr rfl rfl rfl rfl (by kernel_rfl) (by omega) (by omega) (by omega)) (show Av.val (.string ((l.getD k ByteArray.empty).extract (i : Int).toNat ((i : Int) + ((j + 2 : Nat) : Int)).toNat)) = vs ((l.getD k ByteArray.empty).extract i (i + (j + 2))) from by rw [hx])) trivial ?_
        refine ch_v (R := []) rfl rfl (oc_assign (x := .val _) rfl rfl) trivial ?_
        refine ck_nil ?_
        refine aw_seq ?_
        refine aw_text rfl ?_
        refine ch_v (R := []) rfl rfl (oc_move (x := .sl _ _ _) rfl rfl) trivial ?_
        refine ch_v (R := []) rfl rfl (oc_move (x := .val _) rfl rfl) trivial ?_
        refine ch_v (R := []) rfl rfl (oc_call rfl (by kernel_rfl) (saves_pc l hl ((l.getD k ByteArray.empty).extract i (i + (j + 2))) (by rw [hxs]; omega) (by rw [hxs]; omega)) rfl (by simp only [PureL, Pure, and_self, pure_slI, pure_slS, rowAv, pieces_pure, implies_true]) (by simp only [PureL, Pure, and_self, pure_slI, pure_slS, rowAv, pieces_pure, implies_true])) trivial ?_
        refine ch_v (R := []) rfl rfl (oc_assign (x := .val _) rfl rfl) trivial ?_
        refine ck_nil ?_
        refine aw_seq ?_
        refine aw_text rfl ?_
        refine ch_v (R := []) rfl rfl (oc_move (x := .val _) rfl rfl) trivial ?_
        refine ch_v (R := []) rfl rfl (oc_move (x := .val _) rfl rfl) trivial ?_
        refine ch_v (R := []) rfl rfl (oc_binZ rfl rfl rfl rfl) trivial ?_
        refine ch_v (R := []) rfl rfl (oc_move (x := .val _) rfl rfl) trivial ?_
        refine ch_g (R := []) rfl rfl rfl gate_f (fun hC => oc_move (x := .val _) rfl rfl) (fun hC => ⟨(by first | rfl | exact hC | (simp only [Bool.and_eq_true] at hC; first | exact hC.1 | exact hC.1.1 | exact hC.2) | simp_all), trivial⟩) trivial ?_
        refine ch_g (R := []) rfl rfl rfl gate_f (fun hC => oc_move (x := .val _) rfl rfl) (fun hC => ⟨(by first | rfl | exact hC | (simp only [Bool.and_eq_true] at hC; first | exact hC.1 | exact hC.1.1 | exact hC.2) | simp_all), trivial⟩) trivial ?_
        refine ch_g (R := []) rfl rfl rfl gate_f (fun hC => oc_binZ rfl rfl rfl rfl) (fun hC => ⟨(by first | rfl | exact hC | (simp only [Bool.and_eq_true] at hC; first | exact hC.1 | exact hC.1.1 | exact hC.2) | simp_all), (by first | rfl | exact hC | (simp only [Bool.and_eq_true] at hC; first | exact hC.1 | exact hC.1.1 | exact hC.2) | simp_all), trivial⟩) trivial ?_
        refine ch_g (R := []) rfl rfl rfl gate_f (fun hC => oc_move (x := .val _) rfl rfl) (fun hC => ⟨(by first | rfl | exact hC | (simp only [Bool.and_eq_true] at hC; first | exact hC.1 | exact hC.1.1 | exact hC.2) | simp_all), trivial⟩) trivial ?_
        refine ch_g (R := []) rfl rfl rfl gate_gt (fun hC => oc_move (x := .val _) rfl rfl) (fun hC => ⟨(by first | rfl | exact hC | (simp only [Bool.and_eq_true] at hC; first | exact hC.1 | exact hC.1.1 | exact hC.2) | simp_all), trivial⟩) trivial ?_
        refine ch_g (R := []) rfl rfl rfl gate_gt (fun hC => oc_binZ rfl rfl rfl rfl) (fun hC => ⟨(by first | rfl | exact hC | (simp only [Bool.and_eq_true] at hC; first | exact hC.1 | exact hC.1.1 | exact hC.2) | simp_all), (by first | rfl | exact hC | (simp only [Bool.and_eq_true] at hC; first | exact hC.1 | exact hC.1.1 | exact hC.2) | simp_all), trivial⟩) trivial ?_
        refine ch_gp rfl rfl rfl rfl gate_f (fun hC => (by first | rfl | exact hC | (simp only [Bool.and_eq_true] at hC; first | exact hC.1 | exact hC.1.1 | exact hC.2) | simp_all)) rfl (fun hC E a hp hq => pk_and rfl (by first | exact fun h => tt2 hC h | exact fun h => h | simp_all) hp) ?_
        refine ch_g (R := []) rfl rfl rfl gate_f (fun hC => oc_move (x := .val _) rfl rfl) (fun hC => ⟨(by first | rfl | exact hC | (simp only [Bool.and_eq_true] at hC; first | exact hC.1 | exact hC.1.1 | exact hC.2) | simp_all), trivial⟩) trivial ?_
        refine ch_g (R := []) rfl rfl rfl gate_gt (fun hC => oc_move (x := .val _) rfl rfl) (fun hC => ⟨(by first | rfl | exact hC | (simp only [Bool.and_eq_true] at hC; first | exact hC.1 | exact hC.1.1 | exact hC.2) | simp_all), trivial⟩) trivial ?_
        refine ch_g (R := []) rfl rfl rfl gate_gt (fun hC => oc_len_str rfl rfl (by kernel_rfl)) (fun hC => ⟨(by first | rfl | exact hC | (simp only [Bool.and_eq_true] at hC; first | exact hC.1 | exact hC.1.1 | exact hC.2) | simp_all), trivial⟩) trivial ?_
        refine ch_g (R := []) rfl rfl rfl gate_gt (fun hC => oc_move (x := .val _) rfl rfl) (fun hC => ⟨(by first | rfl | exact hC | (simp only [Bool.and_eq_true] at hC; first | exact hC.1 | exact hC.1.1 | exact hC.2) | simp_all), trivial⟩) trivial ?_
        refine ch_g (R := []) rfl rfl rfl gate_gt (fun hC => oc_len_str rfl rfl (by kernel_rfl)) (fun hC => ⟨(by first | rfl | exact hC | (simp only [Bool.and_eq_true] at hC; first | exact hC.1 | exact hC.1.1 | exact hC.2) | simp_all), trivial⟩) trivial ?_
        refine ch_g (R := []) rfl rfl rfl gate_gt (fun hC => oc_binZ rfl rfl rfl rfl) (fun hC => ⟨(by first | rfl | exact hC | (simp only [Bool.and_eq_true] at hC; first | exact hC.1 | exact hC.1.1 | exact hC.2) | simp_all), (by first | rfl | exact hC | (simp only [Bool.and_eq_true] at hC; first | exact hC.1 | exact hC.1.1 | exact hC.2) | simp_all), trivial⟩) trivial ?_
        refine ch_g (R := []) rfl rfl rfl gate_gt (fun hC => oc_move (x := .val _) rfl rfl) (fun hC => ⟨(by first | rfl | exact hC | (simp only [Bool.and_eq_true] at hC; first | exact hC.1 | exact hC.1.1 | exact hC.2) | simp_all), trivial⟩) trivial ?_
        refine ch_g (R := []) rfl rfl rfl gate_gf (fun hC => oc_move (x := .val _) rfl rfl) (fun hC => ⟨(by first | rfl | exact hC | (simp only [Bool.and_eq_true] at hC; first | exact hC.1 | exact hC.1.1 | exact hC.2) | simp_all), trivial⟩) trivial ?_
        refine ch_g (R := []) rfl rfl rfl gate_gf (fun hC => oc_len_str rfl rfl (by kernel_rfl)) (fun hC => ⟨(by first | rfl | exact hC | (simp only [Bool.and_eq_true] at hC; first | exact hC.1 | exact hC.1.1 | exact hC.2) | simp_all), trivial⟩) trivial ?_
        refine ch_g (R := []) rfl rfl rfl gate_gf (fun hC => oc_move (x := .val _) rfl rfl) (fun hC => ⟨(by first | rfl | exact hC | (simp only [Bool.and_eq_true] at hC; first | exact hC.1 | exact hC.1.1 | exact hC.2) | simp_all), trivial⟩) trivial ?_
        refine ch_g (R := []) rfl rfl rfl gate_gf (fun hC => oc_len_str rfl rfl (by kernel_rfl)) (fun hC => ⟨(by first | rfl | exact hC | (simp only [Bool.and_eq_true] at hC; first | exact hC.1 | exact hC.1.1 | exact hC.2) | simp_all), trivial⟩) trivial ?_
        refine ch_g (R := []) rfl rfl rfl gate_gf (fun hC => oc_binZ rfl rfl rfl rfl) (fun hC => ⟨(by first | rfl | exact hC | (simp only [Bool.and_eq_true] at hC; first | exact hC.1 | exact hC.1.1 | exact hC.2) | simp_all), (by first | rfl | exact hC | (simp only [Bool.and_eq_true] at hC; first | exact hC.1 | exact hC.1.1 | exact hC.2) | simp_all), trivial⟩) trivial ?_
        refine ch_g (R := []) rfl rfl rfl gate_gf (fun hC => oc_move (x := .val _) rfl rfl) (fun hC => ⟨(by first | rfl | exact hC | (simp only [Bool.and_eq_true] at hC; first | exact hC.1 | exact hC.1.1 | exact hC.2) | simp_all), trivial⟩) trivial ?_
        refine ch_g (R := []) rfl rfl rfl gate_gt (fun hC => oc_move (x := .val _) rfl rfl) (fun hC => ⟨(by first | rfl | exact hC | (simp only [Bool.and_eq_true] at hC; first | exact hC.1 | exact hC.1.1 | exact hC.2) | simp_all), trivial⟩) trivial ?_
        refine ch_g (R := []) rfl rfl rfl gate_gt (fun hC => oc_move (x := .val _) rfl rfl) (fun hC => ⟨(by first | rfl | exact hC | (simp only [Bool.and_eq_true] at hC; first | exact hC.1 | exact hC.1.1 | exact hC.2) | simp_all), trivial⟩) trivial ?_
        refine ch_g (R := []) rfl rfl rfl gate_gt (fun hC => oc_str_lt rfl rfl rfl) (fun hC => ⟨(by first | rfl | exact hC | (simp only [Bool.and_eq_true] at hC; first | exact hC.1 | exact hC.1.1 | exact hC.2) | simp_all), (by first | rfl | exact hC | (simp only [Bool.and_eq_true] at hC; first | exact hC.1 | exact hC.1.1 | exact hC.2) | simp_all), trivial⟩) trivial ?_
        refine ch_gp rfl rfl rfl rfl gate_gf (fun hC => (by first | rfl | exact hC | (simp only [Bool.and_eq_true] at hC; first | exact hC.1 | exact hC.1.1 | exact hC.2) | simp_all)) rfl (fun hC E a hp hq => pk_and rfl (by first | exact fun h => tt2 hC h | exact fun h => h | simp_all) hp) ?_
        refine ch_gp rfl rfl rfl rfl gate_gt (fun hC => (by first | rfl | exact hC | (simp only [Bool.and_eq_true] at hC; first | exact hC.1 | exact hC.1.1 | exact hC.2) | simp_all)) rfl (fun hC E a hp hq => pk_or rfl (by first | exact fun h => tt2 hC h | exact fun h => h | simp_all) hq) ?_
        refine ch_gp rfl rfl rfl rfl gate_f (fun hC => (by first | rfl | exact hC | (simp only [Bool.and_eq_true] at hC; first | exact hC.1 | exact hC.1.1 | exact hC.2) | simp_all)) rfl (fun hC E a hp hq => pk_and rfl (by first | exact fun h => tt2 hC h | exact fun h => h | simp_all) hp) ?_
        refine ch_v (R := []) rfl rfl (oc_or rfl rfl rfl (by first | exact fun h => h | simp_all)) trivial ?_
        refine ck_nil ?_
        refine aw_cond rfl (fun hb => ?_) (fun hb => ?_)
        · have hbt : betterB (savesOf l ((l.getD k ByteArray.empty).extract i (i + (j + 2)))) ((l.getD k ByteArray.empty).extract i (i + (j + 2))) (rbRow l (l.getD k ByteArray.empty) i (rbPart l (l.getD k ByteArray.empty) (rbAll l k) i) j) = true := hb
          have e1 : rbRow l (l.getD k ByteArray.empty) i (rbPart l (l.getD k ByteArray.empty) (rbAll l k) i) (j + 1) = (((l.getD k ByteArray.empty).extract i (i + (j + 2))), savesOf l ((l.getD k ByteArray.empty).extract i (i + (j + 2)))) := by
            show (if _ then rbStep _ _ _ _ _ else _) = _
            rw [if_pos hn]
            unfold rbStep
            rw [if_pos hbt]
          refine aw_seq ?_
          refine aw_text rfl ?_
          refine ch_v (R := []) rfl rfl (oc_move (x := .val _) rfl rfl) trivial ?_
          refine ch_v (R := []) rfl rfl (oc_assign (x := .val _) rfl rfl) trivial ?_
          refine ck_nil ?_
          refine aw_text rfl ?_
          refine ch_v (R := []) rfl rfl (oc_move (x := .val _) rfl rfl) trivial ?_
          refine ch_v (R := []) rfl rfl (oc_assign (x := .val _) rfl rfl) trivial ?_
          refine ck_nil ?_
          refine aw_text rfl ?_
          refine ch_v (R := []) rfl rfl (oc_move (x := .val _) rfl rfl) trivial ?_
          refine ch_v (R := []) rfl rfl (oc_binZ rfl rfl rfl (by first | exact binW_add (by omega) (by omega) | rfl)) trivial ?_
          refine ch_v (R := []) rfl rfl (oc_assign (x := .val _) rfl rfl) trivial ?_
          refine ck_nil ?_
          exact ⟨j + 1, by omega, by omega, Le.sub (by repeat (first | trivial | refine ⟨.inr rfl, ?_⟩ | refine ⟨.inr (vi_eq (by omega)), ?_⟩ | refine ⟨.inr (by rw [e1]; rfl), ?_⟩)) trivial⟩
        · have hbt : ¬ betterB (savesOf l ((l.getD k ByteArray.empty).extract i (i + (j + 2)))) ((l.getD k ByteArray.empty).extract i (i + (j + 2))) (rbRow l (l.getD k ByteArray.empty) i (rbPart l (l.getD k ByteArray.empty) (rbAll l k) i) j) = true := by intro hc; have : betterB (savesOf l ((l.getD k ByteArray.empty).extract i (i + (j + 2)))) ((l.getD k ByteArray.empty).extract i (i + (j + 2))) (rbRow l (l.getD k ByteArray.empty) i (rbPart l (l.getD k ByteArray.empty) (rbAll l k) i) j) = false := hb; rw [hc] at this; cases this
          have e1 : rbRow l (l.getD k ByteArray.empty) i (rbPart l (l.getD k ByteArray.empty) (rbAll l k) i) (j + 1) = (rbRow l (l.getD k ByteArray.empty) i (rbPart l (l.getD k ByteArray.empty) (rbAll l k) i) j) := by
            show (if _ then rbStep _ _ _ _ _ else _) = _
            rw [if_pos hn]
            unfold rbStep
            rw [if_neg hbt]
          refine aw_skip ?_
          refine aw_text rfl ?_
          refine ch_v (R := []) rfl rfl (oc_move (x := .val _) rfl rfl) trivial ?_
          refine ch_v (R := []) rfl rfl (oc_binZ rfl rfl rfl (by first | exact binW_add (by omega) (by omega) | rfl)) trivial ?_
          refine ch_v (R := []) rfl rfl (oc_assign (x := .val _) rfl rfl) trivial ?_
          refine ck_nil ?_
          exact ⟨j + 1, by omega, by omega, Le.sub (by repeat (first | trivial | refine ⟨.inr rfl, ?_⟩ | refine ⟨.inr (vi_eq (by omega)), ?_⟩ | refine ⟨.inr (by rw [e1]; rfl), ?_⟩)) trivial⟩
      · have hn : ¬ (j + 2 ≤ 8 ∧ i + (j + 2) ≤ (l.getD k ByteArray.empty).size) := by intro hc; simp only [Bool.and_eq_false_iff, decide_eq_false_iff_not] at hb; omega
        have hend : rbPart l (l.getD k ByteArray.empty) (rbAll l k) (i + 1) = (rbRow l (l.getD k ByteArray.empty) i (rbPart l (l.getD k ByteArray.empty) (rbAll l k) i) j) := rbRow_stop hI hn
        refine aw_exit ?_
        refine aw_text rfl ?_
        refine ch_v (R := []) rfl rfl (oc_move (x := .val _) rfl rfl) trivial ?_
        refine ch_v (R := []) rfl rfl (oc_binZ rfl rfl rfl (by first | exact binW_add (by omega) (by omega) | rfl)) trivial ?_
        refine ch_v (R := []) rfl rfl (oc_assign (x := .val _) rfl rfl) trivial ?_
        refine ck_nil ?_
        exact ⟨i + 1, by omega, by omega, Le.sub (by repeat (first | trivial | refine ⟨.inr rfl, ?_⟩ | refine ⟨.inr (vi_eq (by omega)), ?_⟩ | refine ⟨.inr (by rw [hend]; rfl), ?_⟩)) trivial⟩
    · have hie : i = (l.getD k ByteArray.empty).size := by have h0 := of_decide_eq_false hb; omega
      have hp1 : rbAll l (k + 1) = (rbPart l (l.getD k ByteArray.empty) (rbAll l k) i) := by show rbPart _ _ _ _ = _; rw [hie]
      refine aw_exit ?_
      refine aw_text rfl ?_
      refine ch_v (R := []) rfl rfl (oc_binZ rfl rfl rfl (by first | exact binW_add (by omega) (by omega) | rfl)) trivial ?_
      refine ch_v (R := []) rfl rfl (oc_move (x := .val _) rfl rfl) trivial ?_
      refine ck_nil ?_
      exact ⟨k + 1, by omega, by omega, Le.sub (by repeat (first | trivial | refine ⟨.inr rfl, ?_⟩ | refine ⟨.inr (vi_eq (by omega)), ?_⟩ | refine ⟨.inr (by rw [hp1]; rfl), ?_⟩)) trivial⟩
  · have hge : k = l.length := by have h0 := of_decide_eq_false hb; omega
    refine aw_exit ?_
    refine aw_seq ?_
    refine aw_text rfl ?_
    refine ch_v (R := []) rfl rfl (oc_move (x := .val _) rfl rfl) trivial ?_
    refine ch_v (R := []) rfl rfl (oc_assign (x := .val _) rfl rfl) trivial ?_
    refine ck_nil ?_
    refine aw_ret ?_
    exact ⟨.inl rfl, ResOk.tmp rfl (by rw [hge]; rfl), trivial⟩
end Go.Proofs.YtfbpbpapfkimfaaDoor
