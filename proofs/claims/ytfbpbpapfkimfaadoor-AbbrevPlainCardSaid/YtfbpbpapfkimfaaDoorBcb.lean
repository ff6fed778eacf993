/- Chapter 7: abbrev.Cut, walked. -/
import Derived.Test.YtfbpbpapfkimfaaDoorBca
import Derived.Test.YtfbpbpapfkimfaaDoorProg
import Derived.KernelRfl
namespace Go.Proofs.YtfbpbpapfkimfaaDoor
open Go.RowKit
set_option maxRecDepth 100000
set_option linter.unusedVariables false
set_option linter.unusedSimpArgs false
theorem pure_row (ab : List ByteArray) (m : Nat) : Pure (.sl 1 m (fun j => vs (ab.getD j ByteArray.empty))) := by unfold Pure; intro j; simp [Pure]
theorem pure_tk (s : ByteArray) (ab : List ByteArray) : Pure (.sl 1 s.size (fun j => vi (tkL s ab j : Int))) := by unfold Pure; intro j; simp [Pure]
theorem inNL_pcs {Z : Nat → Prop} (l : List PieceP) : InNL Z (pcs l) := by
  induction l with
  | nil => unfold pcs InNL; trivial
  | cons p l ih =>
    show InNL Z (vs p.1 :: vi p.2 :: pcs l)
    unfold InNL InNL
    exact ⟨by simp [InN], by simp [InN], ih⟩
set_option maxHeartbeats 800000 in
theorem cut_pc (s : ByteArray) (ab : List ByteArray) (hs : s.size ≤ 1000000) (hb2 : ∀ k, (ab.getD k ByteArray.empty).size ≤ 1000000) (hbl : ab.length ≤ 1000000) : PC Tryd.prog 14 [vs s, slS ab] (piecesAv (cutP s ab)) := by
  obtain ⟨m, hm⟩ : ∃ m : Nat, m = min ab.length 32 := ⟨_, rfl⟩
  have hmi : min (ab.length : Int) 32 = (m : Int) := by omega
  have hml : m ≤ ab.length := by omega
  have hm32 : m ≤ 32 := by omega
  refine FC.body 6 136 Tryd.func14 rfl (by kernel_rfl) ?_
  refine aw_seq ?_
  refine aw_text rfl ?_
  refine ch_v (R := []) rfl rfl (oc_box (x := .val _) rfl rfl) trivial ?_
  refine ch_v (R := []) rfl rfl (oc_assign (x := .val _) rfl rfl) trivial ?_
  refine ck_nil ?_
  refine aw_seq ?_
  refine aw_text rfl ?_
  refine ch_v (R := []) rfl rfl (oc_move (x := .sl _ _ _) rfl rfl) trivial ?_
  refine ch_v (R := []) rfl rfl (oc_move (x := .sl _ _ _) rfl rfl) trivial ?_
  refine ch_v (R := []) rfl rfl (oc_len rfl rfl (by kernel_rfl)) trivial ?_
  refine ch_v (R := []) rfl rfl (OC.cast (oc_min rfl rfl rfl) (show vi (min (ab.length : Int) 32) = vi (m : Int) from by rw [hmi])) trivial ?_
  refine ch_v (R := []) rfl rfl (oc_slice_h (e := 9) (by_ := 16) (zs := [.string ⟨#[]⟩]) m rfl rfl rfl (by kernel_rfl) (by kernel_rfl) (by omega)) trivial ?_
  refine ch_v (R := []) rfl rfl (oc_assign (x := .sl _ _ _) rfl rfl) trivial ?_
  refine ck_nil ?_
  refine aw_seq ?_
  refine aw_text rfl ?_
  refine ch_v (R := []) rfl rfl (oc_load rfl rfl (by kernel_rfl) cells_str) trivial ?_
  refine ch_v (R := []) rfl rfl (oc_len_str rfl rfl (by kernel_rfl)) trivial ?_
  refine ch_v (R := []) rfl rfl (oc_binZ rfl rfl rfl (by first | exact binW_add (by omega) (by omega) | rfl)) trivial ?_
  refine ch_u rfl rfl (oc_makeSlice (e := 3) (by_ := 8) (z := .int .i64 0) (m := s.size + 1) 0 rfl rfl rfl rfl (by kernel_rfl) (by kernel_rfl) rfl (by omega) (by omega)) ⟨rfl, trivial⟩ ?_
  refine ch_v (R := []) rfl rfl (oc_assign (x := .osl _ _ _) rfl rfl) trivial ?_
  refine ck_nil ?_
  refine aw_seq ?_
  refine aw_text rfl ?_
  refine ch_v (R := []) rfl rfl (oc_load rfl rfl (by kernel_rfl) cells_str) trivial ?_
  refine ch_v (R := []) rfl rfl (oc_len_str rfl rfl (by kernel_rfl)) trivial ?_
  refine ch_u rfl rfl (oc_makeSlice (e := 3) (by_ := 8) (z := .int .i64 0) (m := s.size) 1 rfl rfl rfl rfl (by kernel_rfl) (by kernel_rfl) rfl (by omega) (by omega)) ⟨rfl, trivial⟩ ?_
  refine ch_v (R := []) rfl rfl (oc_assign (x := .osl _ _ _) rfl rfl) trivial ?_
  refine ck_nil ?_
  refine aw_seq ?_
  refine aw_seq ?_
  refine aw_text rfl ?_
  refine ch_v (R := []) rfl rfl (oc_load rfl rfl (by kernel_rfl) cells_str) trivial ?_
  refine ch_v (R := []) rfl rfl (oc_len_str rfl rfl (by kernel_rfl)) trivial ?_
  refine ch_v (R := []) rfl rfl (oc_binZ rfl rfl rfl (by first | exact binW_sub (by omega) (by omega) | rfl)) trivial ?_
  refine ch_v (R := []) rfl rfl (oc_assign (x := .val _) rfl rfl) trivial ?_
  refine ck_nil ?_
  refine aw_block ?_
  refine aw_loop (ι := Nat) (fun d => ⟨[(1, .sl 1 m (fun j => vs (ab.getD j ByteArray.empty))), (2, .ptr (vs s)), (5, .osl 1 0 (s.size + 1)), (6, .osl 1 1 s.size), (7, vi ((d : Int) - 1))], [(0, .live 3 ((lsA s ab (s.size - d)).map vi)), (1, .live 3 ((byA s ab (s.size - d)).map vi)), (2, .unborn), (3, .unborn), (4, .unborn), (5, .unborn)]⟩) (fun d => d ≤ s.size) (fun d => d) s.size (Nat.le_refl _) (Le.sub ⟨.inr rfl, .inr rfl, .inr rfl, .inr rfl, .inr rfl, trivial⟩ ⟨by rw [Nat.sub_self]; show _ = some (Hs.live _ ((List.replicate (s.size + 1) (0 : Int)).map vi)); rw [List.map_replicate]; rfl, by rw [Nat.sub_self]; show _ = some (Hs.live _ ((List.replicate s.size (0 : Int)).map vi)); rw [List.map_replicate]; rfl, rfl, rfl, rfl, rfl, trivial⟩) ?_
  intro d hI
  refine aw_seq ?_
  refine aw_seq ?_
  refine aw_text rfl ?_
  refine ch_v (R := []) rfl rfl (oc_move (x := .val _) rfl rfl) trivial ?_
  refine ch_v (R := []) rfl rfl (oc_binZ rfl rfl rfl rfl) trivial ?_
  refine ck_nil ?_
  refine aw_cond rfl (fun hb => ?_) (fun hb => ?_)
  · obtain ⟨i, rfl⟩ : ∃ i, d = i + 1 := ⟨d - 1, by have h0 := of_decide_eq_true hb; omega⟩
    have h1 := one_cost (s := s) (i := i) (by omega)
    have hbd := lsA_bd s ab (s.size - (i + 1)) (by omega)
    have hal := lsA_len s ab (s.size - (i + 1))
    have hbl2 := byA_len s ab (s.size - (i + 1))
    have hbz : (byA s ab (s.size - (i + 1))).getD i 0 = 0 := byA_zero s ab _ i (by omega)
    refine aw_le (Le.sub (τ := ⟨[(1, .sl 1 m (fun j => vs (ab.getD j ByteArray.empty))), (2, .ptr (vs s)), (5, .osl 1 0 (s.size + 1)), (6, .osl 1 1 s.size), (7, vi (i : Int))], [(0, .live 3 ((lsA s ab (s.size - (i + 1))).map vi)), (1, .live 3 ((byA s ab (s.size - (i + 1))).map vi)), (2, .unborn), (3, .unborn), (4, .unborn), (5, .unborn)]⟩) ⟨.inr rfl, .inr rfl, .inr rfl, .inr rfl, .inr (vi_eq (by omega)), trivial⟩ ⟨rfl, rfl, rfl, rfl, rfl, rfl, trivial⟩) ?_
    have hb1 := hbd (i + 1)
    refine aw_skip ?_
    refine aw_seq ?_
    refine aw_block ?_
    refine aw_seq ?_
    refine aw_draw mixed ?_
    refine ch_v (R := []) rfl rfl (oc_move (x := .osl _ _ _) rfl rfl) trivial ?_
    refine ch_v (R := []) rfl rfl (oc_move (x := .val _) rfl rfl) trivial ?_
    refine ch_v (R := []) rfl rfl (oc_load rfl rfl (by kernel_rfl) cells_str) trivial ?_
    refine ch_v (R := []) rfl rfl (oc_move (x := .val _) rfl rfl) trivial ?_
    refine ch_v (R := []) rfl rfl (oc_move (x := .val _) rfl rfl) trivial ?_
    refine ch_v (R := []) rfl rfl (oc_binZ rfl rfl rfl (by first | exact binW_add (by omega) (by omega) | rfl)) trivial ?_
    refine ch_v (R := []) rfl rfl (OC.cast (oc_substr rfl rfl rfl rfl (by kernel_rfl) (by omega) (by omega) (by omega)) (show Av.val (.string (s.extract (i : Int).toNat ((i : Int) + 1).toNat)) = vs (s.extract i (i + 1)) from by have := ex_nat s i 1; rw [← this]; rfl)) trivial ?_
    refine ch_v (R := []) rfl rfl (oc_call rfl (by kernel_rfl) (cost_pc _ (by rw [h1.1]; omega)) rfl (by simp only [PureL, Pure, and_self, pure_slI, pure_slS, rowAv, pieces_pure, implies_true]) (by simp only [PureL, Pure, and_self, pure_slI, pure_slS, rowAv, pieces_pure, implies_true])) trivial ?_
    refine ch_v (R := []) rfl rfl (oc_move (x := .osl _ _ _) rfl rfl) trivial ?_
    refine ch_v (R := []) rfl rfl (oc_move (x := .val _) rfl rfl) trivial ?_
    refine ch_v (R := []) rfl rfl (oc_binZ rfl rfl rfl (by first | exact binW_add (by omega) (by omega) | rfl)) trivial ?_
    refine ch_v (R := [(_, .live _ _)]) rfl rfl (oc_index_own (j := i + 1) rfl rfl rfl (by kernel_rfl) (by omega) (by omega) (by omega)) ⟨rfl, trivial⟩ ?_
    refine ch_v (R := [(_, .live _ _)]) rfl rfl (oc_load_own (y := vi ((lsA s ab (s.size - (i + 1))).getD (i + 1) 0)) rfl rfl (by kernel_rfl) (vi_at (by rw [hal]; omega))) ⟨rfl, trivial⟩ ?_
    refine ch_v (R := []) rfl rfl (oc_binZ rfl rfl rfl (by first | exact binW_add (by omega) (by omega) | rfl)) trivial ?_
    refine ch_v (R := [(_, .live _ _)]) rfl rfl (oc_index_ownN rfl rfl rfl (by kernel_rfl) (by omega)) ⟨rfl, trivial⟩ ?_
    refine ch_n rfl rfl (oc_store (y := vi (costS (s.extract i (i + 1)) + (lsA s ab (s.size - (i + 1))).getD (i + 1) 0)) (cs' := (lsW s ab i (lsA s ab (s.size - (i + 1))) 0).map vi) rfl rfl rfl (by kernel_rfl) (by kernel_rfl) cells_int (by rw [List.length_map, hal]; omega) (vi_put _ _ _)) ⟨rfl, trivial⟩ ?_
    refine ck_nil ⟨by kernel_rfl, ?_⟩
    refine aw_seq ?_
    refine aw_text rfl ?_
    refine ch_v (R := []) rfl rfl (oc_move (x := .sl _ _ _) rfl rfl) trivial ?_
    refine ch_v (R := []) rfl rfl (oc_len rfl rfl (by kernel_rfl)) trivial ?_
    refine ch_v (R := []) rfl rfl (oc_move (x := .val _) rfl rfl) trivial ?_
    refine ck_nil ?_
    refine aw_block ?_
    refine aw_loop (ι := Nat) (fun k => ⟨[(1, .sl 1 m (fun j => vs (ab.getD j ByteArray.empty))), (2, .ptr (vs s)), (5, .osl 1 0 (s.size + 1)), (6, .osl 1 1 s.size), (7, vi (i : Int)), (48, .sl 1 m (fun j => vs (ab.getD j ByteArray.empty))), (49, vi m), (50, vi k)], [(0, .live 3 ((lsW s ab i (lsA s ab (s.size - (i + 1))) k).map vi)), (1, .live 3 ((byW s ab i (lsA s ab (s.size - (i + 1))) (byA s ab (s.size - (i + 1))) k).map vi)), (2, .unborn), (3, .unborn), (4, .unborn), (5, .unborn)]⟩) (fun k => k ≤ m) (fun k => m - k) 0 (Nat.zero_le _) (Le.sub ⟨.inr rfl, .inr rfl, .inr rfl, .inr rfl, .inr rfl, .inr rfl, .inr rfl, .inr rfl, trivial⟩ ⟨rfl, by rw [byW_zero hbz]; rfl, rfl, rfl, rfl, rfl, trivial⟩) ?_
    intro k hI
    refine aw_seq ?_
    refine aw_text rfl ?_
    refine ch_v (R := []) rfl rfl (oc_binZ rfl rfl rfl rfl) trivial ?_
    refine ck_nil ?_
    refine aw_seq ?_
    refine aw_cond rfl (fun hb => ?_) (fun hb => ?_)
    · have hlt : k < m := by have h0 := of_decide_eq_true hb; omega
      have hk32 : k < 32 := by omega
      have hkb := lsK_bd (s := s) (ab := ab) (i := i) (A := (lsA s ab (s.size - (i + 1)))) (by omega) hbd k
      have hbk := hb2 k
      refine aw_skip ?_
      refine aw_seq ?_
      refine aw_block ?_
      refine aw_seq ?_
      refine aw_text rfl ?_
      refine ch_v (R := []) rfl rfl (oc_move (x := .val _) rfl rfl) trivial ?_
      refine ch_v (R := []) rfl rfl ((by first | exact oc_indexN rfl rfl rfl (by kernel_rfl) (by omega) | exact oc_index rfl rfl rfl (by kernel_rfl) (by omega) (by omega) rfl)) trivial ?_
      refine ch_v (R := []) rfl rfl (oc_load rfl rfl (by kernel_rfl) cells_str) trivial ?_
      refine ch_v (R := []) rfl rfl (oc_assign (x := .val _) rfl rfl) trivial ?_
      refine ch_v (R := []) rfl rfl (oc_assign (x := .val _) rfl rfl) trivial ?_
      refine ck_nil ?_
      refine aw_seq ?_
      refine aw_draw mixed ?_
      refine ch_v (R := []) rfl rfl (oc_move (x := .val _) rfl rfl) trivial ?_
      refine ch_v (R := []) rfl rfl (oc_str_ne rfl rfl rfl) trivial ?_
      refine ch_v (R := []) rfl rfl (oc_move (x := .val _) rfl rfl) trivial ?_
      refine ch_g (R := []) rfl rfl rfl gate_t (fun hC => oc_load rfl rfl (by kernel_rfl) cells_str) (fun hC => ⟨(by first | rfl | exact hC | (simp only [Bool.and_eq_true] at hC; first | exact hC.1 | exact hC.1.1 | exact hC.2) | simp_all), trivial⟩) trivial ?_
      refine ch_g (R := []) rfl rfl rfl gate_t (fun hC => oc_move (x := .val _) rfl rfl) (fun hC => ⟨(by first | rfl | exact hC | (simp only [Bool.and_eq_true] at hC; first | exact hC.1 | exact hC.1.1 | exact hC.2) | simp_all), trivial⟩) trivial ?_
      refine ch_g (R := []) rfl rfl rfl gate_t (fun hC => OC.cast (oc_substr_l rfl rfl rfl (by kernel_rfl) (by omega) (by omega)) (show Av.val (.string (s.extract (i : Int).toNat s.size)) = vs (s.extract i s.size) from by rw [Int.toNat_natCast])) (fun hC => ⟨(by first | rfl | exact hC | (simp only [Bool.and_eq_true] at hC; first | exact hC.1 | exact hC.1.1 | exact hC.2) | simp_all), (by first | rfl | exact hC | (simp only [Bool.and_eq_true] at hC; first | exact hC.1 | exact hC.1.1 | exact hC.2) | simp_all), trivial⟩) trivial ?_
      refine ch_g (R := []) rfl rfl rfl gate_t (fun hC => oc_move (x := .val _) rfl rfl) (fun hC => ⟨(by first | rfl | exact hC | (simp only [Bool.and_eq_true] at hC; first | exact hC.1 | exact hC.1.1 | exact hC.2) | simp_all), trivial⟩) trivial ?_
      refine ch_g (R := []) rfl rfl rfl gate_t (fun hC => oc_call rfl (by kernel_rfl) (hasPrefix_pc (s.extract i s.size) (ab.getD k ByteArray.empty)) rfl (by simp only [PureL, Pure, and_self, pure_slI, pure_slS, rowAv, pieces_pure, implies_true]) (by simp only [PureL, Pure, and_self, pure_slI, pure_slS, rowAv, pieces_pure, implies_true])) (fun hC => ⟨(by first | rfl | exact hC | (simp only [Bool.and_eq_true] at hC; first | exact hC.1 | exact hC.1.1 | exact hC.2) | simp_all), (by first | rfl | exact hC | (simp only [Bool.and_eq_true] at hC; first | exact hC.1 | exact hC.1.1 | exact hC.2) | simp_all), (by first | rfl | exact hC | (simp only [Bool.and_eq_true] at hC; first | exact hC.1 | exact hC.1.1 | exact hC.2) | simp_all), trivial⟩) trivial ?_
      refine ch_v (R := []) rfl rfl (oc_and rfl rfl rfl rfl (by first | exact fun h => h | simp_all)) trivial ?_
      refine ch_v (R := []) rfl rfl (oc_move (x := .val _) rfl rfl) trivial ?_
      refine ch_g (R := []) rfl rfl rfl gate_t (fun hC => oc_move (x := .osl _ _ _) rfl rfl) (fun hC => ⟨(by first | rfl | exact hC | (simp only [Bool.and_eq_true] at hC; first | exact hC.1 | exact hC.1.1 | exact hC.2) | simp_all), trivial⟩) trivial ?_
      refine ch_g (R := []) rfl rfl rfl gate_t (fun hC => oc_move (x := .val _) rfl rfl) (fun hC => ⟨(by first | rfl | exact hC | (simp only [Bool.and_eq_true] at hC; first | exact hC.1 | exact hC.1.1 | exact hC.2) | simp_all), trivial⟩) trivial ?_
      refine ch_g (R := []) rfl rfl rfl gate_t (fun hC => oc_move (x := .val _) rfl rfl) (fun hC => ⟨(by first | rfl | exact hC | (simp only [Bool.and_eq_true] at hC; first | exact hC.1 | exact hC.1.1 | exact hC.2) | simp_all), trivial⟩) trivial ?_
      refine ch_g (R := []) rfl rfl rfl gate_t (fun hC => oc_len_str rfl rfl (by kernel_rfl)) (fun hC => ⟨(by first | rfl | exact hC | (simp only [Bool.and_eq_true] at hC; first | exact hC.1 | exact hC.1.1 | exact hC.2) | simp_all), trivial⟩) trivial ?_
      refine ch_g (R := []) rfl rfl rfl gate_t (fun hC => oc_binZ rfl rfl rfl (by first | exact binW_add (by omega) (by omega) | rfl)) (fun hC => ⟨(by first | rfl | exact hC | (simp only [Bool.and_eq_true] at hC; first | exact hC.1 | exact hC.1.1 | exact hC.2) | simp_all), (by first | rfl | exact hC | (simp only [Bool.and_eq_true] at hC; first | exact hC.1 | exact hC.1.1 | exact hC.2) | simp_all), trivial⟩) trivial ?_
      refine ch_g (R := [(_, .live _ _)]) rfl rfl rfl gate_t (fun hC => by
            have hfit : fitsB s i ab k = true := by rw [← cut_fit (by omega) hk32]; exact hC
            have hf := fits_in hfit
            exact oc_index_own (t := 3) (cs := (lsW s ab i (lsA s ab (s.size - (i + 1))) k).map vi) (j := i + (ab.getD k ByteArray.empty).size) rfl rfl rfl (by kernel_rfl) (by omega) (by omega) (by omega)) (fun hC => ⟨(by first | rfl | exact hC | (simp only [Bool.and_eq_true] at hC; first | exact hC.1 | exact hC.1.1 | exact hC.2) | simp_all), (by first | rfl | exact hC | (simp only [Bool.and_eq_true] at hC; first | exact hC.1 | exact hC.1.1 | exact hC.2) | simp_all), trivial⟩) ⟨rfl, trivial⟩ ?_
      refine ch_g (R := [(_, .live _ _)]) rfl rfl rfl gate_t (fun hC => by
            have hfit : fitsB s i ab k = true := by rw [← cut_fit (by omega) hk32]; exact hC
            have hf := fits_in hfit
            have hat : (lsW s ab i (lsA s ab (s.size - (i + 1))) k).getD (i + (ab.getD k ByteArray.empty).size) 0 = (lsA s ab (s.size - (i + 1))).getD (i + (ab.getD k ByteArray.empty).size) 0 := by rw [lsW_at (by omega), if_neg (by omega)]
            exact oc_load_own (t := 3) (cs := (lsW s ab i (lsA s ab (s.size - (i + 1))) k).map vi) (y := vi ((lsA s ab (s.size - (i + 1))).getD (i + (ab.getD k ByteArray.empty).size) 0)) rfl rfl (by kernel_rfl) (by rw [← hat]; exact vi_at (by rw [lsW_len, lsA_len]; omega))) (fun hC => ⟨(by first | rfl | exact hC | (simp only [Bool.and_eq_true] at hC; first | exact hC.1 | exact hC.1.1 | exact hC.2) | simp_all), trivial⟩) ⟨rfl, trivial⟩ ?_
      refine ch_g (R := []) rfl rfl rfl gate_t (fun hC => by
            have hbj := hbd (i + (ab.getD k ByteArray.empty).size)
            exact oc_binZ rfl rfl rfl (by first | exact binW_add (by omega) (by omega) | rfl)) (fun hC => ⟨(by first | rfl | exact hC | (simp only [Bool.and_eq_true] at hC; first | exact hC.1 | exact hC.1.1 | exact hC.2) | simp_all), (by first | rfl | exact hC | (simp only [Bool.and_eq_true] at hC; first | exact hC.1 | exact hC.1.1 | exact hC.2) | simp_all), trivial⟩) trivial ?_
      refine ch_g (R := []) rfl rfl rfl gate_t (fun hC => oc_move (x := .osl _ _ _) rfl rfl) (fun hC => ⟨(by first | rfl | exact hC | (simp only [Bool.and_eq_true] at hC; first | exact hC.1 | exact hC.1.1 | exact hC.2) | simp_all), trivial⟩) trivial ?_
      refine ch_g (R := []) rfl rfl rfl gate_t (fun hC => oc_move (x := .val _) rfl rfl) (fun hC => ⟨(by first | rfl | exact hC | (simp only [Bool.and_eq_true] at hC; first | exact hC.1 | exact hC.1.1 | exact hC.2) | simp_all), trivial⟩) trivial ?_
      refine ch_g (R := [(_, .live _ _)]) rfl rfl rfl gate_t (fun hC => oc_index_ownN rfl rfl rfl (by kernel_rfl) (by omega)) (fun hC => ⟨(by first | rfl | exact hC | (simp only [Bool.and_eq_true] at hC; first | exact hC.1 | exact hC.1.1 | exact hC.2) | simp_all), (by first | rfl | exact hC | (simp only [Bool.and_eq_true] at hC; first | exact hC.1 | exact hC.1.1 | exact hC.2) | simp_all), trivial⟩) ⟨rfl, trivial⟩ ?_
      refine ch_g (R := [(_, .live _ _)]) rfl rfl rfl gate_t (fun hC => by
            have hat : (lsW s ab i (lsA s ab (s.size - (i + 1))) k).getD i 0 = lsK s ab i (lsA s ab (s.size - (i + 1))) k := by rw [lsW_at (by omega), if_pos rfl]
            exact oc_load_own (t := 3) (cs := (lsW s ab i (lsA s ab (s.size - (i + 1))) k).map vi) (y := vi (lsK s ab i (lsA s ab (s.size - (i + 1))) k)) rfl rfl (by kernel_rfl) (by rw [← hat]; exact vi_at (by rw [lsW_len, lsA_len]; omega))) (fun hC => ⟨(by first | rfl | exact hC | (simp only [Bool.and_eq_true] at hC; first | exact hC.1 | exact hC.1.1 | exact hC.2) | simp_all), trivial⟩) ⟨rfl, trivial⟩ ?_
      refine ch_g (R := []) rfl rfl rfl gate_t (fun hC => oc_binZ rfl rfl rfl rfl) (fun hC => ⟨(by first | rfl | exact hC | (simp only [Bool.and_eq_true] at hC; first | exact hC.1 | exact hC.1.1 | exact hC.2) | simp_all), (by first | rfl | exact hC | (simp only [Bool.and_eq_true] at hC; first | exact hC.1 | exact hC.1.1 | exact hC.2) | simp_all), trivial⟩) trivial ?_
      refine ch_v (R := []) rfl rfl (oc_and rfl rfl rfl rfl (by first | exact fun h => h | simp_all)) trivial ?_
      refine ck_nil ⟨by kernel_rfl, ?_⟩
      refine aw_cond rfl (fun hb => ?_) (fun hb => ?_)
      · rw [cut_fit (by omega) hk32] at hb
        have hq := hb
        simp only [Bool.and_eq_true, decide_eq_true_eq] at hq
        have hf := fits_in hq.1
        have hbj := hbd (i + (ab.getD k ByteArray.empty).size)
        have hat : (lsW s ab i (lsA s ab (s.size - (i + 1))) k).getD (i + (ab.getD k ByteArray.empty).size) 0 = (lsA s ab (s.size - (i + 1))).getD (i + (ab.getD k ByteArray.empty).size) 0 := by rw [lsW_at (by omega), if_neg (by omega)]
        have hsk : lsK s ab i (lsA s ab (s.size - (i + 1))) (k + 1) = 2 + (lsA s ab (s.size - (i + 1))).getD (i + (ab.getD k ByteArray.empty).size) 0 := by show (if _ then _ else _) = _; rw [if_pos ⟨hq.1, hq.2⟩]
        have hst : lsW s ab i (lsA s ab (s.size - (i + 1))) (k + 1) = (lsW s ab i (lsA s ab (s.size - (i + 1))) k).set i (2 + (lsA s ab (s.size - (i + 1))).getD (i + (ab.getD k ByteArray.empty).size) 0) := by rw [← hsk, lsW_put]
        have hsv : byW s ab i (lsA s ab (s.size - (i + 1))) (byA s ab (s.size - (i + 1))) (k + 1) = (byW s ab i (lsA s ab (s.size - (i + 1))) (byA s ab (s.size - (i + 1))) k).set i ((k : Int) + 1) := by
          rw [← byW_put]
          congr 1
          show ((if _ then k + 1 else _ : Nat) : Int) = _
          rw [if_pos ⟨hq.1, hq.2⟩]
          rfl
        refine aw_text rfl ?_
        refine ch_v (R := []) rfl rfl (oc_move (x := .osl _ _ _) rfl rfl) trivial ?_
        refine ch_v (R := []) rfl rfl (oc_move (x := .val _) rfl rfl) trivial ?_
        refine ch_v (R := []) rfl rfl (oc_move (x := .osl _ _ _) rfl rfl) trivial ?_
        refine ch_v (R := []) rfl rfl (oc_move (x := .val _) rfl rfl) trivial ?_
        refine ch_v (R := []) rfl rfl (oc_move (x := .osl _ _ _) rfl rfl) trivial ?_
        refine ch_v (R := []) rfl rfl (oc_move (x := .val _) rfl rfl) trivial ?_
        refine ch_v (R := []) rfl rfl (oc_move (x := .val _) rfl rfl) trivial ?_
        refine ch_v (R := []) rfl rfl (oc_len_str rfl rfl (by kernel_rfl)) trivial ?_
        refine ch_v (R := []) rfl rfl (oc_binZ rfl rfl rfl (by first | exact binW_add (by omega) (by omega) | rfl)) trivial ?_
        refine ch_v (R := [(_, .live _ _)]) rfl rfl (oc_index_own (j := i + (ab.getD k ByteArray.empty).size) rfl rfl rfl (by kernel_rfl) (by omega) (by omega) (by omega)) ⟨rfl, trivial⟩ ?_
        refine ch_v (R := [(_, .live _ _)]) rfl rfl (oc_load_own (t := 3) (cs := (lsW s ab i (lsA s ab (s.size - (i + 1))) k).map vi) (y := vi ((lsA s ab (s.size - (i + 1))).getD (i + (ab.getD k ByteArray.empty).size) 0)) rfl rfl (by kernel_rfl) (by rw [← hat]; exact vi_at (by rw [lsW_len, lsA_len]; omega))) ⟨rfl, trivial⟩ ?_
        refine ch_v (R := []) rfl rfl (oc_binZ rfl rfl rfl (by first | exact binW_add (by omega) (by omega) | rfl)) trivial ?_
        refine ch_v (R := []) rfl rfl (oc_move (x := .val _) rfl rfl) trivial ?_
        refine ch_v (R := []) rfl rfl (oc_binZ rfl rfl rfl (by first | exact binW_add (by omega) (by omega) | rfl)) trivial ?_
        refine ch_v (R := [(_, .live _ _)]) rfl rfl (oc_index_ownN rfl rfl rfl (by kernel_rfl) (by omega)) ⟨rfl, trivial⟩ ?_
        refine ch_n rfl rfl (oc_store (y := vi (2 + (lsA s ab (s.size - (i + 1))).getD (i + (ab.getD k ByteArray.empty).size) 0)) (cs' := ((lsW s ab i (lsA s ab (s.size - (i + 1))) k).set i (2 + (lsA s ab (s.size - (i + 1))).getD (i + (ab.getD k ByteArray.empty).size) 0)).map vi) rfl rfl rfl (by kernel_rfl) (by kernel_rfl) cells_int (by rw [List.length_map, lsW_len, hal]; omega) (vi_put _ _ _)) ⟨rfl, trivial⟩ ?_
        refine ch_v (R := [(_, .live _ _)]) rfl rfl (oc_index_ownN rfl rfl rfl (by kernel_rfl) (by omega)) ⟨rfl, trivial⟩ ?_
        refine ch_n rfl rfl (oc_store (y := vi ((k : Int) + 1)) (cs' := ((byW s ab i (lsA s ab (s.size - (i + 1))) (byA s ab (s.size - (i + 1))) k).set i ((k : Int) + 1)).map vi) rfl rfl rfl (by kernel_rfl) (by kernel_rfl) cells_int (by rw [List.length_map, byW_len, hbl2]; omega) (vi_put _ _ _)) ⟨rfl, trivial⟩ ?_
        refine ck_nil ?_
        refine aw_text rfl ?_
        refine ch_v (R := []) rfl rfl (oc_binZ rfl rfl rfl (by first | exact binW_add (by omega) (by omega) | rfl)) trivial ?_
        refine ch_v (R := []) rfl rfl (oc_move (x := .val _) rfl rfl) trivial ?_
        refine ck_nil ?_
        exact ⟨k + 1, by omega, by omega, Le.sub ⟨.inr rfl, .inr rfl, .inr rfl, .inr rfl, .inr rfl, .inr rfl, .inr rfl, .inr (vi_eq (by omega)), trivial⟩ ⟨by rw [← hst]; rfl, by rw [← hsv]; rfl, rfl, rfl, rfl, rfl, trivial⟩⟩
      · rw [cut_fit (by omega) hk32] at hb
        have hnb : ¬ (fitsB s i ab k = true ∧ 2 + (lsA s ab (s.size - (i + 1))).getD (i + (ab.getD k ByteArray.empty).size) 0 < lsK s ab i (lsA s ab (s.size - (i + 1))) k) := fun hc => by rw [Bool.and_eq_false_iff, decide_eq_false_iff_not] at hb; rcases hb with hb | hb; (rw [hc.1] at hb; cases hb); exact hb hc.2
        have hst : lsW s ab i (lsA s ab (s.size - (i + 1))) (k + 1) = lsW s ab i (lsA s ab (s.size - (i + 1))) k := by
          have hsk : lsK s ab i (lsA s ab (s.size - (i + 1))) (k + 1) = lsK s ab i (lsA s ab (s.size - (i + 1))) k := by
            show (if _ then _ else _) = _
            rw [if_neg hnb]
          unfold lsW
          rw [hsk]
        have hsv : byW s ab i (lsA s ab (s.size - (i + 1))) (byA s ab (s.size - (i + 1))) (k + 1) = (byW s ab i (lsA s ab (s.size - (i + 1))) (byA s ab (s.size - (i + 1))) k) := by
          have hsk : tkK s ab i (lsA s ab (s.size - (i + 1))) (k + 1) = tkK s ab i (lsA s ab (s.size - (i + 1))) k := by
            show (if _ then _ else _) = _
            rw [if_neg hnb]
          unfold byW
          rw [hsk]
        refine aw_skip ?_
        refine aw_text rfl ?_
        refine ch_v (R := []) rfl rfl (oc_binZ rfl rfl rfl (by first | exact binW_add (by omega) (by omega) | rfl)) trivial ?_
        refine ch_v (R := []) rfl rfl (oc_move (x := .val _) rfl rfl) trivial ?_
        refine ck_nil ?_
        exact ⟨k + 1, by omega, by omega, Le.sub ⟨.inr rfl, .inr rfl, .inr rfl, .inr rfl, .inr rfl, .inr rfl, .inr rfl, .inr (vi_eq (by omega)), trivial⟩ ⟨by rw [← hst]; rfl, by rw [← hsv]; rfl, rfl, rfl, rfl, rfl, trivial⟩⟩
    · have hke : k = m := by have h0 := of_decide_eq_false hb; omega
      have hfin1 : lsA s ab (s.size - i) = lsW s ab i (lsA s ab (s.size - (i + 1))) m := by rw [lsA_step (by omega)]; unfold lsW; rw [lsK_m hm]
      have hfin2 : byA s ab (s.size - i) = byW s ab i (lsA s ab (s.size - (i + 1))) (byA s ab (s.size - (i + 1))) m := by rw [byA_step (by omega)]; unfold byW; rw [tkK_m hm]
      refine aw_exit ?_
      refine aw_text rfl ?_
      refine ch_v (R := []) rfl rfl (oc_move (x := .val _) rfl rfl) trivial ?_
      refine ch_v (R := []) rfl rfl (oc_binZ rfl rfl rfl (by first | exact binW_sub (by omega) (by omega) | rfl)) trivial ?_
      refine ch_v (R := []) rfl rfl (oc_assign (x := .val _) rfl rfl) trivial ?_
      refine ck_nil ?_
      exact ⟨i, by omega, by omega, Le.sub ⟨.inr rfl, .inr rfl, .inr rfl, .inr rfl, .inr (vi_eq (by omega)), trivial⟩ ⟨by rw [hfin1, ← hke]; rfl, by rw [hfin2, ← hke]; rfl, rfl, rfl, rfl, rfl, trivial⟩⟩
  · have hd0 : d = 0 := by have h0 := of_decide_eq_false hb; omega
    subst hd0
    refine aw_exit ?_
    refine aw_seq ?_
    refine aw_le (Le.freeze 6 1 (fun j => vi (tkL s ab j : Int)) rfl rfl (by rw [List.length_map, byA_len]) (fun j hj => row_by s ab j hj)) ?_
    refine aw_text rfl ?_
    refine ch_u rfl rfl (oc_alloc (zs := [.slice none 0 0]) (cs := [.val _]) 2 rfl (by kernel_rfl) rfl rfl) ⟨rfl, trivial⟩ ?_
    refine ck_nil ?_
    refine aw_seq ?_
    refine aw_text rfl ?_
    refine ch_u rfl rfl (oc_alloc (zs := [.int .i64 0]) (cs := [.val _]) 3 rfl (by kernel_rfl) rfl rfl) ⟨rfl, trivial⟩ ?_
    refine ch_n rfl rfl (oc_store (y := .val _) (cs' := [_]) rfl rfl rfl (by kernel_rfl) (by kernel_rfl) (fun E v h => by unfold Rep at h; subst h; rfl) (by first | decide | (simp; done) | (simp; omega)) rfl) ⟨rfl, trivial⟩ ?_
    refine ck_nil ?_
    refine aw_seq ?_
    refine aw_text rfl ?_
    refine ch_v (R := []) rfl rfl (oc_makeFunc (cs := [.own _ _, .own _ _, .ptr _]) rfl rfl) trivial ?_
    refine ch_v (R := []) rfl rfl (oc_assign (x := .clo _ _) rfl rfl) trivial ?_
    refine ck_nil ?_
    refine aw_seq ?_
    refine aw_seq ?_
    refine aw_text rfl ?_
    refine ch_v (R := []) rfl rfl (oc_assign (x := .val _) rfl rfl) trivial ?_
    refine ck_nil ?_
    refine aw_block ?_
    refine aw_le (Le.nameNilCell 2 0 4 2 39 rfl rfl rfl (by decide)) ?_
    refine aw_loop (ι := CtSt) (fun q => ⟨[(1, .sl 1 m (fun j => vs (ab.getD j ByteArray.empty))), (2, .ptr (vs s)), (6, .sl 1 s.size (fun j => vi (tkL s ab j : Int))), (10, .own 2 0), (11, .own 3 0), (12, .clo 28 [.own 3 0, .own 2 0, .ptr (vs s)]), (13, vi q.1)], [(2, .live 28 [.osl 2 4 (q.2.2).length]), (3, .live 3 [vi (q.2.1 : Int)]), (4, .live 39 (pcs (q.2.2))), (5, .unborn)]⟩) (fun q => q.1 ≤ s.size ∧ q.2.1 ≤ q.1 ∧ q.2.2.length ≤ 2 * q.1 ∧ ∃ f, s.size < f + q.1 ∧ cutP s ab = cutF s ab f q.1 q.2.1 q.2.2) (fun q => s.size - q.1) (0, 0, []) (⟨Nat.zero_le _, Nat.le_refl _, Nat.zero_le _, s.size + 1, by omega, rfl⟩) (Le.sub ⟨.inr rfl, .inr rfl, .inr rfl, .inr rfl, .inr rfl, .inr rfl, .inr rfl, trivial⟩ ⟨rfl, rfl, rfl, rfl, trivial⟩) ?_
    intro q hI
    obtain ⟨hi1, hi2, hi3, f, hf, hcut⟩ := hI
    refine aw_seq ?_
    refine aw_seq ?_
    refine aw_text rfl ?_
    refine ch_v (R := []) rfl rfl (oc_move (x := .val _) rfl rfl) trivial ?_
    refine ch_v (R := []) rfl rfl (oc_load rfl rfl (by kernel_rfl) cells_str) trivial ?_
    refine ch_v (R := []) rfl rfl (oc_len_str rfl rfl (by kernel_rfl)) trivial ?_
    refine ch_v (R := []) rfl rfl (oc_binZ rfl rfl rfl rfl) trivial ?_
    refine ck_nil ?_
    refine aw_cond rfl (fun hb => ?_) (fun hb => ?_)
    · have hlt : q.1 < s.size := by have h0 := of_decide_eq_true hb; omega
      obtain ⟨f, rfl⟩ : ∃ g, f = g + 1 := ⟨f - 1, by omega⟩
      refine aw_skip ?_
      refine aw_block ?_
      refine aw_seq ?_
      refine aw_seq ?_
      refine aw_text rfl ?_
      refine ch_v (R := []) rfl rfl (oc_move (x := .sl _ _ _) rfl rfl) trivial ?_
      refine ch_v (R := []) rfl rfl (oc_move (x := .val _) rfl rfl) trivial ?_
      refine ch_v (R := []) rfl rfl (oc_indexN (j := q.1) rfl rfl rfl (by kernel_rfl) (by omega)) trivial ?_
      refine ch_v (R := []) rfl rfl (oc_load rfl rfl (by kernel_rfl) cells_int) trivial ?_
      refine ch_v (R := []) rfl rfl (oc_binZ rfl rfl rfl rfl) trivial ?_
      refine ck_nil ?_
      refine aw_cond rfl (fun hb => ?_) (fun hb => ?_)
      · have htk : tkL s ab q.1 = 0 := by (have h0 : (tkL s ab q.1 : Int) = 0 := by simpa using hb); omega
        refine aw_seq ?_
        refine aw_text rfl ?_
        refine ch_v (R := []) rfl rfl (oc_move (x := .val _) rfl rfl) trivial ?_
        refine ch_v (R := []) rfl rfl (oc_binZ rfl rfl rfl (by first | exact binW_add (by omega) (by omega) | rfl)) trivial ?_
        refine ch_v (R := []) rfl rfl (oc_assign (x := .val _) rfl rfl) trivial ?_
        refine ck_nil ?_
        refine aw_exit ?_
        exact ⟨(q.1 + 1, q.2.1, q.2.2), ⟨by show q.1 + 1 ≤ _; omega, by show q.2.1 ≤ q.1 + 1; omega, by show q.2.2.length ≤ 2 * (q.1 + 1); omega, f, by show _ < f + (q.1 + 1); omega, by rw [hcut]; show (if _ then _ else _) = _; rw [if_pos hlt, if_pos htk]⟩, by show s.size - (q.1 + 1) < _; omega, Le.sub ⟨.inr rfl, .inr rfl, .inr rfl, .inr rfl, .inr rfl, .inr rfl, .inr (vi_eq (by show (q.1 : Int) + 1 = ((q.1 + 1 : Nat) : Int); omega)), trivial⟩ ⟨rfl, rfl, rfl, rfl, trivial⟩⟩
      · have htk : ¬ tkL s ab q.1 = 0 := by (have h0 : ¬ (tkL s ab q.1 : Int) = 0 := by simpa using hb); omega
        obtain ⟨g1, g2, _⟩ := tk_first hlt htk
        have hft := fits_in g1
        have hfl := flush_len s q.2.1 q.1 q.2.2
        refine aw_skip ?_
        refine aw_seq ?_
        refine aw_text rfl ?_
        refine ch_v (R := []) rfl rfl (oc_move (x := .clo _ _) rfl rfl) trivial ?_
        refine ch_v (R := []) rfl rfl (oc_move (x := .val _) rfl rfl) trivial ?_
        refine ch_u rfl rfl (oc_callCloFC [5] rfl rfl (by kernel_rfl) (cut1_fcm s q.2.1 q.1 q.2.2 hs hi2 hi1 (by omega)) rfl (by simp) (by simp [bornH]) (by simp) (by simp) (by simp [InNL, InN]) ⟨by simp [InH, InNL, InN], by simp [InH, InNL, InN], inNL_pcs _, trivial⟩ (by simp [InN, InNL]) ⟨by simp [InH, InNL, InN], by simp [InH, InNL, InN], inNL_pcs _, trivial⟩) ⟨rfl, rfl, rfl, rfl, trivial⟩ ?_
        refine ck_nil ?_
        refine aw_le (Le.trans (Le.swap (τ := ⟨[(1, .sl 1 m (fun j => vs (ab.getD j ByteArray.empty))), (2, .ptr (vs s)), (6, .sl 1 s.size (fun j => vi (tkL s ab j : Int))), (10, .own 2 0), (11, .own 3 0), (12, .clo 28 [.own 3 0, .own 2 0, .ptr (vs s)]), (13, vi q.1)], [(2, .live 28 [.osl 2 4 ((flushP s q.2.1 q.1 q.2.2)).length]), (3, .live 3 [vi (q.2.1 : Int)]), (4, .live 39 (pcs ((flushP s q.2.1 q.1 q.2.2)))), (5, .dead)]⟩) 4 5 (by simp) (by simp) ⟨(ren_pure _ _ (pure_row ab m)).symm, rfl, (ren_pure _ _ (pure_tk s ab)).symm, rfl, rfl, rfl, rfl, trivial⟩ ⟨rfl, rfl, by show lkH _ 5 = some (Hs.live _ ((pcs ((flushP s q.2.1 q.1 q.2.2))).map _)); rw [ren_pcs]; rfl, rfl, trivial⟩) (Le.reset (τ := ⟨[(1, .sl 1 m (fun j => vs (ab.getD j ByteArray.empty))), (2, .ptr (vs s)), (6, .sl 1 s.size (fun j => vi (tkL s ab j : Int))), (10, .own 2 0), (11, .own 3 0), (12, .clo 28 [.own 3 0, .own 2 0, .ptr (vs s)]), (13, vi q.1)], [(2, .live 28 [.osl 2 4 ((flushP s q.2.1 q.1 q.2.2)).length]), (3, .live 3 [vi (q.2.1 : Int)]), (4, .live 39 (pcs ((flushP s q.2.1 q.1 q.2.2)))), (5, .unborn)]⟩) [5] (by simp) ⟨.inr rfl, .inr rfl, .inr rfl, .inr rfl, .inr rfl, .inr rfl, .inr rfl, trivial⟩ ⟨NoN.of_pure _ (pure_row ab m), by simp [NoN], NoN.of_pure _ (pure_tk s ab), by simp [NoN], by simp [NoN], by simp [NoN, NoNL], by simp [NoN], trivial⟩ ⟨by rw [if_neg (by decide)]; exact ⟨rfl, by simp [NoN]⟩, by rw [if_neg (by decide)]; exact ⟨rfl, by simp [NoN]⟩, by rw [if_neg (by decide)]; exact ⟨rfl, non_pcs _⟩, by rw [if_pos (by decide)], trivial⟩)) ?_
        refine aw_seq ?_
        refine aw_draw mixed ?_
        refine ch_v (R := [(_, .live _ _)]) rfl rfl (oc_load_own rfl rfl (by kernel_rfl) rfl) ⟨rfl, trivial⟩ ?_
        refine ch_v (R := []) rfl rfl (oc_move (x := .sl _ _ _) rfl rfl) trivial ?_
        refine ch_v (R := []) rfl rfl (oc_move (x := .val _) rfl rfl) trivial ?_
        refine ch_v (R := []) rfl rfl (oc_indexN (j := q.1) rfl rfl rfl (by kernel_rfl) (by omega)) trivial ?_
        refine ch_v (R := []) rfl rfl (oc_load rfl rfl (by kernel_rfl) cells_int) trivial ?_
        refine ch_v (R := []) rfl rfl (oc_build (pl := [(0, 1), (1, 1)]) (zs := [.string ⟨#[]⟩, .int .i64 0]) (ds := [.val _, .val _]) rfl (by kernel_rfl) rfl (by kernel_rfl) (by first | rfl | decide) rfl) trivial ?_
        refine ch_v (R := []) rfl rfl (oc_buildSlice (ps := [.tmp 116]) (xs := [.agg _]) (e := 39) (k := 2) (by_ := 24) (zs := [.string ⟨#[]⟩, .int .i64 0]) rfl (by kernel_rfl) (by kernel_rfl) rfl rfl rfl (by decide) (by decide)) trivial ?_
        refine ch_u rfl rfl (oc_append (e := 39) (k := 2) (by_ := 24) (zs := [.string ⟨#[]⟩, .int .i64 0]) (cs := pcs (flushP s q.2.1 q.1 q.2.2)) (ds := [vs ((⟨#[]⟩ : ByteArray), (tkL s ab q.1 : Int)).1, vi ((⟨#[]⟩ : ByteArray), (tkL s ab q.1 : Int)).2]) 5 rfl rfl rfl (by kernel_rfl) (by kernel_rfl) rfl (by decide) (by decide) (pcs_len _) rfl (app_piece ((⟨#[]⟩ : ByteArray), (tkL s ab q.1 : Int))) (by omega) (by omega)) ⟨rfl, rfl, trivial⟩ ?_
        refine ch_n rfl rfl (oc_store (y := .osl _ _ _) (cs' := [_]) rfl rfl rfl (by kernel_rfl) (by kernel_rfl) cells_osl (by first | decide | (simp; done) | (simp; omega)) rfl) ⟨rfl, trivial⟩ ?_
        refine ck_nil ⟨by kernel_rfl, ?_⟩
        refine aw_le (Le.trans (Le.swap (τ := ⟨[(1, .sl 1 m (fun j => vs (ab.getD j ByteArray.empty))), (2, .ptr (vs s)), (6, .sl 1 s.size (fun j => vi (tkL s ab j : Int))), (10, .own 2 0), (11, .own 3 0), (12, .clo 28 [.own 3 0, .own 2 0, .ptr (vs s)]), (13, vi q.1)], [(2, .live 28 [.osl 2 4 ((flushP s q.2.1 q.1 q.2.2) ++ [((⟨#[]⟩ : ByteArray), (tkL s ab q.1 : Int))]).length]), (3, .live 3 [vi (q.2.1 : Int)]), (4, .live 39 (pcs ((flushP s q.2.1 q.1 q.2.2) ++ [((⟨#[]⟩ : ByteArray), (tkL s ab q.1 : Int))]))), (5, .dead)]⟩) 4 5 (by simp) (by simp) ⟨(ren_pure _ _ (pure_row ab m)).symm, rfl, (ren_pure _ _ (pure_tk s ab)).symm, rfl, rfl, rfl, rfl, trivial⟩ ⟨by rw [List.length_append]; rfl, rfl, by show lkH _ 5 = some (Hs.live _ ((pcs ((flushP s q.2.1 q.1 q.2.2) ++ [((⟨#[]⟩ : ByteArray), (tkL s ab q.1 : Int))])).map _)); rw [ren_pcs, pcs_app]; rfl, rfl, trivial⟩) (Le.reset (τ := ⟨[(1, .sl 1 m (fun j => vs (ab.getD j ByteArray.empty))), (2, .ptr (vs s)), (6, .sl 1 s.size (fun j => vi (tkL s ab j : Int))), (10, .own 2 0), (11, .own 3 0), (12, .clo 28 [.own 3 0, .own 2 0, .ptr (vs s)]), (13, vi q.1)], [(2, .live 28 [.osl 2 4 ((flushP s q.2.1 q.1 q.2.2) ++ [((⟨#[]⟩ : ByteArray), (tkL s ab q.1 : Int))]).length]), (3, .live 3 [vi (q.2.1 : Int)]), (4, .live 39 (pcs ((flushP s q.2.1 q.1 q.2.2) ++ [((⟨#[]⟩ : ByteArray), (tkL s ab q.1 : Int))]))), (5, .unborn)]⟩) [5] (by simp) ⟨.inr rfl, .inr rfl, .inr rfl, .inr rfl, .inr rfl, .inr rfl, .inr rfl, trivial⟩ ⟨NoN.of_pure _ (pure_row ab m), by simp [NoN], NoN.of_pure _ (pure_tk s ab), by simp [NoN], by simp [NoN], by simp [NoN, NoNL], by simp [NoN], trivial⟩ ⟨by rw [if_neg (by decide)]; exact ⟨rfl, by simp [NoN]⟩, by rw [if_neg (by decide)]; exact ⟨rfl, by simp [NoN]⟩, by rw [if_neg (by decide)]; exact ⟨rfl, non_pcs _⟩, by rw [if_pos (by decide)], trivial⟩)) ?_
        refine aw_seq ?_
        refine aw_text rfl ?_
        refine ch_v (R := []) rfl rfl (oc_move (x := .val _) rfl rfl) trivial ?_
        refine ch_v (R := []) rfl rfl (oc_move (x := .sl _ _ _) rfl rfl) trivial ?_
        refine ch_v (R := []) rfl rfl (oc_move (x := .sl _ _ _) rfl rfl) trivial ?_
        refine ch_v (R := []) rfl rfl (oc_move (x := .val _) rfl rfl) trivial ?_
        refine ch_v (R := []) rfl rfl (oc_indexN (j := q.1) rfl rfl rfl (by kernel_rfl) (by omega)) trivial ?_
        refine ch_v (R := []) rfl rfl (oc_load rfl rfl (by kernel_rfl) cells_int) trivial ?_
        refine ch_v (R := []) rfl rfl (oc_binZ rfl rfl rfl (by first | exact binW_sub (by omega) (by omega) | rfl)) trivial ?_
        refine ch_v (R := []) rfl rfl (oc_index (j := tkL s ab q.1 - 1) rfl rfl rfl (by kernel_rfl) (by omega) (by omega) (by omega)) trivial ?_
        refine ch_v (R := []) rfl rfl (oc_load rfl rfl (by kernel_rfl) cells_str) trivial ?_
        refine ch_v (R := []) rfl rfl (oc_len_str rfl rfl (by kernel_rfl)) trivial ?_
        refine ch_v (R := []) rfl rfl (oc_binZ rfl rfl rfl (by first | exact binW_add (by omega) (by omega) | rfl)) trivial ?_
        refine ch_v (R := []) rfl rfl (oc_assign (x := .val _) rfl rfl) trivial ?_
        refine ck_nil ?_
        refine aw_text rfl ?_
        refine ch_v (R := []) rfl rfl (oc_move (x := .val _) rfl rfl) trivial ?_
        refine ch_n rfl rfl (oc_store (y := .val _) (cs' := [_]) rfl rfl rfl (by kernel_rfl) (by kernel_rfl) (by first | exact cells_int | exact cells_any) (by first | decide | (simp; done) | (simp; omega)) rfl) ⟨rfl, trivial⟩ ?_
        refine ck_nil ?_
        exact ⟨(q.1 + (ab.getD (tkL s ab q.1 - 1) ByteArray.empty).size, q.1 + (ab.getD (tkL s ab q.1 - 1) ByteArray.empty).size, (flushP s q.2.1 q.1 q.2.2) ++ [((⟨#[]⟩ : ByteArray), (tkL s ab q.1 : Int))]), ⟨by show q.1 + (ab.getD (tkL s ab q.1 - 1) ByteArray.empty).size ≤ _; omega, Nat.le_refl _, by show ((flushP s q.2.1 q.1 q.2.2) ++ [_]).length ≤ 2 * (q.1 + (ab.getD (tkL s ab q.1 - 1) ByteArray.empty).size); rw [List.length_append]; show (flushP s q.2.1 q.1 q.2.2).length + 1 ≤ _; omega, f, by show _ < f + (q.1 + (ab.getD (tkL s ab q.1 - 1) ByteArray.empty).size); omega, by rw [hcut]; show (if _ then _ else _) = _; rw [if_pos hlt, if_neg htk, empE]⟩, by show s.size - (q.1 + (ab.getD (tkL s ab q.1 - 1) ByteArray.empty).size) < _; omega, Le.sub ⟨.inr rfl, .inr rfl, .inr rfl, .inr rfl, .inr rfl, .inr rfl, .inr (vi_eq (by show (q.1 : Int) + ((ab.getD (tkL s ab q.1 - 1) ByteArray.empty).size : Int) = ((q.1 + (ab.getD (tkL s ab q.1 - 1) ByteArray.empty).size : Nat) : Int); omega)), trivial⟩ ⟨rfl, by show _ = some (Hs.live _ [vi ((q.1 + (ab.getD (tkL s ab q.1 - 1) ByteArray.empty).size : Nat) : Int)]); rw [Int.natCast_add]; rfl, rfl, rfl, trivial⟩⟩
    · have hge : q.1 = s.size := by have h0 := of_decide_eq_false hb; omega
      have hfin : cutP s ab = flushP s q.2.1 s.size q.2.2 := by rw [hcut, cutF_over (by omega)]
      refine aw_exit ?_
      refine aw_seq ?_
      refine aw_text rfl ?_
      refine ch_v (R := []) rfl rfl (oc_move (x := .clo _ _) rfl rfl) trivial ?_
      refine ch_v (R := []) rfl rfl (oc_load rfl rfl (by kernel_rfl) cells_str) trivial ?_
      refine ch_v (R := []) rfl rfl (oc_len_str rfl rfl (by kernel_rfl)) trivial ?_
      refine ch_u rfl rfl (oc_callCloFC [5] rfl rfl (by kernel_rfl) (cut1_fcm s q.2.1 s.size q.2.2 hs (by omega) (Nat.le_refl _) (by omega)) rfl (by simp) (by simp [bornH]) (by simp) (by simp) (by simp [InNL, InN]) ⟨by simp [InH, InNL, InN], by simp [InH, InNL, InN], inNL_pcs _, trivial⟩ (by simp [InN, InNL]) ⟨by simp [InH, InNL, InN], by simp [InH, InNL, InN], inNL_pcs _, trivial⟩) ⟨rfl, rfl, rfl, rfl, trivial⟩ ?_
      refine ck_nil ?_
      refine aw_seq ?_
      refine aw_text rfl ?_
      refine ch_v (R := [(_, .live _ _)]) rfl rfl (oc_load_own rfl rfl (by kernel_rfl) rfl) ⟨rfl, trivial⟩ ?_
      refine ch_v (R := []) rfl rfl (oc_assign (x := .osl _ _ _) rfl rfl) trivial ?_
      refine ck_nil ?_
      refine aw_le (Le.freezeP 4 5 (flushP s q.2.1 s.size q.2.2) rfl rfl) ?_
      refine aw_ret ?_
      exact ⟨.inl rfl, ResOk.tmp rfl (by rw [hfin]; rfl), trivial⟩
end Go.Proofs.YtfbpbpapfkimfaaDoor
