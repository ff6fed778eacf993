/- Chapter 7: the document's Cut, walked. -/
import Derived.Test.YtfbpbpapfkimfaaDoorBy
import Derived.Test.YtfbpbpapfkimfaaDoorProg
import Derived.KernelRfl
namespace Go.Proofs.YtfbpbpapfkimfaaDoor
open Go.RowKit
set_option maxRecDepth 100000
set_option linter.unusedVariables false
set_option linter.unusedSimpArgs false
theorem empE : ByteArray.empty = (⟨#[]⟩ : ByteArray) := rfl
theorem lsL_len (s : ByteArray) (ab : List ByteArray) : (lsL s ab).length = s.size + 1 := lsA_len s ab s.size
theorem lsL_bd (s : ByteArray) (ab : List ByteArray) (j : Nat) : 0 ≤ (lsL s ab).getD j 0 ∧ (lsL s ab).getD j 0 ≤ 3 * (s.size : Int) := lsA_bd s ab s.size (Nat.le_refl _) j
/-- A piece for text at the end. -/
def baseC (out : List PieceP) : List PieceP := if ((out.length : Int) == 0 || decide ((out.getD (out.length - 1) dPiece).2 > 0)) = true then out ++ [dPiece] else out
theorem baseC_pos (out : List PieceP) : 0 < (baseC out).length := by
  unfold baseC
  split
  · simp
  · rename_i h
    rcases Nat.eq_zero_or_pos out.length with e | e
    · exact absurd (by simp [e]) h
    · exact e
theorem baseC_len (out : List PieceP) : (baseC out).length ≤ out.length + 1 := by
  unfold baseC
  split
  · simp
  · omega
theorem getD_last (l : List PieceP) (p : PieceP) : (l ++ [p]).getD ((l ++ [p]).length - 1) dPiece = p := by simp [List.getD]
theorem set_last (l : List PieceP) (p x : PieceP) : (l ++ [p]).set ((l ++ [p]).length - 1) x = l ++ [x] := by
  rw [List.length_append]
  simp
theorem addC_base (out : List PieceP) (c : ByteArray) : addC out c = (baseC out).set ((baseC out).length - 1) (((baseC out).getD ((baseC out).length - 1) dPiece).1 ++ c, ((baseC out).getD ((baseC out).length - 1) dPiece).2) := by
  rcases List.eq_nil_or_concat out with rfl | ⟨l, p, rfl⟩
  · rfl
  · simp only [List.concat_eq_append]
    have e1 : (l ++ [p]).getLast? = some p := by simp
    have e2 := getD_last l p
    unfold addC
    rw [e1]
    by_cases hp : p.2 > 0
    · have eb : baseC (l ++ [p]) = (l ++ [p]) ++ [dPiece] := by unfold baseC; rw [e2, if_pos (by simp [hp])]
      rw [eb, getD_last, set_last]
      simp only []
      rw [if_pos hp]
      rfl
    · have eb : baseC (l ++ [p]) = l ++ [p] := by unfold baseC; rw [e2, if_neg (by simp [hp]; omega)]
      rw [eb, getD_last, set_last]
      simp only []
      rw [if_neg hp, List.dropLast_concat]
theorem addC_len (out : List PieceP) (c : ByteArray) : (addC out c).length = (baseC out).length := by rw [addC_base, List.length_set]
def SzP (n : Nat) (l : List PieceP) : Prop := ∀ k, (l.getD k dPiece).1.size ≤ n
theorem SzP.more {n m : Nat} {l : List PieceP} (h : SzP n l) (hm : n ≤ m) : SzP m l := fun k => Nat.le_trans (h k) hm
theorem SzP.nil (n : Nat) : SzP n [] := fun k => Nat.zero_le _
theorem SzP.app {n : Nat} {l : List PieceP} {p : PieceP} (h : SzP n l) (hp : p.1.size ≤ n) : SzP n (l ++ [p]) := fun k => by
  rw [List.getD, List.getElem?_append]
  split
  · have := h k
    rwa [List.getD] at this
  · rcases Nat.eq_zero_or_pos (k - l.length) with e | e
    · rw [e]; exact hp
    · rw [List.getElem?_eq_none (by simp; omega)]; exact Nat.zero_le _
theorem SzP.set {n k : Nat} {l : List PieceP} {p : PieceP} (h : SzP n l) (hp : p.1.size ≤ n) : SzP n (l.set k p) := fun j => by
  rw [List.getD, List.getElem?_set]
  by_cases e : k = j
  · rw [if_pos e]
    split
    · exact hp
    · exact Nat.zero_le _
  · rw [if_neg e]
    have := h j
    rwa [List.getD] at this
theorem SzP.base {n : Nat} {l : List PieceP} (h : SzP n l) : SzP n (baseC l) := by
  unfold baseC
  split
  · exact h.app (Nat.zero_le _)
  · exact h
theorem SzP.add {n : Nat} {l : List PieceP} {c : ByteArray} (h : SzP n l) (hc : c.size = 1) : SzP (n + 1) (addC l c) := by
  rw [addC_base]
  refine (h.base.more (Nat.le_succ n)).set ?_
  have := h.base ((baseC l).length - 1)
  show (_ ++ c).size ≤ _
  rw [ByteArray.size_append]
  omega
theorem rcutF_over {s : ByteArray} {ab : List ByteArray} {f i : Nat} {out : List PieceP} (h : ¬ i < s.size) : rcutF s ab f i out = out := by
  cases f with
  | zero => rfl
  | succ f => unfold rcutF; rw [if_neg h]
abbrev RcSt := Nat × List PieceP
set_option maxHeartbeats 800000 in
theorem rcut_pc (s : ByteArray) (ab : List ByteArray) (hs : s.size ≤ 1000000) (hb2 : ∀ k, (ab.getD k ByteArray.empty).size ≤ 1000000) (hbl : ab.length ≤ 1000000) : PC Tryd.prog 16 [vs s, slS ab] (piecesAv (rcutP s ab)) := by
  refine FC.body 2 107 Tryd.func16 rfl (by kernel_rfl) ?_
  refine aw_seq ?_
  refine aw_text rfl ?_
  refine ch_v (R := []) rfl rfl (oc_assign (x := .val _) rfl rfl) trivial ?_
  refine ck_nil ?_
  refine aw_seq ?_
  refine aw_text rfl ?_
  refine ch_v (R := []) rfl rfl (oc_move (x := .val _) rfl rfl) trivial ?_
  refine ch_v (R := []) rfl rfl (oc_move (x := .sl _ _ _) rfl rfl) trivial ?_
  refine ch_v (R := []) rfl rfl (oc_call rfl (by kernel_rfl) ((show PC _ _ [vs s, slS ab] (slI (lsL s ab)) from least_pc s ab hs hb2 hbl)) rfl (by simp only [PureL, Pure, and_self, pure_slI, pure_slS, rowAv, pieces_pure, implies_true]) (by simp only [PureL, Pure, and_self, pure_slI, pure_slS, rowAv, pieces_pure, implies_true])) trivial ?_
  refine ch_v (R := []) rfl rfl (oc_assign (x := .sl _ _ _) rfl rfl) trivial ?_
  refine ck_nil ?_
  refine aw_seq ?_
  refine aw_text rfl ?_
  refine ch_v (R := []) rfl rfl (oc_assign (x := .val _) rfl rfl) trivial ?_
  refine ck_nil ?_
  refine aw_seq ?_
  refine aw_seq ?_
  refine aw_text rfl ?_
  refine ch_v (R := []) rfl rfl (oc_assign (x := .val _) rfl rfl) trivial ?_
  refine ck_nil ?_
  refine aw_block ?_
  have hll := lsL_len s ab
  refine aw_le (Le.nameNil 6 0 2 39 rfl rfl) ?_
  refine aw_loop (ι := RcSt) (fun q => ⟨[(0, vs s), (1, slS ab), (5, slI (lsL s ab)), (6, .osl 2 0 q.2.length), (7, vi q.1)], [(0, .live 39 (pcs q.2)), (1, .unborn)]⟩) (fun q => q.1 ≤ s.size ∧ q.2.length ≤ q.1 ∧ SzP q.1 q.2 ∧ ∃ f, s.size < f + q.1 ∧ rcutP s ab = rcutF s ab f q.1 q.2) (fun q => s.size - q.1) (0, []) (⟨Nat.zero_le _, Nat.le_refl _, SzP.nil _, s.size + 1, by omega, rfl⟩) (Le.sub (by repeat (first | trivial | refine ⟨.inr rfl, ?_⟩ | refine ⟨.inr (vi_eq (by omega)), ?_⟩)) (by repeat (first | trivial | refine ⟨rfl, ?_⟩))) ?_
  intro q hI
  obtain ⟨hi1, hi2, hi3, f, hf, hcut⟩ := hI
  refine aw_seq ?_
  refine aw_seq ?_
  refine aw_text rfl ?_
  refine ch_v (R := []) rfl rfl (oc_move (x := .val _) rfl rfl) trivial ?_
  refine ch_v (R := []) rfl rfl (oc_move (x := .val _) rfl rfl) trivial ?_
  refine ch_v (R := []) rfl rfl (oc_len_str rfl rfl (by kernel_rfl)) trivial ?_
  refine ch_v (R := []) rfl rfl (oc_binZ rfl rfl rfl rfl) trivial ?_
  refine ck_nil ?_
  refine aw_cond rfl (fun hb => ?_) (fun hb => ?_)
  · have hlt : q.1 < s.size := by have h0 := of_decide_eq_true hb; omega
    have h1 := one_cost hlt
    have hbd := lsL_bd s ab
    have hb1 := hbd (q.1 + 1)
    have hb0 := hbd q.1
    obtain ⟨f, rfl⟩ : ∃ g, f = g + 1 := ⟨f - 1, by omega⟩
    refine aw_skip ?_
    refine aw_block ?_
    refine aw_seq ?_
    refine aw_seq ?_
    refine aw_draw mixed ?_
    refine ch_v (R := []) rfl rfl (oc_move (x := .val _) rfl rfl) trivial ?_
    refine ch_v (R := []) rfl rfl (oc_move (x := .val _) rfl rfl) trivial ?_
    refine ch_v (R := []) rfl rfl (oc_move (x := .val _) rfl rfl) trivial ?_
    refine ch_v (R := []) rfl rfl (oc_binZ rfl rfl rfl (by first | exact binW_add (by omega) (by omega) | rfl)) trivial ?_
    refine ch_v (R := []) rfl rfl (OC.cast (oc_substr rfl rfl rfl rfl (by kernel_rfl) (by omega) (by omega) (by omega)) (show Av.val (.string (s.extract (q.1 : Int).toNat ((q.1 : Int) + 1).toNat)) = vs (s.extract q.1 (q.1 + 1)) from by have := ex_nat s q.1 1; rw [← this]; rfl)) trivial ?_
    refine ch_v (R := []) rfl rfl (oc_call rfl (by kernel_rfl) (rcost_pc _ (by rw [h1.1]; omega)) rfl (by simp only [PureL, Pure, and_self, pure_slI, pure_slS, rowAv, pieces_pure, implies_true]) (by simp only [PureL, Pure, and_self, pure_slI, pure_slS, rowAv, pieces_pure, implies_true])) trivial ?_
    refine ch_v (R := []) rfl rfl (oc_move (x := .sl _ _ _) rfl rfl) trivial ?_
    refine ch_v (R := []) rfl rfl (oc_move (x := .val _) rfl rfl) trivial ?_
    refine ch_v (R := []) rfl rfl (oc_binZ rfl rfl rfl (by first | exact binW_add (by omega) (by omega) | rfl)) trivial ?_
    refine ch_v (R := []) rfl rfl (oc_index (j := q.1 + 1) rfl rfl rfl (by kernel_rfl) (by omega) (by omega) (by omega)) trivial ?_
    refine ch_v (R := []) rfl rfl (oc_load rfl rfl (by kernel_rfl) cells_int) trivial ?_
    refine ch_v (R := []) rfl rfl (oc_binZ rfl rfl rfl (by first | exact binW_add (by omega) (by omega) | rfl)) trivial ?_
    refine ch_v (R := []) rfl rfl (oc_move (x := .sl _ _ _) rfl rfl) trivial ?_
    refine ch_v (R := []) rfl rfl (oc_move (x := .val _) rfl rfl) trivial ?_
    refine ch_v (R := []) rfl rfl (oc_indexN (j := q.1) rfl rfl rfl (by kernel_rfl) (by omega)) trivial ?_
    refine ch_v (R := []) rfl rfl (oc_load rfl rfl (by kernel_rfl) cells_int) trivial ?_
    refine ch_v (R := []) rfl rfl (oc_binZ rfl rfl rfl rfl) trivial ?_
    refine ck_nil ⟨by kernel_rfl, ?_⟩
    refine aw_cond rfl (fun hb => ?_) (fun hb => ?_)
    · have hz : costS (s.extract q.1 (q.1 + 1)) + (lsL s ab).getD (q.1 + 1) 0 = (lsL s ab).getD q.1 0 := by simpa using hb
      refine aw_seq ?_
      refine aw_seq ?_
      refine aw_text rfl ?_
      refine ch_v (R := []) rfl rfl (oc_move (x := .osl _ _ _) rfl rfl) trivial ?_
      refine ch_v (R := [(_, .live _ _)]) rfl rfl (oc_len_own (t := 39) (cs := pcs q.2) rfl rfl (by kernel_rfl)) ⟨rfl, trivial⟩ ?_
      refine ch_v (R := []) rfl rfl (oc_binZ rfl rfl rfl rfl) trivial ?_
      refine ch_v (R := []) rfl rfl (oc_move (x := .val _) rfl rfl) trivial ?_
      refine ch_g (R := []) rfl rfl rfl gate_f (fun hC => oc_move (x := .osl _ _ _) rfl rfl) (fun hC => ⟨(by first | rfl | exact hC | (simp only [Bool.and_eq_true] at hC; first | exact hC.1 | exact hC.1.1 | exact hC.2) | simp_all), trivial⟩) trivial ?_
      refine ch_g (R := []) rfl rfl rfl gate_f (fun hC => oc_move (x := .osl _ _ _) rfl rfl) (fun hC => ⟨(by first | rfl | exact hC | (simp only [Bool.and_eq_true] at hC; first | exact hC.1 | exact hC.1.1 | exact hC.2) | simp_all), trivial⟩) trivial ?_
      refine ch_g (R := [(_, .live _ _)]) rfl rfl rfl gate_f (fun hC => oc_len_own (t := 39) (cs := pcs q.2) rfl rfl (by kernel_rfl)) (fun hC => ⟨(by first | rfl | exact hC | (simp only [Bool.and_eq_true] at hC; first | exact hC.1 | exact hC.1.1 | exact hC.2) | simp_all), trivial⟩) ⟨rfl, trivial⟩ ?_
      refine ch_g (R := []) rfl rfl rfl gate_f (fun hC => oc_binZ rfl rfl rfl (by first | exact binW_sub (by omega) (by omega) | rfl)) (fun hC => ⟨(by first | rfl | exact hC | (simp only [Bool.and_eq_true] at hC; first | exact hC.1 | exact hC.1.1 | exact hC.2) | simp_all), (by first | rfl | exact hC | (simp only [Bool.and_eq_true] at hC; first | exact hC.1 | exact hC.1.1 | exact hC.2) | simp_all), trivial⟩) trivial ?_
      refine ch_g (R := [(_, .live _ _)]) rfl rfl rfl gate_f (fun hC => by
            have hne : q.2.length ≠ 0 := fun h => by rw [h] at hC; exact absurd hC (by decide)
            exact oc_index_own (k := 2) (t := 39) (cs := pcs q.2) (j := (q.2.length - 1) * 2) rfl rfl rfl (by kernel_rfl) (by omega) (by omega) (by omega)) (fun hC => ⟨(by first | rfl | exact hC | (simp only [Bool.and_eq_true] at hC; first | exact hC.1 | exact hC.1.1 | exact hC.2) | simp_all), (by first | rfl | exact hC | (simp only [Bool.and_eq_true] at hC; first | exact hC.1 | exact hC.1.1 | exact hC.2) | simp_all), trivial⟩) ⟨rfl, trivial⟩ ?_
      refine ch_g (R := [(_, .live _ _)]) rfl rfl rfl gate_f (fun hC => by
            have hne : q.2.length ≠ 0 := fun h => by rw [h] at hC; exact absurd hC (by decide)
            exact oc_fieldAddr_own (off := 1) (sz := 1) (r := false) (t := 39) (cs := pcs q.2) rfl rfl (by rw [pcs_len]; omega) (by kernel_rfl) (by decide)) (fun hC => ⟨(by first | rfl | exact hC | (simp only [Bool.and_eq_true] at hC; first | exact hC.1 | exact hC.1.1 | exact hC.2) | simp_all), trivial⟩) ⟨rfl, trivial⟩ ?_
      refine ch_g (R := [(_, .live _ _)]) rfl rfl rfl gate_f (fun hC => by
            have hne : q.2.length ≠ 0 := fun h => by rw [h] at hC; exact absurd hC (by decide)
            exact oc_load_own (t := 39) (cs := pcs q.2) (y := vi (q.2.getD (q.2.length - 1) dPiece).2) rfl rfl (by kernel_rfl) (pcs_abbr (by omega))) (fun hC => ⟨(by first | rfl | exact hC | (simp only [Bool.and_eq_true] at hC; first | exact hC.1 | exact hC.1.1 | exact hC.2) | simp_all), trivial⟩) ⟨rfl, trivial⟩ ?_
      refine ch_g (R := []) rfl rfl rfl gate_f (fun hC => oc_binZ rfl rfl rfl rfl) (fun hC => ⟨(by first | rfl | exact hC | (simp only [Bool.and_eq_true] at hC; first | exact hC.1 | exact hC.1.1 | exact hC.2) | simp_all), (by first | rfl | exact hC | (simp only [Bool.and_eq_true] at hC; first | exact hC.1 | exact hC.1.1 | exact hC.2) | simp_all), trivial⟩) trivial ?_
      refine ch_v (R := []) rfl rfl (oc_or rfl rfl rfl (by first | exact fun h => h | simp_all)) trivial ?_
      refine ck_nil ?_
      refine aw_joinQ (τ := ⟨[(0, vs s), (1, slS ab), (5, slI (lsL s ab)), (6, .osl 2 0 (baseC q.2).length), (7, vi q.1)], [(0, .live 39 (pcs (baseC q.2))), (1, .unborn)]⟩) ?_ ?_
      · refine aw_cond rfl (fun hb => ?_) (fun hb => ?_)
        · have ho : (baseC q.2) = q.2 ++ [dPiece] := if_pos hb
          refine aw_text rfl ?_
          refine ch_v (R := []) rfl rfl (oc_move (x := .osl _ _ _) rfl rfl) trivial ?_
          refine ch_v (R := []) rfl rfl (oc_build (pl := [(0, 1), (1, 1)]) (zs := [.string ⟨#[]⟩, .int .i64 0]) (ds := [.val _, .val _]) rfl (by kernel_rfl) rfl (by kernel_rfl) (by first | rfl | decide) rfl) trivial ?_
          refine ch_v (R := []) rfl rfl (oc_buildSlice (ps := [.tmp 47]) (xs := [.agg _]) (e := 39) (k := 2) (by_ := 24) (zs := [.string ⟨#[]⟩, .int .i64 0]) rfl (by kernel_rfl) (by kernel_rfl) rfl rfl rfl (by decide) (by decide)) trivial ?_
          refine ch_u rfl rfl (oc_append (e := 39) (k := 2) (by_ := 24) (zs := [.string ⟨#[]⟩, .int .i64 0]) (cs := pcs q.2) (ds := [vs dPiece.1, vi dPiece.2]) 1 rfl rfl rfl (by kernel_rfl) (by kernel_rfl) rfl (by decide) (by decide) (pcs_len _) rfl (app_piece dPiece) (by omega) (by omega)) ⟨rfl, rfl, trivial⟩ ?_
          refine ch_v (R := []) rfl rfl (oc_assign (x := .osl _ _ _) rfl rfl) trivial ?_
          refine ck_nil ?_
          refine Le.trans (Le.trans (Le.swap (τ := ⟨[(0, vs s), (1, slS ab), (5, slI (lsL s ab)), (6, .osl 2 0 (q.2 ++ [dPiece]).length), (7, vi q.1)], [(0, .live 39 (pcs (q.2 ++ [dPiece]))), (1, .dead)]⟩) 0 1 (by simp) (by simp) ⟨rfl, (ren_pure _ _ (pure_slS _)).symm, (ren_pure _ _ (pure_slI _)).symm, by rw [List.length_append]; rfl, rfl,  trivial⟩ ⟨by show lkH _ 1 = some (Hs.live _ ((pcs (q.2 ++ [dPiece])).map _)); rw [ren_pcs, pcs_app]; rfl, rfl, trivial⟩) (Le.reset (τ := ⟨[(0, vs s), (1, slS ab), (5, slI (lsL s ab)), (6, .osl 2 0 (q.2 ++ [dPiece]).length), (7, vi q.1)], [(0, .live 39 (pcs (q.2 ++ [dPiece]))), (1, .unborn)]⟩) [1] (by simp) ⟨.inr rfl, .inr rfl, .inr rfl, .inr rfl, .inr rfl, trivial⟩ ⟨by simp [NoN], NoN.of_pure _ (pure_slS _), NoN.of_pure _ (pure_slI _), by simp [NoN], by simp [NoN],  trivial⟩ ⟨by rw [if_neg (by decide)]; exact ⟨rfl, non_pcs _⟩, by rw [if_pos (by decide)], trivial⟩)) ?_
          exact (Le.sub ⟨.inr rfl, .inr rfl, .inr rfl, .inr (by rw [ho]; rfl), .inr rfl, trivial⟩ ⟨by rw [ho]; rfl, rfl, trivial⟩)
        · have ho : (baseC q.2) = q.2 := if_neg (by rw [hb]; decide)
          refine aw_skip ?_
          exact (Le.sub ⟨.inr rfl, .inr rfl, .inr rfl, .inr (by rw [ho]; rfl), .inr rfl, trivial⟩ ⟨by rw [ho]; rfl, rfl, trivial⟩)
      · refine aw_seq ?_
        have hop := baseC_pos q.2
        have hol := baseC_len q.2
        have hsz := hi3.base ((baseC q.2).length - 1)
        refine aw_draw mixed ?_
        refine ch_v (R := []) rfl rfl (oc_move (x := .osl _ _ _) rfl rfl) trivial ?_
        refine ch_v (R := []) rfl rfl (oc_move (x := .osl _ _ _) rfl rfl) trivial ?_
        refine ch_v (R := [(_, .live _ _)]) rfl rfl (oc_len_own (t := 39) (cs := pcs (baseC q.2)) rfl rfl (by kernel_rfl)) ⟨rfl, trivial⟩ ?_
        refine ch_v (R := []) rfl rfl (oc_binZ rfl rfl rfl (by first | exact binW_sub (by omega) (by omega) | rfl)) trivial ?_
        refine ch_v (R := [(_, .live _ _)]) rfl rfl (oc_index_own (k := 2) (t := 39) (cs := pcs (baseC q.2)) (j := ((baseC q.2).length - 1) * 2) rfl rfl rfl (by kernel_rfl) (by omega) (by omega) (by omega)) ⟨rfl, trivial⟩ ?_
        refine ch_v (R := [(_, .live _ _)]) rfl rfl (oc_fieldAddr_own (off := 0) (sz := 1) (r := false) (t := 39) (cs := pcs (baseC q.2)) rfl rfl (by rw [pcs_len]; omega) (by kernel_rfl) (by decide)) ⟨rfl, trivial⟩ ?_
        refine ch_v (R := [(_, .live _ _)]) rfl rfl (oc_load_own (t := 39) (cs := pcs (baseC q.2)) (y := vs ((baseC q.2).getD ((baseC q.2).length - 1) dPiece).1) rfl rfl (by kernel_rfl) (pcs_text (by omega))) ⟨rfl, trivial⟩ ?_
        refine ch_v (R := []) rfl rfl (oc_move (x := .val _) rfl rfl) trivial ?_
        refine ch_v (R := []) rfl rfl (oc_move (x := .val _) rfl rfl) trivial ?_
        refine ch_v (R := []) rfl rfl (oc_move (x := .val _) rfl rfl) trivial ?_
        refine ch_v (R := []) rfl rfl (oc_binZ rfl rfl rfl (by first | exact binW_add (by omega) (by omega) | rfl)) trivial ?_
        refine ch_v (R := []) rfl rfl (OC.cast (oc_substr rfl rfl rfl rfl (by kernel_rfl) (by omega) (by omega) (by omega)) (show Av.val (.string (s.extract (q.1 : Int).toNat ((q.1 : Int) + 1).toNat)) = vs (s.extract q.1 (q.1 + 1)) from by have := ex_nat s q.1 1; rw [← this]; rfl)) trivial ?_
        refine ch_v (R := []) rfl rfl (oc_str_add rfl rfl rfl (by rw [h1.1]; omega)) trivial ?_
        refine ch_v (R := [(_, .live _ _)]) rfl rfl (oc_index_own (k := 2) (t := 39) (cs := pcs (baseC q.2)) (j := ((baseC q.2).length - 1) * 2) rfl rfl rfl (by kernel_rfl) (by omega) (by omega) (by omega)) ⟨rfl, trivial⟩ ?_
        refine ch_v (R := [(_, .live _ _)]) rfl rfl (oc_fieldAddr_own (off := 0) (sz := 1) (r := false) (t := 39) (cs := pcs (baseC q.2)) rfl rfl (by rw [pcs_len]; omega) (by kernel_rfl) (by decide)) ⟨rfl, trivial⟩ ?_
        refine ch_n rfl rfl (oc_store (t := 39) (y := vs (((baseC q.2).getD ((baseC q.2).length - 1) dPiece).1 ++ (s.extract q.1 (q.1 + 1)))) (cs := pcs (baseC q.2)) (cs' := pcs (addC q.2 (s.extract q.1 (q.1 + 1)))) rfl rfl rfl (by kernel_rfl) (by kernel_rfl) cells_str (by rw [pcs_len]; omega) (by rw [addC_base]; exact pcs_set (by omega))) ⟨rfl, trivial⟩ ?_
        refine ck_nil ⟨by kernel_rfl, ?_⟩
        refine aw_seq ?_
        refine aw_text rfl ?_
        refine ch_v (R := []) rfl rfl (oc_move (x := .val _) rfl rfl) trivial ?_
        refine ch_v (R := []) rfl rfl (oc_binZ rfl rfl rfl (by first | exact binW_add (by omega) (by omega) | rfl)) trivial ?_
        refine ch_v (R := []) rfl rfl (oc_assign (x := .val _) rfl rfl) trivial ?_
        refine ck_nil ?_
        refine aw_exit ?_
        exact ⟨(q.1 + 1, addC q.2 (s.extract q.1 (q.1 + 1))), ⟨by show q.1 + 1 ≤ _; omega, by show (addC q.2 _).length ≤ q.1 + 1; rw [addC_len]; omega, hi3.add h1.1, f, by show _ < f + (q.1 + 1); omega, by rw [hcut]; show (if _ then _ else _) = _; rw [if_pos hlt, if_pos hz]⟩, by show s.size - (q.1 + 1) < _; omega, Le.sub ⟨.inr rfl, .inr rfl, .inr rfl, .inr (by show lkS _ 6 = Av.osl 2 0 (addC q.2 _).length; rw [addC_len]; rfl), .inr rfl, trivial⟩ ⟨rfl, rfl, trivial⟩⟩
    · have hz : ¬ costS (s.extract q.1 (q.1 + 1)) + (lsL s ab).getD (q.1 + 1) 0 = (lsL s ab).getD q.1 0 := by simpa using hb
      have ht : tkL s ab q.1 ≠ 0 := fun hc => hz ((tk_zero hlt).1 hc)
      obtain ⟨g1, g2, hfst⟩ := tk_first hlt ht
      obtain ⟨_, _, k3, k4⟩ := tkK_first s ab q.1 (lsL s ab) ab.length ht
      have k3' : 2 + (lsL s ab).getD (q.1 + (ab.getD (tkL s ab q.1 - 1) ByteArray.empty).size) 0 = (lsL s ab).getD q.1 0 := by rw [lsL_at hlt]; exact k3
      have k4' : ∀ j, j < tkL s ab q.1 - 1 → fitsB s q.1 ab j = true → 2 + (lsL s ab).getD (q.1 + (ab.getD j ByteArray.empty).size) 0 ≠ (lsL s ab).getD q.1 0 := by rw [lsL_at hlt]; exact k4
      obtain ⟨m, hm⟩ : ∃ m, m = tkL s ab q.1 - 1 := ⟨_, rfl⟩
      rw [← hm] at g1 hfst k3' k4'
      have hml : m < ab.length := by omega
      refine aw_skip ?_
      refine aw_seq ?_
      refine aw_text rfl ?_
      refine ch_v (R := []) rfl rfl (oc_assign (x := .val _) rfl rfl) trivial ?_
      refine ck_nil ?_
      refine aw_seq ?_
      refine aw_block ?_
      refine aw_loop (ι := Nat) (fun k => ⟨[(0, vs s), (1, slS ab), (5, slI (lsL s ab)), (6, .osl 2 0 q.2.length), (7, vi q.1), (8, vi k)], [(0, .live 39 (pcs q.2)), (1, .unborn)]⟩) (fun k => k ≤ m) (fun k => m - k) 0 (Nat.zero_le _) (Le.sub ⟨.inr rfl, .inr rfl, .inr rfl, .inr rfl, .inr rfl, .inr rfl, trivial⟩ ⟨rfl, rfl, trivial⟩) ?_
      intro k hI
      have hbk := hb2 k
      refine aw_seq ?_
      refine aw_seq ?_
      refine aw_draw mixed ?_
      refine ch_v (R := []) rfl rfl (oc_move (x := .val _) rfl rfl) trivial ?_
      refine ch_v (R := []) rfl rfl (oc_move (x := .val _) rfl rfl) trivial ?_
      refine ch_v (R := []) rfl rfl (oc_move (x := .sl _ _ _) rfl rfl) trivial ?_
      refine ch_v (R := []) rfl rfl (oc_move (x := .val _) rfl rfl) trivial ?_
      refine ch_v (R := []) rfl rfl (oc_call rfl (by kernel_rfl) (fits_pc s q.1 ab k hs (by omega) (by omega) (hb2 k)) rfl (by simp only [PureL, Pure, and_self, pure_slI, pure_slS, rowAv, pieces_pure, implies_true]) (by simp only [PureL, Pure, and_self, pure_slI, pure_slS, rowAv, pieces_pure, implies_true])) trivial ?_
      refine ch_v (R := []) rfl rfl (oc_not rfl rfl) trivial ?_
      refine ch_v (R := []) rfl rfl (oc_move (x := .val _) rfl rfl) trivial ?_
      refine ch_g (R := []) rfl rfl rfl gate_f (fun hC => oc_move (x := .sl _ _ _) rfl rfl) (fun hC => ⟨(by first | rfl | exact hC | (simp only [Bool.and_eq_true] at hC; first | exact hC.1 | exact hC.1.1 | exact hC.2) | simp_all), trivial⟩) trivial ?_
      refine ch_g (R := []) rfl rfl rfl gate_f (fun hC => oc_move (x := .val _) rfl rfl) (fun hC => ⟨(by first | rfl | exact hC | (simp only [Bool.and_eq_true] at hC; first | exact hC.1 | exact hC.1.1 | exact hC.2) | simp_all), trivial⟩) trivial ?_
      refine ch_g (R := []) rfl rfl rfl gate_f (fun hC => oc_move (x := .sl _ _ _) rfl rfl) (fun hC => ⟨(by first | rfl | exact hC | (simp only [Bool.and_eq_true] at hC; first | exact hC.1 | exact hC.1.1 | exact hC.2) | simp_all), trivial⟩) trivial ?_
      refine ch_g (R := []) rfl rfl rfl gate_f (fun hC => oc_move (x := .val _) rfl rfl) (fun hC => ⟨(by first | rfl | exact hC | (simp only [Bool.and_eq_true] at hC; first | exact hC.1 | exact hC.1.1 | exact hC.2) | simp_all), trivial⟩) trivial ?_
      refine ch_g (R := []) rfl rfl rfl gate_f (fun hC => (by first | exact oc_indexN rfl rfl rfl (by kernel_rfl) (by omega) | exact oc_index rfl rfl rfl (by kernel_rfl) (by omega) (by omega) rfl)) (fun hC => ⟨(by first | rfl | exact hC | (simp only [Bool.and_eq_true] at hC; first | exact hC.1 | exact hC.1.1 | exact hC.2) | simp_all), (by first | rfl | exact hC | (simp only [Bool.and_eq_true] at hC; first | exact hC.1 | exact hC.1.1 | exact hC.2) | simp_all), trivial⟩) trivial ?_
      refine ch_g (R := []) rfl rfl rfl gate_f (fun hC => oc_load rfl rfl (by kernel_rfl) cells_str) (fun hC => ⟨(by first | rfl | exact hC | (simp only [Bool.and_eq_true] at hC; first | exact hC.1 | exact hC.1.1 | exact hC.2) | simp_all), trivial⟩) trivial ?_
      refine ch_g (R := []) rfl rfl rfl gate_f (fun hC => oc_len_str rfl rfl (by kernel_rfl)) (fun hC => ⟨(by first | rfl | exact hC | (simp only [Bool.and_eq_true] at hC; first | exact hC.1 | exact hC.1.1 | exact hC.2) | simp_all), trivial⟩) trivial ?_
      refine ch_g (R := []) rfl rfl rfl gate_f (fun hC => oc_binZ rfl rfl rfl (by first | exact binW_add (by omega) (by omega) | rfl)) (fun hC => ⟨(by first | rfl | exact hC | (simp only [Bool.and_eq_true] at hC; first | exact hC.1 | exact hC.1.1 | exact hC.2) | simp_all), (by first | rfl | exact hC | (simp only [Bool.and_eq_true] at hC; first | exact hC.1 | exact hC.1.1 | exact hC.2) | simp_all), trivial⟩) trivial ?_
      refine ch_g (R := []) rfl rfl rfl gate_f (fun hC => by
            have hq : fitsB s q.1 ab k = true := by simpa using hC
            have hft := fits_in hq
            exact oc_index (j := q.1 + (ab.getD k ByteArray.empty).size) rfl rfl rfl (by kernel_rfl) (by omega) (by omega) (by omega)) (fun hC => ⟨(by first | rfl | exact hC | (simp only [Bool.and_eq_true] at hC; first | exact hC.1 | exact hC.1.1 | exact hC.2) | simp_all), (by first | rfl | exact hC | (simp only [Bool.and_eq_true] at hC; first | exact hC.1 | exact hC.1.1 | exact hC.2) | simp_all), trivial⟩) trivial ?_
      refine ch_g (R := []) rfl rfl rfl gate_f (fun hC => oc_load rfl rfl (by kernel_rfl) cells_int) (fun hC => ⟨(by first | rfl | exact hC | (simp only [Bool.and_eq_true] at hC; first | exact hC.1 | exact hC.1.1 | exact hC.2) | simp_all), trivial⟩) trivial ?_
      refine ch_g (R := []) rfl rfl rfl gate_f (fun hC => by
            have hbj := hbd (q.1 + (ab.getD k ByteArray.empty).size)
            exact oc_binZ rfl rfl rfl (by first | exact binW_add (by omega) (by omega) | rfl)) (fun hC => ⟨(by first | rfl | exact hC | (simp only [Bool.and_eq_true] at hC; first | exact hC.1 | exact hC.1.1 | exact hC.2) | simp_all), (by first | rfl | exact hC | (simp only [Bool.and_eq_true] at hC; first | exact hC.1 | exact hC.1.1 | exact hC.2) | simp_all), trivial⟩) trivial ?_
      refine ch_g (R := []) rfl rfl rfl gate_f (fun hC => oc_move (x := .sl _ _ _) rfl rfl) (fun hC => ⟨(by first | rfl | exact hC | (simp only [Bool.and_eq_true] at hC; first | exact hC.1 | exact hC.1.1 | exact hC.2) | simp_all), trivial⟩) trivial ?_
      refine ch_g (R := []) rfl rfl rfl gate_f (fun hC => oc_move (x := .val _) rfl rfl) (fun hC => ⟨(by first | rfl | exact hC | (simp only [Bool.and_eq_true] at hC; first | exact hC.1 | exact hC.1.1 | exact hC.2) | simp_all), trivial⟩) trivial ?_
      refine ch_g (R := []) rfl rfl rfl gate_f (fun hC => oc_indexN (j := q.1) rfl rfl rfl (by kernel_rfl) (by omega)) (fun hC => ⟨(by first | rfl | exact hC | (simp only [Bool.and_eq_true] at hC; first | exact hC.1 | exact hC.1.1 | exact hC.2) | simp_all), (by first | rfl | exact hC | (simp only [Bool.and_eq_true] at hC; first | exact hC.1 | exact hC.1.1 | exact hC.2) | simp_all), trivial⟩) trivial ?_
      refine ch_g (R := []) rfl rfl rfl gate_f (fun hC => oc_load rfl rfl (by kernel_rfl) cells_int) (fun hC => ⟨(by first | rfl | exact hC | (simp only [Bool.and_eq_true] at hC; first | exact hC.1 | exact hC.1.1 | exact hC.2) | simp_all), trivial⟩) trivial ?_
      refine ch_g (R := []) rfl rfl rfl gate_f (fun hC => oc_binZ rfl rfl rfl rfl) (fun hC => ⟨(by first | rfl | exact hC | (simp only [Bool.and_eq_true] at hC; first | exact hC.1 | exact hC.1.1 | exact hC.2) | simp_all), (by first | rfl | exact hC | (simp only [Bool.and_eq_true] at hC; first | exact hC.1 | exact hC.1.1 | exact hC.2) | simp_all), trivial⟩) trivial ?_
      refine ch_v (R := []) rfl rfl (oc_or rfl rfl rfl (by first | exact fun h => h | simp_all)) trivial ?_
      refine ck_nil ⟨by kernel_rfl, ?_⟩
      refine aw_cond rfl (fun hb => ?_) (fun hb => ?_)
      · have hkm : k ≠ m := by
          intro e
          rw [e, g1] at hb
          rw [k3'] at hb
          simp at hb
        refine aw_skip ?_
        refine aw_block ?_
        refine aw_text rfl ?_
        refine ch_v (R := []) rfl rfl (oc_move (x := .val _) rfl rfl) trivial ?_
        refine ch_v (R := []) rfl rfl (oc_binZ rfl rfl rfl (by first | exact binW_add (by omega) (by omega) | rfl)) trivial ?_
        refine ch_v (R := []) rfl rfl (oc_assign (x := .val _) rfl rfl) trivial ?_
        refine ck_nil ?_
        exact ⟨k + 1, by omega, by omega, Le.sub ⟨.inr rfl, .inr rfl, .inr rfl, .inr rfl, .inr rfl, .inr (vi_eq (by omega)), trivial⟩ ⟨rfl, rfl, trivial⟩⟩
      · rw [Bool.or_eq_false_iff] at hb
        have hft0 : fitsB s q.1 ab k = true := by simpa using hb.1
        have hft := fits_in hft0
        have heq : 2 + (lsL s ab).getD (q.1 + (ab.getD k ByteArray.empty).size) 0 = (lsL s ab).getD q.1 0 := by simpa using hb.2
        have hkm : k = m := by
          rcases Nat.lt_or_ge k m with h9 | h9
          · exact absurd heq (k4' k h9 hft0)
          · omega
        refine aw_exit ?_
        refine aw_seq ?_
        refine aw_text rfl ?_
        refine ch_v (R := []) rfl rfl (oc_move (x := .osl _ _ _) rfl rfl) trivial ?_
        refine ch_v (R := []) rfl rfl (oc_move (x := .val _) rfl rfl) trivial ?_
        refine ch_v (R := []) rfl rfl (oc_binZ rfl rfl rfl (by first | exact binW_add (by omega) (by omega) | rfl)) trivial ?_
        refine ch_v (R := []) rfl rfl (oc_build (pl := [(0, 1), (1, 1)]) (zs := [.string ⟨#[]⟩, .int .i64 0]) (ds := [.val _, .val _]) rfl (by kernel_rfl) rfl (by kernel_rfl) (by first | rfl | decide) rfl) trivial ?_
        refine ch_v (R := []) rfl rfl (oc_buildSlice (ps := [.tmp 96]) (xs := [.agg _]) (e := 39) (k := 2) (by_ := 24) (zs := [.string ⟨#[]⟩, .int .i64 0]) rfl (by kernel_rfl) (by kernel_rfl) rfl rfl rfl (by decide) (by decide)) trivial ?_
        refine ch_u rfl rfl (oc_append (e := 39) (k := 2) (by_ := 24) (zs := [.string ⟨#[]⟩, .int .i64 0]) (cs := pcs q.2) (ds := [vs ((⟨#[]⟩ : ByteArray), (k : Int) + 1).1, vi ((⟨#[]⟩ : ByteArray), (k : Int) + 1).2]) 1 rfl rfl rfl (by kernel_rfl) (by kernel_rfl) rfl (by decide) (by decide) (pcs_len _) rfl (app_piece ((⟨#[]⟩ : ByteArray), (k : Int) + 1)) (by omega) (by omega)) ⟨rfl, rfl, trivial⟩ ?_
        refine ch_v (R := []) rfl rfl (oc_assign (x := .osl _ _ _) rfl rfl) trivial ?_
        refine ck_nil ?_
        refine aw_le (Le.trans (Le.swap (τ := ⟨[(0, vs s), (1, slS ab), (5, slI (lsL s ab)), (6, .osl 2 0 (q.2 ++ [((⟨#[]⟩ : ByteArray), (k : Int) + 1)]).length), (7, vi q.1), (8, vi k)], [(0, .live 39 (pcs (q.2 ++ [((⟨#[]⟩ : ByteArray), (k : Int) + 1)]))), (1, .dead)]⟩) 0 1 (by simp) (by simp) ⟨rfl, (ren_pure _ _ (pure_slS _)).symm, (ren_pure _ _ (pure_slI _)).symm, by rw [List.length_append]; rfl, rfl, rfl, trivial⟩ ⟨by show lkH _ 1 = some (Hs.live _ ((pcs (q.2 ++ [((⟨#[]⟩ : ByteArray), (k : Int) + 1)])).map _)); rw [ren_pcs, pcs_app]; rfl, rfl, trivial⟩) (Le.reset (τ := ⟨[(0, vs s), (1, slS ab), (5, slI (lsL s ab)), (6, .osl 2 0 (q.2 ++ [((⟨#[]⟩ : ByteArray), (k : Int) + 1)]).length), (7, vi q.1), (8, vi k)], [(0, .live 39 (pcs (q.2 ++ [((⟨#[]⟩ : ByteArray), (k : Int) + 1)]))), (1, .unborn)]⟩) [1] (by simp) ⟨.inr rfl, .inr rfl, .inr rfl, .inr rfl, .inr rfl, .inr rfl, trivial⟩ ⟨by simp [NoN], NoN.of_pure _ (pure_slS _), NoN.of_pure _ (pure_slI _), by simp [NoN], by simp [NoN], by simp [NoN], trivial⟩ ⟨by rw [if_neg (by decide)]; exact ⟨rfl, non_pcs _⟩, by rw [if_pos (by decide)], trivial⟩)) ?_
        refine aw_text rfl ?_
        refine ch_v (R := []) rfl rfl (oc_move (x := .val _) rfl rfl) trivial ?_
        refine ch_v (R := []) rfl rfl (oc_move (x := .sl _ _ _) rfl rfl) trivial ?_
        refine ch_v (R := []) rfl rfl (oc_move (x := .val _) rfl rfl) trivial ?_
        refine ch_v (R := []) rfl rfl ((by first | exact oc_indexN rfl rfl rfl (by kernel_rfl) (by omega) | exact oc_index rfl rfl rfl (by kernel_rfl) (by omega) (by omega) rfl)) trivial ?_
        refine ch_v (R := []) rfl rfl (oc_load rfl rfl (by kernel_rfl) cells_str) trivial ?_
        refine ch_v (R := []) rfl rfl (oc_len_str rfl rfl (by kernel_rfl)) trivial ?_
        refine ch_v (R := []) rfl rfl (oc_binZ rfl rfl rfl (by first | exact binW_add (by omega) (by omega) | rfl)) trivial ?_
        refine ch_v (R := []) rfl rfl (oc_assign (x := .val _) rfl rfl) trivial ?_
        refine ck_nil ?_
        exact ⟨(q.1 + (ab.getD k ByteArray.empty).size, q.2 ++ [((⟨#[]⟩ : ByteArray), (k : Int) + 1)]), ⟨by show q.1 + (ab.getD k ByteArray.empty).size ≤ _; omega, by show (q.2 ++ [_]).length ≤ q.1 + (ab.getD k ByteArray.empty).size; rw [List.length_append]; show q.2.length + 1 ≤ _; omega, (hi3.more (by omega)).app (Nat.zero_le _), f, by show _ < f + (q.1 + (ab.getD k ByteArray.empty).size); omega, by rw [hcut]; show (if _ then _ else _) = _; rw [if_pos hlt, if_neg hz, hfst, ← hkm, empE]⟩, by show s.size - (q.1 + (ab.getD k ByteArray.empty).size) < _; omega, Le.sub ⟨.inr rfl, .inr rfl, .inr rfl, .inr rfl, .inr (vi_eq (by first | omega | (show (q.1 : Int) + ((ab.getD k ByteArray.empty).size : Int) = ((q.1 + (ab.getD k ByteArray.empty).size : Nat) : Int); omega))), trivial⟩ ⟨rfl, rfl, trivial⟩⟩
  · have hge : q.1 = s.size := by have h0 := of_decide_eq_false hb; omega
    have hfin : rcutP s ab = q.2 := by rw [hcut, rcutF_over (by omega)]
    refine aw_exit ?_
    refine aw_seq ?_
    refine aw_le (Le.freezeP 6 0 q.2 rfl rfl) ?_
    refine aw_text rfl ?_
    refine ch_v (R := []) rfl rfl (oc_move (x := .sl _ _ _) rfl rfl) trivial ?_
    refine ch_v (R := []) rfl rfl (oc_assign (x := .sl _ _ _) rfl rfl) trivial ?_
    refine ck_nil ?_
    refine aw_ret ?_
    exact ⟨.inl rfl, ResOk.tmp rfl (by rw [hfin]; rfl), trivial⟩
end Go.Proofs.YtfbpbpapfkimfaaDoor
