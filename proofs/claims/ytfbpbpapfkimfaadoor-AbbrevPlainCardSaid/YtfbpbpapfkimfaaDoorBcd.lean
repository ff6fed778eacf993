/- Chapter 7: abbrev.Join, walked. -/
import Derived.Test.YtfbpbpapfkimfaaDoorBle
import Derived.Test.YtfbpbpapfkimfaaDoorProg
import Derived.KernelRfl
namespace Go.Proofs.YtfbpbpapfkimfaaDoor
open Go.RowKit
set_option maxRecDepth 100000
set_option linter.unusedVariables false
set_option linter.unusedSimpArgs false
theorem bad_eq (ab : List ByteArray) (p : PieceP) : (decide (p.2 < 0) || decide (p.2 > min (ab.length : Int) 32)) = badP ab p := by
  unfold badP
  by_cases h1 : p.2 < 0 <;> by_cases h2 : p.2 > (ab.length : Int) <;> by_cases h3 : p.2 > 32 <;> by_cases h4 : p.2 > min (ab.length : Int) 32 <;> simp only [h1, h2, h3, h4, decide_true, decide_false, Bool.or_true, Bool.or_false, Bool.true_or, Bool.false_or] <;> omega
set_option maxHeartbeats 800000 in
theorem join_pc (l : List PieceP) (hl : FewP l) (ab : List ByteArray) (hab : ∀ k, (ab.getD k ByteArray.empty).size ≤ 1000000) (hal : ab.length ≤ 1000000) : PC Tryd.prog 19 [piecesAv l, slS ab] (.tup [vs (joinP ab l).1, vi (joinP ab l).2]) := by
  refine FC.body 4 43 Tryd.func19 rfl (by kernel_rfl) ?_
  refine aw_seq ?_
  refine aw_text rfl ?_
  refine ch_v (R := []) rfl rfl (oc_assign (x := .val _) rfl rfl) trivial ?_
  refine ch_v (R := []) rfl rfl (oc_assign (x := .val _) rfl rfl) trivial ?_
  refine ck_nil ?_
  refine aw_seq ?_
  refine aw_text rfl ?_
  refine ch_u rfl rfl (oc_alloc (zs := [.pointer none, .slice none 0 0]) (cs := [.val _, .val _]) 0 rfl (by kernel_rfl) rfl rfl) ⟨rfl, trivial⟩ ?_
  refine ck_nil ?_
  refine aw_seq ?_
  refine aw_seq ?_
  refine aw_text rfl ?_
  refine ch_v (R := []) rfl rfl (oc_move (x := .sl _ _ _) rfl rfl) trivial ?_
  refine ch_v (R := []) rfl rfl (oc_len rfl rfl (by kernel_rfl)) trivial ?_
  refine ch_v (R := []) rfl rfl (oc_move (x := .val _) rfl rfl) trivial ?_
  refine ck_nil ?_
  refine aw_block ?_
  refine aw_le (Le.nameNilCell 0 1 1 1 5 rfl rfl rfl (by decide)) ?_
  refine aw_loop (ι := Nat) (fun k => ⟨[(1, slS ab), (6, .own 0 0), (9, piecesAv l), (10, vi l.length), (11, vi k)], [(0, .live 55 [bldX (decide (0 < k)), .osl 1 1 (joinK ab l k).size]), (1, .live 5 (bytA (joinK ab l k))), (2, .unborn), (3, .unborn)]⟩) (fun k => k ≤ l.length ∧ ∀ j, j < k → (!badP ab (l.getD j dPiece)) = true) (fun k => l.length - k) 0 (⟨Nat.zero_le _, rall_zero⟩) (Le.sub ⟨.inr rfl, .inr rfl, .inr rfl, .inr rfl, .inr rfl, trivial⟩ ⟨rfl, rfl, rfl, rfl, trivial⟩) ?_
  intro k hI
  refine aw_seq ?_
  refine aw_text rfl ?_
  refine ch_v (R := []) rfl rfl (oc_binZ rfl rfl rfl rfl) trivial ?_
  refine ck_nil ?_
  refine aw_seq ?_
  refine aw_cond rfl (fun hb => ?_) (fun hb => ?_)
  · have hlt : k < l.length := by have h0 := of_decide_eq_true hb; omega
    have hps := hl.size k
    have hll := hl.len
    have hjs := joinK_size hl hab k
    refine aw_skip ?_
    refine aw_seq ?_
    refine aw_block ?_
    refine aw_seq ?_
    refine aw_text rfl ?_
    refine ch_v (R := []) rfl rfl ((by first | exact oc_indexN rfl rfl rfl (by kernel_rfl) (by omega) | exact oc_index rfl rfl rfl (by kernel_rfl) (by omega) (by omega) rfl)) trivial ?_
    refine ch_v (R := []) rfl rfl (oc_load_row rfl rfl (by kernel_rfl) (by kernel_rfl) rfl) trivial ?_
    refine ch_u rfl rfl (oc_alloc (zs := [.string ⟨#[]⟩, .int .i64 0]) (cs := [.val _, .val _]) 3 rfl (by kernel_rfl) rfl rfl) ⟨rfl, trivial⟩ ?_
    refine ch_n rfl rfl (oc_store_row (x := .agg _) (cs' := [_, _]) rfl rfl rfl rfl (by kernel_rfl) (by first | decide | exact Nat.le_of_ble_eq_true rfl | simp) (by first | decide | exact Nat.le_of_ble_eq_true rfl | simp) rfl) ⟨rfl, trivial⟩ ?_
    refine ck_nil ?_
    refine aw_block ?_
    refine aw_seq ?_
    refine aw_text rfl ?_
    refine ch_v (R := [(_, .live _ _)]) rfl rfl (oc_fieldAddr_own (off := 1) (sz := 1) (r := false) rfl rfl (by first | decide | simp) (by kernel_rfl) (by decide)) ⟨rfl, trivial⟩ ?_
    refine ch_v (R := [(_, .live _ _)]) rfl rfl (oc_load_own rfl rfl (by kernel_rfl) rfl) ⟨rfl, trivial⟩ ?_
    refine ch_v (R := []) rfl rfl (oc_binZ rfl rfl rfl rfl) trivial ?_
    refine ch_v (R := []) rfl rfl (oc_move (x := .val _) rfl rfl) trivial ?_
    refine ch_g (R := [(_, .live _ _)]) rfl rfl rfl gate_f (fun hC => oc_fieldAddr_own (off := 1) (sz := 1) (r := false) rfl rfl (by first | decide | simp) (by kernel_rfl) (by decide)) (fun hC => ⟨(by first | rfl | exact hC | (simp only [Bool.and_eq_true] at hC; first | exact hC.1 | exact hC.1.1 | exact hC.2) | simp_all), trivial⟩) ⟨rfl, trivial⟩ ?_
    refine ch_g (R := [(_, .live _ _)]) rfl rfl rfl gate_f (fun hC => oc_load_own rfl rfl (by kernel_rfl) rfl) (fun hC => ⟨(by first | rfl | exact hC | (simp only [Bool.and_eq_true] at hC; first | exact hC.1 | exact hC.1.1 | exact hC.2) | simp_all), trivial⟩) ⟨rfl, trivial⟩ ?_
    refine ch_g (R := []) rfl rfl rfl gate_f (fun hC => oc_move (x := .sl _ _ _) rfl rfl) (fun hC => ⟨(by first | rfl | exact hC | (simp only [Bool.and_eq_true] at hC; first | exact hC.1 | exact hC.1.1 | exact hC.2) | simp_all), trivial⟩) trivial ?_
    refine ch_g (R := []) rfl rfl rfl gate_f (fun hC => oc_len rfl rfl (by kernel_rfl)) (fun hC => ⟨(by first | rfl | exact hC | (simp only [Bool.and_eq_true] at hC; first | exact hC.1 | exact hC.1.1 | exact hC.2) | simp_all), trivial⟩) trivial ?_
    refine ch_g (R := []) rfl rfl rfl gate_f (fun hC => oc_min rfl rfl rfl) (fun hC => ⟨(by first | rfl | exact hC | (simp only [Bool.and_eq_true] at hC; first | exact hC.1 | exact hC.1.1 | exact hC.2) | simp_all), (by first | rfl | exact hC | (simp only [Bool.and_eq_true] at hC; first | exact hC.1 | exact hC.1.1 | exact hC.2) | simp_all), trivial⟩) trivial ?_
    refine ch_g (R := []) rfl rfl rfl gate_f (fun hC => oc_binZ rfl rfl rfl rfl) (fun hC => ⟨(by first | rfl | exact hC | (simp only [Bool.and_eq_true] at hC; first | exact hC.1 | exact hC.1.1 | exact hC.2) | simp_all), (by first | rfl | exact hC | (simp only [Bool.and_eq_true] at hC; first | exact hC.1 | exact hC.1.1 | exact hC.2) | simp_all), trivial⟩) trivial ?_
    refine ch_v (R := []) rfl rfl (oc_or rfl rfl rfl (by first | exact fun h => h | simp_all)) trivial ?_
    refine ch_v (R := []) rfl rfl (oc_assign (x := .val _) rfl rfl) trivial ?_
    refine ck_nil ?_
    refine aw_cond rfl (fun hb => ?_) (fun hb => ?_)
    · have hbad : badP ab (l.getD k dPiece) = true := by rw [← bad_eq]; exact hb
      refine aw_seq ?_
      refine aw_text rfl ?_
      refine ch_v (R := []) rfl rfl (oc_assign (x := .val _) rfl rfl) trivial ?_
      refine ch_v (R := []) rfl rfl (oc_assign (x := .val _) rfl rfl) trivial ?_
      refine ck_nil ?_
      refine aw_ret ?_
      exact ⟨.inl rfl, by rw [show joinP ab l = (ByteArray.empty, 11) from by unfold joinP; rw [rall_false (p := fun k => !badP ab (l.getD k dPiece)) hlt (by rw [hbad]; rfl)]; rfl]; exact ResOk.two rfl (ResC.tmp rfl) (ResC.tmp rfl), trivial⟩
    · have hnb : badP ab (l.getD k dPiece) = false := by rw [← bad_eq]; exact hb
      have hq := hnb
      unfold badP at hq
      simp only [Bool.or_eq_false_iff, decide_eq_false_iff_not] at hq
      refine aw_seq ?_
      refine aw_text rfl ?_
      refine ch_v (R := [(_, .live _ _)]) rfl rfl (oc_fieldAddr_own (off := 1) (sz := 1) (r := false) rfl rfl (by first | decide | simp) (by kernel_rfl) (by decide)) ⟨rfl, trivial⟩ ?_
      refine ch_v (R := [(_, .live _ _)]) rfl rfl (oc_load_own rfl rfl (by kernel_rfl) rfl) ⟨rfl, trivial⟩ ?_
      refine ch_v (R := []) rfl rfl (oc_binZ rfl rfl rfl rfl) trivial ?_
      refine ch_v (R := []) rfl rfl (oc_assign (x := .val _) rfl rfl) trivial ?_
      refine ck_nil ?_
      refine aw_cond rfl (fun hb => ?_) (fun hb => ?_)
      · have hpos : (l.getD k dPiece).2 > 0 := of_decide_eq_true hb
        have hasz := hab ((l.getD k dPiece).2 - 1).toNat
        have hst : joinK ab l (k + 1) = joinK ab l k ++ ab.getD ((l.getD k dPiece).2 - 1).toNat ByteArray.empty := by show joinK ab l k ++ textP ab _ = _; unfold textP; rw [if_pos hpos]
        refine aw_text rfl ?_
        refine ch_v (R := []) rfl rfl (oc_move (x := .sl _ _ _) rfl rfl) trivial ?_
        refine ch_v (R := [(_, .live _ _)]) rfl rfl (oc_fieldAddr_own (off := 1) (sz := 1) (r := false) rfl rfl (by first | decide | simp) (by kernel_rfl) (by decide)) ⟨rfl, trivial⟩ ?_
        refine ch_v (R := [(_, .live _ _)]) rfl rfl (oc_load_own rfl rfl (by kernel_rfl) rfl) ⟨rfl, trivial⟩ ?_
        refine ch_v (R := []) rfl rfl (oc_binZ rfl rfl rfl (by first | exact binW_sub (by omega) (by omega) | rfl)) trivial ?_
        refine ch_v (R := []) rfl rfl (oc_index (j := ((l.getD k dPiece).2 - 1).toNat) rfl rfl rfl (by kernel_rfl) (by omega) (by omega) rfl) trivial ?_
        refine ch_v (R := []) rfl rfl (oc_load rfl rfl (by kernel_rfl) cells_str) trivial ?_
        refine ch_u rfl rfl (oc_callFC [2] rfl (by kernel_rfl) (writeString_fcm (decide (0 < k)) (joinK ab l k) (ab.getD ((l.getD k dPiece).2 - 1).toNat ByteArray.empty) (by omega)) rfl (by simp) (by simp [bornH]) (by simp) (by simp) (by simp [InNL, InN]) ⟨by unfold bldX; cases decide (0 < k) <;> simp [InH, InNL, InN], inNL_byt _, trivial⟩ (by simp [InN, InNL]) ⟨by simp [InH, InNL, InN], inNL_byt _, trivial⟩) ⟨rfl, rfl, rfl, trivial⟩ ?_
        refine ck_nil ?_
        refine aw_text rfl ?_
        refine ch_v (R := []) rfl rfl (oc_binZ rfl rfl rfl (by first | exact binW_add (by omega) (by omega) | rfl)) trivial ?_
        refine ch_v (R := []) rfl rfl (oc_move (x := .val _) rfl rfl) trivial ?_
        refine ck_nil ?_
        exact ⟨k + 1, ⟨by omega, rall_step (p := fun j => !badP ab (l.getD j dPiece)) hI.2 (by rw [hnb]; rfl)⟩, by omega, Le.trans (Le.swap (τ := ⟨[(1, slS ab), (6, .own 0 0), (9, piecesAv l), (10, vi l.length), (11, vi ((k : Int) + 1))], [(0, .live 55 [(bldX (decide (0 < k + 1))), .osl 1 1 (joinK ab l (k + 1)).size]), (1, .live 5 (bytA (joinK ab l (k + 1))))]⟩) 1 2 (by simp) (by simp) ⟨(ren_pure _ _ (pure_slS _)).symm, rfl, (ren_pure _ _ (pieces_pure _)).symm, rfl, rfl, trivial⟩ ⟨by rw [hst, decide_eq_true (show 0 < k + 1 from Nat.succ_pos k)]; rfl, by show lkH _ 2 = some (Hs.live _ ((bytA _).map _)); rw [ren_byt, hst]; rfl, trivial⟩) (Le.reset [2, 3] (by simp) ⟨.inr rfl, .inr rfl, .inr rfl, .inr rfl, .inr (vi_eq (by omega)), trivial⟩ ⟨NoN.of_pure _ (pure_slS _), by simp [NoN], NoN.of_pure _ (pieces_pure _), by simp [NoN], by simp [NoN], trivial⟩ ⟨by rw [if_neg (by decide)]; exact ⟨rfl, by unfold bldX; cases decide (0 < k + 1) <;> simp [NoN]⟩, by rw [if_neg (by decide)]; exact ⟨rfl, non_byt _⟩, by rw [if_pos (by decide)], by rw [if_pos (by decide)], trivial⟩)⟩
      · have hpos : ¬ (l.getD k dPiece).2 > 0 := of_decide_eq_false hb
        have hst : joinK ab l (k + 1) = joinK ab l k ++ (l.getD k dPiece).1 := by show joinK ab l k ++ textP ab _ = _; unfold textP; rw [if_neg hpos]
        refine aw_text rfl ?_
        refine ch_v (R := [(_, .live _ _)]) rfl rfl (oc_fieldAddr_own (off := 0) (sz := 1) (r := false) rfl rfl (by first | decide | simp) (by kernel_rfl) (by decide)) ⟨rfl, trivial⟩ ?_
        refine ch_v (R := [(_, .live _ _)]) rfl rfl (oc_load_own rfl rfl (by kernel_rfl) rfl) ⟨rfl, trivial⟩ ?_
        refine ch_u rfl rfl (oc_callFC [2] rfl (by kernel_rfl) (writeString_fcm (decide (0 < k)) (joinK ab l k) (l.getD k dPiece).1 (by omega)) rfl (by simp) (by simp [bornH]) (by simp) (by simp) (by simp [InNL, InN]) ⟨by unfold bldX; cases decide (0 < k) <;> simp [InH, InNL, InN], inNL_byt _, trivial⟩ (by simp [InN, InNL]) ⟨by simp [InH, InNL, InN], inNL_byt _, trivial⟩) ⟨rfl, rfl, rfl, trivial⟩ ?_
        refine ck_nil ?_
        refine aw_text rfl ?_
        refine ch_v (R := []) rfl rfl (oc_binZ rfl rfl rfl (by first | exact binW_add (by omega) (by omega) | rfl)) trivial ?_
        refine ch_v (R := []) rfl rfl (oc_move (x := .val _) rfl rfl) trivial ?_
        refine ck_nil ?_
        exact ⟨k + 1, ⟨by omega, rall_step (p := fun j => !badP ab (l.getD j dPiece)) hI.2 (by rw [hnb]; rfl)⟩, by omega, Le.trans (Le.swap (τ := ⟨[(1, slS ab), (6, .own 0 0), (9, piecesAv l), (10, vi l.length), (11, vi ((k : Int) + 1))], [(0, .live 55 [(bldX (decide (0 < k + 1))), .osl 1 1 (joinK ab l (k + 1)).size]), (1, .live 5 (bytA (joinK ab l (k + 1))))]⟩) 1 2 (by simp) (by simp) ⟨(ren_pure _ _ (pure_slS _)).symm, rfl, (ren_pure _ _ (pieces_pure _)).symm, rfl, rfl, trivial⟩ ⟨by rw [hst, decide_eq_true (show 0 < k + 1 from Nat.succ_pos k)]; rfl, by show lkH _ 2 = some (Hs.live _ ((bytA _).map _)); rw [ren_byt, hst]; rfl, trivial⟩) (Le.reset [2, 3] (by simp) ⟨.inr rfl, .inr rfl, .inr rfl, .inr rfl, .inr (vi_eq (by omega)), trivial⟩ ⟨NoN.of_pure _ (pure_slS _), by simp [NoN], NoN.of_pure _ (pieces_pure _), by simp [NoN], by simp [NoN], trivial⟩ ⟨by rw [if_neg (by decide)]; exact ⟨rfl, by unfold bldX; cases decide (0 < k + 1) <;> simp [NoN]⟩, by rw [if_neg (by decide)]; exact ⟨rfl, non_byt _⟩, by rw [if_pos (by decide)], by rw [if_pos (by decide)], trivial⟩)⟩
  · have hge : k = l.length := by have h0 := of_decide_eq_false hb; omega
    have hll := hl.len
    have hjs := joinK_size hl hab k
    refine aw_exit ?_
    refine aw_seq ?_
    refine aw_text rfl ?_
    refine ch_u rfl rfl (oc_callFC [] rfl (by kernel_rfl) (string_fcm (bldX (decide (0 < k))) (joinK ab l k) (by omega)) rfl (by simp) (by simp [bornH]) (by simp) (by simp) (by simp [InNL, InN]) ⟨by unfold bldX; cases decide (0 < k) <;> simp [InH, InNL, InN], inNL_byt _, trivial⟩ (by simp [InN, InNL]) trivial) ⟨rfl, rfl, trivial⟩ ?_
    refine ch_v (R := []) rfl rfl (oc_assign (x := .val _) rfl rfl) trivial ?_
    refine ch_v (R := []) rfl rfl (oc_assign (x := .val _) rfl rfl) trivial ?_
    refine ck_nil ?_
    refine aw_ret ?_
    exact ⟨.inl rfl, by rw [show joinP ab l = (joinK ab l l.length, 0) from by unfold joinP; rw [rall_true (p := fun k => !badP ab (l.getD k dPiece)) (fun j hj => hI.2 j (by omega))]; rfl, ← hge]; exact ResOk.two rfl (ResC.tmp rfl) (ResC.tmp rfl), trivial⟩
end Go.Proofs.YtfbpbpapfkimfaaDoor
