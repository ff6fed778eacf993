/- Chapter 8: the law PoolBits, walked. -/
import Derived.Test.YtpbaiighifhfnaaDoorPu
import Derived.Test.YtpbaiighifhfnaaDoorProg
import Derived.KernelRfl
namespace Go.Proofs.YtpbaiighifhfnaaDoor
open Go.RowKit
set_option maxRecDepth 100000
set_option linter.unusedVariables false
set_option linter.unusedSimpArgs false
theorem bits_cut {l : List ByteArray} (h : Good8 l) {k : Nat} (hk : k < l.length) : costP (cutP (l.getD k ByteArray.empty) (makeP l).1.abbrevs) (cutP (l.getD k ByteArray.empty) (makeP l).1.abbrevs).length = ((packedP (l.getD k ByteArray.empty) (chooseP l 31)).length : Int) := by
  rw [g_abb h]
  exact (packed_len _ (h.txt k hk)).1.symm
theorem bits_sum {ab l : List ByteArray} {k : Nat} {c : Int} (hc : c = ((packedP (l.getD k ByteArray.empty) ab).length : Int)) : (((mkK ab l k).2.length : Nat) : Int) + (5 * (c + 1) + 7).tdiv 8 = ((mkK ab l (k + 1)).2.length : Int) := by
  have h1 := aPack_len (packedP (l.getD k ByteArray.empty) ab)
  have h2 : (mkK ab l (k + 1)).2.length = (mkK ab l k).2.length + (aPack (packedP (l.getD k ByteArray.empty) ab)).length := by
    show ((mkK ab l k).2 ++ _).length = _
    rw [List.length_append]
  rw [h2, h1, hc, Int.tdiv_eq_ediv_of_nonneg (by omega)]
  omega
theorem cut_few8 {s : ByteArray} (ab : List ByteArray) (h : s.size ≤ 1024) : FewP (cutP s ab) := cut_few ab (by omega)
set_option maxHeartbeats 1600000 in
theorem bits8_walk (l : List ByteArray) (wl : (∀ d ∈ l, d.size ≤ 140737488351232) ∧ l.length * 16 ≤ 140737488351232) : PC Tryd.prog 5 [slS l] (vb true) := by
  refine FC.body 3 100 Tryd.func5 rfl (by kernel_rfl) ?_
  refine aw_seq ?_
  refine aw_text rfl ?_
  refine ch_v (R := []) rfl rfl (oc_assign (x := .val _) rfl rfl) trivial ?_
  refine ck_nil ?_
  refine aw_seq ?_
  refine aw_seq ?_
  refine aw_text rfl ?_
  refine ch_v (R := []) rfl rfl (oc_move (x := .sl _ _ _) rfl rfl) trivial ?_
  refine ch_v (R := []) rfl rfl (oc_call rfl (by kernel_rfl) (few8_pc l 24 60 (by omega) (by omega)) rfl (by simp only [PureL, Pure, and_self, pure_slI, pure_slS, rowAv, pieces_pure, pool_pure, bs_pure, implies_true]) (by simp only [PureL, Pure, and_self, pure_slI, pure_slS, rowAv, pieces_pure, pool_pure, bs_pure, implies_true])) trivial ?_
  refine ch_v (R := []) rfl rfl (oc_not rfl rfl) trivial ?_
  refine ck_nil ?_
  refine aw_cond rfl (fun hb => ?_) (fun hb => ?_)
  · refine aw_seq ?_
    refine aw_text rfl ?_
    refine ch_v (R := []) rfl rfl (oc_call rfl (by kernel_rfl) (awake8_pc) rfl (by simp only [PureL, Pure, and_self, pure_slI, pure_slS, rowAv, pieces_pure, pool_pure, bs_pure, implies_true]) (by simp only [PureL, Pure, and_self, pure_slI, pure_slS, rowAv, pieces_pure, pool_pure, bs_pure, implies_true])) trivial ?_
    refine ch_v (R := []) rfl rfl (oc_assign (x := .val _) rfl rfl) trivial ?_
    refine ck_nil ?_
    refine aw_ret ?_
    exact ⟨.inl rfl, ResOk.tmp rfl rfl, trivial⟩
  · have hfb : fewL l 24 60 = true := by simpa using hb
    obtain ⟨hw, hll⟩ := fewL_wt hfb
    have hms := make_sz l hw
    refine aw_skip ?_
    refine aw_seq ?_
    refine aw_text rfl ?_
    refine ch_v (R := []) rfl rfl (oc_move (x := .sl _ _ _) rfl rfl) trivial ?_
    refine ch_v (R := []) rfl rfl (oc_call rfl (by kernel_rfl) (make_pl_pc l hw) rfl (by simp only [PureL, Pure, and_self, pure_slI, pure_slS, rowAv, pieces_pure, pool_pure, bs_pure, implies_true]) (by simp only [PureL, Pure, and_self, pure_slI, pure_slS, rowAv, pieces_pure, pool_pure, bs_pure, implies_true])) trivial ?_
    refine ch_v (R := []) rfl rfl (oc_move (x := .tup _) rfl rfl) trivial ?_
    refine ch_v (R := []) rfl rfl (oc_extract rfl rfl rfl) trivial ?_
    refine ch_v (R := []) rfl rfl (oc_extract rfl rfl rfl) trivial ?_
    refine ch_u rfl rfl (oc_alloc (zs := [.slice none 0 0, .slice none 0 0, .slice none 0 0]) (cs := [.val _, .val _, .val _]) 0 rfl (by kernel_rfl) rfl rfl) ⟨rfl, trivial⟩ ?_
    refine ch_n rfl rfl (oc_store_row (x := .agg _) (cs' := [_, _, _]) rfl rfl rfl rfl (by kernel_rfl) (by first | decide | exact Nat.le_of_ble_eq_true rfl | simp) (by first | decide | exact Nat.le_of_ble_eq_true rfl | simp) rfl) ⟨rfl, trivial⟩ ?_
    refine ch_v (R := []) rfl rfl (oc_assign (x := .val _) rfl rfl) trivial ?_
    refine ck_nil ?_
    refine aw_seq ?_
    refine aw_seq ?_
    refine aw_text rfl ?_
    refine ch_v (R := []) rfl rfl (oc_move (x := .val _) rfl rfl) trivial ?_
    refine ch_v (R := []) rfl rfl (oc_binZ rfl rfl rfl rfl) trivial ?_
    refine ch_v (R := []) rfl rfl (oc_move (x := .val _) rfl rfl) trivial ?_
    refine ch_g (R := [(_, .live _ _)]) rfl rfl rfl gate_f (fun hC => oc_fieldAddr_own (off := 1) (sz := 1) (r := false) rfl rfl (by first | decide | simp) (by kernel_rfl) (by decide)) (fun hC => ⟨(by first | rfl | exact hC | (simp only [Bool.and_eq_true] at hC; first | exact hC.1 | exact hC.1.1 | exact hC.2) | simp_all), trivial⟩) ⟨rfl, trivial⟩ ?_
    refine ch_g (R := [(_, .live _ _)]) rfl rfl rfl gate_f (fun hC => oc_load_own rfl rfl (by kernel_rfl) rfl) (fun hC => ⟨(by first | rfl | exact hC | (simp only [Bool.and_eq_true] at hC; first | exact hC.1 | exact hC.1.1 | exact hC.2) | simp_all), trivial⟩) ⟨rfl, trivial⟩ ?_
    refine ch_g (R := []) rfl rfl rfl gate_f (fun hC => oc_len rfl rfl (by kernel_rfl)) (fun hC => ⟨(by first | rfl | exact hC | (simp only [Bool.and_eq_true] at hC; first | exact hC.1 | exact hC.1.1 | exact hC.2) | simp_all), trivial⟩) trivial ?_
    refine ch_g (R := []) rfl rfl rfl gate_f (fun hC => oc_move (x := .sl _ _ _) rfl rfl) (fun hC => ⟨(by first | rfl | exact hC | (simp only [Bool.and_eq_true] at hC; first | exact hC.1 | exact hC.1.1 | exact hC.2) | simp_all), trivial⟩) trivial ?_
    refine ch_g (R := []) rfl rfl rfl gate_f (fun hC => oc_len rfl rfl (by kernel_rfl)) (fun hC => ⟨(by first | rfl | exact hC | (simp only [Bool.and_eq_true] at hC; first | exact hC.1 | exact hC.1.1 | exact hC.2) | simp_all), trivial⟩) trivial ?_
    refine ch_g (R := []) rfl rfl rfl gate_f (fun hC => oc_binZ rfl rfl rfl rfl) (fun hC => ⟨(by first | rfl | exact hC | (simp only [Bool.and_eq_true] at hC; first | exact hC.1 | exact hC.1.1 | exact hC.2) | simp_all), (by first | rfl | exact hC | (simp only [Bool.and_eq_true] at hC; first | exact hC.1 | exact hC.1.1 | exact hC.2) | simp_all), trivial⟩) trivial ?_
    refine ch_v (R := []) rfl rfl (oc_or rfl rfl rfl (by first | exact fun h => h | simp_all)) trivial ?_
    refine ck_nil ?_
    refine aw_cond rfl (fun hb => ?_) (fun hb => ?_)
    · have he : (makeP l).2 ≠ 0 := fun h0 => by
        have hg := good_of hw h0
        rw [h0, (g_len hg).1] at hb
        simp at hb
      refine aw_seq ?_
      refine aw_text rfl ?_
      refine ch_v (R := []) rfl rfl (oc_move (x := .val _) rfl rfl) trivial ?_
      refine ch_v (R := []) rfl rfl (oc_binZ rfl rfl rfl rfl) trivial ?_
      refine ch_v (R := []) rfl rfl (oc_move (x := .val _) rfl rfl) trivial ?_
      refine ch_g (R := []) rfl rfl rfl gate_t (fun hC => oc_call rfl (by kernel_rfl) (awake8_pc) rfl (by simp only [PureL, Pure, and_self, pure_slI, pure_slS, rowAv, pieces_pure, pool_pure, bs_pure, implies_true]) (by simp only [PureL, Pure, and_self, pure_slI, pure_slS, rowAv, pieces_pure, pool_pure, bs_pure, implies_true])) (fun hC => ⟨(by first | rfl | exact hC | (simp only [Bool.and_eq_true] at hC; first | exact hC.1 | exact hC.1.1 | exact hC.2) | simp_all), trivial⟩) trivial ?_
      refine ch_v (R := []) rfl rfl (oc_and rfl rfl rfl rfl (by first | exact fun h => h | simp_all)) trivial ?_
      refine ch_v (R := []) rfl rfl (oc_assign (x := .val _) rfl rfl) trivial ?_
      refine ck_nil ?_
      refine aw_ret ?_
      exact ⟨.inl rfl, ResOk.tmp rfl (vb_eq (by simp [he])), trivial⟩
    · have he : (makeP l).2 = 0 := by simp only [Bool.or_eq_false_iff, bne_eq_false_iff_eq] at hb; exact hb.1
      have hg := good_of hw he
      obtain ⟨hz8, hz31⟩ := g_sz hg
      have hby := g_by hg
      have hcl := choose_sz hw
      have hmk := fun k (hk : k ≤ l.length) => (mk_len (ab := (chooseP l 31)) (l := l) k fun j hj => hg.txt j (by omega)).2
      refine aw_skip ?_
      refine aw_seq ?_
      refine aw_text rfl ?_
      refine ch_v (R := []) rfl rfl (oc_assign (x := .val _) rfl rfl) trivial ?_
      refine ck_nil ?_
      refine aw_seq ?_
      refine aw_seq ?_
      refine aw_text rfl ?_
      refine ch_v (R := []) rfl rfl (oc_move (x := .sl _ _ _) rfl rfl) trivial ?_
      refine ch_v (R := []) rfl rfl (oc_len rfl rfl (by kernel_rfl)) trivial ?_
      refine ch_v (R := []) rfl rfl (oc_move (x := .val _) rfl rfl) trivial ?_
      refine ck_nil ?_
      refine aw_block ?_
      refine aw_loop (ι := Nat) (fun k => ⟨[(0, slS l), (3, .own 0 0), (5, vi (((mkK (chooseP l 31) l k).2.length : Nat) : Int)), (35, slS l), (36, vi (l.length : Int)), (37, vi k)], [(0, .live 28 [slS (makeP l).1.abbrevs, slI (makeP l).1.at_, bs (makeP l).1.bytes])]⟩) (fun k => k ≤ l.length) (fun k => l.length - k) 0 (Nat.zero_le _) (Le.sub ⟨.inr rfl, .inr rfl, .inr rfl, .inr rfl, .inr rfl, .inr rfl, trivial⟩ ⟨rfl, trivial⟩) ?_
      intro k hI
      refine aw_seq ?_
      refine aw_text rfl ?_
      refine ch_v (R := []) rfl rfl (oc_binZ rfl rfl rfl rfl) trivial ?_
      refine ck_nil ?_
      refine aw_seq ?_
      refine aw_cond rfl (fun hb => ?_) (fun hb => ?_)
      · have hlt : k < l.length := by have h0 := of_decide_eq_true hb; omega
        obtain ⟨hx1, hx2, hx3⟩ := pack_small (chooseP l 31) (hg.txt k hlt)
        have hmk1 := hmk k (by omega)
        have hal := (g_len hg).1
        have hpl := (packed_len (chooseP l 31) (hg.txt k hlt)).2
        have hcs : 0 ≤ costS (l.getD k ByteArray.empty) ∧ costS (l.getD k ByteArray.empty) ≤ 3 * ((l.getD k ByteArray.empty).size : Int) := cst_bd _ _
        refine aw_skip ?_
        refine aw_seq ?_
        refine aw_block ?_
        refine aw_seq ?_
        refine aw_text rfl ?_
        refine ch_v (R := []) rfl rfl (oc_move (x := .val _) rfl rfl) trivial ?_
        refine ch_v (R := []) rfl rfl ((by first | exact oc_indexN rfl rfl rfl (by kernel_rfl) (by omega) | exact oc_index rfl rfl rfl (by kernel_rfl) (by omega) (by omega) rfl)) trivial ?_
        refine ch_v (R := []) rfl rfl (oc_load rfl rfl (by kernel_rfl) cells_str) trivial ?_
        refine ch_v (R := []) rfl rfl (oc_assign (x := .val _) rfl rfl) trivial ?_
        refine ch_v (R := []) rfl rfl (oc_assign (x := .val _) rfl rfl) trivial ?_
        refine ck_nil ?_
        refine aw_seq ?_
        refine aw_seq ?_
        refine aw_text rfl ?_
        refine ch_v (R := [(_, .live _ _)]) rfl rfl (oc_fieldAddr_own (off := 1) (sz := 1) (r := false) rfl rfl (by first | decide | simp) (by kernel_rfl) (by decide)) ⟨rfl, trivial⟩ ?_
        refine ch_v (R := [(_, .live _ _)]) rfl rfl (oc_load_own rfl rfl (by kernel_rfl) rfl) ⟨rfl, trivial⟩ ?_
        refine ch_v (R := []) rfl rfl (oc_move (x := .val _) rfl rfl) trivial ?_
        refine ch_v (R := []) rfl rfl ((by first | exact oc_indexN rfl rfl rfl (by kernel_rfl) (by omega) | exact oc_index rfl rfl rfl (by kernel_rfl) (by omega) (by omega) rfl)) trivial ?_
        refine ch_v (R := []) rfl rfl (oc_load rfl rfl (by kernel_rfl) cells_int) trivial ?_
        refine ch_v (R := []) rfl rfl (oc_move (x := .val _) rfl rfl) trivial ?_
        refine ch_v (R := []) rfl rfl (oc_binZ rfl rfl rfl rfl) trivial ?_
        refine ck_nil ?_
        refine aw_cond rfl (fun hb => ?_) (fun hb => ?_)
        · exact absurd hb (by (rw [show (makeP l).1.at_.getD k 0 = ((mkK (chooseP l 31) l k).2.length : Int) from g_from hg hlt]; simp))
        · refine aw_skip ?_
          refine aw_seq ?_
          refine aw_draw mixed ?_
          refine ch_v (R := []) rfl rfl (oc_move (x := .val _) rfl rfl) trivial ?_
          refine ch_v (R := [(_, .live _ _)]) rfl rfl (oc_fieldAddr_own (off := 0) (sz := 1) (r := false) rfl rfl (by first | decide | simp) (by kernel_rfl) (by decide)) ⟨rfl, trivial⟩ ?_
          refine ch_v (R := [(_, .live _ _)]) rfl rfl (oc_load_own rfl rfl (by kernel_rfl) rfl) ⟨rfl, trivial⟩ ?_
          refine ch_v (R := []) rfl rfl (oc_call rfl (by kernel_rfl) (cut_pc (l.getD k ByteArray.empty) (makeP l).1.abbrevs (by omega) (fun j => Nat.le_trans (hz8 j) (by omega)) (by omega)) rfl (by simp only [PureL, Pure, and_self, pure_slI, pure_slS, rowAv, pieces_pure, pool_pure, bs_pure, implies_true]) (by simp only [PureL, Pure, and_self, pure_slI, pure_slS, rowAv, pieces_pure, pool_pure, bs_pure, implies_true])) trivial ?_
          refine ch_v (R := [(_, .live _ _)]) rfl rfl (oc_fieldAddr_own (off := 0) (sz := 1) (r := false) rfl rfl (by first | decide | simp) (by kernel_rfl) (by decide)) ⟨rfl, trivial⟩ ?_
          refine ch_v (R := [(_, .live _ _)]) rfl rfl (oc_load_own rfl rfl (by kernel_rfl) rfl) ⟨rfl, trivial⟩ ?_
          refine ch_v (R := []) rfl rfl (oc_call rfl (by kernel_rfl) ((show PC _ _ [piecesAv (cutP (l.getD k ByteArray.empty) (makeP l).1.abbrevs), slS (makeP l).1.abbrevs] (vi ((packedP (l.getD k ByteArray.empty) (chooseP l 31)).length : Int)) from bits_cut hg hlt ▸ pcost_pc (cutP (l.getD k ByteArray.empty) (makeP l).1.abbrevs) (cut_few8 _ hx1) (makeP l).1.abbrevs)) rfl (by simp only [PureL, Pure, and_self, pure_slI, pure_slS, rowAv, pieces_pure, pool_pure, bs_pure, implies_true]) (by simp only [PureL, Pure, and_self, pure_slI, pure_slS, rowAv, pieces_pure, pool_pure, bs_pure, implies_true])) trivial ?_
          refine ch_v (R := []) rfl rfl (oc_assign (x := .val _) rfl rfl) trivial ?_
          refine ck_nil ⟨by kernel_rfl, ?_⟩
          refine aw_seq ?_
          refine aw_text rfl ?_
          refine ch_v (R := []) rfl rfl (oc_move (x := .val _) rfl rfl) trivial ?_
          refine ch_v (R := []) rfl rfl (oc_move (x := .val _) rfl rfl) trivial ?_
          refine ch_v (R := []) rfl rfl (oc_binZ rfl rfl rfl (by first | exact binW_add (by omega) (by omega) | rfl)) trivial ?_
          refine ch_v (R := []) rfl rfl (oc_binZ rfl rfl rfl (by first | exact binW_mul (by omega) (by omega) | rfl)) trivial ?_
          refine ch_v (R := []) rfl rfl (oc_binZ rfl rfl rfl (by first | exact binW_add (by omega) (by omega) | rfl)) trivial ?_
          refine ch_v (R := []) rfl rfl (OC.cast (oc_quo rfl rfl rfl (by omega)) (show Av.val (.int .i64 (IntKind.i64.wrap ((5 * (((packedP (l.getD k ByteArray.empty) (chooseP l 31)).length : Int) + 1) + 7).tdiv 8))) = vi ((5 * (((packedP (l.getD k ByteArray.empty) (chooseP l 31)).length : Int) + 1) + 7).tdiv 8) from by rw [Int.tdiv_eq_ediv_of_nonneg (by omega), i64_in _ (by omega) (by omega)])) trivial ?_
          have hbs := bits_sum (ab := (chooseP l 31)) (l := l) (k := k) (c := ((packedP (l.getD k ByteArray.empty) (chooseP l 31)).length : Int)) rfl
          have hmk2 := hmk (k + 1) (by omega)
          refine ch_v (R := []) rfl rfl (oc_binZ rfl rfl rfl (by first | exact binW_add (by omega) (by omega) | rfl)) trivial ?_
          refine ch_v (R := []) rfl rfl (oc_assign (x := .val _) rfl rfl) trivial ?_
          refine ck_nil ?_
          refine aw_seq ?_
          refine aw_text rfl ?_
          refine ch_v (R := []) rfl rfl (oc_move (x := .val _) rfl rfl) trivial ?_
          refine ch_v (R := []) rfl rfl (oc_move (x := .val _) rfl rfl) trivial ?_
          refine ch_v (R := []) rfl rfl (oc_call rfl (by kernel_rfl) (cost_pc (l.getD k ByteArray.empty) (by omega)) rfl (by simp only [PureL, Pure, and_self, pure_slI, pure_slS, rowAv, pieces_pure, pool_pure, bs_pure, implies_true]) (by simp only [PureL, Pure, and_self, pure_slI, pure_slS, rowAv, pieces_pure, pool_pure, bs_pure, implies_true])) trivial ?_
          refine ch_v (R := []) rfl rfl (oc_binZ rfl rfl rfl rfl) trivial ?_
          refine ck_nil ?_
          refine aw_cond rfl (fun hb => ?_) (fun hb => ?_)
          · exact absurd hb (by (intro hb; have h0 := of_decide_eq_true hb; omega))
          · refine aw_skip ?_
            refine aw_text rfl ?_
            refine ch_v (R := []) rfl rfl (oc_binZ rfl rfl rfl (by first | exact binW_add (by omega) (by omega) | rfl)) trivial ?_
            refine ch_v (R := []) rfl rfl (oc_move (x := .val _) rfl rfl) trivial ?_
            refine ck_nil ?_
            exact ⟨k + 1, by omega, by omega, Le.sub ⟨.inr rfl, .inr rfl, .inr (vi_eq (bits_sum rfl)), .inr rfl, .inr rfl, .inr (vi_eq (by omega)), trivial⟩ ⟨rfl, trivial⟩⟩
      · have hge : k = l.length := by have h0 := of_decide_eq_false hb; omega
        subst hge
        have hmk1 := hmk l.length (by omega)
        refine aw_exit ?_
        refine aw_seq ?_
        refine aw_text rfl ?_
        refine ch_v (R := []) rfl rfl (oc_move (x := .sl _ _ _) rfl rfl) trivial ?_
        refine ch_v (R := []) rfl rfl (oc_call rfl (by kernel_rfl) (choose_pc l hw 31) rfl (by simp only [PureL, Pure, and_self, pure_slI, pure_slS, rowAv, pieces_pure, pool_pure, bs_pure, implies_true]) (by simp only [PureL, Pure, and_self, pure_slI, pure_slS, rowAv, pieces_pure, pool_pure, bs_pure, implies_true])) trivial ?_
        refine ch_v (R := []) rfl rfl (oc_assign (x := .sl _ _ _) rfl rfl) trivial ?_
        refine ck_nil ?_
        refine aw_seq ?_
        refine aw_seq ?_
        refine aw_text rfl ?_
        refine ch_v (R := []) rfl rfl (oc_move (x := .sl _ _ _) rfl rfl) trivial ?_
        refine ch_v (R := []) rfl rfl (oc_len rfl rfl (by kernel_rfl)) trivial ?_
        refine ch_v (R := [(_, .live _ _)]) rfl rfl (oc_fieldAddr_own (off := 0) (sz := 1) (r := false) rfl rfl (by first | decide | simp) (by kernel_rfl) (by decide)) ⟨rfl, trivial⟩ ?_
        refine ch_v (R := [(_, .live _ _)]) rfl rfl (oc_load_own rfl rfl (by kernel_rfl) rfl) ⟨rfl, trivial⟩ ?_
        refine ch_v (R := []) rfl rfl (oc_len rfl rfl (by kernel_rfl)) trivial ?_
        refine ch_v (R := []) rfl rfl (oc_binZ rfl rfl rfl rfl) trivial ?_
        refine ck_nil ?_
        refine aw_cond rfl (fun hb => ?_) (fun hb => ?_)
        · exact absurd hb (by (rw [g_abb hg]; simp))
        · refine aw_skip ?_
          refine aw_seq ?_
          refine aw_seq ?_
          refine aw_text rfl ?_
          refine ch_v (R := []) rfl rfl (oc_move (x := .sl _ _ _) rfl rfl) trivial ?_
          refine ch_v (R := []) rfl rfl (oc_len rfl rfl (by kernel_rfl)) trivial ?_
          refine ch_v (R := []) rfl rfl (oc_move (x := .val _) rfl rfl) trivial ?_
          refine ck_nil ?_
          refine aw_block ?_
          refine aw_loop (ι := Nat) (fun k => ⟨[(3, .own 0 0), (5, vi (((mkK (chooseP l 31) l l.length).2.length : Nat) : Int)), (9, slS (chooseP l 31)), (77, vi ((chooseP l 31).length : Int)), (78, vi k)], [(0, .live 28 [slS (makeP l).1.abbrevs, slI (makeP l).1.at_, bs (makeP l).1.bytes])]⟩) (fun k => k ≤ (chooseP l 31).length) (fun k => (chooseP l 31).length - k) 0 (Nat.zero_le _) (Le.sub ⟨.inr rfl, .inr rfl, .inr rfl, .inr rfl, .inr rfl, trivial⟩ ⟨rfl, trivial⟩) ?_
          intro k hI
          refine aw_seq ?_
          refine aw_text rfl ?_
          refine ch_v (R := []) rfl rfl (oc_binZ rfl rfl rfl rfl) trivial ?_
          refine ck_nil ?_
          refine aw_seq ?_
          refine aw_cond rfl (fun hb => ?_) (fun hb => ?_)
          · have hlt : k < (chooseP l 31).length := by have h0 := of_decide_eq_true hb; omega
            have hab2 := g_abb hg
            have hab3 : (makeP l).1.abbrevs.length = (chooseP l 31).length := by rw [hab2]
            refine aw_skip ?_
            refine aw_seq ?_
            refine aw_block ?_
            refine aw_seq ?_
            refine aw_text rfl ?_
            refine ch_v (R := []) rfl rfl (oc_move (x := .val _) rfl rfl) trivial ?_
            refine ch_v (R := []) rfl rfl (oc_assign (x := .val _) rfl rfl) trivial ?_
            refine ck_nil ?_
            refine aw_seq ?_
            refine aw_draw mixed ?_
            refine ch_v (R := []) rfl rfl (oc_move (x := .sl _ _ _) rfl rfl) trivial ?_
            refine ch_v (R := []) rfl rfl (oc_move (x := .val _) rfl rfl) trivial ?_
            refine ch_v (R := []) rfl rfl ((by first | exact oc_indexN rfl rfl rfl (by kernel_rfl) (by omega) | exact oc_index rfl rfl rfl (by kernel_rfl) (by omega) (by omega) rfl)) trivial ?_
            refine ch_v (R := []) rfl rfl (oc_load rfl rfl (by kernel_rfl) cells_str) trivial ?_
            refine ch_v (R := [(_, .live _ _)]) rfl rfl (oc_fieldAddr_own (off := 0) (sz := 1) (r := false) rfl rfl (by first | decide | simp) (by kernel_rfl) (by decide)) ⟨rfl, trivial⟩ ?_
            refine ch_v (R := [(_, .live _ _)]) rfl rfl (oc_load_own rfl rfl (by kernel_rfl) rfl) ⟨rfl, trivial⟩ ?_
            refine ch_v (R := []) rfl rfl (oc_move (x := .val _) rfl rfl) trivial ?_
            refine ch_v (R := []) rfl rfl ((by first | exact oc_indexN rfl rfl rfl (by kernel_rfl) (by omega) | exact oc_index rfl rfl rfl (by kernel_rfl) (by omega) (by omega) rfl)) trivial ?_
            refine ch_v (R := []) rfl rfl (oc_load rfl rfl (by kernel_rfl) cells_str) trivial ?_
            refine ch_v (R := []) rfl rfl (oc_str_ne rfl rfl rfl) trivial ?_
            refine ck_nil ⟨by kernel_rfl, ?_⟩
            refine aw_cond rfl (fun hb => ?_) (fun hb => ?_)
            · exact absurd hb (by (rw [hab2]; simp))
            · refine aw_skip ?_
              refine aw_text rfl ?_
              refine ch_v (R := []) rfl rfl (oc_binZ rfl rfl rfl (by first | exact binW_add (by omega) (by omega) | rfl)) trivial ?_
              refine ch_v (R := []) rfl rfl (oc_move (x := .val _) rfl rfl) trivial ?_
              refine ck_nil ?_
              exact ⟨k + 1, by omega, by omega, Le.sub ⟨.inr rfl, .inr rfl, .inr rfl, .inr rfl, .inr (vi_eq (by omega)), trivial⟩ ⟨rfl, trivial⟩⟩
          · refine aw_exit ?_
            refine aw_seq ?_
            refine aw_text rfl ?_
            refine ch_v (R := []) rfl rfl (oc_move (x := .val _) rfl rfl) trivial ?_
            refine ch_v (R := [(_, .live _ _)]) rfl rfl (oc_fieldAddr_own (off := 2) (sz := 1) (r := false) rfl rfl (by first | decide | simp) (by kernel_rfl) (by decide)) ⟨rfl, trivial⟩ ?_
            refine ch_v (R := [(_, .live _ _)]) rfl rfl (oc_load_own rfl rfl (by kernel_rfl) rfl) ⟨rfl, trivial⟩ ?_
            refine ch_v (R := []) rfl rfl (oc_len rfl rfl (by kernel_rfl)) trivial ?_
            refine ch_v (R := []) rfl rfl (oc_binZ rfl rfl rfl rfl) trivial ?_
            refine ch_v (R := []) rfl rfl (oc_move (x := .val _) rfl rfl) trivial ?_
            refine ch_g (R := []) rfl rfl rfl gate_t (fun hC => oc_call rfl (by kernel_rfl) (awake8_pc) rfl (by simp only [PureL, Pure, and_self, pure_slI, pure_slS, rowAv, pieces_pure, pool_pure, bs_pure, implies_true]) (by simp only [PureL, Pure, and_self, pure_slI, pure_slS, rowAv, pieces_pure, pool_pure, bs_pure, implies_true])) (fun hC => ⟨(by first | rfl | exact hC | (simp only [Bool.and_eq_true] at hC; first | exact hC.1 | exact hC.1.1 | exact hC.2) | simp_all), trivial⟩) trivial ?_
            refine ch_v (R := []) rfl rfl (oc_and rfl rfl rfl rfl (by first | exact fun h => h | simp_all)) trivial ?_
            refine ch_v (R := []) rfl rfl (oc_assign (x := .val _) rfl rfl) trivial ?_
            refine ck_nil ?_
            refine aw_ret ?_
            exact ⟨.inl rfl, ResOk.tmp rfl (vb_eq (by rw [hby]; simp)), trivial⟩
end Go.Proofs.YtpbaiighifhfnaaDoor
