/- Chapter 46: All, walked. -/
import Derived.Test.YtjjgdjcapfenpaaUg
import Derived.Test.YtjjgdjcapfenpaaProg
import Derived.KernelRfl
namespace Go.Proofs.Ytjjgdjcapfenpaa
open Go.RowKit
set_option maxRecDepth 100000
set_option linter.unusedVariables false
set_option linter.unusedSimpArgs false
set_option maxHeartbeats 1600000 in
theorem all_pc (h : HistP) (hk : HOk h) : PC Try.prog 18 [histAv h] (.tup [bsl (allP h).1, vi (allP h).2]) := by
  refine FC.bodyM 8 19 Try.func18 rfl (by kernel_rfl) ?_
  refine awm_ahead ?_
  refine aw_text rfl ?_
  refine ch_v (R := []) rfl rfl (oc_box (x := .agg _) rfl rfl) trivial ?_
  refine ch_u rfl rfl (oc_alloc (zs := [.slice none 0 0]) (cs := [.val _]) 0 rfl (by kernel_rfl) rfl rfl) ⟨rfl, trivial⟩ ?_
  refine ch_u rfl rfl (oc_alloc (zs := [.int .i64 0]) (cs := [.val _]) 1 rfl (by kernel_rfl) rfl rfl) ⟨rfl, trivial⟩ ?_
  refine ck_nil ?_
  refine awm_ahead ?_
  refine aw_text rfl ?_
  refine ch_u rfl rfl (oc_alloc (zs := [.slice none 0 0]) (cs := [.val _]) 2 rfl (by kernel_rfl) rfl rfl) ⟨rfl, trivial⟩ ?_
  refine ck_nil ?_
  refine awm_behind ?_
  refine awm_ahead ?_
  refine aw_text rfl ?_
  refine ch_v (R := []) rfl rfl (oc_load_row rfl rfl (by kernel_rfl) (by kernel_rfl) rfl) trivial ?_
  refine ch_u rfl rfl (oc_callFC [3] rfl (by kernel_rfl) (FC.m (images_fc h)) rfl (by simp) (by simp [bornH]) (by simp) (by simp) (InNL.of_pure _ (by simp only [PureL, Pure, and_self, bs_pure, bsl_pure, histAv, implies_true])) trivial (by simp [InN, InNL]) ⟨inNL_hist _ _ _, trivial⟩) ⟨rfl, trivial⟩ ?_
  refine ck_nil ?_
  refine awm_le (Le.nameNilCell 2 0 4 1 22 rfl rfl rfl (by decide)) ?_
  refine awm_block ?_
  refine awm_rangeFunc (gf := 40) (σ := [(2, .own 0 0), (3, .own 1 0), (4, .own 2 0)]) (Rc := outR [] 0 4) (Mc := [(3, .live 25 [vi (h).most, bs (h).now, bsl (h).ds]), (4, .live 22 [])]) (U := outR (allR h).1 (allR h).2 6 ++ [(6, Hs.live 22 ((allR h).1.map bs))]) (B := decide ((allR h).2 = 0)) 5 [6] rfl rfl (by kernel_rfl) (by repeat (first | trivial | refine ⟨.inr rfl, ?_⟩)) ⟨rfl, rfl, rfl, rfl, rfl, trivial⟩ (fun l => images1_fcm l 19 [9, 10] _ _ [(2, .own 0 0), (3, .own 1 0), (4, .own 2 0)] rfl (by decide) ⟨by simp [InN], by simp [InN], by simp [InN], trivial⟩ ⟨by simp [NoN], by simp [NoN], by simp [NoN], trivial⟩ rfl ?_ h hk) ⟨rfl, trivial⟩ (by simp) (by simp) (by simp) (by simp [bornH]) (by simp) (by simp) (by simp [InNL, InN]) ⟨by simp [InN], by simp [InN], by simp [InN], trivial⟩ ⟨by simp [InH, InNL, InN], by simp [InH, InNL, InN], by simp [InH, InNL, InN], inNL_hist _ _ _, (by simp [InH, InNL]), trivial⟩ (by unfold InN; trivial) ⟨by simp [InH, InNL, InN], by simp [InH, InNL, InN], by simp [InH, InNL, InN], inNL_bs _, trivial⟩ ?_
  · intro acc x e hacc
    unfold RC
    refine aw_seq ?_
    refine aw_text rfl ?_
    refine ch_v (R := []) rfl rfl (oc_assign (x := .sl _ _ _) rfl rfl) trivial ?_
    refine ck_nil ?_
    refine aw_text rfl ?_
    refine ch_v (R := []) rfl rfl (oc_assign (x := .val _) rfl rfl) trivial ?_
    refine ck_nil ?_
    refine ⟨rfl, ?_⟩
    refine aw_block ?_
    refine aw_seq ?_
    refine aw_seq ?_
    refine aw_text rfl ?_
    refine ch_v (R := []) rfl rfl (oc_move (x := .val _) rfl rfl) trivial ?_
    refine ch_v (R := []) rfl rfl (oc_binZ rfl rfl rfl rfl) trivial ?_
    refine ck_nil ?_
    refine aw_cond rfl (fun hb => ?_) (fun hb => ?_)
    · have he : e ≠ 0 := by simpa using hb
      refine aw_seq ?_
      refine aw_text rfl ?_
      refine ch_v (R := []) rfl rfl (oc_move (x := .val _) rfl rfl) trivial ?_
      refine ch_n rfl rfl (oc_store (y := .val _) (cs' := [_]) rfl rfl rfl (by kernel_rfl) (by kernel_rfl) (fun E v h => by unfold Rep at h; subst h; rfl) (by first | decide | (simp; done) | (simp; omega)) rfl) ⟨rfl, trivial⟩ ?_
      refine ch_n rfl rfl (oc_store (y := .val _) (cs' := [_]) rfl rfl rfl (by kernel_rfl) (by kernel_rfl) (by first | exact cells_int | exact cells_any) (by first | decide | (simp; done) | (simp; omega)) rfl) ⟨rfl, trivial⟩ ?_
      refine ck_nil ?_
      refine aw_le (Le.swap (τ := ⟨[], [(0, .live 23 [.val (.slice none 0 0)]), (1, .live 33 [vi e]), (2, .live 23 [.osl 1 6 acc.length]), (6, .live 22 (acc.map bs))]⟩) 4 6 (by simp) (by simp) trivial (renH_cons rfl (renH_cons rfl (renH_cons rfl (renH_cons (by rw [ren_bs]; rfl) trivial))))) ?_
      refine aw_ret ?_
      refine ⟨by rw [decide_eq_false he]; rfl, rfl, rfl, by rw [accE_bad he]; rfl, by rw [accE_bad he]; rfl, trivial⟩
    · have he : e = 0 := by simpa using hb
      subst he
      refine aw_skip ?_
      refine aw_text rfl ?_
      refine ch_v (R := [(_, .live _ _)]) rfl rfl (oc_load_own rfl rfl (by kernel_rfl) rfl) ⟨rfl, trivial⟩ ?_
      refine ch_v (R := []) rfl rfl (oc_move (x := .sl _ _ _) rfl rfl) trivial ?_
      refine ch_v (R := []) rfl rfl (oc_buildSlice (ps := [.tmp 15]) (xs := [.sl _ _ _]) (e := 22) (k := 1) (by_ := 24) (zs := [.slice none 0 0]) rfl (by kernel_rfl) (by kernel_rfl) rfl rfl rfl (by decide) (by decide)) trivial ?_
      refine ch_u rfl rfl (oc_append (e := 22) (k := 1) (by_ := 24) (zs := [.slice none 0 0]) (cs := acc.map bs) (ds := [bs x]) 6 rfl rfl rfl (by kernel_rfl) (by kernel_rfl) rfl (by decide) (by decide) (by simp) rfl (app_oneb _) (by omega) (by omega)) ⟨rfl, rfl, trivial⟩ ?_
      refine ch_n rfl rfl (oc_store (y := .osl _ _ _) (cs' := [_]) rfl rfl rfl (by kernel_rfl) (by kernel_rfl) cells_osl (by first | decide | (simp; done) | (simp; omega)) rfl) ⟨rfl, trivial⟩ ?_
      refine ck_nil ?_
      exact ⟨rfl, rfl, rfl, by rw [accE_ok, List.length_append]; rfl, by rw [accE_ok, List.map_append]; rfl, trivial⟩
  · cases hB : decide ((allR h).2 = 0)
    · have he : (allR h).2 ≠ 0 := of_decide_eq_false hB
      exact ⟨.inl rfl, by rw [allP_bad rfl he]; exact ResOk.two rfl ((ResC.one rfl rfl (by kernel_rfl)).to fun E v h => rep_nil0 E v h) (ResC.one rfl rfl (by kernel_rfl)), trivial⟩
    · have he : (allR h).2 = 0 := of_decide_eq_true hB
      refine aw_seq ?_
      refine aw_le (Le.freezeCell 2 0 6 (fun j => bs ((allR h).1.getD j [])) rfl rfl rfl (by decide) (by simp) (row_bs _)) ?_
      refine aw_text rfl ?_
      refine ch_v (R := [(_, .live _ _)]) rfl rfl (oc_load_own rfl rfl (by kernel_rfl) rfl) ⟨rfl, trivial⟩ ?_
      refine ch_n rfl rfl (oc_store (y := .sl _ _ _) (cs' := [_]) rfl rfl rfl (by kernel_rfl) (by kernel_rfl) (by first | exact cells_sl | exact cells_any) (by first | decide | (simp; done) | (simp; omega)) rfl) ⟨rfl, trivial⟩ ?_
      refine ch_n rfl rfl (oc_store (y := .val _) (cs' := [_]) rfl rfl rfl (by kernel_rfl) (by kernel_rfl) (fun E v h => by unfold Rep at h; subst h; rfl) (by first | decide | (simp; done) | (simp; omega)) rfl) ⟨rfl, trivial⟩ ?_
      refine ck_nil ?_
      refine aw_ret ?_
      exact ⟨.inl rfl, by rw [allP_ok (show allR h = ((allR h).1, 0) from by rw [← he])]; exact ResOk.two rfl (ResC.one rfl rfl (by kernel_rfl)) (ResC.one rfl rfl (by kernel_rfl)), trivial⟩
end Go.Proofs.Ytjjgdjcapfenpaa
