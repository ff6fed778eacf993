/- Chapter 46: the images one by one, and the loop over them, walked. -/
import Derived.Test.YtjjgdjcapfenpaaUf
import Derived.Test.YtjjgdjcapfenpaaProg
import Derived.KernelRfl
namespace Go.Proofs.Ytjjgdjcapfenpaa
open Go.RowKit
set_option maxRecDepth 100000
set_option linter.unusedVariables false
set_option linter.unusedSimpArgs false
def accE (acc : List (List Int)) (x : List Int) (e : Int) : List (List Int) := if e = 0 then acc ++ [x] else acc
theorem accE_ok (acc : List (List Int)) (x : List Int) : accE acc x 0 = acc ++ [x] := rfl
theorem accE_bad {acc : List (List Int)} {x : List Int} {e : Int} (h : e ≠ 0) : accE acc x e = acc := if_neg h
abbrev outR (r : List (List Int)) (e : Int) (m : Nat) : List (Nat × Hs) := [(0, .live 23 [.val (.slice none 0 0)]), (1, .live 33 [vi e]), (2, .live 23 [.osl 1 m r.length])]
/-- What a round makes of the images so far. -/
def RoundOk (P : Program) (l N : Nat) (ps : List Nat) (assign body : Code) (σ : List (Nat × Av)) : Prop :=
  ∀ (acc : List (List Int)) (x : List Int) (e : Int), acc.length ≤ 100001 → RC P l N ps assign body σ [bs x, vi e] (outR acc 0 4) [(4, .live 22 (acc.map bs))] 7 (decide (e = 0)) (outR (accE acc x e) e 6 ++ [(6, .live 22 ((accE acc x e).map bs))])
theorem noH_loop {η : List (Nat × Hs)} {Z : List Nat} {τ : List (Nat × Hs)} {n l N : Nat} {ps : Array Nat} {assign body : Code} {pe : Option Code} {σ : List (Nat × Av)} (hn : n ∉ Z) (h1 : lkH η n = some (.loop l N ps assign body pe σ)) (h2 : noS Z σ) (h3 : noH η Z τ) : noH η Z ((n, .loop l N ps assign body pe σ) :: τ) := by
  unfold noH
  rw [if_neg hn]
  exact ⟨⟨h1, h2⟩, h3⟩
set_option maxHeartbeats 1600000 in
theorem images1_fcm (l N : Nat) (ps : List Nat) (assign body : Code) (σ : List (Nat × Av)) (hlen : ps.length = 2) (hN : ∀ p ∈ ps, p < N) (hσ : InS (· ∈ [0, 1, 2, 4]) σ) (hσn : noS [6, 7] σ) (hσr : (Hs.loop l N ps.toArray assign body none σ).ren (swapN 4 6) = .loop l N ps.toArray assign body none σ)
    (rc : RoundOk Try.prog l N ps assign body σ) (h : HistP) (hk : HOk h) :
    FCM Try.prog 40 [.val (.func (.yield l) #[] #[]), .own 3 0] ((5, .loop l N ps.toArray assign body none σ) :: outR [] 0 4) [(3, .live 25 [vi (h).most, bs (h).now, bsl (h).ds]), (4, .live 22 [])] .any
      ((5, .loop l N ps.toArray assign body (bif decide ((allR h).2 = 0) then none else some .ret) σ) :: (outR (allR h).1 (allR h).2 6 ++ [(6, .live 22 ((allR h).1.map bs))])) := by
  refine FCM.body 10 25 Try.func40 rfl (by kernel_rfl) ?_
  refine aw_block ?_
  refine aw_loop (ι := HistP × List (List Int)) (fun q => ⟨[(0, .val (.func (.yield l) #[] #[])), (1, .own 3 0)], [(5, .loop l N ps.toArray assign body none σ), (0, .live 23 [.val (.slice none 0 0)]), (1, .live 33 [vi 0]), (2, .live 23 [.osl 1 4 q.2.length]), (3, .live 25 [vi (q.1).most, bs (q.1).now, bsl (q.1).ds]), (4, .live 22 (q.2.map bs)), (6, .unborn), (7, .unborn)]⟩) (fun q => HOk q.1 ∧ allR h = allG (fuelP q.1) q.2 q.1 ∧ q.2.length + fuelP q.1 ≤ 100001) (fun q => fuelP q.1) (h, []) (⟨hk, rfl, by have := fuel_le hk; simpa using this⟩) (Le.sub (by repeat (first | trivial | refine ⟨.inr rfl, ?_⟩ | refine ⟨.inr (vi_eq (by omega)), ?_⟩)) (by repeat (first | trivial | refine ⟨rfl, ?_⟩))) ?_
  intro q hI
  have hqb := hI.2.2
  refine aw_seq ?_
  refine aw_seq ?_
  refine aw_text rfl ?_
  refine ch_v (R := [(_, .live _ _)]) rfl rfl (oc_load_own_row (k := 3) (ds := [_, _, _]) rfl rfl (by kernel_rfl) (by kernel_rfl) rfl rfl (by decide)) ⟨rfl, trivial⟩ ?_
  refine ch_v (R := []) rfl rfl (oc_call rfl (by kernel_rfl) (empty_pc q.1) rfl (by simp only [PureL, Pure, and_self, bs_pure, bsl_pure, histAv, implies_true]) (by simp only [PureL, Pure, and_self, bs_pure, bsl_pure, histAv, implies_true])) trivial ?_
  refine ch_v (R := []) rfl rfl (oc_not rfl rfl) trivial ?_
  refine ck_nil ?_
  refine aw_cond rfl (fun hb => ?_) (fun hb => ?_)
  · have h0 : ¬ q.1.now.length = 0 := by simpa using hb
    refine aw_skip ?_
    refine aw_block ?_
    refine aw_seq ?_
    refine aw_text rfl ?_
    refine ch_v (R := [(_, .live _ _)]) rfl rfl (oc_load_own_row (k := 3) (ds := [_, _, _]) rfl rfl (by kernel_rfl) (by kernel_rfl) rfl rfl (by decide)) ⟨rfl, trivial⟩ ?_
    refine ch_v (R := []) rfl rfl (oc_call rfl (by kernel_rfl) (pop_pc q.1 hI.1) rfl (by simp only [PureL, Pure, and_self, bs_pure, bsl_pure, histAv, implies_true]) (by simp only [PureL, Pure, and_self, bs_pure, bsl_pure, histAv, implies_true])) trivial ?_
    refine ch_v (R := []) rfl rfl (oc_move (x := .tup _) rfl rfl) trivial ?_
    refine ch_v (R := []) rfl rfl (oc_extract rfl rfl rfl) trivial ?_
    refine ch_v (R := []) rfl rfl (oc_extract rfl rfl rfl) trivial ?_
    refine ch_v (R := []) rfl rfl (oc_extract rfl rfl rfl) trivial ?_
    refine ch_u rfl rfl (oc_alloc (zs := [.int .i64 0, .slice none 0 0, .slice none 0 0]) (cs := [.val _, .val _, .val _]) 7 rfl (by kernel_rfl) rfl rfl) ⟨rfl, trivial⟩ ?_
    refine ch_v (R := []) rfl rfl (oc_assign (x := .sl _ _ _) rfl rfl) trivial ?_
    refine ch_n rfl rfl (oc_store_row (x := .agg _) (cs' := [_, _, _]) rfl rfl rfl rfl (by kernel_rfl) (by first | decide | exact Nat.le_of_ble_eq_true rfl | simp) (by first | decide | exact Nat.le_of_ble_eq_true rfl | simp) rfl) ⟨rfl, trivial⟩ ?_
    refine ch_v (R := []) rfl rfl (oc_assign (x := .val _) rfl rfl) trivial ?_
    refine ck_nil ?_
    refine aw_seq ?_
    refine aw_seq ?_
    refine aw_text rfl ?_
    refine ch_v (R := []) rfl rfl (oc_move (x := .val _) rfl rfl) trivial ?_
    refine ch_v (R := []) rfl rfl (oc_move (x := .sl _ _ _) rfl rfl) trivial ?_
    refine ch_v (R := []) rfl rfl (oc_move (x := .val _) rfl rfl) trivial ?_
    refine ch_r rfl rfl (oc_yield (nl := 5) (xs := [bs (popP q.1).1, vi (popP q.1).2.2]) [6] rfl rfl rfl (rc q.2 (popP q.1).1 (popP q.1).2.2 (by omega)) hlen hN (by simp) (by simp) (by simp) (by simp) (by simp) (by simp [bornH]) (InNL.of_pure _ (by simp [PureL, Pure, bs_pure])) hσ ⟨by simp [InH, InNL, InN], by simp [InH, InNL, InN], by simp [InH, InNL, InN], inNL_bs _, trivial⟩ ⟨by simp [InH, InNL, InN], by simp [InH, InNL, InN], by simp [InH, InNL, InN], inNL_bs _, trivial⟩) ⟨rfl, rfl, rfl, rfl, rfl, rfl, trivial⟩ ?_
    refine ch_v (R := []) rfl rfl (oc_not rfl rfl) trivial ?_
    refine ch_v (R := []) rfl rfl (oc_move (x := .val _) rfl rfl) trivial ?_
    refine ch_g (R := []) rfl rfl rfl gate_f (fun hC => oc_move (x := .val _) rfl rfl) (fun hC => ⟨(by first | rfl | exact hC | (simp only [Bool.and_eq_true] at hC; first | exact hC.1 | exact hC.1.1 | exact hC.2) | simp_all), trivial⟩) trivial ?_
    refine ch_g (R := []) rfl rfl rfl gate_f (fun hC => oc_binZ rfl rfl rfl rfl) (fun hC => ⟨(by first | rfl | exact hC | (simp only [Bool.and_eq_true] at hC; first | exact hC.1 | exact hC.1.1 | exact hC.2) | simp_all), (by first | rfl | exact hC | (simp only [Bool.and_eq_true] at hC; first | exact hC.1 | exact hC.1.1 | exact hC.2) | simp_all), trivial⟩) trivial ?_
    refine ch_v (R := []) rfl rfl (oc_or rfl rfl rfl (by first | exact fun h => h | simp_all)) trivial ?_
    refine ck_nil ?_
    refine aw_cond rfl (fun hb => ?_) (fun hb => ?_)
    · have he : (popP q.1).2.2 ≠ 0 := by simpa using hb
      refine aw_ret ?_
      have hR : allR h = (q.2, (popP q.1).2.2) := hI.2.1.trans (all_bad h0 he)
      refine ⟨.inl rfl, res_none rfl, ?_⟩
      rw [hR]
      refine ⟨rfl, rfl, rfl, ?_, ?_, trivial⟩
      · rw [accE_bad he]; rfl
      · rw [accE_bad he]; rfl
    · have he : (popP q.1).2.2 = 0 := by simpa using hb
      rw [he]
      refine aw_skip ?_
      refine aw_text rfl ?_
      refine ch_v (R := [(_, .live _ _)]) rfl rfl (oc_load_own_row (k := 3) (ds := [_, _, _]) rfl rfl (by kernel_rfl) (by kernel_rfl) rfl rfl (by decide)) ⟨rfl, trivial⟩ ?_
      refine ch_n rfl rfl (oc_store_row (x := .agg _) (cs' := [_, _, _]) rfl rfl rfl rfl (by kernel_rfl) (by first | decide | exact Nat.le_of_ble_eq_true rfl | simp) (by first | decide | exact Nat.le_of_ble_eq_true rfl | simp) rfl) ⟨rfl, trivial⟩ ?_
      refine ck_nil ?_
      refine ⟨((popP q.1).2.1, q.2 ++ [(popP q.1).1]), ⟨pop_ok hI.1, ?_, ?_⟩, ?_, Le.trans (Le.swap (τ := ⟨[(0, .val (.func (.yield l) #[] #[])), (1, .own 3 0)], [(5, .loop l N ps.toArray assign body none σ), (0, .live 23 [.val (.slice none 0 0)]), (1, .live 33 [vi 0]), (2, .live 23 [.osl 1 4 (q.2 ++ [(popP q.1).1]).length]), (3, .live 25 [vi ((popP q.1).2.1).most, bs ((popP q.1).2.1).now, bsl ((popP q.1).2.1).ds]), (4, .live 22 ((q.2 ++ [(popP q.1).1]).map bs))]⟩) 4 6 (by simp) (by simp) ⟨rfl, rfl, trivial⟩ (renH_cons ?_ (renH_cons rfl (renH_cons rfl (renH_cons ?_ (renH_cons ?_ (renH_cons ?_ trivial))))))) (Le.reset [6, 7] (by simp) (by repeat (first | trivial | refine ⟨.inr rfl, ?_⟩)) ⟨by simp [NoN], by simp [NoN], trivial⟩ (noH_loop (by decide) rfl hσn (noH_live (by decide) rfl (by simp [NoN]) (noH_live (by decide) rfl (by simp [NoN]) (noH_live (by decide) rfl (by simp [NoN]) (noH_live (by decide) rfl (non_hist _ _ _) (noH_live (by decide) rfl (non_bs _) (noH_unb (by decide) (noH_unb (by decide) noH_nil)))))))))⟩
      · show allR h = allG _ _ _
        rw [hI.2.1, all_step h0 he]
      · show (q.2 ++ [(popP q.1).1]).length + fuelP (popP q.1).2.1 ≤ _
        have := hI.2.2
        have := pop_fuel h0 he
        rw [List.length_append, List.length_singleton]
        omega
      · have := pop_fuel h0 he
        show fuelP (popP q.1).2.1 < fuelP q.1
        omega
      · rw [hσr]; rfl
      · rw [accE_ok]; rfl
      · rw [ren_hist]; rfl
      · rw [ren_bs, accE_ok]; rfl
  · have h0 : q.1.now.length = 0 := by simpa using hb
    have hR : allR h = (q.2, 0) := hI.2.1.trans (all_stop h0 _)
    refine aw_le (Le.swap (τ := ⟨[], [(5, .loop l N ps.toArray assign body none σ), (0, .live 23 [.val (.slice none 0 0)]), (1, .live 33 [vi 0]), (2, .live 23 [.osl 1 6 q.2.length]), (6, .live 22 (q.2.map bs))]⟩) 4 6 (by simp) (by simp) trivial (renH_cons (by rw [hσr]; rfl) (renH_cons rfl (renH_cons rfl (renH_cons rfl (renH_cons (by rw [ren_bs]; rfl) trivial)))))) ?_
    refine aw_exit ?_
    refine ⟨.inr rfl, res_none rfl, ?_⟩
    rw [hR]
    exact ⟨rfl, rfl, rfl, rfl, rfl, trivial⟩
end Go.Proofs.Ytjjgdjcapfenpaa
