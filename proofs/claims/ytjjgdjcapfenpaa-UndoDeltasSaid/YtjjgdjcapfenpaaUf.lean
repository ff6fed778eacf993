/- Chapter 46: all images, walked. -/
import Derived.Test.YtjjgdjcapfenpaaUe
import Derived.Test.YtjjgdjcapfenpaaProg
import Derived.KernelRfl
namespace Go.Proofs.Ytjjgdjcapfenpaa
open Go.RowKit
set_option maxRecDepth 100000
set_option linter.unusedVariables false
set_option linter.unusedSimpArgs false
theorem pop_fuel {h : HistP} (h0 : ¬ h.now.length = 0) (he : (popP h).2.2 = 0) : fuelP (popP h).2.1 + 1 = fuelP h := by
  unfold fuelP
  rw [if_neg h0]
  by_cases h1 : h.ds.length = 0
  · rw [pop_last h0 h1]
    simp [h1]
  · by_cases h2 : (dApp h.now (h.ds.getD 0 [])).2 ≠ 0
    · rw [pop_bad h0 h1 h2] at he
      exact absurd he h2
    · by_cases h3 : (dApp h.now (h.ds.getD 0 [])).1.length = 0
      · rw [pop_form h0 h1 h2 h3] at he
        cases he
      · rw [pop_next h0 h1 h2 h3]
        simp only [List.length_drop]
        rw [if_neg h3]
        omega
theorem all_step {h : HistP} {acc : List (List Int)} (h0 : ¬ h.now.length = 0) (he : (popP h).2.2 = 0) : allG (fuelP h) acc h = allG (fuelP (popP h).2.1) (acc ++ [(popP h).1]) (popP h).2.1 := by
  rw [← pop_fuel h0 he, allG, if_neg h0, if_neg (by simpa using he)]
theorem all_stop {h : HistP} {acc : List (List Int)} (h0 : h.now.length = 0) : ∀ f, allG f acc h = (acc, 0)
  | 0 => rfl
  | f + 1 => by rw [allG, if_pos h0]
theorem all_bad {h : HistP} {acc : List (List Int)} (h0 : ¬ h.now.length = 0) (he : (popP h).2.2 ≠ 0) : allG (fuelP h) acc h = (acc, (popP h).2.2) := by
  obtain ⟨f, hf⟩ : ∃ f, fuelP h = f + 1 := ⟨h.ds.length, by unfold fuelP; rw [if_neg h0]⟩
  rw [hf, allG, if_neg h0, if_pos he]
theorem allP_ok {h : HistP} {acc : List (List Int)} (hr : allR h = (acc, 0)) : allP h = (acc, 0) := by unfold allP; rw [hr]; rfl
theorem allP_bad {h : HistP} {acc : List (List Int)} {e : Int} (hr : allR h = (acc, e)) (he : e ≠ 0) : allP h = ([], e) := by unfold allP; rw [hr]; exact if_pos he
theorem fuel_le {h : HistP} (hk : HOk h) : fuelP h ≤ 100001 := by have := hk.cnt; unfold fuelP; split <;> omega
theorem non_bs {Z : List Nat} (l : List (List Int)) : ∀ z ∈ l.map bs, NoN Z z := fun z hz => by
  obtain ⟨x, _, rfl⟩ := List.mem_map.1 hz
  exact NoN.of_pure _ (bs_pure x)
theorem ren_bs {π : Nat → Nat} {t : TypeId} (l : List (List Int)) : (Hs.live t (l.map bs)).ren π = .live t (l.map bs) := by
  show Hs.live t ((l.map bs).map (Av.ren π)) = _
  rw [List.map_map]
  exact congrArg (Hs.live t) (List.map_congr_left fun x _ => ren_pure π _ (bs_pure x))
theorem ren_hist {π : Nat → Nat} {t : TypeId} (m : Int) (b : List Int) (ds : List (List Int)) : (Hs.live t [vi m, bs b, bsl ds]).ren π = .live t [vi m, bs b, bsl ds] := by
  show Hs.live t [Av.ren π (vi m), Av.ren π (bs b), Av.ren π (bsl ds)] = _
  rw [ren_pure π _ (bs_pure b), ren_pure π _ (bsl_pure ds), ren_pure π (vi m) trivial]
theorem app_oneb (x : List Int) : ∀ j, j < 1 → szB (rowL [bs x] j) 1 = true ∧ ∀ i y, i < 1 → [bs x][j * 1 + i]? = some y → (flatA (rowL [bs x] j))[i]? = some y := fun j hj => by
  have : j = 0 := by omega
  subst this
  refine ⟨rfl, fun i y hi hy => ?_⟩
  have : i = 0 := by omega
  subst this
  exact hy
theorem inNL_bs {Z : Nat → Prop} (l : List (List Int)) : InNL Z (l.map bs) := by
  induction l with
  | nil => unfold InNL; trivial
  | cons x l ih => simp only [List.map_cons]; unfold InNL; exact ⟨InN.of_pure _ (bs_pure x), ih⟩
theorem inNL_hist {Z : Nat → Prop} (m : Int) (b : List Int) (ds : List (List Int)) : InNL Z [vi m, bs b, bsl ds] := InNL.of_pure _ (by simp [PureL, Pure, bs_pure, bsl_pure])
theorem non_hist {Z : List Nat} (m : Int) (b : List Int) (ds : List (List Int)) : ∀ z ∈ [vi m, bs b, bsl ds], NoN Z z := fun z hz => by
  simp only [List.mem_cons, List.not_mem_nil, or_false] at hz
  rcases hz with rfl | rfl | rfl
  · exact NoN.of_pure _ trivial
  · exact NoN.of_pure _ (bs_pure _)
  · exact NoN.of_pure _ (bsl_pure _)
theorem res_none {P : Program} {fn : Func} {Γ : Ctx} (h : fn.results = #[]) : ResOk P fn Γ .any := fun E a _ _ => ⟨_, results_none h _ _ _, by unfold Rep; trivial⟩
set_option maxHeartbeats 800000 in
theorem rall_pc (h : HistP) (hk : HOk h) : PC Try.prog 19 [histAv h] (.tup [bsl (allP h).1, vi (allP h).2]) := by
  refine FC.body 6 27 Try.func19 rfl (by kernel_rfl) ?_
  refine aw_seq ?_
  refine aw_text rfl ?_
  refine ch_u rfl rfl (oc_box_own_row (ds := [_, _, _]) 0 rfl rfl rfl) ⟨rfl, trivial⟩ ?_
  refine ch_v (R := []) rfl rfl (oc_assign (x := .val _) rfl rfl) trivial ?_
  refine ch_v (R := []) rfl rfl (oc_assign (x := .val _) rfl rfl) trivial ?_
  refine ck_nil ?_
  refine aw_seq ?_
  refine aw_text rfl ?_
  refine ch_v (R := []) rfl rfl (oc_assign (x := .val _) rfl rfl) trivial ?_
  refine ck_nil ?_
  refine aw_seq ?_
  refine aw_block ?_
  refine aw_le (Le.nameNil 4 1 1 22 rfl rfl) ?_
  refine aw_loop (ι := HistP × List (List Int)) (fun q => ⟨[(1, .own 0 0), (4, .osl 1 1 q.2.length)], [(0, .live 25 [vi (q.1).most, bs (q.1).now, bsl (q.1).ds]), (1, .live 22 (q.2.map bs)), (2, .unborn), (3, .unborn)]⟩) (fun q => HOk q.1 ∧ allR h = allG (fuelP q.1) q.2 q.1 ∧ q.2.length + fuelP q.1 ≤ 100001) (fun q => fuelP q.1) (h, []) (⟨hk, rfl, by have := fuel_le hk; simpa using this⟩) (Le.sub (by repeat (first | trivial | refine ⟨.inr rfl, ?_⟩ | refine ⟨.inr (vi_eq (by omega)), ?_⟩)) (by repeat (first | trivial | refine ⟨rfl, ?_⟩))) ?_
  intro q hI
  have hqb := hI.2.2
  refine aw_seq ?_
  refine aw_seq ?_
  refine aw_text rfl ?_
  refine ch_v (R := [(_, .live _ _)]) rfl rfl (oc_fieldAddr_own (off := 1) (sz := 1) (r := false) rfl rfl (by first | decide | simp) (by kernel_rfl) (by decide)) ⟨rfl, trivial⟩ ?_
  refine ch_v (R := [(_, .live _ _)]) rfl rfl (oc_load_own rfl rfl (by kernel_rfl) rfl) ⟨rfl, trivial⟩ ?_
  refine ch_v (R := []) rfl rfl (oc_len rfl rfl (by kernel_rfl)) trivial ?_
  refine ch_v (R := []) rfl rfl (oc_binZ rfl rfl rfl rfl) trivial ?_
  refine ck_nil ?_
  refine aw_cond rfl (fun hb => ?_) (fun hb => ?_)
  · have h0 : ¬ q.1.now.length = 0 := by have h1 := of_decide_eq_true hb; omega
    refine aw_skip ?_
    refine aw_block ?_
    refine aw_seq ?_
    refine aw_text rfl ?_
    refine ch_v (R := [(_, .live _ _)]) rfl rfl (oc_load_own_row (k := 3) (ds := [_, _, _]) rfl rfl (by kernel_rfl) (by kernel_rfl) rfl rfl (by decide)) ⟨rfl, trivial⟩ ?_
    refine ch_v (R := []) rfl rfl (oc_call rfl (by kernel_rfl) (rpop_pc q.1 hI.1) rfl (by simp only [PureL, Pure, and_self, bs_pure, bsl_pure, histAv, implies_true]) (by simp only [PureL, Pure, and_self, bs_pure, bsl_pure, histAv, implies_true])) trivial ?_
    refine ch_v (R := []) rfl rfl (oc_move (x := .tup _) rfl rfl) trivial ?_
    refine ch_v (R := []) rfl rfl (oc_extract rfl rfl rfl) trivial ?_
    refine ch_v (R := []) rfl rfl (oc_extract rfl rfl rfl) trivial ?_
    refine ch_v (R := []) rfl rfl (oc_extract rfl rfl rfl) trivial ?_
    refine ch_u rfl rfl (oc_alloc (zs := [.int .i64 0, .slice none 0 0, .slice none 0 0]) (cs := [.val _, .val _, .val _]) 2 rfl (by kernel_rfl) rfl rfl) ⟨rfl, trivial⟩ ?_
    refine ch_v (R := []) rfl rfl (oc_assign (x := .sl _ _ _) rfl rfl) trivial ?_
    refine ch_n rfl rfl (oc_store_row (x := .agg _) (cs' := [_, _, _]) rfl rfl rfl rfl (by kernel_rfl) (by first | decide | exact Nat.le_of_ble_eq_true rfl | simp) (by first | decide | exact Nat.le_of_ble_eq_true rfl | simp) rfl) ⟨rfl, trivial⟩ ?_
    refine ch_v (R := []) rfl rfl (oc_assign (x := .val _) rfl rfl) trivial ?_
    refine ck_nil ?_
    refine aw_seq ?_
    refine aw_seq ?_
    refine aw_text rfl ?_
    refine ch_v (R := []) rfl rfl (oc_move (x := .val _) rfl rfl) trivial ?_
    refine ch_v (R := []) rfl rfl (oc_binZ rfl rfl rfl rfl) trivial ?_
    refine ck_nil ?_
    refine aw_cond rfl (fun hb => ?_) (fun hb => ?_)
    · have he : (popP q.1).2.2 ≠ 0 := by simpa using hb
      refine aw_seq ?_
      refine aw_text rfl ?_
      refine ch_v (R := []) rfl rfl (oc_move (x := .val _) rfl rfl) trivial ?_
      refine ch_v (R := []) rfl rfl (oc_assign (x := .val _) rfl rfl) trivial ?_
      refine ch_v (R := []) rfl rfl (oc_assign (x := .val _) rfl rfl) trivial ?_
      refine ck_nil ?_
      refine aw_ret ?_
      exact ⟨.inl rfl, by rw [allP_bad (hI.2.1.trans (all_bad h0 he)) he]; exact ResOk.two rfl ((ResC.tmp rfl).to fun E v h => rep_nil0 E v h) (ResC.tmp rfl), trivial⟩
    · have he : (popP q.1).2.2 = 0 := by simpa using hb
      refine aw_skip ?_
      refine aw_seq ?_
      refine aw_text rfl ?_
      refine ch_v (R := []) rfl rfl (oc_move (x := .osl _ _ _) rfl rfl) trivial ?_
      refine ch_v (R := []) rfl rfl (oc_move (x := .sl _ _ _) rfl rfl) trivial ?_
      refine ch_v (R := []) rfl rfl (oc_buildSlice (ps := [.tmp 22]) (xs := [.sl _ _ _]) (e := 22) (k := 1) (by_ := 24) (zs := [.slice none 0 0]) rfl (by kernel_rfl) (by kernel_rfl) rfl rfl rfl (by decide) (by decide)) trivial ?_
      refine ch_u rfl rfl (oc_append (e := 22) (k := 1) (by_ := 24) (zs := [.slice none 0 0]) (cs := q.2.map bs) (ds := [bs (popP q.1).1]) 3 rfl rfl rfl (by kernel_rfl) (by kernel_rfl) rfl (by decide) (by decide) (by simp) rfl (app_oneb _) (by omega) (by omega)) ⟨rfl, rfl, trivial⟩ ?_
      refine ch_v (R := []) rfl rfl (oc_assign (x := .osl _ _ _) rfl rfl) trivial ?_
      refine ck_nil ?_
      refine aw_text rfl ?_
      refine ch_v (R := [(_, .live _ _)]) rfl rfl (oc_load_own_row (k := 3) (ds := [_, _, _]) rfl rfl (by kernel_rfl) (by kernel_rfl) rfl rfl (by decide)) ⟨rfl, trivial⟩ ?_
      refine ch_n rfl rfl (oc_store_row (x := .agg _) (cs' := [_, _, _]) rfl rfl rfl rfl (by kernel_rfl) (by first | decide | exact Nat.le_of_ble_eq_true rfl | simp) (by first | decide | exact Nat.le_of_ble_eq_true rfl | simp) rfl) ⟨rfl, trivial⟩ ?_
      refine ck_nil ?_
      refine ⟨((popP q.1).2.1, q.2 ++ [(popP q.1).1]), ⟨pop_ok hI.1, ?_, ?_⟩, ?_, Le.trans (Le.swap (τ := ⟨[(1, .own 0 0), (4, .osl 1 1 (q.2 ++ [(popP q.1).1]).length)], [(0, .live 25 [vi ((popP q.1).2.1).most, bs ((popP q.1).2.1).now, bsl ((popP q.1).2.1).ds]), (1, .live 22 ((q.2 ++ [(popP q.1).1]).map bs))]⟩) 1 3 (by simp) (by simp) ⟨rfl, by show Av.osl 1 3 (q.2.length + 1) = Av.osl 1 _ (q.2 ++ [(popP q.1).1]).length; rw [List.length_append]; rfl, trivial⟩ (renH_cons (by rw [ren_hist]; rfl) (renH_cons (by rw [ren_bs, List.map_append]; rfl) trivial))) (Le.reset [2, 3] (by simp) (by repeat (first | trivial | refine ⟨.inr rfl, ?_⟩)) ⟨by simp [NoN], by simp [NoN], trivial⟩ (noH_live (by decide) rfl (non_hist _ _ _) (noH_live (by decide) rfl (non_bs _) (noH_unb (by decide) (noH_unb (by decide) noH_nil)))))⟩
      · show allR h = allG _ _ _
        rw [hI.2.1, all_step h0 he]
      · show (q.2 ++ [(popP q.1).1]).length + fuelP (popP q.1).2.1 ≤ _
        have := hI.2.2
        have := pop_fuel h0 he
        rw [List.length_append, List.length_singleton]
        omega
      · have := pop_fuel h0 he
        show fuelP (popP q.1).2.1 < fuelP q.1
        omega
  · have h0 : q.1.now.length = 0 := by have h1 := of_decide_eq_false hb; omega
    refine aw_exit ?_
    refine aw_seq ?_
    refine aw_le (Le.freeze 4 1 (fun j => bs (q.2.getD j [])) rfl rfl (by simp) (row_bs _)) ?_
    refine aw_text rfl ?_
    refine ch_v (R := []) rfl rfl (oc_move (x := .sl _ _ _) rfl rfl) trivial ?_
    refine ch_v (R := []) rfl rfl (oc_assign (x := .sl _ _ _) rfl rfl) trivial ?_
    refine ch_v (R := []) rfl rfl (oc_assign (x := .val _) rfl rfl) trivial ?_
    refine ck_nil ?_
    refine aw_ret ?_
    exact ⟨.inl rfl, by rw [allP_ok (hI.2.1.trans (all_stop h0 _))]; exact ResOk.two rfl (ResC.tmp rfl) (ResC.tmp rfl), trivial⟩
set_option maxHeartbeats 800000 in
theorem images_fc (h : HistP) : FC Try.prog 28 [histAv h] ([]) (.clo 40 [.own 3 0]) ([(3, .live 25 [vi (h).most, bs (h).now, bsl (h).ds])]) := by
  refine FC.body 6 4 Try.func28 rfl (by kernel_rfl) ?_
  refine aw_seq ?_
  refine aw_text rfl ?_
  refine ch_u rfl rfl (oc_box_own_row (ds := [_, _, _]) 3 rfl rfl rfl) ⟨rfl, trivial⟩ ?_
  refine ch_v (R := []) rfl rfl (oc_assign (x := .val _) rfl rfl) trivial ?_
  refine ck_nil ?_
  refine aw_seq ?_
  refine aw_text rfl ?_
  refine ch_v (R := []) rfl rfl (oc_makeFunc (cs := [.own _ _]) rfl rfl) trivial ?_
  refine ch_v (R := []) rfl rfl (oc_assign (x := .clo _ _) rfl rfl) trivial ?_
  refine ck_nil ?_
  refine aw_ret ?_
  exact ⟨.inl rfl, ResOk.tmp rfl rfl, ⟨rfl, trivial⟩⟩
end Go.Proofs.Ytjjgdjcapfenpaa
