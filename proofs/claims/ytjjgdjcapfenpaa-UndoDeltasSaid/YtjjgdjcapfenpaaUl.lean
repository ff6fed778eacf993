/- Chapter 46: the laws UndoBack and UndoDeltas, walked. -/
import Derived.Test.YtjjgdjcapfenpaaUi
import Derived.Test.YtjjgdjcapfenpaaUk
import Derived.Test.YtjjgdjcapfenpaaUj
import Derived.Test.YtjjgdjcapfenpaaProg
import Derived.KernelRfl
namespace Go.Proofs.Ytjjgdjcapfenpaa
open Go.RowKit
set_option maxRecDepth 100000
set_option linter.unusedVariables false
set_option linter.unusedSimpArgs false
theorem Le.slot {N : Nat} {D : List Nat} {s : List (Nat × Av)} {h : List (Nat × Hs)} (t : Nat) {x y : Av} (hs : lkS s t = x) (hxy : ∀ E v, Rep E x v → Rep E y v) : Le N D ⟨s, h⟩ ⟨(t, y) :: s, h⟩ := Le.step fun E a hF => by
  refine ⟨E, [], rfl, Step.refl E, hF.good, fun u => ?_, hF.holds.2⟩
  by_cases e : t = u
  · subst e
    rw [lkS_eq]
    exact hxy _ _ (hs ▸ hF.holds.1 t)
  · rw [lkS_ne _ _ e]
    exact hF.holds.1 u
theorem noH_keep {η : List (Nat × Hs)} {Z : List Nat} {τ : List (Nat × Hs)} {n : Nat} (hn : n ∉ Z) (h1 : lkH η n = some .unborn) (h3 : noH η Z τ) : noH η Z ((n, .unborn) :: τ) := by
  unfold noH
  rw [if_neg hn]
  exact ⟨⟨h1, trivial⟩, h3⟩
theorem rem_in (n : Int) : -9223372036854775808 ≤ remN n ∧ remN n < 9223372036854775808 := by have := rem_pos n; omega
theorem pushN_ok {n : Int} {l : List (List Int)} (h : ImgOk 2000 l) (hl : l.length ≤ 60) (k : Nat) (hk : k ≤ l.length) : HOk (pushN n l k) := by
  rw [pushN_is n h k hk]
  refine chain_ok (by decide) (rem_in n) (imgs_ok h k) ?_
  rw [imgs_len n hk]
  omega
theorem imgs_lenZ (n : Int) (l : List (List Int)) : ((imgsK n l l.length).length : Int) = min (l.length : Int) (max 0 (min n 32)) := by
  rw [imgs_len n (Nat.le_refl _)]
  have h1 : remN n = max 0 (min n 32) := by unfold remN; omega
  have := rem_pos n
  omega
theorem pushN_len {n : Int} {l : List (List Int)} (h : ImgOk 2000 l) : lenP (pushN n l l.length) = min (l.length : Int) (max 0 (min n 32)) := by
  rw [pushN_is n h _ (Nat.le_refl _), chain_len (imgs_ok h _), imgs_lenZ]
theorem drop_cons {l : List (List Int)} {k : Nat} (h : k < l.length) : l.drop k = l.getD k [] :: l.drop (k + 1) := by
  rw [List.drop_eq_getElem_cons h]
  simp [List.getD, h]
set_option maxHeartbeats 800000 in
theorem undoBack_pc (n : Int) (hn : (Lit.int .i64 n).wf = true) (l : List (List Int)) (hw : RW l) : PC Try.prog 5 [vi n, bsl l] (vb true) := by
  refine FC.body 6 112 Try.func5 rfl (by kernel_rfl) ?_
  have hll := hw.2
  have hni := i64_wf hn
  refine aw_seq ?_
  refine aw_text rfl ?_
  refine ch_v (R := []) rfl rfl (oc_assign (x := .val _) rfl rfl) trivial ?_
  refine ck_nil ?_
  refine aw_seq ?_
  refine aw_text rfl ?_
  refine ch_v (R := []) rfl rfl (oc_assign (x := .val _) rfl rfl) trivial ?_
  refine ck_nil ?_
  refine aw_seq ?_
  refine aw_seq ?_
  refine aw_text rfl ?_
  refine ch_v (R := []) rfl rfl (oc_move (x := .sl _ _ _) rfl rfl) trivial ?_
  refine ch_v (R := []) rfl rfl (oc_len rfl rfl (by kernel_rfl)) trivial ?_
  refine ch_v (R := []) rfl rfl (oc_move (x := .val _) rfl rfl) trivial ?_
  refine ck_nil ?_
  refine aw_block ?_
  refine aw_loop (ι := Nat) (fun k => ⟨[(0, vi n), (1, bsl l), (5, vi (wsumL l k)), (19, bsl l), (20, vi l.length), (21, vi k)], [(0, .unborn), (1, .unborn), (2, .unborn)]⟩) (fun k => k ≤ l.length ∧ ∀ j, j < k → (l.getD j []).length ≠ 0) (fun k => l.length - k) 0 (⟨Nat.zero_le _, fun j hj => absurd hj (Nat.not_lt_zero j)⟩) (Le.sub (by repeat (first | trivial | refine ⟨.inr rfl, ?_⟩ | refine ⟨.inr (vi_eq (by omega)), ?_⟩)) (by repeat (first | trivial | refine ⟨rfl, ?_⟩))) ?_
  intro k hI
  refine aw_seq ?_
  refine aw_text rfl ?_
  refine ch_v (R := []) rfl rfl (oc_binZ rfl rfl rfl rfl) trivial ?_
  refine ck_nil ?_
  refine aw_seq ?_
  refine aw_cond rfl (fun hb => ?_) (fun hb => ?_)
  · have hlt : k < l.length := by have h0 := of_decide_eq_true hb; omega
    refine aw_skip ?_
    refine aw_seq ?_
    refine aw_block ?_
    refine aw_seq ?_
    refine aw_text rfl ?_
    refine ch_v (R := []) rfl rfl ((by first | exact oc_indexN rfl rfl rfl (by kernel_rfl) (by omega) | exact oc_index rfl rfl rfl (by kernel_rfl) (by omega) (by omega) rfl)) trivial ?_
    refine ch_v (R := []) rfl rfl (oc_load rfl rfl (by kernel_rfl) cells_sl) trivial ?_
    refine ch_v (R := []) rfl rfl (oc_assign (x := .sl _ _ _) rfl rfl) trivial ?_
    refine ck_nil ?_
    refine aw_seq ?_
    refine aw_text rfl ?_
    refine ch_v (R := []) rfl rfl (oc_move (x := .val _) rfl rfl) trivial ?_
    refine ch_v (R := []) rfl rfl (oc_move (x := .sl _ _ _) rfl rfl) trivial ?_
    refine ch_v (R := []) rfl rfl (oc_len rfl rfl (by kernel_rfl)) trivial ?_
    refine ch_v (R := []) rfl rfl (oc_binZ rfl rfl rfl rfl) trivial ?_
    refine ch_v (R := []) rfl rfl (oc_assign (x := .val _) rfl rfl) trivial ?_
    refine ck_nil ?_
    refine aw_seq ?_
    refine aw_text rfl ?_
    refine ch_v (R := []) rfl rfl (oc_move (x := .sl _ _ _) rfl rfl) trivial ?_
    refine ch_v (R := []) rfl rfl (oc_len rfl rfl (by kernel_rfl)) trivial ?_
    refine ch_v (R := []) rfl rfl (oc_binZ rfl rfl rfl rfl) trivial ?_
    refine ck_nil ?_
    refine aw_cond rfl (fun hb => ?_) (fun hb => ?_)
    · refine aw_seq ?_
      refine aw_text rfl ?_
      refine ch_v (R := []) rfl rfl (oc_call rfl (by kernel_rfl) (awake_pc) rfl (by simp only [PureL, Pure, and_self, bs_pure, bsl_pure, histAv, implies_true]) (by simp only [PureL, Pure, and_self, bs_pure, bsl_pure, histAv, implies_true])) trivial ?_
      refine ch_v (R := []) rfl rfl (oc_assign (x := .val _) rfl rfl) trivial ?_
      refine ck_nil ?_
      refine aw_ret ?_
      exact ⟨.inl rfl, ResOk.tmp rfl rfl, trivial⟩
    · have hne : (l.getD k []).length ≠ 0 := by simpa using hb
      refine aw_skip ?_
      refine aw_text rfl ?_
      refine ch_v (R := []) rfl rfl (oc_binZ rfl rfl rfl (by first | exact binW_add (by omega) (by omega) | rfl)) trivial ?_
      refine ch_v (R := []) rfl rfl (oc_move (x := .val _) rfl rfl) trivial ?_
      refine ck_nil ?_
      exact ⟨k + 1, ⟨by omega, fun j hj => (Nat.lt_succ_iff_lt_or_eq.1 hj).elim (hI.2 j) (fun e => e ▸ hne)⟩, by omega, Le.sub (by repeat (first | trivial | refine ⟨.inr rfl, ?_⟩ | refine ⟨.inr (vi_eq (by omega)), ?_⟩)) (by repeat (first | trivial | refine ⟨rfl, ?_⟩))⟩
  · have hge : k = l.length := by have h0 := of_decide_eq_false hb; omega
    subst hge
    refine aw_exit ?_
    refine aw_seq ?_
    refine aw_seq ?_
    refine aw_text rfl ?_
    refine ch_v (R := []) rfl rfl (oc_move (x := .sl _ _ _) rfl rfl) trivial ?_
    refine ch_v (R := []) rfl rfl (oc_len rfl rfl (by kernel_rfl)) trivial ?_
    refine ch_v (R := []) rfl rfl (oc_binZ rfl rfl rfl rfl) trivial ?_
    refine ch_v (R := []) rfl rfl (oc_move (x := .val _) rfl rfl) trivial ?_
    refine ch_g (R := []) rfl rfl rfl gate_f (fun hC => oc_move (x := .val _) rfl rfl) (fun hC => ⟨(by first | rfl | exact hC | (simp only [Bool.and_eq_true] at hC; first | exact hC.1 | exact hC.1.1 | exact hC.2) | simp_all), trivial⟩) trivial ?_
    refine ch_g (R := []) rfl rfl rfl gate_f (fun hC => oc_binZ rfl rfl rfl rfl) (fun hC => ⟨(by first | rfl | exact hC | (simp only [Bool.and_eq_true] at hC; first | exact hC.1 | exact hC.1.1 | exact hC.2) | simp_all), (by first | rfl | exact hC | (simp only [Bool.and_eq_true] at hC; first | exact hC.1 | exact hC.1.1 | exact hC.2) | simp_all), trivial⟩) trivial ?_
    refine ch_v (R := []) rfl rfl (oc_or rfl rfl rfl (by first | exact fun h => h | simp_all)) trivial ?_
    refine ck_nil ?_
    refine aw_cond rfl (fun hb => ?_) (fun hb => ?_)
    · refine aw_seq ?_
      refine aw_text rfl ?_
      refine ch_v (R := []) rfl rfl (oc_call rfl (by kernel_rfl) (awake_pc) rfl (by simp only [PureL, Pure, and_self, bs_pure, bsl_pure, histAv, implies_true]) (by simp only [PureL, Pure, and_self, bs_pure, bsl_pure, histAv, implies_true])) trivial ?_
      refine ch_v (R := []) rfl rfl (oc_assign (x := .val _) rfl rfl) trivial ?_
      refine ck_nil ?_
      refine aw_ret ?_
      exact ⟨.inl rfl, ResOk.tmp rfl rfl, trivial⟩
    · have hq : l.length ≤ 60 ∧ wsumL l l.length ≤ 2000 := by
        simp only [Bool.or_eq_false_iff, decide_eq_false_iff_not] at hb
        omega
      have hio : ImgOk 2000 l := imgs_of (fun d hd => ⟨(hw.1 d hd).2, (hw.1 d hd).1⟩) hq.1 hq.2 hI.2
      refine aw_skip ?_
      refine aw_seq ?_
      refine aw_text rfl ?_
      refine ch_v (R := []) rfl rfl (oc_move (x := .val _) rfl rfl) trivial ?_
      refine ch_v (R := []) rfl rfl (oc_call rfl (by kernel_rfl) (new_pc n) rfl (by simp only [PureL, Pure, and_self, bs_pure, bsl_pure, histAv, implies_true]) (by simp only [PureL, Pure, and_self, bs_pure, bsl_pure, histAv, implies_true])) trivial ?_
      refine ch_u rfl rfl (oc_alloc (zs := [.int .i64 0, .slice none 0 0, .slice none 0 0]) (cs := [.val _, .val _, .val _]) 0 rfl (by kernel_rfl) rfl rfl) ⟨rfl, trivial⟩ ?_
      refine ch_n rfl rfl (oc_store_row (x := .agg _) (cs' := [_, _, _]) rfl rfl rfl rfl (by kernel_rfl) (by first | decide | exact Nat.le_of_ble_eq_true rfl | simp) (by first | decide | exact Nat.le_of_ble_eq_true rfl | simp) rfl) ⟨rfl, trivial⟩ ?_
      refine ck_nil ?_
      refine aw_seq ?_
      refine aw_seq ?_
      refine aw_text rfl ?_
      refine ch_v (R := []) rfl rfl (oc_move (x := .sl _ _ _) rfl rfl) trivial ?_
      refine ch_v (R := []) rfl rfl (oc_len rfl rfl (by kernel_rfl)) trivial ?_
      refine ch_v (R := []) rfl rfl (oc_move (x := .val _) rfl rfl) trivial ?_
      refine ck_nil ?_
      refine aw_block ?_
      refine aw_loop (ι := Nat) (fun k => ⟨[(0, vi n), (1, bsl l), (8, .own 0 0), (44, bsl l), (45, vi l.length), (46, vi k)], [(0, .live 25 [vi (pushN n l k).most, bs (pushN n l k).now, bsl (pushN n l k).ds]), (1, .unborn), (2, .unborn)]⟩) (fun k => k ≤ l.length) (fun k => l.length - k) 0 (Nat.zero_le _) (Le.sub (by repeat (first | trivial | refine ⟨.inr rfl, ?_⟩ | refine ⟨.inr (vi_eq (by omega)), ?_⟩)) (by repeat (first | trivial | refine ⟨rfl, ?_⟩))) ?_
      intro k hI
      refine aw_seq ?_
      refine aw_text rfl ?_
      refine ch_v (R := []) rfl rfl (oc_binZ rfl rfl rfl rfl) trivial ?_
      refine ck_nil ?_
      refine aw_seq ?_
      refine aw_cond rfl (fun hb => ?_) (fun hb => ?_)
      · have hlt : k < l.length := by have h0 := of_decide_eq_true hb; omega
        refine aw_skip ?_
        refine aw_seq ?_
        refine aw_block ?_
        refine aw_seq ?_
        refine aw_text rfl ?_
        refine ch_v (R := []) rfl rfl ((by first | exact oc_indexN rfl rfl rfl (by kernel_rfl) (by omega) | exact oc_index rfl rfl rfl (by kernel_rfl) (by omega) (by omega) rfl)) trivial ?_
        refine ch_v (R := []) rfl rfl (oc_load rfl rfl (by kernel_rfl) cells_sl) trivial ?_
        refine ch_v (R := []) rfl rfl (oc_assign (x := .sl _ _ _) rfl rfl) trivial ?_
        refine ck_nil ?_
        refine aw_text rfl ?_
        refine ch_v (R := [(_, .live _ _)]) rfl rfl (oc_load_own_row (k := 3) (ds := [_, _, _]) rfl rfl (by kernel_rfl) (by kernel_rfl) rfl rfl (by decide)) ⟨rfl, trivial⟩ ?_
        refine ch_v (R := []) rfl rfl (oc_move (x := .sl _ _ _) rfl rfl) trivial ?_
        refine ch_v (R := []) rfl rfl (oc_call rfl (by kernel_rfl) (push_pc (pushN n l k) (pushN_ok hio hq.1 k (by omega)) (l.getD k []) (by have := (hio (l.getD k []) (by rw [List.getD, List.getElem?_eq_getElem hlt]; exact List.getElem_mem _)).2.1; omega)) rfl (by simp only [PureL, Pure, and_self, bs_pure, bsl_pure, histAv, implies_true]) (by simp only [PureL, Pure, and_self, bs_pure, bsl_pure, histAv, implies_true])) trivial ?_
        refine ch_n rfl rfl (oc_store_row (x := .agg _) (cs' := [_, _, _]) rfl rfl rfl rfl (by kernel_rfl) (by first | decide | exact Nat.le_of_ble_eq_true rfl | simp) (by first | decide | exact Nat.le_of_ble_eq_true rfl | simp) rfl) ⟨rfl, trivial⟩ ?_
        refine ck_nil ?_
        refine aw_text rfl ?_
        refine ch_v (R := []) rfl rfl (oc_binZ rfl rfl rfl (by first | exact binW_add (by omega) (by omega) | rfl)) trivial ?_
        refine ch_v (R := []) rfl rfl (oc_move (x := .val _) rfl rfl) trivial ?_
        refine ck_nil ?_
        exact ⟨k + 1, by omega, by omega, Le.sub (by repeat (first | trivial | refine ⟨.inr rfl, ?_⟩ | refine ⟨.inr (vi_eq (by omega)), ?_⟩)) (by repeat (first | trivial | refine ⟨rfl, ?_⟩))⟩
      · have hge : k = l.length := by have h0 := of_decide_eq_false hb; omega
        subst hge
        refine aw_exit ?_
        refine aw_seq ?_
        refine aw_text rfl ?_
        refine ch_v (R := []) rfl rfl (oc_move (x := .sl _ _ _) rfl rfl) trivial ?_
        refine ch_v (R := []) rfl rfl (oc_len rfl rfl (by kernel_rfl)) trivial ?_
        refine ch_v (R := []) rfl rfl (oc_move (x := .val _) rfl rfl) trivial ?_
        refine ch_v (R := []) rfl rfl (oc_min rfl rfl rfl) trivial ?_
        refine ch_v (R := []) rfl rfl (oc_max rfl rfl rfl) trivial ?_
        refine ch_v (R := []) rfl rfl (oc_min rfl rfl rfl) trivial ?_
        refine ch_v (R := []) rfl rfl (oc_assign (x := .val _) rfl rfl) trivial ?_
        refine ck_nil ?_
        refine aw_seq ?_
        refine aw_seq ?_
        refine aw_text rfl ?_
        refine ch_v (R := [(_, .live _ _)]) rfl rfl (oc_load_own_row (k := 3) (ds := [_, _, _]) rfl rfl (by kernel_rfl) (by kernel_rfl) rfl rfl (by decide)) ⟨rfl, trivial⟩ ?_
        refine ch_v (R := []) rfl rfl (oc_call rfl (by kernel_rfl) (len_pc (pushN n l l.length) (pushN_ok hio hq.1 _ (Nat.le_refl _))) rfl (by simp only [PureL, Pure, and_self, bs_pure, bsl_pure, histAv, implies_true]) (by simp only [PureL, Pure, and_self, bs_pure, bsl_pure, histAv, implies_true])) trivial ?_
        refine ch_v (R := []) rfl rfl (oc_move (x := .val _) rfl rfl) trivial ?_
        refine ch_v (R := []) rfl rfl (oc_binZ rfl rfl rfl rfl) trivial ?_
        refine ck_nil ?_
        refine aw_cond rfl (fun hb => ?_) (fun hb => ?_)
        · exact absurd hb (by rw [pushN_len hio]; simp)
        · refine aw_skip ?_
          refine aw_seq ?_
          refine aw_seq ?_
          refine aw_text rfl ?_
          refine ch_v (R := []) rfl rfl (oc_assign (x := .val _) rfl rfl) trivial ?_
          refine ck_nil ?_
          refine aw_block ?_
          rw [show pushN n l l.length = chainH (remN n) ((imgsK n l l.length).drop 0) from by rw [pushN_is n hio _ (Nat.le_refl _)]; rfl]
          refine aw_loop (ι := Nat) (fun k => ⟨[(1, bsl l), (8, .own 0 0), (11, vi (min (l.length : Int) (max 0 (min n 32)))), (12, vi k)], [(0, .live 25 [vi (chainH (remN n) ((imgsK n l l.length).drop k)).most, bs (chainH (remN n) ((imgsK n l l.length).drop k)).now, bsl (chainH (remN n) ((imgsK n l l.length).drop k)).ds]), (1, .unborn), (2, .unborn)]⟩) (fun k => k ≤ (imgsK n l l.length).length) (fun k => (imgsK n l l.length).length - k) 0 (Nat.zero_le _) (Le.sub (by repeat (first | trivial | refine ⟨.inr rfl, ?_⟩ | refine ⟨.inr (vi_eq (by omega)), ?_⟩)) (by repeat (first | trivial | refine ⟨rfl, ?_⟩))) ?_
          intro k hI
          refine aw_seq ?_
          refine aw_seq ?_
          refine aw_text rfl ?_
          refine ch_v (R := []) rfl rfl (oc_move (x := .val _) rfl rfl) trivial ?_
          refine ch_v (R := []) rfl rfl (oc_move (x := .val _) rfl rfl) trivial ?_
          refine ch_v (R := []) rfl rfl (oc_binZ rfl rfl rfl rfl) trivial ?_
          refine ck_nil ?_
          refine aw_cond rfl (fun hb => ?_) (fun hb => ?_)
          · have hz := imgs_lenZ n l
            have hlt : k < (imgsK n l l.length).length := by have h0 := of_decide_eq_true hb; omega
            have hkl : k < l.length := by omega
            refine aw_skip ?_
            refine aw_seq ?_
            refine aw_block ?_
            refine aw_seq ?_
            rw [drop_at hlt]
            have him : ImgOk 2000 (l.getD (l.length - 1 - k) [] :: (imgsK n l l.length).drop (k + 1)) := by rw [← drop_at hlt]; exact img_drop (imgs_ok hio _) k
            have hpp := chain_pop (by decide) (m := remN n) him
            have hck : HOk (chainH (remN n) (l.getD (l.length - 1 - k) [] :: (imgsK n l l.length).drop (k + 1))) := chain_ok (by decide) (rem_in n) him (by have := List.length_drop (i := k + 1) (l := (imgsK n l l.length)); simp; omega)
            refine aw_text rfl ?_
            refine ch_v (R := [(_, .live _ _)]) rfl rfl (oc_load_own_row (k := 3) (ds := [_, _, _]) rfl rfl (by kernel_rfl) (by kernel_rfl) rfl rfl (by decide)) ⟨rfl, trivial⟩ ?_
            refine ch_v (R := []) rfl rfl (oc_call rfl (by kernel_rfl) (pop_pc (chainH (remN n) (l.getD (l.length - 1 - k) [] :: (imgsK n l l.length).drop (k + 1))) hck) rfl (by simp only [PureL, Pure, and_self, bs_pure, bsl_pure, histAv, implies_true]) (by simp only [PureL, Pure, and_self, bs_pure, bsl_pure, histAv, implies_true])) trivial ?_
            refine ch_v (R := []) rfl rfl (oc_move (x := .tup _) rfl rfl) trivial ?_
            refine ch_v (R := []) rfl rfl (oc_extract rfl rfl rfl) trivial ?_
            refine ch_v (R := []) rfl rfl (oc_extract rfl rfl rfl) trivial ?_
            refine ch_v (R := []) rfl rfl (oc_extract rfl rfl rfl) trivial ?_
            refine ch_u rfl rfl (oc_alloc (zs := [.int .i64 0, .slice none 0 0, .slice none 0 0]) (cs := [.val _, .val _, .val _]) 1 rfl (by kernel_rfl) rfl rfl) ⟨rfl, trivial⟩ ?_
            refine ch_v (R := []) rfl rfl (oc_assign (x := .sl _ _ _) rfl rfl) trivial ?_
            refine ch_n rfl rfl (oc_store_row (x := .agg _) (cs' := [_, _, _]) rfl rfl rfl rfl (by kernel_rfl) (by first | decide | exact Nat.le_of_ble_eq_true rfl | simp) (by first | decide | exact Nat.le_of_ble_eq_true rfl | simp) rfl) ⟨rfl, trivial⟩ ?_
            refine ch_v (R := []) rfl rfl (oc_assign (x := .val _) rfl rfl) trivial ?_
            refine ck_nil ?_
            rw [hpp]
            have hck2 : HOk (chainH (remN n) ((imgsK n l l.length).drop (k + 1))) := by have := pop_ok hck; rw [hpp] at this; exact this
            refine aw_seq ?_
            refine aw_seq ?_
            refine aw_draw mixed ?_
            refine ch_v (R := []) rfl rfl (oc_move (x := .val _) rfl rfl) trivial ?_
            refine ch_v (R := []) rfl rfl (oc_binZ rfl rfl rfl rfl) trivial ?_
            refine ch_v (R := []) rfl rfl (oc_move (x := .val _) rfl rfl) trivial ?_
            refine ch_g (R := []) rfl rfl rfl gate_f (fun hC => oc_move (x := .sl _ _ _) rfl rfl) (fun hC => ⟨(by first | rfl | exact hC | (simp only [Bool.and_eq_true] at hC; first | exact hC.1 | exact hC.1.1 | exact hC.2) | simp_all), trivial⟩) trivial ?_
            refine ch_g (R := []) rfl rfl rfl gate_f (fun hC => oc_str _ rfl rfl (by kernel_rfl)) (fun hC => ⟨(by first | rfl | exact hC | (simp only [Bool.and_eq_true] at hC; first | exact hC.1 | exact hC.1.1 | exact hC.2) | simp_all), trivial⟩) trivial ?_
            refine ch_g (R := []) rfl rfl rfl gate_f (fun hC => oc_move (x := .sl _ _ _) rfl rfl) (fun hC => ⟨(by first | rfl | exact hC | (simp only [Bool.and_eq_true] at hC; first | exact hC.1 | exact hC.1.1 | exact hC.2) | simp_all), trivial⟩) trivial ?_
            refine ch_g (R := []) rfl rfl rfl gate_f (fun hC => oc_move (x := .sl _ _ _) rfl rfl) (fun hC => ⟨(by first | rfl | exact hC | (simp only [Bool.and_eq_true] at hC; first | exact hC.1 | exact hC.1.1 | exact hC.2) | simp_all), trivial⟩) trivial ?_
            refine ch_g (R := []) rfl rfl rfl gate_f (fun hC => oc_len rfl rfl (by kernel_rfl)) (fun hC => ⟨(by first | rfl | exact hC | (simp only [Bool.and_eq_true] at hC; first | exact hC.1 | exact hC.1.1 | exact hC.2) | simp_all), trivial⟩) trivial ?_
            refine ch_g (R := []) rfl rfl rfl gate_f (fun hC => oc_binZ rfl rfl rfl (by first | exact binW_sub (by omega) (by omega) | rfl)) (fun hC => ⟨(by first | rfl | exact hC | (simp only [Bool.and_eq_true] at hC; first | exact hC.1 | exact hC.1.1 | exact hC.2) | simp_all), (by first | rfl | exact hC | (simp only [Bool.and_eq_true] at hC; first | exact hC.1 | exact hC.1.1 | exact hC.2) | simp_all), trivial⟩) trivial ?_
            refine ch_g (R := []) rfl rfl rfl gate_f (fun hC => oc_move (x := .val _) rfl rfl) (fun hC => ⟨(by first | rfl | exact hC | (simp only [Bool.and_eq_true] at hC; first | exact hC.1 | exact hC.1.1 | exact hC.2) | simp_all), trivial⟩) trivial ?_
            refine ch_g (R := []) rfl rfl rfl gate_f (fun hC => oc_binZ rfl rfl rfl (by first | exact binW_sub (by omega) (by omega) | rfl)) (fun hC => ⟨(by first | rfl | exact hC | (simp only [Bool.and_eq_true] at hC; first | exact hC.1 | exact hC.1.1 | exact hC.2) | simp_all), (by first | rfl | exact hC | (simp only [Bool.and_eq_true] at hC; first | exact hC.1 | exact hC.1.1 | exact hC.2) | simp_all), trivial⟩) trivial ?_
            refine ch_g (R := []) rfl rfl rfl gate_f (fun hC => (by first | exact oc_indexN rfl rfl rfl (by kernel_rfl) (by omega) | exact oc_index rfl rfl rfl (by kernel_rfl) (by omega) (by omega) rfl)) (fun hC => ⟨(by first | rfl | exact hC | (simp only [Bool.and_eq_true] at hC; first | exact hC.1 | exact hC.1.1 | exact hC.2) | simp_all), (by first | rfl | exact hC | (simp only [Bool.and_eq_true] at hC; first | exact hC.1 | exact hC.1.1 | exact hC.2) | simp_all), trivial⟩) trivial ?_
            refine ch_g (R := []) rfl rfl rfl gate_f (fun hC => oc_load rfl rfl (by kernel_rfl) cells_sl) (fun hC => ⟨(by first | rfl | exact hC | (simp only [Bool.and_eq_true] at hC; first | exact hC.1 | exact hC.1.1 | exact hC.2) | simp_all), trivial⟩) trivial ?_
            refine ch_g (R := []) rfl rfl rfl gate_f (fun hC => oc_str _ rfl rfl (by kernel_rfl)) (fun hC => ⟨(by first | rfl | exact hC | (simp only [Bool.and_eq_true] at hC; first | exact hC.1 | exact hC.1.1 | exact hC.2) | simp_all), trivial⟩) trivial ?_
            refine ch_g (R := []) rfl rfl rfl gate_f (fun hC => oc_str_ne rfl rfl rfl) (fun hC => ⟨(by first | rfl | exact hC | (simp only [Bool.and_eq_true] at hC; first | exact hC.1 | exact hC.1.1 | exact hC.2) | simp_all), (by first | rfl | exact hC | (simp only [Bool.and_eq_true] at hC; first | exact hC.1 | exact hC.1.1 | exact hC.2) | simp_all), trivial⟩) trivial ?_
            refine ch_v (R := []) rfl rfl (oc_or rfl rfl rfl (by first | exact fun h => h | simp_all)) trivial ?_
            refine ch_v (R := []) rfl rfl (oc_move (x := .val _) rfl rfl) trivial ?_
            refine ch_g (R := [(_, .live _ _)]) rfl rfl rfl gate_f (fun hC => oc_load_own_row (k := 3) (ds := [_, _, _]) rfl rfl (by kernel_rfl) (by kernel_rfl) rfl rfl (by decide)) (fun hC => ⟨(by first | rfl | exact hC | (simp only [Bool.and_eq_true] at hC; first | exact hC.1 | exact hC.1.1 | exact hC.2) | simp_all), trivial⟩) ⟨rfl, trivial⟩ ?_
            refine ch_g (R := []) rfl rfl rfl gate_f (fun hC => oc_call rfl (by kernel_rfl) (len_pc (chainH (remN n) ((imgsK n l l.length).drop (k + 1))) hck2) rfl (by simp only [PureL, Pure, and_self, bs_pure, bsl_pure, histAv, implies_true]) (by simp only [PureL, Pure, and_self, bs_pure, bsl_pure, histAv, implies_true])) (fun hC => ⟨(by first | rfl | exact hC | (simp only [Bool.and_eq_true] at hC; first | exact hC.1 | exact hC.1.1 | exact hC.2) | simp_all), (by first | rfl | exact hC | (simp only [Bool.and_eq_true] at hC; first | exact hC.1 | exact hC.1.1 | exact hC.2) | simp_all), trivial⟩) trivial ?_
            refine ch_g (R := []) rfl rfl rfl gate_f (fun hC => oc_move (x := .val _) rfl rfl) (fun hC => ⟨(by first | rfl | exact hC | (simp only [Bool.and_eq_true] at hC; first | exact hC.1 | exact hC.1.1 | exact hC.2) | simp_all), trivial⟩) trivial ?_
            refine ch_g (R := []) rfl rfl rfl gate_f (fun hC => oc_binZ rfl rfl rfl (by first | exact binW_sub (by omega) (by omega) | rfl)) (fun hC => ⟨(by first | rfl | exact hC | (simp only [Bool.and_eq_true] at hC; first | exact hC.1 | exact hC.1.1 | exact hC.2) | simp_all), (by first | rfl | exact hC | (simp only [Bool.and_eq_true] at hC; first | exact hC.1 | exact hC.1.1 | exact hC.2) | simp_all), trivial⟩) trivial ?_
            refine ch_g (R := []) rfl rfl rfl gate_f (fun hC => oc_move (x := .val _) rfl rfl) (fun hC => ⟨(by first | rfl | exact hC | (simp only [Bool.and_eq_true] at hC; first | exact hC.1 | exact hC.1.1 | exact hC.2) | simp_all), trivial⟩) trivial ?_
            refine ch_g (R := []) rfl rfl rfl gate_f (fun hC => oc_binZ rfl rfl rfl (by first | exact binW_sub (by omega) (by omega) | rfl)) (fun hC => ⟨(by first | rfl | exact hC | (simp only [Bool.and_eq_true] at hC; first | exact hC.1 | exact hC.1.1 | exact hC.2) | simp_all), (by first | rfl | exact hC | (simp only [Bool.and_eq_true] at hC; first | exact hC.1 | exact hC.1.1 | exact hC.2) | simp_all), trivial⟩) trivial ?_
            refine ch_g (R := []) rfl rfl rfl gate_f (fun hC => oc_binZ rfl rfl rfl rfl) (fun hC => ⟨(by first | rfl | exact hC | (simp only [Bool.and_eq_true] at hC; first | exact hC.1 | exact hC.1.1 | exact hC.2) | simp_all), (by first | rfl | exact hC | (simp only [Bool.and_eq_true] at hC; first | exact hC.1 | exact hC.1.1 | exact hC.2) | simp_all), trivial⟩) trivial ?_
            refine ch_v (R := []) rfl rfl (oc_or rfl rfl rfl (by first | exact fun h => h | simp_all)) trivial ?_
            refine ck_nil ⟨by kernel_rfl, ?_⟩
            refine aw_cond rfl (fun hb => ?_) (fun hb => ?_)
            · exact absurd hb (by rw [chain_len (img_drop (imgs_ok hio _) (k + 1)), show ((l.length : Int) - 1 - (k : Int)).toNat = l.length - 1 - k from by omega, List.length_drop]; simp; omega)
            · refine aw_skip ?_
              refine aw_text rfl ?_
              refine ch_v (R := [(_, .live _ _)]) rfl rfl (oc_load_own_row (k := 3) (ds := [_, _, _]) rfl rfl (by kernel_rfl) (by kernel_rfl) rfl rfl (by decide)) ⟨rfl, trivial⟩ ?_
              refine ch_n rfl rfl (oc_store_row (x := .agg _) (cs' := [_, _, _]) rfl rfl rfl rfl (by kernel_rfl) (by first | decide | exact Nat.le_of_ble_eq_true rfl | simp) (by first | decide | exact Nat.le_of_ble_eq_true rfl | simp) rfl) ⟨rfl, trivial⟩ ?_
              refine ck_nil ?_
              refine aw_text rfl ?_
              refine ch_v (R := []) rfl rfl (oc_move (x := .val _) rfl rfl) trivial ?_
              refine ch_v (R := []) rfl rfl (oc_binZ rfl rfl rfl (by first | exact binW_add (by omega) (by omega) | rfl)) trivial ?_
              refine ch_v (R := []) rfl rfl (oc_assign (x := .val _) rfl rfl) trivial ?_
              refine ck_nil ?_
              exact ⟨k + 1, by omega, by omega, Le.reset (τ := ⟨[(1, bsl l), (8, .own 0 0), (11, vi (min (l.length : Int) (max 0 (min n 32)))), (12, vi (k + 1 : Nat))], [(0, .live 25 [vi ((chainH (remN n) ((imgsK n l l.length).drop (k + 1)))).most, bs ((chainH (remN n) ((imgsK n l l.length).drop (k + 1)))).now, bsl ((chainH (remN n) ((imgsK n l l.length).drop (k + 1)))).ds]), (1, .unborn), (2, .unborn)]⟩) [1] (by simp) (by repeat (first | trivial | refine ⟨.inr rfl, ?_⟩)) ⟨NoN.of_pure _ (bsl_pure _), by simp [NoN], trivial, trivial, trivial⟩ (noH_live (by decide) rfl (non_hist _ _ _) (noH_unb (by decide) (noH_keep (by decide) rfl noH_nil)))⟩
          · have hz := imgs_lenZ n l
            have hge : k = (imgsK n l l.length).length := by have h0 := of_decide_eq_false hb; omega
            refine aw_exit ?_
            refine aw_seq ?_
            rw [hge, List.drop_length]
            refine aw_text rfl ?_
            refine ch_v (R := [(_, .live _ _)]) rfl rfl (oc_load_own_row (k := 3) (ds := [_, _, _]) rfl rfl (by kernel_rfl) (by kernel_rfl) rfl rfl (by decide)) ⟨rfl, trivial⟩ ?_
            refine ch_v (R := []) rfl rfl (oc_call rfl (by kernel_rfl) (pop_pc (chainH (remN n) []) (chain_ok (B := 0) (by decide) (rem_in n) (fun d hd => by cases hd) (by simp))) rfl (by simp only [PureL, Pure, and_self, bs_pure, bsl_pure, histAv, implies_true]) (by simp only [PureL, Pure, and_self, bs_pure, bsl_pure, histAv, implies_true])) trivial ?_
            refine ch_v (R := []) rfl rfl (oc_move (x := .tup _) rfl rfl) trivial ?_
            refine ch_v (R := []) rfl rfl (oc_extract rfl rfl rfl) trivial ?_
            refine ch_v (R := []) rfl rfl (oc_extract rfl rfl rfl) trivial ?_
            refine ch_v (R := []) rfl rfl (oc_extract rfl rfl rfl) trivial ?_
            refine ch_u rfl rfl (oc_alloc (zs := [.int .i64 0, .slice none 0 0, .slice none 0 0]) (cs := [.val _, .val _, .val _]) 2 rfl (by kernel_rfl) rfl rfl) ⟨rfl, trivial⟩ ?_
            refine ch_v (R := []) rfl rfl (oc_assign (x := .sl _ _ _) rfl rfl) trivial ?_
            refine ch_n rfl rfl (oc_store_row (x := .agg _) (cs' := [_, _, _]) rfl rfl rfl rfl (by kernel_rfl) (by first | decide | exact Nat.le_of_ble_eq_true rfl | simp) (by first | decide | exact Nat.le_of_ble_eq_true rfl | simp) rfl) ⟨rfl, trivial⟩ ?_
            refine ch_v (R := []) rfl rfl (oc_assign (x := .val _) rfl rfl) trivial ?_
            refine ck_nil ?_
            refine aw_seq ?_
            refine aw_text rfl ?_
            refine ch_v (R := []) rfl rfl (oc_move (x := .val _) rfl rfl) trivial ?_
            refine ch_v (R := []) rfl rfl (oc_binZ rfl rfl rfl rfl) trivial ?_
            refine ch_v (R := []) rfl rfl (oc_move (x := .val _) rfl rfl) trivial ?_
            refine ch_g (R := []) rfl rfl rfl gate_t (fun hC => oc_call rfl (by kernel_rfl) (awake_pc) rfl (by simp only [PureL, Pure, and_self, bs_pure, bsl_pure, histAv, implies_true]) (by simp only [PureL, Pure, and_self, bs_pure, bsl_pure, histAv, implies_true])) (fun hC => ⟨(by first | rfl | exact hC | (simp only [Bool.and_eq_true] at hC; first | exact hC.1 | exact hC.1.1 | exact hC.2) | simp_all), trivial⟩) trivial ?_
            refine ch_v (R := []) rfl rfl (oc_and rfl rfl rfl rfl (by first | exact fun h => h | simp_all)) trivial ?_
            refine ch_v (R := []) rfl rfl (oc_assign (x := .val _) rfl rfl) trivial ?_
            refine ck_nil ?_
            refine aw_ret ?_
            exact ⟨.inl rfl, ResOk.tmp rfl (vb_eq (by rw [pop_none (h := chainH (remN n) []) rfl]; rfl)), trivial⟩
end Go.Proofs.Ytjjgdjcapfenpaa
