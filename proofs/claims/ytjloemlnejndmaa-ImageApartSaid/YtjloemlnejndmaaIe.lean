/- Chapter 22: a world as bytes, walked. -/
import Derived.Test.YtjloemlnejndmaaId
import Derived.Test.YtjloemlnejndmaaProg
import Derived.KernelRfl
namespace Go.Proofs.Ytjloemlnejndmaa
open Go.RowKit
set_option maxRecDepth 100000
set_option linter.unusedVariables false
set_option linter.unusedSimpArgs false
theorem Le.cellTo {N : Nat} {D : List Nat} {s : List (Nat × Av)} {h : List (Nat × Hs)} (m i : Nat) {T : TypeId} {ds : List Av} {x y : Av} (hm : lkH h m = some (.live T ds)) (hi : ds[i]? = some x) (hxy : ∀ E v, Rep E x v → Rep E y v) :
    Le N D ⟨s, h⟩ ⟨s, (m, .live T (ds.set i y)) :: h⟩ := Le.step fun E a hF => by
  refine ⟨E, [], rfl, Step.refl E, hF.good, hF.holds.1, fun j z hz => ?_⟩
  have hz : lkH ((m, .live T (ds.set i y)) :: h) j = some z := hz
  by_cases e : m = j
  · subst e
    simp [lkH] at hz
    subst hz
    rcases hF.holds.2 m _ hm with ⟨h1, rfl⟩ | ⟨b, cur, h1, h2, h3⟩
    · simp at hi
    · refine .inr ⟨b, cur, h1, h2, fun k w hw => ?_⟩
      rw [List.getElem?_set] at hw
      by_cases e : i = k
      · subst e
        have hlt := (List.getElem?_eq_some_iff.1 hi).1
        simp [hlt] at hw
        subst hw
        obtain ⟨u, h4, h5, h6⟩ := h3 i x hi
        exact ⟨u, h4, h5, hxy E u h6⟩
      · rw [if_neg e] at hw
        exact h3 k w hw
  · simp only [lkH, beqF e, cond_false] at hz
    exact hF.holds.2 j z hz
def b3 (w : WorldP) (k : Nat) : Int := [w.over, w.it, w.go].getD k 0
def pk3 (w : WorldP) : Nat → List Int
  | 0 => packK w 7 ++ sHuge w.seed ++ sWord w.score ++ sLong (w.turns % 4294967296)
  | k + 1 => pk3 w k ++ sByte (b3 w k)
theorem pk3_is (w : WorldP) : pk3 w 3 = packP w := rfl
theorem pk3_len {w : WorldP} (hw : w.small) : ∀ k, k ≤ 3 → (pk3 w k).length ≤ 14000077 + k
  | 0, _ => by
    have := packK_len hw 7 (by omega)
    simp [pk3, sHuge, sLong, sWord]
    omega
  | k + 1, hk => by
    have := pk3_len hw k (by omega)
    simp [pk3, sByte]
    omega
theorem b3_at (w : WorldP) {k : Nat} (h : k < 3) : ([vi w.over, vi w.it, vi w.go] : List Av)[k]? = some (vi (b3 w k)) := by
  rcases k with _ | _ | _ | k <;> first | rfl | omega
set_option maxHeartbeats 1600000 in
theorem pack_pc (w : WorldP) (hw : w.small) (hs : 0 ≤ w.seed ∧ w.seed < 18446744073709551616) : PC Try.prog 12 [worldAv w] (bs (packP w)) := by
  refine FC.bodyM 6 42 Try.func12 rfl (by kernel_rfl) ?_
  have hp7 := packK_len hw 7 (by omega)
  refine awm_ahead ?_
  refine aw_text rfl ?_
  refine ch_v (R := []) rfl rfl (oc_box (x := .agg _) rfl rfl) trivial ?_
  refine ch_v (R := []) rfl rfl (oc_assign (x := .val _) rfl rfl) trivial ?_
  refine ck_nil ?_
  refine awm_ahead ?_
  refine aw_text rfl ?_
  refine ch_u rfl rfl (oc_alloc (zs := [.slice none 0 0]) (cs := [.val _]) 0 rfl (by kernel_rfl) rfl rfl) ⟨rfl, trivial⟩ ?_
  refine ck_nil ?_
  refine awm_le (Le.cellTo 0 0 (y := bs []) rfl rfl (fun E v h => rep_nil0 E v h)) ?_
  refine awm_behind ?_
  refine awm_ahead ?_
  refine aw_text rfl ?_
  refine ch_v (R := []) rfl rfl (oc_call rfl (by kernel_rfl) (lists_pc w) rfl (by simp only [PureL, Pure, and_self, bs_pure, pure_slI, pure_world, pure_tab, rdAv, vu, implies_true]) (by simp only [PureL, Pure, and_self, bs_pure, pure_slI, pure_world, pure_tab, rdAv, vu, implies_true])) trivial ?_
  refine ck_nil ?_
  refine awm_block ?_
  refine awm_rangeFunc (gf := 80) (σ := [(3, .own 0 0)]) (Rc := [(0, Hs.live 29 [bs (packK w 0)])]) (Mc := []) (U := [(0, Hs.live 29 [bs (packK w 7)])]) (B := true) 5 [] rfl rfl (by kernel_rfl) (by repeat (first | trivial | refine ⟨.inr rfl, ?_⟩)) ⟨rfl, trivial⟩ (fun l => listsT_fcm w l 42 [8] _ _ [(3, .own 0 0)] rfl (by decide) ⟨by simp [InN], trivial⟩ ?_) trivial (by simp) (by simp) (by simp) (by simp [bornH]) (by simp) (by simp) (InNL.of_pure _ (by simp [PureL, Pure, pure_world])) ⟨by simp [InN], trivial⟩ ⟨by simp [InH, InNL, InN.of_pure _ (bs_pure _)], trivial⟩ (by unfold InN; trivial) ⟨by simp [InH, InNL, InN.of_pure _ (bs_pure _)], trivial⟩ ?_
  · intro k hlt
    have hpl := packK_len hw k (by omega)
    have hrl := hw k hlt
    unfold RC
    refine aw_text rfl ?_
    refine ch_v (R := []) rfl rfl (oc_assign (x := .ptr _) rfl rfl) trivial ?_
    refine ck_nil ?_
    refine ⟨rfl, ?_⟩
    refine aw_block ?_
    refine aw_draw mixed ?_
    refine ch_v (R := [(_, .live _ _)]) rfl rfl (oc_load_own rfl rfl (by kernel_rfl) rfl) ⟨rfl, trivial⟩ ?_
    refine ch_v (R := []) rfl rfl (oc_move (x := .ptr _) rfl rfl) trivial ?_
    refine ch_v (R := []) rfl rfl (oc_nilCheck rfl rfl) trivial ?_
    refine ch_v (R := []) rfl rfl (oc_load rfl rfl (by kernel_rfl) cells_sl) trivial ?_
    refine ch_v (R := []) rfl rfl (oc_call rfl (by kernel_rfl) (ints_pc (packK w k) (w.row k) (by omega) (by omega)) rfl (by simp only [PureL, Pure, and_self, bs_pure, pure_slI, pure_world, pure_tab, rdAv, vu, implies_true]) (by simp only [PureL, Pure, and_self, bs_pure, pure_slI, pure_world, pure_tab, rdAv, vu, implies_true])) trivial ?_
    refine ch_n rfl rfl (oc_store (y := .sl _ _ _) (cs' := [_]) rfl rfl rfl (by kernel_rfl) (by kernel_rfl) (by first | exact cells_sl | exact cells_any) (by first | decide | (simp; done) | (simp; omega)) rfl) ⟨rfl, trivial⟩ ?_
    refine ck_nil ⟨by kernel_rfl, ?_⟩
    exact ⟨rfl, rfl, trivial⟩
  · refine aw_seq ?_
    refine aw_draw mixed ?_
    refine ch_v (R := [(_, .live _ _)]) rfl rfl (oc_load_own rfl rfl (by kernel_rfl) rfl) ⟨rfl, trivial⟩ ?_
    refine ch_v (R := []) rfl rfl (oc_fieldAddr (off := 7) rfl rfl rfl (by kernel_rfl) rfl) trivial ?_
    refine ch_v (R := []) rfl rfl (oc_load rfl rfl (by kernel_rfl) cells_int) trivial ?_
    refine ch_v (R := []) rfl rfl (oc_call rfl (by kernel_rfl) (huge_pc (packK w 7) w.seed (by omega) hs.1 (by omega)) rfl (by simp only [PureL, Pure, and_self, bs_pure, pure_slI, pure_world, pure_tab, rdAv, vu, implies_true]) (by simp only [PureL, Pure, and_self, bs_pure, pure_slI, pure_world, pure_tab, rdAv, vu, implies_true])) trivial ?_
    refine ch_v (R := []) rfl rfl (oc_fieldAddr (off := 8) rfl rfl rfl (by kernel_rfl) rfl) trivial ?_
    refine ch_v (R := []) rfl rfl (oc_load rfl rfl (by kernel_rfl) cells_int) trivial ?_
    refine ch_v (R := []) rfl rfl (oc_call rfl (by kernel_rfl) (word_pc (packK w 7 ++ sHuge w.seed) w.score (by simp [sHuge, sLong]; omega)) rfl (by simp only [PureL, Pure, and_self, bs_pure, pure_slI, pure_world, pure_tab, rdAv, vu, implies_true]) (by simp only [PureL, Pure, and_self, bs_pure, pure_slI, pure_world, pure_tab, rdAv, vu, implies_true])) trivial ?_
    refine ch_n rfl rfl (oc_store (y := .sl _ _ _) (cs' := [_]) rfl rfl rfl (by kernel_rfl) (by kernel_rfl) (by first | exact cells_sl | exact cells_any) (by first | decide | (simp; done) | (simp; omega)) rfl) ⟨rfl, trivial⟩ ?_
    refine ck_nil ⟨by kernel_rfl, ?_⟩
    refine aw_seq ?_
    refine aw_draw mixed ?_
    refine ch_v (R := [(_, .live _ _)]) rfl rfl (oc_load_own rfl rfl (by kernel_rfl) rfl) ⟨rfl, trivial⟩ ?_
    refine ch_v (R := []) rfl rfl (oc_fieldAddr (off := 9) rfl rfl rfl (by kernel_rfl) rfl) trivial ?_
    refine ch_v (R := []) rfl rfl (oc_load rfl rfl (by kernel_rfl) cells_int) trivial ?_
    refine ch_v (R := []) rfl rfl (oc_call rfl (by kernel_rfl) (low32_pc w.turns) rfl (by simp only [PureL, Pure, and_self, bs_pure, pure_slI, pure_world, pure_tab, rdAv, vu, implies_true]) (by simp only [PureL, Pure, and_self, bs_pure, pure_slI, pure_world, pure_tab, rdAv, vu, implies_true])) trivial ?_
    refine ch_v (R := []) rfl rfl (OC.cast (oc_conv (k := .i64) .u32 rfl rfl (by kernel_rfl) (by kernel_rfl)) (show Av.val (.int .u32 (IntKind.u32.wrap (w.turns % 4294967296))) = .val (.int .u32 (w.turns % 4294967296)) from by rw [u32_is, Int.emod_emod])) trivial ?_
    refine ch_v (R := []) rfl rfl (oc_call rfl (by kernel_rfl) (long_pc (packK w 7 ++ sHuge w.seed ++ sWord w.score) (w.turns % 4294967296) (by simp [sHuge, sLong, sWord]; omega) (by omega) (by omega)) rfl (by simp only [PureL, Pure, and_self, bs_pure, pure_slI, pure_world, pure_tab, rdAv, vu, implies_true]) (by simp only [PureL, Pure, and_self, bs_pure, pure_slI, pure_world, pure_tab, rdAv, vu, implies_true])) trivial ?_
    refine ch_n rfl rfl (oc_store (y := .sl _ _ _) (cs' := [_]) rfl rfl rfl (by kernel_rfl) (by kernel_rfl) (by first | exact cells_sl | exact cells_any) (by first | decide | (simp; done) | (simp; omega)) rfl) ⟨rfl, trivial⟩ ?_
    refine ck_nil ⟨by kernel_rfl, ?_⟩
    refine aw_seq ?_
    refine aw_seq ?_
    refine aw_text rfl ?_
    refine ch_v (R := []) rfl rfl (oc_fieldAddr (off := 10) rfl rfl rfl (by kernel_rfl) rfl) trivial ?_
    refine ch_v (R := []) rfl rfl (oc_load rfl rfl (by kernel_rfl) cells_int) trivial ?_
    refine ch_v (R := []) rfl rfl (oc_fieldAddr (off := 11) rfl rfl rfl (by kernel_rfl) rfl) trivial ?_
    refine ch_v (R := []) rfl rfl (oc_load rfl rfl (by kernel_rfl) cells_int) trivial ?_
    refine ch_v (R := []) rfl rfl (oc_fieldAddr (off := 12) rfl rfl rfl (by kernel_rfl) rfl) trivial ?_
    refine ch_v (R := []) rfl rfl (oc_load rfl rfl (by kernel_rfl) cells_int) trivial ?_
    refine ch_v (R := []) rfl rfl (oc_buildArr (n := 3) (e := 3) (by_ := 8) (k := 1) (zs := [.int .i64 0, .int .i64 0, .int .i64 0]) (ez := [.int .i64 0]) (ds := [.val _, .val _, .val _]) rfl (by kernel_rfl) rfl (by kernel_rfl) (by kernel_rfl) (by first | rfl | decide) rfl) trivial ?_
    refine ch_v (R := []) rfl rfl (oc_move (x := .val _) rfl rfl) trivial ?_
    refine ck_nil ?_
    refine aw_block ?_
    refine aw_loop (ι := Nat) (fun k => ⟨[(3, .own 0 0), (33, .agg [vi w.over, vi w.it, vi w.go]), (34, vi k)], [(0, .live 29 [bs (pk3 w k)])]⟩) (fun k => k ≤ 3) (fun k => 3 - k) 0 (Nat.zero_le _) (Le.sub (by repeat (first | trivial | refine ⟨.inr rfl, ?_⟩ | refine ⟨.inr (vi_eq (by omega)), ?_⟩)) (by repeat (first | trivial | refine ⟨rfl, ?_⟩))) ?_
    intro k hI
    refine aw_seq ?_
    refine aw_text rfl ?_
    refine ch_v (R := []) rfl rfl (oc_binZ rfl rfl rfl rfl) trivial ?_
    refine ck_nil ?_
    refine aw_seq ?_
    refine aw_cond rfl (fun hb => ?_) (fun hb => ?_)
    · have hlt : k < 3 := by have h0 := of_decide_eq_true hb; omega
      refine aw_skip ?_
      refine aw_seq ?_
      refine aw_block ?_
      refine aw_seq ?_
      refine aw_text rfl ?_
      refine ch_v (R := []) rfl rfl (oc_arrIndex (n := 3) (e := 3) (by_ := 8) (zs := [.int .i64 0]) k rfl rfl rfl (by kernel_rfl) (by kernel_rfl) (by kernel_rfl) hlt (b3_at w hlt)) trivial ?_
      refine ch_v (R := []) rfl rfl (oc_assign (x := .val _) rfl rfl) trivial ?_
      refine ck_nil ?_
      refine aw_text rfl ?_
      refine ch_v (R := [(_, .live _ _)]) rfl rfl (oc_load_own rfl rfl (by kernel_rfl) rfl) ⟨rfl, trivial⟩ ?_
      refine ch_v (R := []) rfl rfl (oc_move (x := .val _) rfl rfl) trivial ?_
      refine ch_v (R := []) rfl rfl (oc_call rfl (by kernel_rfl) (byte_pc (pk3 w k) (b3 w k) (by have := pk3_len hw k (by omega); omega)) rfl (by simp only [PureL, Pure, and_self, bs_pure, pure_slI, pure_world, pure_tab, rdAv, vu, implies_true]) (by simp only [PureL, Pure, and_self, bs_pure, pure_slI, pure_world, pure_tab, rdAv, vu, implies_true])) trivial ?_
      refine ch_n rfl rfl (oc_store (y := .sl _ _ _) (cs' := [_]) rfl rfl rfl (by kernel_rfl) (by kernel_rfl) (by first | exact cells_sl | exact cells_any) (by first | decide | (simp; done) | (simp; omega)) rfl) ⟨rfl, trivial⟩ ?_
      refine ck_nil ?_
      refine aw_text rfl ?_
      refine ch_v (R := []) rfl rfl (oc_binZ rfl rfl rfl (by first | exact binW_add (by omega) (by omega) | rfl)) trivial ?_
      refine ch_v (R := []) rfl rfl (oc_move (x := .val _) rfl rfl) trivial ?_
      refine ck_nil ?_
      exact ⟨k + 1, by omega, by omega, Le.sub (by repeat (first | trivial | refine ⟨.inr rfl, ?_⟩ | refine ⟨.inr (vi_eq (by omega)), ?_⟩)) (by repeat (first | trivial | refine ⟨rfl, ?_⟩))⟩
    · have hge : k = 3 := by have h0 := of_decide_eq_false hb; omega
      subst hge
      refine aw_exit ?_
      refine aw_seq ?_
      refine aw_text rfl ?_
      refine ch_v (R := [(_, .live _ _)]) rfl rfl (oc_load_own rfl rfl (by kernel_rfl) rfl) ⟨rfl, trivial⟩ ?_
      refine ch_v (R := []) rfl rfl (oc_assign (x := .sl _ _ _) rfl rfl) trivial ?_
      refine ck_nil ?_
      refine aw_ret ?_
      exact ⟨.inl rfl, ResOk.tmp rfl rfl, trivial⟩
end Go.Proofs.Ytjloemlnejndmaa
