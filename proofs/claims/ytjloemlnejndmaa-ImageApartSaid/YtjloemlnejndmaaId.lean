/- Chapter 22: the lists of a world, one by one, walked. -/
import Derived.Test.YtjloemlnejndmaaIc
import Derived.Test.YtjloemlnejndmaaProg
import Derived.KernelRfl
namespace Go.Proofs.Ytjloemlnejndmaa
open Go.RowKit
set_option maxRecDepth 100000
set_option linter.unusedVariables false
set_option linter.unusedSimpArgs false
theorem res_none {P : Program} {fn : Func} {Γ : Ctx} (h : fn.results = #[]) : ResOk P fn Γ .any := fun E a _ _ => ⟨_, results_none h _ _ _, by unfold Rep; trivial⟩
theorem cellsK_in {Z : Nat → Prop} (xs : List Int) (k : Nat) : InNL Z (cellsK xs k) := by
  have h : ∀ i, InN Z (ck xs k i) := fun i => by
    unfold ck
    split
    · exact InN.of_pure _ (pure_slI _)
    · unfold nilA InN; trivial
  unfold cellsK
  simp only [InNL, h, true_and, and_true]
  simp [InN, vu]
set_option maxHeartbeats 1600000 in
theorem listsO_fcm (xs : List Int) (l N : Nat) (ps : List Nat) (assign body : Code) (σ : List (Nat × Av)) (hlen : ps.length = 1) (hN : ∀ p ∈ ps, p < N) (hσ : InS (· ∈ [0, 1]) σ) (rc : ∀ k, k < 7 → RC Try.prog l N ps assign body σ [.own 0 k] [(0, .live 34 (cellsK xs k)), (1, .live 48 [bs xs, vi (rdK xs k).1, vi (rdK xs k).2])] [] 6 true [(0, .live 34 (cellsK xs (k + 1))), (1, .live 48 [bs xs, vi (rdK xs (k + 1)).1, vi (rdK xs (k + 1)).2])]) :
    FCM Try.prog 80 [.val (.func (.yield l) #[] #[]), .ptr (.own 0 0)] [(5, .loop l N ps.toArray assign body none σ), (0, .live 34 (cellsK xs 0)), (1, .live 48 [bs xs, vi (rdK xs 0).1, vi (rdK xs 0).2])] [] .any [(5, .loop l N ps.toArray assign body none σ), (0, .live 34 (cellsK xs 7)), (1, .live 48 [bs xs, vi (rdK xs 7).1, vi (rdK xs 7).2])] := by
  refine FCM.body 6 35 Try.func80 rfl (by kernel_rfl) ?_
  refine aw_seq ?_
  refine aw_draw mixed ?_
  refine ch_v (R := []) rfl rfl (oc_load rfl rfl (by kernel_rfl) cells_own) trivial ?_
  refine ch_v (R := [(_, .live _ _)]) rfl rfl (oc_nilCheck_own (cs := cellsK xs 0) rfl rfl (by show 0 < 13; omega)) ⟨rfl, trivial⟩ ?_
  refine ch_v (R := [(_, .live _ _)]) rfl rfl (oc_fieldAddr_own (off := 0) (sz := 1) (r := false) (cs := cellsK xs 0) rfl rfl (by show 0 < 13; omega) (by kernel_rfl) (by decide)) ⟨rfl, trivial⟩ ?_
  refine ch_v (R := []) rfl rfl (oc_load rfl rfl (by kernel_rfl) cells_own) trivial ?_
  refine ch_v (R := [(_, .live _ _)]) rfl rfl (oc_nilCheck_own (cs := cellsK xs 0) rfl rfl (by show 0 < 13; omega)) ⟨rfl, trivial⟩ ?_
  refine ch_v (R := [(_, .live _ _)]) rfl rfl (oc_fieldAddr_own (off := 1) (sz := 1) (r := false) (cs := cellsK xs 0) rfl rfl (by show 0 < 13; omega) (by kernel_rfl) (by decide)) ⟨rfl, trivial⟩ ?_
  refine ch_v (R := []) rfl rfl (oc_load rfl rfl (by kernel_rfl) cells_own) trivial ?_
  refine ch_v (R := [(_, .live _ _)]) rfl rfl (oc_nilCheck_own (cs := cellsK xs 0) rfl rfl (by show 0 < 13; omega)) ⟨rfl, trivial⟩ ?_
  refine ch_v (R := [(_, .live _ _)]) rfl rfl (oc_fieldAddr_own (off := 2) (sz := 1) (r := false) (cs := cellsK xs 0) rfl rfl (by show 0 < 13; omega) (by kernel_rfl) (by decide)) ⟨rfl, trivial⟩ ?_
  refine ch_v (R := []) rfl rfl (oc_load rfl rfl (by kernel_rfl) cells_own) trivial ?_
  refine ch_v (R := [(_, .live _ _)]) rfl rfl (oc_nilCheck_own (cs := cellsK xs 0) rfl rfl (by show 0 < 13; omega)) ⟨rfl, trivial⟩ ?_
  refine ch_v (R := [(_, .live _ _)]) rfl rfl (oc_fieldAddr_own (off := 3) (sz := 1) (r := false) (cs := cellsK xs 0) rfl rfl (by show 0 < 13; omega) (by kernel_rfl) (by decide)) ⟨rfl, trivial⟩ ?_
  refine ch_v (R := []) rfl rfl (oc_load rfl rfl (by kernel_rfl) cells_own) trivial ?_
  refine ch_v (R := [(_, .live _ _)]) rfl rfl (oc_nilCheck_own (cs := cellsK xs 0) rfl rfl (by show 0 < 13; omega)) ⟨rfl, trivial⟩ ?_
  refine ch_v (R := [(_, .live _ _)]) rfl rfl (oc_fieldAddr_own (off := 4) (sz := 1) (r := false) (cs := cellsK xs 0) rfl rfl (by show 0 < 13; omega) (by kernel_rfl) (by decide)) ⟨rfl, trivial⟩ ?_
  refine ch_v (R := []) rfl rfl (oc_load rfl rfl (by kernel_rfl) cells_own) trivial ?_
  refine ch_v (R := [(_, .live _ _)]) rfl rfl (oc_nilCheck_own (cs := cellsK xs 0) rfl rfl (by show 0 < 13; omega)) ⟨rfl, trivial⟩ ?_
  refine ch_v (R := [(_, .live _ _)]) rfl rfl (oc_fieldAddr_own (off := 5) (sz := 1) (r := false) (cs := cellsK xs 0) rfl rfl (by show 0 < 13; omega) (by kernel_rfl) (by decide)) ⟨rfl, trivial⟩ ?_
  refine ch_v (R := []) rfl rfl (oc_load rfl rfl (by kernel_rfl) cells_own) trivial ?_
  refine ch_v (R := [(_, .live _ _)]) rfl rfl (oc_nilCheck_own (cs := cellsK xs 0) rfl rfl (by show 0 < 13; omega)) ⟨rfl, trivial⟩ ?_
  refine ch_v (R := [(_, .live _ _)]) rfl rfl (oc_fieldAddr_own (off := 6) (sz := 1) (r := false) (cs := cellsK xs 0) rfl rfl (by show 0 < 13; omega) (by kernel_rfl) (by decide)) ⟨rfl, trivial⟩ ?_
  refine ch_v (R := []) rfl rfl (oc_buildArr (n := 7) (e := 70) (by_ := 8) (k := 1) (zs := [.pointer none, .pointer none, .pointer none, .pointer none, .pointer none, .pointer none, .pointer none]) (ez := [.pointer none]) (ds := [.own _ _, .own _ _, .own _ _, .own _ _, .own _ _, .own _ _, .own _ _]) rfl (by kernel_rfl) rfl (by kernel_rfl) (by kernel_rfl) (by first | rfl | decide) rfl) trivial ?_
  refine ch_v (R := []) rfl rfl (oc_move (x := .val _) rfl rfl) trivial ?_
  refine ck_nil ⟨by kernel_rfl, ?_⟩
  refine aw_block ?_
  refine aw_loop (ι := Nat) (fun k => ⟨[(0, .val (.func (.yield l) #[] #[])), (26, .agg [.own 0 0, .own 0 1, .own 0 2, .own 0 3, .own 0 4, .own 0 5, .own 0 6]), (27, vi k)], [(5, .loop l N ps.toArray assign body none σ), (0, .live 34 (cellsK xs k)), (1, .live 48 [bs xs, vi (rdK xs k).1, vi (rdK xs k).2])]⟩) (fun k => k ≤ 7) (fun k => 7 - k) 0 (Nat.zero_le _) (Le.sub (by repeat (first | trivial | refine ⟨.inr rfl, ?_⟩ | refine ⟨.inr (vi_eq (by omega)), ?_⟩)) (by repeat (first | trivial | refine ⟨rfl, ?_⟩))) ?_
  intro k hI
  refine aw_seq ?_
  refine aw_text rfl ?_
  refine ch_v (R := []) rfl rfl (oc_binZ rfl rfl rfl rfl) trivial ?_
  refine ck_nil ?_
  refine aw_seq ?_
  refine aw_cond rfl (fun hb => ?_) (fun hb => ?_)
  · have hlt : k < 7 := by have h0 := of_decide_eq_true hb; omega
    refine aw_skip ?_
    refine aw_seq ?_
    refine aw_block ?_
    refine aw_seq ?_
    refine aw_text rfl ?_
    refine ch_v (R := []) rfl rfl (oc_arrIndex (n := 7) (e := 70) (by_ := 8) (zs := [.pointer none]) k rfl rfl rfl (by kernel_rfl) (by kernel_rfl) (by kernel_rfl) hlt (own_at7 hlt)) trivial ?_
    refine ch_v (R := []) rfl rfl (oc_assign (x := .own _ _) rfl rfl) trivial ?_
    refine ck_nil ?_
    refine aw_seq ?_
    refine aw_text rfl ?_
    refine ch_v (R := []) rfl rfl (oc_move (x := .val _) rfl rfl) trivial ?_
    refine ch_v (R := []) rfl rfl (oc_move (x := .own _ _) rfl rfl) trivial ?_
    refine ch_r rfl rfl (oc_yield (nl := 5) (xs := [.own 0 k]) (R := [(0, .live 34 (cellsK xs k)), (1, .live 48 [bs xs, vi (rdK xs k).1, vi (rdK xs k).2])]) (M := []) (B := true) (U := [(0, .live 34 (cellsK xs (k + 1))), (1, .live 48 [bs xs, vi (rdK xs (k + 1)).1, vi (rdK xs (k + 1)).2])]) [] rfl rfl rfl (rc k hlt) hlen hN (by simp) (by simp) (by simp) (by simp) (by simp) (by simp [bornH]) (by simp [InNL, InN]) hσ ⟨by simp [InH, InNL, InN, cellsK_in], by simp [InH, InNL, InN, InN.of_pure _ (bs_pure xs)], trivial⟩ ⟨by simp [InH, InNL, InN, cellsK_in], by simp [InH, InNL, InN, InN.of_pure _ (bs_pure xs)], trivial⟩) ⟨rfl, rfl, rfl, trivial⟩ ?_
    refine ch_v (R := []) rfl rfl (oc_not rfl rfl) trivial ?_
    refine ck_nil ?_
    refine aw_cond rfl (fun hb => ?_) (fun hb => ?_)
    · exact absurd hb (by decide)
    · refine aw_skip ?_
      refine aw_text rfl ?_
      refine ch_v (R := []) rfl rfl (oc_binZ rfl rfl rfl (by first | exact binW_add (by omega) (by omega) | rfl)) trivial ?_
      refine ch_v (R := []) rfl rfl (oc_move (x := .val _) rfl rfl) trivial ?_
      refine ck_nil ?_
      exact ⟨k + 1, by omega, by omega, Le.sub (by repeat (first | trivial | refine ⟨.inr rfl, ?_⟩ | refine ⟨.inr (vi_eq (by omega)), ?_⟩)) (by repeat (first | trivial | refine ⟨rfl, ?_⟩))⟩
  · have hge : k = 7 := by have h0 := of_decide_eq_false hb; omega
    subst hge
    refine aw_exit ?_
    exact ⟨.inr rfl, res_none rfl, ⟨rfl, rfl, rfl, trivial⟩⟩
set_option maxHeartbeats 1600000 in
theorem listsT_fcm (w : WorldP) (l N : Nat) (ps : List Nat) (assign body : Code) (σ : List (Nat × Av)) (hlen : ps.length = 1) (hN : ∀ p ∈ ps, p < N) (hσ : InS (· ∈ [0]) σ) (rc : ∀ k, k < 7 → RC Try.prog l N ps assign body σ [.ptr (slI (w.row k))] [(0, .live 29 [bs (packK w k)])] [] 6 true [(0, .live 29 [bs (packK w (k + 1))])]) :
    FCM Try.prog 80 [.val (.func (.yield l) #[] #[]), .ptr (.ptr (worldAv w))] [(5, .loop l N ps.toArray assign body none σ), (0, .live 29 [bs (packK w 0)])] [] .any [(5, .loop l N ps.toArray assign body none σ), (0, .live 29 [bs (packK w 7)])] := by
  refine FCM.body 6 35 Try.func80 rfl (by kernel_rfl) ?_
  refine aw_seq ?_
  refine aw_draw mixed ?_
  refine ch_v (R := []) rfl rfl (oc_load rfl rfl (by kernel_rfl) cells_ptr) trivial ?_
  refine ch_v (R := []) rfl rfl (oc_nilCheck rfl rfl) trivial ?_
  refine ch_v (R := []) rfl rfl (oc_fieldAddr (off := 0) rfl rfl rfl (by kernel_rfl) rfl) trivial ?_
  refine ch_v (R := []) rfl rfl (oc_load rfl rfl (by kernel_rfl) cells_ptr) trivial ?_
  refine ch_v (R := []) rfl rfl (oc_nilCheck rfl rfl) trivial ?_
  refine ch_v (R := []) rfl rfl (oc_fieldAddr (off := 1) rfl rfl rfl (by kernel_rfl) rfl) trivial ?_
  refine ch_v (R := []) rfl rfl (oc_load rfl rfl (by kernel_rfl) cells_ptr) trivial ?_
  refine ch_v (R := []) rfl rfl (oc_nilCheck rfl rfl) trivial ?_
  refine ch_v (R := []) rfl rfl (oc_fieldAddr (off := 2) rfl rfl rfl (by kernel_rfl) rfl) trivial ?_
  refine ch_v (R := []) rfl rfl (oc_load rfl rfl (by kernel_rfl) cells_ptr) trivial ?_
  refine ch_v (R := []) rfl rfl (oc_nilCheck rfl rfl) trivial ?_
  refine ch_v (R := []) rfl rfl (oc_fieldAddr (off := 3) rfl rfl rfl (by kernel_rfl) rfl) trivial ?_
  refine ch_v (R := []) rfl rfl (oc_load rfl rfl (by kernel_rfl) cells_ptr) trivial ?_
  refine ch_v (R := []) rfl rfl (oc_nilCheck rfl rfl) trivial ?_
  refine ch_v (R := []) rfl rfl (oc_fieldAddr (off := 4) rfl rfl rfl (by kernel_rfl) rfl) trivial ?_
  refine ch_v (R := []) rfl rfl (oc_load rfl rfl (by kernel_rfl) cells_ptr) trivial ?_
  refine ch_v (R := []) rfl rfl (oc_nilCheck rfl rfl) trivial ?_
  refine ch_v (R := []) rfl rfl (oc_fieldAddr (off := 5) rfl rfl rfl (by kernel_rfl) rfl) trivial ?_
  refine ch_v (R := []) rfl rfl (oc_load rfl rfl (by kernel_rfl) cells_ptr) trivial ?_
  refine ch_v (R := []) rfl rfl (oc_nilCheck rfl rfl) trivial ?_
  refine ch_v (R := []) rfl rfl (oc_fieldAddr (off := 6) rfl rfl rfl (by kernel_rfl) rfl) trivial ?_
  refine ch_v (R := []) rfl rfl (oc_buildArr (n := 7) (e := 70) (by_ := 8) (k := 1) (zs := [.pointer none, .pointer none, .pointer none, .pointer none, .pointer none, .pointer none, .pointer none]) (ez := [.pointer none]) (ds := [.ptr _, .ptr _, .ptr _, .ptr _, .ptr _, .ptr _, .ptr _]) rfl (by kernel_rfl) rfl (by kernel_rfl) (by kernel_rfl) (by first | rfl | decide) rfl) trivial ?_
  refine ch_v (R := []) rfl rfl (oc_move (x := .val _) rfl rfl) trivial ?_
  refine ck_nil ⟨by kernel_rfl, ?_⟩
  refine aw_block ?_
  refine aw_loop (ι := Nat) (fun k => ⟨[(0, .val (.func (.yield l) #[] #[])), (26, .agg [.ptr (slI w.globals), .ptr (slI w.parent), .ptr (slI w.child), .ptr (slI w.next), .ptr (slI w.flags), .ptr (slI w.props), .ptr (slI w.timers)]), (27, vi k)], [(5, .loop l N ps.toArray assign body none σ), (0, .live 29 [bs (packK w k)])]⟩) (fun k => k ≤ 7) (fun k => 7 - k) 0 (Nat.zero_le _) (Le.sub (by repeat (first | trivial | refine ⟨.inr rfl, ?_⟩ | refine ⟨.inr (vi_eq (by omega)), ?_⟩)) (by repeat (first | trivial | refine ⟨rfl, ?_⟩))) ?_
  intro k hI
  refine aw_seq ?_
  refine aw_text rfl ?_
  refine ch_v (R := []) rfl rfl (oc_binZ rfl rfl rfl rfl) trivial ?_
  refine ck_nil ?_
  refine aw_seq ?_
  refine aw_cond rfl (fun hb => ?_) (fun hb => ?_)
  · have hlt : k < 7 := by have h0 := of_decide_eq_true hb; omega
    refine aw_skip ?_
    refine aw_seq ?_
    refine aw_block ?_
    refine aw_seq ?_
    refine aw_text rfl ?_
    refine ch_v (R := []) rfl rfl (oc_arrIndex (n := 7) (e := 70) (by_ := 8) (zs := [.pointer none]) k rfl rfl rfl (by kernel_rfl) (by kernel_rfl) (by kernel_rfl) hlt (row_at7 w hlt)) trivial ?_
    refine ch_v (R := []) rfl rfl (oc_assign (x := .ptr _) rfl rfl) trivial ?_
    refine ck_nil ?_
    refine aw_seq ?_
    refine aw_text rfl ?_
    refine ch_v (R := []) rfl rfl (oc_move (x := .val _) rfl rfl) trivial ?_
    refine ch_v (R := []) rfl rfl (oc_move (x := .ptr _) rfl rfl) trivial ?_
    refine ch_r rfl rfl (oc_yield (nl := 5) (xs := [.ptr (slI (w.row k))]) (R := [(0, .live 29 [bs (packK w k)])]) (M := []) (B := true) (U := [(0, .live 29 [bs (packK w (k + 1))])]) [] rfl rfl rfl (rc k hlt) hlen hN (by simp) (by simp) (by simp) (by simp) (by simp) (by simp [bornH]) (InNL.of_pure _ (by simp [PureL, Pure, pure_slI])) hσ ⟨by simp [InH, InNL, InN.of_pure _ (bs_pure _)], trivial⟩ ⟨by simp [InH, InNL, InN.of_pure _ (bs_pure _)], trivial⟩) ⟨rfl, rfl, trivial⟩ ?_
    refine ch_v (R := []) rfl rfl (oc_not rfl rfl) trivial ?_
    refine ck_nil ?_
    refine aw_cond rfl (fun hb => ?_) (fun hb => ?_)
    · exact absurd hb (by decide)
    · refine aw_skip ?_
      refine aw_text rfl ?_
      refine ch_v (R := []) rfl rfl (oc_binZ rfl rfl rfl (by first | exact binW_add (by omega) (by omega) | rfl)) trivial ?_
      refine ch_v (R := []) rfl rfl (oc_move (x := .val _) rfl rfl) trivial ?_
      refine ck_nil ?_
      exact ⟨k + 1, by omega, by omega, Le.sub (by repeat (first | trivial | refine ⟨.inr rfl, ?_⟩ | refine ⟨.inr (vi_eq (by omega)), ?_⟩)) (by repeat (first | trivial | refine ⟨rfl, ?_⟩))⟩
  · have hge : k = 7 := by have h0 := of_decide_eq_false hb; omega
    subst hge
    refine aw_exit ?_
    exact ⟨.inr rfl, res_none rfl, ⟨rfl, rfl, trivial⟩⟩
set_option maxHeartbeats 800000 in
theorem lists_fc (cs : List Av) (h0 : 0 < cs.length) : FC Try.prog 33 [.own 0 0] ([(0, .live 34 cs)]) (.clo 80 [.ptr (.own 0 0)]) ([(0, .live 34 cs)]) := by
  refine FC.body 4 4 Try.func33 rfl (by kernel_rfl) ?_
  refine aw_seq ?_
  refine aw_text rfl ?_
  refine ch_v (R := []) rfl rfl (oc_box (x := .own _ _) rfl rfl) trivial ?_
  refine ch_v (R := []) rfl rfl (oc_assign (x := .val _) rfl rfl) trivial ?_
  refine ck_nil ?_
  refine aw_seq ?_
  refine aw_text rfl ?_
  refine ch_v (R := []) rfl rfl (oc_makeFunc (cs := [.ptr _]) rfl rfl) trivial ?_
  refine ch_v (R := []) rfl rfl (oc_assign (x := .clo _ _) rfl rfl) trivial ?_
  refine ck_nil ?_
  refine aw_ret ?_
  exact ⟨.inl rfl, ResOk.tmp rfl rfl, ⟨rfl, trivial⟩⟩
set_option maxHeartbeats 800000 in
theorem lists_pc (w : WorldP) : PC Try.prog 33 [.ptr (worldAv w)] (.clo 80 [.ptr (.ptr (worldAv w))]) := by
  refine FC.body 6 4 Try.func33 rfl (by kernel_rfl) ?_
  refine aw_seq ?_
  refine aw_text rfl ?_
  refine ch_v (R := []) rfl rfl (oc_box (x := .ptr _) rfl rfl) trivial ?_
  refine ch_v (R := []) rfl rfl (oc_assign (x := .val _) rfl rfl) trivial ?_
  refine ck_nil ?_
  refine aw_seq ?_
  refine aw_text rfl ?_
  refine ch_v (R := []) rfl rfl (oc_makeFunc (cs := [.ptr _]) rfl rfl) trivial ?_
  refine ch_v (R := []) rfl rfl (oc_assign (x := .clo _ _) rfl rfl) trivial ?_
  refine ck_nil ?_
  refine aw_ret ?_
  exact ⟨.inl rfl, ResOk.tmp rfl rfl, trivial⟩
end Go.Proofs.Ytjloemlnejndmaa
