/- The law OpRight, walked. -/
import Derived.Test.YtfalhlnmjllfpaaOpT
namespace Go.Proofs.Ytfalhlnmjllfpaa
open Go.RowKit Go.IntWalk
set_option maxRecDepth 100000
set_option linter.unusedVariables false
set_option linter.unusedSimpArgs false

set_option maxHeartbeats 12800000 in
theorem opRight_walk (g p x d fl : Int) (fA : Option Addr) (nF fc : Nat) (fs : List Int) (qA : Option Addr) (nQ qc : Nat) (ps : List Int) (op arg : Int) (w : World) (wg : (Lit.int .u8 g).wf = true) (wp : (Lit.int .u8 p).wf = true) (wx : (Lit.int .u8 x).wf = true) (wd : (Lit.int .u8 d).wf = true) (wfl : (Lit.int .i64 fl).wf = true) (hnf : nF = fs.length) (hf : Rd w w.heap.size fA (cb .i64 fs)) (hwf : ∀ z ∈ fs, (Lit.int .i64 z).wf = true) (hcf : nF ≤ fc) (hmf : fc ≤ maxLen) (hnq : nQ = ps.length) (hq : Rd w w.heap.size qA (cb .i64 ps)) (hwq : ∀ z ∈ ps, (Lit.int .i64 z).wf = true) (hcq : nQ ≤ qc) (hmq : qc ≤ maxLen) (wop : (Lit.int .i64 op).wf = true) (warg : (Lit.int .i64 arg).wf = true) :
    Calls Try.prog 7 #[.agg #[.int .u8 g, .int .u8 p, .int .u8 x, .int .u8 d, .int .i64 fl, .slice fA nF fc, .slice qA nQ qc], .agg #[.int .i64 op, .int .i64 arg]] w fun e w' => e = .returned (.bool true) ∧ Below w.heap.size w w' := by
  unfold maxLen at hmf hmq
  have hg := wf_u8 wg
  have hp := wf_u8 wp
  have hx := wf_u8 wx
  have hd := wf_u8 wd
  obtain ⟨ha0, ha1⟩ := wf_i64 warg
  have HNF := Lib.hid hnf
  have HNQ := Lib.hid hnq
  clear hnf hnq hwf hwq wg wp wx wd wfl wop warg
  have hb0 := (Below.refl w.heap.size w).alloc (Nat.le_refl _) (.cells #[.int .u8 g, .int .u8 p, .int .u8 x, .int .u8 d, .int .i64 fl, .slice fA nF fc, .slice qA nQ qc] 39)
  have hb1 := hb0.alloc hb0.size (.cells #[.int .i64 op, .int .i64 arg] 28)
  have KI := Blk.new (w.alloc (.cells #[.int .u8 g, .int .u8 p, .int .u8 x, .int .u8 d, .int .i64 fl, .slice fA nF fc, .slice qA nQ qc] 39)) 28 [.int .i64 op, .int .i64 arg]
  clear hb0
  by_cases h1 : 100 < nF
  · go_enter Try.func7, Try.ntmps7
    go_wp2_with (go_at_call 8; refine (awake_any _).mono ?_; rintro e w1 ⟨rfl, hba⟩)
    go_ret
    exact ⟨rfl, below_call hb1 hba⟩
  · by_cases h2 : 100 < nQ
    · go_enter Try.func7, Try.ntmps7
      go_wp2_with (go_at_call 8; refine (awake_any _).mono ?_; rintro e w1 ⟨rfl, hba⟩)
      go_ret
      exact ⟨rfl, below_call hb1 hba⟩
    · go_enter Try.func7, Try.ntmps7
      go_wp2_with fail
      refine (tables_any g p x d fl fA nF fc qA nQ qc _ hg hp hx hd).mono ?_
      rintro e w1 ⟨A1, c1, A2, c2, A3, c3, A4, c4, rfl, hb2⟩
      have hb3 := below_call hb1 hb2
      have KI1 := KI.below hb2 KI.lt
      clear KI hb2
      go_wp2_with fail
      have hb4 := hb3.alloc hb3.size (.cells #[.int .i64 0, .int .i64 0, .int .i64 0, .int .i64 0, .slice A3 x.toNat c3, .int .i64 fl, .slice A2 p.toNat c2, .slice A1 g.toNat c1, .slice none 0 0, .slice none 0 0, .slice none 0 0, .slice fA nF fc, .slice A4 d.toNat c4, .slice qA nQ qc, .slice none 0 0] 46)
      have KT := Blk.new w1 46 [.int .i64 0, .int .i64 0, .int .i64 0, .int .i64 0, .slice A3 x.toNat c3, .int .i64 fl, .slice A2 p.toNat c2, .slice A1 g.toNat c1, .slice none 0 0, .slice none 0 0, .slice none 0 0, .slice fA nF fc, .slice A4 d.toNat c4, .slice qA nQ qc, .slice none 0 0]
      have KI2 := KI1.alloc (.cells #[.int .i64 0, .int .i64 0, .int .i64 0, .int .i64 0, .slice A3 x.toNat c3, .int .i64 fl, .slice A2 p.toNat c2, .slice A1 g.toNat c1, .slice none 0 0, .slice none 0 0, .slice none 0 0, .slice fA nF fc, .slice A4 d.toNat c4, .slice qA nQ qc, .slice none 0 0] 46)
      generalize w1.alloc (.cells #[.int .i64 0, .int .i64 0, .int .i64 0, .int .i64 0, .slice A3 x.toNat c3, .int .i64 fl, .slice A2 p.toNat c2, .slice A1 g.toNat c1, .slice none 0 0, .slice none 0 0, .slice none 0 0, .slice fA nF fc, .slice A4 d.toNat c4, .slice qA nQ qc, .slice none 0 0] 46) = W at *
      generalize w1.heap.size = b5 at *
      obtain ⟨bi, hbi⟩ : ∃ bi, (w.alloc (.cells #[.int .u8 g, .int .u8 p, .int .u8 x, .int .u8 d, .int .i64 fl, .slice fA nF fc, .slice qA nQ qc] 39)).heap.size = bi := ⟨_, rfl⟩
      have hbi' : w.heap.size + 1 = bi := by rw [← hbi]; simp
      rw [hbi] at KI2
      rw [hbi']
      clear hbi hbi' KI1 hb3
      refine wp_region_grow (A := ?A1) [isV (.agg #[.int .i64 0, .int .i64 0, .int .i64 0, .int .i64 0, .slice A3 x.toNat c3, .int .i64 fl, .slice A2 p.toNat c2, .slice A1 g.toNat c1, .slice none 0 0, .slice none 0 0, .slice none 0 0, .slice fA nF fc, .slice A4 d.toNat c4, .slice qA nQ qc, .slice none 0 0]), isV (.agg #[.int .i64 op, .int .i64 arg]), isV (.int .i64 (popsN fs ps op arg)), isV (.agg #[.int .i64 0, .int .i64 0, .int .i64 0, .int .i64 0, .slice A3 x.toNat c3, .int .i64 fl, .slice A2 p.toNat c2, .slice A1 g.toNat c1, .slice none 0 0, .slice none 0 0, .slice none 0 0, .slice fA nF fc, .slice A4 d.toNat c4, .slice qA nQ qc, .slice none 0 0]), isV (.agg #[.int .i64 op, .int .i64 arg]), isV (.int .i64 (popsN fs ps op arg)), isV (.bool true), isV (.bool true), isV (.agg #[.int .i64 op, .int .i64 arg]), isV (.int .i64 (pushN op)), isV (.agg #[.int .i64 op, .int .i64 arg]), isV (.int .i64 (pushN op)), isV (.bool true), isV (.bool true), isV (.bool true), isV (.agg #[.int .i64 0, .int .i64 0, .int .i64 0, .int .i64 0, .slice A3 x.toNat c3, .int .i64 fl, .slice A2 p.toNat c2, .slice A1 g.toNat c1, .slice none 0 0, .slice none 0 0, .slice none 0 0, .slice fA nF fc, .slice A4 d.toNat c4, .slice qA nQ qc, .slice none 0 0]), isV (.agg #[.int .i64 op, .int .i64 arg]), isV (.bool (rgtB fl x.toNat p.toNat g.toNat nF d.toNat op arg)), isV (.agg #[.int .i64 0, .int .i64 0, .int .i64 0, .int .i64 0, .slice A3 x.toNat c3, .int .i64 fl, .slice A2 p.toNat c2, .slice A1 g.toNat c1, .slice none 0 0, .slice none 0 0, .slice none 0 0, .slice fA nF fc, .slice A4 d.toNat c4, .slice qA nQ qc, .slice none 0 0]), isV (.agg #[.int .i64 op, .int .i64 arg]), isV (.bool (rgtB fl x.toNat p.toNat g.toNat nF d.toNat op arg)), isV (.bool true), isV (.bool true), isV (.bool true), isV (.bool true), isV (.bool true), isV (.bool true)] (W) (by kernel_rfl) (by kernel_rfl) (fun f => ?hA1) (Below.refl _ _) ?hst1 ?hops1 ?hend1
      case hA1 =>
        simp only [fillFrom, Nat.zero_add, Nat.reduceAdd]
        go_frame
        with_reducible rfl
      case hst1 => repeat (first | exact trivial | refine ⟨stab_is _ _, ?_⟩ | refine ⟨stab_own _ _ _ _, ?_⟩ | refine ⟨stab_any _, ?_⟩ | refine ⟨stab_rd _ _ _, ?_⟩)
      case hops1 =>
        refine GOps.cons_ (fun f w' K hW hd hK => ?_) ?_
        · try simp only [depsOf, depsL, Region.binds, depsHold, nthS, List.getD_cons_zero, List.getD_cons_succ, isV, ownV, anyV, if_true, and_true, true_and] at hd
          have q0 := (KT.below hW KT.lt).cell 0
          have q1 := (KT.below hW KT.lt).cell 1
          have q2 := (KT.below hW KT.lt).cell 2
          have q3 := (KT.below hW KT.lt).cell 3
          have q4 := (KT.below hW KT.lt).cell 4
          have q5 := (KT.below hW KT.lt).cell 5
          have q6 := (KT.below hW KT.lt).cell 6
          have q7 := (KT.below hW KT.lt).cell 7
          have q8 := (KT.below hW KT.lt).cell 8
          have q9 := (KT.below hW KT.lt).cell 9
          have q10 := (KT.below hW KT.lt).cell 10
          have q11 := (KT.below hW KT.lt).cell 11
          have q12 := (KT.below hW KT.lt).cell 12
          have q13 := (KT.below hW KT.lt).cell 13
          have q14 := (KT.below hW KT.lt).cell 14
          go_simp
          refine hK _ _ (Below.refl _ _) ?_
          exact rfl
        refine GOps.cons_ (fun f w' K hW hd hK => ?_) ?_
        · try simp only [depsOf, depsL, Region.binds, depsHold, nthS, List.getD_cons_zero, List.getD_cons_succ, isV, ownV, anyV, if_true, and_true, true_and] at hd
          have i0 := (KI2.below hW KI2.lt).cell 0
          have i1 := (KI2.below hW KI2.lt).cell 1
          go_simp
          refine hK _ _ (Below.refl _ _) ?_
          exact rfl
        refine GOps.cons_ (fun f w' K hW hd hK => ?_) ?_
        · try simp only [depsOf, depsL, Region.binds, depsHold, nthS, List.getD_cons_zero, List.getD_cons_succ, isV, ownV, anyV, if_true, and_true, true_and] at hd
          go_simp
          refine (pops_any 0 0 0 0 A3 x.toNat c3 fl A2 p.toNat c2 A1 g.toNat c1 none 0 0 none 0 0 none 0 0 fA nF fc A4 d.toNat c4 qA nQ qc none 0 0 op arg _ fs ps (rd_at hf (hb4.trans (hW.mono hb4.size))) HNF.out (rd_at hq (hb4.trans (hW.mono hb4.size))) HNQ.out (by omega) (by omega)).mono ?_
          rintro e w1 ⟨rfl, hb⟩
          exact ⟨_, rfl, hK _ _ hb rfl⟩
        refine GOps.cons_ (fun f w' K hW hd hK => ?_) ?_
        · try simp only [depsOf, depsL, Region.binds, depsHold, nthS, List.getD_cons_zero, List.getD_cons_succ, isV, ownV, anyV, if_true, and_true, true_and] at hd
          have q0 := (KT.below hW KT.lt).cell 0
          have q1 := (KT.below hW KT.lt).cell 1
          have q2 := (KT.below hW KT.lt).cell 2
          have q3 := (KT.below hW KT.lt).cell 3
          have q4 := (KT.below hW KT.lt).cell 4
          have q5 := (KT.below hW KT.lt).cell 5
          have q6 := (KT.below hW KT.lt).cell 6
          have q7 := (KT.below hW KT.lt).cell 7
          have q8 := (KT.below hW KT.lt).cell 8
          have q9 := (KT.below hW KT.lt).cell 9
          have q10 := (KT.below hW KT.lt).cell 10
          have q11 := (KT.below hW KT.lt).cell 11
          have q12 := (KT.below hW KT.lt).cell 12
          have q13 := (KT.below hW KT.lt).cell 13
          have q14 := (KT.below hW KT.lt).cell 14
          go_simp
          refine hK _ _ (Below.refl _ _) ?_
          exact rfl
        refine GOps.cons_ (fun f w' K hW hd hK => ?_) ?_
        · try simp only [depsOf, depsL, Region.binds, depsHold, nthS, List.getD_cons_zero, List.getD_cons_succ, isV, ownV, anyV, if_true, and_true, true_and] at hd
          have i0 := (KI2.below hW KI2.lt).cell 0
          have i1 := (KI2.below hW KI2.lt).cell 1
          go_simp
          refine hK _ _ (Below.refl _ _) ?_
          exact rfl
        refine GOps.cons_ (fun f w' K hW hd hK => ?_) ?_
        · try simp only [depsOf, depsL, Region.binds, depsHold, nthS, List.getD_cons_zero, List.getD_cons_succ, isV, ownV, anyV, if_true, and_true, true_and] at hd
          go_simp
          refine (rpops_any 0 0 0 0 A3 x.toNat c3 fl A2 p.toNat c2 A1 g.toNat c1 none 0 0 none 0 0 none 0 0 fA nF fc A4 d.toNat c4 qA nQ qc none 0 0 op arg _ fs ps (rd_at hf (hb4.trans (hW.mono hb4.size))) HNF.out (rd_at hq (hb4.trans (hW.mono hb4.size))) HNQ.out (by omega) (by omega)).mono ?_
          rintro e w1 ⟨rfl, hb⟩
          exact ⟨_, rfl, hK _ _ hb rfl⟩
        refine GOps.cons_ (fun f w' K hW hd hK => ?_) ?_
        · try simp only [depsOf, depsL, Region.binds, depsHold, nthS, List.getD_cons_zero, List.getD_cons_succ, isV, ownV, anyV, if_true, and_true, true_and] at hd
          go_simp
          refine hK _ _ (Below.refl _ _) ?_
          exact rfl
        refine GOps.cons_ (fun f w' K hW hd hK => ?_) ?_
        · try simp only [depsOf, depsL, Region.binds, depsHold, nthS, List.getD_cons_zero, List.getD_cons_succ, isV, ownV, anyV, if_true, and_true, true_and] at hd
          go_simp
          refine hK _ _ (Below.refl _ _) ?_
          exact rfl
        refine GOps.cons_ (fun f w' K hW hd hK => ?_) ?_
        · try simp only [depsOf, depsL, Region.binds, depsHold, nthS, List.getD_cons_zero, List.getD_cons_succ, isV, ownV, anyV, if_true, and_true, true_and] at hd
          have i0 := (KI2.below hW KI2.lt).cell 0
          have i1 := (KI2.below hW KI2.lt).cell 1
          go_simp
          refine hK _ _ (Below.refl _ _) ?_
          exact rfl
        refine GOps.cons_ (fun f w' K hW hd hK => ?_) ?_
        · try simp only [depsOf, depsL, Region.binds, depsHold, nthS, List.getD_cons_zero, List.getD_cons_succ, isV, ownV, anyV, if_true, and_true, true_and] at hd
          go_simp
          refine (pushes_any op arg _).mono ?_
          rintro e w1 ⟨rfl, hb⟩
          exact ⟨_, rfl, hK _ _ hb rfl⟩
        refine GOps.cons_ (fun f w' K hW hd hK => ?_) ?_
        · try simp only [depsOf, depsL, Region.binds, depsHold, nthS, List.getD_cons_zero, List.getD_cons_succ, isV, ownV, anyV, if_true, and_true, true_and] at hd
          have i0 := (KI2.below hW KI2.lt).cell 0
          have i1 := (KI2.below hW KI2.lt).cell 1
          go_simp
          refine hK _ _ (Below.refl _ _) ?_
          exact rfl
        refine GOps.cons_ (fun f w' K hW hd hK => ?_) ?_
        · try simp only [depsOf, depsL, Region.binds, depsHold, nthS, List.getD_cons_zero, List.getD_cons_succ, isV, ownV, anyV, if_true, and_true, true_and] at hd
          go_simp
          refine (rpushes_any op arg _).mono ?_
          rintro e w1 ⟨rfl, hb⟩
          exact ⟨_, rfl, hK _ _ hb rfl⟩
        refine GOps.cons_ (fun f w' K hW hd hK => ?_) ?_
        · try simp only [depsOf, depsL, Region.binds, depsHold, nthS, List.getD_cons_zero, List.getD_cons_succ, isV, ownV, anyV, if_true, and_true, true_and] at hd
          go_simp
          refine hK _ _ (Below.refl _ _) ?_
          exact rfl
        refine GOps.cons_ (fun f w' K hW hd hK => ?_) ?_
        · try simp only [depsOf, depsL, Region.binds, depsHold, nthS, List.getD_cons_zero, List.getD_cons_succ, isV, ownV, anyV, if_true, and_true, true_and] at hd
          go_simp
          refine hK _ _ (Below.refl _ _) ?_
          exact rfl
        refine GOps.cons_ (fun f w' K hW hd hK => ?_) ?_
        · try simp only [depsOf, depsL, Region.binds, depsHold, nthS, List.getD_cons_zero, List.getD_cons_succ, isV, ownV, anyV, if_true, and_true, true_and] at hd
          go_simp
          refine hK _ _ (Below.refl _ _) ?_
          exact rfl
        refine GOps.cons_ (fun f w' K hW hd hK => ?_) ?_
        · try simp only [depsOf, depsL, Region.binds, depsHold, nthS, List.getD_cons_zero, List.getD_cons_succ, isV, ownV, anyV, if_true, and_true, true_and] at hd
          have q0 := (KT.below hW KT.lt).cell 0
          have q1 := (KT.below hW KT.lt).cell 1
          have q2 := (KT.below hW KT.lt).cell 2
          have q3 := (KT.below hW KT.lt).cell 3
          have q4 := (KT.below hW KT.lt).cell 4
          have q5 := (KT.below hW KT.lt).cell 5
          have q6 := (KT.below hW KT.lt).cell 6
          have q7 := (KT.below hW KT.lt).cell 7
          have q8 := (KT.below hW KT.lt).cell 8
          have q9 := (KT.below hW KT.lt).cell 9
          have q10 := (KT.below hW KT.lt).cell 10
          have q11 := (KT.below hW KT.lt).cell 11
          have q12 := (KT.below hW KT.lt).cell 12
          have q13 := (KT.below hW KT.lt).cell 13
          have q14 := (KT.below hW KT.lt).cell 14
          go_simp
          refine hK _ _ (Below.refl _ _) ?_
          exact rfl
        refine GOps.cons_ (fun f w' K hW hd hK => ?_) ?_
        · try simp only [depsOf, depsL, Region.binds, depsHold, nthS, List.getD_cons_zero, List.getD_cons_succ, isV, ownV, anyV, if_true, and_true, true_and] at hd
          have i0 := (KI2.below hW KI2.lt).cell 0
          have i1 := (KI2.below hW KI2.lt).cell 1
          go_simp
          refine hK _ _ (Below.refl _ _) ?_
          exact rfl
        refine GOps.cons_ (fun f w' K hW hd hK => ?_) ?_
        · try simp only [depsOf, depsL, Region.binds, depsHold, nthS, List.getD_cons_zero, List.getD_cons_succ, isV, ownV, anyV, if_true, and_true, true_and] at hd
          go_simp
          refine (right_any 0 0 0 0 A3 x.toNat c3 fl A2 p.toNat c2 A1 g.toNat c1 none 0 0 none 0 0 none 0 0 fA nF fc A4 d.toNat c4 qA nQ qc none 0 0 op arg _).mono ?_
          rintro e w1 ⟨rfl, hb⟩
          exact ⟨_, rfl, hK _ _ hb rfl⟩
        refine GOps.cons_ (fun f w' K hW hd hK => ?_) ?_
        · try simp only [depsOf, depsL, Region.binds, depsHold, nthS, List.getD_cons_zero, List.getD_cons_succ, isV, ownV, anyV, if_true, and_true, true_and] at hd
          have q0 := (KT.below hW KT.lt).cell 0
          have q1 := (KT.below hW KT.lt).cell 1
          have q2 := (KT.below hW KT.lt).cell 2
          have q3 := (KT.below hW KT.lt).cell 3
          have q4 := (KT.below hW KT.lt).cell 4
          have q5 := (KT.below hW KT.lt).cell 5
          have q6 := (KT.below hW KT.lt).cell 6
          have q7 := (KT.below hW KT.lt).cell 7
          have q8 := (KT.below hW KT.lt).cell 8
          have q9 := (KT.below hW KT.lt).cell 9
          have q10 := (KT.below hW KT.lt).cell 10
          have q11 := (KT.below hW KT.lt).cell 11
          have q12 := (KT.below hW KT.lt).cell 12
          have q13 := (KT.below hW KT.lt).cell 13
          have q14 := (KT.below hW KT.lt).cell 14
          go_simp
          refine hK _ _ (Below.refl _ _) ?_
          exact rfl
        refine GOps.cons_ (fun f w' K hW hd hK => ?_) ?_
        · try simp only [depsOf, depsL, Region.binds, depsHold, nthS, List.getD_cons_zero, List.getD_cons_succ, isV, ownV, anyV, if_true, and_true, true_and] at hd
          have i0 := (KI2.below hW KI2.lt).cell 0
          have i1 := (KI2.below hW KI2.lt).cell 1
          go_simp
          refine hK _ _ (Below.refl _ _) ?_
          exact rfl
        refine GOps.cons_ (fun f w' K hW hd hK => ?_) ?_
        · try simp only [depsOf, depsL, Region.binds, depsHold, nthS, List.getD_cons_zero, List.getD_cons_succ, isV, ownV, anyV, if_true, and_true, true_and] at hd
          go_simp
          refine (rright_any 0 0 0 0 A3 x.toNat c3 fl A2 p.toNat c2 A1 g.toNat c1 none 0 0 none 0 0 none 0 0 fA nF fc A4 d.toNat c4 qA nQ qc none 0 0 op arg _ (by omega) (by omega) (by omega) (by omega) (by omega)).mono ?_
          rintro e w1 ⟨rfl, hb⟩
          exact ⟨_, rfl, hK _ _ hb rfl⟩
        refine GOps.cons_ (fun f w' K hW hd hK => ?_) ?_
        · try simp only [depsOf, depsL, Region.binds, depsHold, nthS, List.getD_cons_zero, List.getD_cons_succ, isV, ownV, anyV, if_true, and_true, true_and] at hd
          go_simp
          refine hK _ _ (Below.refl _ _) ?_
          exact rfl
        refine GOps.cons_ (fun f w' K hW hd hK => ?_) ?_
        · try simp only [depsOf, depsL, Region.binds, depsHold, nthS, List.getD_cons_zero, List.getD_cons_succ, isV, ownV, anyV, if_true, and_true, true_and] at hd
          go_simp
          refine hK _ _ (Below.refl _ _) ?_
          exact rfl
        refine GOps.cons_ (fun f w' K hW hd hK => ?_) ?_
        · try simp only [depsOf, depsL, Region.binds, depsHold, nthS, List.getD_cons_zero, List.getD_cons_succ, isV, ownV, anyV, if_true, and_true, true_and] at hd
          go_simp
          refine hK _ _ (Below.refl _ _) ?_
          exact rfl
        refine GOps.cons_ (fun f w' K hW hd hK => ?_) ?_
        · try simp only [depsOf, depsL, Region.binds, depsHold, nthS, List.getD_cons_zero, List.getD_cons_succ, isV, ownV, anyV, if_true, and_true, true_and] at hd
          go_simp
          refine (awake_any _).mono ?_
          rintro e w1 ⟨rfl, hb⟩
          exact ⟨_, rfl, hK _ _ hb rfl⟩
        refine GOps.cons_ (fun f w' K hW hd hK => ?_) ?_
        · try simp only [depsOf, depsL, Region.binds, depsHold, nthS, List.getD_cons_zero, List.getD_cons_succ, isV, ownV, anyV, if_true, and_true, true_and] at hd
          go_simp
          refine hK _ _ (Below.refl _ _) ?_
          exact rfl
        refine GOps.cons_ (fun f w' K hW hd hK => ?_) ?_
        · try simp only [depsOf, depsL, Region.binds, depsHold, nthS, List.getD_cons_zero, List.getD_cons_succ, isV, ownV, anyV, if_true, and_true, true_and] at hd
          go_simp
          refine hK _ _ (Below.refl _ _) ?_
          exact rfl
        exact GOps.nil_
      case hend1 =>
        intro f w' hW hd
        simp only [List.length_cons, List.length_nil, Nat.reduceAdd, List.range, List.range.loop, depsHold, nthS, List.getD_cons_zero, List.getD_cons_succ, isV, ownV, anyV, true_and, and_true] at hd
        have hl : f 26 = .bool true := by simp only [hd]
        go_wp2
        go_ret
        exact ⟨congrArg Ending.returned hl, hb4.trans (hW.mono hb4.size)⟩
end Go.Proofs.Ytfalhlnmjllfpaa
