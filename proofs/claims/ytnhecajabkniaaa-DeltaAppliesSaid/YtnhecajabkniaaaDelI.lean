/- The law DeltaApplies, walked. -/
import Derived.Test.YtnhecajabkniaaaDelH
namespace Go.Proofs.Ytnhecajabkniaaa
open Go.RowKit Go.IntWalk
set_option maxRecDepth 100000
set_option linter.unusedVariables false
set_option linter.unusedSimpArgs false

set_option maxHeartbeats 3200000 in
theorem deltaApplies_walk (A : Option Addr) (n c : Nat) (xs : List Int) (D : Option Addr) (m d : Nat) (ds : List Int) (w : World) (hn0 : n = xs.length) (hr0 : Rd w w.heap.size A (cb .u8 xs)) (hw0 : ∀ x ∈ xs, (Lit.int .u8 x).wf = true) (hc0 : n ≤ c) (hm0 : c ≤ maxLen) (hn1 : m = ds.length) (hr1 : Rd w w.heap.size D (cb .u8 ds)) (hw1 : ∀ x ∈ ds, (Lit.int .u8 x).wf = true) (hc1 : m ≤ d) (hm1 : d ≤ maxLen) :
    Calls Try.prog 3 #[.slice A n c, .slice D m d] w fun e w' => e = .returned (.bool true) ∧ Below w.heap.size w w' := by
  unfold maxLen at hm0 hm1
  have hb0 : Byt xs := fun x hx => wf_u8 (hw0 x hx)
  have HN0 := Lib.hid hn0
  clear hw0 hn0
  have hb1 : Byt ds := fun x hx => wf_u8 (hw1 x hx)
  have HN1 := Lib.hid hn1
  clear hw1 hn1
  by_cases h1 : 500 < n
  · go_enter Try.func3, Try.ntmps3
    go_wp2_with (go_at_call 7; refine (awake_any _).mono ?_; rintro e w1 ⟨rfl, hb1⟩)
    go_ret
    exact ⟨rfl, hb1⟩
  · by_cases h2 : 500 < m
    · go_enter Try.func3, Try.ntmps3
      go_wp2_with (go_at_call 7; refine (awake_any _).mono ?_; rintro e w1 ⟨rfl, hb1⟩)
      go_ret
      exact ⟨rfl, hb1⟩
    · go_enter Try.func3, Try.ntmps3
      obtain ⟨Y, E, hY⟩ : ∃ Y E, dApp xs ds = (Y, E) := ⟨_, _, rfl⟩
      have HY := Lib.hid hY
      clear hY
      go_wp2_with fail
      refine (apply_any A D n c m d xs ds _ hr0 HN0.out hc0 hb0 hr1 HN1.out hc1 hb1 (by omega) (by omega)).mono ?_
      rw [HY.out]
      rintro e w1 ⟨A3, n3, c3, rfl, ho3, hB1⟩
      go_wp2_with fail
      refine (rapply_any A D n c m d xs ds _ (rd_at hr0 hB1) HN0.out hc0 hb0 (rd_at hr1 hB1) HN1.out hc1 hb1 (by omega) (by omega)).mono ?_
      rw [HY.out]
      rintro e w2 ⟨A4, n4, c4, rfl, ho4, hb2⟩
      have hB2 := below_call hB1 hb2
      have hq3 := ho3.below hb2
      go_upto_region 5 with (fail)
      refine wp_region_grow_plain (A := ?A1) [isV (.slice A3 n3 c3), isV (.string (strOfNums Y)), isV (.slice A4 n4 c4), isV (.string (strOfNums Y)), isV (.bool true), isV (.bool true), isV (.int .i64 E), isV (.int .i64 E), isV (.bool true), isV (.bool true), isV (.bool true), isV (.bool true), isV (.bool true), isV (.bool true)] (w2) (by kernel_rfl) (by kernel_rfl) (fun f => ?hA1) (Below.refl _ _) ?hst1 ?hops1 ?hend1
      case hA1 =>
        simp only [fillFrom, Nat.zero_add, Nat.reduceAdd]
        go_frame
        with_reducible rfl
      case hst1 => repeat (first | exact trivial | refine ⟨stab_is _ _, ?_⟩ | refine ⟨stab_own _ _ _ _, ?_⟩ | refine ⟨stab_any _, ?_⟩ | refine ⟨stab_rd _ _ _, ?_⟩)
      case hops1 =>
        refine GOps.cons_ (fun f w' K hW hd hK => ?_) ?_
        · try simp only [depsOf, depsL, Region.binds, depsHold, nthS, List.getD_cons_zero, List.getD_cons_succ, isV, ownV, anyV, if_true, and_true, true_and] at hd
          go_simp
          refine hK _ _ (Below.refl _ _) ?_
          exact rfl
        refine GOps.cons_ (fun f w' K hW hd hK => ?_) ?_
        · try simp only [depsOf, depsL, Region.binds, depsHold, nthS, List.getD_cons_zero, List.getD_cons_succ, isV, ownV, anyV, if_true, and_true, true_and] at hd
          have cv := conv_str (P := Try.prog) Try.underlying22 Try.underlying5 Try.underlying9 (hq3.below hW).rd.2.2 (c := c3) (n := n3) (by rw [hq3.rd.1]; simp)
          go_simp
          refine hK _ _ (Below.refl _ _) ?_
          exact rfl
        refine GOps.cons_ (fun f w' K hW hd hK => ?_) ?_
        · try simp only [depsOf, depsL, Region.binds, depsHold, nthS, List.getD_cons_zero, List.getD_cons_succ, isV, ownV, anyV, if_true, and_true, true_and] at hd
          go_simp
          refine hK _ _ (Below.refl _ _) ?_
          exact rfl
        refine GOps.cons_ (fun f w' K hW hd hK => ?_) ?_
        · try simp only [depsOf, depsL, Region.binds, depsHold, nthS, List.getD_cons_zero, List.getD_cons_succ, isV, ownV, anyV, if_true, and_true, true_and] at hd
          have cv := conv_str (P := Try.prog) Try.underlying22 Try.underlying5 Try.underlying9 (ho4.below hW).rd.2.2 (c := c4) (n := n4) (by rw [ho4.rd.1]; simp)
          go_simp
          refine hK _ _ (Below.refl _ _) ?_
          exact rfl
        refine GOps.cons_ (fun f w' K hW hd hK => ?_) ?_
        · try simp only [depsOf, depsL, Region.binds, depsHold, nthS, List.getD_cons_zero, List.getD_cons_succ, isV, ownV, anyV, if_true, and_true, true_and] at hd
          go_simp
          refine hK _ _ (Below.refl _ _) ?_
          exact rfl
        refine GOps.cons_ (fun f w' K hW hd hK => ?_) ?_
        · try simp only [depsOf, depsL, Region.binds, depsHold, nthS, List.getD_cons_zero, List.getD_cons_succ, isV, ownV, anyV, if_true, and_true, true_and] at hd
          go_simp
          refine hK _ _ (Below.refl _ _) ?_
          exact rfl
        refine GOps.cons_ (fun f w' K hW hd hK => ?_) ?_
        · try simp only [depsOf, depsL, Region.binds, depsHold, nthS, List.getD_cons_zero, List.getD_cons_succ, isV, ownV, anyV, if_true, and_true, true_and] at hd
          go_simp
          refine hK _ _ (Below.refl _ _) ?_
          exact rfl
        refine GOps.cons_ (fun f w' K hW hd hK => ?_) ?_
        · try simp only [depsOf, depsL, Region.binds, depsHold, nthS, List.getD_cons_zero, List.getD_cons_succ, isV, ownV, anyV, if_true, and_true, true_and] at hd
          go_simp
          refine hK _ _ (Below.refl _ _) ?_
          exact rfl
        refine GOps.cons_ (fun f w' K hW hd hK => ?_) ?_
        · try simp only [depsOf, depsL, Region.binds, depsHold, nthS, List.getD_cons_zero, List.getD_cons_succ, isV, ownV, anyV, if_true, and_true, true_and] at hd
          go_simp
          refine hK _ _ (Below.refl _ _) ?_
          exact rfl
        refine GOps.cons_ (fun f w' K hW hd hK => ?_) ?_
        · try simp only [depsOf, depsL, Region.binds, depsHold, nthS, List.getD_cons_zero, List.getD_cons_succ, isV, ownV, anyV, if_true, and_true, true_and] at hd
          go_simp
          refine hK _ _ (Below.refl _ _) ?_
          exact rfl
        refine GOps.cons_ (fun f w' K hW hd hK => ?_) ?_
        · try simp only [depsOf, depsL, Region.binds, depsHold, nthS, List.getD_cons_zero, List.getD_cons_succ, isV, ownV, anyV, if_true, and_true, true_and] at hd
          go_simp
          refine hK _ _ (Below.refl _ _) ?_
          exact rfl
        refine GOps.cons_ (fun f w' K hW hd hK => ?_) ?_
        · try simp only [depsOf, depsL, Region.binds, depsHold, nthS, List.getD_cons_zero, List.getD_cons_succ, isV, ownV, anyV, if_true, and_true, true_and] at hd
          go_simp
          refine (awake_any _).mono ?_
          rintro e w1 ⟨rfl, hb⟩
          exact ⟨_, rfl, hK _ _ hb rfl⟩
        refine GOps.cons_ (fun f w' K hW hd hK => ?_) ?_
        · try simp only [depsOf, depsL, Region.binds, depsHold, nthS, List.getD_cons_zero, List.getD_cons_succ, isV, ownV, anyV, if_true, and_true, true_and] at hd
          go_simp
          refine hK _ _ (Below.refl _ _) ?_
          exact rfl
        refine GOps.cons_ (fun f w' K hW hd hK => ?_) ?_
        · try simp only [depsOf, depsL, Region.binds, depsHold, nthS, List.getD_cons_zero, List.getD_cons_succ, isV, ownV, anyV, if_true, and_true, true_and] at hd
          go_simp
          refine hK _ _ (Below.refl _ _) ?_
          exact rfl
        exact GOps.nil_
      case hend1 =>
        intro f w' hW hd
        simp only [List.length_cons, List.length_nil, Nat.reduceAdd, List.range, List.range.loop, depsHold, nthS, List.getD_cons_zero, List.getD_cons_succ, isV, ownV, anyV, true_and, and_true] at hd
        have hl : f 13 = .bool true := by simp only [hd]
        go_wp2
        go_ret
        exact ⟨congrArg Ending.returned hl, hB2.trans (hW.mono hB2.size)⟩
end Go.Proofs.Ytnhecajabkniaaa
