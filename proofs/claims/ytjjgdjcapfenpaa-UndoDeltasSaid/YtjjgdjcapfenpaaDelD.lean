/- The contracts of delta.count and delta.take. -/
import Derived.Test.YtjjgdjcapfenpaaDelC
namespace Go.Proofs.Ytjjgdjcapfenpaa
open Go.RowKit Go.IntWalk
set_option maxRecDepth 100000
set_option linter.unusedVariables false
set_option linter.unusedSimpArgs false

/-- The error that count tells. -/
def cntE (e s most : Int) : Int := if e = 0 ∧ most < s then 5 else e
set_option maxHeartbeats 6400000 in
theorem count_any (A : Option Addr) (n c : Nat) (at_ err most : Int) (xs : List Int) (w : World) (hr : Rd w w.heap.size A (cb .u8 xs)) (hx : n = xs.length) (hc : n ≤ c) (hn : n ≤ 1000000000) (hb : Byt xs) :
    Calls Try.prog 34 #[.agg #[.slice A n c, .int .i64 at_, .int .i64 err], .int .i64 most] w fun e w' => e = .returned (.tuple #[.int .i64 (sTS xs at_ err 65536).1, .agg #[.slice A n c, .int .i64 (sTS xs at_ err 65536).2.1, .int .i64 (cntE (sTS xs at_ err 65536).2.2 (sTS xs at_ err 65536).1 most)]]) ∧ Below w.heap.size w w' := by
  have HX := Lib.hid hx
  clear hx
  obtain ⟨s, p, E, hS⟩ : ∃ s p E, sTS xs at_ err 65536 = (s, p, E) := ⟨_, _, _, rfl⟩
  rw [hS]
  have HS := Lib.hid hS
  clear hS
  simp only
  have hb0 := ((Below.refl w.heap.size w).alloc (Nat.le_refl _) (.cells #[.slice A n c, .int .i64 at_, .int .i64 err] 53)).alloc (by simp) (.cells #[.slice none 0 0, .int .i64 0, .int .i64 0] 53)
  have KA := (Blk.new w 53 [.slice A n c, .int .i64 at_, .int .i64 err]).alloc (.cells #[.slice none 0 0, .int .i64 0, .int .i64 0] 53)
  have KB := blk_at (g := w.heap.size + 1) (w.alloc (.cells #[.slice A n c, .int .i64 at_, .int .i64 err] 53)) 53 [.slice none 0 0, .int .i64 0, .int .i64 0] (by simp)
  go_enter Try.func34, Try.ntmps34
  go_wp2_with fail
  refine (takeSize_any A n c at_ err 65536 xs _ (rd_at hr hb0) HX.out hc hn hb).mono ?_
  rw [HS.out]
  rintro e w1 ⟨rfl, hb1⟩
  have hB1 := below_call hb0 hb1
  have KA1 := KA.below hb1 KA.lt
  have KB1 := KB.below hb1 KB.lt
  clear KA KB hb0 hb1 hr
  obtain ⟨q0, q1, q2, p0, p1, p2⟩ := KA1.three
  obtain ⟨r0, r1, r2, s0, s1, s2⟩ := KB1.three
  have lta := KA1.lt
  have ltb := KB1.lt
  have hB := ((hB1.setCell (p := ⟨w.heap.size, 0, none⟩) (Nat.le_refl _) (.slice A n c)).setCell (p := ⟨w.heap.size, 1, none⟩) (Nat.le_refl _) (.int .i64 p)).setCell (p := ⟨w.heap.size, 2, none⟩) (Nat.le_refl _) (.int .i64 E)
  have K2 := ((KA1.set_ 0 (.slice A n c)).set_ 1 (.int .i64 p)).set_ 2 (.int .i64 E)
  have K5 := ((KB1.far (p := ⟨w.heap.size, 0, none⟩) (by simp) (.slice A n c)).far (p := ⟨w.heap.size, 1, none⟩) (by simp) (.int .i64 p)).far (p := ⟨w.heap.size, 2, none⟩) (by simp) (.int .i64 E)
  replace K2 : Blk _ w.heap.size 53 [.slice A n c, .int .i64 p, .int .i64 E] := K2
  by_cases he : E = 0
  · subst he
    by_cases hm : most < s
    · have HE : Hid (cntE 0 s most = 5) := by unfold Hid cntE; rw [if_pos ⟨rfl, hm⟩]
      go_wp2_with fail
      have hB' := hB.setCell (p := ⟨w.heap.size, 2, none⟩) (Nat.le_refl _) (.int .i64 5)
      replace K2 : Blk _ w.heap.size 53 [.slice A n c, .int .i64 p, .int .i64 5] := K2.set_ 2 (.int .i64 5)
      replace K5 := K5.far (p := ⟨w.heap.size, 2, none⟩) (by simp) (.int .i64 5)
      clear hB
      have hB := hB'
      clear q0 q1 q2 p0 p1 p2 r0 r1 r2 s0 s1 s2 KA1 KB1 lta ltb hB1
      generalize (((w1.setCell ⟨w.heap.size, 0, none⟩ (.slice A n c)).setCell ⟨w.heap.size, 1, none⟩ (.int .i64 p)).setCell ⟨w.heap.size, 2, none⟩ (.int .i64 0)).setCell ⟨w.heap.size, 2, none⟩ (.int .i64 5) = W at *
      have hst : StabL2 (w.heap.size) (W) [sV 4 (.int .i64 s) 0, sV 4 (.agg #[.slice A n c, .int .i64 p, .int .i64 5]) 1, sV 4 (.int .i64 s) 2, ⟨3, 4, fun _ _ w' => Blk w' (w.heap.size + 1) 53 [.slice A n c, .int .i64 p, .int .i64 5]⟩] := by
        repeat (first | exact trivial | refine ⟨stab2_v _ _ _, ?_⟩ | refine ⟨fun _ _ _ _ _ _ _ h => h, ?_⟩ | refine ⟨fun _ _ _ _ _ _ hb h => Blk.below h hb (Blk.lt h), ?_⟩ | refine ⟨fun _ _ _ _ _ _ hb h => h.below hb h.lt, ?_⟩ | refine ⟨stab2_own _ _ _ _ _, ?_⟩ | refine ⟨stab2_any _ _, ?_⟩ | refine ⟨stab2_blk _ _ _ _ _, ?_⟩ | refine ⟨stab2_set _ _ _ _ _, ?_⟩)
      refine wp_region_lay (A := ?A1) [sV 4 (.int .i64 s) 0, sV 4 (.agg #[.slice A n c, .int .i64 p, .int .i64 5]) 1, sV 4 (.int .i64 s) 2, ⟨3, 4, fun _ _ w' => Blk w' (w.heap.size + 1) 53 [.slice A n c, .int .i64 p, .int .i64 5]⟩] 4 (w.heap.size) (W) (fun w' => Blk w' w.heap.size 53 [.slice A n c, .int .i64 p, .int .i64 5] ∧ ∃ z0 z1 z2, Blk w' (w.heap.size + 1) 53 [z0, z1, z2]) (by kernel_rfl) (by kernel_rfl) (by rfl) (by rfl) rfl (fun f => ?hA1) (Below.refl _ _) ⟨K2, _, _, _, K5⟩ (fun f => trivial) ?hops1 ?hend1
      case hA1 =>
        simp only [fillFrom, Nat.zero_add, Nat.reduceAdd]
        go_frame
        with_reducible rfl
      case hops1 =>
        refine LOps.grow_ hst hB.size (fun w1 w2 _ _ hb ⟨h1, z0, z1, z2, h2⟩ => ⟨h1.below hb h1.lt, z0, z1, z2, h2.below hb h2.lt⟩) (fun f w' K hW hJw hd hu hx hK => ?_) ?_
        · simp only [depsOf, depsL, Region.binds, depsHold2, spHold, spAt, List.getD_cons_zero, List.getD_cons_succ, sV, sAny, sOwn, sBlk, sSet, if_true, and_true, true_and, Nat.reduceLeDiff, Nat.reduceEqDiff, Nat.reduceAdd, Nat.zero_add, Nat.le_refl, or_true, true_or, or_false, false_or, if_false, reduceIte] at hd
          go_simp
          refine hK _ _ (Below.refl _ _) ?_
          exact rfl
        refine LOps.grow_ hst hB.size (fun w1 w2 _ _ hb ⟨h1, z0, z1, z2, h2⟩ => ⟨h1.below hb h1.lt, z0, z1, z2, h2.below hb h2.lt⟩) (fun f w' K hW hJw hd hu hx hK => ?_) ?_
        · simp only [depsOf, depsL, Region.binds, depsHold2, spHold, spAt, List.getD_cons_zero, List.getD_cons_succ, sV, sAny, sOwn, sBlk, sSet, if_true, and_true, true_and, Nat.reduceLeDiff, Nat.reduceEqDiff, Nat.reduceAdd, Nat.zero_add, Nat.le_refl, or_true, true_or, or_false, false_or, if_false, reduceIte] at hd
          obtain ⟨K2, _⟩ := hJw
          obtain ⟨q0, q1, q2, _⟩ := K2.three
          go_simp
          refine hK _ _ (Below.refl _ _) ?_
          exact rfl
        refine LOps.grow_ hst hB.size (fun w1 w2 _ _ hb ⟨h1, z0, z1, z2, h2⟩ => ⟨h1.below hb h1.lt, z0, z1, z2, h2.below hb h2.lt⟩) (fun f w' K hW hJw hd hu hx hK => ?_) ?_
        · simp only [depsOf, depsL, Region.binds, depsHold2, spHold, spAt, List.getD_cons_zero, List.getD_cons_succ, sV, sAny, sOwn, sBlk, sSet, if_true, and_true, true_and, Nat.reduceLeDiff, Nat.reduceEqDiff, Nat.reduceAdd, Nat.zero_add, Nat.le_refl, or_true, true_or, or_false, false_or, if_false, reduceIte] at hd
          go_simp
          refine hK _ _ (Below.refl _ _) ?_
          exact rfl
        refine LOps.put_ [0, 1, 2] (by rfl) (fun f w' K hW hJw hd hu hx hK => ?_) ?_
        · simp only [depsOf, depsL, Region.binds, depsHold2, spHold, spAt, List.getD_cons_zero, List.getD_cons_succ, sV, sAny, sOwn, sBlk, sSet, if_true, and_true, true_and, Nat.reduceLeDiff, Nat.reduceEqDiff, Nat.reduceAdd, Nat.zero_add, Nat.le_refl, or_true, true_or, or_false, false_or, if_false, reduceIte] at hd
          obtain ⟨K2, z0, z1, z2, K5⟩ := hJw
          have h1 : f 1 = .agg #[.slice A n c, .int .i64 p, .int .i64 5] := by simp only [hd]
          clear hd
          obtain ⟨q0, q1, q2, p0, p1, p2⟩ := K5.three
          go_simp
          refine hK _ _ ((((Below.refl _ _).setCell (p := ⟨(w.heap.size + 1), 0, none⟩) (by simp) _).setCell (p := ⟨(w.heap.size + 1), 1, none⟩) (by simp) _).setCell (p := ⟨(w.heap.size + 1), 2, none⟩) (by simp) _) ⟨((K2.far (p := ⟨(w.heap.size + 1), 0, none⟩) (by simp) _).far (p := ⟨(w.heap.size + 1), 1, none⟩) (by simp) _).far (p := ⟨(w.heap.size + 1), 2, none⟩) (by simp) _, _, _, _, ((K5.set_ 0 _).set_ 1 _).set_ 2 _⟩ ?_ (((K5.set_ 0 _).set_ 1 _).set_ 2 _)
          repeat (first | exact trivial | refine ⟨fun x y h => h, ?_⟩)
        exact LOps.nil_
      case hend1 =>
        intro f w' hW hJw hd
        simp only [List.range, List.range.loop, endHold, spHold, spAt, List.getD_cons_zero, List.getD_cons_succ, sV, sAny, sOwn, sBlk, sSet, true_and, and_true, Nat.reduceLeDiff, Nat.le_refl, if_true, if_false, reduceIte] at hd
        clear hst
        have h2 : f 2 = .int .i64 s := by simp only [hd]
        have h3 : Blk w' (w.heap.size + 1) 53 [.slice A n c, .int .i64 p, .int .i64 5] := by simp only [hd]
        clear hd
        obtain ⟨q0, q1, q2, _⟩ := h3.three
        rw [h2]
        go_wp2
        exact bodyPost_ret (v := .tuple #[.int .i64 s, .agg #[.slice A n c, .int .i64 p, .int .i64 5]]) (by simp [results, Try.results34, go_sem, q0, q1, q2]) rfl ⟨by rw [HE.out], hB.trans hW⟩
    · have HE : Hid (cntE 0 s most = 0) := by unfold Hid cntE; rw [if_neg (fun h => hm h.2)]
      go_wp2_with fail
      clear q0 q1 q2 p0 p1 p2 r0 r1 r2 s0 s1 s2 KA1 KB1 lta ltb hB1
      generalize ((w1.setCell ⟨w.heap.size, 0, none⟩ (.slice A n c)).setCell ⟨w.heap.size, 1, none⟩ (.int .i64 p)).setCell ⟨w.heap.size, 2, none⟩ (.int .i64 0) = W at *
      have hst : StabL2 (w.heap.size) (W) [sV 4 (.int .i64 s) 0, sV 4 (.agg #[.slice A n c, .int .i64 p, .int .i64 0]) 1, sV 4 (.int .i64 s) 2, ⟨3, 4, fun _ _ w' => Blk w' (w.heap.size + 1) 53 [.slice A n c, .int .i64 p, .int .i64 0]⟩] := by
        repeat (first | exact trivial | refine ⟨stab2_v _ _ _, ?_⟩ | refine ⟨fun _ _ _ _ _ _ _ h => h, ?_⟩ | refine ⟨fun _ _ _ _ _ _ hb h => Blk.below h hb (Blk.lt h), ?_⟩ | refine ⟨fun _ _ _ _ _ _ hb h => h.below hb h.lt, ?_⟩ | refine ⟨stab2_own _ _ _ _ _, ?_⟩ | refine ⟨stab2_any _ _, ?_⟩ | refine ⟨stab2_blk _ _ _ _ _, ?_⟩ | refine ⟨stab2_set _ _ _ _ _, ?_⟩)
      refine wp_region_lay (A := ?A2) [sV 4 (.int .i64 s) 0, sV 4 (.agg #[.slice A n c, .int .i64 p, .int .i64 0]) 1, sV 4 (.int .i64 s) 2, ⟨3, 4, fun _ _ w' => Blk w' (w.heap.size + 1) 53 [.slice A n c, .int .i64 p, .int .i64 0]⟩] 4 (w.heap.size) (W) (fun w' => Blk w' w.heap.size 53 [.slice A n c, .int .i64 p, .int .i64 0] ∧ ∃ z0 z1 z2, Blk w' (w.heap.size + 1) 53 [z0, z1, z2]) (by kernel_rfl) (by kernel_rfl) (by rfl) (by rfl) rfl (fun f => ?hA2) (Below.refl _ _) ⟨K2, _, _, _, K5⟩ (fun f => trivial) ?hops2 ?hend2
      case hA2 =>
        simp only [fillFrom, Nat.zero_add, Nat.reduceAdd]
        go_frame
        with_reducible rfl
      case hops2 =>
        refine LOps.grow_ hst hB.size (fun w1 w2 _ _ hb ⟨h1, z0, z1, z2, h2⟩ => ⟨h1.below hb h1.lt, z0, z1, z2, h2.below hb h2.lt⟩) (fun f w' K hW hJw hd hu hx hK => ?_) ?_
        · simp only [depsOf, depsL, Region.binds, depsHold2, spHold, spAt, List.getD_cons_zero, List.getD_cons_succ, sV, sAny, sOwn, sBlk, sSet, if_true, and_true, true_and, Nat.reduceLeDiff, Nat.reduceEqDiff, Nat.reduceAdd, Nat.zero_add, Nat.le_refl, or_true, true_or, or_false, false_or, if_false, reduceIte] at hd
          go_simp
          refine hK _ _ (Below.refl _ _) ?_
          exact rfl
        refine LOps.grow_ hst hB.size (fun w1 w2 _ _ hb ⟨h1, z0, z1, z2, h2⟩ => ⟨h1.below hb h1.lt, z0, z1, z2, h2.below hb h2.lt⟩) (fun f w' K hW hJw hd hu hx hK => ?_) ?_
        · simp only [depsOf, depsL, Region.binds, depsHold2, spHold, spAt, List.getD_cons_zero, List.getD_cons_succ, sV, sAny, sOwn, sBlk, sSet, if_true, and_true, true_and, Nat.reduceLeDiff, Nat.reduceEqDiff, Nat.reduceAdd, Nat.zero_add, Nat.le_refl, or_true, true_or, or_false, false_or, if_false, reduceIte] at hd
          obtain ⟨K2, _⟩ := hJw
          obtain ⟨q0, q1, q2, _⟩ := K2.three
          go_simp
          refine hK _ _ (Below.refl _ _) ?_
          exact rfl
        refine LOps.grow_ hst hB.size (fun w1 w2 _ _ hb ⟨h1, z0, z1, z2, h2⟩ => ⟨h1.below hb h1.lt, z0, z1, z2, h2.below hb h2.lt⟩) (fun f w' K hW hJw hd hu hx hK => ?_) ?_
        · simp only [depsOf, depsL, Region.binds, depsHold2, spHold, spAt, List.getD_cons_zero, List.getD_cons_succ, sV, sAny, sOwn, sBlk, sSet, if_true, and_true, true_and, Nat.reduceLeDiff, Nat.reduceEqDiff, Nat.reduceAdd, Nat.zero_add, Nat.le_refl, or_true, true_or, or_false, false_or, if_false, reduceIte] at hd
          go_simp
          refine hK _ _ (Below.refl _ _) ?_
          exact rfl
        refine LOps.put_ [0, 1, 2] (by rfl) (fun f w' K hW hJw hd hu hx hK => ?_) ?_
        · simp only [depsOf, depsL, Region.binds, depsHold2, spHold, spAt, List.getD_cons_zero, List.getD_cons_succ, sV, sAny, sOwn, sBlk, sSet, if_true, and_true, true_and, Nat.reduceLeDiff, Nat.reduceEqDiff, Nat.reduceAdd, Nat.zero_add, Nat.le_refl, or_true, true_or, or_false, false_or, if_false, reduceIte] at hd
          obtain ⟨K2, z0, z1, z2, K5⟩ := hJw
          have h1 : f 1 = .agg #[.slice A n c, .int .i64 p, .int .i64 0] := by simp only [hd]
          clear hd
          obtain ⟨q0, q1, q2, p0, p1, p2⟩ := K5.three
          go_simp
          refine hK _ _ ((((Below.refl _ _).setCell (p := ⟨(w.heap.size + 1), 0, none⟩) (by simp) _).setCell (p := ⟨(w.heap.size + 1), 1, none⟩) (by simp) _).setCell (p := ⟨(w.heap.size + 1), 2, none⟩) (by simp) _) ⟨((K2.far (p := ⟨(w.heap.size + 1), 0, none⟩) (by simp) _).far (p := ⟨(w.heap.size + 1), 1, none⟩) (by simp) _).far (p := ⟨(w.heap.size + 1), 2, none⟩) (by simp) _, _, _, _, ((K5.set_ 0 _).set_ 1 _).set_ 2 _⟩ ?_ (((K5.set_ 0 _).set_ 1 _).set_ 2 _)
          repeat (first | exact trivial | refine ⟨fun x y h => h, ?_⟩)
        exact LOps.nil_
      case hend2 =>
        intro f w' hW hJw hd
        simp only [List.range, List.range.loop, endHold, spHold, spAt, List.getD_cons_zero, List.getD_cons_succ, sV, sAny, sOwn, sBlk, sSet, true_and, and_true, Nat.reduceLeDiff, Nat.le_refl, if_true, if_false, reduceIte] at hd
        clear hst
        have h2 : f 2 = .int .i64 s := by simp only [hd]
        have h3 : Blk w' (w.heap.size + 1) 53 [.slice A n c, .int .i64 p, .int .i64 0] := by simp only [hd]
        clear hd
        obtain ⟨q0, q1, q2, _⟩ := h3.three
        rw [h2]
        go_wp2
        exact bodyPost_ret (v := .tuple #[.int .i64 s, .agg #[.slice A n c, .int .i64 p, .int .i64 0]]) (by simp [results, Try.results34, go_sem, q0, q1, q2]) rfl ⟨by rw [HE.out], hB.trans hW⟩
  · have HE : Hid (cntE E s most = E) := by unfold Hid cntE; rw [if_neg (fun h => he h.1)]
    have e0 : (E == 0) = false := by simpa using he
    go_wp2_with fail
    clear q0 q1 q2 p0 p1 p2 r0 r1 r2 s0 s1 s2 KA1 KB1 lta ltb hB1
    generalize ((w1.setCell ⟨w.heap.size, 0, none⟩ (.slice A n c)).setCell ⟨w.heap.size, 1, none⟩ (.int .i64 p)).setCell ⟨w.heap.size, 2, none⟩ (.int .i64 E) = W at *
    have hst : StabL2 (w.heap.size) (W) [sV 4 (.int .i64 s) 0, sV 4 (.agg #[.slice A n c, .int .i64 p, .int .i64 E]) 1, sV 4 (.int .i64 s) 2, ⟨3, 4, fun _ _ w' => Blk w' (w.heap.size + 1) 53 [.slice A n c, .int .i64 p, .int .i64 E]⟩] := by
      repeat (first | exact trivial | refine ⟨stab2_v _ _ _, ?_⟩ | refine ⟨fun _ _ _ _ _ _ _ h => h, ?_⟩ | refine ⟨fun _ _ _ _ _ _ hb h => Blk.below h hb (Blk.lt h), ?_⟩ | refine ⟨fun _ _ _ _ _ _ hb h => h.below hb h.lt, ?_⟩ | refine ⟨stab2_own _ _ _ _ _, ?_⟩ | refine ⟨stab2_any _ _, ?_⟩ | refine ⟨stab2_blk _ _ _ _ _, ?_⟩ | refine ⟨stab2_set _ _ _ _ _, ?_⟩)
    refine wp_region_lay (A := ?A3) [sV 4 (.int .i64 s) 0, sV 4 (.agg #[.slice A n c, .int .i64 p, .int .i64 E]) 1, sV 4 (.int .i64 s) 2, ⟨3, 4, fun _ _ w' => Blk w' (w.heap.size + 1) 53 [.slice A n c, .int .i64 p, .int .i64 E]⟩] 4 (w.heap.size) (W) (fun w' => Blk w' w.heap.size 53 [.slice A n c, .int .i64 p, .int .i64 E] ∧ ∃ z0 z1 z2, Blk w' (w.heap.size + 1) 53 [z0, z1, z2]) (by kernel_rfl) (by kernel_rfl) (by rfl) (by rfl) rfl (fun f => ?hA3) (Below.refl _ _) ⟨K2, _, _, _, K5⟩ (fun f => trivial) ?hops3 ?hend3
    case hA3 =>
      simp only [fillFrom, Nat.zero_add, Nat.reduceAdd]
      go_frame
      with_reducible rfl
    case hops3 =>
      refine LOps.grow_ hst hB.size (fun w1 w2 _ _ hb ⟨h1, z0, z1, z2, h2⟩ => ⟨h1.below hb h1.lt, z0, z1, z2, h2.below hb h2.lt⟩) (fun f w' K hW hJw hd hu hx hK => ?_) ?_
      · simp only [depsOf, depsL, Region.binds, depsHold2, spHold, spAt, List.getD_cons_zero, List.getD_cons_succ, sV, sAny, sOwn, sBlk, sSet, if_true, and_true, true_and, Nat.reduceLeDiff, Nat.reduceEqDiff, Nat.reduceAdd, Nat.zero_add, Nat.le_refl, or_true, true_or, or_false, false_or, if_false, reduceIte] at hd
        go_simp
        refine hK _ _ (Below.refl _ _) ?_
        exact rfl
      refine LOps.grow_ hst hB.size (fun w1 w2 _ _ hb ⟨h1, z0, z1, z2, h2⟩ => ⟨h1.below hb h1.lt, z0, z1, z2, h2.below hb h2.lt⟩) (fun f w' K hW hJw hd hu hx hK => ?_) ?_
      · simp only [depsOf, depsL, Region.binds, depsHold2, spHold, spAt, List.getD_cons_zero, List.getD_cons_succ, sV, sAny, sOwn, sBlk, sSet, if_true, and_true, true_and, Nat.reduceLeDiff, Nat.reduceEqDiff, Nat.reduceAdd, Nat.zero_add, Nat.le_refl, or_true, true_or, or_false, false_or, if_false, reduceIte] at hd
        obtain ⟨K2, _⟩ := hJw
        obtain ⟨q0, q1, q2, _⟩ := K2.three
        go_simp
        refine hK _ _ (Below.refl _ _) ?_
        exact rfl
      refine LOps.grow_ hst hB.size (fun w1 w2 _ _ hb ⟨h1, z0, z1, z2, h2⟩ => ⟨h1.below hb h1.lt, z0, z1, z2, h2.below hb h2.lt⟩) (fun f w' K hW hJw hd hu hx hK => ?_) ?_
      · simp only [depsOf, depsL, Region.binds, depsHold2, spHold, spAt, List.getD_cons_zero, List.getD_cons_succ, sV, sAny, sOwn, sBlk, sSet, if_true, and_true, true_and, Nat.reduceLeDiff, Nat.reduceEqDiff, Nat.reduceAdd, Nat.zero_add, Nat.le_refl, or_true, true_or, or_false, false_or, if_false, reduceIte] at hd
        go_simp
        refine hK _ _ (Below.refl _ _) ?_
        exact rfl
      refine LOps.put_ [0, 1, 2] (by rfl) (fun f w' K hW hJw hd hu hx hK => ?_) ?_
      · simp only [depsOf, depsL, Region.binds, depsHold2, spHold, spAt, List.getD_cons_zero, List.getD_cons_succ, sV, sAny, sOwn, sBlk, sSet, if_true, and_true, true_and, Nat.reduceLeDiff, Nat.reduceEqDiff, Nat.reduceAdd, Nat.zero_add, Nat.le_refl, or_true, true_or, or_false, false_or, if_false, reduceIte] at hd
        obtain ⟨K2, z0, z1, z2, K5⟩ := hJw
        have h1 : f 1 = .agg #[.slice A n c, .int .i64 p, .int .i64 E] := by simp only [hd]
        clear hd
        obtain ⟨q0, q1, q2, p0, p1, p2⟩ := K5.three
        go_simp
        refine hK _ _ ((((Below.refl _ _).setCell (p := ⟨(w.heap.size + 1), 0, none⟩) (by simp) _).setCell (p := ⟨(w.heap.size + 1), 1, none⟩) (by simp) _).setCell (p := ⟨(w.heap.size + 1), 2, none⟩) (by simp) _) ⟨((K2.far (p := ⟨(w.heap.size + 1), 0, none⟩) (by simp) _).far (p := ⟨(w.heap.size + 1), 1, none⟩) (by simp) _).far (p := ⟨(w.heap.size + 1), 2, none⟩) (by simp) _, _, _, _, ((K5.set_ 0 _).set_ 1 _).set_ 2 _⟩ ?_ (((K5.set_ 0 _).set_ 1 _).set_ 2 _)
        repeat (first | exact trivial | refine ⟨fun x y h => h, ?_⟩)
      exact LOps.nil_
    case hend3 =>
      intro f w' hW hJw hd
      simp only [List.range, List.range.loop, endHold, spHold, spAt, List.getD_cons_zero, List.getD_cons_succ, sV, sAny, sOwn, sBlk, sSet, true_and, and_true, Nat.reduceLeDiff, Nat.le_refl, if_true, if_false, reduceIte] at hd
      clear hst
      have h2 : f 2 = .int .i64 s := by simp only [hd]
      have h3 : Blk w' (w.heap.size + 1) 53 [.slice A n c, .int .i64 p, .int .i64 E] := by simp only [hd]
      clear hd
      obtain ⟨q0, q1, q2, _⟩ := h3.three
      rw [h2]
      go_wp2
      exact bodyPost_ret (v := .tuple #[.int .i64 s, .agg #[.slice A n c, .int .i64 p, .int .i64 E]]) (by simp [results, Try.results34, go_sem, q0, q1, q2]) rfl ⟨by rw [HE.out], hB.trans hW⟩
end Go.Proofs.Ytjjgdjcapfenpaa
