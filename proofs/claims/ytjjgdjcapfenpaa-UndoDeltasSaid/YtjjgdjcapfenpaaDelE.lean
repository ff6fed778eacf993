/- The contract of delta.take. -/
import Derived.Test.YtjjgdjcapfenpaaDelD
import Derived.Test.YtjjgdjcapfenpaaCopy
namespace Go.Proofs.Ytjjgdjcapfenpaa
open Go.RowKit Go.IntWalk
set_option maxRecDepth 100000
set_option linter.unusedVariables false
set_option linter.unusedSimpArgs false

theorem hszU8 : (Try.prog.info? 5).map (·.size) = some 1 := by kernel_rfl
/-- Too few bytes are left. -/
theorem dtake_short (A : Option Addr) (n c t k : Nat) (dp : Option Addr) (dc : Nat) (w : World) (ht : t ≤ n) (hn : n ≤ 1000000000) (hk : n - t < k) (hk' : k ≤ 1000000000) :
    Calls Try.prog 35 #[.agg #[.slice A n c, .int .i64 t, .int .i64 0], .slice dp k dc] w fun e w' => e = .returned (.agg #[.slice A n c, .int .i64 t, .int .i64 2]) ∧ Below w.heap.size w w' := by
  have hb0 := ((Below.refl w.heap.size w).alloc (Nat.le_refl _) (.cells #[.slice A n c, .int .i64 t, .int .i64 0] 53)).alloc (by simp) (.cells #[.slice none 0 0, .int .i64 0, .int .i64 0] 53)
  have hlt : (n : Int) - (t : Int) < (k : Int) := by omega
  go_enter Try.func35, Try.ntmps35
  go_wp2
  exact bodyPost_ret (v := .agg #[.slice A n c, .int .i64 t, .int .i64 2]) (by simp [results, Try.results35, go_sem]) rfl ⟨rfl, ((Below.refl w.heap.size w).alloc (Nat.le_refl _) _).alloc (by simp) _⟩
set_option maxHeartbeats 6400000 in
theorem dtake_ok (A : Option Addr) (n c t k : Nat) (dp : Option Addr) (dc : Nat) (zs : List Int) (g off B : Nat) (cur : List Value) (w : World) (hr : Rd w B A (cb .u8 zs)) (hn : n = zs.length) (hnc : n ≤ c) (hl : n ≤ 1000000000) (ht : t + k ≤ n)
    (KG : Blk w g 5 cur) (hBg : B ≤ g) (hBw : B ≤ w.heap.size) (hdp0 : 0 < k → dp = some ⟨g, off, none⟩) (hfit0 : off + k ≤ cur.length) :
    Calls Try.prog 35 #[.agg #[.slice A n c, .int .i64 t, .int .i64 0], .slice dp k dc] w fun e w' => e = .returned (.agg #[.slice A n c, .int .i64 ((t : Int) + (k : Int)), .int .i64 0]) ∧ Blk w' g 5 (splice cur off (cb .u8 ((zs.drop t).take k))) ∧ But g w w' := by
  have hgw : g ≠ w.heap.size := Nat.ne_of_lt KG.lt
  have hgl := KG.lt
  have hbut0 := ((But.refl g w).alloc (.cells #[.slice A n c, .int .i64 t, .int .i64 0] 53)).alloc (.cells #[.slice none 0 0, .int .i64 0, .int .i64 0] 53)
  have K20 := (Blk.new w 53 [.slice A n c, .int .i64 t, .int .i64 0]).alloc (.cells #[.slice none 0 0, .int .i64 0, .int .i64 0] 53)
  have KR0 := blk_at (g := w.heap.size + 1) (w.alloc (.cells #[.slice A n c, .int .i64 t, .int .i64 0] 53)) 53 [.slice none 0 0, .int .i64 0, .int .i64 0] (by simp)
  have KG0 := (KG.alloc (.cells #[.slice A n c, .int .i64 t, .int .i64 0] 53)).alloc (.cells #[.slice none 0 0, .int .i64 0, .int .i64 0] 53)
  obtain ⟨At, hAt⟩ : ∃ At, (if c = t then A else A.map (·.add t)) = At := ⟨_, rfl⟩
  have hrt : Rd w B At (cb .u8 ((zs.drop t).take k)) := by
    have := (slice_at_drop hr hn t (by omega) hnc).take k
    rwa [cb_take, hAt] at this
  have HAt := Lib.hid hAt
  have HLK : Hid (k = ((zs.drop t).take k).length) := by unfold Hid; rw [List.length_take, List.length_drop]; omega
  have HCK : Hid ((cb .u8 ((zs.drop t).take k)).length = Nat.min (n - t) k) := by unfold Hid; rw [cb_length, ← HLK.out]; exact (Nat.min_eq_right (by omega)).symm
  have hdp : 0 < (cb IntKind.u8 ((zs.drop t).take k)).length → dp = some ⟨g, off, none⟩ := by rw [cb_length, ← HLK.out]; exact hdp0
  have hfit : off + (cb IntKind.u8 ((zs.drop t).take k)).length ≤ cur.length := by rw [cb_length, ← HLK.out]; exact hfit0
  have HDP := Lib.hid hdp
  have HFIT := Lib.hid hfit
  have hge : ¬ (n : Int) - (t : Int) < (k : Int) := by omega
  have hwk : IntKind.i64.wrap ((t : Int) + (k : Int)) = (t : Int) + (k : Int) := i64_in _ (by omega)
  have htc : t ≤ c := by omega
  have htn : t ≤ n := by omega
  clear hAt hdp hfit hn hdp0 hfit0 KG hr
  go_enter Try.func35, Try.ntmps35
  go_wp2_with fail
  have hst : StabL2 (0) ((w.alloc (.cells #[.slice A n c, .int .i64 t, .int .i64 0] 53)).alloc (.cells #[.slice none 0 0, .int .i64 0, .int .i64 0] 53)) [sV 12 (.pointer (some ⟨w.heap.size, 1, none⟩)) 0, sV 12 (.int .i64 t) 1, sV 12 (.slice dp k dc) 2, sV 12 (.pointer (some ⟨w.heap.size, 0, none⟩)) 3, sV 12 (.slice A n c) 4, sV 12 (.pointer (some ⟨w.heap.size, 1, none⟩)) 5, sV 12 (.int .i64 t) 6, sV 12 (.slice At (n - t) (c - t)) 7, ⟨8, 12, fun _ v w' => v = .int .i64 k ∧ Blk w' g 5 (splice cur off (cb .u8 ((zs.drop t).take k)))⟩, sV 12 (.int .i64 ((t : Int) + (k : Int))) 9, sV 12 (.pointer (some ⟨w.heap.size, 1, none⟩)) 10, ⟨11, 12, fun _ _ w' => Blk w' w.heap.size 53 [.slice A n c, .int .i64 ((t : Int) + (k : Int)), .int .i64 0]⟩, ⟨12, 11, fun _ _ w' => Blk w' w.heap.size 53 [.slice A n c, .int .i64 t, .int .i64 0]⟩, ⟨13, 8, fun _ _ w' => Blk w' g 5 cur⟩] := by
    repeat (first | exact trivial | refine ⟨stab2_v _ _ _, ?_⟩ | refine ⟨fun _ _ _ _ _ _ _ h => h, ?_⟩ | refine ⟨fun _ _ _ _ _ _ hb h => Blk.below h hb (Blk.lt h), ?_⟩ | refine ⟨fun _ _ _ _ _ _ hb h => ⟨h.1, Blk.below h.2 hb (Blk.lt h.2)⟩, ?_⟩ | refine ⟨stab2_own _ _ _ _ _, ?_⟩ | refine ⟨stab2_any _ _, ?_⟩ | refine ⟨stab2_blk _ _ _ _ _, ?_⟩ | refine ⟨stab2_set _ _ _ _ _, ?_⟩)
  refine wp_region_lay (A := ?A1) [sV 12 (.pointer (some ⟨w.heap.size, 1, none⟩)) 0, sV 12 (.int .i64 t) 1, sV 12 (.slice dp k dc) 2, sV 12 (.pointer (some ⟨w.heap.size, 0, none⟩)) 3, sV 12 (.slice A n c) 4, sV 12 (.pointer (some ⟨w.heap.size, 1, none⟩)) 5, sV 12 (.int .i64 t) 6, sV 12 (.slice At (n - t) (c - t)) 7, ⟨8, 12, fun _ v w' => v = .int .i64 k ∧ Blk w' g 5 (splice cur off (cb .u8 ((zs.drop t).take k)))⟩, sV 12 (.int .i64 ((t : Int) + (k : Int))) 9, sV 12 (.pointer (some ⟨w.heap.size, 1, none⟩)) 10, ⟨11, 12, fun _ _ w' => Blk w' w.heap.size 53 [.slice A n c, .int .i64 ((t : Int) + (k : Int)), .int .i64 0]⟩, ⟨12, 11, fun _ _ w' => Blk w' w.heap.size 53 [.slice A n c, .int .i64 t, .int .i64 0]⟩, ⟨13, 8, fun _ _ w' => Blk w' g 5 cur⟩] 12 (0) ((w.alloc (.cells #[.slice A n c, .int .i64 t, .int .i64 0] 53)).alloc (.cells #[.slice none 0 0, .int .i64 0, .int .i64 0] 53)) (fun w' => But g w w' ∧ Blk w' (w.heap.size + 1) 53 [.slice none 0 0, .int .i64 0, .int .i64 0]) (by kernel_rfl) (by kernel_rfl) (by rfl) (by rfl) rfl (fun f => ?hA1) (Below.refl _ _) ⟨hbut0.drew, KR0⟩ (fun f => ⟨K20, KG0, trivial⟩) ?hops1 ?hend1
  case hA1 =>
    simp only [fillFrom, Nat.zero_add, Nat.reduceAdd]
    go_frame
    with_reducible rfl
  case hops1 =>
    refine LOps.grow_ hst (Nat.zero_le _) (fun w1 w2 _ _ hb h => ⟨h.1.trans (But.of hb), h.2.below hb h.2.lt⟩) (fun f w' K hW hJw hd hu hx hK => ?_) ?_
    · simp only [depsOf, depsL, Region.binds, depsHold2, spHold, spAt, List.getD_cons_zero, List.getD_cons_succ, sV, sAny, sOwn, sBlk, sSet, if_true, and_true, true_and, Nat.reduceLeDiff, Nat.reduceEqDiff, Nat.reduceAdd, Nat.zero_add, Nat.le_refl, or_true, true_or, or_false, false_or, if_false, reduceIte] at hd
      go_simp
      refine hK _ _ (Below.refl _ _) ?_
      exact rfl
    refine LOps.grow_ hst (Nat.zero_le _) (fun w1 w2 _ _ hb h => ⟨h.1.trans (But.of hb), h.2.below hb h.2.lt⟩) (fun f w' K hW hJw hd hu hx hK => ?_) ?_
    · simp only [depsOf, depsL, Region.binds, depsHold2, spHold, spAt, List.getD_cons_zero, List.getD_cons_succ, sV, sAny, sOwn, sBlk, sSet, if_true, and_true, true_and, Nat.reduceLeDiff, Nat.reduceEqDiff, Nat.reduceAdd, Nat.zero_add, Nat.le_refl, or_true, true_or, or_false, false_or, if_false, reduceIte] at hd
      have K2 : Blk w' w.heap.size 53 [.slice A n c, .int .i64 t, .int .i64 0] := hx 12 (by omega) (by kernel_rfl)
      obtain ⟨q0, q1, q2, p0, p1, p2⟩ := K2.three
      go_simp
      refine hK _ _ (Below.refl _ _) ?_
      exact rfl
    refine LOps.grow_ hst (Nat.zero_le _) (fun w1 w2 _ _ hb h => ⟨h.1.trans (But.of hb), h.2.below hb h.2.lt⟩) (fun f w' K hW hJw hd hu hx hK => ?_) ?_
    · simp only [depsOf, depsL, Region.binds, depsHold2, spHold, spAt, List.getD_cons_zero, List.getD_cons_succ, sV, sAny, sOwn, sBlk, sSet, if_true, and_true, true_and, Nat.reduceLeDiff, Nat.reduceEqDiff, Nat.reduceAdd, Nat.zero_add, Nat.le_refl, or_true, true_or, or_false, false_or, if_false, reduceIte] at hd
      go_simp
      refine hK _ _ (Below.refl _ _) ?_
      exact rfl
    refine LOps.grow_ hst (Nat.zero_le _) (fun w1 w2 _ _ hb h => ⟨h.1.trans (But.of hb), h.2.below hb h.2.lt⟩) (fun f w' K hW hJw hd hu hx hK => ?_) ?_
    · simp only [depsOf, depsL, Region.binds, depsHold2, spHold, spAt, List.getD_cons_zero, List.getD_cons_succ, sV, sAny, sOwn, sBlk, sSet, if_true, and_true, true_and, Nat.reduceLeDiff, Nat.reduceEqDiff, Nat.reduceAdd, Nat.zero_add, Nat.le_refl, or_true, true_or, or_false, false_or, if_false, reduceIte] at hd
      go_simp
      refine hK _ _ (Below.refl _ _) ?_
      exact rfl
    refine LOps.grow_ hst (Nat.zero_le _) (fun w1 w2 _ _ hb h => ⟨h.1.trans (But.of hb), h.2.below hb h.2.lt⟩) (fun f w' K hW hJw hd hu hx hK => ?_) ?_
    · simp only [depsOf, depsL, Region.binds, depsHold2, spHold, spAt, List.getD_cons_zero, List.getD_cons_succ, sV, sAny, sOwn, sBlk, sSet, if_true, and_true, true_and, Nat.reduceLeDiff, Nat.reduceEqDiff, Nat.reduceAdd, Nat.zero_add, Nat.le_refl, or_true, true_or, or_false, false_or, if_false, reduceIte] at hd
      have K2 : Blk w' w.heap.size 53 [.slice A n c, .int .i64 t, .int .i64 0] := hx 12 (by omega) (by kernel_rfl)
      obtain ⟨q0, q1, q2, p0, p1, p2⟩ := K2.three
      go_simp
      refine hK _ _ (Below.refl _ _) ?_
      exact rfl
    refine LOps.grow_ hst (Nat.zero_le _) (fun w1 w2 _ _ hb h => ⟨h.1.trans (But.of hb), h.2.below hb h.2.lt⟩) (fun f w' K hW hJw hd hu hx hK => ?_) ?_
    · simp only [depsOf, depsL, Region.binds, depsHold2, spHold, spAt, List.getD_cons_zero, List.getD_cons_succ, sV, sAny, sOwn, sBlk, sSet, if_true, and_true, true_and, Nat.reduceLeDiff, Nat.reduceEqDiff, Nat.reduceAdd, Nat.zero_add, Nat.le_refl, or_true, true_or, or_false, false_or, if_false, reduceIte] at hd
      go_simp
      refine hK _ _ (Below.refl _ _) ?_
      exact rfl
    refine LOps.grow_ hst (Nat.zero_le _) (fun w1 w2 _ _ hb h => ⟨h.1.trans (But.of hb), h.2.below hb h.2.lt⟩) (fun f w' K hW hJw hd hu hx hK => ?_) ?_
    · simp only [depsOf, depsL, Region.binds, depsHold2, spHold, spAt, List.getD_cons_zero, List.getD_cons_succ, sV, sAny, sOwn, sBlk, sSet, if_true, and_true, true_and, Nat.reduceLeDiff, Nat.reduceEqDiff, Nat.reduceAdd, Nat.zero_add, Nat.le_refl, or_true, true_or, or_false, false_or, if_false, reduceIte] at hd
      have K2 : Blk w' w.heap.size 53 [.slice A n c, .int .i64 t, .int .i64 0] := hx 12 (by omega) (by kernel_rfl)
      obtain ⟨q0, q1, q2, p0, p1, p2⟩ := K2.three
      go_simp
      refine hK _ _ (Below.refl _ _) ?_
      exact rfl
    refine LOps.grow_ hst (Nat.zero_le _) (fun w1 w2 _ _ hb h => ⟨h.1.trans (But.of hb), h.2.below hb h.2.lt⟩) (fun f w' K hW hJw hd hu hx hK => ?_) ?_
    · simp only [depsOf, depsL, Region.binds, depsHold2, spHold, spAt, List.getD_cons_zero, List.getD_cons_succ, sV, sAny, sOwn, sBlk, sSet, if_true, and_true, true_and, Nat.reduceLeDiff, Nat.reduceEqDiff, Nat.reduceAdd, Nat.zero_add, Nat.le_refl, or_true, true_or, or_false, false_or, if_false, reduceIte] at hd
      go_simp
      refine hK _ _ (Below.refl _ _) ?_
      show Value.slice _ _ _ = Value.slice _ _ _
      rw [← HAt.out]
    refine LOps.put_ [0, 1, 2, 3, 4, 5, 6, 7, 12] (by rfl) (fun f w' K hW hJw hd hu hx hK => ?_) ?_
    · simp only [depsOf, depsL, Region.binds, depsHold2, spHold, spAt, List.getD_cons_zero, List.getD_cons_succ, sV, sAny, sOwn, sBlk, sSet, if_true, and_true, true_and, Nat.reduceLeDiff, Nat.reduceEqDiff, Nat.reduceAdd, Nat.zero_add, Nat.le_refl, or_true, true_or, or_false, false_or, if_false, reduceIte] at hd
      obtain ⟨e2, e7⟩ := hd
      obtain ⟨hbut, KR⟩ := hJw
      have KG : Blk w' g 5 cur := hx 13 (by omega) (by kernel_rfl)
      refine want_pos rfl ?_
      refine grows_cpy (P := Try.prog) Try.underlying22 hszU8 KG (hrt.below (hbut.below hBg hBw)) HCK.out HDP.out HFIT.out (cb_one _ _) _ _ rfl e2 e7 ?_
      intro w5 KG5 hb5
      rw [cb_length, ← HLK.out]
      refine hK _ _ (hb5.below (Nat.zero_le _) (Nat.zero_le _)) ⟨hbut.trans hb5, hb5.blk KR (by omega)⟩ ?_ ⟨rfl, KG5⟩
      repeat (first | exact trivial | refine ⟨fun x y h => h, ?_⟩ | refine ⟨fun x y h => hb5.blk h (Ne.symm hgw), ?_⟩)
    refine LOps.grow_ hst (Nat.zero_le _) (fun w1 w2 _ _ hb h => ⟨h.1.trans (But.of hb), h.2.below hb h.2.lt⟩) (fun f w' K hW hJw hd hu hx hK => ?_) ?_
    · simp only [depsOf, depsL, Region.binds, depsHold2, spHold, spAt, List.getD_cons_zero, List.getD_cons_succ, sV, sAny, sOwn, sBlk, sSet, if_true, and_true, true_and, Nat.reduceLeDiff, Nat.reduceEqDiff, Nat.reduceAdd, Nat.zero_add, Nat.le_refl, or_true, true_or, or_false, false_or, if_false, reduceIte] at hd
      have e1 : f 1 = .int .i64 t := by simp only [hd]
      have e8 : f 8 = .int .i64 k := by simp only [hd]
      clear hd
      go_simp
      refine hK _ _ (Below.refl _ _) ?_
      exact rfl
    refine LOps.grow_ hst (Nat.zero_le _) (fun w1 w2 _ _ hb h => ⟨h.1.trans (But.of hb), h.2.below hb h.2.lt⟩) (fun f w' K hW hJw hd hu hx hK => ?_) ?_
    · simp only [depsOf, depsL, Region.binds, depsHold2, spHold, spAt, List.getD_cons_zero, List.getD_cons_succ, sV, sAny, sOwn, sBlk, sSet, if_true, and_true, true_and, Nat.reduceLeDiff, Nat.reduceEqDiff, Nat.reduceAdd, Nat.zero_add, Nat.le_refl, or_true, true_or, or_false, false_or, if_false, reduceIte] at hd
      go_simp
      refine hK _ _ (Below.refl _ _) ?_
      exact rfl
    refine LOps.put_ [0, 1, 2, 3, 4, 5, 6, 7, 8, 9, 10] (by rfl) (fun f w' K hW hJw hd hu hx hK => ?_) ?_
    · simp only [depsOf, depsL, Region.binds, depsHold2, spHold, spAt, List.getD_cons_zero, List.getD_cons_succ, sV, sAny, sOwn, sBlk, sSet, if_true, and_true, true_and, Nat.reduceLeDiff, Nat.reduceEqDiff, Nat.reduceAdd, Nat.zero_add, Nat.le_refl, or_true, true_or, or_false, false_or, if_false, reduceIte] at hd
      have e10 : f 10 = .pointer (some ⟨w.heap.size, 1, none⟩) := by simp only [hd]
      have e9 : f 9 = .int .i64 ((t : Int) + (k : Int)) := by simp only [hd]
      clear hd
      obtain ⟨hbut, KR⟩ := hJw
      have K2 : Blk w' w.heap.size 53 [.slice A n c, .int .i64 t, .int .i64 0] := hx 12 (by omega) (by kernel_rfl)
      obtain ⟨q0, q1, q2, p0, p1, p2⟩ := K2.three
      go_simp
      refine hK _ _ ((Below.refl _ _).setCell (Nat.zero_le _) _) ⟨hbut.setCell (by simp) _, KR.far (by simp) _⟩ ?_ (K2.set_ 1 _)
      repeat (first | exact trivial | refine ⟨fun x y h => h, ?_⟩ | refine ⟨fun x y h => ⟨h.1, h.2.far (by simpa using hgw) _⟩, ?_⟩)
    exact LOps.nil_
  case hend1 =>
    intro f w' hW hJw hd
    simp only [List.range, List.range.loop, endHold, spHold, spAt, List.getD_cons_zero, List.getD_cons_succ, sV, sAny, sOwn, sBlk, sSet, true_and, and_true, Nat.reduceLeDiff, Nat.le_refl, if_true, if_false, reduceIte] at hd
    clear hst
    have h8 : Blk w' g 5 (splice cur off (cb .u8 ((zs.drop t).take k))) := by
      have : f 8 = .int .i64 k ∧ Blk w' g 5 (splice cur off (cb .u8 ((zs.drop t).take k))) := ⟨by simp only [hd], by simp only [hd]⟩
      exact this.2
    have h11 : Blk w' w.heap.size 53 [.slice A n c, .int .i64 ((t : Int) + (k : Int)), .int .i64 0] := by simp only [hd]
    clear hd
    obtain ⟨hbut, KR⟩ := hJw
    obtain ⟨q0, q1, q2, p0, p1, p2⟩ := h11.three
    obtain ⟨r0, r1, r2, s0, s1, s2⟩ := KR.three
    have l2 := h11.lt
    have lr := KR.lt
    go_wp2
    have KF := ((KR.set_ 0 (.slice A n c)).set_ 1 (.int .i64 ((t : Int) + (k : Int)))).set_ 2 (.int .i64 0)
    obtain ⟨x0, x1, x2, _⟩ := Blk.three (a := .slice A n c) (b := .int .i64 ((t : Int) + (k : Int))) (c := .int .i64 0) KF
    exact bodyPost_ret (v := .agg #[.slice A n c, .int .i64 ((t : Int) + (k : Int)), .int .i64 0]) (by simp [results, Try.results35, go_sem, x0, x1, x2]) rfl ⟨rfl, ((h8.far (by simp; omega) _).far (by simp; omega) _).far (by simp; omega) _, ((hbut.setCell (by simp) _).setCell (by simp) _).setCell (by simp) _⟩
end Go.Proofs.Ytjjgdjcapfenpaa
