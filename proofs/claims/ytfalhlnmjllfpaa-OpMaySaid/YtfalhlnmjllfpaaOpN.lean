/- The law OpBack, walked. -/
import Derived.Test.YtfalhlnmjllfpaaOpL
import Derived.Test.YtfalhlnmjllfpaaOpM
import Derived.Test.YtfalhlnmjllfpaaLay
namespace Go.Proofs.Ytfalhlnmjllfpaa
open Go.RowKit Go.IntWalk
set_option maxRecDepth 100000
set_option linter.unusedVariables false
set_option linter.unusedSimpArgs false

theorem slice_at_drop {w : World} {B : Nat} {A : Option Addr} {n c : Nat} {zs : List Int} (hr : Rd w B A (cb .u8 zs)) (hn : n = zs.length) (k : Nat) (hk : k ≤ n) (hc : n ≤ c) : Rd w B (if c = k then A else A.map (·.add k)) (cb .u8 (zs.drop k)) := by
  have := hr.drop k c (by simpa using by omega) (by simpa using by omega)
  rwa [cb_drop] at this
theorem own_cap {w : World} {base : Nat} {e : TypeId} {A : Option Addr} {n c : Nat} {xs : List Value} (h : Own w base e (.slice A n c) xs) : c ≤ 9223372036854775807 := by
  obtain ⟨A', c', hv, _, hm, _⟩ := h.form
  injection hv with _ _ h3
  subst h3
  simpa [maxLen] using hm
theorem opEnc_le (op arg : Int) : (opEnc op arg).length ≤ 3 := by
  by_cases h : opEnc op arg = []
  · rw [h]; simp
  · rw [opEnc_len h]; have := sizeN_le (insA op arg); omega
set_option maxHeartbeats 12800000 in
theorem opBack_walk (op arg : Int) (A : Option Addr) (n c : Nat) (zs : List Int) (t : Int) (w : World) (ho : (Lit.int .i64 op).wf = true) (ha : (Lit.int .i64 arg).wf = true) (hn : n = zs.length) (hr : Rd w w.heap.size A (cb .u8 zs)) (hw : ∀ z ∈ zs, (Lit.int .u8 z).wf = true) (hc : n ≤ c) (hc' : c ≤ maxLen) (ht : (Lit.int .u8 t).wf = true) :
    Calls Try.prog 5 #[.agg #[.int .i64 op, .int .i64 arg], .slice A n c, .int .u8 t] w fun e w' => e = .returned (.bool true) ∧ Below w.heap.size w w' := by
  unfold maxLen at hc'
  have hb : Bts zs := fun z hz => wf_u8 (hw z hz)
  obtain ⟨t0, t1⟩ := wf_u8 ht
  have HN := Lib.hid hn
  clear hn hw ho ha ht
  have hbx : Below w.heap.size w (w.alloc (.cells #[.int .i64 op, .int .i64 arg] 28)) := (Below.refl _ _).alloc (Nat.le_refl _) _
  by_cases h1 : 500 < n
  · go_enter Try.func5, Try.ntmps5
    go_wp2_with (go_at_call 8; refine (awake_any _).mono ?_; rintro e w1 ⟨rfl, hb1⟩)
    go_ret
    exact ⟨rfl, below_call hbx hb1⟩
  · obtain ⟨k, hk⟩ : ∃ k : Nat, t % ((n : Int) + 1) = k := ⟨(t % ((n : Int) + 1)).toNat, by have := Int.emod_nonneg t (show (n : Int) + 1 ≠ 0 by omega); omega⟩
    have hkn : k ≤ n := by have := Int.emod_lt_of_pos t (show (0 : Int) < (n : Int) + 1 by omega); omega
    have htm : t.tmod ((n : Int) + 1) = k := by rw [Int.tmod_eq_emod_of_nonneg t0, hk]
    clear hk
    go_enter Try.func5, Try.ntmps5
    go_wp2_with fail
    refine (enc_any op arg _).mono ?_
    rintro e w1 ⟨A1, n1, c1, rfl, ho1, hb1⟩
    have hbel1 := below_call hbx hb1
    go_wp2_with fail
    have hrW := rd_at hr hbel1
    have hkc : k ≤ c := by omega
    have hzl : k ≤ zs.length := by rw [← HN.out]; exact hkn
    have hzm : zs.length ≤ 500 := by rw [← HN.out]; omega
    have HN' : Hid (zs.length = n) := HN.out.symm
    obtain ⟨Ak, hAk⟩ : ∃ Ak, (if c = k then A else A.map (·.add k)) = Ak := ⟨_, rfl⟩
    have hrk0 : Rd w w.heap.size Ak (cb .u8 (zs.drop k)) := by rw [← hAk]; exact slice_at_drop hr HN.out k hkn hc
    have hrk := rd_at hrk0 hbel1
    have HAk := Lib.hid hAk
    clear hAk
    obtain ⟨X1, X2, X3, X4, hX⟩ : ∃ X1 X2 X3 X4, opDec (zs.take k ++ (opEnc op arg ++ zs.drop k)) k = (X1, X2, X3, X4) := ⟨_, _, _, _, rfl⟩
    have HX := Lib.hid hX
    have HFB : Hid (Bts (zs.take k ++ (opEnc op arg ++ zs.drop k))) := (hb.take k).append ((opEnc_bts op arg).append (hb.drop k))
    clear hX
    have hst : StabL2 (w1.heap.size) (w1) [sV 20 (.slice A n c) 0, sV 20 (.int .i64 k) 1, sV 20 (.slice A k c) 2, sOwn 5 w1.heap.size 5 (cb .u8 (zs.take k)) 3, sV 20 (.slice A1 n1 c1) 4, sOwn 9 w1.heap.size 5 (cb .u8 (zs.take k ++ opEnc op arg)) 5, sV 20 (.slice A n c) 6, sV 20 (.int .i64 k) 7, sV 20 (.slice Ak (n - k) (c - k)) 8, sOwn 11 w1.heap.size 5 (cb .u8 (zs.take k ++ (opEnc op arg ++ zs.drop k))) 9, sV 20 (.int .i64 k) 10, sV 20 (.tuple #[.agg #[.int .i64 X1, .int .i64 X2], .int .i64 X3, .int .i64 X4]) 11, sV 20 (.tuple #[.agg #[.int .i64 X1, .int .i64 X2], .int .i64 X3, .int .i64 X4]) 12, sV 20 (.agg #[.int .i64 X1, .int .i64 X2]) 13, sV 20 (.int .i64 X3) 14, sV 20 (.int .i64 X4) 15, sBlk 17 w1.heap.size 28 [.int .i64 0, .int .i64 0] 16, sSet 16 20 w1.heap.size 28 [.int .i64 X1, .int .i64 X2], sV 20 (.int .i64 X3) 18, sV 20 (.int .i64 X4) 19] := by
      repeat (first | exact trivial | refine ⟨stab2_v _ _ _, ?_⟩ | refine ⟨stab2_own _ _ _ _ _, ?_⟩ | refine ⟨stab2_any _ _, ?_⟩ | refine ⟨stab2_blk _ _ _ _ _, ?_⟩ | refine ⟨stab2_set _ _ _ _ _, ?_⟩)
    refine wp_region_lay (A := ?A10) [sV 20 (.slice A n c) 0, sV 20 (.int .i64 k) 1, sV 20 (.slice A k c) 2, sOwn 5 w1.heap.size 5 (cb .u8 (zs.take k)) 3, sV 20 (.slice A1 n1 c1) 4, sOwn 9 w1.heap.size 5 (cb .u8 (zs.take k ++ opEnc op arg)) 5, sV 20 (.slice A n c) 6, sV 20 (.int .i64 k) 7, sV 20 (.slice Ak (n - k) (c - k)) 8, sOwn 11 w1.heap.size 5 (cb .u8 (zs.take k ++ (opEnc op arg ++ zs.drop k))) 9, sV 20 (.int .i64 k) 10, sV 20 (.tuple #[.agg #[.int .i64 X1, .int .i64 X2], .int .i64 X3, .int .i64 X4]) 11, sV 20 (.tuple #[.agg #[.int .i64 X1, .int .i64 X2], .int .i64 X3, .int .i64 X4]) 12, sV 20 (.agg #[.int .i64 X1, .int .i64 X2]) 13, sV 20 (.int .i64 X3) 14, sV 20 (.int .i64 X4) 15, sBlk 17 w1.heap.size 28 [.int .i64 0, .int .i64 0] 16, sSet 16 20 w1.heap.size 28 [.int .i64 X1, .int .i64 X2], sV 20 (.int .i64 X3) 18, sV 20 (.int .i64 X4) 19] 20 (w1.heap.size) (w1) (fun _ => True) (by kernel_rfl) (by kernel_rfl) (by rfl) rfl rfl (fun f => ?hA10) (Below.refl _ _) trivial ?hops10 ?hend10
    case hA10 =>
      simp only [fillFrom, Nat.zero_add, Nat.reduceAdd]
      go_frame
      with_reducible rfl
    case hops10 =>
      refine LOps.grow_ hst (Nat.le_refl _) (fun _ _ _ _ _ _ => trivial) (fun f w' K hW hJw hd hK => ?_) ?_
      · simp only [depsOf, depsL, Region.binds, depsHold2, spHold, spAt, List.getD_cons_zero, List.getD_cons_succ, sV, sAny, sOwn, sBlk, sSet, if_true, and_true, true_and, Nat.reduceLeDiff, Nat.reduceEqDiff, Nat.reduceAdd, Nat.zero_add, Nat.le_refl, or_true, true_or, or_false, false_or, if_false, reduceIte] at hd
        go_simp
        refine hK _ _ (Below.refl _ _) ?_
        exact rfl
      refine LOps.grow_ hst (Nat.le_refl _) (fun _ _ _ _ _ _ => trivial) (fun f w' K hW hJw hd hK => ?_) ?_
      · simp only [depsOf, depsL, Region.binds, depsHold2, spHold, spAt, List.getD_cons_zero, List.getD_cons_succ, sV, sAny, sOwn, sBlk, sSet, if_true, and_true, true_and, Nat.reduceLeDiff, Nat.reduceEqDiff, Nat.reduceAdd, Nat.zero_add, Nat.le_refl, or_true, true_or, or_false, false_or, if_false, reduceIte] at hd
        go_simp
        refine hK _ _ (Below.refl _ _) ?_
        exact rfl
      refine LOps.grow_ hst (Nat.le_refl _) (fun _ _ _ _ _ _ => trivial) (fun f w' K hW hJw hd hK => ?_) ?_
      · simp only [depsOf, depsL, Region.binds, depsHold2, spHold, spAt, List.getD_cons_zero, List.getD_cons_succ, sV, sAny, sOwn, sBlk, sSet, if_true, and_true, true_and, Nat.reduceLeDiff, Nat.reduceEqDiff, Nat.reduceAdd, Nat.zero_add, Nat.le_refl, or_true, true_or, or_false, false_or, if_false, reduceIte] at hd
        go_simp
        refine hK _ _ (Below.refl _ _) ?_
        exact rfl
      refine LOps.grow_ hst (Nat.le_refl _) (fun _ _ _ _ _ _ => trivial) (fun f w' K hW hJw hd hK => ?_) ?_
      · simp only [depsOf, depsL, Region.binds, depsHold2, spHold, spAt, List.getD_cons_zero, List.getD_cons_succ, sV, sAny, sOwn, sBlk, sSet, if_true, and_true, true_and, Nat.reduceLeDiff, Nat.reduceEqDiff, Nat.reduceAdd, Nat.zero_add, Nat.le_refl, or_true, true_or, or_false, false_or, if_false, reduceIte] at hd
        refine want_pos rfl ?_
        refine grows_app (P := Try.prog) elemU8 (Own.nil w' w1.heap.size _) (c := c) (m := k) ((hrW.below hW).take k) (by rw [cb_take]; simp; omega) (by rw [cb_take]; exact cb_one _ _) (by rw [cb_take]; simp; omega) (by rw [cb_take]; simp; omega) hW.size _ _ rfl rfl hd ?_
        intro A' n' c' w'' h2 h3
        rw [cb_take] at h2
        exact hK _ _ (Below.grown (Below.refl _ _) h3 (Nat.le_refl _) (fun _ h => by simp [Value.ownBlock] at h)) ⟨A', _, c', rfl, h2⟩
      refine LOps.grow_ hst (Nat.le_refl _) (fun _ _ _ _ _ _ => trivial) (fun f w' K hW hJw hd hK => ?_) ?_
      · simp only [depsOf, depsL, Region.binds, depsHold2, spHold, spAt, List.getD_cons_zero, List.getD_cons_succ, sV, sAny, sOwn, sBlk, sSet, if_true, and_true, true_and, Nat.reduceLeDiff, Nat.reduceEqDiff, Nat.reduceAdd, Nat.zero_add, Nat.le_refl, or_true, true_or, or_false, false_or, if_false, reduceIte] at hd
        go_simp
        refine hK _ _ (Below.refl _ _) ?_
        exact rfl
      refine LOps.put_ [0, 1, 2, 4, 6, 7, 8, 10, 11, 12, 13, 14, 15, 16] (by rfl) (fun f w' K hW hJw hd hK => ?_) ?_
      · simp only [depsOf, depsL, Region.binds, depsHold2, spHold, spAt, List.getD_cons_zero, List.getD_cons_succ, sV, sAny, sOwn, sBlk, sSet, if_true, and_true, true_and, Nat.reduceLeDiff, Nat.reduceEqDiff, Nat.reduceAdd, Nat.zero_add, Nat.le_refl, or_true, true_or, or_false, false_or, if_false, reduceIte] at hd
        obtain ⟨⟨A2, n2, c2, e3, ho3⟩, e4, _⟩ := hd
        refine want_pos rfl ?_
        refine grows_app (P := Try.prog) elemU8 ho3 (c := c1) (m := n1) (ho1.rd.2.2.below hW) ho1.rd.1 (cb_one _ _) (by have := opEnc_le op arg; simp; omega) (by have := opEnc_le op arg; simp; omega) hW.size _ _ rfl e3 e4 ?_
        intro A' n' c' w'' h2 h3
        rw [← cb_append] at h2
        refine hK _ _ (below_own (Below.refl _ _) h3 ho3 (Nat.le_refl _) hW.size) trivial ?_ ⟨A', _, c', rfl, h2⟩
        repeat (first | exact trivial | refine ⟨fun x y h => h, ?_⟩ | refine ⟨fun x y ⟨g, h, hg, hb⟩ => ⟨g, h, hg, hb.grown h3 (own_blk ho3 hb (by decide))⟩, ?_⟩)
      refine LOps.grow_ hst (Nat.le_refl _) (fun _ _ _ _ _ _ => trivial) (fun f w' K hW hJw hd hK => ?_) ?_
      · simp only [depsOf, depsL, Region.binds, depsHold2, spHold, spAt, List.getD_cons_zero, List.getD_cons_succ, sV, sAny, sOwn, sBlk, sSet, if_true, and_true, true_and, Nat.reduceLeDiff, Nat.reduceEqDiff, Nat.reduceAdd, Nat.zero_add, Nat.le_refl, or_true, true_or, or_false, false_or, if_false, reduceIte] at hd
        go_simp
        refine hK _ _ (Below.refl _ _) ?_
        exact rfl
      refine LOps.grow_ hst (Nat.le_refl _) (fun _ _ _ _ _ _ => trivial) (fun f w' K hW hJw hd hK => ?_) ?_
      · simp only [depsOf, depsL, Region.binds, depsHold2, spHold, spAt, List.getD_cons_zero, List.getD_cons_succ, sV, sAny, sOwn, sBlk, sSet, if_true, and_true, true_and, Nat.reduceLeDiff, Nat.reduceEqDiff, Nat.reduceAdd, Nat.zero_add, Nat.le_refl, or_true, true_or, or_false, false_or, if_false, reduceIte] at hd
        go_simp
        refine hK _ _ (Below.refl _ _) ?_
        exact rfl
      refine LOps.grow_ hst (Nat.le_refl _) (fun _ _ _ _ _ _ => trivial) (fun f w' K hW hJw hd hK => ?_) ?_
      · simp only [depsOf, depsL, Region.binds, depsHold2, spHold, spAt, List.getD_cons_zero, List.getD_cons_succ, sV, sAny, sOwn, sBlk, sSet, if_true, and_true, true_and, Nat.reduceLeDiff, Nat.reduceEqDiff, Nat.reduceAdd, Nat.zero_add, Nat.le_refl, or_true, true_or, or_false, false_or, if_false, reduceIte] at hd
        go_simp
        refine hK _ _ (Below.refl _ _) ?_
        show Value.slice _ _ _ = Value.slice _ _ _
        rw [← HAk.out]
      refine LOps.put_ [0, 1, 2, 4, 6, 7, 8, 10, 12, 13, 14, 15, 16] (by rfl) (fun f w' K hW hJw hd hK => ?_) ?_
      · simp only [depsOf, depsL, Region.binds, depsHold2, spHold, spAt, List.getD_cons_zero, List.getD_cons_succ, sV, sAny, sOwn, sBlk, sSet, if_true, and_true, true_and, Nat.reduceLeDiff, Nat.reduceEqDiff, Nat.reduceAdd, Nat.zero_add, Nat.le_refl, or_true, true_or, or_false, false_or, if_false, reduceIte] at hd
        obtain ⟨⟨A2, n2, c2, e3, ho3⟩, e4, _⟩ := hd
        refine want_pos rfl ?_
        refine grows_app (P := Try.prog) elemU8 ho3 (c := c - k) (m := n - k) (hrk.below hW) (by rw [← HN'.out]; simp) (cb_one _ _) (by have := opEnc_le op arg; simp; omega) (by have := opEnc_le op arg; simp; omega) hW.size _ _ rfl e3 e4 ?_
        intro A' n' c' w'' h2 h3
        rw [← cb_append, List.append_assoc] at h2
        refine hK _ _ (below_own (Below.refl _ _) h3 ho3 (Nat.le_refl _) hW.size) trivial ?_ ⟨A', _, c', rfl, h2⟩
        repeat (first | exact trivial | refine ⟨fun x y h => h, ?_⟩ | refine ⟨fun x y ⟨g, h, hg, hb⟩ => ⟨g, h, hg, hb.grown h3 (own_blk ho3 hb (by decide))⟩, ?_⟩)
      refine LOps.grow_ hst (Nat.le_refl _) (fun _ _ _ _ _ _ => trivial) (fun f w' K hW hJw hd hK => ?_) ?_
      · simp only [depsOf, depsL, Region.binds, depsHold2, spHold, spAt, List.getD_cons_zero, List.getD_cons_succ, sV, sAny, sOwn, sBlk, sSet, if_true, and_true, true_and, Nat.reduceLeDiff, Nat.reduceEqDiff, Nat.reduceAdd, Nat.zero_add, Nat.le_refl, or_true, true_or, or_false, false_or, if_false, reduceIte] at hd
        go_simp
        refine hK _ _ (Below.refl _ _) ?_
        exact rfl
      refine LOps.grow_ hst (Nat.le_refl _) (fun _ _ _ _ _ _ => trivial) (fun f w' K hW hJw hd hK => ?_) ?_
      · simp only [depsOf, depsL, Region.binds, depsHold2, spHold, spAt, List.getD_cons_zero, List.getD_cons_succ, sV, sAny, sOwn, sBlk, sSet, if_true, and_true, true_and, Nat.reduceLeDiff, Nat.reduceEqDiff, Nat.reduceAdd, Nat.zero_add, Nat.le_refl, or_true, true_or, or_false, false_or, if_false, reduceIte] at hd
        obtain ⟨⟨A2, n2, c2, e9, ho9⟩, e10, _⟩ := hd
        go_simp
        refine (opDec_any A2 n2 c2 _ _ _ (ho9.rd.2.2) (by rw [ho9.rd.1]; simp) HFB.out ho9.rd.2.1 (own_cap ho9) (by rw [ho9.rd.1]; simp; have := opEnc_le op arg; omega)).mono ?_
        rw [HX.out]
        rintro e w4 ⟨rfl, hb4⟩
        exact ⟨_, rfl, hK _ _ hb4 rfl⟩
      refine LOps.grow_ hst (Nat.le_refl _) (fun _ _ _ _ _ _ => trivial) (fun f w' K hW hJw hd hK => ?_) ?_
      · simp only [depsOf, depsL, Region.binds, depsHold2, spHold, spAt, List.getD_cons_zero, List.getD_cons_succ, sV, sAny, sOwn, sBlk, sSet, if_true, and_true, true_and, Nat.reduceLeDiff, Nat.reduceEqDiff, Nat.reduceAdd, Nat.zero_add, Nat.le_refl, or_true, true_or, or_false, false_or, if_false, reduceIte] at hd
        go_simp
        refine hK _ _ (Below.refl _ _) ?_
        exact rfl
      refine LOps.grow_ hst (Nat.le_refl _) (fun _ _ _ _ _ _ => trivial) (fun f w' K hW hJw hd hK => ?_) ?_
      · simp only [depsOf, depsL, Region.binds, depsHold2, spHold, spAt, List.getD_cons_zero, List.getD_cons_succ, sV, sAny, sOwn, sBlk, sSet, if_true, and_true, true_and, Nat.reduceLeDiff, Nat.reduceEqDiff, Nat.reduceAdd, Nat.zero_add, Nat.le_refl, or_true, true_or, or_false, false_or, if_false, reduceIte] at hd
        go_simp
        refine hK _ _ (Below.refl _ _) ?_
        exact rfl
      refine LOps.grow_ hst (Nat.le_refl _) (fun _ _ _ _ _ _ => trivial) (fun f w' K hW hJw hd hK => ?_) ?_
      · simp only [depsOf, depsL, Region.binds, depsHold2, spHold, spAt, List.getD_cons_zero, List.getD_cons_succ, sV, sAny, sOwn, sBlk, sSet, if_true, and_true, true_and, Nat.reduceLeDiff, Nat.reduceEqDiff, Nat.reduceAdd, Nat.zero_add, Nat.le_refl, or_true, true_or, or_false, false_or, if_false, reduceIte] at hd
        go_simp
        refine hK _ _ (Below.refl _ _) ?_
        exact rfl
      refine LOps.grow_ hst (Nat.le_refl _) (fun _ _ _ _ _ _ => trivial) (fun f w' K hW hJw hd hK => ?_) ?_
      · simp only [depsOf, depsL, Region.binds, depsHold2, spHold, spAt, List.getD_cons_zero, List.getD_cons_succ, sV, sAny, sOwn, sBlk, sSet, if_true, and_true, true_and, Nat.reduceLeDiff, Nat.reduceEqDiff, Nat.reduceAdd, Nat.zero_add, Nat.le_refl, or_true, true_or, or_false, false_or, if_false, reduceIte] at hd
        go_simp
        refine hK _ _ (Below.refl _ _) ?_
        exact rfl
      refine LOps.grow_ hst (Nat.le_refl _) (fun _ _ _ _ _ _ => trivial) (fun f w' K hW hJw hd hK => ?_) ?_
      · simp only [depsOf, depsL, Region.binds, depsHold2, spHold, spAt, List.getD_cons_zero, List.getD_cons_succ, sV, sAny, sOwn, sBlk, sSet, if_true, and_true, true_and, Nat.reduceLeDiff, Nat.reduceEqDiff, Nat.reduceAdd, Nat.zero_add, Nat.le_refl, or_true, true_or, or_false, false_or, if_false, reduceIte] at hd
        go_simp
        refine hK _ _ ((Below.refl _ _).alloc (Nat.le_refl _) _) ⟨_, rfl, hW.size, Blk.new _ _ _⟩
      refine LOps.put_ [0, 1, 2, 4, 6, 7, 8, 10, 11, 12, 13, 14, 15] (by rfl) (fun f w' K hW hJw hd hK => ?_) ?_
      · simp only [depsOf, depsL, Region.binds, depsHold2, spHold, spAt, List.getD_cons_zero, List.getD_cons_succ, sV, sAny, sOwn, sBlk, sSet, if_true, and_true, true_and, Nat.reduceLeDiff, Nat.reduceEqDiff, Nat.reduceAdd, Nat.zero_add, Nat.le_refl, or_true, true_or, or_false, false_or, if_false, reduceIte] at hd
        have hd16 : ∃ g, f 16 = .pointer (some ⟨g, 0, none⟩) ∧ w1.heap.size ≤ g ∧ Blk w' g 28 [.int .i64 0, .int .i64 0] := by simp only [hd]
        have hd13 : f 13 = .agg #[.int .i64 X1, .int .i64 X2] := by simp only [hd]
        clear hd
        obtain ⟨g, e16, hg, hbk⟩ := hd16
        obtain ⟨k0, k1, k2, k3⟩ := hbk.two
        go_simp
        refine hK _ _ (((Below.refl _ _).setCell (p := ⟨g, 0, none⟩) hg _).setCell (p := ⟨g, 1, none⟩) hg _) trivial ?_ ⟨g, e16, hg, (hbk.set_ 0 _).set_ 1 _⟩
        repeat (first | exact trivial | refine ⟨fun x y h => h, ?_⟩ | refine ⟨fun x y ⟨A', n', c', h, ho⟩ => ⟨A', n', c', h, (ho.far (own_blk ho hbk (by decide)) _).far (own_blk (ho.far (own_blk ho hbk (by decide)) _) (hbk.set_ 0 _) (by decide)) _⟩, ?_⟩)
      refine LOps.grow_ hst (Nat.le_refl _) (fun _ _ _ _ _ _ => trivial) (fun f w' K hW hJw hd hK => ?_) ?_
      · simp only [depsOf, depsL, Region.binds, depsHold2, spHold, spAt, List.getD_cons_zero, List.getD_cons_succ, sV, sAny, sOwn, sBlk, sSet, if_true, and_true, true_and, Nat.reduceLeDiff, Nat.reduceEqDiff, Nat.reduceAdd, Nat.zero_add, Nat.le_refl, or_true, true_or, or_false, false_or, if_false, reduceIte] at hd
        go_simp
        refine hK _ _ (Below.refl _ _) ?_
        exact rfl
      refine LOps.grow_ hst (Nat.le_refl _) (fun _ _ _ _ _ _ => trivial) (fun f w' K hW hJw hd hK => ?_) ?_
      · simp only [depsOf, depsL, Region.binds, depsHold2, spHold, spAt, List.getD_cons_zero, List.getD_cons_succ, sV, sAny, sOwn, sBlk, sSet, if_true, and_true, true_and, Nat.reduceLeDiff, Nat.reduceEqDiff, Nat.reduceAdd, Nat.zero_add, Nat.le_refl, or_true, true_or, or_false, false_or, if_false, reduceIte] at hd
        go_simp
        refine hK _ _ (Below.refl _ _) ?_
        exact rfl
      exact LOps.nil_
    case hend10 =>
      intro f w' hW hJw hd
      simp only [List.range, List.range.loop, endHold, spHold, spAt, List.getD_cons_zero, List.getD_cons_succ, sV, sAny, sOwn, sBlk, sSet, true_and, and_true, Nat.reduceLeDiff, Nat.le_refl, if_true, if_false, reduceIte] at hd
      clear hst
      obtain ⟨e0, e1, e2, e4, e6, e7, e8, e10, e11, e12, e13, e14, e15, ⟨g, e16, hg, hbk⟩, e18, e19⟩ := hd
      have hBw : Below w.heap.size w w' := hbel1.trans (hW.mono hbel1.size)
      have K3 := ((Blk.new w 28 [.int .i64 op, .int .i64 arg]).below hb1 (by simp)).below hW (Nat.lt_of_lt_of_le (by simp) hb1.size)
      by_cases hs : opEnc op arg = []
      · have hn1 : n1 = 0 := by rw [ho1.rd.1, hs]; rfl
        subst hn1
        clear K3 hbk
        go_wp2_with fail
        obtain ⟨Y1, Y2, Y3, Y4, hY⟩ : ∃ Y1 Y2 Y3 Y4, opDec zs k = (Y1, Y2, Y3, Y4) := ⟨_, _, _, _, rfl⟩
        have HY := Lib.hid hY
        refine (opDec_any A n c zs k _ (rd_at hr hBw) HN.out hb hc hc' (by omega)).mono ?_
        rw [HY.out]
        rintro e w5 ⟨rfl, hb5⟩
        have hB5 := below_call hBw hb5
        by_cases h4 : Y4 = 0
        · subst h4
          obtain ⟨m, rfl, hm1, hm2, hm3⟩ := dec_back zs hb k Y1 Y2 Y3 hY
          clear hY
          have HM3 := Lib.hid hm3
          clear hm3
          rw [← HN.out] at hm2
          have hmc : m ≤ c := by omega
          have hkm : k ≤ m := by omega
          by_cases hj : Y1 = 24 ∨ Y1 = 25
          · have HJ : ∀ w : World, True := fun _ => trivial
            have hjb : (Y1 == 24 || Y1 == 25) = true := by simpa using hj
            rcases hj with rfl | rfl
            · go_wp2_with fail
              have K13 := Blk.new w5 28 [.int .i64 24, .int .i64 Y2]
              have hB6 := hB5.alloc hB5.size (.cells #[.int .i64 24, .int .i64 Y2] 28)
              generalize w5.alloc (.cells #[.int .i64 24, .int .i64 Y2] 28) = W6 at *
              generalize w5.heap.size = b13 at *
              have lt13 := K13.lt
              obtain ⟨k130, k131, _, _⟩ := K13.two
              refine wp_region_grow (A := ?A1) [isV (.bool true), isV (.bool true), isV (undef), isV (undef), isV (undef), isV (undef), isV (undef), isV (undef), isV (undef), isV (undef), isV (undef), isV (.bool true), isV (.bool true), isV (.bool true), isV (.bool true), isV (.bool true)] (W6) (by kernel_rfl) (by kernel_rfl) (fun f => ?hA1) (Below.refl _ _) ?hst1 ?hops1 ?hend1
              case hA1 =>
                simp only [fillFrom, Nat.zero_add, Nat.reduceAdd]
                go_frame
                with_reducible rfl
              case hst1 => repeat (first | exact trivial | refine ⟨stab_is _ _, ?_⟩ | refine ⟨stab_own _ _ _ _, ?_⟩ | refine ⟨stab_any _, ?_⟩ | refine ⟨stab_rd _ _ _, ?_⟩)
              case hops1 =>
                refine GOps.cons_ (fun f w' K hW hd hK => ?_) ?_
                · try simp only [depsOf, depsL, Region.binds, depsHold, nthS, List.getD_cons_zero, List.getD_cons_succ, isV, ownV, anyV, if_true, and_true, true_and] at hd
                  go_simp
                  refine hK _ _ (Below.refl _ _) ?_
                  exact rfl
                refine GOps.cons_ (fun f w' K hW hd hK => ?_) ?_
                · try simp only [depsOf, depsL, Region.binds, depsHold, nthS, List.getD_cons_zero, List.getD_cons_succ, isV, ownV, anyV, if_true, and_true, true_and] at hd
                  go_simp
                  refine hK _ _ (Below.refl _ _) ?_
                  exact rfl
                refine GOps.cons_ (fun f w' K hW hd hK => ?_) ?_
                · try simp only [depsOf, depsL, Region.binds, depsHold, nthS, List.getD_cons_zero, List.getD_cons_succ, isV, ownV, anyV, if_true, and_true, true_and] at hd
                  go_simp
                  refine hK _ _ (Below.refl _ _) ?_
                  exact rfl
                refine GOps.cons_ (fun f w' K hW hd hK => ?_) ?_
                · try simp only [depsOf, depsL, Region.binds, depsHold, nthS, List.getD_cons_zero, List.getD_cons_succ, isV, ownV, anyV, if_true, and_true, true_and] at hd
                  go_simp
                  refine hK _ _ (Below.refl _ _) ?_
                  exact rfl
                refine GOps.cons_ (fun f w' K hW hd hK => ?_) ?_
                · try simp only [depsOf, depsL, Region.binds, depsHold, nthS, List.getD_cons_zero, List.getD_cons_succ, isV, ownV, anyV, if_true, and_true, true_and] at hd
                  go_simp
                  refine hK _ _ (Below.refl _ _) ?_
                  exact rfl
                refine GOps.cons_ (fun f w' K hW hd hK => ?_) ?_
                · try simp only [depsOf, depsL, Region.binds, depsHold, nthS, List.getD_cons_zero, List.getD_cons_succ, isV, ownV, anyV, if_true, and_true, true_and] at hd
                  go_simp
                  refine hK _ _ (Below.refl _ _) ?_
                  exact rfl
                refine GOps.cons_ (fun f w' K hW hd hK => ?_) ?_
                · try simp only [depsOf, depsL, Region.binds, depsHold, nthS, List.getD_cons_zero, List.getD_cons_succ, isV, ownV, anyV, if_true, and_true, true_and] at hd
                  go_simp
                  refine hK _ _ (Below.refl _ _) ?_
                  exact rfl
                refine GOps.cons_ (fun f w' K hW hd hK => ?_) ?_
                · try simp only [depsOf, depsL, Region.binds, depsHold, nthS, List.getD_cons_zero, List.getD_cons_succ, isV, ownV, anyV, if_true, and_true, true_and] at hd
                  go_simp
                  refine hK _ _ (Below.refl _ _) ?_
                  exact rfl
                refine GOps.cons_ (fun f w' K hW hd hK => ?_) ?_
                · try simp only [depsOf, depsL, Region.binds, depsHold, nthS, List.getD_cons_zero, List.getD_cons_succ, isV, ownV, anyV, if_true, and_true, true_and] at hd
                  go_simp
                  refine hK _ _ (Below.refl _ _) ?_
                  exact rfl
                refine GOps.cons_ (fun f w' K hW hd hK => ?_) ?_
                · try simp only [depsOf, depsL, Region.binds, depsHold, nthS, List.getD_cons_zero, List.getD_cons_succ, isV, ownV, anyV, if_true, and_true, true_and] at hd
                  go_simp
                  refine hK _ _ (Below.refl _ _) ?_
                  exact rfl
                refine GOps.cons_ (fun f w' K hW hd hK => ?_) ?_
                · try simp only [depsOf, depsL, Region.binds, depsHold, nthS, List.getD_cons_zero, List.getD_cons_succ, isV, ownV, anyV, if_true, and_true, true_and] at hd
                  go_simp
                  refine hK _ _ (Below.refl _ _) ?_
                  exact rfl
                refine GOps.cons_ (fun f w' K hW hd hK => ?_) ?_
                · try simp only [depsOf, depsL, Region.binds, depsHold, nthS, List.getD_cons_zero, List.getD_cons_succ, isV, ownV, anyV, if_true, and_true, true_and] at hd
                  go_simp
                  refine hK _ _ (Below.refl _ _) ?_
                  exact rfl
                refine GOps.cons_ (fun f w' K hW hd hK => ?_) ?_
                · try simp only [depsOf, depsL, Region.binds, depsHold, nthS, List.getD_cons_zero, List.getD_cons_succ, isV, ownV, anyV, if_true, and_true, true_and] at hd
                  go_simp
                  refine hK _ _ (Below.refl _ _) ?_
                  exact rfl
                refine GOps.cons_ (fun f w' K hW hd hK => ?_) ?_
                · try simp only [depsOf, depsL, Region.binds, depsHold, nthS, List.getD_cons_zero, List.getD_cons_succ, isV, ownV, anyV, if_true, and_true, true_and] at hd
                  go_simp
                  refine (awake_any _).mono ?_
                  rintro e w1 ⟨rfl, hb⟩
                  exact ⟨_, rfl, hK _ _ hb rfl⟩
                refine GOps.cons_ (fun f w' K hW hd hK => ?_) ?_
                · try simp only [depsOf, depsL, Region.binds, depsHold, nthS, List.getD_cons_zero, List.getD_cons_succ, isV, ownV, anyV, if_true, and_true, true_and] at hd
                  go_simp
                  refine hK _ _ (Below.refl _ _) ?_
                  exact rfl
                refine GOps.cons_ (fun f w' K hW hd hK => ?_) ?_
                · try simp only [depsOf, depsL, Region.binds, depsHold, nthS, List.getD_cons_zero, List.getD_cons_succ, isV, ownV, anyV, if_true, and_true, true_and] at hd
                  go_simp
                  refine hK _ _ (Below.refl _ _) ?_
                  exact rfl
                exact GOps.nil_
              case hend1 =>
                intro f w' hW hd
                simp only [List.length_cons, List.length_nil, Nat.reduceAdd, List.range, List.range.loop, depsHold, nthS, List.getD_cons_zero, List.getD_cons_succ, isV, ownV, anyV, true_and, and_true] at hd
                have hl : f 15 = .bool true := by simp only [hd]
                go_wp2
                go_ret
                exact ⟨congrArg Ending.returned hl, hB6.trans (hW.mono hB6.size)⟩
            · go_wp2_with fail
              have K13 := Blk.new w5 28 [.int .i64 25, .int .i64 Y2]
              have hB6 := hB5.alloc hB5.size (.cells #[.int .i64 25, .int .i64 Y2] 28)
              generalize w5.alloc (.cells #[.int .i64 25, .int .i64 Y2] 28) = W6 at *
              generalize w5.heap.size = b13 at *
              have lt13 := K13.lt
              obtain ⟨k130, k131, _, _⟩ := K13.two
              refine wp_region_grow (A := ?A2) [isV (.bool true), isV (.bool true), isV (undef), isV (undef), isV (undef), isV (undef), isV (undef), isV (undef), isV (undef), isV (undef), isV (undef), isV (.bool true), isV (.bool true), isV (.bool true), isV (.bool true), isV (.bool true)] (W6) (by kernel_rfl) (by kernel_rfl) (fun f => ?hA2) (Below.refl _ _) ?hst2 ?hops2 ?hend2
              case hA2 =>
                simp only [fillFrom, Nat.zero_add, Nat.reduceAdd]
                go_frame
                with_reducible rfl
              case hst2 => repeat (first | exact trivial | refine ⟨stab_is _ _, ?_⟩ | refine ⟨stab_own _ _ _ _, ?_⟩ | refine ⟨stab_any _, ?_⟩ | refine ⟨stab_rd _ _ _, ?_⟩)
              case hops2 =>
                refine GOps.cons_ (fun f w' K hW hd hK => ?_) ?_
                · try simp only [depsOf, depsL, Region.binds, depsHold, nthS, List.getD_cons_zero, List.getD_cons_succ, isV, ownV, anyV, if_true, and_true, true_and] at hd
                  go_simp
                  refine hK _ _ (Below.refl _ _) ?_
                  exact rfl
                refine GOps.cons_ (fun f w' K hW hd hK => ?_) ?_
                · try simp only [depsOf, depsL, Region.binds, depsHold, nthS, List.getD_cons_zero, List.getD_cons_succ, isV, ownV, anyV, if_true, and_true, true_and] at hd
                  go_simp
                  refine hK _ _ (Below.refl _ _) ?_
                  exact rfl
                refine GOps.cons_ (fun f w' K hW hd hK => ?_) ?_
                · try simp only [depsOf, depsL, Region.binds, depsHold, nthS, List.getD_cons_zero, List.getD_cons_succ, isV, ownV, anyV, if_true, and_true, true_and] at hd
                  go_simp
                  refine hK _ _ (Below.refl _ _) ?_
                  exact rfl
                refine GOps.cons_ (fun f w' K hW hd hK => ?_) ?_
                · try simp only [depsOf, depsL, Region.binds, depsHold, nthS, List.getD_cons_zero, List.getD_cons_succ, isV, ownV, anyV, if_true, and_true, true_and] at hd
                  go_simp
                  refine hK _ _ (Below.refl _ _) ?_
                  exact rfl
                refine GOps.cons_ (fun f w' K hW hd hK => ?_) ?_
                · try simp only [depsOf, depsL, Region.binds, depsHold, nthS, List.getD_cons_zero, List.getD_cons_succ, isV, ownV, anyV, if_true, and_true, true_and] at hd
                  go_simp
                  refine hK _ _ (Below.refl _ _) ?_
                  exact rfl
                refine GOps.cons_ (fun f w' K hW hd hK => ?_) ?_
                · try simp only [depsOf, depsL, Region.binds, depsHold, nthS, List.getD_cons_zero, List.getD_cons_succ, isV, ownV, anyV, if_true, and_true, true_and] at hd
                  go_simp
                  refine hK _ _ (Below.refl _ _) ?_
                  exact rfl
                refine GOps.cons_ (fun f w' K hW hd hK => ?_) ?_
                · try simp only [depsOf, depsL, Region.binds, depsHold, nthS, List.getD_cons_zero, List.getD_cons_succ, isV, ownV, anyV, if_true, and_true, true_and] at hd
                  go_simp
                  refine hK _ _ (Below.refl _ _) ?_
                  exact rfl
                refine GOps.cons_ (fun f w' K hW hd hK => ?_) ?_
                · try simp only [depsOf, depsL, Region.binds, depsHold, nthS, List.getD_cons_zero, List.getD_cons_succ, isV, ownV, anyV, if_true, and_true, true_and] at hd
                  go_simp
                  refine hK _ _ (Below.refl _ _) ?_
                  exact rfl
                refine GOps.cons_ (fun f w' K hW hd hK => ?_) ?_
                · try simp only [depsOf, depsL, Region.binds, depsHold, nthS, List.getD_cons_zero, List.getD_cons_succ, isV, ownV, anyV, if_true, and_true, true_and] at hd
                  go_simp
                  refine hK _ _ (Below.refl _ _) ?_
                  exact rfl
                refine GOps.cons_ (fun f w' K hW hd hK => ?_) ?_
                · try simp only [depsOf, depsL, Region.binds, depsHold, nthS, List.getD_cons_zero, List.getD_cons_succ, isV, ownV, anyV, if_true, and_true, true_and] at hd
                  go_simp
                  refine hK _ _ (Below.refl _ _) ?_
                  exact rfl
                refine GOps.cons_ (fun f w' K hW hd hK => ?_) ?_
                · try simp only [depsOf, depsL, Region.binds, depsHold, nthS, List.getD_cons_zero, List.getD_cons_succ, isV, ownV, anyV, if_true, and_true, true_and] at hd
                  go_simp
                  refine hK _ _ (Below.refl _ _) ?_
                  exact rfl
                refine GOps.cons_ (fun f w' K hW hd hK => ?_) ?_
                · try simp only [depsOf, depsL, Region.binds, depsHold, nthS, List.getD_cons_zero, List.getD_cons_succ, isV, ownV, anyV, if_true, and_true, true_and] at hd
                  go_simp
                  refine hK _ _ (Below.refl _ _) ?_
                  exact rfl
                refine GOps.cons_ (fun f w' K hW hd hK => ?_) ?_
                · try simp only [depsOf, depsL, Region.binds, depsHold, nthS, List.getD_cons_zero, List.getD_cons_succ, isV, ownV, anyV, if_true, and_true, true_and] at hd
                  go_simp
                  refine hK _ _ (Below.refl _ _) ?_
                  exact rfl
                refine GOps.cons_ (fun f w' K hW hd hK => ?_) ?_
                · try simp only [depsOf, depsL, Region.binds, depsHold, nthS, List.getD_cons_zero, List.getD_cons_succ, isV, ownV, anyV, if_true, and_true, true_and] at hd
                  go_simp
                  refine (awake_any _).mono ?_
                  rintro e w1 ⟨rfl, hb⟩
                  exact ⟨_, rfl, hK _ _ hb rfl⟩
                refine GOps.cons_ (fun f w' K hW hd hK => ?_) ?_
                · try simp only [depsOf, depsL, Region.binds, depsHold, nthS, List.getD_cons_zero, List.getD_cons_succ, isV, ownV, anyV, if_true, and_true, true_and] at hd
                  go_simp
                  refine hK _ _ (Below.refl _ _) ?_
                  exact rfl
                refine GOps.cons_ (fun f w' K hW hd hK => ?_) ?_
                · try simp only [depsOf, depsL, Region.binds, depsHold, nthS, List.getD_cons_zero, List.getD_cons_succ, isV, ownV, anyV, if_true, and_true, true_and] at hd
                  go_simp
                  refine hK _ _ (Below.refl _ _) ?_
                  exact rfl
                exact GOps.nil_
              case hend2 =>
                intro f w' hW hd
                simp only [List.length_cons, List.length_nil, Nat.reduceAdd, List.range, List.range.loop, depsHold, nthS, List.getD_cons_zero, List.getD_cons_succ, isV, ownV, anyV, true_and, and_true] at hd
                have hl : f 15 = .bool true := by simp only [hd]
                go_wp2
                go_ret
                exact ⟨congrArg Ending.returned hl, hB6.trans (hW.mono hB6.size)⟩
          · have hj1 : (Y1 == 24) = false := by simp; omega
            have hj2 : (Y1 == 25) = false := by simp; omega
            go_wp2_with fail
            have HM4 : Hid (opEnc Y1 Y2 = (zs.drop k).take (m - k)) := by
              rcases HM3.out with h | h | h
              · exact absurd (.inl h) hj
              · exact absurd (.inr h) hj
              · exact h
            have hrkm0 := rd_at hrk0 hB5
            have K13 := Blk.new w5 28 [.int .i64 Y1, .int .i64 Y2]
            have hB6 := hB5.alloc hB5.size (.cells #[.int .i64 Y1, .int .i64 Y2] 28)
            generalize w5.alloc (.cells #[.int .i64 Y1, .int .i64 Y2] 28) = W6 at *
            generalize w5.heap.size = b13 at *
            have lt13 := K13.lt
            obtain ⟨k130, k131, _, _⟩ := K13.two
            have hrkm : Rd W6 W6.heap.size Ak (cb .u8 ((zs.drop k).take (m - k))) := by
              have := (rd_at hrk0 hB6).take (m - k)
              rwa [cb_take] at this
            have HML : Hid (m - k = ((zs.drop k).take (m - k)).length) := by unfold Hid; rw [List.length_take, List.length_drop, ← HN.out]; omega
            refine wp_region_grow (A := ?A3) [isV (.bool false), isV (.bool false), isV (.agg #[.int .i64 Y1, .int .i64 Y2]), ownV W6.heap.size 5 (cb .u8 (opEnc Y1 Y2)), isV (.string (strOfNums (opEnc Y1 Y2))), isV (.slice A n c), isV (.int .i64 k), isV (.int .i64 m), isV (.slice Ak (m - k) (c - k)), isV (.string (strOfNums (opEnc Y1 Y2))), isV (.bool true), isV (.bool true), isV (.bool true), isV (.bool true), isV (.bool true), isV (.bool true)] (W6) (by kernel_rfl) (by kernel_rfl) (fun f => ?hA3) (Below.refl _ _) ?hst3 ?hops3 ?hend3
            case hA3 =>
              simp only [fillFrom, Nat.zero_add, Nat.reduceAdd]
              go_frame
              with_reducible rfl
            case hst3 => repeat (first | exact trivial | refine ⟨stab_is _ _, ?_⟩ | refine ⟨stab_own _ _ _ _, ?_⟩ | refine ⟨stab_any _, ?_⟩ | refine ⟨stab_rd _ _ _, ?_⟩)
            case hops3 =>
              refine GOps.cons_ (fun f w' K hW hd hK => ?_) ?_
              · try simp only [depsOf, depsL, Region.binds, depsHold, nthS, List.getD_cons_zero, List.getD_cons_succ, isV, ownV, anyV, if_true, and_true, true_and] at hd
                obtain ⟨cc, _⟩ := bcell hW
                go_simp
                refine hK _ _ (Below.refl _ _) ?_
                exact rfl
              refine GOps.cons_ (fun f w' K hW hd hK => ?_) ?_
              · try simp only [depsOf, depsL, Region.binds, depsHold, nthS, List.getD_cons_zero, List.getD_cons_succ, isV, ownV, anyV, if_true, and_true, true_and] at hd
                obtain ⟨cc, _⟩ := bcell hW
                go_simp
                refine hK _ _ (Below.refl _ _) ?_
                exact rfl
              refine GOps.cons_ (fun f w' K hW hd hK => ?_) ?_
              · try simp only [depsOf, depsL, Region.binds, depsHold, nthS, List.getD_cons_zero, List.getD_cons_succ, isV, ownV, anyV, if_true, and_true, true_and] at hd
                obtain ⟨cc, _⟩ := bcell hW
                go_simp
                refine hK _ _ (Below.refl _ _) ?_
                exact rfl
              refine GOps.cons_ (fun f w' K hW hd hK => ?_) ?_
              · try simp only [depsOf, depsL, Region.binds, depsHold, nthS, List.getD_cons_zero, List.getD_cons_succ, isV, ownV, anyV, if_true, and_true, true_and] at hd
                obtain ⟨cc, _⟩ := bcell hW
                go_simp
                refine (enc_any Y1 Y2 _).mono ?_
                rintro e w1 ⟨A3, n3, c3, rfl, ho, hb⟩
                exact ⟨_, rfl, hK _ _ hb ⟨A3, n3, c3, rfl, ho.less hW.size⟩⟩
              refine GOps.cons_ (fun f w' K hW hd hK => ?_) ?_
              · try simp only [depsOf, depsL, Region.binds, depsHold, nthS, List.getD_cons_zero, List.getD_cons_succ, isV, ownV, anyV, if_true, and_true, true_and] at hd
                obtain ⟨cc, _⟩ := bcell hW
                obtain ⟨⟨A1, n1, c1, e1, ho⟩, _⟩ := hd
                have cv := conv_str (P := Try.prog) Try.underlying29 Try.underlying5 Try.underlying9 ho.rd.2.2 (c := c1) (n := n1) (by rw [ho.rd.1]; simp)
                go_simp
                refine hK _ _ (Below.refl _ _) ?_
                exact rfl
              refine GOps.cons_ (fun f w' K hW hd hK => ?_) ?_
              · try simp only [depsOf, depsL, Region.binds, depsHold, nthS, List.getD_cons_zero, List.getD_cons_succ, isV, ownV, anyV, if_true, and_true, true_and] at hd
                obtain ⟨cc, _⟩ := bcell hW
                go_simp
                refine hK _ _ (Below.refl _ _) ?_
                exact rfl
              refine GOps.cons_ (fun f w' K hW hd hK => ?_) ?_
              · try simp only [depsOf, depsL, Region.binds, depsHold, nthS, List.getD_cons_zero, List.getD_cons_succ, isV, ownV, anyV, if_true, and_true, true_and] at hd
                obtain ⟨cc, _⟩ := bcell hW
                go_simp
                refine hK _ _ (Below.refl _ _) ?_
                exact rfl
              refine GOps.cons_ (fun f w' K hW hd hK => ?_) ?_
              · try simp only [depsOf, depsL, Region.binds, depsHold, nthS, List.getD_cons_zero, List.getD_cons_succ, isV, ownV, anyV, if_true, and_true, true_and] at hd
                obtain ⟨cc, _⟩ := bcell hW
                go_simp
                refine hK _ _ (Below.refl _ _) ?_
                exact rfl
              refine GOps.cons_ (fun f w' K hW hd hK => ?_) ?_
              · try simp only [depsOf, depsL, Region.binds, depsHold, nthS, List.getD_cons_zero, List.getD_cons_succ, isV, ownV, anyV, if_true, and_true, true_and] at hd
                obtain ⟨cc, _⟩ := bcell hW
                go_simp
                refine hK _ _ (Below.refl _ _) ?_
                show Value.slice _ _ _ = Value.slice _ _ _
                rw [← HAk.out]
              refine GOps.cons_ (fun f w' K hW hd hK => ?_) ?_
              · try simp only [depsOf, depsL, Region.binds, depsHold, nthS, List.getD_cons_zero, List.getD_cons_succ, isV, ownV, anyV, if_true, and_true, true_and] at hd
                obtain ⟨cc, _⟩ := bcell hW
                have cv := conv_str (P := Try.prog) Try.underlying29 Try.underlying5 Try.underlying9 (hrkm.below hW) (c := c - k) (n := m - k) HML.out
                go_simp
                refine hK _ _ (Below.refl _ _) ?_
                exact (by rw [HM4.out]; rfl)
              refine GOps.cons_ (fun f w' K hW hd hK => ?_) ?_
              · try simp only [depsOf, depsL, Region.binds, depsHold, nthS, List.getD_cons_zero, List.getD_cons_succ, isV, ownV, anyV, if_true, and_true, true_and] at hd
                obtain ⟨cc, _⟩ := bcell hW
                go_simp
                refine hK _ _ (Below.refl _ _) ?_
                exact rfl
              refine GOps.cons_ (fun f w' K hW hd hK => ?_) ?_
              · try simp only [depsOf, depsL, Region.binds, depsHold, nthS, List.getD_cons_zero, List.getD_cons_succ, isV, ownV, anyV, if_true, and_true, true_and] at hd
                obtain ⟨cc, _⟩ := bcell hW
                go_simp
                refine hK _ _ (Below.refl _ _) ?_
                exact rfl
              refine GOps.cons_ (fun f w' K hW hd hK => ?_) ?_
              · try simp only [depsOf, depsL, Region.binds, depsHold, nthS, List.getD_cons_zero, List.getD_cons_succ, isV, ownV, anyV, if_true, and_true, true_and] at hd
                obtain ⟨cc, _⟩ := bcell hW
                go_simp
                refine hK _ _ (Below.refl _ _) ?_
                exact rfl
              refine GOps.cons_ (fun f w' K hW hd hK => ?_) ?_
              · try simp only [depsOf, depsL, Region.binds, depsHold, nthS, List.getD_cons_zero, List.getD_cons_succ, isV, ownV, anyV, if_true, and_true, true_and] at hd
                obtain ⟨cc, _⟩ := bcell hW
                go_simp
                refine (awake_any _).mono ?_
                rintro e w1 ⟨rfl, hb⟩
                exact ⟨_, rfl, hK _ _ hb rfl⟩
              refine GOps.cons_ (fun f w' K hW hd hK => ?_) ?_
              · try simp only [depsOf, depsL, Region.binds, depsHold, nthS, List.getD_cons_zero, List.getD_cons_succ, isV, ownV, anyV, if_true, and_true, true_and] at hd
                obtain ⟨cc, _⟩ := bcell hW
                go_simp
                refine hK _ _ (Below.refl _ _) ?_
                exact rfl
              refine GOps.cons_ (fun f w' K hW hd hK => ?_) ?_
              · try simp only [depsOf, depsL, Region.binds, depsHold, nthS, List.getD_cons_zero, List.getD_cons_succ, isV, ownV, anyV, if_true, and_true, true_and] at hd
                obtain ⟨cc, _⟩ := bcell hW
                go_simp
                refine hK _ _ (Below.refl _ _) ?_
                exact rfl
              exact GOps.nil_
            case hend3 =>
              intro f w' hW hd
              simp only [List.length_cons, List.length_nil, Nat.reduceAdd, List.range, List.range.loop, depsHold, nthS, List.getD_cons_zero, List.getD_cons_succ, isV, ownV, anyV, true_and, and_true] at hd
              have hl : f 15 = .bool true := by simp only [hd]
              go_wp2
              go_ret
              exact ⟨congrArg Ending.returned hl, hB6.trans (hW.mono hB6.size)⟩
        · obtain ⟨rfl, rfl, rfl⟩ := dec_err zs k Y1 Y2 Y3 Y4 hY h4
          clear hY
          have heq : ∀ w : World, (binOp .eql 28 (.agg #[.int .i64 0, .int .i64 0]) (.agg #[.int .i64 0, .int .i64 0])).run Try.prog w = .ok (.bool true) w := fun w => by rw [ins_eql]; simp
          have hgd := fun (x y : Operand) (w : World) => ins_guard .eql x y #[.int .i64 0, .int .i64 0] #[.int .i64 0, .int .i64 0] w
          go_wp2_with (go_at_call 8; refine (awake_any _).mono ?_; rintro e w6 ⟨rfl, hb6⟩)
          go_ret
          exact ⟨rfl, below_call (hB5.alloc hB5.size _) hb6⟩

      · have hn1e : n1 = (opEnc op arg).length := by rw [ho1.rd.1]; simp
        have hn1 : 0 < n1 := by rw [hn1e]; exact List.length_pos_iff.2 hs
        have hn13 : n1 ≤ 3 := by rw [hn1e]; exact opEnc_le op arg
        have hde := dec_enc op arg (zs.take k) (zs.drop k) hs
        rw [List.length_take, Nat.min_eq_left hzl, HX.out, ← hn1e] at hde
        simp only [Prod.mk.injEq] at hde
        obtain ⟨g1, g2, g3, g4⟩ := hde
        subst g2 g3 g4
        have g1' := g1.symm
        subst g1'
        clear g1 hs HX HFB hn1e
        obtain ⟨k30, k31, _, _⟩ := K3.two
        obtain ⟨kg0, kg1, _, _⟩ := hbk.two
        have lt3 := K3.lt
        have ltg := hbk.lt
        go_wp2_with fail
        refine (has_any op _).mono ?_
        rintro e w4 ⟨rfl, hb4⟩
        have hB4 : Below w.heap.size w w4 := below_call (hBw.alloc hBw.size _) hb4
        have K3' := (K3.alloc (.cells #[.int .i64 op, .int .i64 0] 28)).below hb4 (by simp; omega)
        have Kg' := (hbk.alloc (.cells #[.int .i64 op, .int .i64 0] 28)).below hb4 (by simp; omega)
        have K12 := (Blk.new w' 28 [.int .i64 op, .int .i64 0]).below hb4 (by simp)
        clear K3 hbk k30 k31 kg0 kg1
        obtain ⟨m30, m31, _, _⟩ := K3'.two
        obtain ⟨mg0, mg1, _, _⟩ := Kg'.two
        obtain ⟨m120, m121, m122, m123⟩ := K12.two
        have hgd := fun (x y : Operand) (a b c d : Int) (w : World) => ins_guard .neq x y #[.int .i64 a, .int .i64 b] #[.int .i64 c, .int .i64 d] w
        have hw12 : w.heap.size ≤ w'.heap.size := hBw.size
        generalize hIA : insA op arg = IA at *
        cases hh : hasB op
        · have hi : IA = 0 := by rw [← hIA]; unfold insA; rw [hh]; rfl
          clear hIA
          subst hi
          have hne : ∀ w : World, (binOp .neq 28 (.agg #[.int .i64 op, .int .i64 0]) (.agg #[.int .i64 op, .int .i64 0])).run Try.prog w = .ok (.bool false) w := fun w => by rw [ins_neq]; simp
          go_wp2_with fail
          clear hgd hne
          obtain ⟨Y1, Y2, Y3, Y4, hY⟩ : ∃ Y1 Y2 Y3 Y4, opDec zs k = (Y1, Y2, Y3, Y4) := ⟨_, _, _, _, rfl⟩
          have HY := Lib.hid hY
          refine (opDec_any A n c zs k _ (rd_at hr hB4) HN.out hb hc hc' (by omega)).mono ?_
          rw [HY.out]
          rintro e w5 ⟨rfl, hb5⟩
          have hB5 := below_call hB4 hb5
          by_cases h4 : Y4 = 0
          · subst h4
            obtain ⟨m, rfl, hm1, hm2, hm3⟩ := dec_back zs hb k Y1 Y2 Y3 hY
            clear hY
            have HM3 := Lib.hid hm3
            clear hm3
            rw [← HN.out] at hm2
            have hmc : m ≤ c := by omega
            have hkm : k ≤ m := by omega
            by_cases hj : Y1 = 24 ∨ Y1 = 25
            · have HJ : ∀ w : World, True := fun _ => trivial
              have hjb : (Y1 == 24 || Y1 == 25) = true := by simpa using hj
              rcases hj with rfl | rfl
              · go_wp2_with fail
                have K13 := Blk.new w5 28 [.int .i64 24, .int .i64 Y2]
                have hB6 := hB5.alloc hB5.size (.cells #[.int .i64 24, .int .i64 Y2] 28)
                generalize w5.alloc (.cells #[.int .i64 24, .int .i64 Y2] 28) = W6 at *
                generalize w5.heap.size = b13 at *
                have lt13 := K13.lt
                obtain ⟨k130, k131, _, _⟩ := K13.two
                refine wp_region_grow (A := ?A4) [isV (.bool true), isV (.bool true), isV (undef), isV (undef), isV (undef), isV (undef), isV (undef), isV (undef), isV (undef), isV (undef), isV (undef), isV (.bool true), isV (.bool true), isV (.bool true), isV (.bool true), isV (.bool true)] (W6) (by kernel_rfl) (by kernel_rfl) (fun f => ?hA4) (Below.refl _ _) ?hst4 ?hops4 ?hend4
                case hA4 =>
                  simp only [fillFrom, Nat.zero_add, Nat.reduceAdd]
                  go_frame
                  with_reducible rfl
                case hst4 => repeat (first | exact trivial | refine ⟨stab_is _ _, ?_⟩ | refine ⟨stab_own _ _ _ _, ?_⟩ | refine ⟨stab_any _, ?_⟩ | refine ⟨stab_rd _ _ _, ?_⟩)
                case hops4 =>
                  refine GOps.cons_ (fun f w' K hW hd hK => ?_) ?_
                  · try simp only [depsOf, depsL, Region.binds, depsHold, nthS, List.getD_cons_zero, List.getD_cons_succ, isV, ownV, anyV, if_true, and_true, true_and] at hd
                    go_simp
                    refine hK _ _ (Below.refl _ _) ?_
                    exact rfl
                  refine GOps.cons_ (fun f w' K hW hd hK => ?_) ?_
                  · try simp only [depsOf, depsL, Region.binds, depsHold, nthS, List.getD_cons_zero, List.getD_cons_succ, isV, ownV, anyV, if_true, and_true, true_and] at hd
                    go_simp
                    refine hK _ _ (Below.refl _ _) ?_
                    exact rfl
                  refine GOps.cons_ (fun f w' K hW hd hK => ?_) ?_
                  · try simp only [depsOf, depsL, Region.binds, depsHold, nthS, List.getD_cons_zero, List.getD_cons_succ, isV, ownV, anyV, if_true, and_true, true_and] at hd
                    go_simp
                    refine hK _ _ (Below.refl _ _) ?_
                    exact rfl
                  refine GOps.cons_ (fun f w' K hW hd hK => ?_) ?_
                  · try simp only [depsOf, depsL, Region.binds, depsHold, nthS, List.getD_cons_zero, List.getD_cons_succ, isV, ownV, anyV, if_true, and_true, true_and] at hd
                    go_simp
                    refine hK _ _ (Below.refl _ _) ?_
                    exact rfl
                  refine GOps.cons_ (fun f w' K hW hd hK => ?_) ?_
                  · try simp only [depsOf, depsL, Region.binds, depsHold, nthS, List.getD_cons_zero, List.getD_cons_succ, isV, ownV, anyV, if_true, and_true, true_and] at hd
                    go_simp
                    refine hK _ _ (Below.refl _ _) ?_
                    exact rfl
                  refine GOps.cons_ (fun f w' K hW hd hK => ?_) ?_
                  · try simp only [depsOf, depsL, Region.binds, depsHold, nthS, List.getD_cons_zero, List.getD_cons_succ, isV, ownV, anyV, if_true, and_true, true_and] at hd
                    go_simp
                    refine hK _ _ (Below.refl _ _) ?_
                    exact rfl
                  refine GOps.cons_ (fun f w' K hW hd hK => ?_) ?_
                  · try simp only [depsOf, depsL, Region.binds, depsHold, nthS, List.getD_cons_zero, List.getD_cons_succ, isV, ownV, anyV, if_true, and_true, true_and] at hd
                    go_simp
                    refine hK _ _ (Below.refl _ _) ?_
                    exact rfl
                  refine GOps.cons_ (fun f w' K hW hd hK => ?_) ?_
                  · try simp only [depsOf, depsL, Region.binds, depsHold, nthS, List.getD_cons_zero, List.getD_cons_succ, isV, ownV, anyV, if_true, and_true, true_and] at hd
                    go_simp
                    refine hK _ _ (Below.refl _ _) ?_
                    exact rfl
                  refine GOps.cons_ (fun f w' K hW hd hK => ?_) ?_
                  · try simp only [depsOf, depsL, Region.binds, depsHold, nthS, List.getD_cons_zero, List.getD_cons_succ, isV, ownV, anyV, if_true, and_true, true_and] at hd
                    go_simp
                    refine hK _ _ (Below.refl _ _) ?_
                    exact rfl
                  refine GOps.cons_ (fun f w' K hW hd hK => ?_) ?_
                  · try simp only [depsOf, depsL, Region.binds, depsHold, nthS, List.getD_cons_zero, List.getD_cons_succ, isV, ownV, anyV, if_true, and_true, true_and] at hd
                    go_simp
                    refine hK _ _ (Below.refl _ _) ?_
                    exact rfl
                  refine GOps.cons_ (fun f w' K hW hd hK => ?_) ?_
                  · try simp only [depsOf, depsL, Region.binds, depsHold, nthS, List.getD_cons_zero, List.getD_cons_succ, isV, ownV, anyV, if_true, and_true, true_and] at hd
                    go_simp
                    refine hK _ _ (Below.refl _ _) ?_
                    exact rfl
                  refine GOps.cons_ (fun f w' K hW hd hK => ?_) ?_
                  · try simp only [depsOf, depsL, Region.binds, depsHold, nthS, List.getD_cons_zero, List.getD_cons_succ, isV, ownV, anyV, if_true, and_true, true_and] at hd
                    go_simp
                    refine hK _ _ (Below.refl _ _) ?_
                    exact rfl
                  refine GOps.cons_ (fun f w' K hW hd hK => ?_) ?_
                  · try simp only [depsOf, depsL, Region.binds, depsHold, nthS, List.getD_cons_zero, List.getD_cons_succ, isV, ownV, anyV, if_true, and_true, true_and] at hd
                    go_simp
                    refine hK _ _ (Below.refl _ _) ?_
                    exact rfl
                  refine GOps.cons_ (fun f w' K hW hd hK => ?_) ?_
                  · try simp only [depsOf, depsL, Region.binds, depsHold, nthS, List.getD_cons_zero, List.getD_cons_succ, isV, ownV, anyV, if_true, and_true, true_and] at hd
                    go_simp
                    refine (awake_any _).mono ?_
                    rintro e w1 ⟨rfl, hb⟩
                    exact ⟨_, rfl, hK _ _ hb rfl⟩
                  refine GOps.cons_ (fun f w' K hW hd hK => ?_) ?_
                  · try simp only [depsOf, depsL, Region.binds, depsHold, nthS, List.getD_cons_zero, List.getD_cons_succ, isV, ownV, anyV, if_true, and_true, true_and] at hd
                    go_simp
                    refine hK _ _ (Below.refl _ _) ?_
                    exact rfl
                  refine GOps.cons_ (fun f w' K hW hd hK => ?_) ?_
                  · try simp only [depsOf, depsL, Region.binds, depsHold, nthS, List.getD_cons_zero, List.getD_cons_succ, isV, ownV, anyV, if_true, and_true, true_and] at hd
                    go_simp
                    refine hK _ _ (Below.refl _ _) ?_
                    exact rfl
                  exact GOps.nil_
                case hend4 =>
                  intro f w' hW hd
                  simp only [List.length_cons, List.length_nil, Nat.reduceAdd, List.range, List.range.loop, depsHold, nthS, List.getD_cons_zero, List.getD_cons_succ, isV, ownV, anyV, true_and, and_true] at hd
                  have hl : f 15 = .bool true := by simp only [hd]
                  go_wp2
                  go_ret
                  exact ⟨congrArg Ending.returned hl, hB6.trans (hW.mono hB6.size)⟩
              · go_wp2_with fail
                have K13 := Blk.new w5 28 [.int .i64 25, .int .i64 Y2]
                have hB6 := hB5.alloc hB5.size (.cells #[.int .i64 25, .int .i64 Y2] 28)
                generalize w5.alloc (.cells #[.int .i64 25, .int .i64 Y2] 28) = W6 at *
                generalize w5.heap.size = b13 at *
                have lt13 := K13.lt
                obtain ⟨k130, k131, _, _⟩ := K13.two
                refine wp_region_grow (A := ?A5) [isV (.bool true), isV (.bool true), isV (undef), isV (undef), isV (undef), isV (undef), isV (undef), isV (undef), isV (undef), isV (undef), isV (undef), isV (.bool true), isV (.bool true), isV (.bool true), isV (.bool true), isV (.bool true)] (W6) (by kernel_rfl) (by kernel_rfl) (fun f => ?hA5) (Below.refl _ _) ?hst5 ?hops5 ?hend5
                case hA5 =>
                  simp only [fillFrom, Nat.zero_add, Nat.reduceAdd]
                  go_frame
                  with_reducible rfl
                case hst5 => repeat (first | exact trivial | refine ⟨stab_is _ _, ?_⟩ | refine ⟨stab_own _ _ _ _, ?_⟩ | refine ⟨stab_any _, ?_⟩ | refine ⟨stab_rd _ _ _, ?_⟩)
                case hops5 =>
                  refine GOps.cons_ (fun f w' K hW hd hK => ?_) ?_
                  · try simp only [depsOf, depsL, Region.binds, depsHold, nthS, List.getD_cons_zero, List.getD_cons_succ, isV, ownV, anyV, if_true, and_true, true_and] at hd
                    go_simp
                    refine hK _ _ (Below.refl _ _) ?_
                    exact rfl
                  refine GOps.cons_ (fun f w' K hW hd hK => ?_) ?_
                  · try simp only [depsOf, depsL, Region.binds, depsHold, nthS, List.getD_cons_zero, List.getD_cons_succ, isV, ownV, anyV, if_true, and_true, true_and] at hd
                    go_simp
                    refine hK _ _ (Below.refl _ _) ?_
                    exact rfl
                  refine GOps.cons_ (fun f w' K hW hd hK => ?_) ?_
                  · try simp only [depsOf, depsL, Region.binds, depsHold, nthS, List.getD_cons_zero, List.getD_cons_succ, isV, ownV, anyV, if_true, and_true, true_and] at hd
                    go_simp
                    refine hK _ _ (Below.refl _ _) ?_
                    exact rfl
                  refine GOps.cons_ (fun f w' K hW hd hK => ?_) ?_
                  · try simp only [depsOf, depsL, Region.binds, depsHold, nthS, List.getD_cons_zero, List.getD_cons_succ, isV, ownV, anyV, if_true, and_true, true_and] at hd
                    go_simp
                    refine hK _ _ (Below.refl _ _) ?_
                    exact rfl
                  refine GOps.cons_ (fun f w' K hW hd hK => ?_) ?_
                  · try simp only [depsOf, depsL, Region.binds, depsHold, nthS, List.getD_cons_zero, List.getD_cons_succ, isV, ownV, anyV, if_true, and_true, true_and] at hd
                    go_simp
                    refine hK _ _ (Below.refl _ _) ?_
                    exact rfl
                  refine GOps.cons_ (fun f w' K hW hd hK => ?_) ?_
                  · try simp only [depsOf, depsL, Region.binds, depsHold, nthS, List.getD_cons_zero, List.getD_cons_succ, isV, ownV, anyV, if_true, and_true, true_and] at hd
                    go_simp
                    refine hK _ _ (Below.refl _ _) ?_
                    exact rfl
                  refine GOps.cons_ (fun f w' K hW hd hK => ?_) ?_
                  · try simp only [depsOf, depsL, Region.binds, depsHold, nthS, List.getD_cons_zero, List.getD_cons_succ, isV, ownV, anyV, if_true, and_true, true_and] at hd
                    go_simp
                    refine hK _ _ (Below.refl _ _) ?_
                    exact rfl
                  refine GOps.cons_ (fun f w' K hW hd hK => ?_) ?_
                  · try simp only [depsOf, depsL, Region.binds, depsHold, nthS, List.getD_cons_zero, List.getD_cons_succ, isV, ownV, anyV, if_true, and_true, true_and] at hd
                    go_simp
                    refine hK _ _ (Below.refl _ _) ?_
                    exact rfl
                  refine GOps.cons_ (fun f w' K hW hd hK => ?_) ?_
                  · try simp only [depsOf, depsL, Region.binds, depsHold, nthS, List.getD_cons_zero, List.getD_cons_succ, isV, ownV, anyV, if_true, and_true, true_and] at hd
                    go_simp
                    refine hK _ _ (Below.refl _ _) ?_
                    exact rfl
                  refine GOps.cons_ (fun f w' K hW hd hK => ?_) ?_
                  · try simp only [depsOf, depsL, Region.binds, depsHold, nthS, List.getD_cons_zero, List.getD_cons_succ, isV, ownV, anyV, if_true, and_true, true_and] at hd
                    go_simp
                    refine hK _ _ (Below.refl _ _) ?_
                    exact rfl
                  refine GOps.cons_ (fun f w' K hW hd hK => ?_) ?_
                  · try simp only [depsOf, depsL, Region.binds, depsHold, nthS, List.getD_cons_zero, List.getD_cons_succ, isV, ownV, anyV, if_true, and_true, true_and] at hd
                    go_simp
                    refine hK _ _ (Below.refl _ _) ?_
                    exact rfl
                  refine GOps.cons_ (fun f w' K hW hd hK => ?_) ?_
                  · try simp only [depsOf, depsL, Region.binds, depsHold, nthS, List.getD_cons_zero, List.getD_cons_succ, isV, ownV, anyV, if_true, and_true, true_and] at hd
                    go_simp
                    refine hK _ _ (Below.refl _ _) ?_
                    exact rfl
                  refine GOps.cons_ (fun f w' K hW hd hK => ?_) ?_
                  · try simp only [depsOf, depsL, Region.binds, depsHold, nthS, List.getD_cons_zero, List.getD_cons_succ, isV, ownV, anyV, if_true, and_true, true_and] at hd
                    go_simp
                    refine hK _ _ (Below.refl _ _) ?_
                    exact rfl
                  refine GOps.cons_ (fun f w' K hW hd hK => ?_) ?_
                  · try simp only [depsOf, depsL, Region.binds, depsHold, nthS, List.getD_cons_zero, List.getD_cons_succ, isV, ownV, anyV, if_true, and_true, true_and] at hd
                    go_simp
                    refine (awake_any _).mono ?_
                    rintro e w1 ⟨rfl, hb⟩
                    exact ⟨_, rfl, hK _ _ hb rfl⟩
                  refine GOps.cons_ (fun f w' K hW hd hK => ?_) ?_
                  · try simp only [depsOf, depsL, Region.binds, depsHold, nthS, List.getD_cons_zero, List.getD_cons_succ, isV, ownV, anyV, if_true, and_true, true_and] at hd
                    go_simp
                    refine hK _ _ (Below.refl _ _) ?_
                    exact rfl
                  refine GOps.cons_ (fun f w' K hW hd hK => ?_) ?_
                  · try simp only [depsOf, depsL, Region.binds, depsHold, nthS, List.getD_cons_zero, List.getD_cons_succ, isV, ownV, anyV, if_true, and_true, true_and] at hd
                    go_simp
                    refine hK _ _ (Below.refl _ _) ?_
                    exact rfl
                  exact GOps.nil_
                case hend5 =>
                  intro f w' hW hd
                  simp only [List.length_cons, List.length_nil, Nat.reduceAdd, List.range, List.range.loop, depsHold, nthS, List.getD_cons_zero, List.getD_cons_succ, isV, ownV, anyV, true_and, and_true] at hd
                  have hl : f 15 = .bool true := by simp only [hd]
                  go_wp2
                  go_ret
                  exact ⟨congrArg Ending.returned hl, hB6.trans (hW.mono hB6.size)⟩
            · have hj1 : (Y1 == 24) = false := by simp; omega
              have hj2 : (Y1 == 25) = false := by simp; omega
              go_wp2_with fail
              have HM4 : Hid (opEnc Y1 Y2 = (zs.drop k).take (m - k)) := by
                rcases HM3.out with h | h | h
                · exact absurd (.inl h) hj
                · exact absurd (.inr h) hj
                · exact h
              have hrkm0 := rd_at hrk0 hB5
              have K13 := Blk.new w5 28 [.int .i64 Y1, .int .i64 Y2]
              have hB6 := hB5.alloc hB5.size (.cells #[.int .i64 Y1, .int .i64 Y2] 28)
              generalize w5.alloc (.cells #[.int .i64 Y1, .int .i64 Y2] 28) = W6 at *
              generalize w5.heap.size = b13 at *
              have lt13 := K13.lt
              obtain ⟨k130, k131, _, _⟩ := K13.two
              have hrkm : Rd W6 W6.heap.size Ak (cb .u8 ((zs.drop k).take (m - k))) := by
                have := (rd_at hrk0 hB6).take (m - k)
                rwa [cb_take] at this
              have HML : Hid (m - k = ((zs.drop k).take (m - k)).length) := by unfold Hid; rw [List.length_take, List.length_drop, ← HN.out]; omega
              refine wp_region_grow (A := ?A6) [isV (.bool false), isV (.bool false), isV (.agg #[.int .i64 Y1, .int .i64 Y2]), ownV W6.heap.size 5 (cb .u8 (opEnc Y1 Y2)), isV (.string (strOfNums (opEnc Y1 Y2))), isV (.slice A n c), isV (.int .i64 k), isV (.int .i64 m), isV (.slice Ak (m - k) (c - k)), isV (.string (strOfNums (opEnc Y1 Y2))), isV (.bool true), isV (.bool true), isV (.bool true), isV (.bool true), isV (.bool true), isV (.bool true)] (W6) (by kernel_rfl) (by kernel_rfl) (fun f => ?hA6) (Below.refl _ _) ?hst6 ?hops6 ?hend6
              case hA6 =>
                simp only [fillFrom, Nat.zero_add, Nat.reduceAdd]
                go_frame
                with_reducible rfl
              case hst6 => repeat (first | exact trivial | refine ⟨stab_is _ _, ?_⟩ | refine ⟨stab_own _ _ _ _, ?_⟩ | refine ⟨stab_any _, ?_⟩ | refine ⟨stab_rd _ _ _, ?_⟩)
              case hops6 =>
                refine GOps.cons_ (fun f w' K hW hd hK => ?_) ?_
                · try simp only [depsOf, depsL, Region.binds, depsHold, nthS, List.getD_cons_zero, List.getD_cons_succ, isV, ownV, anyV, if_true, and_true, true_and] at hd
                  obtain ⟨cc, _⟩ := bcell hW
                  go_simp
                  refine hK _ _ (Below.refl _ _) ?_
                  exact rfl
                refine GOps.cons_ (fun f w' K hW hd hK => ?_) ?_
                · try simp only [depsOf, depsL, Region.binds, depsHold, nthS, List.getD_cons_zero, List.getD_cons_succ, isV, ownV, anyV, if_true, and_true, true_and] at hd
                  obtain ⟨cc, _⟩ := bcell hW
                  go_simp
                  refine hK _ _ (Below.refl _ _) ?_
                  exact rfl
                refine GOps.cons_ (fun f w' K hW hd hK => ?_) ?_
                · try simp only [depsOf, depsL, Region.binds, depsHold, nthS, List.getD_cons_zero, List.getD_cons_succ, isV, ownV, anyV, if_true, and_true, true_and] at hd
                  obtain ⟨cc, _⟩ := bcell hW
                  go_simp
                  refine hK _ _ (Below.refl _ _) ?_
                  exact rfl
                refine GOps.cons_ (fun f w' K hW hd hK => ?_) ?_
                · try simp only [depsOf, depsL, Region.binds, depsHold, nthS, List.getD_cons_zero, List.getD_cons_succ, isV, ownV, anyV, if_true, and_true, true_and] at hd
                  obtain ⟨cc, _⟩ := bcell hW
                  go_simp
                  refine (enc_any Y1 Y2 _).mono ?_
                  rintro e w1 ⟨A3, n3, c3, rfl, ho, hb⟩
                  exact ⟨_, rfl, hK _ _ hb ⟨A3, n3, c3, rfl, ho.less hW.size⟩⟩
                refine GOps.cons_ (fun f w' K hW hd hK => ?_) ?_
                · try simp only [depsOf, depsL, Region.binds, depsHold, nthS, List.getD_cons_zero, List.getD_cons_succ, isV, ownV, anyV, if_true, and_true, true_and] at hd
                  obtain ⟨cc, _⟩ := bcell hW
                  obtain ⟨⟨A1, n1, c1, e1, ho⟩, _⟩ := hd
                  have cv := conv_str (P := Try.prog) Try.underlying29 Try.underlying5 Try.underlying9 ho.rd.2.2 (c := c1) (n := n1) (by rw [ho.rd.1]; simp)
                  go_simp
                  refine hK _ _ (Below.refl _ _) ?_
                  exact rfl
                refine GOps.cons_ (fun f w' K hW hd hK => ?_) ?_
                · try simp only [depsOf, depsL, Region.binds, depsHold, nthS, List.getD_cons_zero, List.getD_cons_succ, isV, ownV, anyV, if_true, and_true, true_and] at hd
                  obtain ⟨cc, _⟩ := bcell hW
                  go_simp
                  refine hK _ _ (Below.refl _ _) ?_
                  exact rfl
                refine GOps.cons_ (fun f w' K hW hd hK => ?_) ?_
                · try simp only [depsOf, depsL, Region.binds, depsHold, nthS, List.getD_cons_zero, List.getD_cons_succ, isV, ownV, anyV, if_true, and_true, true_and] at hd
                  obtain ⟨cc, _⟩ := bcell hW
                  go_simp
                  refine hK _ _ (Below.refl _ _) ?_
                  exact rfl
                refine GOps.cons_ (fun f w' K hW hd hK => ?_) ?_
                · try simp only [depsOf, depsL, Region.binds, depsHold, nthS, List.getD_cons_zero, List.getD_cons_succ, isV, ownV, anyV, if_true, and_true, true_and] at hd
                  obtain ⟨cc, _⟩ := bcell hW
                  go_simp
                  refine hK _ _ (Below.refl _ _) ?_
                  exact rfl
                refine GOps.cons_ (fun f w' K hW hd hK => ?_) ?_
                · try simp only [depsOf, depsL, Region.binds, depsHold, nthS, List.getD_cons_zero, List.getD_cons_succ, isV, ownV, anyV, if_true, and_true, true_and] at hd
                  obtain ⟨cc, _⟩ := bcell hW
                  go_simp
                  refine hK _ _ (Below.refl _ _) ?_
                  show Value.slice _ _ _ = Value.slice _ _ _
                  rw [← HAk.out]
                refine GOps.cons_ (fun f w' K hW hd hK => ?_) ?_
                · try simp only [depsOf, depsL, Region.binds, depsHold, nthS, List.getD_cons_zero, List.getD_cons_succ, isV, ownV, anyV, if_true, and_true, true_and] at hd
                  obtain ⟨cc, _⟩ := bcell hW
                  have cv := conv_str (P := Try.prog) Try.underlying29 Try.underlying5 Try.underlying9 (hrkm.below hW) (c := c - k) (n := m - k) HML.out
                  go_simp
                  refine hK _ _ (Below.refl _ _) ?_
                  exact (by rw [HM4.out]; rfl)
                refine GOps.cons_ (fun f w' K hW hd hK => ?_) ?_
                · try simp only [depsOf, depsL, Region.binds, depsHold, nthS, List.getD_cons_zero, List.getD_cons_succ, isV, ownV, anyV, if_true, and_true, true_and] at hd
                  obtain ⟨cc, _⟩ := bcell hW
                  go_simp
                  refine hK _ _ (Below.refl _ _) ?_
                  exact rfl
                refine GOps.cons_ (fun f w' K hW hd hK => ?_) ?_
                · try simp only [depsOf, depsL, Region.binds, depsHold, nthS, List.getD_cons_zero, List.getD_cons_succ, isV, ownV, anyV, if_true, and_true, true_and] at hd
                  obtain ⟨cc, _⟩ := bcell hW
                  go_simp
                  refine hK _ _ (Below.refl _ _) ?_
                  exact rfl
                refine GOps.cons_ (fun f w' K hW hd hK => ?_) ?_
                · try simp only [depsOf, depsL, Region.binds, depsHold, nthS, List.getD_cons_zero, List.getD_cons_succ, isV, ownV, anyV, if_true, and_true, true_and] at hd
                  obtain ⟨cc, _⟩ := bcell hW
                  go_simp
                  refine hK _ _ (Below.refl _ _) ?_
                  exact rfl
                refine GOps.cons_ (fun f w' K hW hd hK => ?_) ?_
                · try simp only [depsOf, depsL, Region.binds, depsHold, nthS, List.getD_cons_zero, List.getD_cons_succ, isV, ownV, anyV, if_true, and_true, true_and] at hd
                  obtain ⟨cc, _⟩ := bcell hW
                  go_simp
                  refine (awake_any _).mono ?_
                  rintro e w1 ⟨rfl, hb⟩
                  exact ⟨_, rfl, hK _ _ hb rfl⟩
                refine GOps.cons_ (fun f w' K hW hd hK => ?_) ?_
                · try simp only [depsOf, depsL, Region.binds, depsHold, nthS, List.getD_cons_zero, List.getD_cons_succ, isV, ownV, anyV, if_true, and_true, true_and] at hd
                  obtain ⟨cc, _⟩ := bcell hW
                  go_simp
                  refine hK _ _ (Below.refl _ _) ?_
                  exact rfl
                refine GOps.cons_ (fun f w' K hW hd hK => ?_) ?_
                · try simp only [depsOf, depsL, Region.binds, depsHold, nthS, List.getD_cons_zero, List.getD_cons_succ, isV, ownV, anyV, if_true, and_true, true_and] at hd
                  obtain ⟨cc, _⟩ := bcell hW
                  go_simp
                  refine hK _ _ (Below.refl _ _) ?_
                  exact rfl
                exact GOps.nil_
              case hend6 =>
                intro f w' hW hd
                simp only [List.length_cons, List.length_nil, Nat.reduceAdd, List.range, List.range.loop, depsHold, nthS, List.getD_cons_zero, List.getD_cons_succ, isV, ownV, anyV, true_and, and_true] at hd
                have hl : f 15 = .bool true := by simp only [hd]
                go_wp2
                go_ret
                exact ⟨congrArg Ending.returned hl, hB6.trans (hW.mono hB6.size)⟩
          · obtain ⟨rfl, rfl, rfl⟩ := dec_err zs k Y1 Y2 Y3 Y4 hY h4
            clear hY
            have heq : ∀ w : World, (binOp .eql 28 (.agg #[.int .i64 0, .int .i64 0]) (.agg #[.int .i64 0, .int .i64 0])).run Try.prog w = .ok (.bool true) w := fun w => by rw [ins_eql]; simp
            have hgd := fun (x y : Operand) (w : World) => ins_guard .eql x y #[.int .i64 0, .int .i64 0] #[.int .i64 0, .int .i64 0] w
            go_wp2_with (go_at_call 8; refine (awake_any _).mono ?_; rintro e w6 ⟨rfl, hb6⟩)
            go_ret
            exact ⟨rfl, below_call (hB5.alloc hB5.size _) hb6⟩
        · have hi : IA = wrap16 arg := by rw [← hIA]; unfold insA; rw [hh]; rfl
          clear hIA
          subst hi
          have hne : ∀ w : World, (binOp .neq 28 (.agg #[.int .i64 op, .int .i64 (wrap16 arg)]) (.agg #[.int .i64 op, .int .i64 (wrap16 arg)])).run Try.prog w = .ok (.bool false) w := fun w => by rw [ins_neq]; simp
          go_wp2_with fail
          refine (wrap_any arg _).mono ?_
          rintro e w'' ⟨rfl, rfl⟩
          go_wp2_with fail
          clear hgd hne
          have hB4' := hB4.setCell (p := ⟨w'.heap.size, 1, none⟩) hw12 (.int .i64 (wrap16 arg))
          obtain ⟨Y1, Y2, Y3, Y4, hY⟩ : ∃ Y1 Y2 Y3 Y4, opDec zs k = (Y1, Y2, Y3, Y4) := ⟨_, _, _, _, rfl⟩
          have HY := Lib.hid hY
          refine (opDec_any A n c zs k _ (rd_at hr hB4') HN.out hb hc hc' (by omega)).mono ?_
          rw [HY.out]
          rintro e w5 ⟨rfl, hb5⟩
          have hB5 := below_call hB4' hb5
          by_cases h4 : Y4 = 0
          · subst h4
            obtain ⟨m, rfl, hm1, hm2, hm3⟩ := dec_back zs hb k Y1 Y2 Y3 hY
            clear hY
            have HM3 := Lib.hid hm3
            clear hm3
            rw [← HN.out] at hm2
            have hmc : m ≤ c := by omega
            have hkm : k ≤ m := by omega
            by_cases hj : Y1 = 24 ∨ Y1 = 25
            · have HJ : ∀ w : World, True := fun _ => trivial
              have hjb : (Y1 == 24 || Y1 == 25) = true := by simpa using hj
              rcases hj with rfl | rfl
              · go_wp2_with fail
                have K13 := Blk.new w5 28 [.int .i64 24, .int .i64 Y2]
                have hB6 := hB5.alloc hB5.size (.cells #[.int .i64 24, .int .i64 Y2] 28)
                generalize w5.alloc (.cells #[.int .i64 24, .int .i64 Y2] 28) = W6 at *
                generalize w5.heap.size = b13 at *
                have lt13 := K13.lt
                obtain ⟨k130, k131, _, _⟩ := K13.two
                refine wp_region_grow (A := ?A7) [isV (.bool true), isV (.bool true), isV (undef), isV (undef), isV (undef), isV (undef), isV (undef), isV (undef), isV (undef), isV (undef), isV (undef), isV (.bool true), isV (.bool true), isV (.bool true), isV (.bool true), isV (.bool true)] (W6) (by kernel_rfl) (by kernel_rfl) (fun f => ?hA7) (Below.refl _ _) ?hst7 ?hops7 ?hend7
                case hA7 =>
                  simp only [fillFrom, Nat.zero_add, Nat.reduceAdd]
                  go_frame
                  with_reducible rfl
                case hst7 => repeat (first | exact trivial | refine ⟨stab_is _ _, ?_⟩ | refine ⟨stab_own _ _ _ _, ?_⟩ | refine ⟨stab_any _, ?_⟩ | refine ⟨stab_rd _ _ _, ?_⟩)
                case hops7 =>
                  refine GOps.cons_ (fun f w' K hW hd hK => ?_) ?_
                  · try simp only [depsOf, depsL, Region.binds, depsHold, nthS, List.getD_cons_zero, List.getD_cons_succ, isV, ownV, anyV, if_true, and_true, true_and] at hd
                    go_simp
                    refine hK _ _ (Below.refl _ _) ?_
                    exact rfl
                  refine GOps.cons_ (fun f w' K hW hd hK => ?_) ?_
                  · try simp only [depsOf, depsL, Region.binds, depsHold, nthS, List.getD_cons_zero, List.getD_cons_succ, isV, ownV, anyV, if_true, and_true, true_and] at hd
                    go_simp
                    refine hK _ _ (Below.refl _ _) ?_
                    exact rfl
                  refine GOps.cons_ (fun f w' K hW hd hK => ?_) ?_
                  · try simp only [depsOf, depsL, Region.binds, depsHold, nthS, List.getD_cons_zero, List.getD_cons_succ, isV, ownV, anyV, if_true, and_true, true_and] at hd
                    go_simp
                    refine hK _ _ (Below.refl _ _) ?_
                    exact rfl
                  refine GOps.cons_ (fun f w' K hW hd hK => ?_) ?_
                  · try simp only [depsOf, depsL, Region.binds, depsHold, nthS, List.getD_cons_zero, List.getD_cons_succ, isV, ownV, anyV, if_true, and_true, true_and] at hd
                    go_simp
                    refine hK _ _ (Below.refl _ _) ?_
                    exact rfl
                  refine GOps.cons_ (fun f w' K hW hd hK => ?_) ?_
                  · try simp only [depsOf, depsL, Region.binds, depsHold, nthS, List.getD_cons_zero, List.getD_cons_succ, isV, ownV, anyV, if_true, and_true, true_and] at hd
                    go_simp
                    refine hK _ _ (Below.refl _ _) ?_
                    exact rfl
                  refine GOps.cons_ (fun f w' K hW hd hK => ?_) ?_
                  · try simp only [depsOf, depsL, Region.binds, depsHold, nthS, List.getD_cons_zero, List.getD_cons_succ, isV, ownV, anyV, if_true, and_true, true_and] at hd
                    go_simp
                    refine hK _ _ (Below.refl _ _) ?_
                    exact rfl
                  refine GOps.cons_ (fun f w' K hW hd hK => ?_) ?_
                  · try simp only [depsOf, depsL, Region.binds, depsHold, nthS, List.getD_cons_zero, List.getD_cons_succ, isV, ownV, anyV, if_true, and_true, true_and] at hd
                    go_simp
                    refine hK _ _ (Below.refl _ _) ?_
                    exact rfl
                  refine GOps.cons_ (fun f w' K hW hd hK => ?_) ?_
                  · try simp only [depsOf, depsL, Region.binds, depsHold, nthS, List.getD_cons_zero, List.getD_cons_succ, isV, ownV, anyV, if_true, and_true, true_and] at hd
                    go_simp
                    refine hK _ _ (Below.refl _ _) ?_
                    exact rfl
                  refine GOps.cons_ (fun f w' K hW hd hK => ?_) ?_
                  · try simp only [depsOf, depsL, Region.binds, depsHold, nthS, List.getD_cons_zero, List.getD_cons_succ, isV, ownV, anyV, if_true, and_true, true_and] at hd
                    go_simp
                    refine hK _ _ (Below.refl _ _) ?_
                    exact rfl
                  refine GOps.cons_ (fun f w' K hW hd hK => ?_) ?_
                  · try simp only [depsOf, depsL, Region.binds, depsHold, nthS, List.getD_cons_zero, List.getD_cons_succ, isV, ownV, anyV, if_true, and_true, true_and] at hd
                    go_simp
                    refine hK _ _ (Below.refl _ _) ?_
                    exact rfl
                  refine GOps.cons_ (fun f w' K hW hd hK => ?_) ?_
                  · try simp only [depsOf, depsL, Region.binds, depsHold, nthS, List.getD_cons_zero, List.getD_cons_succ, isV, ownV, anyV, if_true, and_true, true_and] at hd
                    go_simp
                    refine hK _ _ (Below.refl _ _) ?_
                    exact rfl
                  refine GOps.cons_ (fun f w' K hW hd hK => ?_) ?_
                  · try simp only [depsOf, depsL, Region.binds, depsHold, nthS, List.getD_cons_zero, List.getD_cons_succ, isV, ownV, anyV, if_true, and_true, true_and] at hd
                    go_simp
                    refine hK _ _ (Below.refl _ _) ?_
                    exact rfl
                  refine GOps.cons_ (fun f w' K hW hd hK => ?_) ?_
                  · try simp only [depsOf, depsL, Region.binds, depsHold, nthS, List.getD_cons_zero, List.getD_cons_succ, isV, ownV, anyV, if_true, and_true, true_and] at hd
                    go_simp
                    refine hK _ _ (Below.refl _ _) ?_
                    exact rfl
                  refine GOps.cons_ (fun f w' K hW hd hK => ?_) ?_
                  · try simp only [depsOf, depsL, Region.binds, depsHold, nthS, List.getD_cons_zero, List.getD_cons_succ, isV, ownV, anyV, if_true, and_true, true_and] at hd
                    go_simp
                    refine (awake_any _).mono ?_
                    rintro e w1 ⟨rfl, hb⟩
                    exact ⟨_, rfl, hK _ _ hb rfl⟩
                  refine GOps.cons_ (fun f w' K hW hd hK => ?_) ?_
                  · try simp only [depsOf, depsL, Region.binds, depsHold, nthS, List.getD_cons_zero, List.getD_cons_succ, isV, ownV, anyV, if_true, and_true, true_and] at hd
                    go_simp
                    refine hK _ _ (Below.refl _ _) ?_
                    exact rfl
                  refine GOps.cons_ (fun f w' K hW hd hK => ?_) ?_
                  · try simp only [depsOf, depsL, Region.binds, depsHold, nthS, List.getD_cons_zero, List.getD_cons_succ, isV, ownV, anyV, if_true, and_true, true_and] at hd
                    go_simp
                    refine hK _ _ (Below.refl _ _) ?_
                    exact rfl
                  exact GOps.nil_
                case hend7 =>
                  intro f w' hW hd
                  simp only [List.length_cons, List.length_nil, Nat.reduceAdd, List.range, List.range.loop, depsHold, nthS, List.getD_cons_zero, List.getD_cons_succ, isV, ownV, anyV, true_and, and_true] at hd
                  have hl : f 15 = .bool true := by simp only [hd]
                  go_wp2
                  go_ret
                  exact ⟨congrArg Ending.returned hl, hB6.trans (hW.mono hB6.size)⟩
              · go_wp2_with fail
                have K13 := Blk.new w5 28 [.int .i64 25, .int .i64 Y2]
                have hB6 := hB5.alloc hB5.size (.cells #[.int .i64 25, .int .i64 Y2] 28)
                generalize w5.alloc (.cells #[.int .i64 25, .int .i64 Y2] 28) = W6 at *
                generalize w5.heap.size = b13 at *
                have lt13 := K13.lt
                obtain ⟨k130, k131, _, _⟩ := K13.two
                refine wp_region_grow (A := ?A8) [isV (.bool true), isV (.bool true), isV (undef), isV (undef), isV (undef), isV (undef), isV (undef), isV (undef), isV (undef), isV (undef), isV (undef), isV (.bool true), isV (.bool true), isV (.bool true), isV (.bool true), isV (.bool true)] (W6) (by kernel_rfl) (by kernel_rfl) (fun f => ?hA8) (Below.refl _ _) ?hst8 ?hops8 ?hend8
                case hA8 =>
                  simp only [fillFrom, Nat.zero_add, Nat.reduceAdd]
                  go_frame
                  with_reducible rfl
                case hst8 => repeat (first | exact trivial | refine ⟨stab_is _ _, ?_⟩ | refine ⟨stab_own _ _ _ _, ?_⟩ | refine ⟨stab_any _, ?_⟩ | refine ⟨stab_rd _ _ _, ?_⟩)
                case hops8 =>
                  refine GOps.cons_ (fun f w' K hW hd hK => ?_) ?_
                  · try simp only [depsOf, depsL, Region.binds, depsHold, nthS, List.getD_cons_zero, List.getD_cons_succ, isV, ownV, anyV, if_true, and_true, true_and] at hd
                    go_simp
                    refine hK _ _ (Below.refl _ _) ?_
                    exact rfl
                  refine GOps.cons_ (fun f w' K hW hd hK => ?_) ?_
                  · try simp only [depsOf, depsL, Region.binds, depsHold, nthS, List.getD_cons_zero, List.getD_cons_succ, isV, ownV, anyV, if_true, and_true, true_and] at hd
                    go_simp
                    refine hK _ _ (Below.refl _ _) ?_
                    exact rfl
                  refine GOps.cons_ (fun f w' K hW hd hK => ?_) ?_
                  · try simp only [depsOf, depsL, Region.binds, depsHold, nthS, List.getD_cons_zero, List.getD_cons_succ, isV, ownV, anyV, if_true, and_true, true_and] at hd
                    go_simp
                    refine hK _ _ (Below.refl _ _) ?_
                    exact rfl
                  refine GOps.cons_ (fun f w' K hW hd hK => ?_) ?_
                  · try simp only [depsOf, depsL, Region.binds, depsHold, nthS, List.getD_cons_zero, List.getD_cons_succ, isV, ownV, anyV, if_true, and_true, true_and] at hd
                    go_simp
                    refine hK _ _ (Below.refl _ _) ?_
                    exact rfl
                  refine GOps.cons_ (fun f w' K hW hd hK => ?_) ?_
                  · try simp only [depsOf, depsL, Region.binds, depsHold, nthS, List.getD_cons_zero, List.getD_cons_succ, isV, ownV, anyV, if_true, and_true, true_and] at hd
                    go_simp
                    refine hK _ _ (Below.refl _ _) ?_
                    exact rfl
                  refine GOps.cons_ (fun f w' K hW hd hK => ?_) ?_
                  · try simp only [depsOf, depsL, Region.binds, depsHold, nthS, List.getD_cons_zero, List.getD_cons_succ, isV, ownV, anyV, if_true, and_true, true_and] at hd
                    go_simp
                    refine hK _ _ (Below.refl _ _) ?_
                    exact rfl
                  refine GOps.cons_ (fun f w' K hW hd hK => ?_) ?_
                  · try simp only [depsOf, depsL, Region.binds, depsHold, nthS, List.getD_cons_zero, List.getD_cons_succ, isV, ownV, anyV, if_true, and_true, true_and] at hd
                    go_simp
                    refine hK _ _ (Below.refl _ _) ?_
                    exact rfl
                  refine GOps.cons_ (fun f w' K hW hd hK => ?_) ?_
                  · try simp only [depsOf, depsL, Region.binds, depsHold, nthS, List.getD_cons_zero, List.getD_cons_succ, isV, ownV, anyV, if_true, and_true, true_and] at hd
                    go_simp
                    refine hK _ _ (Below.refl _ _) ?_
                    exact rfl
                  refine GOps.cons_ (fun f w' K hW hd hK => ?_) ?_
                  · try simp only [depsOf, depsL, Region.binds, depsHold, nthS, List.getD_cons_zero, List.getD_cons_succ, isV, ownV, anyV, if_true, and_true, true_and] at hd
                    go_simp
                    refine hK _ _ (Below.refl _ _) ?_
                    exact rfl
                  refine GOps.cons_ (fun f w' K hW hd hK => ?_) ?_
                  · try simp only [depsOf, depsL, Region.binds, depsHold, nthS, List.getD_cons_zero, List.getD_cons_succ, isV, ownV, anyV, if_true, and_true, true_and] at hd
                    go_simp
                    refine hK _ _ (Below.refl _ _) ?_
                    exact rfl
                  refine GOps.cons_ (fun f w' K hW hd hK => ?_) ?_
                  · try simp only [depsOf, depsL, Region.binds, depsHold, nthS, List.getD_cons_zero, List.getD_cons_succ, isV, ownV, anyV, if_true, and_true, true_and] at hd
                    go_simp
                    refine hK _ _ (Below.refl _ _) ?_
                    exact rfl
                  refine GOps.cons_ (fun f w' K hW hd hK => ?_) ?_
                  · try simp only [depsOf, depsL, Region.binds, depsHold, nthS, List.getD_cons_zero, List.getD_cons_succ, isV, ownV, anyV, if_true, and_true, true_and] at hd
                    go_simp
                    refine hK _ _ (Below.refl _ _) ?_
                    exact rfl
                  refine GOps.cons_ (fun f w' K hW hd hK => ?_) ?_
                  · try simp only [depsOf, depsL, Region.binds, depsHold, nthS, List.getD_cons_zero, List.getD_cons_succ, isV, ownV, anyV, if_true, and_true, true_and] at hd
                    go_simp
                    refine hK _ _ (Below.refl _ _) ?_
                    exact rfl
                  refine GOps.cons_ (fun f w' K hW hd hK => ?_) ?_
                  · try simp only [depsOf, depsL, Region.binds, depsHold, nthS, List.getD_cons_zero, List.getD_cons_succ, isV, ownV, anyV, if_true, and_true, true_and] at hd
                    go_simp
                    refine (awake_any _).mono ?_
                    rintro e w1 ⟨rfl, hb⟩
                    exact ⟨_, rfl, hK _ _ hb rfl⟩
                  refine GOps.cons_ (fun f w' K hW hd hK => ?_) ?_
                  · try simp only [depsOf, depsL, Region.binds, depsHold, nthS, List.getD_cons_zero, List.getD_cons_succ, isV, ownV, anyV, if_true, and_true, true_and] at hd
                    go_simp
                    refine hK _ _ (Below.refl _ _) ?_
                    exact rfl
                  refine GOps.cons_ (fun f w' K hW hd hK => ?_) ?_
                  · try simp only [depsOf, depsL, Region.binds, depsHold, nthS, List.getD_cons_zero, List.getD_cons_succ, isV, ownV, anyV, if_true, and_true, true_and] at hd
                    go_simp
                    refine hK _ _ (Below.refl _ _) ?_
                    exact rfl
                  exact GOps.nil_
                case hend8 =>
                  intro f w' hW hd
                  simp only [List.length_cons, List.length_nil, Nat.reduceAdd, List.range, List.range.loop, depsHold, nthS, List.getD_cons_zero, List.getD_cons_succ, isV, ownV, anyV, true_and, and_true] at hd
                  have hl : f 15 = .bool true := by simp only [hd]
                  go_wp2
                  go_ret
                  exact ⟨congrArg Ending.returned hl, hB6.trans (hW.mono hB6.size)⟩
            · have hj1 : (Y1 == 24) = false := by simp; omega
              have hj2 : (Y1 == 25) = false := by simp; omega
              go_wp2_with fail
              have HM4 : Hid (opEnc Y1 Y2 = (zs.drop k).take (m - k)) := by
                rcases HM3.out with h | h | h
                · exact absurd (.inl h) hj
                · exact absurd (.inr h) hj
                · exact h
              have hrkm0 := rd_at hrk0 hB5
              have K13 := Blk.new w5 28 [.int .i64 Y1, .int .i64 Y2]
              have hB6 := hB5.alloc hB5.size (.cells #[.int .i64 Y1, .int .i64 Y2] 28)
              generalize w5.alloc (.cells #[.int .i64 Y1, .int .i64 Y2] 28) = W6 at *
              generalize w5.heap.size = b13 at *
              have lt13 := K13.lt
              obtain ⟨k130, k131, _, _⟩ := K13.two
              have hrkm : Rd W6 W6.heap.size Ak (cb .u8 ((zs.drop k).take (m - k))) := by
                have := (rd_at hrk0 hB6).take (m - k)
                rwa [cb_take] at this
              have HML : Hid (m - k = ((zs.drop k).take (m - k)).length) := by unfold Hid; rw [List.length_take, List.length_drop, ← HN.out]; omega
              refine wp_region_grow (A := ?A9) [isV (.bool false), isV (.bool false), isV (.agg #[.int .i64 Y1, .int .i64 Y2]), ownV W6.heap.size 5 (cb .u8 (opEnc Y1 Y2)), isV (.string (strOfNums (opEnc Y1 Y2))), isV (.slice A n c), isV (.int .i64 k), isV (.int .i64 m), isV (.slice Ak (m - k) (c - k)), isV (.string (strOfNums (opEnc Y1 Y2))), isV (.bool true), isV (.bool true), isV (.bool true), isV (.bool true), isV (.bool true), isV (.bool true)] (W6) (by kernel_rfl) (by kernel_rfl) (fun f => ?hA9) (Below.refl _ _) ?hst9 ?hops9 ?hend9
              case hA9 =>
                simp only [fillFrom, Nat.zero_add, Nat.reduceAdd]
                go_frame
                with_reducible rfl
              case hst9 => repeat (first | exact trivial | refine ⟨stab_is _ _, ?_⟩ | refine ⟨stab_own _ _ _ _, ?_⟩ | refine ⟨stab_any _, ?_⟩ | refine ⟨stab_rd _ _ _, ?_⟩)
              case hops9 =>
                refine GOps.cons_ (fun f w' K hW hd hK => ?_) ?_
                · try simp only [depsOf, depsL, Region.binds, depsHold, nthS, List.getD_cons_zero, List.getD_cons_succ, isV, ownV, anyV, if_true, and_true, true_and] at hd
                  obtain ⟨cc, _⟩ := bcell hW
                  go_simp
                  refine hK _ _ (Below.refl _ _) ?_
                  exact rfl
                refine GOps.cons_ (fun f w' K hW hd hK => ?_) ?_
                · try simp only [depsOf, depsL, Region.binds, depsHold, nthS, List.getD_cons_zero, List.getD_cons_succ, isV, ownV, anyV, if_true, and_true, true_and] at hd
                  obtain ⟨cc, _⟩ := bcell hW
                  go_simp
                  refine hK _ _ (Below.refl _ _) ?_
                  exact rfl
                refine GOps.cons_ (fun f w' K hW hd hK => ?_) ?_
                · try simp only [depsOf, depsL, Region.binds, depsHold, nthS, List.getD_cons_zero, List.getD_cons_succ, isV, ownV, anyV, if_true, and_true, true_and] at hd
                  obtain ⟨cc, _⟩ := bcell hW
                  go_simp
                  refine hK _ _ (Below.refl _ _) ?_
                  exact rfl
                refine GOps.cons_ (fun f w' K hW hd hK => ?_) ?_
                · try simp only [depsOf, depsL, Region.binds, depsHold, nthS, List.getD_cons_zero, List.getD_cons_succ, isV, ownV, anyV, if_true, and_true, true_and] at hd
                  obtain ⟨cc, _⟩ := bcell hW
                  go_simp
                  refine (enc_any Y1 Y2 _).mono ?_
                  rintro e w1 ⟨A3, n3, c3, rfl, ho, hb⟩
                  exact ⟨_, rfl, hK _ _ hb ⟨A3, n3, c3, rfl, ho.less hW.size⟩⟩
                refine GOps.cons_ (fun f w' K hW hd hK => ?_) ?_
                · try simp only [depsOf, depsL, Region.binds, depsHold, nthS, List.getD_cons_zero, List.getD_cons_succ, isV, ownV, anyV, if_true, and_true, true_and] at hd
                  obtain ⟨cc, _⟩ := bcell hW
                  obtain ⟨⟨A1, n1, c1, e1, ho⟩, _⟩ := hd
                  have cv := conv_str (P := Try.prog) Try.underlying29 Try.underlying5 Try.underlying9 ho.rd.2.2 (c := c1) (n := n1) (by rw [ho.rd.1]; simp)
                  go_simp
                  refine hK _ _ (Below.refl _ _) ?_
                  exact rfl
                refine GOps.cons_ (fun f w' K hW hd hK => ?_) ?_
                · try simp only [depsOf, depsL, Region.binds, depsHold, nthS, List.getD_cons_zero, List.getD_cons_succ, isV, ownV, anyV, if_true, and_true, true_and] at hd
                  obtain ⟨cc, _⟩ := bcell hW
                  go_simp
                  refine hK _ _ (Below.refl _ _) ?_
                  exact rfl
                refine GOps.cons_ (fun f w' K hW hd hK => ?_) ?_
                · try simp only [depsOf, depsL, Region.binds, depsHold, nthS, List.getD_cons_zero, List.getD_cons_succ, isV, ownV, anyV, if_true, and_true, true_and] at hd
                  obtain ⟨cc, _⟩ := bcell hW
                  go_simp
                  refine hK _ _ (Below.refl _ _) ?_
                  exact rfl
                refine GOps.cons_ (fun f w' K hW hd hK => ?_) ?_
                · try simp only [depsOf, depsL, Region.binds, depsHold, nthS, List.getD_cons_zero, List.getD_cons_succ, isV, ownV, anyV, if_true, and_true, true_and] at hd
                  obtain ⟨cc, _⟩ := bcell hW
                  go_simp
                  refine hK _ _ (Below.refl _ _) ?_
                  exact rfl
                refine GOps.cons_ (fun f w' K hW hd hK => ?_) ?_
                · try simp only [depsOf, depsL, Region.binds, depsHold, nthS, List.getD_cons_zero, List.getD_cons_succ, isV, ownV, anyV, if_true, and_true, true_and] at hd
                  obtain ⟨cc, _⟩ := bcell hW
                  go_simp
                  refine hK _ _ (Below.refl _ _) ?_
                  show Value.slice _ _ _ = Value.slice _ _ _
                  rw [← HAk.out]
                refine GOps.cons_ (fun f w' K hW hd hK => ?_) ?_
                · try simp only [depsOf, depsL, Region.binds, depsHold, nthS, List.getD_cons_zero, List.getD_cons_succ, isV, ownV, anyV, if_true, and_true, true_and] at hd
                  obtain ⟨cc, _⟩ := bcell hW
                  have cv := conv_str (P := Try.prog) Try.underlying29 Try.underlying5 Try.underlying9 (hrkm.below hW) (c := c - k) (n := m - k) HML.out
                  go_simp
                  refine hK _ _ (Below.refl _ _) ?_
                  exact (by rw [HM4.out]; rfl)
                refine GOps.cons_ (fun f w' K hW hd hK => ?_) ?_
                · try simp only [depsOf, depsL, Region.binds, depsHold, nthS, List.getD_cons_zero, List.getD_cons_succ, isV, ownV, anyV, if_true, and_true, true_and] at hd
                  obtain ⟨cc, _⟩ := bcell hW
                  go_simp
                  refine hK _ _ (Below.refl _ _) ?_
                  exact rfl
                refine GOps.cons_ (fun f w' K hW hd hK => ?_) ?_
                · try simp only [depsOf, depsL, Region.binds, depsHold, nthS, List.getD_cons_zero, List.getD_cons_succ, isV, ownV, anyV, if_true, and_true, true_and] at hd
                  obtain ⟨cc, _⟩ := bcell hW
                  go_simp
                  refine hK _ _ (Below.refl _ _) ?_
                  exact rfl
                refine GOps.cons_ (fun f w' K hW hd hK => ?_) ?_
                · try simp only [depsOf, depsL, Region.binds, depsHold, nthS, List.getD_cons_zero, List.getD_cons_succ, isV, ownV, anyV, if_true, and_true, true_and] at hd
                  obtain ⟨cc, _⟩ := bcell hW
                  go_simp
                  refine hK _ _ (Below.refl _ _) ?_
                  exact rfl
                refine GOps.cons_ (fun f w' K hW hd hK => ?_) ?_
                · try simp only [depsOf, depsL, Region.binds, depsHold, nthS, List.getD_cons_zero, List.getD_cons_succ, isV, ownV, anyV, if_true, and_true, true_and] at hd
                  obtain ⟨cc, _⟩ := bcell hW
                  go_simp
                  refine (awake_any _).mono ?_
                  rintro e w1 ⟨rfl, hb⟩
                  exact ⟨_, rfl, hK _ _ hb rfl⟩
                refine GOps.cons_ (fun f w' K hW hd hK => ?_) ?_
                · try simp only [depsOf, depsL, Region.binds, depsHold, nthS, List.getD_cons_zero, List.getD_cons_succ, isV, ownV, anyV, if_true, and_true, true_and] at hd
                  obtain ⟨cc, _⟩ := bcell hW
                  go_simp
                  refine hK _ _ (Below.refl _ _) ?_
                  exact rfl
                refine GOps.cons_ (fun f w' K hW hd hK => ?_) ?_
                · try simp only [depsOf, depsL, Region.binds, depsHold, nthS, List.getD_cons_zero, List.getD_cons_succ, isV, ownV, anyV, if_true, and_true, true_and] at hd
                  obtain ⟨cc, _⟩ := bcell hW
                  go_simp
                  refine hK _ _ (Below.refl _ _) ?_
                  exact rfl
                exact GOps.nil_
              case hend9 =>
                intro f w' hW hd
                simp only [List.length_cons, List.length_nil, Nat.reduceAdd, List.range, List.range.loop, depsHold, nthS, List.getD_cons_zero, List.getD_cons_succ, isV, ownV, anyV, true_and, and_true] at hd
                have hl : f 15 = .bool true := by simp only [hd]
                go_wp2
                go_ret
                exact ⟨congrArg Ending.returned hl, hB6.trans (hW.mono hB6.size)⟩
          · obtain ⟨rfl, rfl, rfl⟩ := dec_err zs k Y1 Y2 Y3 Y4 hY h4
            clear hY
            have heq : ∀ w : World, (binOp .eql 28 (.agg #[.int .i64 0, .int .i64 0]) (.agg #[.int .i64 0, .int .i64 0])).run Try.prog w = .ok (.bool true) w := fun w => by rw [ins_eql]; simp
            have hgd := fun (x y : Operand) (w : World) => ins_guard .eql x y #[.int .i64 0, .int .i64 0] #[.int .i64 0, .int .i64 0] w
            go_wp2_with (go_at_call 8; refine (awake_any _).mono ?_; rintro e w6 ⟨rfl, hb6⟩)
            go_ret
            exact ⟨rfl, below_call (hB5.alloc hB5.size _) hb6⟩
end Go.Proofs.Ytfalhlnmjllfpaa
