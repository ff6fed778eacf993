/- The contract of 'tables'. -/
import Derived.Test.YtfalhlnmjllfpaaOpQ
namespace Go.Proofs.Ytfalhlnmjllfpaa
open Go.RowKit Go.IntWalk
set_option maxRecDepth 100000
set_option linter.unusedVariables false
set_option linter.unusedSimpArgs false

theorem infoStr : (Try.prog.info? 9).map (fun i => (i.zero, i.size, i.bytes)) = some (some (.string ⟨#[]⟩), 1, 16) := by kernel_rfl
theorem blk_at {g : Nat} (w : World) (t : TypeId) (cs : List Value) (h : g = w.heap.size) : Blk (w.alloc (.cells cs.toArray t)) g t cs := by subst h; exact Blk.new w t cs
def TabPost (w : World) (g p x d fl : Int) (fA : Option Addr) (nF fc : Nat) (qA : Option Addr) (nQ qc : Nat) (e : Ending) (w' : World) : Prop :=
  ∃ A1 c1 A2 c2 A3 c3 A4 c4, e = .returned (.agg #[.int .i64 0, .int .i64 0, .int .i64 0, .int .i64 0, .slice A3 x.toNat c3, .int .i64 fl, .slice A2 p.toNat c2, .slice A1 g.toNat c1, .slice none 0 0, .slice none 0 0, .slice none 0 0, .slice fA nF fc, .slice A4 d.toNat c4, .slice qA nQ qc, .slice none 0 0]) ∧ Below w.heap.size w w'
set_option maxHeartbeats 6400000 in
theorem tables_any (g p x d fl : Int) (fA : Option Addr) (nF fc : Nat) (qA : Option Addr) (nQ qc : Nat) (w : World) (hg : 0 ≤ g ∧ g < 256) (hp : 0 ≤ p ∧ p < 256) (hx : 0 ≤ x ∧ x < 256) (hdd : 0 ≤ d ∧ d < 256) :
    Calls Try.prog 21 #[.agg #[.int .u8 g, .int .u8 p, .int .u8 x, .int .u8 d, .int .i64 fl, .slice fA nF fc, .slice qA nQ qc]] w (TabPost w g p x d fl fA nF fc qA nQ qc) := by
  have hbw : Below w.heap.size w ((w.alloc (.cells #[.int .u8 g, .int .u8 p, .int .u8 x, .int .u8 d, .int .i64 fl, .slice fA nF fc, .slice qA nQ qc] 39)).alloc (.cells #[.int .i64 0, .int .i64 0, .int .i64 0, .int .i64 0, .slice none 0 0, .int .i64 0, .slice none 0 0, .slice none 0 0, .slice none 0 0, .slice none 0 0, .slice none 0 0, .slice none 0 0, .slice none 0 0, .slice none 0 0, .slice none 0 0] 46)) := ((Below.refl _ _).alloc (Nat.le_refl _) _).alloc (by simp) _
  have K1 : Blk ((w.alloc (.cells #[.int .u8 g, .int .u8 p, .int .u8 x, .int .u8 d, .int .i64 fl, .slice fA nF fc, .slice qA nQ qc] 39)).alloc (.cells #[.int .i64 0, .int .i64 0, .int .i64 0, .int .i64 0, .slice none 0 0, .int .i64 0, .slice none 0 0, .slice none 0 0, .slice none 0 0, .slice none 0 0, .slice none 0 0, .slice none 0 0, .slice none 0 0, .slice none 0 0, .slice none 0 0] 46)) w.heap.size 39 [.int .u8 g, .int .u8 p, .int .u8 x, .int .u8 d, .int .i64 fl, .slice fA nF fc, .slice qA nQ qc] := (Blk.new _ _ _).alloc _
  have K2 : Blk ((w.alloc (.cells #[.int .u8 g, .int .u8 p, .int .u8 x, .int .u8 d, .int .i64 fl, .slice fA nF fc, .slice qA nQ qc] 39)).alloc (.cells #[.int .i64 0, .int .i64 0, .int .i64 0, .int .i64 0, .slice none 0 0, .int .i64 0, .slice none 0 0, .slice none 0 0, .slice none 0 0, .slice none 0 0, .slice none 0 0, .slice none 0 0, .slice none 0 0, .slice none 0 0, .slice none 0 0] 46)) (w.heap.size + 1) 46 [.int .i64 0, .int .i64 0, .int .i64 0, .int .i64 0, .slice none 0 0, .int .i64 0, .slice none 0 0, .slice none 0 0, .slice none 0 0, .slice none 0 0, .slice none 0 0, .slice none 0 0, .slice none 0 0, .slice none 0 0, .slice none 0 0] := blk_at (w.alloc (.cells #[.int .u8 g, .int .u8 p, .int .u8 x, .int .u8 d, .int .i64 fl, .slice fA nF fc, .slice qA nQ qc] 39)) _ _ (by simp)
  go_enter Try.func21, Try.ntmps21
  go_wp2_with fail
  have hst : StabL2 (w.heap.size) ((w.alloc (.cells #[.int .u8 g, .int .u8 p, .int .u8 x, .int .u8 d, .int .i64 fl, .slice fA nF fc, .slice qA nQ qc] 39)).alloc (.cells #[.int .i64 0, .int .i64 0, .int .i64 0, .int .i64 0, .slice none 0 0, .int .i64 0, .slice none 0 0, .slice none 0 0, .slice none 0 0, .slice none 0 0, .slice none 0 0, .slice none 0 0, .slice none 0 0, .slice none 0 0, .slice none 0 0] 46)) [sV 20 (.pointer (some ⟨w.heap.size, 0, none⟩)) 0, sV 20 (.int .u8 g) 1, ⟨2, 20, fun _ v _ => ∃ A c, v = .slice A g.toNat c⟩, sV 20 (.pointer (some ⟨w.heap.size, 1, none⟩)) 3, sV 20 (.int .u8 p) 4, ⟨5, 20, fun _ v _ => ∃ A c, v = .slice A p.toNat c⟩, sV 20 (.pointer (some ⟨w.heap.size, 2, none⟩)) 6, sV 20 (.int .u8 x) 7, ⟨8, 20, fun _ v _ => ∃ A c, v = .slice A x.toNat c⟩, sV 20 (.pointer (some ⟨w.heap.size, 3, none⟩)) 9, sV 20 (.int .u8 d) 10, ⟨11, 20, fun _ v _ => ∃ A c, v = .slice A d.toNat c⟩, sV 20 (.pointer (some ⟨w.heap.size, 4, none⟩)) 12, sV 20 (.int .i64 fl) 13, sV 20 (.pointer (some ⟨w.heap.size, 5, none⟩)) 14, sV 20 (.slice fA nF fc) 15, sV 20 (.pointer (some ⟨w.heap.size, 6, none⟩)) 16, sV 20 (.slice qA nQ qc) 17, ⟨18, 20, fun _ v _ => ∃ A1 c1 A2 c2 A3 c3 A4 c4, v = .agg #[.int .i64 0, .int .i64 0, .int .i64 0, .int .i64 0, .slice A3 x.toNat c3, .int .i64 fl, .slice A2 p.toNat c2, .slice A1 g.toNat c1, .slice none 0 0, .slice none 0 0, .slice none 0 0, .slice fA nF fc, .slice A4 d.toNat c4, .slice qA nQ qc, .slice none 0 0]⟩, ⟨19, 20, fun _ _ w' => ∃ A1 c1 A2 c2 A3 c3 A4 c4, Blk w' (w.heap.size + 1) 46 [.int .i64 0, .int .i64 0, .int .i64 0, .int .i64 0, .slice A3 x.toNat c3, .int .i64 fl, .slice A2 p.toNat c2, .slice A1 g.toNat c1, .slice none 0 0, .slice none 0 0, .slice none 0 0, .slice fA nF fc, .slice A4 d.toNat c4, .slice qA nQ qc, .slice none 0 0]⟩] := by
    repeat (first | exact trivial | refine ⟨stab2_v _ _ _, ?_⟩ | refine ⟨fun _ _ _ _ _ _ _ h => h, ?_⟩ | refine ⟨fun _ _ _ _ _ _ hb ⟨A1, c1, A2, c2, A3, c3, A4, c4, h⟩ => ⟨A1, c1, A2, c2, A3, c3, A4, c4, h.below hb h.lt⟩, ?_⟩ | refine ⟨stab2_own _ _ _ _ _, ?_⟩ | refine ⟨stab2_any _ _, ?_⟩ | refine ⟨stab2_blk _ _ _ _ _, ?_⟩ | refine ⟨stab2_set _ _ _ _ _, ?_⟩)
  refine wp_region_lay (A := ?A1) [sV 20 (.pointer (some ⟨w.heap.size, 0, none⟩)) 0, sV 20 (.int .u8 g) 1, ⟨2, 20, fun _ v _ => ∃ A c, v = .slice A g.toNat c⟩, sV 20 (.pointer (some ⟨w.heap.size, 1, none⟩)) 3, sV 20 (.int .u8 p) 4, ⟨5, 20, fun _ v _ => ∃ A c, v = .slice A p.toNat c⟩, sV 20 (.pointer (some ⟨w.heap.size, 2, none⟩)) 6, sV 20 (.int .u8 x) 7, ⟨8, 20, fun _ v _ => ∃ A c, v = .slice A x.toNat c⟩, sV 20 (.pointer (some ⟨w.heap.size, 3, none⟩)) 9, sV 20 (.int .u8 d) 10, ⟨11, 20, fun _ v _ => ∃ A c, v = .slice A d.toNat c⟩, sV 20 (.pointer (some ⟨w.heap.size, 4, none⟩)) 12, sV 20 (.int .i64 fl) 13, sV 20 (.pointer (some ⟨w.heap.size, 5, none⟩)) 14, sV 20 (.slice fA nF fc) 15, sV 20 (.pointer (some ⟨w.heap.size, 6, none⟩)) 16, sV 20 (.slice qA nQ qc) 17, ⟨18, 20, fun _ v _ => ∃ A1 c1 A2 c2 A3 c3 A4 c4, v = .agg #[.int .i64 0, .int .i64 0, .int .i64 0, .int .i64 0, .slice A3 x.toNat c3, .int .i64 fl, .slice A2 p.toNat c2, .slice A1 g.toNat c1, .slice none 0 0, .slice none 0 0, .slice none 0 0, .slice fA nF fc, .slice A4 d.toNat c4, .slice qA nQ qc, .slice none 0 0]⟩, ⟨19, 20, fun _ _ w' => ∃ A1 c1 A2 c2 A3 c3 A4 c4, Blk w' (w.heap.size + 1) 46 [.int .i64 0, .int .i64 0, .int .i64 0, .int .i64 0, .slice A3 x.toNat c3, .int .i64 fl, .slice A2 p.toNat c2, .slice A1 g.toNat c1, .slice none 0 0, .slice none 0 0, .slice none 0 0, .slice fA nF fc, .slice A4 d.toNat c4, .slice qA nQ qc, .slice none 0 0]⟩] 20 (w.heap.size) ((w.alloc (.cells #[.int .u8 g, .int .u8 p, .int .u8 x, .int .u8 d, .int .i64 fl, .slice fA nF fc, .slice qA nQ qc] 39)).alloc (.cells #[.int .i64 0, .int .i64 0, .int .i64 0, .int .i64 0, .slice none 0 0, .int .i64 0, .slice none 0 0, .slice none 0 0, .slice none 0 0, .slice none 0 0, .slice none 0 0, .slice none 0 0, .slice none 0 0, .slice none 0 0, .slice none 0 0] 46)) (fun w' => Blk w' w.heap.size 39 [.int .u8 g, .int .u8 p, .int .u8 x, .int .u8 d, .int .i64 fl, .slice fA nF fc, .slice qA nQ qc] ∧ ∃ z0 z1 z2 z3 z4 z5 z6 z7 z8 z9 z10 z11 z12 z13 z14, Blk w' (w.heap.size + 1) 46 [z0, z1, z2, z3, z4, z5, z6, z7, z8, z9, z10, z11, z12, z13, z14]) (by kernel_rfl) (by kernel_rfl) (by rfl) rfl rfl (fun f => ?hA1) (Below.refl _ _) ⟨K1, _, _, _, _, _, _, _, _, _, _, _, _, _, _, _, K2⟩ ?hops1 ?hend1
  case hA1 =>
    simp only [fillFrom, Nat.zero_add, Nat.reduceAdd]
    go_frame
    with_reducible rfl
  case hops1 =>
    refine LOps.grow_ hst (by simp; omega) (fun w1 w2 _ _ hb ⟨h1, z0, z1, z2, z3, z4, z5, z6, z7, z8, z9, z10, z11, z12, z13, z14, h2⟩ => ⟨h1.below hb h1.lt, _, _, _, _, _, _, _, _, _, _, _, _, _, _, _, h2.below hb h2.lt⟩) (fun f w' K hW hJw hd hK => ?_) ?_
    · simp only [depsOf, depsL, Region.binds, depsHold2, spHold, spAt, List.getD_cons_zero, List.getD_cons_succ, sV, sAny, sOwn, sBlk, sSet, if_true, and_true, true_and, Nat.reduceLeDiff, Nat.reduceEqDiff, Nat.reduceAdd, Nat.zero_add, Nat.le_refl, or_true, true_or, or_false, false_or, if_false, reduceIte] at hd
      have hk1 := hJw.1.cell 0
      have hk2 := hJw.1.cell 1
      have hk3 := hJw.1.cell 2
      have hk4 := hJw.1.cell 3
      have hk5 := hJw.1.cell 4
      have hk6 := hJw.1.cell 5
      have hk7 := hJw.1.cell 6
      go_simp
      refine hK _ _ (Below.refl _ _) ?_
      exact rfl
    refine LOps.grow_ hst (by simp; omega) (fun w1 w2 _ _ hb ⟨h1, z0, z1, z2, z3, z4, z5, z6, z7, z8, z9, z10, z11, z12, z13, z14, h2⟩ => ⟨h1.below hb h1.lt, _, _, _, _, _, _, _, _, _, _, _, _, _, _, _, h2.below hb h2.lt⟩) (fun f w' K hW hJw hd hK => ?_) ?_
    · simp only [depsOf, depsL, Region.binds, depsHold2, spHold, spAt, List.getD_cons_zero, List.getD_cons_succ, sV, sAny, sOwn, sBlk, sSet, if_true, and_true, true_and, Nat.reduceLeDiff, Nat.reduceEqDiff, Nat.reduceAdd, Nat.zero_add, Nat.le_refl, or_true, true_or, or_false, false_or, if_false, reduceIte] at hd
      have hk1 := hJw.1.cell 0
      have hk2 := hJw.1.cell 1
      have hk3 := hJw.1.cell 2
      have hk4 := hJw.1.cell 3
      have hk5 := hJw.1.cell 4
      have hk6 := hJw.1.cell 5
      have hk7 := hJw.1.cell 6
      go_simp
      refine hK _ _ (Below.refl _ _) ?_
      exact rfl
    refine LOps.grow_ hst (by simp; omega) (fun w1 w2 _ _ hb ⟨h1, z0, z1, z2, z3, z4, z5, z6, z7, z8, z9, z10, z11, z12, z13, z14, h2⟩ => ⟨h1.below hb h1.lt, _, _, _, _, _, _, _, _, _, _, _, _, _, _, _, h2.below hb h2.lt⟩) (fun f w' K hW hJw hd hK => ?_) ?_
    · simp only [depsOf, depsL, Region.binds, depsHold2, spHold, spAt, List.getD_cons_zero, List.getD_cons_succ, sV, sAny, sOwn, sBlk, sSet, if_true, and_true, true_and, Nat.reduceLeDiff, Nat.reduceEqDiff, Nat.reduceAdd, Nat.zero_add, Nat.le_refl, or_true, true_or, or_false, false_or, if_false, reduceIte] at hd
      have hk1 := hJw.1.cell 0
      have hk2 := hJw.1.cell 1
      have hk3 := hJw.1.cell 2
      have hk4 := hJw.1.cell 3
      have hk5 := hJw.1.cell 4
      have hk6 := hJw.1.cell 5
      have hk7 := hJw.1.cell 6
      obtain ⟨i, hi, hz, hsz, hby⟩ := info_parts infoInt
      have hmk := run_make (P := Try.prog) w' 37 _ i _ Try.underlying37 hi hz .u8 .u8 g g (by omega) (Int.le_refl _) (by rw [hby]; omega) (by omega)
      clear hi hz hsz hby
      go_simp
      exact hK _ _ ((Below.refl _ _).alloc (Nat.le_refl _) _) ⟨_, _, rfl⟩
    refine LOps.grow_ hst (by simp; omega) (fun w1 w2 _ _ hb ⟨h1, z0, z1, z2, z3, z4, z5, z6, z7, z8, z9, z10, z11, z12, z13, z14, h2⟩ => ⟨h1.below hb h1.lt, _, _, _, _, _, _, _, _, _, _, _, _, _, _, _, h2.below hb h2.lt⟩) (fun f w' K hW hJw hd hK => ?_) ?_
    · simp only [depsOf, depsL, Region.binds, depsHold2, spHold, spAt, List.getD_cons_zero, List.getD_cons_succ, sV, sAny, sOwn, sBlk, sSet, if_true, and_true, true_and, Nat.reduceLeDiff, Nat.reduceEqDiff, Nat.reduceAdd, Nat.zero_add, Nat.le_refl, or_true, true_or, or_false, false_or, if_false, reduceIte] at hd
      have hk1 := hJw.1.cell 0
      have hk2 := hJw.1.cell 1
      have hk3 := hJw.1.cell 2
      have hk4 := hJw.1.cell 3
      have hk5 := hJw.1.cell 4
      have hk6 := hJw.1.cell 5
      have hk7 := hJw.1.cell 6
      go_simp
      refine hK _ _ (Below.refl _ _) ?_
      exact rfl
    refine LOps.grow_ hst (by simp; omega) (fun w1 w2 _ _ hb ⟨h1, z0, z1, z2, z3, z4, z5, z6, z7, z8, z9, z10, z11, z12, z13, z14, h2⟩ => ⟨h1.below hb h1.lt, _, _, _, _, _, _, _, _, _, _, _, _, _, _, _, h2.below hb h2.lt⟩) (fun f w' K hW hJw hd hK => ?_) ?_
    · simp only [depsOf, depsL, Region.binds, depsHold2, spHold, spAt, List.getD_cons_zero, List.getD_cons_succ, sV, sAny, sOwn, sBlk, sSet, if_true, and_true, true_and, Nat.reduceLeDiff, Nat.reduceEqDiff, Nat.reduceAdd, Nat.zero_add, Nat.le_refl, or_true, true_or, or_false, false_or, if_false, reduceIte] at hd
      have hk1 := hJw.1.cell 0
      have hk2 := hJw.1.cell 1
      have hk3 := hJw.1.cell 2
      have hk4 := hJw.1.cell 3
      have hk5 := hJw.1.cell 4
      have hk6 := hJw.1.cell 5
      have hk7 := hJw.1.cell 6
      go_simp
      refine hK _ _ (Below.refl _ _) ?_
      exact rfl
    refine LOps.grow_ hst (by simp; omega) (fun w1 w2 _ _ hb ⟨h1, z0, z1, z2, z3, z4, z5, z6, z7, z8, z9, z10, z11, z12, z13, z14, h2⟩ => ⟨h1.below hb h1.lt, _, _, _, _, _, _, _, _, _, _, _, _, _, _, _, h2.below hb h2.lt⟩) (fun f w' K hW hJw hd hK => ?_) ?_
    · simp only [depsOf, depsL, Region.binds, depsHold2, spHold, spAt, List.getD_cons_zero, List.getD_cons_succ, sV, sAny, sOwn, sBlk, sSet, if_true, and_true, true_and, Nat.reduceLeDiff, Nat.reduceEqDiff, Nat.reduceAdd, Nat.zero_add, Nat.le_refl, or_true, true_or, or_false, false_or, if_false, reduceIte] at hd
      have hk1 := hJw.1.cell 0
      have hk2 := hJw.1.cell 1
      have hk3 := hJw.1.cell 2
      have hk4 := hJw.1.cell 3
      have hk5 := hJw.1.cell 4
      have hk6 := hJw.1.cell 5
      have hk7 := hJw.1.cell 6
      obtain ⟨i, hi, hz, hsz, hby⟩ := info_parts infoInt
      have hmk := run_make (P := Try.prog) w' 37 _ i _ Try.underlying37 hi hz .u8 .u8 p p (by omega) (Int.le_refl _) (by rw [hby]; omega) (by omega)
      clear hi hz hsz hby
      go_simp
      exact hK _ _ ((Below.refl _ _).alloc (Nat.le_refl _) _) ⟨_, _, rfl⟩
    refine LOps.grow_ hst (by simp; omega) (fun w1 w2 _ _ hb ⟨h1, z0, z1, z2, z3, z4, z5, z6, z7, z8, z9, z10, z11, z12, z13, z14, h2⟩ => ⟨h1.below hb h1.lt, _, _, _, _, _, _, _, _, _, _, _, _, _, _, _, h2.below hb h2.lt⟩) (fun f w' K hW hJw hd hK => ?_) ?_
    · simp only [depsOf, depsL, Region.binds, depsHold2, spHold, spAt, List.getD_cons_zero, List.getD_cons_succ, sV, sAny, sOwn, sBlk, sSet, if_true, and_true, true_and, Nat.reduceLeDiff, Nat.reduceEqDiff, Nat.reduceAdd, Nat.zero_add, Nat.le_refl, or_true, true_or, or_false, false_or, if_false, reduceIte] at hd
      have hk1 := hJw.1.cell 0
      have hk2 := hJw.1.cell 1
      have hk3 := hJw.1.cell 2
      have hk4 := hJw.1.cell 3
      have hk5 := hJw.1.cell 4
      have hk6 := hJw.1.cell 5
      have hk7 := hJw.1.cell 6
      go_simp
      refine hK _ _ (Below.refl _ _) ?_
      exact rfl
    refine LOps.grow_ hst (by simp; omega) (fun w1 w2 _ _ hb ⟨h1, z0, z1, z2, z3, z4, z5, z6, z7, z8, z9, z10, z11, z12, z13, z14, h2⟩ => ⟨h1.below hb h1.lt, _, _, _, _, _, _, _, _, _, _, _, _, _, _, _, h2.below hb h2.lt⟩) (fun f w' K hW hJw hd hK => ?_) ?_
    · simp only [depsOf, depsL, Region.binds, depsHold2, spHold, spAt, List.getD_cons_zero, List.getD_cons_succ, sV, sAny, sOwn, sBlk, sSet, if_true, and_true, true_and, Nat.reduceLeDiff, Nat.reduceEqDiff, Nat.reduceAdd, Nat.zero_add, Nat.le_refl, or_true, true_or, or_false, false_or, if_false, reduceIte] at hd
      have hk1 := hJw.1.cell 0
      have hk2 := hJw.1.cell 1
      have hk3 := hJw.1.cell 2
      have hk4 := hJw.1.cell 3
      have hk5 := hJw.1.cell 4
      have hk6 := hJw.1.cell 5
      have hk7 := hJw.1.cell 6
      go_simp
      refine hK _ _ (Below.refl _ _) ?_
      exact rfl
    refine LOps.grow_ hst (by simp; omega) (fun w1 w2 _ _ hb ⟨h1, z0, z1, z2, z3, z4, z5, z6, z7, z8, z9, z10, z11, z12, z13, z14, h2⟩ => ⟨h1.below hb h1.lt, _, _, _, _, _, _, _, _, _, _, _, _, _, _, _, h2.below hb h2.lt⟩) (fun f w' K hW hJw hd hK => ?_) ?_
    · simp only [depsOf, depsL, Region.binds, depsHold2, spHold, spAt, List.getD_cons_zero, List.getD_cons_succ, sV, sAny, sOwn, sBlk, sSet, if_true, and_true, true_and, Nat.reduceLeDiff, Nat.reduceEqDiff, Nat.reduceAdd, Nat.zero_add, Nat.le_refl, or_true, true_or, or_false, false_or, if_false, reduceIte] at hd
      have hk1 := hJw.1.cell 0
      have hk2 := hJw.1.cell 1
      have hk3 := hJw.1.cell 2
      have hk4 := hJw.1.cell 3
      have hk5 := hJw.1.cell 4
      have hk6 := hJw.1.cell 5
      have hk7 := hJw.1.cell 6
      obtain ⟨i, hi, hz, hsz, hby⟩ := info_parts infoStr
      have hmk := run_make (P := Try.prog) w' 41 _ i _ Try.underlying41 hi hz .u8 .u8 x x (by omega) (Int.le_refl _) (by rw [hby]; omega) (by omega)
      clear hi hz hsz hby
      go_simp
      exact hK _ _ ((Below.refl _ _).alloc (Nat.le_refl _) _) ⟨_, _, rfl⟩
    refine LOps.grow_ hst (by simp; omega) (fun w1 w2 _ _ hb ⟨h1, z0, z1, z2, z3, z4, z5, z6, z7, z8, z9, z10, z11, z12, z13, z14, h2⟩ => ⟨h1.below hb h1.lt, _, _, _, _, _, _, _, _, _, _, _, _, _, _, _, h2.below hb h2.lt⟩) (fun f w' K hW hJw hd hK => ?_) ?_
    · simp only [depsOf, depsL, Region.binds, depsHold2, spHold, spAt, List.getD_cons_zero, List.getD_cons_succ, sV, sAny, sOwn, sBlk, sSet, if_true, and_true, true_and, Nat.reduceLeDiff, Nat.reduceEqDiff, Nat.reduceAdd, Nat.zero_add, Nat.le_refl, or_true, true_or, or_false, false_or, if_false, reduceIte] at hd
      have hk1 := hJw.1.cell 0
      have hk2 := hJw.1.cell 1
      have hk3 := hJw.1.cell 2
      have hk4 := hJw.1.cell 3
      have hk5 := hJw.1.cell 4
      have hk6 := hJw.1.cell 5
      have hk7 := hJw.1.cell 6
      go_simp
      refine hK _ _ (Below.refl _ _) ?_
      exact rfl
    refine LOps.grow_ hst (by simp; omega) (fun w1 w2 _ _ hb ⟨h1, z0, z1, z2, z3, z4, z5, z6, z7, z8, z9, z10, z11, z12, z13, z14, h2⟩ => ⟨h1.below hb h1.lt, _, _, _, _, _, _, _, _, _, _, _, _, _, _, _, h2.below hb h2.lt⟩) (fun f w' K hW hJw hd hK => ?_) ?_
    · simp only [depsOf, depsL, Region.binds, depsHold2, spHold, spAt, List.getD_cons_zero, List.getD_cons_succ, sV, sAny, sOwn, sBlk, sSet, if_true, and_true, true_and, Nat.reduceLeDiff, Nat.reduceEqDiff, Nat.reduceAdd, Nat.zero_add, Nat.le_refl, or_true, true_or, or_false, false_or, if_false, reduceIte] at hd
      have hk1 := hJw.1.cell 0
      have hk2 := hJw.1.cell 1
      have hk3 := hJw.1.cell 2
      have hk4 := hJw.1.cell 3
      have hk5 := hJw.1.cell 4
      have hk6 := hJw.1.cell 5
      have hk7 := hJw.1.cell 6
      go_simp
      refine hK _ _ (Below.refl _ _) ?_
      exact rfl
    refine LOps.grow_ hst (by simp; omega) (fun w1 w2 _ _ hb ⟨h1, z0, z1, z2, z3, z4, z5, z6, z7, z8, z9, z10, z11, z12, z13, z14, h2⟩ => ⟨h1.below hb h1.lt, _, _, _, _, _, _, _, _, _, _, _, _, _, _, _, h2.below hb h2.lt⟩) (fun f w' K hW hJw hd hK => ?_) ?_
    · simp only [depsOf, depsL, Region.binds, depsHold2, spHold, spAt, List.getD_cons_zero, List.getD_cons_succ, sV, sAny, sOwn, sBlk, sSet, if_true, and_true, true_and, Nat.reduceLeDiff, Nat.reduceEqDiff, Nat.reduceAdd, Nat.zero_add, Nat.le_refl, or_true, true_or, or_false, false_or, if_false, reduceIte] at hd
      have hk1 := hJw.1.cell 0
      have hk2 := hJw.1.cell 1
      have hk3 := hJw.1.cell 2
      have hk4 := hJw.1.cell 3
      have hk5 := hJw.1.cell 4
      have hk6 := hJw.1.cell 5
      have hk7 := hJw.1.cell 6
      obtain ⟨i, hi, hz, hsz, hby⟩ := info_parts infoInt
      have hmk := run_make (P := Try.prog) w' 37 _ i _ Try.underlying37 hi hz .u8 .u8 d d (by omega) (Int.le_refl _) (by rw [hby]; omega) (by omega)
      clear hi hz hsz hby
      go_simp
      exact hK _ _ ((Below.refl _ _).alloc (Nat.le_refl _) _) ⟨_, _, rfl⟩
    refine LOps.grow_ hst (by simp; omega) (fun w1 w2 _ _ hb ⟨h1, z0, z1, z2, z3, z4, z5, z6, z7, z8, z9, z10, z11, z12, z13, z14, h2⟩ => ⟨h1.below hb h1.lt, _, _, _, _, _, _, _, _, _, _, _, _, _, _, _, h2.below hb h2.lt⟩) (fun f w' K hW hJw hd hK => ?_) ?_
    · simp only [depsOf, depsL, Region.binds, depsHold2, spHold, spAt, List.getD_cons_zero, List.getD_cons_succ, sV, sAny, sOwn, sBlk, sSet, if_true, and_true, true_and, Nat.reduceLeDiff, Nat.reduceEqDiff, Nat.reduceAdd, Nat.zero_add, Nat.le_refl, or_true, true_or, or_false, false_or, if_false, reduceIte] at hd
      have hk1 := hJw.1.cell 0
      have hk2 := hJw.1.cell 1
      have hk3 := hJw.1.cell 2
      have hk4 := hJw.1.cell 3
      have hk5 := hJw.1.cell 4
      have hk6 := hJw.1.cell 5
      have hk7 := hJw.1.cell 6
      go_simp
      refine hK _ _ (Below.refl _ _) ?_
      exact rfl
    refine LOps.grow_ hst (by simp; omega) (fun w1 w2 _ _ hb ⟨h1, z0, z1, z2, z3, z4, z5, z6, z7, z8, z9, z10, z11, z12, z13, z14, h2⟩ => ⟨h1.below hb h1.lt, _, _, _, _, _, _, _, _, _, _, _, _, _, _, _, h2.below hb h2.lt⟩) (fun f w' K hW hJw hd hK => ?_) ?_
    · simp only [depsOf, depsL, Region.binds, depsHold2, spHold, spAt, List.getD_cons_zero, List.getD_cons_succ, sV, sAny, sOwn, sBlk, sSet, if_true, and_true, true_and, Nat.reduceLeDiff, Nat.reduceEqDiff, Nat.reduceAdd, Nat.zero_add, Nat.le_refl, or_true, true_or, or_false, false_or, if_false, reduceIte] at hd
      have hk1 := hJw.1.cell 0
      have hk2 := hJw.1.cell 1
      have hk3 := hJw.1.cell 2
      have hk4 := hJw.1.cell 3
      have hk5 := hJw.1.cell 4
      have hk6 := hJw.1.cell 5
      have hk7 := hJw.1.cell 6
      go_simp
      refine hK _ _ (Below.refl _ _) ?_
      exact rfl
    refine LOps.grow_ hst (by simp; omega) (fun w1 w2 _ _ hb ⟨h1, z0, z1, z2, z3, z4, z5, z6, z7, z8, z9, z10, z11, z12, z13, z14, h2⟩ => ⟨h1.below hb h1.lt, _, _, _, _, _, _, _, _, _, _, _, _, _, _, _, h2.below hb h2.lt⟩) (fun f w' K hW hJw hd hK => ?_) ?_
    · simp only [depsOf, depsL, Region.binds, depsHold2, spHold, spAt, List.getD_cons_zero, List.getD_cons_succ, sV, sAny, sOwn, sBlk, sSet, if_true, and_true, true_and, Nat.reduceLeDiff, Nat.reduceEqDiff, Nat.reduceAdd, Nat.zero_add, Nat.le_refl, or_true, true_or, or_false, false_or, if_false, reduceIte] at hd
      have hk1 := hJw.1.cell 0
      have hk2 := hJw.1.cell 1
      have hk3 := hJw.1.cell 2
      have hk4 := hJw.1.cell 3
      have hk5 := hJw.1.cell 4
      have hk6 := hJw.1.cell 5
      have hk7 := hJw.1.cell 6
      go_simp
      refine hK _ _ (Below.refl _ _) ?_
      exact rfl
    refine LOps.grow_ hst (by simp; omega) (fun w1 w2 _ _ hb ⟨h1, z0, z1, z2, z3, z4, z5, z6, z7, z8, z9, z10, z11, z12, z13, z14, h2⟩ => ⟨h1.below hb h1.lt, _, _, _, _, _, _, _, _, _, _, _, _, _, _, _, h2.below hb h2.lt⟩) (fun f w' K hW hJw hd hK => ?_) ?_
    · simp only [depsOf, depsL, Region.binds, depsHold2, spHold, spAt, List.getD_cons_zero, List.getD_cons_succ, sV, sAny, sOwn, sBlk, sSet, if_true, and_true, true_and, Nat.reduceLeDiff, Nat.reduceEqDiff, Nat.reduceAdd, Nat.zero_add, Nat.le_refl, or_true, true_or, or_false, false_or, if_false, reduceIte] at hd
      have hk1 := hJw.1.cell 0
      have hk2 := hJw.1.cell 1
      have hk3 := hJw.1.cell 2
      have hk4 := hJw.1.cell 3
      have hk5 := hJw.1.cell 4
      have hk6 := hJw.1.cell 5
      have hk7 := hJw.1.cell 6
      go_simp
      refine hK _ _ (Below.refl _ _) ?_
      exact rfl
    refine LOps.grow_ hst (by simp; omega) (fun w1 w2 _ _ hb ⟨h1, z0, z1, z2, z3, z4, z5, z6, z7, z8, z9, z10, z11, z12, z13, z14, h2⟩ => ⟨h1.below hb h1.lt, _, _, _, _, _, _, _, _, _, _, _, _, _, _, _, h2.below hb h2.lt⟩) (fun f w' K hW hJw hd hK => ?_) ?_
    · simp only [depsOf, depsL, Region.binds, depsHold2, spHold, spAt, List.getD_cons_zero, List.getD_cons_succ, sV, sAny, sOwn, sBlk, sSet, if_true, and_true, true_and, Nat.reduceLeDiff, Nat.reduceEqDiff, Nat.reduceAdd, Nat.zero_add, Nat.le_refl, or_true, true_or, or_false, false_or, if_false, reduceIte] at hd
      have hk1 := hJw.1.cell 0
      have hk2 := hJw.1.cell 1
      have hk3 := hJw.1.cell 2
      have hk4 := hJw.1.cell 3
      have hk5 := hJw.1.cell 4
      have hk6 := hJw.1.cell 5
      have hk7 := hJw.1.cell 6
      go_simp
      refine hK _ _ (Below.refl _ _) ?_
      exact rfl
    refine LOps.grow_ hst (by simp; omega) (fun w1 w2 _ _ hb ⟨h1, z0, z1, z2, z3, z4, z5, z6, z7, z8, z9, z10, z11, z12, z13, z14, h2⟩ => ⟨h1.below hb h1.lt, _, _, _, _, _, _, _, _, _, _, _, _, _, _, _, h2.below hb h2.lt⟩) (fun f w' K hW hJw hd hK => ?_) ?_
    · simp only [depsOf, depsL, Region.binds, depsHold2, spHold, spAt, List.getD_cons_zero, List.getD_cons_succ, sV, sAny, sOwn, sBlk, sSet, if_true, and_true, true_and, Nat.reduceLeDiff, Nat.reduceEqDiff, Nat.reduceAdd, Nat.zero_add, Nat.le_refl, or_true, true_or, or_false, false_or, if_false, reduceIte] at hd
      have hk1 := hJw.1.cell 0
      have hk2 := hJw.1.cell 1
      have hk3 := hJw.1.cell 2
      have hk4 := hJw.1.cell 3
      have hk5 := hJw.1.cell 4
      have hk6 := hJw.1.cell 5
      have hk7 := hJw.1.cell 6
      go_simp
      refine hK _ _ (Below.refl _ _) ?_
      exact rfl
    refine LOps.grow_ hst (by simp; omega) (fun w1 w2 _ _ hb ⟨h1, z0, z1, z2, z3, z4, z5, z6, z7, z8, z9, z10, z11, z12, z13, z14, h2⟩ => ⟨h1.below hb h1.lt, _, _, _, _, _, _, _, _, _, _, _, _, _, _, _, h2.below hb h2.lt⟩) (fun f w' K hW hJw hd hK => ?_) ?_
    · simp only [depsOf, depsL, Region.binds, depsHold2, spHold, spAt, List.getD_cons_zero, List.getD_cons_succ, sV, sAny, sOwn, sBlk, sSet, if_true, and_true, true_and, Nat.reduceLeDiff, Nat.reduceEqDiff, Nat.reduceAdd, Nat.zero_add, Nat.le_refl, or_true, true_or, or_false, false_or, if_false, reduceIte] at hd
      have hk1 := hJw.1.cell 0
      have hk2 := hJw.1.cell 1
      have hk3 := hJw.1.cell 2
      have hk4 := hJw.1.cell 3
      have hk5 := hJw.1.cell 4
      have hk6 := hJw.1.cell 5
      have hk7 := hJw.1.cell 6
      obtain ⟨⟨A1, c1, h1⟩, ⟨A2, c2, h2⟩, ⟨A3, c3, h3⟩, ⟨A4, c4, h4⟩, h5, h6, h7⟩ := hd
      go_simp
      exact hK _ _ (Below.refl _ _) ⟨A1, c1, A2, c2, A3, c3, A4, c4, rfl⟩
    refine LOps.put_ [0, 1, 2, 3, 4, 5, 6, 7, 8, 9, 10, 11, 12, 13, 14, 15, 16, 17, 18] (by rfl) (fun f w' K hW hJw hd hK => ?_) ?_
    · simp only [depsOf, depsL, Region.binds, depsHold2, spHold, spAt, List.getD_cons_zero, List.getD_cons_succ, sV, sAny, sOwn, sBlk, sSet, if_true, and_true, true_and, Nat.reduceLeDiff, Nat.reduceEqDiff, Nat.reduceAdd, Nat.zero_add, Nat.le_refl, or_true, true_or, or_false, false_or, if_false, reduceIte] at hd
      have hk1 := hJw.1.cell 0
      have hk2 := hJw.1.cell 1
      have hk3 := hJw.1.cell 2
      have hk4 := hJw.1.cell 3
      have hk5 := hJw.1.cell 4
      have hk6 := hJw.1.cell 5
      have hk7 := hJw.1.cell 6
      have h18 : ∃ A1 c1 A2 c2 A3 c3 A4 c4, f 18 = .agg #[.int .i64 0, .int .i64 0, .int .i64 0, .int .i64 0, .slice A3 x.toNat c3, .int .i64 fl, .slice A2 p.toNat c2, .slice A1 g.toNat c1, .slice none 0 0, .slice none 0 0, .slice none 0 0, .slice fA nF fc, .slice A4 d.toNat c4, .slice qA nQ qc, .slice none 0 0] := by simp only [hd]
      clear hd
      obtain ⟨A1, c1, A2, c2, A3, c3, A4, c4, e18⟩ := h18
      obtain ⟨K1, z0, z1, z2, z3, z4, z5, z6, z7, z8, z9, z10, z11, z12, z13, z14, hb⟩ := hJw
      have hce := fun i => hb.cell i
      have hfr := fun i => hb.frozen i
      have q0 := hce 0
      have q1 := hce 1
      have q2 := hce 2
      have q3 := hce 3
      have q4 := hce 4
      have q5 := hce 5
      have q6 := hce 6
      have q7 := hce 7
      have q8 := hce 8
      have q9 := hce 9
      have q10 := hce 10
      have q11 := hce 11
      have q12 := hce 12
      have q13 := hce 13
      have q14 := hce 14
      clear hce
      go_simp
      refine hK _ _ ((((((((((((((((Below.refl _ _).setCell (p := ⟨w.heap.size + 1, 0, none⟩) (by simp) _).setCell (p := ⟨w.heap.size + 1, 1, none⟩) (by simp) _).setCell (p := ⟨w.heap.size + 1, 2, none⟩) (by simp) _).setCell (p := ⟨w.heap.size + 1, 3, none⟩) (by simp) _).setCell (p := ⟨w.heap.size + 1, 4, none⟩) (by simp) _).setCell (p := ⟨w.heap.size + 1, 5, none⟩) (by simp) _).setCell (p := ⟨w.heap.size + 1, 6, none⟩) (by simp) _).setCell (p := ⟨w.heap.size + 1, 7, none⟩) (by simp) _).setCell (p := ⟨w.heap.size + 1, 8, none⟩) (by simp) _).setCell (p := ⟨w.heap.size + 1, 9, none⟩) (by simp) _).setCell (p := ⟨w.heap.size + 1, 10, none⟩) (by simp) _).setCell (p := ⟨w.heap.size + 1, 11, none⟩) (by simp) _).setCell (p := ⟨w.heap.size + 1, 12, none⟩) (by simp) _).setCell (p := ⟨w.heap.size + 1, 13, none⟩) (by simp) _).setCell (p := ⟨w.heap.size + 1, 14, none⟩) (by simp) _) ⟨(((((((((((((((K1.far (p := ⟨w.heap.size + 1, 0, none⟩) (by simp) _).far (p := ⟨w.heap.size + 1, 1, none⟩) (by simp) _).far (p := ⟨w.heap.size + 1, 2, none⟩) (by simp) _).far (p := ⟨w.heap.size + 1, 3, none⟩) (by simp) _).far (p := ⟨w.heap.size + 1, 4, none⟩) (by simp) _).far (p := ⟨w.heap.size + 1, 5, none⟩) (by simp) _).far (p := ⟨w.heap.size + 1, 6, none⟩) (by simp) _).far (p := ⟨w.heap.size + 1, 7, none⟩) (by simp) _).far (p := ⟨w.heap.size + 1, 8, none⟩) (by simp) _).far (p := ⟨w.heap.size + 1, 9, none⟩) (by simp) _).far (p := ⟨w.heap.size + 1, 10, none⟩) (by simp) _).far (p := ⟨w.heap.size + 1, 11, none⟩) (by simp) _).far (p := ⟨w.heap.size + 1, 12, none⟩) (by simp) _).far (p := ⟨w.heap.size + 1, 13, none⟩) (by simp) _).far (p := ⟨w.heap.size + 1, 14, none⟩) (by simp) _), _, _, _, _, _, _, _, _, _, _, _, _, _, _, _, (((((((((((((((hb.set_ 0 _).set_ 1 _).set_ 2 _).set_ 3 _).set_ 4 _).set_ 5 _).set_ 6 _).set_ 7 _).set_ 8 _).set_ 9 _).set_ 10 _).set_ 11 _).set_ 12 _).set_ 13 _).set_ 14 _)⟩ ?_ ⟨A1, c1, A2, c2, A3, c3, A4, c4, (((((((((((((((hb.set_ 0 _).set_ 1 _).set_ 2 _).set_ 3 _).set_ 4 _).set_ 5 _).set_ 6 _).set_ 7 _).set_ 8 _).set_ 9 _).set_ 10 _).set_ 11 _).set_ 12 _).set_ 13 _).set_ 14 _)⟩
      repeat (first | exact trivial | refine ⟨fun x y h => h, ?_⟩)
    exact LOps.nil_
  case hend1 =>
    intro f w' hW hJw hd
    simp only [List.range, List.range.loop, endHold, spHold, spAt, List.getD_cons_zero, List.getD_cons_succ, sV, sAny, sOwn, sBlk, sSet, true_and, and_true, Nat.reduceLeDiff, Nat.le_refl, if_true, if_false, reduceIte] at hd
    clear hst
    have h19 : ∃ A1 c1 A2 c2 A3 c3 A4 c4, Blk w' (w.heap.size + 1) 46 [.int .i64 0, .int .i64 0, .int .i64 0, .int .i64 0, .slice A3 x.toNat c3, .int .i64 fl, .slice A2 p.toNat c2, .slice A1 g.toNat c1, .slice none 0 0, .slice none 0 0, .slice none 0 0, .slice fA nF fc, .slice A4 d.toNat c4, .slice qA nQ qc, .slice none 0 0] := by simp only [hd]
    clear hd
    obtain ⟨A1, c1, A2, c2, A3, c3, A4, c4, hb⟩ := h19
    have hce := fun i => hb.cell i
    have q0 := hce 0
    have q1 := hce 1
    have q2 := hce 2
    have q3 := hce 3
    have q4 := hce 4
    have q5 := hce 5
    have q6 := hce 6
    have q7 := hce 7
    have q8 := hce 8
    have q9 := hce 9
    have q10 := hce 10
    have q11 := hce 11
    have q12 := hce 12
    have q13 := hce 13
    have q14 := hce 14
    clear hce
    go_wp2
    exact bodyPost_ret (v := .agg #[.int .i64 0, .int .i64 0, .int .i64 0, .int .i64 0, .slice A3 x.toNat c3, .int .i64 fl, .slice A2 p.toNat c2, .slice A1 g.toNat c1, .slice none 0 0, .slice none 0 0, .slice none 0 0, .slice fA nF fc, .slice A4 d.toNat c4, .slice qA nQ qc, .slice none 0 0]) (by simp [results, Try.results21, go_sem, q0, q1, q2, q3, q4, q5, q6, q7, q8, q9, q10, q11, q12, q13, q14]) rfl ⟨A1, c1, A2, c2, A3, c3, A4, c4, rfl, hbw.trans hW⟩
end Go.Proofs.Ytfalhlnmjllfpaa
