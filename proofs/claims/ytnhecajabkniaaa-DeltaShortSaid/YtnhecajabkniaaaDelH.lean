/- delta.Size; the chapter's examples. -/
import Derived.Test.YtnhecajabkniaaaDelG
namespace Go.Proofs.Ytnhecajabkniaaa
open Go.RowKit Go.IntWalk
set_option maxRecDepth 100000
set_option linter.unusedVariables false
set_option linter.unusedSimpArgs false

theorem byt4 : Byt [1, 2, 3, 4] := by intro x hx; simp at hx; omega
theorem byt4b : Byt [1, 9, 3, 4] := by intro x hx; simp at hx; omega
theorem byt6 : Byt [4, 1, 1, 9, 2, 0] := by intro x hx; simp at hx; omega
theorem byt1 : Byt [1] := by intro x hx; simp at hx; omega
theorem byt3 : Byt [2, 2, 0] := by intro x hx; simp at hx; omega
theorem ex_make : dMake [1, 2, 3, 4] [1, 9, 3, 4] = [4, 1, 1, 9, 2, 0] := by
  simp [dMake, dBody, nS, runS, nD, runD, smB, stB, sSize, sSizeN_small]
theorem ex_app : dApp [1, 2, 3, 4] [4, 1, 1, 9, 2, 0] = ([1, 9, 3, 4], 0) := by
  have := dApp_back [1, 2, 3, 4] [1, 9, 3, 4] byt4b (by simp)
  rwa [ex_make] at this
theorem ex_app2 : dApp [1] [2, 2, 0] = ([], 5) := by decide
theorem ex_size : dSize [4, 1, 1, 9, 2, 0] = 4 := by decide
set_option maxHeartbeats 800000 in
theorem dsize_any (D : Option Addr) (nd cd : Nat) (ds : List Int) (w : World) (hd0 : Rd w w.heap.size D (cb .u8 ds)) (hnd : nd = ds.length) (hcd : nd ≤ cd) (hbd : Byt ds) (hl' : nd ≤ 1000000) :
    Calls Try.prog 11 #[.slice D nd cd] w fun e w' => e = .returned (.int .i64 (dSize ds)) ∧ Below w.heap.size w w' := by
  have HND := Lib.hid hnd
  clear hnd
  go_enter Try.func11, Try.ntmps11
  go_wp2_with fail
  refine (takeSize_any D nd cd 0 0 65536 ds _ hd0 HND.out hcd (by omega) hbd).mono ?_
  rintro e w1 ⟨rfl, hb1⟩
  go_wp2
  go_ret
  exact ⟨rfl, hb1.alloc hb1.size _⟩
set_option maxHeartbeats 3200000 in
theorem awake_any (w : World) : Calls Try.prog 7 #[] w fun e w' => e = .returned (.bool true) ∧ Below w.heap.size w w' := by
  go_enter Try.func7, Try.ntmps7
  go_upto_region 1 with (fail)
  refine wp_region_grow_plain (A := ?A1) [ownV w.heap.size 5 (cb .u8 [1, 2, 3, 4]), ownV w.heap.size 5 (cb .u8 [1, 9, 3, 4]), ownV w.heap.size 5 (cb .u8 [4, 1, 1, 9, 2, 0]), ownV w.heap.size 5 (cb .u8 [4, 1, 1, 9, 2, 0])] (w) (by kernel_rfl) (by kernel_rfl) (fun f => ?hA1) (Below.refl _ _) ?hst1 ?hops1 ?hend1
  case hA1 =>
    simp only [fillFrom, Nat.zero_add, Nat.reduceAdd]
    go_frame
    with_reducible rfl
  case hst1 => repeat (first | exact trivial | refine ⟨stab_is _ _, ?_⟩ | refine ⟨fun _ _ _ _ hb ⟨A, n, c, h, ho⟩ => ⟨A, n, c, h, ho.below hb⟩, ?_⟩ | refine ⟨stab_own _ _ _ _, ?_⟩ | refine ⟨stab_any _, ?_⟩ | refine ⟨stab_rd _ _ _, ?_⟩)
  case hops1 =>
    refine GOps.cons_ (fun f w' K hW hd hK => ?_) ?_
    · try simp only [depsOf, depsL, Region.binds, depsHold, nthS, List.getD_cons_zero, List.getD_cons_succ, isV, ownV, anyV, if_true, and_true, true_and] at hd
      go_simp
      exact hK _ _ ((Below.refl _ _).alloc (Nat.le_refl _) _) ⟨_, _, _, rfl, Own.new w' (cb .u8 [1, 2, 3, 4]) _ 4 rfl hW.size (by omega)⟩
    refine GOps.cons_ (fun f w' K hW hd hK => ?_) ?_
    · try simp only [depsOf, depsL, Region.binds, depsHold, nthS, List.getD_cons_zero, List.getD_cons_succ, isV, ownV, anyV, if_true, and_true, true_and] at hd
      go_simp
      exact hK _ _ ((Below.refl _ _).alloc (Nat.le_refl _) _) ⟨_, _, _, rfl, Own.new w' (cb .u8 [1, 9, 3, 4]) _ 4 rfl hW.size (by omega)⟩
    refine GOps.cons_ (fun f w' K hW hd hK => ?_) ?_
    · try simp only [depsOf, depsL, Region.binds, depsHold, nthS, List.getD_cons_zero, List.getD_cons_succ, isV, ownV, anyV, if_true, and_true, true_and] at hd
      obtain ⟨⟨A1, n1, c1, e1, ho1⟩, ⟨A2, n2, c2, e2, ho2⟩⟩ := hd
      go_simp
      refine (make_any A1 A2 n1 c1 n2 c2 [1, 2, 3, 4] [1, 9, 3, 4] _ ho1.rd.2.2 ho1.rd.1 ho2.rd.2.2 ho2.rd.1 (by rw [ho1.rd.1]; simp) (by rw [ho2.rd.1]; simp) ho2.rd.2.1).mono ?_
      rw [ex_make]
      rintro e w1 ⟨A3, n3, c3, rfl, ho3, hb3⟩
      exact ⟨_, rfl, hK _ _ hb3 ⟨A3, n3, c3, rfl, ho3.less hW.size⟩⟩
    refine GOps.cons_ (fun f w' K hW hd hK => ?_) ?_
    · try simp only [depsOf, depsL, Region.binds, depsHold, nthS, List.getD_cons_zero, List.getD_cons_succ, isV, ownV, anyV, if_true, and_true, true_and] at hd
      obtain ⟨⟨A1, n1, c1, e1, ho1⟩, _⟩ := hd
      go_simp
      exact hK _ _ (Below.refl _ _) ⟨_, _, _, rfl, ho1⟩
    exact GOps.nil_
  case hend1 =>
    intro f w1 hW1 hd
    simp only [List.length_cons, List.length_nil, Nat.reduceAdd, List.range, List.range.loop, depsHold, nthS, List.getD_cons_zero, List.getD_cons_succ, isV, ownV, anyV, true_and, and_true] at hd
    obtain ⟨_, _, _, A0, n0, c0, e0, ho0⟩ := hd
    rw [e0]
    go_upto_region 2 with (fail)
    refine wp_region_grow_plain (A := ?A2) [ownV w1.heap.size 5 (cb .u8 [1, 2, 3, 4]), isV (.slice A0 n0 c0), fun v w' => ∃ A n c, v = .tuple #[.slice A n c, .int .i64 0] ∧ Own w' w1.heap.size 5 (.slice A n c) (cb .u8 [1, 9, 3, 4]), fun v w' => ∃ A n c, v = .tuple #[.slice A n c, .int .i64 0] ∧ Own w' w1.heap.size 5 (.slice A n c) (cb .u8 [1, 9, 3, 4]), ownV w1.heap.size 5 (cb .u8 [1, 9, 3, 4]), isV (.int .i64 0), ownV w1.heap.size 5 (cb .u8 [1, 9, 3, 4]), isV (.int .i64 0)] (w1) (by kernel_rfl) (by kernel_rfl) (fun f => ?hA2) (Below.refl _ _) ?hst2 ?hops2 ?hend2
    case hA2 =>
      simp only [fillFrom, Nat.zero_add, Nat.reduceAdd]
      go_frame
      with_reducible rfl
    case hst2 => repeat (first | exact trivial | refine ⟨stab_is _ _, ?_⟩ | refine ⟨fun _ _ _ _ hb ⟨A, n, c, h, ho⟩ => ⟨A, n, c, h, ho.below hb⟩, ?_⟩ | refine ⟨stab_own _ _ _ _, ?_⟩ | refine ⟨stab_any _, ?_⟩ | refine ⟨stab_rd _ _ _, ?_⟩)
    case hops2 =>
      refine GOps.cons_ (fun f w' K hW hd hK => ?_) ?_
      · try simp only [depsOf, depsL, Region.binds, depsHold, nthS, List.getD_cons_zero, List.getD_cons_succ, isV, ownV, anyV, if_true, and_true, true_and] at hd
        go_simp
        exact hK _ _ ((Below.refl _ _).alloc (Nat.le_refl _) _) ⟨_, _, _, rfl, Own.new w' (cb .u8 [1, 2, 3, 4]) _ 4 rfl hW.size (by omega)⟩
      refine GOps.cons_ (fun f w' K hW hd hK => ?_) ?_
      · try simp only [depsOf, depsL, Region.binds, depsHold, nthS, List.getD_cons_zero, List.getD_cons_succ, isV, ownV, anyV, if_true, and_true, true_and] at hd
        go_simp
        refine hK _ _ (Below.refl _ _) ?_
        exact rfl
      refine GOps.cons_ (fun f w' K hW hd hK => ?_) ?_
      · try simp only [depsOf, depsL, Region.binds, depsHold, nthS, List.getD_cons_zero, List.getD_cons_succ, isV, ownV, anyV, if_true, and_true, true_and] at hd
        obtain ⟨⟨A1, n1, c1, e1, ho1⟩, e2⟩ := hd
        go_simp
        refine (apply_any A1 A0 n1 c1 n0 c0 [1, 2, 3, 4] [4, 1, 1, 9, 2, 0] _ ho1.rd.2.2 ho1.rd.1 ho1.rd.2.1 byt4 (ho0.below hW).rd.2.2 (ho0.below hW).rd.1 (ho0.below hW).rd.2.1 byt6 (by rw [ho1.rd.1]; simp) (by rw [(ho0.below hW).rd.1]; simp)).mono ?_
        rw [ex_app]
        rintro e w1 ⟨A3, n3, c3, rfl, ho3, hb3⟩
        exact ⟨_, rfl, hK _ _ hb3 ⟨A3, n3, c3, rfl, ho3.less hW.size⟩⟩
      refine GOps.cons_ (fun f w' K hW hd hK => ?_) ?_
      · try simp only [depsOf, depsL, Region.binds, depsHold, nthS, List.getD_cons_zero, List.getD_cons_succ, isV, ownV, anyV, if_true, and_true, true_and] at hd
        obtain ⟨A1, n1, c1, e1, ho1⟩ := hd
        go_simp
        exact hK _ _ (Below.refl _ _) ⟨_, _, _, rfl, ho1⟩
      refine GOps.cons_ (fun f w' K hW hd hK => ?_) ?_
      · try simp only [depsOf, depsL, Region.binds, depsHold, nthS, List.getD_cons_zero, List.getD_cons_succ, isV, ownV, anyV, if_true, and_true, true_and] at hd
        obtain ⟨A1, n1, c1, e1, ho1⟩ := hd
        go_simp
        exact hK _ _ (Below.refl _ _) ⟨_, _, _, rfl, ho1⟩
      refine GOps.cons_ (fun f w' K hW hd hK => ?_) ?_
      · try simp only [depsOf, depsL, Region.binds, depsHold, nthS, List.getD_cons_zero, List.getD_cons_succ, isV, ownV, anyV, if_true, and_true, true_and] at hd
        obtain ⟨⟨A1, n1, c1, e1, ho1⟩, _⟩ := hd
        go_simp
        exact hK _ _ (Below.refl _ _) rfl
      refine GOps.cons_ (fun f w' K hW hd hK => ?_) ?_
      · try simp only [depsOf, depsL, Region.binds, depsHold, nthS, List.getD_cons_zero, List.getD_cons_succ, isV, ownV, anyV, if_true, and_true, true_and] at hd
        obtain ⟨⟨A1, n1, c1, e1, ho1⟩, _⟩ := hd
        go_simp
        exact hK _ _ (Below.refl _ _) ⟨_, _, _, rfl, ho1⟩
      refine GOps.cons_ (fun f w' K hW hd hK => ?_) ?_
      · try simp only [depsOf, depsL, Region.binds, depsHold, nthS, List.getD_cons_zero, List.getD_cons_succ, isV, ownV, anyV, if_true, and_true, true_and] at hd
        go_simp
        refine hK _ _ (Below.refl _ _) ?_
        exact rfl
      exact GOps.nil_
    case hend2 =>
      intro f w2 hW2 hd
      simp only [List.length_cons, List.length_nil, Nat.reduceAdd, List.range, List.range.loop, depsHold, nthS, List.getD_cons_zero, List.getD_cons_succ, isV, ownV, anyV, true_and, and_true] at hd
      obtain ⟨_, _, _, _, _, _, ⟨A2, n2, c2, e2, ho2⟩, e7⟩ := hd
      rw [e2, e7]
      go_upto_region 3 with (fail)
      refine wp_region_grow_plain (A := ?A3) [ownV w2.heap.size 5 (cb .u8 [1]), ownV w2.heap.size 5 (cb .u8 [2, 2, 0]), fun v w' => ∃ A n c, v = .tuple #[.slice A n c, .int .i64 5] ∧ Own w' w2.heap.size 5 (.slice A n c) (cb .u8 []), fun v w' => ∃ A n c, v = .tuple #[.slice A n c, .int .i64 5] ∧ Own w' w2.heap.size 5 (.slice A n c) (cb .u8 []), ownV w2.heap.size 5 (cb .u8 []), isV (.int .i64 5), ownV w2.heap.size 5 (cb .u8 []), isV (.int .i64 5)] (w2) (by kernel_rfl) (by kernel_rfl) (fun f => ?hA3) (Below.refl _ _) ?hst3 ?hops3 ?hend3
      case hA3 =>
        simp only [fillFrom, Nat.zero_add, Nat.reduceAdd]
        go_frame
        with_reducible rfl
      case hst3 => repeat (first | exact trivial | refine ⟨stab_is _ _, ?_⟩ | refine ⟨fun _ _ _ _ hb ⟨A, n, c, h, ho⟩ => ⟨A, n, c, h, ho.below hb⟩, ?_⟩ | refine ⟨stab_own _ _ _ _, ?_⟩ | refine ⟨stab_any _, ?_⟩ | refine ⟨stab_rd _ _ _, ?_⟩)
      case hops3 =>
        refine GOps.cons_ (fun f w' K hW hd hK => ?_) ?_
        · try simp only [depsOf, depsL, Region.binds, depsHold, nthS, List.getD_cons_zero, List.getD_cons_succ, isV, ownV, anyV, if_true, and_true, true_and] at hd
          go_simp
          exact hK _ _ ((Below.refl _ _).alloc (Nat.le_refl _) _) ⟨_, _, _, rfl, Own.new w' (cb .u8 [1]) _ 1 rfl hW.size (by omega)⟩
        refine GOps.cons_ (fun f w' K hW hd hK => ?_) ?_
        · try simp only [depsOf, depsL, Region.binds, depsHold, nthS, List.getD_cons_zero, List.getD_cons_succ, isV, ownV, anyV, if_true, and_true, true_and] at hd
          go_simp
          exact hK _ _ ((Below.refl _ _).alloc (Nat.le_refl _) _) ⟨_, _, _, rfl, Own.new w' (cb .u8 [2, 2, 0]) _ 3 rfl hW.size (by omega)⟩
        refine GOps.cons_ (fun f w' K hW hd hK => ?_) ?_
        · try simp only [depsOf, depsL, Region.binds, depsHold, nthS, List.getD_cons_zero, List.getD_cons_succ, isV, ownV, anyV, if_true, and_true, true_and] at hd
          obtain ⟨⟨A1, n1, c1, e1, ho1⟩, ⟨A2, n2, c2, e2, ho2⟩⟩ := hd
          go_simp
          refine (apply_any A1 A2 n1 c1 n2 c2 [1] [2, 2, 0] _ ho1.rd.2.2 ho1.rd.1 ho1.rd.2.1 byt1 ho2.rd.2.2 ho2.rd.1 ho2.rd.2.1 byt3 (by rw [ho1.rd.1]; simp) (by rw [ho2.rd.1]; simp)).mono ?_
          rw [ex_app2]
          rintro e w1 ⟨A3, n3, c3, rfl, ho3, hb3⟩
          exact ⟨_, rfl, hK _ _ hb3 ⟨A3, n3, c3, rfl, ho3.less hW.size⟩⟩
        refine GOps.cons_ (fun f w' K hW hd hK => ?_) ?_
        · try simp only [depsOf, depsL, Region.binds, depsHold, nthS, List.getD_cons_zero, List.getD_cons_succ, isV, ownV, anyV, if_true, and_true, true_and] at hd
          obtain ⟨A1, n1, c1, e1, ho1⟩ := hd
          go_simp
          exact hK _ _ (Below.refl _ _) ⟨_, _, _, rfl, ho1⟩
        refine GOps.cons_ (fun f w' K hW hd hK => ?_) ?_
        · try simp only [depsOf, depsL, Region.binds, depsHold, nthS, List.getD_cons_zero, List.getD_cons_succ, isV, ownV, anyV, if_true, and_true, true_and] at hd
          obtain ⟨A1, n1, c1, e1, ho1⟩ := hd
          go_simp
          exact hK _ _ (Below.refl _ _) ⟨_, _, _, rfl, ho1⟩
        refine GOps.cons_ (fun f w' K hW hd hK => ?_) ?_
        · try simp only [depsOf, depsL, Region.binds, depsHold, nthS, List.getD_cons_zero, List.getD_cons_succ, isV, ownV, anyV, if_true, and_true, true_and] at hd
          obtain ⟨⟨A1, n1, c1, e1, ho1⟩, _⟩ := hd
          go_simp
          exact hK _ _ (Below.refl _ _) rfl
        refine GOps.cons_ (fun f w' K hW hd hK => ?_) ?_
        · try simp only [depsOf, depsL, Region.binds, depsHold, nthS, List.getD_cons_zero, List.getD_cons_succ, isV, ownV, anyV, if_true, and_true, true_and] at hd
          obtain ⟨⟨A1, n1, c1, e1, ho1⟩, _⟩ := hd
          go_simp
          exact hK _ _ (Below.refl _ _) ⟨_, _, _, rfl, ho1⟩
        refine GOps.cons_ (fun f w' K hW hd hK => ?_) ?_
        · try simp only [depsOf, depsL, Region.binds, depsHold, nthS, List.getD_cons_zero, List.getD_cons_succ, isV, ownV, anyV, if_true, and_true, true_and] at hd
          go_simp
          refine hK _ _ (Below.refl _ _) ?_
          exact rfl
        exact GOps.nil_
      case hend3 =>
        intro f w3 hW3 hd
        simp only [List.length_cons, List.length_nil, Nat.reduceAdd, List.range, List.range.loop, depsHold, nthS, List.getD_cons_zero, List.getD_cons_succ, isV, ownV, anyV, true_and, and_true] at hd
        obtain ⟨_, _, _, _, _, _, ⟨A3, n3, c3, e3, ho3⟩, e7⟩ := hd
        rw [e3, e7]
        have hq0 := (ho0.below hW2).below hW3
        have hq2 := ho2.below hW3
        go_upto_region 4 with (fail)
        refine wp_region_grow_plain (A := ?A4) [isV (.slice A0 n0 c0), isV (.string (strOfNums [4, 1, 1, 9, 2, 0])), ownV w3.heap.size 5 (cb .u8 [4, 1, 1, 9, 2, 0]), isV (.string (strOfNums [4, 1, 1, 9, 2, 0])), isV (.bool true), isV (.bool true), isV (.slice A2 n2 c2), isV (.string (strOfNums [1, 9, 3, 4])), ownV w3.heap.size 5 (cb .u8 [1, 9, 3, 4]), isV (.string (strOfNums [1, 9, 3, 4])), isV (.bool true), isV (.bool true), isV (.bool true), isV (.int .i64 0), isV (.bool true), isV (.bool true), isV (.bool true), isV (.int .i64 5), isV (.bool true), isV (.bool true), isV (.bool true), isV (.slice A0 n0 c0), isV (.int .i64 4), isV (.bool true), isV (.bool true), isV (.bool true)] (w3) (by kernel_rfl) (by kernel_rfl) (fun f => ?hA4) (Below.refl _ _) ?hst4 ?hops4 ?hend4
        case hA4 =>
          simp only [fillFrom, Nat.zero_add, Nat.reduceAdd]
          go_frame
          with_reducible rfl
        case hst4 => repeat (first | exact trivial | refine ⟨stab_is _ _, ?_⟩ | refine ⟨fun _ _ _ _ hb ⟨A, n, c, h, ho⟩ => ⟨A, n, c, h, ho.below hb⟩, ?_⟩ | refine ⟨stab_own _ _ _ _, ?_⟩ | refine ⟨stab_any _, ?_⟩ | refine ⟨stab_rd _ _ _, ?_⟩)
        case hops4 =>
          refine GOps.cons_ (fun f w' K hW hd hK => ?_) ?_
          · try simp only [depsOf, depsL, Region.binds, depsHold, nthS, List.getD_cons_zero, List.getD_cons_succ, isV, ownV, anyV, if_true, and_true, true_and] at hd
            go_simp
            refine hK _ _ (Below.refl _ _) ?_
            exact rfl
          refine GOps.cons_ (fun f w' K hW hd hK => ?_) ?_
          · try simp only [depsOf, depsL, Region.binds, depsHold, nthS, List.getD_cons_zero, List.getD_cons_succ, isV, ownV, anyV, if_true, and_true, true_and] at hd
            have cv := conv_str (P := Try.prog) Try.underlying22 Try.underlying5 Try.underlying9 (hq0.below hW).rd.2.2 (c := c0) (n := n0) (by rw [hq0.rd.1]; simp)
            go_simp
            refine hK _ _ (Below.refl _ _) ?_
            exact rfl
          refine GOps.cons_ (fun f w' K hW hd hK => ?_) ?_
          · try simp only [depsOf, depsL, Region.binds, depsHold, nthS, List.getD_cons_zero, List.getD_cons_succ, isV, ownV, anyV, if_true, and_true, true_and] at hd
            go_simp
            exact hK _ _ ((Below.refl _ _).alloc (Nat.le_refl _) _) ⟨_, _, _, rfl, Own.new w' (cb .u8 [4, 1, 1, 9, 2, 0]) _ 6 rfl hW.size (by omega)⟩
          refine GOps.cons_ (fun f w' K hW hd hK => ?_) ?_
          · try simp only [depsOf, depsL, Region.binds, depsHold, nthS, List.getD_cons_zero, List.getD_cons_succ, isV, ownV, anyV, if_true, and_true, true_and] at hd
            obtain ⟨A1, n1, c1, e1, ho⟩ := hd
            have cv := conv_str (P := Try.prog) Try.underlying22 Try.underlying5 Try.underlying9 ho.rd.2.2 (c := c1) (n := n1) (by rw [ho.rd.1]; simp)
            go_simp
            refine hK _ _ (Below.refl _ _) ?_
            exact rfl
          refine GOps.cons_ (fun f w' K hW hd hK => ?_) ?_
          · try simp only [depsOf, depsL, Region.binds, depsHold, nthS, List.getD_cons_zero, List.getD_cons_succ, isV, ownV, anyV, if_true, and_true, true_and] at hd
            go_simp
            refine hK _ _ (Below.refl _ _) ?_
            exact rfl
          refine GOps.cons_ (fun f w' K hW hd hK => ?_) ?_
          · try simp only [depsOf, depsL, Region.binds, depsHold, nthS, List.getD_cons_zero, List.getD_cons_succ, isV, ownV, anyV, if_true, and_true, true_and] at hd
            go_simp
            refine hK _ _ (Below.refl _ _) ?_
            exact rfl
          refine GOps.cons_ (fun f w' K hW hd hK => ?_) ?_
          · try simp only [depsOf, depsL, Region.binds, depsHold, nthS, List.getD_cons_zero, List.getD_cons_succ, isV, ownV, anyV, if_true, and_true, true_and] at hd
            go_simp
            refine hK _ _ (Below.refl _ _) ?_
            exact rfl
          refine GOps.cons_ (fun f w' K hW hd hK => ?_) ?_
          · try simp only [depsOf, depsL, Region.binds, depsHold, nthS, List.getD_cons_zero, List.getD_cons_succ, isV, ownV, anyV, if_true, and_true, true_and] at hd
            have cv := conv_str (P := Try.prog) Try.underlying22 Try.underlying5 Try.underlying9 (hq2.below hW).rd.2.2 (c := c2) (n := n2) (by rw [hq2.rd.1]; simp)
            go_simp
            refine hK _ _ (Below.refl _ _) ?_
            exact rfl
          refine GOps.cons_ (fun f w' K hW hd hK => ?_) ?_
          · try simp only [depsOf, depsL, Region.binds, depsHold, nthS, List.getD_cons_zero, List.getD_cons_succ, isV, ownV, anyV, if_true, and_true, true_and] at hd
            go_simp
            exact hK _ _ ((Below.refl _ _).alloc (Nat.le_refl _) _) ⟨_, _, _, rfl, Own.new w' (cb .u8 [1, 9, 3, 4]) _ 4 rfl hW.size (by omega)⟩
          refine GOps.cons_ (fun f w' K hW hd hK => ?_) ?_
          · try simp only [depsOf, depsL, Region.binds, depsHold, nthS, List.getD_cons_zero, List.getD_cons_succ, isV, ownV, anyV, if_true, and_true, true_and] at hd
            obtain ⟨⟨A1, n1, c1, e1, ho⟩, _⟩ := hd
            have cv := conv_str (P := Try.prog) Try.underlying22 Try.underlying5 Try.underlying9 ho.rd.2.2 (c := c1) (n := n1) (by rw [ho.rd.1]; simp)
            go_simp
            refine hK _ _ (Below.refl _ _) ?_
            exact rfl
          refine GOps.cons_ (fun f w' K hW hd hK => ?_) ?_
          · try simp only [depsOf, depsL, Region.binds, depsHold, nthS, List.getD_cons_zero, List.getD_cons_succ, isV, ownV, anyV, if_true, and_true, true_and] at hd
            go_simp
            refine hK _ _ (Below.refl _ _) ?_
            exact rfl
          refine GOps.cons_ (fun f w' K hW hd hK => ?_) ?_
          · try simp only [depsOf, depsL, Region.binds, depsHold, nthS, List.getD_cons_zero, List.getD_cons_succ, isV, ownV, anyV, if_true, and_true, true_and] at hd
            go_simp
            refine hK _ _ (Below.refl _ _) ?_
            exact rfl
          refine GOps.cons_ (fun f w' K hW hd hK => ?_) ?_
          · try simp only [depsOf, depsL, Region.binds, depsHold, nthS, List.getD_cons_zero, List.getD_cons_succ, isV, ownV, anyV, if_true, and_true, true_and] at hd
            go_simp
            refine hK _ _ (Below.refl _ _) ?_
            exact rfl
          refine GOps.cons_ (fun f w' K hW hd hK => ?_) ?_
          · try simp only [depsOf, depsL, Region.binds, depsHold, nthS, List.getD_cons_zero, List.getD_cons_succ, isV, ownV, anyV, if_true, and_true, true_and] at hd
            go_simp
            refine hK _ _ (Below.refl _ _) ?_
            exact rfl
          refine GOps.cons_ (fun f w' K hW hd hK => ?_) ?_
          · try simp only [depsOf, depsL, Region.binds, depsHold, nthS, List.getD_cons_zero, List.getD_cons_succ, isV, ownV, anyV, if_true, and_true, true_and] at hd
            go_simp
            refine hK _ _ (Below.refl _ _) ?_
            exact rfl
          refine GOps.cons_ (fun f w' K hW hd hK => ?_) ?_
          · try simp only [depsOf, depsL, Region.binds, depsHold, nthS, List.getD_cons_zero, List.getD_cons_succ, isV, ownV, anyV, if_true, and_true, true_and] at hd
            go_simp
            refine hK _ _ (Below.refl _ _) ?_
            exact rfl
          refine GOps.cons_ (fun f w' K hW hd hK => ?_) ?_
          · try simp only [depsOf, depsL, Region.binds, depsHold, nthS, List.getD_cons_zero, List.getD_cons_succ, isV, ownV, anyV, if_true, and_true, true_and] at hd
            go_simp
            refine hK _ _ (Below.refl _ _) ?_
            exact rfl
          refine GOps.cons_ (fun f w' K hW hd hK => ?_) ?_
          · try simp only [depsOf, depsL, Region.binds, depsHold, nthS, List.getD_cons_zero, List.getD_cons_succ, isV, ownV, anyV, if_true, and_true, true_and] at hd
            go_simp
            refine hK _ _ (Below.refl _ _) ?_
            exact rfl
          refine GOps.cons_ (fun f w' K hW hd hK => ?_) ?_
          · try simp only [depsOf, depsL, Region.binds, depsHold, nthS, List.getD_cons_zero, List.getD_cons_succ, isV, ownV, anyV, if_true, and_true, true_and] at hd
            go_simp
            refine hK _ _ (Below.refl _ _) ?_
            exact rfl
          refine GOps.cons_ (fun f w' K hW hd hK => ?_) ?_
          · try simp only [depsOf, depsL, Region.binds, depsHold, nthS, List.getD_cons_zero, List.getD_cons_succ, isV, ownV, anyV, if_true, and_true, true_and] at hd
            go_simp
            refine hK _ _ (Below.refl _ _) ?_
            exact rfl
          refine GOps.cons_ (fun f w' K hW hd hK => ?_) ?_
          · try simp only [depsOf, depsL, Region.binds, depsHold, nthS, List.getD_cons_zero, List.getD_cons_succ, isV, ownV, anyV, if_true, and_true, true_and] at hd
            go_simp
            refine hK _ _ (Below.refl _ _) ?_
            exact rfl
          refine GOps.cons_ (fun f w' K hW hd hK => ?_) ?_
          · try simp only [depsOf, depsL, Region.binds, depsHold, nthS, List.getD_cons_zero, List.getD_cons_succ, isV, ownV, anyV, if_true, and_true, true_and] at hd
            go_simp
            refine hK _ _ (Below.refl _ _) ?_
            exact rfl
          refine GOps.cons_ (fun f w' K hW hd hK => ?_) ?_
          · try simp only [depsOf, depsL, Region.binds, depsHold, nthS, List.getD_cons_zero, List.getD_cons_succ, isV, ownV, anyV, if_true, and_true, true_and] at hd
            go_simp
            refine (dsize_any A0 n0 c0 [4, 1, 1, 9, 2, 0] _ (hq0.below hW).rd.2.2 (hq0.below hW).rd.1 (hq0.below hW).rd.2.1 byt6 (by rw [(hq0.below hW).rd.1]; simp)).mono ?_
            rw [ex_size]
            rintro e w1 ⟨rfl, hb1⟩
            exact ⟨_, rfl, hK _ _ hb1 rfl⟩
          refine GOps.cons_ (fun f w' K hW hd hK => ?_) ?_
          · try simp only [depsOf, depsL, Region.binds, depsHold, nthS, List.getD_cons_zero, List.getD_cons_succ, isV, ownV, anyV, if_true, and_true, true_and] at hd
            go_simp
            refine hK _ _ (Below.refl _ _) ?_
            exact rfl
          refine GOps.cons_ (fun f w' K hW hd hK => ?_) ?_
          · try simp only [depsOf, depsL, Region.binds, depsHold, nthS, List.getD_cons_zero, List.getD_cons_succ, isV, ownV, anyV, if_true, and_true, true_and] at hd
            go_simp
            refine hK _ _ (Below.refl _ _) ?_
            exact rfl
          refine GOps.cons_ (fun f w' K hW hd hK => ?_) ?_
          · try simp only [depsOf, depsL, Region.binds, depsHold, nthS, List.getD_cons_zero, List.getD_cons_succ, isV, ownV, anyV, if_true, and_true, true_and] at hd
            go_simp
            refine hK _ _ (Below.refl _ _) ?_
            exact rfl
          exact GOps.nil_
        case hend4 =>
          intro f w' hW hd
          simp only [List.length_cons, List.length_nil, Nat.reduceAdd, List.range, List.range.loop, depsHold, nthS, List.getD_cons_zero, List.getD_cons_succ, isV, ownV, anyV, true_and, and_true] at hd
          have hl : f 25 = .bool true := by simp only [hd]
          go_wp2
          go_ret
          exact ⟨congrArg Ending.returned hl, ((hW1.trans (hW2.mono hW1.size)).trans (hW3.mono (Nat.le_trans hW1.size hW2.size))).trans (hW.mono (Nat.le_trans hW1.size (Nat.le_trans hW2.size hW3.size)))⟩
end Go.Proofs.Ytnhecajabkniaaa
