/- The laws DeltaOne and DeltaBack, walked. -/
import Derived.Test.YtnhecajabkniaaaDelJ
import Derived.Test.YtnhecajabkniaaaTexts
namespace Go.Proofs.Ytnhecajabkniaaa
open Go.RowKit Go.IntWalk
set_option maxRecDepth 100000
set_option linter.unusedVariables false
set_option linter.unusedSimpArgs false

set_option maxHeartbeats 6400000 in
theorem deltaOne_walk (A : Option Addr) (n c : Nat) (xs : List Int) (D : Option Addr) (m d : Nat) (ys : List Int) (H : Option Addr) (l h : Nat) (zs : List Int) (w : World) (hn0 : n = xs.length) (hr0 : Rd w w.heap.size A (cb .u8 xs)) (hw0 : ∀ x ∈ xs, (Lit.int .u8 x).wf = true) (hc0 : n ≤ c) (hm0 : c ≤ maxLen) (hn1 : m = ys.length) (hr1 : Rd w w.heap.size D (cb .u8 ys)) (hw1 : ∀ x ∈ ys, (Lit.int .u8 x).wf = true) (hc1 : m ≤ d) (hm1 : d ≤ maxLen) (hn2 : l = zs.length) (hr2 : Rd w w.heap.size H (cb .u8 zs)) (hw2 : ∀ x ∈ zs, (Lit.int .u8 x).wf = true) (hc2 : l ≤ h) (hm2 : h ≤ maxLen) :
    Calls Try.prog 5 #[.slice A n c, .slice D m d, .slice H l h] w fun e w' => e = .returned (.bool true) ∧ Below w.heap.size w w' := by
  unfold maxLen at hm0 hm1 hm2
  have hb0 : Byt xs := fun x hx => wf_u8 (hw0 x hx)
  have HN0 := Lib.hid hn0
  clear hw0 hn0
  have hb1 : Byt ys := fun x hx => wf_u8 (hw1 x hx)
  have HN1 := Lib.hid hn1
  clear hw1 hn1
  have hb2 : Byt zs := fun x hx => wf_u8 (hw2 x hx)
  have HN2 := Lib.hid hn2
  clear hw2 hn2
  by_cases h1 : 500 < n
  · go_enter Try.func5, Try.ntmps5
    go_wp2_with (go_at_call 7; refine (awake_any _).mono ?_; rintro e w1 ⟨rfl, hb1⟩)
    go_ret
    exact ⟨rfl, hb1⟩
  · by_cases h2 : 500 < m
    · go_enter Try.func5, Try.ntmps5
      go_wp2_with (go_at_call 7; refine (awake_any _).mono ?_; rintro e w1 ⟨rfl, hb1⟩)
      go_ret
      exact ⟨rfl, hb1⟩
    · by_cases h3 : 500 < l
      · go_enter Try.func5, Try.ntmps5
        go_wp2_with (go_at_call 7; refine (awake_any _).mono ?_; rintro e w1 ⟨rfl, hb1⟩)
        go_ret
        exact ⟨rfl, hb1⟩
      · by_cases hyz : ys = zs
        · subst hyz
          clear hb2
          go_enter Try.func5, Try.ntmps5
          go_wp2_with fail
          refine wp_region_grow (A := ?A1) [isV (.slice A n c), isV (.slice D m d), ownV w.heap.size 5 (cb .u8 (dMake xs ys)), isV (.string (strOfNums (dMake xs ys))), isV (.slice A n c), isV (.slice H l h), ownV w.heap.size 5 (cb .u8 (dMake xs ys)), isV (.string (strOfNums (dMake xs ys))), isV (.bool true), isV (.slice D m d), isV (.string (strOfNums ys)), isV (.slice H l h), isV (.string (strOfNums ys)), isV (.bool true), isV (.bool true), isV (.bool true), isV (.bool true), isV (.bool true), isV (.bool true)] (w) (by kernel_rfl) (by kernel_rfl) (fun f => ?hA1) (Below.refl _ _) ?hst1 ?hops1 ?hend1
          case hA1 =>
            simp only [fillFrom, Nat.zero_add, Nat.reduceAdd]
            go_frame
            with_reducible rfl
          case hst1 => repeat (first | exact trivial | refine ⟨stab_is _ _, ?_⟩ | refine ⟨stab_own _ _ _ _, ?_⟩ | refine ⟨stab_any _, ?_⟩ | refine ⟨stab_rd _ _ _, ?_⟩)
          case hops1 =>
            refine GOps.cons_ (fun f w' K hW hd hK => ?_) ?_
            · try simp only [depsOf, depsL, Region.binds, depsHold, nthS, List.getD_cons_zero, List.getD_cons_succ, isV, ownV, anyV, if_true, and_true, true_and] at hd
              go_simp
              refine hK _ _ (Below.refl _ _) ?_
              exact rfl
            refine GOps.cons_ (fun f w' K hW hd hK => ?_) ?_
            · try simp only [depsOf, depsL, Region.binds, depsHold, nthS, List.getD_cons_zero, List.getD_cons_succ, isV, ownV, anyV, if_true, and_true, true_and] at hd
              go_simp
              refine hK _ _ (Below.refl _ _) ?_
              exact rfl
            refine GOps.cons_ (fun f w' K hW hd hK => ?_) ?_
            · try simp only [depsOf, depsL, Region.binds, depsHold, nthS, List.getD_cons_zero, List.getD_cons_succ, isV, ownV, anyV, if_true, and_true, true_and] at hd
              go_simp
              refine (make_any A D n c m d xs ys _ (rd_at hr0 hW) HN0.out (rd_at hr1 hW) HN1.out (by omega) (by omega) hc1).mono ?_
              rintro e w1 ⟨A7, n7, c7, rfl, ho7, hb7⟩
              exact ⟨_, rfl, hK _ _ hb7 ⟨A7, n7, c7, rfl, ho7.less hW.size⟩⟩
            refine GOps.cons_ (fun f w' K hW hd hK => ?_) ?_
            · try simp only [depsOf, depsL, Region.binds, depsHold, nthS, List.getD_cons_zero, List.getD_cons_succ, isV, ownV, anyV, if_true, and_true, true_and] at hd
              obtain ⟨A1, n1, c1, e1, ho⟩ := hd
              have cv := conv_str (P := Try.prog) Try.underlying22 Try.underlying5 Try.underlying9 ho.rd.2.2 (c := c1) (n := n1) (by rw [ho.rd.1]; simp)
              go_simp
              refine hK _ _ (Below.refl _ _) ?_
              exact rfl
            refine GOps.cons_ (fun f w' K hW hd hK => ?_) ?_
            · try simp only [depsOf, depsL, Region.binds, depsHold, nthS, List.getD_cons_zero, List.getD_cons_succ, isV, ownV, anyV, if_true, and_true, true_and] at hd
              go_simp
              refine hK _ _ (Below.refl _ _) ?_
              exact rfl
            refine GOps.cons_ (fun f w' K hW hd hK => ?_) ?_
            · try simp only [depsOf, depsL, Region.binds, depsHold, nthS, List.getD_cons_zero, List.getD_cons_succ, isV, ownV, anyV, if_true, and_true, true_and] at hd
              go_simp
              refine hK _ _ (Below.refl _ _) ?_
              exact rfl
            refine GOps.cons_ (fun f w' K hW hd hK => ?_) ?_
            · try simp only [depsOf, depsL, Region.binds, depsHold, nthS, List.getD_cons_zero, List.getD_cons_succ, isV, ownV, anyV, if_true, and_true, true_and] at hd
              go_simp
              refine (make_any A H n c l h xs ys _ (rd_at hr0 hW) HN0.out (rd_at hr2 hW) HN2.out (by omega) (by omega) hc2).mono ?_
              rintro e w1 ⟨A7, n7, c7, rfl, ho7, hb7⟩
              exact ⟨_, rfl, hK _ _ hb7 ⟨A7, n7, c7, rfl, ho7.less hW.size⟩⟩
            refine GOps.cons_ (fun f w' K hW hd hK => ?_) ?_
            · try simp only [depsOf, depsL, Region.binds, depsHold, nthS, List.getD_cons_zero, List.getD_cons_succ, isV, ownV, anyV, if_true, and_true, true_and] at hd
              obtain ⟨A1, n1, c1, e1, ho⟩ := hd
              have cv := conv_str (P := Try.prog) Try.underlying22 Try.underlying5 Try.underlying9 ho.rd.2.2 (c := c1) (n := n1) (by rw [ho.rd.1]; simp)
              go_simp
              refine hK _ _ (Below.refl _ _) ?_
              exact rfl
            refine GOps.cons_ (fun f w' K hW hd hK => ?_) ?_
            · try simp only [depsOf, depsL, Region.binds, depsHold, nthS, List.getD_cons_zero, List.getD_cons_succ, isV, ownV, anyV, if_true, and_true, true_and] at hd
              go_simp
              refine hK _ _ (Below.refl _ _) ?_
              exact rfl
            refine GOps.cons_ (fun f w' K hW hd hK => ?_) ?_
            · try simp only [depsOf, depsL, Region.binds, depsHold, nthS, List.getD_cons_zero, List.getD_cons_succ, isV, ownV, anyV, if_true, and_true, true_and] at hd
              go_simp
              refine hK _ _ (Below.refl _ _) ?_
              exact rfl
            refine GOps.cons_ (fun f w' K hW hd hK => ?_) ?_
            · try simp only [depsOf, depsL, Region.binds, depsHold, nthS, List.getD_cons_zero, List.getD_cons_succ, isV, ownV, anyV, if_true, and_true, true_and] at hd
              have cv := conv_str (P := Try.prog) Try.underlying22 Try.underlying5 Try.underlying9 (hr1.below hW) (c := d) (n := m) HN1.out
              go_simp
              refine hK _ _ (Below.refl _ _) ?_
              exact rfl
            refine GOps.cons_ (fun f w' K hW hd hK => ?_) ?_
            · try simp only [depsOf, depsL, Region.binds, depsHold, nthS, List.getD_cons_zero, List.getD_cons_succ, isV, ownV, anyV, if_true, and_true, true_and] at hd
              go_simp
              refine hK _ _ (Below.refl _ _) ?_
              exact rfl
            refine GOps.cons_ (fun f w' K hW hd hK => ?_) ?_
            · try simp only [depsOf, depsL, Region.binds, depsHold, nthS, List.getD_cons_zero, List.getD_cons_succ, isV, ownV, anyV, if_true, and_true, true_and] at hd
              have cv := conv_str (P := Try.prog) Try.underlying22 Try.underlying5 Try.underlying9 (hr2.below hW) (c := h) (n := l) HN2.out
              go_simp
              refine hK _ _ (Below.refl _ _) ?_
              exact rfl
            refine GOps.cons_ (fun f w' K hW hd hK => ?_) ?_
            · try simp only [depsOf, depsL, Region.binds, depsHold, nthS, List.getD_cons_zero, List.getD_cons_succ, isV, ownV, anyV, if_true, and_true, true_and] at hd
              go_simp
              refine hK _ _ (Below.refl _ _) ?_
              exact rfl
            refine GOps.cons_ (fun f w' K hW hd hK => ?_) ?_
            · try simp only [depsOf, depsL, Region.binds, depsHold, nthS, List.getD_cons_zero, List.getD_cons_succ, isV, ownV, anyV, if_true, and_true, true_and] at hd
              go_simp
              refine hK _ _ (Below.refl _ _) ?_
              exact rfl
            refine GOps.cons_ (fun f w' K hW hd hK => ?_) ?_
            · try simp only [depsOf, depsL, Region.binds, depsHold, nthS, List.getD_cons_zero, List.getD_cons_succ, isV, ownV, anyV, if_true, and_true, true_and] at hd
              go_simp
              refine hK _ _ (Below.refl _ _) ?_
              exact rfl
            refine GOps.cons_ (fun f w' K hW hd hK => ?_) ?_
            · try simp only [depsOf, depsL, Region.binds, depsHold, nthS, List.getD_cons_zero, List.getD_cons_succ, isV, ownV, anyV, if_true, and_true, true_and] at hd
              go_simp
              refine (awake_any _).mono ?_
              rintro e w1 ⟨rfl, hb⟩
              exact ⟨_, rfl, hK _ _ hb rfl⟩
            refine GOps.cons_ (fun f w' K hW hd hK => ?_) ?_
            · try simp only [depsOf, depsL, Region.binds, depsHold, nthS, List.getD_cons_zero, List.getD_cons_succ, isV, ownV, anyV, if_true, and_true, true_and] at hd
              go_simp
              refine hK _ _ (Below.refl _ _) ?_
              exact rfl
            refine GOps.cons_ (fun f w' K hW hd hK => ?_) ?_
            · try simp only [depsOf, depsL, Region.binds, depsHold, nthS, List.getD_cons_zero, List.getD_cons_succ, isV, ownV, anyV, if_true, and_true, true_and] at hd
              go_simp
              refine hK _ _ (Below.refl _ _) ?_
              exact rfl
            exact GOps.nil_
          case hend1 =>
            intro f w' hW hd
            simp only [List.length_cons, List.length_nil, Nat.reduceAdd, List.range, List.range.loop, depsHold, nthS, List.getD_cons_zero, List.getD_cons_succ, isV, ownV, anyV, true_and, and_true] at hd
            have hl : f 18 = .bool true := by simp only [hd]
            go_wp2
            go_ret
            exact ⟨congrArg Ending.returned hl, hW⟩
        · have e1 : ((strOfNums ys).toList == (strOfNums zs).toList) = false := by
            rw [toList_beq, tB_str hb1, tB_str hb2, beq_eq_false_iff_ne]; exact hyz
          have e2 : ((strOfNums (dMake xs ys)).toList == (strOfNums (dMake xs zs)).toList) = false := by
            rw [toList_beq, tB_str (dMake_byt xs ys hb1), tB_str (dMake_byt xs zs hb2), beq_eq_false_iff_ne]
            intro h
            exact hyz (dMake_inj xs ys zs hb1 hb2 (by rw [← HN1.out]; omega) (by rw [← HN2.out]; omega) h)
          clear hyz
          go_enter Try.func5, Try.ntmps5
          go_wp2_with fail
          refine wp_region_grow (A := ?A2) [isV (.slice A n c), isV (.slice D m d), ownV w.heap.size 5 (cb .u8 (dMake xs ys)), isV (.string (strOfNums (dMake xs ys))), isV (.slice A n c), isV (.slice H l h), ownV w.heap.size 5 (cb .u8 (dMake xs zs)), isV (.string (strOfNums (dMake xs zs))), isV (.bool false), isV (.slice D m d), isV (.string (strOfNums ys)), isV (.slice H l h), isV (.string (strOfNums zs)), isV (.bool false), isV (.bool true), isV (.bool true), isV (.bool true), isV (.bool true), isV (.bool true)] (w) (by kernel_rfl) (by kernel_rfl) (fun f => ?hA2) (Below.refl _ _) ?hst2 ?hops2 ?hend2
          case hA2 =>
            simp only [fillFrom, Nat.zero_add, Nat.reduceAdd]
            go_frame
            with_reducible rfl
          case hst2 => repeat (first | exact trivial | refine ⟨stab_is _ _, ?_⟩ | refine ⟨stab_own _ _ _ _, ?_⟩ | refine ⟨stab_any _, ?_⟩ | refine ⟨stab_rd _ _ _, ?_⟩)
          case hops2 =>
            refine GOps.cons_ (fun f w' K hW hd hK => ?_) ?_
            · try simp only [depsOf, depsL, Region.binds, depsHold, nthS, List.getD_cons_zero, List.getD_cons_succ, isV, ownV, anyV, if_true, and_true, true_and] at hd
              go_simp
              refine hK _ _ (Below.refl _ _) ?_
              exact rfl
            refine GOps.cons_ (fun f w' K hW hd hK => ?_) ?_
            · try simp only [depsOf, depsL, Region.binds, depsHold, nthS, List.getD_cons_zero, List.getD_cons_succ, isV, ownV, anyV, if_true, and_true, true_and] at hd
              go_simp
              refine hK _ _ (Below.refl _ _) ?_
              exact rfl
            refine GOps.cons_ (fun f w' K hW hd hK => ?_) ?_
            · try simp only [depsOf, depsL, Region.binds, depsHold, nthS, List.getD_cons_zero, List.getD_cons_succ, isV, ownV, anyV, if_true, and_true, true_and] at hd
              go_simp
              refine (make_any A D n c m d xs ys _ (rd_at hr0 hW) HN0.out (rd_at hr1 hW) HN1.out (by omega) (by omega) hc1).mono ?_
              rintro e w1 ⟨A7, n7, c7, rfl, ho7, hb7⟩
              exact ⟨_, rfl, hK _ _ hb7 ⟨A7, n7, c7, rfl, ho7.less hW.size⟩⟩
            refine GOps.cons_ (fun f w' K hW hd hK => ?_) ?_
            · try simp only [depsOf, depsL, Region.binds, depsHold, nthS, List.getD_cons_zero, List.getD_cons_succ, isV, ownV, anyV, if_true, and_true, true_and] at hd
              obtain ⟨A1, n1, c1, e1, ho⟩ := hd
              have cv := conv_str (P := Try.prog) Try.underlying22 Try.underlying5 Try.underlying9 ho.rd.2.2 (c := c1) (n := n1) (by rw [ho.rd.1]; simp)
              go_simp
              refine hK _ _ (Below.refl _ _) ?_
              exact rfl
            refine GOps.cons_ (fun f w' K hW hd hK => ?_) ?_
            · try simp only [depsOf, depsL, Region.binds, depsHold, nthS, List.getD_cons_zero, List.getD_cons_succ, isV, ownV, anyV, if_true, and_true, true_and] at hd
              go_simp
              refine hK _ _ (Below.refl _ _) ?_
              exact rfl
            refine GOps.cons_ (fun f w' K hW hd hK => ?_) ?_
            · try simp only [depsOf, depsL, Region.binds, depsHold, nthS, List.getD_cons_zero, List.getD_cons_succ, isV, ownV, anyV, if_true, and_true, true_and] at hd
              go_simp
              refine hK _ _ (Below.refl _ _) ?_
              exact rfl
            refine GOps.cons_ (fun f w' K hW hd hK => ?_) ?_
            · try simp only [depsOf, depsL, Region.binds, depsHold, nthS, List.getD_cons_zero, List.getD_cons_succ, isV, ownV, anyV, if_true, and_true, true_and] at hd
              go_simp
              refine (make_any A H n c l h xs zs _ (rd_at hr0 hW) HN0.out (rd_at hr2 hW) HN2.out (by omega) (by omega) hc2).mono ?_
              rintro e w1 ⟨A7, n7, c7, rfl, ho7, hb7⟩
              exact ⟨_, rfl, hK _ _ hb7 ⟨A7, n7, c7, rfl, ho7.less hW.size⟩⟩
            refine GOps.cons_ (fun f w' K hW hd hK => ?_) ?_
            · try simp only [depsOf, depsL, Region.binds, depsHold, nthS, List.getD_cons_zero, List.getD_cons_succ, isV, ownV, anyV, if_true, and_true, true_and] at hd
              obtain ⟨A1, n1, c1, e1, ho⟩ := hd
              have cv := conv_str (P := Try.prog) Try.underlying22 Try.underlying5 Try.underlying9 ho.rd.2.2 (c := c1) (n := n1) (by rw [ho.rd.1]; simp)
              go_simp
              refine hK _ _ (Below.refl _ _) ?_
              exact rfl
            refine GOps.cons_ (fun f w' K hW hd hK => ?_) ?_
            · try simp only [depsOf, depsL, Region.binds, depsHold, nthS, List.getD_cons_zero, List.getD_cons_succ, isV, ownV, anyV, if_true, and_true, true_and] at hd
              go_simp
              refine hK _ _ (Below.refl _ _) ?_
              exact rfl
            refine GOps.cons_ (fun f w' K hW hd hK => ?_) ?_
            · try simp only [depsOf, depsL, Region.binds, depsHold, nthS, List.getD_cons_zero, List.getD_cons_succ, isV, ownV, anyV, if_true, and_true, true_and] at hd
              go_simp
              refine hK _ _ (Below.refl _ _) ?_
              exact rfl
            refine GOps.cons_ (fun f w' K hW hd hK => ?_) ?_
            · try simp only [depsOf, depsL, Region.binds, depsHold, nthS, List.getD_cons_zero, List.getD_cons_succ, isV, ownV, anyV, if_true, and_true, true_and] at hd
              have cv := conv_str (P := Try.prog) Try.underlying22 Try.underlying5 Try.underlying9 (hr1.below hW) (c := d) (n := m) HN1.out
              go_simp
              refine hK _ _ (Below.refl _ _) ?_
              exact rfl
            refine GOps.cons_ (fun f w' K hW hd hK => ?_) ?_
            · try simp only [depsOf, depsL, Region.binds, depsHold, nthS, List.getD_cons_zero, List.getD_cons_succ, isV, ownV, anyV, if_true, and_true, true_and] at hd
              go_simp
              refine hK _ _ (Below.refl _ _) ?_
              exact rfl
            refine GOps.cons_ (fun f w' K hW hd hK => ?_) ?_
            · try simp only [depsOf, depsL, Region.binds, depsHold, nthS, List.getD_cons_zero, List.getD_cons_succ, isV, ownV, anyV, if_true, and_true, true_and] at hd
              have cv := conv_str (P := Try.prog) Try.underlying22 Try.underlying5 Try.underlying9 (hr2.below hW) (c := h) (n := l) HN2.out
              go_simp
              refine hK _ _ (Below.refl _ _) ?_
              exact rfl
            refine GOps.cons_ (fun f w' K hW hd hK => ?_) ?_
            · try simp only [depsOf, depsL, Region.binds, depsHold, nthS, List.getD_cons_zero, List.getD_cons_succ, isV, ownV, anyV, if_true, and_true, true_and] at hd
              go_simp
              refine hK _ _ (Below.refl _ _) ?_
              exact rfl
            refine GOps.cons_ (fun f w' K hW hd hK => ?_) ?_
            · try simp only [depsOf, depsL, Region.binds, depsHold, nthS, List.getD_cons_zero, List.getD_cons_succ, isV, ownV, anyV, if_true, and_true, true_and] at hd
              go_simp
              refine hK _ _ (Below.refl _ _) ?_
              exact rfl
            refine GOps.cons_ (fun f w' K hW hd hK => ?_) ?_
            · try simp only [depsOf, depsL, Region.binds, depsHold, nthS, List.getD_cons_zero, List.getD_cons_succ, isV, ownV, anyV, if_true, and_true, true_and] at hd
              go_simp
              refine hK _ _ (Below.refl _ _) ?_
              exact rfl
            refine GOps.cons_ (fun f w' K hW hd hK => ?_) ?_
            · try simp only [depsOf, depsL, Region.binds, depsHold, nthS, List.getD_cons_zero, List.getD_cons_succ, isV, ownV, anyV, if_true, and_true, true_and] at hd
              go_simp
              refine (awake_any _).mono ?_
              rintro e w1 ⟨rfl, hb⟩
              exact ⟨_, rfl, hK _ _ hb rfl⟩
            refine GOps.cons_ (fun f w' K hW hd hK => ?_) ?_
            · try simp only [depsOf, depsL, Region.binds, depsHold, nthS, List.getD_cons_zero, List.getD_cons_succ, isV, ownV, anyV, if_true, and_true, true_and] at hd
              go_simp
              refine hK _ _ (Below.refl _ _) ?_
              exact rfl
            refine GOps.cons_ (fun f w' K hW hd hK => ?_) ?_
            · try simp only [depsOf, depsL, Region.binds, depsHold, nthS, List.getD_cons_zero, List.getD_cons_succ, isV, ownV, anyV, if_true, and_true, true_and] at hd
              go_simp
              refine hK _ _ (Below.refl _ _) ?_
              exact rfl
            exact GOps.nil_
          case hend2 =>
            intro f w' hW hd
            simp only [List.length_cons, List.length_nil, Nat.reduceAdd, List.range, List.range.loop, depsHold, nthS, List.getD_cons_zero, List.getD_cons_succ, isV, ownV, anyV, true_and, and_true] at hd
            have hl : f 18 = .bool true := by simp only [hd]
            go_wp2
            go_ret
            exact ⟨congrArg Ending.returned hl, hW⟩
set_option maxHeartbeats 6400000 in
theorem deltaBack_walk (A : Option Addr) (n c : Nat) (xs : List Int) (D : Option Addr) (m d : Nat) (ys : List Int) (H : Option Addr) (l h : Nat) (zs : List Int) (w : World) (hn0 : n = xs.length) (hr0 : Rd w w.heap.size A (cb .u8 xs)) (hw0 : ∀ x ∈ xs, (Lit.int .u8 x).wf = true) (hc0 : n ≤ c) (hm0 : c ≤ maxLen) (hn1 : m = ys.length) (hr1 : Rd w w.heap.size D (cb .u8 ys)) (hw1 : ∀ x ∈ ys, (Lit.int .u8 x).wf = true) (hc1 : m ≤ d) (hm1 : d ≤ maxLen) (hn2 : l = zs.length) (hr2 : Rd w w.heap.size H (cb .u8 zs)) (hw2 : ∀ x ∈ zs, (Lit.int .u8 x).wf = true) (hc2 : l ≤ h) (hm2 : h ≤ maxLen) :
    Calls Try.prog 4 #[.slice A n c, .slice D m d, .slice H l h] w fun e w' => e = .returned (.bool true) ∧ Below w.heap.size w w' := by
  unfold maxLen at hm0 hm1 hm2
  have hb0 : Byt xs := fun x hx => wf_u8 (hw0 x hx)
  have HN0 := Lib.hid hn0
  clear hw0 hn0
  have hb1 : Byt ys := fun x hx => wf_u8 (hw1 x hx)
  have HN1 := Lib.hid hn1
  clear hw1 hn1
  have hb2 : Byt zs := fun x hx => wf_u8 (hw2 x hx)
  have HN2 := Lib.hid hn2
  clear hw2 hn2
  by_cases h1 : 500 < n
  · go_enter Try.func4, Try.ntmps4
    go_wp2_with (go_at_call 7; refine (awake_any _).mono ?_; rintro e w1 ⟨rfl, hb1⟩)
    go_ret
    exact ⟨rfl, hb1⟩
  · by_cases h2 : 500 < m
    · go_enter Try.func4, Try.ntmps4
      go_wp2_with (go_at_call 7; refine (awake_any _).mono ?_; rintro e w1 ⟨rfl, hb1⟩)
      go_ret
      exact ⟨rfl, hb1⟩
    · by_cases h3 : 500 < l
      · go_enter Try.func4, Try.ntmps4
        go_wp2_with (go_at_call 7; refine (awake_any _).mono ?_; rintro e w1 ⟨rfl, hb1⟩)
        go_ret
        exact ⟨rfl, hb1⟩
      · go_enter Try.func4, Try.ntmps4
        go_wp2_with fail
        refine (make_any A D n c m d xs ys _ hr0 HN0.out hr1 HN1.out (by omega) (by omega) hc1).mono ?_
        rintro e w1 ⟨A3, n3, c3, rfl, ho3, hB1⟩
        have hML := dMake_len xs ys (by rw [← HN1.out]; omega)
        have hn3 : n3 = (dMake xs ys).length := by rw [ho3.rd.1, cb_length]
        have HN3 := Lib.hid hn3
        have hn3l : n3 ≤ 20000 := by have := HN1.out; omega
        have HSZ : Hid (dSize (dMake xs ys) = (m : Int)) := by unfold Hid; rw [dSize_make xs ys (by rw [← HN1.out]; omega), HN1.out]
        clear hn3 hML
        go_wp2_with fail
        refine (apply_any A A3 n c n3 c3 xs (dMake xs ys) _ (rd_at hr0 hB1) HN0.out hc0 hb0 ho3.rd.2.2 HN3.out ho3.rd.2.1 (dMake_byt xs ys hb1) (by omega) (by omega)).mono ?_
        rw [dApp_back xs ys hb1 (by rw [← HN1.out]; omega)]
        rintro e w2 ⟨A4, n4, c4, rfl, ho4, hb_2⟩
        have hB2 := below_call hB1 hb_2
        have hq3 := ho3.below hb_2
        have hq1 := rd_at hr1 hB2
        go_upto_region 5 with (fail)
        refine wp_region_grow_plain (A := ?A4) [isV (.slice A4 n4 c4), isV (.string (strOfNums ys)), isV (.slice D m d), isV (.string (strOfNums ys)), isV (.bool true), isV (.bool false), isV (.bool false), isV (.int .i64 0), isV (.bool false), isV (.bool false), isV (.bool false), isV (.slice A3 n3 c3), isV (.int .i64 m), isV (.slice D m d), isV (.int .i64 m), isV (.bool false), isV (.bool false)] (w2) (by kernel_rfl) (by kernel_rfl) (fun f => ?hA4) (Below.refl _ _) ?hst4 ?hops4 ?hend4
        case hA4 =>
          simp only [fillFrom, Nat.zero_add, Nat.reduceAdd]
          go_frame
          with_reducible rfl
        case hst4 => repeat (first | exact trivial | refine ⟨stab_is _ _, ?_⟩ | refine ⟨stab_own _ _ _ _, ?_⟩ | refine ⟨stab_any _, ?_⟩ | refine ⟨stab_rd _ _ _, ?_⟩)
        case hops4 =>
          refine GOps.cons_ (fun f w' K hW hd hK => ?_) ?_
          · try simp only [depsOf, depsL, Region.binds, depsHold, nthS, List.getD_cons_zero, List.getD_cons_succ, isV, ownV, anyV, if_true, and_true, true_and] at hd
            go_simp
            refine hK _ _ (Below.refl _ _) ?_
            exact rfl
          refine GOps.cons_ (fun f w' K hW hd hK => ?_) ?_
          · try simp only [depsOf, depsL, Region.binds, depsHold, nthS, List.getD_cons_zero, List.getD_cons_succ, isV, ownV, anyV, if_true, and_true, true_and] at hd
            have cv := conv_str (P := Try.prog) Try.underlying22 Try.underlying5 Try.underlying9 (ho4.below hW).rd.2.2 (c := c4) (n := n4) (by rw [ho4.rd.1]; simp)
            go_simp
            refine hK _ _ (Below.refl _ _) ?_
            exact rfl
          refine GOps.cons_ (fun f w' K hW hd hK => ?_) ?_
          · try simp only [depsOf, depsL, Region.binds, depsHold, nthS, List.getD_cons_zero, List.getD_cons_succ, isV, ownV, anyV, if_true, and_true, true_and] at hd
            go_simp
            refine hK _ _ (Below.refl _ _) ?_
            exact rfl
          refine GOps.cons_ (fun f w' K hW hd hK => ?_) ?_
          · try simp only [depsOf, depsL, Region.binds, depsHold, nthS, List.getD_cons_zero, List.getD_cons_succ, isV, ownV, anyV, if_true, and_true, true_and] at hd
            have cv := conv_str (P := Try.prog) Try.underlying22 Try.underlying5 Try.underlying9 (hq1.below hW) (c := d) (n := m) HN1.out
            go_simp
            refine hK _ _ (Below.refl _ _) ?_
            exact rfl
          refine GOps.cons_ (fun f w' K hW hd hK => ?_) ?_
          · try simp only [depsOf, depsL, Region.binds, depsHold, nthS, List.getD_cons_zero, List.getD_cons_succ, isV, ownV, anyV, if_true, and_true, true_and] at hd
            go_simp
            refine hK _ _ (Below.refl _ _) ?_
            exact rfl
          refine GOps.cons_ (fun f w' K hW hd hK => ?_) ?_
          · try simp only [depsOf, depsL, Region.binds, depsHold, nthS, List.getD_cons_zero, List.getD_cons_succ, isV, ownV, anyV, if_true, and_true, true_and] at hd
            go_simp
            refine hK _ _ (Below.refl _ _) ?_
            exact rfl
          refine GOps.cons_ (fun f w' K hW hd hK => ?_) ?_
          · try simp only [depsOf, depsL, Region.binds, depsHold, nthS, List.getD_cons_zero, List.getD_cons_succ, isV, ownV, anyV, if_true, and_true, true_and] at hd
            go_simp
            refine hK _ _ (Below.refl _ _) ?_
            exact rfl
          refine GOps.cons_ (fun f w' K hW hd hK => ?_) ?_
          · try simp only [depsOf, depsL, Region.binds, depsHold, nthS, List.getD_cons_zero, List.getD_cons_succ, isV, ownV, anyV, if_true, and_true, true_and] at hd
            go_simp
            refine hK _ _ (Below.refl _ _) ?_
            exact rfl
          refine GOps.cons_ (fun f w' K hW hd hK => ?_) ?_
          · try simp only [depsOf, depsL, Region.binds, depsHold, nthS, List.getD_cons_zero, List.getD_cons_succ, isV, ownV, anyV, if_true, and_true, true_and] at hd
            go_simp
            refine hK _ _ (Below.refl _ _) ?_
            exact rfl
          refine GOps.cons_ (fun f w' K hW hd hK => ?_) ?_
          · try simp only [depsOf, depsL, Region.binds, depsHold, nthS, List.getD_cons_zero, List.getD_cons_succ, isV, ownV, anyV, if_true, and_true, true_and] at hd
            go_simp
            refine hK _ _ (Below.refl _ _) ?_
            exact rfl
          refine GOps.cons_ (fun f w' K hW hd hK => ?_) ?_
          · try simp only [depsOf, depsL, Region.binds, depsHold, nthS, List.getD_cons_zero, List.getD_cons_succ, isV, ownV, anyV, if_true, and_true, true_and] at hd
            go_simp
            refine hK _ _ (Below.refl _ _) ?_
            exact rfl
          refine GOps.cons_ (fun f w' K hW hd hK => ?_) ?_
          · try simp only [depsOf, depsL, Region.binds, depsHold, nthS, List.getD_cons_zero, List.getD_cons_succ, isV, ownV, anyV, if_true, and_true, true_and] at hd
            go_simp
            refine hK _ _ (Below.refl _ _) ?_
            exact rfl
          refine GOps.cons_ (fun f w' K hW hd hK => ?_) ?_
          · try simp only [depsOf, depsL, Region.binds, depsHold, nthS, List.getD_cons_zero, List.getD_cons_succ, isV, ownV, anyV, if_true, and_true, true_and] at hd
            go_simp
            refine (dsize_any A3 n3 c3 (dMake xs ys) _ (hq3.below hW).rd.2.2 (by rw [hq3.rd.1]; simp) (hq3.below hW).rd.2.1 (dMake_byt xs ys hb1) (by omega)).mono ?_
            rw [HSZ.out]
            rintro e w1 ⟨rfl, hb⟩
            exact ⟨_, rfl, hK _ _ hb rfl⟩
          refine GOps.cons_ (fun f w' K hW hd hK => ?_) ?_
          · try simp only [depsOf, depsL, Region.binds, depsHold, nthS, List.getD_cons_zero, List.getD_cons_succ, isV, ownV, anyV, if_true, and_true, true_and] at hd
            go_simp
            refine hK _ _ (Below.refl _ _) ?_
            exact rfl
          refine GOps.cons_ (fun f w' K hW hd hK => ?_) ?_
          · try simp only [depsOf, depsL, Region.binds, depsHold, nthS, List.getD_cons_zero, List.getD_cons_succ, isV, ownV, anyV, if_true, and_true, true_and] at hd
            go_simp
            refine hK _ _ (Below.refl _ _) ?_
            exact rfl
          refine GOps.cons_ (fun f w' K hW hd hK => ?_) ?_
          · try simp only [depsOf, depsL, Region.binds, depsHold, nthS, List.getD_cons_zero, List.getD_cons_succ, isV, ownV, anyV, if_true, and_true, true_and] at hd
            go_simp
            refine hK _ _ (Below.refl _ _) ?_
            exact rfl
          refine GOps.cons_ (fun f w' K hW hd hK => ?_) ?_
          · try simp only [depsOf, depsL, Region.binds, depsHold, nthS, List.getD_cons_zero, List.getD_cons_succ, isV, ownV, anyV, if_true, and_true, true_and] at hd
            go_simp
            refine hK _ _ (Below.refl _ _) ?_
            exact rfl
          exact GOps.nil_
        case hend4 =>
          intro f w' hW hd
          simp only [List.length_cons, List.length_nil, Nat.reduceAdd, List.range, List.range.loop, depsHold, nthS, List.getD_cons_zero, List.getD_cons_succ, isV, ownV, anyV, true_and, and_true] at hd
          have hl : f 16 = .bool false := by simp only [hd]
          rw [hl]
          clear hd hl
          have hBw := hB2.trans (hW.mono hB2.size)
          obtain ⟨Y, E, hY⟩ : ∃ Y E, dApp xs zs = (Y, E) := ⟨_, _, rfl⟩
          have HY := Lib.hid hY
          by_cases hE : E = 0
          · subst hE
            obtain ⟨hm1, hm2, hm3⟩ := dApp_ok hb2 hY
            have HMY := Lib.hid hm1
            clear hY hm1
            go_wp2_with fail
            refine (apply_any A H n c l h xs zs _ (rd_at hr0 hBw) HN0.out hc0 hb0 (rd_at hr2 hBw) HN2.out hc2 hb2 (by omega) (by omega)).mono ?_
            rw [HY.out]
            rintro e w3 ⟨A5, n5, c5, rfl, ho5, hb_3⟩
            have hB3 := below_call hBw hb_3
            have hn5 : n5 = Y.length := by rw [ho5.rd.1, cb_length]
            have HN5 := Lib.hid hn5
            have hn5l : n5 ≤ 65536 := by omega
            have HSY : Hid (dSize zs = (n5 : Int)) := by unfold Hid; rw [hm3, hn5]
            have hq2 := rd_at hr2 hB3
            clear hn5 hm2 hm3
            go_upto_region 10 with (fail)
            refine wp_region_grow (A := ?A3) [isV (.slice A n c), isV (.slice A5 n5 c5), ownV w3.heap.size 5 (cb .u8 zs), isV (.string (strOfNums zs)), isV (.slice H l h), isV (.string (strOfNums zs)), isV (.bool true), isV (.bool true), isV (.slice H l h), isV (.int .i64 n5), isV (.slice A5 n5 c5), isV (.int .i64 n5), isV (.bool true), isV (.bool true), isV (.bool true), isV (.bool true), isV (.bool true), isV (.bool true)] (w3) (by kernel_rfl) (by kernel_rfl) (fun f => ?hA3) (Below.refl _ _) ?hst3 ?hops3 ?hend3
            case hA3 =>
              simp only [fillFrom, Nat.zero_add, Nat.reduceAdd]
              go_frame
              with_reducible rfl
            case hst3 => repeat (first | exact trivial | refine ⟨stab_is _ _, ?_⟩ | refine ⟨stab_own _ _ _ _, ?_⟩ | refine ⟨stab_any _, ?_⟩ | refine ⟨stab_rd _ _ _, ?_⟩)
            case hops3 =>
              refine GOps.cons_ (fun f w' K hW hd hK => ?_) ?_
              · try simp only [depsOf, depsL, Region.binds, depsHold, nthS, List.getD_cons_zero, List.getD_cons_succ, isV, ownV, anyV, if_true, and_true, true_and] at hd
                go_simp
                refine hK _ _ (Below.refl _ _) ?_
                exact rfl
              refine GOps.cons_ (fun f w' K hW hd hK => ?_) ?_
              · try simp only [depsOf, depsL, Region.binds, depsHold, nthS, List.getD_cons_zero, List.getD_cons_succ, isV, ownV, anyV, if_true, and_true, true_and] at hd
                go_simp
                refine hK _ _ (Below.refl _ _) ?_
                exact rfl
              refine GOps.cons_ (fun f w' K hW hd hK => ?_) ?_
              · try simp only [depsOf, depsL, Region.binds, depsHold, nthS, List.getD_cons_zero, List.getD_cons_succ, isV, ownV, anyV, if_true, and_true, true_and] at hd
                go_simp
                refine (make_any A A5 n c n5 c5 xs Y _ (rd_at hr0 (hB3.trans (hW.mono hB3.size))) HN0.out (ho5.below hW).rd.2.2 HN5.out (by omega) (by omega) (ho5.below hW).rd.2.1).mono ?_
                rw [HMY.out]
                rintro e w1 ⟨A7, n7, c7, rfl, ho7, hb7⟩
                exact ⟨_, rfl, hK _ _ hb7 ⟨A7, n7, c7, rfl, ho7.less hW.size⟩⟩
              refine GOps.cons_ (fun f w' K hW hd hK => ?_) ?_
              · try simp only [depsOf, depsL, Region.binds, depsHold, nthS, List.getD_cons_zero, List.getD_cons_succ, isV, ownV, anyV, if_true, and_true, true_and] at hd
                obtain ⟨A1, n1, c1, e1, ho⟩ := hd
                have cv := conv_str (P := Try.prog) Try.underlying22 Try.underlying5 Try.underlying9 ho.rd.2.2 (c := c1) (n := n1) (by rw [ho.rd.1]; simp)
                go_simp
                refine hK _ _ (Below.refl _ _) ?_
                exact rfl
              refine GOps.cons_ (fun f w' K hW hd hK => ?_) ?_
              · try simp only [depsOf, depsL, Region.binds, depsHold, nthS, List.getD_cons_zero, List.getD_cons_succ, isV, ownV, anyV, if_true, and_true, true_and] at hd
                go_simp
                refine hK _ _ (Below.refl _ _) ?_
                exact rfl
              refine GOps.cons_ (fun f w' K hW hd hK => ?_) ?_
              · try simp only [depsOf, depsL, Region.binds, depsHold, nthS, List.getD_cons_zero, List.getD_cons_succ, isV, ownV, anyV, if_true, and_true, true_and] at hd
                have cv := conv_str (P := Try.prog) Try.underlying22 Try.underlying5 Try.underlying9 (hq2.below hW) (c := h) (n := l) HN2.out
                go_simp
                refine hK _ _ (Below.refl _ _) ?_
                exact rfl
              refine GOps.cons_ (fun f w' K hW hd hK => ?_) ?_
              · try simp only [depsOf, depsL, Region.binds, depsHold, nthS, List.getD_cons_zero, List.getD_cons_succ, isV, ownV, anyV, if_true, and_true, true_and] at hd
                go_simp
                refine hK _ _ (Below.refl _ _) ?_
                exact rfl
              refine GOps.cons_ (fun f w' K hW hd hK => ?_) ?_
              · try simp only [depsOf, depsL, Region.binds, depsHold, nthS, List.getD_cons_zero, List.getD_cons_succ, isV, ownV, anyV, if_true, and_true, true_and] at hd
                go_simp
                refine hK _ _ (Below.refl _ _) ?_
                exact rfl
              refine GOps.cons_ (fun f w' K hW hd hK => ?_) ?_
              · try simp only [depsOf, depsL, Region.binds, depsHold, nthS, List.getD_cons_zero, List.getD_cons_succ, isV, ownV, anyV, if_true, and_true, true_and] at hd
                go_simp
                refine hK _ _ (Below.refl _ _) ?_
                exact rfl
              refine GOps.cons_ (fun f w' K hW hd hK => ?_) ?_
              · try simp only [depsOf, depsL, Region.binds, depsHold, nthS, List.getD_cons_zero, List.getD_cons_succ, isV, ownV, anyV, if_true, and_true, true_and] at hd
                go_simp
                refine (dsize_any H l h zs _ (rd_at hr2 (hB3.trans (hW.mono hB3.size))) HN2.out hc2 hb2 (by omega)).mono ?_
                rw [HSY.out]
                rintro e w1 ⟨rfl, hb⟩
                exact ⟨_, rfl, hK _ _ hb rfl⟩
              refine GOps.cons_ (fun f w' K hW hd hK => ?_) ?_
              · try simp only [depsOf, depsL, Region.binds, depsHold, nthS, List.getD_cons_zero, List.getD_cons_succ, isV, ownV, anyV, if_true, and_true, true_and] at hd
                go_simp
                refine hK _ _ (Below.refl _ _) ?_
                exact rfl
              refine GOps.cons_ (fun f w' K hW hd hK => ?_) ?_
              · try simp only [depsOf, depsL, Region.binds, depsHold, nthS, List.getD_cons_zero, List.getD_cons_succ, isV, ownV, anyV, if_true, and_true, true_and] at hd
                go_simp
                refine hK _ _ (Below.refl _ _) ?_
                exact rfl
              refine GOps.cons_ (fun f w' K hW hd hK => ?_) ?_
              · try simp only [depsOf, depsL, Region.binds, depsHold, nthS, List.getD_cons_zero, List.getD_cons_succ, isV, ownV, anyV, if_true, and_true, true_and] at hd
                go_simp
                refine hK _ _ (Below.refl _ _) ?_
                exact rfl
              refine GOps.cons_ (fun f w' K hW hd hK => ?_) ?_
              · try simp only [depsOf, depsL, Region.binds, depsHold, nthS, List.getD_cons_zero, List.getD_cons_succ, isV, ownV, anyV, if_true, and_true, true_and] at hd
                go_simp
                refine hK _ _ (Below.refl _ _) ?_
                exact rfl
              refine GOps.cons_ (fun f w' K hW hd hK => ?_) ?_
              · try simp only [depsOf, depsL, Region.binds, depsHold, nthS, List.getD_cons_zero, List.getD_cons_succ, isV, ownV, anyV, if_true, and_true, true_and] at hd
                go_simp
                refine hK _ _ (Below.refl _ _) ?_
                exact rfl
              refine GOps.cons_ (fun f w' K hW hd hK => ?_) ?_
              · try simp only [depsOf, depsL, Region.binds, depsHold, nthS, List.getD_cons_zero, List.getD_cons_succ, isV, ownV, anyV, if_true, and_true, true_and] at hd
                go_simp
                refine (awake_any _).mono ?_
                rintro e w1 ⟨rfl, hb⟩
                exact ⟨_, rfl, hK _ _ hb rfl⟩
              refine GOps.cons_ (fun f w' K hW hd hK => ?_) ?_
              · try simp only [depsOf, depsL, Region.binds, depsHold, nthS, List.getD_cons_zero, List.getD_cons_succ, isV, ownV, anyV, if_true, and_true, true_and] at hd
                go_simp
                refine hK _ _ (Below.refl _ _) ?_
                exact rfl
              refine GOps.cons_ (fun f w' K hW hd hK => ?_) ?_
              · try simp only [depsOf, depsL, Region.binds, depsHold, nthS, List.getD_cons_zero, List.getD_cons_succ, isV, ownV, anyV, if_true, and_true, true_and] at hd
                go_simp
                refine hK _ _ (Below.refl _ _) ?_
                exact rfl
              exact GOps.nil_
            case hend3 =>
              intro f w' hW hd
              simp only [List.length_cons, List.length_nil, Nat.reduceAdd, List.range, List.range.loop, depsHold, nthS, List.getD_cons_zero, List.getD_cons_succ, isV, ownV, anyV, true_and, and_true] at hd
              have hl : f 17 = .bool true := by simp only [hd]
              go_wp2
              go_ret
              exact ⟨congrArg Ending.returned hl, hB3.trans (hW.mono hB3.size)⟩
          · have hY0 : Y = [] := dApp_err_nil hY hE
            subst hY0
            have e0 : (E != 0) = true := by rw [bne_iff_ne]; exact hE
            clear hY
            go_wp2_with fail
            refine (apply_any A H n c l h xs zs _ (rd_at hr0 hBw) HN0.out hc0 hb0 (rd_at hr2 hBw) HN2.out hc2 hb2 (by omega) (by omega)).mono ?_
            rw [HY.out]
            rintro e w3 ⟨A5, n5, c5, rfl, ho5, hb_3⟩
            have hn5 : n5 = 0 := by rw [ho5.rd.1]; rfl
            subst hn5
            have hB3 := below_call hBw hb_3
            go_wp2_with (go_at_call 7; refine (awake_any _).mono ?_; rintro e w4 ⟨rfl, hb_4⟩)
            go_ret
            exact ⟨rfl, below_call hB3 hb_4⟩
end Go.Proofs.Ytnhecajabkniaaa
