/- The law OpCodes, walked. -/
import Derived.Test.YtfalhlnmjllfpaaOpK
import Derived.Test.YtfalhlnmjllfpaaGrow
namespace Go.Proofs.Ytfalhlnmjllfpaa
open Go.RowKit Go.IntWalk
set_option maxRecDepth 100000
set_option linter.unusedVariables false
set_option linter.unusedSimpArgs false

set_option maxHeartbeats 12800000 in
theorem opCodes_walk (op arg : Int) (A : Option Addr) (n c : Nat) (zs : List Int) (t : Int) (w : World) (ho : (Lit.int .i64 op).wf = true) (ha : (Lit.int .i64 arg).wf = true) (hn : n = zs.length) (hr : Rd w w.heap.size A (cb .u8 zs)) (hw : ∀ z ∈ zs, (Lit.int .u8 z).wf = true) (hc : n ≤ c) (hc' : c ≤ maxLen) (ht : (Lit.int .i64 t).wf = true) :
    Calls Try.prog 4 #[.agg #[.int .i64 op, .int .i64 arg], .slice A n c, .int .i64 t] w fun e w' => e = .returned (.bool true) ∧ Below w.heap.size w w' := by
  unfold maxLen at hc'
  have hb : Bts zs := fun z hz => wf_u8 (hw z hz)
  have HN := Lib.hid hn
  clear hn hw ho ha ht
  have hbx : Below w.heap.size w (w.alloc (.cells #[.int .i64 op, .int .i64 arg] 28)) := (Below.refl _ _).alloc (Nat.le_refl _) _
  by_cases h1 : 500 < n
  · go_enter Try.func4, Try.ntmps4
    go_wp2_with (go_at_call 8; refine (awake_any _).mono ?_; rintro e w1 ⟨rfl, hb1⟩)
    go_ret
    exact ⟨rfl, below_call hbx hb1⟩
  · go_enter Try.func4, Try.ntmps4
    go_wp2_with fail
    refine (opDec_any A n c zs t _ (rd_at hr hbx) HN.out hb hc hc' (by omega)).mono ?_
    rintro e w1 ⟨rfl, hb1⟩
    have hbel1 := below_call hbx hb1
    obtain ⟨hc1, hf1⟩ := bcell hb1
    obtain ⟨R1, R2, R3, R4, hR⟩ : ∃ R1 R2 R3 R4, opDec zs t = (R1, R2, R3, R4) := ⟨_, _, _, _, rfl⟩
    have HR := Lib.hid hR
    rw [hR]
    clear hR
    simp only
    go_wp2_with fail
    have hbA := hbel1.alloc hbel1.size (.cells #[.int .i64 R1, .int .i64 R2] 28)
    refine (ropDec_any A n c zs t _ (rd_at hr hbA) HN.out hb (by omega)).mono ?_
    rw [HR.out]
    rintro e w2 ⟨rfl, hb2⟩
    have hbel2 := below_call hbA hb2
    go_wp2_with fail
    have hbW := hbel2.alloc hbel2.size (.cells #[.int .i64 R1, .int .i64 R2] 28)
    have K3 := ((((Blk.new w 28 [.int .i64 op, .int .i64 arg]).below hb1 (by simp)).alloc (.cells #[.int .i64 R1, .int .i64 R2] 28)).below hb2 (by have := hb1.size; simp at this; simp; omega)).alloc (.cells #[.int .i64 R1, .int .i64 R2] 28)
    have K7 := ((Blk.new w1 28 [.int .i64 R1, .int .i64 R2]).below hb2 (by simp)).alloc (.cells #[.int .i64 R1, .int .i64 R2] 28)
    have K10 := Blk.new w2 28 [.int .i64 R1, .int .i64 R2]
    clear hc1 hf1 hb1 hb2 hbA hbel1 hbel2 HR hr
    generalize w2.alloc (.cells #[.int .i64 R1, .int .i64 R2] 28) = W3 at *
    generalize w1.heap.size = b7 at *
    generalize w2.heap.size = b10 at *
    have lt3 := K3.lt
    have lt7 := K7.lt
    have lt10 := K10.lt
    obtain ⟨k30, k31, _, _⟩ := K3.two
    obtain ⟨k70, k71, _, _⟩ := K7.two
    obtain ⟨k100, k101, _, _⟩ := K10.two
    have heq : ∀ w : World, (binOp .eql 28 (.agg #[.int .i64 R1, .int .i64 R2]) (.agg #[.int .i64 R1, .int .i64 R2])).run Try.prog w = .ok (.bool true) w := fun w => by rw [ins_eql]; simp
    have hgd := fun (x y : Operand) (w : World) => ins_guard .eql x y #[.int .i64 R1, .int .i64 R2] #[.int .i64 R1, .int .i64 R2] w
    refine wp_region_grow (A := ?A) [isV (.agg #[.int .i64 op, .int .i64 arg]), ownV W3.heap.size 5 (cb .u8 (opEnc op arg)), isV (.string (strOfNums (opEnc op arg))), isV (.agg #[.int .i64 op, .int .i64 arg]), ownV W3.heap.size 5 (cb .u8 (opEnc op arg)), isV (.string (strOfNums (opEnc op arg))), isV (.bool true), isV (.bool true), isV (.agg #[.int .i64 R1, .int .i64 R2]), isV (.agg #[.int .i64 R1, .int .i64 R2]), isV (.bool true), isV (.bool true), isV (.bool true), isV (.int .i64 R3), isV (.int .i64 R3), isV (.bool true), isV (.bool true), isV (.bool true), isV (.int .i64 R4), isV (.int .i64 R4), isV (.bool true), isV (.bool true), isV (.bool true), isV (.bool true), isV (.bool true), isV (.bool true)] (W3) (by kernel_rfl) (by kernel_rfl) (fun f => ?hA) (Below.refl _ _) ?hst ?hops ?hend
    case hA =>
      simp only [fillFrom, Nat.zero_add, Nat.reduceAdd]
      go_frame
      with_reducible rfl
    case hst => repeat (first | exact trivial | refine ⟨stab_is _ _, ?_⟩ | refine ⟨stab_own _ _ _ _, ?_⟩ | refine ⟨stab_any _, ?_⟩ | refine ⟨stab_rd _ _ _, ?_⟩)
    case hops =>
      refine GOps.cons_ (fun f w' K hW hd hK => ?_) ?_
      · try simp only [depsOf, depsL, Region.binds, depsHold, nthS, List.getD_cons_zero, List.getD_cons_succ, isV, ownV, anyV, if_true, and_true, true_and] at hd
        obtain ⟨cc, _⟩ := bcell hW
        go_simp
        refine hK _ _ (Below.refl _ _) ?_
        exact rfl
      refine GOps.cons_ (fun f w' K hW hd hK => ?_) ?_
      · try simp only [depsOf, depsL, Region.binds, depsHold, nthS, List.getD_cons_zero, List.getD_cons_succ, isV, ownV, anyV, if_true, and_true, true_and] at hd
        obtain ⟨cc, _⟩ := bcell hW
        go_simp
        refine (enc_any op arg _).mono ?_
        rintro e w1 ⟨A1, n1, c1, rfl, ho, hb⟩
        exact ⟨_, rfl, hK _ _ hb ⟨A1, n1, c1, rfl, ho.less hW.size⟩⟩
      refine GOps.cons_ (fun f w' K hW hd hK => ?_) ?_
      · try simp only [depsOf, depsL, Region.binds, depsHold, nthS, List.getD_cons_zero, List.getD_cons_succ, isV, ownV, anyV, if_true, and_true, true_and] at hd
        obtain ⟨cc, _⟩ := bcell hW
        obtain ⟨A1, n1, c1, e1, ho⟩ := hd
        have cv := conv_str (P := Try.prog) Try.underlying29 Try.underlying5 Try.underlying9 ho.rd.2.2 (c := c1) (n := n1) (by rw [ho.rd.1]; simp)
        go_simp
        refine hK _ _ (Below.refl _ _) ?_
        exact rfl
      refine GOps.cons_ (fun f w' K hW hd hK => ?_) ?_
      · try simp only [depsOf, depsL, Region.binds, depsHold, nthS, List.getD_cons_zero, List.getD_cons_succ, isV, ownV, anyV, if_true, and_true, true_and] at hd
        obtain ⟨cc, _⟩ := bcell hW
        go_simp
        refine hK _ _ (Below.refl _ _) ?_
        exact rfl
      refine GOps.cons_ (fun f w' K hW hd hK => ?_) ?_
      · try simp only [depsOf, depsL, Region.binds, depsHold, nthS, List.getD_cons_zero, List.getD_cons_succ, isV, ownV, anyV, if_true, and_true, true_and] at hd
        obtain ⟨cc, _⟩ := bcell hW
        go_simp
        refine (renc_any op arg _).mono ?_
        rintro e w1 ⟨A1, n1, c1, rfl, ho, hb⟩
        exact ⟨_, rfl, hK _ _ hb ⟨A1, n1, c1, rfl, ho.less hW.size⟩⟩
      refine GOps.cons_ (fun f w' K hW hd hK => ?_) ?_
      · try simp only [depsOf, depsL, Region.binds, depsHold, nthS, List.getD_cons_zero, List.getD_cons_succ, isV, ownV, anyV, if_true, and_true, true_and] at hd
        obtain ⟨cc, _⟩ := bcell hW
        obtain ⟨A1, n1, c1, e1, ho⟩ := hd
        have cv := conv_str (P := Try.prog) Try.underlying29 Try.underlying5 Try.underlying9 ho.rd.2.2 (c := c1) (n := n1) (by rw [ho.rd.1]; simp)
        go_simp
        refine hK _ _ (Below.refl _ _) ?_
        exact rfl
      refine GOps.cons_ (fun f w' K hW hd hK => ?_) ?_
      · try simp only [depsOf, depsL, Region.binds, depsHold, nthS, List.getD_cons_zero, List.getD_cons_succ, isV, ownV, anyV, if_true, and_true, true_and] at hd
        obtain ⟨cc, _⟩ := bcell hW
        go_simp
        refine hK _ _ (Below.refl _ _) ?_
        exact rfl
      refine GOps.cons_ (fun f w' K hW hd hK => ?_) ?_
      · try simp only [depsOf, depsL, Region.binds, depsHold, nthS, List.getD_cons_zero, List.getD_cons_succ, isV, ownV, anyV, if_true, and_true, true_and] at hd
        obtain ⟨cc, _⟩ := bcell hW
        go_simp
        refine hK _ _ (Below.refl _ _) ?_
        exact rfl
      refine GOps.cons_ (fun f w' K hW hd hK => ?_) ?_
      · try simp only [depsOf, depsL, Region.binds, depsHold, nthS, List.getD_cons_zero, List.getD_cons_succ, isV, ownV, anyV, if_true, and_true, true_and] at hd
        obtain ⟨cc, _⟩ := bcell hW
        go_simp
        refine hK _ _ (Below.refl _ _) ?_
        exact rfl
      refine GOps.cons_ (fun f w' K hW hd hK => ?_) ?_
      · try simp only [depsOf, depsL, Region.binds, depsHold, nthS, List.getD_cons_zero, List.getD_cons_succ, isV, ownV, anyV, if_true, and_true, true_and] at hd
        obtain ⟨cc, _⟩ := bcell hW
        go_simp
        refine hK _ _ (Below.refl _ _) ?_
        exact rfl
      refine GOps.cons_ (fun f w' K hW hd hK => ?_) ?_
      · try simp only [depsOf, depsL, Region.binds, depsHold, nthS, List.getD_cons_zero, List.getD_cons_succ, isV, ownV, anyV, if_true, and_true, true_and] at hd
        obtain ⟨cc, _⟩ := bcell hW
        go_simp
        refine hK _ _ (Below.refl _ _) ?_
        exact rfl
      refine GOps.cons_ (fun f w' K hW hd hK => ?_) ?_
      · try simp only [depsOf, depsL, Region.binds, depsHold, nthS, List.getD_cons_zero, List.getD_cons_succ, isV, ownV, anyV, if_true, and_true, true_and] at hd
        obtain ⟨cc, _⟩ := bcell hW
        go_simp
        refine hK _ _ (Below.refl _ _) ?_
        exact rfl
      refine GOps.cons_ (fun f w' K hW hd hK => ?_) ?_
      · try simp only [depsOf, depsL, Region.binds, depsHold, nthS, List.getD_cons_zero, List.getD_cons_succ, isV, ownV, anyV, if_true, and_true, true_and] at hd
        obtain ⟨cc, _⟩ := bcell hW
        go_simp
        refine hK _ _ (Below.refl _ _) ?_
        exact rfl
      refine GOps.cons_ (fun f w' K hW hd hK => ?_) ?_
      · try simp only [depsOf, depsL, Region.binds, depsHold, nthS, List.getD_cons_zero, List.getD_cons_succ, isV, ownV, anyV, if_true, and_true, true_and] at hd
        obtain ⟨cc, _⟩ := bcell hW
        go_simp
        refine hK _ _ (Below.refl _ _) ?_
        exact rfl
      refine GOps.cons_ (fun f w' K hW hd hK => ?_) ?_
      · try simp only [depsOf, depsL, Region.binds, depsHold, nthS, List.getD_cons_zero, List.getD_cons_succ, isV, ownV, anyV, if_true, and_true, true_and] at hd
        obtain ⟨cc, _⟩ := bcell hW
        go_simp
        refine hK _ _ (Below.refl _ _) ?_
        exact rfl
      refine GOps.cons_ (fun f w' K hW hd hK => ?_) ?_
      · try simp only [depsOf, depsL, Region.binds, depsHold, nthS, List.getD_cons_zero, List.getD_cons_succ, isV, ownV, anyV, if_true, and_true, true_and] at hd
        obtain ⟨cc, _⟩ := bcell hW
        go_simp
        refine hK _ _ (Below.refl _ _) ?_
        exact rfl
      refine GOps.cons_ (fun f w' K hW hd hK => ?_) ?_
      · try simp only [depsOf, depsL, Region.binds, depsHold, nthS, List.getD_cons_zero, List.getD_cons_succ, isV, ownV, anyV, if_true, and_true, true_and] at hd
        obtain ⟨cc, _⟩ := bcell hW
        go_simp
        refine hK _ _ (Below.refl _ _) ?_
        exact rfl
      refine GOps.cons_ (fun f w' K hW hd hK => ?_) ?_
      · try simp only [depsOf, depsL, Region.binds, depsHold, nthS, List.getD_cons_zero, List.getD_cons_succ, isV, ownV, anyV, if_true, and_true, true_and] at hd
        obtain ⟨cc, _⟩ := bcell hW
        go_simp
        refine hK _ _ (Below.refl _ _) ?_
        exact rfl
      refine GOps.cons_ (fun f w' K hW hd hK => ?_) ?_
      · try simp only [depsOf, depsL, Region.binds, depsHold, nthS, List.getD_cons_zero, List.getD_cons_succ, isV, ownV, anyV, if_true, and_true, true_and] at hd
        obtain ⟨cc, _⟩ := bcell hW
        go_simp
        refine hK _ _ (Below.refl _ _) ?_
        exact rfl
      refine GOps.cons_ (fun f w' K hW hd hK => ?_) ?_
      · try simp only [depsOf, depsL, Region.binds, depsHold, nthS, List.getD_cons_zero, List.getD_cons_succ, isV, ownV, anyV, if_true, and_true, true_and] at hd
        obtain ⟨cc, _⟩ := bcell hW
        go_simp
        refine hK _ _ (Below.refl _ _) ?_
        exact rfl
      refine GOps.cons_ (fun f w' K hW hd hK => ?_) ?_
      · try simp only [depsOf, depsL, Region.binds, depsHold, nthS, List.getD_cons_zero, List.getD_cons_succ, isV, ownV, anyV, if_true, and_true, true_and] at hd
        obtain ⟨cc, _⟩ := bcell hW
        go_simp
        refine hK _ _ (Below.refl _ _) ?_
        exact rfl
      refine GOps.cons_ (fun f w' K hW hd hK => ?_) ?_
      · try simp only [depsOf, depsL, Region.binds, depsHold, nthS, List.getD_cons_zero, List.getD_cons_succ, isV, ownV, anyV, if_true, and_true, true_and] at hd
        obtain ⟨cc, _⟩ := bcell hW
        go_simp
        refine hK _ _ (Below.refl _ _) ?_
        exact rfl
      refine GOps.cons_ (fun f w' K hW hd hK => ?_) ?_
      · try simp only [depsOf, depsL, Region.binds, depsHold, nthS, List.getD_cons_zero, List.getD_cons_succ, isV, ownV, anyV, if_true, and_true, true_and] at hd
        obtain ⟨cc, _⟩ := bcell hW
        go_simp
        refine hK _ _ (Below.refl _ _) ?_
        exact rfl
      refine GOps.cons_ (fun f w' K hW hd hK => ?_) ?_
      · try simp only [depsOf, depsL, Region.binds, depsHold, nthS, List.getD_cons_zero, List.getD_cons_succ, isV, ownV, anyV, if_true, and_true, true_and] at hd
        obtain ⟨cc, _⟩ := bcell hW
        go_simp
        refine (awake_any _).mono ?_
        rintro e w1 ⟨rfl, hb⟩
        exact ⟨_, rfl, hK _ _ hb rfl⟩
      refine GOps.cons_ (fun f w' K hW hd hK => ?_) ?_
      · try simp only [depsOf, depsL, Region.binds, depsHold, nthS, List.getD_cons_zero, List.getD_cons_succ, isV, ownV, anyV, if_true, and_true, true_and] at hd
        obtain ⟨cc, _⟩ := bcell hW
        go_simp
        refine hK _ _ (Below.refl _ _) ?_
        exact rfl
      refine GOps.cons_ (fun f w' K hW hd hK => ?_) ?_
      · try simp only [depsOf, depsL, Region.binds, depsHold, nthS, List.getD_cons_zero, List.getD_cons_succ, isV, ownV, anyV, if_true, and_true, true_and] at hd
        obtain ⟨cc, _⟩ := bcell hW
        go_simp
        refine hK _ _ (Below.refl _ _) ?_
        exact rfl
      exact GOps.nil_
    case hend =>
      intro f w' hW hd
      simp only [List.length_cons, List.length_nil, Nat.reduceAdd, List.range, List.range.loop, depsHold, nthS, List.getD_cons_zero, List.getD_cons_succ, isV, ownV, anyV, true_and, and_true] at hd
      have hl : f 25 = .bool true := by simp only [hd]
      go_wp2
      go_ret
      exact ⟨congrArg Ending.returned hl, hbW.trans (hW.mono hbW.size)⟩
end Go.Proofs.Ytfalhlnmjllfpaa
