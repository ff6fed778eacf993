/- The law OpMay, walked. -/
import Derived.Test.YtfalhlnmjllfpaaOpT
import Derived.Test.YtfalhlnmjllfpaaOpN
namespace Go.Proofs.Ytfalhlnmjllfpaa
open Go.RowKit Go.IntWalk
set_option maxRecDepth 100000
set_option linter.unusedVariables false
set_option linter.unusedSimpArgs false

/-- What may be has bytes, and its argument is kept. -/
theorem rgt_enc {fl : Int} {nT nP nG nF nD : Nat} {op arg : Int} (h : rgtB fl nT nP nG nF nD op arg = true) (ha : arg ≤ 32767) : opEnc op arg ≠ [] ∧ insA op arg = arg := by
  have key : knB op = true ∧ op ≠ 38 ∧ ((hasB op = true ∧ -32768 ≤ arg) ∨ arg = 0) := by
    unfold rgtB at h
    cases e0 : (op == 38)
    · rw [e0, if_neg (by decide)] at h
      have h38' : op ≠ 38 := by simpa using e0
      cases e1 : (op == 1 || (op == 24 || op == 25))
      case true =>
        rw [e1, if_pos rfl] at h
        simp only [Bool.or_eq_true, beq_iff_eq] at e1
        simp only [is16, decide_eq_true_eq] at h
        rcases e1 with rfl | rfl | rfl <;> exact ⟨by decide, by decide, .inl ⟨by decide, by omega⟩⟩
      rw [e1, if_neg (by decide)] at h
      cases e2 : (op == 3 || op == 4)
      case true =>
        rw [e2, if_pos rfl] at h
        simp only [Bool.or_eq_true, beq_iff_eq] at e2
        simp only [ltB, decide_eq_true_eq] at h
        rcases e2 with rfl | rfl <;> exact ⟨by decide, by decide, .inl ⟨by decide, by omega⟩⟩
      rw [e2, if_neg (by decide)] at h
      cases e3 : (op == 5 || op == 6)
      case true =>
        rw [e3, if_pos rfl] at h
        simp only [Bool.or_eq_true, beq_iff_eq] at e3
        simp only [ltB, decide_eq_true_eq] at h
        rcases e3 with rfl | rfl <;> exact ⟨by decide, by decide, .inl ⟨by decide, by omega⟩⟩
      rw [e3, if_neg (by decide)] at h
      cases e4 : (op == 7)
      case true =>
        rw [e4, if_pos rfl] at h
        simp only [Bool.or_eq_true, beq_iff_eq] at e4
        simp only [ltB, decide_eq_true_eq] at h
        subst e4; exact ⟨by decide, by decide, .inl ⟨by decide, by omega⟩⟩
      rw [e4, if_neg (by decide)] at h
      cases e5 : (op == 19)
      case true =>
        rw [e5, if_pos rfl] at h
        simp only [Bool.or_eq_true, beq_iff_eq] at e5
        simp only [ltB, decide_eq_true_eq] at h
        subst e5; exact ⟨by decide, by decide, .inl ⟨by decide, by omega⟩⟩
      rw [e5, if_neg (by decide)] at h
      cases e6 : (op == 8)
      case true =>
        rw [e6, if_pos rfl] at h
        simp only [Bool.or_eq_true, beq_iff_eq] at e6
        simp only [ltB, decide_eq_true_eq] at h
        subst e6; exact ⟨by decide, by decide, .inl ⟨by decide, by omega⟩⟩
      rw [e6, if_neg (by decide)] at h
      cases e7 : (op == 12 || (op == 15 || op == 16))
      case true =>
        rw [e7, if_pos rfl] at h
        simp only [Bool.or_eq_true, beq_iff_eq] at e7
        simp only [ltB, decide_eq_true_eq] at h
        rcases e7 with rfl | rfl | rfl <;> exact ⟨by decide, by decide, .inl ⟨by decide, by omega⟩⟩
      rw [e7, if_neg (by decide)] at h
      cases e8 : (op == 13 || op == 14)
      case true =>
        rw [e8, if_pos rfl] at h
        simp only [Bool.or_eq_true, beq_iff_eq] at e8
        simp only [ltB, decide_eq_true_eq] at h
        rcases e8 with rfl | rfl <;> exact ⟨by decide, by decide, .inl ⟨by decide, by omega⟩⟩
      rw [e8, if_neg (by decide)] at h
      cases e9 : (op == 21)
      case true =>
        rw [e9, if_pos rfl] at h
        simp only [Bool.or_eq_true, beq_iff_eq] at e9
        simp only [ltB, decide_eq_true_eq] at h
        subst e9; exact ⟨by decide, by decide, .inl ⟨by decide, by omega⟩⟩
      rw [e9, if_neg (by decide)] at h
      cases e10 : (op == 26)
      case true =>
        rw [e10, if_pos rfl] at h
        simp only [Bool.or_eq_true, beq_iff_eq] at e10
        simp only [ltB, decide_eq_true_eq] at h
        subst e10; exact ⟨by decide, by decide, .inl ⟨by decide, by omega⟩⟩
      rw [e10, if_neg (by decide)] at h
      cases e11 : (op == 32 || op == 33)
      case true =>
        rw [e11, if_pos rfl] at h
        simp only [Bool.or_eq_true, beq_iff_eq] at e11
        simp only [ltB, decide_eq_true_eq] at h
        rcases e11 with rfl | rfl <;> exact ⟨by decide, by decide, .inl ⟨by decide, by omega⟩⟩
      rw [e11, if_neg (by decide)] at h
      simp only [Bool.and_eq_true, beq_iff_eq] at h
      exact ⟨h.1, h38', .inr h.2⟩
    · rw [e0, if_pos rfl] at h
      cases h
  obtain ⟨hk, h38, hc⟩ := key
  refine ⟨by rw [opEnc_yes op arg hk h38 _ rfl _ rfl _ rfl]; simp, ?_⟩
  unfold insA
  rcases hc with ⟨hh, hl⟩ | rfl
  · rw [hh, if_pos rfl]
    exact wrap16_in arg ⟨hl, ha⟩
  · split <;> rfl
set_option maxHeartbeats 12800000 in
theorem opMay_walk (g p x d fl : Int) (fA : Option Addr) (nF fc : Nat) (fs : List Int) (qA : Option Addr) (nQ qc : Nat) (ps : List Int) (op arg : Int) (w : World) (wg : (Lit.int .u8 g).wf = true) (wp : (Lit.int .u8 p).wf = true) (wx : (Lit.int .u8 x).wf = true) (wd : (Lit.int .u8 d).wf = true) (wfl : (Lit.int .i64 fl).wf = true) (hnf : nF = fs.length) (hf : Rd w w.heap.size fA (cb .i64 fs)) (hwf : ∀ z ∈ fs, (Lit.int .i64 z).wf = true) (hcf : nF ≤ fc) (hmf : fc ≤ maxLen) (hnq : nQ = ps.length) (hq : Rd w w.heap.size qA (cb .i64 ps)) (hwq : ∀ z ∈ ps, (Lit.int .i64 z).wf = true) (hcq : nQ ≤ qc) (hmq : qc ≤ maxLen) (wop : (Lit.int .i64 op).wf = true) (warg : (Lit.int .i64 arg).wf = true) :
    Calls Try.prog 6 #[.agg #[.int .u8 g, .int .u8 p, .int .u8 x, .int .u8 d, .int .i64 fl, .slice fA nF fc, .slice qA nQ qc], .agg #[.int .i64 op, .int .i64 arg]] w fun e w' => e = .returned (.bool true) ∧ Below w.heap.size w w' := by
  unfold maxLen at hmf hmq
  have hg := wf_u8 wg
  have hp := wf_u8 wp
  have hx := wf_u8 wx
  have hd0 := wf_u8 wd
  obtain ⟨ha0, ha1⟩ := wf_i64 warg
  have HNF := Lib.hid hnf
  have HNQ := Lib.hid hnq
  clear hnf hnq hwf hwq wg wp wx wd wfl wop warg
  have hb0 := (Below.refl w.heap.size w).alloc (Nat.le_refl _) (.cells #[.int .u8 g, .int .u8 p, .int .u8 x, .int .u8 d, .int .i64 fl, .slice fA nF fc, .slice qA nQ qc] 39)
  have hb1 := hb0.alloc hb0.size (.cells #[.int .i64 op, .int .i64 arg] 28)
  have KP := (Blk.new w 39 [.int .u8 g, .int .u8 p, .int .u8 x, .int .u8 d, .int .i64 fl, .slice fA nF fc, .slice qA nQ qc]).alloc (.cells #[.int .i64 op, .int .i64 arg] 28)
  have KI := Blk.new (w.alloc (.cells #[.int .u8 g, .int .u8 p, .int .u8 x, .int .u8 d, .int .i64 fl, .slice fA nF fc, .slice qA nQ qc] 39)) 28 [.int .i64 op, .int .i64 arg]
  clear hb0
  by_cases h1 : 100 < nF
  · go_enter Try.func6, Try.ntmps6
    go_wp2_with (go_at_call 8; refine (awake_any _).mono ?_; rintro e w1 ⟨rfl, hba⟩)
    go_ret
    exact ⟨rfl, below_call hb1 hba⟩
  · by_cases h2 : 100 < nQ
    · go_enter Try.func6, Try.ntmps6
      go_wp2_with (go_at_call 8; refine (awake_any _).mono ?_; rintro e w1 ⟨rfl, hba⟩)
      go_ret
      exact ⟨rfl, below_call hb1 hba⟩
    · go_enter Try.func6, Try.ntmps6
      go_wp2_with fail
      generalize hWe : (w.alloc (.cells #[.int .u8 g, .int .u8 p, .int .u8 x, .int .u8 d, .int .i64 fl, .slice fA nF fc, .slice qA nQ qc] 39)).alloc (.cells #[.int .i64 op, .int .i64 arg] 28) = W at *
      obtain ⟨bi, hbi⟩ : ∃ bi, (w.alloc (.cells #[.int .u8 g, .int .u8 p, .int .u8 x, .int .u8 d, .int .i64 fl, .slice fA nF fc, .slice qA nQ qc] 39)).heap.size = bi := ⟨_, rfl⟩
      have hbi' : w.heap.size + 1 = bi := by rw [← hbi]; simp
      have KI2 := KI
      rw [hbi] at KI2
      rw [hbi']
      clear hbi hbi' KI hWe
      obtain ⟨RB, hRB⟩ : ∃ RB, rgtB fl x.toNat p.toNat g.toNat nF d.toNat op arg = RB := ⟨_, rfl⟩
      have HRB := Lib.hid hRB
      clear hRB
      refine wp_region_grow (A := ?A1) [isV (.agg #[.int .u8 g, .int .u8 p, .int .u8 x, .int .u8 d, .int .i64 fl, .slice fA nF fc, .slice qA nQ qc]), fun v _ => ∃ A1 c1 A2 c2 A3 c3 A4 c4, v = .agg #[.int .i64 0, .int .i64 0, .int .i64 0, .int .i64 0, .slice A3 x.toNat c3, .int .i64 fl, .slice A2 p.toNat c2, .slice A1 g.toNat c1, .slice none 0 0, .slice none 0 0, .slice none 0 0, .slice fA nF fc, .slice A4 d.toNat c4, .slice qA nQ qc, .slice none 0 0], isV (.agg #[.int .i64 op, .int .i64 arg]), isV (.bool RB), isV (.bool !RB)] (W) (by kernel_rfl) (by kernel_rfl) (fun f => ?hA1) (Below.refl _ _) ?hst1 ?hops1 ?hend1
      case hA1 =>
        simp only [fillFrom, Nat.zero_add, Nat.reduceAdd]
        go_frame
        with_reducible rfl
      case hst1 => repeat (first | exact trivial | refine ⟨stab_is _ _, ?_⟩ | refine ⟨stab_own _ _ _ _, ?_⟩ | refine ⟨stab_any _, ?_⟩ | refine ⟨fun _ _ _ _ _ h => h, ?_⟩ | refine ⟨stab_rd _ _ _, ?_⟩)
      case hops1 =>
        refine GOps.cons_ (fun f w' K hW hd hK => ?_) ?_
        · try simp only [depsOf, depsL, Region.binds, depsHold, nthS, List.getD_cons_zero, List.getD_cons_succ, isV, ownV, anyV, if_true, and_true, true_and] at hd
          have q0 := (KP.below hW KP.lt).cell 0
          have q1 := (KP.below hW KP.lt).cell 1
          have q2 := (KP.below hW KP.lt).cell 2
          have q3 := (KP.below hW KP.lt).cell 3
          have q4 := (KP.below hW KP.lt).cell 4
          have q5 := (KP.below hW KP.lt).cell 5
          have q6 := (KP.below hW KP.lt).cell 6
          go_simp
          refine hK _ _ (Below.refl _ _) ?_
          exact rfl
        refine GOps.cons_ (fun f w' K hW hd hK => ?_) ?_
        · try simp only [depsOf, depsL, Region.binds, depsHold, nthS, List.getD_cons_zero, List.getD_cons_succ, isV, ownV, anyV, if_true, and_true, true_and] at hd
          go_simp
          refine (tables_any g p x d fl fA nF fc qA nQ qc _ hg hp hx hd0).mono ?_
          rintro e w1 ⟨A1, c1, A2, c2, A3, c3, A4, c4, rfl, hb⟩
          exact ⟨_, rfl, hK _ _ hb ⟨A1, c1, A2, c2, A3, c3, A4, c4, rfl⟩⟩
        refine GOps.cons_ (fun f w' K hW hd hK => ?_) ?_
        · try simp only [depsOf, depsL, Region.binds, depsHold, nthS, List.getD_cons_zero, List.getD_cons_succ, isV, ownV, anyV, if_true, and_true, true_and] at hd
          have i0 := (KI2.below hW KI2.lt).cell 0
          have i1 := (KI2.below hW KI2.lt).cell 1
          go_simp
          refine hK _ _ (Below.refl _ _) ?_
          exact rfl
        refine GOps.cons_ (fun f w' K hW hd hK => ?_) ?_
        · try simp only [depsOf, depsL, Region.binds, depsHold, nthS, List.getD_cons_zero, List.getD_cons_succ, isV, ownV, anyV, if_true, and_true, true_and] at hd
          obtain ⟨⟨A1, c1, A2, c2, A3, c3, A4, c4, e1⟩, e2⟩ := hd
          go_simp
          refine (right_any 0 0 0 0 A3 x.toNat c3 fl A2 p.toNat c2 A1 g.toNat c1 none 0 0 none 0 0 none 0 0 fA nF fc A4 d.toNat c4 qA nQ qc none 0 0 op arg _).mono ?_
          rw [HRB.out]
          rintro e w1 ⟨rfl, hb⟩
          exact ⟨_, rfl, hK _ _ hb rfl⟩
        refine GOps.cons_ (fun f w' K hW hd hK => ?_) ?_
        · try simp only [depsOf, depsL, Region.binds, depsHold, nthS, List.getD_cons_zero, List.getD_cons_succ, isV, ownV, anyV, if_true, and_true, true_and] at hd
          go_simp
          refine hK _ _ (Below.refl _ _) ?_
          exact rfl
        exact GOps.nil_
      case hend1 =>
        intro f w' hW hd
        simp only [List.length_cons, List.length_nil, Nat.reduceAdd, List.range, List.range.loop, depsHold, nthS, List.getD_cons_zero, List.getD_cons_succ, isV, ownV, anyV, true_and, and_true] at hd
        have hl : f 4 = .bool !RB := by simp only [hd]
        rw [hl]
        have hb2 := hb1.trans (hW.mono hb1.size)
        have KI3 := KI2.below hW KI2.lt
        obtain ⟨i0, i1, _, _⟩ := KI3.two
        clear hd
        cases hr : RB
        · by_cases h38 : op = 38
          · have e38 : (op != 38) = false := by simpa using h38
            have HE : Hid (opEnc op arg = []) := opEnc_no op arg (fun hh => hh.2 h38)
            clear h38
            go_wp2_with fail
            refine (enc_any op arg _).mono ?_
            rw [HE.out]
            rintro e w3 ⟨A1, n1, c1, rfl, ho, hb3⟩
            obtain rfl : n1 = 0 := by rw [ho.rd.1]; rfl
            go_wp2_with (go_at_call 8; refine (awake_any _).mono ?_; rintro e w4 ⟨rfl, hba⟩)
            go_ret
            exact ⟨rfl, below_call (below_call hb2 hb3) hba⟩
          · have e38 : (op != 38) = true := by simpa using h38
            clear h38
            go_wp2_with (go_at_call 8; refine (awake_any _).mono ?_; rintro e w4 ⟨rfl, hba⟩)
            go_ret
            exact ⟨rfl, below_call hb2 hba⟩
        · have HRT : Hid (rgtB fl x.toNat p.toNat g.toNat nF d.toNat op arg = true) := by unfold Hid; rw [HRB.out, hr]
          by_cases hbig : 32767 < arg
          · go_wp2_with fail
            refine (enc_any op arg _).mono ?_
            rintro e w3 ⟨A1, n1, c1, rfl, ho, hb3⟩
            have hbe := below_call hb2 hb3
            have hn3 : n1 ≤ 3 := by rw [ho.rd.1, cb_length]; exact opEnc_le op arg
            go_wp2_with fail
            refine (opDec_any A1 n1 c1 (opEnc op arg) 0 _ ho.rd.2.2 (by rw [ho.rd.1]; simp) (opEnc_bts op arg) ho.rd.2.1 (own_cap ho) (by omega)).mono ?_
            obtain ⟨X1, X2, X3, X4, hX⟩ : ∃ X1 X2 X3 X4, opDec (opEnc op arg) 0 = (X1, X2, X3, X4) := ⟨_, _, _, _, rfl⟩
            rw [hX]
            clear hX
            rintro e w4 ⟨rfl, hb4⟩
            have hbd := below_call hbe hb4
            have KI4 := (KI3.below hb3 KI3.lt).below hb4 (Nat.lt_of_lt_of_le KI3.lt hb3.size)
            clear i0 i1
            obtain ⟨i0, i1, _, _⟩ := KI4.two
            have lti := KI4.lt
            go_wp2_with (go_at_call 8; refine (awake_any _).mono ?_; rintro e w5 ⟨rfl, hba⟩)
            go_ret
            exact ⟨rfl, below_call (hbd.alloc hbd.size _) hba⟩
          · obtain ⟨hne, hins⟩ := rgt_enc HRT.out (by omega)
            have hde := dec_enc op arg [] [] hne
            simp only [List.nil_append, List.append_nil, List.length_nil] at hde
            rw [hins] at hde
            have hlen := opEnc_len hne
            have HDE := Lib.hid hde
            clear hde
            go_wp2_with fail
            refine (enc_any op arg _).mono ?_
            rintro e w3 ⟨A1, n1, c1, rfl, ho, hb3⟩
            have hbe := below_call hb2 hb3
            have hn3 : n1 ≤ 3 := by rw [ho.rd.1, cb_length]; exact opEnc_le op arg
            have hn1 : n1 = (opEnc op arg).length := by rw [ho.rd.1, cb_length]
            have hn1' : 1 ≤ n1 := by rw [hn1, hlen]; omega
            have HN1 := Lib.hid hn1
            clear hlen hn1
            go_wp2_with fail
            refine (opDec_any A1 n1 c1 (opEnc op arg) 0 _ ho.rd.2.2 (by rw [ho.rd.1]; simp) (opEnc_bts op arg) ho.rd.2.1 (own_cap ho) (by omega)).mono ?_
            have HX : Hid (opDec (opEnc op arg) 0 = (op, arg, (n1 : Int), 0)) := by
              unfold Hid
              have := HDE.out
              rw [← HN1.out] at this
              simpa using this
            rw [HX.out]
            rintro e w4 ⟨rfl, hb4⟩
            have hbd := below_call hbe hb4
            have KI4 := (KI3.below hb3 KI3.lt).below hb4 (Nat.lt_of_lt_of_le KI3.lt hb3.size)
            clear i0 i1
            obtain ⟨i0, i1, _, _⟩ := KI4.two
            have lti := KI4.lt
            have heq : ∀ w : World, (binOp .eql 28 (.agg #[.int .i64 op, .int .i64 arg]) (.agg #[.int .i64 op, .int .i64 arg])).run Try.prog w = .ok (.bool true) w := fun w => by rw [ins_eql]; simp
            have hgd := fun (x y : Operand) (w : World) => ins_guard .eql x y #[.int .i64 op, .int .i64 arg] #[.int .i64 op, .int .i64 arg] w
            go_wp2_with (go_at_call 8; refine (awake_any _).mono ?_; rintro e w5 ⟨rfl, hba⟩)
            go_ret
            exact ⟨rfl, below_call (hbd.alloc hbd.size _) hba⟩
end Go.Proofs.Ytfalhlnmjllfpaa
