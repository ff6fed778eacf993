/- The contracts of Pops and Pushes. -/
import Derived.Test.YtfalhlnmjllfpaaOpS
namespace Go.Proofs.Ytfalhlnmjllfpaa
open Go.RowKit Go.IntWalk
set_option maxRecDepth 100000
set_option linter.unusedVariables false
set_option linter.unusedSimpArgs false

theorem rd_new_at (w : World) (cs : List Value) (t : TypeId) (g : Nat) (h : g = w.heap.size) : Rd (w.alloc (.cells cs.toArray t)) (w.alloc (.cells cs.toArray t)).heap.size (some ⟨g, 0, none⟩) cs := by subst h; exact Rd.new w cs t
set_option maxHeartbeats 6400000 in
theorem pushes_any  (op arg : Int) (w : World)  :
    Calls Try.prog 24 #[.agg #[.int .i64 op, .int .i64 arg]] w fun e w' => e = .returned (.int .i64 (pushN op)) ∧ Below w.heap.size w w' := by
  have hb1 := (Below.refl w.heap.size w).alloc (Nat.le_refl _) (.cells #[.int .i64 op, .int .i64 arg] 28)
  have hb2 := hb1.alloc hb1.size (.cells #[.int .i64 1, .int .i64 3, .int .i64 5, .int .i64 7, .int .i64 8, .int .i64 9, .int .i64 10, .int .i64 11, .int .i64 12, .int .i64 13, .int .i64 19, .int .i64 20, .int .i64 26] 3)
  cases e2 : inB pushL op
  · have HP : Hid (pushN op = 0) := by unfold Hid pushN; rw [e2]; rfl
    go_enter Try.func24, Try.ntmps24
    go_wp2_with fail
    refine (opOne_any _ 13 _ pushL op _ _ (rd_new_at (w.alloc (.cells #[.int .i64 op, .int .i64 arg] 28)) (cb .i64 pushL) _ (w.heap.size + 1) (by simp)) rfl (by omega)).mono ?_
    rw [e2]
    rintro e w' ⟨rfl, rfl⟩
    go_wp2
    go_ret
    exact ⟨ret_int HP.out.symm, hb2⟩
  · have HP : Hid (pushN op = 1) := by unfold Hid pushN; rw [e2]; rfl
    go_enter Try.func24, Try.ntmps24
    go_wp2_with fail
    refine (opOne_any _ 13 _ pushL op _ _ (rd_new_at (w.alloc (.cells #[.int .i64 op, .int .i64 arg] 28)) (cb .i64 pushL) _ (w.heap.size + 1) (by simp)) rfl (by omega)).mono ?_
    rw [e2]
    rintro e w' ⟨rfl, rfl⟩
    go_wp2
    go_ret
    exact ⟨ret_int HP.out.symm, hb2⟩
set_option maxHeartbeats 6400000 in
theorem rpushes_any  (op arg : Int) (w : World)  :
    Calls Try.prog 25 #[.agg #[.int .i64 op, .int .i64 arg]] w fun e w' => e = .returned (.int .i64 (pushN op)) ∧ Below w.heap.size w w' := by
  have hb1 := (Below.refl w.heap.size w).alloc (Nat.le_refl _) (.cells #[.int .i64 op, .int .i64 arg] 28)
  have hb2 := hb1.alloc hb1.size (.cells #[.int .i64 1, .int .i64 3, .int .i64 5, .int .i64 7, .int .i64 8, .int .i64 9, .int .i64 10, .int .i64 11, .int .i64 12, .int .i64 13, .int .i64 19, .int .i64 20, .int .i64 26] 3)
  cases e2 : inB pushL op
  · have HP : Hid (pushN op = 0) := by unfold Hid pushN; rw [e2]; rfl
    go_enter Try.func25, Try.ntmps25
    go_wp2_with fail
    refine (ropAmong_any _ 13 _ pushL op _ _ (rd_new_at (w.alloc (.cells #[.int .i64 op, .int .i64 arg] 28)) (cb .i64 pushL) _ (w.heap.size + 1) (by simp)) rfl (by omega)).mono ?_
    rw [e2]
    rintro e w' ⟨rfl, rfl⟩
    go_wp2
    go_ret
    exact ⟨ret_int HP.out.symm, hb2⟩
  · have HP : Hid (pushN op = 1) := by unfold Hid pushN; rw [e2]; rfl
    go_enter Try.func25, Try.ntmps25
    go_wp2_with fail
    refine (ropAmong_any _ 13 _ pushL op _ _ (rd_new_at (w.alloc (.cells #[.int .i64 op, .int .i64 arg] 28)) (cb .i64 pushL) _ (w.heap.size + 1) (by simp)) rfl (by omega)).mono ?_
    rw [e2]
    rintro e w' ⟨rfl, rfl⟩
    go_wp2
    go_ret
    exact ⟨ret_int HP.out.symm, hb2⟩
set_option maxHeartbeats 6400000 in
theorem pops_any (x0 x1 x2 x3 : Int) (tA : Option Addr) (nT tc : Nat) (fl : Int) (pA : Option Addr) (nP pc : Nat) (gA : Option Addr) (nG gc : Nat) (A8 : Option Addr) (n8 c8 : Nat) (A9 : Option Addr) (n9 c9 : Nat) (A10 : Option Addr) (n10 c10 : Nat) (fA : Option Addr) (nF fc : Nat) (dA : Option Addr) (nD dc : Nat) (qA : Option Addr) (nQ qc : Nat) (lA : Option Addr) (nL lc : Nat) (op arg : Int) (w : World) (fs ps : List Int) (hf : Rd w w.heap.size fA (cb .i64 fs)) (hnf : nF = fs.length) (hq : Rd w w.heap.size qA (cb .i64 ps)) (hnq : nQ = ps.length) (hlf : nF ≤ 9223372036854775807) (hlq : nQ ≤ 9223372036854775807) :
    Calls Try.prog 22 #[.agg #[.int .i64 x0, .int .i64 x1, .int .i64 x2, .int .i64 x3, .slice tA nT tc, .int .i64 fl, .slice pA nP pc, .slice gA nG gc, .slice A8 n8 c8, .slice A9 n9 c9, .slice A10 n10 c10, .slice fA nF fc, .slice dA nD dc, .slice qA nQ qc, .slice lA nL lc], .agg #[.int .i64 op, .int .i64 arg]] w fun e w' => e = .returned (.int .i64 (popsN fs ps op arg)) ∧ Below w.heap.size w w' := by
  have hb0 := (Below.refl w.heap.size w).alloc (Nat.le_refl _) (.cells #[.int .i64 x0, .int .i64 x1, .int .i64 x2, .int .i64 x3, .slice tA nT tc, .int .i64 fl, .slice pA nP pc, .slice gA nG gc, .slice A8 n8 c8, .slice A9 n9 c9, .slice A10 n10 c10, .slice fA nF fc, .slice dA nD dc, .slice qA nQ qc, .slice lA nL lc] 46)
  have hb1 := hb0.alloc hb0.size (.cells #[.int .i64 op, .int .i64 arg] 28)
  have hb2 := hb1.alloc hb1.size (.cells #[.int .i64 8, .int .i64 14, .int .i64 17] 3)
  have hb3 := hb2.alloc hb2.size (.cells (cb .i64 popL1).toArray 3)
  have HNF := Lib.hid hnf
  have HNQ := Lib.hid hnq
  clear hb0 hnf hnq
  cases e2 : inB popL2 op
  · cases e1 : inB popL1 op
    · have HP : Hid (popsN fs ps op arg = if op = 26 then parN fs ps arg else 0) := by unfold Hid popsN; rw [e2, e1]; rfl
      by_cases h26 : op = 26
      · have HP6 : Hid (popsN fs ps op arg = parN fs ps arg) := by unfold Hid; rw [HP.out, if_pos h26]
        have e26 : (op == 26) = true := by simpa using h26
        have n26 : (op != 26) = false := by simpa using h26
        clear h26
        go_enter Try.func22, Try.ntmps22
        go_wp2_with fail
        refine (opOne_any _ 3 _ popL2 op _ _ (rd_new_at ((w.alloc (.cells #[.int .i64 x0, .int .i64 x1, .int .i64 x2, .int .i64 x3, .slice tA nT tc, .int .i64 fl, .slice pA nP pc, .slice gA nG gc, .slice A8 n8 c8, .slice A9 n9 c9, .slice A10 n10 c10, .slice fA nF fc, .slice dA nD dc, .slice qA nQ qc, .slice lA nL lc] 46)).alloc (.cells #[.int .i64 op, .int .i64 arg] 28)) (cb .i64 popL2) _ (w.heap.size + 1 + 1) (by simp)) rfl (by omega)).mono ?_
        rw [e2]
        rintro e w' ⟨rfl, rfl⟩
        go_wp2_with fail
        refine (opOne_any _ 21 _ popL1 op _ _ (rd_new_at (((w.alloc (.cells #[.int .i64 x0, .int .i64 x1, .int .i64 x2, .int .i64 x3, .slice tA nT tc, .int .i64 fl, .slice pA nP pc, .slice gA nG gc, .slice A8 n8 c8, .slice A9 n9 c9, .slice A10 n10 c10, .slice fA nF fc, .slice dA nD dc, .slice qA nQ qc, .slice lA nL lc] 46)).alloc (.cells #[.int .i64 op, .int .i64 arg] 28)).alloc (.cells #[.int .i64 8, .int .i64 14, .int .i64 17] 3)) (cb .i64 popL1) _ (w.heap.size + 1 + 1 + 1) (by simp)) rfl (by omega)).mono ?_
        rw [e1]
        rintro e w' ⟨rfl, rfl⟩
        go_wp2_with fail
        refine (params_any x0 x1 x2 x3 tA nT tc fl pA nP pc gA nG gc A8 n8 c8 A9 n9 c9 A10 n10 c10 fA nF fc dA nD dc qA nQ qc lA nL lc arg _ fs ps (rd_at hf hb3) HNF.out (rd_at hq hb3) HNQ.out hlf hlq).mono ?_
        rintro e w3 ⟨rfl, hb4⟩
        go_wp2
        go_ret
        exact ⟨ret_int HP6.out.symm, below_call hb3 hb4⟩
      · have HP0 : Hid (popsN fs ps op arg = 0) := by unfold Hid; rw [HP.out, if_neg h26]
        have e26 : (op == 26) = false := by simpa using h26
        have n26 : (op != 26) = true := by simpa using h26
        clear h26
        go_enter Try.func22, Try.ntmps22
        go_wp2_with fail
        refine (opOne_any _ 3 _ popL2 op _ _ (rd_new_at ((w.alloc (.cells #[.int .i64 x0, .int .i64 x1, .int .i64 x2, .int .i64 x3, .slice tA nT tc, .int .i64 fl, .slice pA nP pc, .slice gA nG gc, .slice A8 n8 c8, .slice A9 n9 c9, .slice A10 n10 c10, .slice fA nF fc, .slice dA nD dc, .slice qA nQ qc, .slice lA nL lc] 46)).alloc (.cells #[.int .i64 op, .int .i64 arg] 28)) (cb .i64 popL2) _ (w.heap.size + 1 + 1) (by simp)) rfl (by omega)).mono ?_
        rw [e2]
        rintro e w' ⟨rfl, rfl⟩
        go_wp2_with fail
        refine (opOne_any _ 21 _ popL1 op _ _ (rd_new_at (((w.alloc (.cells #[.int .i64 x0, .int .i64 x1, .int .i64 x2, .int .i64 x3, .slice tA nT tc, .int .i64 fl, .slice pA nP pc, .slice gA nG gc, .slice A8 n8 c8, .slice A9 n9 c9, .slice A10 n10 c10, .slice fA nF fc, .slice dA nD dc, .slice qA nQ qc, .slice lA nL lc] 46)).alloc (.cells #[.int .i64 op, .int .i64 arg] 28)).alloc (.cells #[.int .i64 8, .int .i64 14, .int .i64 17] 3)) (cb .i64 popL1) _ (w.heap.size + 1 + 1 + 1) (by simp)) rfl (by omega)).mono ?_
        rw [e1]
        rintro e w' ⟨rfl, rfl⟩
        go_wp2
        go_ret
        exact ⟨ret_int HP0.out.symm, hb3⟩
    · have HP : Hid (popsN fs ps op arg = 1) := by unfold Hid popsN; rw [e2, e1]; rfl
      go_enter Try.func22, Try.ntmps22
      go_wp2_with fail
      refine (opOne_any _ 3 _ popL2 op _ _ (rd_new_at ((w.alloc (.cells #[.int .i64 x0, .int .i64 x1, .int .i64 x2, .int .i64 x3, .slice tA nT tc, .int .i64 fl, .slice pA nP pc, .slice gA nG gc, .slice A8 n8 c8, .slice A9 n9 c9, .slice A10 n10 c10, .slice fA nF fc, .slice dA nD dc, .slice qA nQ qc, .slice lA nL lc] 46)).alloc (.cells #[.int .i64 op, .int .i64 arg] 28)) (cb .i64 popL2) _ (w.heap.size + 1 + 1) (by simp)) rfl (by omega)).mono ?_
      rw [e2]
      rintro e w' ⟨rfl, rfl⟩
      go_wp2_with fail
      refine (opOne_any _ 21 _ popL1 op _ _ (rd_new_at (((w.alloc (.cells #[.int .i64 x0, .int .i64 x1, .int .i64 x2, .int .i64 x3, .slice tA nT tc, .int .i64 fl, .slice pA nP pc, .slice gA nG gc, .slice A8 n8 c8, .slice A9 n9 c9, .slice A10 n10 c10, .slice fA nF fc, .slice dA nD dc, .slice qA nQ qc, .slice lA nL lc] 46)).alloc (.cells #[.int .i64 op, .int .i64 arg] 28)).alloc (.cells #[.int .i64 8, .int .i64 14, .int .i64 17] 3)) (cb .i64 popL1) _ (w.heap.size + 1 + 1 + 1) (by simp)) rfl (by omega)).mono ?_
      rw [e1]
      rintro e w' ⟨rfl, rfl⟩
      go_wp2
      go_ret
      exact ⟨ret_int HP.out.symm, hb3⟩
  · have HP : Hid (popsN fs ps op arg = 2) := by unfold Hid popsN; rw [e2]; rfl
    go_enter Try.func22, Try.ntmps22
    go_wp2_with fail
    refine (opOne_any _ 3 _ popL2 op _ _ (rd_new_at ((w.alloc (.cells #[.int .i64 x0, .int .i64 x1, .int .i64 x2, .int .i64 x3, .slice tA nT tc, .int .i64 fl, .slice pA nP pc, .slice gA nG gc, .slice A8 n8 c8, .slice A9 n9 c9, .slice A10 n10 c10, .slice fA nF fc, .slice dA nD dc, .slice qA nQ qc, .slice lA nL lc] 46)).alloc (.cells #[.int .i64 op, .int .i64 arg] 28)) (cb .i64 popL2) _ (w.heap.size + 1 + 1) (by simp)) rfl (by omega)).mono ?_
    rw [e2]
    rintro e w' ⟨rfl, rfl⟩
    go_wp2
    go_ret
    exact ⟨ret_int HP.out.symm, hb2⟩
set_option maxHeartbeats 6400000 in
theorem rpops_any (x0 x1 x2 x3 : Int) (tA : Option Addr) (nT tc : Nat) (fl : Int) (pA : Option Addr) (nP pc : Nat) (gA : Option Addr) (nG gc : Nat) (A8 : Option Addr) (n8 c8 : Nat) (A9 : Option Addr) (n9 c9 : Nat) (A10 : Option Addr) (n10 c10 : Nat) (fA : Option Addr) (nF fc : Nat) (dA : Option Addr) (nD dc : Nat) (qA : Option Addr) (nQ qc : Nat) (lA : Option Addr) (nL lc : Nat) (op arg : Int) (w : World) (fs ps : List Int) (hf : Rd w w.heap.size fA (cb .i64 fs)) (hnf : nF = fs.length) (hq : Rd w w.heap.size qA (cb .i64 ps)) (hnq : nQ = ps.length) (hlf : nF ≤ 9223372036854775807) (hlq : nQ ≤ 9223372036854775807) :
    Calls Try.prog 23 #[.agg #[.int .i64 x0, .int .i64 x1, .int .i64 x2, .int .i64 x3, .slice tA nT tc, .int .i64 fl, .slice pA nP pc, .slice gA nG gc, .slice A8 n8 c8, .slice A9 n9 c9, .slice A10 n10 c10, .slice fA nF fc, .slice dA nD dc, .slice qA nQ qc, .slice lA nL lc], .agg #[.int .i64 op, .int .i64 arg]] w fun e w' => e = .returned (.int .i64 (popsN fs ps op arg)) ∧ Below w.heap.size w w' := by
  have hb0 := (Below.refl w.heap.size w).alloc (Nat.le_refl _) (.cells #[.int .i64 x0, .int .i64 x1, .int .i64 x2, .int .i64 x3, .slice tA nT tc, .int .i64 fl, .slice pA nP pc, .slice gA nG gc, .slice A8 n8 c8, .slice A9 n9 c9, .slice A10 n10 c10, .slice fA nF fc, .slice dA nD dc, .slice qA nQ qc, .slice lA nL lc] 46)
  have hb1 := hb0.alloc hb0.size (.cells #[.int .i64 op, .int .i64 arg] 28)
  have hb2 := hb1.alloc hb1.size (.cells #[.int .i64 8, .int .i64 14, .int .i64 17] 3)
  have hb3 := hb2.alloc hb2.size (.cells (cb .i64 popL1).toArray 3)
  have HNF := Lib.hid hnf
  have HNQ := Lib.hid hnq
  clear hb0 hnf hnq
  cases e2 : inB popL2 op
  · cases e1 : inB popL1 op
    · have HP : Hid (popsN fs ps op arg = if op = 26 then parN fs ps arg else 0) := by unfold Hid popsN; rw [e2, e1]; rfl
      by_cases h26 : op = 26
      · have HP6 : Hid (popsN fs ps op arg = parN fs ps arg) := by unfold Hid; rw [HP.out, if_pos h26]
        have e26 : (op == 26) = true := by simpa using h26
        have n26 : (op != 26) = false := by simpa using h26
        clear h26
        go_enter Try.func23, Try.ntmps23
        go_wp2_with fail
        refine (ropAmong_any _ 3 _ popL2 op _ _ (rd_new_at ((w.alloc (.cells #[.int .i64 x0, .int .i64 x1, .int .i64 x2, .int .i64 x3, .slice tA nT tc, .int .i64 fl, .slice pA nP pc, .slice gA nG gc, .slice A8 n8 c8, .slice A9 n9 c9, .slice A10 n10 c10, .slice fA nF fc, .slice dA nD dc, .slice qA nQ qc, .slice lA nL lc] 46)).alloc (.cells #[.int .i64 op, .int .i64 arg] 28)) (cb .i64 popL2) _ (w.heap.size + 1 + 1) (by simp)) rfl (by omega)).mono ?_
        rw [e2]
        rintro e w' ⟨rfl, rfl⟩
        go_wp2_with fail
        refine (ropAmong_any _ 21 _ popL1 op _ _ (rd_new_at (((w.alloc (.cells #[.int .i64 x0, .int .i64 x1, .int .i64 x2, .int .i64 x3, .slice tA nT tc, .int .i64 fl, .slice pA nP pc, .slice gA nG gc, .slice A8 n8 c8, .slice A9 n9 c9, .slice A10 n10 c10, .slice fA nF fc, .slice dA nD dc, .slice qA nQ qc, .slice lA nL lc] 46)).alloc (.cells #[.int .i64 op, .int .i64 arg] 28)).alloc (.cells #[.int .i64 8, .int .i64 14, .int .i64 17] 3)) (cb .i64 popL1) _ (w.heap.size + 1 + 1 + 1) (by simp)) rfl (by omega)).mono ?_
        rw [e1]
        rintro e w' ⟨rfl, rfl⟩
        by_cases ha0 : arg < 0
        · have HN0 : Hid (parN fs ps arg = 0) := by unfold Hid parN; rw [if_neg (by have := HNF.out; have := HNQ.out; omega)]
          go_wp2
          go_ret
          exact ⟨ret_int (by rw [HP6.out, HN0.out]), hb3⟩
        · by_cases ha1 : (nF : Int) ≤ arg
          · have HN0 : Hid (parN fs ps arg = 0) := by unfold Hid parN; rw [if_neg (by have := HNF.out; have := HNQ.out; omega)]
            go_wp2
            go_ret
            exact ⟨ret_int (by rw [HP6.out, HN0.out]), hb3⟩
          · obtain ⟨k, rfl⟩ := Int.eq_ofNat_of_zero_le (show 0 ≤ arg by omega)
            have hkf : k < fs.length := by have := HNF.out; omega
            obtain ⟨b, o, rfl, hb0, hq1⟩ := hf.num hkf
            obtain ⟨q, hqe⟩ : ∃ q, fs[k] = q := ⟨_, rfl⟩
            rw [hqe] at hq1
            replace hq1 := (hb3.cell (p := ⟨b, o + k, none⟩) hb0).trans hq1
            have HPK : Hid (parN fs ps (k : Int) = if 0 ≤ q ∧ q < ps.length then ps.getD q.toNat 0 else 0) := by
              unfold Hid parN
              rw [if_pos (by have := HNF.out; have := HNQ.out; omega), Int.toNat_natCast, getD_at hkf, hqe]
            clear hqe hkf
            have hkn : (k : Int) < (nF : Int) := by omega
            have hkn' : k < nF := by omega
            clear ha0 ha1
            by_cases hp0 : q < 0
            · have HN0 : Hid (parN fs ps (k : Int) = 0) := by unfold Hid; rw [HPK.out, if_neg (by have := HNF.out; have := HNQ.out; omega)]
              go_wp2
              go_ret
              exact ⟨ret_int (by rw [HP6.out, HN0.out]), hb3⟩
            · by_cases hp1 : (nQ : Int) ≤ q
              · have HN0 : Hid (parN fs ps (k : Int) = 0) := by unfold Hid; rw [HPK.out, if_neg (by have := HNF.out; have := HNQ.out; omega)]
                go_wp2
                go_ret
                exact ⟨ret_int (by rw [HP6.out, HN0.out]), hb3⟩
              · obtain ⟨j, rfl⟩ := Int.eq_ofNat_of_zero_le (show 0 ≤ q by omega)
                have hjp : j < ps.length := by have := HNQ.out; omega
                obtain ⟨b2, o2, rfl, hb20, hz1⟩ := hq.num hjp
                have HN0 : Hid (parN fs ps (k : Int) = ps[j]) := by unfold Hid; rw [HPK.out, if_pos (by have := HNF.out; have := HNQ.out; omega), Int.toNat_natCast, getD_at hjp]
                replace hz1 := (hb3.cell (p := ⟨b2, o2 + j, none⟩) hb20).trans hz1
                generalize ps[j] = z at *
                have hjn : (j : Int) < (nQ : Int) := by omega
                have hjn' : j < nQ := by omega
                clear hp0 hp1 hjp
                go_wp2
                go_ret
                exact ⟨ret_int (by rw [HP6.out, HN0.out]), hb3⟩
      · have HP0 : Hid (popsN fs ps op arg = 0) := by unfold Hid; rw [HP.out, if_neg h26]
        have e26 : (op == 26) = false := by simpa using h26
        have n26 : (op != 26) = true := by simpa using h26
        clear h26
        go_enter Try.func23, Try.ntmps23
        go_wp2_with fail
        refine (ropAmong_any _ 3 _ popL2 op _ _ (rd_new_at ((w.alloc (.cells #[.int .i64 x0, .int .i64 x1, .int .i64 x2, .int .i64 x3, .slice tA nT tc, .int .i64 fl, .slice pA nP pc, .slice gA nG gc, .slice A8 n8 c8, .slice A9 n9 c9, .slice A10 n10 c10, .slice fA nF fc, .slice dA nD dc, .slice qA nQ qc, .slice lA nL lc] 46)).alloc (.cells #[.int .i64 op, .int .i64 arg] 28)) (cb .i64 popL2) _ (w.heap.size + 1 + 1) (by simp)) rfl (by omega)).mono ?_
        rw [e2]
        rintro e w' ⟨rfl, rfl⟩
        go_wp2_with fail
        refine (ropAmong_any _ 21 _ popL1 op _ _ (rd_new_at (((w.alloc (.cells #[.int .i64 x0, .int .i64 x1, .int .i64 x2, .int .i64 x3, .slice tA nT tc, .int .i64 fl, .slice pA nP pc, .slice gA nG gc, .slice A8 n8 c8, .slice A9 n9 c9, .slice A10 n10 c10, .slice fA nF fc, .slice dA nD dc, .slice qA nQ qc, .slice lA nL lc] 46)).alloc (.cells #[.int .i64 op, .int .i64 arg] 28)).alloc (.cells #[.int .i64 8, .int .i64 14, .int .i64 17] 3)) (cb .i64 popL1) _ (w.heap.size + 1 + 1 + 1) (by simp)) rfl (by omega)).mono ?_
        rw [e1]
        rintro e w' ⟨rfl, rfl⟩
        go_wp2
        go_ret
        exact ⟨ret_int HP0.out.symm, hb3⟩
    · have HP : Hid (popsN fs ps op arg = 1) := by unfold Hid popsN; rw [e2, e1]; rfl
      go_enter Try.func23, Try.ntmps23
      go_wp2_with fail
      refine (ropAmong_any _ 3 _ popL2 op _ _ (rd_new_at ((w.alloc (.cells #[.int .i64 x0, .int .i64 x1, .int .i64 x2, .int .i64 x3, .slice tA nT tc, .int .i64 fl, .slice pA nP pc, .slice gA nG gc, .slice A8 n8 c8, .slice A9 n9 c9, .slice A10 n10 c10, .slice fA nF fc, .slice dA nD dc, .slice qA nQ qc, .slice lA nL lc] 46)).alloc (.cells #[.int .i64 op, .int .i64 arg] 28)) (cb .i64 popL2) _ (w.heap.size + 1 + 1) (by simp)) rfl (by omega)).mono ?_
      rw [e2]
      rintro e w' ⟨rfl, rfl⟩
      go_wp2_with fail
      refine (ropAmong_any _ 21 _ popL1 op _ _ (rd_new_at (((w.alloc (.cells #[.int .i64 x0, .int .i64 x1, .int .i64 x2, .int .i64 x3, .slice tA nT tc, .int .i64 fl, .slice pA nP pc, .slice gA nG gc, .slice A8 n8 c8, .slice A9 n9 c9, .slice A10 n10 c10, .slice fA nF fc, .slice dA nD dc, .slice qA nQ qc, .slice lA nL lc] 46)).alloc (.cells #[.int .i64 op, .int .i64 arg] 28)).alloc (.cells #[.int .i64 8, .int .i64 14, .int .i64 17] 3)) (cb .i64 popL1) _ (w.heap.size + 1 + 1 + 1) (by simp)) rfl (by omega)).mono ?_
      rw [e1]
      rintro e w' ⟨rfl, rfl⟩
      go_wp2
      go_ret
      exact ⟨ret_int HP.out.symm, hb3⟩
  · have HP : Hid (popsN fs ps op arg = 2) := by unfold Hid popsN; rw [e2]; rfl
    go_enter Try.func23, Try.ntmps23
    go_wp2_with fail
    refine (ropAmong_any _ 3 _ popL2 op _ _ (rd_new_at ((w.alloc (.cells #[.int .i64 x0, .int .i64 x1, .int .i64 x2, .int .i64 x3, .slice tA nT tc, .int .i64 fl, .slice pA nP pc, .slice gA nG gc, .slice A8 n8 c8, .slice A9 n9 c9, .slice A10 n10 c10, .slice fA nF fc, .slice dA nD dc, .slice qA nQ qc, .slice lA nL lc] 46)).alloc (.cells #[.int .i64 op, .int .i64 arg] 28)) (cb .i64 popL2) _ (w.heap.size + 1 + 1) (by simp)) rfl (by omega)).mono ?_
    rw [e2]
    rintro e w' ⟨rfl, rfl⟩
    go_wp2
    go_ret
    exact ⟨ret_int HP.out.symm, hb2⟩
end Go.Proofs.Ytfalhlnmjllfpaa
