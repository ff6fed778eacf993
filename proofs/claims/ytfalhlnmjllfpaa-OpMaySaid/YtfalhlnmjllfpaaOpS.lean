/- The contracts of Pops and Pushes. -/
import Derived.Test.YtfalhlnmjllfpaaOpR
namespace Go.Proofs.Ytfalhlnmjllfpaa
open Go.RowKit Go.IntWalk
set_option maxRecDepth 100000
set_option linter.unusedVariables false
set_option linter.unusedSimpArgs false

def parN (fs ps : List Int) (f : Int) : Int := if 0 ≤ f ∧ f < fs.length then (if 0 ≤ fs.getD f.toNat 0 ∧ fs.getD f.toNat 0 < ps.length then ps.getD (fs.getD f.toNat 0).toNat 0 else 0) else 0
def popL1 : List Int := [2, 4, 6, 9, 10, 11, 12, 13, 15, 16, 18, 19, 20, 22, 23, 25, 27, 31, 32, 34, 36]
def popL2 : List Int := [8, 14, 17]
def pushL : List Int := [1, 3, 5, 7, 8, 9, 10, 11, 12, 13, 19, 20, 26]
def popsN (fs ps : List Int) (op arg : Int) : Int := if inB popL2 op = true then 2 else if inB popL1 op = true then 1 else if op = 26 then parN fs ps arg else 0
def pushN (op : Int) : Int := if inB pushL op = true then 1 else 0
theorem getD_at {xs : List Int} {k : Nat} (h : k < xs.length) : xs.getD k 0 = xs[k] := by simp [List.getD, h]
set_option maxHeartbeats 6400000 in
theorem params_any (x0 x1 x2 x3 : Int) (tA : Option Addr) (nT tc : Nat) (fl : Int) (pA : Option Addr) (nP pc : Nat) (gA : Option Addr) (nG gc : Nat) (A8 : Option Addr) (n8 c8 : Nat) (A9 : Option Addr) (n9 c9 : Nat) (A10 : Option Addr) (n10 c10 : Nat) (fA : Option Addr) (nF fc : Nat) (dA : Option Addr) (nD dc : Nat) (qA : Option Addr) (nQ qc : Nat) (lA : Option Addr) (nL lc : Nat) (f : Int) (w : World) (fs ps : List Int) (hf : Rd w w.heap.size fA (cb .i64 fs)) (hnf : nF = fs.length) (hq : Rd w w.heap.size qA (cb .i64 ps)) (hnq : nQ = ps.length) (hlf : nF ≤ 9223372036854775807) (hlq : nQ ≤ 9223372036854775807) :
    Calls Try.prog 37 #[.agg #[.int .i64 x0, .int .i64 x1, .int .i64 x2, .int .i64 x3, .slice tA nT tc, .int .i64 fl, .slice pA nP pc, .slice gA nG gc, .slice A8 n8 c8, .slice A9 n9 c9, .slice A10 n10 c10, .slice fA nF fc, .slice dA nD dc, .slice qA nQ qc, .slice lA nL lc], .int .i64 f] w fun e w' => e = .returned (.int .i64 (parN fs ps f)) ∧ Below w.heap.size w w' := by
  have hbx := (Below.refl w.heap.size w).alloc (Nat.le_refl _) (.cells #[.int .i64 x0, .int .i64 x1, .int .i64 x2, .int .i64 x3, .slice tA nT tc, .int .i64 fl, .slice pA nP pc, .slice gA nG gc, .slice A8 n8 c8, .slice A9 n9 c9, .slice A10 n10 c10, .slice fA nF fc, .slice dA nD dc, .slice qA nQ qc, .slice lA nL lc] 46)
  have KB := Blk.new w 46 [.int .i64 x0, .int .i64 x1, .int .i64 x2, .int .i64 x3, .slice tA nT tc, .int .i64 fl, .slice pA nP pc, .slice gA nG gc, .slice A8 n8 c8, .slice A9 n9 c9, .slice A10 n10 c10, .slice fA nF fc, .slice dA nD dc, .slice qA nQ qc, .slice lA nL lc]
  by_cases h1 : 0 ≤ f ∧ f < fs.length
  · obtain ⟨k, rfl⟩ := Int.eq_ofNat_of_zero_le h1.1
    have hkf : k < fs.length := by omega
    have HLT := Lib.hid (ltB_t (n := (k : Int)) (lo := 0) (hi := (nF : Int)) (by omega))
    obtain ⟨b, o, rfl, hb0, hq1⟩ := hf.num hkf
    replace hq1 : (w.alloc (.cells #[.int .i64 x0, .int .i64 x1, .int .i64 x2, .int .i64 x3, .slice tA nT tc, .int .i64 fl, .slice pA nP pc, .slice gA nG gc, .slice A8 n8 c8, .slice A9 n9 c9, .slice A10 n10 c10, .slice (some ⟨b, o, none⟩) nF fc, .slice dA nD dc, .slice qA nQ qc, .slice lA nL lc] 46)).cell? ⟨b, o + k, none⟩ = some (.int .i64 fs[k]) := (hbx.cell (p := ⟨b, o + k, none⟩) hb0).trans hq1
    obtain ⟨q, hqe⟩ : ∃ q, fs[k] = q := ⟨_, rfl⟩
    rw [hqe] at hq1
    have hR : parN fs ps (k : Int) = if 0 ≤ q ∧ q < ps.length then ps.getD q.toNat 0 else 0 := by
      unfold parN
      rw [if_pos h1, Int.toNat_natCast, getD_at hkf, hqe]
    have hg1 : (k : Int) < (nF : Int) := by omega
    have hg2 : k < nF := by omega
    by_cases h2 : 0 ≤ q ∧ q < ps.length
    · obtain ⟨j, rfl⟩ := Int.eq_ofNat_of_zero_le h2.1
      have hjp : j < ps.length := by omega
      obtain ⟨b2, o2, rfl, hb2, hz1⟩ := hq.num hjp
      replace hz1 : (w.alloc (.cells #[.int .i64 x0, .int .i64 x1, .int .i64 x2, .int .i64 x3, .slice tA nT tc, .int .i64 fl, .slice pA nP pc, .slice gA nG gc, .slice A8 n8 c8, .slice A9 n9 c9, .slice A10 n10 c10, .slice (some ⟨b, o, none⟩) nF fc, .slice dA nD dc, .slice (some ⟨b2, o2, none⟩) nQ qc, .slice lA nL lc] 46)).cell? ⟨b2, o2 + j, none⟩ = some (.int .i64 ps[j]) := (hbx.cell (p := ⟨b2, o2 + j, none⟩) hb2).trans hz1
      obtain ⟨z, hze⟩ : ∃ z, ps[j] = z := ⟨_, rfl⟩
      rw [hze] at hz1
      rw [if_pos h2, Int.toNat_natCast, getD_at hjp, hze] at hR
      have HR : Hid (z = parN fs ps (k : Int)) := hR.symm
      have HLQ := Lib.hid (ltB_t (n := (j : Int)) (lo := 0) (hi := (nQ : Int)) (by omega))
      have hj1 : (j : Int) < (nQ : Int) := by omega
      have hj2 : j < nQ := by omega
      clear hR h1 h2 hf hq hnf hnq hqe hze hkf hjp
      go_enter Try.func37, Try.ntmps37
      go_wp2_with fail
      refine wp_region_grow (A := ?A4) [isV (.int .i64 k), isV (.pointer (some ⟨w.heap.size, 11, none⟩)), isV (.slice (some ⟨b, o, none⟩) nF fc), isV (.int .i64 nF), isV (.bool true), isV (.bool false), isV (.bool false), isV (.pointer (some ⟨w.heap.size, 11, none⟩)), isV (.slice (some ⟨b, o, none⟩) nF fc), isV (.int .i64 k), isV (.pointer (some ⟨b, o + k, none⟩)), isV (.int .i64 j), isV (.pointer (some ⟨w.heap.size, 13, none⟩)), isV (.slice (some ⟨b2, o2, none⟩) nQ qc), isV (.int .i64 nQ), isV (.bool true), isV (.bool false), isV (.bool false)] (w.alloc (.cells #[.int .i64 x0, .int .i64 x1, .int .i64 x2, .int .i64 x3, .slice tA nT tc, .int .i64 fl, .slice pA nP pc, .slice gA nG gc, .slice A8 n8 c8, .slice A9 n9 c9, .slice A10 n10 c10, .slice (some ⟨b, o, none⟩) nF fc, .slice dA nD dc, .slice (some ⟨b2, o2, none⟩) nQ qc, .slice lA nL lc] 46)) (by kernel_rfl) (by kernel_rfl) (fun f => ?hA4) (Below.refl _ _) ?hst4 ?hops4 ?hend4
      case hA4 =>
        simp only [fillFrom, Nat.zero_add, Nat.reduceAdd]
        go_frame
        with_reducible rfl
      case hst4 => repeat (first | exact trivial | refine ⟨stab_is _ _, ?_⟩ | refine ⟨stab_own _ _ _ _, ?_⟩ | refine ⟨stab_any _, ?_⟩ | refine ⟨stab_rd _ _ _, ?_⟩)
      case hops4 =>
        refine GOps.cons_ (fun f w' K hW hd hK => ?_) ?_
        · try simp only [depsOf, depsL, Region.binds, depsHold, nthS, List.getD_cons_zero, List.getD_cons_succ, isV, ownV, anyV, if_true, and_true, true_and] at hd
          have hc11 : w'.cell? ⟨w.heap.size, 11, none⟩ = some (.slice (some ⟨b, o, none⟩) nF fc) := (KB.below hW KB.lt).cell 11
          have hc13 : w'.cell? ⟨w.heap.size, 13, none⟩ = some (.slice (some ⟨b2, o2, none⟩) nQ qc) := (KB.below hW KB.lt).cell 13
          have hcq : w'.cell? ⟨b, o + k, none⟩ = some (.int .i64 j) := (hW.cell (p := ⟨b, o + k, none⟩) (by simp; omega)).trans hq1
          go_simp
          refine hK _ _ (Below.refl _ _) ?_
          exact rfl
        refine GOps.cons_ (fun f w' K hW hd hK => ?_) ?_
        · try simp only [depsOf, depsL, Region.binds, depsHold, nthS, List.getD_cons_zero, List.getD_cons_succ, isV, ownV, anyV, if_true, and_true, true_and] at hd
          have hc11 : w'.cell? ⟨w.heap.size, 11, none⟩ = some (.slice (some ⟨b, o, none⟩) nF fc) := (KB.below hW KB.lt).cell 11
          have hc13 : w'.cell? ⟨w.heap.size, 13, none⟩ = some (.slice (some ⟨b2, o2, none⟩) nQ qc) := (KB.below hW KB.lt).cell 13
          have hcq : w'.cell? ⟨b, o + k, none⟩ = some (.int .i64 j) := (hW.cell (p := ⟨b, o + k, none⟩) (by simp; omega)).trans hq1
          go_simp
          refine hK _ _ (Below.refl _ _) ?_
          exact rfl
        refine GOps.cons_ (fun f w' K hW hd hK => ?_) ?_
        · try simp only [depsOf, depsL, Region.binds, depsHold, nthS, List.getD_cons_zero, List.getD_cons_succ, isV, ownV, anyV, if_true, and_true, true_and] at hd
          have hc11 : w'.cell? ⟨w.heap.size, 11, none⟩ = some (.slice (some ⟨b, o, none⟩) nF fc) := (KB.below hW KB.lt).cell 11
          have hc13 : w'.cell? ⟨w.heap.size, 13, none⟩ = some (.slice (some ⟨b2, o2, none⟩) nQ qc) := (KB.below hW KB.lt).cell 13
          have hcq : w'.cell? ⟨b, o + k, none⟩ = some (.int .i64 j) := (hW.cell (p := ⟨b, o + k, none⟩) (by simp; omega)).trans hq1
          go_simp
          refine hK _ _ (Below.refl _ _) ?_
          exact rfl
        refine GOps.cons_ (fun f w' K hW hd hK => ?_) ?_
        · try simp only [depsOf, depsL, Region.binds, depsHold, nthS, List.getD_cons_zero, List.getD_cons_succ, isV, ownV, anyV, if_true, and_true, true_and] at hd
          have hc11 : w'.cell? ⟨w.heap.size, 11, none⟩ = some (.slice (some ⟨b, o, none⟩) nF fc) := (KB.below hW KB.lt).cell 11
          have hc13 : w'.cell? ⟨w.heap.size, 13, none⟩ = some (.slice (some ⟨b2, o2, none⟩) nQ qc) := (KB.below hW KB.lt).cell 13
          have hcq : w'.cell? ⟨b, o + k, none⟩ = some (.int .i64 j) := (hW.cell (p := ⟨b, o + k, none⟩) (by simp; omega)).trans hq1
          go_simp
          refine hK _ _ (Below.refl _ _) ?_
          exact rfl
        refine GOps.cons_ (fun f w' K hW hd hK => ?_) ?_
        · try simp only [depsOf, depsL, Region.binds, depsHold, nthS, List.getD_cons_zero, List.getD_cons_succ, isV, ownV, anyV, if_true, and_true, true_and] at hd
          have hc11 : w'.cell? ⟨w.heap.size, 11, none⟩ = some (.slice (some ⟨b, o, none⟩) nF fc) := (KB.below hW KB.lt).cell 11
          have hc13 : w'.cell? ⟨w.heap.size, 13, none⟩ = some (.slice (some ⟨b2, o2, none⟩) nQ qc) := (KB.below hW KB.lt).cell 13
          have hcq : w'.cell? ⟨b, o + k, none⟩ = some (.int .i64 j) := (hW.cell (p := ⟨b, o + k, none⟩) (by simp; omega)).trans hq1
          go_simp
          refine (opAmong_any _ _ _ _).mono ?_
          rw [HLT.out]
          rintro e w1 ⟨rfl, rfl⟩
          exact ⟨_, rfl, hK _ _ (Below.refl _ _) rfl⟩
        refine GOps.cons_ (fun f w' K hW hd hK => ?_) ?_
        · try simp only [depsOf, depsL, Region.binds, depsHold, nthS, List.getD_cons_zero, List.getD_cons_succ, isV, ownV, anyV, if_true, and_true, true_and] at hd
          have hc11 : w'.cell? ⟨w.heap.size, 11, none⟩ = some (.slice (some ⟨b, o, none⟩) nF fc) := (KB.below hW KB.lt).cell 11
          have hc13 : w'.cell? ⟨w.heap.size, 13, none⟩ = some (.slice (some ⟨b2, o2, none⟩) nQ qc) := (KB.below hW KB.lt).cell 13
          have hcq : w'.cell? ⟨b, o + k, none⟩ = some (.int .i64 j) := (hW.cell (p := ⟨b, o + k, none⟩) (by simp; omega)).trans hq1
          go_simp
          refine hK _ _ (Below.refl _ _) ?_
          exact rfl
        refine GOps.cons_ (fun f w' K hW hd hK => ?_) ?_
        · try simp only [depsOf, depsL, Region.binds, depsHold, nthS, List.getD_cons_zero, List.getD_cons_succ, isV, ownV, anyV, if_true, and_true, true_and] at hd
          have hc11 : w'.cell? ⟨w.heap.size, 11, none⟩ = some (.slice (some ⟨b, o, none⟩) nF fc) := (KB.below hW KB.lt).cell 11
          have hc13 : w'.cell? ⟨w.heap.size, 13, none⟩ = some (.slice (some ⟨b2, o2, none⟩) nQ qc) := (KB.below hW KB.lt).cell 13
          have hcq : w'.cell? ⟨b, o + k, none⟩ = some (.int .i64 j) := (hW.cell (p := ⟨b, o + k, none⟩) (by simp; omega)).trans hq1
          go_simp
          refine hK _ _ (Below.refl _ _) ?_
          exact rfl
        refine GOps.cons_ (fun f w' K hW hd hK => ?_) ?_
        · try simp only [depsOf, depsL, Region.binds, depsHold, nthS, List.getD_cons_zero, List.getD_cons_succ, isV, ownV, anyV, if_true, and_true, true_and] at hd
          have hc11 : w'.cell? ⟨w.heap.size, 11, none⟩ = some (.slice (some ⟨b, o, none⟩) nF fc) := (KB.below hW KB.lt).cell 11
          have hc13 : w'.cell? ⟨w.heap.size, 13, none⟩ = some (.slice (some ⟨b2, o2, none⟩) nQ qc) := (KB.below hW KB.lt).cell 13
          have hcq : w'.cell? ⟨b, o + k, none⟩ = some (.int .i64 j) := (hW.cell (p := ⟨b, o + k, none⟩) (by simp; omega)).trans hq1
          go_simp
          refine hK _ _ (Below.refl _ _) ?_
          exact rfl
        refine GOps.cons_ (fun f w' K hW hd hK => ?_) ?_
        · try simp only [depsOf, depsL, Region.binds, depsHold, nthS, List.getD_cons_zero, List.getD_cons_succ, isV, ownV, anyV, if_true, and_true, true_and] at hd
          have hc11 : w'.cell? ⟨w.heap.size, 11, none⟩ = some (.slice (some ⟨b, o, none⟩) nF fc) := (KB.below hW KB.lt).cell 11
          have hc13 : w'.cell? ⟨w.heap.size, 13, none⟩ = some (.slice (some ⟨b2, o2, none⟩) nQ qc) := (KB.below hW KB.lt).cell 13
          have hcq : w'.cell? ⟨b, o + k, none⟩ = some (.int .i64 j) := (hW.cell (p := ⟨b, o + k, none⟩) (by simp; omega)).trans hq1
          go_simp
          refine hK _ _ (Below.refl _ _) ?_
          exact rfl
        refine GOps.cons_ (fun f w' K hW hd hK => ?_) ?_
        · try simp only [depsOf, depsL, Region.binds, depsHold, nthS, List.getD_cons_zero, List.getD_cons_succ, isV, ownV, anyV, if_true, and_true, true_and] at hd
          have hc11 : w'.cell? ⟨w.heap.size, 11, none⟩ = some (.slice (some ⟨b, o, none⟩) nF fc) := (KB.below hW KB.lt).cell 11
          have hc13 : w'.cell? ⟨w.heap.size, 13, none⟩ = some (.slice (some ⟨b2, o2, none⟩) nQ qc) := (KB.below hW KB.lt).cell 13
          have hcq : w'.cell? ⟨b, o + k, none⟩ = some (.int .i64 j) := (hW.cell (p := ⟨b, o + k, none⟩) (by simp; omega)).trans hq1
          go_simp
          refine hK _ _ (Below.refl _ _) ?_
          exact rfl
        refine GOps.cons_ (fun f w' K hW hd hK => ?_) ?_
        · try simp only [depsOf, depsL, Region.binds, depsHold, nthS, List.getD_cons_zero, List.getD_cons_succ, isV, ownV, anyV, if_true, and_true, true_and] at hd
          have hc11 : w'.cell? ⟨w.heap.size, 11, none⟩ = some (.slice (some ⟨b, o, none⟩) nF fc) := (KB.below hW KB.lt).cell 11
          have hc13 : w'.cell? ⟨w.heap.size, 13, none⟩ = some (.slice (some ⟨b2, o2, none⟩) nQ qc) := (KB.below hW KB.lt).cell 13
          have hcq : w'.cell? ⟨b, o + k, none⟩ = some (.int .i64 j) := (hW.cell (p := ⟨b, o + k, none⟩) (by simp; omega)).trans hq1
          go_simp
          refine hK _ _ (Below.refl _ _) ?_
          exact rfl
        refine GOps.cons_ (fun f w' K hW hd hK => ?_) ?_
        · try simp only [depsOf, depsL, Region.binds, depsHold, nthS, List.getD_cons_zero, List.getD_cons_succ, isV, ownV, anyV, if_true, and_true, true_and] at hd
          have hc11 : w'.cell? ⟨w.heap.size, 11, none⟩ = some (.slice (some ⟨b, o, none⟩) nF fc) := (KB.below hW KB.lt).cell 11
          have hc13 : w'.cell? ⟨w.heap.size, 13, none⟩ = some (.slice (some ⟨b2, o2, none⟩) nQ qc) := (KB.below hW KB.lt).cell 13
          have hcq : w'.cell? ⟨b, o + k, none⟩ = some (.int .i64 j) := (hW.cell (p := ⟨b, o + k, none⟩) (by simp; omega)).trans hq1
          go_simp
          refine hK _ _ (Below.refl _ _) ?_
          exact rfl
        refine GOps.cons_ (fun f w' K hW hd hK => ?_) ?_
        · try simp only [depsOf, depsL, Region.binds, depsHold, nthS, List.getD_cons_zero, List.getD_cons_succ, isV, ownV, anyV, if_true, and_true, true_and] at hd
          have hc11 : w'.cell? ⟨w.heap.size, 11, none⟩ = some (.slice (some ⟨b, o, none⟩) nF fc) := (KB.below hW KB.lt).cell 11
          have hc13 : w'.cell? ⟨w.heap.size, 13, none⟩ = some (.slice (some ⟨b2, o2, none⟩) nQ qc) := (KB.below hW KB.lt).cell 13
          have hcq : w'.cell? ⟨b, o + k, none⟩ = some (.int .i64 j) := (hW.cell (p := ⟨b, o + k, none⟩) (by simp; omega)).trans hq1
          go_simp
          refine hK _ _ (Below.refl _ _) ?_
          exact rfl
        refine GOps.cons_ (fun f w' K hW hd hK => ?_) ?_
        · try simp only [depsOf, depsL, Region.binds, depsHold, nthS, List.getD_cons_zero, List.getD_cons_succ, isV, ownV, anyV, if_true, and_true, true_and] at hd
          have hc11 : w'.cell? ⟨w.heap.size, 11, none⟩ = some (.slice (some ⟨b, o, none⟩) nF fc) := (KB.below hW KB.lt).cell 11
          have hc13 : w'.cell? ⟨w.heap.size, 13, none⟩ = some (.slice (some ⟨b2, o2, none⟩) nQ qc) := (KB.below hW KB.lt).cell 13
          have hcq : w'.cell? ⟨b, o + k, none⟩ = some (.int .i64 j) := (hW.cell (p := ⟨b, o + k, none⟩) (by simp; omega)).trans hq1
          go_simp
          refine hK _ _ (Below.refl _ _) ?_
          exact rfl
        refine GOps.cons_ (fun f w' K hW hd hK => ?_) ?_
        · try simp only [depsOf, depsL, Region.binds, depsHold, nthS, List.getD_cons_zero, List.getD_cons_succ, isV, ownV, anyV, if_true, and_true, true_and] at hd
          have hc11 : w'.cell? ⟨w.heap.size, 11, none⟩ = some (.slice (some ⟨b, o, none⟩) nF fc) := (KB.below hW KB.lt).cell 11
          have hc13 : w'.cell? ⟨w.heap.size, 13, none⟩ = some (.slice (some ⟨b2, o2, none⟩) nQ qc) := (KB.below hW KB.lt).cell 13
          have hcq : w'.cell? ⟨b, o + k, none⟩ = some (.int .i64 j) := (hW.cell (p := ⟨b, o + k, none⟩) (by simp; omega)).trans hq1
          go_simp
          refine hK _ _ (Below.refl _ _) ?_
          exact rfl
        refine GOps.cons_ (fun f w' K hW hd hK => ?_) ?_
        · try simp only [depsOf, depsL, Region.binds, depsHold, nthS, List.getD_cons_zero, List.getD_cons_succ, isV, ownV, anyV, if_true, and_true, true_and] at hd
          have hc11 : w'.cell? ⟨w.heap.size, 11, none⟩ = some (.slice (some ⟨b, o, none⟩) nF fc) := (KB.below hW KB.lt).cell 11
          have hc13 : w'.cell? ⟨w.heap.size, 13, none⟩ = some (.slice (some ⟨b2, o2, none⟩) nQ qc) := (KB.below hW KB.lt).cell 13
          have hcq : w'.cell? ⟨b, o + k, none⟩ = some (.int .i64 j) := (hW.cell (p := ⟨b, o + k, none⟩) (by simp; omega)).trans hq1
          go_simp
          refine (opAmong_any _ _ _ _).mono ?_
          rw [HLQ.out]
          rintro e w1 ⟨rfl, rfl⟩
          exact ⟨_, rfl, hK _ _ (Below.refl _ _) rfl⟩
        refine GOps.cons_ (fun f w' K hW hd hK => ?_) ?_
        · try simp only [depsOf, depsL, Region.binds, depsHold, nthS, List.getD_cons_zero, List.getD_cons_succ, isV, ownV, anyV, if_true, and_true, true_and] at hd
          have hc11 : w'.cell? ⟨w.heap.size, 11, none⟩ = some (.slice (some ⟨b, o, none⟩) nF fc) := (KB.below hW KB.lt).cell 11
          have hc13 : w'.cell? ⟨w.heap.size, 13, none⟩ = some (.slice (some ⟨b2, o2, none⟩) nQ qc) := (KB.below hW KB.lt).cell 13
          have hcq : w'.cell? ⟨b, o + k, none⟩ = some (.int .i64 j) := (hW.cell (p := ⟨b, o + k, none⟩) (by simp; omega)).trans hq1
          go_simp
          refine hK _ _ (Below.refl _ _) ?_
          exact rfl
        refine GOps.cons_ (fun f w' K hW hd hK => ?_) ?_
        · try simp only [depsOf, depsL, Region.binds, depsHold, nthS, List.getD_cons_zero, List.getD_cons_succ, isV, ownV, anyV, if_true, and_true, true_and] at hd
          have hc11 : w'.cell? ⟨w.heap.size, 11, none⟩ = some (.slice (some ⟨b, o, none⟩) nF fc) := (KB.below hW KB.lt).cell 11
          have hc13 : w'.cell? ⟨w.heap.size, 13, none⟩ = some (.slice (some ⟨b2, o2, none⟩) nQ qc) := (KB.below hW KB.lt).cell 13
          have hcq : w'.cell? ⟨b, o + k, none⟩ = some (.int .i64 j) := (hW.cell (p := ⟨b, o + k, none⟩) (by simp; omega)).trans hq1
          go_simp
          refine hK _ _ (Below.refl _ _) ?_
          exact rfl
        exact GOps.nil_
      case hend4 =>
        intro f w1 hW0 hd
        simp only [List.length_cons, List.length_nil, Nat.reduceAdd, List.range, List.range.loop, depsHold, nthS, List.getD_cons_zero, List.getD_cons_succ, isV, ownV, anyV, true_and, and_true] at hd
        have H17 : f 17 = .bool false := by simp only [hd]
        rw [H17]
        clear hd H17
        go_wp2
        refine wp_region_grow (A := ?A3) [isV (.pointer (some ⟨w.heap.size, 13, none⟩)), isV (.slice (some ⟨b2, o2, none⟩) nQ qc), isV (.pointer (some ⟨w.heap.size, 11, none⟩)), isV (.slice (some ⟨b, o, none⟩) nF fc), isV (.int .i64 k), isV (.pointer (some ⟨b, o + k, none⟩)), isV (.int .i64 j), isV (.pointer (some ⟨b2, o2 + j, none⟩)), isV (.int .i64 z), isV (.int .i64 z)] (w1) (by kernel_rfl) (by kernel_rfl) (fun f => ?hA3) (Below.refl _ _) ?hst3 ?hops3 ?hend3
        case hA3 =>
          simp only [fillFrom, Nat.zero_add, Nat.reduceAdd]
          go_frame
          with_reducible rfl
        case hst3 => repeat (first | exact trivial | refine ⟨stab_is _ _, ?_⟩ | refine ⟨stab_own _ _ _ _, ?_⟩ | refine ⟨stab_any _, ?_⟩ | refine ⟨stab_rd _ _ _, ?_⟩)
        case hops3 =>
          refine GOps.cons_ (fun f w' K hW hd hK => ?_) ?_
          · try simp only [depsOf, depsL, Region.binds, depsHold, nthS, List.getD_cons_zero, List.getD_cons_succ, isV, ownV, anyV, if_true, and_true, true_and] at hd
            have hc11 : w'.cell? ⟨w.heap.size, 11, none⟩ = some (.slice (some ⟨b, o, none⟩) nF fc) := ((KB.below hW0 KB.lt).below hW (by have := hW0.size; have := KB.lt; omega)).cell 11
            have hc13 : w'.cell? ⟨w.heap.size, 13, none⟩ = some (.slice (some ⟨b2, o2, none⟩) nQ qc) := ((KB.below hW0 KB.lt).below hW (by have := hW0.size; have := KB.lt; omega)).cell 13
            have hcq : w'.cell? ⟨b, o + k, none⟩ = some (.int .i64 j) := ((hW0.trans (hW.mono hW0.size)).cell (p := ⟨b, o + k, none⟩) (by simp; omega)).trans hq1
            have hcz : w'.cell? ⟨b2, o2 + j, none⟩ = some (.int .i64 z) := ((hW0.trans (hW.mono hW0.size)).cell (p := ⟨b2, o2 + j, none⟩) (by simp; omega)).trans hz1
            go_simp
            refine hK _ _ (Below.refl _ _) ?_
            exact rfl
          refine GOps.cons_ (fun f w' K hW hd hK => ?_) ?_
          · try simp only [depsOf, depsL, Region.binds, depsHold, nthS, List.getD_cons_zero, List.getD_cons_succ, isV, ownV, anyV, if_true, and_true, true_and] at hd
            have hc11 : w'.cell? ⟨w.heap.size, 11, none⟩ = some (.slice (some ⟨b, o, none⟩) nF fc) := ((KB.below hW0 KB.lt).below hW (by have := hW0.size; have := KB.lt; omega)).cell 11
            have hc13 : w'.cell? ⟨w.heap.size, 13, none⟩ = some (.slice (some ⟨b2, o2, none⟩) nQ qc) := ((KB.below hW0 KB.lt).below hW (by have := hW0.size; have := KB.lt; omega)).cell 13
            have hcq : w'.cell? ⟨b, o + k, none⟩ = some (.int .i64 j) := ((hW0.trans (hW.mono hW0.size)).cell (p := ⟨b, o + k, none⟩) (by simp; omega)).trans hq1
            have hcz : w'.cell? ⟨b2, o2 + j, none⟩ = some (.int .i64 z) := ((hW0.trans (hW.mono hW0.size)).cell (p := ⟨b2, o2 + j, none⟩) (by simp; omega)).trans hz1
            go_simp
            refine hK _ _ (Below.refl _ _) ?_
            exact rfl
          refine GOps.cons_ (fun f w' K hW hd hK => ?_) ?_
          · try simp only [depsOf, depsL, Region.binds, depsHold, nthS, List.getD_cons_zero, List.getD_cons_succ, isV, ownV, anyV, if_true, and_true, true_and] at hd
            have hc11 : w'.cell? ⟨w.heap.size, 11, none⟩ = some (.slice (some ⟨b, o, none⟩) nF fc) := ((KB.below hW0 KB.lt).below hW (by have := hW0.size; have := KB.lt; omega)).cell 11
            have hc13 : w'.cell? ⟨w.heap.size, 13, none⟩ = some (.slice (some ⟨b2, o2, none⟩) nQ qc) := ((KB.below hW0 KB.lt).below hW (by have := hW0.size; have := KB.lt; omega)).cell 13
            have hcq : w'.cell? ⟨b, o + k, none⟩ = some (.int .i64 j) := ((hW0.trans (hW.mono hW0.size)).cell (p := ⟨b, o + k, none⟩) (by simp; omega)).trans hq1
            have hcz : w'.cell? ⟨b2, o2 + j, none⟩ = some (.int .i64 z) := ((hW0.trans (hW.mono hW0.size)).cell (p := ⟨b2, o2 + j, none⟩) (by simp; omega)).trans hz1
            go_simp
            refine hK _ _ (Below.refl _ _) ?_
            exact rfl
          refine GOps.cons_ (fun f w' K hW hd hK => ?_) ?_
          · try simp only [depsOf, depsL, Region.binds, depsHold, nthS, List.getD_cons_zero, List.getD_cons_succ, isV, ownV, anyV, if_true, and_true, true_and] at hd
            have hc11 : w'.cell? ⟨w.heap.size, 11, none⟩ = some (.slice (some ⟨b, o, none⟩) nF fc) := ((KB.below hW0 KB.lt).below hW (by have := hW0.size; have := KB.lt; omega)).cell 11
            have hc13 : w'.cell? ⟨w.heap.size, 13, none⟩ = some (.slice (some ⟨b2, o2, none⟩) nQ qc) := ((KB.below hW0 KB.lt).below hW (by have := hW0.size; have := KB.lt; omega)).cell 13
            have hcq : w'.cell? ⟨b, o + k, none⟩ = some (.int .i64 j) := ((hW0.trans (hW.mono hW0.size)).cell (p := ⟨b, o + k, none⟩) (by simp; omega)).trans hq1
            have hcz : w'.cell? ⟨b2, o2 + j, none⟩ = some (.int .i64 z) := ((hW0.trans (hW.mono hW0.size)).cell (p := ⟨b2, o2 + j, none⟩) (by simp; omega)).trans hz1
            go_simp
            refine hK _ _ (Below.refl _ _) ?_
            exact rfl
          refine GOps.cons_ (fun f w' K hW hd hK => ?_) ?_
          · try simp only [depsOf, depsL, Region.binds, depsHold, nthS, List.getD_cons_zero, List.getD_cons_succ, isV, ownV, anyV, if_true, and_true, true_and] at hd
            have hc11 : w'.cell? ⟨w.heap.size, 11, none⟩ = some (.slice (some ⟨b, o, none⟩) nF fc) := ((KB.below hW0 KB.lt).below hW (by have := hW0.size; have := KB.lt; omega)).cell 11
            have hc13 : w'.cell? ⟨w.heap.size, 13, none⟩ = some (.slice (some ⟨b2, o2, none⟩) nQ qc) := ((KB.below hW0 KB.lt).below hW (by have := hW0.size; have := KB.lt; omega)).cell 13
            have hcq : w'.cell? ⟨b, o + k, none⟩ = some (.int .i64 j) := ((hW0.trans (hW.mono hW0.size)).cell (p := ⟨b, o + k, none⟩) (by simp; omega)).trans hq1
            have hcz : w'.cell? ⟨b2, o2 + j, none⟩ = some (.int .i64 z) := ((hW0.trans (hW.mono hW0.size)).cell (p := ⟨b2, o2 + j, none⟩) (by simp; omega)).trans hz1
            go_simp
            refine hK _ _ (Below.refl _ _) ?_
            exact rfl
          refine GOps.cons_ (fun f w' K hW hd hK => ?_) ?_
          · try simp only [depsOf, depsL, Region.binds, depsHold, nthS, List.getD_cons_zero, List.getD_cons_succ, isV, ownV, anyV, if_true, and_true, true_and] at hd
            have hc11 : w'.cell? ⟨w.heap.size, 11, none⟩ = some (.slice (some ⟨b, o, none⟩) nF fc) := ((KB.below hW0 KB.lt).below hW (by have := hW0.size; have := KB.lt; omega)).cell 11
            have hc13 : w'.cell? ⟨w.heap.size, 13, none⟩ = some (.slice (some ⟨b2, o2, none⟩) nQ qc) := ((KB.below hW0 KB.lt).below hW (by have := hW0.size; have := KB.lt; omega)).cell 13
            have hcq : w'.cell? ⟨b, o + k, none⟩ = some (.int .i64 j) := ((hW0.trans (hW.mono hW0.size)).cell (p := ⟨b, o + k, none⟩) (by simp; omega)).trans hq1
            have hcz : w'.cell? ⟨b2, o2 + j, none⟩ = some (.int .i64 z) := ((hW0.trans (hW.mono hW0.size)).cell (p := ⟨b2, o2 + j, none⟩) (by simp; omega)).trans hz1
            go_simp
            refine hK _ _ (Below.refl _ _) ?_
            exact rfl
          refine GOps.cons_ (fun f w' K hW hd hK => ?_) ?_
          · try simp only [depsOf, depsL, Region.binds, depsHold, nthS, List.getD_cons_zero, List.getD_cons_succ, isV, ownV, anyV, if_true, and_true, true_and] at hd
            have hc11 : w'.cell? ⟨w.heap.size, 11, none⟩ = some (.slice (some ⟨b, o, none⟩) nF fc) := ((KB.below hW0 KB.lt).below hW (by have := hW0.size; have := KB.lt; omega)).cell 11
            have hc13 : w'.cell? ⟨w.heap.size, 13, none⟩ = some (.slice (some ⟨b2, o2, none⟩) nQ qc) := ((KB.below hW0 KB.lt).below hW (by have := hW0.size; have := KB.lt; omega)).cell 13
            have hcq : w'.cell? ⟨b, o + k, none⟩ = some (.int .i64 j) := ((hW0.trans (hW.mono hW0.size)).cell (p := ⟨b, o + k, none⟩) (by simp; omega)).trans hq1
            have hcz : w'.cell? ⟨b2, o2 + j, none⟩ = some (.int .i64 z) := ((hW0.trans (hW.mono hW0.size)).cell (p := ⟨b2, o2 + j, none⟩) (by simp; omega)).trans hz1
            go_simp
            refine hK _ _ (Below.refl _ _) ?_
            exact rfl
          refine GOps.cons_ (fun f w' K hW hd hK => ?_) ?_
          · try simp only [depsOf, depsL, Region.binds, depsHold, nthS, List.getD_cons_zero, List.getD_cons_succ, isV, ownV, anyV, if_true, and_true, true_and] at hd
            have hc11 : w'.cell? ⟨w.heap.size, 11, none⟩ = some (.slice (some ⟨b, o, none⟩) nF fc) := ((KB.below hW0 KB.lt).below hW (by have := hW0.size; have := KB.lt; omega)).cell 11
            have hc13 : w'.cell? ⟨w.heap.size, 13, none⟩ = some (.slice (some ⟨b2, o2, none⟩) nQ qc) := ((KB.below hW0 KB.lt).below hW (by have := hW0.size; have := KB.lt; omega)).cell 13
            have hcq : w'.cell? ⟨b, o + k, none⟩ = some (.int .i64 j) := ((hW0.trans (hW.mono hW0.size)).cell (p := ⟨b, o + k, none⟩) (by simp; omega)).trans hq1
            have hcz : w'.cell? ⟨b2, o2 + j, none⟩ = some (.int .i64 z) := ((hW0.trans (hW.mono hW0.size)).cell (p := ⟨b2, o2 + j, none⟩) (by simp; omega)).trans hz1
            go_simp
            refine hK _ _ (Below.refl _ _) ?_
            exact rfl
          refine GOps.cons_ (fun f w' K hW hd hK => ?_) ?_
          · try simp only [depsOf, depsL, Region.binds, depsHold, nthS, List.getD_cons_zero, List.getD_cons_succ, isV, ownV, anyV, if_true, and_true, true_and] at hd
            have hc11 : w'.cell? ⟨w.heap.size, 11, none⟩ = some (.slice (some ⟨b, o, none⟩) nF fc) := ((KB.below hW0 KB.lt).below hW (by have := hW0.size; have := KB.lt; omega)).cell 11
            have hc13 : w'.cell? ⟨w.heap.size, 13, none⟩ = some (.slice (some ⟨b2, o2, none⟩) nQ qc) := ((KB.below hW0 KB.lt).below hW (by have := hW0.size; have := KB.lt; omega)).cell 13
            have hcq : w'.cell? ⟨b, o + k, none⟩ = some (.int .i64 j) := ((hW0.trans (hW.mono hW0.size)).cell (p := ⟨b, o + k, none⟩) (by simp; omega)).trans hq1
            have hcz : w'.cell? ⟨b2, o2 + j, none⟩ = some (.int .i64 z) := ((hW0.trans (hW.mono hW0.size)).cell (p := ⟨b2, o2 + j, none⟩) (by simp; omega)).trans hz1
            go_simp
            refine hK _ _ (Below.refl _ _) ?_
            exact rfl
          refine GOps.cons_ (fun f w' K hW hd hK => ?_) ?_
          · try simp only [depsOf, depsL, Region.binds, depsHold, nthS, List.getD_cons_zero, List.getD_cons_succ, isV, ownV, anyV, if_true, and_true, true_and] at hd
            have hc11 : w'.cell? ⟨w.heap.size, 11, none⟩ = some (.slice (some ⟨b, o, none⟩) nF fc) := ((KB.below hW0 KB.lt).below hW (by have := hW0.size; have := KB.lt; omega)).cell 11
            have hc13 : w'.cell? ⟨w.heap.size, 13, none⟩ = some (.slice (some ⟨b2, o2, none⟩) nQ qc) := ((KB.below hW0 KB.lt).below hW (by have := hW0.size; have := KB.lt; omega)).cell 13
            have hcq : w'.cell? ⟨b, o + k, none⟩ = some (.int .i64 j) := ((hW0.trans (hW.mono hW0.size)).cell (p := ⟨b, o + k, none⟩) (by simp; omega)).trans hq1
            have hcz : w'.cell? ⟨b2, o2 + j, none⟩ = some (.int .i64 z) := ((hW0.trans (hW.mono hW0.size)).cell (p := ⟨b2, o2 + j, none⟩) (by simp; omega)).trans hz1
            go_simp
            refine hK _ _ (Below.refl _ _) ?_
            exact rfl
          exact GOps.nil_
        case hend3 =>
          intro f w' hW hd
          simp only [List.length_cons, List.length_nil, Nat.reduceAdd, List.range, List.range.loop, depsHold, nthS, List.getD_cons_zero, List.getD_cons_succ, isV, ownV, anyV, true_and, and_true] at hd
          have hl : f 9 = .int .i64 z := by simp only [hd]
          go_wp2
          go_ret
          exact ⟨(congrArg Ending.returned hl).trans (ret_int HR.out), (hbx.trans (hW0.mono hbx.size)).trans (hW.mono (Nat.le_trans hbx.size hW0.size))⟩
    · rw [if_neg h2] at hR
      have HR : Hid (0 = parN fs ps (k : Int)) := hR.symm
      have HLQ := Lib.hid (ltB_f (n := q) (lo := 0) (hi := (nQ : Int)) (by omega))
      clear hR h1 h2 hf hq hnf hnq hqe hkf
      go_enter Try.func37, Try.ntmps37
      go_wp2_with fail
      refine wp_region_grow (A := ?A2) [isV (.int .i64 k), isV (.pointer (some ⟨w.heap.size, 11, none⟩)), isV (.slice (some ⟨b, o, none⟩) nF fc), isV (.int .i64 nF), isV (.bool true), isV (.bool false), isV (.bool false), isV (.pointer (some ⟨w.heap.size, 11, none⟩)), isV (.slice (some ⟨b, o, none⟩) nF fc), isV (.int .i64 k), isV (.pointer (some ⟨b, o + k, none⟩)), isV (.int .i64 q), isV (.pointer (some ⟨w.heap.size, 13, none⟩)), isV (.slice qA nQ qc), isV (.int .i64 nQ), isV (.bool false), isV (.bool true), isV (.bool true)] (w.alloc (.cells #[.int .i64 x0, .int .i64 x1, .int .i64 x2, .int .i64 x3, .slice tA nT tc, .int .i64 fl, .slice pA nP pc, .slice gA nG gc, .slice A8 n8 c8, .slice A9 n9 c9, .slice A10 n10 c10, .slice (some ⟨b, o, none⟩) nF fc, .slice dA nD dc, .slice qA nQ qc, .slice lA nL lc] 46)) (by kernel_rfl) (by kernel_rfl) (fun f => ?hA2) (Below.refl _ _) ?hst2 ?hops2 ?hend2
      case hA2 =>
        simp only [fillFrom, Nat.zero_add, Nat.reduceAdd]
        go_frame
        with_reducible rfl
      case hst2 => repeat (first | exact trivial | refine ⟨stab_is _ _, ?_⟩ | refine ⟨stab_own _ _ _ _, ?_⟩ | refine ⟨stab_any _, ?_⟩ | refine ⟨stab_rd _ _ _, ?_⟩)
      case hops2 =>
        refine GOps.cons_ (fun f w' K hW hd hK => ?_) ?_
        · try simp only [depsOf, depsL, Region.binds, depsHold, nthS, List.getD_cons_zero, List.getD_cons_succ, isV, ownV, anyV, if_true, and_true, true_and] at hd
          have hc11 : w'.cell? ⟨w.heap.size, 11, none⟩ = some (.slice (some ⟨b, o, none⟩) nF fc) := (KB.below hW KB.lt).cell 11
          have hc13 : w'.cell? ⟨w.heap.size, 13, none⟩ = some (.slice qA nQ qc) := (KB.below hW KB.lt).cell 13
          have hcq : w'.cell? ⟨b, o + k, none⟩ = some (.int .i64 q) := (hW.cell (p := ⟨b, o + k, none⟩) (by simp; omega)).trans hq1
          go_simp
          refine hK _ _ (Below.refl _ _) ?_
          exact rfl
        refine GOps.cons_ (fun f w' K hW hd hK => ?_) ?_
        · try simp only [depsOf, depsL, Region.binds, depsHold, nthS, List.getD_cons_zero, List.getD_cons_succ, isV, ownV, anyV, if_true, and_true, true_and] at hd
          have hc11 : w'.cell? ⟨w.heap.size, 11, none⟩ = some (.slice (some ⟨b, o, none⟩) nF fc) := (KB.below hW KB.lt).cell 11
          have hc13 : w'.cell? ⟨w.heap.size, 13, none⟩ = some (.slice qA nQ qc) := (KB.below hW KB.lt).cell 13
          have hcq : w'.cell? ⟨b, o + k, none⟩ = some (.int .i64 q) := (hW.cell (p := ⟨b, o + k, none⟩) (by simp; omega)).trans hq1
          go_simp
          refine hK _ _ (Below.refl _ _) ?_
          exact rfl
        refine GOps.cons_ (fun f w' K hW hd hK => ?_) ?_
        · try simp only [depsOf, depsL, Region.binds, depsHold, nthS, List.getD_cons_zero, List.getD_cons_succ, isV, ownV, anyV, if_true, and_true, true_and] at hd
          have hc11 : w'.cell? ⟨w.heap.size, 11, none⟩ = some (.slice (some ⟨b, o, none⟩) nF fc) := (KB.below hW KB.lt).cell 11
          have hc13 : w'.cell? ⟨w.heap.size, 13, none⟩ = some (.slice qA nQ qc) := (KB.below hW KB.lt).cell 13
          have hcq : w'.cell? ⟨b, o + k, none⟩ = some (.int .i64 q) := (hW.cell (p := ⟨b, o + k, none⟩) (by simp; omega)).trans hq1
          go_simp
          refine hK _ _ (Below.refl _ _) ?_
          exact rfl
        refine GOps.cons_ (fun f w' K hW hd hK => ?_) ?_
        · try simp only [depsOf, depsL, Region.binds, depsHold, nthS, List.getD_cons_zero, List.getD_cons_succ, isV, ownV, anyV, if_true, and_true, true_and] at hd
          have hc11 : w'.cell? ⟨w.heap.size, 11, none⟩ = some (.slice (some ⟨b, o, none⟩) nF fc) := (KB.below hW KB.lt).cell 11
          have hc13 : w'.cell? ⟨w.heap.size, 13, none⟩ = some (.slice qA nQ qc) := (KB.below hW KB.lt).cell 13
          have hcq : w'.cell? ⟨b, o + k, none⟩ = some (.int .i64 q) := (hW.cell (p := ⟨b, o + k, none⟩) (by simp; omega)).trans hq1
          go_simp
          refine hK _ _ (Below.refl _ _) ?_
          exact rfl
        refine GOps.cons_ (fun f w' K hW hd hK => ?_) ?_
        · try simp only [depsOf, depsL, Region.binds, depsHold, nthS, List.getD_cons_zero, List.getD_cons_succ, isV, ownV, anyV, if_true, and_true, true_and] at hd
          have hc11 : w'.cell? ⟨w.heap.size, 11, none⟩ = some (.slice (some ⟨b, o, none⟩) nF fc) := (KB.below hW KB.lt).cell 11
          have hc13 : w'.cell? ⟨w.heap.size, 13, none⟩ = some (.slice qA nQ qc) := (KB.below hW KB.lt).cell 13
          have hcq : w'.cell? ⟨b, o + k, none⟩ = some (.int .i64 q) := (hW.cell (p := ⟨b, o + k, none⟩) (by simp; omega)).trans hq1
          go_simp
          refine (opAmong_any _ _ _ _).mono ?_
          rw [HLT.out]
          rintro e w1 ⟨rfl, rfl⟩
          exact ⟨_, rfl, hK _ _ (Below.refl _ _) rfl⟩
        refine GOps.cons_ (fun f w' K hW hd hK => ?_) ?_
        · try simp only [depsOf, depsL, Region.binds, depsHold, nthS, List.getD_cons_zero, List.getD_cons_succ, isV, ownV, anyV, if_true, and_true, true_and] at hd
          have hc11 : w'.cell? ⟨w.heap.size, 11, none⟩ = some (.slice (some ⟨b, o, none⟩) nF fc) := (KB.below hW KB.lt).cell 11
          have hc13 : w'.cell? ⟨w.heap.size, 13, none⟩ = some (.slice qA nQ qc) := (KB.below hW KB.lt).cell 13
          have hcq : w'.cell? ⟨b, o + k, none⟩ = some (.int .i64 q) := (hW.cell (p := ⟨b, o + k, none⟩) (by simp; omega)).trans hq1
          go_simp
          refine hK _ _ (Below.refl _ _) ?_
          exact rfl
        refine GOps.cons_ (fun f w' K hW hd hK => ?_) ?_
        · try simp only [depsOf, depsL, Region.binds, depsHold, nthS, List.getD_cons_zero, List.getD_cons_succ, isV, ownV, anyV, if_true, and_true, true_and] at hd
          have hc11 : w'.cell? ⟨w.heap.size, 11, none⟩ = some (.slice (some ⟨b, o, none⟩) nF fc) := (KB.below hW KB.lt).cell 11
          have hc13 : w'.cell? ⟨w.heap.size, 13, none⟩ = some (.slice qA nQ qc) := (KB.below hW KB.lt).cell 13
          have hcq : w'.cell? ⟨b, o + k, none⟩ = some (.int .i64 q) := (hW.cell (p := ⟨b, o + k, none⟩) (by simp; omega)).trans hq1
          go_simp
          refine hK _ _ (Below.refl _ _) ?_
          exact rfl
        refine GOps.cons_ (fun f w' K hW hd hK => ?_) ?_
        · try simp only [depsOf, depsL, Region.binds, depsHold, nthS, List.getD_cons_zero, List.getD_cons_succ, isV, ownV, anyV, if_true, and_true, true_and] at hd
          have hc11 : w'.cell? ⟨w.heap.size, 11, none⟩ = some (.slice (some ⟨b, o, none⟩) nF fc) := (KB.below hW KB.lt).cell 11
          have hc13 : w'.cell? ⟨w.heap.size, 13, none⟩ = some (.slice qA nQ qc) := (KB.below hW KB.lt).cell 13
          have hcq : w'.cell? ⟨b, o + k, none⟩ = some (.int .i64 q) := (hW.cell (p := ⟨b, o + k, none⟩) (by simp; omega)).trans hq1
          go_simp
          refine hK _ _ (Below.refl _ _) ?_
          exact rfl
        refine GOps.cons_ (fun f w' K hW hd hK => ?_) ?_
        · try simp only [depsOf, depsL, Region.binds, depsHold, nthS, List.getD_cons_zero, List.getD_cons_succ, isV, ownV, anyV, if_true, and_true, true_and] at hd
          have hc11 : w'.cell? ⟨w.heap.size, 11, none⟩ = some (.slice (some ⟨b, o, none⟩) nF fc) := (KB.below hW KB.lt).cell 11
          have hc13 : w'.cell? ⟨w.heap.size, 13, none⟩ = some (.slice qA nQ qc) := (KB.below hW KB.lt).cell 13
          have hcq : w'.cell? ⟨b, o + k, none⟩ = some (.int .i64 q) := (hW.cell (p := ⟨b, o + k, none⟩) (by simp; omega)).trans hq1
          go_simp
          refine hK _ _ (Below.refl _ _) ?_
          exact rfl
        refine GOps.cons_ (fun f w' K hW hd hK => ?_) ?_
        · try simp only [depsOf, depsL, Region.binds, depsHold, nthS, List.getD_cons_zero, List.getD_cons_succ, isV, ownV, anyV, if_true, and_true, true_and] at hd
          have hc11 : w'.cell? ⟨w.heap.size, 11, none⟩ = some (.slice (some ⟨b, o, none⟩) nF fc) := (KB.below hW KB.lt).cell 11
          have hc13 : w'.cell? ⟨w.heap.size, 13, none⟩ = some (.slice qA nQ qc) := (KB.below hW KB.lt).cell 13
          have hcq : w'.cell? ⟨b, o + k, none⟩ = some (.int .i64 q) := (hW.cell (p := ⟨b, o + k, none⟩) (by simp; omega)).trans hq1
          go_simp
          refine hK _ _ (Below.refl _ _) ?_
          exact rfl
        refine GOps.cons_ (fun f w' K hW hd hK => ?_) ?_
        · try simp only [depsOf, depsL, Region.binds, depsHold, nthS, List.getD_cons_zero, List.getD_cons_succ, isV, ownV, anyV, if_true, and_true, true_and] at hd
          have hc11 : w'.cell? ⟨w.heap.size, 11, none⟩ = some (.slice (some ⟨b, o, none⟩) nF fc) := (KB.below hW KB.lt).cell 11
          have hc13 : w'.cell? ⟨w.heap.size, 13, none⟩ = some (.slice qA nQ qc) := (KB.below hW KB.lt).cell 13
          have hcq : w'.cell? ⟨b, o + k, none⟩ = some (.int .i64 q) := (hW.cell (p := ⟨b, o + k, none⟩) (by simp; omega)).trans hq1
          go_simp
          refine hK _ _ (Below.refl _ _) ?_
          exact rfl
        refine GOps.cons_ (fun f w' K hW hd hK => ?_) ?_
        · try simp only [depsOf, depsL, Region.binds, depsHold, nthS, List.getD_cons_zero, List.getD_cons_succ, isV, ownV, anyV, if_true, and_true, true_and] at hd
          have hc11 : w'.cell? ⟨w.heap.size, 11, none⟩ = some (.slice (some ⟨b, o, none⟩) nF fc) := (KB.below hW KB.lt).cell 11
          have hc13 : w'.cell? ⟨w.heap.size, 13, none⟩ = some (.slice qA nQ qc) := (KB.below hW KB.lt).cell 13
          have hcq : w'.cell? ⟨b, o + k, none⟩ = some (.int .i64 q) := (hW.cell (p := ⟨b, o + k, none⟩) (by simp; omega)).trans hq1
          go_simp
          refine hK _ _ (Below.refl _ _) ?_
          exact rfl
        refine GOps.cons_ (fun f w' K hW hd hK => ?_) ?_
        · try simp only [depsOf, depsL, Region.binds, depsHold, nthS, List.getD_cons_zero, List.getD_cons_succ, isV, ownV, anyV, if_true, and_true, true_and] at hd
          have hc11 : w'.cell? ⟨w.heap.size, 11, none⟩ = some (.slice (some ⟨b, o, none⟩) nF fc) := (KB.below hW KB.lt).cell 11
          have hc13 : w'.cell? ⟨w.heap.size, 13, none⟩ = some (.slice qA nQ qc) := (KB.below hW KB.lt).cell 13
          have hcq : w'.cell? ⟨b, o + k, none⟩ = some (.int .i64 q) := (hW.cell (p := ⟨b, o + k, none⟩) (by simp; omega)).trans hq1
          go_simp
          refine hK _ _ (Below.refl _ _) ?_
          exact rfl
        refine GOps.cons_ (fun f w' K hW hd hK => ?_) ?_
        · try simp only [depsOf, depsL, Region.binds, depsHold, nthS, List.getD_cons_zero, List.getD_cons_succ, isV, ownV, anyV, if_true, and_true, true_and] at hd
          have hc11 : w'.cell? ⟨w.heap.size, 11, none⟩ = some (.slice (some ⟨b, o, none⟩) nF fc) := (KB.below hW KB.lt).cell 11
          have hc13 : w'.cell? ⟨w.heap.size, 13, none⟩ = some (.slice qA nQ qc) := (KB.below hW KB.lt).cell 13
          have hcq : w'.cell? ⟨b, o + k, none⟩ = some (.int .i64 q) := (hW.cell (p := ⟨b, o + k, none⟩) (by simp; omega)).trans hq1
          go_simp
          refine hK _ _ (Below.refl _ _) ?_
          exact rfl
        refine GOps.cons_ (fun f w' K hW hd hK => ?_) ?_
        · try simp only [depsOf, depsL, Region.binds, depsHold, nthS, List.getD_cons_zero, List.getD_cons_succ, isV, ownV, anyV, if_true, and_true, true_and] at hd
          have hc11 : w'.cell? ⟨w.heap.size, 11, none⟩ = some (.slice (some ⟨b, o, none⟩) nF fc) := (KB.below hW KB.lt).cell 11
          have hc13 : w'.cell? ⟨w.heap.size, 13, none⟩ = some (.slice qA nQ qc) := (KB.below hW KB.lt).cell 13
          have hcq : w'.cell? ⟨b, o + k, none⟩ = some (.int .i64 q) := (hW.cell (p := ⟨b, o + k, none⟩) (by simp; omega)).trans hq1
          go_simp
          refine hK _ _ (Below.refl _ _) ?_
          exact rfl
        refine GOps.cons_ (fun f w' K hW hd hK => ?_) ?_
        · try simp only [depsOf, depsL, Region.binds, depsHold, nthS, List.getD_cons_zero, List.getD_cons_succ, isV, ownV, anyV, if_true, and_true, true_and] at hd
          have hc11 : w'.cell? ⟨w.heap.size, 11, none⟩ = some (.slice (some ⟨b, o, none⟩) nF fc) := (KB.below hW KB.lt).cell 11
          have hc13 : w'.cell? ⟨w.heap.size, 13, none⟩ = some (.slice qA nQ qc) := (KB.below hW KB.lt).cell 13
          have hcq : w'.cell? ⟨b, o + k, none⟩ = some (.int .i64 q) := (hW.cell (p := ⟨b, o + k, none⟩) (by simp; omega)).trans hq1
          go_simp
          refine (opAmong_any _ _ _ _).mono ?_
          rw [HLQ.out]
          rintro e w1 ⟨rfl, rfl⟩
          exact ⟨_, rfl, hK _ _ (Below.refl _ _) rfl⟩
        refine GOps.cons_ (fun f w' K hW hd hK => ?_) ?_
        · try simp only [depsOf, depsL, Region.binds, depsHold, nthS, List.getD_cons_zero, List.getD_cons_succ, isV, ownV, anyV, if_true, and_true, true_and] at hd
          have hc11 : w'.cell? ⟨w.heap.size, 11, none⟩ = some (.slice (some ⟨b, o, none⟩) nF fc) := (KB.below hW KB.lt).cell 11
          have hc13 : w'.cell? ⟨w.heap.size, 13, none⟩ = some (.slice qA nQ qc) := (KB.below hW KB.lt).cell 13
          have hcq : w'.cell? ⟨b, o + k, none⟩ = some (.int .i64 q) := (hW.cell (p := ⟨b, o + k, none⟩) (by simp; omega)).trans hq1
          go_simp
          refine hK _ _ (Below.refl _ _) ?_
          exact rfl
        refine GOps.cons_ (fun f w' K hW hd hK => ?_) ?_
        · try simp only [depsOf, depsL, Region.binds, depsHold, nthS, List.getD_cons_zero, List.getD_cons_succ, isV, ownV, anyV, if_true, and_true, true_and] at hd
          have hc11 : w'.cell? ⟨w.heap.size, 11, none⟩ = some (.slice (some ⟨b, o, none⟩) nF fc) := (KB.below hW KB.lt).cell 11
          have hc13 : w'.cell? ⟨w.heap.size, 13, none⟩ = some (.slice qA nQ qc) := (KB.below hW KB.lt).cell 13
          have hcq : w'.cell? ⟨b, o + k, none⟩ = some (.int .i64 q) := (hW.cell (p := ⟨b, o + k, none⟩) (by simp; omega)).trans hq1
          go_simp
          refine hK _ _ (Below.refl _ _) ?_
          exact rfl
        exact GOps.nil_
      case hend2 =>
        intro f w' hW hd
        simp only [List.length_cons, List.length_nil, Nat.reduceAdd, List.range, List.range.loop, depsHold, nthS, List.getD_cons_zero, List.getD_cons_succ, isV, ownV, anyV, true_and, and_true] at hd
        have H17 : f 17 = .bool true := by simp only [hd]
        rw [H17]
        go_wp2
        go_ret
        exact ⟨ret_int HR.out, hbx.trans (hW.mono hbx.size)⟩
  · have HR : Hid (0 = parN fs ps f) := by unfold Hid parN; rw [if_neg h1]
    have HLT := Lib.hid (ltB_f (n := f) (lo := 0) (hi := (nF : Int)) (by omega))
    clear h1 hf hq hnf hnq
    go_enter Try.func37, Try.ntmps37
    go_wp2_with fail
    refine wp_region_grow (A := ?A1) [isV (.int .i64 f), isV (.pointer (some ⟨w.heap.size, 11, none⟩)), isV (.slice fA nF fc), isV (.int .i64 nF), isV (.bool false), isV (.bool true), isV (.bool true), isV (undef), isV (undef), isV (undef), isV (undef), isV (undef), isV (undef), isV (undef), isV (undef), isV (undef), isV (undef), isV (.bool true)] (w.alloc (.cells #[.int .i64 x0, .int .i64 x1, .int .i64 x2, .int .i64 x3, .slice tA nT tc, .int .i64 fl, .slice pA nP pc, .slice gA nG gc, .slice A8 n8 c8, .slice A9 n9 c9, .slice A10 n10 c10, .slice fA nF fc, .slice dA nD dc, .slice qA nQ qc, .slice lA nL lc] 46)) (by kernel_rfl) (by kernel_rfl) (fun f => ?hA1) (Below.refl _ _) ?hst1 ?hops1 ?hend1
    case hA1 =>
      simp only [fillFrom, Nat.zero_add, Nat.reduceAdd]
      go_frame
      with_reducible rfl
    case hst1 => repeat (first | exact trivial | refine ⟨stab_is _ _, ?_⟩ | refine ⟨stab_own _ _ _ _, ?_⟩ | refine ⟨stab_any _, ?_⟩ | refine ⟨stab_rd _ _ _, ?_⟩)
    case hops1 =>
      refine GOps.cons_ (fun f w' K hW hd hK => ?_) ?_
      · try simp only [depsOf, depsL, Region.binds, depsHold, nthS, List.getD_cons_zero, List.getD_cons_succ, isV, ownV, anyV, if_true, and_true, true_and] at hd
        have hc11 : w'.cell? ⟨w.heap.size, 11, none⟩ = some (.slice fA nF fc) := (KB.below hW KB.lt).cell 11
        have hc13 : w'.cell? ⟨w.heap.size, 13, none⟩ = some (.slice qA nQ qc) := (KB.below hW KB.lt).cell 13
        go_simp
        refine hK _ _ (Below.refl _ _) ?_
        exact rfl
      refine GOps.cons_ (fun f w' K hW hd hK => ?_) ?_
      · try simp only [depsOf, depsL, Region.binds, depsHold, nthS, List.getD_cons_zero, List.getD_cons_succ, isV, ownV, anyV, if_true, and_true, true_and] at hd
        have hc11 : w'.cell? ⟨w.heap.size, 11, none⟩ = some (.slice fA nF fc) := (KB.below hW KB.lt).cell 11
        have hc13 : w'.cell? ⟨w.heap.size, 13, none⟩ = some (.slice qA nQ qc) := (KB.below hW KB.lt).cell 13
        go_simp
        refine hK _ _ (Below.refl _ _) ?_
        exact rfl
      refine GOps.cons_ (fun f w' K hW hd hK => ?_) ?_
      · try simp only [depsOf, depsL, Region.binds, depsHold, nthS, List.getD_cons_zero, List.getD_cons_succ, isV, ownV, anyV, if_true, and_true, true_and] at hd
        have hc11 : w'.cell? ⟨w.heap.size, 11, none⟩ = some (.slice fA nF fc) := (KB.below hW KB.lt).cell 11
        have hc13 : w'.cell? ⟨w.heap.size, 13, none⟩ = some (.slice qA nQ qc) := (KB.below hW KB.lt).cell 13
        go_simp
        refine hK _ _ (Below.refl _ _) ?_
        exact rfl
      refine GOps.cons_ (fun f w' K hW hd hK => ?_) ?_
      · try simp only [depsOf, depsL, Region.binds, depsHold, nthS, List.getD_cons_zero, List.getD_cons_succ, isV, ownV, anyV, if_true, and_true, true_and] at hd
        have hc11 : w'.cell? ⟨w.heap.size, 11, none⟩ = some (.slice fA nF fc) := (KB.below hW KB.lt).cell 11
        have hc13 : w'.cell? ⟨w.heap.size, 13, none⟩ = some (.slice qA nQ qc) := (KB.below hW KB.lt).cell 13
        go_simp
        refine hK _ _ (Below.refl _ _) ?_
        exact rfl
      refine GOps.cons_ (fun f w' K hW hd hK => ?_) ?_
      · try simp only [depsOf, depsL, Region.binds, depsHold, nthS, List.getD_cons_zero, List.getD_cons_succ, isV, ownV, anyV, if_true, and_true, true_and] at hd
        have hc11 : w'.cell? ⟨w.heap.size, 11, none⟩ = some (.slice fA nF fc) := (KB.below hW KB.lt).cell 11
        have hc13 : w'.cell? ⟨w.heap.size, 13, none⟩ = some (.slice qA nQ qc) := (KB.below hW KB.lt).cell 13
        go_simp
        refine (opAmong_any _ _ _ _).mono ?_
        rw [HLT.out]
        rintro e w1 ⟨rfl, rfl⟩
        exact ⟨_, rfl, hK _ _ (Below.refl _ _) rfl⟩
      refine GOps.cons_ (fun f w' K hW hd hK => ?_) ?_
      · try simp only [depsOf, depsL, Region.binds, depsHold, nthS, List.getD_cons_zero, List.getD_cons_succ, isV, ownV, anyV, if_true, and_true, true_and] at hd
        have hc11 : w'.cell? ⟨w.heap.size, 11, none⟩ = some (.slice fA nF fc) := (KB.below hW KB.lt).cell 11
        have hc13 : w'.cell? ⟨w.heap.size, 13, none⟩ = some (.slice qA nQ qc) := (KB.below hW KB.lt).cell 13
        go_simp
        refine hK _ _ (Below.refl _ _) ?_
        exact rfl
      refine GOps.cons_ (fun f w' K hW hd hK => ?_) ?_
      · try simp only [depsOf, depsL, Region.binds, depsHold, nthS, List.getD_cons_zero, List.getD_cons_succ, isV, ownV, anyV, if_true, and_true, true_and] at hd
        have hc11 : w'.cell? ⟨w.heap.size, 11, none⟩ = some (.slice fA nF fc) := (KB.below hW KB.lt).cell 11
        have hc13 : w'.cell? ⟨w.heap.size, 13, none⟩ = some (.slice qA nQ qc) := (KB.below hW KB.lt).cell 13
        go_simp
        refine hK _ _ (Below.refl _ _) ?_
        exact rfl
      refine GOps.cons_ (fun f w' K hW hd hK => ?_) ?_
      · try simp only [depsOf, depsL, Region.binds, depsHold, nthS, List.getD_cons_zero, List.getD_cons_succ, isV, ownV, anyV, if_true, and_true, true_and] at hd
        have hc11 : w'.cell? ⟨w.heap.size, 11, none⟩ = some (.slice fA nF fc) := (KB.below hW KB.lt).cell 11
        have hc13 : w'.cell? ⟨w.heap.size, 13, none⟩ = some (.slice qA nQ qc) := (KB.below hW KB.lt).cell 13
        go_simp
        refine hK _ _ (Below.refl _ _) ?_
        exact rfl
      refine GOps.cons_ (fun f w' K hW hd hK => ?_) ?_
      · try simp only [depsOf, depsL, Region.binds, depsHold, nthS, List.getD_cons_zero, List.getD_cons_succ, isV, ownV, anyV, if_true, and_true, true_and] at hd
        have hc11 : w'.cell? ⟨w.heap.size, 11, none⟩ = some (.slice fA nF fc) := (KB.below hW KB.lt).cell 11
        have hc13 : w'.cell? ⟨w.heap.size, 13, none⟩ = some (.slice qA nQ qc) := (KB.below hW KB.lt).cell 13
        go_simp
        refine hK _ _ (Below.refl _ _) ?_
        exact rfl
      refine GOps.cons_ (fun f w' K hW hd hK => ?_) ?_
      · try simp only [depsOf, depsL, Region.binds, depsHold, nthS, List.getD_cons_zero, List.getD_cons_succ, isV, ownV, anyV, if_true, and_true, true_and] at hd
        have hc11 : w'.cell? ⟨w.heap.size, 11, none⟩ = some (.slice fA nF fc) := (KB.below hW KB.lt).cell 11
        have hc13 : w'.cell? ⟨w.heap.size, 13, none⟩ = some (.slice qA nQ qc) := (KB.below hW KB.lt).cell 13
        go_simp
        refine hK _ _ (Below.refl _ _) ?_
        exact rfl
      refine GOps.cons_ (fun f w' K hW hd hK => ?_) ?_
      · try simp only [depsOf, depsL, Region.binds, depsHold, nthS, List.getD_cons_zero, List.getD_cons_succ, isV, ownV, anyV, if_true, and_true, true_and] at hd
        have hc11 : w'.cell? ⟨w.heap.size, 11, none⟩ = some (.slice fA nF fc) := (KB.below hW KB.lt).cell 11
        have hc13 : w'.cell? ⟨w.heap.size, 13, none⟩ = some (.slice qA nQ qc) := (KB.below hW KB.lt).cell 13
        go_simp
        refine hK _ _ (Below.refl _ _) ?_
        exact rfl
      refine GOps.cons_ (fun f w' K hW hd hK => ?_) ?_
      · try simp only [depsOf, depsL, Region.binds, depsHold, nthS, List.getD_cons_zero, List.getD_cons_succ, isV, ownV, anyV, if_true, and_true, true_and] at hd
        have hc11 : w'.cell? ⟨w.heap.size, 11, none⟩ = some (.slice fA nF fc) := (KB.below hW KB.lt).cell 11
        have hc13 : w'.cell? ⟨w.heap.size, 13, none⟩ = some (.slice qA nQ qc) := (KB.below hW KB.lt).cell 13
        go_simp
        refine hK _ _ (Below.refl _ _) ?_
        exact rfl
      refine GOps.cons_ (fun f w' K hW hd hK => ?_) ?_
      · try simp only [depsOf, depsL, Region.binds, depsHold, nthS, List.getD_cons_zero, List.getD_cons_succ, isV, ownV, anyV, if_true, and_true, true_and] at hd
        have hc11 : w'.cell? ⟨w.heap.size, 11, none⟩ = some (.slice fA nF fc) := (KB.below hW KB.lt).cell 11
        have hc13 : w'.cell? ⟨w.heap.size, 13, none⟩ = some (.slice qA nQ qc) := (KB.below hW KB.lt).cell 13
        go_simp
        refine hK _ _ (Below.refl _ _) ?_
        exact rfl
      refine GOps.cons_ (fun f w' K hW hd hK => ?_) ?_
      · try simp only [depsOf, depsL, Region.binds, depsHold, nthS, List.getD_cons_zero, List.getD_cons_succ, isV, ownV, anyV, if_true, and_true, true_and] at hd
        have hc11 : w'.cell? ⟨w.heap.size, 11, none⟩ = some (.slice fA nF fc) := (KB.below hW KB.lt).cell 11
        have hc13 : w'.cell? ⟨w.heap.size, 13, none⟩ = some (.slice qA nQ qc) := (KB.below hW KB.lt).cell 13
        go_simp
        refine hK _ _ (Below.refl _ _) ?_
        exact rfl
      refine GOps.cons_ (fun f w' K hW hd hK => ?_) ?_
      · try simp only [depsOf, depsL, Region.binds, depsHold, nthS, List.getD_cons_zero, List.getD_cons_succ, isV, ownV, anyV, if_true, and_true, true_and] at hd
        have hc11 : w'.cell? ⟨w.heap.size, 11, none⟩ = some (.slice fA nF fc) := (KB.below hW KB.lt).cell 11
        have hc13 : w'.cell? ⟨w.heap.size, 13, none⟩ = some (.slice qA nQ qc) := (KB.below hW KB.lt).cell 13
        go_simp
        refine hK _ _ (Below.refl _ _) ?_
        exact rfl
      refine GOps.cons_ (fun f w' K hW hd hK => ?_) ?_
      · try simp only [depsOf, depsL, Region.binds, depsHold, nthS, List.getD_cons_zero, List.getD_cons_succ, isV, ownV, anyV, if_true, and_true, true_and] at hd
        have hc11 : w'.cell? ⟨w.heap.size, 11, none⟩ = some (.slice fA nF fc) := (KB.below hW KB.lt).cell 11
        have hc13 : w'.cell? ⟨w.heap.size, 13, none⟩ = some (.slice qA nQ qc) := (KB.below hW KB.lt).cell 13
        go_simp
        refine hK _ _ (Below.refl _ _) ?_
        exact rfl
      refine GOps.cons_ (fun f w' K hW hd hK => ?_) ?_
      · try simp only [depsOf, depsL, Region.binds, depsHold, nthS, List.getD_cons_zero, List.getD_cons_succ, isV, ownV, anyV, if_true, and_true, true_and] at hd
        have hc11 : w'.cell? ⟨w.heap.size, 11, none⟩ = some (.slice fA nF fc) := (KB.below hW KB.lt).cell 11
        have hc13 : w'.cell? ⟨w.heap.size, 13, none⟩ = some (.slice qA nQ qc) := (KB.below hW KB.lt).cell 13
        go_simp
        refine hK _ _ (Below.refl _ _) ?_
        exact rfl
      refine GOps.cons_ (fun f w' K hW hd hK => ?_) ?_
      · try simp only [depsOf, depsL, Region.binds, depsHold, nthS, List.getD_cons_zero, List.getD_cons_succ, isV, ownV, anyV, if_true, and_true, true_and] at hd
        have hc11 : w'.cell? ⟨w.heap.size, 11, none⟩ = some (.slice fA nF fc) := (KB.below hW KB.lt).cell 11
        have hc13 : w'.cell? ⟨w.heap.size, 13, none⟩ = some (.slice qA nQ qc) := (KB.below hW KB.lt).cell 13
        go_simp
        refine hK _ _ (Below.refl _ _) ?_
        exact rfl
      exact GOps.nil_
    case hend1 =>
      intro f w' hW hd
      simp only [List.length_cons, List.length_nil, Nat.reduceAdd, List.range, List.range.loop, depsHold, nthS, List.getD_cons_zero, List.getD_cons_succ, isV, ownV, anyV, true_and, and_true] at hd
      have H17 : f 17 = .bool true := by simp only [hd]
      rw [H17]
      go_wp2
      go_ret
      exact ⟨ret_int HR.out, hbx.trans (hW.mono hbx.size)⟩
end Go.Proofs.Ytfalhlnmjllfpaa
