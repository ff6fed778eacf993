/- The contracts of chapter 45's small functions. -/
import Derived.Test.YtjjgdjcapfenpaaDelSpec
import Derived.Test.YtjjgdjcapfenpaaWsa
import Derived.Test.YtjjgdjcapfenpaaWsb
import Derived.Test.YtjjgdjcapfenpaaMore
import Derived.Test.YtjjgdjcapfenpaaLay
namespace Go.Proofs.Ytjjgdjcapfenpaa
open Go.RowKit Go.IntWalk
set_option maxRecDepth 100000
set_option linter.unusedVariables false
set_option linter.unusedSimpArgs false

theorem ret_bool {a b : Bool} (h : a = b) : Ending.returned (.bool a) = .returned (.bool b) := by rw [h]
theorem getD_at {xs : List Int} {k : Nat} (h : k < xs.length) : xs.getD k 0 = xs[k] := by simp [List.getD, h]
theorem smB_at {xs ys : List Int} {i : Nat} (h1 : i < xs.length) (h2 : i < ys.length) : smB xs ys i = (xs[i] == ys[i]) := by
  unfold smB
  rw [getD_at h1, getD_at h2]
  simp [h1, h2]
theorem smB_out {xs ys : List Int} {i : Nat} (h : ¬ (i < xs.length ∧ i < ys.length)) : smB xs ys i = false := by
  unfold smB
  by_cases h1 : i < xs.length
  · have h2 : ¬ i < ys.length := fun hh => h ⟨h1, hh⟩
    simp [h1, h2]
  · simp [h1]

def eqB (xs ys : List Int) : Bool := xs == ys
theorem eqB_len {xs ys : List Int} (h : xs.length ≠ ys.length) : eqB xs ys = false := by
  unfold eqB
  rw [beq_eq_false_iff_ne]
  intro e
  exact h (by rw [e])
theorem eqB_at {xs ys : List Int} {i : Nat} (h1 : i < xs.length) (h2 : i < ys.length) (h : xs[i] ≠ ys[i]) : eqB xs ys = false := by
  unfold eqB
  rw [beq_eq_false_iff_ne]
  intro e
  subst e
  exact h rfl
theorem eqB_all {xs ys : List Int} (hl : xs.length = ys.length) (h : ∀ j, j < xs.length → xs.getD j 0 = ys.getD j 0) : eqB xs ys = true := by
  unfold eqB
  rw [beq_iff_eq]
  apply List.ext_getElem hl
  intro j h1 h2
  have := h j h1
  rwa [getD_at h1, getD_at h2] at this
set_option maxHeartbeats 3200000 in
theorem same_any (A A' : Option Addr) (n c n' c' : Nat) (xs ys : List Int) (i : Nat) (ga gb : Nat) (w : World) (hga : ga < w.heap.size) (hgb : gb < w.heap.size) (ka : w.cell? ⟨ga, 0, none⟩ = some (.slice A n c)) (kb : w.cell? ⟨gb, 0, none⟩ = some (.slice A' n' c')) (hx : Rd w w.heap.size A (cb .u8 xs)) (hn : n = xs.length) (hy : Rd w w.heap.size A' (cb .u8 ys)) (hn' : n' = ys.length) (hl : n ≤ 1000000000) (hl' : n' ≤ 1000000000) (hi : i ≤ 1000000001) :
    Calls Try.prog 29 #[.int .i64 i, .pointer (some ⟨ga, 0, none⟩), .pointer (some ⟨gb, 0, none⟩)] w fun e w' => e = .returned (.bool (smB xs ys i)) ∧ Below w.heap.size w w' := by
  by_cases h1 : i < n
  · by_cases h2 : i < n'
    · have hix : i < xs.length := by omega
      have hiy : i < ys.length := by omega
      have HR : Hid ((xs[i] == ys[i]) = smB xs ys i) := (smB_at hix hiy).symm
      obtain ⟨b, o, rfl, hbw, hc⟩ := hx.num hix
      obtain ⟨b', o', rfl, hbw', hc'⟩ := hy.num hiy
      have hi1 : (i : Int) < (n : Int) := by omega
      have hi2 : (i : Int) < (n' : Int) := by omega
      clear hn hn'
      go_enter Try.func29, Try.ntmps29
      go_wp2_with fail
      refine wp_region_grow (A := ?A1) [isV (.int .i64 i), isV (.slice (some ⟨b, o, none⟩) n c), isV (.int .i64 n), isV (.bool true), isV (.bool true), isV (.int .i64 i), isV (.slice (some ⟨b', o', none⟩) n' c'), isV (.int .i64 n'), isV (.bool true), isV (.bool true), isV (.bool true), isV (.slice (some ⟨b, o, none⟩) n c), isV (.int .i64 i), isV (.pointer (some ⟨b, o + i, none⟩)), isV (.int .u8 xs[i]), isV (.slice (some ⟨b', o', none⟩) n' c'), isV (.int .i64 i), isV (.pointer (some ⟨b', o' + i, none⟩)), isV (.int .u8 ys[i]), isV (.bool (xs[i] == ys[i])), isV (.bool (xs[i] == ys[i])), isV (.bool (xs[i] == ys[i]))] (w) (by kernel_rfl) (by kernel_rfl) (fun f => ?hA1) (Below.refl _ _) ?hst1 ?hops1 ?hend1
      case hA1 =>
        simp only [fillFrom, Nat.zero_add, Nat.reduceAdd]
        go_frame
        with_reducible rfl
      case hst1 => repeat (first | exact trivial | refine ⟨stab_is _ _, ?_⟩ | refine ⟨stab_own _ _ _ _, ?_⟩ | refine ⟨stab_any _, ?_⟩ | refine ⟨stab_rd _ _ _, ?_⟩)
      case hops1 =>
        refine GOps.cons_ (fun f w' K hW hd hK => ?_) ?_
        · try simp only [depsOf, depsL, Region.binds, depsHold, nthS, List.getD_cons_zero, List.getD_cons_succ, isV, ownV, anyV, if_true, and_true, true_and] at hd
          have qa : w'.cell? ⟨ga, 0, none⟩ = some (.slice (some ⟨b, o, none⟩) n c) := (hW.cell (p := ⟨ga, 0, none⟩) hga).trans ka
          have qb : w'.cell? ⟨gb, 0, none⟩ = some (.slice (some ⟨b', o', none⟩) n' c') := (hW.cell (p := ⟨gb, 0, none⟩) hgb).trans kb
          have hx := (hW.cell (p := ⟨b, o + i, none⟩) hbw).trans hc
          have hy := (hW.cell (p := ⟨b', o' + i, none⟩) hbw').trans hc'
          go_simp
          refine hK _ _ (Below.refl _ _) ?_
          exact rfl
        refine GOps.cons_ (fun f w' K hW hd hK => ?_) ?_
        · try simp only [depsOf, depsL, Region.binds, depsHold, nthS, List.getD_cons_zero, List.getD_cons_succ, isV, ownV, anyV, if_true, and_true, true_and] at hd
          have qa : w'.cell? ⟨ga, 0, none⟩ = some (.slice (some ⟨b, o, none⟩) n c) := (hW.cell (p := ⟨ga, 0, none⟩) hga).trans ka
          have qb : w'.cell? ⟨gb, 0, none⟩ = some (.slice (some ⟨b', o', none⟩) n' c') := (hW.cell (p := ⟨gb, 0, none⟩) hgb).trans kb
          have hx := (hW.cell (p := ⟨b, o + i, none⟩) hbw).trans hc
          have hy := (hW.cell (p := ⟨b', o' + i, none⟩) hbw').trans hc'
          go_simp
          refine hK _ _ (Below.refl _ _) ?_
          exact rfl
        refine GOps.cons_ (fun f w' K hW hd hK => ?_) ?_
        · try simp only [depsOf, depsL, Region.binds, depsHold, nthS, List.getD_cons_zero, List.getD_cons_succ, isV, ownV, anyV, if_true, and_true, true_and] at hd
          have qa : w'.cell? ⟨ga, 0, none⟩ = some (.slice (some ⟨b, o, none⟩) n c) := (hW.cell (p := ⟨ga, 0, none⟩) hga).trans ka
          have qb : w'.cell? ⟨gb, 0, none⟩ = some (.slice (some ⟨b', o', none⟩) n' c') := (hW.cell (p := ⟨gb, 0, none⟩) hgb).trans kb
          have hx := (hW.cell (p := ⟨b, o + i, none⟩) hbw).trans hc
          have hy := (hW.cell (p := ⟨b', o' + i, none⟩) hbw').trans hc'
          go_simp
          refine hK _ _ (Below.refl _ _) ?_
          exact rfl
        refine GOps.cons_ (fun f w' K hW hd hK => ?_) ?_
        · try simp only [depsOf, depsL, Region.binds, depsHold, nthS, List.getD_cons_zero, List.getD_cons_succ, isV, ownV, anyV, if_true, and_true, true_and] at hd
          have qa : w'.cell? ⟨ga, 0, none⟩ = some (.slice (some ⟨b, o, none⟩) n c) := (hW.cell (p := ⟨ga, 0, none⟩) hga).trans ka
          have qb : w'.cell? ⟨gb, 0, none⟩ = some (.slice (some ⟨b', o', none⟩) n' c') := (hW.cell (p := ⟨gb, 0, none⟩) hgb).trans kb
          have hx := (hW.cell (p := ⟨b, o + i, none⟩) hbw).trans hc
          have hy := (hW.cell (p := ⟨b', o' + i, none⟩) hbw').trans hc'
          go_simp
          refine hK _ _ (Below.refl _ _) ?_
          exact rfl
        refine GOps.cons_ (fun f w' K hW hd hK => ?_) ?_
        · try simp only [depsOf, depsL, Region.binds, depsHold, nthS, List.getD_cons_zero, List.getD_cons_succ, isV, ownV, anyV, if_true, and_true, true_and] at hd
          have qa : w'.cell? ⟨ga, 0, none⟩ = some (.slice (some ⟨b, o, none⟩) n c) := (hW.cell (p := ⟨ga, 0, none⟩) hga).trans ka
          have qb : w'.cell? ⟨gb, 0, none⟩ = some (.slice (some ⟨b', o', none⟩) n' c') := (hW.cell (p := ⟨gb, 0, none⟩) hgb).trans kb
          have hx := (hW.cell (p := ⟨b, o + i, none⟩) hbw).trans hc
          have hy := (hW.cell (p := ⟨b', o' + i, none⟩) hbw').trans hc'
          go_simp
          refine hK _ _ (Below.refl _ _) ?_
          exact rfl
        refine GOps.cons_ (fun f w' K hW hd hK => ?_) ?_
        · try simp only [depsOf, depsL, Region.binds, depsHold, nthS, List.getD_cons_zero, List.getD_cons_succ, isV, ownV, anyV, if_true, and_true, true_and] at hd
          have qa : w'.cell? ⟨ga, 0, none⟩ = some (.slice (some ⟨b, o, none⟩) n c) := (hW.cell (p := ⟨ga, 0, none⟩) hga).trans ka
          have qb : w'.cell? ⟨gb, 0, none⟩ = some (.slice (some ⟨b', o', none⟩) n' c') := (hW.cell (p := ⟨gb, 0, none⟩) hgb).trans kb
          have hx := (hW.cell (p := ⟨b, o + i, none⟩) hbw).trans hc
          have hy := (hW.cell (p := ⟨b', o' + i, none⟩) hbw').trans hc'
          go_simp
          refine hK _ _ (Below.refl _ _) ?_
          exact rfl
        refine GOps.cons_ (fun f w' K hW hd hK => ?_) ?_
        · try simp only [depsOf, depsL, Region.binds, depsHold, nthS, List.getD_cons_zero, List.getD_cons_succ, isV, ownV, anyV, if_true, and_true, true_and] at hd
          have qa : w'.cell? ⟨ga, 0, none⟩ = some (.slice (some ⟨b, o, none⟩) n c) := (hW.cell (p := ⟨ga, 0, none⟩) hga).trans ka
          have qb : w'.cell? ⟨gb, 0, none⟩ = some (.slice (some ⟨b', o', none⟩) n' c') := (hW.cell (p := ⟨gb, 0, none⟩) hgb).trans kb
          have hx := (hW.cell (p := ⟨b, o + i, none⟩) hbw).trans hc
          have hy := (hW.cell (p := ⟨b', o' + i, none⟩) hbw').trans hc'
          go_simp
          refine hK _ _ (Below.refl _ _) ?_
          exact rfl
        refine GOps.cons_ (fun f w' K hW hd hK => ?_) ?_
        · try simp only [depsOf, depsL, Region.binds, depsHold, nthS, List.getD_cons_zero, List.getD_cons_succ, isV, ownV, anyV, if_true, and_true, true_and] at hd
          have qa : w'.cell? ⟨ga, 0, none⟩ = some (.slice (some ⟨b, o, none⟩) n c) := (hW.cell (p := ⟨ga, 0, none⟩) hga).trans ka
          have qb : w'.cell? ⟨gb, 0, none⟩ = some (.slice (some ⟨b', o', none⟩) n' c') := (hW.cell (p := ⟨gb, 0, none⟩) hgb).trans kb
          have hx := (hW.cell (p := ⟨b, o + i, none⟩) hbw).trans hc
          have hy := (hW.cell (p := ⟨b', o' + i, none⟩) hbw').trans hc'
          go_simp
          refine hK _ _ (Below.refl _ _) ?_
          exact rfl
        refine GOps.cons_ (fun f w' K hW hd hK => ?_) ?_
        · try simp only [depsOf, depsL, Region.binds, depsHold, nthS, List.getD_cons_zero, List.getD_cons_succ, isV, ownV, anyV, if_true, and_true, true_and] at hd
          have qa : w'.cell? ⟨ga, 0, none⟩ = some (.slice (some ⟨b, o, none⟩) n c) := (hW.cell (p := ⟨ga, 0, none⟩) hga).trans ka
          have qb : w'.cell? ⟨gb, 0, none⟩ = some (.slice (some ⟨b', o', none⟩) n' c') := (hW.cell (p := ⟨gb, 0, none⟩) hgb).trans kb
          have hx := (hW.cell (p := ⟨b, o + i, none⟩) hbw).trans hc
          have hy := (hW.cell (p := ⟨b', o' + i, none⟩) hbw').trans hc'
          go_simp
          refine hK _ _ (Below.refl _ _) ?_
          exact rfl
        refine GOps.cons_ (fun f w' K hW hd hK => ?_) ?_
        · try simp only [depsOf, depsL, Region.binds, depsHold, nthS, List.getD_cons_zero, List.getD_cons_succ, isV, ownV, anyV, if_true, and_true, true_and] at hd
          have qa : w'.cell? ⟨ga, 0, none⟩ = some (.slice (some ⟨b, o, none⟩) n c) := (hW.cell (p := ⟨ga, 0, none⟩) hga).trans ka
          have qb : w'.cell? ⟨gb, 0, none⟩ = some (.slice (some ⟨b', o', none⟩) n' c') := (hW.cell (p := ⟨gb, 0, none⟩) hgb).trans kb
          have hx := (hW.cell (p := ⟨b, o + i, none⟩) hbw).trans hc
          have hy := (hW.cell (p := ⟨b', o' + i, none⟩) hbw').trans hc'
          go_simp
          refine hK _ _ (Below.refl _ _) ?_
          exact rfl
        refine GOps.cons_ (fun f w' K hW hd hK => ?_) ?_
        · try simp only [depsOf, depsL, Region.binds, depsHold, nthS, List.getD_cons_zero, List.getD_cons_succ, isV, ownV, anyV, if_true, and_true, true_and] at hd
          have qa : w'.cell? ⟨ga, 0, none⟩ = some (.slice (some ⟨b, o, none⟩) n c) := (hW.cell (p := ⟨ga, 0, none⟩) hga).trans ka
          have qb : w'.cell? ⟨gb, 0, none⟩ = some (.slice (some ⟨b', o', none⟩) n' c') := (hW.cell (p := ⟨gb, 0, none⟩) hgb).trans kb
          have hx := (hW.cell (p := ⟨b, o + i, none⟩) hbw).trans hc
          have hy := (hW.cell (p := ⟨b', o' + i, none⟩) hbw').trans hc'
          go_simp
          refine hK _ _ (Below.refl _ _) ?_
          exact rfl
        refine GOps.cons_ (fun f w' K hW hd hK => ?_) ?_
        · try simp only [depsOf, depsL, Region.binds, depsHold, nthS, List.getD_cons_zero, List.getD_cons_succ, isV, ownV, anyV, if_true, and_true, true_and] at hd
          have qa : w'.cell? ⟨ga, 0, none⟩ = some (.slice (some ⟨b, o, none⟩) n c) := (hW.cell (p := ⟨ga, 0, none⟩) hga).trans ka
          have qb : w'.cell? ⟨gb, 0, none⟩ = some (.slice (some ⟨b', o', none⟩) n' c') := (hW.cell (p := ⟨gb, 0, none⟩) hgb).trans kb
          have hx := (hW.cell (p := ⟨b, o + i, none⟩) hbw).trans hc
          have hy := (hW.cell (p := ⟨b', o' + i, none⟩) hbw').trans hc'
          go_simp
          refine hK _ _ (Below.refl _ _) ?_
          exact rfl
        refine GOps.cons_ (fun f w' K hW hd hK => ?_) ?_
        · try simp only [depsOf, depsL, Region.binds, depsHold, nthS, List.getD_cons_zero, List.getD_cons_succ, isV, ownV, anyV, if_true, and_true, true_and] at hd
          have qa : w'.cell? ⟨ga, 0, none⟩ = some (.slice (some ⟨b, o, none⟩) n c) := (hW.cell (p := ⟨ga, 0, none⟩) hga).trans ka
          have qb : w'.cell? ⟨gb, 0, none⟩ = some (.slice (some ⟨b', o', none⟩) n' c') := (hW.cell (p := ⟨gb, 0, none⟩) hgb).trans kb
          have hx := (hW.cell (p := ⟨b, o + i, none⟩) hbw).trans hc
          have hy := (hW.cell (p := ⟨b', o' + i, none⟩) hbw').trans hc'
          go_simp
          refine hK _ _ (Below.refl _ _) ?_
          exact rfl
        refine GOps.cons_ (fun f w' K hW hd hK => ?_) ?_
        · try simp only [depsOf, depsL, Region.binds, depsHold, nthS, List.getD_cons_zero, List.getD_cons_succ, isV, ownV, anyV, if_true, and_true, true_and] at hd
          have qa : w'.cell? ⟨ga, 0, none⟩ = some (.slice (some ⟨b, o, none⟩) n c) := (hW.cell (p := ⟨ga, 0, none⟩) hga).trans ka
          have qb : w'.cell? ⟨gb, 0, none⟩ = some (.slice (some ⟨b', o', none⟩) n' c') := (hW.cell (p := ⟨gb, 0, none⟩) hgb).trans kb
          have hx := (hW.cell (p := ⟨b, o + i, none⟩) hbw).trans hc
          have hy := (hW.cell (p := ⟨b', o' + i, none⟩) hbw').trans hc'
          go_simp
          refine hK _ _ (Below.refl _ _) ?_
          exact rfl
        refine GOps.cons_ (fun f w' K hW hd hK => ?_) ?_
        · try simp only [depsOf, depsL, Region.binds, depsHold, nthS, List.getD_cons_zero, List.getD_cons_succ, isV, ownV, anyV, if_true, and_true, true_and] at hd
          have qa : w'.cell? ⟨ga, 0, none⟩ = some (.slice (some ⟨b, o, none⟩) n c) := (hW.cell (p := ⟨ga, 0, none⟩) hga).trans ka
          have qb : w'.cell? ⟨gb, 0, none⟩ = some (.slice (some ⟨b', o', none⟩) n' c') := (hW.cell (p := ⟨gb, 0, none⟩) hgb).trans kb
          have hx := (hW.cell (p := ⟨b, o + i, none⟩) hbw).trans hc
          have hy := (hW.cell (p := ⟨b', o' + i, none⟩) hbw').trans hc'
          go_simp
          refine hK _ _ (Below.refl _ _) ?_
          exact rfl
        refine GOps.cons_ (fun f w' K hW hd hK => ?_) ?_
        · try simp only [depsOf, depsL, Region.binds, depsHold, nthS, List.getD_cons_zero, List.getD_cons_succ, isV, ownV, anyV, if_true, and_true, true_and] at hd
          have qa : w'.cell? ⟨ga, 0, none⟩ = some (.slice (some ⟨b, o, none⟩) n c) := (hW.cell (p := ⟨ga, 0, none⟩) hga).trans ka
          have qb : w'.cell? ⟨gb, 0, none⟩ = some (.slice (some ⟨b', o', none⟩) n' c') := (hW.cell (p := ⟨gb, 0, none⟩) hgb).trans kb
          have hx := (hW.cell (p := ⟨b, o + i, none⟩) hbw).trans hc
          have hy := (hW.cell (p := ⟨b', o' + i, none⟩) hbw').trans hc'
          go_simp
          refine hK _ _ (Below.refl _ _) ?_
          exact rfl
        refine GOps.cons_ (fun f w' K hW hd hK => ?_) ?_
        · try simp only [depsOf, depsL, Region.binds, depsHold, nthS, List.getD_cons_zero, List.getD_cons_succ, isV, ownV, anyV, if_true, and_true, true_and] at hd
          have qa : w'.cell? ⟨ga, 0, none⟩ = some (.slice (some ⟨b, o, none⟩) n c) := (hW.cell (p := ⟨ga, 0, none⟩) hga).trans ka
          have qb : w'.cell? ⟨gb, 0, none⟩ = some (.slice (some ⟨b', o', none⟩) n' c') := (hW.cell (p := ⟨gb, 0, none⟩) hgb).trans kb
          have hx := (hW.cell (p := ⟨b, o + i, none⟩) hbw).trans hc
          have hy := (hW.cell (p := ⟨b', o' + i, none⟩) hbw').trans hc'
          go_simp
          refine hK _ _ (Below.refl _ _) ?_
          exact rfl
        refine GOps.cons_ (fun f w' K hW hd hK => ?_) ?_
        · try simp only [depsOf, depsL, Region.binds, depsHold, nthS, List.getD_cons_zero, List.getD_cons_succ, isV, ownV, anyV, if_true, and_true, true_and] at hd
          have qa : w'.cell? ⟨ga, 0, none⟩ = some (.slice (some ⟨b, o, none⟩) n c) := (hW.cell (p := ⟨ga, 0, none⟩) hga).trans ka
          have qb : w'.cell? ⟨gb, 0, none⟩ = some (.slice (some ⟨b', o', none⟩) n' c') := (hW.cell (p := ⟨gb, 0, none⟩) hgb).trans kb
          have hx := (hW.cell (p := ⟨b, o + i, none⟩) hbw).trans hc
          have hy := (hW.cell (p := ⟨b', o' + i, none⟩) hbw').trans hc'
          go_simp
          refine hK _ _ (Below.refl _ _) ?_
          exact rfl
        refine GOps.cons_ (fun f w' K hW hd hK => ?_) ?_
        · try simp only [depsOf, depsL, Region.binds, depsHold, nthS, List.getD_cons_zero, List.getD_cons_succ, isV, ownV, anyV, if_true, and_true, true_and] at hd
          have qa : w'.cell? ⟨ga, 0, none⟩ = some (.slice (some ⟨b, o, none⟩) n c) := (hW.cell (p := ⟨ga, 0, none⟩) hga).trans ka
          have qb : w'.cell? ⟨gb, 0, none⟩ = some (.slice (some ⟨b', o', none⟩) n' c') := (hW.cell (p := ⟨gb, 0, none⟩) hgb).trans kb
          have hx := (hW.cell (p := ⟨b, o + i, none⟩) hbw).trans hc
          have hy := (hW.cell (p := ⟨b', o' + i, none⟩) hbw').trans hc'
          go_simp
          refine hK _ _ (Below.refl _ _) ?_
          exact rfl
        refine GOps.cons_ (fun f w' K hW hd hK => ?_) ?_
        · try simp only [depsOf, depsL, Region.binds, depsHold, nthS, List.getD_cons_zero, List.getD_cons_succ, isV, ownV, anyV, if_true, and_true, true_and] at hd
          have qa : w'.cell? ⟨ga, 0, none⟩ = some (.slice (some ⟨b, o, none⟩) n c) := (hW.cell (p := ⟨ga, 0, none⟩) hga).trans ka
          have qb : w'.cell? ⟨gb, 0, none⟩ = some (.slice (some ⟨b', o', none⟩) n' c') := (hW.cell (p := ⟨gb, 0, none⟩) hgb).trans kb
          have hx := (hW.cell (p := ⟨b, o + i, none⟩) hbw).trans hc
          have hy := (hW.cell (p := ⟨b', o' + i, none⟩) hbw').trans hc'
          go_simp
          refine hK _ _ (Below.refl _ _) ?_
          exact rfl
        refine GOps.cons_ (fun f w' K hW hd hK => ?_) ?_
        · try simp only [depsOf, depsL, Region.binds, depsHold, nthS, List.getD_cons_zero, List.getD_cons_succ, isV, ownV, anyV, if_true, and_true, true_and] at hd
          have qa : w'.cell? ⟨ga, 0, none⟩ = some (.slice (some ⟨b, o, none⟩) n c) := (hW.cell (p := ⟨ga, 0, none⟩) hga).trans ka
          have qb : w'.cell? ⟨gb, 0, none⟩ = some (.slice (some ⟨b', o', none⟩) n' c') := (hW.cell (p := ⟨gb, 0, none⟩) hgb).trans kb
          have hx := (hW.cell (p := ⟨b, o + i, none⟩) hbw).trans hc
          have hy := (hW.cell (p := ⟨b', o' + i, none⟩) hbw').trans hc'
          go_simp
          refine hK _ _ (Below.refl _ _) ?_
          exact rfl
        refine GOps.cons_ (fun f w' K hW hd hK => ?_) ?_
        · try simp only [depsOf, depsL, Region.binds, depsHold, nthS, List.getD_cons_zero, List.getD_cons_succ, isV, ownV, anyV, if_true, and_true, true_and] at hd
          have qa : w'.cell? ⟨ga, 0, none⟩ = some (.slice (some ⟨b, o, none⟩) n c) := (hW.cell (p := ⟨ga, 0, none⟩) hga).trans ka
          have qb : w'.cell? ⟨gb, 0, none⟩ = some (.slice (some ⟨b', o', none⟩) n' c') := (hW.cell (p := ⟨gb, 0, none⟩) hgb).trans kb
          have hx := (hW.cell (p := ⟨b, o + i, none⟩) hbw).trans hc
          have hy := (hW.cell (p := ⟨b', o' + i, none⟩) hbw').trans hc'
          go_simp
          refine hK _ _ (Below.refl _ _) ?_
          exact rfl
        exact GOps.nil_
      case hend1 =>
        intro f w' hW hd
        simp only [List.length_cons, List.length_nil, Nat.reduceAdd, List.range, List.range.loop, depsHold, nthS, List.getD_cons_zero, List.getD_cons_succ, isV, ownV, anyV, true_and, and_true] at hd
        have hl : f 21 = .bool (xs[i] == ys[i]) := by simp only [hd]
        go_wp2
        go_ret
        exact ⟨(congrArg Ending.returned hl).trans (ret_bool HR.out), hW⟩
    · have HR : Hid (false = smB xs ys i) := (smB_out (by omega)).symm
      clear hn hn' hx hy
      go_enter Try.func29, Try.ntmps29
      go_wp2_with fail
      refine wp_region_grow (A := ?A2) [isV (.int .i64 i), isV (.slice A n c), isV (.int .i64 n), isV (.bool true), isV (.bool true), isV (.int .i64 i), isV (.slice A' n' c'), isV (.int .i64 n'), isV (.bool false), isV (.bool false), isV (.bool false), isV (undef), isV (undef), isV (undef), isV (undef), isV (undef), isV (undef), isV (undef), isV (undef), isV (undef), isV (.bool false), isV (.bool false)] (w) (by kernel_rfl) (by kernel_rfl) (fun f => ?hA2) (Below.refl _ _) ?hst2 ?hops2 ?hend2
      case hA2 =>
        simp only [fillFrom, Nat.zero_add, Nat.reduceAdd]
        go_frame
        with_reducible rfl
      case hst2 => repeat (first | exact trivial | refine ⟨stab_is _ _, ?_⟩ | refine ⟨stab_own _ _ _ _, ?_⟩ | refine ⟨stab_any _, ?_⟩ | refine ⟨stab_rd _ _ _, ?_⟩)
      case hops2 =>
        refine GOps.cons_ (fun f w' K hW hd hK => ?_) ?_
        · try simp only [depsOf, depsL, Region.binds, depsHold, nthS, List.getD_cons_zero, List.getD_cons_succ, isV, ownV, anyV, if_true, and_true, true_and] at hd
          have qa : w'.cell? ⟨ga, 0, none⟩ = some (.slice A n c) := (hW.cell (p := ⟨ga, 0, none⟩) hga).trans ka
          have qb : w'.cell? ⟨gb, 0, none⟩ = some (.slice A' n' c') := (hW.cell (p := ⟨gb, 0, none⟩) hgb).trans kb
          go_simp
          refine hK _ _ (Below.refl _ _) ?_
          exact rfl
        refine GOps.cons_ (fun f w' K hW hd hK => ?_) ?_
        · try simp only [depsOf, depsL, Region.binds, depsHold, nthS, List.getD_cons_zero, List.getD_cons_succ, isV, ownV, anyV, if_true, and_true, true_and] at hd
          have qa : w'.cell? ⟨ga, 0, none⟩ = some (.slice A n c) := (hW.cell (p := ⟨ga, 0, none⟩) hga).trans ka
          have qb : w'.cell? ⟨gb, 0, none⟩ = some (.slice A' n' c') := (hW.cell (p := ⟨gb, 0, none⟩) hgb).trans kb
          go_simp
          refine hK _ _ (Below.refl _ _) ?_
          exact rfl
        refine GOps.cons_ (fun f w' K hW hd hK => ?_) ?_
        · try simp only [depsOf, depsL, Region.binds, depsHold, nthS, List.getD_cons_zero, List.getD_cons_succ, isV, ownV, anyV, if_true, and_true, true_and] at hd
          have qa : w'.cell? ⟨ga, 0, none⟩ = some (.slice A n c) := (hW.cell (p := ⟨ga, 0, none⟩) hga).trans ka
          have qb : w'.cell? ⟨gb, 0, none⟩ = some (.slice A' n' c') := (hW.cell (p := ⟨gb, 0, none⟩) hgb).trans kb
          go_simp
          refine hK _ _ (Below.refl _ _) ?_
          exact rfl
        refine GOps.cons_ (fun f w' K hW hd hK => ?_) ?_
        · try simp only [depsOf, depsL, Region.binds, depsHold, nthS, List.getD_cons_zero, List.getD_cons_succ, isV, ownV, anyV, if_true, and_true, true_and] at hd
          have qa : w'.cell? ⟨ga, 0, none⟩ = some (.slice A n c) := (hW.cell (p := ⟨ga, 0, none⟩) hga).trans ka
          have qb : w'.cell? ⟨gb, 0, none⟩ = some (.slice A' n' c') := (hW.cell (p := ⟨gb, 0, none⟩) hgb).trans kb
          go_simp
          refine hK _ _ (Below.refl _ _) ?_
          exact rfl
        refine GOps.cons_ (fun f w' K hW hd hK => ?_) ?_
        · try simp only [depsOf, depsL, Region.binds, depsHold, nthS, List.getD_cons_zero, List.getD_cons_succ, isV, ownV, anyV, if_true, and_true, true_and] at hd
          have qa : w'.cell? ⟨ga, 0, none⟩ = some (.slice A n c) := (hW.cell (p := ⟨ga, 0, none⟩) hga).trans ka
          have qb : w'.cell? ⟨gb, 0, none⟩ = some (.slice A' n' c') := (hW.cell (p := ⟨gb, 0, none⟩) hgb).trans kb
          go_simp
          refine hK _ _ (Below.refl _ _) ?_
          exact rfl
        refine GOps.cons_ (fun f w' K hW hd hK => ?_) ?_
        · try simp only [depsOf, depsL, Region.binds, depsHold, nthS, List.getD_cons_zero, List.getD_cons_succ, isV, ownV, anyV, if_true, and_true, true_and] at hd
          have qa : w'.cell? ⟨ga, 0, none⟩ = some (.slice A n c) := (hW.cell (p := ⟨ga, 0, none⟩) hga).trans ka
          have qb : w'.cell? ⟨gb, 0, none⟩ = some (.slice A' n' c') := (hW.cell (p := ⟨gb, 0, none⟩) hgb).trans kb
          go_simp
          refine hK _ _ (Below.refl _ _) ?_
          exact rfl
        refine GOps.cons_ (fun f w' K hW hd hK => ?_) ?_
        · try simp only [depsOf, depsL, Region.binds, depsHold, nthS, List.getD_cons_zero, List.getD_cons_succ, isV, ownV, anyV, if_true, and_true, true_and] at hd
          have qa : w'.cell? ⟨ga, 0, none⟩ = some (.slice A n c) := (hW.cell (p := ⟨ga, 0, none⟩) hga).trans ka
          have qb : w'.cell? ⟨gb, 0, none⟩ = some (.slice A' n' c') := (hW.cell (p := ⟨gb, 0, none⟩) hgb).trans kb
          go_simp
          refine hK _ _ (Below.refl _ _) ?_
          exact rfl
        refine GOps.cons_ (fun f w' K hW hd hK => ?_) ?_
        · try simp only [depsOf, depsL, Region.binds, depsHold, nthS, List.getD_cons_zero, List.getD_cons_succ, isV, ownV, anyV, if_true, and_true, true_and] at hd
          have qa : w'.cell? ⟨ga, 0, none⟩ = some (.slice A n c) := (hW.cell (p := ⟨ga, 0, none⟩) hga).trans ka
          have qb : w'.cell? ⟨gb, 0, none⟩ = some (.slice A' n' c') := (hW.cell (p := ⟨gb, 0, none⟩) hgb).trans kb
          go_simp
          refine hK _ _ (Below.refl _ _) ?_
          exact rfl
        refine GOps.cons_ (fun f w' K hW hd hK => ?_) ?_
        · try simp only [depsOf, depsL, Region.binds, depsHold, nthS, List.getD_cons_zero, List.getD_cons_succ, isV, ownV, anyV, if_true, and_true, true_and] at hd
          have qa : w'.cell? ⟨ga, 0, none⟩ = some (.slice A n c) := (hW.cell (p := ⟨ga, 0, none⟩) hga).trans ka
          have qb : w'.cell? ⟨gb, 0, none⟩ = some (.slice A' n' c') := (hW.cell (p := ⟨gb, 0, none⟩) hgb).trans kb
          go_simp
          refine hK _ _ (Below.refl _ _) ?_
          exact rfl
        refine GOps.cons_ (fun f w' K hW hd hK => ?_) ?_
        · try simp only [depsOf, depsL, Region.binds, depsHold, nthS, List.getD_cons_zero, List.getD_cons_succ, isV, ownV, anyV, if_true, and_true, true_and] at hd
          have qa : w'.cell? ⟨ga, 0, none⟩ = some (.slice A n c) := (hW.cell (p := ⟨ga, 0, none⟩) hga).trans ka
          have qb : w'.cell? ⟨gb, 0, none⟩ = some (.slice A' n' c') := (hW.cell (p := ⟨gb, 0, none⟩) hgb).trans kb
          go_simp
          refine hK _ _ (Below.refl _ _) ?_
          exact rfl
        refine GOps.cons_ (fun f w' K hW hd hK => ?_) ?_
        · try simp only [depsOf, depsL, Region.binds, depsHold, nthS, List.getD_cons_zero, List.getD_cons_succ, isV, ownV, anyV, if_true, and_true, true_and] at hd
          have qa : w'.cell? ⟨ga, 0, none⟩ = some (.slice A n c) := (hW.cell (p := ⟨ga, 0, none⟩) hga).trans ka
          have qb : w'.cell? ⟨gb, 0, none⟩ = some (.slice A' n' c') := (hW.cell (p := ⟨gb, 0, none⟩) hgb).trans kb
          go_simp
          refine hK _ _ (Below.refl _ _) ?_
          exact rfl
        refine GOps.cons_ (fun f w' K hW hd hK => ?_) ?_
        · try simp only [depsOf, depsL, Region.binds, depsHold, nthS, List.getD_cons_zero, List.getD_cons_succ, isV, ownV, anyV, if_true, and_true, true_and] at hd
          have qa : w'.cell? ⟨ga, 0, none⟩ = some (.slice A n c) := (hW.cell (p := ⟨ga, 0, none⟩) hga).trans ka
          have qb : w'.cell? ⟨gb, 0, none⟩ = some (.slice A' n' c') := (hW.cell (p := ⟨gb, 0, none⟩) hgb).trans kb
          go_simp
          refine hK _ _ (Below.refl _ _) ?_
          exact rfl
        refine GOps.cons_ (fun f w' K hW hd hK => ?_) ?_
        · try simp only [depsOf, depsL, Region.binds, depsHold, nthS, List.getD_cons_zero, List.getD_cons_succ, isV, ownV, anyV, if_true, and_true, true_and] at hd
          have qa : w'.cell? ⟨ga, 0, none⟩ = some (.slice A n c) := (hW.cell (p := ⟨ga, 0, none⟩) hga).trans ka
          have qb : w'.cell? ⟨gb, 0, none⟩ = some (.slice A' n' c') := (hW.cell (p := ⟨gb, 0, none⟩) hgb).trans kb
          go_simp
          refine hK _ _ (Below.refl _ _) ?_
          exact rfl
        refine GOps.cons_ (fun f w' K hW hd hK => ?_) ?_
        · try simp only [depsOf, depsL, Region.binds, depsHold, nthS, List.getD_cons_zero, List.getD_cons_succ, isV, ownV, anyV, if_true, and_true, true_and] at hd
          have qa : w'.cell? ⟨ga, 0, none⟩ = some (.slice A n c) := (hW.cell (p := ⟨ga, 0, none⟩) hga).trans ka
          have qb : w'.cell? ⟨gb, 0, none⟩ = some (.slice A' n' c') := (hW.cell (p := ⟨gb, 0, none⟩) hgb).trans kb
          go_simp
          refine hK _ _ (Below.refl _ _) ?_
          exact rfl
        refine GOps.cons_ (fun f w' K hW hd hK => ?_) ?_
        · try simp only [depsOf, depsL, Region.binds, depsHold, nthS, List.getD_cons_zero, List.getD_cons_succ, isV, ownV, anyV, if_true, and_true, true_and] at hd
          have qa : w'.cell? ⟨ga, 0, none⟩ = some (.slice A n c) := (hW.cell (p := ⟨ga, 0, none⟩) hga).trans ka
          have qb : w'.cell? ⟨gb, 0, none⟩ = some (.slice A' n' c') := (hW.cell (p := ⟨gb, 0, none⟩) hgb).trans kb
          go_simp
          refine hK _ _ (Below.refl _ _) ?_
          exact rfl
        refine GOps.cons_ (fun f w' K hW hd hK => ?_) ?_
        · try simp only [depsOf, depsL, Region.binds, depsHold, nthS, List.getD_cons_zero, List.getD_cons_succ, isV, ownV, anyV, if_true, and_true, true_and] at hd
          have qa : w'.cell? ⟨ga, 0, none⟩ = some (.slice A n c) := (hW.cell (p := ⟨ga, 0, none⟩) hga).trans ka
          have qb : w'.cell? ⟨gb, 0, none⟩ = some (.slice A' n' c') := (hW.cell (p := ⟨gb, 0, none⟩) hgb).trans kb
          go_simp
          refine hK _ _ (Below.refl _ _) ?_
          exact rfl
        refine GOps.cons_ (fun f w' K hW hd hK => ?_) ?_
        · try simp only [depsOf, depsL, Region.binds, depsHold, nthS, List.getD_cons_zero, List.getD_cons_succ, isV, ownV, anyV, if_true, and_true, true_and] at hd
          have qa : w'.cell? ⟨ga, 0, none⟩ = some (.slice A n c) := (hW.cell (p := ⟨ga, 0, none⟩) hga).trans ka
          have qb : w'.cell? ⟨gb, 0, none⟩ = some (.slice A' n' c') := (hW.cell (p := ⟨gb, 0, none⟩) hgb).trans kb
          go_simp
          refine hK _ _ (Below.refl _ _) ?_
          exact rfl
        refine GOps.cons_ (fun f w' K hW hd hK => ?_) ?_
        · try simp only [depsOf, depsL, Region.binds, depsHold, nthS, List.getD_cons_zero, List.getD_cons_succ, isV, ownV, anyV, if_true, and_true, true_and] at hd
          have qa : w'.cell? ⟨ga, 0, none⟩ = some (.slice A n c) := (hW.cell (p := ⟨ga, 0, none⟩) hga).trans ka
          have qb : w'.cell? ⟨gb, 0, none⟩ = some (.slice A' n' c') := (hW.cell (p := ⟨gb, 0, none⟩) hgb).trans kb
          go_simp
          refine hK _ _ (Below.refl _ _) ?_
          exact rfl
        refine GOps.cons_ (fun f w' K hW hd hK => ?_) ?_
        · try simp only [depsOf, depsL, Region.binds, depsHold, nthS, List.getD_cons_zero, List.getD_cons_succ, isV, ownV, anyV, if_true, and_true, true_and] at hd
          have qa : w'.cell? ⟨ga, 0, none⟩ = some (.slice A n c) := (hW.cell (p := ⟨ga, 0, none⟩) hga).trans ka
          have qb : w'.cell? ⟨gb, 0, none⟩ = some (.slice A' n' c') := (hW.cell (p := ⟨gb, 0, none⟩) hgb).trans kb
          go_simp
          refine hK _ _ (Below.refl _ _) ?_
          exact rfl
        refine GOps.cons_ (fun f w' K hW hd hK => ?_) ?_
        · try simp only [depsOf, depsL, Region.binds, depsHold, nthS, List.getD_cons_zero, List.getD_cons_succ, isV, ownV, anyV, if_true, and_true, true_and] at hd
          have qa : w'.cell? ⟨ga, 0, none⟩ = some (.slice A n c) := (hW.cell (p := ⟨ga, 0, none⟩) hga).trans ka
          have qb : w'.cell? ⟨gb, 0, none⟩ = some (.slice A' n' c') := (hW.cell (p := ⟨gb, 0, none⟩) hgb).trans kb
          go_simp
          refine hK _ _ (Below.refl _ _) ?_
          exact rfl
        refine GOps.cons_ (fun f w' K hW hd hK => ?_) ?_
        · try simp only [depsOf, depsL, Region.binds, depsHold, nthS, List.getD_cons_zero, List.getD_cons_succ, isV, ownV, anyV, if_true, and_true, true_and] at hd
          have qa : w'.cell? ⟨ga, 0, none⟩ = some (.slice A n c) := (hW.cell (p := ⟨ga, 0, none⟩) hga).trans ka
          have qb : w'.cell? ⟨gb, 0, none⟩ = some (.slice A' n' c') := (hW.cell (p := ⟨gb, 0, none⟩) hgb).trans kb
          go_simp
          refine hK _ _ (Below.refl _ _) ?_
          exact rfl
        refine GOps.cons_ (fun f w' K hW hd hK => ?_) ?_
        · try simp only [depsOf, depsL, Region.binds, depsHold, nthS, List.getD_cons_zero, List.getD_cons_succ, isV, ownV, anyV, if_true, and_true, true_and] at hd
          have qa : w'.cell? ⟨ga, 0, none⟩ = some (.slice A n c) := (hW.cell (p := ⟨ga, 0, none⟩) hga).trans ka
          have qb : w'.cell? ⟨gb, 0, none⟩ = some (.slice A' n' c') := (hW.cell (p := ⟨gb, 0, none⟩) hgb).trans kb
          go_simp
          refine hK _ _ (Below.refl _ _) ?_
          exact rfl
        exact GOps.nil_
      case hend2 =>
        intro f w' hW hd
        simp only [List.length_cons, List.length_nil, Nat.reduceAdd, List.range, List.range.loop, depsHold, nthS, List.getD_cons_zero, List.getD_cons_succ, isV, ownV, anyV, true_and, and_true] at hd
        have hl : f 21 = .bool false := by simp only [hd]
        go_wp2
        go_ret
        exact ⟨(congrArg Ending.returned hl).trans (ret_bool HR.out), hW⟩
  · have HR : Hid (false = smB xs ys i) := (smB_out (by omega)).symm
    clear hn hn' hx hy
    go_enter Try.func29, Try.ntmps29
    go_wp2_with fail
    refine wp_region_grow (A := ?A3) [isV (.int .i64 i), isV (.slice A n c), isV (.int .i64 n), isV (.bool false), isV (.bool false), isV (undef), isV (undef), isV (undef), isV (undef), isV (.bool false), isV (.bool false), isV (undef), isV (undef), isV (undef), isV (undef), isV (undef), isV (undef), isV (undef), isV (undef), isV (undef), isV (.bool false), isV (.bool false)] (w) (by kernel_rfl) (by kernel_rfl) (fun f => ?hA3) (Below.refl _ _) ?hst3 ?hops3 ?hend3
    case hA3 =>
      simp only [fillFrom, Nat.zero_add, Nat.reduceAdd]
      go_frame
      with_reducible rfl
    case hst3 => repeat (first | exact trivial | refine ⟨stab_is _ _, ?_⟩ | refine ⟨stab_own _ _ _ _, ?_⟩ | refine ⟨stab_any _, ?_⟩ | refine ⟨stab_rd _ _ _, ?_⟩)
    case hops3 =>
      refine GOps.cons_ (fun f w' K hW hd hK => ?_) ?_
      · try simp only [depsOf, depsL, Region.binds, depsHold, nthS, List.getD_cons_zero, List.getD_cons_succ, isV, ownV, anyV, if_true, and_true, true_and] at hd
        have qa : w'.cell? ⟨ga, 0, none⟩ = some (.slice A n c) := (hW.cell (p := ⟨ga, 0, none⟩) hga).trans ka
        have qb : w'.cell? ⟨gb, 0, none⟩ = some (.slice A' n' c') := (hW.cell (p := ⟨gb, 0, none⟩) hgb).trans kb
        go_simp
        refine hK _ _ (Below.refl _ _) ?_
        exact rfl
      refine GOps.cons_ (fun f w' K hW hd hK => ?_) ?_
      · try simp only [depsOf, depsL, Region.binds, depsHold, nthS, List.getD_cons_zero, List.getD_cons_succ, isV, ownV, anyV, if_true, and_true, true_and] at hd
        have qa : w'.cell? ⟨ga, 0, none⟩ = some (.slice A n c) := (hW.cell (p := ⟨ga, 0, none⟩) hga).trans ka
        have qb : w'.cell? ⟨gb, 0, none⟩ = some (.slice A' n' c') := (hW.cell (p := ⟨gb, 0, none⟩) hgb).trans kb
        go_simp
        refine hK _ _ (Below.refl _ _) ?_
        exact rfl
      refine GOps.cons_ (fun f w' K hW hd hK => ?_) ?_
      · try simp only [depsOf, depsL, Region.binds, depsHold, nthS, List.getD_cons_zero, List.getD_cons_succ, isV, ownV, anyV, if_true, and_true, true_and] at hd
        have qa : w'.cell? ⟨ga, 0, none⟩ = some (.slice A n c) := (hW.cell (p := ⟨ga, 0, none⟩) hga).trans ka
        have qb : w'.cell? ⟨gb, 0, none⟩ = some (.slice A' n' c') := (hW.cell (p := ⟨gb, 0, none⟩) hgb).trans kb
        go_simp
        refine hK _ _ (Below.refl _ _) ?_
        exact rfl
      refine GOps.cons_ (fun f w' K hW hd hK => ?_) ?_
      · try simp only [depsOf, depsL, Region.binds, depsHold, nthS, List.getD_cons_zero, List.getD_cons_succ, isV, ownV, anyV, if_true, and_true, true_and] at hd
        have qa : w'.cell? ⟨ga, 0, none⟩ = some (.slice A n c) := (hW.cell (p := ⟨ga, 0, none⟩) hga).trans ka
        have qb : w'.cell? ⟨gb, 0, none⟩ = some (.slice A' n' c') := (hW.cell (p := ⟨gb, 0, none⟩) hgb).trans kb
        go_simp
        refine hK _ _ (Below.refl _ _) ?_
        exact rfl
      refine GOps.cons_ (fun f w' K hW hd hK => ?_) ?_
      · try simp only [depsOf, depsL, Region.binds, depsHold, nthS, List.getD_cons_zero, List.getD_cons_succ, isV, ownV, anyV, if_true, and_true, true_and] at hd
        have qa : w'.cell? ⟨ga, 0, none⟩ = some (.slice A n c) := (hW.cell (p := ⟨ga, 0, none⟩) hga).trans ka
        have qb : w'.cell? ⟨gb, 0, none⟩ = some (.slice A' n' c') := (hW.cell (p := ⟨gb, 0, none⟩) hgb).trans kb
        go_simp
        refine hK _ _ (Below.refl _ _) ?_
        exact rfl
      refine GOps.cons_ (fun f w' K hW hd hK => ?_) ?_
      · try simp only [depsOf, depsL, Region.binds, depsHold, nthS, List.getD_cons_zero, List.getD_cons_succ, isV, ownV, anyV, if_true, and_true, true_and] at hd
        have qa : w'.cell? ⟨ga, 0, none⟩ = some (.slice A n c) := (hW.cell (p := ⟨ga, 0, none⟩) hga).trans ka
        have qb : w'.cell? ⟨gb, 0, none⟩ = some (.slice A' n' c') := (hW.cell (p := ⟨gb, 0, none⟩) hgb).trans kb
        go_simp
        refine hK _ _ (Below.refl _ _) ?_
        exact rfl
      refine GOps.cons_ (fun f w' K hW hd hK => ?_) ?_
      · try simp only [depsOf, depsL, Region.binds, depsHold, nthS, List.getD_cons_zero, List.getD_cons_succ, isV, ownV, anyV, if_true, and_true, true_and] at hd
        have qa : w'.cell? ⟨ga, 0, none⟩ = some (.slice A n c) := (hW.cell (p := ⟨ga, 0, none⟩) hga).trans ka
        have qb : w'.cell? ⟨gb, 0, none⟩ = some (.slice A' n' c') := (hW.cell (p := ⟨gb, 0, none⟩) hgb).trans kb
        go_simp
        refine hK _ _ (Below.refl _ _) ?_
        exact rfl
      refine GOps.cons_ (fun f w' K hW hd hK => ?_) ?_
      · try simp only [depsOf, depsL, Region.binds, depsHold, nthS, List.getD_cons_zero, List.getD_cons_succ, isV, ownV, anyV, if_true, and_true, true_and] at hd
        have qa : w'.cell? ⟨ga, 0, none⟩ = some (.slice A n c) := (hW.cell (p := ⟨ga, 0, none⟩) hga).trans ka
        have qb : w'.cell? ⟨gb, 0, none⟩ = some (.slice A' n' c') := (hW.cell (p := ⟨gb, 0, none⟩) hgb).trans kb
        go_simp
        refine hK _ _ (Below.refl _ _) ?_
        exact rfl
      refine GOps.cons_ (fun f w' K hW hd hK => ?_) ?_
      · try simp only [depsOf, depsL, Region.binds, depsHold, nthS, List.getD_cons_zero, List.getD_cons_succ, isV, ownV, anyV, if_true, and_true, true_and] at hd
        have qa : w'.cell? ⟨ga, 0, none⟩ = some (.slice A n c) := (hW.cell (p := ⟨ga, 0, none⟩) hga).trans ka
        have qb : w'.cell? ⟨gb, 0, none⟩ = some (.slice A' n' c') := (hW.cell (p := ⟨gb, 0, none⟩) hgb).trans kb
        go_simp
        refine hK _ _ (Below.refl _ _) ?_
        exact rfl
      refine GOps.cons_ (fun f w' K hW hd hK => ?_) ?_
      · try simp only [depsOf, depsL, Region.binds, depsHold, nthS, List.getD_cons_zero, List.getD_cons_succ, isV, ownV, anyV, if_true, and_true, true_and] at hd
        have qa : w'.cell? ⟨ga, 0, none⟩ = some (.slice A n c) := (hW.cell (p := ⟨ga, 0, none⟩) hga).trans ka
        have qb : w'.cell? ⟨gb, 0, none⟩ = some (.slice A' n' c') := (hW.cell (p := ⟨gb, 0, none⟩) hgb).trans kb
        go_simp
        refine hK _ _ (Below.refl _ _) ?_
        exact rfl
      refine GOps.cons_ (fun f w' K hW hd hK => ?_) ?_
      · try simp only [depsOf, depsL, Region.binds, depsHold, nthS, List.getD_cons_zero, List.getD_cons_succ, isV, ownV, anyV, if_true, and_true, true_and] at hd
        have qa : w'.cell? ⟨ga, 0, none⟩ = some (.slice A n c) := (hW.cell (p := ⟨ga, 0, none⟩) hga).trans ka
        have qb : w'.cell? ⟨gb, 0, none⟩ = some (.slice A' n' c') := (hW.cell (p := ⟨gb, 0, none⟩) hgb).trans kb
        go_simp
        refine hK _ _ (Below.refl _ _) ?_
        exact rfl
      refine GOps.cons_ (fun f w' K hW hd hK => ?_) ?_
      · try simp only [depsOf, depsL, Region.binds, depsHold, nthS, List.getD_cons_zero, List.getD_cons_succ, isV, ownV, anyV, if_true, and_true, true_and] at hd
        have qa : w'.cell? ⟨ga, 0, none⟩ = some (.slice A n c) := (hW.cell (p := ⟨ga, 0, none⟩) hga).trans ka
        have qb : w'.cell? ⟨gb, 0, none⟩ = some (.slice A' n' c') := (hW.cell (p := ⟨gb, 0, none⟩) hgb).trans kb
        go_simp
        refine hK _ _ (Below.refl _ _) ?_
        exact rfl
      refine GOps.cons_ (fun f w' K hW hd hK => ?_) ?_
      · try simp only [depsOf, depsL, Region.binds, depsHold, nthS, List.getD_cons_zero, List.getD_cons_succ, isV, ownV, anyV, if_true, and_true, true_and] at hd
        have qa : w'.cell? ⟨ga, 0, none⟩ = some (.slice A n c) := (hW.cell (p := ⟨ga, 0, none⟩) hga).trans ka
        have qb : w'.cell? ⟨gb, 0, none⟩ = some (.slice A' n' c') := (hW.cell (p := ⟨gb, 0, none⟩) hgb).trans kb
        go_simp
        refine hK _ _ (Below.refl _ _) ?_
        exact rfl
      refine GOps.cons_ (fun f w' K hW hd hK => ?_) ?_
      · try simp only [depsOf, depsL, Region.binds, depsHold, nthS, List.getD_cons_zero, List.getD_cons_succ, isV, ownV, anyV, if_true, and_true, true_and] at hd
        have qa : w'.cell? ⟨ga, 0, none⟩ = some (.slice A n c) := (hW.cell (p := ⟨ga, 0, none⟩) hga).trans ka
        have qb : w'.cell? ⟨gb, 0, none⟩ = some (.slice A' n' c') := (hW.cell (p := ⟨gb, 0, none⟩) hgb).trans kb
        go_simp
        refine hK _ _ (Below.refl _ _) ?_
        exact rfl
      refine GOps.cons_ (fun f w' K hW hd hK => ?_) ?_
      · try simp only [depsOf, depsL, Region.binds, depsHold, nthS, List.getD_cons_zero, List.getD_cons_succ, isV, ownV, anyV, if_true, and_true, true_and] at hd
        have qa : w'.cell? ⟨ga, 0, none⟩ = some (.slice A n c) := (hW.cell (p := ⟨ga, 0, none⟩) hga).trans ka
        have qb : w'.cell? ⟨gb, 0, none⟩ = some (.slice A' n' c') := (hW.cell (p := ⟨gb, 0, none⟩) hgb).trans kb
        go_simp
        refine hK _ _ (Below.refl _ _) ?_
        exact rfl
      refine GOps.cons_ (fun f w' K hW hd hK => ?_) ?_
      · try simp only [depsOf, depsL, Region.binds, depsHold, nthS, List.getD_cons_zero, List.getD_cons_succ, isV, ownV, anyV, if_true, and_true, true_and] at hd
        have qa : w'.cell? ⟨ga, 0, none⟩ = some (.slice A n c) := (hW.cell (p := ⟨ga, 0, none⟩) hga).trans ka
        have qb : w'.cell? ⟨gb, 0, none⟩ = some (.slice A' n' c') := (hW.cell (p := ⟨gb, 0, none⟩) hgb).trans kb
        go_simp
        refine hK _ _ (Below.refl _ _) ?_
        exact rfl
      refine GOps.cons_ (fun f w' K hW hd hK => ?_) ?_
      · try simp only [depsOf, depsL, Region.binds, depsHold, nthS, List.getD_cons_zero, List.getD_cons_succ, isV, ownV, anyV, if_true, and_true, true_and] at hd
        have qa : w'.cell? ⟨ga, 0, none⟩ = some (.slice A n c) := (hW.cell (p := ⟨ga, 0, none⟩) hga).trans ka
        have qb : w'.cell? ⟨gb, 0, none⟩ = some (.slice A' n' c') := (hW.cell (p := ⟨gb, 0, none⟩) hgb).trans kb
        go_simp
        refine hK _ _ (Below.refl _ _) ?_
        exact rfl
      refine GOps.cons_ (fun f w' K hW hd hK => ?_) ?_
      · try simp only [depsOf, depsL, Region.binds, depsHold, nthS, List.getD_cons_zero, List.getD_cons_succ, isV, ownV, anyV, if_true, and_true, true_and] at hd
        have qa : w'.cell? ⟨ga, 0, none⟩ = some (.slice A n c) := (hW.cell (p := ⟨ga, 0, none⟩) hga).trans ka
        have qb : w'.cell? ⟨gb, 0, none⟩ = some (.slice A' n' c') := (hW.cell (p := ⟨gb, 0, none⟩) hgb).trans kb
        go_simp
        refine hK _ _ (Below.refl _ _) ?_
        exact rfl
      refine GOps.cons_ (fun f w' K hW hd hK => ?_) ?_
      · try simp only [depsOf, depsL, Region.binds, depsHold, nthS, List.getD_cons_zero, List.getD_cons_succ, isV, ownV, anyV, if_true, and_true, true_and] at hd
        have qa : w'.cell? ⟨ga, 0, none⟩ = some (.slice A n c) := (hW.cell (p := ⟨ga, 0, none⟩) hga).trans ka
        have qb : w'.cell? ⟨gb, 0, none⟩ = some (.slice A' n' c') := (hW.cell (p := ⟨gb, 0, none⟩) hgb).trans kb
        go_simp
        refine hK _ _ (Below.refl _ _) ?_
        exact rfl
      refine GOps.cons_ (fun f w' K hW hd hK => ?_) ?_
      · try simp only [depsOf, depsL, Region.binds, depsHold, nthS, List.getD_cons_zero, List.getD_cons_succ, isV, ownV, anyV, if_true, and_true, true_and] at hd
        have qa : w'.cell? ⟨ga, 0, none⟩ = some (.slice A n c) := (hW.cell (p := ⟨ga, 0, none⟩) hga).trans ka
        have qb : w'.cell? ⟨gb, 0, none⟩ = some (.slice A' n' c') := (hW.cell (p := ⟨gb, 0, none⟩) hgb).trans kb
        go_simp
        refine hK _ _ (Below.refl _ _) ?_
        exact rfl
      refine GOps.cons_ (fun f w' K hW hd hK => ?_) ?_
      · try simp only [depsOf, depsL, Region.binds, depsHold, nthS, List.getD_cons_zero, List.getD_cons_succ, isV, ownV, anyV, if_true, and_true, true_and] at hd
        have qa : w'.cell? ⟨ga, 0, none⟩ = some (.slice A n c) := (hW.cell (p := ⟨ga, 0, none⟩) hga).trans ka
        have qb : w'.cell? ⟨gb, 0, none⟩ = some (.slice A' n' c') := (hW.cell (p := ⟨gb, 0, none⟩) hgb).trans kb
        go_simp
        refine hK _ _ (Below.refl _ _) ?_
        exact rfl
      refine GOps.cons_ (fun f w' K hW hd hK => ?_) ?_
      · try simp only [depsOf, depsL, Region.binds, depsHold, nthS, List.getD_cons_zero, List.getD_cons_succ, isV, ownV, anyV, if_true, and_true, true_and] at hd
        have qa : w'.cell? ⟨ga, 0, none⟩ = some (.slice A n c) := (hW.cell (p := ⟨ga, 0, none⟩) hga).trans ka
        have qb : w'.cell? ⟨gb, 0, none⟩ = some (.slice A' n' c') := (hW.cell (p := ⟨gb, 0, none⟩) hgb).trans kb
        go_simp
        refine hK _ _ (Below.refl _ _) ?_
        exact rfl
      exact GOps.nil_
    case hend3 =>
      intro f w' hW hd
      simp only [List.length_cons, List.length_nil, Nat.reduceAdd, List.range, List.range.loop, depsHold, nthS, List.getD_cons_zero, List.getD_cons_succ, isV, ownV, anyV, true_and, and_true] at hd
      have hl : f 21 = .bool false := by simp only [hd]
      go_wp2
      go_ret
      exact ⟨(congrArg Ending.returned hl).trans (ret_bool HR.out), hW⟩
set_option maxHeartbeats 3200000 in
theorem rsame_any (A A' : Option Addr) (n c n' c' : Nat) (xs ys : List Int) (i : Nat) (w : World) (hx : Rd w w.heap.size A (cb .u8 xs)) (hn : n = xs.length) (hy : Rd w w.heap.size A' (cb .u8 ys)) (hn' : n' = ys.length) (hl : n ≤ 1000000000) (hl' : n' ≤ 1000000000) (hi : i ≤ 1000000001) :
    Calls Try.prog 32 #[.slice A n c, .slice A' n' c', .int .i64 i] w fun e w' => e = .returned (.bool (smB xs ys i)) ∧ Below w.heap.size w w' := by
  by_cases h1 : i < n
  · by_cases h2 : i < n'
    · have hix : i < xs.length := by omega
      have hiy : i < ys.length := by omega
      have HR : Hid ((xs[i] == ys[i]) = smB xs ys i) := (smB_at hix hiy).symm
      obtain ⟨b, o, rfl, hbw, hc⟩ := hx.num hix
      obtain ⟨b', o', rfl, hbw', hc'⟩ := hy.num hiy
      have hi1 : (i : Int) < (n : Int) := by omega
      have hi2 : (i : Int) < (n' : Int) := by omega
      clear hn hn'
      go_enter Try.func32, Try.ntmps32
      go_wp2_with fail
      refine wp_region_grow (A := ?A4) [isV (.int .i64 i), isV (.slice (some ⟨b, o, none⟩) n c), isV (.int .i64 n), isV (.bool true), isV (.bool true), isV (.int .i64 i), isV (.slice (some ⟨b', o', none⟩) n' c'), isV (.int .i64 n'), isV (.bool true), isV (.bool true), isV (.bool true), isV (.slice (some ⟨b, o, none⟩) n c), isV (.int .i64 i), isV (.pointer (some ⟨b, o + i, none⟩)), isV (.int .u8 xs[i]), isV (.slice (some ⟨b', o', none⟩) n' c'), isV (.int .i64 i), isV (.pointer (some ⟨b', o' + i, none⟩)), isV (.int .u8 ys[i]), isV (.bool (xs[i] == ys[i])), isV (.bool (xs[i] == ys[i])), isV (.bool (xs[i] == ys[i]))] (w) (by kernel_rfl) (by kernel_rfl) (fun f => ?hA4) (Below.refl _ _) ?hst4 ?hops4 ?hend4
      case hA4 =>
        simp only [fillFrom, Nat.zero_add, Nat.reduceAdd]
        go_frame
        with_reducible rfl
      case hst4 => repeat (first | exact trivial | refine ⟨stab_is _ _, ?_⟩ | refine ⟨stab_own _ _ _ _, ?_⟩ | refine ⟨stab_any _, ?_⟩ | refine ⟨stab_rd _ _ _, ?_⟩)
      case hops4 =>
        refine GOps.cons_ (fun f w' K hW hd hK => ?_) ?_
        · try simp only [depsOf, depsL, Region.binds, depsHold, nthS, List.getD_cons_zero, List.getD_cons_succ, isV, ownV, anyV, if_true, and_true, true_and] at hd
          have hx := (hW.cell (p := ⟨b, o + i, none⟩) hbw).trans hc
          have hy := (hW.cell (p := ⟨b', o' + i, none⟩) hbw').trans hc'
          go_simp
          refine hK _ _ (Below.refl _ _) ?_
          exact rfl
        refine GOps.cons_ (fun f w' K hW hd hK => ?_) ?_
        · try simp only [depsOf, depsL, Region.binds, depsHold, nthS, List.getD_cons_zero, List.getD_cons_succ, isV, ownV, anyV, if_true, and_true, true_and] at hd
          have hx := (hW.cell (p := ⟨b, o + i, none⟩) hbw).trans hc
          have hy := (hW.cell (p := ⟨b', o' + i, none⟩) hbw').trans hc'
          go_simp
          refine hK _ _ (Below.refl _ _) ?_
          exact rfl
        refine GOps.cons_ (fun f w' K hW hd hK => ?_) ?_
        · try simp only [depsOf, depsL, Region.binds, depsHold, nthS, List.getD_cons_zero, List.getD_cons_succ, isV, ownV, anyV, if_true, and_true, true_and] at hd
          have hx := (hW.cell (p := ⟨b, o + i, none⟩) hbw).trans hc
          have hy := (hW.cell (p := ⟨b', o' + i, none⟩) hbw').trans hc'
          go_simp
          refine hK _ _ (Below.refl _ _) ?_
          exact rfl
        refine GOps.cons_ (fun f w' K hW hd hK => ?_) ?_
        · try simp only [depsOf, depsL, Region.binds, depsHold, nthS, List.getD_cons_zero, List.getD_cons_succ, isV, ownV, anyV, if_true, and_true, true_and] at hd
          have hx := (hW.cell (p := ⟨b, o + i, none⟩) hbw).trans hc
          have hy := (hW.cell (p := ⟨b', o' + i, none⟩) hbw').trans hc'
          go_simp
          refine hK _ _ (Below.refl _ _) ?_
          exact rfl
        refine GOps.cons_ (fun f w' K hW hd hK => ?_) ?_
        · try simp only [depsOf, depsL, Region.binds, depsHold, nthS, List.getD_cons_zero, List.getD_cons_succ, isV, ownV, anyV, if_true, and_true, true_and] at hd
          have hx := (hW.cell (p := ⟨b, o + i, none⟩) hbw).trans hc
          have hy := (hW.cell (p := ⟨b', o' + i, none⟩) hbw').trans hc'
          go_simp
          refine hK _ _ (Below.refl _ _) ?_
          exact rfl
        refine GOps.cons_ (fun f w' K hW hd hK => ?_) ?_
        · try simp only [depsOf, depsL, Region.binds, depsHold, nthS, List.getD_cons_zero, List.getD_cons_succ, isV, ownV, anyV, if_true, and_true, true_and] at hd
          have hx := (hW.cell (p := ⟨b, o + i, none⟩) hbw).trans hc
          have hy := (hW.cell (p := ⟨b', o' + i, none⟩) hbw').trans hc'
          go_simp
          refine hK _ _ (Below.refl _ _) ?_
          exact rfl
        refine GOps.cons_ (fun f w' K hW hd hK => ?_) ?_
        · try simp only [depsOf, depsL, Region.binds, depsHold, nthS, List.getD_cons_zero, List.getD_cons_succ, isV, ownV, anyV, if_true, and_true, true_and] at hd
          have hx := (hW.cell (p := ⟨b, o + i, none⟩) hbw).trans hc
          have hy := (hW.cell (p := ⟨b', o' + i, none⟩) hbw').trans hc'
          go_simp
          refine hK _ _ (Below.refl _ _) ?_
          exact rfl
        refine GOps.cons_ (fun f w' K hW hd hK => ?_) ?_
        · try simp only [depsOf, depsL, Region.binds, depsHold, nthS, List.getD_cons_zero, List.getD_cons_succ, isV, ownV, anyV, if_true, and_true, true_and] at hd
          have hx := (hW.cell (p := ⟨b, o + i, none⟩) hbw).trans hc
          have hy := (hW.cell (p := ⟨b', o' + i, none⟩) hbw').trans hc'
          go_simp
          refine hK _ _ (Below.refl _ _) ?_
          exact rfl
        refine GOps.cons_ (fun f w' K hW hd hK => ?_) ?_
        · try simp only [depsOf, depsL, Region.binds, depsHold, nthS, List.getD_cons_zero, List.getD_cons_succ, isV, ownV, anyV, if_true, and_true, true_and] at hd
          have hx := (hW.cell (p := ⟨b, o + i, none⟩) hbw).trans hc
          have hy := (hW.cell (p := ⟨b', o' + i, none⟩) hbw').trans hc'
          go_simp
          refine hK _ _ (Below.refl _ _) ?_
          exact rfl
        refine GOps.cons_ (fun f w' K hW hd hK => ?_) ?_
        · try simp only [depsOf, depsL, Region.binds, depsHold, nthS, List.getD_cons_zero, List.getD_cons_succ, isV, ownV, anyV, if_true, and_true, true_and] at hd
          have hx := (hW.cell (p := ⟨b, o + i, none⟩) hbw).trans hc
          have hy := (hW.cell (p := ⟨b', o' + i, none⟩) hbw').trans hc'
          go_simp
          refine hK _ _ (Below.refl _ _) ?_
          exact rfl
        refine GOps.cons_ (fun f w' K hW hd hK => ?_) ?_
        · try simp only [depsOf, depsL, Region.binds, depsHold, nthS, List.getD_cons_zero, List.getD_cons_succ, isV, ownV, anyV, if_true, and_true, true_and] at hd
          have hx := (hW.cell (p := ⟨b, o + i, none⟩) hbw).trans hc
          have hy := (hW.cell (p := ⟨b', o' + i, none⟩) hbw').trans hc'
          go_simp
          refine hK _ _ (Below.refl _ _) ?_
          exact rfl
        refine GOps.cons_ (fun f w' K hW hd hK => ?_) ?_
        · try simp only [depsOf, depsL, Region.binds, depsHold, nthS, List.getD_cons_zero, List.getD_cons_succ, isV, ownV, anyV, if_true, and_true, true_and] at hd
          have hx := (hW.cell (p := ⟨b, o + i, none⟩) hbw).trans hc
          have hy := (hW.cell (p := ⟨b', o' + i, none⟩) hbw').trans hc'
          go_simp
          refine hK _ _ (Below.refl _ _) ?_
          exact rfl
        refine GOps.cons_ (fun f w' K hW hd hK => ?_) ?_
        · try simp only [depsOf, depsL, Region.binds, depsHold, nthS, List.getD_cons_zero, List.getD_cons_succ, isV, ownV, anyV, if_true, and_true, true_and] at hd
          have hx := (hW.cell (p := ⟨b, o + i, none⟩) hbw).trans hc
          have hy := (hW.cell (p := ⟨b', o' + i, none⟩) hbw').trans hc'
          go_simp
          refine hK _ _ (Below.refl _ _) ?_
          exact rfl
        refine GOps.cons_ (fun f w' K hW hd hK => ?_) ?_
        · try simp only [depsOf, depsL, Region.binds, depsHold, nthS, List.getD_cons_zero, List.getD_cons_succ, isV, ownV, anyV, if_true, and_true, true_and] at hd
          have hx := (hW.cell (p := ⟨b, o + i, none⟩) hbw).trans hc
          have hy := (hW.cell (p := ⟨b', o' + i, none⟩) hbw').trans hc'
          go_simp
          refine hK _ _ (Below.refl _ _) ?_
          exact rfl
        refine GOps.cons_ (fun f w' K hW hd hK => ?_) ?_
        · try simp only [depsOf, depsL, Region.binds, depsHold, nthS, List.getD_cons_zero, List.getD_cons_succ, isV, ownV, anyV, if_true, and_true, true_and] at hd
          have hx := (hW.cell (p := ⟨b, o + i, none⟩) hbw).trans hc
          have hy := (hW.cell (p := ⟨b', o' + i, none⟩) hbw').trans hc'
          go_simp
          refine hK _ _ (Below.refl _ _) ?_
          exact rfl
        refine GOps.cons_ (fun f w' K hW hd hK => ?_) ?_
        · try simp only [depsOf, depsL, Region.binds, depsHold, nthS, List.getD_cons_zero, List.getD_cons_succ, isV, ownV, anyV, if_true, and_true, true_and] at hd
          have hx := (hW.cell (p := ⟨b, o + i, none⟩) hbw).trans hc
          have hy := (hW.cell (p := ⟨b', o' + i, none⟩) hbw').trans hc'
          go_simp
          refine hK _ _ (Below.refl _ _) ?_
          exact rfl
        refine GOps.cons_ (fun f w' K hW hd hK => ?_) ?_
        · try simp only [depsOf, depsL, Region.binds, depsHold, nthS, List.getD_cons_zero, List.getD_cons_succ, isV, ownV, anyV, if_true, and_true, true_and] at hd
          have hx := (hW.cell (p := ⟨b, o + i, none⟩) hbw).trans hc
          have hy := (hW.cell (p := ⟨b', o' + i, none⟩) hbw').trans hc'
          go_simp
          refine hK _ _ (Below.refl _ _) ?_
          exact rfl
        refine GOps.cons_ (fun f w' K hW hd hK => ?_) ?_
        · try simp only [depsOf, depsL, Region.binds, depsHold, nthS, List.getD_cons_zero, List.getD_cons_succ, isV, ownV, anyV, if_true, and_true, true_and] at hd
          have hx := (hW.cell (p := ⟨b, o + i, none⟩) hbw).trans hc
          have hy := (hW.cell (p := ⟨b', o' + i, none⟩) hbw').trans hc'
          go_simp
          refine hK _ _ (Below.refl _ _) ?_
          exact rfl
        refine GOps.cons_ (fun f w' K hW hd hK => ?_) ?_
        · try simp only [depsOf, depsL, Region.binds, depsHold, nthS, List.getD_cons_zero, List.getD_cons_succ, isV, ownV, anyV, if_true, and_true, true_and] at hd
          have hx := (hW.cell (p := ⟨b, o + i, none⟩) hbw).trans hc
          have hy := (hW.cell (p := ⟨b', o' + i, none⟩) hbw').trans hc'
          go_simp
          refine hK _ _ (Below.refl _ _) ?_
          exact rfl
        refine GOps.cons_ (fun f w' K hW hd hK => ?_) ?_
        · try simp only [depsOf, depsL, Region.binds, depsHold, nthS, List.getD_cons_zero, List.getD_cons_succ, isV, ownV, anyV, if_true, and_true, true_and] at hd
          have hx := (hW.cell (p := ⟨b, o + i, none⟩) hbw).trans hc
          have hy := (hW.cell (p := ⟨b', o' + i, none⟩) hbw').trans hc'
          go_simp
          refine hK _ _ (Below.refl _ _) ?_
          exact rfl
        refine GOps.cons_ (fun f w' K hW hd hK => ?_) ?_
        · try simp only [depsOf, depsL, Region.binds, depsHold, nthS, List.getD_cons_zero, List.getD_cons_succ, isV, ownV, anyV, if_true, and_true, true_and] at hd
          have hx := (hW.cell (p := ⟨b, o + i, none⟩) hbw).trans hc
          have hy := (hW.cell (p := ⟨b', o' + i, none⟩) hbw').trans hc'
          go_simp
          refine hK _ _ (Below.refl _ _) ?_
          exact rfl
        refine GOps.cons_ (fun f w' K hW hd hK => ?_) ?_
        · try simp only [depsOf, depsL, Region.binds, depsHold, nthS, List.getD_cons_zero, List.getD_cons_succ, isV, ownV, anyV, if_true, and_true, true_and] at hd
          have hx := (hW.cell (p := ⟨b, o + i, none⟩) hbw).trans hc
          have hy := (hW.cell (p := ⟨b', o' + i, none⟩) hbw').trans hc'
          go_simp
          refine hK _ _ (Below.refl _ _) ?_
          exact rfl
        exact GOps.nil_
      case hend4 =>
        intro f w' hW hd
        simp only [List.length_cons, List.length_nil, Nat.reduceAdd, List.range, List.range.loop, depsHold, nthS, List.getD_cons_zero, List.getD_cons_succ, isV, ownV, anyV, true_and, and_true] at hd
        have hl : f 21 = .bool (xs[i] == ys[i]) := by simp only [hd]
        go_wp2
        go_ret
        exact ⟨(congrArg Ending.returned hl).trans (ret_bool HR.out), hW⟩
    · have HR : Hid (false = smB xs ys i) := (smB_out (by omega)).symm
      clear hn hn' hx hy
      go_enter Try.func32, Try.ntmps32
      go_wp2_with fail
      refine wp_region_grow (A := ?A5) [isV (.int .i64 i), isV (.slice A n c), isV (.int .i64 n), isV (.bool true), isV (.bool true), isV (.int .i64 i), isV (.slice A' n' c'), isV (.int .i64 n'), isV (.bool false), isV (.bool false), isV (.bool false), isV (undef), isV (undef), isV (undef), isV (undef), isV (undef), isV (undef), isV (undef), isV (undef), isV (undef), isV (.bool false), isV (.bool false)] (w) (by kernel_rfl) (by kernel_rfl) (fun f => ?hA5) (Below.refl _ _) ?hst5 ?hops5 ?hend5
      case hA5 =>
        simp only [fillFrom, Nat.zero_add, Nat.reduceAdd]
        go_frame
        with_reducible rfl
      case hst5 => repeat (first | exact trivial | refine ⟨stab_is _ _, ?_⟩ | refine ⟨stab_own _ _ _ _, ?_⟩ | refine ⟨stab_any _, ?_⟩ | refine ⟨stab_rd _ _ _, ?_⟩)
      case hops5 =>
        refine GOps.cons_ (fun f w' K hW hd hK => ?_) ?_
        · try simp only [depsOf, depsL, Region.binds, depsHold, nthS, List.getD_cons_zero, List.getD_cons_succ, isV, ownV, anyV, if_true, and_true, true_and] at hd
          go_simp
          refine hK _ _ (Below.refl _ _) ?_
          exact rfl
        refine GOps.cons_ (fun f w' K hW hd hK => ?_) ?_
        · try simp only [depsOf, depsL, Region.binds, depsHold, nthS, List.getD_cons_zero, List.getD_cons_succ, isV, ownV, anyV, if_true, and_true, true_and] at hd
          go_simp
          refine hK _ _ (Below.refl _ _) ?_
          exact rfl
        refine GOps.cons_ (fun f w' K hW hd hK => ?_) ?_
        · try simp only [depsOf, depsL, Region.binds, depsHold, nthS, List.getD_cons_zero, List.getD_cons_succ, isV, ownV, anyV, if_true, and_true, true_and] at hd
          go_simp
          refine hK _ _ (Below.refl _ _) ?_
          exact rfl
        refine GOps.cons_ (fun f w' K hW hd hK => ?_) ?_
        · try simp only [depsOf, depsL, Region.binds, depsHold, nthS, List.getD_cons_zero, List.getD_cons_succ, isV, ownV, anyV, if_true, and_true, true_and] at hd
          go_simp
          refine hK _ _ (Below.refl _ _) ?_
          exact rfl
        refine GOps.cons_ (fun f w' K hW hd hK => ?_) ?_
        · try simp only [depsOf, depsL, Region.binds, depsHold, nthS, List.getD_cons_zero, List.getD_cons_succ, isV, ownV, anyV, if_true, and_true, true_and] at hd
          go_simp
          refine hK _ _ (Below.refl _ _) ?_
          exact rfl
        refine GOps.cons_ (fun f w' K hW hd hK => ?_) ?_
        · try simp only [depsOf, depsL, Region.binds, depsHold, nthS, List.getD_cons_zero, List.getD_cons_succ, isV, ownV, anyV, if_true, and_true, true_and] at hd
          go_simp
          refine hK _ _ (Below.refl _ _) ?_
          exact rfl
        refine GOps.cons_ (fun f w' K hW hd hK => ?_) ?_
        · try simp only [depsOf, depsL, Region.binds, depsHold, nthS, List.getD_cons_zero, List.getD_cons_succ, isV, ownV, anyV, if_true, and_true, true_and] at hd
          go_simp
          refine hK _ _ (Below.refl _ _) ?_
          exact rfl
        refine GOps.cons_ (fun f w' K hW hd hK => ?_) ?_
        · try simp only [depsOf, depsL, Region.binds, depsHold, nthS, List.getD_cons_zero, List.getD_cons_succ, isV, ownV, anyV, if_true, and_true, true_and] at hd
          go_simp
          refine hK _ _ (Below.refl _ _) ?_
          exact rfl
        refine GOps.cons_ (fun f w' K hW hd hK => ?_) ?_
        · try simp only [depsOf, depsL, Region.binds, depsHold, nthS, List.getD_cons_zero, List.getD_cons_succ, isV, ownV, anyV, if_true, and_true, true_and] at hd
          go_simp
          refine hK _ _ (Below.refl _ _) ?_
          exact rfl
        refine GOps.cons_ (fun f w' K hW hd hK => ?_) ?_
        · try simp only [depsOf, depsL, Region.binds, depsHold, nthS, List.getD_cons_zero, List.getD_cons_succ, isV, ownV, anyV, if_true, and_true, true_and] at hd
          go_simp
          refine hK _ _ (Below.refl _ _) ?_
          exact rfl
        refine GOps.cons_ (fun f w' K hW hd hK => ?_) ?_
        · try simp only [depsOf, depsL, Region.binds, depsHold, nthS, List.getD_cons_zero, List.getD_cons_succ, isV, ownV, anyV, if_true, and_true, true_and] at hd
          go_simp
          refine hK _ _ (Below.refl _ _) ?_
          exact rfl
        refine GOps.cons_ (fun f w' K hW hd hK => ?_) ?_
        · try simp only [depsOf, depsL, Region.binds, depsHold, nthS, List.getD_cons_zero, List.getD_cons_succ, isV, ownV, anyV, if_true, and_true, true_and] at hd
          go_simp
          refine hK _ _ (Below.refl _ _) ?_
          exact rfl
        refine GOps.cons_ (fun f w' K hW hd hK => ?_) ?_
        · try simp only [depsOf, depsL, Region.binds, depsHold, nthS, List.getD_cons_zero, List.getD_cons_succ, isV, ownV, anyV, if_true, and_true, true_and] at hd
          go_simp
          refine hK _ _ (Below.refl _ _) ?_
          exact rfl
        refine GOps.cons_ (fun f w' K hW hd hK => ?_) ?_
        · try simp only [depsOf, depsL, Region.binds, depsHold, nthS, List.getD_cons_zero, List.getD_cons_succ, isV, ownV, anyV, if_true, and_true, true_and] at hd
          go_simp
          refine hK _ _ (Below.refl _ _) ?_
          exact rfl
        refine GOps.cons_ (fun f w' K hW hd hK => ?_) ?_
        · try simp only [depsOf, depsL, Region.binds, depsHold, nthS, List.getD_cons_zero, List.getD_cons_succ, isV, ownV, anyV, if_true, and_true, true_and] at hd
          go_simp
          refine hK _ _ (Below.refl _ _) ?_
          exact rfl
        refine GOps.cons_ (fun f w' K hW hd hK => ?_) ?_
        · try simp only [depsOf, depsL, Region.binds, depsHold, nthS, List.getD_cons_zero, List.getD_cons_succ, isV, ownV, anyV, if_true, and_true, true_and] at hd
          go_simp
          refine hK _ _ (Below.refl _ _) ?_
          exact rfl
        refine GOps.cons_ (fun f w' K hW hd hK => ?_) ?_
        · try simp only [depsOf, depsL, Region.binds, depsHold, nthS, List.getD_cons_zero, List.getD_cons_succ, isV, ownV, anyV, if_true, and_true, true_and] at hd
          go_simp
          refine hK _ _ (Below.refl _ _) ?_
          exact rfl
        refine GOps.cons_ (fun f w' K hW hd hK => ?_) ?_
        · try simp only [depsOf, depsL, Region.binds, depsHold, nthS, List.getD_cons_zero, List.getD_cons_succ, isV, ownV, anyV, if_true, and_true, true_and] at hd
          go_simp
          refine hK _ _ (Below.refl _ _) ?_
          exact rfl
        refine GOps.cons_ (fun f w' K hW hd hK => ?_) ?_
        · try simp only [depsOf, depsL, Region.binds, depsHold, nthS, List.getD_cons_zero, List.getD_cons_succ, isV, ownV, anyV, if_true, and_true, true_and] at hd
          go_simp
          refine hK _ _ (Below.refl _ _) ?_
          exact rfl
        refine GOps.cons_ (fun f w' K hW hd hK => ?_) ?_
        · try simp only [depsOf, depsL, Region.binds, depsHold, nthS, List.getD_cons_zero, List.getD_cons_succ, isV, ownV, anyV, if_true, and_true, true_and] at hd
          go_simp
          refine hK _ _ (Below.refl _ _) ?_
          exact rfl
        refine GOps.cons_ (fun f w' K hW hd hK => ?_) ?_
        · try simp only [depsOf, depsL, Region.binds, depsHold, nthS, List.getD_cons_zero, List.getD_cons_succ, isV, ownV, anyV, if_true, and_true, true_and] at hd
          go_simp
          refine hK _ _ (Below.refl _ _) ?_
          exact rfl
        refine GOps.cons_ (fun f w' K hW hd hK => ?_) ?_
        · try simp only [depsOf, depsL, Region.binds, depsHold, nthS, List.getD_cons_zero, List.getD_cons_succ, isV, ownV, anyV, if_true, and_true, true_and] at hd
          go_simp
          refine hK _ _ (Below.refl _ _) ?_
          exact rfl
        exact GOps.nil_
      case hend5 =>
        intro f w' hW hd
        simp only [List.length_cons, List.length_nil, Nat.reduceAdd, List.range, List.range.loop, depsHold, nthS, List.getD_cons_zero, List.getD_cons_succ, isV, ownV, anyV, true_and, and_true] at hd
        have hl : f 21 = .bool false := by simp only [hd]
        go_wp2
        go_ret
        exact ⟨(congrArg Ending.returned hl).trans (ret_bool HR.out), hW⟩
  · have HR : Hid (false = smB xs ys i) := (smB_out (by omega)).symm
    clear hn hn' hx hy
    go_enter Try.func32, Try.ntmps32
    go_wp2_with fail
    refine wp_region_grow (A := ?A6) [isV (.int .i64 i), isV (.slice A n c), isV (.int .i64 n), isV (.bool false), isV (.bool false), isV (undef), isV (undef), isV (undef), isV (undef), isV (.bool false), isV (.bool false), isV (undef), isV (undef), isV (undef), isV (undef), isV (undef), isV (undef), isV (undef), isV (undef), isV (undef), isV (.bool false), isV (.bool false)] (w) (by kernel_rfl) (by kernel_rfl) (fun f => ?hA6) (Below.refl _ _) ?hst6 ?hops6 ?hend6
    case hA6 =>
      simp only [fillFrom, Nat.zero_add, Nat.reduceAdd]
      go_frame
      with_reducible rfl
    case hst6 => repeat (first | exact trivial | refine ⟨stab_is _ _, ?_⟩ | refine ⟨stab_own _ _ _ _, ?_⟩ | refine ⟨stab_any _, ?_⟩ | refine ⟨stab_rd _ _ _, ?_⟩)
    case hops6 =>
      refine GOps.cons_ (fun f w' K hW hd hK => ?_) ?_
      · try simp only [depsOf, depsL, Region.binds, depsHold, nthS, List.getD_cons_zero, List.getD_cons_succ, isV, ownV, anyV, if_true, and_true, true_and] at hd
        go_simp
        refine hK _ _ (Below.refl _ _) ?_
        exact rfl
      refine GOps.cons_ (fun f w' K hW hd hK => ?_) ?_
      · try simp only [depsOf, depsL, Region.binds, depsHold, nthS, List.getD_cons_zero, List.getD_cons_succ, isV, ownV, anyV, if_true, and_true, true_and] at hd
        go_simp
        refine hK _ _ (Below.refl _ _) ?_
        exact rfl
      refine GOps.cons_ (fun f w' K hW hd hK => ?_) ?_
      · try simp only [depsOf, depsL, Region.binds, depsHold, nthS, List.getD_cons_zero, List.getD_cons_succ, isV, ownV, anyV, if_true, and_true, true_and] at hd
        go_simp
        refine hK _ _ (Below.refl _ _) ?_
        exact rfl
      refine GOps.cons_ (fun f w' K hW hd hK => ?_) ?_
      · try simp only [depsOf, depsL, Region.binds, depsHold, nthS, List.getD_cons_zero, List.getD_cons_succ, isV, ownV, anyV, if_true, and_true, true_and] at hd
        go_simp
        refine hK _ _ (Below.refl _ _) ?_
        exact rfl
      refine GOps.cons_ (fun f w' K hW hd hK => ?_) ?_
      · try simp only [depsOf, depsL, Region.binds, depsHold, nthS, List.getD_cons_zero, List.getD_cons_succ, isV, ownV, anyV, if_true, and_true, true_and] at hd
        go_simp
        refine hK _ _ (Below.refl _ _) ?_
        exact rfl
      refine GOps.cons_ (fun f w' K hW hd hK => ?_) ?_
      · try simp only [depsOf, depsL, Region.binds, depsHold, nthS, List.getD_cons_zero, List.getD_cons_succ, isV, ownV, anyV, if_true, and_true, true_and] at hd
        go_simp
        refine hK _ _ (Below.refl _ _) ?_
        exact rfl
      refine GOps.cons_ (fun f w' K hW hd hK => ?_) ?_
      · try simp only [depsOf, depsL, Region.binds, depsHold, nthS, List.getD_cons_zero, List.getD_cons_succ, isV, ownV, anyV, if_true, and_true, true_and] at hd
        go_simp
        refine hK _ _ (Below.refl _ _) ?_
        exact rfl
      refine GOps.cons_ (fun f w' K hW hd hK => ?_) ?_
      · try simp only [depsOf, depsL, Region.binds, depsHold, nthS, List.getD_cons_zero, List.getD_cons_succ, isV, ownV, anyV, if_true, and_true, true_and] at hd
        go_simp
        refine hK _ _ (Below.refl _ _) ?_
        exact rfl
      refine GOps.cons_ (fun f w' K hW hd hK => ?_) ?_
      · try simp only [depsOf, depsL, Region.binds, depsHold, nthS, List.getD_cons_zero, List.getD_cons_succ, isV, ownV, anyV, if_true, and_true, true_and] at hd
        go_simp
        refine hK _ _ (Below.refl _ _) ?_
        exact rfl
      refine GOps.cons_ (fun f w' K hW hd hK => ?_) ?_
      · try simp only [depsOf, depsL, Region.binds, depsHold, nthS, List.getD_cons_zero, List.getD_cons_succ, isV, ownV, anyV, if_true, and_true, true_and] at hd
        go_simp
        refine hK _ _ (Below.refl _ _) ?_
        exact rfl
      refine GOps.cons_ (fun f w' K hW hd hK => ?_) ?_
      · try simp only [depsOf, depsL, Region.binds, depsHold, nthS, List.getD_cons_zero, List.getD_cons_succ, isV, ownV, anyV, if_true, and_true, true_and] at hd
        go_simp
        refine hK _ _ (Below.refl _ _) ?_
        exact rfl
      refine GOps.cons_ (fun f w' K hW hd hK => ?_) ?_
      · try simp only [depsOf, depsL, Region.binds, depsHold, nthS, List.getD_cons_zero, List.getD_cons_succ, isV, ownV, anyV, if_true, and_true, true_and] at hd
        go_simp
        refine hK _ _ (Below.refl _ _) ?_
        exact rfl
      refine GOps.cons_ (fun f w' K hW hd hK => ?_) ?_
      · try simp only [depsOf, depsL, Region.binds, depsHold, nthS, List.getD_cons_zero, List.getD_cons_succ, isV, ownV, anyV, if_true, and_true, true_and] at hd
        go_simp
        refine hK _ _ (Below.refl _ _) ?_
        exact rfl
      refine GOps.cons_ (fun f w' K hW hd hK => ?_) ?_
      · try simp only [depsOf, depsL, Region.binds, depsHold, nthS, List.getD_cons_zero, List.getD_cons_succ, isV, ownV, anyV, if_true, and_true, true_and] at hd
        go_simp
        refine hK _ _ (Below.refl _ _) ?_
        exact rfl
      refine GOps.cons_ (fun f w' K hW hd hK => ?_) ?_
      · try simp only [depsOf, depsL, Region.binds, depsHold, nthS, List.getD_cons_zero, List.getD_cons_succ, isV, ownV, anyV, if_true, and_true, true_and] at hd
        go_simp
        refine hK _ _ (Below.refl _ _) ?_
        exact rfl
      refine GOps.cons_ (fun f w' K hW hd hK => ?_) ?_
      · try simp only [depsOf, depsL, Region.binds, depsHold, nthS, List.getD_cons_zero, List.getD_cons_succ, isV, ownV, anyV, if_true, and_true, true_and] at hd
        go_simp
        refine hK _ _ (Below.refl _ _) ?_
        exact rfl
      refine GOps.cons_ (fun f w' K hW hd hK => ?_) ?_
      · try simp only [depsOf, depsL, Region.binds, depsHold, nthS, List.getD_cons_zero, List.getD_cons_succ, isV, ownV, anyV, if_true, and_true, true_and] at hd
        go_simp
        refine hK _ _ (Below.refl _ _) ?_
        exact rfl
      refine GOps.cons_ (fun f w' K hW hd hK => ?_) ?_
      · try simp only [depsOf, depsL, Region.binds, depsHold, nthS, List.getD_cons_zero, List.getD_cons_succ, isV, ownV, anyV, if_true, and_true, true_and] at hd
        go_simp
        refine hK _ _ (Below.refl _ _) ?_
        exact rfl
      refine GOps.cons_ (fun f w' K hW hd hK => ?_) ?_
      · try simp only [depsOf, depsL, Region.binds, depsHold, nthS, List.getD_cons_zero, List.getD_cons_succ, isV, ownV, anyV, if_true, and_true, true_and] at hd
        go_simp
        refine hK _ _ (Below.refl _ _) ?_
        exact rfl
      refine GOps.cons_ (fun f w' K hW hd hK => ?_) ?_
      · try simp only [depsOf, depsL, Region.binds, depsHold, nthS, List.getD_cons_zero, List.getD_cons_succ, isV, ownV, anyV, if_true, and_true, true_and] at hd
        go_simp
        refine hK _ _ (Below.refl _ _) ?_
        exact rfl
      refine GOps.cons_ (fun f w' K hW hd hK => ?_) ?_
      · try simp only [depsOf, depsL, Region.binds, depsHold, nthS, List.getD_cons_zero, List.getD_cons_succ, isV, ownV, anyV, if_true, and_true, true_and] at hd
        go_simp
        refine hK _ _ (Below.refl _ _) ?_
        exact rfl
      refine GOps.cons_ (fun f w' K hW hd hK => ?_) ?_
      · try simp only [depsOf, depsL, Region.binds, depsHold, nthS, List.getD_cons_zero, List.getD_cons_succ, isV, ownV, anyV, if_true, and_true, true_and] at hd
        go_simp
        refine hK _ _ (Below.refl _ _) ?_
        exact rfl
      exact GOps.nil_
    case hend6 =>
      intro f w' hW hd
      simp only [List.length_cons, List.length_nil, Nat.reduceAdd, List.range, List.range.loop, depsHold, nthS, List.getD_cons_zero, List.getD_cons_succ, isV, ownV, anyV, true_and, and_true] at hd
      have hl : f 21 = .bool false := by simp only [hd]
      go_wp2
      go_ret
      exact ⟨(congrArg Ending.returned hl).trans (ret_bool HR.out), hW⟩
set_option maxHeartbeats 3200000 in
theorem sEqual_any (A A' : Option Addr) (n c n' c' : Nat) (xs ys : List Int) (w : World) (hx : Rd w w.heap.size A (cb .u8 xs)) (hn : n = xs.length) (hy : Rd w w.heap.size A' (cb .u8 ys)) (hn' : n' = ys.length) (hl : n ≤ 1000000000) (hl' : n' ≤ 1000000000) :
    Calls Try.prog 37 #[.slice A n c, .slice A' n' c'] w fun e w' => e = .returned (.bool (eqB xs ys)) ∧ Below w.heap.size w w' := by
  by_cases hne : n = n'
  · subst hne
    have HL : Hid (xs.length = ys.length) := by unfold Hid; omega
    have HN := Lib.hid hn
    have HN' := Lib.hid hn'
    clear hn hn'
    go_enter Try.func37, Try.ntmps37
    go_wp2
    go_loopw [13, 5] (fun i _ wr => ∃ k : Nat, k ≤ n ∧ i = .int .i64 k ∧ Below w.heap.size w wr ∧ Hid (∀ j, j < k → xs.getD j 0 = ys.getD j 0)) (fun i _ _ => n - (intOf i).toNat)
    case atStart => exact ⟨0, by omega, rfl, Below.refl _ _, by unfold Hid; intro j hj; omega⟩
    case round =>
      obtain ⟨k, hk, rfl, hWr, hq⟩ := hrel
      by_cases hlt : k < n
      · have hkx : k < xs.length := by have := HN.out; omega
        have hky : k < ys.length := by have := HN'.out; omega
        obtain ⟨b, o, rfl, hbw, hc⟩ := hx.num hkx
        obtain ⟨b', o', rfl, hbw', hc'⟩ := hy.num hky
        obtain ⟨x, hxe⟩ : ∃ x, xs[k] = x := ⟨_, rfl⟩
        obtain ⟨y, hye⟩ : ∃ y, ys[k] = y := ⟨_, rfl⟩
        rw [hxe] at hc
        rw [hye] at hc'
        have hki : (k : Int) < (n : Int) := by omega
        by_cases he : x = y
        · have e1 : (x != y) = false := by rw [bne_eq_false_iff_eq]; exact he
          have hq2 : Hid (∀ j, j < k + 1 → xs.getD j 0 = ys.getD j 0) := by
            unfold Hid
            intro j hj
            rcases Nat.lt_or_ge j k with h | h
            · exact hq.out j h
            · obtain rfl : j = k := by omega
              rw [getD_at hkx, getD_at hky, hxe, hye, he]
          clear he hxe hye
          go_wp2_with fail
          refine wp_region_grow (A := ?A7) [isV (.slice (some ⟨b, o, none⟩) n c), isV (.int .i64 k), isV (.pointer (some ⟨b, o + k, none⟩)), isV (.int .u8 x), isV (.slice (some ⟨b', o', none⟩) n c'), isV (.int .i64 k), isV (.pointer (some ⟨b', o' + k, none⟩)), isV (.int .u8 y), isV (.bool false)] (wr) (by kernel_rfl) (by kernel_rfl) (fun f => ?hA7) (Below.refl _ _) ?hst7 ?hops7 ?hend7
          case hA7 =>
            simp only [fillFrom, Nat.zero_add, Nat.reduceAdd]
            go_frame
            with_reducible rfl
          case hst7 => repeat (first | exact trivial | refine ⟨stab_is _ _, ?_⟩ | refine ⟨stab_own _ _ _ _, ?_⟩ | refine ⟨stab_any _, ?_⟩ | refine ⟨stab_rd _ _ _, ?_⟩)
          case hops7 =>
            refine GOps.cons_ (fun f w' K hW hd hK => ?_) ?_
            · try simp only [depsOf, depsL, Region.binds, depsHold, nthS, List.getD_cons_zero, List.getD_cons_succ, isV, ownV, anyV, if_true, and_true, true_and] at hd
              have hx1 := ((hWr.trans (hW.mono hWr.size)).cell (p := ⟨b, o + k, none⟩) hbw).trans hc
              have hy1 := ((hWr.trans (hW.mono hWr.size)).cell (p := ⟨b', o' + k, none⟩) hbw').trans hc'
              go_simp
              refine hK _ _ (Below.refl _ _) ?_
              exact rfl
            refine GOps.cons_ (fun f w' K hW hd hK => ?_) ?_
            · try simp only [depsOf, depsL, Region.binds, depsHold, nthS, List.getD_cons_zero, List.getD_cons_succ, isV, ownV, anyV, if_true, and_true, true_and] at hd
              have hx1 := ((hWr.trans (hW.mono hWr.size)).cell (p := ⟨b, o + k, none⟩) hbw).trans hc
              have hy1 := ((hWr.trans (hW.mono hWr.size)).cell (p := ⟨b', o' + k, none⟩) hbw').trans hc'
              go_simp
              refine hK _ _ (Below.refl _ _) ?_
              exact rfl
            refine GOps.cons_ (fun f w' K hW hd hK => ?_) ?_
            · try simp only [depsOf, depsL, Region.binds, depsHold, nthS, List.getD_cons_zero, List.getD_cons_succ, isV, ownV, anyV, if_true, and_true, true_and] at hd
              have hx1 := ((hWr.trans (hW.mono hWr.size)).cell (p := ⟨b, o + k, none⟩) hbw).trans hc
              have hy1 := ((hWr.trans (hW.mono hWr.size)).cell (p := ⟨b', o' + k, none⟩) hbw').trans hc'
              go_simp
              refine hK _ _ (Below.refl _ _) ?_
              exact rfl
            refine GOps.cons_ (fun f w' K hW hd hK => ?_) ?_
            · try simp only [depsOf, depsL, Region.binds, depsHold, nthS, List.getD_cons_zero, List.getD_cons_succ, isV, ownV, anyV, if_true, and_true, true_and] at hd
              have hx1 := ((hWr.trans (hW.mono hWr.size)).cell (p := ⟨b, o + k, none⟩) hbw).trans hc
              have hy1 := ((hWr.trans (hW.mono hWr.size)).cell (p := ⟨b', o' + k, none⟩) hbw').trans hc'
              go_simp
              refine hK _ _ (Below.refl _ _) ?_
              exact rfl
            refine GOps.cons_ (fun f w' K hW hd hK => ?_) ?_
            · try simp only [depsOf, depsL, Region.binds, depsHold, nthS, List.getD_cons_zero, List.getD_cons_succ, isV, ownV, anyV, if_true, and_true, true_and] at hd
              have hx1 := ((hWr.trans (hW.mono hWr.size)).cell (p := ⟨b, o + k, none⟩) hbw).trans hc
              have hy1 := ((hWr.trans (hW.mono hWr.size)).cell (p := ⟨b', o' + k, none⟩) hbw').trans hc'
              go_simp
              refine hK _ _ (Below.refl _ _) ?_
              exact rfl
            refine GOps.cons_ (fun f w' K hW hd hK => ?_) ?_
            · try simp only [depsOf, depsL, Region.binds, depsHold, nthS, List.getD_cons_zero, List.getD_cons_succ, isV, ownV, anyV, if_true, and_true, true_and] at hd
              have hx1 := ((hWr.trans (hW.mono hWr.size)).cell (p := ⟨b, o + k, none⟩) hbw).trans hc
              have hy1 := ((hWr.trans (hW.mono hWr.size)).cell (p := ⟨b', o' + k, none⟩) hbw').trans hc'
              go_simp
              refine hK _ _ (Below.refl _ _) ?_
              exact rfl
            refine GOps.cons_ (fun f w' K hW hd hK => ?_) ?_
            · try simp only [depsOf, depsL, Region.binds, depsHold, nthS, List.getD_cons_zero, List.getD_cons_succ, isV, ownV, anyV, if_true, and_true, true_and] at hd
              have hx1 := ((hWr.trans (hW.mono hWr.size)).cell (p := ⟨b, o + k, none⟩) hbw).trans hc
              have hy1 := ((hWr.trans (hW.mono hWr.size)).cell (p := ⟨b', o' + k, none⟩) hbw').trans hc'
              go_simp
              refine hK _ _ (Below.refl _ _) ?_
              exact rfl
            refine GOps.cons_ (fun f w' K hW hd hK => ?_) ?_
            · try simp only [depsOf, depsL, Region.binds, depsHold, nthS, List.getD_cons_zero, List.getD_cons_succ, isV, ownV, anyV, if_true, and_true, true_and] at hd
              have hx1 := ((hWr.trans (hW.mono hWr.size)).cell (p := ⟨b, o + k, none⟩) hbw).trans hc
              have hy1 := ((hWr.trans (hW.mono hWr.size)).cell (p := ⟨b', o' + k, none⟩) hbw').trans hc'
              go_simp
              refine hK _ _ (Below.refl _ _) ?_
              exact rfl
            refine GOps.cons_ (fun f w' K hW hd hK => ?_) ?_
            · try simp only [depsOf, depsL, Region.binds, depsHold, nthS, List.getD_cons_zero, List.getD_cons_succ, isV, ownV, anyV, if_true, and_true, true_and] at hd
              have hx1 := ((hWr.trans (hW.mono hWr.size)).cell (p := ⟨b, o + k, none⟩) hbw).trans hc
              have hy1 := ((hWr.trans (hW.mono hWr.size)).cell (p := ⟨b', o' + k, none⟩) hbw').trans hc'
              go_simp
              refine hK _ _ (Below.refl _ _) ?_
              exact rfl
            exact GOps.nil_
          case hend7 =>
            intro f w' hW hd
            simp only [List.length_cons, List.length_nil, Nat.reduceAdd, List.range, List.range.loop, depsHold, nthS, List.getD_cons_zero, List.getD_cons_succ, isV, ownV, anyV, true_and, and_true] at hd
            have hl9 : f 8 = .bool false := by simp only [hd]
            rw [hl9]
            go_wp2
            go_roundw
            case rel => exact ⟨k + 1, by omega, by go_num, hWr.trans (hW.mono hWr.size), hq2⟩
            case measure => simp [intOf]; omega
        · have e1 : (x != y) = true := by rw [bne_iff_ne]; exact he
          have HR : Hid (false = eqB xs ys) := (eqB_at hkx hky (by rw [hxe, hye]; exact he)).symm
          clear he hxe hye
          go_wp2_with fail
          refine wp_region_grow (A := ?A8) [isV (.slice (some ⟨b, o, none⟩) n c), isV (.int .i64 k), isV (.pointer (some ⟨b, o + k, none⟩)), isV (.int .u8 x), isV (.slice (some ⟨b', o', none⟩) n c'), isV (.int .i64 k), isV (.pointer (some ⟨b', o' + k, none⟩)), isV (.int .u8 y), isV (.bool true)] (wr) (by kernel_rfl) (by kernel_rfl) (fun f => ?hA8) (Below.refl _ _) ?hst8 ?hops8 ?hend8
          case hA8 =>
            simp only [fillFrom, Nat.zero_add, Nat.reduceAdd]
            go_frame
            with_reducible rfl
          case hst8 => repeat (first | exact trivial | refine ⟨stab_is _ _, ?_⟩ | refine ⟨stab_own _ _ _ _, ?_⟩ | refine ⟨stab_any _, ?_⟩ | refine ⟨stab_rd _ _ _, ?_⟩)
          case hops8 =>
            refine GOps.cons_ (fun f w' K hW hd hK => ?_) ?_
            · try simp only [depsOf, depsL, Region.binds, depsHold, nthS, List.getD_cons_zero, List.getD_cons_succ, isV, ownV, anyV, if_true, and_true, true_and] at hd
              have hx1 := ((hWr.trans (hW.mono hWr.size)).cell (p := ⟨b, o + k, none⟩) hbw).trans hc
              have hy1 := ((hWr.trans (hW.mono hWr.size)).cell (p := ⟨b', o' + k, none⟩) hbw').trans hc'
              go_simp
              refine hK _ _ (Below.refl _ _) ?_
              exact rfl
            refine GOps.cons_ (fun f w' K hW hd hK => ?_) ?_
            · try simp only [depsOf, depsL, Region.binds, depsHold, nthS, List.getD_cons_zero, List.getD_cons_succ, isV, ownV, anyV, if_true, and_true, true_and] at hd
              have hx1 := ((hWr.trans (hW.mono hWr.size)).cell (p := ⟨b, o + k, none⟩) hbw).trans hc
              have hy1 := ((hWr.trans (hW.mono hWr.size)).cell (p := ⟨b', o' + k, none⟩) hbw').trans hc'
              go_simp
              refine hK _ _ (Below.refl _ _) ?_
              exact rfl
            refine GOps.cons_ (fun f w' K hW hd hK => ?_) ?_
            · try simp only [depsOf, depsL, Region.binds, depsHold, nthS, List.getD_cons_zero, List.getD_cons_succ, isV, ownV, anyV, if_true, and_true, true_and] at hd
              have hx1 := ((hWr.trans (hW.mono hWr.size)).cell (p := ⟨b, o + k, none⟩) hbw).trans hc
              have hy1 := ((hWr.trans (hW.mono hWr.size)).cell (p := ⟨b', o' + k, none⟩) hbw').trans hc'
              go_simp
              refine hK _ _ (Below.refl _ _) ?_
              exact rfl
            refine GOps.cons_ (fun f w' K hW hd hK => ?_) ?_
            · try simp only [depsOf, depsL, Region.binds, depsHold, nthS, List.getD_cons_zero, List.getD_cons_succ, isV, ownV, anyV, if_true, and_true, true_and] at hd
              have hx1 := ((hWr.trans (hW.mono hWr.size)).cell (p := ⟨b, o + k, none⟩) hbw).trans hc
              have hy1 := ((hWr.trans (hW.mono hWr.size)).cell (p := ⟨b', o' + k, none⟩) hbw').trans hc'
              go_simp
              refine hK _ _ (Below.refl _ _) ?_
              exact rfl
            refine GOps.cons_ (fun f w' K hW hd hK => ?_) ?_
            · try simp only [depsOf, depsL, Region.binds, depsHold, nthS, List.getD_cons_zero, List.getD_cons_succ, isV, ownV, anyV, if_true, and_true, true_and] at hd
              have hx1 := ((hWr.trans (hW.mono hWr.size)).cell (p := ⟨b, o + k, none⟩) hbw).trans hc
              have hy1 := ((hWr.trans (hW.mono hWr.size)).cell (p := ⟨b', o' + k, none⟩) hbw').trans hc'
              go_simp
              refine hK _ _ (Below.refl _ _) ?_
              exact rfl
            refine GOps.cons_ (fun f w' K hW hd hK => ?_) ?_
            · try simp only [depsOf, depsL, Region.binds, depsHold, nthS, List.getD_cons_zero, List.getD_cons_succ, isV, ownV, anyV, if_true, and_true, true_and] at hd
              have hx1 := ((hWr.trans (hW.mono hWr.size)).cell (p := ⟨b, o + k, none⟩) hbw).trans hc
              have hy1 := ((hWr.trans (hW.mono hWr.size)).cell (p := ⟨b', o' + k, none⟩) hbw').trans hc'
              go_simp
              refine hK _ _ (Below.refl _ _) ?_
              exact rfl
            refine GOps.cons_ (fun f w' K hW hd hK => ?_) ?_
            · try simp only [depsOf, depsL, Region.binds, depsHold, nthS, List.getD_cons_zero, List.getD_cons_succ, isV, ownV, anyV, if_true, and_true, true_and] at hd
              have hx1 := ((hWr.trans (hW.mono hWr.size)).cell (p := ⟨b, o + k, none⟩) hbw).trans hc
              have hy1 := ((hWr.trans (hW.mono hWr.size)).cell (p := ⟨b', o' + k, none⟩) hbw').trans hc'
              go_simp
              refine hK _ _ (Below.refl _ _) ?_
              exact rfl
            refine GOps.cons_ (fun f w' K hW hd hK => ?_) ?_
            · try simp only [depsOf, depsL, Region.binds, depsHold, nthS, List.getD_cons_zero, List.getD_cons_succ, isV, ownV, anyV, if_true, and_true, true_and] at hd
              have hx1 := ((hWr.trans (hW.mono hWr.size)).cell (p := ⟨b, o + k, none⟩) hbw).trans hc
              have hy1 := ((hWr.trans (hW.mono hWr.size)).cell (p := ⟨b', o' + k, none⟩) hbw').trans hc'
              go_simp
              refine hK _ _ (Below.refl _ _) ?_
              exact rfl
            refine GOps.cons_ (fun f w' K hW hd hK => ?_) ?_
            · try simp only [depsOf, depsL, Region.binds, depsHold, nthS, List.getD_cons_zero, List.getD_cons_succ, isV, ownV, anyV, if_true, and_true, true_and] at hd
              have hx1 := ((hWr.trans (hW.mono hWr.size)).cell (p := ⟨b, o + k, none⟩) hbw).trans hc
              have hy1 := ((hWr.trans (hW.mono hWr.size)).cell (p := ⟨b', o' + k, none⟩) hbw').trans hc'
              go_simp
              refine hK _ _ (Below.refl _ _) ?_
              exact rfl
            exact GOps.nil_
          case hend8 =>
            intro f w' hW hd
            simp only [List.length_cons, List.length_nil, Nat.reduceAdd, List.range, List.range.loop, depsHold, nthS, List.getD_cons_zero, List.getD_cons_succ, isV, ownV, anyV, true_and, and_true] at hd
            have hl9 : f 8 = .bool true := by simp only [hd]
            rw [hl9]
            go_wp2
            go_ret
            exact ⟨ret_bool HR.out, hWr.trans (hW.mono hWr.size)⟩
      · obtain rfl : k = n := by omega
        have HR : Hid (true = eqB xs ys) := (eqB_all HL.out (by rw [← HN.out]; exact hq.out)).symm
        go_wp2
        go_ret
        exact ⟨ret_bool HR.out, hWr⟩
  · have HR : Hid (false = eqB xs ys) := (eqB_len (by omega)).symm
    have e1 : ((n : Int) != (n' : Int)) = true := by rw [bne_iff_ne]; omega
    clear hn hn'
    go_enter Try.func37, Try.ntmps37
    go_wp2
    go_ret
    exact ⟨ret_bool HR.out, Below.refl _ _⟩
set_option maxHeartbeats 3200000 in
theorem requal_any (A A' : Option Addr) (n c n' c' : Nat) (xs ys : List Int) (w : World) (hx : Rd w w.heap.size A (cb .u8 xs)) (hn : n = xs.length) (hy : Rd w w.heap.size A' (cb .u8 ys)) (hn' : n' = ys.length) (hl : n ≤ 1000000000) (hl' : n' ≤ 1000000000) :
    Calls Try.prog 39 #[.slice A n c, .slice A' n' c'] w fun e w' => e = .returned (.bool (eqB xs ys)) ∧ Below w.heap.size w w' := by
  by_cases hne : n = n'
  · subst hne
    have HL : Hid (xs.length = ys.length) := by unfold Hid; omega
    have HN := Lib.hid hn
    have HN' := Lib.hid hn'
    clear hn hn'
    go_enter Try.func39, Try.ntmps39
    go_wp2
    go_loopw [5] (fun i wr => ∃ k : Nat, k ≤ n ∧ i = .int .i64 k ∧ Below w.heap.size w wr ∧ Hid (∀ j, j < k → xs.getD j 0 = ys.getD j 0)) (fun i _ => n - (intOf i).toNat)
    case atStart => exact ⟨0, by omega, rfl, Below.refl _ _, by unfold Hid; intro j hj; omega⟩
    case round =>
      obtain ⟨k, hk, rfl, hWr, hq⟩ := hrel
      by_cases hlt : k < n
      · have hkx : k < xs.length := by have := HN.out; omega
        have hky : k < ys.length := by have := HN'.out; omega
        obtain ⟨b, o, rfl, hbw, hc⟩ := hx.num hkx
        obtain ⟨b', o', rfl, hbw', hc'⟩ := hy.num hky
        obtain ⟨x, hxe⟩ : ∃ x, xs[k] = x := ⟨_, rfl⟩
        obtain ⟨y, hye⟩ : ∃ y, ys[k] = y := ⟨_, rfl⟩
        rw [hxe] at hc
        rw [hye] at hc'
        have hki : (k : Int) < (n : Int) := by omega
        by_cases he : x = y
        · have e1 : (x != y) = false := by rw [bne_eq_false_iff_eq]; exact he
          have hq2 : Hid (∀ j, j < k + 1 → xs.getD j 0 = ys.getD j 0) := by
            unfold Hid
            intro j hj
            rcases Nat.lt_or_ge j k with h | h
            · exact hq.out j h
            · obtain rfl : j = k := by omega
              rw [getD_at hkx, getD_at hky, hxe, hye, he]
          clear he hxe hye
          go_wp2_with fail
          refine wp_region_grow (A := ?A9) [isV (.slice (some ⟨b, o, none⟩) n c), isV (.int .i64 k), isV (.pointer (some ⟨b, o + k, none⟩)), isV (.int .u8 x), isV (.slice (some ⟨b', o', none⟩) n c'), isV (.int .i64 k), isV (.pointer (some ⟨b', o' + k, none⟩)), isV (.int .u8 y), isV (.bool false)] (wr) (by kernel_rfl) (by kernel_rfl) (fun f => ?hA9) (Below.refl _ _) ?hst9 ?hops9 ?hend9
          case hA9 =>
            simp only [fillFrom, Nat.zero_add, Nat.reduceAdd]
            go_frame
            with_reducible rfl
          case hst9 => repeat (first | exact trivial | refine ⟨stab_is _ _, ?_⟩ | refine ⟨stab_own _ _ _ _, ?_⟩ | refine ⟨stab_any _, ?_⟩ | refine ⟨stab_rd _ _ _, ?_⟩)
          case hops9 =>
            refine GOps.cons_ (fun f w' K hW hd hK => ?_) ?_
            · try simp only [depsOf, depsL, Region.binds, depsHold, nthS, List.getD_cons_zero, List.getD_cons_succ, isV, ownV, anyV, if_true, and_true, true_and] at hd
              have hx1 := ((hWr.trans (hW.mono hWr.size)).cell (p := ⟨b, o + k, none⟩) hbw).trans hc
              have hy1 := ((hWr.trans (hW.mono hWr.size)).cell (p := ⟨b', o' + k, none⟩) hbw').trans hc'
              go_simp
              refine hK _ _ (Below.refl _ _) ?_
              exact rfl
            refine GOps.cons_ (fun f w' K hW hd hK => ?_) ?_
            · try simp only [depsOf, depsL, Region.binds, depsHold, nthS, List.getD_cons_zero, List.getD_cons_succ, isV, ownV, anyV, if_true, and_true, true_and] at hd
              have hx1 := ((hWr.trans (hW.mono hWr.size)).cell (p := ⟨b, o + k, none⟩) hbw).trans hc
              have hy1 := ((hWr.trans (hW.mono hWr.size)).cell (p := ⟨b', o' + k, none⟩) hbw').trans hc'
              go_simp
              refine hK _ _ (Below.refl _ _) ?_
              exact rfl
            refine GOps.cons_ (fun f w' K hW hd hK => ?_) ?_
            · try simp only [depsOf, depsL, Region.binds, depsHold, nthS, List.getD_cons_zero, List.getD_cons_succ, isV, ownV, anyV, if_true, and_true, true_and] at hd
              have hx1 := ((hWr.trans (hW.mono hWr.size)).cell (p := ⟨b, o + k, none⟩) hbw).trans hc
              have hy1 := ((hWr.trans (hW.mono hWr.size)).cell (p := ⟨b', o' + k, none⟩) hbw').trans hc'
              go_simp
              refine hK _ _ (Below.refl _ _) ?_
              exact rfl
            refine GOps.cons_ (fun f w' K hW hd hK => ?_) ?_
            · try simp only [depsOf, depsL, Region.binds, depsHold, nthS, List.getD_cons_zero, List.getD_cons_succ, isV, ownV, anyV, if_true, and_true, true_and] at hd
              have hx1 := ((hWr.trans (hW.mono hWr.size)).cell (p := ⟨b, o + k, none⟩) hbw).trans hc
              have hy1 := ((hWr.trans (hW.mono hWr.size)).cell (p := ⟨b', o' + k, none⟩) hbw').trans hc'
              go_simp
              refine hK _ _ (Below.refl _ _) ?_
              exact rfl
            refine GOps.cons_ (fun f w' K hW hd hK => ?_) ?_
            · try simp only [depsOf, depsL, Region.binds, depsHold, nthS, List.getD_cons_zero, List.getD_cons_succ, isV, ownV, anyV, if_true, and_true, true_and] at hd
              have hx1 := ((hWr.trans (hW.mono hWr.size)).cell (p := ⟨b, o + k, none⟩) hbw).trans hc
              have hy1 := ((hWr.trans (hW.mono hWr.size)).cell (p := ⟨b', o' + k, none⟩) hbw').trans hc'
              go_simp
              refine hK _ _ (Below.refl _ _) ?_
              exact rfl
            refine GOps.cons_ (fun f w' K hW hd hK => ?_) ?_
            · try simp only [depsOf, depsL, Region.binds, depsHold, nthS, List.getD_cons_zero, List.getD_cons_succ, isV, ownV, anyV, if_true, and_true, true_and] at hd
              have hx1 := ((hWr.trans (hW.mono hWr.size)).cell (p := ⟨b, o + k, none⟩) hbw).trans hc
              have hy1 := ((hWr.trans (hW.mono hWr.size)).cell (p := ⟨b', o' + k, none⟩) hbw').trans hc'
              go_simp
              refine hK _ _ (Below.refl _ _) ?_
              exact rfl
            refine GOps.cons_ (fun f w' K hW hd hK => ?_) ?_
            · try simp only [depsOf, depsL, Region.binds, depsHold, nthS, List.getD_cons_zero, List.getD_cons_succ, isV, ownV, anyV, if_true, and_true, true_and] at hd
              have hx1 := ((hWr.trans (hW.mono hWr.size)).cell (p := ⟨b, o + k, none⟩) hbw).trans hc
              have hy1 := ((hWr.trans (hW.mono hWr.size)).cell (p := ⟨b', o' + k, none⟩) hbw').trans hc'
              go_simp
              refine hK _ _ (Below.refl _ _) ?_
              exact rfl
            refine GOps.cons_ (fun f w' K hW hd hK => ?_) ?_
            · try simp only [depsOf, depsL, Region.binds, depsHold, nthS, List.getD_cons_zero, List.getD_cons_succ, isV, ownV, anyV, if_true, and_true, true_and] at hd
              have hx1 := ((hWr.trans (hW.mono hWr.size)).cell (p := ⟨b, o + k, none⟩) hbw).trans hc
              have hy1 := ((hWr.trans (hW.mono hWr.size)).cell (p := ⟨b', o' + k, none⟩) hbw').trans hc'
              go_simp
              refine hK _ _ (Below.refl _ _) ?_
              exact rfl
            refine GOps.cons_ (fun f w' K hW hd hK => ?_) ?_
            · try simp only [depsOf, depsL, Region.binds, depsHold, nthS, List.getD_cons_zero, List.getD_cons_succ, isV, ownV, anyV, if_true, and_true, true_and] at hd
              have hx1 := ((hWr.trans (hW.mono hWr.size)).cell (p := ⟨b, o + k, none⟩) hbw).trans hc
              have hy1 := ((hWr.trans (hW.mono hWr.size)).cell (p := ⟨b', o' + k, none⟩) hbw').trans hc'
              go_simp
              refine hK _ _ (Below.refl _ _) ?_
              exact rfl
            exact GOps.nil_
          case hend9 =>
            intro f w' hW hd
            simp only [List.length_cons, List.length_nil, Nat.reduceAdd, List.range, List.range.loop, depsHold, nthS, List.getD_cons_zero, List.getD_cons_succ, isV, ownV, anyV, true_and, and_true] at hd
            have hl9 : f 8 = .bool false := by simp only [hd]
            rw [hl9]
            go_wp2
            go_roundw
            case rel => exact ⟨k + 1, by omega, by go_num, hWr.trans (hW.mono hWr.size), hq2⟩
            case measure => simp [intOf]; omega
        · have e1 : (x != y) = true := by rw [bne_iff_ne]; exact he
          have HR : Hid (false = eqB xs ys) := (eqB_at hkx hky (by rw [hxe, hye]; exact he)).symm
          clear he hxe hye
          go_wp2_with fail
          refine wp_region_grow (A := ?A10) [isV (.slice (some ⟨b, o, none⟩) n c), isV (.int .i64 k), isV (.pointer (some ⟨b, o + k, none⟩)), isV (.int .u8 x), isV (.slice (some ⟨b', o', none⟩) n c'), isV (.int .i64 k), isV (.pointer (some ⟨b', o' + k, none⟩)), isV (.int .u8 y), isV (.bool true)] (wr) (by kernel_rfl) (by kernel_rfl) (fun f => ?hA10) (Below.refl _ _) ?hst10 ?hops10 ?hend10
          case hA10 =>
            simp only [fillFrom, Nat.zero_add, Nat.reduceAdd]
            go_frame
            with_reducible rfl
          case hst10 => repeat (first | exact trivial | refine ⟨stab_is _ _, ?_⟩ | refine ⟨stab_own _ _ _ _, ?_⟩ | refine ⟨stab_any _, ?_⟩ | refine ⟨stab_rd _ _ _, ?_⟩)
          case hops10 =>
            refine GOps.cons_ (fun f w' K hW hd hK => ?_) ?_
            · try simp only [depsOf, depsL, Region.binds, depsHold, nthS, List.getD_cons_zero, List.getD_cons_succ, isV, ownV, anyV, if_true, and_true, true_and] at hd
              have hx1 := ((hWr.trans (hW.mono hWr.size)).cell (p := ⟨b, o + k, none⟩) hbw).trans hc
              have hy1 := ((hWr.trans (hW.mono hWr.size)).cell (p := ⟨b', o' + k, none⟩) hbw').trans hc'
              go_simp
              refine hK _ _ (Below.refl _ _) ?_
              exact rfl
            refine GOps.cons_ (fun f w' K hW hd hK => ?_) ?_
            · try simp only [depsOf, depsL, Region.binds, depsHold, nthS, List.getD_cons_zero, List.getD_cons_succ, isV, ownV, anyV, if_true, and_true, true_and] at hd
              have hx1 := ((hWr.trans (hW.mono hWr.size)).cell (p := ⟨b, o + k, none⟩) hbw).trans hc
              have hy1 := ((hWr.trans (hW.mono hWr.size)).cell (p := ⟨b', o' + k, none⟩) hbw').trans hc'
              go_simp
              refine hK _ _ (Below.refl _ _) ?_
              exact rfl
            refine GOps.cons_ (fun f w' K hW hd hK => ?_) ?_
            · try simp only [depsOf, depsL, Region.binds, depsHold, nthS, List.getD_cons_zero, List.getD_cons_succ, isV, ownV, anyV, if_true, and_true, true_and] at hd
              have hx1 := ((hWr.trans (hW.mono hWr.size)).cell (p := ⟨b, o + k, none⟩) hbw).trans hc
              have hy1 := ((hWr.trans (hW.mono hWr.size)).cell (p := ⟨b', o' + k, none⟩) hbw').trans hc'
              go_simp
              refine hK _ _ (Below.refl _ _) ?_
              exact rfl
            refine GOps.cons_ (fun f w' K hW hd hK => ?_) ?_
            · try simp only [depsOf, depsL, Region.binds, depsHold, nthS, List.getD_cons_zero, List.getD_cons_succ, isV, ownV, anyV, if_true, and_true, true_and] at hd
              have hx1 := ((hWr.trans (hW.mono hWr.size)).cell (p := ⟨b, o + k, none⟩) hbw).trans hc
              have hy1 := ((hWr.trans (hW.mono hWr.size)).cell (p := ⟨b', o' + k, none⟩) hbw').trans hc'
              go_simp
              refine hK _ _ (Below.refl _ _) ?_
              exact rfl
            refine GOps.cons_ (fun f w' K hW hd hK => ?_) ?_
            · try simp only [depsOf, depsL, Region.binds, depsHold, nthS, List.getD_cons_zero, List.getD_cons_succ, isV, ownV, anyV, if_true, and_true, true_and] at hd
              have hx1 := ((hWr.trans (hW.mono hWr.size)).cell (p := ⟨b, o + k, none⟩) hbw).trans hc
              have hy1 := ((hWr.trans (hW.mono hWr.size)).cell (p := ⟨b', o' + k, none⟩) hbw').trans hc'
              go_simp
              refine hK _ _ (Below.refl _ _) ?_
              exact rfl
            refine GOps.cons_ (fun f w' K hW hd hK => ?_) ?_
            · try simp only [depsOf, depsL, Region.binds, depsHold, nthS, List.getD_cons_zero, List.getD_cons_succ, isV, ownV, anyV, if_true, and_true, true_and] at hd
              have hx1 := ((hWr.trans (hW.mono hWr.size)).cell (p := ⟨b, o + k, none⟩) hbw).trans hc
              have hy1 := ((hWr.trans (hW.mono hWr.size)).cell (p := ⟨b', o' + k, none⟩) hbw').trans hc'
              go_simp
              refine hK _ _ (Below.refl _ _) ?_
              exact rfl
            refine GOps.cons_ (fun f w' K hW hd hK => ?_) ?_
            · try simp only [depsOf, depsL, Region.binds, depsHold, nthS, List.getD_cons_zero, List.getD_cons_succ, isV, ownV, anyV, if_true, and_true, true_and] at hd
              have hx1 := ((hWr.trans (hW.mono hWr.size)).cell (p := ⟨b, o + k, none⟩) hbw).trans hc
              have hy1 := ((hWr.trans (hW.mono hWr.size)).cell (p := ⟨b', o' + k, none⟩) hbw').trans hc'
              go_simp
              refine hK _ _ (Below.refl _ _) ?_
              exact rfl
            refine GOps.cons_ (fun f w' K hW hd hK => ?_) ?_
            · try simp only [depsOf, depsL, Region.binds, depsHold, nthS, List.getD_cons_zero, List.getD_cons_succ, isV, ownV, anyV, if_true, and_true, true_and] at hd
              have hx1 := ((hWr.trans (hW.mono hWr.size)).cell (p := ⟨b, o + k, none⟩) hbw).trans hc
              have hy1 := ((hWr.trans (hW.mono hWr.size)).cell (p := ⟨b', o' + k, none⟩) hbw').trans hc'
              go_simp
              refine hK _ _ (Below.refl _ _) ?_
              exact rfl
            refine GOps.cons_ (fun f w' K hW hd hK => ?_) ?_
            · try simp only [depsOf, depsL, Region.binds, depsHold, nthS, List.getD_cons_zero, List.getD_cons_succ, isV, ownV, anyV, if_true, and_true, true_and] at hd
              have hx1 := ((hWr.trans (hW.mono hWr.size)).cell (p := ⟨b, o + k, none⟩) hbw).trans hc
              have hy1 := ((hWr.trans (hW.mono hWr.size)).cell (p := ⟨b', o' + k, none⟩) hbw').trans hc'
              go_simp
              refine hK _ _ (Below.refl _ _) ?_
              exact rfl
            exact GOps.nil_
          case hend10 =>
            intro f w' hW hd
            simp only [List.length_cons, List.length_nil, Nat.reduceAdd, List.range, List.range.loop, depsHold, nthS, List.getD_cons_zero, List.getD_cons_succ, isV, ownV, anyV, true_and, and_true] at hd
            have hl9 : f 8 = .bool true := by simp only [hd]
            rw [hl9]
            go_wp2
            go_ret
            exact ⟨ret_bool HR.out, hWr.trans (hW.mono hWr.size)⟩
      · obtain rfl : k = n := by omega
        have HR : Hid (true = eqB xs ys) := (eqB_all HL.out (by rw [← HN.out]; exact hq.out)).symm
        go_wp2
        go_ret
        exact ⟨ret_bool HR.out, hWr⟩
  · have HR : Hid (false = eqB xs ys) := (eqB_len (by omega)).symm
    have e1 : ((n : Int) != (n' : Int)) = true := by rw [bne_iff_ne]; omega
    clear hn hn'
    go_enter Try.func39, Try.ntmps39
    go_wp2
    go_ret
    exact ⟨ret_bool HR.out, Below.refl _ _⟩
end Go.Proofs.Ytjjgdjcapfenpaa
