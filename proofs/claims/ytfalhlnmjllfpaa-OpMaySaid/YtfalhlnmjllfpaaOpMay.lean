/- The law OpMay: for every input it returns true, and what came in reads as it did. No condition. -/
import Derived.Test.YtfalhlnmjllfpaaRows
import Derived.Test.YtfalhlnmjllfpaaOpW
import Derived.ProofKit
import Derived.OpenShut
import Derived.ShutString
import Derived.ChangeOld
import Derived.Lib.SmallJoins
import Derived.Test.YtfalhlnmjllfpaaAggN
namespace Go.Proofs.Ytfalhlnmjllfpaa.opMay
open Go.ChangeShapes Go.WideShapes Go.ChangeAt Go.RowKit Go.Joins
open Go.ChangeMaps (open_string shut_string)
set_option linter.unusedVariables false

theorem own : ownKnob Try.prog.godebug = none := by kernel_rfl
theorem laidOut : laidOutB Try.prog = true := by kernel_rfl

set_option maxRecDepth 100000 in
theorem lifted (os : Os) (started : os.Started) (H : Type) (enc : TypeId × Value → H) :
    ReturnsInHanded {} Try.checked os 6 .any (Rows.opMaySpec.pre6 enc Try.prog Try.f6 Rows.opMayRow.domain false) (Rows.opMaySpec.post enc Try.prog Try.f6 false true false false) := by
  refine returnsInHanded_of_change (C := Try.checked) own started (by kernel_rfl) Try.func6
    (ChangeSpec.witness6 (enc := enc) (C := Try.checked) false ⟨#[], #[.agg #[.int .u8 0, .int .u8 0, .int .u8 0, .int .u8 0, .int .i64 0, .slice none 0 0, .slice none 0 0], .agg #[.int .i64 0, .int .i64 0]], []⟩ 8 (by kernel_rfl) (by kernel_rfl) (by kernel_rfl) (by kernel_rfl)) ?_
  intro W base args ds gs before hval0 hW hcnd _
  have hval : ∀ (j : Nat) t v, Try.f6.params[j]? = some t → args[j]? = some v → Value.okWide Try.prog W .any base t v := hval0
  have hW' := hW
  obtain ⟨p, q, hA0, hV, rfl, hfz, hnd⟩ := hW
  have hA : DataW.TrodAll enc Try.prog W 0 (fun _ => true) true Try.f6.params.toList args.toList ds p := hA0
  rw [Try.params6] at hA hval
  obtain ⟨v0, vs0, d0, ds0, p0, q0, hargs, rfl, rfl, h0, r0⟩ := trodAll_cons hA
  obtain ⟨v1, vs1, d1, ds1, p1, q1, rfl, rfl, rfl, h1, r1⟩ := trodAll_cons r0
  obtain ⟨rfl, rfl, rfl⟩ := trodAll_nil r1
  obtain rfl : args = #[v0, v1] := by cases args; simp_all
  obtain ⟨rfl, rfl⟩ := trodVars_none hV
  have k0 := h0
  have lt0 : ∀ x ∈ p0, x.block < W.heap.size := by obtain ⟨m, hm⟩ := k0; exact DataW.trod_lt m _ _ _ hm
  obtain ⟨cs0, m0, rfl, g0_0⟩ := open_aggN Try.underlying39 (by kernel_rfl) (by kernel_rfl) (hval 0 39 v0 rfl rfl) h0
  obtain ⟨c0_0, cs0_0, rfl, ⟨y0_0, hy0_0⟩, g0_1⟩ := aggR_cons g0_0
  obtain ⟨c0_1, cs0_1, rfl, ⟨y0_1, hy0_1⟩, g0_2⟩ := aggR_cons g0_1
  obtain ⟨c0_2, cs0_2, rfl, ⟨y0_2, hy0_2⟩, g0_3⟩ := aggR_cons g0_2
  obtain ⟨c0_3, cs0_3, rfl, ⟨y0_3, hy0_3⟩, g0_4⟩ := aggR_cons g0_3
  obtain ⟨c0_4, cs0_4, rfl, ⟨y0_4, hy0_4⟩, g0_5⟩ := aggR_cons g0_4
  obtain ⟨c0_5, cs0_5, rfl, ⟨y0_5, hy0_5⟩, g0_6⟩ := aggR_cons g0_5
  obtain ⟨c0_6, cs0_6, rfl, ⟨y0_6, hy0_6⟩, g0_7⟩ := aggR_cons g0_6
  obtain rfl := aggR_nil g0_7
  obtain ⟨a0_0, hcs0_0, _, w0_0⟩ := DataW.trod_int Try.underlying5 hy0_0
  obtain rfl : c0_0 = .int .u8 a0_0 := by simpa using hcs0_0
  obtain ⟨a0_1, hcs0_1, _, w0_1⟩ := DataW.trod_int Try.underlying5 hy0_1
  obtain rfl : c0_1 = .int .u8 a0_1 := by simpa using hcs0_1
  obtain ⟨a0_2, hcs0_2, _, w0_2⟩ := DataW.trod_int Try.underlying5 hy0_2
  obtain rfl : c0_2 = .int .u8 a0_2 := by simpa using hcs0_2
  obtain ⟨a0_3, hcs0_3, _, w0_3⟩ := DataW.trod_int Try.underlying5 hy0_3
  obtain rfl : c0_3 = .int .u8 a0_3 := by simpa using hcs0_3
  obtain ⟨a0_4, hcs0_4, _, w0_4⟩ := DataW.trod_int Try.underlying3 hy0_4
  obtain rfl : c0_4 = .int .i64 a0_4 := by simpa using hcs0_4
  obtain ⟨a0_5, len0_5, cap0_5, z0_5, hv0_5, hl0_5, hr0_5, hw0_5, hc0_5, hm0_5⟩ : ∃ (a : Option Addr) (len cap : Nat) (zs : List Int), c0_5 = .slice a len cap ∧ len = zs.length ∧ Rd W W.heap.size a (cb .i64 zs) ∧ (∀ z ∈ zs, (Lit.int .i64 z).wf = true) ∧ len ≤ cap ∧ cap ≤ maxLen := by
    rcases open_ints Try.underlying37 Try.underlying3 (by kernel_rfl) hy0_5 with ⟨hcs, _⟩ | ⟨x, l, c, zs, hcs, _, hl, hm, hz, _, hcell, hwz⟩
    · exact ⟨none, 0, 0, [], by simpa using hcs, rfl, Rd.nil _ _ _, (fun z hz => by cases hz), Nat.le_refl _, Nat.zero_le _⟩
    · obtain ⟨ys, h1, h2, h3, h4, h5⟩ := rd_of_row hl hm (by simpa using hz) hcell hwz
      exact ⟨some x, l, c, ys, by simpa using hcs, h1, h2, h3, h4, h5⟩
  subst hv0_5
  obtain ⟨a0_6, len0_6, cap0_6, z0_6, hv0_6, hl0_6, hr0_6, hw0_6, hc0_6, hm0_6⟩ : ∃ (a : Option Addr) (len cap : Nat) (zs : List Int), c0_6 = .slice a len cap ∧ len = zs.length ∧ Rd W W.heap.size a (cb .i64 zs) ∧ (∀ z ∈ zs, (Lit.int .i64 z).wf = true) ∧ len ≤ cap ∧ cap ≤ maxLen := by
    rcases open_ints Try.underlying37 Try.underlying3 (by kernel_rfl) hy0_6 with ⟨hcs, _⟩ | ⟨x, l, c, zs, hcs, _, hl, hm, hz, _, hcell, hwz⟩
    · exact ⟨none, 0, 0, [], by simpa using hcs, rfl, Rd.nil _ _ _, (fun z hz => by cases hz), Nat.le_refl _, Nat.zero_le _⟩
    · obtain ⟨ys, h1, h2, h3, h4, h5⟩ := rd_of_row hl hm (by simpa using hz) hcell hwz
      exact ⟨some x, l, c, ys, by simpa using hcs, h1, h2, h3, h4, h5⟩
  subst hv0_6
  have k1 := h1
  have lt1 : ∀ x ∈ p1, x.block < W.heap.size := by obtain ⟨m, hm⟩ := k1; exact DataW.trod_lt m _ _ _ hm
  obtain ⟨c1_0, c1_1, y1_0, y1_1, m1, rfl, _, _, hy1_0, hy1_1⟩ := open_agg2 Try.underlying28 (by kernel_rfl) (by kernel_rfl) (hval 1 28 v1 rfl rfl) h1
  obtain ⟨a1_0, hcs1_0, _, w1_0⟩ := DataW.trod_int Try.underlying3 hy1_0
  obtain rfl : c1_0 = .int .i64 a1_0 := by simpa using hcs1_0
  obtain ⟨a1_1, hcs1_1, _, w1_1⟩ := DataW.trod_int Try.underlying3 hy1_1
  obtain rfl : c1_1 = .int .i64 a1_1 := by simpa using hcs1_1
  clear hA0 hval0
  refine (opMay_walk a0_0 a0_1 a0_2 a0_3 a0_4 a0_5 len0_5 cap0_5 z0_5 a0_6 len0_6 cap0_6 z0_6 a1_0 a1_1 W w0_0 w0_1 w0_2 w0_3 w0_4 hl0_5 hr0_5 hw0_5 hc0_5 hm0_5 hl0_6 hr0_6 hw0_6 hc0_6 hm0_6 w1_0 w1_1).mono fun e W' ⟨he, bel⟩ => ?_
  subst he
  exact ⟨_, rfl, _, _, _, [], _, [], hW', trodAll_mk1 (shut_bool Try.underlying4 _), (trodAll_cons_mk (Below.trod laidOut (by kernel_rfl) (of_decide_eq_true (by kernel_rfl)) k0 bel lt0) (trodAll_cons_mk (Below.trod laidOut (by kernel_rfl) (of_decide_eq_true (by kernel_rfl)) k1 bel lt1) trodAll_mk0)), rfl, bel.frame _, fun h => by cases h⟩

theorem over : Rows.opMayRow.holds Try.pinned (OpenSpec.ofChange Rows.opMaySpec) :=
  OpenClaim.holds_of_wide 6 Try.f6 rfl rfl rfl rfl rfl rfl rfl ⟨rfl, rfl, rfl, rfl, rfl⟩ rfl rfl rfl rfl rfl (by kernel_rfl) Try.func6 (by kernel_rfl)
    (of_decide_eq_true (by kernel_rfl)) (by unfold Func.isWrapper; first | (rw [if_pos (by decide +kernel)]; kernel_rfl) | (rw [if_neg (by decide +kernel)]; exact ⟨rfl, rfl⟩))
    (fun os started H enc _ => lifted os started H enc)

/-- The statement. -/
theorem proved : Rows.OpMaySaid := over
end Go.Proofs.Ytfalhlnmjllfpaa.opMay
