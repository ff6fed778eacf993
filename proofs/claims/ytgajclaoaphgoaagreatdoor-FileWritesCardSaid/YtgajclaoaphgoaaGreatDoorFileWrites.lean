/- The law FileWrites: for every input it returns true, and what came in reads as it did. -/
import Derived.Test.YtgajclaoaphgoaaGreatDoorRows
import Derived.Test.YtgajclaoaphgoaaGreatDoorMp
import Derived.Test.YtgajclaoaphgoaaGreatDoorHa
import Derived.Test.YtgajclaoaphgoaaGreatDoorHo
import Derived.ProofKit
import Derived.Test.YtgajclaoaphgoaaGreatDoorTie
import Derived.Test.YtgajclaoaphgoaaGreatDoorCards
import Derived.SevenTiedAt
import Derived.LaidMore
import Derived.Lay
import Derived.SizedLaws
import Derived.OpenShut
import Derived.ShutString
import Derived.ChangeOld
import Derived.Lib.SmallJoins
namespace Go.Proofs.YtgajclaoaphgoaaGreatDoor.fileWrites
open Go.ChangeShapes Go.WideShapes Go.ChangeAt Go.RowKit Go.Joins
open Go.ChangeMaps (open_string shut_string)
set_option linter.unusedVariables false
theorem own : ownKnob Tryz.prog.godebug = none := by kernel_rfl
theorem laidOut : laidOutB Tryz.prog = true := by kernel_rfl
set_option maxRecDepth 100000 in
theorem lifted (os : Os) (started : os.Started) (H : Type) (enc : TypeId × Value → H) :
    ReturnsInHanded {} Tryz.checked os 3 .any (fun w args => (Rows.fileWritesSpec.pre enc Tryz.prog Tryz.f3 [] false w args ∧ laidMetH Tryz.prog mP w) ∧ sizedMet enc Tryz.prog Tryz.f3 (OpenSpec.ofChange Rows.fileWritesSpec) false w args) (Rows.fileWritesSpec.post enc Tryz.prog Tryz.f3 false true false false) := by
  refine aHU (C := Tryz.checked) (X := fun w _ => laidMetH Tryz.prog mP w) (fun _ _ _ hh h => h.of_heap hh) own started (by kernel_rfl) Tryz.func3
    (ChangeSpec.witness_shaped (enc := enc) (C := Tryz.checked) (os := os) (X := fun w _ => laidMetH Tryz.prog mP w) false (World.laidAll Tryz.prog os mP) #[.agg #[.int .i64 0, .int .i64 0, .int .i64 0, .int .i64 0, .slice none 0 0, .int .i64 0, .slice none 0 0, .slice none 0 0, .slice none 0 0, .slice none 0 0, .slice none 0 0, .slice none 0 0, .slice none 0 0, .slice none 0 0, .slice none 0 0, .slice none 0 0, .slice none 0 0]] 8 (World.laidAll_os _ _ _) (aHV os _) (by kernel_rfl) (by kernel_rfl) (by kernel_rfl) (aHW os _)) ?_
  intro W base args ds gs before hsh hval0 hW hz;have hval : ∀ (j : Nat) t v, Tryz.f3.params[j]? = some t → args[j]? = some v → Value.okWide Tryz.prog W .any base t v := hval0;have hW' := hW;obtain ⟨p, q, hA0, hV, rfl, hfz, hnd⟩ := hW;have hA : DataW.TrodAll enc Tryz.prog W 0 (fun _ => true) true Tryz.f3.params.toList args.toList ds p := hA0;rw [Tryz.params3] at hA hval hz;obtain ⟨v0, vs0, d0, ds0, p0, q0, hargs, rfl, rfl, h0, r0⟩ := trodAll_cons hA;obtain ⟨rfl, rfl, rfl⟩ := trodAll_nil r0
  obtain rfl : args = #[v0] := by cases args; simp_all
  obtain ⟨rfl, rfl⟩ := trodVars_none hV;have k0 := h0;have lt0 : ∀ x ∈ p0, x.block < W.heap.size := by obtain ⟨m, hm⟩ := k0; exact DataW.trod_lt m _ _ _ hm
  have z0 : ∀ n ∈ DataW.weights Tryz.prog 31 d0, n ≤ reachBytes := fun n hn => by simpa using List.all_eq_true.1 hz n (DataW.weights_mem_each (j := 0) rfl rfl n hn)
  obtain ⟨x0, w0, e0⟩ := aHX Tryz.underlying31 aHY (hval 0 31 v0 rfl rfl) h0 z0;clear hA0 hval0;refine (PC.law (vs := [v0]) (arH x0 w0) (by unfold aG; exact ⟨_, _, rfl, e0, (by unfold aG; rfl)⟩) (aHZ hsh)).mono fun e W' ⟨he, bel⟩ => ?_;subst he;exact ⟨_, rfl, _, _, _, [], _, [], hW', trodAll_mk1 (shut_bool Tryz.underlying4 _), (trodAll_cons_mk (Below.trod laidOut (by kernel_rfl) (of_decide_eq_true (by kernel_rfl)) k0 bel lt0) trodAll_mk0), rfl, bel.frame _, fun h => by cases h⟩

theorem rec_of {P : Program} {f g h : FuncId} (h1 : (P.closure f).contains g = true) (h2 : (((P.funcs[g]?).elim [] P.leadsTo).contains h) = true) (h3 : (P.closure h).contains g = true) : P.recurses f = true := by
  unfold Program.recurses;rw [Bool.or_eq_true];exact .inr (List.any_eq_true.2 ⟨g, by simpa using h1, List.any_eq_true.2 ⟨h, by simpa using h2, h3⟩⟩)
theorem rcs : Tryz.pinned.checked.prog.recurses 3 = true := rec_of (g := 84) (h := 84) (by kernel_rfl) (by kernel_rfl) (by kernel_rfl)
theorem j2 : (Rows.fileWritesRow.inPlace == Tryz.pinned.checked.prog.inPlace 3) = true := by kernel_rfl
theorem j3 : (Rows.fileWritesRow.unfollowed == Tryz.pinned.checked.prog.unfollowed 3) = true := by kernel_rfl
theorem j5 : (Rows.fileWritesRow.named == Tryz.pinned.checked.prog.varsNamed 3) = true := by kernel_rfl
theorem closed : joinedFacts Tryz.pinned.checked.prog 3 Tryz.f3 Rows.fileWritesSpec Rows.fileWritesRow = true := by
  unfold joinedFacts;simp only [j2, j3, j5, rcs, Bool.and_true]
  kernel_rfl
theorem over : Rows.fileWritesRow.holds Tryz.pinned (OpenSpec.ofChange Rows.fileWritesSpec) :=
  OpenClaim.holds_of_wide 3 Tryz.f3 rfl rfl rfl rfl rfl rfl rfl ⟨rfl, rfl, rfl, rfl, rfl⟩ rfl rfl rfl rfl rfl (by kernel_rfl) Tryz.func3 closed
    (of_decide_eq_true (by kernel_rfl)) (by unfold Func.isWrapper; first | (rw [if_pos (by decide +kernel)]; kernel_rfl) | (rw [if_neg (by decide +kernel)]; exact ⟨rfl, rfl⟩))
    (fun os started H enc _ => lifted os started H enc)


theorem proved : Rows.FileWritesCardSaid :=
  Claim7.holds_tied_plain_at .later [] [.data, .pinned] true (true, "0cec2078f74286a53174dca7a64f6f00d90bdc877fe611ef388d789726c3cf34") false
    over (fun _ h => by cases h) (by kernel_rfl) (fun _ h => by cases h) fileWrites_row_tie rfl ⟨rfl, rfl⟩ (by kernel_rfl) rfl
    (fun f fn hf hfn => by
      obtain rfl : f = 3 := Option.some.inj ((show Tryz.prog.funcNamed "clew/clewlaw42.FileWrites" = some 3 by kernel_rfl).symm.trans hf) |>.symm
      obtain rfl : fn = Tryz.f3 := (Option.some.inj (Tryz.func3.symm.trans hfn)).symm;exact ⟨by kernel_rfl, fun j t ht => by
        rw [Tryz.params3] at ht;have hm : t ∈ [31] := by simpa using Array.mem_of_getElem? ht
        have hall : ([31].all fun u => !Tryz.prog.wantsStandIn u) = true := by kernel_rfl
        exact (show Tryz.prog.wantsStandIn t = false by simpa using List.all_eq_true.1 hall t hm)⟩)
    (by kernel_rfl)
end Go.Proofs.YtgajclaoaphgoaaGreatDoor.fileWrites
