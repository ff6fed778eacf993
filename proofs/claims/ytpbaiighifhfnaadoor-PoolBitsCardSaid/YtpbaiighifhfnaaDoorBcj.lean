/- Chapter 7: what all six laws share: the listed tables, a start that has them, the package-level number of the library, and the builder that hands the start's shape on. -/
import Derived.Test.YtpbaiighifhfnaaDoorRows
import Derived.Test.YtpbaiighifhfnaaDoorBcg
import Derived.Test.YtpbaiighifhfnaaDoorOk
import Derived.LaidMore
import Derived.PinnedBridge
import Derived.Lay
import Derived.Handed
namespace Go.Proofs.YtpbaiighifhfnaaDoor
set_option linter.unusedSimpArgs false
open Go.RowKit
set_option linter.unusedVariables false
def laidL : List (String × DataW Unit) := [("unicode/utf8.acceptRanges", Rows.laid_unicode_utf8_acceptRanges), ("unicode/utf8.first", Rows.laid_unicode_utf8_first)]
theorem shp_of {w : World} (h : w.ShapedOpen Tryd.prog) : Shp (E0 w) := fun g hg => by
  have e : g = 0 := by simpa [gsOf] using hg
  subst e
  obtain ⟨m, hm⟩ := Tryd.laysM219.s1_3 w h
  exact ⟨E0.ok (cell_spot hm).2, m, hm⟩
theorem start_shaped (os : Os) (args : Array Value) : ((World.laidAll Tryd.prog os laidL).forCall (fun _ _ => 0) ⟨#[], args, []⟩).Shaped Tryd.prog := World.shaped_of_ZipB (by kernel_rfl) (by kernel_rfl)
theorem start_laid (os : Os) (args : Array Value) : laidMetH Tryd.prog laidL ((World.laidAll Tryd.prog os laidL).forCall (fun _ _ => 0) ⟨#[], args, []⟩).memory := by
  rw [MakeChecks.laidMetH_plain _ _ _ (by kernel_rfl)]
  exact laidMet_laidAll _ (by kernel_rfl) (by kernel_rfl)
/-- The builder with a further condition on memory, and with the start's shape handed on. -/
theorem handed_shaped {a : Assume} {C : Checked} {os : Os} {f : FuncId} {fn : Func} {H : Type} {enc : TypeId × Value → H} {s : ChangeSpec} {conds : List PathCond} {apart fresh handsOn again : Bool} {X : World → Array Value → Prop}
    (hX : ∀ (w w' : World) (args : Array Value), w.heap = w'.heap → X w args → X w' args)
    (own : ownKnob C.prog.godebug = none) (started : os.Started) (noInit : C.prog.inits.idxOf? f = none) (hfn : C.prog.funcs[f]? = some fn)
    (witness : ∃ (w : World) (tape : Tape) (i : Input), w.os = os ∧ (w.forCall tape i).Shaped C.prog ∧ i.vars = [] ∧ Input.okWide C.prog (w.forCall tape i) .any w.heap.size f i ∧
      ((s.pre enc C.prog fn conds apart (w.forCall tape i).memory i.args ∧ X (w.forCall tape i).memory i.args) ∧ sizedMet enc C.prog fn (OpenSpec.ofChange s) apart (w.forCall tape i).memory i.args) ∧ a.holds C.prog (lone (Frame.enter C.prog f i.args .normal) [] (w.forCall tape i)))
    (contract : ∀ (W : World) (base : Nat) (args : Array Value) (ds gs : List (DataW H)) (before : List MemPlace), W.ShapedOpen C.prog →
      (∀ (j : Nat) t v, fn.params[j]? = some t → args[j]? = some v → Value.okWide C.prog W .any base t v) →
      DataW.Whole enc C.prog fn.params.toList s.vars apart W args.toList ds gs before →
      (DataW.weightsEach C.prog (fn.params.toList ++ s.plain.varTypes C.prog) (ds ++ gs)).all (· ≤ reachBytes) = true →
      Calls C.prog f args W fun e W' => ∃ v, e = .returned v ∧ s.post enc C.prog fn apart fresh handsOn again W args v W') :
    ReturnsInHanded a C os f .any (fun w args => (s.pre enc C.prog fn conds apart w args ∧ X w args) ∧ sizedMet enc C.prog fn (OpenSpec.ofChange s) apart w args) (s.post enc C.prog fn apart fresh handsOn again) := by
  refine returnsInHanded_of_calls own started noInit witness ?_
  intro w tape i _ hsh _ hok hpre hholds
  obtain ⟨_, _, _, fn', hfn', _, _, _, _, hval⟩ := hok
  have e : fn' = fn := Option.some.inj (hfn'.symm.trans hfn)
  subst e
  obtain ⟨⟨⟨ds, gs, before, hw, hc⟩, hx⟩, hz⟩ := hpre
  have hw' := DataW.Whole.of_heap (w' := w.forCall tape i) (by rfl) hw
  refine (contract (w.forCall tape i) w.heap.size i.args ds gs before hsh hval hw' (hz.weights hw)).mono fun e W' ⟨v, he, hp⟩ => ?_
  subst he
  exact ChangeSpec.post_blind hp
theorem opn_abbrevs {H : Type} {enc : TypeId × Value → H} {w : World} {base : Nat} {spare : Nat → Bool} {held : Bool} : Opn enc Tryd.prog w base spare held 22 (List ByteArray) (fun l => [slS l]) (fun l => (∀ d ∈ l, d.size ≤ 140737488351232) ∧ l.length * 16 ≤ 140737488351232) :=
  opn_slice ByteArray.empty 1 16 vs Tryd.underlying22 (by kernel_rfl) (by kernel_rfl) (by decide) (opn_str Tryd.underlying9) row_cell
theorem opn_piece {H : Type} {enc : TypeId × Value → H} {w : World} {base : Nat} {spare : Nat → Bool} {held : Bool} : Opn enc Tryd.prog w base spare held 58 PieceP (fun p => [vs p.1, vi p.2]) (fun p => p.1.size ≤ 140737488351232) :=
  (opn_struct Tryd.underlying58 (by kernel_rfl) (opnF_cons (k := 1) rfl (by kernel_rfl) (opn_str Tryd.underlying9) (opnF_cons (k := 1) rfl (by kernel_rfl) (opn_int Tryd.underlying3) opnF_nil))).map (fun d => (d.1, d.2.1)) _ _ (fun d => rfl) (fun d h => h.1)
theorem opn_pieces {H : Type} {enc : TypeId × Value → H} {w : World} {base : Nat} {spare : Nat → Bool} {held : Bool} : Opn enc Tryd.prog w base spare held 39 (List PieceP) (fun l => [piecesAv l]) (fun l => (∀ d ∈ l, d.1.size ≤ 140737488351232) ∧ l.length * 24 ≤ 140737488351232) :=
  opn_slice dPiece 2 24 pieceAv Tryd.underlying39 (by kernel_rfl) (by kernel_rfl) (by decide) opn_piece (row_agg (f := fun p : PieceP => [vs p.1, vi p.2]))
end Go.Proofs.YtpbaiighifhfnaaDoor
