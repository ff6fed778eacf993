/- Tables and worlds that came in. -/
import Derived.Test.YtjloemlnejndmaaYpl
import Derived.Test.YtjloemlnejndmaaOk
import Derived.Test.YtjloemlnejndmaaProg
import Derived.KernelRfl
namespace Go.Proofs.Ytjloemlnejndmaa
open Go.RowKit
set_option linter.unusedVariables false
set_option maxRecDepth 100000
section
variable {H : Type} {enc : TypeId × Value → H} {w : World} {base : Nat} {spare : Nat → Bool} {held : Bool}
def wayFl (y : WayP) : List Av := [vi y.dir, vi y.goal, vi y.cond, vi y.els]
def thFl (x : ThingP) : List Av := [vi x.title, vi x.text, vi x.parent, vi x.flags, vb x.room, slI x.props, slS x.words, slS x.adjs, waysAv x.ways]
def slotFl (x : SlotP) : List Av := [vi x.kind, slS x.words]
def verbFl (x : VerbP) : List Av := [vb x.meta_, linesAv x.lines]
def deedFl (x : DeedP) : List Av := [vi x.verb, vi x.phase, vi x.noun, vi x.second, vi x.cond, vi x.body]
def tabFl (t : TabP) : List Av := [vi t.title, vi t.by_, vi t.release, vi t.max, slS t.texts, vi t.flags, slI t.props, slI t.globals, thingsAv t.things, actsAv t.acts, deedsAv t.deeds, slI t.funcs, slI t.daemons, slI t.params, slI t.locals]
def worldFl (w : WorldP) : List Av := [slI w.globals, slI w.parent, slI w.child, slI w.next, slI w.flags, slI w.props, slI w.timers, vu w.seed, vi w.score, vi w.turns, vi w.over, vi w.it, vi w.go]
structure WorldP.wf (w : WorldP) : Prop where
  seed : 0 ≤ w.seed ∧ w.seed < 18446744073709551616
  ints : ∀ z ∈ [w.score, w.turns, w.over, w.it, w.go], -9223372036854775808 ≤ z ∧ z < 9223372036854775808
  rows : ∀ k, k < 7 → (∀ z ∈ w.row k, -9223372036854775808 ≤ z ∧ z < 9223372036854775808) ∧ (w.row k).length * 8 ≤ 140737488351232
theorem sw_of {l : List ByteArray} (h : ∀ s ∈ l, s.size ≤ 140737488351232) : SW l := fun s hs => by have := h s hs; omega
theorem WorldP.wf.fit {w : WorldP} (h : w.wf) : w.fit := fun k hk => by have := (h.rows k hk).2; omega
theorem i64_wf {n : Int} (h : (Lit.int .i64 n).wf = true) : -9223372036854775808 ≤ n ∧ n < 9223372036854775808 := by
  have h1 : IntKind.i64.min ≤ n ∧ n ≤ IntKind.i64.max := by simpa [Lit.wf] using h
  have h2 : IntKind.i64.min = -9223372036854775808 := rfl
  have h3 : IntKind.i64.max = 9223372036854775807 := rfl
  omega
theorem u64_wf {n : Int} (h : (Lit.int .u64 n).wf = true) : 0 ≤ n ∧ n < 18446744073709551616 := by
  have h1 : IntKind.u64.min ≤ n ∧ n ≤ IntKind.u64.max := by simpa [Lit.wf] using h
  have h2 : IntKind.u64.min = 0 := rfl
  have h3 : IntKind.u64.max = 18446744073709551615 := rfl
  omega
theorem opn_way : Opn enc Try.prog w base spare held 108 WayP wayFl (fun _ => True) :=
  (opn_struct Try.underlying108 (by kernel_rfl) (opnF_cons (k := 1) rfl (by kernel_rfl) (opn_int Try.underlying3) (opnF_cons (k := 1) rfl (by kernel_rfl) (opn_int Try.underlying3) (opnF_cons (k := 1) rfl (by kernel_rfl) (opn_int Try.underlying3) (opnF_cons (k := 1) rfl (by kernel_rfl) (opn_int Try.underlying3) opnF_nil))))).map (fun d => ⟨d.1, d.2.1, d.2.2.1, d.2.2.2.1⟩) _ _ (fun d => rfl) (fun d h => by exact trivial)
theorem opn_thing : Opn enc Try.prog w base spare held 45 ThingP thFl ThingP.wf :=
  (opn_struct Try.underlying45 (by kernel_rfl) (opnF_cons (k := 1) rfl (by kernel_rfl) (opn_int Try.underlying3) (opnF_cons (k := 1) rfl (by kernel_rfl) (opn_int Try.underlying3) (opnF_cons (k := 1) rfl (by kernel_rfl) (opn_int Try.underlying3) (opnF_cons (k := 1) rfl (by kernel_rfl) (opn_int Try.underlying3) (opnF_cons (k := 1) rfl (by kernel_rfl) (opn_bool Try.underlying4) (opnF_cons (k := 1) rfl (by kernel_rfl) (opn_slice (0 : Int) 1 8 vi Try.underlying23 (by kernel_rfl) (by kernel_rfl) (by decide) (opn_int Try.underlying3) row_cell) (opnF_cons (k := 1) rfl (by kernel_rfl) (opn_slice ByteArray.empty 1 16 vs Try.underlying22 (by kernel_rfl) (by kernel_rfl) (by decide) (opn_str Try.underlying9) row_cell) (opnF_cons (k := 1) rfl (by kernel_rfl) (opn_slice ByteArray.empty 1 16 vs Try.underlying22 (by kernel_rfl) (by kernel_rfl) (by decide) (opn_str Try.underlying9) row_cell) (opnF_cons (k := 1) rfl (by kernel_rfl) (opn_slice dWay 4 32 wayAv Try.underlying43 (by kernel_rfl) (by kernel_rfl) (by decide) opn_way row_agg) opnF_nil)))))))))).map (fun d => ⟨d.1, d.2.1, d.2.2.1, d.2.2.2.1, d.2.2.2.2.1, d.2.2.2.2.2.1, d.2.2.2.2.2.2.1, d.2.2.2.2.2.2.2.1, d.2.2.2.2.2.2.2.2.1⟩) _ _ (fun d => rfl) (fun d h => by exact ⟨sw_of h.2.2.2.2.2.2.1.1, sw_of h.2.2.2.2.2.2.2.1.1⟩)
theorem opn_slot : Opn enc Try.prog w base spare held 110 SlotP slotFl SlotP.wf :=
  (opn_struct Try.underlying110 (by kernel_rfl) (opnF_cons (k := 1) rfl (by kernel_rfl) (opn_int Try.underlying3) (opnF_cons (k := 1) rfl (by kernel_rfl) (opn_slice ByteArray.empty 1 16 vs Try.underlying22 (by kernel_rfl) (by kernel_rfl) (by decide) (opn_str Try.underlying9) row_cell) opnF_nil))).map (fun d => ⟨d.1, d.2.1⟩) _ _ (fun d => rfl) (fun d h => by exact (sw_of h.2.1.1))
theorem opn_verb : Opn enc Try.prog w base spare held 84 VerbP verbFl VerbP.wf :=
  (opn_struct Try.underlying84 (by kernel_rfl) (opnF_cons (k := 1) rfl (by kernel_rfl) (opn_bool Try.underlying4) (opnF_cons (k := 1) rfl (by kernel_rfl) (opn_slice ([] : List SlotP) 1 24 lineAv Try.underlying82 (by kernel_rfl) (by kernel_rfl) (by decide) (opn_slice dSlot 2 32 slotAv Try.underlying86 (by kernel_rfl) (by kernel_rfl) (by decide) opn_slot row_agg) row_cell) opnF_nil))).map (fun d => ⟨d.1, d.2.1⟩) _ _ (fun d => rfl) (fun d h => by exact fun l hl y hy => (h.2.1.1 l hl).1 y hy)
theorem opn_deed : Opn enc Try.prog w base spare held 88 DeedP deedFl (fun _ => True) :=
  (opn_struct Try.underlying88 (by kernel_rfl) (opnF_cons (k := 1) rfl (by kernel_rfl) (opn_int Try.underlying3) (opnF_cons (k := 1) rfl (by kernel_rfl) (opn_int Try.underlying3) (opnF_cons (k := 1) rfl (by kernel_rfl) (opn_int Try.underlying3) (opnF_cons (k := 1) rfl (by kernel_rfl) (opn_int Try.underlying3) (opnF_cons (k := 1) rfl (by kernel_rfl) (opn_int Try.underlying3) (opnF_cons (k := 1) rfl (by kernel_rfl) (opn_int Try.underlying3) opnF_nil))))))).map (fun d => ⟨d.1, d.2.1, d.2.2.1, d.2.2.2.1, d.2.2.2.2.1, d.2.2.2.2.2.1⟩) _ _ (fun d => rfl) (fun d h => by exact trivial)
theorem opn_tab : Opn enc Try.prog w base spare held 28 TabP tabFl TabP.wf :=
  (opn_struct Try.underlying28 (by kernel_rfl) (opnF_cons (k := 1) rfl (by kernel_rfl) (opn_int Try.underlying3) (opnF_cons (k := 1) rfl (by kernel_rfl) (opn_int Try.underlying3) (opnF_cons (k := 1) rfl (by kernel_rfl) (opn_int Try.underlying3) (opnF_cons (k := 1) rfl (by kernel_rfl) (opn_int Try.underlying3) (opnF_cons (k := 1) rfl (by kernel_rfl) (opn_slice ByteArray.empty 1 16 vs Try.underlying22 (by kernel_rfl) (by kernel_rfl) (by decide) (opn_str Try.underlying9) row_cell) (opnF_cons (k := 1) rfl (by kernel_rfl) (opn_int Try.underlying3) (opnF_cons (k := 1) rfl (by kernel_rfl) (opn_slice (0 : Int) 1 8 vi Try.underlying23 (by kernel_rfl) (by kernel_rfl) (by decide) (opn_int Try.underlying3) row_cell) (opnF_cons (k := 1) rfl (by kernel_rfl) (opn_slice (0 : Int) 1 8 vi Try.underlying23 (by kernel_rfl) (by kernel_rfl) (by decide) (opn_int Try.underlying3) row_cell) (opnF_cons (k := 1) rfl (by kernel_rfl) (opn_slice dThing 9 136 thAv Try.underlying24 (by kernel_rfl) (by kernel_rfl) (by decide) opn_thing row_agg) (opnF_cons (k := 1) rfl (by kernel_rfl) (opn_slice dVerb 2 32 verbAv Try.underlying25 (by kernel_rfl) (by kernel_rfl) (by decide) opn_verb row_agg) (opnF_cons (k := 1) rfl (by kernel_rfl) (opn_slice dDeed 6 48 deedAv Try.underlying26 (by kernel_rfl) (by kernel_rfl) (by decide) opn_deed row_agg) (opnF_cons (k := 1) rfl (by kernel_rfl) (opn_slice (0 : Int) 1 8 vi Try.underlying23 (by kernel_rfl) (by kernel_rfl) (by decide) (opn_int Try.underlying3) row_cell) (opnF_cons (k := 1) rfl (by kernel_rfl) (opn_slice (0 : Int) 1 8 vi Try.underlying23 (by kernel_rfl) (by kernel_rfl) (by decide) (opn_int Try.underlying3) row_cell) (opnF_cons (k := 1) rfl (by kernel_rfl) (opn_slice (0 : Int) 1 8 vi Try.underlying23 (by kernel_rfl) (by kernel_rfl) (by decide) (opn_int Try.underlying3) row_cell) (opnF_cons (k := 1) rfl (by kernel_rfl) (opn_slice (0 : Int) 1 8 vi Try.underlying23 (by kernel_rfl) (by kernel_rfl) (by decide) (opn_int Try.underlying3) row_cell) opnF_nil)))))))))))))))).map (fun d => ⟨d.1, d.2.1, d.2.2.1, d.2.2.2.1, d.2.2.2.2.1, d.2.2.2.2.2.1, d.2.2.2.2.2.2.1, d.2.2.2.2.2.2.2.1, d.2.2.2.2.2.2.2.2.1, d.2.2.2.2.2.2.2.2.2.1, d.2.2.2.2.2.2.2.2.2.2.1, d.2.2.2.2.2.2.2.2.2.2.2.1, d.2.2.2.2.2.2.2.2.2.2.2.2.1, d.2.2.2.2.2.2.2.2.2.2.2.2.2.1, d.2.2.2.2.2.2.2.2.2.2.2.2.2.2.1⟩) _ _ (fun d => rfl) (fun d h => by exact ⟨sw_of (h.2.2.2.2.1).1, (h.2.2.2.2.2.2.2.2.1).1, (h.2.2.2.2.2.2.2.2.2.1).1⟩)
theorem opn_world : Opn enc Try.prog w base spare held 34 WorldP worldFl WorldP.wf :=
  (opn_struct Try.underlying34 (by kernel_rfl) (opnF_cons (k := 1) rfl (by kernel_rfl) (opn_slice (0 : Int) 1 8 vi Try.underlying23 (by kernel_rfl) (by kernel_rfl) (by decide) (opn_int Try.underlying3) row_cell) (opnF_cons (k := 1) rfl (by kernel_rfl) (opn_slice (0 : Int) 1 8 vi Try.underlying23 (by kernel_rfl) (by kernel_rfl) (by decide) (opn_int Try.underlying3) row_cell) (opnF_cons (k := 1) rfl (by kernel_rfl) (opn_slice (0 : Int) 1 8 vi Try.underlying23 (by kernel_rfl) (by kernel_rfl) (by decide) (opn_int Try.underlying3) row_cell) (opnF_cons (k := 1) rfl (by kernel_rfl) (opn_slice (0 : Int) 1 8 vi Try.underlying23 (by kernel_rfl) (by kernel_rfl) (by decide) (opn_int Try.underlying3) row_cell) (opnF_cons (k := 1) rfl (by kernel_rfl) (opn_slice (0 : Int) 1 8 vi Try.underlying23 (by kernel_rfl) (by kernel_rfl) (by decide) (opn_int Try.underlying3) row_cell) (opnF_cons (k := 1) rfl (by kernel_rfl) (opn_slice (0 : Int) 1 8 vi Try.underlying23 (by kernel_rfl) (by kernel_rfl) (by decide) (opn_int Try.underlying3) row_cell) (opnF_cons (k := 1) rfl (by kernel_rfl) (opn_slice (0 : Int) 1 8 vi Try.underlying23 (by kernel_rfl) (by kernel_rfl) (by decide) (opn_int Try.underlying3) row_cell) (opnF_cons (k := 1) rfl (by kernel_rfl) (opn_int Try.underlying32) (opnF_cons (k := 1) rfl (by kernel_rfl) (opn_int Try.underlying3) (opnF_cons (k := 1) rfl (by kernel_rfl) (opn_int Try.underlying3) (opnF_cons (k := 1) rfl (by kernel_rfl) (opn_int Try.underlying3) (opnF_cons (k := 1) rfl (by kernel_rfl) (opn_int Try.underlying3) (opnF_cons (k := 1) rfl (by kernel_rfl) (opn_int Try.underlying3) opnF_nil)))))))))))))).map (fun d => ⟨d.1, d.2.1, d.2.2.1, d.2.2.2.1, d.2.2.2.2.1, d.2.2.2.2.2.1, d.2.2.2.2.2.2.1, d.2.2.2.2.2.2.2.1, d.2.2.2.2.2.2.2.2.1, d.2.2.2.2.2.2.2.2.2.1, d.2.2.2.2.2.2.2.2.2.2.1, d.2.2.2.2.2.2.2.2.2.2.2.1, d.2.2.2.2.2.2.2.2.2.2.2.2.1⟩) _ _ (fun d => rfl) (fun d h => by exact ⟨u64_wf (h.2.2.2.2.2.2.2.1), fun z hz => by
    simp only [List.mem_cons, List.not_mem_nil, or_false] at hz
    rcases hz with rfl | rfl | rfl | rfl | rfl
    · exact i64_wf (h.2.2.2.2.2.2.2.2.1)
    · exact i64_wf (h.2.2.2.2.2.2.2.2.2.1)
    · exact i64_wf (h.2.2.2.2.2.2.2.2.2.2.1)
    · exact i64_wf (h.2.2.2.2.2.2.2.2.2.2.2.1)
    · exact i64_wf (h.2.2.2.2.2.2.2.2.2.2.2.2.1)
    , fun k hk => by
    rcases k with _ | _ | _ | _ | _ | _ | _ | k
    · exact ⟨fun z hz => i64_wf ((h.1).1 z hz), (h.1).2⟩
    · exact ⟨fun z hz => i64_wf ((h.2.1).1 z hz), (h.2.1).2⟩
    · exact ⟨fun z hz => i64_wf ((h.2.2.1).1 z hz), (h.2.2.1).2⟩
    · exact ⟨fun z hz => i64_wf ((h.2.2.2.1).1 z hz), (h.2.2.2.1).2⟩
    · exact ⟨fun z hz => i64_wf ((h.2.2.2.2.1).1 z hz), (h.2.2.2.2.1).2⟩
    · exact ⟨fun z hz => i64_wf ((h.2.2.2.2.2.1).1 z hz), (h.2.2.2.2.2.1).2⟩
    · exact ⟨fun z hz => i64_wf ((h.2.2.2.2.2.2.1).1 z hz), (h.2.2.2.2.2.2.1).2⟩
    · omega⟩)
end
end Go.Proofs.Ytjloemlnejndmaa
