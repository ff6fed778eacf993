/- copy into a block that is known whole; what is then as it was. No program stands in this text. -/
import Derived.Test.YtjjgdjcapfenpaaLay
import Derived.Laws.CopyOwn
namespace Go.Proofs.Ytjjgdjcapfenpaa
open Go.RowKit
set_option linter.unusedVariables false

/-- All as it was, but block g. -/
structure But (g : Nat) (w w' : World) : Prop where
  os : w'.os = w.os
  tape : w'.tape = w.tape
  output : w'.output = w.output
  size : w.heap.size ≤ w'.heap.size
  block : ∀ k, k < w.heap.size → k ≠ g → w'.heap[k]? = w.heap[k]?
section
variable {w w' w2 : World} {g B : Nat}
theorem But.refl (g : Nat) (w : World) : But g w w := ⟨rfl, rfl, rfl, Nat.le_refl _, fun _ _ _ => rfl⟩
theorem But.trans (h : But g w w') (k : But g w' w2) : But g w w2 :=
  ⟨k.os.trans h.os, k.tape.trans h.tape, k.output.trans h.output, Nat.le_trans h.size k.size, fun j hj hn => (k.block j (Nat.lt_of_lt_of_le hj h.size) hn).trans (h.block j hj hn)⟩
theorem But.of (h : Below w.heap.size w w') : But g w w' := ⟨h.os, h.tape, h.output, h.size, fun k hk _ => h.block k hk⟩
theorem But.below (h : But g w w') (hB : B ≤ g) (hs : B ≤ w.heap.size) : Below B w w' := ⟨h.os, h.tape, h.output, h.size, fun k hk => h.block k (by omega) (by omega)⟩
theorem But.blk {g' : Nat} {t : TypeId} {cs : List Value} (h : But g w w') (hb : Blk w g' t cs) (hn : g' ≠ g) : Blk w' g' t cs := (h.block g' hb.lt hn).trans hb
theorem But.setCell (h : But g w w') {p : Addr} (hp : w.heap.size ≤ p.block) (u : Value) : But g w (w'.setCell p u) :=
  ⟨h.os, h.tape, h.output, by simpa [World.setCell] using h.size, fun k hk hn => (Below.heap_setCell w' p u k (by omega)).trans (h.block k hk hn)⟩
theorem But.alloc (h : But g w w') (o : Obj) : But g w (w'.alloc o) :=
  ⟨h.os, h.tape, h.output, by have := h.size; simp; omega, fun k hk hn => (Below.heap_alloc w' o k (Nat.lt_of_lt_of_le hk h.size)).trans (h.block k hk hn)⟩
theorem But.drew (h : But g w w') : But g w w'.drew := ⟨h.os, h.tape, h.output, h.size, h.block⟩
end
theorem splice_nil {α : Type} (L : List α) (off : Nat) : splice L off [] = L := by simp [splice]
theorem run_cpy {P : Program} (w : World) {dT sT ty e : TypeId} (hu : P.underlying dT = some (.slice e)) (hsz : (P.info? e).map (·.size) = some 1) {dp sp : Option Addr} {dl dc sl sc : Nat} {g off : Nat} {cur cs : List Value} {t : TypeId}
    (hg : Blk w g t cur) {B : Nat} (hr : Rd w B sp cs) (hn : cs.length = Nat.min sl dl) (hd : 0 < cs.length → dp = some ⟨g, off, none⟩) (hfit : off + cs.length ≤ cur.length) (h1 : ∀ v ∈ cs, v.oneCell' = true) :
    ∃ w', (Builtin.copy_ #[dT, sT] ty #[.slice dp dl dc, .slice sp sl sc]).run P w = .ok (.int .i64 cs.length) w' ∧ Blk w' g t (splice cur off cs) ∧ But g w w' := by
  by_cases h0 : cs.length = 0
  · have hc : cs = [] := List.eq_nil_of_length_eq_zero h0
    subst hc
    have hrun := run_copy_none (P := P) w dT sT ty e dp sp dl dc sl sc hu hsz (by simpa using hn.symm)
    exact ⟨w, hrun, by rw [splice_nil]; exact hg, But.refl g w⟩
  · obtain ⟨b, o, rfl, _, hc⟩ := hr (by omega)
    have hdp := hd (by omega)
    subst hdp
    have hrun := run_copy_row (P := P) w dT sT ty e g off dl dc ⟨b, o, none⟩ sl sc cur.toArray t cs hu hsz hg hn (fun j v hj => by rw [Addr.add_lit]; exact hc j v hj) (by simpa using hfit) h1
    refine ⟨_, hrun, ?_, ⟨rfl, rfl, rfl, by simp [World.setRow], fun k hk hne => setRow_other w g k _ hne⟩⟩
    have := setRow_heap w g cur.toArray (cur.toArray.toList.take off ++ cs ++ cur.toArray.toList.drop (off + cs.length)).toArray t (0, 0) hg
    simpa [Blk, splice] using this
/-- 'copy(d, s)' as an operation of a region. -/
theorem grows_cpy {P : Program} {w : World} {o : Oper} {a : Act} {K : Value → World → Prop} {dT sT e : TypeId} (hu : P.underlying dT = some (.slice e)) (hsz : (P.info? e).map (·.size) = some 1) {dp sp : Option Addr} {dl dc sl sc : Nat} {g off : Nat} {cur cs : List Value} {t : TypeId}
    (hg : Blk w g t cur) {B : Nat} (hr : Rd w B sp cs) (hn : cs.length = Nat.min sl dl) (hd : 0 < cs.length → dp = some ⟨g, off, none⟩) (hfit : off + cs.length ≤ cur.length) (h1 : ∀ v ∈ cs, v.oneCell' = true)
    (d s : Operand) (ho : o.op = .call { callee := .builtin .copy, args := #[d, s], argTypes := #[dT, sT] }) (hd' : a.eval d = .slice dp dl dc) (hs' : a.eval s = .slice sp sl sc)
    (h : ∀ w', Blk w' g t (splice cur off cs) → But g w w' → K (.int .i64 cs.length) w') : grows P o a w K := by
  obtain ⟨w', hrun, h2, h3⟩ := run_cpy (P := P) w (sT := sT) (ty := o.type) hu hsz hg hr hn hd hfit h1 (dc := dc) (sc := sc)
  unfold grows
  simp [execOp, ho, resolve, invoke, builtin, hd', hs', hrun, Result.andThen, growUpon]
  exact h _ h2 h3
/-- The same at a plain region. -/
theorem wp_cpy {P : Program} {w : World} {o : Oper} {a : Act} {ops : Array Oper} {rest : List Oper} {Q : Exit → Act → World → Prop} {dT sT e : TypeId} (hu : P.underlying dT = some (.slice e)) (hsz : (P.info? e).map (·.size) = some 1) (hgd : o.guard = none) {dp sp : Option Addr} {dl dc sl sc : Nat} {g off : Nat} {cur cs : List Value} {t : TypeId}
    (hg : Blk w g t cur) {B : Nat} (hr : Rd w B sp cs) (hn : cs.length = Nat.min sl dl) (hd : 0 < cs.length → dp = some ⟨g, off, none⟩) (hfit : off + cs.length ≤ cur.length) (h1 : ∀ v ∈ cs, v.oneCell' = true)
    (d s : Operand) (ho : o.op = .call { callee := .builtin .copy, args := #[d, s], argTypes := #[dT, sT] }) (hd' : a.eval d = .slice dp dl dc) (hs' : a.eval s = .slice sp sl sc)
    (h : ∀ w', Blk w' g t (splice cur off cs) → But g w w' → wpList P ops Q rest (a.put o.dst (.int .i64 cs.length)) w') : wpList P ops Q (o :: rest) a w := by
  obtain ⟨w', hrun, h2, h3⟩ := run_cpy (P := P) w (sT := sT) (ty := o.type) hu hsz hg hr hn hd hfit h1 (dc := dc) (sc := sc)
  refine wpList_plain hgd fun K hK => ?_
  unfold Oper.wp
  simp [execOp, ho, resolve, invoke, builtin, hd', hs', hrun, Result.andThen]
  exact hK _ _ (h _ h2 h3)
end Go.Proofs.Ytjjgdjcapfenpaa
