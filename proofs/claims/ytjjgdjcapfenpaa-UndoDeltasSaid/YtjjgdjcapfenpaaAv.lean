/- Abstract values: what a slot or a cell holds, told without addresses; a state of memory with named blocks of the call's own; what a step leaves of both. No program stands in this text. -/
import Derived.Test.YtjjgdjcapfenpaaGrow
namespace Go.Proofs.Ytjjgdjcapfenpaa
open Go.RowKit
set_option linter.unusedVariables false

inductive Loc where
  | unborn
  | dead
  | nil
  | at (b : Nat)

/-- A world; which named block lies where; which blocks are another's. -/
structure Env where
  w : World
  loc : Nat → Loc
  bad : Nat → Prop

/-- A block that no name holds. -/
def Env.ok (E : Env) (b : Nat) : Prop := b < E.w.heap.size ∧ ¬ E.bad b ∧ ∀ n, E.loc n ≠ .at b

inductive Av where
  | any
  | val (v : Value)
  | sl (k n : Nat) (row : Nat → Av)
  | ptr (x : Av)
  | agg (cs : List Av)
  | tup (cs : List Av)
  | clo (f : Nat) (caps : List Av)
  | own (n off : Nat)
  | osl (k n len : Nat)
  | oss (n off len : Nat)
  | gd (c : Bool) (x : Av)
  | nz (x : Av)

mutual
def Rep (E : Env) : Av → Value → Prop
  | .any, _ => True
  | .val x, v => v = x
  | .sl k n row, v => ∃ A c, v = .slice A n c ∧ n ≤ c ∧ c ≤ maxLen ∧ (0 < n → ∃ b o, A = some ⟨b, o, none⟩ ∧ E.ok b ∧ ∀ j, j < n → ∃ u, Rep E (row j) u ∧ u.cells.size = k ∧ E.w.rangeAt b (o + j * k) u.cells.toList)
  | .ptr x, v => ∃ b o u, v = .pointer (some ⟨b, o, none⟩) ∧ E.ok b ∧ Rep E x u ∧ E.w.rangeAt b o u.cells.toList
  | .agg cs, v => ∃ vs : List Value, v = .agg vs.toArray ∧ RepL E cs vs ∧ ∀ u ∈ vs, u.oneCell' = true
  | .tup cs, v => ∃ vs : List Value, v = .tuple vs.toArray ∧ RepL E cs vs
  | .clo f cs, v => ∃ vs : List Value, v = .func (.func f) #[] vs.toArray ∧ RepL E cs vs
  | .own n off, v => (E.loc n ≠ .unborn ∧ ∃ p, v = .pointer p) ∧ ∀ b, E.loc n = .at b → v = .pointer (some ⟨b, off, none⟩)
  | .osl k n len, v => (E.loc n ≠ .unborn ∧ (∃ a c, v = .slice a len c) ∧ (E.loc n = .nil → v = .slice none 0 0 ∧ len = 0)) ∧ ∀ b, E.loc n = .at b → ∃ c cur t, v = .slice (some ⟨b, 0, none⟩) len c ∧ len ≤ c ∧ c ≤ maxLen ∧ E.w.heap[b]? = some (.cells cur t (0, 0)) ∧ cur.size = c * k
  | .oss n off len, v => (E.loc n ≠ .unborn ∧ ∃ a c, v = .slice a len c) ∧ ∀ b, E.loc n = .at b → ∃ A c cur t, v = .slice A len c ∧ len ≤ c ∧ c ≤ maxLen ∧ (0 < len → A = some ⟨b, off, none⟩) ∧ E.w.heap[b]? = some (.cells cur t (0, 0)) ∧ off + len ≤ cur.size
  | .gd c x, v => (c = true → Rep E x v) ∧ (c = false → v = undef)
  | .nz x, v => Rep E x v ∧ ∀ n c, v ≠ .slice none n c
def RepL (E : Env) : List Av → List Value → Prop
  | [], vs => vs = []
  | x :: xs, vs => ∃ v us, vs = v :: us ∧ Rep E x v ∧ RepL E xs us
end

def lkS : List (Nat × Av) → Nat → Av
  | [], _ => .any
  | (t, x) :: r, u => bif Nat.beq t u then x else lkS r u
inductive Hs where
  | unborn
  | dead
  | live (t : TypeId) (cells : List Av)
  /-- A loop over a function: its record lies at l. -/
  | loop (l N : Nat) (ps : Array Tmp) (assign body : Code) (pe : Option Code) (σ : List (Nat × Av))

/-- What is known of a named block. -/
def HAt (E : Env) (n : Nat) : Hs → Prop
  | .unborn => E.loc n = .unborn
  | .dead => E.loc n = .dead
  | .live t cells => (E.loc n = .nil ∧ cells = []) ∨ ∃ (b : Nat) (cur : Array Value), E.loc n = .at b ∧ E.w.heap[b]? = some (.cells cur t (0, 0)) ∧ ∀ (i : Nat) (y : Av), cells[i]? = some y → ∃ u : Value, cur[i]? = some u ∧ u.oneCell' = true ∧ Rep E y u
  | .loop l N ps assign body pe σ => E.loc n = .at l ∧ ∃ r : Loop, E.w.heap[l]? = some (.loop r) ∧ r.params = ps ∧ r.assign = assign ∧ r.body = body ∧ r.tmps.size = N ∧ r.pending = pe ∧ r.state = (if pe.isNone then .ready else .done) ∧ ∀ t, Rep E (lkS σ t) (r.tmps.getD t undef)

theorem cells_one {v : Value} (h : v.oneCell' = true) : v.cells = #[v] := by
  cases v <;> first | rfl | (simp [Value.oneCell'] at h)
structure Good (E : Env) : Prop where
  old : ∀ b, E.bad b → b < E.w.heap.size
  inj : ∀ n m b, E.loc n = .at b → E.loc m = .at b → n = m
  lt : ∀ n b, E.loc n = .at b → b < E.w.heap.size ∧ ¬ E.bad b

/-- From E to E' alone the blocks of the names N have been written to, and new ones made. -/
structure Step (E E' : Env) (N : List Nat) : Prop where
  os : E'.w.os = E.w.os
  tape : E'.w.tape = E.w.tape
  output : E'.w.output = E.w.output
  size : E.w.heap.size ≤ E'.w.heap.size
  bad : E'.bad = E.bad
  keep : ∀ b, b < E.w.heap.size → (∀ n, E.loc n ≠ .at b) → E'.w.heap[b]? = E.w.heap[b]?
  same : ∀ n, n ∉ N → E'.loc n = E.loc n ∧ ∀ b, E.loc n = .at b → E'.w.heap[b]? = E.w.heap[b]?
  born : ∀ n, E.loc n ≠ .unborn → E'.loc n ≠ .unborn
  from_ : ∀ n b, E'.loc n = .at b → E.loc n = .at b ∨ (E.loc n = .unborn ∧ (E.w.heap.size ≤ b ∨ ∃ m, E.loc m = .at b))
  nil_ : ∀ n, E'.loc n = .nil → E.loc n = .nil ∨ E.loc n = .unborn
  shape : ∀ n b cur t, E'.loc n = .at b → E.loc n = .at b → E.w.heap[b]? = some (.cells cur t (0, 0)) → ∃ cur', E'.w.heap[b]? = some (.cells cur' t (0, 0)) ∧ cur'.size = cur.size

theorem Step.ok {E E' : Env} {N : List Nat} (h : Step E E' N) {b : Nat} (hb : E.ok b) : E'.ok b ∧ E'.w.heap[b]? = E.w.heap[b]? := by
  obtain ⟨h1, h2, h3⟩ := hb
  refine ⟨⟨Nat.lt_of_lt_of_le h1 h.size, by rwa [h.bad], fun n hn => ?_⟩, h.keep b h1 h3⟩
  rcases h.from_ n b hn with h4 | ⟨_, h4 | ⟨m, h4⟩⟩
  · exact h3 n h4
  · omega
  · exact h3 m h4
theorem range_of_block {w w' : World} {b o : Nat} {cs : List Value} (h : w'.heap[b]? = w.heap[b]?) (hr : w.rangeAt b o cs) : w'.rangeAt b o cs := fun j v hv => (World.cell?_of_block (w := w) (a := ⟨b, o + j, none⟩) h).trans (hr j v hv)

mutual
theorem Rep.step {E E' : Env} {N : List Nat} (h : Step E E' N) : ∀ (x : Av) (v : Value), Rep E x v → Rep E' x v
  | .any, _, _ => by unfold Rep; trivial
  | .val x, v, hr => by unfold Rep at hr ⊢; exact hr
  | .sl k n row, v, hr => by
    unfold Rep at hr ⊢
    obtain ⟨A, c, h1, h2, h3, h4⟩ := hr
    refine ⟨A, c, h1, h2, h3, fun hn => ?_⟩
    obtain ⟨b, o, h5, h6, h7⟩ := h4 hn
    refine ⟨b, o, h5, (h.ok h6).1, fun j hj => ?_⟩
    obtain ⟨u, h8, h9, h10⟩ := h7 j hj
    exact ⟨u, Rep.step h (row j) u h8, h9, range_of_block (h.ok h6).2 h10⟩
  | .ptr x, v, hr => by
    unfold Rep at hr ⊢
    obtain ⟨b, o, u, h1, h2, h3, h4⟩ := hr
    exact ⟨b, o, u, h1, (h.ok h2).1, Rep.step h x u h3, range_of_block (h.ok h2).2 h4⟩
  | .agg cs, v, hr => by
    unfold Rep at hr ⊢
    obtain ⟨vs, h1, h2, h3⟩ := hr
    exact ⟨vs, h1, RepL.step h cs vs h2, h3⟩
  | .tup cs, v, hr => by
    unfold Rep at hr ⊢
    obtain ⟨vs, h1, h2⟩ := hr
    exact ⟨vs, h1, RepL.step h cs vs h2⟩
  | .clo f cs, v, hr => by
    unfold Rep at hr ⊢
    obtain ⟨vs, h1, h2⟩ := hr
    exact ⟨vs, h1, RepL.step h cs vs h2⟩
  | .own n off, v, hr => by
    unfold Rep at hr ⊢
    refine ⟨⟨h.born n hr.1.1, hr.1.2⟩, fun b hb => ?_⟩
    rcases h.from_ n b hb with h1 | ⟨h1, _⟩
    · exact hr.2 b h1
    · exact absurd h1 hr.1.1
  | .osl k n len, v, hr => by
    unfold Rep at hr ⊢
    refine ⟨⟨h.born n hr.1.1, hr.1.2.1, fun hn => ?_⟩, fun b hb => ?_⟩
    · rcases h.nil_ n hn with h1 | h1
      · exact hr.1.2.2 h1
      · exact absurd h1 hr.1.1
    rcases h.from_ n b hb with h1 | ⟨h1, _⟩
    · obtain ⟨c, cur, t, h2, h3, h4, h5, h6⟩ := hr.2 b h1
      obtain ⟨cur', h7, h8⟩ := h.shape n b cur t hb h1 h5
      exact ⟨c, cur', t, h2, h3, h4, h7, by rw [h8, h6]⟩
    · exact absurd h1 hr.1.1
  | .oss n off len, v, hr => by
    unfold Rep at hr ⊢
    refine ⟨⟨h.born n hr.1.1, hr.1.2⟩, fun b hb => ?_⟩
    rcases h.from_ n b hb with h1 | ⟨h1, _⟩
    · obtain ⟨A, c, cur, t, h2, h3, h4, h9, h5, h6⟩ := hr.2 b h1
      obtain ⟨cur', h7, h8⟩ := h.shape n b cur t hb h1 h5
      exact ⟨A, c, cur', t, h2, h3, h4, h9, h7, by rw [h8]; exact h6⟩
    · exact absurd h1 hr.1.1
  | .gd c x, v, hr => by
    unfold Rep at hr ⊢
    exact ⟨fun hc => Rep.step h x v (hr.1 hc), hr.2⟩
  | .nz x, v, hr => by
    unfold Rep at hr ⊢
    exact ⟨Rep.step h x v hr.1, hr.2⟩
theorem RepL.step {E E' : Env} {N : List Nat} (h : Step E E' N) : ∀ (xs : List Av) (vs : List Value), RepL E xs vs → RepL E' xs vs
  | [], vs, hr => by unfold RepL at hr ⊢; exact hr
  | x :: xs, vs, hr => by
    unfold RepL at hr ⊢
    obtain ⟨v, us, h1, h2, h3⟩ := hr
    exact ⟨v, us, h1, Rep.step h x v h2, RepL.step h xs us h3⟩
end
theorem HAt.step {E E' : Env} {N : List Nat} (h : Step E E' N) {n : Nat} (hn : n ∉ N) {x : Hs} (hx : HAt E n x) : HAt E' n x := by
  obtain ⟨h1, h2⟩ := h.same n hn
  cases x with
  | unborn => exact h1.trans (show E.loc n = .unborn from hx)
  | dead => exact h1.trans (show E.loc n = .dead from hx)
  | live t cells =>
    rcases hx with ⟨h3, h4⟩ | ⟨b, cur, h3, h4, h5⟩
    · exact .inl ⟨h1.trans h3, h4⟩
    refine .inr ⟨b, cur, h1.trans h3, (h2 b h3).trans h4, fun i y hy => ?_⟩
    obtain ⟨u, h6, h8, h7⟩ := h5 i y hy
    exact ⟨u, h6, h8, Rep.step h y u h7⟩
  | loop l N ps assign body pe σ =>
    obtain ⟨h3, r, h4, h5, h6, h7, h8, h9, h10, h11⟩ := hx
    exact ⟨h1.trans h3, r, (h2 l h3).trans h4, h5, h6, h7, h8, h9, h10, fun t => Rep.step h _ _ (h11 t)⟩
theorem Step.refl (E : Env) : Step E E [] := ⟨rfl, rfl, rfl, Nat.le_refl _, rfl, fun _ _ _ => rfl, fun _ _ => ⟨rfl, fun _ _ => rfl⟩, fun _ h => h, fun _ _ h => .inl h, fun _ h => .inl h, fun _ _ cur _ _ _ h => ⟨cur, h, rfl⟩⟩
theorem Step.trans {E E' E'' : Env} {N M : List Nat} (h : Step E E' N) (k : Step E' E'' M) : Step E E'' (N ++ M) where
  os := k.os.trans h.os
  tape := k.tape.trans h.tape
  output := k.output.trans h.output
  size := Nat.le_trans h.size k.size
  bad := k.bad.trans h.bad
  keep b hb hn := by
    refine (k.keep b (Nat.lt_of_lt_of_le hb h.size) fun n hn' => ?_).trans (h.keep b hb hn)
    rcases h.from_ n b hn' with h1 | ⟨_, h1 | ⟨m, h1⟩⟩
    · exact hn n h1
    · omega
    · exact hn m h1
  same n hn := by
    rw [List.mem_append, not_or] at hn
    obtain ⟨h1, h2⟩ := h.same n hn.1
    obtain ⟨h3, h4⟩ := k.same n hn.2
    exact ⟨h3.trans h1, fun b hb => (h4 b (h1.trans hb)).trans (h2 b hb)⟩
  born n hn := k.born n (h.born n hn)
  from_ n b hb := by
    rcases k.from_ n b hb with h1 | ⟨h1, h2⟩
    · exact h.from_ n b h1
    · refine .inr ⟨Classical.byContradiction fun hu => h.born n hu h1, ?_⟩
      rcases h2 with h2 | ⟨m, h2⟩
      · exact .inl (Nat.le_trans h.size h2)
      · rcases h.from_ m b h2 with h3 | ⟨_, h3⟩
        · exact .inr ⟨m, h3⟩
        · exact h3
  nil_ n hn := by
    rcases k.nil_ n hn with h1 | h1
    · exact h.nil_ n h1
    · exact .inr (Classical.byContradiction fun hu => h.born n hu h1)
  shape n b cur t hb hb0 hc := by
    have h1 : E'.loc n = .at b := by
      rcases k.from_ n b hb with h1 | ⟨h1, _⟩
      · exact h1
      · exact absurd h1 (h.born n (by rw [hb0]; intro hx; cases hx))
    obtain ⟨cur', h2, h3⟩ := h.shape n b cur t h1 hb0 hc
    obtain ⟨cur'', h4, h5⟩ := k.shape n b cur' t hb h1 h2
    exact ⟨cur'', h4, h5.trans h3⟩
theorem Step.more {E E' : Env} {N M : List Nat} (h : Step E E' N) (hs : ∀ n ∈ N, n ∈ M) : Step E E' M := { h with same := fun n hn => h.same n (fun hm => hn (hs n hm)) }
/-- Memory has grown; nothing that stood has turned. -/
theorem Step.grow {E : Env} (hG : Good E) {w' : World} (h : Below E.w.heap.size E.w w') : Step E { E with w := w' } [] where
  os := h.os
  tape := h.tape
  output := h.output
  size := h.size
  bad := rfl
  keep b hb _ := h.block b hb
  same n _ := ⟨rfl, fun b hb => h.block b (hG.lt n b hb).1⟩
  born n hn := hn
  from_ n b hb := .inl hb
  nil_ n hn := .inl hn
  shape n b cur t _ _ hc := ⟨cur, (h.block b (Array.getElem?_eq_some_iff.1 hc).1).trans hc, rfl⟩
theorem Good.grow {E : Env} (hG : Good E) {w' : World} (h : Below E.w.heap.size E.w w') : Good { E with w := w' } :=
  ⟨fun c hc => Nat.lt_of_lt_of_le (hG.old c hc) h.size, hG.inj, fun n b hb => ⟨Nat.lt_of_lt_of_le (hG.lt n b hb).1 h.size, (hG.lt n b hb).2⟩⟩
/-- A name for a new block. -/
def Env.give (E : Env) (w' : World) (n b : Nat) : Env := { w := w', loc := fun m => if m = n then .at b else E.loc m, bad := E.bad }
theorem Step.give {E : Env} (hG : Good E) {w' : World} (h : Below E.w.heap.size E.w w') {n b : Nat} (hn : E.loc n = .unborn) (hb : E.w.heap.size ≤ b) : Step E (E.give w' n b) [n] where
  os := h.os
  tape := h.tape
  output := h.output
  size := h.size
  bad := rfl
  keep b hb _ := h.block b hb
  same m hm := by
    have hm : m ≠ n := by simpa using hm
    exact ⟨by simp [Env.give, hm], fun b hb => h.block b (hG.lt m b hb).1⟩
  born m hm := by
    by_cases e : m = n
    · subst e; exact absurd hn hm
    · simpa [Env.give, e] using hm
  from_ m c hc := by
    by_cases e : m = n
    · subst e
      simp [Env.give] at hc
      subst hc
      exact .inr ⟨hn, .inl hb⟩
    · simp [Env.give, e] at hc
      exact .inl hc
  nil_ m hc := by
    by_cases e : m = n
    · subst e; exact .inr hn
    · simp [Env.give, e] at hc
      exact .inl hc
  shape n b cur t _ _ hc := ⟨cur, (h.block b (Array.getElem?_eq_some_iff.1 hc).1).trans hc, rfl⟩
theorem Good.give {E : Env} (hG : Good E) {w' : World} (h : Below E.w.heap.size E.w w') {n b : Nat} (hb : E.w.heap.size ≤ b) (hb' : b < w'.heap.size) : Good (E.give w' n b) where
  old c hc := Nat.lt_of_lt_of_le (hG.old c hc) h.size
  inj m l c hm hl := by
    by_cases e : m = n <;> by_cases e' : l = n
    · rw [e, e']
    · simp [Env.give, e, e'] at hm hl
      have := (hG.lt l c hl).1
      omega
    · simp [Env.give, e, e'] at hm hl
      have := (hG.lt m c hm).1
      omega
    · simp [Env.give, e, e'] at hm hl
      exact hG.inj m l c hm hl
  lt m c hm := by
    by_cases e : m = n
    · simp [Env.give, e] at hm
      subst hm
      exact ⟨hb', fun hbad => by have := hG.old b hbad; omega⟩
    · simp [Env.give, e] at hm
      exact ⟨Nat.lt_of_lt_of_le (hG.lt m c hm).1 h.size, (hG.lt m c hm).2⟩
end Go.Proofs.Ytjjgdjcapfenpaa
