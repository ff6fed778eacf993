/- Abstract values: what a slot or a cell holds, told without addresses; a state of memory with named blocks of the call's own; what a step leaves of both. No program stands in this text. Regions over abstract values: each operation is shown once, in the text's order; a closed check on what each reads and writes says that any order that its edges allow ends in the same state. No program stands in this text. Regions over abstract values, in whatever order is drawn. No program stands in this text. Statements and functions over abstract values. No program stands in this text. -/
import Derived.Test.YtpbaiighifhfnaaDoorGrow
import Derived.Test.YtpbaiighifhfnaaDoorGs
import Derived.Maps.Range
import Derived.TacticsIn
import Derived.RangeFuncCalls
import Derived.OrdersIn
import Derived.Sort.LoopGhostIn
import Derived.RangeFuncLeaves
import Derived.RangeFuncRecord
namespace Go.Proofs.YtpbaiighifhfnaaDoor
open Go.RowKit
set_option linter.unusedVariables false
set_option linter.unusedSimpArgs false

inductive Loc where
  | unborn
  | dead
  | nil
  | at (b : Nat)

/-- A world; which named block lies where; which blocks are another's. -/
structure Env where
  w : World
  loc : Nat → Loc
  bad : Nat → Prop

/-- A block that no name holds. -/
def Env.ok (E : Env) (b : Nat) : Prop := b < E.w.heap.size ∧ ¬ E.bad b ∧ ∀ n, E.loc n ≠ .at b

inductive Av where
  | any
  | val (v : Value)
  | sl (k n : Nat) (row : Nat → Av)
  | ptr (x : Av)
  | agg (cs : List Av)
  | tup (cs : List Av)
  | clo (f : Nat) (caps : List Av)
  | own (n off : Nat)
  | osl (k n len : Nat)
  | oss (n off len : Nat)
  /-- A map of the call's own; a map that is only read from here on. -/
  | mp (n : Nat)
  | fm (P : Program) (k e : TypeId) (D : DataW Unit)
  | gd (c : Bool) (x : Av)
  | nz (x : Av)
  /-- A row of cells that are frozen, all of those that are told and no more (what unsafe.String leaves of a row of bytes); a slice of it or (q) the pointer to it. -/
  | frz (q : Bool) (T : TypeId) (xs : List Value)

mutual
def Rep (E : Env) : Av → Value → Prop
  | .any, _ => True
  | .val x, v => v = x
  | .sl k n row, v => ∃ A c, v = .slice A n c ∧ n ≤ c ∧ c ≤ maxLen ∧ (0 < n → ∃ b o, A = some ⟨b, o, none⟩ ∧ E.ok b ∧ ∀ j, j < n → ∃ u, Rep E (row j) u ∧ u.cells.size = k ∧ E.w.rangeAt b (o + j * k) u.cells.toList)
  | .ptr x, v => ∃ b o u, v = .pointer (some ⟨b, o, none⟩) ∧ E.ok b ∧ Rep E x u ∧ E.w.rangeAt b o u.cells.toList
  | .agg cs, v => ∃ vs : List Value, v = .agg vs.toArray ∧ RepL E cs vs ∧ ∀ u ∈ vs, u.oneCell' = true
  | .tup cs, v => ∃ vs : List Value, v = .tuple vs.toArray ∧ RepL E cs vs
  | .clo f cs, v => ∃ vs : List Value, v = .func (.func f) #[] vs.toArray ∧ RepL E cs vs
  | .own n off, v => (E.loc n ≠ .unborn ∧ ∃ p, v = .pointer p) ∧ ∀ b, E.loc n = .at b → v = .pointer (some ⟨b, off, none⟩)
  | .osl k n len, v => (E.loc n ≠ .unborn ∧ (∃ a c, v = .slice a len c) ∧ (E.loc n = .nil → v = .slice none 0 0 ∧ len = 0)) ∧ ∀ b, E.loc n = .at b → ∃ c cur t, v = .slice (some ⟨b, 0, none⟩) len c ∧ len ≤ c ∧ c ≤ maxLen ∧ E.w.heap[b]? = some (.cells cur t (0, 0)) ∧ cur.size = c * k
  | .oss n off len, v => (E.loc n ≠ .unborn ∧ ∃ a c, v = .slice a len c) ∧ ∀ b, E.loc n = .at b → ∃ A c cur t, v = .slice A len c ∧ len ≤ c ∧ c ≤ maxLen ∧ (0 < len → A = some ⟨b, off, none⟩) ∧ E.w.heap[b]? = some (.cells cur t (0, 0)) ∧ off + len ≤ cur.size
  | .mp n, v => (E.loc n ≠ .unborn ∧ ∃ b, v = .map b) ∧ ∀ b, E.loc n = .at b → v = .map (some b)
  | .fm P k e D, v => ∃ b n, v = .map (some b) ∧ E.ok b ∧ E.w.ownsMap P k (plainElem P e) b n D
  | .frz q T xs, v => ∃ c g cur, v = (bif q then .pointer (some ⟨g, 0, none⟩) else .slice (some ⟨g, 0, none⟩) xs.length c) ∧ xs.length ≤ c ∧ E.ok g ∧ E.w.heap[g]? = some (.cells cur T (0, xs.length)) ∧ ∀ (j : Nat) (u : Value), xs[j]? = some u → cur[j]? = some u
  | .gd c x, v => (c = true → Rep E x v) ∧ (c = false → v = undef)
  | .nz x, v => Rep E x v ∧ ∀ n c, v ≠ .slice none n c
def RepL (E : Env) : List Av → List Value → Prop
  | [], vs => vs = []
  | x :: xs, vs => ∃ v us, vs = v :: us ∧ Rep E x v ∧ RepL E xs us
end

def lkS : List (Nat × Av) → Nat → Av
  | [], _ => .any
  | (t, x) :: r, u => bif Nat.beq t u then x else lkS r u
inductive Hs where
  | unborn
  | dead
  | live (t : TypeId) (cells : List Av)
  /-- A loop over a function: its record lies at l. -/
  | map (P : Program) (k e : TypeId) (D : DataW Unit)
  /-- A loop over a map that is only read: the entries that are still to come. -/
  | iter (P : Program) (k e : TypeId) (D : DataW Unit) (left : Lit → Bool) (cnt : Nat) (last : Option (Value × Value))
  | loop (l N : Nat) (ps : Array Tmp) (assign body : Code) (pe : Option Code) (σ : List (Nat × Av))

/-- What the iterator handed out last. -/
def entOk (P : Program) (w : World) (r : Nat) (kv : Value × Value) : Prop := (Instr.entry (.pointer (some ⟨r, 0, none⟩))).run P w = .ok (.tuple #[kv.1, kv.2]) w
/-- What is known of a named block. -/
def HAt (E : Env) (n : Nat) : Hs → Prop
  | .unborn => E.loc n = .unborn
  | .dead => E.loc n = .dead
  | .live t cells => (E.loc n = .nil ∧ cells = []) ∨ ∃ (b : Nat) (cur : Array Value), E.loc n = .at b ∧ E.w.heap[b]? = some (.cells cur t (0, 0)) ∧ ∀ (i : Nat) (y : Av), cells[i]? = some y → ∃ u : Value, cur[i]? = some u ∧ u.oneCell' = true ∧ Rep E y u
  | .map P k e D => ∃ b m, E.loc n = .at b ∧ E.w.ownsMap P k (plainElem P e) b m D
  | .iter P k e D left cnt last => ∃ b r m, E.loc n = .at r ∧ E.ok b ∧ E.w.ranges P k (plainElem P e) b r m D left cnt ∧ ∀ kv, last = some kv → entOk P E.w r kv
  | .loop l N ps assign body pe σ => E.loc n = .at l ∧ ∃ r : Loop, E.w.heap[l]? = some (.loop r) ∧ r.params = ps ∧ r.assign = assign ∧ r.body = body ∧ r.tmps.size = N ∧ r.pending = pe ∧ r.state = (if pe.isNone then .ready else .done) ∧ ∀ t, Rep E (lkS σ t) (r.tmps.getD t undef)

theorem cells_one {v : Value} (h : v.oneCell' = true) : v.cells = #[v] := by
  cases v <;> first | rfl | (simp [Value.oneCell'] at h)
/-- The package-level numbers stand, and no name holds them. -/
def Shp (E : Env) : Prop := ∀ g ∈ gsOf, E.ok g ∧ ∃ m, E.w.cell? ⟨g, 0, none⟩ = some (.int .i64 m)
structure Good (E : Env) : Prop where
  old : ∀ b, E.bad b → b < E.w.heap.size
  inj : ∀ n m b, E.loc n = .at b → E.loc m = .at b → n = m
  lt : ∀ n b, E.loc n = .at b → b < E.w.heap.size ∧ ¬ E.bad b
  shp : Shp E

/-- From E to E' alone the blocks of the names N have been written to, and new ones made. -/
structure Step (E E' : Env) (N : List Nat) : Prop where
  os : E'.w.os = E.w.os
  tape : E'.w.tape = E.w.tape
  output : E'.w.output = E.w.output
  size : E.w.heap.size ≤ E'.w.heap.size
  bad : E'.bad = E.bad
  keep : ∀ b, b < E.w.heap.size → (∀ n, E.loc n ≠ .at b) → E'.w.heap[b]? = E.w.heap[b]?
  same : ∀ n, n ∉ N → E'.loc n = E.loc n ∧ ∀ b, E.loc n = .at b → E'.w.heap[b]? = E.w.heap[b]?
  born : ∀ n, E.loc n ≠ .unborn → E'.loc n ≠ .unborn
  from_ : ∀ n b, E'.loc n = .at b → E.loc n = .at b ∨ (E.loc n = .unborn ∧ (E.w.heap.size ≤ b ∨ ∃ m, E.loc m = .at b))
  nil_ : ∀ n, E'.loc n = .nil → E.loc n = .nil ∨ E.loc n = .unborn
  shape : ∀ n b cur t, E'.loc n = .at b → E.loc n = .at b → E.w.heap[b]? = some (.cells cur t (0, 0)) → ∃ cur', E'.w.heap[b]? = some (.cells cur' t (0, 0)) ∧ cur'.size = cur.size

theorem Step.ok {E E' : Env} {N : List Nat} (h : Step E E' N) {b : Nat} (hb : E.ok b) : E'.ok b ∧ E'.w.heap[b]? = E.w.heap[b]? := by
  obtain ⟨h1, h2, h3⟩ := hb
  refine ⟨⟨Nat.lt_of_lt_of_le h1 h.size, by rwa [h.bad], fun n hn => ?_⟩, h.keep b h1 h3⟩
  rcases h.from_ n b hn with h4 | ⟨_, h4 | ⟨m, h4⟩⟩
  · exact h3 n h4
  · omega
  · exact h3 m h4
theorem Shp.same {E E' : Env} (h : Shp E) (hk : ∀ b, E.ok b → E'.ok b ∧ E'.w.heap[b]? = E.w.heap[b]?) : Shp E' := fun g hg => by
  obtain ⟨h1, m, h2⟩ := h g hg
  exact ⟨(hk g h1).1, m, (World.cell?_of_block (a := ⟨g, 0, none⟩) (hk g h1).2).trans h2⟩
theorem Shp.step {E E' : Env} {N : List Nat} (h : Shp E) (hS : Step E E' N) : Shp E' := h.same fun b hb => hS.ok hb
theorem range_of_block {w w' : World} {b o : Nat} {cs : List Value} (h : w'.heap[b]? = w.heap[b]?) (hr : w.rangeAt b o cs) : w'.rangeAt b o cs := fun j v hv => (World.cell?_of_block (w := w) (a := ⟨b, o + j, none⟩) h).trans (hr j v hv)

theorem ownsMap_of_block {w w' : World} {P : Program} {k e : TypeId} {b n : Nat} {D : DataW Unit} (h : w'.heap[b]? = w.heap[b]?) (ho : w.ownsMap P k (plainElem P e) b n D) : w'.ownsMap P k (plainElem P e) b n D := by
  obtain ⟨es, clock, h1, h2⟩ := ho
  exact ⟨es, clock, h.trans h1, h2⟩
theorem ranges_of_block {w w' : World} {P : Program} {k e : TypeId} {b r n c : Nat} {D : DataW Unit} {left : Lit → Bool} (h : w'.heap[b]? = w.heap[b]?) (h' : w'.heap[r]? = w.heap[r]?) (ho : w.ranges P k (plainElem P e) b r n D left c) : w'.ranges P k (plainElem P e) b r n D left c := by
  obtain ⟨es, clock, since, seen, c0, h1, h2, h3, h4, h5, h6⟩ := ho
  exact ⟨es, clock, since, seen, c0, h.trans h1, h2, h3, h4, h'.trans h5, h6⟩
theorem entry_same {P : Program} {w w' : World} {b r since c0 : Nat} {seen : Array Nat} {t : Value} (hr : w.heap[r]? = some (.mapIter (some b) since seen c0)) (h : w'.heap[b]? = w.heap[b]?) (h' : w'.heap[r]? = w.heap[r]?)
    (hrun : (Instr.entry (.pointer (some ⟨r, 0, none⟩))).run P w = .ok t w) : (Instr.entry (.pointer (some ⟨r, 0, none⟩))).run P w' = .ok t w' := by
  simp only [Instr.entry, getObj, Sem.run_bind, Sem.run, h', hr, h, Result.andThen] at hrun ⊢
  cases hs : seen.back? with
  | none => rw [hs] at hrun; simp [stuck, Sem.run] at hrun
  | some stamp =>
    simp only [hs, Sem.run_bind, Sem.run] at hrun ⊢
    rw [h]
    cases hb : w.heap[b]? with
    | none => simp [hb] at hrun
    | some ob =>
      cases ob <;> simp only [hb, Result.andThen] at hrun ⊢ <;> first | (simp [stuck, Sem.run] at hrun; done) | skip
      split
      · rename_i hc; rw [if_pos hc] at hrun; simp [unsupported, Sem.run, Result.andThen] at hrun
      · rename_i hc
        rw [if_neg hc] at hrun
        revert hrun
        generalize Array.find? _ _ = F
        intro hrun
        cases F with
        | none => simp [unsupported] at hrun
        | some e =>
          simp only [Sem.run_pure, Result.ok.injEq, and_true] at hrun ⊢
          exact hrun
theorem entOk.same {P P' : Program} {w w' : World} {k e : TypeId} {b r n c : Nat} {D : DataW Unit} {left : Lit → Bool} {kv : Value × Value} (hrg : w.ranges P' k (plainElem P' e) b r n D left c) (h : w'.heap[b]? = w.heap[b]?) (h' : w'.heap[r]? = w.heap[r]?) (ho : entOk P w r kv) : entOk P w' r kv := by
  obtain ⟨es, clock, since, seen, c0, _, _, _, _, h5, _⟩ := hrg
  exact entry_same h5 h h' ho
mutual
theorem Rep.step {E E' : Env} {N : List Nat} (h : Step E E' N) : ∀ (x : Av) (v : Value), Rep E x v → Rep E' x v
  | .any, _, _ => by unfold Rep; trivial
  | .val x, v, hr => by unfold Rep at hr ⊢; exact hr
  | .sl k n row, v, hr => by
    unfold Rep at hr ⊢
    obtain ⟨A, c, h1, h2, h3, h4⟩ := hr
    refine ⟨A, c, h1, h2, h3, fun hn => ?_⟩
    obtain ⟨b, o, h5, h6, h7⟩ := h4 hn
    refine ⟨b, o, h5, (h.ok h6).1, fun j hj => ?_⟩
    obtain ⟨u, h8, h9, h10⟩ := h7 j hj
    exact ⟨u, Rep.step h (row j) u h8, h9, range_of_block (h.ok h6).2 h10⟩
  | .ptr x, v, hr => by
    unfold Rep at hr ⊢
    obtain ⟨b, o, u, h1, h2, h3, h4⟩ := hr
    exact ⟨b, o, u, h1, (h.ok h2).1, Rep.step h x u h3, range_of_block (h.ok h2).2 h4⟩
  | .agg cs, v, hr => by
    unfold Rep at hr ⊢
    obtain ⟨vs, h1, h2, h3⟩ := hr
    exact ⟨vs, h1, RepL.step h cs vs h2, h3⟩
  | .tup cs, v, hr => by
    unfold Rep at hr ⊢
    obtain ⟨vs, h1, h2⟩ := hr
    exact ⟨vs, h1, RepL.step h cs vs h2⟩
  | .clo f cs, v, hr => by
    unfold Rep at hr ⊢
    obtain ⟨vs, h1, h2⟩ := hr
    exact ⟨vs, h1, RepL.step h cs vs h2⟩
  | .own n off, v, hr => by
    unfold Rep at hr ⊢
    refine ⟨⟨h.born n hr.1.1, hr.1.2⟩, fun b hb => ?_⟩
    rcases h.from_ n b hb with h1 | ⟨h1, _⟩
    · exact hr.2 b h1
    · exact absurd h1 hr.1.1
  | .osl k n len, v, hr => by
    unfold Rep at hr ⊢
    refine ⟨⟨h.born n hr.1.1, hr.1.2.1, fun hn => ?_⟩, fun b hb => ?_⟩
    · rcases h.nil_ n hn with h1 | h1
      · exact hr.1.2.2 h1
      · exact absurd h1 hr.1.1
    rcases h.from_ n b hb with h1 | ⟨h1, _⟩
    · obtain ⟨c, cur, t, h2, h3, h4, h5, h6⟩ := hr.2 b h1
      obtain ⟨cur', h7, h8⟩ := h.shape n b cur t hb h1 h5
      exact ⟨c, cur', t, h2, h3, h4, h7, by rw [h8, h6]⟩
    · exact absurd h1 hr.1.1
  | .oss n off len, v, hr => by
    unfold Rep at hr ⊢
    refine ⟨⟨h.born n hr.1.1, hr.1.2⟩, fun b hb => ?_⟩
    rcases h.from_ n b hb with h1 | ⟨h1, _⟩
    · obtain ⟨A, c, cur, t, h2, h3, h4, h9, h5, h6⟩ := hr.2 b h1
      obtain ⟨cur', h7, h8⟩ := h.shape n b cur t hb h1 h5
      exact ⟨A, c, cur', t, h2, h3, h4, h9, h7, by rw [h8]; exact h6⟩
    · exact absurd h1 hr.1.1
  | .mp n, v, hr => by
    unfold Rep at hr ⊢
    refine ⟨⟨h.born n hr.1.1, hr.1.2⟩, fun b hb => ?_⟩
    rcases h.from_ n b hb with h1 | ⟨h1, _⟩
    · exact hr.2 b h1
    · exact absurd h1 hr.1.1
  | .fm P k e D, v, hr => by
    unfold Rep at hr ⊢
    obtain ⟨b, n, h1, h2, h3⟩ := hr
    exact ⟨b, n, h1, (h.ok h2).1, ownsMap_of_block (h.ok h2).2 h3⟩
  | .frz q T xs, v, hr => by
    unfold Rep at hr ⊢
    obtain ⟨c, g, cur, h1, h2, h3, h4, h5⟩ := hr
    exact ⟨c, g, cur, h1, h2, (h.ok h3).1, (h.ok h3).2.trans h4, h5⟩
  | .gd c x, v, hr => by
    unfold Rep at hr ⊢
    exact ⟨fun hc => Rep.step h x v (hr.1 hc), hr.2⟩
  | .nz x, v, hr => by
    unfold Rep at hr ⊢
    exact ⟨Rep.step h x v hr.1, hr.2⟩
theorem RepL.step {E E' : Env} {N : List Nat} (h : Step E E' N) : ∀ (xs : List Av) (vs : List Value), RepL E xs vs → RepL E' xs vs
  | [], vs, hr => by unfold RepL at hr ⊢; exact hr
  | x :: xs, vs, hr => by
    unfold RepL at hr ⊢
    obtain ⟨v, us, h1, h2, h3⟩ := hr
    exact ⟨v, us, h1, Rep.step h x v h2, RepL.step h xs us h3⟩
end
theorem HAt.step {E E' : Env} {N : List Nat} (h : Step E E' N) {n : Nat} (hn : n ∉ N) {x : Hs} (hx : HAt E n x) : HAt E' n x := by
  obtain ⟨h1, h2⟩ := h.same n hn
  cases x with
  | unborn => exact h1.trans (show E.loc n = .unborn from hx)
  | dead => exact h1.trans (show E.loc n = .dead from hx)
  | live t cells =>
    rcases hx with ⟨h3, h4⟩ | ⟨b, cur, h3, h4, h5⟩
    · exact .inl ⟨h1.trans h3, h4⟩
    refine .inr ⟨b, cur, h1.trans h3, (h2 b h3).trans h4, fun i y hy => ?_⟩
    obtain ⟨u, h6, h8, h7⟩ := h5 i y hy
    exact ⟨u, h6, h8, Rep.step h y u h7⟩
  | map P k e D =>
    obtain ⟨b, m, h3, h4⟩ := hx
    exact ⟨b, m, h1.trans h3, ownsMap_of_block (h2 b h3) h4⟩
  | iter P k e D left cnt last =>
    obtain ⟨b, r, m, h3, h4, h5, h6⟩ := hx
    exact ⟨b, r, m, h1.trans h3, (h.ok h4).1, ranges_of_block (h.ok h4).2 (h2 r h3) h5, fun kv hk => entOk.same h5 (h.ok h4).2 (h2 r h3) (h6 kv hk)⟩
  | loop l N ps assign body pe σ =>
    obtain ⟨h3, r, h4, h5, h6, h7, h8, h9, h10, h11⟩ := hx
    exact ⟨h1.trans h3, r, (h2 l h3).trans h4, h5, h6, h7, h8, h9, h10, fun t => Rep.step h _ _ (h11 t)⟩
theorem Step.refl (E : Env) : Step E E [] := ⟨rfl, rfl, rfl, Nat.le_refl _, rfl, fun _ _ _ => rfl, fun _ _ => ⟨rfl, fun _ _ => rfl⟩, fun _ h => h, fun _ _ h => .inl h, fun _ h => .inl h, fun _ _ cur _ _ _ h => ⟨cur, h, rfl⟩⟩
theorem Step.trans {E E' E'' : Env} {N M : List Nat} (h : Step E E' N) (k : Step E' E'' M) : Step E E'' (N ++ M) where
  os := k.os.trans h.os
  tape := k.tape.trans h.tape
  output := k.output.trans h.output
  size := Nat.le_trans h.size k.size
  bad := k.bad.trans h.bad
  keep b hb hn := by
    refine (k.keep b (Nat.lt_of_lt_of_le hb h.size) fun n hn' => ?_).trans (h.keep b hb hn)
    rcases h.from_ n b hn' with h1 | ⟨_, h1 | ⟨m, h1⟩⟩
    · exact hn n h1
    · omega
    · exact hn m h1
  same n hn := by
    rw [List.mem_append, not_or] at hn
    obtain ⟨h1, h2⟩ := h.same n hn.1
    obtain ⟨h3, h4⟩ := k.same n hn.2
    exact ⟨h3.trans h1, fun b hb => (h4 b (h1.trans hb)).trans (h2 b hb)⟩
  born n hn := k.born n (h.born n hn)
  from_ n b hb := by
    rcases k.from_ n b hb with h1 | ⟨h1, h2⟩
    · exact h.from_ n b h1
    · refine .inr ⟨Classical.byContradiction fun hu => h.born n hu h1, ?_⟩
      rcases h2 with h2 | ⟨m, h2⟩
      · exact .inl (Nat.le_trans h.size h2)
      · rcases h.from_ m b h2 with h3 | ⟨_, h3⟩
        · exact .inr ⟨m, h3⟩
        · exact h3
  nil_ n hn := by
    rcases k.nil_ n hn with h1 | h1
    · exact h.nil_ n h1
    · exact .inr (Classical.byContradiction fun hu => h.born n hu h1)
  shape n b cur t hb hb0 hc := by
    have h1 : E'.loc n = .at b := by
      rcases k.from_ n b hb with h1 | ⟨h1, _⟩
      · exact h1
      · exact absurd h1 (h.born n (by rw [hb0]; intro hx; cases hx))
    obtain ⟨cur', h2, h3⟩ := h.shape n b cur t h1 hb0 hc
    obtain ⟨cur'', h4, h5⟩ := k.shape n b cur' t hb h1 h2
    exact ⟨cur'', h4, h5.trans h3⟩
theorem Step.more {E E' : Env} {N M : List Nat} (h : Step E E' N) (hs : ∀ n ∈ N, n ∈ M) : Step E E' M := { h with same := fun n hn => h.same n (fun hm => hn (hs n hm)) }
/-- Memory has grown; nothing that stood has turned. -/
theorem Step.grow {E : Env} (hG : Good E) {w' : World} (h : Below E.w.heap.size E.w w') : Step E { E with w := w' } [] where
  os := h.os
  tape := h.tape
  output := h.output
  size := h.size
  bad := rfl
  keep b hb _ := h.block b hb
  same n _ := ⟨rfl, fun b hb => h.block b (hG.lt n b hb).1⟩
  born n hn := hn
  from_ n b hb := .inl hb
  nil_ n hn := .inl hn
  shape n b cur t _ _ hc := ⟨cur, (h.block b (Array.getElem?_eq_some_iff.1 hc).1).trans hc, rfl⟩
theorem Good.grow {E : Env} (hG : Good E) {w' : World} (h : Below E.w.heap.size E.w w') : Good { E with w := w' } :=
  ⟨fun c hc => Nat.lt_of_lt_of_le (hG.old c hc) h.size, hG.inj, fun n b hb => ⟨Nat.lt_of_lt_of_le (hG.lt n b hb).1 h.size, (hG.lt n b hb).2⟩, hG.shp.step (Step.grow hG h)⟩
/-- A name for a new block. -/
def Env.give (E : Env) (w' : World) (n b : Nat) : Env := { w := w', loc := fun m => if m = n then .at b else E.loc m, bad := E.bad }
theorem Step.give {E : Env} (hG : Good E) {w' : World} (h : Below E.w.heap.size E.w w') {n b : Nat} (hn : E.loc n = .unborn) (hb : E.w.heap.size ≤ b) : Step E (E.give w' n b) [n] where
  os := h.os
  tape := h.tape
  output := h.output
  size := h.size
  bad := rfl
  keep b hb _ := h.block b hb
  same m hm := by
    have hm : m ≠ n := by simpa using hm
    exact ⟨by simp [Env.give, hm], fun b hb => h.block b (hG.lt m b hb).1⟩
  born m hm := by
    by_cases e : m = n
    · subst e; exact absurd hn hm
    · simpa [Env.give, e] using hm
  from_ m c hc := by
    by_cases e : m = n
    · subst e
      simp [Env.give] at hc
      subst hc
      exact .inr ⟨hn, .inl hb⟩
    · simp [Env.give, e] at hc
      exact .inl hc
  nil_ m hc := by
    by_cases e : m = n
    · subst e; exact .inr hn
    · simp [Env.give, e] at hc
      exact .inl hc
  shape n b cur t _ _ hc := ⟨cur, (h.block b (Array.getElem?_eq_some_iff.1 hc).1).trans hc, rfl⟩
theorem Good.give {E : Env} (hG : Good E) {w' : World} (h : Below E.w.heap.size E.w w') {n b : Nat} (hb : E.w.heap.size ≤ b) (hb' : b < w'.heap.size) : Good (E.give w' n b) where
  shp := hG.shp.same fun c hc => ⟨⟨Nat.lt_of_lt_of_le hc.1 h.size, hc.2.1, fun m hm => by
    by_cases e : m = n
    · simp [Env.give, e] at hm
      have := hc.1
      omega
    · simp [Env.give, e] at hm
      exact hc.2.2 m hm⟩, h.block c hc.1⟩
  old c hc := Nat.lt_of_lt_of_le (hG.old c hc) h.size
  inj m l c hm hl := by
    by_cases e : m = n <;> by_cases e' : l = n
    · rw [e, e']
    · simp [Env.give, e, e'] at hm hl
      have := (hG.lt l c hl).1
      omega
    · simp [Env.give, e, e'] at hm hl
      have := (hG.lt m c hm).1
      omega
    · simp [Env.give, e, e'] at hm hl
      exact hG.inj m l c hm hl
  lt m c hm := by
    by_cases e : m = n
    · simp [Env.give, e] at hm
      subst hm
      exact ⟨hb', fun hbad => by have := hG.old b hbad; omega⟩
    · simp [Env.give, e] at hm
      exact ⟨Nat.lt_of_lt_of_le (hG.lt m c hm).1 h.size, (hG.lt m c hm).2⟩
end Go.Proofs.YtpbaiighifhfnaaDoor
namespace Go.Proofs.YtpbaiighifhfnaaDoor
open Go.RowKit
set_option linter.unusedVariables false

structure Ctx where
  s : List (Nat × Av)
  h : List (Nat × Hs)
def lkH : List (Nat × Hs) → Nat → Option Hs
  | [], _ => none
  | (t, x) :: r, u => bif Nat.beq t u then some x else lkH r u
theorem beqF {a b : Nat} (h : a ≠ b) : Nat.beq a b = false := by
  cases hb : Nat.beq a b with
  | false => rfl
  | true => exact absurd (Nat.eq_of_beq_eq_true hb) h
theorem beqN {a b : Nat} (h : Nat.beq a b = false) : a ≠ b := by
  intro e
  subst e
  have : Nat.beq a a = true := by simp
  rw [this] at h
  cases h
theorem lkS_eq (t : Nat) (x : Av) (r : List (Nat × Av)) : lkS ((t, x) :: r) t = x := by simp [lkS]
theorem lkS_ne {t u : Nat} (x : Av) (r : List (Nat × Av)) (h : t ≠ u) : lkS ((t, x) :: r) u = lkS r u := by
  have : Nat.beq t u = false := beqF h
  simp [lkS, this]
theorem lkH_app (U h : List (Nat × Hs)) (n : Nat) : lkH (U ++ h) n = (lkH U n).or (lkH h n) := by
  induction U with
  | nil => rfl
  | cons p U ih =>
    obtain ⟨m, y⟩ := p
    simp only [List.cons_append, lkH]
    cases Nat.beq m n <;> simp [ih]
theorem lkH_none {U : List (Nat × Hs)} {n : Nat} (h : n ∉ U.map (·.1)) : lkH U n = none := by
  induction U with
  | nil => rfl
  | cons p U ih =>
    obtain ⟨m, y⟩ := p
    simp only [List.map_cons, List.mem_cons, not_or] at h
    have : Nat.beq m n = false := beqF fun e => h.1 e.symm
    simp [lkH, this, ih h.2]
theorem lkH_some {U : List (Nat × Hs)} {n : Nat} (h : n ∈ U.map (·.1)) : ∃ y, lkH U n = some y := by
  induction U with
  | nil => simp at h
  | cons p U ih =>
    obtain ⟨m, y⟩ := p
    simp only [lkH]
    cases hb : Nat.beq m n with
    | true => exact ⟨y, by simp⟩
    | false =>
      have hne : m ≠ n := beqN hb
      simp only [List.map_cons, List.mem_cons] at h
      rcases h with h | h
      · exact absurd h.symm hne
      · simpa using ih h
def Ctx.put (Γ : Ctx) (d : Option Nat) (x : Av) (U : List (Nat × Hs)) : Ctx := ⟨match d with | some d => (d, x) :: Γ.s | none => Γ.s, U ++ Γ.h⟩
def Holds (E : Env) (tm : Array Value) (Γ : Ctx) : Prop := (∀ t, Rep E (lkS Γ.s t) (tm.getD t undef)) ∧ ∀ n x, lkH Γ.h n = some x → HAt E n x

/-- What an operation leaves: a value, and of the blocks U. -/
def Post (E : Env) (x : Av) (U : List (Nat × Hs)) (v : Value) (w' : World) : Prop :=
  ∃ E' : Env, E'.w = w' ∧ Step E E' (U.map (·.1)) ∧ Good E' ∧ Rep E' x v ∧ ∀ n y, lkH U n = some y → HAt E' n y
def slotOf : Operand → List Nat
  | .tmp t => [t]
  | _ => []
def gslot (ops : Array Oper) (o : Oper) : List Nat :=
  match o.guard with
  | none => []
  | some (g, _) => match (ops[g]?).bind (·.dst) with | some t => [t] | none => []
def readsOf (ops : Array Oper) (o : Oper) : List Nat := o.op.operands.toList.flatMap slotOf ++ gslot ops o
/-- What an operation leaves, a round of a loop over a function among them where b is so. -/
def growsB (b : Bool) (P : Program) (o : Oper) (a : Act) (w : World) (K : Value → World → Prop) : Prop :=
  grows P o a w K ∨ (b = true ∧ ∃ l f tmps assign body w', (execOp a.eval o).run P w = .ok (.round l f tmps assign body) w' ∧ RoundIn Fence.wide 0 P l f tmps assign body w' fun e w'' => ∃ v, e = .returned v ∧ K v w'')
theorem growsB.mono {b : Bool} {P : Program} {o : Oper} {a : Act} {w : World} {K K' : Value → World → Prop} (h : growsB b P o a w K) (hk : ∀ v w', K v w' → K' v w') : growsB b P o a w K' := by
  rcases h with h | ⟨hb, l, f, tmps, assign, body, w', h1, h2⟩
  · refine .inl ?_
    unfold grows at h ⊢
    generalize (execOp a.eval o).run P w = r at *
    cases r with
    | ok n w' =>
      cases n <;> simp only [growUpon] at h ⊢
      case value u => exact hk _ _ h
      case skip => exact hk _ _ h
      case enter f args => exact h.mono fun e w'' ⟨v, he, hh⟩ => ⟨v, he, hk _ _ hh⟩
    | halt x w' => simp only [growUpon] at h
  · exact .inr ⟨hb, l, f, tmps, assign, body, w', h1, h2.mono fun e w'' ⟨v, he, hh⟩ => ⟨v, he, hk _ _ hh⟩⟩
/-- The fence that keeps nothing out, in a round or in none. -/
def wideAt (ro : Option Nat) : Fence := { Fence.wide with round := ro }
theorem wpIn_of_growsB {b : Bool} {ro : Option Nat} {k : Nat} {P : Program} {o : Oper} {a : Act} {w : World} {K : Act → World → Prop} {Q : Exit → Act → World → Prop} (h : growsB b P o a w fun v w' => K (a.put o.dst v) w') : o.wpIn (wideAt ro) k P a w K Q := by
  refine ⟨fun _ _ => trivial, ?_⟩
  have hs : ∀ (Z : Result Next → Prop), (∀ d w', ¬ Z (.ok (.defer d) w')) → (∀ x w', ¬ Z (.halt x w')) → Z ((execOp a.eval o).run P w) → (o.semAt (wideAt ro).round a.eval).run P w = (execOp a.eval o).run P w := by
    intro Z hd hh hz
    cases hro : (wideAt ro).round with
    | none => rfl
    | some l =>
      rw [Oper.semAt_some l a.eval o]
      intro c hc
      unfold execOp at hz
      simp only [hc] at hz
      revert hz
      simp only [Sem.run_bind]
      cases h1 : Sem.run P (resolve a.eval c o.type) w with
      | ok d w' => simp only [Result.andThen_ok, Sem.run_pure]; exact hd d w'
      | halt x w' => simp only [Result.andThen]; exact hh x w'
  rcases h with h | ⟨_, l, f, tmps, assign, body, w', h1, h2⟩
  · unfold grows at h
    rw [hs _ (fun d w' hx => by simp only [growUpon] at hx) (fun x w' hx => by simp only [growUpon] at hx) h]
    generalize (execOp a.eval o).run P w = r at *
    cases r with
    | ok n w' =>
      cases n <;> simp only [growUpon] at h
      case value u => exact h
      case skip => exact h
      case enter f args =>
        refine ⟨fun hd => by simp [wideAt, Fence.wide] at hd, ?_⟩
        refine (show CallsIn (wideAt ro) (k - 1) P f args w' _ from (callsIn_wide (n := k - 1)).2 h).mono ?_
        rintro e w'' ⟨v, rfl, hk⟩
        exact hk
    | halt x w' => simp only [growUpon] at h
  · rw [hs (fun x => x = .ok (.round l f tmps assign body) w') (fun d w' hx => by cases hx) (fun x w' hx => by cases hx) h1, h1]
    refine ⟨fun hd => by simp [wideAt, Fence.wide] at hd, ?_⟩
    have h3 : RoundIn (wideAt ro) (k - 1) P l f tmps assign body w' fun e w'' => ∃ v, e = .returned v ∧ K (a.put o.dst v) w'' := ⟨trivial, fun c cs _ => h2.2 c cs (room_wide _)⟩
    refine h3.mono ?_
    rintro e w'' ⟨v, rfl, hk⟩
    exact hk
/-- An operation, with its guard: from what it reads, what it leaves. -/
def OS (bb : Bool) (P : Program) (ops : Array Oper) (o : Oper) (σ : List (Nat × Av)) (R : List (Nat × Hs)) (x : Av) (U : List (Nat × Hs)) : Prop :=
  ∀ (E : Env) (a : Act), Good E → (∀ t ∈ readsOf ops o, Rep E (lkS σ t) (a.tmps.getD t undef)) → (∀ n y, (n, y) ∈ R → HAt E n y) →
    if Region.wanted o (yielded ops a.tmps) then growsB bb P o a E.w (Post E x U) else Post E x U undef E.w
inductive Ch (bb : Bool) (P : Program) (ops : Array Oper) : List Oper → Ctx → Ctx → List (List Nat × List Nat) → Prop
  | nil (Γ : Ctx) : Ch bb P ops [] Γ Γ []
  | cons {o : Oper} {l : List Oper} {Γ Γ' : Ctx} {F : List (List Nat × List Nat)} {x : Av} {R U : List (Nat × Hs)} (h : OS bb P ops o Γ.s R x U) (hR : ∀ n y, (n, y) ∈ R → lkH Γ.h n = some y) (h' : Ch bb P ops l (Γ.put o.dst x U) Γ' F) :
      Ch bb P ops (o :: l) Γ Γ' ((R.map (·.1), U.map (·.1)) :: F)

theorem getD_set_eq' (tm : Array Value) (d : Nat) (v : Value) (h : d < tm.size) : (tm.setIfInBounds d v).getD d undef = v := by
  simp [Array.getD, h]
theorem getD_set_ne' (tm : Array Value) {d t : Nat} (v : Value) (h : d ≠ t) : (tm.setIfInBounds d v).getD t undef = tm.getD t undef := by
  by_cases ht : t < tm.size
  · simp [Array.getD, ht, h]
  · simp [Array.getD, ht]
theorem put_size (a : Act) (d : Option Nat) (v : Value) : (a.put d v).tmps.size = a.tmps.size := by
  cases d <;> simp [Act.put]
theorem put_defers (a : Act) (d : Option Nat) (v : Value) : (a.put d v).defers = a.defers := by
  cases d <;> rfl
/-- The operation's leavings, taken into the state. -/
theorem Holds.put {E E' : Env} {tm : Array Value} {Γ : Ctx} {x : Av} {U : List (Nat × Hs)} {v : Value} {d : Option Nat} {a : Act} (h : Holds E a.tmps Γ) (hS : Step E E' (U.map (·.1))) (hx : Rep E' x v) (hU : ∀ n y, lkH U n = some y → HAt E' n y)
    (hd : ∀ t, d = some t → t < a.tmps.size) : Holds E' (a.put d v).tmps (Γ.put d x U) := by
  refine ⟨fun t => ?_, fun n y hn => ?_⟩
  · cases d with
    | none => exact Rep.step hS _ _ (h.1 t)
    | some d =>
      show Rep E' (lkS ((d, x) :: Γ.s) t) ((a.tmps.setIfInBounds d v).getD t undef)
      by_cases e : d = t
      · subst e
        rw [lkS_eq, getD_set_eq' _ _ _ (hd d rfl)]
        exact hx
      · rw [lkS_ne _ _ e, getD_set_ne' _ _ e]
        exact Rep.step hS _ _ (h.1 t)
  · have hn : lkH (U ++ Γ.h) n = some y := hn
    rw [lkH_app] at hn
    by_cases hm : n ∈ U.map (·.1)
    · obtain ⟨z, hz⟩ := lkH_some hm
      rw [hz] at hn
      simp at hn
      subst hn
      exact hU n z hz
    · rw [lkH_none hm] at hn
      exact HAt.step hS hm (h.2 n y (by simpa using hn))

/-! ### The text's order -/
def dstLt (N : Nat) (l : List Oper) : Bool := l.all fun o => match o.dst with | some d => decide (d < N) | none => true
section
variable {P : Program} {Q : Exit → Act → World → Prop}
theorem Ch.text {bb : Bool} {ro : Option Nat} {kk : Nat} {ops : Array Oper} {N : Nat} : ∀ {l : List Oper} {Γ Γ' : Ctx} {F : List (List Nat × List Nat)}, Ch bb P ops l Γ Γ' F → dstLt N l = true → ∀ (E : Env) (a : Act), Good E → Holds E a.tmps Γ → a.tmps.size = N →
    (∀ (E' : Env) (a' : Act) (M : List Nat), Good E' → Step E E' M → Holds E' a'.tmps Γ' → a'.tmps.size = N → a'.defers = a.defers → Q .normal a' E'.w) → wpListIn (wideAt ro) kk P ops Q l a E.w := by
  intro l Γ Γ' F h
  induction h with
  | nil Γ => intro _ E a hG hH hN hk; exact hk E a [] hG (Step.refl E) hH hN rfl
  | @cons o l Γ Γ' F x R U h hR h' ih =>
    intro hd E a hG hH hN hk
    simp only [dstLt, List.all_cons, Bool.and_eq_true] at hd
    have hdt : ∀ t, o.dst = some t → t < a.tmps.size := fun t ht => by
      have := hd.1
      rw [ht] at this
      rw [hN]
      simpa using this
    have hop := h E a hG (fun t _ => hH.1 t) (fun n y hn => hH.2 n y (hR n y hn))
    have go : ∀ v w', Post E x U v w' → wpListIn (wideAt ro) kk P ops Q l (a.put o.dst v) w' := by
      rintro v w' ⟨E', rfl, hS, hG', hx, hU⟩
      refine ih (by simpa [dstLt] using hd.2) E' (a.put o.dst v) hG' (hH.put (tm := #[]) hS hx hU hdt) (by rw [put_size, hN]) fun E'' a'' M hG'' hS' hH' hN' hdf => hk E'' a'' _ hG'' (hS.trans hS') hH' hN' (by rw [hdf, put_defers])
    unfold wpListIn
    split
    · rename_i hw
      rw [if_pos hw] at hop
      exact wpIn_of_growsB (hop.mono go)
    · rename_i hw
      rw [if_neg hw] at hop
      exact ⟨fun _ _ => trivial, go _ _ hop⟩
end

/-! ### Any order -/
structure Spec where
  d : Option Nat
  x : Av
  R : List (Nat × Hs)
  U : List (Nat × Hs)
def stL (L : Nat → Bool) : List Spec → Nat → Ctx → Ctx
  | [], _, Γ => Γ
  | e :: l, k, Γ => stL L l (k + 1) (if L k then Γ.put e.d e.x e.U else Γ)
def Spec.wS (e : Spec) (t : Nat) : Prop := e.d = some t
def Spec.wH (e : Spec) (n : Nat) : Prop := n ∈ e.U.map (·.1)
theorem stL_s {L L' : Nat → Bool} {t : Nat} : ∀ (l : List Spec) (k : Nat) (Γ Γ' : Ctx), (∀ j e, l[j]? = some e → e.wS t → L (k + j) = L' (k + j)) → lkS Γ.s t = lkS Γ'.s t → lkS (stL L l k Γ).s t = lkS (stL L' l k Γ').s t
  | [], _, _, _, _, h => h
  | e :: l, k, Γ, Γ', hL, h => by
    unfold stL
    refine stL_s l (k + 1) _ _ (fun j e' he hw => by have := hL (j + 1) e' (by simpa using he) hw; rwa [show k + 1 + j = k + (j + 1) from by omega]) ?_
    by_cases hw : e.wS t
    · have := hL 0 e rfl hw
      simp only [Nat.add_zero] at this
      unfold Spec.wS at hw
      rw [this]
      cases L' k
      · exact h
      · simp [Ctx.put, hw, lkS_eq]
    · have hs : ∀ Γ : Ctx, lkS (Γ.put e.d e.x e.U).s t = lkS Γ.s t := fun Γ => by
        unfold Spec.wS at hw
        cases hd : e.d with
        | none => rfl
        | some d => exact lkS_ne _ _ (fun e' => hw (by rw [hd, e']))
      have h1 : ∀ (b : Bool) (Γ : Ctx), lkS (if b = true then Γ.put e.d e.x e.U else Γ).s t = lkS Γ.s t := fun b Γ => by cases b <;> simp [hs]
      rw [h1, h1, h]
theorem stL_h {L L' : Nat → Bool} {n : Nat} : ∀ (l : List Spec) (k : Nat) (Γ Γ' : Ctx), (∀ j e, l[j]? = some e → e.wH n → L (k + j) = L' (k + j)) → lkH Γ.h n = lkH Γ'.h n → lkH (stL L l k Γ).h n = lkH (stL L' l k Γ').h n
  | [], _, _, _, _, h => h
  | e :: l, k, Γ, Γ', hL, h => by
    unfold stL
    refine stL_h l (k + 1) _ _ (fun j e' he hw => by have := hL (j + 1) e' (by simpa using he) hw; rwa [show k + 1 + j = k + (j + 1) from by omega]) ?_
    by_cases hw : e.wH n
    · have := hL 0 e rfl hw
      simp only [Nat.add_zero] at this
      obtain ⟨y, hy⟩ := lkH_some hw
      rw [this]
      cases L' k
      · exact h
      · simp [Ctx.put, lkH_app, hy]
    · have hs : ∀ Γ : Ctx, lkH (Γ.put e.d e.x e.U).h n = lkH Γ.h n := fun Γ => by simp [Ctx.put, lkH_app, lkH_none hw]
      have h1 : ∀ (b : Bool) (Γ : Ctx), lkH (if b = true then Γ.put e.d e.x e.U else Γ).h n = lkH Γ.h n := fun b Γ => by cases b <;> simp [hs]
      rw [h1, h1, h]
theorem stL_none (l : List Spec) : ∀ (k : Nat) (Γ : Ctx) (L : Nat → Bool), (∀ j, j < l.length → L (k + j) = false) → stL L l k Γ = Γ := by
  induction l with
  | nil => intros; rfl
  | cons e l ih =>
    intro k Γ L h
    unfold stL
    have := h 0 (by simp)
    simp only [Nat.add_zero] at this
    rw [this, if_neg (by simp)]
    exact ih (k + 1) Γ L fun j hj => by rw [show k + 1 + j = k + (j + 1) from by omega]; exact h (j + 1) (by simp; omega)
/-- What the last of the listed has written. -/
theorem stL_last {L : Nat → Bool} : ∀ (l : List Spec) (k : Nat) (Γ : Ctx) (i : Nat) (e : Spec), l[i]? = some e → L (k + i) = true → (∀ t, e.wS t → (∀ j e', l[j]? = some e' → i < j → e'.wS t → L (k + j) = false) → lkS (stL L l k Γ).s t = e.x) ∧
    (∀ n y, lkH e.U n = some y → (∀ j e', l[j]? = some e' → i < j → e'.wH n → L (k + j) = false) → lkH (stL L l k Γ).h n = some y)
  | [], _, _, i, e, h, _ => by simp at h
  | e0 :: l, k, Γ, 0, e, h, hL => by
    simp at h
    subst h
    simp only [Nat.add_zero] at hL
    unfold stL
    rw [hL, if_pos rfl]
    refine ⟨fun t hw hno => ?_, fun n y hy hno => ?_⟩
    · rw [stL_s (L' := fun _ => false) l (k + 1) _ (Γ.put e0.d e0.x e0.U) (fun j e' he hw' => by have := hno (j + 1) e' (by simpa using he) (by omega) hw'; rwa [show k + 1 + j = k + (j + 1) from by omega]) rfl, stL_none _ _ _ _ (fun _ _ => rfl)]
      unfold Spec.wS at hw
      simp [Ctx.put, hw, lkS_eq]
    · rw [stL_h (L' := fun _ => false) l (k + 1) _ (Γ.put e0.d e0.x e0.U) (fun j e' he hw' => by have := hno (j + 1) e' (by simpa using he) (by omega) hw'; rwa [show k + 1 + j = k + (j + 1) from by omega]) rfl, stL_none _ _ _ _ (fun _ _ => rfl)]
      simp [Ctx.put, lkH_app, hy]
  | e0 :: l, k, Γ, i + 1, e, h, hL => by
    unfold stL
    have := stL_last (L := L) l (k + 1) (if L k then Γ.put e0.d e0.x e0.U else Γ) i e (by simpa using h) (by rwa [show k + 1 + i = k + (i + 1) from by omega])
    refine ⟨fun t hw hno => this.1 t hw fun j e' he hj hw' => ?_, fun n y hy hno => this.2 n y hy fun j e' he hj hw' => ?_⟩
    · have := hno (j + 1) e' (by simpa using he) (by omega) hw'
      rwa [show k + 1 + j = k + (j + 1) from by omega]
    · have := hno (j + 1) e' (by simpa using he) (by omega) hw'
      rwa [show k + 1 + j = k + (j + 1) from by omega]

/-- The chain's specs. -/
def SpA (bb : Bool) (P : Program) (ops : Array Oper) : List Oper → List Spec → Ctx → Prop
  | [], [], _ => True
  | o :: l, e :: s, Γ => (e.d = o.dst ∧ OS bb P ops o Γ.s e.R e.x e.U ∧ ∀ n y, (n, y) ∈ e.R → lkH Γ.h n = some y) ∧ SpA bb P ops l s (Γ.put e.d e.x e.U)
  | _, _, _ => False
def fp (e : Spec) : List Nat × List Nat := (e.R.map (·.1), e.U.map (·.1))
theorem Ch.specs {bb : Bool} {P : Program} {ops : Array Oper} {l : List Oper} {Γ Γ' : Ctx} {F : List (List Nat × List Nat)} (h : Ch bb P ops l Γ Γ' F) : ∃ s : List Spec, SpA bb P ops l s Γ ∧ s.map fp = F ∧ stL (fun _ => true) s 0 Γ = Γ' := by
  suffices H : ∀ k, ∃ s : List Spec, SpA bb P ops l s Γ ∧ s.map fp = F ∧ stL (fun _ => true) s k Γ = Γ' from H 0
  induction h with
  | nil Γ => exact fun k => ⟨[], trivial, rfl, rfl⟩
  | @cons o l Γ Γ' F x R U h hR h' ih =>
    intro k
    obtain ⟨s, h1, h2, h3⟩ := ih (k + 1)
    refine ⟨⟨o.dst, x, R, U⟩ :: s, ⟨⟨rfl, h, hR⟩, h1⟩, by simp [h2, fp], ?_⟩
    unfold stL
    simpa using h3
theorem SpA.len {bb : Bool} {P : Program} {ops : Array Oper} : ∀ {l : List Oper} {s : List Spec} {Γ : Ctx}, SpA bb P ops l s Γ → s.length = l.length
  | [], [], _, _ => rfl
  | o :: l, e :: s, Γ, h => by simp [SpA.len h.2]
  | [], _ :: _, _, h => h.elim
  | _ :: _, [], _, h => h.elim
theorem SpA.get {bb : Bool} {P : Program} {ops : Array Oper} : ∀ {l : List Oper} {s : List Spec} {Γ : Ctx} (k : Nat), SpA bb P ops l s Γ → ∀ i o e, l[i]? = some o → s[i]? = some e →
    e.d = o.dst ∧ OS bb P ops o (stL (fun j => decide (j < k + i)) s k Γ).s e.R e.x e.U ∧ ∀ n y, (n, y) ∈ e.R → lkH (stL (fun j => decide (j < k + i)) s k Γ).h n = some y
  | [], [], _, _, _, i, o, e, h, _ => by simp at h
  | o :: l, e :: s, Γ, k, H, 0, o', e', h, h' => by
    simp at h h'
    subst h; subst h'
    have hn : ∀ Γ, stL (fun j => decide (j < k + 0)) s (k + 1) Γ = Γ := fun Γ => stL_none s (k + 1) Γ _ fun j hj => by simp; omega
    unfold stL
    rw [hn, if_neg (by simp)]
    exact H.1
  | o :: l, e :: s, Γ, k, H, i + 1, o', e', h, h' => by
    have := SpA.get (k + 1) H.2 i o' e' (by simpa using h) (by simpa using h')
    unfold stL
    rw [if_pos (by simp), show k + (i + 1) = k + 1 + i from by omega]
    exact this
  | [], _ :: _, _, _, h, _, _, _, _, _ => h.elim
  | _ :: _, [], _, _, h, _, _, _, _, _ => h.elim
end Go.Proofs.YtpbaiighifhfnaaDoor
namespace Go.Proofs.YtpbaiighifhfnaaDoor
open Go.RowKit
set_option linter.unusedVariables false

def maskOf (ms : List Nat) (o : Oper) : Nat := o.after.toList.foldl (fun acc e => bif Region.binds .any e then acc ||| (1 <<< e.on) ||| ms.getD e.on 0 else acc) 0
def masks : List Oper → List Nat → List Nat
  | [], ms => ms
  | o :: l, ms => masks l (ms ++ [maskOf ms o])
def bitOf (ms : List Nat) (i k : Nat) : Bool := (ms.getD i 0).testBit k
theorem foldMask {ms : List Nat} {k : Nat} : ∀ (l : List Edge) (acc : Nat), (l.foldl (fun acc e => bif Region.binds .any e then acc ||| (1 <<< e.on) ||| ms.getD e.on 0 else acc) acc).testBit k = true →
    acc.testBit k = true ∨ ∃ e ∈ l, Region.binds .any e = true ∧ (e.on = k ∨ bitOf ms e.on k = true)
  | [], acc, h => .inl h
  | e :: l, acc, h => by
    simp only [List.foldl_cons] at h
    rcases foldMask l _ h with h1 | ⟨e', he, h1⟩
    · cases hb : Region.binds .any e with
      | false => rw [hb] at h1; exact .inl h1
      | true =>
        rw [hb, cond_true, Nat.testBit_or, Nat.testBit_or, Bool.or_eq_true, Bool.or_eq_true] at h1
        rcases h1 with (h1 | h1) | h1
        · exact .inl h1
        · refine .inr ⟨e, by simp, hb, .inl ?_⟩
          rw [Nat.one_shiftLeft, Nat.testBit_two_pow] at h1
          simpa using h1
        · exact .inr ⟨e, by simp, hb, .inr h1⟩
    · exact .inr ⟨e', by simp [he], h1⟩
/-- A bit stands for a way down the edges. -/
def MP (l0 : List Oper) (ms : List Nat) : Prop := ∀ i, i < ms.length → ∃ o, l0[i]? = some o ∧ ∀ k, bitOf ms i k = true → ∃ e ∈ o.after.toList, Region.binds .any e = true ∧ (e.on = k ∨ (e.on < i ∧ bitOf ms e.on k = true))
theorem masks_ok {l0 : List Oper} : ∀ (l : List Oper) (ms : List Nat), (∀ j, l[j]? = l0[ms.length + j]?) → MP l0 ms → MP l0 (masks l ms)
  | [], ms, _, h => h
  | o :: l, ms, hl, h => by
    unfold masks
    refine masks_ok l _ (fun j => by have := hl (j + 1); simp at this; rw [this]; simp; congr 1; omega) fun i hi => ?_
    have hb : ∀ j k, j < ms.length → bitOf (ms ++ [maskOf ms o]) j k = bitOf ms j k := fun j k hj => by
      unfold bitOf
      rw [List.getD_eq_getElem?_getD, List.getD_eq_getElem?_getD, List.getElem?_append_left hj]
    rcases Nat.lt_or_ge i ms.length with h1 | h1
    · obtain ⟨o', h2, h3⟩ := h i h1
      refine ⟨o', h2, fun k hk => ?_⟩
      rw [hb i k h1] at hk
      obtain ⟨e, he, h4, h5⟩ := h3 k hk
      refine ⟨e, he, h4, ?_⟩
      rcases h5 with h5 | ⟨h5, h6⟩
      · exact .inl h5
      · exact .inr ⟨h5, by rw [hb _ _ (by omega)]; exact h6⟩
    · have hi' : i = ms.length := by simp at hi; omega
      subst hi'
      refine ⟨o, by have := hl 0; simpa using this.symm, fun k hk => ?_⟩
      unfold bitOf at hk
      rw [List.getD_eq_getElem?_getD, List.getElem?_append_right (Nat.le_refl _)] at hk
      simp at hk
      unfold maskOf at hk
      rcases foldMask _ _ hk with h2 | ⟨e, he, h2, h3⟩
      · simp at h2
      · refine ⟨e, he, h2, ?_⟩
        rcases h3 with h3 | h3
        · exact .inl h3
        · have hlt : e.on < ms.length := by
            rcases Nat.lt_or_ge e.on ms.length with h4 | h4
            · exact h4
            · unfold bitOf at h3
              rw [List.getD_eq_getElem?_getD, List.getElem?_eq_none h4] at h3
              simp at h3
          exact .inr ⟨hlt, by rw [hb _ _ hlt]; exact h3⟩
/-- p writes what o reads or writes. -/
def conf (ops : Array Oper) (o : Oper) (F : List Nat × List Nat) (p : Oper) (G : List Nat × List Nat) : Bool :=
  (match p.dst with | some d => (readsOf ops o).contains d || o.dst == some d | none => false) || G.2.any fun n => F.1.contains n || F.2.contains n
def chk (l : List Oper) (F : List (List Nat × List Nat)) : Bool :=
  let Z := (l.zip F).zipIdx
  let ms := masks l []
  Z.all fun x => Z.all fun y => x.2 == y.2 || !conf l.toArray x.1.1 x.1.2 y.1.1 y.1.2 || (if y.2 < x.2 then bitOf ms x.2 y.2 else bitOf ms y.2 x.2)
theorem chk_get {l : List Oper} {F : List (List Nat × List Nat)} (h : chk l F = true) {i k : Nat} {o p : Oper} {f g : List Nat × List Nat} (ho : l[i]? = some o) (hf : F[i]? = some f) (hp : l[k]? = some p) (hg : F[k]? = some g) (hne : i ≠ k) (hc : conf l.toArray o f p g = true) :
    (k < i ∧ bitOf (masks l []) i k = true) ∨ (i < k ∧ bitOf (masks l []) k i = true) := by
  unfold chk at h
  rw [List.all_eq_true] at h
  have hx : ((o, f), i) ∈ (l.zip F).zipIdx := by
    rw [List.mem_zipIdx_iff_getElem?]
    simp [List.getElem?_zip_eq_some, ho, hf]
  have hy : ((p, g), k) ∈ (l.zip F).zipIdx := by
    rw [List.mem_zipIdx_iff_getElem?]
    simp [List.getElem?_zip_eq_some, hp, hg]
  have := h _ hx
  rw [List.all_eq_true] at this
  have := this _ hy
  simp only [hc, Bool.not_true, Bool.or_false, Bool.or_eq_true, beq_iff_eq] at this
  rcases this with h1 | h1
  · exact absurd h1 hne
  · split at h1
    · exact .inl ⟨by assumption, h1⟩
    · exact .inr ⟨by omega, h1⟩

theorem stL_congr {L L' : Nat → Bool} : ∀ (l : List Spec) (k : Nat) (Γ : Ctx), (∀ j, j < l.length → L (k + j) = L' (k + j)) → stL L l k Γ = stL L' l k Γ
  | [], _, _, _ => rfl
  | e :: l, k, Γ, h => by
    unfold stL
    have := h 0 (by simp)
    simp only [Nat.add_zero] at this
    rw [this]
    exact stL_congr l (k + 1) _ fun j hj => by rw [show k + 1 + j = k + (j + 1) from by omega]; exact h (j + 1) (by simp; omega)

section
variable {P : Program} {Q : Exit → Act → World → Prop} {l : List Oper} {Γ Γ' : Ctx} {F : List (List Nat × List Nat)} {N : Nat}
def Down (l : List Oper) (L : Nat → Bool) : Prop := ∀ i o, l[i]? = some o → L i = true → ∀ e ∈ o.after.toList, Region.binds .any e = true → L e.on = true
theorem bit_listed {L : Nat → Bool} (hD : Down l L) : ∀ (i : Nat) (o : Oper), l[i]? = some o → (∀ e ∈ o.after.toList, Region.binds .any e = true → L e.on = true) → ∀ k, bitOf (masks l []) i k = true → L k = true := by
  have hM : MP l (masks l []) := masks_ok l [] (fun j => by simp) (fun i hi => by simp at hi)
  intro i
  induction i using Nat.strongRecOn with
  | _ i ih =>
    intro o ho hdep k hk
    have hlen : i < (masks l []).length := by
      rcases Nat.lt_or_ge i (masks l []).length with h | h
      · exact h
      · unfold bitOf at hk
        rw [List.getD_eq_getElem?_getD, List.getElem?_eq_none h] at hk
        simp at hk
    obtain ⟨o', ho', h1⟩ := hM i hlen
    rw [ho] at ho'
    injection ho' with ho'
    subst ho'
    obtain ⟨e, he, h2, h3⟩ := h1 k hk
    have h4 := hdep e he h2
    rcases h3 with h3 | ⟨h3, h5⟩
    · rw [← h3]; exact h4
    · have hlen' : e.on < (masks l []).length := by omega
      obtain ⟨o2, ho2, _⟩ := hM e.on hlen'
      exact ih e.on h3 o2 ho2 (fun e' he' hb' => hD e.on o2 ho2 h4 e' he' hb') k h5

theorem Ch.any {bb : Bool} {ro : Option Nat} {kk : Nat} (h : Ch bb P l.toArray l Γ Γ' F) (hd : dstLt N l = true) (hl : lexB .any l 0 = true) (hc : chk l F = true) (E0 : Env) (df : List Deferred)
    (hk : ∀ (E' : Env) (a' : Act) (M : List Nat), Good E' → Step E0 E' M → Holds E' a'.tmps Γ' → a'.tmps.size = N → a'.defers = df → Q .normal a' E'.w) :
    ∀ (s : List Spec), SpA bb P l.toArray l s Γ → s.map fp = F → stL (fun _ => true) s 0 Γ = Γ' → ∀ (fuel : Nat) (listed : Array Bool) (E : Env) (a : Act) (M : List Nat), listed.size = l.length → left listed = fuel → Down l (fun k => listed.getD k false) → Good E → Step E0 E M →
      Holds E a.tmps (stL (fun k => listed.getD k false) s 0 Γ) → a.tmps.size = N → a.defers = df → wpAnyIn (wideAt ro) kk P .any l.toArray Q fuel listed a E.w := by
  intro s hs hF hE fuel
  have hlen := hs.len
  have fin : ∀ (listed : Array Bool) (E : Env) (a : Act) (M : List Nat), (∀ j, j < l.length → listed.getD j false = true) → Good E → Step E0 E M → Holds E a.tmps (stL (fun k => listed.getD k false) s 0 Γ) → a.tmps.size = N → a.defers = df → Q .normal a E.w := by
    intro listed E a M hall hG hS hH hN hdf
    refine hk E a M hG hS ?_ hN hdf
    rw [← hE, stL_congr (L := fun _ => true) (L' := fun k => listed.getD k false) s 0 Γ fun j hj => by rw [Nat.zero_add]; exact (hall j (by omega)).symm]
    exact hH
  induction fuel with
  | zero =>
    intro listed E a M hsz h0 hD hG hS hH hN hdf
    have hall := left_zero h0
    refine ⟨?_, fin listed E a M (fun j hj => hall j (by omega)) hG hS hH hN hdf⟩
    apply List.eq_nil_iff_forall_not_mem.2
    intro j hj
    obtain ⟨h1, o, ho, _⟩ := mem_ready.1 hj
    have hjl : j < l.length := by
      simp at ho
      exact (List.getElem?_eq_some_iff.1 ho).1
    have h2 := hall j (by omega)
    have hj' : j < listed.size := by omega
    simp [hj'] at h1 h2
    rw [h1] at h2
    cases h2
  | succ fuel ih =>
    intro listed E a M hsz h0 hD hG hS hH hN hdf
    refine ⟨fun hnil => fin listed E a M (fun j hj => ready_nil hsz hl hnil j hj) hG hS hH hN hdf, fun i hi => ?_⟩
    obtain ⟨h1, o, ho, hdeps⟩ := mem_ready.1 hi
    have ho' : l[i]? = some o := by simpa using ho
    have hil : i < l.length := (List.getElem?_eq_some_iff.1 ho').1
    have hi' : i < listed.size := by omega
    have hno : listed.getD i false = false := by simpa [Array.getD, hi'] using h1
    have hdeps' : ∀ e ∈ o.after.toList, Region.binds .any e = true → listed.getD e.on false = true := fun e he hb => hdeps e (by simpa using he) hb
    obtain ⟨e, he⟩ : ∃ e, s[i]? = some e := ⟨s[i], List.getElem?_eq_getElem (by omega)⟩
    have hFi : F[i]? = some (fp e) := by rw [← hF]; simp [he]
    obtain ⟨hed, hOS, hR⟩ := hs.get 0 i o e ho' he
    simp only [Nat.zero_add] at hOS hR
    have before : ∀ j p g, l[j]? = some p → F[j]? = some g → j ≠ i → conf l.toArray o (fp e) p g = true → listed.getD j false = decide (j < i) := by
      intro j p g hp hg hne hcf
      rcases chk_get hc ho' hFi hp hg (Ne.symm hne) hcf with ⟨h2, h3⟩ | ⟨h2, h3⟩
      · rw [show decide (j < i) = true from by simpa using h2]
        exact bit_listed (L := fun k => listed.getD k false) hD i o ho' hdeps' j h3
      · rw [show decide (j < i) = false from by simp; omega]
        cases hj : listed.getD j false with
        | false => rfl
        | true =>
          have := bit_listed (L := fun k => listed.getD k false) hD j p hp (hD j p hp hj) i h3
          rw [show listed.getD i false = true from this] at hno
          cases hno
    have spec : ∀ (j : Nat) (e' : Spec), s[j]? = some e' → ∃ p : Oper, l[j]? = some p ∧ F[j]? = some (fp e') ∧ e'.d = p.dst := by
      intro j e' he'
      have hj : j < l.length := by rw [← hlen]; exact (List.getElem?_eq_some_iff.1 he').1
      exact ⟨l[j], List.getElem?_eq_getElem hj, by rw [← hF]; simp [he'], (hs.get 0 j _ e' (List.getElem?_eq_getElem hj) he').1⟩
    have rdS : ∀ t, t ∈ readsOf l.toArray o → lkS (stL (fun k => listed.getD k false) s 0 Γ).s t = lkS (stL (fun j => decide (j < i)) s 0 Γ).s t := by
      intro t ht
      refine stL_s s 0 Γ Γ (fun j e' he' hw => ?_) rfl
      rw [Nat.zero_add]
      obtain ⟨p, hp, hg, hd'⟩ := spec j e' he'
      by_cases hji : j = i
      · subst hji; rw [hno]; simp
      · refine before j p _ hp hg hji ?_
        unfold Spec.wS at hw
        unfold conf
        rw [← hd', hw]
        simp [ht]
    have rdH : ∀ n, n ∈ e.R.map (·.1) → lkH (stL (fun k => listed.getD k false) s 0 Γ).h n = lkH (stL (fun j => decide (j < i)) s 0 Γ).h n := by
      intro n hn
      refine stL_h s 0 Γ Γ (fun j e' he' hw => ?_) rfl
      rw [Nat.zero_add]
      obtain ⟨p, hp, hg, hd'⟩ := spec j e' he'
      by_cases hji : j = i
      · subst hji; rw [hno]; simp
      · refine before j p _ hp hg hji ?_
        unfold conf
        rw [Bool.or_eq_true]
        refine .inr ?_
        rw [List.any_eq_true]
        exact ⟨n, hw, by rw [Bool.or_eq_true]; exact .inl (by simpa [fp] using hn)⟩
    have hop := hOS E a hG (fun t ht => by rw [← rdS t ht]; exact hH.1 t) (fun n y hn => hH.2 n y (by rw [rdH n (List.mem_map.2 ⟨_, hn, rfl⟩)]; exact hR n y hn))
    let L' : Nat → Bool := fun k => (listed.setIfInBounds i true).getD k false
    have hL' : ∀ k, L' k = (if k = i then true else listed.getD k false) := fun k => by
      by_cases hk : k = i
      · subst hk; simp [L', Array.getD, hi']
      · rw [if_neg hk]; exact getD_set_ne false (fun e => hk e.symm)
    have go : ∀ v w', Post E e.x e.U v w' → wpAnyIn (wideAt ro) kk P .any l.toArray Q fuel (listed.setIfInBounds i true) (a.put o.dst v) w' := by
      rintro v w' ⟨E', rfl, hSt, hG', hx, hU⟩
      refine ih _ E' _ (M ++ e.U.map (·.1)) (by simpa using hsz) (by have := left_set h1; omega) ?_ hG' (hS.trans hSt) ⟨fun t => ?_, fun n y hn => ?_⟩ (by rw [put_size, hN]) (by rw [put_defers, hdf])
      · intro j p hp hj e' he' hb'
        have hj : L' j = true := hj
        show L' e'.on = true
        rw [hL'] at hj ⊢
        by_cases hji : j = i
        · subst hji
          rw [ho'] at hp
          injection hp with hp
          subst hp
          rw [hdeps' e' he' hb']
          simp
        · rw [if_neg hji] at hj
          have := hD j p hp hj e' he' hb'
          simp only at this
          rw [this]
          simp
      · show Rep E' (lkS (stL L' s 0 Γ).s t) _
        by_cases hw : e.wS t
        · have := (stL_last (L := L') s 0 Γ i e he (by rw [Nat.zero_add, hL', if_pos rfl])).1 t hw fun j e' he' hj hw' => by
            obtain ⟨p, hp, hg, hd'⟩ := spec j e' he'
            rw [Nat.zero_add, hL', if_neg (by omega)]
            have := before j p _ hp hg (by omega) (by
              unfold Spec.wS at hw hw'
              unfold conf
              rw [← hd', hw', ← hed, hw]
              simp)
            rw [this]
            simp
            omega
          rw [this]
          unfold Spec.wS at hw
          rw [← hed, hw]
          show Rep E' e.x ((a.tmps.setIfInBounds t v).getD t undef)
          rw [getD_set_eq' _ _ _ (by
            rw [hN]
            unfold dstLt at hd
            rw [List.all_eq_true] at hd
            have := hd o (List.mem_of_getElem? ho')
            rw [← hed, hw] at this
            simpa using this)]
          exact hx
        · have : lkS (stL L' s 0 Γ).s t = lkS (stL (fun k => listed.getD k false) s 0 Γ).s t := by
            refine stL_s s 0 Γ Γ (fun j e' he' hw' => ?_) rfl
            rw [Nat.zero_add, hL']
            by_cases hji : j = i
            · subst hji
              rw [he] at he'
              injection he' with he'
              subst he'
              exact absurd hw' hw
            · rw [if_neg hji]
          rw [this]
          have hv : (a.put o.dst v).tmps.getD t undef = a.tmps.getD t undef := by
            unfold Spec.wS at hw
            rw [← hed]
            cases hd2 : e.d with
            | none => rfl
            | some d => exact getD_set_ne' _ _ fun e2 => hw (by rw [hd2, e2])
          rw [hv]
          exact Rep.step hSt _ _ (hH.1 t)
      · have hn : lkH (stL L' s 0 Γ).h n = some y := hn
        by_cases hw : e.wH n
        · obtain ⟨z, hz⟩ := lkH_some hw
          have := (stL_last (L := L') s 0 Γ i e he (by rw [Nat.zero_add, hL', if_pos rfl])).2 n z hz fun j e' he' hj hw' => by
            obtain ⟨p, hp, hg, hd'⟩ := spec j e' he'
            rw [Nat.zero_add, hL', if_neg (by omega)]
            have := before j p _ hp hg (by omega) (by
              unfold conf
              rw [Bool.or_eq_true]
              refine .inr ?_
              rw [List.any_eq_true]
              exact ⟨n, hw', by rw [Bool.or_eq_true]; exact .inr (by simpa [fp, Spec.wH] using hw)⟩)
            rw [this]
            simp
            omega
          rw [this] at hn
          injection hn with hn
          subst hn
          exact hU n z hz
        · have : lkH (stL L' s 0 Γ).h n = lkH (stL (fun k => listed.getD k false) s 0 Γ).h n := by
            refine stL_h s 0 Γ Γ (fun j e' he' hw' => ?_) rfl
            rw [Nat.zero_add, hL']
            by_cases hji : j = i
            · subst hji
              rw [he] at he'
              injection he' with he'
              subst he'
              exact absurd hw' hw
            · rw [if_neg hji]
          rw [this] at hn
          exact HAt.step hSt hw (hH.2 n y hn)
    unfold wpOpIn
    simp only [ho]
    split
    · rename_i hw
      rw [if_pos hw] at hop
      exact wpIn_of_growsB (hop.mono go)
    · rename_i hw
      rw [if_neg hw] at hop
      exact ⟨fun _ _ => trivial, go _ _ hop⟩
end
end Go.Proofs.YtpbaiighifhfnaaDoor
namespace Go.Proofs.YtpbaiighifhfnaaDoor
open Go.RowKit
set_option linter.unusedVariables false

/-- What a run leaves of memory: only blocks of its own names have been written to; the names D are where they were. -/
structure Kept (D : List Nat) (E E' : Env) : Prop where
  os : E'.w.os = E.w.os
  tape : E'.w.tape = E.w.tape
  output : E'.w.output = E.w.output
  size : E.w.heap.size ≤ E'.w.heap.size
  bad : E'.bad = E.bad
  keep : ∀ b, b < E.w.heap.size → (∀ n, E.loc n ≠ .at b) → E'.w.heap[b]? = E.w.heap[b]?
  from_ : ∀ n b, E'.loc n = .at b → E.w.heap.size ≤ b ∨ ∃ m, E.loc m = .at b
  born : ∀ n ∈ D, E'.loc n ≠ .unborn
  nil_ : ∀ n ∈ D, E'.loc n = .nil → E.loc n = .nil
  same : ∀ n ∈ D, ∀ b, E'.loc n = .at b → E.loc n = .at b ∧ ∀ cur t, E.w.heap[b]? = some (.cells cur t (0, 0)) → ∃ cur', E'.w.heap[b]? = some (.cells cur' t (0, 0)) ∧ cur'.size = cur.size
theorem Kept.refl {D : List Nat} {E : Env} (h : ∀ n ∈ D, E.loc n ≠ .unborn) : Kept D E E :=
  ⟨rfl, rfl, rfl, Nat.le_refl _, rfl, fun _ _ _ => rfl, fun n b h => .inr ⟨n, h⟩, h, fun n _ h => h, fun n _ b hb => ⟨hb, fun cur t hc => ⟨cur, hc, rfl⟩⟩⟩
theorem Kept.trans {D : List Nat} {E E' E'' : Env} (h : Kept D E E') (k : Kept D E' E'') : Kept D E E'' where
  os := k.os.trans h.os
  tape := k.tape.trans h.tape
  output := k.output.trans h.output
  size := Nat.le_trans h.size k.size
  bad := k.bad.trans h.bad
  keep b hb hn := by
    refine (k.keep b (Nat.lt_of_lt_of_le hb h.size) fun n hn' => ?_).trans (h.keep b hb hn)
    rcases h.from_ n b hn' with h1 | ⟨m, h1⟩
    · omega
    · exact hn m h1
  from_ n b hb := by
    rcases k.from_ n b hb with h1 | ⟨m, h1⟩
    · exact .inl (Nat.le_trans h.size h1)
    · exact h.from_ m b h1
  born := k.born
  nil_ n hn hl := h.nil_ n hn (k.nil_ n hn hl)
  same n hn b hb := by
    obtain ⟨h1, h2⟩ := k.same n hn b hb
    obtain ⟨h3, h4⟩ := h.same n hn b h1
    refine ⟨h3, fun cur t hc => ?_⟩
    obtain ⟨cur', h5, h6⟩ := h4 cur t hc
    obtain ⟨cur'', h7, h8⟩ := h2 cur' t h5
    exact ⟨cur'', h7, h8.trans h6⟩
theorem Step.kept {D N : List Nat} {E E' : Env} (h : Step E E' N) (hD : ∀ n ∈ D, E.loc n ≠ .unborn) : Kept D E E' where
  os := h.os
  tape := h.tape
  output := h.output
  size := h.size
  bad := h.bad
  keep := h.keep
  from_ n b hb := by
    rcases h.from_ n b hb with h1 | ⟨_, h1⟩
    · exact .inr ⟨n, h1⟩
    · exact h1
  born n hn := h.born n (hD n hn)
  nil_ n hn hl := by
    rcases h.nil_ n hl with h1 | h1
    · exact h1
    · exact absurd h1 (hD n hn)
  same n hn b hb := by
    rcases h.from_ n b hb with h1 | ⟨h1, _⟩
    · exact ⟨h1, fun cur t hc => h.shape n b cur t hb h1 hc⟩
    · exact absurd h1 (hD n hn)

/-- A state fits the context. -/
structure Fit (N : Nat) (D : List Nat) (E : Env) (a : Act) (Γ : Ctx) : Prop where
  good : Good E
  size : a.tmps.size = N
  born : ∀ n ∈ D, E.loc n ≠ .unborn
  holds : Holds E a.tmps Γ
/-- From the context Γ the code ends by Q; ro: in a round of a loop over a function, or in none. -/
def AWo (ro : Option Nat) (P : Program) (N : Nat) (D : List Nat) (c : Code) (Q : Exit → Ctx → Prop) (Γ : Ctx) : Prop :=
  ∀ (E : Env) (a : Act), Fit N D E a Γ → c.wpIn (wideAt ro) 0 P (fun e a' w' => ∃ E' Γ', E'.w = w' ∧ Kept D E E' ∧ Fit N D E' a' Γ' ∧ a'.defers = a.defers ∧ Q e Γ') a E.w
abbrev AW := AWo none

section
variable {P : Program} {N : Nat} {D : List Nat} {Q : Exit → Ctx → Prop} {Γ : Ctx} {ro : Option Nat}
theorem aw_skip (h : Q .normal Γ) : AWo ro P N D .skip Q Γ := fun E a hF => wpIn_skip ⟨E, Γ, rfl, Kept.refl hF.born, hF, rfl, h⟩
theorem aw_exit {id : Nat} (h : Q (.exit id) Γ) : AWo ro P N D (.exit id) Q Γ := fun E a hF => wpIn_exit ⟨E, Γ, rfl, Kept.refl hF.born, hF, rfl, h⟩
theorem aw_ret (h : Q .ret Γ) : AWo ro P N D .ret Q Γ := fun E a hF => wpIn_ret ⟨E, Γ, rfl, Kept.refl hF.born, hF, rfl, h⟩
def thenA (next : Ctx → Prop) (Q : Exit → Ctx → Prop) : Exit → Ctx → Prop
  | .normal, Γ => next Γ
  | e, Γ => Q e Γ
theorem aw_seq {x y : Code} (h : AWo ro P N D x (thenA (AWo ro P N D y Q) Q) Γ) : AWo ro P N D (.seq x y) Q Γ := fun E a hF => by
  refine wpIn_seq (wpIn_mono (h E a hF) ?_)
  rintro e a' w' ⟨E', Γ', rfl, hK, hF', hd, hq⟩
  cases e
  case normal =>
    exact wpIn_mono ((show AWo ro P N D y Q Γ' from hq) E' a' hF') fun e a'' w'' ⟨E'', Γ'', h1, h2, h3, h5, h4⟩ => ⟨E'', Γ'', h1, hK.trans h2, h3, h5.trans hd, h4⟩
  all_goals exact ⟨E', Γ', rfl, hK, hF', hd, hq⟩
def inBlockA (id : Nat) (Q : Exit → Ctx → Prop) : Exit → Ctx → Prop
  | .exit id', Γ => bif Nat.beq id' id then Q .normal Γ else Q (.exit id') Γ
  | e, Γ => Q e Γ
theorem aw_block {id : Nat} {c : Code} (h : AWo ro P N D c (inBlockA id Q) Γ) : AWo ro P N D (.block id c) Q Γ := fun E a hF => by
  refine wpIn_block (wpIn_mono (h E a hF) ?_)
  rintro e a' w' ⟨E', Γ', rfl, hK, hF', hd, hq⟩
  cases e
  case exit id' =>
    by_cases hid : id' = id
    · subst hid
      simp only [Exit.inBlock, if_true]
      exact ⟨E', Γ', rfl, hK, hF', hd, by simpa [inBlockA] using hq⟩
    · simp only [Exit.inBlock, hid, if_false]
      exact ⟨E', Γ', rfl, hK, hF', hd, by simpa [inBlockA, beqF hid] using hq⟩
  all_goals exact ⟨E', Γ', rfl, hK, hF', hd, hq⟩
/-- An operand's value. -/
def evA (σ : List (Nat × Av)) : Operand → Av
  | .tmp t => lkS σ t
  | .const v => .val v
  | .func f => .clo f []
  | .global _ => .any
theorem rep_eval {E : Env} {a : Act} (h : ∀ t, Rep E (lkS Γ.s t) (a.tmps.getD t undef)) (p : Operand) : Rep E (evA Γ.s p) (a.eval p) := by
  cases p with
  | tmp t => exact h t
  | const v => unfold evA Rep; rfl
  | func f => unfold evA Rep; exact ⟨[], rfl, by unfold RepL; rfl⟩
  | global g => unfold evA Rep; trivial
theorem aw_cond {p : Operand} {x y : Code} {b : Bool} (hp : evA Γ.s p = .val (.bool b)) (h1 : b = true → AWo ro P N D x Q Γ) (h2 : b = false → AWo ro P N D y Q Γ) : AWo ro P N D (.cond p x y) Q Γ := fun E a hF => by
  have := rep_eval hF.holds.1 p
  rw [hp] at this
  unfold Rep at this
  exact wpIn_cond_split this (fun hb => h1 hb E a hF) (fun hb => h2 hb E a hF)
/-- The operations l, and then K of the state and the footprints. -/
def Ck (bb : Bool) (P : Program) (ops : Array Oper) (l : List Oper) (Γ : Ctx) (K : Ctx → List (List Nat × List Nat) → Prop) : Prop := ∃ Γ' F, Ch bb P ops l Γ Γ' F ∧ K Γ' F
theorem ck_nil {bb : Bool} {ops : Array Oper} {K : Ctx → List (List Nat × List Nat) → Prop} (h : K Γ []) : Ck bb P ops [] Γ K := ⟨Γ, [], Ch.nil Γ, h⟩
theorem aw_text {l : List Oper} {id : Nat} (hd : dstLt N l = true) (hc : Ck true P l.toArray l Γ fun Γ' _ => Q .normal Γ') : AWo ro P N D (.region id l.toArray false) Q Γ := fun E a hF => by
  obtain ⟨Γ', F, h, hq⟩ := hc
  refine wpIn_region_lit (l := l) ?_
  exact h.text hd E a hF.good hF.holds hF.size fun E' a' M hG hS hH hN hdf => ⟨E', Γ', rfl, hS.kept hF.born, ⟨hG, hN, fun n hn => (hS.kept hF.born).born n hn, hH⟩, hdf, hq⟩
def drawChk (N : Nat) (l : List Oper) (F : List (List Nat × List Nat)) : Bool := dstLt N l && lexB .any l 0 && chk l F
theorem aw_draw {l : List Oper} {id : Nat} (hm : P.follows .mixedOrders = true) (hck : Ck true P l.toArray l Γ fun Γ' F => drawChk N l F = true ∧ Q .normal Γ') : AWo ro P N D (.region id l.toArray true) Q Γ := fun E a hF => by
  obtain ⟨Γ', F, h, hc, hq⟩ := hck
  unfold drawChk at hc
  rw [Bool.and_eq_true, Bool.and_eq_true] at hc
  obtain ⟨⟨hd, hl⟩, hc⟩ := hc
  obtain ⟨s, hs, hF', hE⟩ := h.specs
  have hb : Below E.w.heap.size E.w E.w.drew := (Below.refl _ _).drew
  have hS := Step.grow hF.good hb
  have := h.any (ro := ro) (kk := 0) (Q := fun e a' w' => ∃ E' Γ', E'.w = w' ∧ Kept D E E' ∧ Fit N D E' a' Γ' ∧ a'.defers = a.defers ∧ Q e Γ') hd hl hc { E with w := E.w.drew } a.defers (fun E' a' M hG hS' hH hN hdf => by
    have hK := (hS.trans hS').kept hF.born
    exact ⟨E', Γ', rfl, hK, ⟨hG, hN, fun n hn => hK.born n hn, hH⟩, hdf, hq⟩) s hs hF' hE l.toArray.size (Array.replicate l.toArray.size false) { E with w := E.w.drew } a [] (by simp) (by simp [left, List.countP_replicate])
      (fun i o _ hi => by by_cases h : i < l.length <;> simp [Array.getD, h] at hi) (hF.good.grow hb) (Step.refl _) (by
        rw [stL_none _ _ _ _ fun j hj => by by_cases h : j < l.length <;> simp [Array.getD, h]]
        exact ⟨fun t => Rep.step hS _ _ (hF.holds.1 t), fun n x hx => HAt.step hS (by simp) (hF.holds.2 n x hx)⟩) hF.size rfl
  exact wpIn_region_any hm this
/-- What fits the one context fits the other, memory being as it is. -/
def Le (N : Nat) (D : List Nat) (Γ τ : Ctx) : Prop := ∀ (E : Env) (a : Act), Fit N D E a Γ → ∃ E', E'.w = E.w ∧ Kept D E E' ∧ Fit N D E' a τ
theorem Le.refl : Le N D Γ Γ := fun E a h => ⟨E, rfl, Kept.refl h.born, h⟩
theorem aw_le {τ : Ctx} {c : Code} (hl : Le N D Γ τ) (h : AWo ro P N D c Q τ) : AWo ro P N D c Q Γ := fun E a hF => by
  obtain ⟨E', hw, hK, hF'⟩ := hl E a hF
  rw [← hw]
  exact wpIn_mono (h E' a hF') fun e a' w' ⟨E'', Γ', h1, h2, h3, h4⟩ => ⟨E'', Γ', h1, hK.trans h2, h3, h4⟩
/-- A loop: the states by an index. -/
theorem aw_loop {ι : Type} {c : Code} (F : ι → Ctx) (I : ι → Prop) (μ : ι → Nat) (i0 : ι) (h0 : I i0) (hl : Le N D Γ (F i0))
    (round : ∀ i, I i → AWo ro P N D c (thenA (fun Γ' => ∃ j, I j ∧ μ j < μ i ∧ Le N D Γ' (F j)) Q) (F i)) : AWo ro P N D (.loop c) Q Γ := fun E a hF => by
  obtain ⟨E0, hw0, hK0, hF0⟩ := hl E a hF
  refine wpIn_loop_ghost (fun n b w => ∃ E' i, E'.w = w ∧ I i ∧ μ i = n ∧ Kept D E E' ∧ Fit N D E' b (F i) ∧ b.defers = a.defers) (μ i0) ⟨E0, i0, hw0, h0, rfl, hK0, hF0, rfl⟩ ?_
  rintro n b w ⟨E', i, rfl, hi, rfl, hK, hF', hd⟩
  refine wpIn_mono (round i hi E' b hF') ?_
  rintro e a' w' ⟨E'', Γ', rfl, hK', hF'', hd', hq⟩
  cases e
  case normal =>
    obtain ⟨j, hj, hlt, hle⟩ := hq
    obtain ⟨E3, h1, h2, h3⟩ := hle E'' a' hF''
    exact ⟨μ j, hlt, E3, j, h1, hj, rfl, (hK.trans hK').trans h2, h3, hd'.trans hd⟩
  all_goals exact ⟨E'', Γ', rfl, hK.trans hK', hF'', hd'.trans hd, hq⟩
/-- Less is known. -/
def subS (σ : List (Nat × Av)) : List (Nat × Av) → Prop
  | [] => True
  | (t, x) :: r => (x = .any ∨ lkS σ t = x) ∧ subS σ r
def subH (η : List (Nat × Hs)) : List (Nat × Hs) → Prop
  | [] => True
  | (n, y) :: r => lkH η n = some y ∧ subH η r
theorem subS_get {σ : List (Nat × Av)} : ∀ {τ : List (Nat × Av)}, subS σ τ → ∀ t, lkS τ t = .any ∨ lkS σ t = lkS τ t
  | [], _, t => .inl rfl
  | (u, x) :: r, h, t => by
    by_cases e : u = t
    · subst e; rw [lkS_eq]; exact h.1
    · rw [lkS_ne _ _ e]; exact subS_get h.2 t
theorem subH_get {η : List (Nat × Hs)} : ∀ {τ : List (Nat × Hs)}, subH η τ → ∀ n y, lkH τ n = some y → lkH η n = some y
  | [], _, n, y, h => by simp [lkH] at h
  | (u, x) :: r, h, n, y, hy => by
    by_cases e : u = n
    · subst e
      simp [lkH] at hy
      subst hy
      exact h.1
    · simp only [lkH, beqF e, cond_false] at hy
      exact subH_get h.2 n y hy
theorem Holds.weaken {E : Env} {tm : Array Value} {τ : Ctx} (h : Holds E tm Γ) (hs : subS Γ.s τ.s) (hh : subH Γ.h τ.h) : Holds E tm τ := by
  refine ⟨fun t => ?_, fun n y hy => h.2 n y (subH_get hh n y hy)⟩
  rcases subS_get hs t with h1 | h1
  · rw [h1]; unfold Rep; trivial
  · rw [← h1]; exact h.1 t
theorem Le.sub {τ : Ctx} (hs : subS Γ.s τ.s) (hh : subH Γ.h τ.h) : Le N D Γ τ := fun E a h => ⟨E, rfl, Kept.refl h.born, ⟨h.good, h.size, h.born, h.holds.weaken hs hh⟩⟩
theorem Le.trans {τ υ : Ctx} (h : Le N D Γ τ) (k : Le N D τ υ) : Le N D Γ υ := fun E a hF => by
  obtain ⟨E1, h1, h2, h3⟩ := h E a hF
  obtain ⟨E2, k1, k2, k3⟩ := k E1 a h3
  exact ⟨E2, k1.trans h1, h2.trans k2, k3⟩
end

/-! ### Functions -/
/-- Called with arguments that read so, the function returns what reads as x; of the named blocks it finds R and leaves U. -/
def FC (P : Program) (f : FuncId) (args : List Av) (R : List (Nat × Hs)) (x : Av) (U : List (Nat × Hs)) : Prop :=
  ∀ (E : Env) (vs : List Value), Good E → RepL E args vs → (∀ n y, lkH R n = some y → HAt E n y) → (∀ n ∈ R.map (·.1), E.loc n ≠ .unborn) → (∀ n, n ∉ R.map (·.1) → E.loc n = .unborn) →
    Calls P f vs.toArray E.w fun e w' => ∃ E' v, e = .returned v ∧ E'.w = w' ∧ Good E' ∧ Kept (R.map (·.1)) E E' ∧ Rep E' x v ∧ ∀ n y, lkH U n = some y → HAt E' n y
/-- The function's result. -/
def ResOk (P : Program) (fn : Func) (Γ : Ctx) (x : Av) : Prop := ∀ (E : Env) (a : Act), Good E → Holds E a.tmps Γ → ∃ v, (results fn a.tmps).run P E.w = .ok v E.w ∧ Rep E x v
def argS : List Av → Nat → List (Nat × Av)
  | [], _ => []
  | x :: r, k => (k, x) :: argS r (k + 1)
def unb : Nat → List (Nat × Hs)
  | 0 => []
  | n + 1 => (n, .unborn) :: unb n
theorem argS_rep {E : Env} : ∀ (xs : List Av) (vs : List Value) (k : Nat) (tm : Array Value), RepL E xs vs → (∀ i v, vs[i]? = some v → tm.getD (k + i) undef = v) → ∀ t, Rep E (lkS (argS xs k) t) (tm.getD t undef)
  | [], vs, k, tm, _, _, t => by unfold argS lkS Rep; trivial
  | x :: xs, vs, k, tm, h, hv, t => by
    unfold RepL at h
    obtain ⟨v, us, rfl, h1, h2⟩ := h
    unfold argS
    by_cases e : k = t
    · subst e
      rw [lkS_eq]
      have := hv 0 v rfl
      rw [Nat.add_zero] at this
      rw [this]
      exact h1
    · rw [lkS_ne _ _ e]
      exact argS_rep xs us (k + 1) tm h2 (fun i u hu => by have := hv (i + 1) u (by simpa using hu); rwa [show k + 1 + i = k + (i + 1) from by omega]) t
theorem unb_get {n : Nat} {y : Hs} : ∀ {K : Nat}, lkH (unb K) n = some y → y = .unborn
  | 0, h => by simp [unb, lkH] at h
  | K + 1, h => by
    unfold unb lkH at h
    cases hb : Nat.beq K n with
    | true => rw [hb, cond_true] at h; injection h with h; exact h.symm
    | false => rw [hb, cond_false] at h; exact unb_get h
theorem RepL.length {E : Env} : ∀ {xs : List Av} {vs : List Value}, RepL E xs vs → vs.length = xs.length
  | [], vs, h => by unfold RepL at h; subst h; rfl
  | x :: xs, vs, h => by
    unfold RepL at h
    obtain ⟨v, us, rfl, _, h2⟩ := h
    simp [h2.length]
/-- **A function from its body.** K: so many names may be used beside those that came. -/
theorem FC.body {P : Program} {f : FuncId} {fn : Func} {c : Code} {args : List Av} {R U : List (Nat × Hs)} {x : Av} (K : Nat) (N : Nat) (hf : P.funcs[f]? = some fn) (hb : fn.body = some c) (hN : max fn.ntmps args.length = N)
    (h : AW P N (R.map (·.1)) c (fun e Γ => (e = .ret ∨ e = .normal) ∧ ResOk P fn Γ x ∧ subH Γ.h U) ⟨argS args 0, R ++ unb K⟩) : FC P f args R x U := by
  intro E vs hG hA hR hB hU
  refine calls_of_wp hf hb ?_
  have hlen := hA.length
  refine wp_mono (wpIn_wide.1 (h E _ ⟨hG, ?_, hB, fun t => argS_rep args vs 0 _ hA (fun i v hv => ?_) t, fun n y hn => ?_⟩)) ?_
  · simp [hlen]; omega
  · have hi := (List.getElem?_eq_some_iff.1 hv)
    obtain ⟨hi1, hi2⟩ := hi
    rw [Array.getD_eq_getD_getElem?, Nat.zero_add, Array.getElem?_append_left (by simpa using hi1)]
    simp [hv]
  · rw [lkH_app] at hn
    by_cases hm : n ∈ R.map (·.1)
    · obtain ⟨z, hz⟩ := lkH_some hm
      rw [hz] at hn
      simp at hn
      subst hn
      exact hR n z hz
    · rw [lkH_none hm] at hn
      have := unb_get (n := n) (y := y) (K := K) (by simpa using hn)
      subst this
      exact hU n hm
  · rintro e a' w' ⟨E', Γ', rfl, hK, hF, hdf, he, hres, hsub⟩
    obtain ⟨v, hr, hx⟩ := hres E' a' hF.good hF.holds
    have fin : ∃ E'' v', Ending.returned v = .returned v' ∧ E''.w = E'.w ∧ Good E'' ∧ Kept (R.map (·.1)) E E'' ∧ Rep E'' x v' ∧ ∀ n y, lkH U n = some y → HAt E'' n y :=
      ⟨E', v, rfl, rfl, hF.good, hK, hx, fun n y hy => hF.holds.2 n y (subH_get hsub n y hy)⟩
    rcases he with rfl | rfl
    · exact ⟨hdf, v, hr, fin⟩
    · exact ⟨hdf, v, hr, fin⟩
theorem ResOk.tmp {P : Program} {fn : Func} {Γ : Ctx} {x : Av} {t : Nat} (h : fn.results = #[.tmp t]) (hx : lkS Γ.s t = x) : ResOk P fn Γ x := fun E a hG hH => by
  subst hx
  exact ⟨_, results_tmp h _ _ _, hH.1 t⟩
theorem ResOk.tmp2 {P : Program} {fn : Func} {Γ : Ctx} {x y : Av} {t u : Nat} (h : fn.results = #[.tmp t, .tmp u]) (hx : lkS Γ.s t = x) (hy : lkS Γ.s u = y) : ResOk P fn Γ (.tup [x, y]) := fun E a hG hH => by
  subst hx hy
  refine ⟨_, results_tmp2 h _ _ _, ?_⟩
  unfold Rep
  refine ⟨[_, _], rfl, ?_⟩
  unfold RepL RepL RepL
  exact ⟨_, _, rfl, hH.1 t, _, _, rfl, hH.1 u, rfl⟩
end Go.Proofs.YtpbaiighifhfnaaDoor
