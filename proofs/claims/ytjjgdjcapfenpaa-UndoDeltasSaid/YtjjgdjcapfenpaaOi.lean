/- Names that are given to nil, frozen, forgotten; results that lie in memory; parts of slices; texts and bytes. No program stands in this text. -/
import Derived.Test.YtjjgdjcapfenpaaOh
namespace Go.Proofs.Ytjjgdjcapfenpaa
open Go.RowKit
set_option linter.unusedVariables false
set_option linter.unusedSimpArgs false

/-- The environment with another standing for one name. -/
def Env.re (E : Env) (n : Nat) (L : Loc) : Env := { w := E.w, loc := fun m => if m = n then L else E.loc m, bad := E.bad }
theorem Step.nil_name {E : Env} {n : Nat} (hn : E.loc n = .unborn) : Step E (E.re n .nil) [n] := by
  refine ⟨rfl, rfl, rfl, Nat.le_refl _, rfl, fun _ _ _ => rfl, fun m hm => ?_, fun m hm => ?_, fun m b hb => ?_, fun m hm => ?_, fun m b cur t hb hb' hc => ⟨cur, hc, rfl⟩⟩
  · have hm : m ≠ n := by simpa using hm
    exact ⟨by simp [Env.re, hm], fun _ _ => rfl⟩
  · by_cases e : m = n
    · simp [Env.re, e]
    · simpa [Env.re, e] using hm
  · by_cases e : m = n
    · simp [Env.re, e] at hb
    · simp [Env.re, e] at hb; exact .inl hb
  · by_cases e : m = n
    · subst e; exact .inr hn
    · simp [Env.re, e] at hm; exact .inl hm
theorem Step.kill (E : Env) (n : Nat) (hn : E.loc n ≠ .unborn) : Step E (E.re n .dead) [n] := by
  refine ⟨rfl, rfl, rfl, Nat.le_refl _, rfl, fun _ _ _ => rfl, fun m hm => ?_, fun m hm => ?_, fun m b hb => ?_, fun m hm => ?_, fun m b cur t hb hb' hc => ⟨cur, hc, rfl⟩⟩
  · have hm : m ≠ n := by simpa using hm
    exact ⟨by simp [Env.re, hm], fun _ _ => rfl⟩
  · by_cases e : m = n
    · simp [Env.re, e]
    · simpa [Env.re, e] using hm
  · by_cases e : m = n
    · simp [Env.re, e] at hb
    · simp [Env.re, e] at hb; exact .inl hb
  · by_cases e : m = n
    · simp [Env.re, e] at hm
    · simp [Env.re, e] at hm; exact .inl hm
theorem Good.re {E : Env} (hG : Good E) {n : Nat} {L : Loc} (hL : ∀ b, L ≠ .at b) : Good (E.re n L) := by
  refine ⟨hG.old, fun i j b hi hj => ?_, fun i b hi => ?_⟩
  · have key : ∀ i b, (E.re n L).loc i = .at b → i ≠ n ∧ E.loc i = .at b := fun i b hi => by
      by_cases e : i = n
      · simp [Env.re, e] at hi; exact absurd hi (hL b)
      · simp [Env.re, e] at hi; exact ⟨e, hi⟩
    exact hG.inj i j b (key i b hi).2 (key j b hj).2
  · by_cases e : i = n
    · simp [Env.re, e] at hi; exact absurd hi (hL b)
    · simp [Env.re, e] at hi; exact hG.lt i b hi
theorem re_ok {E : Env} (hG : Good E) {n b : Nat} (hb : E.loc n = .at b) : (E.re n .dead).ok b := by
  refine ⟨(hG.lt n b hb).1, (hG.lt n b hb).2, fun m hm => ?_⟩
  by_cases e : m = n
  · simp [Env.re, e] at hm
  · simp [Env.re, e] at hm
    exact e (hG.inj m n b hm hb)
section
variable {N : Nat} {D : List Nat} {Γ : Ctx}
/-- What an environment's step makes of a fitting state. -/
theorem Le.step {τ : Ctx} (h : ∀ (E : Env) (a : Act), Fit N D E a Γ → ∃ E' M, E'.w = E.w ∧ Step E E' M ∧ Good E' ∧ Holds E' a.tmps τ) : Le N D Γ τ := fun E a hF => by
  obtain ⟨E', M, h1, h2, h3, h4⟩ := h E a hF
  have hK := h2.kept hF.born
  exact ⟨E', h1, hK, ⟨h3, hF.size, fun n hn => hK.born n hn, h4⟩⟩
/-- The empty slice nil gets a name. -/
theorem Le.nameNil {s : List (Nat × Av)} {h : List (Nat × Hs)} (t n k : Nat) (ty : TypeId) (hs : lkS s t = .val (.slice none 0 0)) (hn : lkH h n = some .unborn) : Le N D ⟨s, h⟩ ⟨(t, .osl k n 0) :: s, (n, .live ty []) :: h⟩ := Le.step fun E a hF => by
  have hu : E.loc n = .unborn := hF.holds.2 n .unborn hn
  have hS := Step.nil_name hu
  refine ⟨E.re n .nil, [n], rfl, hS, hF.good.re (by simp), fun u => ?_, fun m y hy => ?_⟩
  · by_cases e : t = u
    · subst e
      rw [lkS_eq]
      have := hF.holds.1 t
      rw [hs] at this
      unfold Rep at this ⊢
      exact ⟨⟨by simp [Env.re], ⟨none, 0, this⟩, fun _ => ⟨this, rfl⟩⟩, fun b hb => by simp [Env.re] at hb⟩
    · rw [lkS_ne _ _ e]
      exact Rep.step hS _ _ (hF.holds.1 u)
  · by_cases e : n = m
    · subst e
      simp [lkH] at hy
      subst hy
      exact .inl ⟨by simp [Env.re], rfl⟩
    · simp only [lkH, beqF e, cond_false] at hy
      exact HAt.step hS (by simp [Ne.symm e]) (hF.holds.2 m y hy)
/-- A named row, once and for all read only. -/
theorem freeze_rep {E : Env} (hG : Good E) {n k len : Nat} {t : TypeId} {cs : List Av} {row : Nat → Av} {v : Value} (hv : Rep E (.osl k n len) v) (hn : HAt E n (.live t cs)) (hl : cs.length = len * k) (hrow : ∀ j, j < len → szB (row j) k = true ∧ ∀ i y, (flatA (row j))[i]? = some y → cs[j * k + i]? = some y)
    (hval : ∀ j, j < len → ∀ (us : List Value), RepL (E.re n .dead) (flatA (row j)) us → (∀ u ∈ us, u.oneCell' = true) → ∃ u, Rep (E.re n .dead) (row j) u ∧ u.cells.toList = us) : Rep (E.re n .dead) (.sl k len row) v := by
  have hn0 : E.loc n ≠ .unborn := by unfold Rep at hv; exact hv.1.1
  have hS := Step.kill E n hn0
  unfold Rep at hv ⊢
  rcases hn with ⟨h1, rfl⟩ | ⟨b, cur, h1, h2, h3⟩
  · obtain ⟨rfl, rfl⟩ := hv.1.2.2 h1
    exact ⟨none, 0, rfl, Nat.le_refl _, Nat.zero_le _, fun h => absurd h (by simp)⟩
  · obtain ⟨c, cur', t', h4, h5, h6, h7, h8⟩ := hv.2 b h1
    rw [h2] at h7
    injection h7 with h7
    injection h7 with h7 h9
    subst h7; subst h9
    refine ⟨some ⟨b, 0, none⟩, c, h4, h5, h6, fun _ => ⟨b, 0, rfl, re_ok hG h1, fun j hj => ?_⟩⟩
    obtain ⟨hr1, hr2⟩ := hrow j hj
    obtain ⟨us, g1, g2, g3⟩ := cells_list (E := E.re n .dead) (cur := cur) (flatA (row j)) (j * k) fun i y hy => by
      obtain ⟨u, k1, k2, k3⟩ := h3 _ y (hr2 i y hy)
      exact ⟨u, k1, k2, Rep.step hS _ _ k3⟩
    obtain ⟨u, k1, k2⟩ := hval j hj us g1 g2
    refine ⟨u, k1, ?_, fun i u' hu' => ?_⟩
    · exact (flat_cells k1 hr1).1
    · rw [k2] at hu'
      rw [Nat.zero_add, show (E.re n .dead).w = E.w from rfl, cell_cur h2]
      exact g3 i u' hu'
/-- Elements that are one cell. -/
def oneA : Av → Bool
  | .agg _ => false
  | .val v => atomB v
  | .sl .. | .ptr _ | .clo .. => true
  | _ => false
theorem one_flat {y : Av} (h : oneA y = true) : flatA y = [y] ∧ szB y 1 = true := by
  cases y <;> simp_all [oneA, flatA, szB]
theorem freeze_one {E : Env} (hG : Good E) {n len : Nat} {t : TypeId} {cs : List Av} {row : Nat → Av} {v : Value} (hv : Rep E (.osl 1 n len) v) (hn : HAt E n (.live t cs)) (hl : cs.length = len) (hrow : ∀ j, j < len → cs[j]? = some (row j) ∧ oneA (row j) = true) : Rep (E.re n .dead) (.sl 1 len row) v := by
  refine freeze_rep hG hv hn (by omega) (fun j hj => ?_) (fun j hj us hus h1 => ?_)
  · obtain ⟨h1, h2⟩ := hrow j hj
    obtain ⟨h3, h4⟩ := one_flat h2
    refine ⟨h4, fun i y hy => ?_⟩
    rw [h3] at hy
    cases i with
    | zero => simp at hy; subst hy; simpa using h1
    | succ i => simp at hy
  · obtain ⟨h3, h4⟩ := hrow j hj
    rw [(one_flat h4).1] at hus
    unfold RepL RepL at hus
    obtain ⟨u, us', rfl, h5, rfl⟩ := hus
    exact ⟨u, h5, by rw [cells_one (h1 u (by simp))]⟩
/-- A slot's row is frozen. -/
theorem Le.freeze {s : List (Nat × Av)} {h : List (Nat × Hs)} (t n : Nat) {len : Nat} {ty : TypeId} {cs : List Av} (row : Nat → Av) (hs : lkS s t = .osl 1 n len) (hn : lkH h n = some (.live ty cs)) (hl : cs.length = len) (hrow : ∀ j, j < len → cs[j]? = some (row j) ∧ oneA (row j) = true) : Le N D ⟨s, h⟩ ⟨(t, .sl 1 len row) :: s, (n, .dead) :: h⟩ := Le.step fun E a hF => by
  have hv := hF.holds.1 t
  rw [hs] at hv
  have hH := hF.holds.2 n _ hn
  have hn0 : E.loc n ≠ .unborn := by unfold Rep at hv; exact hv.1.1
  have hS := Step.kill E n hn0
  refine ⟨E.re n .dead, [n], rfl, hS, hF.good.re (by simp), fun u => ?_, fun m y hy => ?_⟩
  · by_cases e : t = u
    · subst e
      rw [lkS_eq]
      exact freeze_one hF.good hv hH hl hrow
    · rw [lkS_ne _ _ e]
      exact Rep.step hS _ _ (hF.holds.1 u)
  · by_cases e : n = m
    · subst e
      simp [lkH] at hy
      subst hy
      show (E.re n .dead).loc n = .dead
      simp [Env.re]
    · simp only [lkH, beqF e, cond_false] at hy
      exact HAt.step hS (by simp [Ne.symm e]) (hF.holds.2 m y hy)
/-- A row that a cell of a named block holds is frozen. -/
theorem Le.freezeCell {s : List (Nat × Av)} {h : List (Nat × Hs)} (m i n : Nat) {len : Nat} {T ty : TypeId} {ds cs : List Av} (row : Nat → Av) (hm : lkH h m = some (.live T ds)) (hi : ds[i]? = some (.osl 1 n len)) (hn : lkH h n = some (.live ty cs)) (hmn : m ≠ n) (hl : cs.length = len) (hrow : ∀ j, j < len → cs[j]? = some (row j) ∧ oneA (row j) = true) :
    Le N D ⟨s, h⟩ ⟨s, (m, .live T (ds.set i (.sl 1 len row))) :: (n, .dead) :: h⟩ := Le.step fun E a hF => by
  have hM := hF.holds.2 m _ hm
  have hH := hF.holds.2 n _ hn
  have hn0 : E.loc n ≠ .unborn := by
    rcases hH with ⟨h1, _⟩ | ⟨b, cur, h1, _⟩ <;> rw [h1] <;> simp
  have hS := Step.kill E n hn0
  refine ⟨E.re n .dead, [n], rfl, hS, hF.good.re (by simp), fun u => Rep.step hS _ _ (hF.holds.1 u), fun j y hy => ?_⟩
  by_cases e : m = j
  · subst e
    simp [lkH] at hy
    subst hy
    rcases hM with ⟨h1, rfl⟩ | ⟨b, cur, h1, h2, h3⟩
    · simp at hi
    · refine .inr ⟨b, cur, by simp [Env.re, hmn, h1], h2, fun j y hy => ?_⟩
      rw [List.getElem?_set] at hy
      by_cases e : i = j
      · subst e
        have hlt := (List.getElem?_eq_some_iff.1 hi).1
        simp [hlt] at hy
        subst hy
        obtain ⟨u, h4, h5, h6⟩ := h3 i _ hi
        exact ⟨u, h4, h5, freeze_one hF.good h6 hH hl hrow⟩
      · rw [if_neg e] at hy
        obtain ⟨u, h4, h5, h6⟩ := h3 j y hy
        exact ⟨u, h4, h5, Rep.step hS _ _ h6⟩
  · simp only [lkH, beqF e, cond_false] at hy
    by_cases e' : n = j
    · subst e'
      simp at hy
      subst hy
      show (E.re n .dead).loc n = .dead
      simp [Env.re]
    · rw [beqF e', cond_false] at hy
      exact HAt.step hS (by simp [Ne.symm e']) (hF.holds.2 j y hy)
/-- A variable's block is frozen: a slot that leads to it reads it from here on. -/
theorem Le.freezeVar {s : List (Nat × Av)} {h : List (Nat × Hs)} (t n : Nat) {ty : TypeId} {x : Av} (hs : lkS s t = .own n 0) (hn : lkH h n = some (.live ty [x])) : Le N D ⟨s, h⟩ ⟨(t, .ptr x) :: s, (n, .dead) :: h⟩ := Le.step fun E a hF => by
  have hv := hF.holds.1 t
  rw [hs] at hv
  have hH := hF.holds.2 n _ hn
  obtain ⟨b, cur, h1, h2, h3, h4⟩ := own_at hv hH (by simp)
  have hS := Step.kill E n (by rw [h2]; simp)
  obtain ⟨u, h5, h6, h7⟩ := h4 0 x rfl
  refine ⟨E.re n .dead, [n], rfl, hS, hF.good.re (by simp), fun j => ?_, fun m y hy => ?_⟩
  · by_cases e : t = j
    · subst e
      rw [lkS_eq, h1]
      unfold Rep
      refine ⟨b, 0, u, rfl, re_ok hF.good h2, Rep.step hS _ _ h7, fun j v hj => ?_⟩
      rw [cells_one h6] at hj
      cases j with
      | zero => simp at hj; subst hj; rw [show (E.re n .dead).w = E.w from rfl, cell_cur h3]; exact h5
      | succ j => simp at hj
    · rw [lkS_ne _ _ e]
      exact Rep.step hS _ _ (hF.holds.1 j)
  · by_cases e : n = m
    · subst e
      simp [lkH] at hy
      subst hy
      show (E.re n .dead).loc n = .dead
      simp [Env.re]
    · simp only [lkH, beqF e, cond_false] at hy
      exact HAt.step hS (by simp [Ne.symm e]) (hF.holds.2 m y hy)
theorem Le.freezeRow {s : List (Nat × Av)} {h : List (Nat × Hs)} (t n : Nat) {ty : TypeId} {ds : List Av} (hs : lkS s t = .own n 0) (hn : lkH h n = some (.live ty ds)) (h0 : 0 < ds.length) : Le N D ⟨s, h⟩ ⟨(t, .ptr (.agg ds)) :: s, (n, .dead) :: h⟩ := Le.step fun E a hF => by
  have hv := hF.holds.1 t
  rw [hs] at hv
  have hH := hF.holds.2 n _ hn
  obtain ⟨b, cur, h1, h2, h3, h4⟩ := own_at hv hH h0
  have hS := Step.kill E n (by rw [h2]; simp)
  obtain ⟨vs, h5, h6, h7⟩ := cells_list (E := E.re n .dead) (cur := cur) ds 0 fun i y hy => by
    obtain ⟨u, g1, g2, g3⟩ := h4 i y hy
    exact ⟨u, by simpa using g1, g2, Rep.step hS _ _ g3⟩
  refine ⟨E.re n .dead, [n], rfl, hS, hF.good.re (by simp), fun j => ?_, fun m y hy => ?_⟩
  · by_cases e : t = j
    · subst e
      rw [lkS_eq, h1]
      unfold Rep
      refine ⟨b, 0, .agg vs.toArray, rfl, re_ok hF.good h2, by unfold Rep; exact ⟨vs, rfl, h5, h6⟩, fun j v hj => ?_⟩
      rw [show (E.re n .dead).w = E.w from rfl, cell_cur h3]
      exact h7 j v hj
    · rw [lkS_ne _ _ e]
      exact Rep.step hS _ _ (hF.holds.1 j)
  · by_cases e : n = m
    · subst e
      simp [lkH] at hy
      subst hy
      show (E.re n .dead).loc n = .dead
      simp [Env.re]
    · simp only [lkH, beqF e, cond_false] at hy
      exact HAt.step hS (by simp [Ne.symm e]) (hF.holds.2 m y hy)
end
/-! ### Names forgotten -/
mutual
def NoN (Z : List Nat) : Av → Prop
  | .any | .val _ => True
  | .sl _ _ row => ∀ j, NoN Z (row j)
  | .ptr x => NoN Z x
  | .agg cs | .tup cs | .clo _ cs => NoNL Z cs
  | .own n _ | .osl _ n _ | .oss n _ _ => n ∉ Z
  | .gd _ x | .nz x => NoN Z x
def NoNL (Z : List Nat) : List Av → Prop
  | [] => True
  | x :: xs => NoN Z x ∧ NoNL Z xs
end
mutual
theorem NoN.of_pure {Z : List Nat} : ∀ x : Av, Pure x → NoN Z x
  | .any, _ => by unfold NoN; trivial
  | .val _, _ => by unfold NoN; trivial
  | .sl _ _ row, h => by unfold Pure at h; unfold NoN; exact fun j => NoN.of_pure (row j) (h j)
  | .ptr x, h => by unfold Pure at h; unfold NoN; exact NoN.of_pure x h
  | .agg cs, h => by unfold Pure at h; unfold NoN; exact NoNL.of_pure cs h
  | .tup cs, h => by unfold Pure at h; unfold NoN; exact NoNL.of_pure cs h
  | .clo _ cs, h => by unfold Pure at h; unfold NoN; exact NoNL.of_pure cs h
  | .own _ _, h => by unfold Pure at h; exact h.elim
  | .osl _ _ _, h => by unfold Pure at h; exact h.elim
  | .oss _ _ _, h => by unfold Pure at h; exact h.elim
  | .gd _ x, h => by unfold Pure at h; unfold NoN; exact NoN.of_pure x h
  | .nz x, h => by unfold Pure at h; unfold NoN; exact NoN.of_pure x h
theorem NoNL.of_pure {Z : List Nat} : ∀ xs : List Av, PureL xs → NoNL Z xs
  | [], _ => by unfold NoNL; trivial
  | x :: xs, h => by unfold PureL at h; unfold NoNL; exact ⟨NoN.of_pure x h.1, NoNL.of_pure xs h.2⟩
end
def Env.reset (E : Env) (Z : List Nat) : Env := { w := E.w, loc := fun m => if m ∈ Z then .unborn else E.loc m, bad := E.bad }
theorem reset_loc {E : Env} {Z : List Nat} {n b : Nat} (h : (E.reset Z).loc n = .at b) : E.loc n = .at b := by
  by_cases e : n ∈ Z
  · simp [Env.reset, e] at h
  · simpa [Env.reset, e] using h
theorem reset_ok {E : Env} {Z : List Nat} {b : Nat} (h : E.ok b) : (E.reset Z).ok b := ⟨h.1, h.2.1, fun n hn => h.2.2 n (reset_loc hn)⟩
mutual
theorem Rep.reset {E : Env} {Z : List Nat} : ∀ (x : Av) (v : Value), NoN Z x → Rep E x v → Rep (E.reset Z) x v
  | .any, _, _, _ => by unfold Rep; trivial
  | .val x, v, _, hr => by unfold Rep at hr ⊢; exact hr
  | .sl k n row, v, hp, hr => by
    unfold NoN at hp
    unfold Rep at hr ⊢
    obtain ⟨A, c, h1, h2, h3, h4⟩ := hr
    refine ⟨A, c, h1, h2, h3, fun hn => ?_⟩
    obtain ⟨b, o, h5, h6, h7⟩ := h4 hn
    refine ⟨b, o, h5, reset_ok h6, fun j hj => ?_⟩
    obtain ⟨u, h8, h9, h10⟩ := h7 j hj
    exact ⟨u, Rep.reset (row j) u (hp j) h8, h9, h10⟩
  | .ptr x, v, hp, hr => by
    unfold NoN at hp
    unfold Rep at hr ⊢
    obtain ⟨b, o, u, h1, h2, h3, h4⟩ := hr
    exact ⟨b, o, u, h1, reset_ok h2, Rep.reset x u hp h3, h4⟩
  | .agg cs, v, hp, hr => by
    unfold NoN at hp
    unfold Rep at hr ⊢
    obtain ⟨vs, h1, h2, h3⟩ := hr
    exact ⟨vs, h1, RepL.reset cs vs hp h2, h3⟩
  | .tup cs, v, hp, hr => by
    unfold NoN at hp
    unfold Rep at hr ⊢
    obtain ⟨vs, h1, h2⟩ := hr
    exact ⟨vs, h1, RepL.reset cs vs hp h2⟩
  | .clo f cs, v, hp, hr => by
    unfold NoN at hp
    unfold Rep at hr ⊢
    obtain ⟨vs, h1, h2⟩ := hr
    exact ⟨vs, h1, RepL.reset cs vs hp h2⟩
  | .own n off, v, hp, hr => by
    unfold NoN at hp
    unfold Rep at hr ⊢
    simpa [Env.reset, hp] using hr
  | .osl k n len, v, hp, hr => by
    unfold NoN at hp
    unfold Rep at hr ⊢
    simpa [Env.reset, hp] using hr
  | .oss n off len, v, hp, hr => by
    unfold NoN at hp
    unfold Rep at hr ⊢
    simpa [Env.reset, hp] using hr
  | .gd c x, v, hp, hr => by
    unfold NoN at hp
    unfold Rep at hr ⊢
    exact ⟨fun hc => Rep.reset x v hp (hr.1 hc), hr.2⟩
  | .nz x, v, hp, hr => by
    unfold NoN at hp
    unfold Rep at hr ⊢
    exact ⟨Rep.reset x v hp hr.1, hr.2⟩
theorem RepL.reset {E : Env} {Z : List Nat} : ∀ (xs : List Av) (vs : List Value), NoNL Z xs → RepL E xs vs → RepL (E.reset Z) xs vs
  | [], vs, _, hr => by unfold RepL at hr ⊢; exact hr
  | x :: xs, vs, hp, hr => by
    unfold NoNL at hp
    unfold RepL at hr ⊢
    obtain ⟨v, us, h1, h2, h3⟩ := hr
    exact ⟨v, us, h1, Rep.reset x v hp.1 h2, RepL.reset xs us hp.2 h3⟩
end
def noS (Z : List Nat) : List (Nat × Av) → Prop
  | [] => True
  | (_, x) :: r => NoN Z x ∧ noS Z r
def noH (η : List (Nat × Hs)) (Z : List Nat) : List (Nat × Hs) → Prop
  | [] => True
  | (n, y) :: r => (if n ∈ Z then y = .unborn else lkH η n = some y ∧ (match y with | .live _ cs => ∀ z ∈ cs, NoN Z z | .loop _ _ _ _ _ _ σ => noS Z σ | _ => True)) ∧ noH η Z r
theorem noS_get {Z : List Nat} : ∀ {τ : List (Nat × Av)}, noS Z τ → ∀ t, NoN Z (lkS τ t)
  | [], _, t => by unfold lkS NoN; trivial
  | (u, x) :: r, h, t => by
    by_cases e : u = t
    · subst e; rw [lkS_eq]; exact h.1
    · rw [lkS_ne _ _ e]; exact noS_get h.2 t
theorem noH_get {η : List (Nat × Hs)} {Z : List Nat} : ∀ {τ : List (Nat × Hs)}, noH η Z τ → ∀ n y, lkH τ n = some y → if n ∈ Z then y = .unborn else lkH η n = some y ∧ (match y with | .live _ cs => ∀ z ∈ cs, NoN Z z | .loop _ _ _ _ _ _ σ => noS Z σ | _ => True)
  | [], _, n, y, h => by simp [lkH] at h
  | (u, x) :: r, h, n, y, hy => by
    by_cases e : u = n
    · subst e
      simp [lkH] at hy
      subst hy
      exact h.1
    · simp only [lkH, beqF e, cond_false] at hy
      exact noH_get h.2 n y hy
/-- Names are forgotten, and may be given anew. -/
theorem Le.reset {N : Nat} {D : List Nat} {Γ τ : Ctx} (Z : List Nat) (hD : ∀ n ∈ D, n ∉ Z) (hs : subS Γ.s τ.s) (hS : noS Z τ.s) (hH : noH Γ.h Z τ.h) : Le N D Γ τ := fun E a hF => by
  have hloc : ∀ n, n ∉ Z → (E.reset Z).loc n = E.loc n := fun n hn => by simp [Env.reset, hn]
  refine ⟨E.reset Z, rfl, ⟨rfl, rfl, rfl, Nat.le_refl _, rfl, fun _ _ _ => rfl, fun n b hb => .inr ⟨n, reset_loc hb⟩, fun n hn => by rw [hloc n (hD n hn)]; exact hF.born n hn, fun n hn hl => by rwa [hloc n (hD n hn)] at hl, fun n hn b hb => ⟨reset_loc hb, fun cur t hc => ⟨cur, hc, rfl⟩⟩⟩,
    ⟨⟨hF.good.old, fun n m b hn hm => hF.good.inj n m b (reset_loc hn) (reset_loc hm), fun n b hn => hF.good.lt n b (reset_loc hn)⟩, hF.size, fun n hn => by rw [hloc n (hD n hn)]; exact hF.born n hn, fun t => ?_, fun n y hy => ?_⟩⟩
  · refine Rep.reset _ _ (noS_get hS t) ?_
    rcases subS_get hs t with h1 | h1
    · rw [h1]; unfold Rep; trivial
    · rw [← h1]; exact hF.holds.1 t
  · have := noH_get hH n y hy
    by_cases e : n ∈ Z
    · rw [if_pos e] at this
      subst this
      show (E.reset Z).loc n = .unborn
      simp [Env.reset, e]
    · rw [if_neg e] at this
      have h1 := hF.holds.2 n y this.1
      cases y with
      | unborn => exact (hloc n e).trans h1
      | dead => exact (hloc n e).trans h1
      | live t cs =>
        rcases h1 with ⟨h2, h3⟩ | ⟨b, cur, h2, h3, h4⟩
        · exact .inl ⟨(hloc n e).trans h2, h3⟩
        · refine .inr ⟨b, cur, (hloc n e).trans h2, h3, fun i z hz => ?_⟩
          obtain ⟨u, h5, h6, h7⟩ := h4 i z hz
          exact ⟨u, h5, h6, Rep.reset _ _ (this.2 z (List.mem_of_getElem? hz)) h7⟩
      | loop l N' ps assign body pe σ =>
        obtain ⟨h3, r, h4, h5, h6, h7, h8, h9, h10, h11⟩ := h1
        exact ⟨(hloc n e).trans h3, r, h4, h5, h6, h7, h8, h9, h10, fun t => Rep.reset _ _ (noS_get this.2 t) (h11 t)⟩
def PureS : List (Nat × Av) → Prop
  | [] => True
  | (_, x) :: r => Pure x ∧ PureS r
theorem noS_pure {Z : List Nat} : ∀ {τ : List (Nat × Av)}, PureS τ → noS Z τ
  | [], _ => trivial
  | (_, x) :: r, h => ⟨NoN.of_pure x h.1, noS_pure h.2⟩
/-! ### Names renamed -/
mutual
def Av.ren (π : Nat → Nat) : Av → Av
  | .any => .any
  | .val v => .val v
  | .sl k n row => .sl k n fun j => (row j).ren π
  | .ptr x => .ptr (x.ren π)
  | .agg cs => .agg (renL π cs)
  | .tup cs => .tup (renL π cs)
  | .clo f cs => .clo f (renL π cs)
  | .own n off => .own (π n) off
  | .osl k n len => .osl k (π n) len
  | .oss n off len => .oss (π n) off len
  | .gd c x => .gd c (x.ren π)
  | .nz x => .nz (x.ren π)
def renL (π : Nat → Nat) : List Av → List Av
  | [] => []
  | x :: xs => x.ren π :: renL π xs
end
mutual
theorem ren_pure (π : Nat → Nat) : ∀ x : Av, Pure x → x.ren π = x
  | .any, _ => by unfold Av.ren; rfl
  | .val _, _ => by unfold Av.ren; rfl
  | .sl k n row, h => by unfold Pure at h; unfold Av.ren; congr 1; funext j; exact ren_pure π (row j) (h j)
  | .ptr x, h => by unfold Pure at h; unfold Av.ren; rw [ren_pure π x h]
  | .agg cs, h => by unfold Pure at h; unfold Av.ren; rw [renL_pure π cs h]
  | .tup cs, h => by unfold Pure at h; unfold Av.ren; rw [renL_pure π cs h]
  | .clo _ cs, h => by unfold Pure at h; unfold Av.ren; rw [renL_pure π cs h]
  | .own _ _, h => by unfold Pure at h; exact h.elim
  | .osl _ _ _, h => by unfold Pure at h; exact h.elim
  | .oss _ _ _, h => by unfold Pure at h; exact h.elim
  | .gd _ x, h => by unfold Pure at h; unfold Av.ren; rw [ren_pure π x h]
  | .nz x, h => by unfold Pure at h; unfold Av.ren; rw [ren_pure π x h]
theorem renL_pure (π : Nat → Nat) : ∀ xs : List Av, PureL xs → renL π xs = xs
  | [], _ => by unfold renL; rfl
  | x :: xs, h => by unfold PureL at h; unfold renL; rw [ren_pure π x h.1, renL_pure π xs h.2]
end
theorem renL_map (π : Nat → Nat) : ∀ xs : List Av, renL π xs = xs.map (Av.ren π)
  | [] => by unfold renL; rfl
  | x :: xs => by unfold renL; rw [renL_map π xs]; rfl
def Env.ren (E : Env) (π : Nat → Nat) : Env := { w := E.w, loc := fun n => E.loc (π n), bad := E.bad }
mutual
theorem Rep.ren {E : Env} {π : Nat → Nat} : ∀ (x : Av) (v : Value), Rep E (x.ren π) v → Rep (E.ren π) x v
  | .any, _, _ => by unfold Rep; trivial
  | .val x, v, hr => by unfold Av.ren at hr; unfold Rep at hr ⊢; exact hr
  | .sl k n row, v, hr => by
    unfold Av.ren at hr
    unfold Rep at hr ⊢
    obtain ⟨A, c, h1, h2, h3, h4⟩ := hr
    refine ⟨A, c, h1, h2, h3, fun hn => ?_⟩
    obtain ⟨b, o, h5, h6, h7⟩ := h4 hn
    refine ⟨b, o, h5, ⟨h6.1, h6.2.1, fun n hn => h6.2.2 _ hn⟩, fun j hj => ?_⟩
    obtain ⟨u, h8, h9, h10⟩ := h7 j hj
    exact ⟨u, Rep.ren (row j) u h8, h9, h10⟩
  | .ptr x, v, hr => by
    unfold Av.ren at hr
    unfold Rep at hr ⊢
    obtain ⟨b, o, u, h1, h2, h3, h4⟩ := hr
    exact ⟨b, o, u, h1, ⟨h2.1, h2.2.1, fun n hn => h2.2.2 _ hn⟩, Rep.ren x u h3, h4⟩
  | .agg cs, v, hr => by
    unfold Av.ren at hr
    unfold Rep at hr ⊢
    obtain ⟨vs, h1, h2, h3⟩ := hr
    exact ⟨vs, h1, RepL.ren cs vs h2, h3⟩
  | .tup cs, v, hr => by
    unfold Av.ren at hr
    unfold Rep at hr ⊢
    obtain ⟨vs, h1, h2⟩ := hr
    exact ⟨vs, h1, RepL.ren cs vs h2⟩
  | .clo f cs, v, hr => by
    unfold Av.ren at hr
    unfold Rep at hr ⊢
    obtain ⟨vs, h1, h2⟩ := hr
    exact ⟨vs, h1, RepL.ren cs vs h2⟩
  | .own n off, v, hr => by
    unfold Av.ren at hr
    unfold Rep at hr ⊢
    exact hr
  | .osl k n len, v, hr => by
    unfold Av.ren at hr
    unfold Rep at hr ⊢
    exact hr
  | .oss n off len, v, hr => by
    unfold Av.ren at hr
    unfold Rep at hr ⊢
    exact hr
  | .gd c x, v, hr => by
    unfold Av.ren at hr
    unfold Rep at hr ⊢
    exact ⟨fun hc => Rep.ren x v (hr.1 hc), hr.2⟩
  | .nz x, v, hr => by
    unfold Av.ren at hr
    unfold Rep at hr ⊢
    exact ⟨Rep.ren x v hr.1, hr.2⟩
theorem RepL.ren {E : Env} {π : Nat → Nat} : ∀ (xs : List Av) (vs : List Value), RepL E (renL π xs) vs → RepL (E.ren π) xs vs
  | [], vs, hr => by unfold renL at hr; unfold RepL at hr ⊢; exact hr
  | x :: xs, vs, hr => by
    unfold renL at hr
    unfold RepL at hr ⊢
    obtain ⟨v, us, h1, h2, h3⟩ := hr
    exact ⟨v, us, h1, Rep.ren x v h2, RepL.ren xs us h3⟩
end
def Hs.ren (π : Nat → Nat) : Hs → Hs
  | .unborn => .unborn
  | .dead => .dead
  | .live t cs => .live t (cs.map (Av.ren π))
  | .loop l N ps assign body pe σ => .loop l N ps assign body pe (σ.map fun p => (p.1, p.2.ren π))
def swapN (a b : Nat) (n : Nat) : Nat := bif Nat.beq n a then b else bif Nat.beq n b then a else n
theorem swap_ne {a b n : Nat} (h1 : n ≠ a) (h2 : n ≠ b) : swapN a b n = n := by simp [swapN, beqF h1, beqF h2]
theorem swap_inj (a b : Nat) : ∀ n m, swapN a b n = swapN a b m → n = m := by
  have l : swapN a b a = b := by simp [swapN]
  have r : swapN a b b = a := by
    by_cases e : b = a
    · subst e; exact l
    · simp [swapN, beqF e]
  have inv : ∀ n, swapN a b (swapN a b n) = n := fun n => by
    by_cases h1 : n = a
    · rw [h1, l, r]
    · by_cases h2 : n = b
      · rw [h2, r, l]
      · rw [swap_ne h1 h2, swap_ne h1 h2]
  intro n m h
  rw [← inv n, h, inv m]
def renS (π : Nat → Nat) (σ : List (Nat × Av)) : List (Nat × Av) → Prop
  | [] => True
  | (t, x) :: r => lkS σ t = x.ren π ∧ renS π σ r
def renH (π : Nat → Nat) (η : List (Nat × Hs)) : List (Nat × Hs) → Prop
  | [] => True
  | (n, y) :: r => lkH η (π n) = some (y.ren π) ∧ renH π η r
theorem renS_get {π : Nat → Nat} {σ : List (Nat × Av)} : ∀ {τ : List (Nat × Av)}, renS π σ τ → ∀ t, lkS τ t = .any ∨ lkS σ t = (lkS τ t).ren π
  | [], _, t => .inl rfl
  | (u, x) :: r, h, t => by
    by_cases e : u = t
    · subst e; rw [lkS_eq]; exact .inr h.1
    · rw [lkS_ne _ _ e]; exact renS_get h.2 t
theorem renH_get {π : Nat → Nat} {η : List (Nat × Hs)} : ∀ {τ : List (Nat × Hs)}, renH π η τ → ∀ n y, lkH τ n = some y → lkH η (π n) = some (y.ren π)
  | [], _, n, y, h => by simp [lkH] at h
  | (u, x) :: r, h, n, y, hy => by
    by_cases e : u = n
    · subst e
      simp [lkH] at hy
      subst hy
      exact h.1
    · simp only [lkH, beqF e, cond_false] at hy
      exact renH_get h.2 n y hy
theorem lkS_ren {π : Nat → Nat} (t : Nat) : ∀ σ : List (Nat × Av), lkS (σ.map fun p => (p.1, p.2.ren π)) t = (lkS σ t).ren π
  | [] => by simp [lkS, Av.ren]
  | (u, x) :: r => by
    simp only [List.map_cons, lkS]
    cases Nat.beq u t with
    | true => rfl
    | false => exact lkS_ren t r
/-- Two names change places. -/
theorem Le.swap {N : Nat} {D : List Nat} {Γ τ : Ctx} (a b : Nat) (ha : a ∉ D) (hb : b ∉ D) (hs : renS (swapN a b) Γ.s τ.s) (hh : renH (swapN a b) Γ.h τ.h) : Le N D Γ τ := fun E x hF => by
  have hD : ∀ n ∈ D, swapN a b n = n := fun n hn => swap_ne (fun e => ha (e ▸ hn)) (fun e => hb (e ▸ hn))
  have hl : ∀ n ∈ D, (E.ren (swapN a b)).loc n = E.loc n := fun n hn => by simp [Env.ren, hD n hn]
  refine ⟨E.ren (swapN a b), rfl, ⟨rfl, rfl, rfl, Nat.le_refl _, rfl, fun _ _ _ => rfl, fun n b hb => .inr ⟨_, hb⟩, fun n hn => by rw [hl n hn]; exact hF.born n hn, fun n hn h => by rwa [hl n hn] at h, fun n hn c hc => ⟨by rwa [hl n hn] at hc, fun cur t hc => ⟨cur, hc, rfl⟩⟩⟩,
    ⟨⟨hF.good.old, fun n m c hn hm => swap_inj a b n m (hF.good.inj _ _ c hn hm), fun n c hn => hF.good.lt _ c hn⟩, hF.size, fun n hn => by rw [hl n hn]; exact hF.born n hn, fun t => ?_, fun n y hy => ?_⟩⟩
  · rcases renS_get hs t with h1 | h1
    · rw [h1]; unfold Rep; trivial
    · refine Rep.ren _ _ ?_
      rw [← h1]
      exact hF.holds.1 t
  · have h1 := hF.holds.2 _ _ (renH_get hh n y hy)
    cases y with
    | unborn => exact h1
    | dead => exact h1
    | live t cs =>
      rcases h1 with ⟨h2, h3⟩ | ⟨c, cur, h2, h3, h4⟩
      · exact .inl ⟨h2, by simpa using h3⟩
      · refine .inr ⟨c, cur, h2, h3, fun i z hz => ?_⟩
        obtain ⟨u, h5, h6, h7⟩ := h4 i (z.ren (swapN a b)) (by rw [List.getElem?_map, hz]; rfl)
        exact ⟨u, h5, h6, Rep.ren _ _ h7⟩
    | loop l N' ps assign body pe σ =>
      obtain ⟨h3, r, h4, h5, h6, h7, h8, h9, h10, h11⟩ := h1
      refine ⟨h3, r, h4, h5, h6, h7, h8, h9, h10, fun t => Rep.ren _ _ ?_⟩
      have := h11 t
      rwa [lkS_ren] at this
/-- The empty slice nil in a named block gets a name. -/
theorem Le.nameNilCell {N : Nat} {D : List Nat} {s : List (Nat × Av)} {h : List (Nat × Hs)} (m i n k : Nat) (ty : TypeId) {T : TypeId} {ds : List Av} (hm : lkH h m = some (.live T ds)) (hi : ds[i]? = some (.val (.slice none 0 0))) (hn : lkH h n = some .unborn) (hmn : m ≠ n) :
    Le N D ⟨s, h⟩ ⟨s, (m, .live T (ds.set i (.osl k n 0))) :: (n, .live ty []) :: h⟩ := Le.step fun E a hF => by
  have hu : E.loc n = .unborn := hF.holds.2 n .unborn hn
  have hM := hF.holds.2 m _ hm
  have hS := Step.nil_name hu
  refine ⟨E.re n .nil, [n], rfl, hS, hF.good.re (by simp), fun u => Rep.step hS _ _ (hF.holds.1 u), fun j y hy => ?_⟩
  by_cases e : m = j
  · subst e
    simp [lkH] at hy
    subst hy
    rcases hM with ⟨h1, rfl⟩ | ⟨b, cur, h1, h2, h3⟩
    · simp at hi
    · refine .inr ⟨b, cur, by simp [Env.re, hmn, h1], h2, fun j y hy => ?_⟩
      rw [List.getElem?_set] at hy
      by_cases e : i = j
      · subst e
        have hlt := (List.getElem?_eq_some_iff.1 hi).1
        simp [hlt] at hy
        subst hy
        obtain ⟨u, h4, h5, h6⟩ := h3 i _ hi
        refine ⟨u, h4, h5, ?_⟩
        unfold Rep at h6 ⊢
        exact ⟨⟨by simp [Env.re], ⟨none, 0, h6⟩, fun _ => ⟨h6, rfl⟩⟩, fun b hb => by simp [Env.re] at hb⟩
      · rw [if_neg e] at hy
        obtain ⟨u, h4, h5, h6⟩ := h3 j y hy
        exact ⟨u, h4, h5, Rep.step hS _ _ h6⟩
  · simp only [lkH, beqF e, cond_false] at hy
    by_cases e' : n = j
    · subst e'
      simp at hy
      subst hy
      exact .inl ⟨by simp [Env.re], rfl⟩
    · rw [beqF e', cond_false] at hy
      exact HAt.step hS (by simp [Ne.symm e']) (hF.holds.2 j y hy)
/-! ### nil, or not -/
theorem PC.nil_or {P : Program} {f k n : Nat} {row : Nat → Av} {xs : List Av} {x : Av} (h1 : n = 0 → ∀ c, PC P f (.val (.slice none 0 c) :: xs) x) (h2 : PC P f (.nz (.sl k n row) :: xs) x) : PC P f (.sl k n row :: xs) x := by
  intro E vs hG hA hR hB hU
  have hA' := hA
  unfold RepL at hA'
  obtain ⟨v, us, rfl, h3, h4⟩ := hA'
  have h3' := h3
  unfold Rep at h3'
  obtain ⟨A, c, rfl, h5, h6, h7⟩ := h3'
  cases A with
  | none =>
    have hn : n = 0 := by
      rcases Nat.eq_zero_or_pos n with h | h
      · exact h
      · obtain ⟨b, o, h8, _⟩ := h7 h; cases h8
    subst hn
    exact h1 rfl c E _ hG (by unfold RepL; exact ⟨_, us, rfl, by unfold Rep; rfl, h4⟩) hR hB hU
  | some a => exact h2 E _ hG (by unfold RepL; exact ⟨_, us, rfl, by unfold Rep; exact ⟨h3, fun n c h => by cases h⟩, h4⟩) hR hB hU
section
variable {P : Program} {o : Oper} {x : Av} {ρ : Operand → Av} {p q : Operand} {T : TypeId}
theorem oc_move_nz (ho : o.op = .move p) (hx : ρ p = .nz x) : OC P o ρ [] x [] := oc_read fun E a hG hp _ => by
  have h1 := hp p (by simp [ho, Op.operands])
  rw [hx] at h1
  unfold Rep at h1
  exact ⟨a.eval p, by simp [execOp, ho], h1.1⟩
end
/-! ### A result in memory -/
theorem ResOk.cell {P : Program} {fn : Func} {Γ : Ctx} {t n : Nat} {T ty : TypeId} {cs : List Av} (h : fn.results = #[.cell t T]) (hs : lkS Γ.s t = .own n 0) (hn : lkH Γ.h n = some (.live ty cs)) (hT : rowB P T = some true) (hz : sizeB P T = some cs.length) (h0 : 0 < cs.length) : ResOk P fn Γ (.agg cs) := fun E a hG hH => by
  have hv := hH.1 t
  rw [hs] at hv
  obtain ⟨b, cur, h1, h2, h3, h4⟩ := own_at hv (hH.2 n _ hn) h0
  obtain ⟨vs, h5, h6, h7⟩ := cells_list (E := E) (cur := cur) cs 0 fun i y hy => by simpa using h4 i y hy
  refine ⟨.agg vs.toArray, ?_, by unfold Rep; exact ⟨vs, rfl, h5, h6⟩⟩
  obtain ⟨d, hd1, hd2⟩ := rowB_some hT
  have hl := run_loadVar_mid (P := P) E.w b 0 T vs d (fun j u hu => by rw [cell_cur h3]; exact h7 j u hu) hd1 hd2 (by rw [h5.length]; exact hz)
  have h1' : a.tmps[t]?.getD undef = .pointer (some ⟨b, 0, none⟩) := by rw [← h1, Array.getD_eq_getD_getElem?]
  simp only [results, h]
  simp [asAddr, Sem.run_bind, hl, h1']
end Go.Proofs.Ytjjgdjcapfenpaa
