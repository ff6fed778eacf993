/- Names that are given to nil, frozen, forgotten; results that lie in memory; parts of slices; texts and bytes. No program stands in this text. A row against nil. No program stands in this text. What came in, opened into abstract values. No program stands in this text. -/
import Derived.Test.YtfipllnodgbghaaOh
import Derived.Lib.SmallJoins
import Derived.Deep.Fields
import Derived.Below
import Derived.SizedLaws
namespace Go.Proofs.Ytfipllnodgbghaa
open Go.RowKit
set_option linter.unusedVariables false
set_option linter.unusedSimpArgs false

/-- The environment with another standing for one name. -/
def Env.re (E : Env) (n : Nat) (L : Loc) : Env := { w := E.w, loc := fun m => if m = n then L else E.loc m, bad := E.bad }
theorem Step.nil_name {E : Env} {n : Nat} (hn : E.loc n = .unborn) : Step E (E.re n .nil) [n] := by
  refine ⟨rfl, rfl, rfl, Nat.le_refl _, rfl, fun _ _ _ => rfl, fun m hm => ?_, fun m hm => ?_, fun m b hb => ?_, fun m hm => ?_, fun m b cur t hb hb' hc => ⟨cur, hc, rfl⟩⟩
  · have hm : m ≠ n := by simpa using hm
    exact ⟨by simp [Env.re, hm], fun _ _ => rfl⟩
  · by_cases e : m = n
    · simp [Env.re, e]
    · simpa [Env.re, e] using hm
  · by_cases e : m = n
    · simp [Env.re, e] at hb
    · simp [Env.re, e] at hb; exact .inl hb
  · by_cases e : m = n
    · subst e; exact .inr hn
    · simp [Env.re, e] at hm; exact .inl hm
theorem Step.kill (E : Env) (n : Nat) (hn : E.loc n ≠ .unborn) : Step E (E.re n .dead) [n] := by
  refine ⟨rfl, rfl, rfl, Nat.le_refl _, rfl, fun _ _ _ => rfl, fun m hm => ?_, fun m hm => ?_, fun m b hb => ?_, fun m hm => ?_, fun m b cur t hb hb' hc => ⟨cur, hc, rfl⟩⟩
  · have hm : m ≠ n := by simpa using hm
    exact ⟨by simp [Env.re, hm], fun _ _ => rfl⟩
  · by_cases e : m = n
    · simp [Env.re, e]
    · simpa [Env.re, e] using hm
  · by_cases e : m = n
    · simp [Env.re, e] at hb
    · simp [Env.re, e] at hb; exact .inl hb
  · by_cases e : m = n
    · simp [Env.re, e] at hm
    · simp [Env.re, e] at hm; exact .inl hm
theorem Good.re {E : Env} (hG : Good E) {n : Nat} {L : Loc} (hL : ∀ b, L ≠ .at b) : Good (E.re n L) := by
  refine ⟨hG.old, fun i j b hi hj => ?_, fun i b hi => ?_, hG.shp.same fun b hb => ⟨⟨hb.1, hb.2.1, fun m hm => ?_⟩, rfl⟩⟩
  · have key : ∀ i b, (E.re n L).loc i = .at b → i ≠ n ∧ E.loc i = .at b := fun i b hi => by
      by_cases e : i = n
      · simp [Env.re, e] at hi; exact absurd hi (hL b)
      · simp [Env.re, e] at hi; exact ⟨e, hi⟩
    exact hG.inj i j b (key i b hi).2 (key j b hj).2
  · by_cases e : i = n
    · simp [Env.re, e] at hi; exact absurd hi (hL b)
    · simp [Env.re, e] at hi; exact hG.lt i b hi
  · by_cases e : m = n
    · simp [Env.re, e] at hm; exact absurd hm (hL b)
    · simp [Env.re, e] at hm; exact hb.2.2 m hm
theorem re_ok {E : Env} (hG : Good E) {n b : Nat} (hb : E.loc n = .at b) : (E.re n .dead).ok b := by
  refine ⟨(hG.lt n b hb).1, (hG.lt n b hb).2, fun m hm => ?_⟩
  by_cases e : m = n
  · simp [Env.re, e] at hm
  · simp [Env.re, e] at hm
    exact e (hG.inj m n b hm hb)
section
variable {N : Nat} {D : List Nat} {Γ : Ctx}
/-- What an environment's step makes of a fitting state. -/
theorem Le.step {τ : Ctx} (h : ∀ (E : Env) (a : Act), Fit N D E a Γ → ∃ E' M, E'.w = E.w ∧ Step E E' M ∧ Good E' ∧ Holds E' a.tmps τ) : Le N D Γ τ := fun E a hF => by
  obtain ⟨E', M, h1, h2, h3, h4⟩ := h E a hF
  have hK := h2.kept hF.born
  exact ⟨E', h1, hK, ⟨h3, hF.size, fun n hn => hK.born n hn, h4⟩⟩
/-- The empty slice nil gets a name. -/
theorem Le.nameNil {s : List (Nat × Av)} {h : List (Nat × Hs)} (t n k : Nat) (ty : TypeId) (hs : lkS s t = .val (.slice none 0 0)) (hn : lkH h n = some .unborn) : Le N D ⟨s, h⟩ ⟨(t, .osl k n 0) :: s, (n, .live ty []) :: h⟩ := Le.step fun E a hF => by
  have hu : E.loc n = .unborn := hF.holds.2 n .unborn hn
  have hS := Step.nil_name hu
  refine ⟨E.re n .nil, [n], rfl, hS, hF.good.re (by simp), fun u => ?_, fun m y hy => ?_⟩
  · by_cases e : t = u
    · subst e
      rw [lkS_eq]
      have := hF.holds.1 t
      rw [hs] at this
      unfold Rep at this ⊢
      exact ⟨⟨by simp [Env.re], ⟨none, 0, this⟩, fun _ => ⟨this, rfl⟩⟩, fun b hb => by simp [Env.re] at hb⟩
    · rw [lkS_ne _ _ e]
      exact Rep.step hS _ _ (hF.holds.1 u)
  · by_cases e : n = m
    · subst e
      simp [lkH] at hy
      subst hy
      exact .inl ⟨by simp [Env.re], rfl⟩
    · simp only [lkH, beqF e, cond_false] at hy
      exact HAt.step hS (by simp [Ne.symm e]) (hF.holds.2 m y hy)
/-- A named row, once and for all read only. -/
theorem freeze_rep {E : Env} (hG : Good E) {n k len : Nat} {t : TypeId} {cs : List Av} {row : Nat → Av} {v : Value} (hv : Rep E (.osl k n len) v) (hn : HAt E n (.live t cs)) (hl : cs.length = len * k) (hrow : ∀ j, j < len → szB (row j) k = true ∧ ∀ i y, (flatA (row j))[i]? = some y → cs[j * k + i]? = some y)
    (hval : ∀ j, j < len → ∀ (us : List Value), RepL (E.re n .dead) (flatA (row j)) us → (∀ u ∈ us, u.oneCell' = true) → ∃ u, Rep (E.re n .dead) (row j) u ∧ u.cells.toList = us) : Rep (E.re n .dead) (.sl k len row) v := by
  have hn0 : E.loc n ≠ .unborn := by unfold Rep at hv; exact hv.1.1
  have hS := Step.kill E n hn0
  unfold Rep at hv ⊢
  rcases hn with ⟨h1, rfl⟩ | ⟨b, cur, h1, h2, h3⟩
  · obtain ⟨rfl, rfl⟩ := hv.1.2.2 h1
    exact ⟨none, 0, rfl, Nat.le_refl _, Nat.zero_le _, fun h => absurd h (by simp)⟩
  · obtain ⟨c, cur', t', h4, h5, h6, h7, h8⟩ := hv.2 b h1
    rw [h2] at h7
    injection h7 with h7
    injection h7 with h7 h9
    subst h7; subst h9
    refine ⟨some ⟨b, 0, none⟩, c, h4, h5, h6, fun _ => ⟨b, 0, rfl, re_ok hG h1, fun j hj => ?_⟩⟩
    obtain ⟨hr1, hr2⟩ := hrow j hj
    obtain ⟨us, g1, g2, g3⟩ := cells_list (E := E.re n .dead) (cur := cur) (flatA (row j)) (j * k) fun i y hy => by
      obtain ⟨u, k1, k2, k3⟩ := h3 _ y (hr2 i y hy)
      exact ⟨u, k1, k2, Rep.step hS _ _ k3⟩
    obtain ⟨u, k1, k2⟩ := hval j hj us g1 g2
    refine ⟨u, k1, ?_, fun i u' hu' => ?_⟩
    · exact (flat_cells k1 hr1).1
    · rw [k2] at hu'
      rw [Nat.zero_add, show (E.re n .dead).w = E.w from rfl, cell_cur h2]
      exact g3 i u' hu'
/-- Elements that are one cell. -/
def oneA : Av → Bool
  | .agg _ => false
  | .val v => atomB v
  | .sl .. | .ptr _ | .clo .. => true
  | _ => false
theorem one_flat {y : Av} (h : oneA y = true) : flatA y = [y] ∧ szB y 1 = true := by
  cases y <;> simp_all [oneA, flatA, szB]
theorem freeze_one {E : Env} (hG : Good E) {n len : Nat} {t : TypeId} {cs : List Av} {row : Nat → Av} {v : Value} (hv : Rep E (.osl 1 n len) v) (hn : HAt E n (.live t cs)) (hl : cs.length = len) (hrow : ∀ j, j < len → cs[j]? = some (row j) ∧ oneA (row j) = true) : Rep (E.re n .dead) (.sl 1 len row) v := by
  refine freeze_rep hG hv hn (by omega) (fun j hj => ?_) (fun j hj us hus h1 => ?_)
  · obtain ⟨h1, h2⟩ := hrow j hj
    obtain ⟨h3, h4⟩ := one_flat h2
    refine ⟨h4, fun i y hy => ?_⟩
    rw [h3] at hy
    cases i with
    | zero => simp at hy; subst hy; simpa using h1
    | succ i => simp at hy
  · obtain ⟨h3, h4⟩ := hrow j hj
    rw [(one_flat h4).1] at hus
    unfold RepL RepL at hus
    obtain ⟨u, us', rfl, h5, rfl⟩ := hus
    exact ⟨u, h5, by rw [cells_one (h1 u (by simp))]⟩
/-- A slot's row is frozen. -/
theorem Le.freeze {s : List (Nat × Av)} {h : List (Nat × Hs)} (t n : Nat) {len : Nat} {ty : TypeId} {cs : List Av} (row : Nat → Av) (hs : lkS s t = .osl 1 n len) (hn : lkH h n = some (.live ty cs)) (hl : cs.length = len) (hrow : ∀ j, j < len → cs[j]? = some (row j) ∧ oneA (row j) = true) : Le N D ⟨s, h⟩ ⟨(t, .sl 1 len row) :: s, (n, .dead) :: h⟩ := Le.step fun E a hF => by
  have hv := hF.holds.1 t
  rw [hs] at hv
  have hH := hF.holds.2 n _ hn
  have hn0 : E.loc n ≠ .unborn := by unfold Rep at hv; exact hv.1.1
  have hS := Step.kill E n hn0
  refine ⟨E.re n .dead, [n], rfl, hS, hF.good.re (by simp), fun u => ?_, fun m y hy => ?_⟩
  · by_cases e : t = u
    · subst e
      rw [lkS_eq]
      exact freeze_one hF.good hv hH hl hrow
    · rw [lkS_ne _ _ e]
      exact Rep.step hS _ _ (hF.holds.1 u)
  · by_cases e : n = m
    · subst e
      simp [lkH] at hy
      subst hy
      show (E.re n .dead).loc n = .dead
      simp [Env.re]
    · simp only [lkH, beqF e, cond_false] at hy
      exact HAt.step hS (by simp [Ne.symm e]) (hF.holds.2 m y hy)
end
/-! ### Names forgotten -/
mutual
def NoN (Z : List Nat) : Av → Prop
  | .any | .val _ | .fm _ _ _ _ | .frz _ _ _ => True
  | .sl _ _ row => ∀ j, NoN Z (row j)
  | .ptr x => NoN Z x
  | .agg cs | .tup cs | .clo _ cs => NoNL Z cs
  | .own n _ | .osl _ n _ | .oss n _ _ | .mp n => n ∉ Z
  | .gd _ x | .nz x => NoN Z x
def NoNL (Z : List Nat) : List Av → Prop
  | [] => True
  | x :: xs => NoN Z x ∧ NoNL Z xs
end
mutual
theorem NoN.of_pure {Z : List Nat} : ∀ x : Av, Pure x → NoN Z x
  | .any, _ => by unfold NoN; trivial
  | .val _, _ => by unfold NoN; trivial
  | .sl _ _ row, h => by unfold Pure at h; unfold NoN; exact fun j => NoN.of_pure (row j) (h j)
  | .ptr x, h => by unfold Pure at h; unfold NoN; exact NoN.of_pure x h
  | .agg cs, h => by unfold Pure at h; unfold NoN; exact NoNL.of_pure cs h
  | .tup cs, h => by unfold Pure at h; unfold NoN; exact NoNL.of_pure cs h
  | .clo _ cs, h => by unfold Pure at h; unfold NoN; exact NoNL.of_pure cs h
  | .own _ _, h => by unfold Pure at h; exact h.elim
  | .osl _ _ _, h => by unfold Pure at h; exact h.elim
  | .oss _ _ _, h => by unfold Pure at h; exact h.elim
  | .mp _, h => by unfold Pure at h; exact h.elim
  | .fm _ _ _ _, _ => by unfold NoN; trivial
  | .frz _ _ _, _ => by unfold NoN; trivial
  | .gd _ x, h => by unfold Pure at h; unfold NoN; exact NoN.of_pure x h
  | .nz x, h => by unfold Pure at h; unfold NoN; exact NoN.of_pure x h
theorem NoNL.of_pure {Z : List Nat} : ∀ xs : List Av, PureL xs → NoNL Z xs
  | [], _ => by unfold NoNL; trivial
  | x :: xs, h => by unfold PureL at h; unfold NoNL; exact ⟨NoN.of_pure x h.1, NoNL.of_pure xs h.2⟩
end
def Env.reset (E : Env) (Z : List Nat) : Env := { w := E.w, loc := fun m => if m ∈ Z then .unborn else E.loc m, bad := E.bad }
theorem reset_loc {E : Env} {Z : List Nat} {n b : Nat} (h : (E.reset Z).loc n = .at b) : E.loc n = .at b := by
  by_cases e : n ∈ Z
  · simp [Env.reset, e] at h
  · simpa [Env.reset, e] using h
theorem reset_ok {E : Env} {Z : List Nat} {b : Nat} (h : E.ok b) : (E.reset Z).ok b := ⟨h.1, h.2.1, fun n hn => h.2.2 n (reset_loc hn)⟩
mutual
theorem Rep.reset {E : Env} {Z : List Nat} : ∀ (x : Av) (v : Value), NoN Z x → Rep E x v → Rep (E.reset Z) x v
  | .any, _, _, _ => by unfold Rep; trivial
  | .val x, v, _, hr => by unfold Rep at hr ⊢; exact hr
  | .sl k n row, v, hp, hr => by
    unfold NoN at hp
    unfold Rep at hr ⊢
    obtain ⟨A, c, h1, h2, h3, h4⟩ := hr
    refine ⟨A, c, h1, h2, h3, fun hn => ?_⟩
    obtain ⟨b, o, h5, h6, h7⟩ := h4 hn
    refine ⟨b, o, h5, reset_ok h6, fun j hj => ?_⟩
    obtain ⟨u, h8, h9, h10⟩ := h7 j hj
    exact ⟨u, Rep.reset (row j) u (hp j) h8, h9, h10⟩
  | .ptr x, v, hp, hr => by
    unfold NoN at hp
    unfold Rep at hr ⊢
    obtain ⟨b, o, u, h1, h2, h3, h4⟩ := hr
    exact ⟨b, o, u, h1, reset_ok h2, Rep.reset x u hp h3, h4⟩
  | .agg cs, v, hp, hr => by
    unfold NoN at hp
    unfold Rep at hr ⊢
    obtain ⟨vs, h1, h2, h3⟩ := hr
    exact ⟨vs, h1, RepL.reset cs vs hp h2, h3⟩
  | .tup cs, v, hp, hr => by
    unfold NoN at hp
    unfold Rep at hr ⊢
    obtain ⟨vs, h1, h2⟩ := hr
    exact ⟨vs, h1, RepL.reset cs vs hp h2⟩
  | .clo f cs, v, hp, hr => by
    unfold NoN at hp
    unfold Rep at hr ⊢
    obtain ⟨vs, h1, h2⟩ := hr
    exact ⟨vs, h1, RepL.reset cs vs hp h2⟩
  | .own n off, v, hp, hr => by
    unfold NoN at hp
    unfold Rep at hr ⊢
    simpa [Env.reset, hp] using hr
  | .osl k n len, v, hp, hr => by
    unfold NoN at hp
    unfold Rep at hr ⊢
    simpa [Env.reset, hp] using hr
  | .oss n off len, v, hp, hr => by
    unfold NoN at hp
    unfold Rep at hr ⊢
    simpa [Env.reset, hp] using hr
  | .mp n, v, hp, hr => by
    unfold NoN at hp
    unfold Rep at hr ⊢
    simpa [Env.reset, hp] using hr
  | .fm P k e D, v, _, hr => by
    unfold Rep at hr ⊢
    obtain ⟨b, n, h1, h2, h3⟩ := hr
    exact ⟨b, n, h1, reset_ok h2, h3⟩
  | .frz q T xs, v, _, hr => by
    unfold Rep at hr ⊢
    obtain ⟨c, g, cur, h1, h2, h3, h4, h5⟩ := hr
    exact ⟨c, g, cur, h1, h2, reset_ok h3, h4, h5⟩
  | .gd c x, v, hp, hr => by
    unfold NoN at hp
    unfold Rep at hr ⊢
    exact ⟨fun hc => Rep.reset x v hp (hr.1 hc), hr.2⟩
  | .nz x, v, hp, hr => by
    unfold NoN at hp
    unfold Rep at hr ⊢
    exact ⟨Rep.reset x v hp hr.1, hr.2⟩
theorem RepL.reset {E : Env} {Z : List Nat} : ∀ (xs : List Av) (vs : List Value), NoNL Z xs → RepL E xs vs → RepL (E.reset Z) xs vs
  | [], vs, _, hr => by unfold RepL at hr ⊢; exact hr
  | x :: xs, vs, hp, hr => by
    unfold NoNL at hp
    unfold RepL at hr ⊢
    obtain ⟨v, us, h1, h2, h3⟩ := hr
    exact ⟨v, us, h1, Rep.reset x v hp.1 h2, RepL.reset xs us hp.2 h3⟩
end
def noS (Z : List Nat) : List (Nat × Av) → Prop
  | [] => True
  | (_, x) :: r => NoN Z x ∧ noS Z r
def noH (η : List (Nat × Hs)) (Z : List Nat) : List (Nat × Hs) → Prop
  | [] => True
  | (n, y) :: r => (if n ∈ Z then y = .unborn else lkH η n = some y ∧ (match y with | .live _ cs => ∀ z ∈ cs, NoN Z z | .loop _ _ _ _ _ _ σ => noS Z σ | _ => True)) ∧ noH η Z r
theorem noS_get {Z : List Nat} : ∀ {τ : List (Nat × Av)}, noS Z τ → ∀ t, NoN Z (lkS τ t)
  | [], _, t => by unfold lkS NoN; trivial
  | (u, x) :: r, h, t => by
    by_cases e : u = t
    · subst e; rw [lkS_eq]; exact h.1
    · rw [lkS_ne _ _ e]; exact noS_get h.2 t
theorem noH_get {η : List (Nat × Hs)} {Z : List Nat} : ∀ {τ : List (Nat × Hs)}, noH η Z τ → ∀ n y, lkH τ n = some y → if n ∈ Z then y = .unborn else lkH η n = some y ∧ (match y with | .live _ cs => ∀ z ∈ cs, NoN Z z | .loop _ _ _ _ _ _ σ => noS Z σ | _ => True)
  | [], _, n, y, h => by simp [lkH] at h
  | (u, x) :: r, h, n, y, hy => by
    by_cases e : u = n
    · subst e
      simp [lkH] at hy
      subst hy
      exact h.1
    · simp only [lkH, beqF e, cond_false] at hy
      exact noH_get h.2 n y hy
/-- Names are forgotten, and may be given anew. -/
theorem Le.reset {N : Nat} {D : List Nat} {Γ τ : Ctx} (Z : List Nat) (hD : ∀ n ∈ D, n ∉ Z) (hs : subS Γ.s τ.s) (hS : noS Z τ.s) (hH : noH Γ.h Z τ.h) : Le N D Γ τ := fun E a hF => by
  have hloc : ∀ n, n ∉ Z → (E.reset Z).loc n = E.loc n := fun n hn => by simp [Env.reset, hn]
  refine ⟨E.reset Z, rfl, ⟨rfl, rfl, rfl, Nat.le_refl _, rfl, fun _ _ _ => rfl, fun n b hb => .inr ⟨n, reset_loc hb⟩, fun n hn => by rw [hloc n (hD n hn)]; exact hF.born n hn, fun n hn hl => by rwa [hloc n (hD n hn)] at hl, fun n hn b hb => ⟨reset_loc hb, fun cur t hc => ⟨cur, hc, rfl⟩⟩⟩,
    ⟨⟨hF.good.old, fun n m b hn hm => hF.good.inj n m b (reset_loc hn) (reset_loc hm), fun n b hn => hF.good.lt n b (reset_loc hn), hF.good.shp.same fun b hb => ⟨reset_ok hb, rfl⟩⟩, hF.size, fun n hn => by rw [hloc n (hD n hn)]; exact hF.born n hn, fun t => ?_, fun n y hy => ?_⟩⟩
  · refine Rep.reset _ _ (noS_get hS t) ?_
    rcases subS_get hs t with h1 | h1
    · rw [h1]; unfold Rep; trivial
    · rw [← h1]; exact hF.holds.1 t
  · have := noH_get hH n y hy
    by_cases e : n ∈ Z
    · rw [if_pos e] at this
      subst this
      show (E.reset Z).loc n = .unborn
      simp [Env.reset, e]
    · rw [if_neg e] at this
      have h1 := hF.holds.2 n y this.1
      cases y with
      | unborn => exact (hloc n e).trans h1
      | dead => exact (hloc n e).trans h1
      | live t cs =>
        rcases h1 with ⟨h2, h3⟩ | ⟨b, cur, h2, h3, h4⟩
        · exact .inl ⟨(hloc n e).trans h2, h3⟩
        · refine .inr ⟨b, cur, (hloc n e).trans h2, h3, fun i z hz => ?_⟩
          obtain ⟨u, h5, h6, h7⟩ := h4 i z hz
          exact ⟨u, h5, h6, Rep.reset _ _ (this.2 z (List.mem_of_getElem? hz)) h7⟩
      | map P k e' D =>
        obtain ⟨b, m, h2, h3⟩ := h1
        exact ⟨b, m, (hloc n e).trans h2, h3⟩
      | iter P k e' D left cnt last =>
        obtain ⟨b, r, m, h2, h3, h4⟩ := h1
        exact ⟨b, r, m, (hloc n e).trans h2, reset_ok h3, h4⟩
      | loop l N' ps assign body pe σ =>
        obtain ⟨h3, r, h4, h5, h6, h7, h8, h9, h10, h11⟩ := h1
        exact ⟨(hloc n e).trans h3, r, h4, h5, h6, h7, h8, h9, h10, fun t => Rep.reset _ _ (noS_get this.2 t) (h11 t)⟩
def PureS : List (Nat × Av) → Prop
  | [] => True
  | (_, x) :: r => Pure x ∧ PureS r
theorem noS_pure {Z : List Nat} : ∀ {τ : List (Nat × Av)}, PureS τ → noS Z τ
  | [], _ => trivial
  | (_, x) :: r, h => ⟨NoN.of_pure x h.1, noS_pure h.2⟩
/-! ### Names renamed -/
mutual
def Av.ren (π : Nat → Nat) : Av → Av
  | .any => .any
  | .val v => .val v
  | .sl k n row => .sl k n fun j => (row j).ren π
  | .ptr x => .ptr (x.ren π)
  | .agg cs => .agg (renL π cs)
  | .tup cs => .tup (renL π cs)
  | .clo f cs => .clo f (renL π cs)
  | .own n off => .own (π n) off
  | .osl k n len => .osl k (π n) len
  | .oss n off len => .oss (π n) off len
  | .mp n => .mp (π n)
  | .fm P k e D => .fm P k e D
  | .frz q T xs => .frz q T xs
  | .gd c x => .gd c (x.ren π)
  | .nz x => .nz (x.ren π)
def renL (π : Nat → Nat) : List Av → List Av
  | [] => []
  | x :: xs => x.ren π :: renL π xs
end
def Env.ren (E : Env) (π : Nat → Nat) : Env := { w := E.w, loc := fun n => E.loc (π n), bad := E.bad }
mutual
theorem Rep.ren {E : Env} {π : Nat → Nat} : ∀ (x : Av) (v : Value), Rep E (x.ren π) v → Rep (E.ren π) x v
  | .any, _, _ => by unfold Rep; trivial
  | .val x, v, hr => by unfold Av.ren at hr; unfold Rep at hr ⊢; exact hr
  | .sl k n row, v, hr => by
    unfold Av.ren at hr
    unfold Rep at hr ⊢
    obtain ⟨A, c, h1, h2, h3, h4⟩ := hr
    refine ⟨A, c, h1, h2, h3, fun hn => ?_⟩
    obtain ⟨b, o, h5, h6, h7⟩ := h4 hn
    refine ⟨b, o, h5, ⟨h6.1, h6.2.1, fun n hn => h6.2.2 _ hn⟩, fun j hj => ?_⟩
    obtain ⟨u, h8, h9, h10⟩ := h7 j hj
    exact ⟨u, Rep.ren (row j) u h8, h9, h10⟩
  | .ptr x, v, hr => by
    unfold Av.ren at hr
    unfold Rep at hr ⊢
    obtain ⟨b, o, u, h1, h2, h3, h4⟩ := hr
    exact ⟨b, o, u, h1, ⟨h2.1, h2.2.1, fun n hn => h2.2.2 _ hn⟩, Rep.ren x u h3, h4⟩
  | .agg cs, v, hr => by
    unfold Av.ren at hr
    unfold Rep at hr ⊢
    obtain ⟨vs, h1, h2, h3⟩ := hr
    exact ⟨vs, h1, RepL.ren cs vs h2, h3⟩
  | .tup cs, v, hr => by
    unfold Av.ren at hr
    unfold Rep at hr ⊢
    obtain ⟨vs, h1, h2⟩ := hr
    exact ⟨vs, h1, RepL.ren cs vs h2⟩
  | .clo f cs, v, hr => by
    unfold Av.ren at hr
    unfold Rep at hr ⊢
    obtain ⟨vs, h1, h2⟩ := hr
    exact ⟨vs, h1, RepL.ren cs vs h2⟩
  | .own n off, v, hr => by
    unfold Av.ren at hr
    unfold Rep at hr ⊢
    exact hr
  | .osl k n len, v, hr => by
    unfold Av.ren at hr
    unfold Rep at hr ⊢
    exact hr
  | .oss n off len, v, hr => by
    unfold Av.ren at hr
    unfold Rep at hr ⊢
    exact hr
  | .mp n, v, hr => by
    unfold Av.ren at hr
    unfold Rep at hr ⊢
    exact hr
  | .fm P k e D, v, hr => by
    unfold Av.ren at hr
    unfold Rep at hr ⊢
    obtain ⟨b, n, h1, h2, h3⟩ := hr
    exact ⟨b, n, h1, ⟨h2.1, h2.2.1, fun n hn => h2.2.2 _ hn⟩, h3⟩
  | .frz q T xs, v, hr => by
    unfold Av.ren at hr
    unfold Rep at hr ⊢
    obtain ⟨c, g, cur, h1, h2, h3, h4, h5⟩ := hr
    exact ⟨c, g, cur, h1, h2, ⟨h3.1, h3.2.1, fun n hn => h3.2.2 _ hn⟩, h4, h5⟩
  | .gd c x, v, hr => by
    unfold Av.ren at hr
    unfold Rep at hr ⊢
    exact ⟨fun hc => Rep.ren x v (hr.1 hc), hr.2⟩
  | .nz x, v, hr => by
    unfold Av.ren at hr
    unfold Rep at hr ⊢
    exact ⟨Rep.ren x v hr.1, hr.2⟩
theorem RepL.ren {E : Env} {π : Nat → Nat} : ∀ (xs : List Av) (vs : List Value), RepL E (renL π xs) vs → RepL (E.ren π) xs vs
  | [], vs, hr => by unfold renL at hr; unfold RepL at hr ⊢; exact hr
  | x :: xs, vs, hr => by
    unfold renL at hr
    unfold RepL at hr ⊢
    obtain ⟨v, us, h1, h2, h3⟩ := hr
    exact ⟨v, us, h1, Rep.ren x v h2, RepL.ren xs us h3⟩
end
def Hs.ren (π : Nat → Nat) : Hs → Hs
  | .unborn => .unborn
  | .dead => .dead
  | .live t cs => .live t (cs.map (Av.ren π))
  | .map P k e D => .map P k e D
  | .iter P k e D left cnt last => .iter P k e D left cnt last
  | .loop l N ps assign body pe σ => .loop l N ps assign body pe (σ.map fun p => (p.1, p.2.ren π))
def swapN (a b : Nat) (n : Nat) : Nat := bif Nat.beq n a then b else bif Nat.beq n b then a else n
theorem swap_ne {a b n : Nat} (h1 : n ≠ a) (h2 : n ≠ b) : swapN a b n = n := by simp [swapN, beqF h1, beqF h2]
theorem swap_inj (a b : Nat) : ∀ n m, swapN a b n = swapN a b m → n = m := by
  have l : swapN a b a = b := by simp [swapN]
  have r : swapN a b b = a := by
    by_cases e : b = a
    · subst e; exact l
    · simp [swapN, beqF e]
  have inv : ∀ n, swapN a b (swapN a b n) = n := fun n => by
    by_cases h1 : n = a
    · rw [h1, l, r]
    · by_cases h2 : n = b
      · rw [h2, r, l]
      · rw [swap_ne h1 h2, swap_ne h1 h2]
  intro n m h
  rw [← inv n, h, inv m]
section
variable {P : Program} {o : Oper} {x : Av} {ρ : Operand → Av} {p q : Operand} {T : TypeId}
end
/-! ### A result in memory -/
theorem ResOk.cell {P : Program} {fn : Func} {Γ : Ctx} {t n : Nat} {T ty : TypeId} {cs : List Av} (h : fn.results = #[.cell t T]) (hs : lkS Γ.s t = .own n 0) (hn : lkH Γ.h n = some (.live ty cs)) (hT : rowB P T = some true) (hz : sizeB P T = some cs.length) (h0 : 0 < cs.length) : ResOk P fn Γ (.agg cs) := fun E a hG hH => by
  have hv := hH.1 t
  rw [hs] at hv
  obtain ⟨b, cur, h1, h2, h3, h4⟩ := own_at hv (hH.2 n _ hn) h0
  obtain ⟨vs, h5, h6, h7⟩ := cells_list (E := E) (cur := cur) cs 0 fun i y hy => by simpa using h4 i y hy
  refine ⟨.agg vs.toArray, ?_, by unfold Rep; exact ⟨vs, rfl, h5, h6⟩⟩
  obtain ⟨d, hd1, hd2⟩ := rowB_some hT
  have hl := run_loadVar_mid (P := P) E.w b 0 T vs d (fun j u hu => by rw [cell_cur h3]; exact h7 j u hu) hd1 hd2 (by rw [h5.length]; exact hz)
  have h1' : a.tmps[t]?.getD undef = .pointer (some ⟨b, 0, none⟩) := by rw [← h1, Array.getD_eq_getD_getElem?]
  simp only [results, h]
  simp [asAddr, Sem.run_bind, hl, h1']
end Go.Proofs.Ytfipllnodgbghaa
namespace Go.Proofs.Ytfipllnodgbghaa
open Go.RowKit
set_option linter.unusedVariables false
section
variable {P : Program} {o : Oper} {ρ : Operand → Av} {p q : Operand} {T : TypeId}
end
/-! ### What is left of the blocks -/
section
variable {η : List (Nat × Hs)} {Z : List Nat} {τ : List (Nat × Hs)} {n : Nat} {t : TypeId} {cs : List Av} {π : Nat → Nat}
theorem non_vi (l : List Int) : ∀ z ∈ l.map vi, NoN Z z := fun z hz => by
  obtain ⟨x, _, rfl⟩ := List.mem_map.1 hz
  exact NoN.of_pure _ (by simp [Pure])
end
/-- The result told otherwise. -/
theorem ResOk.to {P : Program} {fn : Func} {Γ : Ctx} {x y : Av} (h : ResOk P fn Γ x) (hxy : ∀ E v, Rep E x v → Rep E y v) : ResOk P fn Γ y := fun E a hG hH => by
  obtain ⟨v, h1, h2⟩ := h E a hG hH
  exact ⟨v, h1, hxy E v h2⟩
theorem rep_nil {k c : Nat} {row : Nat → Av} (hc : c ≤ maxLen) (E : Env) (v : Value) (h : Rep E (.val (.slice none 0 c)) v) : Rep E (.sl k 0 row) v := by
  unfold Rep at h ⊢
  exact ⟨none, c, h, Nat.zero_le _, hc, fun h => absurd h (by omega)⟩
end Go.Proofs.Ytfipllnodgbghaa
namespace Go.Proofs.Ytfipllnodgbghaa
open Go.Joins Go.ChangeShapes Go.WideShapes Go.RowKit Go.Deep
set_option linter.unusedVariables false
/-- A world with no named block. -/
def E0 (w : World) : Env := ⟨w, fun _ => .unborn, fun _ => False⟩
theorem E0.good (w : World) (hs : Shp (E0 w)) : Good (E0 w) := ⟨fun b h => h.elim, fun n m b h => (by cases h), fun n b h => (by cases h), hs⟩
theorem E0.ok {w : World} {b : Nat} (h : b < w.heap.size) : (E0 w).ok b := ⟨h, fun h => h, fun n h => (by cases h)⟩
section
variable {H : Type} {enc : TypeId × Value → H} {P : Program} {w : World} {base : Nat} {spare : Nat → Bool} {held : Bool}
/-- Whatever reads as a T is such data. -/
def Opn (enc : TypeId × Value → H) (P : Program) (w : World) (base : Nat) (spare : Nat → Bool) (held : Bool) (T : TypeId) (α : Type) (av : α → List Av) (wf : α → Prop) : Prop :=
  ∀ (fuel : Nat) (cs : List Value) (y : DataW H × List MemPlace), DataW.trod enc P w base spare held fuel T cs = some y → (∀ n ∈ DataW.weights P T y.1, n ≤ reachBytes) → ∃ d : α, wf d ∧ RepL (E0 w) (av d) cs ∧ ∀ u ∈ cs, u.oneCell' = true
theorem Opn.map {T : TypeId} {α γ : Type} {av : α → List Av} {wf : α → Prop} (h : Opn enc P w base spare held T α av wf) (g : α → γ) (av' : γ → List Av) (wf' : γ → Prop) (h1 : ∀ d, av' (g d) = av d) (h2 : ∀ d, wf d → wf' (g d)) : Opn enc P w base spare held T γ av' wf' := fun fuel cs y hy hz => by
  obtain ⟨d, h3, h4, h5⟩ := h fuel cs y hy hz
  exact ⟨g d, h2 d h3, by rw [h1]; exact h4, h5⟩
theorem opn_int {T : TypeId} {k : IntKind} (hT : P.underlying T = some (.int k)) : Opn enc P w base spare held T Int (fun n => [.val (.int k n)]) (fun n => (Lit.int k n).wf = true) := fun fuel cs y hy _ => by
  obtain ⟨n, rfl, _, h⟩ := DataW.trod_int hT hy
  exact ⟨n, h, by unfold RepL; exact ⟨_, _, rfl, by unfold Rep; rfl, by unfold RepL; rfl⟩, by simp [Value.oneCell']⟩
theorem opn_bool {T : TypeId} (hT : P.underlying T = some .bool) : Opn enc P w base spare held T Bool (fun n => [vb n]) (fun _ => True) := fun fuel cs y hy _ => by
  obtain ⟨n, rfl, _⟩ := DataW.trod_bool hT hy
  exact ⟨n, trivial, by unfold RepL; exact ⟨_, _, rfl, by unfold Rep; rfl, by unfold RepL; rfl⟩, by simp [Value.oneCell']⟩
theorem opn_str {T : TypeId} (hT : P.underlying T = some .string) : Opn enc P w base spare held T ByteArray (fun s => [vs s]) (fun s => s.size ≤ 140737488351232) := fun fuel cs y hy hz => by
  obtain ⟨s, rfl, rfl, h⟩ := DataW.trod_string hT hy
  have h2 := hz s.data.toList.length (by simp [DataW.weights])
  have h3 : reachBytes = 140737488351232 := rfl
  have h4 : s.data.toList.length = s.size := by simp
  exact ⟨s, by omega, by unfold RepL; exact ⟨_, _, rfl, by unfold Rep; rfl, by unfold RepL; rfl⟩, by simp [Value.oneCell']⟩
theorem mapM_get {α β : Type} {f : α → Option β} : ∀ {l : List α} {r : List β}, l.mapM f = some r → r.length = l.length ∧ ∀ (i : Nat) (x : α), l[i]? = some x → f x = r[i]?
  | [], r, h => by simp at h; subst h; simp
  | a :: l, r, h => by
    rw [List.mapM_cons] at h
    cases ha : f a with
    | none => rw [ha] at h; simp at h
    | some b =>
      rw [ha] at h
      cases hl : l.mapM f with
      | none => rw [hl] at h; simp at h
      | some r' =>
        rw [hl] at h
        simp at h
        subst h
        obtain ⟨h1, h2⟩ := mapM_get hl
        refine ⟨by simp [h1], fun i x hx => ?_⟩
        cases i with
        | zero => simp at hx; subst hx; simpa using ha
        | succ i => simpa using h2 i x (by simpa using hx)
theorem cells_each {a : Addr} {n : Nat} {cs : List Value} (h : w.cells? base a n = some cs) : cs.length = n ∧ ∀ i, i < n → w.cell? (a.add i) = cs[i]? := by
  unfold World.cells? at h
  split at h
  · obtain ⟨h1, h2⟩ := mapM_get h
    exact ⟨by simpa using h1, fun i hi => h2 i i (by rw [List.getElem?_range hi])⟩
  · cases h
theorem cell_spot {a : Addr} {v : Value} (h : w.cell? a = some v) : a.spot = none ∧ a.block < w.heap.size := by
  unfold World.cell? at h
  split at h
  · rename_i c _ _ hb
    refine ⟨?_, ?_⟩
    · cases hs : a.spot with
      | none => rfl
      | some s => rw [hs] at h; simp at h
    · exact (Array.getElem?_eq_some_iff.1 hb).1
  · cases h
theorem weightsAll_mem {e : TypeId} : ∀ {ds : List (DataW H)} {d : DataW H} {n : Nat}, d ∈ ds → n ∈ DataW.weights P e d → n ∈ DataW.weightsAll P e ds
  | x :: r, d, n, hd, hn => by
    unfold DataW.weightsAll
    rcases List.mem_cons.1 hd with rfl | hd
    · exact List.mem_append.2 (.inl hn)
    · exact List.mem_append.2 (.inr (weightsAll_mem hd hn))
theorem opn_slice {T e : TypeId} {α : Type} {av : α → List Av} {wf : α → Prop} (d0 : α) (k b : Nat) (row : α → Av) (hT : P.underlying T = some (.slice e)) (hk : P.cellsOf e = k) (hb : P.bytesOf e = b) (h0 : 0 < k) (he : Opn enc P w base spare held e α av wf)
    (hrow : ∀ (d : α) (cs : List Value), RepL (E0 w) (av d) cs → (∀ u ∈ cs, u.oneCell' = true) → ∃ u : Value, Rep (E0 w) (row d) u ∧ u.cells.toList = cs) :
    Opn enc P w base spare held T (List α) (fun l => [.sl k l.length fun j => row (l.getD j d0)]) (fun l => (∀ d ∈ l, wf d) ∧ l.length * b ≤ 140737488351232) := fun fuel cs y hy hz => by
  rcases DataW.trod_slice hT hy with ⟨rfl, _⟩ | ⟨a, len, cap, elems, rest, n, _, rfl, rfl, _, hl, hm, hlen, hel, _, _⟩
  · exact ⟨[], ⟨by simp, by simp⟩, by unfold RepL; exact ⟨_, _, rfl, rep_nil (Nat.zero_le _) _ _ (by unfold Rep; rfl), by unfold RepL; rfl⟩, by simp [Value.oneCell']⟩
  · have hz' : (elems.length + rest.length) * b ≤ 140737488351232 ∧ ∀ x ∈ elems, ∀ n ∈ DataW.weights P e x.1, n ≤ reachBytes := by
      unfold DataW.weights at hz
      simp only [hT] at hz
      refine ⟨?_, fun x hx n hn => hz n (List.mem_cons_of_mem _ (List.mem_append.2 (.inl (weightsAll_mem (List.mem_map.2 ⟨x, hx, rfl⟩) hn))))⟩
      have := hz _ (List.mem_cons_self)
      rw [hb] at this
      have hr : reachBytes = 140737488351232 := rfl
      simpa [hr] using this
    have hlb : len * b ≤ 140737488351232 := Nat.le_trans (Nat.mul_le_mul_right b (by omega)) hz'.1
    rw [hk] at hel
    have each : ∀ i, i < len → ∃ d : α, wf d ∧ ∃ ds : List Value, w.cells? base (a.add (i * k)) k = some ds ∧ RepL (E0 w) (av d) ds ∧ ∀ u ∈ ds, u.oneCell' = true := fun i hi => by
      have h1 := hel i hi
      rw [List.getElem?_eq_getElem (by omega), Option.bind_eq_some_iff] at h1
      obtain ⟨ds, h2, h3⟩ := h1
      obtain ⟨d, h4, h5, h6⟩ := he n ds _ h3 (hz'.2 _ (List.getElem_mem _))
      exact ⟨d, h4, ds, h2, h5, h6⟩
    let f : Nat → α := fun i => if h : i < len then Classical.choose (each i h) else d0
    have hf : ∀ i, i < len → wf (f i) ∧ ∃ ds : List Value, w.cells? base (a.add (i * k)) k = some ds ∧ RepL (E0 w) (av (f i)) ds ∧ ∀ u ∈ ds, u.oneCell' = true := fun i hi => by
      have : f i = Classical.choose (each i hi) := by simp [f, hi]
      rw [this]
      exact Classical.choose_spec (each i hi)
    have hg : ∀ j, j < len → ((List.range len).map f).getD j d0 = f j := fun j hj => by simp [hj]
    refine ⟨(List.range len).map f, ⟨fun d hd => ?_, by simpa using hlb⟩, ?_, by simp [Value.oneCell']⟩
    · obtain ⟨i, hi, rfl⟩ := List.mem_map.1 hd
      exact (hf i (List.mem_range.1 hi)).1
    · unfold RepL
      refine ⟨_, _, rfl, ?_, by unfold RepL; rfl⟩
      unfold Rep
      refine ⟨some a, cap, by simp, by simpa using hl, hm, fun hpos => ?_⟩
      have hp : 0 < len := by simpa using hpos
      obtain ⟨_, ds, h2, h3, _⟩ := hf 0 hp
      rw [Nat.zero_mul] at h2
      obtain ⟨hl2, h4⟩ := cells_each h2
      have h5 := h4 0 h0
      rw [List.getElem?_eq_getElem (by omega)] at h5
      obtain ⟨h6, h7⟩ := cell_spot h5
      have ha : a.add 0 = a := rfl
      have hspot : a.spot = none := by simpa [Addr.add] using h6
      have hblk : a.block < w.heap.size := by simpa [Addr.add] using h7
      refine ⟨a.block, a.off, by cases a; simp at hspot; subst hspot; rfl, E0.ok hblk, fun j hj => ?_⟩
      have hj' : j < len := by simpa using hj
      obtain ⟨_, ds', k2, k3, k4⟩ := hf j hj'
      obtain ⟨u, k5, k6⟩ := hrow _ _ k3 k4
      obtain ⟨kl, k7⟩ := cells_each k2
      simp only [hg j hj']
      refine ⟨u, k5, by rw [← Array.length_toList, k6, kl], fun i v hv => ?_⟩
      rw [k6] at hv
      have hi : i < k := by rw [← kl]; exact (List.getElem?_eq_some_iff.1 hv).1
      have := k7 i hi
      rw [hv] at this
      show w.cell? ⟨a.block, a.off + j * k + i, none⟩ = some v
      rw [← this]
      congr 1
      unfold Addr.add
      cases a
      simp at hspot
      subst hspot
      by_cases e1 : i = 0
      · subst e1
        by_cases e2 : j * k = 0 <;> simp [e2]
      · by_cases e2 : j * k = 0 <;> simp [e1, e2]
/-- Elements of one cell. -/
theorem row_cell {α : Type} {f : α → Av} (d : α) (cs : List Value) (h : RepL (E0 w) [f d] cs) (h1 : ∀ u ∈ cs, u.oneCell' = true) : ∃ u : Value, Rep (E0 w) (f d) u ∧ u.cells.toList = cs := by
  unfold RepL at h
  obtain ⟨v, us, rfl, h2, h3⟩ := h
  unfold RepL at h3
  subst h3
  exact ⟨v, h2, by rw [cells_one (h1 v (by simp))]⟩
/-- Structs. -/
theorem row_agg {α : Type} {f : α → List Av} (d : α) (cs : List Value) (h : RepL (E0 w) (f d) cs) (h1 : ∀ u ∈ cs, u.oneCell' = true) : ∃ u : Value, Rep (E0 w) (.agg (f d)) u ∧ u.cells.toList = cs :=
  ⟨.agg cs.toArray, by unfold Rep; exact ⟨cs, rfl, h, h1⟩, by simp [Value.cells]⟩
/-- Fields one after another. -/
def OpnF (enc : TypeId × Value → H) (P : Program) (w : World) (base : Nat) (spare : Nat → Bool) (held : Bool) (o : Nat) (fs : List Field) (m : Nat) (β : Type) (av : β → List Av) (wf : β → Prop) : Prop :=
  ∀ (fuel : Nat) (cs : List Value), (∀ f ∈ fs, ∃ y, DataW.trod enc P w base spare held fuel f.type ((cs.drop f.offset).take (P.cellsOf f.type)) = some y ∧ ∀ n ∈ DataW.weights P f.type y.1, n ≤ reachBytes) → ∃ d : β, wf d ∧ RepL (E0 w) (av d) ((cs.drop o).take m) ∧ ∀ u ∈ (cs.drop o).take m, u.oneCell' = true
theorem opnF_nil {o : Nat} : OpnF enc P w base spare held o [] 0 Unit (fun _ => []) (fun _ => True) := fun fuel cs _ => ⟨(), trivial, by unfold RepL; simp, by simp⟩
theorem opnF_cons {o k m : Nat} {f : Field} {fs : List Field} {α β : Type} {av : α → List Av} {wf : α → Prop} {avs : β → List Av} {wfs : β → Prop} (ho : f.offset = o) (hk : P.cellsOf f.type = k) (h : Opn enc P w base spare held f.type α av wf) (hs : OpnF enc P w base spare held (o + k) fs m β avs wfs) :
    OpnF enc P w base spare held o (f :: fs) (k + m) (α × β) (fun d => av d.1 ++ avs d.2) (fun d => wf d.1 ∧ wfs d.2) := fun fuel cs hf => by
  obtain ⟨y, hy, hz⟩ := hf f (by simp)
  rw [ho, hk] at hy
  obtain ⟨a, h1, h2, h3⟩ := h _ _ _ hy hz
  obtain ⟨b, h4, h5, h6⟩ := hs fuel cs fun g hg => hf g (by simp [hg])
  have e : (cs.drop o).take (k + m) = (cs.drop o).take k ++ (cs.drop (o + k)).take m := by rw [List.take_add, List.drop_drop]
  refine ⟨(a, b), ⟨h1, h4⟩, by rw [e]; exact RepL.append h2 h5, fun u hu => ?_⟩
  rw [e] at hu
  rcases List.mem_append.1 hu with hu | hu
  · exact h3 u hu
  · exact h6 u hu
theorem opn_struct {T : TypeId} {fs : List Field} {m : Nat} {β : Type} {av : β → List Av} {wf : β → Prop} (hT : P.underlying T = some (.struct fs.toArray)) (hm : P.cellsOf T = m) (h : OpnF enc P w base spare held 0 fs m β av wf) : Opn enc P w base spare held T β av wf := fun fuel cs y hy hz => by
  obtain ⟨xs, n, _, rfl, hl, hlen, hg⟩ := DataW.trod_struct hT hy
  obtain ⟨d, h1, h2, h3⟩ := h n cs fun f hf => by
    obtain ⟨i, hi⟩ := List.getElem?_of_mem hf
    have hlt := (List.getElem?_eq_some_iff.1 hi).1
    have := hg i f (by simpa using hi)
    have hx : i < xs.length := by rw [hlen]; simpa using hlt
    rw [List.getElem?_eq_getElem hx] at this
    refine ⟨_, this, fun k hk => hz k ?_⟩
    unfold DataW.weights
    simp only [hT]
    exact DataW.weights_mem_each (j := i) (by simp [hi]) (by simp [hx]) k hk
  have e : (cs.drop 0).take m = cs := by rw [List.drop_zero, List.take_of_length_le (by omega)]
  rw [e] at h2 h3
  exact ⟨d, h1, h2, h3⟩
/-- A struct that came in. -/
theorem opn_arg {r : Reach} {b0 : Nat} {T : TypeId} {fs : Array Field} {β : Type} {av : β → List Av} {wf : β → Prop} {v : Value} {d : DataW H} {p : List MemPlace} (hT : P.underlying T = some (.struct fs)) (ho : Opn enc P w base spare held T β av wf) (hv : Value.okWide P w r b0 T v) (h : DataW.Trod enc P w base spare held T v d p) (hz : ∀ n ∈ DataW.weights P T d, n ≤ reachBytes) : ∃ x : β, wf x ∧ Rep (E0 w) (.agg (av x)) v := by
  obtain ⟨cs, rfl, _⟩ := okWide_struct hT hv
  obtain ⟨fuel, hf⟩ := h
  obtain ⟨x, h1, h2, h3⟩ := ho _ _ _ hf hz
  have e : (Value.agg cs).cells.toList = cs.toList := by simp [Value.cells]
  rw [e] at h2 h3
  exact ⟨x, h1, by unfold Rep; exact ⟨cs.toList, by simp, h2, h3⟩⟩
theorem opn_arg1 {T : TypeId} {β : Type} {f : β → Av} {wf : β → Prop} {v : Value} {d : DataW H} {p : List MemPlace} (ho : Opn enc P w base spare held T β (fun x => [f x]) wf) (h1c : v.cells = #[v]) (h : DataW.Trod enc P w base spare held T v d p) (hz : ∀ n ∈ DataW.weights P T d, n ≤ reachBytes) : ∃ x : β, wf x ∧ Rep (E0 w) (f x) v := by
  obtain ⟨fuel, hf⟩ := h
  obtain ⟨x, h1, h2, h3⟩ := ho _ _ _ hf hz
  rw [h1c] at h2
  unfold RepL at h2
  obtain ⟨v', us, e, h4, _⟩ := h2
  simp at e
  obtain ⟨rfl, _⟩ := e
  exact ⟨x, h1, h4⟩
end
/-- A law's function, from outside. -/
theorem PC.law {P : Program} {f : FuncId} {xs : List Av} {vs : List Value} {w : World} (h : PC P f xs (vb true)) (hv : RepL (E0 w) xs vs) (hs : Shp (E0 w) := by intro g hg; simp [gsOf] at hg) : Calls P f vs.toArray w fun e w' => e = .returned (.bool true) ∧ Below w.heap.size w w' :=
  (h (E0 w) vs (E0.good w hs) hv (fun n y hn => by simp [lkH] at hn) (fun n hn => by simp at hn) (fun n _ => rfl)).mono fun e w' ⟨E', v, he, hw, hG, hK, hr, _⟩ => by
    unfold Rep at hr
    subst hr
    subst hw
    exact ⟨he, ⟨hK.os, hK.tape, hK.output, hK.size, fun k hk => hK.keep k hk fun n h => (by cases h)⟩⟩
end Go.Proofs.Ytfipllnodgbghaa
