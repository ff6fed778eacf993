/- Calls that bear names: what a call is handed, and gives back, may lie in blocks of the caller's own. No program stands in this text. Loops over a function: the round, as the function that is ranged over calls it; the statement; a function that holds one. No program stands in this text. -/
import Derived.Test.YtpbaiighifhfnaaDoorOl
namespace Go.Proofs.YtpbaiighifhfnaaDoor
open Go.RowKit
set_option linter.unusedVariables false
set_option linter.unusedSimpArgs false

mutual
/-- Its names are among Z. -/
def InN (Z : Nat → Prop) : Av → Prop
  | .any => True
  | .val _ => True
  | .sl _ _ row => ∀ j, InN Z (row j)
  | .ptr x => InN Z x
  | .agg cs => InNL Z cs
  | .tup cs => InNL Z cs
  | .clo _ cs => InNL Z cs
  | .own n _ => Z n
  | .osl _ n _ => Z n
  | .oss n _ _ => Z n
  | .mp n => Z n
  | .fm _ _ _ _ => True
  | .frz _ _ _ => True
  | .gd _ x => InN Z x
  | .nz x => InN Z x
def InNL (Z : Nat → Prop) : List Av → Prop
  | [] => True
  | x :: xs => InN Z x ∧ InNL Z xs
end
mutual
theorem InN.of_pure {Z : Nat → Prop} : ∀ x : Av, Pure x → InN Z x
  | .any, _ => by unfold InN; trivial
  | .val _, _ => by unfold InN; trivial
  | .sl _ _ row, h => by unfold Pure at h; unfold InN; exact fun j => InN.of_pure (row j) (h j)
  | .ptr x, h => by unfold Pure at h; unfold InN; exact InN.of_pure x h
  | .agg cs, h => by unfold Pure at h; unfold InN; exact InNL.of_pure cs h
  | .tup cs, h => by unfold Pure at h; unfold InN; exact InNL.of_pure cs h
  | .clo _ cs, h => by unfold Pure at h; unfold InN; exact InNL.of_pure cs h
  | .own _ _, h => by unfold Pure at h; exact h.elim
  | .osl _ _ _, h => by unfold Pure at h; exact h.elim
  | .oss _ _ _, h => by unfold Pure at h; exact h.elim
  | .mp _, h => by unfold Pure at h; exact h.elim
  | .fm _ _ _ _, _ => by unfold InN; trivial
  | .frz _ _ _, _ => by unfold InN; trivial
  | .gd _ x, h => by unfold Pure at h; unfold InN; exact InN.of_pure x h
  | .nz x, h => by unfold Pure at h; unfold InN; exact InN.of_pure x h
theorem InNL.of_pure {Z : Nat → Prop} : ∀ xs : List Av, PureL xs → InNL Z xs
  | [], _ => by unfold InNL; trivial
  | x :: xs, h => by unfold PureL at h; unfold InNL; exact ⟨InN.of_pure x h.1, InNL.of_pure xs h.2⟩
end
mutual
theorem InN.all : ∀ x : Av, InN (fun _ => True) x
  | .any => by unfold InN; trivial
  | .val _ => by unfold InN; trivial
  | .sl _ _ row => by unfold InN; exact fun j => InN.all (row j)
  | .ptr x => by unfold InN; exact InN.all x
  | .agg cs => by unfold InN; exact InNL.all cs
  | .tup cs => by unfold InN; exact InNL.all cs
  | .clo _ cs => by unfold InN; exact InNL.all cs
  | .own _ _ => by unfold InN; trivial
  | .osl _ _ _ => by unfold InN; trivial
  | .oss _ _ _ => by unfold InN; trivial
  | .mp _ => by unfold InN; trivial
  | .fm _ _ _ _ => by unfold InN; trivial
  | .frz _ _ _ => by unfold InN; trivial
  | .gd _ x => by unfold InN; exact InN.all x
  | .nz x => by unfold InN; exact InN.all x
theorem InNL.all : ∀ xs : List Av, InNL (fun _ => True) xs
  | [] => by unfold InNL; trivial
  | x :: xs => by unfold InNL; exact ⟨InN.all x, InNL.all xs⟩
end
/-- What a value stands on is the same in both. -/
structure Like (Z : Nat → Prop) (E E' : Env) : Prop where
  ok : ∀ b, E.ok b → E'.ok b ∧ ∀ o cs, E.w.rangeAt b o cs → E'.w.rangeAt b o cs
  map : ∀ b, E.ok b → ∀ es c, E.w.heap[b]? = some (.map es c) → E'.w.heap[b]? = some (.map es c)
  row : ∀ b, E.ok b → ∀ cur t z, E.w.heap[b]? = some (.cells cur t z) → E'.w.heap[b]? = some (.cells cur t z)
  loc : ∀ n, Z n → E'.loc n = E.loc n
  shape : ∀ n b cur t, Z n → E.loc n = .at b → E.w.heap[b]? = some (.cells cur t (0, 0)) → ∃ cur', E'.w.heap[b]? = some (.cells cur' t (0, 0)) ∧ cur'.size = cur.size
mutual
theorem Rep.like {Z : Nat → Prop} {E E' : Env} (h : Like Z E E') : ∀ (x : Av) (v : Value), InN Z x → Rep E x v → Rep E' x v
  | .any, _, _, _ => by unfold Rep; trivial
  | .val x, v, _, hr => by unfold Rep at hr ⊢; exact hr
  | .sl k n row, v, hp, hr => by
    unfold InN at hp
    unfold Rep at hr ⊢
    obtain ⟨A, c, h1, h2, h3, h4⟩ := hr
    refine ⟨A, c, h1, h2, h3, fun hn => ?_⟩
    obtain ⟨b, o, h5, h6, h7⟩ := h4 hn
    refine ⟨b, o, h5, (h.ok b h6).1, fun j hj => ?_⟩
    obtain ⟨u, h8, h9, h10⟩ := h7 j hj
    exact ⟨u, Rep.like h (row j) u (hp j) h8, h9, (h.ok b h6).2 _ _ h10⟩
  | .ptr x, v, hp, hr => by
    unfold InN at hp
    unfold Rep at hr ⊢
    obtain ⟨b, o, u, h1, h2, h3, h4⟩ := hr
    exact ⟨b, o, u, h1, (h.ok b h2).1, Rep.like h x u hp h3, (h.ok b h2).2 _ _ h4⟩
  | .agg cs, v, hp, hr => by
    unfold InN at hp
    unfold Rep at hr ⊢
    obtain ⟨vs, h1, h2, h3⟩ := hr
    exact ⟨vs, h1, RepL.like h cs vs hp h2, h3⟩
  | .tup cs, v, hp, hr => by
    unfold InN at hp
    unfold Rep at hr ⊢
    obtain ⟨vs, h1, h2⟩ := hr
    exact ⟨vs, h1, RepL.like h cs vs hp h2⟩
  | .clo f cs, v, hp, hr => by
    unfold InN at hp
    unfold Rep at hr ⊢
    obtain ⟨vs, h1, h2⟩ := hr
    exact ⟨vs, h1, RepL.like h cs vs hp h2⟩
  | .own n off, v, hp, hr => by
    unfold InN at hp
    unfold Rep at hr ⊢
    rw [h.loc n hp]
    exact hr
  | .osl k n len, v, hp, hr => by
    unfold InN at hp
    unfold Rep at hr ⊢
    rw [h.loc n hp]
    refine ⟨hr.1, fun b hb => ?_⟩
    obtain ⟨c, cur, t, h1, h2, h3, h4, h5⟩ := hr.2 b hb
    obtain ⟨cur', h6, h7⟩ := h.shape n b cur t hp hb h4
    exact ⟨c, cur', t, h1, h2, h3, h6, by rw [h7, h5]⟩
  | .oss n off len, v, hp, hr => by
    unfold InN at hp
    unfold Rep at hr ⊢
    rw [h.loc n hp]
    refine ⟨hr.1, fun b hb => ?_⟩
    obtain ⟨A, c, cur, t, h1, h2, h3, h9, h4, h5⟩ := hr.2 b hb
    obtain ⟨cur', h6, h7⟩ := h.shape n b cur t hp hb h4
    exact ⟨A, c, cur', t, h1, h2, h3, h9, h6, by rw [h7]; exact h5⟩
  | .mp n, v, hp, hr => by
    unfold InN at hp
    unfold Rep at hr ⊢
    rw [h.loc n hp]
    exact hr
  | .fm P k e D, v, _, hr => by
    unfold Rep at hr ⊢
    obtain ⟨b, n, h1, h2, es, c, h3, h4⟩ := hr
    exact ⟨b, n, h1, (h.ok b h2).1, es, c, h.map b h2 es c h3, h4⟩
  | .frz q T xs, v, _, hr => by
    unfold Rep at hr ⊢
    obtain ⟨c, g, cur, h1, h2, h3, h4, h5⟩ := hr
    exact ⟨c, g, cur, h1, h2, (h.ok g h3).1, h.row g h3 _ _ _ h4, h5⟩
  | .gd c x, v, hp, hr => by
    unfold InN at hp
    unfold Rep at hr ⊢
    exact ⟨fun hc => Rep.like h x v hp (hr.1 hc), hr.2⟩
  | .nz x, v, hp, hr => by
    unfold InN at hp
    unfold Rep at hr ⊢
    exact ⟨Rep.like h x v hp hr.1, hr.2⟩
theorem RepL.like {Z : Nat → Prop} {E E' : Env} (h : Like Z E E') : ∀ (xs : List Av) (vs : List Value), InNL Z xs → RepL E xs vs → RepL E' xs vs
  | [], vs, _, hr => by unfold RepL at hr ⊢; exact hr
  | x :: xs, vs, hp, hr => by
    unfold InNL at hp
    unfold RepL at hr ⊢
    obtain ⟨v, us, h1, h2, h3⟩ := hr
    exact ⟨v, us, h1, Rep.like h x v hp.1 h2, RepL.like h xs us hp.2 h3⟩
end
theorem InNL.get {Z : Nat → Prop} : ∀ {xs : List Av}, InNL Z xs → ∀ x ∈ xs, InN Z x
  | x :: xs, h, y, hy => by
    unfold InNL at h
    rcases List.mem_cons.1 hy with rfl | hy
    · exact h.1
    · exact InNL.get h.2 y hy
def InS (Z : Nat → Prop) : List (Nat × Av) → Prop
  | [] => True
  | (_, x) :: r => InN Z x ∧ InS Z r
theorem InS.get {Z : Nat → Prop} : ∀ {σ : List (Nat × Av)}, InS Z σ → ∀ t, InN Z (lkS σ t)
  | [], _, t => by unfold lkS InN; trivial
  | (u, x) :: r, h, t => by
    by_cases e : u = t
    · subst e; rw [lkS_eq]; exact h.1
    · rw [lkS_ne _ _ e]; exact InS.get h.2 t
theorem InS.pure {Z : Nat → Prop} : ∀ {σ : List (Nat × Av)}, PureS σ → InS Z σ
  | [], _ => trivial
  | (_, x) :: r, h => ⟨InN.of_pure x h.1, InS.pure h.2⟩
def InH (Z : Nat → Prop) : Hs → Prop
  | .live _ cs => InNL Z cs
  | .loop _ _ _ _ _ _ σ => InS Z σ
  | _ => True
theorem HAt.like {Z : Nat → Prop} {E E' : Env} (h : Like Z E E') {n : Nat} (hn : Z n) (hh : ∀ b, E.loc n = .at b → E'.w.heap[b]? = E.w.heap[b]?) {y : Hs} (hi : InH Z y) (hy : HAt E n y) : HAt E' n y := by
  cases y with
  | unborn => exact (h.loc n hn).trans hy
  | dead => exact (h.loc n hn).trans hy
  | live t cs =>
    rcases hy with ⟨h3, h4⟩ | ⟨b, cur, h3, h4, h5⟩
    · exact .inl ⟨(h.loc n hn).trans h3, h4⟩
    · refine .inr ⟨b, cur, (h.loc n hn).trans h3, (hh b h3).trans h4, fun i z hz => ?_⟩
      obtain ⟨u, h6, h7, h8⟩ := h5 i z hz
      exact ⟨u, h6, h7, Rep.like h z u (InNL.get hi z (List.mem_of_getElem? hz)) h8⟩
  | map P k e D =>
    obtain ⟨b, m, h3, h4⟩ := hy
    exact ⟨b, m, (h.loc n hn).trans h3, ownsMap_of_block (hh b h3) h4⟩
  | iter P k e D left cnt last =>
    obtain ⟨b, r, m, h3, h4, h5, h6⟩ := hy
    have hb : E'.w.heap[b]? = E.w.heap[b]? := by
      obtain ⟨es, clock, since, seen, c0, g1, _⟩ := h5
      rw [g1, h.map b h4 es clock g1]
    exact ⟨b, r, m, (h.loc n hn).trans h3, (h.ok b h4).1, ranges_of_block hb (hh r h3) h5, fun kv hk => entOk.same h5 hb (hh r h3) (h6 kv hk)⟩
  | loop l N ps assign body pe σ =>
    obtain ⟨h3, r, h4, h5, h6, h7, h8, h9, h10, h11⟩ := hy
    exact ⟨(h.loc n hn).trans h3, r, (hh l h3).trans h4, h5, h6, h7, h8, h9, h10, fun t => Rep.like h _ _ (InS.get hi t) (h11 t)⟩

mutual
theorem inN_more {Z Z' : Nat → Prop} (h : ∀ n, Z n → Z' n) : ∀ x : Av, InN Z x → InN Z' x
  | .any, _ => by unfold InN; trivial
  | .val _, _ => by unfold InN; trivial
  | .sl _ _ row, k => by unfold InN at k ⊢; exact fun j => inN_more h (row j) (k j)
  | .ptr x, k => by unfold InN at k ⊢; exact inN_more h x k
  | .agg cs, k => by unfold InN at k ⊢; exact inNL_more h cs k
  | .tup cs, k => by unfold InN at k ⊢; exact inNL_more h cs k
  | .clo _ cs, k => by unfold InN at k ⊢; exact inNL_more h cs k
  | .own _ _, k => by unfold InN at k ⊢; exact h _ k
  | .osl _ _ _, k => by unfold InN at k ⊢; exact h _ k
  | .oss _ _ _, k => by unfold InN at k ⊢; exact h _ k
  | .mp _, k => by unfold InN at k ⊢; exact h _ k
  | .fm _ _ _ _, _ => by unfold InN; trivial
  | .frz _ _ _, _ => by unfold InN; trivial
  | .gd _ x, k => by unfold InN at k ⊢; exact inN_more h x k
  | .nz x, k => by unfold InN at k ⊢; exact inN_more h x k
theorem inNL_more {Z Z' : Nat → Prop} (h : ∀ n, Z n → Z' n) : ∀ xs : List Av, InNL Z xs → InNL Z' xs
  | [], _ => by unfold InNL; trivial
  | x :: xs, k => by unfold InNL at k ⊢; exact ⟨inN_more h x k.1, inNL_more h xs k.2⟩
end
theorem inS_more {Z Z' : Nat → Prop} (h : ∀ n, Z n → Z' n) : ∀ σ : List (Nat × Av), InS Z σ → InS Z' σ
  | [], _ => trivial
  | (_, x) :: r, k => ⟨inN_more h x k.1, inS_more h r k.2⟩
/-- The facts' own names are among Z. -/
def InHs (Z : Nat → Prop) : List (Nat × Hs) → Prop
  | [] => True
  | (_, y) :: r => InH Z y ∧ InHs Z r
theorem inHs_more {Z Z' : Nat → Prop} (h : ∀ n, Z n → Z' n) : ∀ R : List (Nat × Hs), InHs Z R → InHs Z' R
  | [], _ => trivial
  | (_, y) :: r, k => ⟨by cases y <;> first | trivial | exact inNL_more h _ k.1 | exact inS_more h _ k.1, inHs_more h r k.2⟩

/-! ### The callee's view, and the way back -/
def Env.sub (E : Env) (Z : List Nat) : Env := { w := E.w, loc := fun n => if n ∈ Z then E.loc n else .unborn, bad := fun b => E.bad b ∨ ∃ n, n ∉ Z ∧ E.loc n = .at b }
theorem sub_loc {E : Env} {Z : List Nat} {n b : Nat} (h : (E.sub Z).loc n = .at b) : n ∈ Z ∧ E.loc n = .at b := by
  by_cases e : n ∈ Z
  · simp [Env.sub, e] at h; exact ⟨e, h⟩
  · simp [Env.sub, e] at h
theorem Good.sub {E : Env} (hG : Good E) (Z : List Nat) : Good (E.sub Z) where
  shp := hG.shp.same fun b h => ⟨⟨h.1, fun hb => by
    rcases hb with hb | ⟨n, _, hn⟩
    · exact h.2.1 hb
    · exact h.2.2 n hn, fun n hn => h.2.2 n (sub_loc hn).2⟩, rfl⟩
  old b hb := by
    rcases hb with hb | ⟨n, _, hn⟩
    · exact hG.old b hb
    · exact (hG.lt n b hn).1
  inj n m b hn hm := hG.inj n m b (sub_loc hn).2 (sub_loc hm).2
  lt n b hn := ⟨(hG.lt n b (sub_loc hn).2).1, fun hb => by
    rcases hb with hb | ⟨m, h1, h2⟩
    · exact (hG.lt n b (sub_loc hn).2).2 hb
    · exact h1 ((hG.inj m n b h2 (sub_loc hn).2) ▸ (sub_loc hn).1)⟩
theorem sub_like (E : Env) (Z : List Nat) : Like (· ∈ Z) E (E.sub Z) where
  ok b h := ⟨⟨h.1, fun hb => by
    rcases hb with hb | ⟨n, _, hn⟩
    · exact h.2.1 hb
    · exact h.2.2 n hn, fun n hn => h.2.2 n (sub_loc hn).2⟩, fun o cs hr => hr⟩
  map b _ es c h := h
  row b _ cur t z h := h
  loc n hn := by simp [Env.sub, hn]
  shape n b cur t hn hb hc := ⟨cur, hc, rfl⟩
/-- 'Kept', some blocks apart. -/
structure KeptX (X : Nat → Prop) (D : List Nat) (E E' : Env) : Prop where
  os : E'.w.os = E.w.os
  tape : E'.w.tape = E.w.tape
  output : E'.w.output = E.w.output
  size : E.w.heap.size ≤ E'.w.heap.size
  bad : E'.bad = E.bad
  keep : ∀ b, b < E.w.heap.size → (∀ n, E.loc n ≠ .at b) → ¬ X b → E'.w.heap[b]? = E.w.heap[b]?
  from_ : ∀ n b, E'.loc n = .at b → E.w.heap.size ≤ b ∨ ∃ m, E.loc m = .at b
  born : ∀ n ∈ D, E'.loc n ≠ .unborn
  nil_ : ∀ n ∈ D, E'.loc n = .nil → E.loc n = .nil
  same : ∀ n ∈ D, ∀ b, E'.loc n = .at b → E.loc n = .at b ∧ ∀ cur t, E.w.heap[b]? = some (.cells cur t (0, 0)) → ∃ cur', E'.w.heap[b]? = some (.cells cur' t (0, 0)) ∧ cur'.size = cur.size
theorem Kept.x {D : List Nat} {E E' : Env} (h : Kept D E E') (X : Nat → Prop) : KeptX X D E E' := ⟨h.os, h.tape, h.output, h.size, h.bad, fun b h1 h2 _ => h.keep b h1 h2, h.from_, h.born, h.nil_, h.same⟩
theorem KeptX.trans {X : Nat → Prop} {D : List Nat} {E E' E'' : Env} (h : KeptX X D E E') (k : KeptX X D E' E'') : KeptX X D E E'' where
  os := k.os.trans h.os
  tape := k.tape.trans h.tape
  output := k.output.trans h.output
  size := Nat.le_trans h.size k.size
  bad := k.bad.trans h.bad
  keep b hb hn hx := by
    refine (k.keep b (Nat.lt_of_lt_of_le hb h.size) (fun n hn' => ?_) hx).trans (h.keep b hb hn hx)
    rcases h.from_ n b hn' with h1 | ⟨m, h1⟩
    · omega
    · exact hn m h1
  from_ n b hb := by
    rcases k.from_ n b hb with h1 | ⟨m, h1⟩
    · exact .inl (Nat.le_trans h.size h1)
    · exact h.from_ m b h1
  born := k.born
  nil_ n hn hl := h.nil_ n hn (k.nil_ n hn hl)
  same n hn b hb := by
    obtain ⟨h1, h2⟩ := k.same n hn b hb
    obtain ⟨h3, h4⟩ := h.same n hn b h1
    refine ⟨h3, fun cur t hc => ?_⟩
    obtain ⟨cur', h5, h6⟩ := h4 cur t hc
    obtain ⟨cur'', h7, h8⟩ := h2 cur' t h5
    exact ⟨cur'', h7, h8.trans h6⟩
/-- Y: the names that are known behind; Mn: those that were given away. -/
def Env.back (E E' : Env) (Y Mn : List Nat) : Env := { w := E'.w, loc := fun n => if n ∈ Y then E'.loc n else if n ∈ Mn then .dead else E.loc n, bad := E.bad }
theorem back_in {E E' : Env} {Y Mn : List Nat} {n : Nat} (h : n ∈ Y) : (E.back E' Y Mn).loc n = E'.loc n := by simp [Env.back, h]
theorem back_dead {E E' : Env} {Y Mn : List Nat} {n : Nat} (h : n ∉ Y) (h' : n ∈ Mn) : (E.back E' Y Mn).loc n = .dead := by simp [Env.back, h, h']
theorem back_out {E E' : Env} {Y Mn : List Nat} {n : Nat} (h : n ∉ Y) (h' : n ∉ Mn) : (E.back E' Y Mn).loc n = E.loc n := by simp [Env.back, h, h']
/-- D: the names handed over that stay; Mn: those that are given away; Y: those that are known behind; Xn: names of blocks that were turned besides. -/
theorem back_post {X : Nat → Prop} {E E' : Env} {D Y Xn Mn : List Nat} (hG : Good E) (hG' : Good E') (hK : KeptX X D (E.sub (D ++ Mn)) E') (hD : ∀ n ∈ D, n ∈ Y) (hM : ∀ n ∈ Mn, n ∉ Y) (hMb : ∀ n ∈ Mn, E.loc n ≠ .unborn) (hY : ∀ n ∈ Y, n ∉ D → E.loc n = .unborn) (hX : ∀ b, X b → (∃ n ∈ Xn, E.loc n = .at b) ∧ ∀ cur t, E.w.heap[b]? ≠ some (.cells cur t (0, 0))) :
    Step E (E.back E' Y Mn) (Xn ++ (Y ++ Mn)) ∧ Good (E.back E' Y Mn) ∧ Like (· ∈ Y) E' (E.back E' Y Mn) := by
  have hZ : ∀ n, n ∉ Y → n ∉ Mn → n ∉ D ++ Mn := fun n h1 h2 h => (List.mem_append.1 h).elim (fun h => h1 (hD n h)) h2
  have hidden : ∀ n b, n ∉ D ++ Mn → E.loc n = .at b → (E.sub (D ++ Mn)).bad b := fun n b hn hb => .inr ⟨n, hn, hb⟩
  have sub_no : ∀ n b, n ∉ D ++ Mn → E.loc n = .at b → ∀ m, (E.sub (D ++ Mn)).loc m ≠ .at b := fun n b hn hb m hm => ((hG.sub _).lt m b hm).2 (hidden n b hn hb)
  have bad' : ∀ b, (E.sub (D ++ Mn)).bad b → ∀ m, E'.loc m ≠ .at b := fun b hb m hm => (hG'.lt m b hm).2 (by rw [hK.bad]; exact hb)
  have cases_ : ∀ n b, (E.back E' Y Mn).loc n = .at b → (n ∈ Y ∧ E'.loc n = .at b) ∨ (n ∉ Y ∧ n ∉ Mn ∧ E.loc n = .at b) := fun n b h => by
    by_cases e : n ∈ Y
    · rw [back_in e] at h; exact .inl ⟨e, h⟩
    · by_cases e' : n ∈ Mn
      · rw [back_dead e e'] at h; cases h
      · rw [back_out e e'] at h; exact .inr ⟨e, e', h⟩
  have heap_out : ∀ n b, n ∉ Xn → n ∉ D ++ Mn → E.loc n = .at b → E'.w.heap[b]? = E.w.heap[b]? := fun n b h1 h2 h3 => hK.keep b (hG.lt n b h3).1 (sub_no n b h2 h3) fun hx => by
    obtain ⟨m, hm, hb⟩ := (hX b hx).1
    exact h1 ((hG.inj n m b h3 hb) ▸ hm)
  refine ⟨⟨hK.os, hK.tape, hK.output, hK.size, rfl, fun b hb hn => hK.keep b hb (fun n h => hn n (sub_loc h).2) fun hx => ?_, fun n hn => ?_, fun n hn => ?_, fun n b hb => ?_, fun n hn => ?_, fun n b cur t hb hb' hc => ?_⟩, ⟨fun b hb => Nat.lt_of_lt_of_le (hG.old b hb) hK.size, fun n m b hn hm => ?_, fun n b hb => ?_, hG'.shp.same fun b hb => ⟨⟨hb.1, fun hbad => hb.2.1 (by rw [hK.bad]; exact .inl hbad), fun n hn => ?_⟩, rfl⟩⟩, ⟨fun b hb => ⟨⟨hb.1, fun hbad => hb.2.1 (by rw [hK.bad]; exact .inl hbad), fun n hn => ?_⟩, fun o cs hr => hr⟩, fun b _ es c h => h, fun b _ cur t z h => h, fun n hn => back_in hn, fun n b cur t hn hb hc => ⟨cur, hc, rfl⟩⟩⟩
  · obtain ⟨m, _, hm⟩ := (hX b hx).1
    exact hn m hm
  · rw [List.mem_append, not_or, List.mem_append, not_or] at hn
    exact ⟨back_out hn.2.1 hn.2.2, fun b hb => heap_out n b hn.1 (hZ n hn.2.1 hn.2.2) hb⟩
  · by_cases e : n ∈ Y
    · rw [back_in e]
      by_cases ez : n ∈ D
      · exact hK.born n ez
      · exact absurd (hY n e ez) hn
    · by_cases e' : n ∈ Mn
      · rw [back_dead e e']; simp
      · rw [back_out e e']; exact hn
  · rcases cases_ n b hb with ⟨h1, h2⟩ | ⟨h1, _, h2⟩
    · by_cases ez : n ∈ D
      · exact .inl (sub_loc (hK.same n ez b h2).1).2
      · refine .inr ⟨hY n h1 ez, ?_⟩
        rcases hK.from_ n b h2 with h3 | ⟨m, h3⟩
        · exact .inl h3
        · exact .inr ⟨m, (sub_loc h3).2⟩
    · exact .inl h2
  · by_cases e : n ∈ Y
    · rw [back_in e] at hn
      by_cases ez : n ∈ D
      · have := hK.nil_ n ez hn
        simp [Env.sub, ez] at this
        exact .inl this
      · exact .inr (hY n e ez)
    · by_cases e' : n ∈ Mn
      · rw [back_dead e e'] at hn; cases hn
      · rw [back_out e e'] at hn
        exact .inl hn
  · rcases cases_ n b hb with ⟨h1, h2⟩ | ⟨h1, h1', h2⟩
    · by_cases ez : n ∈ D
      · exact (hK.same n ez b h2).2 cur t hc
      · have := hY n h1 ez
        rw [this] at hb'
        cases hb'
    · by_cases ex : n ∈ Xn
      · by_cases hx : X b
        · exact absurd hc ((hX b hx).2 cur t)
        · exact ⟨cur, (hK.keep b (hG.lt n b hb').1 (sub_no n b (hZ n h1 h1') hb') hx).trans hc, rfl⟩
      · exact ⟨cur, (heap_out n b ex (hZ n h1 h1') hb').trans hc, rfl⟩
  · rcases cases_ n b hn with ⟨h1, h2⟩ | ⟨h1, h1', h2⟩ <;> rcases cases_ m b hm with ⟨h3, h4⟩ | ⟨h3, h3', h4⟩
    · exact hG'.inj n m b h2 h4
    · exact absurd h2 (bad' b (hidden m b (hZ m h3 h3') h4) n)
    · exact absurd h4 (bad' b (hidden n b (hZ n h1 h1') h2) m)
    · exact hG.inj n m b h2 h4
  · rcases cases_ n b hb with ⟨h1, h2⟩ | ⟨h1, h1', h2⟩
    · exact ⟨(hG'.lt n b h2).1, fun hbad => (hG'.lt n b h2).2 (by rw [hK.bad]; exact .inl hbad)⟩
    · exact ⟨Nat.lt_of_lt_of_le (hG.lt n b h2).1 hK.size, (hG.lt n b h2).2⟩
  · rcases cases_ n b hn with ⟨h1, h2⟩ | ⟨h1, h1', h2⟩
    · exact hb.2.2 n h2
    · exact hb.2.1 (by rw [hK.bad]; exact hidden n b (hZ n h1 h1') h2)
  · rcases cases_ n b hn with ⟨h1, h2⟩ | ⟨h1, h1', h2⟩
    · exact hb.2.2 n h2
    · exact hb.2.1 (by rw [hK.bad]; exact hidden n b (hZ n h1 h1') h2)
/-- No name without a block, no nil. -/
def bornH : List (Nat × Hs) → Prop
  | [] => True
  | (_, y) :: r => (match y with | .unborn => False | _ => True) ∧ bornH r
theorem bornH_get : ∀ {R : List (Nat × Hs)}, bornH R → ∀ n y, lkH R n = some y → y ≠ .unborn
  | [], _, n, y, h => by simp [lkH] at h
  | (m, z) :: R, h, n, y, hy => by
    by_cases e : m = n
    · subst e
      simp [lkH] at hy
      subst hy
      intro hz
      subst hz
      exact h.1
    · simp only [lkH, beqF e, cond_false] at hy
      exact bornH_get h.2 n y hy
theorem HAt.born {E : Env} {n : Nat} {y : Hs} (h : HAt E n y) (hy : y ≠ .unborn) : E.loc n ≠ .unborn := by
  cases y with
  | unborn => exact absurd rfl hy
  | dead => rw [show E.loc n = .dead from h]; simp
  | live t cs =>
    rcases h with ⟨h1, _⟩ | ⟨b, _, h1, _⟩
    · rw [h1]; simp
    · rw [h1]; simp
  | map P k e D => obtain ⟨b, m, h1, _⟩ := h; rw [h1]; simp
  | iter P k e D left cnt last => obtain ⟨b, r, m, h1, _⟩ := h; rw [h1]; simp
  | loop l N ps assign body pe σ => rw [h.1]; simp
theorem InHs.get {Z : Nat → Prop} : ∀ {R : List (Nat × Hs)}, InHs Z R → ∀ n y, lkH R n = some y → InH Z y
  | [], _, n, y, h => by simp [lkH] at h
  | (m, z) :: R, h, n, y, hy => by
    by_cases e : m = n
    · subst e
      simp [lkH] at hy
      subst hy
      exact h.1
    · simp only [lkH, beqF e, cond_false] at hy
      exact InHs.get h.2 n y hy
theorem lkH_mem : ∀ {R : List (Nat × Hs)} {n : Nat} {y : Hs}, lkH R n = some y → (n, y) ∈ R
  | [], n, y, h => by simp [lkH] at h
  | (m, z) :: R, n, y, h => by
    by_cases e : m = n
    · subst e
      simp [lkH] at h
      subst h
      simp
    · simp only [lkH, beqF e, cond_false] at h
      exact List.mem_cons_of_mem _ (lkH_mem h)
theorem lkH_in {R : List (Nat × Hs)} {n : Nat} {y : Hs} (h : lkH R n = some y) : n ∈ R.map (·.1) := List.mem_map.2 ⟨_, lkH_mem h, rfl⟩
/-- Called with arguments that read so, the function returns what reads as x; of the named blocks it finds R and M, and leaves U; M's names are given away. -/
def FCM (P : Program) (f : FuncId) (args : List Av) (R M : List (Nat × Hs)) (x : Av) (U : List (Nat × Hs)) : Prop :=
  ∀ (E : Env) (vs : List Value), Good E → RepL E args vs → (∀ n y, lkH (R ++ M) n = some y → HAt E n y) → (∀ n ∈ R.map (·.1), E.loc n ≠ .unborn) → (∀ n, n ∉ (R ++ M).map (·.1) → E.loc n = .unborn) →
    Calls P f vs.toArray E.w fun e w' => ∃ E' v, e = .returned v ∧ E'.w = w' ∧ Good E' ∧ Kept (R.map (·.1)) E E' ∧ Rep E' x v ∧ ∀ n y, lkH U n = some y → HAt E' n y
theorem FC.m {P : Program} {f : FuncId} {args : List Av} {R U : List (Nat × Hs)} {x : Av} (h : FC P f args R x U) : FCM P f args R [] x U := fun E vs hG hA hR hB hU => h E vs hG hA (by simpa using hR) hB (by simpa using hU)
def deadH (M : List (Nat × Hs)) : List (Nat × Hs) := M.map fun p => (p.1, .dead)
theorem deadH_names (M : List (Nat × Hs)) : (deadH M).map (·.1) = M.map (·.1) := by simp [deadH]
theorem deadH_get {M : List (Nat × Hs)} {n : Nat} {y : Hs} (h : lkH (deadH M) n = some y) : y = .dead ∧ n ∈ M.map (·.1) := by
  have := lkH_mem h
  unfold deadH at this
  rw [List.mem_map] at this
  obtain ⟨p, hp, he⟩ := this
  injection he with h1 h2
  subst h1
  exact ⟨h2.symm, List.mem_map.2 ⟨p, hp, rfl⟩⟩
theorem FCM.post {P : Program} {f : Nat} {args : List Av} {x : Av} {R M U : List (Nat × Hs)} {E : Env} {vs : List Value} (hc : FCM P f args R M x U) (hG : Good E) (hA : RepL E args vs) (hR : ∀ n y, (n, y) ∈ R ++ M → HAt E n y) (hV : ∀ n ∈ U.map (·.1), n ∉ R.map (·.1) → E.loc n = .unborn)
    (hb : bornH (R ++ M)) (hRU : ∀ n ∈ R.map (·.1), n ∈ U.map (·.1)) (hMU : ∀ n ∈ M.map (·.1), n ∉ U.map (·.1)) (hIA : InNL (· ∈ (R ++ M).map (·.1)) args) (hIR : InHs (· ∈ (R ++ M).map (·.1)) (R ++ M)) (hIx : InN (· ∈ U.map (·.1)) x) (hIU : InHs (· ∈ U.map (·.1)) U) : Calls P f vs.toArray E.w fun e w' => ∃ v, e = .returned v ∧ Post E x (U ++ deadH M) v w' := by
  have hL := sub_like E ((R ++ M).map (·.1))
  have hborn : ∀ n ∈ (R ++ M).map (·.1), E.loc n ≠ .unborn := fun n hn => by
    obtain ⟨y, hy⟩ := lkH_some hn
    exact (hR n y (lkH_mem hy)).born (bornH_get hb n y hy)
  refine (hc (E.sub ((R ++ M).map (·.1))) vs (hG.sub _) (RepL.like hL _ _ hIA hA) (fun n y hn => HAt.like hL (lkH_in hn) (fun _ _ => rfl) (hIR.get n y hn) (hR n y (lkH_mem hn))) (fun n hn => by
    have hn' : n ∈ (R ++ M).map (·.1) := by rw [List.map_append]; exact List.mem_append_left _ hn
    rw [hL.loc n hn']; exact hborn n hn') (fun n hn => by simp only [Env.sub]; rw [if_neg hn])).mono ?_
  rintro e w' ⟨E', v, rfl, rfl, hG', hK, hx, hu⟩
  rw [List.map_append] at hK hborn
  obtain ⟨h1, h2, h3⟩ := back_post (Y := U.map (·.1)) (Xn := []) hG hG' (hK.x fun _ => False) hRU hMU (fun n hn => hborn n (List.mem_append_right _ hn)) hV (fun b hx => hx.elim)
  refine ⟨v, rfl, E.back E' (U.map (·.1)) (M.map (·.1)), rfl, h1.more (by simp [deadH_names]), h2, Rep.like h3 x v hIx hx, fun n y hn => ?_⟩
  rw [lkH_app] at hn
  by_cases hm : n ∈ U.map (·.1)
  · obtain ⟨z, hz⟩ := lkH_some hm
    rw [hz] at hn
    simp at hn
    subst hn
    exact HAt.like h3 hm (fun _ _ => rfl) (hIU.get n z hz) (hu n z hz)
  · rw [lkH_none hm] at hn
    obtain ⟨rfl, hn2⟩ := deadH_get (show lkH (deadH M) n = some y by simpa using hn)
    exact back_dead hm hn2
/-- A function from its body. -/
theorem FCM.body {P : Program} {f : FuncId} {fn : Func} {c : Code} {args : List Av} {R M U : List (Nat × Hs)} {x : Av} (K : Nat) (N : Nat) (hf : P.funcs[f]? = some fn) (hb : fn.body = some c) (hN : max fn.ntmps args.length = N)
    (h : AW P N (R.map (·.1)) c (fun e Γ => (e = .ret ∨ e = .normal) ∧ ResOk P fn Γ x ∧ subH Γ.h U) ⟨argS args 0, (R ++ M) ++ unb K⟩) : FCM P f args R M x U := by
  intro E vs hG hA hR hB hU
  refine calls_of_wp hf hb ?_
  have hlen := hA.length
  refine wp_mono (wpIn_wide.1 (h E _ ⟨hG, ?_, hB, fun t => argS_rep args vs 0 _ hA (fun i v hv => ?_) t, fun n y hn => ?_⟩)) ?_
  · simp [hlen]; omega
  · have hi := (List.getElem?_eq_some_iff.1 hv)
    obtain ⟨hi1, hi2⟩ := hi
    rw [Array.getD_eq_getD_getElem?, Nat.zero_add, Array.getElem?_append_left (by simpa using hi1)]
    simp [hv]
  · have hn : lkH ((R ++ M) ++ unb K) n = some y := hn
    rw [lkH_app] at hn
    by_cases hm : n ∈ (R ++ M).map (·.1)
    · obtain ⟨z, hz⟩ := lkH_some hm
      rw [hz] at hn
      simp only [Option.some_or, Option.some.injEq] at hn
      subst hn
      exact hR n z hz
    · rw [lkH_none hm] at hn
      have := unb_get (n := n) (y := y) (K := K) (by simpa using hn)
      subst this
      exact hU n hm
  · rintro e a' w' ⟨E', Γ', rfl, hK, hF, hdf, he, hres, hsub⟩
    obtain ⟨v, hr, hx⟩ := hres E' a' hF.good hF.holds
    have fin : ∃ E'' v', Ending.returned v = .returned v' ∧ E''.w = E'.w ∧ Good E'' ∧ Kept (R.map (·.1)) E E'' ∧ Rep E'' x v' ∧ ∀ n y, lkH U n = some y → HAt E'' n y :=
      ⟨E', v, rfl, rfl, hF.good, hK, hx, fun n y hy => hF.holds.2 n y (subH_get hsub n y hy)⟩
    rcases he with rfl | rfl
    · exact ⟨hdf, v, hr, fin⟩
    · exact ⟨hdf, v, hr, fin⟩
section
variable {P : Program} {o : Oper} {x y : Av} {R M U : List (Nat × Hs)} {ρ : Operand → Av} {p q : Operand} {T : TypeId}
/-- A call with names; V: the new ones. -/
theorem oc_callFC {f : Nat} {args : List Operand} {tys : Array TypeId} {xs : List Av} (V : List Nat) (ho : o.op = .call { callee := .value (.func f), args := args.toArray, argTypes := tys }) (hf : callB P f = true) (hc : FCM P f xs R M x U) (hxs : args.map ρ = xs)
    (hV : ∀ n ∈ U.map (·.1), n ∈ R.map (·.1) ∨ n ∈ V) (hb : bornH (R ++ M)) (hRU : ∀ n ∈ R.map (·.1), n ∈ U.map (·.1)) (hMU : ∀ n ∈ M.map (·.1), n ∉ U.map (·.1)) (hIA : InNL (· ∈ (R ++ M).map (·.1)) xs) (hIR : InHs (· ∈ (R ++ M).map (·.1)) (R ++ M)) (hIx : InN (· ∈ U.map (·.1)) x) (hIU : InHs (· ∈ U.map (·.1)) U) : OC P o ρ ((R ++ M) ++ V.map fun n => (n, .unborn)) x (U ++ deadH M) := by
  intro E a hG hr hH
  subst hxs
  have hA := repL_map (ρ := ρ) (E := E) (a := a) (l := args) fun p hp => hr p (by simp [ho, Op.operands, Call.operands, hp])
  have := FCM.post hc hG hA (fun n y hn => hH n y (List.mem_append_left _ hn)) (fun n hn hn' => hH n .unborn (List.mem_append_right _ (List.mem_map.2 ⟨n, (hV n hn).resolve_left hn', rfl⟩))) hb hRU hMU hIA hIR hIx hIU
  unfold grows execOp
  simp only [ho, resolve, Deferred.ofValue, Act.eval, Sem.run_bind, Sem.run_pure, Result.andThen_ok, invoke, Array.append_empty, Array.empty_append, List.map_toArray, callB_run hf, growUpon]
  exact this
end
end Go.Proofs.YtpbaiighifhfnaaDoor
namespace Go.Proofs.YtpbaiighifhfnaaDoor
open Go.RowKit
set_option linter.unusedVariables false
set_option linter.unusedSimpArgs false

/-- A block that no name holds is turned; it held no cells, and holds none. -/
theorem turn_like {E : Env} {b : Nat} {o : Obj} (ho : E.w.heap[b]? = some o) (hn : o.isCells = false) (hm : ∀ es c, o ≠ .map es c) {w' : World} (hw : ∀ c, c ≠ b → w'.heap[c]? = E.w.heap[c]?) (hs : w'.heap.size = E.w.heap.size) : Like (fun _ => True) E { E with w := w' } where
  ok c hc := ⟨⟨by show c < w'.heap.size; rw [hs]; exact hc.1, hc.2.1, hc.2.2⟩, fun o' cs hr => by
    by_cases e : c = b
    · subst e
      intro j v hv
      have := hr j v hv
      simp only [World.cell?, ho] at this
      cases o <;> simp_all [Obj.isCells]
    · exact range_of_block (hw c e) hr⟩
  map c hc es k h := by
    by_cases e : c = b
    · subst e; rw [ho] at h; injection h with h; exact absurd h (hm es k)
    · exact (hw c e).trans h
  row c hc cur t z h := by
    by_cases e : c = b
    · subst e; rw [ho] at h; injection h with h; rw [h] at hn; cases hn
    · exact (hw c e).trans h
  loc _ _ := rfl
  shape n c cur t _ hb hc := by
    refine ⟨cur, ?_, rfl⟩
    by_cases e : c = b
    · subst e
      rw [ho] at hc
      injection hc with hc
      subst hc
      simp [Obj.isCells] at hn
    · exact (hw c e).trans hc
theorem InH.all : ∀ y : Hs, InH (fun _ => True) y
  | .unborn => trivial
  | .dead => trivial
  | .live _ cs => InNL.all cs
  | .map _ _ _ _ => trivial
  | .iter _ _ _ _ _ _ _ => trivial
  | .loop _ _ _ _ _ _ σ => go σ
where
  go : ∀ σ : List (Nat × Av), InS (fun _ => True) σ
    | [] => trivial
    | (_, x) :: r => ⟨InN.all x, go r⟩
def setS : List Nat → List Av → List (Nat × Av) → List (Nat × Av)
  | p :: ps, x :: xs, σ => setS ps xs ((p, x) :: σ)
  | _, _, σ => σ
theorem setS_rep {E : Env} : ∀ (ps : List Nat) (xs : List Av) (vs : List Value) (σ : List (Nat × Av)) (tm : Array Value), RepL E xs vs → (∀ p ∈ ps, p < tm.size) → (∀ t, Rep E (lkS σ t) (tm.getD t undef)) →
    ∀ t, Rep E (lkS (setS ps xs σ) t) (((ps.zip vs).foldl (fun t (p, v) => t.setIfInBounds p v) tm).getD t undef)
  | [], xs, vs, σ, tm, h, hp, hs, t => by simpa [setS] using hs t
  | p :: ps, [], vs, σ, tm, h, hp, hs, t => by unfold RepL at h; subst h; simpa [setS] using hs t
  | p :: ps, x :: xs, vs, σ, tm, h, hp, hs, t => by
    unfold RepL at h
    obtain ⟨v, us, rfl, h1, h2⟩ := h
    simp only [setS, List.zip_cons_cons, List.foldl_cons]
    refine setS_rep ps xs us _ _ h2 (fun q hq => by simpa using hp q (by simp [hq])) (fun u => ?_) t
    by_cases e : p = u
    · subst e
      rw [lkS_eq, getD_set_eq' _ _ _ (hp p (by simp))]
      exact h1
    · rw [lkS_ne _ _ e, getD_set_ne' _ _ e]
      exact hs u
theorem set_size : ∀ (ps : List Nat) (vs : List Value) (tm : Array Value), ((ps.zip vs).foldl (fun t (p, v) => t.setIfInBounds p v) tm).size = tm.size
  | [], vs, tm => by simp
  | p :: ps, [], tm => by simp
  | p :: ps, v :: vs, tm => by simp only [List.zip_cons_cons, List.foldl_cons]; rw [set_size ps vs]; simp
/-- **A round**: the assignments and the body, from the slots as they stood where the loop began, the loop's variables being xs; B: it goes on. -/
def RC (P : Program) (l N : Nat) (ps : List Nat) (assign body : Code) (σ : List (Nat × Av)) (xs : List Av) (R M : List (Nat × Hs)) (K : Nat) (B : Bool) (U : List (Nat × Hs)) : Prop :=
  AWo (some l) P N (R.map (·.1)) assign (fun e Γ => e = .normal ∧ AWo (some l) P N (R.map (·.1)) body (fun e Γ' => e = (bif B then .normal else .ret) ∧ subH Γ'.h U) Γ) ⟨setS ps xs σ, (R ++ M) ++ unb K⟩
def OCR (P : Program) (o : Oper) (ρ : Operand → Av) (R : List (Nat × Hs)) (x : Av) (U : List (Nat × Hs)) : Prop :=
  ∀ (E : Env) (a : Act), Good E → (∀ p ∈ o.op.operands.toList, Rep E (ρ p) (a.eval p)) → (∀ n y, (n, y) ∈ R → HAt E n y) → growsB true P o a E.w (Post E x U)
section
variable {P : Program} {ops : Array Oper} {o : Oper} {l : List Oper} {s : List (Nat × Av)} {h : List (Nat × Hs)} {K : Ctx → List (List Nat × List Nat) → Prop} {x : Av} {R U : List (Nat × Hs)} {d : Nat} {ρ : Operand → Av}
theorem os_round (hg : o.guard = none) (h : OCR P o (evA s) R x U) : OS true P ops o s R x U := by
  intro E a hG ht hR
  have hw : Region.wanted o (yielded ops a.tmps) = true := by simp [Region.wanted, hg]
  rw [if_pos hw]
  exact h E a hG (rep_slots ht) hR
/-- A call of yield among a region's operations. -/
theorem ch_r (hg : o.guard = none) (hd : o.dst = some d) (hop : OCR P o (evA s) R x U) (hR : subH h R) (h' : Ck true P ops l ⟨(d, x) :: s, U ++ h⟩ fun Γ' F => K Γ' ((R.map (·.1), U.map (·.1)) :: F)) : Ck true P ops (o :: l) ⟨s, h⟩ K :=
  let ⟨Γ', F, h1, h2⟩ := h'
  ⟨Γ', _, Ch.cons (os_round hg hop) (subH_mem hR) (by rw [hd]; exact h1), h2⟩
end
theorem keptX_turn {D : List Nat} {E : Env} {b : Nat} {o o' : Obj} (hD : ∀ n ∈ D, E.loc n ≠ .unborn) (ho : E.w.heap[b]? = some o) (hn : o.isCells = false) : KeptX (· = b) D E { E with w := E.w.putObj b o' } where
  os := rfl
  tape := rfl
  output := rfl
  size := by simp
  bad := rfl
  keep c _ _ hx := World.putObj_heap_other hx
  from_ n c hc := .inr ⟨n, hc⟩
  born := hD
  nil_ n _ hn := hn
  same n _ c hc := ⟨hc, fun cur t h => ⟨cur, by
    by_cases e : c = b
    · subst e
      rw [ho] at h
      injection h with h
      subst h
      simp [Obj.isCells] at hn
    · exact (World.putObj_heap_other e).trans h, rfl⟩⟩
theorem good_turn {E : Env} (hG : Good E) {b : Nat} {o o' : Obj} (ho : E.w.heap[b]? = some o') (hn : o'.isCells = false) : Good { E with w := E.w.putObj b o } := ⟨fun c hc => by simpa using hG.old c hc, hG.inj, fun n c hc => by simpa using hG.lt n c hc, fun g hg => by
  obtain ⟨h1, m, h2⟩ := hG.shp g hg
  refine ⟨⟨by show g < (E.w.putObj b o).heap.size; rw [World.putObj_size]; exact h1.1, h1.2.1, h1.2.2⟩, m, ?_⟩
  by_cases e : g = b
  · subst e
    simp only [World.cell?, ho] at h2
    cases o' <;> simp_all [Obj.isCells]
  · exact (World.cell?_of_block (a := ⟨g, 0, none⟩) (World.putObj_heap_other e)).trans h2⟩
theorem like_put {E : Env} {b : Nat} {o o' : Obj} (ho : E.w.heap[b]? = some o) (hn : o.isCells = false) (hm : ∀ es c, o ≠ .map es c) : Like (fun _ => True) E { E with w := E.w.putObj b o' } := turn_like ho hn hm (fun c hc => World.putObj_heap_other hc) (by simp)
theorem fit_turn {N : Nat} {D : List Nat} {E : Env} {a : Act} {Γ : Ctx} (hF : Fit N D E a Γ) {b : Nat} {o o' : Obj} (ho : E.w.heap[b]? = some o) (hn : o.isCells = false) (hm : ∀ es c, o ≠ .map es c) (hb : ∀ n, E.loc n ≠ .at b) : Fit N D { E with w := E.w.putObj b o' } a Γ := by
  have hL := like_put (o' := o') ho hn hm
  exact ⟨good_turn hF.good ho hn, hF.size, hF.born, fun t => Rep.like hL _ _ (InN.all _) (hF.holds.1 t), fun n y hy => HAt.like hL trivial (fun c hc => World.putObj_heap_other fun e => hb n (e ▸ hc)) (InH.all y) (hF.holds.2 n y hy)⟩
section
variable {P : Program} {o : Oper} {x y : Av} {R M U : List (Nat × Hs)} {ρ : Operand → Av} {p q : Operand} {T : TypeId}
/-- **A call of yield.** -/
theorem oc_yield {l N nl K : Nat} {ps : List Nat} {assign body : Code} {σ : List (Nat × Av)} {g : Operand} {args : List Operand} {tys : Array TypeId} {xs : List Av} {B : Bool} (V : List Nat) (ho : o.op = .call { callee := .value g, args := args.toArray, argTypes := tys }) (hg : ρ g = .val (.func (.yield l) #[] #[])) (hxs : args.map ρ = xs)
    (hc : RC P l N ps assign body σ xs R M K B U) (hlen : ps.length = args.length) (hps : ∀ p ∈ ps, p < N) (hnl : nl ∉ U.map (·.1)) (hnlM : nl ∉ M.map (·.1)) (hRU : ∀ n ∈ R.map (·.1), n ∈ U.map (·.1)) (hMU : ∀ n ∈ M.map (·.1), n ∉ U.map (·.1)) (hUV : ∀ n ∈ U.map (·.1), n ∈ R.map (·.1) ∨ n ∈ V) (hb : bornH (R ++ M)) (hIA : InNL (· ∈ (R ++ M).map (·.1)) xs) (hIS : InS (· ∈ (R ++ M).map (·.1)) σ) (hIR : InHs (· ∈ (R ++ M).map (·.1)) (R ++ M)) (hIU : InHs (· ∈ U.map (·.1)) U) :
    OCR P o ρ ((nl, .loop l N ps.toArray assign body none σ) :: ((R ++ M) ++ V.map fun n => (n, .unborn))) (.val (.bool B)) ((nl, .loop l N ps.toArray assign body (bif B then none else some .ret) σ) :: (U ++ deadH M)) := by
  intro E a hG hr hH
  subst hxs
  have hA := repL_map (ρ := ρ) (E := E) (a := a) (l := args) fun p hp => hr p (by simp [ho, Op.operands, Call.operands, hp])
  have h1 := hr g (by simp [ho, Op.operands, Call.operands])
  rw [hg] at h1
  unfold Rep at h1
  obtain ⟨g1, r, g2, g3, g4, g5, g6, g7, g8, g9⟩ := hH nl (.loop l N ps.toArray assign body none σ) (by simp)
  have hst : r.state = .ready := by rw [g8]; rfl
  have hargs : (args.map a.eval).toArray.size = r.params.size := by rw [g3]; simp [hlen]
  refine .inr ⟨rfl, l, r.fn, (r.params.zip (args.map a.eval).toArray).foldl (fun t (p, v) => t.setIfInBounds p v) r.tmps, r.assign, r.body, E.w, ?_, ?_⟩
  · unfold execOp
    simp only [ho, resolve, Deferred.ofValue, h1, Sem.run_bind, Sem.run_pure, Result.andThen_ok, invoke, Array.append_empty, Array.empty_append, List.map_toArray]
    exact run_yield g2 hargs
  · have htm : (r.params.zip (args.map a.eval).toArray).foldl (fun t (p, v) => t.setIfInBounds p v) r.tmps = (ps.zip (args.map a.eval)).foldl (fun t (p, v) => t.setIfInBounds p v) r.tmps := by
      rw [g3]
      simp
    rw [htm, g4, g5]
    refine roundIn_of_wpIn trivial ?_
    have hnR : nl ∉ (R ++ M).map (·.1) := fun h => by
      rw [List.map_append, List.mem_append] at h
      exact h.elim (fun h => hnl (hRU nl h)) hnlM
    have hHR : ∀ n y, (n, y) ∈ R ++ M → HAt E n y := fun n y h => hH n y (List.mem_cons_of_mem _ (List.mem_append_left _ h))
    have hL := sub_like E ((R ++ M).map (·.1))
    have hborn : ∀ n ∈ (R ++ M).map (·.1), E.loc n ≠ .unborn := fun n hn => by
      obtain ⟨y, hy⟩ := lkH_some hn
      exact (hHR n y (lkH_mem hy)).born (bornH_get hb n y hy)
    have hRin : ∀ n ∈ R.map (·.1), n ∈ (R ++ M).map (·.1) := fun n hn => by rw [List.map_append]; exact List.mem_append_left _ hn
    have hno : ∀ n, (E.sub ((R ++ M).map (·.1))).loc n ≠ .at l := fun n hn => hnR ((hG.inj n nl l (sub_loc hn).2 g1) ▸ (sub_loc hn).1)
    have hll : l < E.w.heap.size := (hG.lt nl l g1).1
    have hF0 : Fit N (R.map (·.1)) (E.sub ((R ++ M).map (·.1))) { tmps := (ps.zip (args.map a.eval)).foldl (fun t (p, v) => t.setIfInBounds p v) r.tmps, defers := [] } ⟨setS ps (args.map ρ) σ, (R ++ M) ++ unb K⟩ := by
      refine ⟨hG.sub _, by show Array.size _ = N; rw [set_size]; exact g6, fun n hn => by rw [hL.loc n (hRin n hn)]; exact hborn n (hRin n hn), setS_rep ps _ _ σ _ (RepL.like hL _ _ hIA hA) (fun p hp => by rw [g6]; exact hps p hp) (fun t => Rep.like hL _ _ (hIS.get t) (g9 t)), fun n y hn => ?_⟩
      have hn : lkH ((R ++ M) ++ unb K) n = some y := hn
      rw [lkH_app] at hn
      by_cases hm : n ∈ (R ++ M).map (·.1)
      · obtain ⟨z, hz⟩ := lkH_some hm
        rw [hz] at hn
        simp only [Option.some_or, Option.some.injEq] at hn
        subst hn
        exact HAt.like hL hm (fun _ _ => rfl) (hIR.get n z hz) (hHR n z (lkH_mem hz))
      · rw [lkH_none hm] at hn
        have := unb_get (n := n) (y := y) (K := K) (by simpa using hn)
        subst this
        show (E.sub ((R ++ M).map (·.1))).loc n = .unborn
        simp only [Env.sub]
        rw [if_neg hm]
    refine wpIn_mono (hc (E.sub ((R ++ M).map (·.1))) _ hF0) ?_
    rintro e a1 w1 ⟨E1, Γ1, rfl, hK1, hF1, hd1, rfl, hbody⟩
    have hl1 : E1.w.heap[l]? = some (.loop r) := (hK1.keep l hll hno).trans g2
    have hno1 : ∀ n, E1.loc n ≠ .at l := fun n hn => by
      rcases hK1.from_ n l hn with h | ⟨m, h⟩
      · have : E.w.heap.size ≤ l := h
        omega
      · exact hno m h
    refine ⟨_, run_beginRound hl1 hst, ?_⟩
    have hF2 := fit_turn (o' := .loop { r with state := .busy }) hF1 hl1 rfl (by simp) hno1
    refine wpIn_mono (hbody _ a1 hF2) ?_
    rintro e a2 w2 ⟨E2, Γ2, rfl, hK2, hF2', hd2, rfl, hsub⟩
    have hK12 : KeptX (· = l) (R.map (·.1)) (E.sub ((R ++ M).map (·.1))) E2 := ((hK1.x _).trans (keptX_turn (o' := .loop { r with state := .busy }) hF1.born hl1 rfl)).trans (hK2.x _)
    have hl2 : E2.w.heap[l]? = some (.loop { r with state := .busy }) := (hK2.keep l (by have := hK1.size; show l < (E1.w.putObj _ _).heap.size; simp; exact Nat.lt_of_lt_of_le hll this) (fun n => hno1 n)).trans (World.putObj_heap_same (Array.getElem?_eq_some_iff.1 hl1).1)
    have hno2 : ∀ n, E2.loc n ≠ .at l := fun n hn => by
      rcases hK12.from_ n l hn with h | ⟨m, h⟩
      · have : E.w.heap.size ≤ l := h
        omega
      · exact hno m h
    have hjump : ∀ (jump : Option Code), jump = (bif B then none else some .ret) → ∃ v w', (Instr.endRound l jump).run P E2.w = .ok v w' ∧ ∃ v', Ending.returned v = .returned v' ∧ Post E (.val (.bool B)) ((nl, .loop l N ps.toArray assign body (bif B then none else some .ret) σ) :: (U ++ deadH M)) v' w' := by
      intro jump hj
      refine ⟨_, _, run_endRound jump hl2, _, rfl, ?_⟩
      have hB : jump.isNone = B := by rw [hj]; cases B <;> rfl
      have hK3 := hK12.trans (keptX_turn (o' := .loop { ({ r with state := .busy } : Loop) with state := if jump.isNone then .ready else .done, pending := jump }) hF2'.born hl2 rfl)
      have hF3 := fit_turn (o' := .loop { ({ r with state := .busy } : Loop) with state := if jump.isNone then .ready else .done, pending := jump }) hF2' hl2 rfl (by simp) hno2
      rw [List.map_append] at hK3
      obtain ⟨s1, s2, s3⟩ := back_post (Y := U.map (·.1)) (Xn := [nl]) hG hF3.good hK3 hRU hMU (fun n hn => hborn n (by rw [List.map_append]; exact List.mem_append_right _ hn)) (fun n h1 h2 => hH n .unborn (List.mem_cons_of_mem _ (List.mem_append_right _ (List.mem_map.2 ⟨n, (hUV n h1).resolve_left h2, rfl⟩)))) (fun b hb => ⟨⟨nl, by simp, by subst hb; exact g1⟩, fun cur t hcc => by subst hb; rw [g2] at hcc; cases hcc⟩)
      refine ⟨_, rfl, s1.more (by simp [deadH_names]), s2, by unfold Rep; rw [hB], fun n y hn => ?_⟩
      simp only [lkH] at hn
      cases hbq : Nat.beq nl n with
      | true =>
        rw [hbq, cond_true] at hn
        injection hn with hn
        subst hn
        obtain rfl := Nat.eq_of_beq_eq_true hbq
        refine ⟨(back_out hnl hnlM).trans g1, _, World.putObj_heap_same (Array.getElem?_eq_some_iff.1 hl2).1, g3, g4, g5, g6, hj, ?_, fun t => Rep.step s1 _ _ (g9 t)⟩
        show (if jump.isNone then LoopState.ready else LoopState.done) = _
        rw [hj]
      | false =>
        rw [hbq, cond_false] at hn
        rw [lkH_app] at hn
        by_cases hm : n ∈ U.map (·.1)
        · obtain ⟨z, hz⟩ := lkH_some hm
          rw [hz] at hn
          simp at hn
          subst hn
          exact HAt.like s3 hm (fun _ _ => rfl) (hIU.get n z hz) (hF3.holds.2 n z (subH_get hsub n z hz))
        · rw [lkH_none hm] at hn
          obtain ⟨rfl, hn2⟩ := deadH_get (show lkH (deadH M) n = some y by simpa using hn)
          exact back_dead hm hn2
    cases B with
    | true => exact hjump none rfl
    | false => exact hjump (some .ret) rfl
end

/-! ### A function that holds such a loop -/
/-- The deferred calls: none; or the mark of the loop that has been entered. -/
def Mk (n0 : Nat) (E : Env) (ds : List Deferred) : Prop := ds = [] ∨ ∃ d, ds = [{ target := .collected d, args := #[] }] ∧ n0 ≤ d ∧ d < E.w.heap.size ∧ (∀ n, E.loc n ≠ .at d) ∧ E.w.heap[d]? = some (.deferred (some []))
theorem Mk.kept {n0 : Nat} {D : List Nat} {E E' : Env} {ds : List Deferred} (h : Mk n0 E ds) (hK : Kept D E E') : Mk n0 E' ds := by
  rcases h with h | ⟨d, h1, h2, h3, h4, h5⟩
  · exact .inl h
  · refine .inr ⟨d, h1, h2, Nat.lt_of_lt_of_le h3 hK.size, fun n hn => ?_, (hK.keep d h3 h4).trans h5⟩
    rcases hK.from_ n d hn with h | ⟨m, h⟩
    · omega
    · exact h4 m h
def AWm (P : Program) (N : Nat) (D : List Nat) (c : Code) (Q : Exit → Ctx → Prop) (Γ : Ctx) : Prop :=
  ∀ (E : Env) (a : Act), Fit N D E a Γ → a.defers = [] → c.wpIn Fence.wide 0 P (fun e a' w' => ∃ E' Γ', E'.w = w' ∧ Kept D E E' ∧ Fit N D E' a' Γ' ∧ Mk E.w.heap.size E' a'.defers ∧ Q e Γ') a E.w
section
variable {P : Program} {N : Nat} {D : List Nat} {Q : Exit → Ctx → Prop} {Γ : Ctx}
theorem awm_of {c : Code} (h : AW P N D c Q Γ) : AWm P N D c Q Γ := fun E a hF hd => wpIn_mono (h E a hF) fun e a' w' ⟨E', Γ', h1, h2, h3, h4, h5⟩ => ⟨E', Γ', h1, h2, h3, .inl (h4.trans hd), h5⟩
theorem awm_le {τ : Ctx} {c : Code} (hl : Le N D Γ τ) (h : AWm P N D c Q τ) : AWm P N D c Q Γ := fun E a hF hd => by
  obtain ⟨E', hw, hK, hF'⟩ := hl E a hF
  rw [← hw]
  exact wpIn_mono (h E' a hF' hd) fun e a' w' ⟨E'', Γ', h1, h2, h3, h4, h5⟩ => ⟨E'', Γ', h1, hK.trans h2, h3, h4, h5⟩
/-- What comes ahead of the loop. -/
theorem awm_ahead {x y : Code} (h : AW P N D x (thenA (AWm P N D y Q) Q) Γ) : AWm P N D (.seq x y) Q Γ := fun E a hF hd => by
  refine wpIn_seq (wpIn_mono (h E a hF) ?_)
  rintro e a' w' ⟨E', Γ', rfl, hK, hF', hd', hq⟩
  cases e
  case normal =>
    refine wpIn_mono ((show AWm P N D y Q Γ' from hq) E' a' hF' (hd'.trans hd)) fun e a'' w'' ⟨E'', Γ'', h1, h2, h3, h5, h4⟩ => ⟨E'', Γ'', h1, hK.trans h2, h3, ?_, h4⟩
    rcases h5 with h5 | ⟨d, h5, h6, h7⟩
    · exact .inl h5
    · exact .inr ⟨d, h5, Nat.le_trans hK.size h6, h7⟩
  all_goals exact ⟨E', Γ', rfl, hK, hF', .inl (hd'.trans hd), hq⟩
/-- What comes behind it. -/
theorem awm_behind {x y : Code} (h : AWm P N D x (thenA (AW P N D y Q) Q) Γ) : AWm P N D (.seq x y) Q Γ := fun E a hF hd => by
  refine wpIn_seq (wpIn_mono (h E a hF hd) ?_)
  rintro e a' w' ⟨E', Γ', rfl, hK, hF', hm, hq⟩
  cases e
  case normal =>
    exact wpIn_mono ((show AW P N D y Q Γ' from hq) E' a' hF') fun e a'' w'' ⟨E'', Γ'', h1, h2, h3, h5, h4⟩ => ⟨E'', Γ'', h1, hK.trans h2, h3, by rw [h5]; exact hm.kept h2, h4⟩
  all_goals exact ⟨E', Γ', rfl, hK, hF', hm, hq⟩
theorem awm_block {id : Nat} {c : Code} (h : AWm P N D c (inBlockA id Q) Γ) : AWm P N D (.block id c) Q Γ := fun E a hF hd => by
  refine wpIn_block (wpIn_mono (h E a hF hd) ?_)
  rintro e a' w' ⟨E', Γ', rfl, hK, hF', hd, hq⟩
  cases e
  case exit id' =>
    by_cases hid : id' = id
    · subst hid
      simp only [Exit.inBlock, if_true]
      exact ⟨E', Γ', rfl, hK, hF', hd, by simpa [inBlockA] using hq⟩
    · simp only [Exit.inBlock, hid, if_false]
      exact ⟨E', Γ', rfl, hK, hF', hd, by simpa [inBlockA, beqF hid] using hq⟩
  all_goals exact ⟨E', Γ', rfl, hK, hF', hd, hq⟩
/-- **The statement.** nl: the name of the loop's record. σ: what is known of the slots. B: no round has left the loop. -/
theorem awm_rangeFunc {g : Operand} {ps : List Nat} {assign body : Code} {gf : Nat} {caps : List Av} {x : Av} {Rc Mc U : List (Nat × Hs)} {σ : List (Nat × Av)} {B : Bool} (nl : Nat) (V : List Nat) (hn : lkH Γ.h nl = some .unborn) (hg : evA Γ.s g = .clo gf caps) (hf : callB P gf = true) (hσ : subS Γ.s σ) (hR : subH Γ.h (Rc ++ Mc))
    (hc : ∀ l, FCM P gf (.val (.func (.yield l) #[] #[]) :: caps) ((nl, .loop l N ps.toArray assign body none σ) :: Rc) Mc x ((nl, .loop l N ps.toArray assign body (bif B then none else some .ret) σ) :: U))
    (hV : subH Γ.h (V.map fun n => (n, .unborn))) (hUV : ∀ n ∈ U.map (·.1), n ∈ Rc.map (·.1) ∨ n ∈ V) (hnl : nl ∉ U.map (·.1)) (hnlM : nl ∉ Mc.map (·.1)) (hb : bornH (Rc ++ Mc)) (hRU : ∀ n ∈ Rc.map (·.1), n ∈ U.map (·.1)) (hMU : ∀ n ∈ Mc.map (·.1), n ∉ U.map (·.1)) (hIC : InNL (· ∈ (Rc ++ Mc).map (·.1)) caps) (hIS : InS (· ∈ Rc.map (·.1)) σ) (hIR : InHs (· ∈ (Rc ++ Mc).map (·.1)) (Rc ++ Mc)) (hIx : InN (· ∈ U.map (·.1)) x) (hIU : InHs (· ∈ U.map (·.1)) U)
    (hQ : Q (bif B then .normal else .ret) ⟨Γ.s, (nl, .dead) :: ((U ++ deadH Mc) ++ Γ.h)⟩) : AWm P N D (.rangeFunc g ps.toArray assign body) Q Γ := fun E a hF hd0 => by
  have hgv := rep_eval hF.holds.1 g
  rw [hg] at hgv
  unfold Rep at hgv
  obtain ⟨lb, hgv, hcaps⟩ := hgv
  have hun : E.loc nl = .unborn := hF.holds.2 nl .unborn hn
  refine wpIn_rangeFunc fun fn _ => ?_
  obtain ⟨rec, hrec⟩ : ∃ rec : Loop, rec = { state := .ready, pending := none, fn, tmps := a.tmps, params := ps.toArray, assign, body, defers := E.w.heap.size } := ⟨_, rfl⟩
  obtain ⟨W1, hW1⟩ : ∃ W1, (E.w.alloc (.deferred (some []))).alloc (.loop rec) = W1 := ⟨_, rfl⟩
  have hsz : W1.heap.size = E.w.heap.size + 2 := by rw [← hW1]; simp
  have hL1 : W1.heap[E.w.heap.size + 1]? = some (.loop rec) := by
    rw [← hW1]; have := World.alloc_heap_new (E.w.alloc (.deferred (some []))) (.loop rec); rwa [World.size_alloc] at this
  have hK1 : W1.heap[E.w.heap.size]? = some (.deferred (some [])) := by
    rw [← hW1]; exact (Below.heap_alloc _ _ _ (by simp)).trans (World.alloc_heap_new E.w _)
  have hb1 : Below E.w.heap.size E.w W1 := by
    rw [← hW1]; exact ((Below.refl _ E.w).alloc (Nat.le_refl _) _).alloc (by simp) _
  have hS1 := Step.give hF.good hb1 hun (b := E.w.heap.size + 1) (by omega)
  have hG1 := Good.give (n := nl) hF.good hb1 (b := E.w.heap.size + 1) (by omega) (by omega)
  have hH1 : ∀ n y, n ≠ nl → lkH Γ.h n = some y → HAt (E.give W1 nl (E.w.heap.size + 1)) n y := fun n y hne hy => HAt.step hS1 (by simpa using hne) (hF.holds.2 n y hy)
  have hnlR : nl ∉ (Rc ++ Mc).map (·.1) := fun h => by
    rw [List.map_append, List.mem_append] at h
    exact h.elim (fun h => hnl (hRU nl h)) hnlM
  have hpost := FCM.post (hc (E.w.heap.size + 1)) hG1 (vs := .func (.yield (E.w.heap.size + 1)) #[] #[] :: lb) (by
      unfold RepL
      exact ⟨_, _, rfl, by unfold Rep; rfl, RepL.stepL hS1 hcaps⟩) (fun n y hm => by
      simp only [List.cons_append, List.mem_cons, Prod.mk.injEq] at hm
      rcases hm with ⟨rfl, rfl⟩ | hm
      · refine ⟨by simp [Env.give], rec, hL1, ?_⟩
        rw [hrec]
        refine ⟨rfl, rfl, rfl, hF.size, rfl, rfl, fun t => Rep.step hS1 _ _ ?_⟩
        rcases subS_get hσ t with h | h
        · rw [h]; unfold Rep; trivial
        · rw [← h]; exact hF.holds.1 t
      · exact hH1 n y (fun e => hnlR (e ▸ List.mem_map.2 ⟨_, hm, rfl⟩)) (subH_mem hR n y hm)) (fun n hm hm' => by
      simp only [List.map_cons, List.mem_cons, not_or] at hm hm'
      have hmU := hm.resolve_left hm'.1
      have := (hUV n hmU).resolve_left hm'.2
      exact hH1 n .unborn hm'.1 (subH_mem hV n .unborn (List.mem_map.2 ⟨n, this, rfl⟩))) ⟨trivial, hb⟩ (fun n hm => by
      simp only [List.map_cons, List.mem_cons] at hm ⊢
      exact hm.imp id (hRU n)) (fun n hm => by
      simp only [List.map_cons, List.mem_cons, not_or]
      exact ⟨fun e => hnlM (e ▸ hm), hMU n hm⟩) (by
      unfold InNL
      exact ⟨by unfold InN; trivial, inNL_more (fun n h => by simp only [List.cons_append, List.map_cons, List.mem_cons]; exact .inr h) _ hIC⟩) ⟨inS_more (fun n h => by simp only [List.cons_append, List.map_cons, List.map_append, List.mem_cons, List.mem_append]; exact .inr (.inl h)) _ hIS, inHs_more (fun n h => by simp only [List.cons_append, List.map_cons, List.mem_cons]; exact .inr h) _ hIR⟩
      (inN_more (fun n h => by simp only [List.map_cons, List.mem_cons]; exact .inr h) _ hIx) ⟨inS_more (fun n h => by simp only [List.map_cons, List.mem_cons]; exact .inr (hRU n h)) _ hIS, inHs_more (fun n h => by simp only [List.map_cons, List.mem_cons]; exact .inr h) _ hIU⟩
  refine ⟨E.w.heap.size + 1, [{ target := .collected E.w.heap.size, args := #[] }], W1, { target := .fn (.func gf) lb.toArray, args := #[.func (.yield (E.w.heap.size + 1)) #[] #[]] }, W1, gf,
    (.func (.yield (E.w.heap.size + 1)) #[] #[] :: lb).toArray, W1, ?_, ?_, fun _ _ => trivial, ?_, fun hdep => by simp [Fence.wide] at hdep, ?_⟩
  · rw [← hW1, hrec]; exact run_enterLoop_outer _ _ _ _ _
  · simp only [resolve, hgv]
    simp [go_sem]
  · simp [invoke, callB_run hf]
  · refine (callsIn_wide.2 hpost).mono ?_
    rintro e w3 ⟨v, rfl, E2, rfl, hS2, hG2, hx2, hU2⟩
    obtain ⟨q1, r, q2, q3, q4, q5, q6, q7, q8, q9⟩ := hU2 nl (.loop (E.w.heap.size + 1) N ps.toArray assign body (bif B then none else some .ret) σ) (by simp [lkH])
    have hbusy : r.state ≠ .busy := by rw [q8]; cases B <;> simp
    have hd2 : E2.w.heap[E.w.heap.size]? = some (.deferred (some [])) := (hS2.keep _ (by show _ < W1.heap.size; omega) (fun n hn => by
      by_cases e : n = nl
      · subst e; simp [Env.give] at hn
      · simp [Env.give, e] at hn
        have := (hF.good.lt n _ hn).1
        omega)).trans hK1
    have hdn : ∀ n, E2.loc n ≠ .at E.w.heap.size := fun n hn => by
      have key : ∀ m, (E.give W1 nl (E.w.heap.size + 1)).loc m ≠ .at E.w.heap.size := fun m hm => by
        by_cases e : m = nl
        · subst e; simp [Env.give] at hm
        · simp [Env.give, e] at hm
          have := (hF.good.lt m _ hm).1
          omega
      rcases hS2.from_ n _ hn with h | ⟨_, h | ⟨m, h⟩⟩
      · exact key n h
      · have : W1.heap.size ≤ E.w.heap.size := h
        omega
      · exact key m h
    refine ⟨(bif B then none else some .ret), E2.w.putObj (E.w.heap.size + 1) (.loop { r with state := .exhausted }), (run_endLoop q2 hbusy).trans (congrArg (fun j => Result.ok j (E2.w.putObj (E.w.heap.size + 1) (.loop { r with state := .exhausted }))) q7), ?_⟩
    -- the state behind
    have hKill := Step.kill E2 nl (by rw [q1]; simp)
    have hG3 : Good (E2.re nl .dead) := hG2.re (by simp)
    have hno3 : ∀ n, (E2.re nl .dead).loc n ≠ .at (E.w.heap.size + 1) := fun n hn => by
      by_cases e : n = nl
      · subst e; simp [Env.re] at hn
      · simp [Env.re, e] at hn
        exact e (hG2.inj n nl _ hn q1)
    have hborn1 : ∀ n ∈ D, (E.give W1 nl (E.w.heap.size + 1)).loc n ≠ .unborn := fun n hn => hS1.born n (hF.born n hn)
    have hKall : Kept D E (E2.re nl .dead) := ((hS1.trans hS2).trans hKill).kept hF.born
    have hF3 : Fit N D (E2.re nl .dead) { a with defers := [{ target := .collected E.w.heap.size, args := #[] }] ++ a.defers } ⟨Γ.s, (nl, .dead) :: ((U ++ deadH Mc) ++ Γ.h)⟩ := by
      refine ⟨hG3, hF.size, fun n hn => hKall.born n hn, fun t => Rep.step ((hS1.trans hS2).trans hKill) _ _ (hF.holds.1 t), fun n y hn => ?_⟩
      have hn : lkH ((nl, .dead) :: ((U ++ deadH Mc) ++ Γ.h)) n = some y := hn
      by_cases e : nl = n
      · subst e
        simp [lkH] at hn
        subst hn
        show (E2.re nl .dead).loc nl = .dead
        simp [Env.re]
      · simp only [lkH, beqF e, cond_false] at hn
        refine HAt.step hKill (by simpa using Ne.symm e) ?_
        rw [lkH_app] at hn
        by_cases hm : n ∈ (U ++ deadH Mc).map (·.1)
        · obtain ⟨z, hz⟩ := lkH_some hm
          rw [hz] at hn
          simp at hn
          subst hn
          exact hU2 n z (by simp only [List.cons_append, lkH, beqF e, cond_false]; exact hz)
        · rw [lkH_none hm] at hn
          exact HAt.step hS2 (by simp only [List.cons_append, List.map_cons, List.mem_cons, not_or]; exact ⟨Ne.symm e, hm⟩) (hH1 n y (Ne.symm e) (by simpa using hn))
    have hF4 := fit_turn (o' := .loop { r with state := .exhausted }) hF3 (b := E.w.heap.size + 1) q2 rfl (by simp) hno3
    have hK4 : Kept D E { E2.re nl .dead with w := E2.w.putObj (E.w.heap.size + 1) (.loop { r with state := .exhausted }) } := by
      have hlt : ∀ b, b < E.w.heap.size → b ≠ E.w.heap.size + 1 := fun b hb => by omega
      refine ⟨hKall.os, hKall.tape, hKall.output, by show _ ≤ (E2.w.putObj _ _).heap.size; rw [World.putObj_size]; exact hKall.size, hKall.bad, fun b hb hn => (World.putObj_heap_other (hlt b hb)).trans (hKall.keep b hb hn), hKall.from_, hKall.born, hKall.nil_, fun n hn b hb => ?_⟩
      obtain ⟨k1, k2⟩ := hKall.same n hn b hb
      refine ⟨k1, fun cur t hcur => ?_⟩
      obtain ⟨cur', k3, k4⟩ := k2 cur t hcur
      exact ⟨cur', (World.putObj_heap_other (hlt b (hF.good.lt n b k1).1)).trans k3, k4⟩
    have hM : Mk E.w.heap.size { E2.re nl .dead with w := E2.w.putObj (E.w.heap.size + 1) (.loop { r with state := .exhausted }) } ([{ target := .collected E.w.heap.size, args := #[] }] ++ a.defers) := by
      refine .inr ⟨E.w.heap.size, by rw [hd0]; rfl, Nat.le_refl _, by show _ < (E2.w.putObj _ _).heap.size; simp; exact (Array.getElem?_eq_some_iff.1 hd2).1, fun n hn => ?_, (World.putObj_heap_other (by omega)).trans hd2⟩
      by_cases e : n = nl
      · subst e; simp [Env.re] at hn
      · simp [Env.re, e] at hn
        exact hdn n hn
    cases B with
    | true => exact ⟨_, _, rfl, hK4, hF4, hM, hQ⟩
    | false => exact wpIn_ret ⟨_, _, rfl, hK4, hF4, hM, hQ⟩
/-- **A function that holds a loop over a function, from its body.** -/
theorem FC.bodyM {P : Program} {f : FuncId} {fn : Func} {c : Code} {args : List Av} {R U : List (Nat × Hs)} {x : Av} (K : Nat) (N : Nat) (hf : P.funcs[f]? = some fn) (hb : fn.body = some c) (hN : max fn.ntmps args.length = N)
    (h : AWm P N (R.map (·.1)) c (fun e Γ => (e = .ret ∨ e = .normal) ∧ ResOk P fn Γ x ∧ subH Γ.h U) ⟨argS args 0, R ++ unb K⟩) : FC P f args R x U := by
  intro E vs hG hA hR hB hU
  refine callsIn_wide.1 (callsIn_of_wp_marks (n := 0) hf hb trivial ?_)
  have hlen := hA.length
  refine wpIn_mono (h E _ ⟨hG, ?_, hB, fun t => argS_rep args vs 0 _ hA (fun i v hv => ?_) t, fun n y hn => ?_⟩ rfl) ?_
  · simp [hlen]; omega
  · have hi := (List.getElem?_eq_some_iff.1 hv)
    obtain ⟨hi1, hi2⟩ := hi
    rw [Array.getD_eq_getD_getElem?, Nat.zero_add, Array.getElem?_append_left (by simpa using hi1)]
    simp [hv]
  · rw [lkH_app] at hn
    by_cases hm : n ∈ R.map (·.1)
    · obtain ⟨z, hz⟩ := lkH_some hm
      rw [hz] at hn
      simp at hn
      subst hn
      exact hR n z hz
    · rw [lkH_none hm] at hn
      have := unb_get (n := n) (y := y) (K := K) (by simpa using hn)
      subst this
      exact hU n hm
  · rintro e a' w' ⟨E', Γ', rfl, hK, hF, hM, he, hres, hsub⟩
    have fin : LeavesInM Fence.wide 0 P fn a'.tmps (fun e w' => ∃ E' v, e = .returned v ∧ E'.w = w' ∧ Good E' ∧ Kept (R.map (·.1)) E E' ∧ Rep E' x v ∧ ∀ n y, lkH U n = some y → HAt E' n y) a'.defers .returning E'.w := by
      rcases hM with hM | ⟨d, hM, h1, h2, h3, h4⟩
      · rw [hM]
        obtain ⟨v, hr, hx⟩ := hres E' a' hF.good hF.holds
        exact ⟨v, hr, E', v, rfl, rfl, hF.good, hK, hx, fun n y hy => hF.holds.2 n y (subH_get hsub n y hy)⟩
      · rw [hM]
        refine ⟨by simp, .inl ⟨d, _, rfl, run_takeDeferred h4, ?_⟩⟩
        have hF4 := fit_turn (o' := .deferred none) hF h4 rfl (by simp) h3
        obtain ⟨v, hr, hx⟩ := hres _ a' hF4.good hF4.holds
        refine ⟨v, hr, _, v, rfl, rfl, hF4.good, ?_, hx, fun n y hy => hF4.holds.2 n y (subH_get hsub n y hy)⟩
        have hlt : ∀ b, b < E.w.heap.size → b ≠ d := fun b hb => by omega
        refine ⟨hK.os, hK.tape, hK.output, by show _ ≤ (E'.w.putObj _ _).heap.size; simpa using hK.size, hK.bad, fun b hb hn => (World.putObj_heap_other (hlt b hb)).trans (hK.keep b hb hn), hK.from_, hK.born, hK.nil_, fun n hn b hb => ?_⟩
        obtain ⟨k1, k2⟩ := hK.same n hn b hb
        refine ⟨k1, fun cur t hcur => ?_⟩
        obtain ⟨cur', k3, k4⟩ := k2 cur t hcur
        exact ⟨cur', (World.putObj_heap_other (hlt b (hG.lt n b k1).1)).trans k3, k4⟩
    rcases he with rfl | rfl
    · exact fin
    · exact fin
end
end Go.Proofs.YtpbaiighifhfnaaDoor
