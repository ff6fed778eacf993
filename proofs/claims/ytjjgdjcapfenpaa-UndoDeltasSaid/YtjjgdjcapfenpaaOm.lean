/- Calls that bear names: what a call is handed, and gives back, may lie in blocks of the caller's own. No program stands in this text. -/
import Derived.Test.YtjjgdjcapfenpaaOl
namespace Go.Proofs.Ytjjgdjcapfenpaa
open Go.RowKit
set_option linter.unusedVariables false
set_option linter.unusedSimpArgs false

mutual
/-- Its names are among Z. -/
def InN (Z : Nat → Prop) : Av → Prop
  | .any => True
  | .val _ => True
  | .sl _ _ row => ∀ j, InN Z (row j)
  | .ptr x => InN Z x
  | .agg cs => InNL Z cs
  | .tup cs => InNL Z cs
  | .clo _ cs => InNL Z cs
  | .own n _ => Z n
  | .osl _ n _ => Z n
  | .oss n _ _ => Z n
  | .gd _ x => InN Z x
  | .nz x => InN Z x
def InNL (Z : Nat → Prop) : List Av → Prop
  | [] => True
  | x :: xs => InN Z x ∧ InNL Z xs
end
mutual
theorem InN.of_pure {Z : Nat → Prop} : ∀ x : Av, Pure x → InN Z x
  | .any, _ => by unfold InN; trivial
  | .val _, _ => by unfold InN; trivial
  | .sl _ _ row, h => by unfold Pure at h; unfold InN; exact fun j => InN.of_pure (row j) (h j)
  | .ptr x, h => by unfold Pure at h; unfold InN; exact InN.of_pure x h
  | .agg cs, h => by unfold Pure at h; unfold InN; exact InNL.of_pure cs h
  | .tup cs, h => by unfold Pure at h; unfold InN; exact InNL.of_pure cs h
  | .clo _ cs, h => by unfold Pure at h; unfold InN; exact InNL.of_pure cs h
  | .own _ _, h => by unfold Pure at h; exact h.elim
  | .osl _ _ _, h => by unfold Pure at h; exact h.elim
  | .oss _ _ _, h => by unfold Pure at h; exact h.elim
  | .gd _ x, h => by unfold Pure at h; unfold InN; exact InN.of_pure x h
  | .nz x, h => by unfold Pure at h; unfold InN; exact InN.of_pure x h
theorem InNL.of_pure {Z : Nat → Prop} : ∀ xs : List Av, PureL xs → InNL Z xs
  | [], _ => by unfold InNL; trivial
  | x :: xs, h => by unfold PureL at h; unfold InNL; exact ⟨InN.of_pure x h.1, InNL.of_pure xs h.2⟩
end
mutual
theorem InN.all : ∀ x : Av, InN (fun _ => True) x
  | .any => by unfold InN; trivial
  | .val _ => by unfold InN; trivial
  | .sl _ _ row => by unfold InN; exact fun j => InN.all (row j)
  | .ptr x => by unfold InN; exact InN.all x
  | .agg cs => by unfold InN; exact InNL.all cs
  | .tup cs => by unfold InN; exact InNL.all cs
  | .clo _ cs => by unfold InN; exact InNL.all cs
  | .own _ _ => by unfold InN; trivial
  | .osl _ _ _ => by unfold InN; trivial
  | .oss _ _ _ => by unfold InN; trivial
  | .gd _ x => by unfold InN; exact InN.all x
  | .nz x => by unfold InN; exact InN.all x
theorem InNL.all : ∀ xs : List Av, InNL (fun _ => True) xs
  | [] => by unfold InNL; trivial
  | x :: xs => by unfold InNL; exact ⟨InN.all x, InNL.all xs⟩
end
/-- What a value stands on is the same in both. -/
structure Like (Z : Nat → Prop) (E E' : Env) : Prop where
  ok : ∀ b, E.ok b → E'.ok b ∧ ∀ o cs, E.w.rangeAt b o cs → E'.w.rangeAt b o cs
  loc : ∀ n, Z n → E'.loc n = E.loc n
  shape : ∀ n b cur t, Z n → E.loc n = .at b → E.w.heap[b]? = some (.cells cur t (0, 0)) → ∃ cur', E'.w.heap[b]? = some (.cells cur' t (0, 0)) ∧ cur'.size = cur.size
mutual
theorem Rep.like {Z : Nat → Prop} {E E' : Env} (h : Like Z E E') : ∀ (x : Av) (v : Value), InN Z x → Rep E x v → Rep E' x v
  | .any, _, _, _ => by unfold Rep; trivial
  | .val x, v, _, hr => by unfold Rep at hr ⊢; exact hr
  | .sl k n row, v, hp, hr => by
    unfold InN at hp
    unfold Rep at hr ⊢
    obtain ⟨A, c, h1, h2, h3, h4⟩ := hr
    refine ⟨A, c, h1, h2, h3, fun hn => ?_⟩
    obtain ⟨b, o, h5, h6, h7⟩ := h4 hn
    refine ⟨b, o, h5, (h.ok b h6).1, fun j hj => ?_⟩
    obtain ⟨u, h8, h9, h10⟩ := h7 j hj
    exact ⟨u, Rep.like h (row j) u (hp j) h8, h9, (h.ok b h6).2 _ _ h10⟩
  | .ptr x, v, hp, hr => by
    unfold InN at hp
    unfold Rep at hr ⊢
    obtain ⟨b, o, u, h1, h2, h3, h4⟩ := hr
    exact ⟨b, o, u, h1, (h.ok b h2).1, Rep.like h x u hp h3, (h.ok b h2).2 _ _ h4⟩
  | .agg cs, v, hp, hr => by
    unfold InN at hp
    unfold Rep at hr ⊢
    obtain ⟨vs, h1, h2, h3⟩ := hr
    exact ⟨vs, h1, RepL.like h cs vs hp h2, h3⟩
  | .tup cs, v, hp, hr => by
    unfold InN at hp
    unfold Rep at hr ⊢
    obtain ⟨vs, h1, h2⟩ := hr
    exact ⟨vs, h1, RepL.like h cs vs hp h2⟩
  | .clo f cs, v, hp, hr => by
    unfold InN at hp
    unfold Rep at hr ⊢
    obtain ⟨vs, h1, h2⟩ := hr
    exact ⟨vs, h1, RepL.like h cs vs hp h2⟩
  | .own n off, v, hp, hr => by
    unfold InN at hp
    unfold Rep at hr ⊢
    rw [h.loc n hp]
    exact hr
  | .osl k n len, v, hp, hr => by
    unfold InN at hp
    unfold Rep at hr ⊢
    rw [h.loc n hp]
    refine ⟨hr.1, fun b hb => ?_⟩
    obtain ⟨c, cur, t, h1, h2, h3, h4, h5⟩ := hr.2 b hb
    obtain ⟨cur', h6, h7⟩ := h.shape n b cur t hp hb h4
    exact ⟨c, cur', t, h1, h2, h3, h6, by rw [h7, h5]⟩
  | .oss n off len, v, hp, hr => by
    unfold InN at hp
    unfold Rep at hr ⊢
    rw [h.loc n hp]
    refine ⟨hr.1, fun b hb => ?_⟩
    obtain ⟨A, c, cur, t, h1, h2, h3, h9, h4, h5⟩ := hr.2 b hb
    obtain ⟨cur', h6, h7⟩ := h.shape n b cur t hp hb h4
    exact ⟨A, c, cur', t, h1, h2, h3, h9, h6, by rw [h7]; exact h5⟩
  | .gd c x, v, hp, hr => by
    unfold InN at hp
    unfold Rep at hr ⊢
    exact ⟨fun hc => Rep.like h x v hp (hr.1 hc), hr.2⟩
  | .nz x, v, hp, hr => by
    unfold InN at hp
    unfold Rep at hr ⊢
    exact ⟨Rep.like h x v hp hr.1, hr.2⟩
theorem RepL.like {Z : Nat → Prop} {E E' : Env} (h : Like Z E E') : ∀ (xs : List Av) (vs : List Value), InNL Z xs → RepL E xs vs → RepL E' xs vs
  | [], vs, _, hr => by unfold RepL at hr ⊢; exact hr
  | x :: xs, vs, hp, hr => by
    unfold InNL at hp
    unfold RepL at hr ⊢
    obtain ⟨v, us, h1, h2, h3⟩ := hr
    exact ⟨v, us, h1, Rep.like h x v hp.1 h2, RepL.like h xs us hp.2 h3⟩
end
theorem InNL.get {Z : Nat → Prop} : ∀ {xs : List Av}, InNL Z xs → ∀ x ∈ xs, InN Z x
  | x :: xs, h, y, hy => by
    unfold InNL at h
    rcases List.mem_cons.1 hy with rfl | hy
    · exact h.1
    · exact InNL.get h.2 y hy
def InS (Z : Nat → Prop) : List (Nat × Av) → Prop
  | [] => True
  | (_, x) :: r => InN Z x ∧ InS Z r
theorem InS.get {Z : Nat → Prop} : ∀ {σ : List (Nat × Av)}, InS Z σ → ∀ t, InN Z (lkS σ t)
  | [], _, t => by unfold lkS InN; trivial
  | (u, x) :: r, h, t => by
    by_cases e : u = t
    · subst e; rw [lkS_eq]; exact h.1
    · rw [lkS_ne _ _ e]; exact InS.get h.2 t
theorem InS.pure {Z : Nat → Prop} : ∀ {σ : List (Nat × Av)}, PureS σ → InS Z σ
  | [], _ => trivial
  | (_, x) :: r, h => ⟨InN.of_pure x h.1, InS.pure h.2⟩
def InH (Z : Nat → Prop) : Hs → Prop
  | .live _ cs => InNL Z cs
  | .loop _ _ _ _ _ _ σ => InS Z σ
  | _ => True
theorem HAt.like {Z : Nat → Prop} {E E' : Env} (h : Like Z E E') {n : Nat} (hn : Z n) (hh : ∀ b, E.loc n = .at b → E'.w.heap[b]? = E.w.heap[b]?) {y : Hs} (hi : InH Z y) (hy : HAt E n y) : HAt E' n y := by
  cases y with
  | unborn => exact (h.loc n hn).trans hy
  | dead => exact (h.loc n hn).trans hy
  | live t cs =>
    rcases hy with ⟨h3, h4⟩ | ⟨b, cur, h3, h4, h5⟩
    · exact .inl ⟨(h.loc n hn).trans h3, h4⟩
    · refine .inr ⟨b, cur, (h.loc n hn).trans h3, (hh b h3).trans h4, fun i z hz => ?_⟩
      obtain ⟨u, h6, h7, h8⟩ := h5 i z hz
      exact ⟨u, h6, h7, Rep.like h z u (InNL.get hi z (List.mem_of_getElem? hz)) h8⟩
  | loop l N ps assign body pe σ =>
    obtain ⟨h3, r, h4, h5, h6, h7, h8, h9, h10, h11⟩ := hy
    exact ⟨(h.loc n hn).trans h3, r, (hh l h3).trans h4, h5, h6, h7, h8, h9, h10, fun t => Rep.like h _ _ (InS.get hi t) (h11 t)⟩

mutual
theorem inN_more {Z Z' : Nat → Prop} (h : ∀ n, Z n → Z' n) : ∀ x : Av, InN Z x → InN Z' x
  | .any, _ => by unfold InN; trivial
  | .val _, _ => by unfold InN; trivial
  | .sl _ _ row, k => by unfold InN at k ⊢; exact fun j => inN_more h (row j) (k j)
  | .ptr x, k => by unfold InN at k ⊢; exact inN_more h x k
  | .agg cs, k => by unfold InN at k ⊢; exact inNL_more h cs k
  | .tup cs, k => by unfold InN at k ⊢; exact inNL_more h cs k
  | .clo _ cs, k => by unfold InN at k ⊢; exact inNL_more h cs k
  | .own _ _, k => by unfold InN at k ⊢; exact h _ k
  | .osl _ _ _, k => by unfold InN at k ⊢; exact h _ k
  | .oss _ _ _, k => by unfold InN at k ⊢; exact h _ k
  | .gd _ x, k => by unfold InN at k ⊢; exact inN_more h x k
  | .nz x, k => by unfold InN at k ⊢; exact inN_more h x k
theorem inNL_more {Z Z' : Nat → Prop} (h : ∀ n, Z n → Z' n) : ∀ xs : List Av, InNL Z xs → InNL Z' xs
  | [], _ => by unfold InNL; trivial
  | x :: xs, k => by unfold InNL at k ⊢; exact ⟨inN_more h x k.1, inNL_more h xs k.2⟩
end
theorem inS_more {Z Z' : Nat → Prop} (h : ∀ n, Z n → Z' n) : ∀ σ : List (Nat × Av), InS Z σ → InS Z' σ
  | [], _ => trivial
  | (_, x) :: r, k => ⟨inN_more h x k.1, inS_more h r k.2⟩
/-- The facts' own names are among Z. -/
def InHs (Z : Nat → Prop) : List (Nat × Hs) → Prop
  | [] => True
  | (_, y) :: r => InH Z y ∧ InHs Z r
theorem inHs_more {Z Z' : Nat → Prop} (h : ∀ n, Z n → Z' n) : ∀ R : List (Nat × Hs), InHs Z R → InHs Z' R
  | [], _ => trivial
  | (_, y) :: r, k => ⟨by cases y <;> first | trivial | exact inNL_more h _ k.1 | exact inS_more h _ k.1, inHs_more h r k.2⟩

/-! ### The callee's view, and the way back -/
def Env.sub (E : Env) (Z : List Nat) : Env := { w := E.w, loc := fun n => if n ∈ Z then E.loc n else .unborn, bad := fun b => E.bad b ∨ ∃ n, n ∉ Z ∧ E.loc n = .at b }
theorem sub_loc {E : Env} {Z : List Nat} {n b : Nat} (h : (E.sub Z).loc n = .at b) : n ∈ Z ∧ E.loc n = .at b := by
  by_cases e : n ∈ Z
  · simp [Env.sub, e] at h; exact ⟨e, h⟩
  · simp [Env.sub, e] at h
theorem Good.sub {E : Env} (hG : Good E) (Z : List Nat) : Good (E.sub Z) where
  old b hb := by
    rcases hb with hb | ⟨n, _, hn⟩
    · exact hG.old b hb
    · exact (hG.lt n b hn).1
  inj n m b hn hm := hG.inj n m b (sub_loc hn).2 (sub_loc hm).2
  lt n b hn := ⟨(hG.lt n b (sub_loc hn).2).1, fun hb => by
    rcases hb with hb | ⟨m, h1, h2⟩
    · exact (hG.lt n b (sub_loc hn).2).2 hb
    · exact h1 ((hG.inj m n b h2 (sub_loc hn).2) ▸ (sub_loc hn).1)⟩
theorem sub_like (E : Env) (Z : List Nat) : Like (· ∈ Z) E (E.sub Z) where
  ok b h := ⟨⟨h.1, fun hb => by
    rcases hb with hb | ⟨n, _, hn⟩
    · exact h.2.1 hb
    · exact h.2.2 n hn, fun n hn => h.2.2 n (sub_loc hn).2⟩, fun o cs hr => hr⟩
  loc n hn := by simp [Env.sub, hn]
  shape n b cur t hn hb hc := ⟨cur, hc, rfl⟩
/-- 'Kept', some blocks apart. -/
structure KeptX (X : Nat → Prop) (D : List Nat) (E E' : Env) : Prop where
  os : E'.w.os = E.w.os
  tape : E'.w.tape = E.w.tape
  output : E'.w.output = E.w.output
  size : E.w.heap.size ≤ E'.w.heap.size
  bad : E'.bad = E.bad
  keep : ∀ b, b < E.w.heap.size → (∀ n, E.loc n ≠ .at b) → ¬ X b → E'.w.heap[b]? = E.w.heap[b]?
  from_ : ∀ n b, E'.loc n = .at b → E.w.heap.size ≤ b ∨ ∃ m, E.loc m = .at b
  born : ∀ n ∈ D, E'.loc n ≠ .unborn
  nil_ : ∀ n ∈ D, E'.loc n = .nil → E.loc n = .nil
  same : ∀ n ∈ D, ∀ b, E'.loc n = .at b → E.loc n = .at b ∧ ∀ cur t, E.w.heap[b]? = some (.cells cur t (0, 0)) → ∃ cur', E'.w.heap[b]? = some (.cells cur' t (0, 0)) ∧ cur'.size = cur.size
theorem Kept.x {D : List Nat} {E E' : Env} (h : Kept D E E') (X : Nat → Prop) : KeptX X D E E' := ⟨h.os, h.tape, h.output, h.size, h.bad, fun b h1 h2 _ => h.keep b h1 h2, h.from_, h.born, h.nil_, h.same⟩
theorem KeptX.trans {X : Nat → Prop} {D : List Nat} {E E' E'' : Env} (h : KeptX X D E E') (k : KeptX X D E' E'') : KeptX X D E E'' where
  os := k.os.trans h.os
  tape := k.tape.trans h.tape
  output := k.output.trans h.output
  size := Nat.le_trans h.size k.size
  bad := k.bad.trans h.bad
  keep b hb hn hx := by
    refine (k.keep b (Nat.lt_of_lt_of_le hb h.size) (fun n hn' => ?_) hx).trans (h.keep b hb hn hx)
    rcases h.from_ n b hn' with h1 | ⟨m, h1⟩
    · omega
    · exact hn m h1
  from_ n b hb := by
    rcases k.from_ n b hb with h1 | ⟨m, h1⟩
    · exact .inl (Nat.le_trans h.size h1)
    · exact h.from_ m b h1
  born := k.born
  nil_ n hn hl := h.nil_ n hn (k.nil_ n hn hl)
  same n hn b hb := by
    obtain ⟨h1, h2⟩ := k.same n hn b hb
    obtain ⟨h3, h4⟩ := h.same n hn b h1
    refine ⟨h3, fun cur t hc => ?_⟩
    obtain ⟨cur', h5, h6⟩ := h4 cur t hc
    obtain ⟨cur'', h7, h8⟩ := h2 cur' t h5
    exact ⟨cur'', h7, h8.trans h6⟩
/-- Y: the names that are known behind; Mn: those that were given away. -/
def Env.back (E E' : Env) (Y Mn : List Nat) : Env := { w := E'.w, loc := fun n => if n ∈ Y then E'.loc n else if n ∈ Mn then .dead else E.loc n, bad := E.bad }
theorem back_in {E E' : Env} {Y Mn : List Nat} {n : Nat} (h : n ∈ Y) : (E.back E' Y Mn).loc n = E'.loc n := by simp [Env.back, h]
theorem back_dead {E E' : Env} {Y Mn : List Nat} {n : Nat} (h : n ∉ Y) (h' : n ∈ Mn) : (E.back E' Y Mn).loc n = .dead := by simp [Env.back, h, h']
theorem back_out {E E' : Env} {Y Mn : List Nat} {n : Nat} (h : n ∉ Y) (h' : n ∉ Mn) : (E.back E' Y Mn).loc n = E.loc n := by simp [Env.back, h, h']
/-- D: the names handed over that stay; Mn: those that are given away; Y: those that are known behind; Xn: names of blocks that were turned besides. -/
theorem back_post {X : Nat → Prop} {E E' : Env} {D Y Xn Mn : List Nat} (hG : Good E) (hG' : Good E') (hK : KeptX X D (E.sub (D ++ Mn)) E') (hD : ∀ n ∈ D, n ∈ Y) (hM : ∀ n ∈ Mn, n ∉ Y) (hMb : ∀ n ∈ Mn, E.loc n ≠ .unborn) (hY : ∀ n ∈ Y, n ∉ D → E.loc n = .unborn) (hX : ∀ b, X b → (∃ n ∈ Xn, E.loc n = .at b) ∧ ∀ cur t, E.w.heap[b]? ≠ some (.cells cur t (0, 0))) :
    Step E (E.back E' Y Mn) (Xn ++ (Y ++ Mn)) ∧ Good (E.back E' Y Mn) ∧ Like (· ∈ Y) E' (E.back E' Y Mn) := by
  have hZ : ∀ n, n ∉ Y → n ∉ Mn → n ∉ D ++ Mn := fun n h1 h2 h => (List.mem_append.1 h).elim (fun h => h1 (hD n h)) h2
  have hidden : ∀ n b, n ∉ D ++ Mn → E.loc n = .at b → (E.sub (D ++ Mn)).bad b := fun n b hn hb => .inr ⟨n, hn, hb⟩
  have sub_no : ∀ n b, n ∉ D ++ Mn → E.loc n = .at b → ∀ m, (E.sub (D ++ Mn)).loc m ≠ .at b := fun n b hn hb m hm => ((hG.sub _).lt m b hm).2 (hidden n b hn hb)
  have bad' : ∀ b, (E.sub (D ++ Mn)).bad b → ∀ m, E'.loc m ≠ .at b := fun b hb m hm => (hG'.lt m b hm).2 (by rw [hK.bad]; exact hb)
  have cases_ : ∀ n b, (E.back E' Y Mn).loc n = .at b → (n ∈ Y ∧ E'.loc n = .at b) ∨ (n ∉ Y ∧ n ∉ Mn ∧ E.loc n = .at b) := fun n b h => by
    by_cases e : n ∈ Y
    · rw [back_in e] at h; exact .inl ⟨e, h⟩
    · by_cases e' : n ∈ Mn
      · rw [back_dead e e'] at h; cases h
      · rw [back_out e e'] at h; exact .inr ⟨e, e', h⟩
  have heap_out : ∀ n b, n ∉ Xn → n ∉ D ++ Mn → E.loc n = .at b → E'.w.heap[b]? = E.w.heap[b]? := fun n b h1 h2 h3 => hK.keep b (hG.lt n b h3).1 (sub_no n b h2 h3) fun hx => by
    obtain ⟨m, hm, hb⟩ := (hX b hx).1
    exact h1 ((hG.inj n m b h3 hb) ▸ hm)
  refine ⟨⟨hK.os, hK.tape, hK.output, hK.size, rfl, fun b hb hn => hK.keep b hb (fun n h => hn n (sub_loc h).2) fun hx => ?_, fun n hn => ?_, fun n hn => ?_, fun n b hb => ?_, fun n hn => ?_, fun n b cur t hb hb' hc => ?_⟩, ⟨fun b hb => Nat.lt_of_lt_of_le (hG.old b hb) hK.size, fun n m b hn hm => ?_, fun n b hb => ?_⟩, ⟨fun b hb => ⟨⟨hb.1, fun hbad => hb.2.1 (by rw [hK.bad]; exact .inl hbad), fun n hn => ?_⟩, fun o cs hr => hr⟩, fun n hn => back_in hn, fun n b cur t hn hb hc => ⟨cur, hc, rfl⟩⟩⟩
  · obtain ⟨m, _, hm⟩ := (hX b hx).1
    exact hn m hm
  · rw [List.mem_append, not_or, List.mem_append, not_or] at hn
    exact ⟨back_out hn.2.1 hn.2.2, fun b hb => heap_out n b hn.1 (hZ n hn.2.1 hn.2.2) hb⟩
  · by_cases e : n ∈ Y
    · rw [back_in e]
      by_cases ez : n ∈ D
      · exact hK.born n ez
      · exact absurd (hY n e ez) hn
    · by_cases e' : n ∈ Mn
      · rw [back_dead e e']; simp
      · rw [back_out e e']; exact hn
  · rcases cases_ n b hb with ⟨h1, h2⟩ | ⟨h1, _, h2⟩
    · by_cases ez : n ∈ D
      · exact .inl (sub_loc (hK.same n ez b h2).1).2
      · refine .inr ⟨hY n h1 ez, ?_⟩
        rcases hK.from_ n b h2 with h3 | ⟨m, h3⟩
        · exact .inl h3
        · exact .inr ⟨m, (sub_loc h3).2⟩
    · exact .inl h2
  · by_cases e : n ∈ Y
    · rw [back_in e] at hn
      by_cases ez : n ∈ D
      · have := hK.nil_ n ez hn
        simp [Env.sub, ez] at this
        exact .inl this
      · exact .inr (hY n e ez)
    · by_cases e' : n ∈ Mn
      · rw [back_dead e e'] at hn; cases hn
      · rw [back_out e e'] at hn
        exact .inl hn
  · rcases cases_ n b hb with ⟨h1, h2⟩ | ⟨h1, h1', h2⟩
    · by_cases ez : n ∈ D
      · exact (hK.same n ez b h2).2 cur t hc
      · have := hY n h1 ez
        rw [this] at hb'
        cases hb'
    · by_cases ex : n ∈ Xn
      · by_cases hx : X b
        · exact absurd hc ((hX b hx).2 cur t)
        · exact ⟨cur, (hK.keep b (hG.lt n b hb').1 (sub_no n b (hZ n h1 h1') hb') hx).trans hc, rfl⟩
      · exact ⟨cur, (heap_out n b ex (hZ n h1 h1') hb').trans hc, rfl⟩
  · rcases cases_ n b hn with ⟨h1, h2⟩ | ⟨h1, h1', h2⟩ <;> rcases cases_ m b hm with ⟨h3, h4⟩ | ⟨h3, h3', h4⟩
    · exact hG'.inj n m b h2 h4
    · exact absurd h2 (bad' b (hidden m b (hZ m h3 h3') h4) n)
    · exact absurd h4 (bad' b (hidden n b (hZ n h1 h1') h2) m)
    · exact hG.inj n m b h2 h4
  · rcases cases_ n b hb with ⟨h1, h2⟩ | ⟨h1, h1', h2⟩
    · exact ⟨(hG'.lt n b h2).1, fun hbad => (hG'.lt n b h2).2 (by rw [hK.bad]; exact .inl hbad)⟩
    · exact ⟨Nat.lt_of_lt_of_le (hG.lt n b h2).1 hK.size, (hG.lt n b h2).2⟩
  · rcases cases_ n b hn with ⟨h1, h2⟩ | ⟨h1, h1', h2⟩
    · exact hb.2.2 n h2
    · exact hb.2.1 (by rw [hK.bad]; exact hidden n b (hZ n h1 h1') h2)
/-- No name without a block, no nil. -/
def bornH : List (Nat × Hs) → Prop
  | [] => True
  | (_, y) :: r => (match y with | .unborn => False | _ => True) ∧ bornH r
theorem bornH_get : ∀ {R : List (Nat × Hs)}, bornH R → ∀ n y, lkH R n = some y → y ≠ .unborn
  | [], _, n, y, h => by simp [lkH] at h
  | (m, z) :: R, h, n, y, hy => by
    by_cases e : m = n
    · subst e
      simp [lkH] at hy
      subst hy
      intro hz
      subst hz
      exact h.1
    · simp only [lkH, beqF e, cond_false] at hy
      exact bornH_get h.2 n y hy
theorem HAt.born {E : Env} {n : Nat} {y : Hs} (h : HAt E n y) (hy : y ≠ .unborn) : E.loc n ≠ .unborn := by
  cases y with
  | unborn => exact absurd rfl hy
  | dead => rw [show E.loc n = .dead from h]; simp
  | live t cs =>
    rcases h with ⟨h1, _⟩ | ⟨b, _, h1, _⟩
    · rw [h1]; simp
    · rw [h1]; simp
  | loop l N ps assign body pe σ => rw [h.1]; simp
theorem InHs.get {Z : Nat → Prop} : ∀ {R : List (Nat × Hs)}, InHs Z R → ∀ n y, lkH R n = some y → InH Z y
  | [], _, n, y, h => by simp [lkH] at h
  | (m, z) :: R, h, n, y, hy => by
    by_cases e : m = n
    · subst e
      simp [lkH] at hy
      subst hy
      exact h.1
    · simp only [lkH, beqF e, cond_false] at hy
      exact InHs.get h.2 n y hy
theorem lkH_mem : ∀ {R : List (Nat × Hs)} {n : Nat} {y : Hs}, lkH R n = some y → (n, y) ∈ R
  | [], n, y, h => by simp [lkH] at h
  | (m, z) :: R, n, y, h => by
    by_cases e : m = n
    · subst e
      simp [lkH] at h
      subst h
      simp
    · simp only [lkH, beqF e, cond_false] at h
      exact List.mem_cons_of_mem _ (lkH_mem h)
theorem lkH_in {R : List (Nat × Hs)} {n : Nat} {y : Hs} (h : lkH R n = some y) : n ∈ R.map (·.1) := List.mem_map.2 ⟨_, lkH_mem h, rfl⟩
/-- Called with arguments that read so, the function returns what reads as x; of the named blocks it finds R and M, and leaves U; M's names are given away. -/
def FCM (P : Program) (f : FuncId) (args : List Av) (R M : List (Nat × Hs)) (x : Av) (U : List (Nat × Hs)) : Prop :=
  ∀ (E : Env) (vs : List Value), Good E → RepL E args vs → (∀ n y, lkH (R ++ M) n = some y → HAt E n y) → (∀ n ∈ R.map (·.1), E.loc n ≠ .unborn) → (∀ n, n ∉ (R ++ M).map (·.1) → E.loc n = .unborn) →
    Calls P f vs.toArray E.w fun e w' => ∃ E' v, e = .returned v ∧ E'.w = w' ∧ Good E' ∧ Kept (R.map (·.1)) E E' ∧ Rep E' x v ∧ ∀ n y, lkH U n = some y → HAt E' n y
theorem FC.m {P : Program} {f : FuncId} {args : List Av} {R U : List (Nat × Hs)} {x : Av} (h : FC P f args R x U) : FCM P f args R [] x U := fun E vs hG hA hR hB hU => h E vs hG hA (by simpa using hR) hB (by simpa using hU)
def deadH (M : List (Nat × Hs)) : List (Nat × Hs) := M.map fun p => (p.1, .dead)
theorem deadH_names (M : List (Nat × Hs)) : (deadH M).map (·.1) = M.map (·.1) := by simp [deadH]
theorem deadH_get {M : List (Nat × Hs)} {n : Nat} {y : Hs} (h : lkH (deadH M) n = some y) : y = .dead ∧ n ∈ M.map (·.1) := by
  have := lkH_mem h
  unfold deadH at this
  rw [List.mem_map] at this
  obtain ⟨p, hp, he⟩ := this
  injection he with h1 h2
  subst h1
  exact ⟨h2.symm, List.mem_map.2 ⟨p, hp, rfl⟩⟩
theorem FCM.post {P : Program} {f : Nat} {args : List Av} {x : Av} {R M U : List (Nat × Hs)} {E : Env} {vs : List Value} (hc : FCM P f args R M x U) (hG : Good E) (hA : RepL E args vs) (hR : ∀ n y, (n, y) ∈ R ++ M → HAt E n y) (hV : ∀ n ∈ U.map (·.1), n ∉ R.map (·.1) → E.loc n = .unborn)
    (hb : bornH (R ++ M)) (hRU : ∀ n ∈ R.map (·.1), n ∈ U.map (·.1)) (hMU : ∀ n ∈ M.map (·.1), n ∉ U.map (·.1)) (hIA : InNL (· ∈ (R ++ M).map (·.1)) args) (hIR : InHs (· ∈ (R ++ M).map (·.1)) (R ++ M)) (hIx : InN (· ∈ U.map (·.1)) x) (hIU : InHs (· ∈ U.map (·.1)) U) : Calls P f vs.toArray E.w fun e w' => ∃ v, e = .returned v ∧ Post E x (U ++ deadH M) v w' := by
  have hL := sub_like E ((R ++ M).map (·.1))
  have hborn : ∀ n ∈ (R ++ M).map (·.1), E.loc n ≠ .unborn := fun n hn => by
    obtain ⟨y, hy⟩ := lkH_some hn
    exact (hR n y (lkH_mem hy)).born (bornH_get hb n y hy)
  refine (hc (E.sub ((R ++ M).map (·.1))) vs (hG.sub _) (RepL.like hL _ _ hIA hA) (fun n y hn => HAt.like hL (lkH_in hn) (fun _ _ => rfl) (hIR.get n y hn) (hR n y (lkH_mem hn))) (fun n hn => by
    have hn' : n ∈ (R ++ M).map (·.1) := by rw [List.map_append]; exact List.mem_append_left _ hn
    rw [hL.loc n hn']; exact hborn n hn') (fun n hn => by simp only [Env.sub]; rw [if_neg hn])).mono ?_
  rintro e w' ⟨E', v, rfl, rfl, hG', hK, hx, hu⟩
  rw [List.map_append] at hK hborn
  obtain ⟨h1, h2, h3⟩ := back_post (Y := U.map (·.1)) (Xn := []) hG hG' (hK.x fun _ => False) hRU hMU (fun n hn => hborn n (List.mem_append_right _ hn)) hV (fun b hx => hx.elim)
  refine ⟨v, rfl, E.back E' (U.map (·.1)) (M.map (·.1)), rfl, h1.more (by simp [deadH_names]), h2, Rep.like h3 x v hIx hx, fun n y hn => ?_⟩
  rw [lkH_app] at hn
  by_cases hm : n ∈ U.map (·.1)
  · obtain ⟨z, hz⟩ := lkH_some hm
    rw [hz] at hn
    simp at hn
    subst hn
    exact HAt.like h3 hm (fun _ _ => rfl) (hIU.get n z hz) (hu n z hz)
  · rw [lkH_none hm] at hn
    obtain ⟨rfl, hn2⟩ := deadH_get (show lkH (deadH M) n = some y by simpa using hn)
    exact back_dead hm hn2
/-- A function from its body. -/
theorem FCM.body {P : Program} {f : FuncId} {fn : Func} {c : Code} {args : List Av} {R M U : List (Nat × Hs)} {x : Av} (K : Nat) (N : Nat) (hf : P.funcs[f]? = some fn) (hb : fn.body = some c) (hN : max fn.ntmps args.length = N)
    (h : AW P N (R.map (·.1)) c (fun e Γ => (e = .ret ∨ e = .normal) ∧ ResOk P fn Γ x ∧ subH Γ.h U) ⟨argS args 0, (R ++ M) ++ unb K⟩) : FCM P f args R M x U := by
  intro E vs hG hA hR hB hU
  refine calls_of_wp hf hb ?_
  have hlen := hA.length
  refine wp_mono (wpIn_wide.1 (h E _ ⟨hG, ?_, hB, fun t => argS_rep args vs 0 _ hA (fun i v hv => ?_) t, fun n y hn => ?_⟩)) ?_
  · simp [hlen]; omega
  · have hi := (List.getElem?_eq_some_iff.1 hv)
    obtain ⟨hi1, hi2⟩ := hi
    rw [Array.getD_eq_getD_getElem?, Nat.zero_add, Array.getElem?_append_left (by simpa using hi1)]
    simp [hv]
  · have hn : lkH ((R ++ M) ++ unb K) n = some y := hn
    rw [lkH_app] at hn
    by_cases hm : n ∈ (R ++ M).map (·.1)
    · obtain ⟨z, hz⟩ := lkH_some hm
      rw [hz] at hn
      simp only [Option.some_or, Option.some.injEq] at hn
      subst hn
      exact hR n z hz
    · rw [lkH_none hm] at hn
      have := unb_get (n := n) (y := y) (K := K) (by simpa using hn)
      subst this
      exact hU n hm
  · rintro e a' w' ⟨E', Γ', rfl, hK, hF, hdf, he, hres, hsub⟩
    obtain ⟨v, hr, hx⟩ := hres E' a' hF.good hF.holds
    have fin : ∃ E'' v', Ending.returned v = .returned v' ∧ E''.w = E'.w ∧ Good E'' ∧ Kept (R.map (·.1)) E E'' ∧ Rep E'' x v' ∧ ∀ n y, lkH U n = some y → HAt E'' n y :=
      ⟨E', v, rfl, rfl, hF.good, hK, hx, fun n y hy => hF.holds.2 n y (subH_get hsub n y hy)⟩
    rcases he with rfl | rfl
    · exact ⟨hdf, v, hr, fin⟩
    · exact ⟨hdf, v, hr, fin⟩
section
variable {P : Program} {o : Oper} {x y : Av} {R M U : List (Nat × Hs)} {ρ : Operand → Av} {p q : Operand} {T : TypeId}
/-- A call with names; V: the new ones. -/
theorem oc_callFC {f : Nat} {args : List Operand} {tys : Array TypeId} {xs : List Av} (V : List Nat) (ho : o.op = .call { callee := .value (.func f), args := args.toArray, argTypes := tys }) (hf : callB P f = true) (hc : FCM P f xs R M x U) (hxs : args.map ρ = xs)
    (hV : ∀ n ∈ U.map (·.1), n ∈ R.map (·.1) ∨ n ∈ V) (hb : bornH (R ++ M)) (hRU : ∀ n ∈ R.map (·.1), n ∈ U.map (·.1)) (hMU : ∀ n ∈ M.map (·.1), n ∉ U.map (·.1)) (hIA : InNL (· ∈ (R ++ M).map (·.1)) xs) (hIR : InHs (· ∈ (R ++ M).map (·.1)) (R ++ M)) (hIx : InN (· ∈ U.map (·.1)) x) (hIU : InHs (· ∈ U.map (·.1)) U) : OC P o ρ ((R ++ M) ++ V.map fun n => (n, .unborn)) x (U ++ deadH M) := by
  intro E a hG hr hH
  subst hxs
  have hA := repL_map (ρ := ρ) (E := E) (a := a) (l := args) fun p hp => hr p (by simp [ho, Op.operands, Call.operands, hp])
  have := FCM.post hc hG hA (fun n y hn => hH n y (List.mem_append_left _ hn)) (fun n hn hn' => hH n .unborn (List.mem_append_right _ (List.mem_map.2 ⟨n, (hV n hn).resolve_left hn', rfl⟩))) hb hRU hMU hIA hIR hIx hIU
  unfold grows execOp
  simp only [ho, resolve, Deferred.ofValue, Act.eval, Sem.run_bind, Sem.run_pure, Result.andThen_ok, invoke, Array.append_empty, Array.empty_append, List.map_toArray, callB_run hf, growUpon]
  exact this
end
end Go.Proofs.Ytjjgdjcapfenpaa
