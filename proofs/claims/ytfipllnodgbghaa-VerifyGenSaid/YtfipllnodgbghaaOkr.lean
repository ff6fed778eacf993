/- Calls that bear names: what a call is handed, and gives back, may lie in blocks of the caller's own. No program stands in this text. Loops over a function: the round, as the function that is ranged over calls it; the statement; a function that holds one. No program stands in this text. A region that draws its order, each operation shown once, with facts that may refer to one earlier value and may end at a later operation (a store, an append in place). No program stands in this text. copy into a block that is known whole; what is then as it was. No program stands in this text. Parts of slices, copy, the least and the greatest, bytes as texts; contracts told by rows of bytes. No program stands in this text. Several results, in slots and in memory; joins. No program stands in this text. What came in, of types that speak of themselves: openings up to a depth. No program stands in this text. -/
import Derived.Test.YtfipllnodgbghaaOk
import Derived.Scope
import Derived.Test.YtfipllnodgbghaaAch
import Derived.Laws.CopyOwn
namespace Go.Proofs.Ytfipllnodgbghaa
open Go.RowKit
set_option linter.unusedVariables false
set_option linter.unusedSimpArgs false

mutual
/-- Its names are among Z. -/
def InN (Z : Nat → Prop) : Av → Prop
  | .any => True
  | .val _ => True
  | .sl _ _ row => ∀ j, InN Z (row j)
  | .ptr x => InN Z x
  | .agg cs => InNL Z cs
  | .tup cs => InNL Z cs
  | .clo _ cs => InNL Z cs
  | .own n _ => Z n
  | .osl _ n _ => Z n
  | .oss n _ _ => Z n
  | .mp n => Z n
  | .fm _ _ _ _ => True
  | .frz _ _ _ => True
  | .gd _ x => InN Z x
  | .nz x => InN Z x
def InNL (Z : Nat → Prop) : List Av → Prop
  | [] => True
  | x :: xs => InN Z x ∧ InNL Z xs
end
mutual
theorem InN.of_pure {Z : Nat → Prop} : ∀ x : Av, Pure x → InN Z x
  | .any, _ => by unfold InN; trivial
  | .val _, _ => by unfold InN; trivial
  | .sl _ _ row, h => by unfold Pure at h; unfold InN; exact fun j => InN.of_pure (row j) (h j)
  | .ptr x, h => by unfold Pure at h; unfold InN; exact InN.of_pure x h
  | .agg cs, h => by unfold Pure at h; unfold InN; exact InNL.of_pure cs h
  | .tup cs, h => by unfold Pure at h; unfold InN; exact InNL.of_pure cs h
  | .clo _ cs, h => by unfold Pure at h; unfold InN; exact InNL.of_pure cs h
  | .own _ _, h => by unfold Pure at h; exact h.elim
  | .osl _ _ _, h => by unfold Pure at h; exact h.elim
  | .oss _ _ _, h => by unfold Pure at h; exact h.elim
  | .mp _, h => by unfold Pure at h; exact h.elim
  | .fm _ _ _ _, _ => by unfold InN; trivial
  | .frz _ _ _, _ => by unfold InN; trivial
  | .gd _ x, h => by unfold Pure at h; unfold InN; exact InN.of_pure x h
  | .nz x, h => by unfold Pure at h; unfold InN; exact InN.of_pure x h
theorem InNL.of_pure {Z : Nat → Prop} : ∀ xs : List Av, PureL xs → InNL Z xs
  | [], _ => by unfold InNL; trivial
  | x :: xs, h => by unfold PureL at h; unfold InNL; exact ⟨InN.of_pure x h.1, InNL.of_pure xs h.2⟩
end
mutual
theorem InN.all : ∀ x : Av, InN (fun _ => True) x
  | .any => by unfold InN; trivial
  | .val _ => by unfold InN; trivial
  | .sl _ _ row => by unfold InN; exact fun j => InN.all (row j)
  | .ptr x => by unfold InN; exact InN.all x
  | .agg cs => by unfold InN; exact InNL.all cs
  | .tup cs => by unfold InN; exact InNL.all cs
  | .clo _ cs => by unfold InN; exact InNL.all cs
  | .own _ _ => by unfold InN; trivial
  | .osl _ _ _ => by unfold InN; trivial
  | .oss _ _ _ => by unfold InN; trivial
  | .mp _ => by unfold InN; trivial
  | .fm _ _ _ _ => by unfold InN; trivial
  | .frz _ _ _ => by unfold InN; trivial
  | .gd _ x => by unfold InN; exact InN.all x
  | .nz x => by unfold InN; exact InN.all x
theorem InNL.all : ∀ xs : List Av, InNL (fun _ => True) xs
  | [] => by unfold InNL; trivial
  | x :: xs => by unfold InNL; exact ⟨InN.all x, InNL.all xs⟩
end
/-- What a value stands on is the same in both. -/
structure Like (Z : Nat → Prop) (E E' : Env) : Prop where
  ok : ∀ b, E.ok b → E'.ok b ∧ ∀ o cs, E.w.rangeAt b o cs → E'.w.rangeAt b o cs
  map : ∀ b, E.ok b → ∀ es c, E.w.heap[b]? = some (.map es c) → E'.w.heap[b]? = some (.map es c)
  row : ∀ b, E.ok b → ∀ cur t z, E.w.heap[b]? = some (.cells cur t z) → E'.w.heap[b]? = some (.cells cur t z)
  loc : ∀ n, Z n → E'.loc n = E.loc n
  shape : ∀ n b cur t, Z n → E.loc n = .at b → E.w.heap[b]? = some (.cells cur t (0, 0)) → ∃ cur', E'.w.heap[b]? = some (.cells cur' t (0, 0)) ∧ cur'.size = cur.size
mutual
theorem Rep.like {Z : Nat → Prop} {E E' : Env} (h : Like Z E E') : ∀ (x : Av) (v : Value), InN Z x → Rep E x v → Rep E' x v
  | .any, _, _, _ => by unfold Rep; trivial
  | .val x, v, _, hr => by unfold Rep at hr ⊢; exact hr
  | .sl k n row, v, hp, hr => by
    unfold InN at hp
    unfold Rep at hr ⊢
    obtain ⟨A, c, h1, h2, h3, h4⟩ := hr
    refine ⟨A, c, h1, h2, h3, fun hn => ?_⟩
    obtain ⟨b, o, h5, h6, h7⟩ := h4 hn
    refine ⟨b, o, h5, (h.ok b h6).1, fun j hj => ?_⟩
    obtain ⟨u, h8, h9, h10⟩ := h7 j hj
    exact ⟨u, Rep.like h (row j) u (hp j) h8, h9, (h.ok b h6).2 _ _ h10⟩
  | .ptr x, v, hp, hr => by
    unfold InN at hp
    unfold Rep at hr ⊢
    obtain ⟨b, o, u, h1, h2, h3, h4⟩ := hr
    exact ⟨b, o, u, h1, (h.ok b h2).1, Rep.like h x u hp h3, (h.ok b h2).2 _ _ h4⟩
  | .agg cs, v, hp, hr => by
    unfold InN at hp
    unfold Rep at hr ⊢
    obtain ⟨vs, h1, h2, h3⟩ := hr
    exact ⟨vs, h1, RepL.like h cs vs hp h2, h3⟩
  | .tup cs, v, hp, hr => by
    unfold InN at hp
    unfold Rep at hr ⊢
    obtain ⟨vs, h1, h2⟩ := hr
    exact ⟨vs, h1, RepL.like h cs vs hp h2⟩
  | .clo f cs, v, hp, hr => by
    unfold InN at hp
    unfold Rep at hr ⊢
    obtain ⟨vs, h1, h2⟩ := hr
    exact ⟨vs, h1, RepL.like h cs vs hp h2⟩
  | .own n off, v, hp, hr => by
    unfold InN at hp
    unfold Rep at hr ⊢
    rw [h.loc n hp]
    exact hr
  | .osl k n len, v, hp, hr => by
    unfold InN at hp
    unfold Rep at hr ⊢
    rw [h.loc n hp]
    refine ⟨hr.1, fun b hb => ?_⟩
    obtain ⟨c, cur, t, h1, h2, h3, h4, h5⟩ := hr.2 b hb
    obtain ⟨cur', h6, h7⟩ := h.shape n b cur t hp hb h4
    exact ⟨c, cur', t, h1, h2, h3, h6, by rw [h7, h5]⟩
  | .oss n off len, v, hp, hr => by
    unfold InN at hp
    unfold Rep at hr ⊢
    rw [h.loc n hp]
    refine ⟨hr.1, fun b hb => ?_⟩
    obtain ⟨A, c, cur, t, h1, h2, h3, h9, h4, h5⟩ := hr.2 b hb
    obtain ⟨cur', h6, h7⟩ := h.shape n b cur t hp hb h4
    exact ⟨A, c, cur', t, h1, h2, h3, h9, h6, by rw [h7]; exact h5⟩
  | .mp n, v, hp, hr => by
    unfold InN at hp
    unfold Rep at hr ⊢
    rw [h.loc n hp]
    exact hr
  | .fm P k e D, v, _, hr => by
    unfold Rep at hr ⊢
    obtain ⟨b, n, h1, h2, es, c, h3, h4⟩ := hr
    exact ⟨b, n, h1, (h.ok b h2).1, es, c, h.map b h2 es c h3, h4⟩
  | .frz q T xs, v, _, hr => by
    unfold Rep at hr ⊢
    obtain ⟨c, g, cur, h1, h2, h3, h4, h5⟩ := hr
    exact ⟨c, g, cur, h1, h2, (h.ok g h3).1, h.row g h3 _ _ _ h4, h5⟩
  | .gd c x, v, hp, hr => by
    unfold InN at hp
    unfold Rep at hr ⊢
    exact ⟨fun hc => Rep.like h x v hp (hr.1 hc), hr.2⟩
  | .nz x, v, hp, hr => by
    unfold InN at hp
    unfold Rep at hr ⊢
    exact ⟨Rep.like h x v hp hr.1, hr.2⟩
theorem RepL.like {Z : Nat → Prop} {E E' : Env} (h : Like Z E E') : ∀ (xs : List Av) (vs : List Value), InNL Z xs → RepL E xs vs → RepL E' xs vs
  | [], vs, _, hr => by unfold RepL at hr ⊢; exact hr
  | x :: xs, vs, hp, hr => by
    unfold InNL at hp
    unfold RepL at hr ⊢
    obtain ⟨v, us, h1, h2, h3⟩ := hr
    exact ⟨v, us, h1, Rep.like h x v hp.1 h2, RepL.like h xs us hp.2 h3⟩
end
theorem InNL.get {Z : Nat → Prop} : ∀ {xs : List Av}, InNL Z xs → ∀ x ∈ xs, InN Z x
  | x :: xs, h, y, hy => by
    unfold InNL at h
    rcases List.mem_cons.1 hy with rfl | hy
    · exact h.1
    · exact InNL.get h.2 y hy
def InS (Z : Nat → Prop) : List (Nat × Av) → Prop
  | [] => True
  | (_, x) :: r => InN Z x ∧ InS Z r
theorem InS.get {Z : Nat → Prop} : ∀ {σ : List (Nat × Av)}, InS Z σ → ∀ t, InN Z (lkS σ t)
  | [], _, t => by unfold lkS InN; trivial
  | (u, x) :: r, h, t => by
    by_cases e : u = t
    · subst e; rw [lkS_eq]; exact h.1
    · rw [lkS_ne _ _ e]; exact InS.get h.2 t
theorem InS.pure {Z : Nat → Prop} : ∀ {σ : List (Nat × Av)}, PureS σ → InS Z σ
  | [], _ => trivial
  | (_, x) :: r, h => ⟨InN.of_pure x h.1, InS.pure h.2⟩
def InH (Z : Nat → Prop) : Hs → Prop
  | .live _ cs => InNL Z cs
  | .loop _ _ _ _ _ _ σ => InS Z σ
  | _ => True
theorem HAt.like {Z : Nat → Prop} {E E' : Env} (h : Like Z E E') {n : Nat} (hn : Z n) (hh : ∀ b, E.loc n = .at b → E'.w.heap[b]? = E.w.heap[b]?) {y : Hs} (hi : InH Z y) (hy : HAt E n y) : HAt E' n y := by
  cases y with
  | unborn => exact (h.loc n hn).trans hy
  | dead => exact (h.loc n hn).trans hy
  | live t cs =>
    rcases hy with ⟨h3, h4⟩ | ⟨b, cur, h3, h4, h5⟩
    · exact .inl ⟨(h.loc n hn).trans h3, h4⟩
    · refine .inr ⟨b, cur, (h.loc n hn).trans h3, (hh b h3).trans h4, fun i z hz => ?_⟩
      obtain ⟨u, h6, h7, h8⟩ := h5 i z hz
      exact ⟨u, h6, h7, Rep.like h z u (InNL.get hi z (List.mem_of_getElem? hz)) h8⟩
  | map P k e D =>
    obtain ⟨b, m, h3, h4⟩ := hy
    exact ⟨b, m, (h.loc n hn).trans h3, ownsMap_of_block (hh b h3) h4⟩
  | iter P k e D left cnt last =>
    obtain ⟨b, r, m, h3, h4, h5, h6⟩ := hy
    have hb : E'.w.heap[b]? = E.w.heap[b]? := by
      obtain ⟨es, clock, since, seen, c0, g1, _⟩ := h5
      rw [g1, h.map b h4 es clock g1]
    exact ⟨b, r, m, (h.loc n hn).trans h3, (h.ok b h4).1, ranges_of_block hb (hh r h3) h5, fun kv hk => entOk.same h5 hb (hh r h3) (h6 kv hk)⟩
  | loop l N ps assign body pe σ =>
    obtain ⟨h3, r, h4, h5, h6, h7, h8, h9, h10, h11⟩ := hy
    exact ⟨(h.loc n hn).trans h3, r, (hh l h3).trans h4, h5, h6, h7, h8, h9, h10, fun t => Rep.like h _ _ (InS.get hi t) (h11 t)⟩

/-- The facts' own names are among Z. -/
def InHs (Z : Nat → Prop) : List (Nat × Hs) → Prop
  | [] => True
  | (_, y) :: r => InH Z y ∧ InHs Z r
def Env.sub (E : Env) (Z : List Nat) : Env := { w := E.w, loc := fun n => if n ∈ Z then E.loc n else .unborn, bad := fun b => E.bad b ∨ ∃ n, n ∉ Z ∧ E.loc n = .at b }
theorem sub_loc {E : Env} {Z : List Nat} {n b : Nat} (h : (E.sub Z).loc n = .at b) : n ∈ Z ∧ E.loc n = .at b := by
  by_cases e : n ∈ Z
  · simp [Env.sub, e] at h; exact ⟨e, h⟩
  · simp [Env.sub, e] at h
theorem Good.sub {E : Env} (hG : Good E) (Z : List Nat) : Good (E.sub Z) where
  shp := hG.shp.same fun b h => ⟨⟨h.1, fun hb => by
    rcases hb with hb | ⟨n, _, hn⟩
    · exact h.2.1 hb
    · exact h.2.2 n hn, fun n hn => h.2.2 n (sub_loc hn).2⟩, rfl⟩
  old b hb := by
    rcases hb with hb | ⟨n, _, hn⟩
    · exact hG.old b hb
    · exact (hG.lt n b hn).1
  inj n m b hn hm := hG.inj n m b (sub_loc hn).2 (sub_loc hm).2
  lt n b hn := ⟨(hG.lt n b (sub_loc hn).2).1, fun hb => by
    rcases hb with hb | ⟨m, h1, h2⟩
    · exact (hG.lt n b (sub_loc hn).2).2 hb
    · exact h1 ((hG.inj m n b h2 (sub_loc hn).2) ▸ (sub_loc hn).1)⟩
theorem sub_like (E : Env) (Z : List Nat) : Like (· ∈ Z) E (E.sub Z) where
  ok b h := ⟨⟨h.1, fun hb => by
    rcases hb with hb | ⟨n, _, hn⟩
    · exact h.2.1 hb
    · exact h.2.2 n hn, fun n hn => h.2.2 n (sub_loc hn).2⟩, fun o cs hr => hr⟩
  map b _ es c h := h
  row b _ cur t z h := h
  loc n hn := by simp [Env.sub, hn]
  shape n b cur t hn hb hc := ⟨cur, hc, rfl⟩
/-- 'Kept', some blocks apart. -/
structure KeptX (X : Nat → Prop) (D : List Nat) (E E' : Env) : Prop where
  os : E'.w.os = E.w.os
  tape : E'.w.tape = E.w.tape
  output : E'.w.output = E.w.output
  size : E.w.heap.size ≤ E'.w.heap.size
  bad : E'.bad = E.bad
  keep : ∀ b, b < E.w.heap.size → (∀ n, E.loc n ≠ .at b) → ¬ X b → E'.w.heap[b]? = E.w.heap[b]?
  from_ : ∀ n b, E'.loc n = .at b → E.w.heap.size ≤ b ∨ ∃ m, E.loc m = .at b
  born : ∀ n ∈ D, E'.loc n ≠ .unborn
  nil_ : ∀ n ∈ D, E'.loc n = .nil → E.loc n = .nil
  same : ∀ n ∈ D, ∀ b, E'.loc n = .at b → E.loc n = .at b ∧ ∀ cur t, E.w.heap[b]? = some (.cells cur t (0, 0)) → ∃ cur', E'.w.heap[b]? = some (.cells cur' t (0, 0)) ∧ cur'.size = cur.size
theorem Kept.x {D : List Nat} {E E' : Env} (h : Kept D E E') (X : Nat → Prop) : KeptX X D E E' := ⟨h.os, h.tape, h.output, h.size, h.bad, fun b h1 h2 _ => h.keep b h1 h2, h.from_, h.born, h.nil_, h.same⟩
theorem KeptX.trans {X : Nat → Prop} {D : List Nat} {E E' E'' : Env} (h : KeptX X D E E') (k : KeptX X D E' E'') : KeptX X D E E'' where
  os := k.os.trans h.os
  tape := k.tape.trans h.tape
  output := k.output.trans h.output
  size := Nat.le_trans h.size k.size
  bad := k.bad.trans h.bad
  keep b hb hn hx := by
    refine (k.keep b (Nat.lt_of_lt_of_le hb h.size) (fun n hn' => ?_) hx).trans (h.keep b hb hn hx)
    rcases h.from_ n b hn' with h1 | ⟨m, h1⟩
    · omega
    · exact hn m h1
  from_ n b hb := by
    rcases k.from_ n b hb with h1 | ⟨m, h1⟩
    · exact .inl (Nat.le_trans h.size h1)
    · exact h.from_ m b h1
  born := k.born
  nil_ n hn hl := h.nil_ n hn (k.nil_ n hn hl)
  same n hn b hb := by
    obtain ⟨h1, h2⟩ := k.same n hn b hb
    obtain ⟨h3, h4⟩ := h.same n hn b h1
    refine ⟨h3, fun cur t hc => ?_⟩
    obtain ⟨cur', h5, h6⟩ := h4 cur t hc
    obtain ⟨cur'', h7, h8⟩ := h2 cur' t h5
    exact ⟨cur'', h7, h8.trans h6⟩
/-- Y: the names that are known behind; Mn: those that were given away. -/
def Env.back (E E' : Env) (Y Mn : List Nat) : Env := { w := E'.w, loc := fun n => if n ∈ Y then E'.loc n else if n ∈ Mn then .dead else E.loc n, bad := E.bad }
theorem back_in {E E' : Env} {Y Mn : List Nat} {n : Nat} (h : n ∈ Y) : (E.back E' Y Mn).loc n = E'.loc n := by simp [Env.back, h]
theorem back_dead {E E' : Env} {Y Mn : List Nat} {n : Nat} (h : n ∉ Y) (h' : n ∈ Mn) : (E.back E' Y Mn).loc n = .dead := by simp [Env.back, h, h']
theorem back_out {E E' : Env} {Y Mn : List Nat} {n : Nat} (h : n ∉ Y) (h' : n ∉ Mn) : (E.back E' Y Mn).loc n = E.loc n := by simp [Env.back, h, h']
/-- D: the names handed over that stay; Mn: those that are given away; Y: those that are known behind; Xn: names of blocks that were turned besides. -/
theorem back_post {X : Nat → Prop} {E E' : Env} {D Y Xn Mn : List Nat} (hG : Good E) (hG' : Good E') (hK : KeptX X D (E.sub (D ++ Mn)) E') (hD : ∀ n ∈ D, n ∈ Y) (hM : ∀ n ∈ Mn, n ∉ Y) (hMb : ∀ n ∈ Mn, E.loc n ≠ .unborn) (hY : ∀ n ∈ Y, n ∉ D → E.loc n = .unborn) (hX : ∀ b, X b → (∃ n ∈ Xn, E.loc n = .at b) ∧ ∀ cur t, E.w.heap[b]? ≠ some (.cells cur t (0, 0))) :
    Step E (E.back E' Y Mn) (Xn ++ (Y ++ Mn)) ∧ Good (E.back E' Y Mn) ∧ Like (· ∈ Y) E' (E.back E' Y Mn) := by
  have hZ : ∀ n, n ∉ Y → n ∉ Mn → n ∉ D ++ Mn := fun n h1 h2 h => (List.mem_append.1 h).elim (fun h => h1 (hD n h)) h2
  have hidden : ∀ n b, n ∉ D ++ Mn → E.loc n = .at b → (E.sub (D ++ Mn)).bad b := fun n b hn hb => .inr ⟨n, hn, hb⟩
  have sub_no : ∀ n b, n ∉ D ++ Mn → E.loc n = .at b → ∀ m, (E.sub (D ++ Mn)).loc m ≠ .at b := fun n b hn hb m hm => ((hG.sub _).lt m b hm).2 (hidden n b hn hb)
  have bad' : ∀ b, (E.sub (D ++ Mn)).bad b → ∀ m, E'.loc m ≠ .at b := fun b hb m hm => (hG'.lt m b hm).2 (by rw [hK.bad]; exact hb)
  have cases_ : ∀ n b, (E.back E' Y Mn).loc n = .at b → (n ∈ Y ∧ E'.loc n = .at b) ∨ (n ∉ Y ∧ n ∉ Mn ∧ E.loc n = .at b) := fun n b h => by
    by_cases e : n ∈ Y
    · rw [back_in e] at h; exact .inl ⟨e, h⟩
    · by_cases e' : n ∈ Mn
      · rw [back_dead e e'] at h; cases h
      · rw [back_out e e'] at h; exact .inr ⟨e, e', h⟩
  have heap_out : ∀ n b, n ∉ Xn → n ∉ D ++ Mn → E.loc n = .at b → E'.w.heap[b]? = E.w.heap[b]? := fun n b h1 h2 h3 => hK.keep b (hG.lt n b h3).1 (sub_no n b h2 h3) fun hx => by
    obtain ⟨m, hm, hb⟩ := (hX b hx).1
    exact h1 ((hG.inj n m b h3 hb) ▸ hm)
  refine ⟨⟨hK.os, hK.tape, hK.output, hK.size, rfl, fun b hb hn => hK.keep b hb (fun n h => hn n (sub_loc h).2) fun hx => ?_, fun n hn => ?_, fun n hn => ?_, fun n b hb => ?_, fun n hn => ?_, fun n b cur t hb hb' hc => ?_⟩, ⟨fun b hb => Nat.lt_of_lt_of_le (hG.old b hb) hK.size, fun n m b hn hm => ?_, fun n b hb => ?_, hG'.shp.same fun b hb => ⟨⟨hb.1, fun hbad => hb.2.1 (by rw [hK.bad]; exact .inl hbad), fun n hn => ?_⟩, rfl⟩⟩, ⟨fun b hb => ⟨⟨hb.1, fun hbad => hb.2.1 (by rw [hK.bad]; exact .inl hbad), fun n hn => ?_⟩, fun o cs hr => hr⟩, fun b _ es c h => h, fun b _ cur t z h => h, fun n hn => back_in hn, fun n b cur t hn hb hc => ⟨cur, hc, rfl⟩⟩⟩
  · obtain ⟨m, _, hm⟩ := (hX b hx).1
    exact hn m hm
  · rw [List.mem_append, not_or, List.mem_append, not_or] at hn
    exact ⟨back_out hn.2.1 hn.2.2, fun b hb => heap_out n b hn.1 (hZ n hn.2.1 hn.2.2) hb⟩
  · by_cases e : n ∈ Y
    · rw [back_in e]
      by_cases ez : n ∈ D
      · exact hK.born n ez
      · exact absurd (hY n e ez) hn
    · by_cases e' : n ∈ Mn
      · rw [back_dead e e']; simp
      · rw [back_out e e']; exact hn
  · rcases cases_ n b hb with ⟨h1, h2⟩ | ⟨h1, _, h2⟩
    · by_cases ez : n ∈ D
      · exact .inl (sub_loc (hK.same n ez b h2).1).2
      · refine .inr ⟨hY n h1 ez, ?_⟩
        rcases hK.from_ n b h2 with h3 | ⟨m, h3⟩
        · exact .inl h3
        · exact .inr ⟨m, (sub_loc h3).2⟩
    · exact .inl h2
  · by_cases e : n ∈ Y
    · rw [back_in e] at hn
      by_cases ez : n ∈ D
      · have := hK.nil_ n ez hn
        simp [Env.sub, ez] at this
        exact .inl this
      · exact .inr (hY n e ez)
    · by_cases e' : n ∈ Mn
      · rw [back_dead e e'] at hn; cases hn
      · rw [back_out e e'] at hn
        exact .inl hn
  · rcases cases_ n b hb with ⟨h1, h2⟩ | ⟨h1, h1', h2⟩
    · by_cases ez : n ∈ D
      · exact (hK.same n ez b h2).2 cur t hc
      · have := hY n h1 ez
        rw [this] at hb'
        cases hb'
    · by_cases ex : n ∈ Xn
      · by_cases hx : X b
        · exact absurd hc ((hX b hx).2 cur t)
        · exact ⟨cur, (hK.keep b (hG.lt n b hb').1 (sub_no n b (hZ n h1 h1') hb') hx).trans hc, rfl⟩
      · exact ⟨cur, (heap_out n b ex (hZ n h1 h1') hb').trans hc, rfl⟩
  · rcases cases_ n b hn with ⟨h1, h2⟩ | ⟨h1, h1', h2⟩ <;> rcases cases_ m b hm with ⟨h3, h4⟩ | ⟨h3, h3', h4⟩
    · exact hG'.inj n m b h2 h4
    · exact absurd h2 (bad' b (hidden m b (hZ m h3 h3') h4) n)
    · exact absurd h4 (bad' b (hidden n b (hZ n h1 h1') h2) m)
    · exact hG.inj n m b h2 h4
  · rcases cases_ n b hb with ⟨h1, h2⟩ | ⟨h1, h1', h2⟩
    · exact ⟨(hG'.lt n b h2).1, fun hbad => (hG'.lt n b h2).2 (by rw [hK.bad]; exact .inl hbad)⟩
    · exact ⟨Nat.lt_of_lt_of_le (hG.lt n b h2).1 hK.size, (hG.lt n b h2).2⟩
  · rcases cases_ n b hn with ⟨h1, h2⟩ | ⟨h1, h1', h2⟩
    · exact hb.2.2 n h2
    · exact hb.2.1 (by rw [hK.bad]; exact hidden n b (hZ n h1 h1') h2)
  · rcases cases_ n b hn with ⟨h1, h2⟩ | ⟨h1, h1', h2⟩
    · exact hb.2.2 n h2
    · exact hb.2.1 (by rw [hK.bad]; exact hidden n b (hZ n h1 h1') h2)
/-- No name without a block, no nil. -/
def bornH : List (Nat × Hs) → Prop
  | [] => True
  | (_, y) :: r => (match y with | .unborn => False | _ => True) ∧ bornH r
theorem bornH_get : ∀ {R : List (Nat × Hs)}, bornH R → ∀ n y, lkH R n = some y → y ≠ .unborn
  | [], _, n, y, h => by simp [lkH] at h
  | (m, z) :: R, h, n, y, hy => by
    by_cases e : m = n
    · subst e
      simp [lkH] at hy
      subst hy
      intro hz
      subst hz
      exact h.1
    · simp only [lkH, beqF e, cond_false] at hy
      exact bornH_get h.2 n y hy
theorem HAt.born {E : Env} {n : Nat} {y : Hs} (h : HAt E n y) (hy : y ≠ .unborn) : E.loc n ≠ .unborn := by
  cases y with
  | unborn => exact absurd rfl hy
  | dead => rw [show E.loc n = .dead from h]; simp
  | live t cs =>
    rcases h with ⟨h1, _⟩ | ⟨b, _, h1, _⟩
    · rw [h1]; simp
    · rw [h1]; simp
  | map P k e D => obtain ⟨b, m, h1, _⟩ := h; rw [h1]; simp
  | iter P k e D left cnt last => obtain ⟨b, r, m, h1, _⟩ := h; rw [h1]; simp
  | loop l N ps assign body pe σ => rw [h.1]; simp
theorem InHs.get {Z : Nat → Prop} : ∀ {R : List (Nat × Hs)}, InHs Z R → ∀ n y, lkH R n = some y → InH Z y
  | [], _, n, y, h => by simp [lkH] at h
  | (m, z) :: R, h, n, y, hy => by
    by_cases e : m = n
    · subst e
      simp [lkH] at hy
      subst hy
      exact h.1
    · simp only [lkH, beqF e, cond_false] at hy
      exact InHs.get h.2 n y hy
theorem lkH_mem : ∀ {R : List (Nat × Hs)} {n : Nat} {y : Hs}, lkH R n = some y → (n, y) ∈ R
  | [], n, y, h => by simp [lkH] at h
  | (m, z) :: R, n, y, h => by
    by_cases e : m = n
    · subst e
      simp [lkH] at h
      subst h
      simp
    · simp only [lkH, beqF e, cond_false] at h
      exact List.mem_cons_of_mem _ (lkH_mem h)
theorem lkH_in {R : List (Nat × Hs)} {n : Nat} {y : Hs} (h : lkH R n = some y) : n ∈ R.map (·.1) := List.mem_map.2 ⟨_, lkH_mem h, rfl⟩
/-- Called with arguments that read so, the function returns what reads as x; of the named blocks it finds R and M, and leaves U; M's names are given away. -/
def FCM (P : Program) (f : FuncId) (args : List Av) (R M : List (Nat × Hs)) (x : Av) (U : List (Nat × Hs)) : Prop :=
  ∀ (E : Env) (vs : List Value), Good E → RepL E args vs → (∀ n y, lkH (R ++ M) n = some y → HAt E n y) → (∀ n ∈ R.map (·.1), E.loc n ≠ .unborn) → (∀ n, n ∉ (R ++ M).map (·.1) → E.loc n = .unborn) →
    Calls P f vs.toArray E.w fun e w' => ∃ E' v, e = .returned v ∧ E'.w = w' ∧ Good E' ∧ Kept (R.map (·.1)) E E' ∧ Rep E' x v ∧ ∀ n y, lkH U n = some y → HAt E' n y
theorem FC.m {P : Program} {f : FuncId} {args : List Av} {R U : List (Nat × Hs)} {x : Av} (h : FC P f args R x U) : FCM P f args R [] x U := fun E vs hG hA hR hB hU => h E vs hG hA (by simpa using hR) hB (by simpa using hU)
def deadH (M : List (Nat × Hs)) : List (Nat × Hs) := M.map fun p => (p.1, .dead)
theorem deadH_names (M : List (Nat × Hs)) : (deadH M).map (·.1) = M.map (·.1) := by simp [deadH]
theorem deadH_get {M : List (Nat × Hs)} {n : Nat} {y : Hs} (h : lkH (deadH M) n = some y) : y = .dead ∧ n ∈ M.map (·.1) := by
  have := lkH_mem h
  unfold deadH at this
  rw [List.mem_map] at this
  obtain ⟨p, hp, he⟩ := this
  injection he with h1 h2
  subst h1
  exact ⟨h2.symm, List.mem_map.2 ⟨p, hp, rfl⟩⟩
theorem FCM.post {P : Program} {f : Nat} {args : List Av} {x : Av} {R M U : List (Nat × Hs)} {E : Env} {vs : List Value} (hc : FCM P f args R M x U) (hG : Good E) (hA : RepL E args vs) (hR : ∀ n y, (n, y) ∈ R ++ M → HAt E n y) (hV : ∀ n ∈ U.map (·.1), n ∉ R.map (·.1) → E.loc n = .unborn)
    (hb : bornH (R ++ M)) (hRU : ∀ n ∈ R.map (·.1), n ∈ U.map (·.1)) (hMU : ∀ n ∈ M.map (·.1), n ∉ U.map (·.1)) (hIA : InNL (· ∈ (R ++ M).map (·.1)) args) (hIR : InHs (· ∈ (R ++ M).map (·.1)) (R ++ M)) (hIx : InN (· ∈ U.map (·.1)) x) (hIU : InHs (· ∈ U.map (·.1)) U) : Calls P f vs.toArray E.w fun e w' => ∃ v, e = .returned v ∧ Post E x (U ++ deadH M) v w' := by
  have hL := sub_like E ((R ++ M).map (·.1))
  have hborn : ∀ n ∈ (R ++ M).map (·.1), E.loc n ≠ .unborn := fun n hn => by
    obtain ⟨y, hy⟩ := lkH_some hn
    exact (hR n y (lkH_mem hy)).born (bornH_get hb n y hy)
  refine (hc (E.sub ((R ++ M).map (·.1))) vs (hG.sub _) (RepL.like hL _ _ hIA hA) (fun n y hn => HAt.like hL (lkH_in hn) (fun _ _ => rfl) (hIR.get n y hn) (hR n y (lkH_mem hn))) (fun n hn => by
    have hn' : n ∈ (R ++ M).map (·.1) := by rw [List.map_append]; exact List.mem_append_left _ hn
    rw [hL.loc n hn']; exact hborn n hn') (fun n hn => by simp only [Env.sub]; rw [if_neg hn])).mono ?_
  rintro e w' ⟨E', v, rfl, rfl, hG', hK, hx, hu⟩
  rw [List.map_append] at hK hborn
  obtain ⟨h1, h2, h3⟩ := back_post (Y := U.map (·.1)) (Xn := []) hG hG' (hK.x fun _ => False) hRU hMU (fun n hn => hborn n (List.mem_append_right _ hn)) hV (fun b hx => hx.elim)
  refine ⟨v, rfl, E.back E' (U.map (·.1)) (M.map (·.1)), rfl, h1.more (by simp [deadH_names]), h2, Rep.like h3 x v hIx hx, fun n y hn => ?_⟩
  rw [lkH_app] at hn
  by_cases hm : n ∈ U.map (·.1)
  · obtain ⟨z, hz⟩ := lkH_some hm
    rw [hz] at hn
    simp at hn
    subst hn
    exact HAt.like h3 hm (fun _ _ => rfl) (hIU.get n z hz) (hu n z hz)
  · rw [lkH_none hm] at hn
    obtain ⟨rfl, hn2⟩ := deadH_get (show lkH (deadH M) n = some y by simpa using hn)
    exact back_dead hm hn2
/-- A function from its body. -/
theorem FCM.body {P : Program} {f : FuncId} {fn : Func} {c : Code} {args : List Av} {R M U : List (Nat × Hs)} {x : Av} (K : Nat) (N : Nat) (hf : P.funcs[f]? = some fn) (hb : fn.body = some c) (hN : max fn.ntmps args.length = N)
    (h : AW P N (R.map (·.1)) c (fun e Γ => (e = .ret ∨ e = .normal) ∧ ResOk P fn Γ x ∧ subH Γ.h U) ⟨argS args 0, (R ++ M) ++ unb K⟩) : FCM P f args R M x U := by
  intro E vs hG hA hR hB hU
  refine calls_of_wp hf hb ?_
  have hlen := hA.length
  refine wp_mono (wpIn_wide.1 (h E _ ⟨hG, ?_, hB, fun t => argS_rep args vs 0 _ hA (fun i v hv => ?_) t, fun n y hn => ?_⟩)) ?_
  · simp [hlen]; omega
  · have hi := (List.getElem?_eq_some_iff.1 hv)
    obtain ⟨hi1, hi2⟩ := hi
    rw [Array.getD_eq_getD_getElem?, Nat.zero_add, Array.getElem?_append_left (by simpa using hi1)]
    simp [hv]
  · have hn : lkH ((R ++ M) ++ unb K) n = some y := hn
    rw [lkH_app] at hn
    by_cases hm : n ∈ (R ++ M).map (·.1)
    · obtain ⟨z, hz⟩ := lkH_some hm
      rw [hz] at hn
      simp only [Option.some_or, Option.some.injEq] at hn
      subst hn
      exact hR n z hz
    · rw [lkH_none hm] at hn
      have := unb_get (n := n) (y := y) (K := K) (by simpa using hn)
      subst this
      exact hU n hm
  · rintro e a' w' ⟨E', Γ', rfl, hK, hF, hdf, he, hres, hsub⟩
    obtain ⟨v, hr, hx⟩ := hres E' a' hF.good hF.holds
    have fin : ∃ E'' v', Ending.returned v = .returned v' ∧ E''.w = E'.w ∧ Good E'' ∧ Kept (R.map (·.1)) E E'' ∧ Rep E'' x v' ∧ ∀ n y, lkH U n = some y → HAt E'' n y :=
      ⟨E', v, rfl, rfl, hF.good, hK, hx, fun n y hy => hF.holds.2 n y (subH_get hsub n y hy)⟩
    rcases he with rfl | rfl
    · exact ⟨hdf, v, hr, fin⟩
    · exact ⟨hdf, v, hr, fin⟩
section
variable {P : Program} {o : Oper} {x y : Av} {R M U : List (Nat × Hs)} {ρ : Operand → Av} {p q : Operand} {T : TypeId}
/-- A call with names; V: the new ones. -/
theorem oc_callFC {f : Nat} {args : List Operand} {tys : Array TypeId} {xs : List Av} (V : List Nat) (ho : o.op = .call { callee := .value (.func f), args := args.toArray, argTypes := tys }) (hf : callB P f = true) (hc : FCM P f xs R M x U) (hxs : args.map ρ = xs)
    (hV : ∀ n ∈ U.map (·.1), n ∈ R.map (·.1) ∨ n ∈ V) (hb : bornH (R ++ M)) (hRU : ∀ n ∈ R.map (·.1), n ∈ U.map (·.1)) (hMU : ∀ n ∈ M.map (·.1), n ∉ U.map (·.1)) (hIA : InNL (· ∈ (R ++ M).map (·.1)) xs) (hIR : InHs (· ∈ (R ++ M).map (·.1)) (R ++ M)) (hIx : InN (· ∈ U.map (·.1)) x) (hIU : InHs (· ∈ U.map (·.1)) U) : OC P o ρ ((R ++ M) ++ V.map fun n => (n, .unborn)) x (U ++ deadH M) := by
  intro E a hG hr hH
  subst hxs
  have hA := repL_map (ρ := ρ) (E := E) (a := a) (l := args) fun p hp => hr p (by simp [ho, Op.operands, Call.operands, hp])
  have := FCM.post hc hG hA (fun n y hn => hH n y (List.mem_append_left _ hn)) (fun n hn hn' => hH n .unborn (List.mem_append_right _ (List.mem_map.2 ⟨n, (hV n hn).resolve_left hn', rfl⟩))) hb hRU hMU hIA hIR hIx hIU
  unfold grows execOp
  simp only [ho, resolve, Deferred.ofValue, Act.eval, Sem.run_bind, Sem.run_pure, Result.andThen_ok, invoke, Array.append_empty, Array.empty_append, List.map_toArray, callB_run hf, growUpon]
  exact this
end
end Go.Proofs.Ytfipllnodgbghaa
namespace Go.Proofs.Ytfipllnodgbghaa
open Go.RowKit
set_option linter.unusedVariables false
set_option linter.unusedSimpArgs false

theorem InH.all : ∀ y : Hs, InH (fun _ => True) y
  | .unborn => trivial
  | .dead => trivial
  | .live _ cs => InNL.all cs
  | .map _ _ _ _ => trivial
  | .iter _ _ _ _ _ _ _ => trivial
  | .loop _ _ _ _ _ _ σ => go σ
where
  go : ∀ σ : List (Nat × Av), InS (fun _ => True) σ
    | [] => trivial
    | (_, x) :: r => ⟨InN.all x, go r⟩
section
variable {P : Program} {ops : Array Oper} {o : Oper} {l : List Oper} {s : List (Nat × Av)} {h : List (Nat × Hs)} {K : Ctx → List (List Nat × List Nat) → Prop} {x : Av} {R U : List (Nat × Hs)} {d : Nat} {ρ : Operand → Av}
end
section
variable {P : Program} {o : Oper} {x y : Av} {R M U : List (Nat × Hs)} {ρ : Operand → Av} {p q : Operand} {T : TypeId}
end

/-! ### A function that holds such a loop -/
/-- The deferred calls: none; or the mark of the loop that has been entered. -/
def Mk (n0 : Nat) (E : Env) (ds : List Deferred) : Prop := ds = [] ∨ ∃ d, ds = [{ target := .collected d, args := #[] }] ∧ n0 ≤ d ∧ d < E.w.heap.size ∧ (∀ n, E.loc n ≠ .at d) ∧ E.w.heap[d]? = some (.deferred (some []))
theorem Mk.kept {n0 : Nat} {D : List Nat} {E E' : Env} {ds : List Deferred} (h : Mk n0 E ds) (hK : Kept D E E') : Mk n0 E' ds := by
  rcases h with h | ⟨d, h1, h2, h3, h4, h5⟩
  · exact .inl h
  · refine .inr ⟨d, h1, h2, Nat.lt_of_lt_of_le h3 hK.size, fun n hn => ?_, (hK.keep d h3 h4).trans h5⟩
    rcases hK.from_ n d hn with h | ⟨m, h⟩
    · omega
    · exact h4 m h
section
variable {P : Program} {N : Nat} {D : List Nat} {Q : Exit → Ctx → Prop} {Γ : Ctx}
end
end Go.Proofs.Ytfipllnodgbghaa
namespace Go.Proofs.Ytfipllnodgbghaa
open Go.RowKit
set_option linter.unusedVariables false

/-- What is said of an operation's value (second) and of one forerunner's (first, operation number r); it holds until operation 'dead' has been. -/
structure Sp where
  r : Nat
  dead : Nat
  p : Value → Value → World → Prop
def spAt (L : List Sp) (k : Nat) : Sp := L.getD k ⟨k, 0, fun _ _ _ => True⟩
def spHold (L : List Sp) (f : Nat → Value) (w : World) (j : Nat) : Prop := (spAt L j).p (f (spAt L j).r) (f j) w
/-- The facts at hand where operation i comes up. -/
def depsHold2 (L : List Sp) (f : Nat → Value) (w : World) (i n : Nat) : List Nat → Prop
  | [] => True
  | j :: l => (if (spAt L j).dead = i ∨ n ≤ (spAt L j).dead then spHold L f w j else True) ∧ depsHold2 L f w i n l
/-- Must fact j stand where operation k is carried out? (Not if it is k's own, ends there, has ended ahead of k, or waits for k.) -/
def depsAt (os : List Oper) (k : Nat) : List Nat := match os[k]? with | some o => depsOf o | none => []
def mustKeep (L : List Sp) (os : List Oper) (k j : Nat) : Bool := j != k && (spAt L j).dead != k && !(depsAt os j).contains k && !(depsAt os k).contains (spAt L j).dead
def keepers (L : List Sp) (os : List Oper) (k : Nat) : List Nat := (List.range L.length).filter (mustKeep L os k)
/-- What stood of the others stands. -/
def KeepJ (L : List Sp) (w w' : World) : List Nat → Prop
  | [] => True
  | j :: l => (∀ x y, (spAt L j).p x y w → (spAt L j).p x y w') ∧ KeepJ L w w' l
theorem KeepJ.get {L : List Sp} {w w' : World} : ∀ {l : List Nat}, KeepJ L w w' l → ∀ j ∈ l, ∀ x y, (spAt L j).p x y w → (spAt L j).p x y w'
  | [], _, j, h, _, _, _ => by simp at h
  | k :: l, H, j, h, x, y, hp => by
    rcases List.mem_cons.1 h with rfl | h
    · exact H.1 x y hp
    · exact H.2.get j h x y hp
/-- What lay in an operation's slot ahead of the region. -/
def iniOf (o : Oper) (a : Act) : Value := match o.dst with | some d => a.tmps.getD d undef | none => undef
def ini (os : List Oper) (a : Act) (k : Nat) : Value := match os[k]? with | some o => iniOf o a | none => undef
def waits (os : List Oper) (k j : Nat) : Bool := (depsAt os j).contains k
/-- What is owed, operation by operation. -/
def LOps (P : Program) (ops : Array Oper) (A : (Nat → Value) → Act) (L : List Sp) (os : List Oper) (a : Act) (n B : Nat) (W : World) (J : World → Prop) : List Oper → Nat → Prop
  | [], _ => True
  | o :: l, k => (∀ (f : Nat → Value) (w : World) (K : Value → World → Prop), Below B W w → J w → depsHold2 L f w k n (depsOf o) → (∀ j, waits os k j = true → f j = ini os a j) → (∀ j, n ≤ j → (decide ((spAt L j).dead = k) || (decide (n ≤ (spAt L j).dead) || waits os k (spAt L j).dead)) = true → spHold L f w j) →
      (∀ v w', Below B w w' → J w' → KeepJ L w w' (keepers L os k) → (spAt L k).p (if (spAt L k).r = k then v else f (spAt L k).r) v w' → K v w') →
      if Region.wanted o (yielded ops (A f).tmps) then grows P o (A f) w K else K undef w) ∧ LOps P ops A L os a n B W J l (k + 1)
theorem LOps.nil_ {P : Program} {ops : Array Oper} {A : (Nat → Value) → Act} {L : List Sp} {os : List Oper} {a : Act} {n B k : Nat} {W : World} {J : World → Prop} : LOps P ops A L os a n B W J [] k := trivial
theorem LOps.get {P : Program} {ops : Array Oper} {A : (Nat → Value) → Act} {L : List Sp} {os : List Oper} {a : Act} {n B : Nat} {W : World} {J : World → Prop} : ∀ (l : List Oper) (k : Nat), LOps P ops A L os a n B W J l k → ∀ j o, l[j]? = some o →
    ∀ (f : Nat → Value) (w : World) (K : Value → World → Prop), Below B W w → J w → depsHold2 L f w (k + j) n (depsOf o) → (∀ i, waits os (k + j) i = true → f i = ini os a i) → (∀ i, n ≤ i → (decide ((spAt L i).dead = k + j) || (decide (n ≤ (spAt L i).dead) || waits os (k + j) (spAt L i).dead)) = true → spHold L f w i) →
      (∀ v w', Below B w w' → J w' → KeepJ L w w' (keepers L os (k + j)) → (spAt L (k + j)).p (if (spAt L (k + j)).r = k + j then v else f (spAt L (k + j)).r) v w' → K v w') →
      if Region.wanted o (yielded ops (A f).tmps) then grows P o (A f) w K else K undef w
  | [], _, _, j, _, h => by simp at h
  | o :: l, k, H, 0, o', h => by
    simp at h
    subst h
    exact H.1
  | o :: l, k, H, j + 1, o', h => by
    have := LOps.get l (k + 1) H.2 j o' (by simpa using h)
    rwa [show k + 1 + j = k + (j + 1) from by omega] at this
section
variable {P : Program} {l : List Oper} {A : (Nat → Value) → Act} {L : List Sp} {W : World} {B : Nat} {J : World → Prop} {Q : Exit → Act → World → Prop}
end
section
variable {B : Nat} {W : World}
end
end Go.Proofs.Ytfipllnodgbghaa
namespace Go.Proofs.Ytfipllnodgbghaa
open Go.RowKit
set_option linter.unusedVariables false

/-- All as it was, but block g. -/
structure But (g : Nat) (w w' : World) : Prop where
  os : w'.os = w.os
  tape : w'.tape = w.tape
  output : w'.output = w.output
  size : w.heap.size ≤ w'.heap.size
  block : ∀ k, k < w.heap.size → k ≠ g → w'.heap[k]? = w.heap[k]?
section
variable {w w' w2 : World} {g B : Nat}
theorem But.refl (g : Nat) (w : World) : But g w w := ⟨rfl, rfl, rfl, Nat.le_refl _, fun _ _ _ => rfl⟩
theorem But.trans (h : But g w w') (k : But g w' w2) : But g w w2 :=
  ⟨k.os.trans h.os, k.tape.trans h.tape, k.output.trans h.output, Nat.le_trans h.size k.size, fun j hj hn => (k.block j (Nat.lt_of_lt_of_le hj h.size) hn).trans (h.block j hj hn)⟩
theorem But.of (h : Below w.heap.size w w') : But g w w' := ⟨h.os, h.tape, h.output, h.size, fun k hk _ => h.block k hk⟩
theorem But.below (h : But g w w') (hB : B ≤ g) (hs : B ≤ w.heap.size) : Below B w w' := ⟨h.os, h.tape, h.output, h.size, fun k hk => h.block k (by omega) (by omega)⟩
theorem But.blk {g' : Nat} {t : TypeId} {cs : List Value} (h : But g w w') (hb : Blk w g' t cs) (hn : g' ≠ g) : Blk w' g' t cs := (h.block g' hb.lt hn).trans hb
theorem But.setCell (h : But g w w') {p : Addr} (hp : w.heap.size ≤ p.block) (u : Value) : But g w (w'.setCell p u) :=
  ⟨h.os, h.tape, h.output, by simpa [World.setCell] using h.size, fun k hk hn => (Below.heap_setCell w' p u k (by omega)).trans (h.block k hk hn)⟩
theorem But.alloc (h : But g w w') (o : Obj) : But g w (w'.alloc o) :=
  ⟨h.os, h.tape, h.output, by have := h.size; simp; omega, fun k hk hn => (Below.heap_alloc w' o k (Nat.lt_of_lt_of_le hk h.size)).trans (h.block k hk hn)⟩
theorem But.drew (h : But g w w') : But g w w'.drew := ⟨h.os, h.tape, h.output, h.size, h.block⟩
end
end Go.Proofs.Ytfipllnodgbghaa
namespace Go.Proofs.Ytfipllnodgbghaa
open Go.RowKit
set_option linter.unusedVariables false
set_option linter.unusedSimpArgs false

section
variable {P : Program} {o : Oper} {x y : Av} {R U : List (Nat × Hs)} {ρ : Operand → Av} {p q q' : Operand} {T T' : TypeId}

/-! ### Parts of slices -/
theorem elem_of {e : TypeId} (h : P.underlying T = some (.slice e)) : P.elem T = e := by simp [Program.elem, h]
theorem part_exec {e : TypeId} {k by_ n c : Nat} {zs : List Value} {A : Option Addr} {a : Act} {w : World} {lo hi : Option Operand} {l h : Nat} (ho : o.op = .slice T p lo hi none) (hT : eB P T = some e) (hi_ : infoB P e = some (k, by_, zs)) (hp : a.eval p = .slice A n c) (hc : n ≤ c)
    (hl : (lo = none ∧ l = 0) ∨ ∃ r kk, lo = some r ∧ a.eval r = .int kk (l : Int)) (hh : (hi = none ∧ h = n) ∨ ∃ r kk, hi = some r ∧ a.eval r = .int kk (h : Int)) (h1 : l ≤ h) (h2 : h ≤ n) : (execOp a.eval o).run P w = .ok (.value (sliced A l h c k)) w := by
  obtain ⟨i, z, i1, i2, i3, i4, i5⟩ := infoB_some hi_
  have hu := eB_some hT
  have hu' : P.underlying T = some (.slice (P.elem T)) := by rw [elem_of hu]; exact hu
  have hsz : (sizeOf (P.elem T)).run P w = .ok k w := by rw [elem_of hu]; simp [sizeOf, typeInfo, i1, i3, Sem.run_bind]
  unfold execOp
  simp only [ho, Sem.run_bind, hp, Option.map]
  rw [run_sliceAt_slice w T _ _ _ _ hu']
  rcases hl with ⟨rfl, e1⟩ | ⟨r, kk, rfl, hl⟩ <;> rcases hh with ⟨rfl, e2⟩ | ⟨r', kk', rfl, hh⟩
  · rw [e1, e2, run_slice_all w T A n c hu']
    simp only [hsz, Result.andThen_ok, Sem.run_pure]
  · rw [e1]
    simp only [hh]
    rw [run_slice_h w T A n c hu' kk' (h : Int) (by omega) (by omega)]
    simp only [hsz, Result.andThen_ok, Sem.run_pure, Int.toNat_natCast]
  · rw [e2]
    simp only [hl]
    rw [run_slice_l w T A n c hu' kk (l : Int) (by omega) (by omega)]
    simp only [hsz, Result.andThen_ok, Sem.run_pure, Int.toNat_natCast]
  · simp only [hl, hh]
    rw [run_slice_lh w T A n c hu' kk kk' (l : Int) (h : Int) (by omega) (by omega) (by omega)]
    simp only [hsz, Result.andThen_ok, Sem.run_pure, Int.toNat_natCast]
def bv (xs : List Int) (j : Nat) : Av := .val (.int .u8 (xs.getD j 0))
def bs (xs : List Int) : Av := .sl 1 xs.length (bv xs)
theorem bs_pure (xs : List Int) : Pure (bs xs) := by unfold bs Pure; intro j; unfold bv Pure; trivial
end
end Go.Proofs.Ytfipllnodgbghaa
namespace Go.Proofs.Ytfipllnodgbghaa
open Go.RowKit
set_option linter.unusedVariables false
set_option linter.unusedSimpArgs false
def readR (rv : ResultVar) (tm : Array Value) : Sem Value := match rv with | .tmp t => pure (tm.getD t undef) | .cell a t => do loadVar t (← asAddr (tm.getD a undef))
/-- One of a function's results. -/
def ResC (P : Program) (Γ : Ctx) (rv : ResultVar) (x : Av) : Prop := ∀ (E : Env) (a : Act), Good E → Holds E a.tmps Γ → ∃ v, (readR rv a.tmps).run P E.w = .ok v E.w ∧ Rep E x v
section
variable {P : Program} {fn : Func} {Γ : Ctx} {x y z : Av} {r1 r2 r3 : ResultVar}
theorem ResC.tmp {t : Nat} (hx : lkS Γ.s t = x) : ResC P Γ (.tmp t) x := fun E a hG hH => by
  subst hx
  exact ⟨_, by simp [readR], hH.1 t⟩
theorem ResC.to (h : ResC P Γ r1 x) (hxy : ∀ E v, Rep E x v → Rep E y v) : ResC P Γ r1 y := fun E a hG hH => by
  obtain ⟨v, h1, h2⟩ := h E a hG hH
  exact ⟨v, h1, hxy E v h2⟩
/-- A struct in a named block. -/
theorem ResC.row {t n : Nat} {T ty : TypeId} {cs : List Av} (hs : lkS Γ.s t = .own n 0) (hn : lkH Γ.h n = some (.live ty cs)) (hT : rowB P T = some true) (hz : sizeB P T = some cs.length) (h0 : 0 < cs.length) : ResC P Γ (.cell t T) (.agg cs) := fun E a hG hH => by
  have hv := hH.1 t
  rw [hs] at hv
  obtain ⟨b, cur, h1, h2, h3, h4⟩ := own_at hv (hH.2 n _ hn) h0
  obtain ⟨vs, h5, h6, h7⟩ := cells_list (E := E) (cur := cur) cs 0 fun i y hy => by simpa using h4 i y hy
  refine ⟨.agg vs.toArray, ?_, by unfold Rep; exact ⟨vs, rfl, h5, h6⟩⟩
  obtain ⟨d, hd1, hd2⟩ := rowB_some hT
  have hl := run_loadVar_mid (P := P) E.w b 0 T vs d (fun j u hu => by rw [cell_cur h3]; exact h7 j u hu) hd1 hd2 (by rw [h5.length]; exact hz)
  simp [readR, asAddr, Sem.run_bind, hl, h1]
/-- A scalar in a named block. -/
theorem ResC.one {t n : Nat} {T ty : TypeId} {cs : List Av} (hs : lkS Γ.s t = .own n 0) (hn : lkH Γ.h n = some (.live ty (x :: cs))) (hT : rowB P T = some false) : ResC P Γ (.cell t T) x := fun E a hG hH => by
  have hv := hH.1 t
  rw [hs] at hv
  obtain ⟨b, cur, h1, h2, h3, h4⟩ := own_at hv (hH.2 n _ hn) (by simp)
  obtain ⟨u, h5, h6, h7⟩ := h4 0 x rfl
  refine ⟨u, ?_, h7⟩
  have hc : E.w.cell? ⟨b, 0, none⟩ = some u := by rw [cell_cur h3, h5]
  simp [readR, asAddr, Sem.run_bind, h1, loadVar, isAgg_run hT, hc]
theorem ResOk.two (h : fn.results = #[r1, r2]) (h1 : ResC P Γ r1 x) (h2 : ResC P Γ r2 y) : ResOk P fn Γ (.tup [x, y]) := fun E a hG hH => by
  obtain ⟨v1, k1, l1⟩ := h1 E a hG hH
  obtain ⟨v2, k2, l2⟩ := h2 E a hG hH
  refine ⟨.tuple #[v1, v2], ?_, by unfold Rep; refine ⟨[v1, v2], rfl, ?_⟩; unfold RepL RepL RepL; exact ⟨_, _, rfl, l1, _, _, rfl, l2, rfl⟩⟩
  have e : fn.results.mapM (fun rv => readR rv a.tmps) = (do let x ← readR r1 a.tmps; let y ← readR r2 a.tmps; pure #[x, y]) := by rw [h]; simp
  unfold results
  show (do let vs ← fn.results.mapM (fun rv => readR rv a.tmps); pure (if h : vs.size = 1 then vs[0] else .tuple vs) : Sem Value).run P E.w = _
  rw [e]
  simp [Sem.run_bind, k1, k2]
theorem ResOk.three (h : fn.results = #[r1, r2, r3]) (h1 : ResC P Γ r1 x) (h2 : ResC P Γ r2 y) (h3 : ResC P Γ r3 z) : ResOk P fn Γ (.tup [x, y, z]) := fun E a hG hH => by
  obtain ⟨v1, k1, l1⟩ := h1 E a hG hH
  obtain ⟨v2, k2, l2⟩ := h2 E a hG hH
  obtain ⟨v3, k3, l3⟩ := h3 E a hG hH
  refine ⟨.tuple #[v1, v2, v3], ?_, by unfold Rep; refine ⟨[v1, v2, v3], rfl, ?_⟩; unfold RepL RepL RepL RepL; exact ⟨_, _, rfl, l1, _, _, rfl, l2, _, _, rfl, l3, rfl⟩⟩
  have e : fn.results.mapM (fun rv => readR rv a.tmps) = (do let x ← readR r1 a.tmps; let y ← readR r2 a.tmps; let z ← readR r3 a.tmps; pure #[x, y, z]) := by rw [h]; simp
  unfold results
  show (do let vs ← fn.results.mapM (fun rv => readR rv a.tmps); pure (if h : vs.size = 1 then vs[0] else .tuple vs) : Sem Value).run P E.w = _
  rw [e]
  simp [Sem.run_bind, k1, k2, k3]
end
section
variable {ro : Option Nat} {P : Program} {N : Nat} {D : List Nat} {c x y : Code} {Q R : Exit → Ctx → Prop} {Γ τ : Ctx}
theorem aw_mono (h : AWo ro P N D c Q Γ) (hm : ∀ e Γ, Q e Γ → R e Γ) : AWo ro P N D c R Γ := fun E a hF => wpIn_mono (h E a hF) fun e a' w' ⟨E', Γ', h1, h2, h3, h5, h4⟩ => ⟨E', Γ', h1, h2, h3, h5, hm _ _ h4⟩
theorem aw_joinQ (h1 : AWo ro P N D x (thenA (fun Γ' => Le N D Γ' τ) Q) Γ) (h2 : AWo ro P N D y Q τ) : AWo ro P N D x (thenA (AWo ro P N D y Q) Q) Γ := aw_mono h1 fun e Γ' h => by
  cases e
  case normal => exact aw_le h h2
  all_goals exact h
end
theorem PC.to {P : Program} {f : Nat} {xs : List Av} {y z : Av} (h : PC P f xs y) (hyz : ∀ E v, Rep E y v → Rep E z v) : PC P f xs z := fun E vs hG hA hR hB hU => (h E vs hG hA hR hB hU).mono fun e w' ⟨E', v, h1, h2, h3, h4, h5, h6⟩ => ⟨E', v, h1, h2, h3, h4, hyz E' v h5, h6⟩
theorem rep_aggTo {E : Env} : ∀ {xs ys : List Av} {vs : List Value}, (∀ (i : Nat) (x y : Av), xs[i]? = some x → ys[i]? = some y → ∀ v, Rep E x v → Rep E y v) → xs.length = ys.length → RepL E xs vs → RepL E ys vs
  | [], [], vs, _, _, h => by unfold RepL at h ⊢; exact h
  | [], _ :: _, _, _, hl, _ => by simp at hl
  | _ :: _, [], _, _, hl, _ => by simp at hl
  | x :: xs, y :: ys, vs, hp, hl, h => by
    unfold RepL at h ⊢
    obtain ⟨v, us, h1, h2, h3⟩ := h
    exact ⟨v, us, h1, hp 0 x y rfl rfl v h2, rep_aggTo (fun i a b ha hb => hp (i + 1) a b (by simpa using ha) (by simpa using hb)) (by simpa using hl) h3⟩
theorem rep_agg {xs ys : List Av} {E : Env} {v : Value} (h : Rep E (.agg xs) v) (hl : xs.length = ys.length) (hp : ∀ (E : Env) (i : Nat) (x y : Av), xs[i]? = some x → ys[i]? = some y → ∀ v, Rep E x v → Rep E y v) : Rep E (.agg ys) v := by
  unfold Rep at h ⊢
  obtain ⟨vs, h1, h2, h3⟩ := h
  exact ⟨vs, h1, rep_aggTo (hp E) hl h2, h3⟩
theorem rep_rows {k n : Nat} {r r' : Nat → Av} (hp : ∀ E j, j < n → ∀ v, Rep E (r j) v → Rep E (r' j) v) (E : Env) (v : Value) (h : Rep E (.sl k n r) v) : Rep E (.sl k n r') v := by
  unfold Rep at h ⊢
  obtain ⟨A, c, h1, h2, h3, h4⟩ := h
  refine ⟨A, c, h1, h2, h3, fun h0 => ?_⟩
  obtain ⟨b, o, h5, h6, h7⟩ := h4 h0
  refine ⟨b, o, h5, h6, fun j hj => ?_⟩
  obtain ⟨u, h8, h9⟩ := h7 j hj
  exact ⟨u, hp E j hj u h8, h9⟩
theorem rep_nil0 {k : Nat} {row : Nat → Av} (E : Env) (v : Value) (h : Rep E (.val (.slice none 0 0)) v) : Rep E (.sl k 0 row) v := rep_nil (by decide) E v h
theorem vi_at {l : List Int} {i : Nat} (h : i < l.length) : (l.map vi)[i]? = some (vi (l.getD i 0)) := by simp [h]
theorem vi_put (l : List Int) (i : Nat) (x : Int) : (l.map vi).set i (vi x) = (l.set i x).map vi := by rw [List.map_set]
theorem row_vi (l : List Int) : ∀ j, j < l.length → (l.map vi)[j]? = some ((fun j => vi (l.getD j 0)) j) ∧ oneA ((fun j => vi (l.getD j 0)) j) = true := fun j hj => ⟨vi_at hj, rfl⟩
end Go.Proofs.Ytfipllnodgbghaa
namespace Go.Proofs.Ytfipllnodgbghaa
open Go.Joins Go.ChangeShapes Go.WideShapes Go.RowKit Go.Deep
set_option linter.unusedVariables false
section
variable {H : Type} {enc : TypeId × Value → H} {P : Program} {w : World} {base : Nat} {spare : Nat → Bool} {held : Bool} {NN : Nat}
/-- Opn, where the reading goes no deeper than N. -/
def OpnB (N : Nat) (enc : TypeId × Value → H) (P : Program) (w : World) (base : Nat) (spare : Nat → Bool) (held : Bool) (T : TypeId) (α : Type) (av : α → List Av) (wf : α → Prop) : Prop :=
  ∀ (fuel : Nat) (cs : List Value) (y : DataW H × List MemPlace), fuel < N → DataW.trod enc P w base spare held fuel T cs = some y → (∀ n ∈ DataW.weights P T y.1, n ≤ reachBytes) → ∃ d : α, wf d ∧ RepL (E0 w) (av d) cs ∧ ∀ u ∈ cs, u.oneCell' = true
theorem Opn.b {T : TypeId} {α : Type} {av : α → List Av} {wf : α → Prop} (h : Opn enc P w base spare held T α av wf) : OpnB NN enc P w base spare held T α av wf := fun fuel cs y _ hy hz => h fuel cs y hy hz
theorem OpnB.all {T : TypeId} {α : Type} {av : α → List Av} {wf : α → Prop} (h : ∀ N, OpnB N enc P w base spare held T α av wf) : Opn enc P w base spare held T α av wf := fun fuel cs y hy hz => h (fuel + 1) fuel cs y (Nat.lt_succ_self _) hy hz
theorem OpnB.map {T : TypeId} {α γ : Type} {av : α → List Av} {wf : α → Prop} (h : OpnB NN enc P w base spare held T α av wf) (g : α → γ) (av' : γ → List Av) (wf' : γ → Prop) (h1 : ∀ d cs, RepL (E0 w) (av d) cs → RepL (E0 w) (av' (g d)) cs) (h2 : ∀ d, wf d → wf' (g d)) : OpnB NN enc P w base spare held T γ av' wf' := fun fuel cs y hN hy hz => by
  obtain ⟨d, h3, h4, h5⟩ := h fuel cs y hN hy hz
  exact ⟨g d, h2 d h3, h1 d cs h4, h5⟩
theorem opnB_zero {T : TypeId} {α : Type} {av : α → List Av} {wf : α → Prop} : OpnB 0 enc P w base spare held T α av wf := fun fuel cs y h _ _ => absurd h (Nat.not_lt_zero _)
theorem RepL.one {E : Env} {x y : Av} (h : ∀ v, Rep E x v → Rep E y v) (cs : List Value) (hr : RepL E [x] cs) : RepL E [y] cs := by
  unfold RepL at hr ⊢
  obtain ⟨v, us, rfl, h1, h2⟩ := hr
  unfold RepL at h2
  subst h2
  exact ⟨v, [], rfl, h v h1, by unfold RepL; rfl⟩
theorem opnB_slice {T e : TypeId} {α : Type} {av : α → List Av} {wf : α → Prop} (d0 : α) (k b : Nat) (row : α → Av) (hT : P.underlying T = some (.slice e)) (hk : P.cellsOf e = k) (hb : P.bytesOf e = b) (h0 : 0 < k) (he : OpnB NN enc P w base spare held e α av wf)
    (hrow : ∀ (d : α) (cs : List Value), RepL (E0 w) (av d) cs → (∀ u ∈ cs, u.oneCell' = true) → ∃ u : Value, Rep (E0 w) (row d) u ∧ u.cells.toList = cs) :
    OpnB NN enc P w base spare held T (List α) (fun l => [.sl k l.length fun j => row (l.getD j d0)]) (fun l => (∀ d ∈ l, wf d) ∧ l.length * b ≤ 140737488351232) := fun fuel cs y hNN hy hz => by
  rcases DataW.trod_slice hT hy with ⟨rfl, _⟩ | ⟨a, len, cap, elems, rest, n, hfu, rfl, rfl, _, hl, hm, hlen, hel, _, _⟩
  · exact ⟨[], ⟨by simp, by simp⟩, by unfold RepL; exact ⟨_, _, rfl, rep_nil (Nat.zero_le _) _ _ (by unfold Rep; rfl), by unfold RepL; rfl⟩, by simp [Value.oneCell']⟩
  · have hz' : (elems.length + rest.length) * b ≤ 140737488351232 ∧ ∀ x ∈ elems, ∀ n ∈ DataW.weights P e x.1, n ≤ reachBytes := by
      unfold DataW.weights at hz
      simp only [hT] at hz
      refine ⟨?_, fun x hx n hn => hz n (List.mem_cons_of_mem _ (List.mem_append.2 (.inl (weightsAll_mem (List.mem_map.2 ⟨x, hx, rfl⟩) hn))))⟩
      have := hz _ (List.mem_cons_self)
      rw [hb] at this
      have hr : reachBytes = 140737488351232 := rfl
      simpa [hr] using this
    have hlb : len * b ≤ 140737488351232 := Nat.le_trans (Nat.mul_le_mul_right b (by omega)) hz'.1
    rw [hk] at hel
    have each : ∀ i, i < len → ∃ d : α, wf d ∧ ∃ ds : List Value, w.cells? base (a.add (i * k)) k = some ds ∧ RepL (E0 w) (av d) ds ∧ ∀ u ∈ ds, u.oneCell' = true := fun i hi => by
      have h1 := hel i hi
      rw [List.getElem?_eq_getElem (by omega), Option.bind_eq_some_iff] at h1
      obtain ⟨ds, h2, h3⟩ := h1
      obtain ⟨d, h4, h5, h6⟩ := he n ds _ (by omega) h3 (hz'.2 _ (List.getElem_mem _))
      exact ⟨d, h4, ds, h2, h5, h6⟩
    let f : Nat → α := fun i => if h : i < len then Classical.choose (each i h) else d0
    have hf : ∀ i, i < len → wf (f i) ∧ ∃ ds : List Value, w.cells? base (a.add (i * k)) k = some ds ∧ RepL (E0 w) (av (f i)) ds ∧ ∀ u ∈ ds, u.oneCell' = true := fun i hi => by
      have : f i = Classical.choose (each i hi) := by simp [f, hi]
      rw [this]
      exact Classical.choose_spec (each i hi)
    have hg : ∀ j, j < len → ((List.range len).map f).getD j d0 = f j := fun j hj => by simp [hj]
    refine ⟨(List.range len).map f, ⟨fun d hd => ?_, by simpa using hlb⟩, ?_, by simp [Value.oneCell']⟩
    · obtain ⟨i, hi, rfl⟩ := List.mem_map.1 hd
      exact (hf i (List.mem_range.1 hi)).1
    · unfold RepL
      refine ⟨_, _, rfl, ?_, by unfold RepL; rfl⟩
      unfold Rep
      refine ⟨some a, cap, by simp, by simpa using hl, hm, fun hpos => ?_⟩
      have hp : 0 < len := by simpa using hpos
      obtain ⟨_, ds, h2, h3, _⟩ := hf 0 hp
      rw [Nat.zero_mul] at h2
      obtain ⟨hl2, h4⟩ := cells_each h2
      have h5 := h4 0 h0
      rw [List.getElem?_eq_getElem (by omega)] at h5
      obtain ⟨h6, h7⟩ := cell_spot h5
      have ha : a.add 0 = a := rfl
      have hspot : a.spot = none := by simpa [Addr.add] using h6
      have hblk : a.block < w.heap.size := by simpa [Addr.add] using h7
      refine ⟨a.block, a.off, by cases a; simp at hspot; subst hspot; rfl, E0.ok hblk, fun j hj => ?_⟩
      have hj' : j < len := by simpa using hj
      obtain ⟨_, ds', k2, k3, k4⟩ := hf j hj'
      obtain ⟨u, k5, k6⟩ := hrow _ _ k3 k4
      obtain ⟨kl, k7⟩ := cells_each k2
      simp only [hg j hj']
      refine ⟨u, k5, by rw [← Array.length_toList, k6, kl], fun i v hv => ?_⟩
      rw [k6] at hv
      have hi : i < k := by rw [← kl]; exact (List.getElem?_eq_some_iff.1 hv).1
      have := k7 i hi
      rw [hv] at this
      show w.cell? ⟨a.block, a.off + j * k + i, none⟩ = some v
      rw [← this]
      congr 1
      unfold Addr.add
      cases a
      simp at hspot
      subst hspot
      by_cases e1 : i = 0
      · subst e1
        by_cases e2 : j * k = 0 <;> simp [e2]
      · by_cases e2 : j * k = 0 <;> simp [e1, e2]
/-- Fields one after another. -/
def OpnFB (NN : Nat) (enc : TypeId × Value → H) (P : Program) (w : World) (base : Nat) (spare : Nat → Bool) (held : Bool) (o : Nat) (fs : List Field) (m : Nat) (β : Type) (av : β → List Av) (wf : β → Prop) : Prop :=
  ∀ (fuel : Nat) (cs : List Value), fuel < NN → (∀ f ∈ fs, ∃ y, DataW.trod enc P w base spare held fuel f.type ((cs.drop f.offset).take (P.cellsOf f.type)) = some y ∧ ∀ n ∈ DataW.weights P f.type y.1, n ≤ reachBytes) → ∃ d : β, wf d ∧ RepL (E0 w) (av d) ((cs.drop o).take m) ∧ ∀ u ∈ (cs.drop o).take m, u.oneCell' = true
theorem opnFB_nil {o : Nat} : OpnFB NN enc P w base spare held o [] 0 Unit (fun _ => []) (fun _ => True) := fun fuel cs _ _ => ⟨(), trivial, by unfold RepL; simp, by simp⟩
theorem opnFB_cons {o k m : Nat} {f : Field} {fs : List Field} {α β : Type} {av : α → List Av} {wf : α → Prop} {avs : β → List Av} {wfs : β → Prop} (ho : f.offset = o) (hk : P.cellsOf f.type = k) (h : OpnB NN enc P w base spare held f.type α av wf) (hs : OpnFB NN enc P w base spare held (o + k) fs m β avs wfs) :
    OpnFB NN enc P w base spare held o (f :: fs) (k + m) (α × β) (fun d => av d.1 ++ avs d.2) (fun d => wf d.1 ∧ wfs d.2) := fun fuel cs hNN hf => by
  obtain ⟨y, hy, hz⟩ := hf f (by simp)
  rw [ho, hk] at hy
  obtain ⟨a, h1, h2, h3⟩ := h _ _ _ hNN hy hz
  obtain ⟨b, h4, h5, h6⟩ := hs fuel cs hNN fun g hg => hf g (by simp [hg])
  have e : (cs.drop o).take (k + m) = (cs.drop o).take k ++ (cs.drop (o + k)).take m := by rw [List.take_add, List.drop_drop]
  refine ⟨(a, b), ⟨h1, h4⟩, by rw [e]; exact RepL.append h2 h5, fun u hu => ?_⟩
  rw [e] at hu
  rcases List.mem_append.1 hu with hu | hu
  · exact h3 u hu
  · exact h6 u hu
theorem opnB_struct {T : TypeId} {fs : List Field} {m : Nat} {β : Type} {av : β → List Av} {wf : β → Prop} (hT : P.underlying T = some (.struct fs.toArray)) (hm : P.cellsOf T = m) (h : OpnFB NN enc P w base spare held 0 fs m β av wf) : OpnB (NN + 1) enc P w base spare held T β av wf := fun fuel cs y hNN hy hz => by
  obtain ⟨xs, n, hfu, rfl, hl, hlen, hg⟩ := DataW.trod_struct hT hy
  obtain ⟨d, h1, h2, h3⟩ := h n cs (by omega) fun f hf => by
    obtain ⟨i, hi⟩ := List.getElem?_of_mem hf
    have hlt := (List.getElem?_eq_some_iff.1 hi).1
    have := hg i f (by simpa using hi)
    have hx : i < xs.length := by rw [hlen]; simpa using hlt
    rw [List.getElem?_eq_getElem hx] at this
    refine ⟨_, this, fun k hk => hz k ?_⟩
    unfold DataW.weights
    simp only [hT]
    exact DataW.weights_mem_each (j := i) (by simp [hi]) (by simp [hx]) k hk
  have e : (cs.drop 0).take m = cs := by rw [List.drop_zero, List.take_of_length_le (by omega)]
  rw [e] at h2 h3
  exact ⟨d, h1, h2, h3⟩
end
end Go.Proofs.Ytfipllnodgbghaa
