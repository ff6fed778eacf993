/- Statements and functions over abstract values. No program stands in this text. -/
import Derived.Test.YtjjgdjcapfenpaaAny
import Derived.Sort.LoopGhostIn
import Derived.TacticsIn
import Derived.RangeFuncLeaves
import Derived.RangeFuncRecord
namespace Go.Proofs.Ytjjgdjcapfenpaa
open Go.RowKit
set_option linter.unusedVariables false

/-- What a run leaves of memory: only blocks of its own names have been written to; the names D are where they were. -/
structure Kept (D : List Nat) (E E' : Env) : Prop where
  os : E'.w.os = E.w.os
  tape : E'.w.tape = E.w.tape
  output : E'.w.output = E.w.output
  size : E.w.heap.size ≤ E'.w.heap.size
  bad : E'.bad = E.bad
  keep : ∀ b, b < E.w.heap.size → (∀ n, E.loc n ≠ .at b) → E'.w.heap[b]? = E.w.heap[b]?
  from_ : ∀ n b, E'.loc n = .at b → E.w.heap.size ≤ b ∨ ∃ m, E.loc m = .at b
  born : ∀ n ∈ D, E'.loc n ≠ .unborn
  nil_ : ∀ n ∈ D, E'.loc n = .nil → E.loc n = .nil
  same : ∀ n ∈ D, ∀ b, E'.loc n = .at b → E.loc n = .at b ∧ ∀ cur t, E.w.heap[b]? = some (.cells cur t (0, 0)) → ∃ cur', E'.w.heap[b]? = some (.cells cur' t (0, 0)) ∧ cur'.size = cur.size
theorem Kept.refl {D : List Nat} {E : Env} (h : ∀ n ∈ D, E.loc n ≠ .unborn) : Kept D E E :=
  ⟨rfl, rfl, rfl, Nat.le_refl _, rfl, fun _ _ _ => rfl, fun n b h => .inr ⟨n, h⟩, h, fun n _ h => h, fun n _ b hb => ⟨hb, fun cur t hc => ⟨cur, hc, rfl⟩⟩⟩
theorem Kept.trans {D : List Nat} {E E' E'' : Env} (h : Kept D E E') (k : Kept D E' E'') : Kept D E E'' where
  os := k.os.trans h.os
  tape := k.tape.trans h.tape
  output := k.output.trans h.output
  size := Nat.le_trans h.size k.size
  bad := k.bad.trans h.bad
  keep b hb hn := by
    refine (k.keep b (Nat.lt_of_lt_of_le hb h.size) fun n hn' => ?_).trans (h.keep b hb hn)
    rcases h.from_ n b hn' with h1 | ⟨m, h1⟩
    · omega
    · exact hn m h1
  from_ n b hb := by
    rcases k.from_ n b hb with h1 | ⟨m, h1⟩
    · exact .inl (Nat.le_trans h.size h1)
    · exact h.from_ m b h1
  born := k.born
  nil_ n hn hl := h.nil_ n hn (k.nil_ n hn hl)
  same n hn b hb := by
    obtain ⟨h1, h2⟩ := k.same n hn b hb
    obtain ⟨h3, h4⟩ := h.same n hn b h1
    refine ⟨h3, fun cur t hc => ?_⟩
    obtain ⟨cur', h5, h6⟩ := h4 cur t hc
    obtain ⟨cur'', h7, h8⟩ := h2 cur' t h5
    exact ⟨cur'', h7, h8.trans h6⟩
theorem Step.kept {D N : List Nat} {E E' : Env} (h : Step E E' N) (hD : ∀ n ∈ D, E.loc n ≠ .unborn) : Kept D E E' where
  os := h.os
  tape := h.tape
  output := h.output
  size := h.size
  bad := h.bad
  keep := h.keep
  from_ n b hb := by
    rcases h.from_ n b hb with h1 | ⟨_, h1⟩
    · exact .inr ⟨n, h1⟩
    · exact h1
  born n hn := h.born n (hD n hn)
  nil_ n hn hl := by
    rcases h.nil_ n hl with h1 | h1
    · exact h1
    · exact absurd h1 (hD n hn)
  same n hn b hb := by
    rcases h.from_ n b hb with h1 | ⟨h1, _⟩
    · exact ⟨h1, fun cur t hc => h.shape n b cur t hb h1 hc⟩
    · exact absurd h1 (hD n hn)

/-- A state fits the context. -/
structure Fit (N : Nat) (D : List Nat) (E : Env) (a : Act) (Γ : Ctx) : Prop where
  good : Good E
  size : a.tmps.size = N
  born : ∀ n ∈ D, E.loc n ≠ .unborn
  holds : Holds E a.tmps Γ
/-- From the context Γ the code ends by Q; ro: in a round of a loop over a function, or in none. -/
def AWo (ro : Option Nat) (P : Program) (N : Nat) (D : List Nat) (c : Code) (Q : Exit → Ctx → Prop) (Γ : Ctx) : Prop :=
  ∀ (E : Env) (a : Act), Fit N D E a Γ → c.wpIn (wideAt ro) 0 P (fun e a' w' => ∃ E' Γ', E'.w = w' ∧ Kept D E E' ∧ Fit N D E' a' Γ' ∧ a'.defers = a.defers ∧ Q e Γ') a E.w
abbrev AW := AWo none

section
variable {P : Program} {N : Nat} {D : List Nat} {Q : Exit → Ctx → Prop} {Γ : Ctx} {ro : Option Nat}
theorem aw_skip (h : Q .normal Γ) : AWo ro P N D .skip Q Γ := fun E a hF => wpIn_skip ⟨E, Γ, rfl, Kept.refl hF.born, hF, rfl, h⟩
theorem aw_exit {id : Nat} (h : Q (.exit id) Γ) : AWo ro P N D (.exit id) Q Γ := fun E a hF => wpIn_exit ⟨E, Γ, rfl, Kept.refl hF.born, hF, rfl, h⟩
theorem aw_ret (h : Q .ret Γ) : AWo ro P N D .ret Q Γ := fun E a hF => wpIn_ret ⟨E, Γ, rfl, Kept.refl hF.born, hF, rfl, h⟩
def thenA (next : Ctx → Prop) (Q : Exit → Ctx → Prop) : Exit → Ctx → Prop
  | .normal, Γ => next Γ
  | e, Γ => Q e Γ
theorem aw_seq {x y : Code} (h : AWo ro P N D x (thenA (AWo ro P N D y Q) Q) Γ) : AWo ro P N D (.seq x y) Q Γ := fun E a hF => by
  refine wpIn_seq (wpIn_mono (h E a hF) ?_)
  rintro e a' w' ⟨E', Γ', rfl, hK, hF', hd, hq⟩
  cases e
  case normal =>
    exact wpIn_mono ((show AWo ro P N D y Q Γ' from hq) E' a' hF') fun e a'' w'' ⟨E'', Γ'', h1, h2, h3, h5, h4⟩ => ⟨E'', Γ'', h1, hK.trans h2, h3, h5.trans hd, h4⟩
  all_goals exact ⟨E', Γ', rfl, hK, hF', hd, hq⟩
def inBlockA (id : Nat) (Q : Exit → Ctx → Prop) : Exit → Ctx → Prop
  | .exit id', Γ => bif Nat.beq id' id then Q .normal Γ else Q (.exit id') Γ
  | e, Γ => Q e Γ
theorem aw_block {id : Nat} {c : Code} (h : AWo ro P N D c (inBlockA id Q) Γ) : AWo ro P N D (.block id c) Q Γ := fun E a hF => by
  refine wpIn_block (wpIn_mono (h E a hF) ?_)
  rintro e a' w' ⟨E', Γ', rfl, hK, hF', hd, hq⟩
  cases e
  case exit id' =>
    by_cases hid : id' = id
    · subst hid
      simp only [Exit.inBlock, if_true]
      exact ⟨E', Γ', rfl, hK, hF', hd, by simpa [inBlockA] using hq⟩
    · simp only [Exit.inBlock, hid, if_false]
      exact ⟨E', Γ', rfl, hK, hF', hd, by simpa [inBlockA, beqF hid] using hq⟩
  all_goals exact ⟨E', Γ', rfl, hK, hF', hd, hq⟩
/-- An operand's value. -/
def evA (σ : List (Nat × Av)) : Operand → Av
  | .tmp t => lkS σ t
  | .const v => .val v
  | .func f => .clo f []
  | .global _ => .any
theorem rep_eval {E : Env} {a : Act} (h : ∀ t, Rep E (lkS Γ.s t) (a.tmps.getD t undef)) (p : Operand) : Rep E (evA Γ.s p) (a.eval p) := by
  cases p with
  | tmp t => exact h t
  | const v => unfold evA Rep; rfl
  | func f => unfold evA Rep; exact ⟨[], rfl, by unfold RepL; rfl⟩
  | global g => unfold evA Rep; trivial
theorem aw_cond {p : Operand} {x y : Code} {b : Bool} (hp : evA Γ.s p = .val (.bool b)) (h1 : b = true → AWo ro P N D x Q Γ) (h2 : b = false → AWo ro P N D y Q Γ) : AWo ro P N D (.cond p x y) Q Γ := fun E a hF => by
  have := rep_eval hF.holds.1 p
  rw [hp] at this
  unfold Rep at this
  exact wpIn_cond_split this (fun hb => h1 hb E a hF) (fun hb => h2 hb E a hF)
/-- The operations l, and then K of the state and the footprints. -/
def Ck (bb : Bool) (P : Program) (ops : Array Oper) (l : List Oper) (Γ : Ctx) (K : Ctx → List (List Nat × List Nat) → Prop) : Prop := ∃ Γ' F, Ch bb P ops l Γ Γ' F ∧ K Γ' F
theorem ck_nil {bb : Bool} {ops : Array Oper} {K : Ctx → List (List Nat × List Nat) → Prop} (h : K Γ []) : Ck bb P ops [] Γ K := ⟨Γ, [], Ch.nil Γ, h⟩
theorem aw_text {l : List Oper} {id : Nat} (hd : dstLt N l = true) (hc : Ck true P l.toArray l Γ fun Γ' _ => Q .normal Γ') : AWo ro P N D (.region id l.toArray false) Q Γ := fun E a hF => by
  obtain ⟨Γ', F, h, hq⟩ := hc
  refine wpIn_region_lit (l := l) ?_
  exact h.text hd E a hF.good hF.holds hF.size fun E' a' M hG hS hH hN hdf => ⟨E', Γ', rfl, hS.kept hF.born, ⟨hG, hN, fun n hn => (hS.kept hF.born).born n hn, hH⟩, hdf, hq⟩
def drawChk (N : Nat) (l : List Oper) (F : List (List Nat × List Nat)) : Bool := dstLt N l && lexB .any l 0 && chk l F
theorem aw_draw {l : List Oper} {id : Nat} (hm : P.follows .mixedOrders = true) (hck : Ck false P l.toArray l Γ fun Γ' F => drawChk N l F = true ∧ Q .normal Γ') : AW P N D (.region id l.toArray true) Q Γ := fun E a hF => by
  obtain ⟨Γ', F, h, hc, hq⟩ := hck
  unfold drawChk at hc
  rw [Bool.and_eq_true, Bool.and_eq_true] at hc
  obtain ⟨⟨hd, hl⟩, hc⟩ := hc
  obtain ⟨s, hs, hF', hE⟩ := h.specs
  have hb : Below E.w.heap.size E.w E.w.drew := (Below.refl _ _).drew
  have hS := Step.grow hF.good hb
  have := h.any (Q := fun e a' w' => ∃ E' Γ', E'.w = w' ∧ Kept D E E' ∧ Fit N D E' a' Γ' ∧ a'.defers = a.defers ∧ Q e Γ') hd hl hc { E with w := E.w.drew } a.defers (fun E' a' M hG hS' hH hN hdf => by
    have hK := (hS.trans hS').kept hF.born
    exact ⟨E', Γ', rfl, hK, ⟨hG, hN, fun n hn => hK.born n hn, hH⟩, hdf, hq⟩) s hs hF' hE l.toArray.size (Array.replicate l.toArray.size false) { E with w := E.w.drew } a [] (by simp) (by simp [left, List.countP_replicate])
      (fun i o _ hi => by by_cases h : i < l.length <;> simp [Array.getD, h] at hi) (hF.good.grow hb) (Step.refl _) (by
        rw [stL_none _ _ _ _ fun j hj => by by_cases h : j < l.length <;> simp [Array.getD, h]]
        exact ⟨fun t => Rep.step hS _ _ (hF.holds.1 t), fun n x hx => HAt.step hS (by simp) (hF.holds.2 n x hx)⟩) hF.size rfl
  exact wpIn_wide.2 (wp_region_any hm this)
/-- What fits the one context fits the other, memory being as it is. -/
def Le (N : Nat) (D : List Nat) (Γ τ : Ctx) : Prop := ∀ (E : Env) (a : Act), Fit N D E a Γ → ∃ E', E'.w = E.w ∧ Kept D E E' ∧ Fit N D E' a τ
theorem Le.refl : Le N D Γ Γ := fun E a h => ⟨E, rfl, Kept.refl h.born, h⟩
theorem aw_le {τ : Ctx} {c : Code} (hl : Le N D Γ τ) (h : AWo ro P N D c Q τ) : AWo ro P N D c Q Γ := fun E a hF => by
  obtain ⟨E', hw, hK, hF'⟩ := hl E a hF
  rw [← hw]
  exact wpIn_mono (h E' a hF') fun e a' w' ⟨E'', Γ', h1, h2, h3, h4⟩ => ⟨E'', Γ', h1, hK.trans h2, h3, h4⟩
/-- A loop: the states by an index. -/
theorem aw_loop {ι : Type} {c : Code} (F : ι → Ctx) (I : ι → Prop) (μ : ι → Nat) (i0 : ι) (h0 : I i0) (hl : Le N D Γ (F i0))
    (round : ∀ i, I i → AWo ro P N D c (thenA (fun Γ' => ∃ j, I j ∧ μ j < μ i ∧ Le N D Γ' (F j)) Q) (F i)) : AWo ro P N D (.loop c) Q Γ := fun E a hF => by
  obtain ⟨E0, hw0, hK0, hF0⟩ := hl E a hF
  refine wpIn_loop_ghost (fun n b w => ∃ E' i, E'.w = w ∧ I i ∧ μ i = n ∧ Kept D E E' ∧ Fit N D E' b (F i) ∧ b.defers = a.defers) (μ i0) ⟨E0, i0, hw0, h0, rfl, hK0, hF0, rfl⟩ ?_
  rintro n b w ⟨E', i, rfl, hi, rfl, hK, hF', hd⟩
  refine wpIn_mono (round i hi E' b hF') ?_
  rintro e a' w' ⟨E'', Γ', rfl, hK', hF'', hd', hq⟩
  cases e
  case normal =>
    obtain ⟨j, hj, hlt, hle⟩ := hq
    obtain ⟨E3, h1, h2, h3⟩ := hle E'' a' hF''
    exact ⟨μ j, hlt, E3, j, h1, hj, rfl, (hK.trans hK').trans h2, h3, hd'.trans hd⟩
  all_goals exact ⟨E'', Γ', rfl, hK.trans hK', hF'', hd'.trans hd, hq⟩
/-- Less is known. -/
def subS (σ : List (Nat × Av)) : List (Nat × Av) → Prop
  | [] => True
  | (t, x) :: r => (x = .any ∨ lkS σ t = x) ∧ subS σ r
def subH (η : List (Nat × Hs)) : List (Nat × Hs) → Prop
  | [] => True
  | (n, y) :: r => lkH η n = some y ∧ subH η r
theorem subS_get {σ : List (Nat × Av)} : ∀ {τ : List (Nat × Av)}, subS σ τ → ∀ t, lkS τ t = .any ∨ lkS σ t = lkS τ t
  | [], _, t => .inl rfl
  | (u, x) :: r, h, t => by
    by_cases e : u = t
    · subst e; rw [lkS_eq]; exact h.1
    · rw [lkS_ne _ _ e]; exact subS_get h.2 t
theorem subH_get {η : List (Nat × Hs)} : ∀ {τ : List (Nat × Hs)}, subH η τ → ∀ n y, lkH τ n = some y → lkH η n = some y
  | [], _, n, y, h => by simp [lkH] at h
  | (u, x) :: r, h, n, y, hy => by
    by_cases e : u = n
    · subst e
      simp [lkH] at hy
      subst hy
      exact h.1
    · simp only [lkH, beqF e, cond_false] at hy
      exact subH_get h.2 n y hy
theorem Holds.weaken {E : Env} {tm : Array Value} {τ : Ctx} (h : Holds E tm Γ) (hs : subS Γ.s τ.s) (hh : subH Γ.h τ.h) : Holds E tm τ := by
  refine ⟨fun t => ?_, fun n y hy => h.2 n y (subH_get hh n y hy)⟩
  rcases subS_get hs t with h1 | h1
  · rw [h1]; unfold Rep; trivial
  · rw [← h1]; exact h.1 t
theorem Le.sub {τ : Ctx} (hs : subS Γ.s τ.s) (hh : subH Γ.h τ.h) : Le N D Γ τ := fun E a h => ⟨E, rfl, Kept.refl h.born, ⟨h.good, h.size, h.born, h.holds.weaken hs hh⟩⟩
theorem Le.trans {τ υ : Ctx} (h : Le N D Γ τ) (k : Le N D τ υ) : Le N D Γ υ := fun E a hF => by
  obtain ⟨E1, h1, h2, h3⟩ := h E a hF
  obtain ⟨E2, k1, k2, k3⟩ := k E1 a h3
  exact ⟨E2, k1.trans h1, h2.trans k2, k3⟩
end

/-! ### Functions -/
/-- Called with arguments that read so, the function returns what reads as x; of the named blocks it finds R and leaves U. -/
def FC (P : Program) (f : FuncId) (args : List Av) (R : List (Nat × Hs)) (x : Av) (U : List (Nat × Hs)) : Prop :=
  ∀ (E : Env) (vs : List Value), Good E → RepL E args vs → (∀ n y, lkH R n = some y → HAt E n y) → (∀ n ∈ R.map (·.1), E.loc n ≠ .unborn) → (∀ n, n ∉ R.map (·.1) → E.loc n = .unborn) →
    Calls P f vs.toArray E.w fun e w' => ∃ E' v, e = .returned v ∧ E'.w = w' ∧ Good E' ∧ Kept (R.map (·.1)) E E' ∧ Rep E' x v ∧ ∀ n y, lkH U n = some y → HAt E' n y
/-- The function's result. -/
def ResOk (P : Program) (fn : Func) (Γ : Ctx) (x : Av) : Prop := ∀ (E : Env) (a : Act), Good E → Holds E a.tmps Γ → ∃ v, (results fn a.tmps).run P E.w = .ok v E.w ∧ Rep E x v
def argS : List Av → Nat → List (Nat × Av)
  | [], _ => []
  | x :: r, k => (k, x) :: argS r (k + 1)
def unb : Nat → List (Nat × Hs)
  | 0 => []
  | n + 1 => (n, .unborn) :: unb n
theorem argS_rep {E : Env} : ∀ (xs : List Av) (vs : List Value) (k : Nat) (tm : Array Value), RepL E xs vs → (∀ i v, vs[i]? = some v → tm.getD (k + i) undef = v) → ∀ t, Rep E (lkS (argS xs k) t) (tm.getD t undef)
  | [], vs, k, tm, _, _, t => by unfold argS lkS Rep; trivial
  | x :: xs, vs, k, tm, h, hv, t => by
    unfold RepL at h
    obtain ⟨v, us, rfl, h1, h2⟩ := h
    unfold argS
    by_cases e : k = t
    · subst e
      rw [lkS_eq]
      have := hv 0 v rfl
      rw [Nat.add_zero] at this
      rw [this]
      exact h1
    · rw [lkS_ne _ _ e]
      exact argS_rep xs us (k + 1) tm h2 (fun i u hu => by have := hv (i + 1) u (by simpa using hu); rwa [show k + 1 + i = k + (i + 1) from by omega]) t
theorem unb_get {n : Nat} {y : Hs} : ∀ {K : Nat}, lkH (unb K) n = some y → y = .unborn
  | 0, h => by simp [unb, lkH] at h
  | K + 1, h => by
    unfold unb lkH at h
    cases hb : Nat.beq K n with
    | true => rw [hb, cond_true] at h; injection h with h; exact h.symm
    | false => rw [hb, cond_false] at h; exact unb_get h
theorem RepL.length {E : Env} : ∀ {xs : List Av} {vs : List Value}, RepL E xs vs → vs.length = xs.length
  | [], vs, h => by unfold RepL at h; subst h; rfl
  | x :: xs, vs, h => by
    unfold RepL at h
    obtain ⟨v, us, rfl, _, h2⟩ := h
    simp [h2.length]
/-- **A function from its body.** K: so many names may be used beside those that came. -/
theorem FC.body {P : Program} {f : FuncId} {fn : Func} {c : Code} {args : List Av} {R U : List (Nat × Hs)} {x : Av} (K : Nat) (N : Nat) (hf : P.funcs[f]? = some fn) (hb : fn.body = some c) (hN : max fn.ntmps args.length = N)
    (h : AW P N (R.map (·.1)) c (fun e Γ => (e = .ret ∨ e = .normal) ∧ ResOk P fn Γ x ∧ subH Γ.h U) ⟨argS args 0, R ++ unb K⟩) : FC P f args R x U := by
  intro E vs hG hA hR hB hU
  refine calls_of_wp hf hb ?_
  have hlen := hA.length
  refine wp_mono (wpIn_wide.1 (h E _ ⟨hG, ?_, hB, fun t => argS_rep args vs 0 _ hA (fun i v hv => ?_) t, fun n y hn => ?_⟩)) ?_
  · simp [hlen]; omega
  · have hi := (List.getElem?_eq_some_iff.1 hv)
    obtain ⟨hi1, hi2⟩ := hi
    rw [Array.getD_eq_getD_getElem?, Nat.zero_add, Array.getElem?_append_left (by simpa using hi1)]
    simp [hv]
  · rw [lkH_app] at hn
    by_cases hm : n ∈ R.map (·.1)
    · obtain ⟨z, hz⟩ := lkH_some hm
      rw [hz] at hn
      simp at hn
      subst hn
      exact hR n z hz
    · rw [lkH_none hm] at hn
      have := unb_get (n := n) (y := y) (K := K) (by simpa using hn)
      subst this
      exact hU n hm
  · rintro e a' w' ⟨E', Γ', rfl, hK, hF, hdf, he, hres, hsub⟩
    obtain ⟨v, hr, hx⟩ := hres E' a' hF.good hF.holds
    have fin : ∃ E'' v', Ending.returned v = .returned v' ∧ E''.w = E'.w ∧ Good E'' ∧ Kept (R.map (·.1)) E E'' ∧ Rep E'' x v' ∧ ∀ n y, lkH U n = some y → HAt E'' n y :=
      ⟨E', v, rfl, rfl, hF.good, hK, hx, fun n y hy => hF.holds.2 n y (subH_get hsub n y hy)⟩
    rcases he with rfl | rfl
    · exact ⟨hdf, v, hr, fin⟩
    · exact ⟨hdf, v, hr, fin⟩
theorem ResOk.tmp {P : Program} {fn : Func} {Γ : Ctx} {x : Av} {t : Nat} (h : fn.results = #[.tmp t]) (hx : lkS Γ.s t = x) : ResOk P fn Γ x := fun E a hG hH => by
  subst hx
  exact ⟨_, results_tmp h _ _ _, hH.1 t⟩
theorem ResOk.tmp2 {P : Program} {fn : Func} {Γ : Ctx} {x y : Av} {t u : Nat} (h : fn.results = #[.tmp t, .tmp u]) (hx : lkS Γ.s t = x) (hy : lkS Γ.s u = y) : ResOk P fn Γ (.tup [x, y]) := fun E a hG hH => by
  subst hx hy
  refine ⟨_, results_tmp2 h _ _ _, ?_⟩
  unfold Rep
  refine ⟨[_, _], rfl, ?_⟩
  unfold RepL RepL RepL
  exact ⟨_, _, rfl, hH.1 t, _, _, rfl, hH.1 u, rfl⟩
end Go.Proofs.Ytjjgdjcapfenpaa
