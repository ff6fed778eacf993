/- Regions over abstract values: each operation is shown once, in the text's order; a closed check on what each reads and writes says that any order that its edges allow ends in the same state. No program stands in this text. -/
import Derived.Test.YtjjgdjcapfenpaaAv
import Derived.TacticsIn
import Derived.RangeFuncCalls
namespace Go.Proofs.Ytjjgdjcapfenpaa
open Go.RowKit
set_option linter.unusedVariables false

structure Ctx where
  s : List (Nat × Av)
  h : List (Nat × Hs)
def lkH : List (Nat × Hs) → Nat → Option Hs
  | [], _ => none
  | (t, x) :: r, u => bif Nat.beq t u then some x else lkH r u
theorem beqF {a b : Nat} (h : a ≠ b) : Nat.beq a b = false := by
  cases hb : Nat.beq a b with
  | false => rfl
  | true => exact absurd (Nat.eq_of_beq_eq_true hb) h
theorem beqN {a b : Nat} (h : Nat.beq a b = false) : a ≠ b := by
  intro e
  subst e
  have : Nat.beq a a = true := by simp
  rw [this] at h
  cases h
theorem lkS_eq (t : Nat) (x : Av) (r : List (Nat × Av)) : lkS ((t, x) :: r) t = x := by simp [lkS]
theorem lkS_ne {t u : Nat} (x : Av) (r : List (Nat × Av)) (h : t ≠ u) : lkS ((t, x) :: r) u = lkS r u := by
  have : Nat.beq t u = false := beqF h
  simp [lkS, this]
theorem lkH_app (U h : List (Nat × Hs)) (n : Nat) : lkH (U ++ h) n = (lkH U n).or (lkH h n) := by
  induction U with
  | nil => rfl
  | cons p U ih =>
    obtain ⟨m, y⟩ := p
    simp only [List.cons_append, lkH]
    cases Nat.beq m n <;> simp [ih]
theorem lkH_none {U : List (Nat × Hs)} {n : Nat} (h : n ∉ U.map (·.1)) : lkH U n = none := by
  induction U with
  | nil => rfl
  | cons p U ih =>
    obtain ⟨m, y⟩ := p
    simp only [List.map_cons, List.mem_cons, not_or] at h
    have : Nat.beq m n = false := beqF fun e => h.1 e.symm
    simp [lkH, this, ih h.2]
theorem lkH_some {U : List (Nat × Hs)} {n : Nat} (h : n ∈ U.map (·.1)) : ∃ y, lkH U n = some y := by
  induction U with
  | nil => simp at h
  | cons p U ih =>
    obtain ⟨m, y⟩ := p
    simp only [lkH]
    cases hb : Nat.beq m n with
    | true => exact ⟨y, by simp⟩
    | false =>
      have hne : m ≠ n := beqN hb
      simp only [List.map_cons, List.mem_cons] at h
      rcases h with h | h
      · exact absurd h.symm hne
      · simpa using ih h
def Ctx.put (Γ : Ctx) (d : Option Nat) (x : Av) (U : List (Nat × Hs)) : Ctx := ⟨match d with | some d => (d, x) :: Γ.s | none => Γ.s, U ++ Γ.h⟩
def Holds (E : Env) (tm : Array Value) (Γ : Ctx) : Prop := (∀ t, Rep E (lkS Γ.s t) (tm.getD t undef)) ∧ ∀ n x, lkH Γ.h n = some x → HAt E n x

/-- What an operation leaves: a value, and of the blocks U. -/
def Post (E : Env) (x : Av) (U : List (Nat × Hs)) (v : Value) (w' : World) : Prop :=
  ∃ E' : Env, E'.w = w' ∧ Step E E' (U.map (·.1)) ∧ Good E' ∧ Rep E' x v ∧ ∀ n y, lkH U n = some y → HAt E' n y
def slotOf : Operand → List Nat
  | .tmp t => [t]
  | _ => []
def gslot (ops : Array Oper) (o : Oper) : List Nat :=
  match o.guard with
  | none => []
  | some (g, _) => match (ops[g]?).bind (·.dst) with | some t => [t] | none => []
def readsOf (ops : Array Oper) (o : Oper) : List Nat := o.op.operands.toList.flatMap slotOf ++ gslot ops o
/-- What an operation leaves, a round of a loop over a function among them where b is so. -/
def growsB (b : Bool) (P : Program) (o : Oper) (a : Act) (w : World) (K : Value → World → Prop) : Prop :=
  grows P o a w K ∨ (b = true ∧ ∃ l f tmps assign body w', (execOp a.eval o).run P w = .ok (.round l f tmps assign body) w' ∧ RoundIn Fence.wide 0 P l f tmps assign body w' fun e w'' => ∃ v, e = .returned v ∧ K v w'')
theorem growsB.mono {b : Bool} {P : Program} {o : Oper} {a : Act} {w : World} {K K' : Value → World → Prop} (h : growsB b P o a w K) (hk : ∀ v w', K v w' → K' v w') : growsB b P o a w K' := by
  rcases h with h | ⟨hb, l, f, tmps, assign, body, w', h1, h2⟩
  · refine .inl ?_
    unfold grows at h ⊢
    generalize (execOp a.eval o).run P w = r at *
    cases r with
    | ok n w' =>
      cases n <;> simp only [growUpon] at h ⊢
      case value u => exact hk _ _ h
      case skip => exact hk _ _ h
      case enter f args => exact h.mono fun e w'' ⟨v, he, hh⟩ => ⟨v, he, hk _ _ hh⟩
    | halt x w' => simp only [growUpon] at h
  · exact .inr ⟨hb, l, f, tmps, assign, body, w', h1, h2.mono fun e w'' ⟨v, he, hh⟩ => ⟨v, he, hk _ _ hh⟩⟩
/-- The fence that keeps nothing out, in a round or in none. -/
def wideAt (ro : Option Nat) : Fence := { Fence.wide with round := ro }
theorem wpIn_of_growsB {b : Bool} {ro : Option Nat} {k : Nat} {P : Program} {o : Oper} {a : Act} {w : World} {K : Act → World → Prop} {Q : Exit → Act → World → Prop} (h : growsB b P o a w fun v w' => K (a.put o.dst v) w') : o.wpIn (wideAt ro) k P a w K Q := by
  refine ⟨fun _ _ => trivial, ?_⟩
  have hs : ∀ (Z : Result Next → Prop), (∀ d w', ¬ Z (.ok (.defer d) w')) → (∀ x w', ¬ Z (.halt x w')) → Z ((execOp a.eval o).run P w) → (o.semAt (wideAt ro).round a.eval).run P w = (execOp a.eval o).run P w := by
    intro Z hd hh hz
    cases hro : (wideAt ro).round with
    | none => rfl
    | some l =>
      rw [Oper.semAt_some l a.eval o]
      intro c hc
      unfold execOp at hz
      simp only [hc] at hz
      revert hz
      simp only [Sem.run_bind]
      cases h1 : Sem.run P (resolve a.eval c o.type) w with
      | ok d w' => simp only [Result.andThen_ok, Sem.run_pure]; exact hd d w'
      | halt x w' => simp only [Result.andThen]; exact hh x w'
  rcases h with h | ⟨_, l, f, tmps, assign, body, w', h1, h2⟩
  · unfold grows at h
    rw [hs _ (fun d w' hx => by simp only [growUpon] at hx) (fun x w' hx => by simp only [growUpon] at hx) h]
    generalize (execOp a.eval o).run P w = r at *
    cases r with
    | ok n w' =>
      cases n <;> simp only [growUpon] at h
      case value u => exact h
      case skip => exact h
      case enter f args =>
        refine ⟨fun hd => by simp [wideAt, Fence.wide] at hd, ?_⟩
        refine (show CallsIn (wideAt ro) (k - 1) P f args w' _ from (callsIn_wide (n := k - 1)).2 h).mono ?_
        rintro e w'' ⟨v, rfl, hk⟩
        exact hk
    | halt x w' => simp only [growUpon] at h
  · rw [hs (fun x => x = .ok (.round l f tmps assign body) w') (fun d w' hx => by cases hx) (fun x w' hx => by cases hx) h1, h1]
    refine ⟨fun hd => by simp [wideAt, Fence.wide] at hd, ?_⟩
    have h3 : RoundIn (wideAt ro) (k - 1) P l f tmps assign body w' fun e w'' => ∃ v, e = .returned v ∧ K (a.put o.dst v) w'' := ⟨trivial, fun c cs _ => h2.2 c cs (room_wide _)⟩
    refine h3.mono ?_
    rintro e w'' ⟨v, rfl, hk⟩
    exact hk
/-- An operation, with its guard: from what it reads, what it leaves. -/
def OS (bb : Bool) (P : Program) (ops : Array Oper) (o : Oper) (σ : List (Nat × Av)) (R : List (Nat × Hs)) (x : Av) (U : List (Nat × Hs)) : Prop :=
  ∀ (E : Env) (a : Act), Good E → (∀ t ∈ readsOf ops o, Rep E (lkS σ t) (a.tmps.getD t undef)) → (∀ n y, (n, y) ∈ R → HAt E n y) →
    if Region.wanted o (yielded ops a.tmps) then growsB bb P o a E.w (Post E x U) else Post E x U undef E.w
inductive Ch (bb : Bool) (P : Program) (ops : Array Oper) : List Oper → Ctx → Ctx → List (List Nat × List Nat) → Prop
  | nil (Γ : Ctx) : Ch bb P ops [] Γ Γ []
  | cons {o : Oper} {l : List Oper} {Γ Γ' : Ctx} {F : List (List Nat × List Nat)} {x : Av} {R U : List (Nat × Hs)} (h : OS bb P ops o Γ.s R x U) (hR : ∀ n y, (n, y) ∈ R → lkH Γ.h n = some y) (h' : Ch bb P ops l (Γ.put o.dst x U) Γ' F) :
      Ch bb P ops (o :: l) Γ Γ' ((R.map (·.1), U.map (·.1)) :: F)

theorem getD_set_eq' (tm : Array Value) (d : Nat) (v : Value) (h : d < tm.size) : (tm.setIfInBounds d v).getD d undef = v := by
  simp [Array.getD, h]
theorem getD_set_ne' (tm : Array Value) {d t : Nat} (v : Value) (h : d ≠ t) : (tm.setIfInBounds d v).getD t undef = tm.getD t undef := by
  by_cases ht : t < tm.size
  · simp [Array.getD, ht, h]
  · simp [Array.getD, ht]
theorem put_size (a : Act) (d : Option Nat) (v : Value) : (a.put d v).tmps.size = a.tmps.size := by
  cases d <;> simp [Act.put]
theorem put_defers (a : Act) (d : Option Nat) (v : Value) : (a.put d v).defers = a.defers := by
  cases d <;> rfl
/-- The operation's leavings, taken into the state. -/
theorem Holds.put {E E' : Env} {tm : Array Value} {Γ : Ctx} {x : Av} {U : List (Nat × Hs)} {v : Value} {d : Option Nat} {a : Act} (h : Holds E a.tmps Γ) (hS : Step E E' (U.map (·.1))) (hx : Rep E' x v) (hU : ∀ n y, lkH U n = some y → HAt E' n y)
    (hd : ∀ t, d = some t → t < a.tmps.size) : Holds E' (a.put d v).tmps (Γ.put d x U) := by
  refine ⟨fun t => ?_, fun n y hn => ?_⟩
  · cases d with
    | none => exact Rep.step hS _ _ (h.1 t)
    | some d =>
      show Rep E' (lkS ((d, x) :: Γ.s) t) ((a.tmps.setIfInBounds d v).getD t undef)
      by_cases e : d = t
      · subst e
        rw [lkS_eq, getD_set_eq' _ _ _ (hd d rfl)]
        exact hx
      · rw [lkS_ne _ _ e, getD_set_ne' _ _ e]
        exact Rep.step hS _ _ (h.1 t)
  · have hn : lkH (U ++ Γ.h) n = some y := hn
    rw [lkH_app] at hn
    by_cases hm : n ∈ U.map (·.1)
    · obtain ⟨z, hz⟩ := lkH_some hm
      rw [hz] at hn
      simp at hn
      subst hn
      exact hU n z hz
    · rw [lkH_none hm] at hn
      exact HAt.step hS hm (h.2 n y (by simpa using hn))

/-! ### The text's order -/
def dstLt (N : Nat) (l : List Oper) : Bool := l.all fun o => match o.dst with | some d => decide (d < N) | none => true
section
variable {P : Program} {Q : Exit → Act → World → Prop}
theorem Ch.text {bb : Bool} {ro : Option Nat} {kk : Nat} {ops : Array Oper} {N : Nat} : ∀ {l : List Oper} {Γ Γ' : Ctx} {F : List (List Nat × List Nat)}, Ch bb P ops l Γ Γ' F → dstLt N l = true → ∀ (E : Env) (a : Act), Good E → Holds E a.tmps Γ → a.tmps.size = N →
    (∀ (E' : Env) (a' : Act) (M : List Nat), Good E' → Step E E' M → Holds E' a'.tmps Γ' → a'.tmps.size = N → a'.defers = a.defers → Q .normal a' E'.w) → wpListIn (wideAt ro) kk P ops Q l a E.w := by
  intro l Γ Γ' F h
  induction h with
  | nil Γ => intro _ E a hG hH hN hk; exact hk E a [] hG (Step.refl E) hH hN rfl
  | @cons o l Γ Γ' F x R U h hR h' ih =>
    intro hd E a hG hH hN hk
    simp only [dstLt, List.all_cons, Bool.and_eq_true] at hd
    have hdt : ∀ t, o.dst = some t → t < a.tmps.size := fun t ht => by
      have := hd.1
      rw [ht] at this
      rw [hN]
      simpa using this
    have hop := h E a hG (fun t _ => hH.1 t) (fun n y hn => hH.2 n y (hR n y hn))
    have go : ∀ v w', Post E x U v w' → wpListIn (wideAt ro) kk P ops Q l (a.put o.dst v) w' := by
      rintro v w' ⟨E', rfl, hS, hG', hx, hU⟩
      refine ih (by simpa [dstLt] using hd.2) E' (a.put o.dst v) hG' (hH.put (tm := #[]) hS hx hU hdt) (by rw [put_size, hN]) fun E'' a'' M hG'' hS' hH' hN' hdf => hk E'' a'' _ hG'' (hS.trans hS') hH' hN' (by rw [hdf, put_defers])
    unfold wpListIn
    split
    · rename_i hw
      rw [if_pos hw] at hop
      exact wpIn_of_growsB (hop.mono go)
    · rename_i hw
      rw [if_neg hw] at hop
      exact ⟨fun _ _ => trivial, go _ _ hop⟩
end

/-! ### Any order -/
structure Spec where
  d : Option Nat
  x : Av
  R : List (Nat × Hs)
  U : List (Nat × Hs)
def stL (L : Nat → Bool) : List Spec → Nat → Ctx → Ctx
  | [], _, Γ => Γ
  | e :: l, k, Γ => stL L l (k + 1) (if L k then Γ.put e.d e.x e.U else Γ)
def Spec.wS (e : Spec) (t : Nat) : Prop := e.d = some t
def Spec.wH (e : Spec) (n : Nat) : Prop := n ∈ e.U.map (·.1)
theorem stL_s {L L' : Nat → Bool} {t : Nat} : ∀ (l : List Spec) (k : Nat) (Γ Γ' : Ctx), (∀ j e, l[j]? = some e → e.wS t → L (k + j) = L' (k + j)) → lkS Γ.s t = lkS Γ'.s t → lkS (stL L l k Γ).s t = lkS (stL L' l k Γ').s t
  | [], _, _, _, _, h => h
  | e :: l, k, Γ, Γ', hL, h => by
    unfold stL
    refine stL_s l (k + 1) _ _ (fun j e' he hw => by have := hL (j + 1) e' (by simpa using he) hw; rwa [show k + 1 + j = k + (j + 1) from by omega]) ?_
    by_cases hw : e.wS t
    · have := hL 0 e rfl hw
      simp only [Nat.add_zero] at this
      unfold Spec.wS at hw
      rw [this]
      cases L' k
      · exact h
      · simp [Ctx.put, hw, lkS_eq]
    · have hs : ∀ Γ : Ctx, lkS (Γ.put e.d e.x e.U).s t = lkS Γ.s t := fun Γ => by
        unfold Spec.wS at hw
        cases hd : e.d with
        | none => rfl
        | some d => exact lkS_ne _ _ (fun e' => hw (by rw [hd, e']))
      have h1 : ∀ (b : Bool) (Γ : Ctx), lkS (if b = true then Γ.put e.d e.x e.U else Γ).s t = lkS Γ.s t := fun b Γ => by cases b <;> simp [hs]
      rw [h1, h1, h]
theorem stL_h {L L' : Nat → Bool} {n : Nat} : ∀ (l : List Spec) (k : Nat) (Γ Γ' : Ctx), (∀ j e, l[j]? = some e → e.wH n → L (k + j) = L' (k + j)) → lkH Γ.h n = lkH Γ'.h n → lkH (stL L l k Γ).h n = lkH (stL L' l k Γ').h n
  | [], _, _, _, _, h => h
  | e :: l, k, Γ, Γ', hL, h => by
    unfold stL
    refine stL_h l (k + 1) _ _ (fun j e' he hw => by have := hL (j + 1) e' (by simpa using he) hw; rwa [show k + 1 + j = k + (j + 1) from by omega]) ?_
    by_cases hw : e.wH n
    · have := hL 0 e rfl hw
      simp only [Nat.add_zero] at this
      obtain ⟨y, hy⟩ := lkH_some hw
      rw [this]
      cases L' k
      · exact h
      · simp [Ctx.put, lkH_app, hy]
    · have hs : ∀ Γ : Ctx, lkH (Γ.put e.d e.x e.U).h n = lkH Γ.h n := fun Γ => by simp [Ctx.put, lkH_app, lkH_none hw]
      have h1 : ∀ (b : Bool) (Γ : Ctx), lkH (if b = true then Γ.put e.d e.x e.U else Γ).h n = lkH Γ.h n := fun b Γ => by cases b <;> simp [hs]
      rw [h1, h1, h]
theorem stL_none (l : List Spec) : ∀ (k : Nat) (Γ : Ctx) (L : Nat → Bool), (∀ j, j < l.length → L (k + j) = false) → stL L l k Γ = Γ := by
  induction l with
  | nil => intros; rfl
  | cons e l ih =>
    intro k Γ L h
    unfold stL
    have := h 0 (by simp)
    simp only [Nat.add_zero] at this
    rw [this, if_neg (by simp)]
    exact ih (k + 1) Γ L fun j hj => by rw [show k + 1 + j = k + (j + 1) from by omega]; exact h (j + 1) (by simp; omega)
/-- What the last of the listed has written. -/
theorem stL_last {L : Nat → Bool} : ∀ (l : List Spec) (k : Nat) (Γ : Ctx) (i : Nat) (e : Spec), l[i]? = some e → L (k + i) = true → (∀ t, e.wS t → (∀ j e', l[j]? = some e' → i < j → e'.wS t → L (k + j) = false) → lkS (stL L l k Γ).s t = e.x) ∧
    (∀ n y, lkH e.U n = some y → (∀ j e', l[j]? = some e' → i < j → e'.wH n → L (k + j) = false) → lkH (stL L l k Γ).h n = some y)
  | [], _, _, i, e, h, _ => by simp at h
  | e0 :: l, k, Γ, 0, e, h, hL => by
    simp at h
    subst h
    simp only [Nat.add_zero] at hL
    unfold stL
    rw [hL, if_pos rfl]
    refine ⟨fun t hw hno => ?_, fun n y hy hno => ?_⟩
    · rw [stL_s (L' := fun _ => false) l (k + 1) _ (Γ.put e0.d e0.x e0.U) (fun j e' he hw' => by have := hno (j + 1) e' (by simpa using he) (by omega) hw'; rwa [show k + 1 + j = k + (j + 1) from by omega]) rfl, stL_none _ _ _ _ (fun _ _ => rfl)]
      unfold Spec.wS at hw
      simp [Ctx.put, hw, lkS_eq]
    · rw [stL_h (L' := fun _ => false) l (k + 1) _ (Γ.put e0.d e0.x e0.U) (fun j e' he hw' => by have := hno (j + 1) e' (by simpa using he) (by omega) hw'; rwa [show k + 1 + j = k + (j + 1) from by omega]) rfl, stL_none _ _ _ _ (fun _ _ => rfl)]
      simp [Ctx.put, lkH_app, hy]
  | e0 :: l, k, Γ, i + 1, e, h, hL => by
    unfold stL
    have := stL_last (L := L) l (k + 1) (if L k then Γ.put e0.d e0.x e0.U else Γ) i e (by simpa using h) (by rwa [show k + 1 + i = k + (i + 1) from by omega])
    refine ⟨fun t hw hno => this.1 t hw fun j e' he hj hw' => ?_, fun n y hy hno => this.2 n y hy fun j e' he hj hw' => ?_⟩
    · have := hno (j + 1) e' (by simpa using he) (by omega) hw'
      rwa [show k + 1 + j = k + (j + 1) from by omega]
    · have := hno (j + 1) e' (by simpa using he) (by omega) hw'
      rwa [show k + 1 + j = k + (j + 1) from by omega]

/-- The chain's specs. -/
def SpA (bb : Bool) (P : Program) (ops : Array Oper) : List Oper → List Spec → Ctx → Prop
  | [], [], _ => True
  | o :: l, e :: s, Γ => (e.d = o.dst ∧ OS bb P ops o Γ.s e.R e.x e.U ∧ ∀ n y, (n, y) ∈ e.R → lkH Γ.h n = some y) ∧ SpA bb P ops l s (Γ.put e.d e.x e.U)
  | _, _, _ => False
def fp (e : Spec) : List Nat × List Nat := (e.R.map (·.1), e.U.map (·.1))
theorem Ch.specs {bb : Bool} {P : Program} {ops : Array Oper} {l : List Oper} {Γ Γ' : Ctx} {F : List (List Nat × List Nat)} (h : Ch bb P ops l Γ Γ' F) : ∃ s : List Spec, SpA bb P ops l s Γ ∧ s.map fp = F ∧ stL (fun _ => true) s 0 Γ = Γ' := by
  suffices H : ∀ k, ∃ s : List Spec, SpA bb P ops l s Γ ∧ s.map fp = F ∧ stL (fun _ => true) s k Γ = Γ' from H 0
  induction h with
  | nil Γ => exact fun k => ⟨[], trivial, rfl, rfl⟩
  | @cons o l Γ Γ' F x R U h hR h' ih =>
    intro k
    obtain ⟨s, h1, h2, h3⟩ := ih (k + 1)
    refine ⟨⟨o.dst, x, R, U⟩ :: s, ⟨⟨rfl, h, hR⟩, h1⟩, by simp [h2, fp], ?_⟩
    unfold stL
    simpa using h3
theorem SpA.len {bb : Bool} {P : Program} {ops : Array Oper} : ∀ {l : List Oper} {s : List Spec} {Γ : Ctx}, SpA bb P ops l s Γ → s.length = l.length
  | [], [], _, _ => rfl
  | o :: l, e :: s, Γ, h => by simp [SpA.len h.2]
  | [], _ :: _, _, h => h.elim
  | _ :: _, [], _, h => h.elim
theorem SpA.get {bb : Bool} {P : Program} {ops : Array Oper} : ∀ {l : List Oper} {s : List Spec} {Γ : Ctx} (k : Nat), SpA bb P ops l s Γ → ∀ i o e, l[i]? = some o → s[i]? = some e →
    e.d = o.dst ∧ OS bb P ops o (stL (fun j => decide (j < k + i)) s k Γ).s e.R e.x e.U ∧ ∀ n y, (n, y) ∈ e.R → lkH (stL (fun j => decide (j < k + i)) s k Γ).h n = some y
  | [], [], _, _, _, i, o, e, h, _ => by simp at h
  | o :: l, e :: s, Γ, k, H, 0, o', e', h, h' => by
    simp at h h'
    subst h; subst h'
    have hn : ∀ Γ, stL (fun j => decide (j < k + 0)) s (k + 1) Γ = Γ := fun Γ => stL_none s (k + 1) Γ _ fun j hj => by simp; omega
    unfold stL
    rw [hn, if_neg (by simp)]
    exact H.1
  | o :: l, e :: s, Γ, k, H, i + 1, o', e', h, h' => by
    have := SpA.get (k + 1) H.2 i o' e' (by simpa using h) (by simpa using h')
    unfold stL
    rw [if_pos (by simp), show k + (i + 1) = k + 1 + i from by omega]
    exact this
  | [], _ :: _, _, _, h, _, _, _, _, _ => h.elim
  | _ :: _, [], _, _, h, _, _, _, _, _ => h.elim
end Go.Proofs.Ytjjgdjcapfenpaa
