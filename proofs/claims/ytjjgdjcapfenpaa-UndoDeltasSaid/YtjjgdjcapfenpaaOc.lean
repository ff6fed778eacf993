/- The operations over abstract values. No program stands in this text. -/
import Derived.Test.YtjjgdjcapfenpaaAw
import Derived.Test.YtjjgdjcapfenpaaMore
import Derived.Test.YtjjgdjcapfenpaaTexts
import Derived.Deep.MidRow
namespace Go.Proofs.Ytjjgdjcapfenpaa
open Go.RowKit
set_option linter.unusedVariables false

theorem i64_in (x : Int) (h : -9223372036854775808 ≤ x) (h' : x < 9223372036854775808) : IntKind.i64.wrap x = x := by
  simp only [IntKind.wrap, IntKind.bits, IntKind.signed]
  simp
  omega
def OC (P : Program) (o : Oper) (ρ : Operand → Av) (R : List (Nat × Hs)) (x : Av) (U : List (Nat × Hs)) : Prop :=
  ∀ (E : Env) (a : Act), Good E → (∀ p ∈ o.op.operands.toList, Rep E (ρ p) (a.eval p)) → (∀ n y, (n, y) ∈ R → HAt E n y) → grows P o a E.w (Post E x U)

section
variable {bb : Bool} {P : Program} {ops : Array Oper} {o : Oper} {l : List Oper} {s : List (Nat × Av)} {h : List (Nat × Hs)} {K : Ctx → List (List Nat × List Nat) → Prop} {x : Av} {R U : List (Nat × Hs)} {d : Nat} {ρ : Operand → Av}

theorem subH_mem {η : List (Nat × Hs)} : ∀ {R : List (Nat × Hs)}, subH η R → ∀ n y, (n, y) ∈ R → lkH η n = some y
  | [], _, n, y, h => by simp at h
  | (m, z) :: R, h, n, y, hm => by
    simp only [List.mem_cons, Prod.mk.injEq] at hm
    rcases hm with ⟨rfl, rfl⟩ | hm
    · exact h.1
    · exact subH_mem h.2 n y hm
theorem rep_slots {E : Env} {a : Act} (ht : ∀ t ∈ readsOf ops o, Rep E (lkS s t) (a.tmps.getD t undef)) : ∀ p ∈ o.op.operands.toList, Rep E (evA s p) (a.eval p) := by
  intro p hp
  cases p with
  | tmp t =>
    refine ht t ?_
    unfold readsOf
    rw [List.mem_append, List.mem_flatMap]
    exact .inl ⟨_, hp, by simp [slotOf]⟩
  | const v => unfold evA Rep; rfl
  | func f => unfold evA Rep; exact ⟨[], rfl, by unfold RepL; rfl⟩
  | global g => unfold evA Rep; trivial
theorem os_plain (hg : o.guard = none) (h : OC P o (evA s) R x U) : OS bb P ops o s R x U := by
  intro E a hG ht hR
  have hw : Region.wanted o (yielded ops a.tmps) = true := by simp [Region.wanted, hg]
  rw [if_pos hw]
  exact .inl (h E a hG (rep_slots ht) hR)
/-- The guard lets by just where C is so. -/
def Gate (G : Av) (pol : Bool) (C : Bool) : Prop := ∀ (E : Env) (v : Value), Rep E G v → ((match v with | .bool b => some b | _ => none) == some pol) = C
theorem gate_t {B : Bool} : Gate (.val (.bool B)) true B := fun E v h => by unfold Rep at h; subst h; cases B <;> rfl
theorem gate_f {B : Bool} : Gate (.val (.bool B)) false (!B) := fun E v h => by unfold Rep at h; subst h; cases B <;> rfl
theorem gate_gt {C B : Bool} : Gate (.gd C (.val (.bool B))) true (C && B) := fun E v h => by
  unfold Rep Rep at h
  cases C with
  | true => rw [h.1 rfl]; cases B <;> rfl
  | false => rw [h.2 rfl]; rfl
theorem gate_gf {C B : Bool} : Gate (.gd C (.val (.bool B))) false (C && !B) := fun E v h => by
  unfold Rep Rep at h
  cases C with
  | true => rw [h.1 rfl]; cases B <;> rfl
  | false => rw [h.2 rfl]; rfl
def stripA : Av → Av
  | .gd _ y => y
  | y => y
def condA : Av → Bool
  | .gd c _ => c
  | _ => true
theorem rep_strip {E : Env} {y : Av} {v : Value} (h : Rep E y v) (hc : condA y = true) : Rep E (stripA y) v := by
  cases y
  case gd c y => unfold Rep at h; exact h.1 hc
  all_goals exact h
def condL (s : List (Nat × Av)) : List Operand → Prop
  | [] => True
  | p :: l => condA (evA s p) = true ∧ condL s l
theorem condL_get {s : List (Nat × Av)} : ∀ {l : List Operand}, condL s l → ∀ p ∈ l, condA (evA s p) = true
  | q :: l, h, p, hp => by
    rcases List.mem_cons.1 hp with rfl | hp
    · exact h.1
    · exact condL_get h.2 p hp
theorem os_guard {g t : Nat} {pol C : Bool} (hg : o.guard = some (g, pol)) (hs : (ops[g]?).bind (·.dst) = some t) (hG : Gate (lkS s t) pol C) (hC : C = true → OC P o ρ R x []) (hρ : ∀ (E : Env) (a : Act), C = true → ∀ p ∈ o.op.operands.toList, Rep E (evA s p) (a.eval p) → Rep E (ρ p) (a.eval p)) : OS bb P ops o s R (.gd C x) [] := by
  intro E a hGd ht hR
  have hgt : Rep E (lkS s t) (a.tmps.getD t undef) := ht t (by simp [readsOf, gslot, hg, hs])
  have hy : (yielded ops a.tmps g == some pol) = C := by
    have h1 := hG E _ hgt
    unfold yielded
    rw [hs, Option.bind_some]
    rw [← h1]
    by_cases hlt : t < a.tmps.size
    · simp [Array.getD, hlt]
      split <;> simp_all
    · simp [Array.getD, hlt, undef]
  have hw : Region.wanted o (yielded ops a.tmps) = C := by simp only [Region.wanted, hg]; exact hy
  rw [hw]
  cases C with
  | false =>
    rw [if_neg (by simp)]
    exact ⟨E, rfl, Step.refl E, hGd, by unfold Rep; exact ⟨fun h => (by cases h), fun _ => rfl⟩, fun n y hn => by simp [lkH] at hn⟩
  | true =>
    rw [if_pos rfl]
    have := hC rfl E a hGd (fun p hp => hρ E a rfl p hp (rep_slots ht p hp)) hR
    refine .inl ?_
    unfold grows at this ⊢
    generalize (execOp a.eval o).run P E.w = r at *
    have go : ∀ v w', Post E x [] v w' → Post E (.gd true x) [] v w' := by
      rintro v w' ⟨E', h1, h2, h3, h4, h5⟩
      exact ⟨E', h1, h2, h3, by unfold Rep; exact ⟨fun _ => h4, fun h => (by cases h)⟩, h5⟩
    cases r with
    | ok n w' =>
      cases n <;> simp only [growUpon] at this ⊢
      case value u => exact go _ _ this
      case skip => exact go _ _ this
      case enter f args => exact this.mono fun e w'' ⟨v, he, hh⟩ => ⟨v, he, go _ _ hh⟩
    | halt x w' => simp only [growUpon] at this
/-- An operation that leaves a value alone. -/
theorem ch_v (hg : o.guard = none) (hd : o.dst = some d) (hop : OC P o (evA s) R x []) (hR : subH h R) (h' : Ck bb P ops l ⟨(d, x) :: s, h⟩ fun Γ' F => K Γ' ((R.map (·.1), []) :: F)) : Ck bb P ops (o :: l) ⟨s, h⟩ K :=
  let ⟨Γ', F, h1, h2⟩ := h'
  ⟨Γ', _, Ch.cons (U := []) (os_plain hg hop) (subH_mem hR) (by rw [hd]; exact h1), h2⟩
/-- An operation that leaves a value and blocks. -/
theorem ch_u (hg : o.guard = none) (hd : o.dst = some d) (hop : OC P o (evA s) R x U) (hR : subH h R) (h' : Ck bb P ops l ⟨(d, x) :: s, U ++ h⟩ fun Γ' F => K Γ' ((R.map (·.1), U.map (·.1)) :: F)) : Ck bb P ops (o :: l) ⟨s, h⟩ K :=
  let ⟨Γ', F, h1, h2⟩ := h'
  ⟨Γ', _, Ch.cons (os_plain hg hop) (subH_mem hR) (by rw [hd]; exact h1), h2⟩
/-- A store. -/
theorem ch_n (hg : o.guard = none) (hd : o.dst = none) (hop : OC P o (evA s) R x U) (hR : subH h R) (h' : Ck bb P ops l ⟨s, U ++ h⟩ fun Γ' F => K Γ' ((R.map (·.1), U.map (·.1)) :: F)) : Ck bb P ops (o :: l) ⟨s, h⟩ K :=
  let ⟨Γ', F, h1, h2⟩ := h'
  ⟨Γ', _, Ch.cons (os_plain hg hop) (subH_mem hR) (by rw [hd]; exact h1), h2⟩
/-- An operation behind a guard. -/
theorem ch_g {g t : Nat} {pol C : Bool} (hg : o.guard = some (g, pol)) (hs : (ops[g]?).bind (·.dst) = some t) (hd : o.dst = some d) (hG : Gate (lkS s t) pol C) (hop : C = true → OC P o (fun p => stripA (evA s p)) R x []) (hc : C = true → condL s o.op.operands.toList) (hR : subH h R) (h' : Ck bb P ops l ⟨(d, .gd C x) :: s, h⟩ fun Γ' F => K Γ' ((R.map (·.1), []) :: F)) :
    Ck bb P ops (o :: l) ⟨s, h⟩ K :=
  let ⟨Γ', F, h1, h2⟩ := h'
  ⟨Γ', _, Ch.cons (U := []) (os_guard hg hs hG hop fun E a hC p hp hr => rep_strip hr (condL_get (hc hC) p hp)) (subH_mem hR) (by rw [hd]; exact h1), h2⟩
theorem tt2 {a b : Bool} (h : a = true) (k : b = true) : (a && b) = true := by rw [h, k]; rfl
/-- The same where the operation itself looks at what is not there: '&&', '||' within '&&', '||'. -/
theorem ch_gp {g t : Nat} {pol C A : Bool} {c p q : Operand} (ho : o.op = .pick c p q) (hg : o.guard = some (g, pol)) (hs : (ops[g]?).bind (·.dst) = some t) (hd : o.dst = some d) (hG : Gate (lkS s t) pol C) (hcc : C = true → condA (evA s c) = true) (hA : stripA (evA s c) = .val (.bool A))
    (hop : C = true → ∀ (E : Env) (a : Act), Rep E (evA s p) (a.eval p) → Rep E (evA s q) (a.eval q) → Rep E x (if A = true then a.eval p else a.eval q)) (h' : Ck bb P ops l ⟨(d, .gd C x) :: s, h⟩ fun Γ' F => K Γ' (([], []) :: F)) :
    Ck bb P ops (o :: l) ⟨s, h⟩ K := by
  obtain ⟨Γ', F, h1, h2⟩ := h'
  refine ⟨Γ', _, ?_, h2⟩
  refine Ch.cons (R := []) (U := []) (os_guard (R := []) (ρ := evA s) hg hs hG (fun hC => ?_) fun E a hC p hp hr => hr) (fun n y hn => by simp at hn) (by rw [hd]; exact h1)
  intro E a hGd hp _
  have h1 := rep_strip (hp c (by simp [ho, Op.operands])) (hcc hC)
  rw [hA] at h1
  unfold Rep at h1
  have h2 := hop hC E a (hp p (by simp [ho, Op.operands])) (hp q (by simp [ho, Op.operands]))
  unfold grows execOp
  simp only [ho, h1, Sem.run_bind, asBool, Sem.run_pure, Result.andThen_ok, growUpon]
  exact ⟨E, rfl, Step.refl E, hGd, h2, fun n y hn => by simp [lkH] at hn⟩

theorem post_refl {E : Env} (hG : Good E) {v : Value} (h : Rep E x v) : Post E x [] v E.w := ⟨E, rfl, Step.refl E, hG, h, fun n y hn => by simp [lkH] at hn⟩
theorem oc_read (h : ∀ (E : Env) (a : Act), Good E → (∀ p ∈ o.op.operands.toList, Rep E (ρ p) (a.eval p)) → (∀ n y, (n, y) ∈ R → HAt E n y) → ∃ v, (execOp a.eval o).run P E.w = .ok (.value v) E.w ∧ Rep E x v) : OC P o ρ R x [] := by
  intro E a hG hp hR
  obtain ⟨v, h1, h2⟩ := h E a hG hp hR
  unfold grows
  rw [h1]
  exact post_refl hG h2
theorem oc_grow (h : ∀ (E : Env) (a : Act), Good E → (∀ p ∈ o.op.operands.toList, Rep E (ρ p) (a.eval p)) → ∃ v w', (execOp a.eval o).run P E.w = .ok (.value v) w' ∧ Below E.w.heap.size E.w w' ∧ Rep { E with w := w' } x v) : OC P o ρ R x [] := by
  intro E a hG hp _
  obtain ⟨v, w', h1, h2, h3⟩ := h E a hG hp
  unfold grows
  rw [h1]
  exact ⟨{ E with w := w' }, rfl, Step.grow hG h2, hG.grow h2, h3, fun n y hn => by simp [lkH] at hn⟩
theorem oc_move {p : Operand} (ho : o.op = .move p) (hx : ρ p = x) : OC P o ρ [] x [] := oc_read fun E a hG hp _ => by
  subst hx
  exact ⟨a.eval p, by simp [execOp, ho], hp p (by simp [ho, Op.operands])⟩
theorem oc_assign {p : Operand} (ho : o.op = .assign p) (hx : ρ p = x) : OC P o ρ [] x [] := oc_read fun E a hG hp _ => by
  subst hx
  exact ⟨a.eval p, by simp [execOp, ho], hp p (by simp [ho, Op.operands])⟩
/-- '&&'. -/
theorem oc_and {c p : Operand} {A C B : Bool} (ho : o.op = .pick c p (.const (.bool false))) (hq : ρ (.const (.bool false)) = .val (.bool false)) (hc : ρ c = .val (.bool A)) (hp : ρ p = .gd C (.val (.bool B))) (hi : A = true → C = true) : OC P o ρ [] (.val (.bool (A && B))) [] := oc_read fun E a hG hr _ => by
  have h1 := hr c (by simp [ho, Op.operands])
  have h2 := hr p (by simp [ho, Op.operands])
  rw [hc] at h1
  rw [hp] at h2
  unfold Rep at h1
  unfold Rep Rep at h2
  have h3 : a.eval (.const (.bool false)) = .bool false := rfl
  refine ⟨if A = true then a.eval p else .bool false, by simp [execOp, ho, h1, asBool, h3], ?_⟩
  unfold Rep
  cases A with
  | false => rfl
  | true => rw [if_pos rfl, h2.1 (hi rfl)]; rfl
theorem oc_or {c p : Operand} {A C B : Bool} (ho : o.op = .pick c (.const (.bool true)) p) (hc : ρ c = .val (.bool A)) (hp : ρ p = .gd C (.val (.bool B))) (hi : (!A) = true → C = true) : OC P o ρ [] (.val (.bool (A || B))) [] := oc_read fun E a hG hr _ => by
  have h1 := hr c (by simp [ho, Op.operands])
  have h2 := hr p (by simp [ho, Op.operands])
  rw [hc] at h1
  rw [hp] at h2
  unfold Rep at h1
  unfold Rep Rep at h2
  have h3 : a.eval (.const (.bool true)) = .bool true := rfl
  refine ⟨if A = true then .bool true else a.eval p, by simp [execOp, ho, h1, asBool, h3], ?_⟩
  unfold Rep
  cases A with
  | true => rfl
  | false => rw [if_neg (by simp), h2.1 (hi rfl)]; rfl
/-- What '&&' leaves behind a guard; '||'. -/
theorem pk_and {E : Env} {a : Act} {A C B : Bool} {p : Operand} {y : Av} (hy : y = .gd C (.val (.bool B))) (hi : A = true → C = true) (h : Rep E y (a.eval p)) : Rep E (.val (.bool (A && B))) (if A = true then a.eval p else a.eval (.const (.bool false))) := by
  subst hy
  unfold Rep Rep at h
  have h3 : a.eval (.const (.bool false)) = .bool false := rfl
  unfold Rep
  cases A with
  | false => exact h3
  | true => rw [if_pos rfl, h.1 (hi rfl)]; rfl
theorem pk_or {E : Env} {a : Act} {A C B : Bool} {p : Operand} {y : Av} (hy : y = .gd C (.val (.bool B))) (hi : (!A) = true → C = true) (h : Rep E y (a.eval p)) : Rep E (.val (.bool (A || B))) (if A = true then a.eval (.const (.bool true)) else a.eval p) := by
  subst hy
  unfold Rep Rep at h
  have h3 : a.eval (.const (.bool true)) = .bool true := rfl
  unfold Rep
  cases A with
  | true => exact h3
  | false => rw [if_neg (by simp), h.1 (hi rfl)]; rfl
theorem oc_not {p : Operand} {T : TypeId} {B : Bool} (ho : o.op = .unOp .not T p) (hp : ρ p = .val (.bool B)) : OC P o ρ [] (.val (.bool (!B))) [] := oc_read fun E a hG hr _ => by
  have h1 := hr p (by simp [ho, Op.operands])
  rw [hp] at h1
  unfold Rep at h1
  exact ⟨.bool (!B), by simp [execOp, ho, h1, Op.unary], by unfold Rep; rfl⟩
/-- Two numbers. -/
def binZ (op : BinOp) (k : IntKind) (x y : Int) : Option Value :=
  match op with
  | .add => some (.int k (k.wrap (x + y)))
  | .sub => some (.int k (k.wrap (x - y)))
  | .mul => some (.int k (k.wrap (x * y)))
  | .eql => some (.bool (x == y))
  | .neq => some (.bool (x != y))
  | .lss => some (.bool (decide (x < y)))
  | .leq => some (.bool (decide (x ≤ y)))
  | .gtr => some (.bool (decide (x > y)))
  | .geq => some (.bool (decide (x ≥ y)))
  | _ => none
theorem oc_binZ {p q : Operand} {T T' : TypeId} {op : BinOp} {k : IntKind} {m n : Int} {z : Value} (ho : o.op = .binOp op T p q T') (hp : ρ p = .val (.int k m)) (hq : ρ q = .val (.int k n)) (hz : binZ op k m n = some z) : OC P o ρ [] (.val z) [] := oc_read fun E a hG hr _ => by
  have h1 := hr p (by simp [ho, Op.operands])
  have h2 := hr q (by simp [ho, Op.operands])
  rw [hp] at h1
  rw [hq] at h2
  unfold Rep at h1 h2
  refine ⟨z, ?_, by unfold Rep; rfl⟩
  cases op <;> simp only [binZ, Option.some.injEq, reduceCtorEq] at hz <;> subst hz <;> simp [execOp, ho, h1, h2, eqGuard, binOp, Op.intArith, Op.intCmp]
theorem binW_add {m n : Int} (h : -9223372036854775808 ≤ m + n) (h' : m + n < 9223372036854775808) : binZ .add .i64 m n = some (.int .i64 (m + n)) := by simp only [binZ, i64_in _ h h']
theorem binW_sub {m n : Int} (h : -9223372036854775808 ≤ m - n) (h' : m - n < 9223372036854775808) : binZ .sub .i64 m n = some (.int .i64 (m - n)) := by simp only [binZ, i64_in _ h h']
theorem binW_mul {m n : Int} (h : -9223372036854775808 ≤ m * n) (h' : m * n < 9223372036854775808) : binZ .mul .i64 m n = some (.int .i64 (m * n)) := by simp only [binZ, i64_in _ h h']
end
abbrev vi (n : Int) : Av := .val (.int .i64 n)
abbrev vb (b : Bool) : Av := .val (.bool b)
theorem vi_eq {a b : Int} (h : a = b) : vi a = vi b := by rw [h]
theorem vb_eq {a b : Bool} (h : a = b) : vb a = vb b := by rw [h]
abbrev vs (s : ByteArray) : Av := .val (.string s)
end Go.Proofs.Ytjjgdjcapfenpaa
