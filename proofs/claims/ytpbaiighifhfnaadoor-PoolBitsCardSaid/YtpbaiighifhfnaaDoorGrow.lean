/- A region that draws its order, whose operations read and make memory and write to none that stood: each operation is shown ONCE, from what its forerunners left. No program stands in this text. -/
import Derived.Test.YtpbaiighifhfnaaDoorWords
namespace Go.Proofs.YtpbaiighifhfnaaDoor
open Go.RowKit
set_option linter.unusedVariables false

/-- What an operation leaves: a value and a world. -/
def growUpon (P : Program) (K : Value → World → Prop) : Result Next → Prop
  | .ok (.value v) w' => K v w'
  | .ok .skip w' => K undef w'
  | .ok (.enter f args) w' => Calls P f args w' fun e w'' => ∃ v, e = .returned v ∧ K v w''
  | _ => False
def grows (P : Program) (o : Oper) (a : Act) (w : World) (K : Value → World → Prop) : Prop := growUpon P K ((execOp a.eval o).run P w)

attribute [go_sem] grows growUpon
/-- The frame with f's values in the operations' slots. -/
def fillFrom (f : Nat → Value) : List Oper → Nat → Act → Act
  | [], _, a => a
  | o :: l, k, a => fillFrom f l (k + 1) (a.put o.dst (f k))
/-- No slot twice. -/
def dstsB : List Oper → Bool
  | [] => true
  | o :: l => (match o.dst with | some d => l.all (fun p => p.dst != some d) | none => true) && dstsB l
/-- Each operation waits for earlier ones alone. -/
def lexB (md : Region.Mode) : List Oper → Nat → Bool
  | [], _ => true
  | o :: l, k => o.after.all (fun e => !Region.binds md e || decide (e.on < k)) && lexB md l (k + 1)
def upd (f : Nat → Value) (k : Nat) (v : Value) : Nat → Value := fun j => if j = k then v else f j

theorem fill_upd_lt {f : Nat → Value} {v : Value} {j : Nat} : ∀ (l : List Oper) (k : Nat) (a : Act), j < k → fillFrom (upd f j v) l k a = fillFrom f l k a
  | [], _, _, _ => rfl
  | o :: l, k, a, h => by
    unfold fillFrom
    rw [fill_upd_lt l (k + 1) _ (by omega)]
    simp only [upd]
    rw [if_neg (by omega)]
theorem put_put (a : Act) (d : Option Tmp) (u v : Value) : (a.put d u).put d v = a.put d v := by
  cases d with
  | none => rfl
  | some d => simp [Act.put, Array.setIfInBounds_setIfInBounds]
theorem fill_put_far {f : Nat → Value} {v : Value} {d : Tmp} : ∀ (l : List Oper) (k : Nat) (a : Act), (l.all (fun p => p.dst != some d)) = true → (fillFrom f l k a).put (some d) v = fillFrom f l k (a.put (some d) v)
  | [], _, _, _ => rfl
  | o :: l, k, a, h => by
    simp only [List.all_cons, Bool.and_eq_true, bne_iff_ne, ne_eq] at h
    unfold fillFrom
    rw [fill_put_far l (k + 1) _ h.2, Act.put_comm (x := o.dst) (y := some d) a (f k) v (fun d' h1 h2 => by
      injection h2 with h2
      subst h2
      exact h.1 h1)]
theorem fill_put {f : Nat → Value} {v : Value} : ∀ (l : List Oper) (k : Nat) (a : Act) (j : Nat) (o : Oper), dstsB l = true → l[j]? = some o → (fillFrom f l k a).put o.dst v = fillFrom (upd f (k + j) v) l k a
  | [], _, _, j, _, _, h => by simp at h
  | o :: l, k, a, 0, o', hd, h => by
    simp at h
    subst h
    unfold fillFrom
    rw [show k + 0 = k from rfl, fill_upd_lt l (k + 1) _ (by omega)]
    have e : upd f k v k = v := by simp [upd]
    rw [e]
    unfold dstsB at hd
    rw [Bool.and_eq_true] at hd
    cases ho : o.dst with
    | none => rfl
    | some d =>
      simp only [ho] at hd
      rw [fill_put_far l (k + 1) _ hd.1, put_put]
  | o :: l, k, a, j + 1, o', hd, h => by
    simp at h
    unfold dstsB at hd
    rw [Bool.and_eq_true] at hd
    unfold fillFrom
    rw [fill_put l (k + 1) _ j o' hd.2 h, show k + (j + 1) = k + 1 + j from by omega]
    have e : upd f (k + 1 + j) v k = f k := by simp [upd]; omega
    rw [e]
theorem fill_self : ∀ (l : List Oper) (k : Nat) (a : Act), ∃ f, fillFrom f l k a = a
  | [], _, _ => ⟨fun _ => undef, rfl⟩
  | o :: l, k, a => by
    obtain ⟨f, hf⟩ := fill_self l (k + 1) a
    refine ⟨upd f k (match o.dst with | some d => a.tmps.getD d undef | none => undef), ?_⟩
    unfold fillFrom
    rw [fill_upd_lt l (k + 1) _ (by omega)]
    have e : ∀ v, upd f k v k = v := by simp [upd]
    rw [e]
    have : a.put o.dst (match o.dst with | some d => a.tmps.getD d undef | none => undef) = a := by
      cases o.dst with
      | none => rfl
      | some d =>
        simp only [Act.put]
        congr 1
        apply Array.ext (by simp)
        intro i h1 h2
        rw [Array.getElem_setIfInBounds]
        split
        · rename_i he; subst he; simp [Array.getD, h2]
        · rfl
    rw [this, hf]

/-- Of the operations named what S says of them. -/
def depsHold (S : Nat → Value → World → Prop) (f : Nat → Value) (w : World) : List Nat → Prop
  | [] => True
  | j :: l => S j (f j) w ∧ depsHold S f w l
def depsL : List Edge → List Nat
  | [] => []
  | e :: l => if Region.binds .any e = true then e.on :: depsL l else depsL l
theorem mem_depsL {j : Nat} : ∀ {l : List Edge}, j ∈ depsL l → ∃ e ∈ l, Region.binds .any e = true ∧ e.on = j
  | [], h => by simp [depsL] at h
  | e :: l, h => by
    unfold depsL at h
    split at h
    · rename_i hb
      rcases List.mem_cons.1 h with h | h
      · exact ⟨e, by simp, hb, h.symm⟩
      · obtain ⟨e', he, hb', hj⟩ := mem_depsL h
        exact ⟨e', by simp [he], hb', hj⟩
    · obtain ⟨e', he, hb', hj⟩ := mem_depsL h
      exact ⟨e', by simp [he], hb', hj⟩
def depsOf (o : Oper) : List Nat := depsL o.after.toList
theorem depsHold_of {S : Nat → Value → World → Prop} {f : Nat → Value} {w : World} : ∀ l : List Nat, (∀ j ∈ l, S j (f j) w) → depsHold S f w l
  | [], _ => trivial
  | j :: l, h => ⟨h j (by simp), depsHold_of l fun i hi => h i (by simp [hi])⟩
/-- What is owed, operation by operation. -/
def GOps (P : Program) (ops : Array Oper) (A : (Nat → Value) → Act) (S : Nat → Value → World → Prop) (W : World) : List Oper → Nat → Prop
  | [], _ => True
  | o :: l, k => (∀ (f : Nat → Value) (w : World) (K : Value → World → Prop), Below W.heap.size W w → depsHold S f w (depsOf o) →
      (∀ v w', Below w.heap.size w w' → S k v w' → K v w') → if Region.wanted o (yielded ops (A f).tmps) then grows P o (A f) w K else K undef w) ∧ GOps P ops A S W l (k + 1)
theorem GOps.cons_ {P : Program} {ops : Array Oper} {A : (Nat → Value) → Act} {S : Nat → Value → World → Prop} {W : World} {o : Oper} {l : List Oper} {k : Nat} (h : ∀ (f : Nat → Value) (w : World) (K : Value → World → Prop), Below W.heap.size W w → depsHold S f w (depsOf o) →
      (∀ v w', Below w.heap.size w w' → S k v w' → K v w') → if Region.wanted o (yielded ops (A f).tmps) then grows P o (A f) w K else K undef w) (h' : GOps P ops A S W l (k + 1)) : GOps P ops A S W (o :: l) k := ⟨h, h'⟩
theorem GOps.nil_ {P : Program} {ops : Array Oper} {A : (Nat → Value) → Act} {S : Nat → Value → World → Prop} {W : World} {k : Nat} : GOps P ops A S W [] k := trivial
theorem GOps.get {P : Program} {ops : Array Oper} {A : (Nat → Value) → Act} {S : Nat → Value → World → Prop} {W : World} : ∀ (l : List Oper) (k : Nat), GOps P ops A S W l k → ∀ j o, l[j]? = some o →
    ∀ (f : Nat → Value) (w : World) (K : Value → World → Prop), Below W.heap.size W w → depsHold S f w (depsOf o) →
      (∀ v w', Below w.heap.size w w' → S (k + j) v w' → K v w') → if Region.wanted o (yielded ops (A f).tmps) then grows P o (A f) w K else K undef w
  | [], _, _, j, _, h => by simp at h
  | o :: l, k, H, 0, o', h => by
    simp at h
    subst h
    exact H.1
  | o :: l, k, H, j + 1, o', h => by
    have := GOps.get l (k + 1) H.2 j o' (by simpa using h)
    rwa [show k + 1 + j = k + (j + 1) from by omega] at this

/-! ### What may be said of a value -/
def isV (x : Value) : Value → World → Prop := fun v _ => v = x
def anyV : Value → World → Prop := fun _ _ => True
def ownV (base : Nat) (e : TypeId) (xs : List Value) : Value → World → Prop := fun v w => ∃ A n c, v = .slice A n c ∧ Own w base e (.slice A n c) xs
def nthS (L : List (Value → World → Prop)) (k : Nat) (v : Value) (w : World) : Prop := L.getD k anyV v w
def Stab (W : World) (s : Value → World → Prop) : Prop := ∀ v w w', Below W.heap.size W w → Below w.heap.size w w' → s v w → s v w'
def StabL (W : World) : List (Value → World → Prop) → Prop
  | [] => True
  | s :: l => Stab W s ∧ StabL W l
theorem stab_is (W : World) (x : Value) : Stab W (isV x) := fun _ _ _ _ _ h => h
theorem stab_any (W : World) : Stab W anyV := fun _ _ _ _ _ h => h
theorem stab_own (W : World) (base : Nat) (e : TypeId) (xs : List Value) : Stab W (ownV base e xs) := fun _ _ _ _ hb ⟨A, n, c, h, ho⟩ => ⟨A, n, c, h, ho.below hb⟩
theorem stab_nth {W : World} : ∀ {L : List (Value → World → Prop)}, StabL W L → ∀ k v w w', Below W.heap.size W w → Below w.heap.size w w' → nthS L k v w → nthS L k v w'
  | [], _, k, v, w, w', h1, h2, h => by unfold nthS at *; simp at *; exact stab_any W v w w' h1 h2 h
  | s :: l, H, 0, v, w, w', h1, h2, h => by unfold nthS at *; simp at *; exact H.1 v w w' h1 h2 h
  | s :: l, H, k + 1, v, w, w', h1, h2, h => by
    have := stab_nth H.2 k v w w' h1 h2
    unfold nthS at *
    simp at *
    exact this h

theorem wp_of_grows {P : Program} {o : Oper} {a : Act} {w : World} {K : Act → World → Prop} {Q : Exit → Act → World → Prop} (h : grows P o a w fun v w' => K (a.put o.dst v) w') : o.wp P a w K Q := by
  unfold grows at h
  unfold Oper.wp
  generalize (execOp a.eval o).run P w = r at *
  cases r with
  | ok n w' =>
    cases n <;> simp only [growUpon] at h <;> simp only [Oper.upon]
    case value u => exact h
    case skip => exact h
    case enter f args =>
      exact h.mono fun e w'' ⟨v, he, hk⟩ => by subst he; exact hk
  | halt x w' => simp only [growUpon] at h

theorem lexB_get {md : Region.Mode} : ∀ (l : List Oper) (k : Nat), lexB md l k = true → ∀ j o, l[j]? = some o → ∀ e ∈ o.after, Region.binds md e = true → e.on < k + j
  | [], _, _, j, _, h => by simp at h
  | o :: l, k, H, 0, o', h => by
    simp at h
    subst h
    unfold lexB at H
    rw [Bool.and_eq_true, Array.all_eq_true_iff_forall_mem] at H
    intro e he hb
    have := H.1 e he
    simpa [hb] using this
  | o :: l, k, H, j + 1, o', h => by
    unfold lexB at H
    rw [Bool.and_eq_true] at H
    have := lexB_get l (k + 1) H.2 j o' (by simpa using h)
    rwa [show k + 1 + j = k + (j + 1) from by omega] at this

theorem ready_nil {md : Region.Mode} {l : List Oper} {listed : Array Bool} (hs : listed.size = l.length) (hl : lexB md l 0 = true) (h : Region.ready md l.toArray listed = []) : ∀ j, j < l.length → listed.getD j false = true := by
  intro j
  induction j using Nat.strongRecOn with
  | _ j ih =>
    intro hj
    by_cases hc : listed.getD j false = true
    · exact hc
    · exfalso
      have : j ∈ Region.ready md l.toArray listed := by
        rw [mem_ready]
        refine ⟨?_, l[j], by simp [hj], ?_⟩
        · have hj' : j < listed.size := by omega
          simp [hj'] at hc ⊢
          exact hc
        · intro e he hb
          have hlt := lexB_get l 0 hl j l[j] (by simp [hj]) e he hb
          exact ih e.on (by omega) (by omega)
      rw [h] at this
      simp at this

/-- How many are not listed. -/
def left (listed : Array Bool) : Nat := listed.toList.countP (fun b => !b)
theorem left_set {listed : Array Bool} {i : Nat} (h : listed.getD i true = false) : left listed = left (listed.setIfInBounds i true) + 1 := by
  have hi : i < listed.size := by
    rcases Nat.lt_or_ge i listed.size with h' | h'
    · exact h'
    · simp [Array.getD, Nat.not_lt.2 h'] at h
  have hv : listed.toList[i]'(by simpa using hi) = false := by simpa [Array.getD, hi] using h
  unfold left
  rw [Array.toList_setIfInBounds, List.countP_set (by simpa using hi)]
  simp only [hv, Bool.not_false, Bool.not_true, if_true, Bool.false_eq_true, if_false]
  have hp : 0 < listed.toList.countP (fun b => !b) := List.countP_pos_iff.2 ⟨false, by rw [← hv]; exact List.getElem_mem _, rfl⟩
  omega
theorem left_zero {listed : Array Bool} (h : left listed = 0) : ∀ j, j < listed.size → listed.getD j false = true := by
  intro j hj
  unfold left at h
  rw [List.countP_eq_zero] at h
  have := h (listed.toList[j]'(by simpa using hj)) (List.getElem_mem _)
  simpa [Array.getD, hj] using this

section
variable {P : Program} {l : List Oper} {A : (Nat → Value) → Act} {S : Nat → Value → World → Prop} {W : World} {Q : Exit → Act → World → Prop}

theorem wpAny_grow (hd : dstsB l = true) (hl : lexB .any l 0 = true) {a : Act} (hA : ∀ f, fillFrom f l 0 a = A f)
    (hst : ∀ k v w w', Below W.heap.size W w → Below w.heap.size w w' → S k v w → S k v w')
    (hops : GOps P l.toArray A S W l 0)
    (hend : ∀ f w, Below W.heap.size W w → (∀ k, k < l.length → S k (f k) w) → Q .normal (A f) w) :
    ∀ (fuel : Nat) (listed : Array Bool) (f : Nat → Value) (w : World), listed.size = l.length → left listed = fuel → Below W.heap.size W w → (∀ k, listed.getD k false = true → S k (f k) w) →
      wpAny P .any l.toArray Q fuel listed (A f) w := by
  intro fuel
  induction fuel with
  | zero =>
    intro listed f w hs h0 hb hS
    have hall := left_zero h0
    refine ⟨?_, hend f w hb fun k hk => hS k (hall k (by omega))⟩
    apply List.eq_nil_iff_forall_not_mem.2
    intro j hj
    obtain ⟨h1, o, ho, _⟩ := mem_ready.1 hj
    have hjl : j < l.length := by
      simp at ho
      exact (List.getElem?_eq_some_iff.1 ho).1
    have h2 := hall j (by omega)
    have hj' : j < listed.size := by omega
    simp [hj'] at h1 h2
    rw [h1] at h2
    cases h2
  | succ fuel ih =>
    intro listed f w hs h0 hb hS
    refine ⟨fun hnil => hend f w hb fun k hk => hS k (ready_nil hs hl hnil k hk), fun i hi => ?_⟩
    obtain ⟨h1, o, ho, hdeps⟩ := mem_ready.1 hi
    have ho' : l[i]? = some o := by simpa using ho
    have hil : i < l.length := (List.getElem?_eq_some_iff.1 ho').1
    have hop := GOps.get l 0 hops i o ho' f w (fun v w' => wpAny P .any l.toArray Q fuel (listed.setIfInBounds i true) ((A f).put o.dst v) w') hb
      (depsHold_of _ fun j hj => by
        obtain ⟨e, he, hbd, rfl⟩ := mem_depsL hj
        exact hS _ (hdeps e (by simpa using he) hbd))
      (fun v w' hbw hv => by
        rw [← hA, fill_put l 0 a i o hd ho', Nat.zero_add, hA]
        refine ih _ _ w' (by simpa using hs) (by have := left_set h1; omega) (hb.trans (hbw.mono hb.size)) fun k hk => ?_
        by_cases hki : k = i
        · subst hki
          rw [show upd f k v k = v from by simp [upd]]
          rwa [Nat.zero_add] at hv
        · rw [show upd f i v k = f k from by simp [upd, hki]]
          refine hst k _ w w' hb hbw (hS k ?_)
          rwa [getD_set_ne false (Ne.symm hki)] at hk)
    unfold wpOp
    simp only [ho]
    split
    · rename_i hw
      rw [if_pos hw] at hop
      exact .inl (wp_of_grows hop)
    · rename_i hw
      rw [if_neg hw] at hop
      exact hop

/-- **Each operation is shown once; whatever order is drawn.** -/
theorem wp_region_grow {id : Nat} {a : Act} {w : World} (L : List (Value → World → Prop)) (W : World) (hm : P.follows .mixedOrders = true) (hd : (dstsB l && lexB .any l 0) = true)
    (hA : ∀ f, fillFrom f l 0 a = A f) (hW : Below W.heap.size W w)
    (hst : StabL W L)
    (hops : GOps P l.toArray A (nthS L) W l 0)
    (hend : ∀ f w, Below W.heap.size W w → depsHold (nthS L) f w (List.range l.length) → Q .normal (A f) w) : (Code.region id l.toArray true).wp P Q a w := by
  rw [Bool.and_eq_true] at hd
  refine wp_region_any hm ?_
  obtain ⟨f, hf⟩ := fill_self l 0 a
  rw [hA] at hf
  have hl : left (Array.replicate l.toArray.size false) = l.toArray.size := by simp [left, List.countP_replicate]
  have := wpAny_grow hd.1 hd.2 hA (stab_nth hst) hops (fun f w hb h => hend f w hb (depsHold_of _ fun j hj => h j (by simpa using hj))) l.toArray.size (Array.replicate l.toArray.size false) f w.drew (by simp) hl hW.drew (fun k hk => by
    by_cases hk' : k < l.length <;> simp [Array.getD, hk'] at hk)
  rw [hf] at this
  exact this

/-! The same for a region that keeps the text's order: so that calls that make memory and what reads it are met in one way. -/
theorem wpList_grow (hd : dstsB l = true) (hl : lexB .any l 0 = true) {a : Act} (hA : ∀ f, fillFrom f l 0 a = A f)
    (hst : ∀ k v w w', Below W.heap.size W w → Below w.heap.size w w' → S k v w → S k v w')
    (hops : GOps P l.toArray A S W l 0)
    (hend : ∀ f w, Below W.heap.size W w → (∀ k, k < l.length → S k (f k) w) → Q .normal (A f) w) :
    ∀ (l' : List Oper) (k : Nat) (f : Nat → Value) (w : World), (∀ j, l'[j]? = l[k + j]?) → k + l'.length = l.length → Below W.heap.size W w → (∀ j, j < k → S j (f j) w) → wpList P l.toArray Q l' (A f) w
  | [], k, f, w, _, hlen, hb, hS => hend f w hb fun j hj => hS j (by simp at hlen; omega)
  | o :: l', k, f, w, hget, hlen, hb, hS => by
    have ho : l[k]? = some o := by simpa using (hget 0).symm
    have hop := GOps.get l 0 hops k o ho f w (fun v w' => wpList P l.toArray Q l' ((A f).put o.dst v) w') hb
      (depsHold_of _ fun j hj => by
        obtain ⟨e, he, hbd, rfl⟩ := mem_depsL hj
        have := lexB_get l 0 hl k o ho e (by simpa using he) hbd
        exact hS _ (by omega))
      (fun v w' hbw hv => by
        rw [← hA, fill_put l 0 a k o hd ho, Nat.zero_add, hA]
        refine wpList_grow hd hl hA hst hops hend l' (k + 1) _ w' (fun j => by have := hget (j + 1); simp at this; rw [this]; congr 1; omega) (by simp at hlen; omega) (hb.trans (hbw.mono hb.size)) fun j hj => ?_
        by_cases hjk : j = k
        · subst hjk
          rw [show upd f j v j = v from by simp [upd]]
          rwa [Nat.zero_add] at hv
        · rw [show upd f k v j = f j from by simp [upd, hjk]]
          exact hst j _ w w' hb hbw (hS j (by omega)))
    unfold wpList
    split
    · rename_i hw
      rw [if_pos hw] at hop
      exact .inl (wp_of_grows hop)
    · rename_i hw
      rw [if_neg hw] at hop
      exact hop
/-- **Each operation is shown once**, at a region in the text's order. -/
theorem wp_region_grow_plain {id : Nat} {a : Act} {w : World} (L : List (Value → World → Prop)) (W : World) (hm : P.follows .mixedOrders = true) (hd : (dstsB l && lexB .any l 0) = true)
    (hA : ∀ f, fillFrom f l 0 a = A f) (hW : Below W.heap.size W w)
    (hst : StabL W L)
    (hops : GOps P l.toArray A (nthS L) W l 0)
    (hend : ∀ f w, Below W.heap.size W w → depsHold (nthS L) f w (List.range l.length) → Q .normal (A f) w) : (Code.region id l.toArray false).wp P Q a w := by
  rw [Bool.and_eq_true] at hd
  obtain ⟨f, hf⟩ := fill_self l 0 a
  rw [hA] at hf
  have := wpList_grow hd.1 hd.2 hA (stab_nth hst) hops (fun f w hb h => hend f w hb (depsHold_of _ fun j hj => h j (by simpa using hj))) l 0 f w (fun j => by simp) (by simp) hW (fun j hj => by omega)
  rw [hf] at this
  exact wp_region_lit this
end
end Go.Proofs.YtpbaiighifhfnaaDoor
