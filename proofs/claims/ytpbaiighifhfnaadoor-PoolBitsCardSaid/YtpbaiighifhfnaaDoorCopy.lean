/- A region that draws its order, each operation shown once, with facts that may refer to one earlier value and may end at a later operation (a store, an append in place). No program stands in this text. copy into a block that is known whole; what is then as it was. No program stands in this text. -/
import Derived.Test.YtpbaiighifhfnaaDoorGrow
import Derived.Laws.CopyOwn
namespace Go.Proofs.YtpbaiighifhfnaaDoor
open Go.RowKit
set_option linter.unusedVariables false

/-- What is said of an operation's value (second) and of one forerunner's (first, operation number r); it holds until operation 'dead' has been. -/
structure Sp where
  r : Nat
  dead : Nat
  p : Value → Value → World → Prop
def spAt (L : List Sp) (k : Nat) : Sp := L.getD k ⟨k, 0, fun _ _ _ => True⟩
def spHold (L : List Sp) (f : Nat → Value) (w : World) (j : Nat) : Prop := (spAt L j).p (f (spAt L j).r) (f j) w
/-- The facts at hand where operation i comes up. -/
def depsHold2 (L : List Sp) (f : Nat → Value) (w : World) (i n : Nat) : List Nat → Prop
  | [] => True
  | j :: l => (if (spAt L j).dead = i ∨ n ≤ (spAt L j).dead then spHold L f w j else True) ∧ depsHold2 L f w i n l
/-- Must fact j stand where operation k is carried out? (Not if it is k's own, ends there, has ended ahead of k, or waits for k.) -/
def depsAt (os : List Oper) (k : Nat) : List Nat := match os[k]? with | some o => depsOf o | none => []
def mustKeep (L : List Sp) (os : List Oper) (k j : Nat) : Bool := j != k && (spAt L j).dead != k && !(depsAt os j).contains k && !(depsAt os k).contains (spAt L j).dead
def keepers (L : List Sp) (os : List Oper) (k : Nat) : List Nat := (List.range L.length).filter (mustKeep L os k)
/-- What stood of the others stands. -/
def KeepJ (L : List Sp) (w w' : World) : List Nat → Prop
  | [] => True
  | j :: l => (∀ x y, (spAt L j).p x y w → (spAt L j).p x y w') ∧ KeepJ L w w' l
theorem KeepJ.get {L : List Sp} {w w' : World} : ∀ {l : List Nat}, KeepJ L w w' l → ∀ j ∈ l, ∀ x y, (spAt L j).p x y w → (spAt L j).p x y w'
  | [], _, j, h, _, _, _ => by simp at h
  | k :: l, H, j, h, x, y, hp => by
    rcases List.mem_cons.1 h with rfl | h
    · exact H.1 x y hp
    · exact H.2.get j h x y hp
def Stab2 (B : Nat) (W : World) (p : Value → Value → World → Prop) : Prop := ∀ x v w w', Below B W w → W.heap.size ≤ w.heap.size → Below w.heap.size w w' → p x v w → p x v w'
def StabL2 (B : Nat) (W : World) : List Sp → Prop
  | [] => True
  | s :: l => Stab2 B W s.p ∧ StabL2 B W l
theorem stab2_at {B : Nat} {W : World} : ∀ {L : List Sp}, StabL2 B W L → ∀ j, Stab2 B W (spAt L j).p
  | [], _, j => by unfold spAt; simp; exact fun _ _ _ _ _ _ _ _ => trivial
  | s :: l, H, 0 => H.1
  | s :: l, H, j + 1 => by
    have e : (spAt (s :: l) (j + 1)).p = (spAt l j).p := by
      unfold spAt
      by_cases hj : j < l.length
      · simp [List.getD, hj]
      · simp [List.getD, Nat.not_lt.1 hj]
    rw [e]
    exact stab2_at H.2 j
theorem keep_grow {B : Nat} {W w w' : World} {L : List Sp} (H : StabL2 B W L) (hW : Below B W w) (hb : Below w.heap.size w w') : ∀ ks : List Nat, KeepJ L w w' ks
  | [] => trivial
  | k :: ks => ⟨fun x y h => stab2_at H k x y w w' hW hW.size hb h, keep_grow H hW hb ks⟩

/-- What lay in an operation's slot ahead of the region. -/
def iniOf (o : Oper) (a : Act) : Value := match o.dst with | some d => a.tmps.getD d undef | none => undef
def ini (os : List Oper) (a : Act) (k : Nat) : Value := match os[k]? with | some o => iniOf o a | none => undef
def waits (os : List Oper) (k j : Nat) : Bool := (depsAt os j).contains k
theorem put_own (o : Oper) (a : Act) : a.put o.dst (iniOf o a) = a := by
  unfold iniOf
  cases o.dst with
  | none => rfl
  | some d =>
    simp only [Act.put]
    congr 1
    apply Array.ext (by simp)
    intro i h1 h2
    rw [Array.getElem_setIfInBounds]
    split
    · rename_i he; subst he; simp [Array.getD, h2]
    · rfl
theorem fill_ini (g : Nat → Value) (a : Act) : ∀ (l : List Oper) (k : Nat), (∀ j o, l[j]? = some o → g (k + j) = iniOf o a) → fillFrom g l k a = a
  | [], _, _ => rfl
  | o :: l, k, h => by
    unfold fillFrom
    have h0 : g k = iniOf o a := h 0 o rfl
    rw [h0, put_own]
    exact fill_ini g a l (k + 1) fun j o' hj => by
      have := h (j + 1) o' (by simpa using hj)
      rwa [show k + (j + 1) = k + 1 + j from by omega] at this
/-- What is owed, operation by operation. -/
def LOps (P : Program) (ops : Array Oper) (A : (Nat → Value) → Act) (L : List Sp) (os : List Oper) (a : Act) (n B : Nat) (W : World) (J : World → Prop) : List Oper → Nat → Prop
  | [], _ => True
  | o :: l, k => (∀ (f : Nat → Value) (w : World) (K : Value → World → Prop), Below B W w → J w → depsHold2 L f w k n (depsOf o) → (∀ j, waits os k j = true → f j = ini os a j) → (∀ j, n ≤ j → (decide ((spAt L j).dead = k) || (decide (n ≤ (spAt L j).dead) || waits os k (spAt L j).dead)) = true → spHold L f w j) →
      (∀ v w', Below B w w' → J w' → KeepJ L w w' (keepers L os k) → (spAt L k).p (if (spAt L k).r = k then v else f (spAt L k).r) v w' → K v w') →
      if Region.wanted o (yielded ops (A f).tmps) then grows P o (A f) w K else K undef w) ∧ LOps P ops A L os a n B W J l (k + 1)
theorem LOps.nil_ {P : Program} {ops : Array Oper} {A : (Nat → Value) → Act} {L : List Sp} {os : List Oper} {a : Act} {n B k : Nat} {W : World} {J : World → Prop} : LOps P ops A L os a n B W J [] k := trivial
theorem LOps.cons_ {P : Program} {ops : Array Oper} {A : (Nat → Value) → Act} {L : List Sp} {os : List Oper} {a : Act} {n B k : Nat} {W : World} {J : World → Prop} {o : Oper} {l : List Oper}
    (h : ∀ (f : Nat → Value) (w : World) (K : Value → World → Prop), Below B W w → J w → depsHold2 L f w k n (depsOf o) → (∀ j, waits os k j = true → f j = ini os a j) → (∀ j, n ≤ j → (decide ((spAt L j).dead = k) || (decide (n ≤ (spAt L j).dead) || waits os k (spAt L j).dead)) = true → spHold L f w j) →
      (∀ v w', Below B w w' → J w' → KeepJ L w w' (keepers L os k) → (spAt L k).p (if (spAt L k).r = k then v else f (spAt L k).r) v w' → K v w') →
      if Region.wanted o (yielded ops (A f).tmps) then grows P o (A f) w K else K undef w) (h' : LOps P ops A L os a n B W J l (k + 1)) : LOps P ops A L os a n B W J (o :: l) k := ⟨h, h'⟩
theorem LOps.get {P : Program} {ops : Array Oper} {A : (Nat → Value) → Act} {L : List Sp} {os : List Oper} {a : Act} {n B : Nat} {W : World} {J : World → Prop} : ∀ (l : List Oper) (k : Nat), LOps P ops A L os a n B W J l k → ∀ j o, l[j]? = some o →
    ∀ (f : Nat → Value) (w : World) (K : Value → World → Prop), Below B W w → J w → depsHold2 L f w (k + j) n (depsOf o) → (∀ i, waits os (k + j) i = true → f i = ini os a i) → (∀ i, n ≤ i → (decide ((spAt L i).dead = k + j) || (decide (n ≤ (spAt L i).dead) || waits os (k + j) (spAt L i).dead)) = true → spHold L f w i) →
      (∀ v w', Below B w w' → J w' → KeepJ L w w' (keepers L os (k + j)) → (spAt L (k + j)).p (if (spAt L (k + j)).r = k + j then v else f (spAt L (k + j)).r) v w' → K v w') →
      if Region.wanted o (yielded ops (A f).tmps) then grows P o (A f) w K else K undef w
  | [], _, _, j, _, h => by simp at h
  | o :: l, k, H, 0, o', h => by
    simp at h
    subst h
    exact H.1
  | o :: l, k, H, j + 1, o', h => by
    have := LOps.get l (k + 1) H.2 j o' (by simpa using h)
    rwa [show k + 1 + j = k + (j + 1) from by omega] at this
/-- An operation that writes to nothing that stands. -/
theorem LOps.grow_ {P : Program} {ops : Array Oper} {A : (Nat → Value) → Act} {L : List Sp} {os : List Oper} {a : Act} {n B k : Nat} {W : World} {J : World → Prop} {o : Oper} {l : List Oper} (H : StabL2 B W L) (hB : B ≤ W.heap.size) (hJ : ∀ w w', Below B W w → W.heap.size ≤ w.heap.size → Below w.heap.size w w' → J w → J w')
    (h : ∀ (f : Nat → Value) (w : World) (K : Value → World → Prop), Below B W w → J w → depsHold2 L f w k n (depsOf o) → (∀ j, waits os k j = true → f j = ini os a j) → (∀ j, n ≤ j → (decide ((spAt L j).dead = k) || (decide (n ≤ (spAt L j).dead) || waits os k (spAt L j).dead)) = true → spHold L f w j) →
      (∀ v w', Below w.heap.size w w' → (spAt L k).p (if (spAt L k).r = k then v else f (spAt L k).r) v w' → K v w') →
      if Region.wanted o (yielded ops (A f).tmps) then grows P o (A f) w K else K undef w) (h' : LOps P ops A L os a n B W J l (k + 1)) : LOps P ops A L os a n B W J (o :: l) k :=
  ⟨fun f w K hW hJw hd hu hx hK => h f w K hW hJw hd hu hx fun v w' hb hv => hK v w' (hb.mono (Nat.le_trans hB hW.size)) (hJ w w' hW hW.size hb hJw) (keep_grow H hW hb _) hv, h'⟩
/-- An operation that writes: what must stand is listed. -/
theorem LOps.put_ {P : Program} {ops : Array Oper} {A : (Nat → Value) → Act} {L : List Sp} {os : List Oper} {a : Act} {n B k : Nat} {W : World} {J : World → Prop} {o : Oper} {l : List Oper} (ks : List Nat) (hks : keepers L os k = ks)
    (h : ∀ (f : Nat → Value) (w : World) (K : Value → World → Prop), Below B W w → J w → depsHold2 L f w k n (depsOf o) → (∀ j, waits os k j = true → f j = ini os a j) → (∀ j, n ≤ j → (decide ((spAt L j).dead = k) || (decide (n ≤ (spAt L j).dead) || waits os k (spAt L j).dead)) = true → spHold L f w j) →
      (∀ v w', Below B w w' → J w' → KeepJ L w w' ks → (spAt L k).p (if (spAt L k).r = k then v else f (spAt L k).r) v w' → K v w') →
      if Region.wanted o (yielded ops (A f).tmps) then grows P o (A f) w K else K undef w) (h' : LOps P ops A L os a n B W J l (k + 1)) : LOps P ops A L os a n B W J (o :: l) k := by
  subst hks
  exact ⟨h, h'⟩
/-- Each fact refers to its own operation or to one that it waits for. -/
def refB : List Sp → List Oper → Nat → Bool
  | [], _, _ => true
  | s :: l, os, k => (decide (s.r = k) || (match os with | o :: _ => (depsOf o).contains s.r | [] => false)) && refB l os.tail (k + 1)
theorem refB_get : ∀ (L : List Sp) (os : List Oper) (k : Nat), refB L os k = true → ∀ j o, os[j]? = some o → j < L.length → (spAt L j).r = k + j ∨ (spAt L j).r ∈ depsOf o
  | [], _, _, _, j, _, _, h => by simp at h
  | s :: L, [], k, H, j, o, h, _ => by simp at h
  | s :: L, o :: os, k, H, 0, o', h, _ => by
    simp at h
    subst h
    simp only [refB, Bool.and_eq_true, Bool.or_eq_true, decide_eq_true_eq, List.contains_iff_mem] at H
    exact H.1
  | s :: L, o :: os, k, H, j + 1, o', h, hj => by
    simp only [refB, Bool.and_eq_true, List.tail_cons] at H
    have := refB_get L os (k + 1) H.2 j o' (by simpa using h) (by simpa using hj)
    have e : spAt (s :: L) (j + 1) = spAt L j := by
      have hj' : j < L.length := by simpa using hj
      unfold spAt; simp [List.getD, hj']
    rw [e, show k + (j + 1) = k + 1 + j from by omega]
    exact this

theorem depsHold2_of {L : List Sp} {f : Nat → Value} {w : World} {i n : Nat} : ∀ l : List Nat, (∀ j ∈ l, (spAt L j).dead = i ∨ n ≤ (spAt L j).dead → spHold L f w j) → depsHold2 L f w i n l
  | [], _ => trivial
  | j :: l, h => ⟨by
      split
      · rename_i hc
        exact h j (by simp) hc
      · trivial, depsHold2_of l fun k hk => h k (by simp [hk])⟩

theorem refB_beyond : ∀ (L : List Sp) (os : List Oper) (k : Nat), refB L os k = true → ∀ j, os.length ≤ j → j < L.length → (spAt L j).r = k + j
  | [], _, _, _, j, _, h => by simp at h
  | s :: L, [], k, H, 0, _, _ => by
    simp only [refB, Bool.and_eq_true, Bool.or_false, decide_eq_true_eq] at H
    exact H.1
  | s :: L, o :: os, k, H, 0, h, _ => by simp at h
  | s :: L, os, k, H, j + 1, h, hj => by
    simp only [refB, Bool.and_eq_true] at H
    have := refB_beyond L os.tail (k + 1) H.2 j (by cases os <;> simp at h ⊢ <;> omega) (by simpa using hj)
    have e : spAt (s :: L) (j + 1) = spAt L j := by
      have hj' : j < L.length := by simpa using hj
      unfold spAt; simp [List.getD, hj']
    rw [e, show k + (j + 1) = k + 1 + j from by omega]
    exact this
section
variable {P : Program} {l : List Oper} {A : (Nat → Value) → Act} {L : List Sp} {W : World} {B : Nat} {J : World → Prop} {Q : Exit → Act → World → Prop}

theorem mem_depsL_of {e : Edge} : ∀ {l : List Edge}, e ∈ l → Region.binds .any e = true → e.on ∈ depsL l
  | [], h, _ => by simp at h
  | e' :: l, h, hb => by
    unfold depsL
    rcases List.mem_cons.1 h with rfl | h
    · rw [if_pos hb]; simp
    · split
      · exact List.mem_cons_of_mem _ (mem_depsL_of h hb)
      · exact mem_depsL_of h hb

theorem wpAny_lay (hd : dstsB l = true) (hl : lexB .any l 0 = true) (hr : refB L l 0 = true) (hL : l.length ≤ L.length) {a : Act} (hA : ∀ f, fillFrom f l 0 a = A f)
    (hops : LOps P l.toArray A L l a l.length B W J l 0)
    (hend : ∀ f w, Below B W w → J w → (∀ k, k < l.length → l.length ≤ (spAt L k).dead → spHold L f w k) → Q .normal (A f) w) :
    ∀ (fuel : Nat) (listed : Array Bool) (f : Nat → Value) (w : World), listed.size = l.length → left listed = fuel → Below B W w → J w →
      (∀ k o, l[k]? = some o → listed.getD k false = true → ∀ j ∈ depsOf o, listed.getD j false = true) →
      (∀ k, (listed.getD k false = true ∨ l.length ≤ k) → listed.getD (spAt L k).dead false = false → spHold L f w k) →
      (∀ k, listed.getD k false = false → f k = ini l a k) →
      wpAny P .any l.toArray Q fuel listed (A f) w := by
  intro fuel
  have fin : ∀ (listed : Array Bool) (f : Nat → Value) (w : World), listed.size = l.length → Below B W w → J w → (∀ k, k < l.length → listed.getD k false = true) →
      (∀ k, (listed.getD k false = true ∨ l.length ≤ k) → listed.getD (spAt L k).dead false = false → spHold L f w k) → Q .normal (A f) w := fun listed f w hs hb hJ hall hS =>
    hend f w hb hJ fun k hk hdead => hS k (.inl (hall k hk)) (by
      rw [← hs] at hdead
      simp [Array.getD, Nat.not_lt.2 hdead])
  induction fuel with
  | zero =>
    intro listed f w hs h0 hb hJ hcl hS hun
    have hall := left_zero h0
    refine ⟨?_, fin listed f w hs hb hJ (fun k hk => hall k (by omega)) hS⟩
    apply List.eq_nil_iff_forall_not_mem.2
    intro j hj
    obtain ⟨h1, o, ho, _⟩ := mem_ready.1 hj
    have hjl : j < l.length := by
      simp at ho
      exact (List.getElem?_eq_some_iff.1 ho).1
    have h2 := hall j (by omega)
    have hj' : j < listed.size := by omega
    simp [hj'] at h1 h2
    rw [h1] at h2
    cases h2
  | succ fuel ih =>
    intro listed f w hs h0 hb hJ hcl hS hun
    refine ⟨fun hnil => fin listed f w hs hb hJ (fun k hk => ready_nil hs hl hnil k hk) hS, fun i hi => ?_⟩
    obtain ⟨h1, o, ho, hdeps⟩ := mem_ready.1 hi
    have ho' : l[i]? = some o := by simpa using ho
    have hil : i < l.length := (List.getElem?_eq_some_iff.1 ho').1
    have hi0 : listed.getD i false = false := by
      have : i < listed.size := by omega
      simpa [Array.getD, this] using h1
    have hdl : ∀ j ∈ depsOf o, listed.getD j false = true := fun j hj => by
      obtain ⟨e, he, hbd, rfl⟩ := mem_depsL hj
      exact hdeps e (by simpa using he) hbd
    have hop := LOps.get l 0 hops i o ho' f w (fun v w' => wpAny P .any l.toArray Q fuel (listed.setIfInBounds i true) ((A f).put o.dst v) w') hb hJ
      (depsHold2_of _ fun j hj hc => by
        rw [Nat.zero_add] at hc
        refine hS j (.inl (hdl j hj)) ?_
        rcases hc with hc | hc
        · rw [hc]; exact hi0
        · rw [← hs] at hc
          simp [Array.getD, Nat.not_lt.2 hc])
      (fun j hj => hun j (by
        rw [Nat.zero_add] at hj
        unfold waits depsAt at hj
        cases hoj : l[j]? with
        | none => rw [hoj] at hj; simp at hj
        | some oj =>
          rw [hoj] at hj
          cases hlj : listed.getD j false with
          | false => rfl
          | true =>
            have := hcl j oj hoj hlj i (by simpa using hj)
            rw [hi0] at this
            cases this))
      (fun j hj hc => hS j (.inr hj) (by
        rw [Nat.zero_add] at hc
        simp only [Bool.or_eq_true, decide_eq_true_eq] at hc
        rcases hc with hc | hc | hc
        · rw [hc]; exact hi0
        · rw [← hs] at hc
          simp [Array.getD, Nat.not_lt.2 hc]
        · unfold waits depsAt at hc
          cases hoj : l[(spAt L j).dead]? with
          | none => rw [hoj] at hc; simp at hc
          | some oj =>
            rw [hoj] at hc
            cases hlj : listed.getD (spAt L j).dead false with
            | false => rfl
            | true =>
              have := hcl _ oj hoj hlj i (by simpa using hc)
              rw [hi0] at this
              cases this))
      (fun v w' hbw hJ' hk hv => by
        rw [Nat.zero_add] at hk hv
        rw [← hA, fill_put l 0 a i o hd ho', Nat.zero_add, hA]
        refine ih _ _ w' (by simpa using hs) (by have := left_set h1; omega) (hb.trans hbw) hJ' (fun k o' hko hkl j hj => ?_) (fun k hkl hdead => ?_) (fun k hkl => ?_)
        · by_cases hki : k = i
          · subst hki
            rw [ho'] at hko
            injection hko with hko
            subst hko
            exact getD_set_true (hdl j hj)
          · rw [getD_set_ne false (Ne.symm hki)] at hkl
            exact getD_set_true (hcl k o' hko hkl j hj)
        · by_cases hki : k = i
          · subst hki
            unfold spHold
            rw [show upd f k v k = v from by simp [upd]]
            by_cases hrk : (spAt L k).r = k
            · rw [if_pos hrk] at hv
              rw [hrk, show upd f k v k = v from by simp [upd]]
              exact hv
            · rw [if_neg hrk] at hv
              rw [show upd f k v (spAt L k).r = f (spAt L k).r from by simp [upd, hrk]]
              exact hv
          · replace hkl : listed.getD k false = true ∨ l.length ≤ k := by
              rcases hkl with hkl | hkl
              · rw [getD_set_ne false (Ne.symm hki)] at hkl
                exact .inl hkl
              · exact .inr hkl
            have hdi : (spAt L k).dead ≠ i := by
              intro he
              rw [he] at hdead
              have : i < listed.size := by omega
              simp [Array.getD, this] at hdead
            rw [getD_set_ne false (Ne.symm hdi)] at hdead
            have hS' := hS k hkl hdead
            have hri : (spAt L k).r ≠ i := by
              intro he
              by_cases hkn : k < L.length
              · by_cases hkL : k < l.length
                · rcases refB_get L l 0 hr k l[k] (by simp [hkL]) hkn with h | h
                  · rw [Nat.zero_add] at h
                    exact hki (h.symm.trans he)
                  · rcases hkl with hkl | hkl
                    · have := hcl k l[k] (by simp [hkL]) hkl _ h
                      rw [he, hi0] at this
                      cases this
                    · omega
                · have h := refB_beyond L l 0 hr k (by omega) hkn
                  rw [Nat.zero_add] at h
                  exact hki (h.symm.trans he)
              · have h : (spAt L k).r = k := by unfold spAt; simp [List.getD, Nat.not_lt.1 hkn]
                exact hki (h.symm.trans he)
            unfold spHold at *
            rw [show upd f i v k = f k from by simp [upd, hki], show upd f i v (spAt L k).r = f (spAt L k).r from by simp [upd, hri]]
            by_cases hkn : k < L.length
            · refine hk.get k ?_ _ _ hS'
              unfold keepers
              rw [List.mem_filter]
              refine ⟨by simpa using hkn, ?_⟩
              unfold mustKeep
              simp only [Bool.and_eq_true, bne_iff_ne, ne_eq, Bool.not_eq_true', List.contains_eq_mem, decide_eq_false_iff_not]
              refine ⟨⟨⟨hki, hdi⟩, fun hm => ?_⟩, fun hm => ?_⟩
              · unfold depsAt at hm
                by_cases hkL : k < l.length
                · rw [show l[k]? = some l[k] from by simp [hkL]] at hm
                  rcases hkl with hkl | hkl
                  · have := hcl k l[k] (by simp [hkL]) hkl _ hm
                    rw [hi0] at this
                    cases this
                  · omega
                · rw [List.getElem?_eq_none (by omega)] at hm
                  simp at hm
              · unfold depsAt at hm
                rw [ho'] at hm
                have := hdl _ hm
                rw [hdead] at this
                cases this
            · unfold spAt
              simp [List.getD, Nat.not_lt.1 hkn]
        · have hki : k ≠ i := by
            rintro rfl
            have : k < listed.size := by omega
            simp [Array.getD, this] at hkl
          rw [getD_set_ne false (Ne.symm hki)] at hkl
          rw [show upd f i v k = f k from by simp [upd, hki]]
          exact hun k hkl)
    unfold wpOp
    simp only [ho]
    split
    · rename_i hw
      rw [if_pos hw] at hop
      exact .inl (wp_of_grows hop)
    · rename_i hw
      rw [if_neg hw] at hop
      exact hop

def endHold (L : List Sp) (f : Nat → Value) (w : World) (n : Nat) : List Nat → Prop
  | [] => True
  | k :: ks => (if n ≤ (spAt L k).dead then spHold L f w k else True) ∧ endHold L f w n ks
theorem endHold_of {f : Nat → Value} {w : World} {n : Nat} : ∀ ks : List Nat, (∀ k ∈ ks, n ≤ (spAt L k).dead → spHold L f w k) → endHold L f w n ks
  | [], _ => trivial
  | k :: ks, h => ⟨by
      split
      · rename_i hc
        exact h k (by simp) hc
      · trivial, endHold_of ks fun j hj => h j (by simp [hj])⟩

/-- The facts that hold from the start: those behind the operations'. -/
def iniHold (L : List Sp) (f : Nat → Value) (w : World) : Nat → Nat → Prop
  | 0, _ => True
  | c + 1, k => spHold L f w k ∧ iniHold L f w c (k + 1)
theorem iniHold_get {f : Nat → Value} {w : World} : ∀ (c k : Nat), iniHold L f w c k → ∀ j, k ≤ j → j < k + c → spHold L f w j
  | 0, k, _, j, h1, h2 => by omega
  | c + 1, k, h, j, h1, h2 => by
    by_cases he : j = k
    · subst he; exact h.1
    · exact iniHold_get c (k + 1) h.2 j (by omega) (by omega)
/-- **Each operation is shown once; whatever order is drawn.** -/
theorem wp_region_lay {id : Nat} {a : Act} {w : World} (L : List Sp) (n B : Nat) (W : World) (J : World → Prop) (hm : P.follows .mixedOrders = true) (hd : (dstsB l && lexB .any l 0) = true) (hr : refB L l 0 = true) (hn : decide (l.length ≤ L.length) = true) (hn' : l.length = n)
    (hA : ∀ f, fillFrom f l 0 a = A f) (hW : Below B W w) (hJ : J w.drew) (hI : ∀ f, iniHold L f w.drew (L.length - n) n)
    (hops : LOps P l.toArray A L l a n B W J l 0)
    (hend : ∀ f w, Below B W w → J w → endHold L f w n (List.range n) → Q .normal (A f) w) : (Code.region id l.toArray true).wp P Q a w := by
  subst hn'
  rw [Bool.and_eq_true] at hd
  refine wp_region_any hm ?_
  have hf := fill_ini (ini l a) a l 0 (fun j o hj => by rw [Nat.zero_add]; simp [ini, hj])
  rw [hA] at hf
  have hl : left (Array.replicate l.toArray.size false) = l.toArray.size := by simp [left, List.countP_replicate]
  have h0 : ∀ k, (Array.replicate l.toArray.size false).getD k false = true → False := fun k hk => by
    by_cases hk' : k < l.length <;> simp [Array.getD, hk'] at hk
  have := wpAny_lay hd.1 hd.2 hr (by simpa using hn) hA hops (fun f w hb hJ h => hend f w hb hJ (endHold_of _ fun k hk hc => h k (by simpa using hk) hc)) l.toArray.size (Array.replicate l.toArray.size false) (ini l a) w.drew (by simp) hl hW.drew hJ
    (fun k o _ hk => (h0 k hk).elim) (fun k hk _ => by
      rcases hk with hk | hk
      · exact (h0 k hk).elim
      · by_cases hkn : k < L.length
        · exact iniHold_get _ _ (hI (ini l a)) k hk (by omega)
        · unfold spHold spAt
          simp [List.getD, Nat.not_lt.1 hkn]) (fun k _ => rfl)
  rw [hf] at this
  exact this
end

theorem want_pos {c p q : Prop} [Decidable c] (h : c) (x : p) : if c then p else q := by rw [if_pos h]; exact x
/-- 'append(out, ..)' onto a row of the call's own, as an operation of such a region. -/
theorem grows_app {P : Program} {w : World} {o : Oper} {a : Act} {K : Value → World → Prop} {t e : TypeId} {z : Value} {bytes : Nat} (E : Elem P t e z bytes) {base : Nat} {v : Value} {xs : List Value} (hown : Own w base e v xs) {B : Nat} {A : Option Addr} {m c : Nat} {news : List Value}
    (hr : Rd w B A news) (hm : m = news.length) (h1 : ∀ u ∈ news, u.oneCell' = true) (hb : (xs.length + news.length) * bytes ≤ 140737488355328) (h63 : xs.length + news.length ≤ 9223372036854775807) (hbase : base ≤ w.heap.size)
    (s x : Operand) (ho : o.op = .call { callee := .builtin .append, args := #[s, x], argTypes := #[t, t] }) (hs : a.eval s = v) (hx : a.eval x = .slice A m c)
    (h : ∀ A' n' c' w', Own w' base e (.slice A' n' c') (xs ++ news) → w.grownBy w' v.ownBlock → K (.slice A' n' c') w') : grows P o a w K := by
  obtain ⟨v', w', hrun, h2, h3, h4⟩ := run_app (ty := o.type) E hown (c := c) hr hm h1 hb h63 hbase
  obtain ⟨A', c', rfl, _⟩ := h2.form
  unfold grows execOp
  simp only [ho, resolve, invoke, builtin, Sem.run_bind, Sem.run_pure, Result.andThen_ok, List.map_toArray, List.map_cons, List.map_nil, hs, hx, hrun, growUpon]
  exact h _ _ _ _ h2 h3

/-! ### What may be said -/
def sV (n : Nat) (x : Value) (k : Nat) : Sp := ⟨k, n, fun _ v _ => v = x⟩
def sAny (n : Nat) (k : Nat) : Sp := ⟨k, n, fun _ _ _ => True⟩
def sOwn (d base : Nat) (e : TypeId) (xs : List Value) (k : Nat) : Sp := ⟨k, d, fun _ v w => ∃ A n c, v = .slice A n c ∧ Own w base e (.slice A n c) xs⟩
/-- A new block. -/
def sBlk (d base : Nat) (t : TypeId) (cs : List Value) (k : Nat) : Sp := ⟨k, d, fun _ v w => ∃ g, v = .pointer (some ⟨g, 0, none⟩) ∧ base ≤ g ∧ Blk w g t cs⟩
/-- A block of operation r's, stored into. -/
def sSet (r d base : Nat) (t : TypeId) (cs : List Value) : Sp := ⟨r, d, fun v _ w => ∃ g, v = .pointer (some ⟨g, 0, none⟩) ∧ base ≤ g ∧ Blk w g t cs⟩
section
variable {B : Nat} {W : World}
theorem stab2_v (n : Nat) (x : Value) (k : Nat) : Stab2 B W (sV n x k).p := fun _ _ _ _ _ _ _ h => h
theorem stab2_any (n : Nat) (k : Nat) : Stab2 B W (sAny n k).p := fun _ _ _ _ _ _ _ h => h
theorem stab2_own (d base : Nat) (e : TypeId) (xs : List Value) (k : Nat) : Stab2 B W (sOwn d base e xs k).p := fun _ _ _ _ _ _ hb ⟨A, n, c, h, ho⟩ => ⟨A, n, c, h, ho.below hb⟩
theorem stab2_blk (d base : Nat) (t : TypeId) (cs : List Value) (k : Nat) : Stab2 B W (sBlk d base t cs k).p := fun _ _ _ _ _ _ hb ⟨g, h, hg, ho⟩ => ⟨g, h, hg, ho.below hb ho.lt⟩
theorem stab2_set (r d base : Nat) (t : TypeId) (cs : List Value) : Stab2 B W (sSet r d base t cs).p := fun _ _ _ _ _ _ hb ⟨g, h, hg, ho⟩ => ⟨g, h, hg, ho.below hb ho.lt⟩
end
end Go.Proofs.YtpbaiighifhfnaaDoor
namespace Go.Proofs.YtpbaiighifhfnaaDoor
open Go.RowKit
set_option linter.unusedVariables false

/-- All as it was, but block g. -/
structure But (g : Nat) (w w' : World) : Prop where
  os : w'.os = w.os
  tape : w'.tape = w.tape
  output : w'.output = w.output
  size : w.heap.size ≤ w'.heap.size
  block : ∀ k, k < w.heap.size → k ≠ g → w'.heap[k]? = w.heap[k]?
section
variable {w w' w2 : World} {g B : Nat}
theorem But.refl (g : Nat) (w : World) : But g w w := ⟨rfl, rfl, rfl, Nat.le_refl _, fun _ _ _ => rfl⟩
theorem But.trans (h : But g w w') (k : But g w' w2) : But g w w2 :=
  ⟨k.os.trans h.os, k.tape.trans h.tape, k.output.trans h.output, Nat.le_trans h.size k.size, fun j hj hn => (k.block j (Nat.lt_of_lt_of_le hj h.size) hn).trans (h.block j hj hn)⟩
theorem But.of (h : Below w.heap.size w w') : But g w w' := ⟨h.os, h.tape, h.output, h.size, fun k hk _ => h.block k hk⟩
theorem But.below (h : But g w w') (hB : B ≤ g) (hs : B ≤ w.heap.size) : Below B w w' := ⟨h.os, h.tape, h.output, h.size, fun k hk => h.block k (by omega) (by omega)⟩
theorem But.blk {g' : Nat} {t : TypeId} {cs : List Value} (h : But g w w') (hb : Blk w g' t cs) (hn : g' ≠ g) : Blk w' g' t cs := (h.block g' hb.lt hn).trans hb
theorem But.setCell (h : But g w w') {p : Addr} (hp : w.heap.size ≤ p.block) (u : Value) : But g w (w'.setCell p u) :=
  ⟨h.os, h.tape, h.output, by simpa [World.setCell] using h.size, fun k hk hn => (Below.heap_setCell w' p u k (by omega)).trans (h.block k hk hn)⟩
theorem But.alloc (h : But g w w') (o : Obj) : But g w (w'.alloc o) :=
  ⟨h.os, h.tape, h.output, by have := h.size; simp; omega, fun k hk hn => (Below.heap_alloc w' o k (Nat.lt_of_lt_of_le hk h.size)).trans (h.block k hk hn)⟩
theorem But.drew (h : But g w w') : But g w w'.drew := ⟨h.os, h.tape, h.output, h.size, h.block⟩
end
theorem splice_nil {α : Type} (L : List α) (off : Nat) : splice L off [] = L := by simp [splice]
theorem run_cpy {P : Program} (w : World) {dT sT ty e : TypeId} (hu : P.underlying dT = some (.slice e)) (hsz : (P.info? e).map (·.size) = some 1) {dp sp : Option Addr} {dl dc sl sc : Nat} {g off : Nat} {cur cs : List Value} {t : TypeId}
    (hg : Blk w g t cur) {B : Nat} (hr : Rd w B sp cs) (hn : cs.length = Nat.min sl dl) (hd : 0 < cs.length → dp = some ⟨g, off, none⟩) (hfit : off + cs.length ≤ cur.length) (h1 : ∀ v ∈ cs, v.oneCell' = true) :
    ∃ w', (Builtin.copy_ #[dT, sT] ty #[.slice dp dl dc, .slice sp sl sc]).run P w = .ok (.int .i64 cs.length) w' ∧ Blk w' g t (splice cur off cs) ∧ But g w w' := by
  by_cases h0 : cs.length = 0
  · have hc : cs = [] := List.eq_nil_of_length_eq_zero h0
    subst hc
    have hrun := run_copy_none (P := P) w dT sT ty e dp sp dl dc sl sc hu hsz (by simpa using hn.symm)
    exact ⟨w, hrun, by rw [splice_nil]; exact hg, But.refl g w⟩
  · obtain ⟨b, o, rfl, _, hc⟩ := hr (by omega)
    have hdp := hd (by omega)
    subst hdp
    have hrun := run_copy_row (P := P) w dT sT ty e g off dl dc ⟨b, o, none⟩ sl sc cur.toArray t cs hu hsz hg hn (fun j v hj => by rw [Addr.add_lit]; exact hc j v hj) (by simpa using hfit) h1
    refine ⟨_, hrun, ?_, ⟨rfl, rfl, rfl, by simp [World.setRow], fun k hk hne => setRow_other w g k _ hne⟩⟩
    have := setRow_heap w g cur.toArray (cur.toArray.toList.take off ++ cs ++ cur.toArray.toList.drop (off + cs.length)).toArray t (0, 0) hg
    simpa [Blk, splice] using this
/-- 'copy(d, s)' as an operation of a region. -/
theorem grows_cpy {P : Program} {w : World} {o : Oper} {a : Act} {K : Value → World → Prop} {dT sT e : TypeId} (hu : P.underlying dT = some (.slice e)) (hsz : (P.info? e).map (·.size) = some 1) {dp sp : Option Addr} {dl dc sl sc : Nat} {g off : Nat} {cur cs : List Value} {t : TypeId}
    (hg : Blk w g t cur) {B : Nat} (hr : Rd w B sp cs) (hn : cs.length = Nat.min sl dl) (hd : 0 < cs.length → dp = some ⟨g, off, none⟩) (hfit : off + cs.length ≤ cur.length) (h1 : ∀ v ∈ cs, v.oneCell' = true)
    (d s : Operand) (ho : o.op = .call { callee := .builtin .copy, args := #[d, s], argTypes := #[dT, sT] }) (hd' : a.eval d = .slice dp dl dc) (hs' : a.eval s = .slice sp sl sc)
    (h : ∀ w', Blk w' g t (splice cur off cs) → But g w w' → K (.int .i64 cs.length) w') : grows P o a w K := by
  obtain ⟨w', hrun, h2, h3⟩ := run_cpy (P := P) w (sT := sT) (ty := o.type) hu hsz hg hr hn hd hfit h1 (dc := dc) (sc := sc)
  unfold grows
  simp [execOp, ho, resolve, invoke, builtin, hd', hs', hrun, Result.andThen, growUpon]
  exact h _ h2 h3
/-- The same at a plain region. -/
theorem wp_cpy {P : Program} {w : World} {o : Oper} {a : Act} {ops : Array Oper} {rest : List Oper} {Q : Exit → Act → World → Prop} {dT sT e : TypeId} (hu : P.underlying dT = some (.slice e)) (hsz : (P.info? e).map (·.size) = some 1) (hgd : o.guard = none) {dp sp : Option Addr} {dl dc sl sc : Nat} {g off : Nat} {cur cs : List Value} {t : TypeId}
    (hg : Blk w g t cur) {B : Nat} (hr : Rd w B sp cs) (hn : cs.length = Nat.min sl dl) (hd : 0 < cs.length → dp = some ⟨g, off, none⟩) (hfit : off + cs.length ≤ cur.length) (h1 : ∀ v ∈ cs, v.oneCell' = true)
    (d s : Operand) (ho : o.op = .call { callee := .builtin .copy, args := #[d, s], argTypes := #[dT, sT] }) (hd' : a.eval d = .slice dp dl dc) (hs' : a.eval s = .slice sp sl sc)
    (h : ∀ w', Blk w' g t (splice cur off cs) → But g w w' → wpList P ops Q rest (a.put o.dst (.int .i64 cs.length)) w') : wpList P ops Q (o :: rest) a w := by
  obtain ⟨w', hrun, h2, h3⟩ := run_cpy (P := P) w (sT := sT) (ty := o.type) hu hsz hg hr hn hd hfit h1 (dc := dc) (sc := sc)
  refine wpList_plain hgd fun K hK => ?_
  unfold Oper.wp
  simp [execOp, ho, resolve, invoke, builtin, hd', hs', hrun, Result.andThen]
  exact hK _ _ (h _ h2 h3)
end Go.Proofs.YtpbaiighifhfnaaDoor
