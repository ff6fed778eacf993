/- The texts of codes in plain lists. No program stands in this text. -/
import Derived.Test.YtianabgdggheiaaAlphaLaw
namespace Go.Proofs.Ytianabgdggheiaa
open Go.RowKit
set_option linter.unusedVariables false

/-- The text whose codes these are. -/
def IsOf (l t : List Int) : Prop := isTextB t = true ∧ aCodes t = l
open Classical in
noncomputable def aText (l : List Int) : List Int × Int := if h : ∃ t, IsOf l t then (Classical.choose h, 0) else ([], 16)
theorem isText_ok {l : List Int} (h : isTextB l = true) : ∀ c ∈ l, tOkB c = true := by
  simp only [isTextB, Bool.and_eq_true, List.all_eq_true] at h
  exact h.2
theorem aText_yes {l t : List Int} (h : isTextB t = true) (h' : aCodes t = l) : aText l = (t, 0) := by
  have hex : ∃ t, IsOf l t := ⟨t, h, h'⟩
  have hc := Classical.choose_spec hex
  have := aCodes_inj _ _ (isText_ok hc.1) (isText_ok h) (hc.2.trans h'.symm)
  unfold aText
  rw [dif_pos hex, this]
theorem aText_no {l : List Int} (h : ∀ t, isTextB t = true → aCodes t ≠ l) : aText l = ([], 16) := by
  unfold aText
  rw [dif_neg]
  rintro ⟨t, h1, h2⟩
  exact h t h1 h2
theorem aText_or (l : List Int) : (∃ t, isTextB t = true ∧ aCodes t = l ∧ aText l = (t, 0)) ∨ aText l = ([], 16) := by
  by_cases h : ∃ t, IsOf l t
  · obtain ⟨t, h1, h2⟩ := h
    exact .inl ⟨t, h1, h2, aText_yes h1 h2⟩
  · exact .inr (by unfold aText; rw [dif_neg h])
theorem tOk_bts {l : List Int} (h : ∀ c ∈ l, tOkB c = true) : Bts l := fun c hc => by
  have := h c hc
  simp [tOkB] at this
  omega
/-- What holds as a text is read off: what was read, what is left. -/
def Mid (l t0 rest : List Int) : Prop := ∀ t, (∀ c ∈ t, tOkB c = true) → aCodes t = l → ∃ t', t = t0 ++ t' ∧ rest = aCodes t'
theorem Mid.start (l : List Int) : Mid l [] l := fun t _ h => ⟨t, rfl, h.symm⟩
theorem aFirst_le (l : List Int) (hl : 0 < l.length) : (aFirst l).2 ≤ l.length ∧ 0 ≤ (aFirst l).1 ∧ (aFirst l).1 < 256 := by
  have g : ∀ k, 0 ≤ l.getD k (-1) → k < l.length := by
    intro k hk
    rcases Nat.lt_or_ge k l.length with h | h
    · exact h
    · simp [List.getD, List.getElem?_eq_none h] at hk
  have g1 := g 1; have g2 := g 2
  unfold aFirst aFirst3
  generalize l.getD 0 (-1) = x at *
  generalize l.getD 1 (-1) = y at *
  generalize l.getD 2 (-1) = z at *
  split
  · simp; omega
  · split
    · simp; omega
    · split
      · simp; omega
      · split
        · rename_i h
          have hs : ∀ r : Fin 31, 0 ≤ aSigns.getD r.val 0 ∧ aSigns.getD r.val 0 < 256 := by decide
          have := hs ⟨y.toNat, by omega⟩
          simp only at this ⊢
          omega
        · split
          · simp; omega
          · simp
theorem Mid.stop {l t0 rest : List Int} (h : Mid l t0 rest) (hr : 0 < rest.length) (h0 : (aFirst rest).2 = 0) : aText l = ([], 16) := by
  refine aText_no fun t h1 h2 => ?_
  obtain ⟨t', rfl, rfl⟩ := h t (isText_ok h1) h2
  cases t' with
  | nil => simp [aCodes] at hr
  | cons c t' =>
    have hc := isText_ok h1 c (by simp)
    have := aFirst_sort c (aCodes t') hc
    have e : aCodes (c :: t') = aSort c ++ aCodes t' := rfl
    rw [e, this] at h0
    have := aSort_pos c hc
    simp only at h0
    omega
theorem Mid.step {l t0 rest : List Int} (h : Mid l t0 rest) (hr : 0 < rest.length) : Mid l (t0 ++ [(aFirst rest).1]) (rest.drop (aFirst rest).2) := by
  intro t h1 h2
  obtain ⟨t', rfl, rfl⟩ := h t h1 h2
  cases t' with
  | nil => simp [aCodes] at hr
  | cons c t' =>
    have hc := h1 c (by simp)
    have := aFirst_sort c (aCodes t') hc
    have e : aCodes (c :: t') = aSort c ++ aCodes t' := rfl
    rw [e, this]
    exact ⟨t', by simp, by simp⟩
theorem Mid.done {l t0 : List Int} (h : Mid l t0 []) : (isTextB t0 = true ∧ aCodes t0 = l → aText l = (t0, 0)) ∧ (¬ (isTextB t0 = true ∧ aCodes t0 = l) → aText l = ([], 16)) := by
  refine ⟨fun ⟨h1, h2⟩ => aText_yes h1 h2, fun hn => aText_no fun t h1 h2 => ?_⟩
  obtain ⟨t', rfl, ht⟩ := h t (isText_ok h1) h2
  cases t' with
  | nil => rw [List.append_nil] at h1 h2; exact hn ⟨h1, h2⟩
  | cons c t' =>
    have := aSort_pos c (isText_ok h1 c (by simp))
    have e := congrArg List.length ht
    have e2 : aCodes (c :: t') = aSort c ++ aCodes t' := rfl
    rw [e2, List.length_append] at e
    simp at e
    omega

/-! ### as the reference reads -/
/-- The codes of a byte stand at the beginning. -/
def begB (l cs : List Int) : Bool := l.take cs.length == cs
theorem begB_iff (l cs : List Int) : begB l cs = true ↔ ∃ r, l = cs ++ r := by
  unfold begB
  rw [beq_iff_eq]
  constructor
  · intro h; exact ⟨l.drop cs.length, by conv => lhs; rw [← List.take_append_drop cs.length l, h]⟩
  · rintro ⟨r, rfl⟩; simp
/-- The byte that has the next codes; -1: none. -/
def nx (l : List Int) : Int := if tOkB (aFirst l).1 && begB l (aSort (aFirst l).1) && decide (0 < (aFirst l).2) then (aFirst l).1 else -1
theorem nx_beg {l : List Int} {c : Int} (hc : tOkB c = true) : begB l (aSort c) = true ↔ nx l = c := by
  constructor
  · intro h
    obtain ⟨r, rfl⟩ := (begB_iff _ _).1 h
    have h1 := aFirst_sort c r hc
    have h2 := aSort_pos c hc
    unfold nx
    rw [h1]
    simp only [hc, h, Bool.true_and, decide_eq_true_eq, h2, if_true]
  · intro h
    unfold nx at h
    split at h
    · rename_i h1
      rw [h] at h1
      simp only [Bool.and_eq_true] at h1
      exact h1.1.2
    · rw [← h] at hc
      exact absurd hc (by decide)
theorem nx_bd (l : List Int) : nx l = -1 ∨ (tOkB (nx l) = true ∧ begB l (aSort (nx l)) = true ∧ 10 ≤ nx l ∧ nx l ≤ 126) := by
  unfold nx
  split
  · rename_i h1
    simp only [Bool.and_eq_true] at h1
    refine .inr ⟨h1.1.1, h1.1.2, ?_⟩
    have := h1.1.1
    simp [tOkB] at this
    omega
  · exact .inl rfl
/-- What the reference has read. -/
def RMid (l t0 : List Int) (j : Nat) : Prop := (∀ c ∈ t0, tOkB c = true) ∧ aCodes t0 = l.take j ∧ j ≤ l.length
theorem cancel (t0 t r : List Int) (h0 : ∀ c ∈ t0, tOkB c = true) (h : ∀ c ∈ t, tOkB c = true) (he : aCodes t = aCodes t0 ++ r) : ∃ t', t = t0 ++ t' ∧ r = aCodes t' := by
  induction t0 generalizing t with
  | nil => exact ⟨t, rfl, by simpa [aCodes] using he.symm⟩
  | cons a t0 ih =>
    have ha := h0 a List.mem_cons_self
    have e0 : aCodes (a :: t0) = aSort a ++ aCodes t0 := rfl
    rw [e0, List.append_assoc] at he
    cases t with
    | nil =>
      have := aSort_pos a ha
      have e := congrArg List.length he
      simp only [aCodes, List.flatMap_nil, List.length_nil, List.length_append] at e
      omega
    | cons b t =>
      have hb := h b List.mem_cons_self
      have e1 : aCodes (b :: t) = aSort b ++ aCodes t := rfl
      rw [e1] at he
      have f1 := aFirst_sort b (aCodes t) hb
      have f2 := aFirst_sort a (aCodes t0 ++ r) ha
      rw [he, f2] at f1
      obtain rfl : a = b := congrArg Prod.fst f1
      obtain ⟨t', rfl, hr⟩ := ih t (fun c hc => h0 c (List.mem_cons_of_mem _ hc)) (fun c hc => h c (List.mem_cons_of_mem _ hc)) (List.append_cancel_left he)
      exact ⟨t', rfl, hr⟩
theorem RMid.start (l : List Int) : RMid l [] 0 := ⟨(fun c hc => by cases hc), by simp [aCodes], by omega⟩
theorem RMid.stop {l t0 : List Int} {j : Nat} (h : RMid l t0 j) (hj : j < l.length) (hn : nx (l.drop j) = -1) : aText l = ([], 16) := by
  refine aText_no fun t h1 h2 => ?_
  have h3 : aCodes t = aCodes t0 ++ l.drop j := by rw [h.2.1, List.take_append_drop, h2]
  obtain ⟨t', rfl, hr⟩ := cancel t0 t _ h.1 (isText_ok h1) h3
  cases t' with
  | nil =>
    have e := congrArg List.length hr
    rw [List.length_drop] at e
    simp [aCodes] at e
    omega
  | cons c t' =>
    have hc := isText_ok h1 c (by simp)
    have : begB (l.drop j) (aSort c) = true := (begB_iff _ _).2 ⟨aCodes t', hr⟩
    rw [nx_beg hc, hn] at this
    rw [← this] at hc
    revert hc; decide
theorem RMid.step {l t0 : List Int} {j : Nat} (h : RMid l t0 j) {c : Int} (hn : nx (l.drop j) = c) (hc : tOkB c = true) : RMid l (t0 ++ [c]) (j + (aSort c).length) := by
  have hb := (nx_beg hc).2 hn
  obtain ⟨r, hr⟩ := (begB_iff _ _).1 hb
  have hl := congrArg List.length hr
  rw [List.length_drop, List.length_append] at hl
  have hp := aSort_pos c hc
  refine ⟨fun x hx => ?_, ?_, by omega⟩
  · rcases List.mem_append.1 hx with hx | hx
    · exact h.1 x hx
    · rw [List.mem_singleton] at hx; rw [hx]; exact hc
  · rw [aCodes_snoc, h.2.1, List.take_add, hr]
    simp
theorem RMid.done {l t0 : List Int} (h : RMid l t0 l.length) : (isTextB t0 = true → aText l = (t0, 0)) ∧ (isTextB t0 = false → aText l = ([], 16)) := by
  have h2 : aCodes t0 = l := by rw [h.2.1, List.take_length]
  refine ⟨fun h1 => aText_yes h1 h2, fun h1 => aText_no fun t h3 h4 => ?_⟩
  have := aCodes_inj t t0 (isText_ok h3) h.1 (h4.trans h2.symm)
  rw [this, h1] at h3
  cases h3
end Go.Proofs.Ytianabgdggheiaa
