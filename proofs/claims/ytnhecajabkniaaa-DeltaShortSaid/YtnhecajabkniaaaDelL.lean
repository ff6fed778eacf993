/- The lengths of changes: of nothing changed, of one byte changed. Plain. -/
import Derived.Test.YtnhecajabkniaaaDelSpec
namespace Go.Proofs.Ytnhecajabkniaaa
set_option linter.unusedVariables false
theorem smB_past {a b : List Int} {i : Nat} (h : b.length ≤ i) : smB a b i = false := by
  unfold smB
  rw [decide_eq_false (p := i < b.length) (by omega)]
  simp
theorem nS_is (a b : List Int) : ∀ (k i : Nat), (∀ j, j < k → smB a b (i + j) = true) → smB a b (i + k) = false → nS a b i = k
  | 0, i, _, e => nS_no (by simpa using e)
  | k + 1, i, h, e => by
    rw [nS_yes (by simpa using h 0 (by omega)), nS_is a b k (i + 1) (fun j hj => by have := h (j + 1) (by omega); rwa [show i + 1 + j = i + (j + 1) from by omega]) (by rwa [show i + 1 + k = i + (k + 1) from by omega])]
theorem nD_is (a b : List Int) : ∀ (k i : Nat), (∀ j, j < k → stB a b (i + j) = true) → stB a b (i + k) = false → nD a b i = k
  | 0, i, _, e => nD_no (by simpa using e)
  | k + 1, i, h, e => by
    rw [nD_yes (by simpa using h 0 (by omega)), nD_is a b k (i + 1) (fun j hj => by have := h (j + 1) (by omega); rwa [show i + 1 + j = i + (j + 1) from by omega]) (by rwa [show i + 1 + k = i + (k + 1) from by omega])]
theorem stB_past {a b : List Int} {i : Nat} (h : b.length ≤ i) : stB a b i = false := by
  unfold stB
  rw [decide_eq_false (p := i < b.length) (by omega)]
  simp
theorem dBody_step (a b : List Int) (f i s d : Nat) (hi : i < b.length) (hs : nS a b i = s) (hd : nD a b (i + s) = d) :
    (dBody a b (f + 1) i).length = (sSize s).length + (sSize d).length + min d (b.length - (i + s)) + (dBody a b f (i + s + d)).length := by
  rw [dBody, if_pos hi, hs, hd]
  simp only [List.length_append, List.length_take, List.length_drop]
  omega
theorem sSize_le2 (n : Nat) (h : n ≤ 3000) : (sSize n).length ≤ 2 := by
  unfold sSize
  rw [Int.toNat_natCast, sSizeN]
  split
  · simp
  · rw [sSizeN, if_pos (by omega)]
    simp
theorem sSize_le1 (n : Nat) (h : n < 128) : (sSize n).length ≤ 1 := by
  unfold sSize
  rw [Int.toNat_natCast, sSizeN, if_pos h]
  simp
theorem dMake_same_len (a : List Int) (h : a ≠ []) (hl : a.length ≤ 3000) : 3 ≤ (dMake a a).length ∧ (dMake a a).length ≤ 5 := by
  have hp : 0 < a.length := List.length_pos_iff.2 h
  have h1 := dBody_step a a a.length 0 a.length 0 hp (nS_is a a a.length 0 (fun j hj => by simp [smB]; omega) (by simpa using smB_past (Nat.le_refl _))) (nD_no (stB_past (by omega)))
  rw [dBody_end a a a.length _ (by omega)] at h1
  have h2 := sSize_le2 a.length hl
  have h3 := sSize_pos a.length
  have h4 := sSize_le1 0 (by omega)
  have h5 := sSize_pos 0
  unfold dMake
  rw [List.length_append, h1]
  simp only [List.length_nil]
  omega
theorem smB_set (a : List Int) (p : Nat) (x : Int) (i : Nat) (h : i ≠ p) (hi : i < a.length) : smB a (a.set p x) i = true := by
  unfold smB
  rw [List.getD_eq_getElem?_getD, List.getD_eq_getElem?_getD, List.getElem?_set_ne (Ne.symm h)]
  simp [hi]
theorem dMake_one_len (a : List Int) (p : Nat) (x : Int) (hp : p < a.length) (hl : a.length ≤ 3000) :
    3 ≤ (dMake a (a.set p x)).length ∧ (dMake a (a.set p x)).length ≤ 10 := by
  by_cases hx : a.getD p 0 = x
  · have : a.set p x = a := by
      rw [← hx]
      apply List.ext_getElem?
      intro i
      by_cases hi : i = p
      · subst hi; simp [hp, List.getD_eq_getElem?_getD]
      · rw [List.getElem?_set_ne (Ne.symm hi)]
    rw [this]
    have := dMake_same_len a (by intro h; subst h; simp at hp) hl
    omega
  · have hb : (a.set p x).length = a.length := List.length_set
    have hpf : smB a (a.set p x) p = false := by
      unfold smB
      simp [List.getD_eq_getElem?_getD, hp]
      simpa [List.getD_eq_getElem?_getD, hp] using hx
    have s1 : nS a (a.set p x) 0 = p := nS_is a _ p 0 (fun j hj => by rw [Nat.zero_add]; exact smB_set a p x j (by omega) (by omega)) (by simpa using hpf)
    have t1 : stB a (a.set p x) p = true := by unfold stB; rw [hpf]; simpa using hp
    have l0 := sSize_pos a.length
    have l1 := sSize_le2 a.length hl
    have l2 := sSize_le2 p (by omega)
    have l3 := sSize_pos p
    have l4 := sSize_le1 1 (by omega)
    have l5 := sSize_le1 2 (by omega)
    have l6 := sSize_le1 0 (by omega)
    have l7 := sSize_pos 1
    unfold dMake
    rw [List.length_append, hb]
    by_cases h2 : p + 2 < a.length
    · have d1 : nD a (a.set p x) p = 1 := nD_is a _ 1 p (fun j hj => by rw [show p + j = p from by omega]; exact t1) (by
        unfold stB
        rw [smB_set a p x (p + 1) (by omega) (by omega), smB_set a p x (p + 1 + 1) (by omega) (by omega)]; simp)
      have e1 := dBody_step a (a.set p x) a.length 0 p 1 (by omega) s1 (by rw [Nat.zero_add]; exact d1)
      have s2 : nS a (a.set p x) (p + 1) = a.length - (p + 1) := nS_is a _ _ _ (fun j hj => smB_set a p x _ (by omega) (by omega)) (smB_past (by omega))
      have l8 := sSize_le2 (a.length - (p + 1)) (by omega)
      obtain ⟨f, hf⟩ : ∃ f, a.length = f + 1 := ⟨a.length - 1, by omega⟩
      have e2 := dBody_step a (a.set p x) f (p + 1) (a.length - (p + 1)) 0 (by omega) s2 (nD_no (stB_past (by omega)))
      rw [dBody_end a _ f _ (by omega), ← hf] at e2
      rw [Nat.zero_add, e2] at e1
      rw [e1]
      simp only [List.length_nil]
      omega
    · by_cases h3 : p + 1 < a.length
      · have d1 : nD a (a.set p x) p = 2 := nD_is a _ 2 p (fun j hj => by
          by_cases hj0 : j = 0
          · subst hj0; exact t1
          · rw [show p + j = p + 1 from by omega]
            unfold stB
            rw [smB_past (i := p + 1 + 1) (by omega)]
            simp; omega) (stB_past (by omega))
        have e1 := dBody_step a (a.set p x) a.length 0 p 2 (by omega) s1 (by rw [Nat.zero_add]; exact d1)
        rw [dBody_end a _ a.length _ (by omega)] at e1
        rw [e1]
        simp only [List.length_nil]
        omega
      · have d1 : nD a (a.set p x) p = 1 := nD_is a _ 1 p (fun j hj => by rw [show p + j = p from by omega]; exact t1) (stB_past (by omega))
        have e1 := dBody_step a (a.set p x) a.length 0 p 1 (by omega) s1 (by rw [Nat.zero_add]; exact d1)
        rw [dBody_end a _ a.length _ (by omega)] at e1
        rw [e1]
        simp only [List.length_nil]
        omega
end Go.Proofs.Ytnhecajabkniaaa
