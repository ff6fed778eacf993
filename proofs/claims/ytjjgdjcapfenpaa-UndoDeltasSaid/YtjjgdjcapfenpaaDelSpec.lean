/- Chapter 45 as plain lists of numbers: what makes bytes of others. No program stands in this text. -/
import Derived.Test.YtjjgdjcapfenpaaWsc
namespace Go.Proofs.Ytjjgdjcapfenpaa
set_option linter.unusedVariables false

/-- The byte is the same in both. -/
def smB (a b : List Int) (i : Nat) : Bool := decide (i < a.length) && (decide (i < b.length) && (a.getD i 0 == b.getD i 0))
theorem smB_lt {a b : List Int} {i : Nat} (h : smB a b i = true) : i < a.length ∧ i < b.length ∧ a.getD i 0 = b.getD i 0 := by
  simpa [smB] using h
/-- How many from i on are the same. -/
def runS (a b : List Int) : Nat → Nat → Nat
  | 0, _ => 0
  | f + 1, i => if smB a b i = true then runS a b f (i + 1) + 1 else 0
def nS (a b : List Int) (i : Nat) : Nat := runS a b (b.length - i) i
def stB (a b : List Int) (i : Nat) : Bool := decide (i < b.length) && !(smB a b i && smB a b (i + 1))
/-- How many from i on are told. -/
def runD (a b : List Int) : Nat → Nat → Nat
  | 0, _ => 0
  | f + 1, i => if stB a b i = true then runD a b f (i + 1) + 1 else 0
def nD (a b : List Int) (i : Nat) : Nat := runD a b (b.length - i) i
theorem nS_yes {a b : List Int} {i : Nat} (h : smB a b i = true) : nS a b i = nS a b (i + 1) + 1 := by
  have hl := (smB_lt h).2.1
  unfold nS
  obtain ⟨f, hf⟩ : ∃ f, b.length - i = f + 1 := ⟨b.length - i - 1, by omega⟩
  rw [hf, runS, if_pos h, show b.length - (i + 1) = f from by omega]
theorem nS_no {a b : List Int} {i : Nat} (h : smB a b i = false) : nS a b i = 0 := by
  unfold nS
  cases b.length - i with
  | zero => rfl
  | succ f => rw [runS, if_neg (by rw [h]; simp)]
theorem stB_lt {a b : List Int} {i : Nat} (h : stB a b i = true) : i < b.length := by
  unfold stB at h
  simp at h
  exact h.1
theorem nD_yes {a b : List Int} {i : Nat} (h : stB a b i = true) : nD a b i = nD a b (i + 1) + 1 := by
  have hl := stB_lt h
  unfold nD
  obtain ⟨f, hf⟩ : ∃ f, b.length - i = f + 1 := ⟨b.length - i - 1, by omega⟩
  rw [hf, runD, if_pos h, show b.length - (i + 1) = f from by omega]
theorem nD_no {a b : List Int} {i : Nat} (h : stB a b i = false) : nD a b i = 0 := by
  unfold nD
  cases b.length - i with
  | zero => rfl
  | succ f => rw [runD, if_neg (by rw [h]; simp)]
theorem runS_le (a b : List Int) : ∀ f i, runS a b f i ≤ f
  | 0, _ => Nat.le_refl _
  | f + 1, i => by
    unfold runS
    split
    · have := runS_le a b f (i + 1); omega
    · omega
theorem runD_le (a b : List Int) : ∀ f i, runD a b f i ≤ f
  | 0, _ => Nat.le_refl _
  | f + 1, i => by
    unfold runD
    split
    · have := runD_le a b f (i + 1); omega
    · omega
theorem nS_le (a b : List Int) (i : Nat) : nS a b i ≤ b.length - i := runS_le a b _ i
theorem nD_le (a b : List Int) (i : Nat) : nD a b i ≤ b.length - i := runD_le a b _ i
/-- What follows the number of bytes. -/
def dBody (a b : List Int) : Nat → Nat → List Int
  | 0, _ => []
  | f + 1, i => if i < b.length then
      sSize (nS a b i) ++ (sSize (nD a b (i + nS a b i)) ++ ((b.drop (i + nS a b i)).take (nD a b (i + nS a b i)) ++ dBody a b f (i + nS a b i + nD a b (i + nS a b i)))) else []
def dMake (a b : List Int) : List Int := sSize b.length ++ dBody a b (b.length + 1) 0
theorem dBody_end (a b : List Int) (f i : Nat) (h : ¬ i < b.length) : dBody a b f i = [] := by
  cases f with
  | zero => rfl
  | succ f => rw [dBody, if_neg h]
theorem progress (a b : List Int) (i : Nat) (h : i < b.length) : 1 ≤ nS a b i + nD a b (i + nS a b i) := by
  by_cases hs : smB a b i = true
  · rw [nS_yes hs]; omega
  · have hs' : smB a b i = false := by simpa using hs
    rw [nS_no hs', Nat.add_zero]
    have hd : stB a b i = true := by unfold stB; rw [hs']; simpa using h
    rw [nD_yes hd]; omega
theorem sSize_pos (n : Nat) : 1 ≤ (sSize n).length := by
  unfold sSize
  rw [sSizeN]
  split <;> simp
theorem sSize_le9 (n : Nat) (h : n ≤ 9223372036854775807) : (sSize n).length ≤ 9 := sSize_len n (by omega)
theorem dBody_len (a b : List Int) (hb : b.length ≤ 100000000) : ∀ f i, (dBody a b f i).length ≤ 20 * (b.length - i)
  | 0, _ => by simp [dBody]
  | f + 1, i => by
    unfold dBody
    split
    · rename_i h
      have h1 := nS_le a b i
      have h2 := nD_le a b (i + nS a b i)
      have h3 := progress a b i h
      have h4 := dBody_len a b hb f (i + nS a b i + nD a b (i + nS a b i))
      have h5 := sSize_le9 (nS a b i) (by omega)
      have h6 := sSize_le9 (nD a b (i + nS a b i)) (by omega)
      simp only [List.length_append, List.length_take, List.length_drop]
      omega
    · simp
theorem dMake_len (a b : List Int) (hb : b.length ≤ 100000000) : (dMake a b).length ≤ 20 * b.length + 9 := by
  have h1 := dBody_len a b hb (b.length + 1) 0
  have h2 := sSize_le9 b.length (by omega)
  unfold dMake
  rw [List.length_append]
  omega
theorem sSize_byt (n : Nat) : Byt (sSize n) := by
  unfold sSize
  rw [Int.toNat_natCast]
  induction n using Nat.strongRecOn with
  | _ n ih =>
    rw [sSizeN]
    split
    · intro x hx
      simp at hx
      omega
    · rename_i h
      intro x hx
      rcases List.mem_cons.1 hx with rfl | hx
      · omega
      · exact ih (n / 128) (by omega) x hx
theorem dBody_byt (a b : List Int) (hb : Byt b) : ∀ f i, Byt (dBody a b f i)
  | 0, _ => Byt.nil
  | f + 1, i => by
    unfold dBody
    split
    · exact (sSize_byt _).append ((sSize_byt _).append (((hb.drop _).take _).append (dBody_byt a b hb f _)))
    · exact Byt.nil
theorem dMake_byt (a b : List Int) (hb : Byt b) : Byt (dMake a b) := (sSize_byt _).append (dBody_byt a b hb _ _)

/-! ### applied -/
/-- From a place on, with what has been made: what is made in the end, the place, the error. -/
def dLoop (a d : List Int) (n : Nat) : Nat → Int → List Int → List Int × Int × Int
  | 0, p, out => (out, p, 0)
  | f + 1, p, out =>
    if out.length < n then
      if (sTS d p 0 65536).2.2 ≠ 0 then (out, 0, (sTS d p 0 65536).2.2)
      else if min ((n : Int) - out.length) (max 0 ((a.length : Int) - out.length)) < (sTS d p 0 65536).1 then (out, 0, 5)
      else
        let out1 := out ++ (a.drop out.length).take (sTS d p 0 65536).1.toNat
        let p1 := (sTS d p 0 65536).2.1
        if (sTS d p1 0 65536).2.2 ≠ 0 then (out, 0, (sTS d p1 0 65536).2.2)
        else if (n : Int) - out1.length < (sTS d p1 0 65536).1 then (out, 0, 5)
        else if (d.length : Int) - (sTS d p1 0 65536).2.1 < (sTS d p1 0 65536).1 then (out, 0, 2)
        else dLoop a d n f ((sTS d p1 0 65536).2.1 + (sTS d p1 0 65536).1) (out1 ++ (d.drop (sTS d p1 0 65536).2.1.toNat).take (sTS d p1 0 65536).1.toNat)
    else (out, p, 0)
/-- The bytes that are made, or the error. -/
def dApp (a d : List Int) : List Int × Int :=
  if (sTS d 0 0 65536).2.2 ≠ 0 then ([], (sTS d 0 0 65536).2.2)
  else
    let R := dLoop a d (sTS d 0 0 65536).1.toNat (d.length + 1) (sTS d 0 0 65536).2.1 []
    if R.2.2 ≠ 0 then ([], R.2.2) else if R.2.1 < d.length then ([], 3) else if dMake a R.1 = d then (R.1, 0) else ([], 4)
/-- How far a size reaches. -/
theorem sGrp_ok (xs : List Int) (at0 most : Int) (h0 : 0 ≤ at0) : ∀ (f k : Nat) (n s p : Int), sGrp xs at0 most f k n = (s, p, 0) → at0 < p ∧ p ≤ xs.length ∧ s ≤ most
  | 0, _, _, _, _, h => by simp [sGrp] at h
  | f + 1, k, n, s, p, h => by
    unfold sGrp at h
    split at h
    · simp at h
    · rename_i hl
      split at h
      · simp at h
      · split at h
        · split at h
          · simp at h
          · rename_i hm
            simp only [Prod.mk.injEq, and_true] at h
            unfold sLacks at hl
            omega
        · exact sGrp_ok xs at0 most h0 f (k + 1) _ s p h
theorem sTS_ok (xs : List Int) (hb : Byt xs) (p most : Int) (h0 : 0 ≤ p) (h : (sTS xs p 0 most).2.2 = 0) :
    p < (sTS xs p 0 most).2.1 ∧ (sTS xs p 0 most).2.1 ≤ xs.length ∧ 0 ≤ (sTS xs p 0 most).1 ∧ (sTS xs p 0 most).1 ≤ most := by
  have h1 := sTS_bound xs hb p 0 most
  obtain ⟨s, q, e, hS⟩ : ∃ s q e, sTS xs p 0 most = (s, q, e) := ⟨_, _, _, rfl⟩
  rw [hS] at h h1 ⊢
  simp only at h h1 ⊢
  subst h
  unfold sTS at hS
  rw [if_neg (by simp)] at hS
  have := sGrp_ok xs p most h0 6 0 0 s q hS
  exact ⟨this.1, this.2.1, h1.1, this.2.2⟩
theorem sGrp_err (xs : List Int) (at0 most : Int) : ∀ (f k : Nat) (n : Int), 0 ≤ (sGrp xs at0 most f k n).2.2 ∧ (sGrp xs at0 most f k n).2.2 ≤ 5
  | 0, _, _ => by simp [sGrp]
  | f + 1, k, n => by
    unfold sGrp
    split
    · simp
    · split
      · simp
      · split
        · split <;> simp
        · exact sGrp_err xs at0 most f (k + 1) _
/-! ### what is made is applied -/
theorem smB_run (a b : List Int) : ∀ (f i : Nat), (a.drop i).take (runS a b f i) = (b.drop i).take (runS a b f i) ∧ (runS a b f i = 0 ∨ i + runS a b f i ≤ a.length)
  | 0, i => by simp [runS]
  | f + 1, i => by
    unfold runS
    split
    · rename_i h
      obtain ⟨h1, h2, h3⟩ := smB_lt h
      have ih := smB_run a b f (i + 1)
      refine ⟨?_, .inr ?_⟩
      · rw [List.drop_eq_getElem_cons h1, List.drop_eq_getElem_cons h2, List.take_succ_cons, List.take_succ_cons, ih.1]
        congr 1
        simpa [List.getD, h1, h2] using h3
      · rcases ih.2 with h | h <;> omega
    · exact ⟨by simp, .inl rfl⟩
theorem take_more (b : List Int) (i k : Nat) : b.take i ++ (b.drop i).take k = b.take (i + k) := by rw [List.take_add]
theorem dLoop_back (a b : List Int) (hb : Byt b) (hbl : b.length ≤ 65536) : ∀ (f f' i : Nat) (pre : List Int), b.length < i + f → i ≤ b.length → (dBody a b f i).length < f' →
    dLoop a (pre ++ dBody a b f i) b.length f' (pre.length : Int) (b.take i) = (b, (((pre ++ dBody a b f i).length : Nat) : Int), 0)
  | 0, f', i, pre, h, hi, _ => by omega
  | f + 1, 0, i, pre, h, hi, hf => by omega
  | f + 1, f' + 1, i, pre, h, hi, hf => by
    have htl : (b.take i).length = i := by rw [List.length_take]; omega
    by_cases hlt : i < b.length
    · have hrun := smB_run a b (b.length - i) i
      have h1 := nS_le a b i
      have h2 := nD_le a b (i + nS a b i)
      have h3 := progress a b i hlt
      change (a.drop i).take (nS a b i) = (b.drop i).take (nS a b i) ∧ (nS a b i = 0 ∨ i + nS a b i ≤ a.length) at hrun
      rw [dBody, if_pos hlt] at hf ⊢
      have ih := fun pre' f'' => dLoop_back a b hb hbl f f'' (i + nS a b i + nD a b (i + nS a b i)) pre' (by omega) (by omega)
      generalize dBody a b f (i + nS a b i + nD a b (i + nS a b i)) = tl at *
      generalize hk : nD a b (i + nS a b i) = k at *
      generalize nS a b i = n at *
      have s1 := sSize_pos n
      have s2 := sSize_pos k
      have t1 := sTS_back pre (sSize k ++ ((b.drop (i + n)).take k ++ tl)) n 65536 (by omega) (by omega)
      have t2 := sTS_back (pre ++ sSize n) ((b.drop (i + n)).take k ++ tl) k 65536 (by omega) (by omega)
      rw [List.length_append, List.append_assoc] at t2
      rw [dLoop, htl, if_pos hlt]
      simp only [t1, ne_eq, not_true_eq_false, if_false, t2]
      rw [if_neg (by rcases hrun.2 with hz | hz <;> omega)]
      have o1 : b.take i ++ (a.drop i).take ((n : Int)).toNat = b.take (i + n) := by rw [Int.toNat_natCast, hrun.1, take_more]
      rw [o1]
      have hl1 : (b.take (i + n)).length = i + n := by rw [List.length_take]; omega
      rw [hl1, if_neg (by omega)]
      have hdk : ((b.drop (i + n)).take k).length = k := by rw [List.length_take, List.length_drop]; omega
      rw [if_neg (by simp only [List.length_append, hdk]; omega)]
      have hd : (pre ++ (sSize n ++ (sSize k ++ ((b.drop (i + n)).take k ++ tl)))).drop (((pre.length + (sSize n).length + (sSize k).length : Nat) : Int)).toNat = (b.drop (i + n)).take k ++ tl := by
        rw [Int.toNat_natCast, show pre ++ (sSize n ++ (sSize k ++ ((b.drop (i + n)).take k ++ tl))) = (pre ++ sSize n ++ sSize k) ++ ((b.drop (i + n)).take k ++ tl) from by simp,
          show pre.length + (sSize n).length + (sSize k).length = (pre ++ sSize n ++ sSize k).length from by simp; omega, List.drop_left]
      rw [hd, Int.toNat_natCast, show ((b.drop (i + n)).take k ++ tl).take k = (b.drop (i + n)).take k from by
        have := List.take_left (l₁ := (b.drop (i + n)).take k) (l₂ := tl)
        rwa [hdk] at this, take_more]
      have := ih (pre ++ sSize n ++ sSize k ++ (b.drop (i + n)).take k) f' (by simp only [List.length_append] at hf; omega)
      rw [show ((pre.length + (sSize n).length + (sSize k).length : Nat) : Int) + (k : Int) = ((pre ++ sSize n ++ sSize k ++ (b.drop (i + n)).take k).length : Int) from by simp only [List.length_append, hdk]; omega]
      rw [show pre ++ (sSize n ++ (sSize k ++ ((b.drop (i + n)).take k ++ tl))) = pre ++ sSize n ++ sSize k ++ (b.drop (i + n)).take k ++ tl from by simp]
      exact this
    · have he : dBody a b (f + 1) i = [] := dBody_end a b _ i hlt
      have hib : i = b.length := by omega
      subst hib
      rw [he, dLoop, htl, if_neg (by omega), List.take_length]
      simp
theorem dApp_back (a b : List Int) (hb : Byt b) (hbl : b.length ≤ 65536) : dApp a (dMake a b) = (b, 0) := by
  have t0 := sTS_back [] (dBody a b (b.length + 1) 0) b.length 65536 (by omega) (by omega)
  simp only [List.nil_append, List.length_nil] at t0
  have hS : sTS (dMake a b) 0 0 65536 = ((b.length : Int), (((sSize b.length).length : Nat) : Int), 0) := by
    unfold dMake
    simpa using t0
  have hL := dLoop_back a b hb hbl (b.length + 1) ((dMake a b).length + 1) 0 (sSize b.length) (by omega) (by omega) (by unfold dMake; rw [List.length_append]; omega)
  rw [List.take_zero] at hL
  change dLoop a (dMake a b) b.length ((dMake a b).length + 1) ((sSize b.length).length : Int) [] = (b, ((dMake a b).length : Int), 0) at hL
  unfold dApp
  simp only [hS, ne_eq, not_true_eq_false, if_false, Int.toNat_natCast, hL]
  rw [if_neg (by omega), if_pos True.intro]
/-- What Size tells. -/
def dSize (d : List Int) : Int := (sTS d 0 0 65536).1
theorem dSize_make (a b : List Int) (hbl : b.length ≤ 65536) : dSize (dMake a b) = b.length := by
  have t0 := sTS_back [] (dBody a b (b.length + 1) 0) b.length 65536 (by omega) (by omega)
  simp only [List.nil_append, List.length_nil] at t0
  unfold dSize dMake
  have t1 : sTS (sSize b.length ++ dBody a b (b.length + 1) 0) 0 0 65536 = _ := t0
  rw [t1]
theorem dMake_inj (a b c : List Int) (hb : Byt b) (hc : Byt c) (hbl : b.length ≤ 65536) (hcl : c.length ≤ 65536) (h : dMake a b = dMake a c) : b = c := by
  have h1 := dApp_back a b hb hbl
  rw [h, dApp_back a c hc hcl] at h1
  exact (Prod.mk.inj h1).1.symm
end Go.Proofs.Ytjjgdjcapfenpaa
