/- Chapter 7 as plain data: what the chosen abbreviations save. No program is walked in this text. -/
import Derived.Test.YtfbpbpapfkimfaaDoorBce
namespace Go.Proofs.YtfbpbpapfkimfaaDoor
open Go.RowKit
set_option linter.unusedVariables false
theorem ex_in {p : ByteArray} {fr i a b : Nat} (hi : i ≤ p.size) (h : fr + b ≤ i) : (p.extract fr i).extract a b = p.extract (fr + a) (fr + b) := by
  refine tB_inj ?_
  rw [tB_extract, tB_extract, tB_extract]
  rw [List.take_drop, List.drop_drop, List.take_take, Nat.min_eq_left (by omega)]
theorem ex_insz {p : ByteArray} {fr i : Nat} (h : fr ≤ i) (hi : i ≤ p.size) : (p.extract fr i).size = i - fr := by rw [ByteArray.size_extract]; omega
theorem ls_byte {p : ByteArray} {ab : List ByteArray} {i : Nat} (h : i < p.size) : (lsL p ab).getD i 0 ≤ costS (p.extract i (i + 1)) + (lsL p ab).getD (i + 1) 0 := by
  have hm := lsK_mono p ab i (lsL p ab) 0 ab.length
  rw [Nat.zero_add] at hm
  rw [lsL_at h]
  exact hm
theorem ls_abbr {p : ByteArray} {ab : List ByteArray} {i k : Nat} (hf : fitsB p i ab k = true) (hk : k < ab.length) : (lsL p ab).getD i 0 ≤ 2 + (lsL p ab).getD (i + (ab.getD k ByteArray.empty).size) 0 := by
  have h := fits_in hf
  have h1 : lsK p ab i (lsL p ab) (k + 1) ≤ 2 + (lsL p ab).getD (i + (ab.getD k ByteArray.empty).size) 0 := by
    show (if _ then _ else _) ≤ _
    split
    · exact Int.le_refl _
    · rename_i hn
      have : ¬ 2 + (lsL p ab).getD (i + (ab.getD k ByteArray.empty).size) 0 < lsK p ab i (lsL p ab) k := fun h => hn ⟨hf, h⟩
      omega
  have h2 := lsK_mono p ab i (lsL p ab) (k + 1) (ab.length - (k + 1))
  rw [show k + 1 + (ab.length - (k + 1)) = ab.length from by omega] at h2
  rw [lsL_at (by omega)]
  omega
/-- A cut of a part, and then of what is behind it. -/
theorem ls_join {p : ByteArray} {ab : List ByteArray} {fr i : Nat} (hfi : fr ≤ i) (hi : i ≤ p.size) : ∀ (n d : Nat), d ≤ n → d ≤ i - fr → (lsL p ab).getD (i - d) 0 ≤ (lsL (p.extract fr i) ab).getD (i - fr - d) 0 + (lsL p ab).getD i 0 := by
  have hsz := ex_insz hfi hi
  intro n
  induction n with
  | zero =>
    intro d hd hdi
    have : d = 0 := by omega
    subst this
    have := lsL_end (p.extract fr i) ab
    rw [hsz] at this
    rw [Nat.sub_zero, Nat.sub_zero, this]
    omega
  | succ n ih =>
    intro d hd hdi
    rcases Nat.eq_zero_or_pos d with e | e
    · exact ih d (by omega) hdi
    have hj : i - fr - d < (p.extract fr i).size := by omega
    by_cases ht : tkL (p.extract fr i) ab (i - fr - d) = 0
    · have h1 := (tk_zero (ab := ab) hj).1 ht
      have h2 := ls_byte (p := p) (ab := ab) (i := i - d) (by omega)
      have h3 := ih (d - 1) (by omega) (by omega)
      rw [ex_in hi (by omega), show fr + (i - fr - d) = i - d from by omega, show fr + (i - fr - d + 1) = i - d + 1 from by omega, show i - fr - d + 1 = i - fr - (d - 1) from by omega] at h1
      rw [show i - d + 1 = i - (d - 1) from by omega] at h1 h2
      omega
    · obtain ⟨g1, g2, g3⟩ := tk_first hj ht
      obtain ⟨_, _, k3, _⟩ := tkK_first (p.extract fr i) ab (i - fr - d) (lsL (p.extract fr i) ab) ab.length ht
      have k3' : 2 + (lsL (p.extract fr i) ab).getD (i - fr - d + (ab.getD (tkL (p.extract fr i) ab (i - fr - d) - 1) ByteArray.empty).size) 0 = (lsL (p.extract fr i) ab).getD (i - fr - d) 0 := by rw [lsL_at hj]; exact k3
      generalize tkL (p.extract fr i) ab (i - fr - d) = T at *
      have g4 := fits_in g1
      have g5 : fitsB p (i - d) ab (T - 1) = true := by
        unfold fitsB at g1 ⊢
        simp only [Bool.and_eq_true, decide_eq_true_eq] at g1 ⊢
        refine ⟨⟨g1.1.1, by omega⟩, ?_⟩
        have := g1.2
        rw [ex_in hi (by omega), show fr + (i - fr - d) = i - d from by omega, show fr + (i - fr - d + (ab.getD (T - 1) ByteArray.empty).size) = i - d + (ab.getD (T - 1) ByteArray.empty).size from by omega] at this
        exact this
      have h2 := ls_abbr g5 (by omega)
      have h3 := ih (d - (ab.getD (T - 1) ByteArray.empty).size) (by omega) (by omega)
      rw [show i - fr - (d - (ab.getD (T - 1) ByteArray.empty).size) = i - fr - d + (ab.getD (T - 1) ByteArray.empty).size from by omega, show i - (d - (ab.getD (T - 1) ByteArray.empty).size) = i - d + (ab.getD (T - 1) ByteArray.empty).size from by omega] at h3
      omega
theorem ls_two {p : ByteArray} {ab : List ByteArray} {fr i : Nat} (hfi : fr ≤ i) (hi : i ≤ p.size) : (lsL p ab).getD fr 0 ≤ (lsL (p.extract fr i) ab).getD 0 0 + (lsL p ab).getD i 0 := by
  have := ls_join (ab := ab) hfi hi (i - fr) (i - fr) (Nat.le_refl _) (Nat.le_refl _)
  rwa [show i - (i - fr) = fr from by omega, Nat.sub_self] at this
def sumL (ab : List ByteArray) (l : List ByteArray) : Int := (l.map fun p => (lsL p ab).getD 0 0).sum
def sumC (l : List ByteArray) : Int := (l.map costS).sum
theorem sumL_app (ab a b : List ByteArray) : sumL ab (a ++ b) = sumL ab a + sumL ab b := by unfold sumL; simp
theorem sumC_app (a b : List ByteArray) : sumC (a ++ b) = sumC a + sumC b := by unfold sumC; simp
theorem sumL_one (ab : List ByteArray) (p : ByteArray) : sumL ab [p] = (lsL p ab).getD 0 0 := by unfold sumL; simp
theorem sumC_one (p : ByteArray) : sumC [p] = costS p := by unfold sumC; simp
theorem stands_fits {p : ByteArray} {ab : List ByteArray} {i k : Nat} (hk : k < 32) (h0 : 0 < (ab.getD k ByteArray.empty).size) (h1 : i + (ab.getD k ByteArray.empty).size ≤ p.size) (h2 : p.extract i (i + (ab.getD k ByteArray.empty).size) = ab.getD k ByteArray.empty) : fitsB p i ab k = true := by
  unfold fitsB
  simp only [Bool.and_eq_true, decide_eq_true_eq]
  exact ⟨⟨⟨hk, h0⟩, h1⟩, h2⟩
/-- What is cut at the places of a row that is among the abbreviations. -/
theorem wo_least {p r : ByteArray} {ab : List ByteArray} {k : Nat} (hr : ab.getD k ByteArray.empty = r) (hk : k < 32) (hka : k < ab.length) (h0 : 0 < r.size) : ∀ (f i fr : Nat) (out : List ByteArray), p.size < f + i → fr ≤ i → i ≤ p.size →
    sumL ab out + (lsL p ab).getD fr 0 + 2 * (out.length : Int) + 2 ≤ sumL ab (woF p r f i fr out) + 2 * ((woF p r f i fr out).length : Int)
  | 0, i, fr, out, h1, h2, h3 => by omega
  | f + 1, i, fr, out, h1, h2, h3 => by
    have stop : sumL ab out + (lsL p ab).getD fr 0 + 2 * (out.length : Int) + 2 ≤ sumL ab (out ++ [p.extract fr p.size]) + 2 * ((out ++ [p.extract fr p.size]).length : Int) := by
      have h4 := ls_two (p := p) (ab := ab) (fr := fr) (i := p.size) (by omega) (Nat.le_refl _)
      rw [lsL_end] at h4
      rw [sumL_app, sumL_one, List.length_append, List.length_singleton]
      omega
    unfold woF
    by_cases c1 : i + r.size ≤ p.size
    · rw [if_pos c1]
      by_cases c2 : p.extract i (i + r.size) = r
      · rw [if_pos c2]
        have ih := wo_least (p := p) hr hk hka h0 f (i + r.size) (i + r.size) (out ++ [p.extract fr i]) (by omega) (Nat.le_refl _) c1
        have h4 := ls_two (p := p) (ab := ab) (fr := fr) (i := i) h2 h3
        have h5 := ls_abbr (p := p) (ab := ab) (i := i) (k := k) (stands_fits hk (by rw [hr]; exact h0) (by rw [hr]; exact c1) (by rw [hr]; exact c2)) hka
        rw [hr] at h5
        rw [sumL_app, sumL_one, List.length_append, List.length_singleton] at ih
        omega
      · rw [if_neg c2]
        exact wo_least hr hk hka h0 f (i + 1) fr out (by omega) (by omega) (by omega)
    · rw [if_neg c1]
      exact stop
theorem cost_empty_ex (p : ByteArray) : costS (p.extract p.size p.size) = 0 := cost_ex0
/-- What is left, and what was taken out, cost what there was. -/
theorem wo_cost {p r : ByteArray} (h0 : 0 < r.size) : ∀ (f i fr : Nat) (out : List ByteArray) (n : Int), p.size < f + i → fr ≤ i → i ≤ p.size →
    cntF p r f i n = n + ((woF p r f i fr out).length : Int) - (out.length : Int) - 1 ∧ sumC out + costS (p.extract fr p.size) + costS r * n = sumC (woF p r f i fr out) + costS r * (n + n - cntF p r f i n + 2 * (cntF p r f i n - n))
  | 0, i, fr, out, n, h1, h2, h3 => by omega
  | f + 1, i, fr, out, n, h1, h2, h3 => by
    have stop : n = n + ((out ++ [p.extract fr p.size]).length : Int) - (out.length : Int) - 1 ∧ sumC out + costS (p.extract fr p.size) + costS r * n = sumC (out ++ [p.extract fr p.size]) + costS r * (n + n - n + 2 * (n - n)) := by
      rw [sumC_app, sumC_one, List.length_append, List.length_singleton, show n + n - n + 2 * (n - n) = n from by omega]
      omega
    unfold woF cntF
    by_cases c1 : i + r.size ≤ p.size
    · rw [if_pos c1, if_pos c1]
      by_cases c2 : p.extract i (i + r.size) = r
      · rw [if_pos c2, if_pos c2]
        obtain ⟨ih1, ih2⟩ := wo_cost (p := p) h0 f (i + r.size) (i + r.size) (out ++ [p.extract fr i]) (n + 1) (by omega) (Nat.le_refl _) c1
        have e1 := cost_ex (s := p) (a := fr) (b := i) (c := p.size) h2 h3 (Nat.le_refl _)
        have e2 := cost_ex (s := p) (a := i) (b := i + r.size) (c := p.size) (by omega) c1 (Nat.le_refl _)
        rw [c2] at e2
        rw [sumC_app, sumC_one] at ih2
        rw [List.length_append, List.length_singleton] at ih1
        refine ⟨by omega, ?_⟩
        generalize cntF p r f (i + r.size) (n + 1) = N at *
        have a1 : costS r * (n + 1) = costS r * n + costS r := by rw [Int.mul_add, Int.mul_one]
        have a2 : n + 1 + (n + 1) - N + 2 * (N - (n + 1)) = n + n - N + 2 * (N - n) := by omega
        rw [a1, a2] at ih2
        omega
      · rw [if_neg c2, if_neg c2]
        exact wo_cost h0 f (i + 1) fr out n (by omega) (by omega) (by omega)
    · rw [if_neg c1, if_neg c1]
      exact stop
theorem take_more {l : List ByteArray} {k : Nat} (hk : k < l.length) : l.take (k + 1) = l.take k ++ [l.getD k ByteArray.empty] := by rw [List.take_add_one]; simp [hk]
theorem woA_sums {l ab : List ByteArray} {r : ByteArray} {m : Nat} (hr : ab.getD m ByteArray.empty = r) (hm : m < 32) (hma : m < ab.length) (h0 : 0 < r.size) : ∀ k, k ≤ l.length →
    cntA l r k = ((woA l r k).length : Int) - k ∧ sumC (l.take k) = sumC (woA l r k) + costS r * cntA l r k ∧ sumL ab (l.take k) ≤ sumL ab (woA l r k) + 2 * cntA l r k
  | 0, _ => by
    refine ⟨rfl, ?_, ?_⟩
    · show (0 : Int) = 0 + costS r * 0
      omega
    · show (0 : Int) ≤ 0 + 2 * 0
      omega
  | k + 1, hk => by
    obtain ⟨h1, h2, h3⟩ := woA_sums (l := l) hr hm hma h0 k (by omega)
    have c1 := wo_cost (p := l.getD k ByteArray.empty) (r := r) h0 ((l.getD k ByteArray.empty).size + 1) 0 0 (woA l r k) 0 (by omega) (Nat.le_refl _) (Nat.zero_le _)
    have c2 := wo_least (p := l.getD k ByteArray.empty) hr hm hma h0 ((l.getD k ByteArray.empty).size + 1) 0 0 (woA l r k) (by omega) (Nat.le_refl _) (Nat.zero_le _)
    have e1 : cntA l r (k + 1) = cntF (l.getD k ByteArray.empty) r ((l.getD k ByteArray.empty).size + 1) 0 (cntA l r k) := rfl
    have e2 : woA l r (k + 1) = woF (l.getD k ByteArray.empty) r ((l.getD k ByteArray.empty).size + 1) 0 0 (woA l r k) := rfl
    have c3 := wo_cost (p := l.getD k ByteArray.empty) (r := r) h0 ((l.getD k ByteArray.empty).size + 1) 0 0 (woA l r k) (cntA l r k) (by omega) (Nat.le_refl _) (Nat.zero_le _)
    rw [← e1, ← e2] at c3
    rw [← e2] at c1 c2
    rw [ex_all] at c1 c3
    rw [take_more (l := l) (k := k) (by omega), sumC_app, sumL_app, sumC_one, sumL_one]
    obtain ⟨d1, d2⟩ := c3
    refine ⟨by omega, ?_, by omega⟩
    rw [show cntA l r k + cntA l r k - cntA l r (k + 1) + 2 * (cntA l r (k + 1) - cntA l r k) = cntA l r (k + 1) from by omega] at d2
    omega
/-- The document's best row saves. -/
theorem rb_saves {l : List ByteArray} (h : rbL l ≠ ⟨#[]⟩) : 0 < savesOf l (rbL l) ∧ 2 ≤ (rbL l).size ∧ (rbL l).size ≤ 8 := by
  rcases best_all_in (l := l) l.length with ⟨h1, _⟩ | ⟨h1, h2, h3, _⟩
  · exact absurd (show (rbAll l l.length).1 = _ from by rw [h1]) h
  · exact ⟨by show 0 < savesOf l (rbAll l l.length).1; rw [← h2]; exact h3, h1.1.1, h1.1.2⟩
theorem rcF_pre (most : Int) : ∀ (f : Nat) (out parts : List ByteArray), ∃ X, rcF most f out parts = out ++ X
  | 0, out, parts => ⟨[], by simp [rcF]⟩
  | f + 1, out, parts => by
    unfold rcF
    split
    · split
      · exact ⟨[], by simp⟩
      · obtain ⟨X, h⟩ := rcF_pre most f (out ++ [rbL parts]) (woA parts (rbL parts) parts.length)
        exact ⟨rbL parts :: X, by rw [h]; simp⟩
    · exact ⟨[], by simp⟩
theorem sumL_le (ab : List ByteArray) (l : List ByteArray) : sumL ab l ≤ sumC l := by
  induction l with
  | nil => exact Int.le_refl _
  | cons p l ih =>
    have := least_le p ab
    show (lsL p ab).getD 0 0 + sumL ab l ≤ costS p + sumC l
    omega
theorem rcF_pays (most : Int) : ∀ (f : Nat) (out parts : List ByteArray), sumL (rcF most f out parts) parts + sumC ((rcF most f out parts).drop out.length) ≤ sumC parts
  | 0, out, parts => by
    have := sumL_le (rcF most 0 out parts) parts
    have e : (rcF most 0 out parts).drop out.length = [] := by show out.drop out.length = []; simp
    rw [e]
    show _ + 0 ≤ _
    omega
  | f + 1, out, parts => by
    have stop : sumL out parts + sumC (out.drop out.length) ≤ sumC parts := by
      have := sumL_le out parts
      rw [List.drop_length]
      show _ + 0 ≤ _
      omega
    have e : rcF most (f + 1) out parts = if (out.length : Int) < most ∧ out.length < 32 then (if rbL parts = ⟨#[]⟩ then out else rcF most f (out ++ [rbL parts]) (woA parts (rbL parts) parts.length)) else out := rfl
    rw [e]
    by_cases c1 : (out.length : Int) < most ∧ out.length < 32
    · rw [if_pos c1]
      by_cases c2 : rbL parts = ⟨#[]⟩
      · rw [if_pos c2]; exact stop
      · rw [if_neg c2]
        have ih := rcF_pays most f (out ++ [rbL parts]) (woA parts (rbL parts) parts.length)
        obtain ⟨X, hX⟩ := rcF_pre most f (out ++ [rbL parts]) (woA parts (rbL parts) parts.length)
        generalize rcF most f (out ++ [rbL parts]) (woA parts (rbL parts) parts.length) = ab at *
        obtain ⟨s1, s2, s3⟩ := rb_saves c2
        have hg : ab.getD out.length ByteArray.empty = rbL parts := by rw [hX]; simp [List.getD]
        have hl : out.length < ab.length := by rw [hX]; simp
        obtain ⟨_, w2, w3⟩ := woA_sums (l := parts) hg c1.2 hl (by omega) parts.length (Nat.le_refl _)
        rw [List.take_length] at w2 w3
        have hd : ab.drop out.length = rbL parts :: ab.drop (out ++ [rbL parts]).length := by rw [hX]; simp
        rw [hd]
        show _ + (costS (rbL parts) + sumC (ab.drop (out ++ [rbL parts]).length)) ≤ _
        unfold savesOf at s1
        rw [Int.sub_mul] at s1
        omega
    · rw [if_neg c1]; exact stop
theorem rcF_len (most : Int) : ∀ (f : Nat) (out parts : List ByteArray), (out.length : Int) ≤ max most 0 → out.length ≤ 32 → ((rcF most f out parts).length : Int) ≤ max most 0 ∧ (rcF most f out parts).length ≤ 32
  | 0, out, parts, h1, h2 => ⟨h1, h2⟩
  | f + 1, out, parts, h1, h2 => by
    unfold rcF
    split
    · rename_i hc
      split
      · exact ⟨h1, h2⟩
      · exact rcF_len most f _ _ (by rw [List.length_append, List.length_singleton]; omega) (by rw [List.length_append, List.length_singleton]; omega)
    · exact ⟨h1, h2⟩
theorem rcF_ok (most : Int) : ∀ (f : Nat) (out parts : List ByteArray), (∀ a ∈ out, 2 ≤ a.size ∧ a.size ≤ 8) → ∀ a ∈ rcF most f out parts, 2 ≤ a.size ∧ a.size ≤ 8
  | 0, out, parts, h => h
  | f + 1, out, parts, h => by
    unfold rcF
    split
    · split
      · exact h
      · rename_i hc
        refine rcF_ok most f _ _ fun a ha => ?_
        rcases List.mem_append.1 ha with ha | ha
        · exact h a ha
        · rw [List.mem_singleton] at ha
          rw [ha]
          exact (rb_saves hc).2
    · exact h
/-- **What is chosen pays.** -/
theorem choose_pays {l : List ByteArray} (h : wt l ≤ 10000) (most : Int) : sumC (chooseP l most) + sumL (chooseP l most) l ≤ sumC l := by
  rw [choose_alike h]
  have := rcF_pays most 33 [] l
  have e : (rcF most 33 [] l).drop ([] : List ByteArray).length = rchooseP l most := rfl
  rw [e] at this
  have e2 : rcF most 33 [] l = rchooseP l most := rfl
  rw [e2] at this
  omega
theorem choose_len {l : List ByteArray} (h : wt l ≤ 10000) (most : Int) : ((chooseP l most).length : Int) ≤ max most 0 ∧ (chooseP l most).length ≤ 32 := by
  rw [choose_alike h]
  exact rcF_len most 33 [] l (by show ((0 : Nat) : Int) ≤ _; omega) (Nat.zero_le _)
theorem choose_ok {l : List ByteArray} (h : wt l ≤ 10000) (most : Int) : ∀ a ∈ chooseP l most, 2 ≤ a.size ∧ a.size ≤ 8 := by
  rw [choose_alike h]
  exact rcF_ok most 33 [] l fun a ha => by simp at ha
end Go.Proofs.YtfbpbpapfkimfaaDoor
