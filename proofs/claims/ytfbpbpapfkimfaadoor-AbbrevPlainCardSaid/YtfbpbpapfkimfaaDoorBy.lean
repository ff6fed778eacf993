/- Chapter 7 as plain data: cutting, both ways. No program is walked in this text. Chapter 7 as plain data: both cut alike. No program is walked in this text. Chapter 7 as plain data: what a cut costs, and that its pieces joined are the text. No program is walked in this text. Chapter 7 as plain data: the pieces of a cut, joined, are the text; more abbreviations cost no more. No program is walked in this text. Rows of pieces: their cells; a named row of pieces, read only from here on. No program is walked in this text. -/
import Derived.Test.YtfbpbpapfkimfaaDoorBs
namespace Go.Proofs.YtfbpbpapfkimfaaDoor
open Go.RowKit
set_option linter.unusedVariables false
/-- Which abbreviation a place takes, of so many: 0 is none. -/
def tkK (s : ByteArray) (ab : List ByteArray) (i : Nat) (A : List Int) : Nat → Nat
  | 0 => 0
  | k + 1 => if fitsB s i ab k = true ∧ 2 + A.getD (i + (ab.getD k ByteArray.empty).size) 0 < lsK s ab i A k then k + 1 else tkK s ab i A k
theorem lsK_mono (s : ByteArray) (ab : List ByteArray) (i : Nat) (A : List Int) (k : Nat) : ∀ d, lsK s ab i A (k + d) ≤ lsK s ab i A k
  | 0 => Int.le_refl _
  | d + 1 => by
    have h := lsK_mono s ab i A k d
    rw [← Nat.add_assoc]
    show (if _ then _ else _) ≤ _
    split
    · rename_i hc
      exact Int.le_trans (Int.le_of_lt hc.2) h
    · exact h
/-- None is taken just where the byte itself is as cheap. -/
theorem tkK_zero (s : ByteArray) (ab : List ByteArray) (i : Nat) (A : List Int) : ∀ k, tkK s ab i A k = 0 ↔ lsK s ab i A k = lsK s ab i A 0
  | 0 => by simp [tkK]
  | k + 1 => by
    have ih := tkK_zero s ab i A k
    have hm := lsK_mono s ab i A 0 k
    rw [Nat.zero_add] at hm
    have hb : tkK s ab i A (k + 1) = if fitsB s i ab k = true ∧ 2 + A.getD (i + (ab.getD k ByteArray.empty).size) 0 < lsK s ab i A k then k + 1 else tkK s ab i A k := rfl
    have hl : lsK s ab i A (k + 1) = if fitsB s i ab k = true ∧ 2 + A.getD (i + (ab.getD k ByteArray.empty).size) 0 < lsK s ab i A k then 2 + A.getD (i + (ab.getD k ByteArray.empty).size) 0 else lsK s ab i A k := rfl
    rw [hb, hl]
    split
    · rename_i hc
      constructor
      · intro h; omega
      · intro h; omega
    · exact ih
/-- The one that is taken is the first that attains the least. -/
theorem tkK_first (s : ByteArray) (ab : List ByteArray) (i : Nat) (A : List Int) : ∀ k, tkK s ab i A k ≠ 0 →
    tkK s ab i A k ≤ k ∧ fitsB s i ab (tkK s ab i A k - 1) = true ∧ 2 + A.getD (i + (ab.getD (tkK s ab i A k - 1) ByteArray.empty).size) 0 = lsK s ab i A k ∧
      ∀ j, j < tkK s ab i A k - 1 → fitsB s i ab j = true → 2 + A.getD (i + (ab.getD j ByteArray.empty).size) 0 ≠ lsK s ab i A k
  | 0, h => by simp [tkK] at h
  | k + 1, h => by
    have hb : tkK s ab i A (k + 1) = if fitsB s i ab k = true ∧ 2 + A.getD (i + (ab.getD k ByteArray.empty).size) 0 < lsK s ab i A k then k + 1 else tkK s ab i A k := rfl
    have hl : lsK s ab i A (k + 1) = if fitsB s i ab k = true ∧ 2 + A.getD (i + (ab.getD k ByteArray.empty).size) 0 < lsK s ab i A k then 2 + A.getD (i + (ab.getD k ByteArray.empty).size) 0 else lsK s ab i A k := rfl
    by_cases hc : fitsB s i ab k = true ∧ 2 + A.getD (i + (ab.getD k ByteArray.empty).size) 0 < lsK s ab i A k
    · rw [if_pos hc] at hb hl
      rw [hb, hl]
      refine ⟨Nat.le_refl _, hc.1, rfl, fun j hj hf => ?_⟩
      have hj' : j < k := by omega
      have h1 : lsK s ab i A (j + 1) ≤ 2 + A.getD (i + (ab.getD j ByteArray.empty).size) 0 := by
        show (if _ then _ else _) ≤ _
        split
        · exact Int.le_refl _
        · rename_i hn
          have : ¬ 2 + A.getD (i + (ab.getD j ByteArray.empty).size) 0 < lsK s ab i A j := fun h => hn ⟨hf, h⟩
          omega
      have h2 := lsK_mono s ab i A (j + 1) (k - (j + 1))
      rw [show j + 1 + (k - (j + 1)) = k from by omega] at h2
      have h3 := hc.2
      omega
    · rw [if_neg hc] at hb hl
      rw [hb] at h
      obtain ⟨g1, g2, g3, g4⟩ := tkK_first s ab i A k h
      rw [hb, hl]
      exact ⟨by omega, g2, g3, g4⟩
end Go.Proofs.YtfbpbpapfkimfaaDoor
namespace Go.Proofs.YtfbpbpapfkimfaaDoor
open Go.RowKit
set_option linter.unusedVariables false
theorem lsK_congr {s : ByteArray} {ab : List ByteArray} {i : Nat} {A B : List Int} (h : ∀ j, i < j → A.getD j 0 = B.getD j 0) : ∀ k, lsK s ab i A k = lsK s ab i B k
  | 0 => by unfold lsK; rw [h (i + 1) (by omega)]
  | k + 1 => by
    have ih := lsK_congr (s := s) (ab := ab) h k
    have ea : lsK s ab i A (k + 1) = if fitsB s i ab k = true ∧ 2 + A.getD (i + (ab.getD k ByteArray.empty).size) 0 < lsK s ab i A k then 2 + A.getD (i + (ab.getD k ByteArray.empty).size) 0 else lsK s ab i A k := rfl
    have eb : lsK s ab i B (k + 1) = if fitsB s i ab k = true ∧ 2 + B.getD (i + (ab.getD k ByteArray.empty).size) 0 < lsK s ab i B k then 2 + B.getD (i + (ab.getD k ByteArray.empty).size) 0 else lsK s ab i B k := rfl
    rw [ea, eb, ih]
    by_cases hf : fitsB s i ab k = true
    · rw [h (i + (ab.getD k ByteArray.empty).size) (by have := (fits_in hf).2.1; omega)]
    · rw [if_neg (fun hc => hf hc.1), if_neg (fun hc => hf hc.1)]
theorem tkK_congr {s : ByteArray} {ab : List ByteArray} {i : Nat} {A B : List Int} (h : ∀ j, i < j → A.getD j 0 = B.getD j 0) : ∀ k, tkK s ab i A k = tkK s ab i B k
  | 0 => rfl
  | k + 1 => by
    have ih := tkK_congr (s := s) (ab := ab) h k
    have il := lsK_congr (s := s) (ab := ab) h k
    have ea : tkK s ab i A (k + 1) = if fitsB s i ab k = true ∧ 2 + A.getD (i + (ab.getD k ByteArray.empty).size) 0 < lsK s ab i A k then k + 1 else tkK s ab i A k := rfl
    have eb : tkK s ab i B (k + 1) = if fitsB s i ab k = true ∧ 2 + B.getD (i + (ab.getD k ByteArray.empty).size) 0 < lsK s ab i B k then k + 1 else tkK s ab i B k := rfl
    rw [ea, eb, ih, il]
    by_cases hf : fitsB s i ab k = true
    · rw [h (i + (ab.getD k ByteArray.empty).size) (by have := (fits_in hf).2.1; omega)]
    · rw [if_neg (fun hc => hf hc.1), if_neg (fun hc => hf hc.1)]
/-- The whole array. -/
def lsL (s : ByteArray) (ab : List ByteArray) : List Int := lsA s ab s.size
/-- A place that is done stays. -/
theorem lsA_stay {s : ByteArray} {ab : List ByteArray} {d j : Nat} (hj : s.size - d ≤ j) : ∀ e, d + e ≤ s.size → (lsA s ab (d + e)).getD j 0 = (lsA s ab d).getD j 0
  | 0, _ => rfl
  | e + 1, he => by
    have ih := lsA_stay (ab := ab) hj e (by omega)
    rw [← Nat.add_assoc]
    show ((lsA s ab (d + e)).set (s.size - 1 - (d + e)) _).getD j 0 = _
    rw [getD_put, if_neg (fun hc => by omega)]
    exact ih
theorem lsL_from {s : ByteArray} {ab : List ByteArray} {d j : Nat} (hd : d ≤ s.size) (hj : s.size - d ≤ j) : (lsL s ab).getD j 0 = (lsA s ab d).getD j 0 := by
  have := lsA_stay (s := s) (ab := ab) (d := d) (j := j) hj (s.size - d) (by omega)
  rw [show d + (s.size - d) = s.size from by omega] at this
  exact this
theorem lsL_at {s : ByteArray} {ab : List ByteArray} {i : Nat} (h : i < s.size) : (lsL s ab).getD i 0 = lsK s ab i (lsL s ab) ab.length := by
  have h1 : (lsL s ab).getD i 0 = (lsA s ab (s.size - i)).getD i 0 := lsL_from (by omega) (by omega)
  have hl := lsA_len s ab (s.size - (i + 1))
  rw [h1, lsA_step h, lsW_at (by omega), if_pos rfl]
  exact lsK_congr (fun j hj => (lsL_from (by omega) (by omega)).symm) _
/-- Which abbreviation a place takes. -/
def tkL (s : ByteArray) (ab : List ByteArray) (i : Nat) : Nat := tkK s ab i (lsL s ab) ab.length
/-! ### Cutting -/
def flushP (s : ByteArray) (fr i : Nat) (out : List PieceP) : List PieceP := if fr < i then out ++ [(s.extract fr i, 0)] else out
def cutF (s : ByteArray) (ab : List ByteArray) : Nat → Nat → Nat → List PieceP → List PieceP
  | 0, i, fr, out => flushP s fr s.size out
  | f + 1, i, fr, out => if i < s.size then (if tkL s ab i = 0 then cutF s ab f (i + 1) fr out else cutF s ab f (i + (ab.getD (tkL s ab i - 1) ByteArray.empty).size) (i + (ab.getD (tkL s ab i - 1) ByteArray.empty).size) (flushP s fr i out ++ [(ByteArray.empty, (tkL s ab i : Int))])) else flushP s fr s.size out
def cutP (s : ByteArray) (ab : List ByteArray) : List PieceP := cutF s ab (s.size + 1) 0 0 []
/-- A byte goes to the last piece, if that is text. -/
def addC (out : List PieceP) (c : ByteArray) : List PieceP :=
  match out.getLast? with
  | none => [(ByteArray.empty ++ c, 0)]
  | some p => if p.2 > 0 then out ++ [(ByteArray.empty ++ c, 0)] else out.dropLast ++ [(p.1 ++ c, p.2)]
/-- The first abbreviation that attains the least. -/
def fstK (s : ByteArray) (ab : List ByteArray) (i : Nat) : Nat → Nat → Nat
  | 0, k => k
  | f + 1, k => if fitsB s i ab k = true ∧ 2 + (lsL s ab).getD (i + (ab.getD k ByteArray.empty).size) 0 = (lsL s ab).getD i 0 then k else fstK s ab i f (k + 1)
def rcutF (s : ByteArray) (ab : List ByteArray) : Nat → Nat → List PieceP → List PieceP
  | 0, i, out => out
  | f + 1, i, out => if i < s.size then (if costS (s.extract i (i + 1)) + (lsL s ab).getD (i + 1) 0 = (lsL s ab).getD i 0 then rcutF s ab f (i + 1) (addC out (s.extract i (i + 1))) else rcutF s ab f (i + (ab.getD (fstK s ab i ab.length 0) ByteArray.empty).size) (out ++ [(ByteArray.empty, ((fstK s ab i ab.length 0 : Nat) : Int) + 1)])) else out
def rcutP (s : ByteArray) (ab : List ByteArray) : List PieceP := rcutF s ab (s.size + 1) 0 []
theorem tk_zero {s : ByteArray} {ab : List ByteArray} {i : Nat} (h : i < s.size) : tkL s ab i = 0 ↔ costS (s.extract i (i + 1)) + (lsL s ab).getD (i + 1) 0 = (lsL s ab).getD i 0 := by
  rw [lsL_at h]
  unfold tkL
  rw [tkK_zero]
  constructor
  · intro e; rw [e]; rfl
  · intro e; rw [← e]; rfl
theorem fstK_is {s : ByteArray} {ab : List ByteArray} {i m : Nat} (h1 : fitsB s i ab m = true) (h2 : 2 + (lsL s ab).getD (i + (ab.getD m ByteArray.empty).size) 0 = (lsL s ab).getD i 0)
    (h3 : ∀ j, j < m → fitsB s i ab j = true → 2 + (lsL s ab).getD (i + (ab.getD j ByteArray.empty).size) 0 ≠ (lsL s ab).getD i 0) : ∀ f k, k ≤ m → m < f + k → fstK s ab i f k = m
  | 0, k, hk, hf => by omega
  | f + 1, k, hk, hf => by
    unfold fstK
    by_cases e : k = m
    · subst e
      rw [if_pos ⟨h1, h2⟩]
    · rw [if_neg (fun hc => h3 k (by omega) hc.1 hc.2)]
      exact fstK_is h1 h2 h3 f (k + 1) (by omega) (by omega)
theorem tk_first {s : ByteArray} {ab : List ByteArray} {i : Nat} (h : i < s.size) (ht : tkL s ab i ≠ 0) : fitsB s i ab (tkL s ab i - 1) = true ∧ tkL s ab i ≤ ab.length ∧ fstK s ab i ab.length 0 = tkL s ab i - 1 := by
  obtain ⟨g1, g2, g3, g4⟩ := tkK_first s ab i (lsL s ab) ab.length ht
  have e := lsL_at (ab := ab) h
  have ht' : 0 < tkL s ab i := by omega
  have g1' : tkL s ab i ≤ ab.length := g1
  exact ⟨g2, g1', fstK_is g2 (by rw [e]; exact g3) (fun j hj hf => by rw [e]; exact g4 j hj hf) ab.length 0 (by omega) (by omega)⟩
/-- The pieces end with an abbreviation, if there are any. -/
def EndsAb (out : List PieceP) : Prop := ∀ p, out.getLast? = some p → p.2 > 0
theorem flush_add {s : ByteArray} {fr i : Nat} {out : List PieceP} (hi : i < s.size) (hf : fr ≤ i) (he : EndsAb out) : addC (flushP s fr i out) (s.extract i (i + 1)) = flushP s fr (i + 1) out := by
  unfold flushP
  by_cases h : fr < i
  · rw [if_pos h, if_pos (by omega)]
    unfold addC
    simp only [List.getLast?_append, List.getLast?_singleton, Option.some_or]
    rw [if_neg (by simp), List.dropLast_concat]
    congr 3
    refine tB_inj ?_
    rw [tB_append, tB_extract, tB_extract, tB_extract]
    have hl : (tB s).length = s.size := tB_len s
    refine List.ext_getElem? fun k => ?_
    rw [List.getElem?_append]
    simp only [List.length_drop, List.length_take, List.getElem?_drop, List.getElem?_take]
    split
    · rw [if_pos (by omega), if_pos (by omega)]
    · rename_i hk
      by_cases hk2 : fr + k < i + 1
      · rw [if_pos (by omega), if_pos hk2]
        congr 1
        omega
      · rw [if_neg (by omega), if_neg hk2]
  · have e : fr = i := by omega
    subst e
    rw [if_neg h, if_pos (by omega)]
    have e0 : ByteArray.empty ++ s.extract fr (fr + 1) = s.extract fr (fr + 1) := by refine tB_inj ?_; rw [tB_append]; rfl
    unfold addC
    cases hg : out.getLast? with
    | none =>
      have : out = [] := List.getLast?_eq_none_iff.1 hg
      subst this
      rw [e0]
      rfl
    | some p =>
      simp only []
      rw [if_pos (he p hg), e0]
theorem cut_alike_at {s : ByteArray} {ab : List ByteArray} : ∀ (f i fr : Nat) (out : List PieceP), s.size < f + i → fr ≤ i → i ≤ s.size → EndsAb out → rcutF s ab f i (flushP s fr i out) = cutF s ab f i fr out
  | 0, i, fr, out, h1, h2, h3, he => by omega
  | f + 1, i, fr, out, h1, h2, h3, he => by
    unfold rcutF cutF
    by_cases hi : i < s.size
    · rw [if_pos hi, if_pos hi]
      by_cases ht : tkL s ab i = 0
      · rw [if_pos ht, if_pos ((tk_zero hi).1 ht), flush_add hi h2 he]
        exact cut_alike_at f (i + 1) fr out (by omega) (by omega) (by omega) he
      · obtain ⟨g1, g2, g3⟩ := tk_first hi ht
        have g4 := fits_in g1
        rw [if_neg ht, if_neg (fun hc => ht ((tk_zero hi).2 hc)), g3]
        have e1 : (((tkL s ab i - 1 : Nat) : Int) + 1) = (tkL s ab i : Int) := by omega
        rw [e1]
        have ih := cut_alike_at (ab := ab) f (i + (ab.getD (tkL s ab i - 1) ByteArray.empty).size) (i + (ab.getD (tkL s ab i - 1) ByteArray.empty).size) (flushP s fr i out ++ [(ByteArray.empty, (tkL s ab i : Int))]) (by omega) (Nat.le_refl _) g4.2.2 (fun p hp => by
          simp at hp
          subst hp
          show (tkL s ab i : Int) > 0
          omega)
        have e2 : ∀ x o, flushP s x x o = o := fun x o => by unfold flushP; rw [if_neg (by omega)]
        rw [e2] at ih
        exact ih
    · rw [if_neg hi, if_neg hi]
      have : i = s.size := by omega
      rw [this]
/-- **Both cut alike.** -/
theorem cut_alike (s : ByteArray) (ab : List ByteArray) : rcutP s ab = cutP s ab := cut_alike_at (s := s) (ab := ab) (s.size + 1) 0 0 [] (by omega) (Nat.le_refl _) (Nat.zero_le _) (fun p hp => by simp at hp)
end Go.Proofs.YtfbpbpapfkimfaaDoor
namespace Go.Proofs.YtfbpbpapfkimfaaDoor
open Go.RowKit
set_option linter.unusedVariables false
/-! ### Costs add up -/
def sumP (l : List PieceP) : Int := (l.map pcost).sum
theorem costP_sum : ∀ (l : List PieceP) (k : Nat), k ≤ l.length → costP l k = sumP (l.take k)
  | l, 0, _ => by simp [costP, sumP]
  | l, k + 1, hk => by
    have e : l.take (k + 1) = l.take k ++ [l.getD k dPiece] := by rw [List.take_add_one]; simp [show k < l.length from hk]
    rw [costP_succ, costP_sum l k (by omega), e]
    unfold sumP
    simp
theorem costP_all (l : List PieceP) : costP l l.length = sumP l := by
  have := costP_sum l l.length (Nat.le_refl _)
  rwa [List.take_length] at this
theorem sumP_app (a b : List PieceP) : sumP (a ++ b) = sumP a + sumP b := by unfold sumP; simp
def costB (l : List Int) : Int := (l.map fun c => ((aSort c).length : Int)).sum
theorem cst_sum (s : ByteArray) : ∀ k, k ≤ s.size → cst s k = costB ((tB s).take k)
  | 0, _ => by simp [cst, costB]
  | k + 1, hk => by
    have hl : k < (tB s).length := by rw [tB_len]; exact hk
    have e : (tB s).take (k + 1) = (tB s).take k ++ [(tB s).getD k 0] := by rw [List.take_add_one]; simp [hl]
    rw [cst_succ, cst_sum s k (by omega), e]
    unfold costB
    simp
theorem costS_tB (s : ByteArray) : costS s = costB (tB s) := by
  unfold costS
  rw [cst_sum s s.size (Nat.le_refl _), List.take_of_length_le (by rw [tB_len]; exact Nat.le_refl _)]
theorem costB_app (a b : List Int) : costB (a ++ b) = costB a + costB b := by unfold costB; simp
/-- Between two places. -/
theorem cost_ex {s : ByteArray} {a b c : Nat} (h1 : a ≤ b) (h2 : b ≤ c) (h3 : c ≤ s.size) : costS (s.extract a c) = costS (s.extract a b) + costS (s.extract b c) := by
  rw [costS_tB, costS_tB, costS_tB, ← costB_app]
  congr 1
  rw [tB_extract, tB_extract, tB_extract]
  have e : (tB s).take c = (tB s).take b ++ ((tB s).take c).drop b := by
    have := List.take_append_drop b ((tB s).take c)
    rw [List.take_take, Nat.min_eq_left h2] at this
    exact this.symm
  conv => lhs; rw [e]
  rw [List.drop_append_of_le_length (by rw [List.length_take, tB_len]; omega)]
theorem cost_ex0 {s : ByteArray} {a : Nat} : costS (s.extract a a) = 0 := by
  rw [costS_tB, tB_extract, List.drop_of_length_le (by rw [List.length_take]; omega)]
  rfl
theorem flush_cost {s : ByteArray} {fr i : Nat} {out : List PieceP} (h : fr ≤ i) (hi : i ≤ s.size) : sumP (flushP s fr i out) = sumP out + costS (s.extract fr i) := by
  unfold flushP
  split
  · rw [sumP_app]
    congr 1
    show ([(s.extract fr i, (0 : Int))].map pcost).sum = _
    simp [pcost]
  · have : fr = i := by omega
    subst this
    rw [cost_ex0]
    omega
theorem lsL_end (s : ByteArray) (ab : List ByteArray) : (lsL s ab).getD s.size 0 = 0 := by
  have := lsL_from (s := s) (ab := ab) (d := 0) (j := s.size) (Nat.zero_le _) (by omega)
  rw [this]
  show (List.replicate (s.size + 1) (0 : Int)).getD s.size 0 = 0
  simp
/-- What is behind a place costs the least. -/
theorem cutF_cost {s : ByteArray} {ab : List ByteArray} : ∀ (f i fr : Nat) (out : List PieceP), s.size < f + i → fr ≤ i → i ≤ s.size → sumP (cutF s ab f i fr out) = sumP out + costS (s.extract fr i) + (lsL s ab).getD i 0
  | 0, i, fr, out, h1, h2, h3 => by omega
  | f + 1, i, fr, out, h1, h2, h3 => by
    unfold cutF
    by_cases hi : i < s.size
    · rw [if_pos hi]
      by_cases ht : tkL s ab i = 0
      · rw [if_pos ht, cutF_cost (ab := ab) f (i + 1) fr out (by omega) (by omega) (by omega), ← (tk_zero (ab := ab) hi).1 ht, cost_ex (s := s) (a := fr) (b := i) (c := i + 1) h2 (by omega) (by omega)]
        omega
      · obtain ⟨g1, g2, g3⟩ := tk_first hi ht
        have g4 := fits_in g1
        obtain ⟨_, _, k3, _⟩ := tkK_first s ab i (lsL s ab) ab.length ht
        have k3' : 2 + (lsL s ab).getD (i + (ab.getD (tkL s ab i - 1) ByteArray.empty).size) 0 = (lsL s ab).getD i 0 := by rw [lsL_at hi]; exact k3
        rw [if_neg ht, cutF_cost (ab := ab) f _ _ _ (by omega) (Nat.le_refl _) g4.2.2, cost_ex0, sumP_app, flush_cost h2 h3, ← k3']
        have e : sumP [(ByteArray.empty, (tkL s ab i : Int))] = 2 := by
          have h9 : (tkL s ab i : Int) > 0 := by omega
          show (pcost (ByteArray.empty, (tkL s ab i : Int))) + 0 = 2
          unfold pcost
          rw [if_pos h9]
          rfl
        rw [e]
        omega
    · rw [if_neg hi]
      have : i = s.size := by omega
      subst this
      rw [flush_cost h2 (Nat.le_refl _), lsL_end]
      omega
/-- **A cut costs the least.** -/
theorem cut_cost (s : ByteArray) (ab : List ByteArray) : costP (cutP s ab) (cutP s ab).length = (lsL s ab).getD 0 0 := by
  rw [costP_all]
  unfold cutP
  rw [cutF_cost (s.size + 1) 0 0 [] (by omega) (Nat.le_refl _) (Nat.zero_le _), cost_ex0]
  simp [sumP]
/-- .. at most what its bytes cost. -/
theorem lsL_le {s : ByteArray} {ab : List ByteArray} : ∀ d, d ≤ s.size → (lsL s ab).getD (s.size - d) 0 ≤ costS (s.extract (s.size - d) s.size)
  | 0, _ => by
    have h := lsL_end s ab
    rw [Nat.sub_zero, h, cost_ex0]
    exact Int.le_refl _
  | d + 1, hd => by
    have ih := lsL_le (s := s) (ab := ab) d (by omega)
    have hi : s.size - (d + 1) < s.size := by omega
    have hm := lsK_mono s ab (s.size - (d + 1)) (lsL s ab) 0 ab.length
    rw [Nat.zero_add] at hm
    rw [lsL_at hi]
    have e : s.size - (d + 1) + 1 = s.size - d := by omega
    have h0 : lsK s ab (s.size - (d + 1)) (lsL s ab) 0 = costS (s.extract (s.size - (d + 1)) (s.size - (d + 1) + 1)) + (lsL s ab).getD (s.size - (d + 1) + 1) 0 := rfl
    rw [h0, e] at hm
    rw [cost_ex (s := s) (a := s.size - (d + 1)) (b := s.size - d) (c := s.size) (by omega) (by omega) (Nat.le_refl _)]
    omega
theorem ex_all (s : ByteArray) : s.extract 0 s.size = s := by
  refine tB_inj ?_
  rw [tB_extract, List.drop_zero, List.take_of_length_le (by rw [tB_len]; exact Nat.le_refl _)]
theorem least_le (s : ByteArray) (ab : List ByteArray) : (lsL s ab).getD 0 0 ≤ costS s := by
  have := lsL_le (s := s) (ab := ab) s.size (Nat.le_refl _)
  rw [Nat.sub_self, ex_all] at this
  exact this
end Go.Proofs.YtfbpbpapfkimfaaDoor
namespace Go.Proofs.YtfbpbpapfkimfaaDoor
open Go.RowKit
set_option linter.unusedVariables false
def joinB (ab : List ByteArray) (l : List PieceP) : List Int := l.flatMap fun p => tB (textP ab p)
theorem joinK_B (ab : List ByteArray) (l : List PieceP) : ∀ k, k ≤ l.length → tB (joinK ab l k) = joinB ab (l.take k)
  | 0, _ => rfl
  | k + 1, hk => by
    have e : l.take (k + 1) = l.take k ++ [l.getD k dPiece] := by rw [List.take_add_one]; simp [show k < l.length from hk]
    show tB (joinK ab l k ++ textP ab (l.getD k dPiece)) = _
    rw [tB_append, joinK_B ab l k (by omega), e]
    unfold joinB
    simp
theorem joinB_app (ab : List ByteArray) (a b : List PieceP) : joinB ab (a ++ b) = joinB ab a ++ joinB ab b := by unfold joinB; simp
theorem ex_drop {s : ByteArray} {a b : Nat} (h : a ≤ b) : tB (s.extract a b) ++ (tB s).drop b = (tB s).drop a := by
  rw [tB_extract]
  have e := List.take_append_drop b (tB s)
  conv => rhs; rw [← e]
  by_cases hb : b ≤ (tB s).length
  · rw [List.drop_append_of_le_length (by rw [List.length_take]; omega)]
  · rw [List.drop_of_length_le (l := tB s) (i := b) (by omega), List.append_nil, List.append_nil]
theorem flush_join {s : ByteArray} {ab : List ByteArray} {fr i : Nat} {out : List PieceP} (h : fr ≤ i) : joinB ab (flushP s fr i out) = joinB ab out ++ tB (s.extract fr i) := by
  unfold flushP
  split
  · rw [joinB_app]
    congr 1
    show tB (textP ab (s.extract fr i, 0)) ++ [] = _
    unfold textP
    rw [if_neg (by show ¬ (0 : Int) > 0; omega), List.append_nil]
  · have : fr = i := by omega
    subst this
    rw [tB_extract, List.drop_of_length_le (by rw [List.length_take]; omega), List.append_nil]
theorem cutF_join {s : ByteArray} {ab : List ByteArray} : ∀ (f i fr : Nat) (out : List PieceP), s.size < f + i → fr ≤ i → i ≤ s.size → joinB ab (cutF s ab f i fr out) = joinB ab out ++ (tB s).drop fr
  | 0, i, fr, out, h1, h2, h3 => by omega
  | f + 1, i, fr, out, h1, h2, h3 => by
    unfold cutF
    by_cases hi : i < s.size
    · rw [if_pos hi]
      by_cases ht : tkL s ab i = 0
      · rw [if_pos ht]
        exact cutF_join f (i + 1) fr out (by omega) (by omega) (by omega)
      · obtain ⟨g1, g2, g3⟩ := tk_first hi ht
        have g4 := fits_in g1
        rw [if_neg ht, cutF_join (ab := ab) f _ _ _ (by omega) (Nat.le_refl _) g4.2.2, joinB_app, flush_join h2, List.append_assoc, List.append_assoc]
        congr 1
        have hat : s.extract i (i + (ab.getD (tkL s ab i - 1) ByteArray.empty).size) = ab.getD (tkL s ab i - 1) ByteArray.empty := by
          unfold fitsB at g1
          simp only [Bool.and_eq_true, decide_eq_true_eq] at g1
          exact g1.2
        have e : joinB ab [(ByteArray.empty, (tkL s ab i : Int))] = tB (s.extract i (i + (ab.getD (tkL s ab i - 1) ByteArray.empty).size)) := by
          show tB (textP ab (ByteArray.empty, (tkL s ab i : Int))) ++ [] = _
          unfold textP
          rw [if_pos (by show (tkL s ab i : Int) > 0; omega), List.append_nil, hat]
          congr 2
          show ((tkL s ab i : Int) - 1).toNat = _
          omega
        rw [e, ex_drop (by omega), ex_drop (by omega)]
    · rw [if_neg hi, flush_join (by omega)]
      congr 1
      have := ex_drop (s := s) (a := fr) (b := s.size) (by omega)
      rw [List.drop_of_length_le (l := tB s) (i := s.size) (by rw [tB_len]; exact Nat.le_refl _), List.append_nil] at this
      exact this
theorem flush_ok {s : ByteArray} {ab : List ByteArray} {fr i : Nat} {out : List PieceP} (h : ∀ p ∈ out, badP ab p = false) : ∀ p ∈ flushP s fr i out, badP ab p = false := by
  unfold flushP
  split
  · intro p hp
    rcases List.mem_append.1 hp with hp | hp
    · exact h p hp
    · simp at hp
      subst hp
      unfold badP
      first | (simp; done) | (simp; omega)
  · exact h
theorem cutF_ok {s : ByteArray} {ab : List ByteArray} : ∀ (f i fr : Nat) (out : List PieceP), (∀ p ∈ out, badP ab p = false) → ∀ p ∈ cutF s ab f i fr out, badP ab p = false
  | 0, i, fr, out, h => flush_ok h
  | f + 1, i, fr, out, h => by
    unfold cutF
    by_cases hi : i < s.size
    · rw [if_pos hi]
      by_cases ht : tkL s ab i = 0
      · rw [if_pos ht]
        exact cutF_ok f (i + 1) fr out h
      · obtain ⟨g1, g2, g3⟩ := tk_first hi ht
        have g4 := fits_in g1
        rw [if_neg ht]
        refine cutF_ok f _ _ _ fun p hp => ?_
        rcases List.mem_append.1 hp with hp | hp
        · exact flush_ok h p hp
        · simp at hp
          subst hp
          unfold badP
          simp
          omega
    · rw [if_neg hi]
      exact flush_ok h
/-- **The pieces of a cut, joined, are the text.** -/
theorem join_cut (s : ByteArray) (ab : List ByteArray) : joinP ab (cutP s ab) = (s, 0) := by
  have hok := cutF_ok (s := s) (ab := ab) (s.size + 1) 0 0 [] (fun p hp => by simp at hp)
  unfold joinP
  rw [if_pos]
  · refine Prod.ext (tB_inj ?_) rfl
    show tB (joinK ab (cutP s ab) (cutP s ab).length) = tB s
    rw [joinK_B ab _ _ (Nat.le_refl _), List.take_length]
    unfold cutP
    rw [cutF_join _ _ _ _ (by omega) (Nat.le_refl _) (Nat.zero_le _)]
    rfl
  · refine rall_true fun j hj => ?_
    rw [hok _ (by rw [List.getD, List.getElem?_eq_getElem hj]; exact List.getElem_mem hj)]
    rfl
/-! ### More abbreviations cost no more -/
theorem lsK_less {s : ByteArray} {a b : List ByteArray} {i : Nat} {A B : List Int} {m : Nat} (hpre : ∀ k, k < m → a.getD k ByteArray.empty = b.getD k ByteArray.empty) (h : ∀ j, i < j → A.getD j 0 ≤ B.getD j 0) : ∀ k, k ≤ m → lsK s a i A k ≤ lsK s b i B k
  | 0, _ => by have := h (i + 1) (by omega); show _ + _ ≤ _ + _; omega
  | k + 1, hk => by
    have ih := lsK_less (s := s) hpre h k (by omega)
    have hp := hpre k (by omega)
    have ea : lsK s a i A (k + 1) = if fitsB s i a k = true ∧ 2 + A.getD (i + (a.getD k ByteArray.empty).size) 0 < lsK s a i A k then 2 + A.getD (i + (a.getD k ByteArray.empty).size) 0 else lsK s a i A k := rfl
    have eb : lsK s b i B (k + 1) = if fitsB s i b k = true ∧ 2 + B.getD (i + (b.getD k ByteArray.empty).size) 0 < lsK s b i B k then 2 + B.getD (i + (b.getD k ByteArray.empty).size) 0 else lsK s b i B k := rfl
    have hf : fitsB s i a k = fitsB s i b k := by unfold fitsB; rw [hp]
    rw [ea, eb, hf, hp]
    by_cases hfit : fitsB s i b k = true
    · have hj := h (i + (b.getD k ByteArray.empty).size) (by have := (fits_in hfit).2.1; omega)
      by_cases c1 : 2 + A.getD (i + (b.getD k ByteArray.empty).size) 0 < lsK s a i A k <;> by_cases c2 : 2 + B.getD (i + (b.getD k ByteArray.empty).size) 0 < lsK s b i B k
      · rw [if_pos ⟨hfit, c1⟩, if_pos ⟨hfit, c2⟩]; omega
      · rw [if_pos ⟨hfit, c1⟩, if_neg (fun hc => c2 hc.2)]; omega
      · rw [if_neg (fun hc => c1 hc.2), if_pos ⟨hfit, c2⟩]; omega
      · rw [if_neg (fun hc => c1 hc.2), if_neg (fun hc => c2 hc.2)]; exact ih
    · rw [if_neg (fun hc => hfit hc.1), if_neg (fun hc => hfit hc.1)]
      exact ih
theorem lsL_less {s : ByteArray} {a b : List ByteArray} (hl : b.length ≤ a.length) (hpre : ∀ k, k < b.length → a.getD k ByteArray.empty = b.getD k ByteArray.empty) : ∀ d, d ≤ s.size → ∀ j, s.size - d ≤ j → (lsL s a).getD j 0 ≤ (lsL s b).getD j 0
  | 0, _, j, hj => by
    have h1 := lsL_from (s := s) (ab := a) (d := 0) (j := j) (Nat.zero_le _) hj
    have h2 := lsL_from (s := s) (ab := b) (d := 0) (j := j) (Nat.zero_le _) hj
    rw [h1, h2]
    exact Int.le_refl _
  | d + 1, hd, j, hj => by
    have ih := lsL_less (s := s) hl hpre d (by omega)
    rcases Nat.lt_or_ge j (s.size - d) with h1 | h1
    · have hi : j < s.size := by omega
      rw [lsL_at hi, lsL_at hi]
      have h2 := lsK_less (s := s) (i := j) (A := lsL s a) (B := lsL s b) (m := b.length) hpre (fun k hk => ih k (by omega)) b.length (Nat.le_refl _)
      have h3 := lsK_mono s a j (lsL s a) b.length (a.length - b.length)
      rw [show b.length + (a.length - b.length) = a.length from by omega] at h3
      omega
    · exact ih j h1
theorem least_less {s : ByteArray} {a b : List ByteArray} (hl : b.length ≤ a.length) (hpre : ∀ k, k < b.length → a.getD k ByteArray.empty = b.getD k ByteArray.empty) : (lsL s a).getD 0 0 ≤ (lsL s b).getD 0 0 := lsL_less hl hpre s.size (Nat.le_refl _) 0 (by omega)
end Go.Proofs.YtfbpbpapfkimfaaDoor
namespace Go.Proofs.YtfbpbpapfkimfaaDoor
open Go.RowKit
set_option linter.unusedVariables false
set_option linter.unusedSimpArgs false
def pcs (l : List PieceP) : List Av := l.flatMap fun p => [vs p.1, vi p.2]
theorem pcs_len (l : List PieceP) : (pcs l).length = l.length * 2 := by
  induction l with
  | nil => rfl
  | cons p l ih =>
    show ([vs p.1, vi p.2] ++ pcs l).length = _
    rw [List.length_append, ih]
    simp
    omega
theorem pcs_app (a b : List PieceP) : pcs (a ++ b) = pcs a ++ pcs b := by unfold pcs; simp
theorem pcs_text {l : List PieceP} : ∀ {j : Nat}, j < l.length → (pcs l)[j * 2]? = some (vs (l.getD j dPiece).1) := by
  induction l with
  | nil => intro j h; simp at h
  | cons p l ih =>
    intro j h
    cases j with
    | zero => rfl
    | succ j =>
      show (vs p.1 :: vi p.2 :: pcs l)[(j + 1) * 2]? = _
      rw [show (j + 1) * 2 = j * 2 + 1 + 1 from by omega, List.getElem?_cons_succ, List.getElem?_cons_succ, ih (by simpa using h)]
      rfl
theorem pcs_abbr {l : List PieceP} : ∀ {j : Nat}, j < l.length → (pcs l)[j * 2 + 1]? = some (vi (l.getD j dPiece).2) := by
  induction l with
  | nil => intro j h; simp at h
  | cons p l ih =>
    intro j h
    cases j with
    | zero => rfl
    | succ j =>
      show (vs p.1 :: vi p.2 :: pcs l)[(j + 1) * 2 + 1]? = _
      rw [show (j + 1) * 2 + 1 = j * 2 + 1 + 1 + 1 from by omega, List.getElem?_cons_succ, List.getElem?_cons_succ, ih (by simpa using h)]
      rfl
theorem pcs_set {l : List PieceP} {x : ByteArray} : ∀ {j : Nat}, j < l.length → (pcs l).set (j * 2) (vs x) = pcs (l.set j (x, (l.getD j dPiece).2)) := by
  induction l with
  | nil => intro j h; simp at h
  | cons p l ih =>
    intro j h
    cases j with
    | zero => rfl
    | succ j =>
      show (vs p.1 :: vi p.2 :: pcs l).set ((j + 1) * 2) (vs x) = _
      rw [show (j + 1) * 2 = j * 2 + 1 + 1 from by omega, List.set_cons_succ, List.set_cons_succ, ih (by simpa using h)]
      rfl
theorem app_piece (p : PieceP) : ∀ j, j < 1 → szB (rowL [pieceAv p] j) 2 = true ∧ ∀ i y, i < 2 → [vs p.1, vi p.2][j * 2 + i]? = some y → (flatA (rowL [pieceAv p] j))[i]? = some y := fun j hj => by
  have : j = 0 := by omega
  subst this
  refine ⟨rfl, fun i y hi hy => ?_⟩
  rw [Nat.zero_mul, Nat.zero_add] at hy
  exact hy
/-- A named row of pieces, read only from here on. -/
theorem Le.freezeP {N : Nat} {D : List Nat} {s : List (Nat × Av)} {h : List (Nat × Hs)} (t n : Nat) {ty : TypeId} (l : List PieceP) (hs : lkS s t = .osl 2 n l.length) (hn : lkH h n = some (.live ty (pcs l))) : Le N D ⟨s, h⟩ ⟨(t, piecesAv l) :: s, (n, .dead) :: h⟩ := Le.step fun E a hF => by
  have hv := hF.holds.1 t
  rw [hs] at hv
  have hH := hF.holds.2 n _ hn
  have hn0 : E.loc n ≠ .unborn := by unfold Rep at hv; exact hv.1.1
  have hS := Step.kill E n hn0
  refine ⟨E.re n .dead, [n], rfl, hS, hF.good.re (by simp), fun u => ?_, fun m y hy => ?_⟩
  · by_cases e : t = u
    · subst e
      rw [lkS_eq]
      refine freeze_rep hF.good hv hH (pcs_len l) (fun j hj => ⟨rfl, fun i y hy => ?_⟩) (fun j hj us hus h1 => ?_)
      · have hy' : [vs (l.getD j dPiece).1, vi (l.getD j dPiece).2][i]? = some y := hy
        rcases i with _ | _ | i
        · simp at hy'; subst hy'; rw [Nat.add_zero, pcs_text hj]; simp
        · simp at hy'; subst hy'; rw [pcs_abbr hj]; simp
        · simp at hy'
      · refine ⟨.agg us.toArray, ?_, ?_⟩
        · unfold pieceAv Rep
          exact ⟨us, rfl, hus, h1⟩
        · have hus' : RepL (E.re n .dead) [vs (l.getD j dPiece).1, vi (l.getD j dPiece).2] us := hus
          unfold RepL RepL RepL at hus'
          obtain ⟨u, us', rfl, h3, u', us'', rfl, h4, rfl⟩ := hus'
          unfold Rep at h3 h4
          subst h3
          subst h4
          rfl
    · rw [lkS_ne _ _ e]
      exact Rep.step hS _ _ (hF.holds.1 u)
  · by_cases e : n = m
    · subst e
      simp [lkH] at hy
      subst hy
      show (E.re n .dead).loc n = .dead
      simp [Env.re]
    · simp only [lkH, beqF e, cond_false] at hy
      exact HAt.step hS (by simp [Ne.symm e]) (hF.holds.2 m y hy)
theorem ren_pcs (π : Nat → Nat) (l : List PieceP) : (pcs l).map (Av.ren π) = pcs l := by
  induction l with
  | nil => rfl
  | cons p l ih =>
    show ([vs p.1, vi p.2] ++ pcs l).map (Av.ren π) = [vs p.1, vi p.2] ++ pcs l
    rw [List.map_append, ih]
    simp [Av.ren]
theorem non_pcs {Z : List Nat} (l : List PieceP) : ∀ z ∈ pcs l, NoN Z z := fun z hz => by
  obtain ⟨p, _, hp⟩ := List.mem_flatMap.1 hz
  simp at hp
  rcases hp with rfl | rfl <;> simp [NoN]
end Go.Proofs.YtfbpbpapfkimfaaDoor
