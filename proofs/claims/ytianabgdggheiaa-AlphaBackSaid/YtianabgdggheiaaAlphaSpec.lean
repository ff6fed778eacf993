/- The codes of chapter 6 as plain lists of numbers. No program stands in this text. -/
import Derived.Test.YtianabgdggheiaaTexts
namespace Go.Proofs.Ytianabgdggheiaa

abbrev aSignsB : ByteArray := ⟨#[48, 49, 50, 51, 52, 53, 54, 55, 56, 57, 46, 44, 33, 63, 39, 34, 45, 58, 59, 40, 41, 47, 38, 42, 43, 61, 37, 35, 36, 10, 60]⟩
def aSigns : List Int := [48, 49, 50, 51, 52, 53, 54, 55, 56, 57, 46, 44, 33, 63, 39, 34, 45, 58, 59, 40, 41, 47, 38, 42, 43, 61, 37, 35, 36, 10, 60]
theorem aSigns_len : aSigns.length = 31 := rfl
theorem aSigns_at (k : Nat) (h : k < 31) : (aSignsB[k]'h).toNat = aSigns.getD k 0 ∧ (aSignsB[k]'h).toNat < 128 := by
  have : ∀ r : Fin 31, ((aSignsB[r.val]'r.2).toNat : Int) = aSigns.getD r.val 0 ∧ (aSignsB[r.val]'r.2).toNat < 128 := by decide
  exact this ⟨k, h⟩
/-- A sign's place. -/
def aSign (c : Int) : Option Nat := aSigns.idxOf? c
theorem aSign_some (k : Nat) (h : k < 31) : aSign (aSigns.getD k 0) = some k := by
  have : ∀ r : Fin 31, aSign (aSigns.getD r.val 0) = some r.val := by decide
  exact this ⟨k, h⟩
theorem aSign_none (c : Int) (h : ∀ k, k < 31 → aSigns.getD k 0 ≠ c) : aSign c = none := by
  unfold aSign
  rw [List.idxOf?_eq_none_iff]
  intro hm
  obtain ⟨k, hk, he⟩ := List.mem_iff_getElem.1 hm
  exact h k hk (by simp only [List.getD, List.getElem?_eq_getElem hk, Option.getD_some]; exact he)
/-- A byte's codes; none: no text has it. -/
def aSort (c : Int) : List Int :=
  if c = 32 then [0] else if 97 ≤ c ∧ c ≤ 122 then [c - 96] else if 65 ≤ c ∧ c ≤ 90 then [27, c - 64] else
  match aSign c with
  | some i => [28, i]
  | none => if c < 32 ∨ 126 < c then [] else [29, c / 16, c % 16]
/-- The same of the reference, which asks no text. -/
def aOne (c : Int) : List Int :=
  if c = 32 then [0] else if 97 ≤ c ∧ c ≤ 122 then [c - 96] else if 65 ≤ c ∧ c ≤ 90 then [27, c - 64] else
  match aSign c with
  | some i => [28, i]
  | none => [29, c / 16, c % 16]
theorem aSort_space : aSort 32 = [0] := by decide
theorem aSort_small (c : Int) (h : 97 ≤ c) (h' : c ≤ 122) : aSort c = [c - 96] := by
  unfold aSort; rw [if_neg (by omega), if_pos ⟨h, h'⟩]
theorem aSort_great (c : Int) (h : 65 ≤ c) (h' : c ≤ 90) : aSort c = [27, c - 64] := by
  unfold aSort; rw [if_neg (by omega), if_neg (by omega), if_pos ⟨h, h'⟩]
theorem aSort_sign (c : Int) (h0 : c ≠ 32) (h1 : ¬ (97 ≤ c ∧ c ≤ 122)) (h2 : ¬ (65 ≤ c ∧ c ≤ 90)) (k : Nat) (h : aSign c = some k) : aSort c = [28, (k : Int)] := by
  unfold aSort; rw [if_neg h0, if_neg h1, if_neg h2, h]
theorem aSort_none (c : Int) (h0 : c ≠ 32) (h1 : ¬ (97 ≤ c ∧ c ≤ 122)) (h2 : ¬ (65 ≤ c ∧ c ≤ 90)) (h : aSign c = none) (h3 : c < 32 ∨ 126 < c) : aSort c = [] := by
  unfold aSort; rw [if_neg h0, if_neg h1, if_neg h2, h]; simp [h3]
theorem aSort_whole (c : Int) (h0 : c ≠ 32) (h1 : ¬ (97 ≤ c ∧ c ≤ 122)) (h2 : ¬ (65 ≤ c ∧ c ≤ 90)) (h : aSign c = none) (h3 : ¬ (c < 32 ∨ 126 < c)) : aSort c = [29, c / 16, c % 16] := by
  unfold aSort; rw [if_neg h0, if_neg h1, if_neg h2, h]; simp only [if_neg h3]
theorem aSort_len (c : Int) : (aSort c).length ≤ 3 := by
  unfold aSort
  split
  · simp
  · split
    · simp
    · split
      · simp
      · split
        · simp
        · split <;> simp
theorem aOne_len (c : Int) : (aOne c).length ≤ 3 := by
  unfold aOne
  split
  · simp
  · split
    · simp
    · split
      · simp
      · split <;> simp
theorem aOne_sort (c : Int) (h : tOkB c = true) : aOne c = aSort c := by
  by_cases h0 : c = 10
  · subst h0; decide
  · have h1 : 32 ≤ c ∧ c ≤ 126 := by simpa [tOkB, h0] using h
    unfold aOne aSort
    simp only [if_neg (show ¬ (c < 32 ∨ 126 < c) by omega)]
theorem aSort_out (c : Int) (h : tOkB c = false) : aSort c = [] := by
  have h1 : c ≠ 10 ∧ (c < 32 ∨ 126 < c) := by simp [tOkB] at h; omega
  refine aSort_none c (by omega) (by omega) (by omega) (aSign_none c fun k hk => ?_) h1.2
  have : ∀ r : Fin 31, aSigns.getD r.val 0 = 10 ∨ (32 ≤ aSigns.getD r.val 0 ∧ aSigns.getD r.val 0 ≤ 126) := by decide
  have := this ⟨k, hk⟩
  simp only at this
  omega
/-- The codes of bytes. -/
def aCodes (l : List Int) : List Int := l.flatMap aSort
theorem aCodes_snoc (l : List Int) (c : Int) : aCodes (l ++ [c]) = aCodes l ++ aSort c := by simp [aCodes]
theorem aCodes_append (l m : List Int) : aCodes (l ++ m) = aCodes l ++ aCodes m := by simp [aCodes]
theorem aCodes_len (l : List Int) : (aCodes l).length ≤ 3 * l.length := by
  induction l with
  | nil => simp [aCodes]
  | cons a l ih =>
    have := aSort_len a
    simp only [aCodes, List.flatMap_cons, List.length_append, List.length_cons] at *
    omega
/-- The codes of a text; the error. -/
def aTextCodes (l : List Int) : List Int × Int := if isTextB l = true then (aCodes l, 0) else ([], 13)
end Go.Proofs.Ytianabgdggheiaa
