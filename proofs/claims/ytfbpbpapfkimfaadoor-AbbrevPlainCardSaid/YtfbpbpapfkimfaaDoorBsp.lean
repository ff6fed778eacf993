/- The codes of chapter 6 as plain lists of numbers. No program stands in this text. Chapter 7 as plain data: rows counted in maps. No program stands in this text. -/
import Derived.Test.YtfbpbpapfkimfaaDoorTexts
import Derived.Test.YtfbpbpapfkimfaaDoorMq
namespace Go.Proofs.YtfbpbpapfkimfaaDoor

abbrev aSignsB : ByteArray := ⟨#[48, 49, 50, 51, 52, 53, 54, 55, 56, 57, 46, 44, 33, 63, 39, 34, 45, 58, 59, 40, 41, 47, 38, 42, 43, 61, 37, 35, 36, 10, 60]⟩
def aSigns : List Int := [48, 49, 50, 51, 52, 53, 54, 55, 56, 57, 46, 44, 33, 63, 39, 34, 45, 58, 59, 40, 41, 47, 38, 42, 43, 61, 37, 35, 36, 10, 60]
theorem aSigns_len : aSigns.length = 31 := rfl
theorem aSigns_at (k : Nat) (h : k < 31) : (aSignsB[k]'h).toNat = aSigns.getD k 0 ∧ (aSignsB[k]'h).toNat < 128 := by
  have : ∀ r : Fin 31, ((aSignsB[r.val]'r.2).toNat : Int) = aSigns.getD r.val 0 ∧ (aSignsB[r.val]'r.2).toNat < 128 := by decide
  exact this ⟨k, h⟩
/-- A sign's place. -/
def aSign (c : Int) : Option Nat := aSigns.idxOf? c
theorem aSign_some (k : Nat) (h : k < 31) : aSign (aSigns.getD k 0) = some k := by
  have : ∀ r : Fin 31, aSign (aSigns.getD r.val 0) = some r.val := by decide
  exact this ⟨k, h⟩
theorem aSign_none (c : Int) (h : ∀ k, k < 31 → aSigns.getD k 0 ≠ c) : aSign c = none := by
  unfold aSign
  rw [List.idxOf?_eq_none_iff]
  intro hm
  obtain ⟨k, hk, he⟩ := List.mem_iff_getElem.1 hm
  exact h k hk (by simp only [List.getD, List.getElem?_eq_getElem hk, Option.getD_some]; exact he)
/-- A byte's codes; none: no text has it. -/
def aSort (c : Int) : List Int :=
  if c = 32 then [0] else if 97 ≤ c ∧ c ≤ 122 then [c - 96] else if 65 ≤ c ∧ c ≤ 90 then [27, c - 64] else
  match aSign c with
  | some i => [28, i]
  | none => if c < 32 ∨ 126 < c then [] else [29, c / 16, c % 16]
/-- The same of the reference, which asks no text. -/
def aOne (c : Int) : List Int :=
  if c = 32 then [0] else if 97 ≤ c ∧ c ≤ 122 then [c - 96] else if 65 ≤ c ∧ c ≤ 90 then [27, c - 64] else
  match aSign c with
  | some i => [28, i]
  | none => [29, c / 16, c % 16]
theorem aSort_space : aSort 32 = [0] := by decide
theorem aSort_small (c : Int) (h : 97 ≤ c) (h' : c ≤ 122) : aSort c = [c - 96] := by
  unfold aSort; rw [if_neg (by omega), if_pos ⟨h, h'⟩]
theorem aSort_great (c : Int) (h : 65 ≤ c) (h' : c ≤ 90) : aSort c = [27, c - 64] := by
  unfold aSort; rw [if_neg (by omega), if_neg (by omega), if_pos ⟨h, h'⟩]
theorem aSort_sign (c : Int) (h0 : c ≠ 32) (h1 : ¬ (97 ≤ c ∧ c ≤ 122)) (h2 : ¬ (65 ≤ c ∧ c ≤ 90)) (k : Nat) (h : aSign c = some k) : aSort c = [28, (k : Int)] := by
  unfold aSort; rw [if_neg h0, if_neg h1, if_neg h2, h]
theorem aSort_none (c : Int) (h0 : c ≠ 32) (h1 : ¬ (97 ≤ c ∧ c ≤ 122)) (h2 : ¬ (65 ≤ c ∧ c ≤ 90)) (h : aSign c = none) (h3 : c < 32 ∨ 126 < c) : aSort c = [] := by
  unfold aSort; rw [if_neg h0, if_neg h1, if_neg h2, h]; simp [h3]
theorem aSort_whole (c : Int) (h0 : c ≠ 32) (h1 : ¬ (97 ≤ c ∧ c ≤ 122)) (h2 : ¬ (65 ≤ c ∧ c ≤ 90)) (h : aSign c = none) (h3 : ¬ (c < 32 ∨ 126 < c)) : aSort c = [29, c / 16, c % 16] := by
  unfold aSort; rw [if_neg h0, if_neg h1, if_neg h2, h]; simp only [if_neg h3]
theorem aSort_len (c : Int) : (aSort c).length ≤ 3 := by
  unfold aSort
  split
  · simp
  · split
    · simp
    · split
      · simp
      · split
        · simp
        · split <;> simp
theorem aOne_len (c : Int) : (aOne c).length ≤ 3 := by
  unfold aOne
  split
  · simp
  · split
    · simp
    · split
      · simp
      · split <;> simp
theorem aOne_sort (c : Int) (h : tOkB c = true) : aOne c = aSort c := by
  by_cases h0 : c = 10
  · subst h0; decide
  · have h1 : 32 ≤ c ∧ c ≤ 126 := by simpa [tOkB, h0] using h
    unfold aOne aSort
    simp only [if_neg (show ¬ (c < 32 ∨ 126 < c) by omega)]
theorem aSort_out (c : Int) (h : tOkB c = false) : aSort c = [] := by
  have h1 : c ≠ 10 ∧ (c < 32 ∨ 126 < c) := by simp [tOkB] at h; omega
  refine aSort_none c (by omega) (by omega) (by omega) (aSign_none c fun k hk => ?_) h1.2
  have : ∀ r : Fin 31, aSigns.getD r.val 0 = 10 ∨ (32 ≤ aSigns.getD r.val 0 ∧ aSigns.getD r.val 0 ≤ 126) := by decide
  have := this ⟨k, hk⟩
  simp only at this
  omega
/-- The codes of bytes. -/
def aCodes (l : List Int) : List Int := l.flatMap aSort
theorem aCodes_snoc (l : List Int) (c : Int) : aCodes (l ++ [c]) = aCodes l ++ aSort c := by simp [aCodes]
theorem aCodes_append (l m : List Int) : aCodes (l ++ m) = aCodes l ++ aCodes m := by simp [aCodes]
theorem aCodes_len (l : List Int) : (aCodes l).length ≤ 3 * l.length := by
  induction l with
  | nil => simp [aCodes]
  | cons a l ih =>
    have := aSort_len a
    simp only [aCodes, List.flatMap_cons, List.length_append, List.length_cons] at *
    omega
/-- The codes of a text; the error. -/
def aTextCodes (l : List Int) : List Int × Int := if isTextB l = true then (aCodes l, 0) else ([], 13)
end Go.Proofs.YtfbpbpapfkimfaaDoor
namespace Go.Proofs.YtfbpbpapfkimfaaDoor
open Go.RowKit Go.Maps
set_option linter.unusedVariables false

def kS (s : ByteArray) : Lit := .string s.data.toList
def iv (c : Int) : DataW Unit := .lit (.int .i64 c)
def getM (D : DataW Unit) (s : ByteArray) : Int := match D.atKey (kS s) (iv 0) with | .lit (.int _ c) => c | _ => 0
/-- A map of numbers. -/
def MI (D : DataW Unit) : Prop := Tidy D ∧ ∀ s, D.atKey (kS s) (iv 0) = iv (getM D s)
theorem kS_inj {s t : ByteArray} (h : kS s = kS t) : s = t := by
  unfold kS at h
  injection h with h
  cases s
  cases t
  simpa [Array.toList_inj] using h
theorem kS_key (s : ByteArray) : WideAt.IsKeyLit (kS s) := trivial
theorem mi_empty : MI (.map []) := ⟨tidy_empty, fun s => rfl⟩
theorem get_empty (s : ByteArray) : getM (.map []) s = 0 := rfl
theorem at_put {D : DataW Unit} (h : MI D) (s : ByteArray) (c : Int) (t : ByteArray) : (D.put (kS s) (iv c)).atKey (kS t) (iv 0) = iv (if t = s then c else getM D t) := by
  by_cases e : t = s
  · subst e
    rw [if_pos rfl]
    exact atKey_put_same h.1.isMap (kS_key t) _ _
  · rw [if_neg e, atKey_put_other (fun h' => e (kS_inj h')), h.2 t]
theorem get_put {D : DataW Unit} (h : MI D) (s : ByteArray) (c : Int) (t : ByteArray) : getM (D.put (kS s) (iv c)) t = if t = s then c else getM D t := by
  unfold getM
  rw [at_put h s c t]
  rfl
theorem mi_put {D : DataW Unit} (h : MI D) (s : ByteArray) (c : Int) : MI (D.put (kS s) (iv c)) := ⟨h.1.put (kS_key s) _, fun t => by rw [at_put h s c t, get_put h s c t]⟩
theorem size_put_le {D : DataW Unit} (h : MI D) (s : ByteArray) (c : Int) : Maps.size (D.put (kS s) (iv c)) ≤ Maps.size D + 1 := by
  rw [size_put h.1]
  split <;> omega
theorem has_put {D : DataW Unit} (h : MI D) (s : ByteArray) (c : Int) (t : ByteArray) : Maps.has (D.put (kS s) (iv c)) (kS t) = (decide (t = s) || Maps.has D (kS t)) := by
  by_cases e : t = s
  · subst e
    rw [has_put_same h.1.isMap (kS_key t)]
    simp
  · rw [has_put_other fun h' => e (kS_inj h')]
    simp [e]
/-! ### Counting: the maps, step by step -/
abbrev MM := DataW Unit × DataW Unit
def cStep (p : ByteArray) (i n : Nat) (s : MM) : MM :=
  if getM s.2 (p.extract i (i + n)) ≤ i then (s.1.put (kS (p.extract i (i + n))) (iv (getM s.1 (p.extract i (i + n)) + 1)), s.2.put (kS (p.extract i (i + n))) (iv ((i + n : Nat) : Int))) else s
/-- The rows at a place, of 2 to 8 bytes: k of them. -/
def cRow (p : ByteArray) (i : Nat) (s : MM) : Nat → MM
  | 0 => s
  | k + 1 => if k + 2 ≤ 8 ∧ i + (k + 2) ≤ p.size then cStep p i (k + 2) (cRow p i s k) else cRow p i s k
def cPart (p : ByteArray) (M : DataW Unit) : Nat → MM
  | 0 => (M, .map [])
  | i + 1 => cRow p i (cPart p M i) 7
def cAll (l : List ByteArray) : Nat → DataW Unit
  | 0 => .map []
  | k + 1 => (cPart (l.getD k ⟨#[]⟩) (cAll l k) (l.getD k ⟨#[]⟩).size).1
/-- Maps of numbers that are not negative, of so many entries at most. -/
structure Sane (b : Nat) (s : MM) : Prop where
  m1 : MI s.1
  m2 : MI s.2
  s1 : Maps.size s.1 ≤ b
  s2 : Maps.size s.2 ≤ b
  g1 : ∀ t, 0 ≤ getM s.1 t ∧ getM s.1 t ≤ b
  g2 : ∀ t, 0 ≤ getM s.2 t ∧ getM s.2 t ≤ 2000000000
theorem Sane.step {b : Nat} {s : MM} (h : Sane b s) (p : ByteArray) (i n : Nat) (hin : i + n ≤ 2000000000) : Sane (b + 1) (cStep p i n s) := by
  unfold cStep
  split
  · refine ⟨mi_put h.m1 _ _, mi_put h.m2 _ _, ?_, ?_, fun t => ?_, fun t => ?_⟩
    · have := size_put_le h.m1 (p.extract i (i + n)) (getM s.1 (p.extract i (i + n)) + 1); have := h.s1; show Maps.size (s.1.put _ _) ≤ _; omega
    · have := size_put_le h.m2 (p.extract i (i + n)) ((i + n : Nat) : Int); have := h.s2; show Maps.size (s.2.put _ _) ≤ _; omega
    · show 0 ≤ getM (s.1.put _ _) t ∧ getM (s.1.put _ _) t ≤ _
      rw [get_put h.m1]
      have h1 := h.g1 (p.extract i (i + n))
      have h2 := h.g1 t
      split <;> omega
    · show 0 ≤ getM (s.2.put _ _) t ∧ getM (s.2.put _ _) t ≤ _
      rw [get_put h.m2]
      have h2 := h.g2 t
      split <;> omega
  · exact ⟨h.m1, h.m2, by have := h.s1; omega, by have := h.s2; omega, fun t => by have := h.g1 t; omega, h.g2⟩
theorem Sane.more {b c : Nat} {s : MM} (h : Sane b s) (hc : b ≤ c) : Sane c s := ⟨h.m1, h.m2, by have := h.s1; omega, by have := h.s2; omega, fun t => by have := h.g1 t; omega, h.g2⟩
theorem Sane.row {b : Nat} {s : MM} (h : Sane b s) {p : ByteArray} {i : Nat} (hp : p.size ≤ 1000000000) : ∀ k, Sane (b + k) (cRow p i s k)
  | 0 => h
  | k + 1 => by
    have := Sane.row h hp (i := i) k
    unfold cRow
    split
    · exact this.step p i (k + 2) (by omega)
    · exact this.more (by omega)
theorem Sane.part {b : Nat} {M : DataW Unit} (hM : MI M) (hs : Maps.size M ≤ b) (hg : ∀ t, 0 ≤ getM M t ∧ getM M t ≤ b) {p : ByteArray} (hp : p.size ≤ 1000000000) : ∀ k, Sane (b + 7 * k) (cPart p M k)
  | 0 => ⟨hM, mi_empty, hs, Nat.zero_le _, hg, fun t => by show 0 ≤ getM (.map []) t ∧ getM (.map []) t ≤ _; rw [get_empty]; omega⟩
  | k + 1 => ((Sane.part hM hs hg hp k).row hp 7).more (by omega)
end Go.Proofs.YtfbpbpapfkimfaaDoor
