/- Chapter 7 as plain data: choosing abbreviations. No program is walked in this text. -/
import Derived.Test.YtfbpbpapfkimfaaDoorBf
import Derived.Test.YtfbpbpapfkimfaaDoorBg
namespace Go.Proofs.YtfbpbpapfkimfaaDoor
open Go.RowKit
set_option linter.unusedVariables false
/-- Bytes and texts, together. -/
def wt : List ByteArray → Nat
  | [] => 0
  | s :: l => s.size + 1 + wt l
theorem wt_append (a b : List ByteArray) : wt (a ++ b) = wt a + wt b := by
  induction a with
  | nil => simp [wt]
  | cons x a ih => simp only [List.cons_append, wt, ih]; omega
theorem wt_len (l : List ByteArray) : l.length ≤ wt l := by
  induction l with
  | nil => exact Nat.le_refl _
  | cons x l ih => simp only [List.length_cons, wt]; omega
theorem wt_size (l : List ByteArray) : ∀ k, (l.getD k ⟨#[]⟩).size ≤ wt l := by
  induction l with
  | nil => intro k; simp; exact Nat.zero_le _
  | cons x l ih =>
    intro k
    cases k with
    | zero => simp only [List.getD_cons_zero, wt]; omega
    | succ k => have := ih k; simp only [List.getD_cons_succ, wt]; omega
theorem few_wt {l : List ByteArray} (h : wt l ≤ 10000) : FewT l := ⟨by have := wt_len l; omega, fun k => by have := wt_size l k; omega⟩
theorem wt_split {r : ByteArray} (hr : 1 ≤ r.size) : ∀ (k : Nat) (s : ByteArray), wt (Lib.splitB r 0 k s) ≤ s.size + 1
  | 0, s => by rw [Lib.splitB_zero]; simp [wt]
  | k + 1, s => by
    rcases Lib.indexB_cases s r with h | ⟨i, h, hi⟩
    · rw [Lib.splitB_miss r 0 (k + 1) s h]; simp [wt]
    · rw [Lib.splitB_hit r 0 k s i h]
      have h1 := wt_split hr k (s.extract (i + r.size) s.size)
      have e1 : (s.extract (i + r.size) s.size).size = s.size - (i + r.size) := by rw [ByteArray.size_extract]; omega
      have e2 : (s.extract 0 (i + 0)).size = i := by rw [ByteArray.size_extract]; omega
      simp only [wt]
      omega
/-- The first k texts, split. -/
def splA (l : List ByteArray) (r : ByteArray) : Nat → List ByteArray
  | 0 => []
  | k + 1 => splA l r k ++ splitP (l.getD k ByteArray.empty) r
theorem wt_splA {r : ByteArray} (hr : 1 ≤ r.size) (l : List ByteArray) : ∀ k, k ≤ l.length → wt (splA l r k) ≤ wt (l.take k)
  | 0, _ => Nat.le_refl _
  | k + 1, hk => by
    have h1 := wt_splA hr l k (by omega)
    have h2 := wt_split hr (Lib.countB (l.getD k ByteArray.empty) r) (l.getD k ByteArray.empty)
    have e : l.take (k + 1) = l.take k ++ [l.getD k ByteArray.empty] := by rw [List.take_add_one]; simp [show k < l.length from hk]
    unfold splA
    rw [wt_append, e, wt_append]
    have : wt [l.getD k ByteArray.empty] = (l.getD k ByteArray.empty).size + 1 := by simp [wt]
    unfold splitP
    omega
theorem wt_spl {r : ByteArray} (hr : 1 ≤ r.size) (l : List ByteArray) : wt (splA l r l.length) ≤ wt l := by
  have := wt_splA hr l l.length (Nat.le_refl _)
  rwa [List.take_length] at this
noncomputable def bestL (l : List ByteArray) : RowP := bestR (cAll l l.length)
noncomputable def chF (upto : Int) : Nat → List ByteArray → List ByteArray → List ByteArray
  | 0, out, _ => out
  | f + 1, out, parts => if (out.length : Int) < min upto 32 then (if (bestL parts).2 ≤ 0 then out else chF upto f (out ++ [(bestL parts).1]) (splA parts (bestL parts).1 parts.length)) else out
noncomputable def chooseP (l : List ByteArray) (upto : Int) : List ByteArray := chF upto 33 [] l
/-- The best is none, or a row of 2 to 8 bytes that stands there. -/
theorem bestL_ok {l : List ByteArray} (h : FewT l) : (bestL l).1.size ≤ 8 ∧ ((bestL l).2 > 0 → 2 ≤ (bestL l).1.size) := by
  have hk := keys_all h l.length
  by_cases hx : ∃ r, BestOf (cAll l l.length) (fun _ => false) r
  · obtain ⟨r, hr⟩ := hx
    unfold bestL
    rw [bestR_eq hr]
    refine ⟨best_size hk hr, fun hp => ?_⟩
    rcases hr with ⟨h1, _⟩ | ⟨h1, _⟩
    · rw [h1] at hp
      exact absurd hp (by decide)
    · exact (hk _ h1).1
  · have e : bestL l = (⟨#[]⟩, 0) := by unfold bestL bestR; rw [dif_neg hx]
    rw [e]
    exact ⟨by decide, fun hp => absurd hp (by decide)⟩
theorem app_vs (l : List ByteArray) : ∀ j, j < l.length → szB ((fun j => vs (l.getD j ByteArray.empty)) j) 1 = true ∧ ∀ i y, i < 1 → (l.map vs)[j * 1 + i]? = some y → (flatA ((fun j => vs (l.getD j ByteArray.empty)) j))[i]? = some y := row_one (fun j y hy => by
  rw [List.getElem?_map] at hy
  cases h : l[j]? with
  | none => rw [h] at hy; cases hy
  | some z => rw [h] at hy; simp at hy; subst hy; simp [List.getD, h]) (fun j hj => ⟨rfl, rfl⟩)
theorem app_vs1 (c : ByteArray) : ∀ j, j < 1 → szB (rowL [vs c] j) 1 = true ∧ ∀ i y, i < 1 → [vs c][j * 1 + i]? = some y → (flatA (rowL [vs c] j))[i]? = some y := fun j hj => by
  have : j = 0 := by omega
  subst this
  refine ⟨rfl, fun i y hi hy => ?_⟩
  have : i = 0 := by omega
  subst this
  exact hy
theorem row_vs (l : List ByteArray) : ∀ j, j < l.length → (l.map vs)[j]? = some ((fun j => vs (l.getD j ByteArray.empty)) j) ∧ oneA ((fun j => vs (l.getD j ByteArray.empty)) j) = true := fun j hj => ⟨by simp [hj], rfl⟩
end Go.Proofs.YtfbpbpapfkimfaaDoor
