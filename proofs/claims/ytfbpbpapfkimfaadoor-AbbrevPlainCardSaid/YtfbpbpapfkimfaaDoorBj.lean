/- strings.HasPrefix, by the library's contract; what stands at a place. -/
import Derived.Test.YtfbpbpapfkimfaaDoorBi
namespace Go.Proofs.YtfbpbpapfkimfaaDoor
open Go.RowKit
set_option maxRecDepth 100000
set_option linter.unusedVariables false
theorem pref_list (s p : ByteArray) : Lib.hasPrefix s.data.toList p.data.toList = (decide (p.size ≤ s.size) && decide (s.extract 0 p.size = p)) := by
  rw [Bool.eq_iff_iff]
  unfold Lib.hasPrefix
  rw [List.isPrefixOf_iff_prefix, Bool.and_eq_true, decide_eq_true_eq, decide_eq_true_eq]
  have hs : s.data.toList.length = s.size := by rw [Array.length_toList]; rfl
  have hp : p.data.toList.length = p.size := by rw [Array.length_toList]; rfl
  have key : (s.extract 0 p.size).data.toList = s.data.toList.take p.size := by
    rw [ByteArray.data_extract, Array.toList_extract, List.extract_eq_take_drop]
    simp
  constructor
  · intro h
    have hl := h.length_le
    refine ⟨by omega, ?_⟩
    have e := List.prefix_iff_eq_take.1 h
    rw [hp] at e
    have : (s.extract 0 p.size).data.toList = p.data.toList := by rw [key, ← e]
    exact ByteArray.ext (Array.toList_inj.1 this)
  · intro h
    rw [List.prefix_iff_eq_take, hp, ← key, h.2]
theorem hasPrefix_pc (s p : ByteArray) : PC Tryd.prog 27 [vs s, vs p] (vb (decide (p.size ≤ s.size) && decide (s.extract 0 p.size = p))) := by
  intro E vs hG hA _ _ _
  unfold RepL RepL RepL at hA
  obtain ⟨v, us, rfl, hv, v', us', rfl, hv', rfl⟩ := hA
  unfold Rep at hv hv'
  subst hv
  subst hv'
  refine (Tryd.strings_HasPrefix s p E.w).mono ?_
  rintro en w' ⟨rfl, rfl⟩
  have hb : Below E.w.heap.size E.w E.w := Below.refl _ _
  exact ⟨E, _, rfl, rfl, hG, (Step.refl E).kept (by simp), by rw [pref_list]; unfold Rep; rfl, fun n y hn => by simp [lkH] at hn⟩
/-- From a place on. -/
theorem pref_at {s a : ByteArray} {i : Nat} (hi : i ≤ s.size) : (decide (a.size ≤ (s.extract i s.size).size) && decide ((s.extract i s.size).extract 0 a.size = a)) = (decide (i + a.size ≤ s.size) && decide (s.extract i (i + a.size) = a)) := by
  have e1 : (s.extract i s.size).size = s.size - i := by rw [ByteArray.size_extract]; omega
  rw [e1]
  by_cases h : i + a.size ≤ s.size
  · have e2 : (s.extract i s.size).extract 0 a.size = s.extract i (i + a.size) := by
      refine tB_inj ?_
      rw [tB_extract, tB_extract, tB_extract]
      rw [List.drop_zero, List.take_of_length_le (l := tB s) (by rw [tB_len]; exact Nat.le_refl _), List.drop_take]
      congr 1
      omega
    rw [e2]
    congr 1
    rw [decide_eq_decide]
    omega
  · have f2 : decide (i + a.size ≤ s.size) = false := by simp; omega
    have f3 : decide (a.size ≤ s.size - i) = false := by simp; omega
    rw [f2, f3]
    rfl
end Go.Proofs.YtfbpbpapfkimfaaDoor
