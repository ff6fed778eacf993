/- More of chapter 45 as plain lists: what an applied change says; how long a change is. -/
import Derived.Test.YtjjgdjcapfenpaaDelSpec
namespace Go.Proofs.Ytjjgdjcapfenpaa
set_option linter.unusedVariables false

theorem dLoop_len (a d : List Int) (n : Nat) : ∀ (f : Nat) (p : Int) (out : List Int), out.length ≤ n → (dLoop a d n f p out).1.length ≤ n
  | 0, p, out, h => h
  | f + 1, p, out, h => by
    rw [dLoop]
    split
    · split
      · exact h
      · split
        · exact h
        · rename_i h1 h2 h3
          simp only
          split
          · exact h
          · split
            · exact h
            · split
              · exact h
              · rename_i h4 h5 h6
                refine dLoop_len a d n f _ _ ?_
                rw [List.length_append]
                have t1 := List.length_take_le (sTS d (sTS d p 0 65536).2.1 0 65536).1.toNat (d.drop (sTS d (sTS d p 0 65536).2.1 0 65536).2.1.toNat)
                have t2 := List.length_take_le (sTS d p 0 65536).1.toNat (a.drop out.length)
                have t3 : (out ++ (a.drop out.length).take (sTS d p 0 65536).1.toNat).length ≤ n := by rw [List.length_append]; omega
                omega
    · exact h
theorem dApp_err_nil {a d y : List Int} {e : Int} (h : dApp a d = (y, e)) (he : e ≠ 0) : y = [] := by
  unfold dApp at h
  split at h
  · simp at h; exact h.1
  · simp only at h
    split at h
    · simp at h; exact h.1
    · split at h
      · simp at h; exact h.1
      · split at h
        · simp at h; exact absurd h.2.symm he
        · simp at h; exact h.1
theorem dApp_ok {a d y : List Int} (hd : Byt d) (h : dApp a d = (y, 0)) : dMake a y = d ∧ y.length ≤ 65536 ∧ dSize d = y.length := by
  have hh := h
  unfold dApp at h
  split at h
  · rename_i h1
    simp at h; exact absurd h.2 h1
  · rename_i h1
    have hok := sTS_ok d hd 0 65536 (Int.le_refl _) (by simpa using h1)
    simp only at h
    split at h
    · rename_i h2
      simp at h; exact absurd h.2 h2
    · split at h
      · simp at h
      · split at h
        · rename_i h4
          simp only [Prod.mk.injEq, and_true] at h
          have hl := dLoop_len a d (sTS d 0 0 65536).1.toNat (d.length + 1) (sTS d 0 0 65536).2.1 [] (by simp)
          rw [h] at h4 hl
          have hy : y.length ≤ 65536 := by omega
          refine ⟨h4, hy, ?_⟩
          rw [← h4, dSize_make a y hy]
        · simp at h
end Go.Proofs.Ytjjgdjcapfenpaa
