/- Sizes that were put are taken back; how far a size reaches. Plain lists of numbers. -/
import Derived.Test.YtjjgdjcapfenpaaWireSpec
namespace Go.Proofs.Ytjjgdjcapfenpaa


theorem sGrp_bound (xs : List Int) (hb : Byt xs) (at0 most : Int) : ∀ (f k : Nat) (n : Int), k + f ≤ 6 → 0 ≤ n → n < 128 ^ k → 0 ≤ (sGrp xs at0 most f k n).1 ∧ (sGrp xs at0 most f k n).1 < 34359738368
  | 0, _, _, _, _, _ => by simp [sGrp]
  | f + 1, k, n, hk, h0, h1 => by
    rw [sGrp]
    have z : (0 : Int) ≤ 0 ∧ (0 : Int) < 34359738368 := by decide
    split
    · exact z
    · rename_i hlk
      split
      · exact z
      · rename_i h5
        have hx : 0 ≤ xs.getD (at0 + k).toNat 0 ∧ xs.getD (at0 + k).toNat 0 < 256 := by
          unfold sLacks at hlk
          have hidx : (at0 + k).toNat < xs.length := by omega
          have := hb.get hidx
          simpa [List.getD, List.getElem?_eq_getElem hidx] using this
        generalize xs.getD (at0 + k).toNat 0 = x at *
        have hk4 : k ≤ 4 := by omega
        have hy : 0 ≤ x % 128 ∧ x % 128 ≤ 127 := by omega
        generalize x % 128 = y at *
        have key : 0 ≤ n + y * 128 ^ k ∧ n + y * 128 ^ k < 128 ^ (k + 1) ∧ (128 : Int) ^ (k + 1) ≤ 34359738368 := by
          rcases (show k = 0 ∨ k = 1 ∨ k = 2 ∨ k = 3 ∨ k = 4 by omega) with rfl | rfl | rfl | rfl | rfl <;> (simp only [Int.reducePow, Nat.zero_add, Nat.reduceAdd] at *; omega)
        split
        · split
          · exact z
          · exact ⟨key.1, by omega⟩
        · exact sGrp_bound xs hb at0 most f (k + 1) _ (by omega) key.1 key.2.1
theorem sTS_bound (xs : List Int) (hb : Byt xs) (at_ err most : Int) : 0 ≤ (sTS xs at_ err most).1 ∧ (sTS xs at_ err most).1 < 34359738368 := by
  unfold sTS
  split
  · exact ⟨Int.le_refl 0, by omega⟩
  · exact sGrp_bound xs hb at_ most 6 0 0 (by omega) (by omega) (by decide)
theorem getD_mid (pre post : List Int) (h : Int) : (pre ++ h :: post).getD pre.length 0 = h := by simp [List.getD]
theorem sGrp_size (a : Nat) (most : Int) (m : Nat) : ∀ (pre post : List Int) (k f : Nat) (acc : Int), pre.length = a + k → (sSizeN m).length ≤ f → k + (sSizeN m).length ≤ 5 → (k = 0 ∨ 0 < m) → acc + m * 128 ^ k ≤ most →
    sGrp (pre ++ (sSizeN m ++ post)) a most f k acc = (acc + m * 128 ^ k, (a : Int) + k + (sSizeN m).length, 0) := by
  induction m using Nat.strongRecOn with
  | ind m ih =>
    intro pre post k f acc hp hf h5 h0 hm
    by_cases h : m < 128
    · rw [sSizeN_small h] at hf h5 ⊢
      obtain ⟨f', rfl⟩ : ∃ f', f = f' + 1 := ⟨f - 1, by simp at hf; omega⟩
      have hidx : ((a : Int) + k).toNat = pre.length := by omega
      have hg : (pre ++ ([(m : Int)] ++ post)).getD ((a : Int) + k).toNat 0 = m := by rw [hidx]; exact getD_mid pre post m
      rw [sGrp, if_neg (by unfold sLacks; simp; omega), hg, if_neg (by simp at h5; omega), if_pos (by omega)]
      have hmod : (m : Int) % 128 = m := by omega
      rw [hmod, if_neg (by omega)]
      simp
    · have hs := sSizeN_big h
      rw [hs] at hf h5 ⊢
      have hpos : 0 < (sSizeN (m / 128)).length := by
        rw [sSizeN]; split <;> simp
      obtain ⟨f', rfl⟩ : ∃ f', f = f' + 1 := ⟨f - 1, by simp at hf; omega⟩
      have hidx : ((a : Int) + k).toNat = pre.length := by omega
      have hg : (pre ++ (((128 + m % 128 : Nat) : Int) :: sSizeN (m / 128) ++ post)).getD ((a : Int) + k).toNat 0 = ((128 + m % 128 : Nat) : Int) := by rw [hidx]; exact getD_mid pre _ _
      rw [sGrp, if_neg (by unfold sLacks; simp; omega), hg, if_neg (by simp at h5; omega), if_neg (by omega)]
      have hmod : ((128 + m % 128 : Nat) : Int) % 128 = (m : Int) % 128 := by omega
      rw [hmod]
      have hl : pre ++ (((128 + m % 128 : Nat) : Int) :: sSizeN (m / 128) ++ post) = (pre ++ [((128 + m % 128 : Nat) : Int)]) ++ (sSizeN (m / 128) ++ post) := by simp
      have hsum : acc + (m : Int) % 128 * 128 ^ k + ((m / 128 : Nat) : Int) * 128 ^ (k + 1) = acc + m * 128 ^ k := by
        rw [Int.pow_succ, show (128 : Int) ^ k * 128 = 128 * 128 ^ k from Int.mul_comm _ _, ← Int.mul_assoc, Int.add_assoc, ← Int.add_mul]
        congr 2
        omega
      rw [hl, ih (m / 128) (by omega) _ post (k + 1) f' _ (by simp; omega) (by simp at hf; omega) (by simp at h5; omega) (by omega) (by rw [hsum]; exact hm), hsum]
      simp only [List.length_cons]
      congr 2
      omega
theorem sTS_back (pre post : List Int) (m : Nat) (most : Int) (hm : m ≤ 2147483647) (hmost : (m : Int) ≤ most) : sTS (pre ++ (sSize m ++ post)) pre.length 0 most = ((m : Int), ((pre.length + (sSize m).length : Nat) : Int), 0) := by
  have h := sSizeN_len m 4 (by have : 128 ^ (4 + 1) = 34359738368 := by decide
                               omega)
  unfold sTS sSize
  rw [if_neg (by omega), Int.toNat_natCast, sGrp_size pre.length most m pre post 0 6 0 (by simp) (by omega) (by omega) (.inl rfl) (by simp; omega)]
  simp
end Go.Proofs.Ytjjgdjcapfenpaa
