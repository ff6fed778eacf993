/- What was put is taken back: chapter 2 as plain lists of numbers. No program stands in this text. -/
import Derived.Test.YtjloemlnejndmaaVwH
import Derived.Shelf.Spec.RuneCount
namespace Go.Proofs.Ytjloemlnejndmaa

theorem getD_mid (pre post : List Int) (h : Int) : (pre ++ h :: post).getD pre.length 0 = h := by simp [List.getD]
theorem sGrp_size (a : Nat) (most : Int) (m : Nat) : ∀ (pre post : List Int) (k f : Nat) (acc : Int), pre.length = a + k → (sSizeN m).length ≤ f → k + (sSizeN m).length ≤ 5 → (k = 0 ∨ 0 < m) → acc + m * 128 ^ k ≤ most →
    sGrp (pre ++ (sSizeN m ++ post)) a most f k acc = (acc + m * 128 ^ k, (a : Int) + k + (sSizeN m).length, 0) := by
  induction m using Nat.strongRecOn with
  | ind m ih =>
    intro pre post k f acc hp hf h5 h0 hm
    by_cases h : m < 128
    · rw [sSizeN_small h] at hf h5 ⊢
      obtain ⟨f', rfl⟩ : ∃ f', f = f' + 1 := ⟨f - 1, by simp at hf; omega⟩
      have hidx : ((a : Int) + k).toNat = pre.length := by omega
      have hg : (pre ++ ([(m : Int)] ++ post)).getD ((a : Int) + k).toNat 0 = m := by rw [hidx]; exact getD_mid pre post m
      rw [sGrp, if_neg (by unfold sLacks; simp; omega), hg, if_neg (by simp at h5; omega), if_pos (by omega)]
      have hmod : (m : Int) % 128 = m := by omega
      rw [hmod, if_neg (by omega)]
      simp
    · have hs := sSizeN_big h
      rw [hs] at hf h5 ⊢
      have hpos : 0 < (sSizeN (m / 128)).length := by
        rw [sSizeN]; split <;> simp
      obtain ⟨f', rfl⟩ : ∃ f', f = f' + 1 := ⟨f - 1, by simp at hf; omega⟩
      have hidx : ((a : Int) + k).toNat = pre.length := by omega
      have hg : (pre ++ (((128 + m % 128 : Nat) : Int) :: sSizeN (m / 128) ++ post)).getD ((a : Int) + k).toNat 0 = ((128 + m % 128 : Nat) : Int) := by rw [hidx]; exact getD_mid pre _ _
      rw [sGrp, if_neg (by unfold sLacks; simp; omega), hg, if_neg (by simp at h5; omega), if_neg (by omega)]
      have hmod : ((128 + m % 128 : Nat) : Int) % 128 = (m : Int) % 128 := by omega
      rw [hmod]
      have hl : pre ++ (((128 + m % 128 : Nat) : Int) :: sSizeN (m / 128) ++ post) = (pre ++ [((128 + m % 128 : Nat) : Int)]) ++ (sSizeN (m / 128) ++ post) := by simp
      have hsum : acc + (m : Int) % 128 * 128 ^ k + ((m / 128 : Nat) : Int) * 128 ^ (k + 1) = acc + m * 128 ^ k := by
        rw [Int.pow_succ, show (128 : Int) ^ k * 128 = 128 * 128 ^ k from Int.mul_comm _ _, ← Int.mul_assoc, Int.add_assoc, ← Int.add_mul]
        congr 2
        omega
      rw [hl, ih (m / 128) (by omega) _ post (k + 1) f' _ (by simp; omega) (by simp at hf; omega) (by simp at h5; omega) (by omega) (by rw [hsum]; exact hm), hsum]
      simp only [List.length_cons]
      congr 2
      omega
theorem sTS_back (pre post : List Int) (m : Nat) (most : Int) (hm : m ≤ 2147483647) (hmost : (m : Int) ≤ most) : sTS (pre ++ (sSize m ++ post)) pre.length 0 most = ((m : Int), ((pre.length + (sSize m).length : Nat) : Int), 0) := by
  have h := sSizeN_len m 4 (by have : 128 ^ (4 + 1) = 34359738368 := by decide
                               omega)
  unfold sTS sSize
  rw [if_neg (by omega), Int.toNat_natCast, sGrp_size pre.length most m pre post 0 6 0 (by simp) (by omega) (by omega) (.inl rfl) (by simp; omega)]
  simp
theorem sOf_back (pre xs post : List Int) (m e : Nat) (most : Int) (hm : m ≤ 2147483647) (hmost : (m : Int) ≤ most) (hl : xs.length = m * e) :
    sOf (pre ++ (sSize m ++ (xs ++ post))) pre.length 0 most e = (xs, ((pre.length + (sSize m).length + m * e : Nat) : Int), 0) := by
  rw [sOf_ok (sTS_back pre (xs ++ post) m most hm hmost) (by unfold sLacks; simp; omega)]
  have : (pre ++ (sSize m ++ (xs ++ post))).drop (pre.length + (sSize m).length) = xs ++ post := by
    rw [← List.append_assoc, ← List.length_append, List.drop_left]
  rw [this, ← hl, List.take_left]
theorem sWord_num (x : Int) : wrap16 (sNum [x % 65536 / 256, x % 256]) = wrap16 x := by
  have : sNum [x % 65536 / 256, x % 256] = x % 65536 := by simp [sNum]; omega
  rw [this]; unfold wrap16; omega
theorem sPairs_words (l : List Int) : sPairs (l.flatMap sWord) = l.map wrap16 := by
  induction l with
  | nil => rfl
  | cons x l ih =>
    have : (x :: l).flatMap sWord = (x % 65536 / 256) :: (x % 256) :: l.flatMap sWord := rfl
    rw [this, sPairs, ih, sWord_num]
    rfl
theorem sSizeN_byt (m : Nat) : Byt (sSizeN m) := by
  induction m using Nat.strongRecOn with
  | ind m ih =>
    by_cases h : m < 128
    · rw [sSizeN_small h]; intro x hx; simp at hx; omega
    · rw [sSizeN_big h]
      intro x hx
      rcases List.mem_cons.1 hx with rfl | hx
      · omega
      · exact ih (m / 128) (by omega) x hx
theorem sSize_byt (m : Int) : Byt (sSize m) := sSizeN_byt _
theorem sInts_byt (l : List Int) : Byt (sInts l) := (sSize_byt _).append (by
  intro x hx
  obtain ⟨y, _, hy⟩ := List.mem_flatMap.1 hx
  simp [sWord] at hy
  omega)
end Go.Proofs.Ytjloemlnejndmaa
