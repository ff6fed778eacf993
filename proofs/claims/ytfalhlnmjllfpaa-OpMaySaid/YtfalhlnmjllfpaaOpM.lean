/- What is encoded is decoded, what is decoded is encoded: plain lists of numbers. -/
import Derived.Test.YtfalhlnmjllfpaaOpI
namespace Go.Proofs.Ytfalhlnmjllfpaa
set_option linter.unusedVariables false

theorem sizeN_cases (n : Int) : sizeN n = 0 ∨ sizeN n = 1 ∨ sizeN n = 2 := by have := sizeN_le n; omega
theorem size0 {n : Int} (h : sizeN n = 0) : n = 0 := by
  unfold sizeN at h
  split at h
  · assumption
  · split at h <;> cases h
theorem size1 {n : Int} (h : sizeN n = 1) : -128 ≤ n ∧ n ≤ 127 := by
  unfold sizeN at h
  split at h
  · cases h
  · split at h
    · assumption
    · cases h
theorem argOf_argB (n : Int) (h : -32768 ≤ n ∧ n ≤ 32767) : argOf (argB n) = n := by
  rcases sizeN_cases n with hs | hs | hs
  · rw [argB_0 hs, size0 hs]; rfl
  · have := size1 hs
    rw [argB_1 hs]
    show (n % 256 + 128) % 256 - 128 = n
    omega
  · rw [argB_2 hs]
    show ((n / 256 % 256 + 128) % 256 - 128) * 256 + n % 256 = n
    omega
theorem hasB_of_size {op arg : Int} (h : sizeN (insA op arg) ≠ 0) : hasB op = true := by
  cases hb : hasB op with
  | true => rfl
  | false =>
    exfalso
    apply h
    unfold insA
    rw [hb]
    rfl
theorem opEnc_nil {op arg : Int} (h : opEnc op arg ≠ []) : knB op = true ∧ op ≠ 38 := by
  unfold opEnc at h
  split at h
  · assumption
  · exact absurd rfl h
theorem knB_bd {op : Int} (h : knB op = true) : 1 ≤ op ∧ op ≤ 38 := by simpa [knB] using h
theorem opEnc_len {op arg : Int} (h : opEnc op arg ≠ []) : (opEnc op arg).length = 1 + sizeN (insA op arg) := by
  obtain ⟨h1, h2⟩ := opEnc_nil h
  unfold opEnc
  rw [if_pos ⟨h1, h2⟩, List.length_cons, argB_len]
  omega
theorem dec_enc (op arg : Int) (pre post : List Int) (h : opEnc op arg ≠ []) : opDec (pre ++ (opEnc op arg ++ post)) (pre.length : Int) = (op, insA op arg, (pre.length : Int) + (opEnc op arg).length, 0) := by
  have hlen := opEnc_len h
  obtain ⟨h1, h2⟩ := opEnc_nil h
  have hop := knB_bd h1
  have hsz := sizeN_le (insA op arg)
  have hsb := @hasB_of_size op arg
  have ha := insA_bd op arg
  have hoa := argOf_argB (insA op arg) ha
  have hal := argB_len (insA op arg)
  rw [hlen]
  have he : opEnc op arg = (4 * op + sizeN (insA op arg)) :: argB (insA op arg) := by unfold opEnc; rw [if_pos ⟨h1, h2⟩]
  rw [he]
  generalize insA op arg = a at *
  have hx4 : (4 * op + (sizeN a : Int)) / 4 = op := by omega
  have hx5 : (4 * op + (sizeN a : Int)) % 4 = sizeN a := by omega
  unfold opDec
  have hget : (pre ++ ((4 * op + (sizeN a : Int)) :: argB a ++ post)).getD (pre.length : Int).toNat 0 = 4 * op + (sizeN a : Int) := by simp [List.getD]
  have hdrop : ((pre ++ ((4 * op + (sizeN a : Int)) :: argB a ++ post)).drop ((pre.length : Int).toNat + 1)).take ((sizeN a : Int)).toNat = argB a := by
    have : (pre ++ ((4 * op + (sizeN a : Int)) :: argB a ++ post)).drop ((pre.length : Int).toNat + 1) = argB a ++ post := by
      rw [Int.toNat_natCast, show pre ++ ((4 * op + (sizeN a : Int)) :: argB a ++ post) = (pre ++ [4 * op + (sizeN a : Int)]) ++ (argB a ++ post) from by simp]
      rw [List.drop_left' (by simp)]
    rw [this, Int.toNat_natCast, ← hal, List.take_left]
  rw [if_pos ⟨by omega, by simp only [List.length_append, List.length_cons]; omega⟩]
  simp only [hget, hx4, hx5, hdrop, hoa]
  rw [if_neg (by
    rintro (hk | hk | hk | ⟨hk, hh⟩)
    · rw [h1] at hk; cases hk
    · exact h2 hk
    · omega
    · rw [hsb (by omega)] at hh; cases hh)]
  rw [if_neg (by simp only [List.length_append, List.length_cons]; omega), if_neg (by simp)]
  congr 3
  omega
theorem argOf_bd (l : List Int) (h : Bts l) : -32768 ≤ argOf l ∧ argOf l ≤ 32767 := by
  match l, h with
  | [], _ => exact ⟨by decide, by decide⟩
  | [a], h =>
    show -32768 ≤ (a + 128) % 256 - 128 ∧ _
    have := h a (by simp)
    exact ⟨by omega, by show (a + 128) % 256 - 128 ≤ _; omega⟩
  | a :: b :: l, h =>
    have h1 := h a (by simp)
    have h2 := h b (by simp)
    exact ⟨by show _ ≤ ((a + 128) % 256 - 128) * 256 + b; omega, by show ((a + 128) % 256 - 128) * 256 + b ≤ _; omega⟩
theorem argB_argOf (l : List Int) (hb : Bts l) (h : sizeN (argOf l) = l.length) : argB (argOf l) = l := by
  match l, hb, h with
  | [], _, h => exact argB_0 h
  | [a], hb, h =>
    have := hb a (by simp)
    rw [argB_1 h]
    show [((a + 128) % 256 - 128) % 256] = [a]
    congr 1
    omega
  | [a, b], hb, h =>
    have h1 := hb a (by simp)
    have h2 := hb b (by simp)
    rw [argB_2 h]
    show [(((a + 128) % 256 - 128) * 256 + b) / 256 % 256, (((a + 128) % 256 - 128) * 256 + b) % 256] = [a, b]
    rw [show (((a + 128) % 256 - 128) * 256 + b) / 256 % 256 = a from by omega, show (((a + 128) % 256 - 128) * 256 + b) % 256 = b from by omega]
  | a :: b :: c :: l, _, h =>
    have := sizeN_le (argOf (a :: b :: c :: l))
    rw [h] at this
    simp at this
/-- What a decoding that went well says. -/
theorem dec_back (zs : List Int) (hb : Bts zs) (t : Nat) (r1 r2 r3 : Int) (h : opDec zs t = (r1, r2, r3, 0)) :
    ∃ m : Nat, r3 = m ∧ t < m ∧ m ≤ zs.length ∧ (r1 = 24 ∨ r1 = 25 ∨ opEnc r1 r2 = (zs.drop t).take (m - t)) := by
  by_cases ht : t < zs.length
  · have hxb := hb.get ht
    by_cases hc : knB (zs[t] / 4) = false ∨ zs[t] / 4 = 38 ∨ zs[t] % 4 = 3 ∨ (0 < zs[t] % 4 ∧ hasB (zs[t] / 4) = false)
    · rw [dec_code zs t ht hc] at h
      simp at h
    · by_cases hs : (zs.length : Int) - t - 1 < zs[t] % 4
      · rw [dec_short zs t ht hc hs] at h
        simp at h
      · obtain ⟨n, hn⟩ : ∃ n, argOf ((zs.drop (t + 1)).take (zs[t] % 4).toNat) = n := ⟨_, rfl⟩
        by_cases hf : (sizeN n : Int) ≠ zs[t] % 4 ∧ zs[t] / 4 ≠ 24 ∧ zs[t] / 4 ≠ 25
        · rw [dec_form zs t ht hc hs n hn hf] at h
          simp at h
        · rw [dec_ok zs t ht hc hs n hn hf] at h
          simp only [Prod.mk.injEq, and_true] at h
          obtain ⟨rfl, rfl, rfl⟩ := h
          have hk3 : 0 ≤ zs[t] % 4 ∧ zs[t] % 4 < 3 := by
            have : zs[t] % 4 ≠ 3 := fun hh => hc (.inr (.inr (.inl hh)))
            omega
          refine ⟨t + 1 + (zs[t] % 4).toNat, by omega, by omega, by omega, ?_⟩
          by_cases hj : zs[t] / 4 = 24
          · exact .inl hj
          · by_cases hj' : zs[t] / 4 = 25
            · exact .inr (.inl hj')
            · refine .inr (.inr ?_)
              have hsz : (sizeN n : Int) = zs[t] % 4 := by
                by_cases hh : (sizeN n : Int) = zs[t] % 4
                · exact hh
                · exact absurd ⟨hh, hj, hj'⟩ hf
              have hll : ((zs.drop (t + 1)).take (zs[t] % 4).toNat).length = (zs[t] % 4).toNat := by
                rw [List.length_take, List.length_drop]; omega
              have hbl : Bts ((zs.drop (t + 1)).take (zs[t] % 4).toNat) := (hb.drop _).take _
              have hnb := argOf_bd _ hbl
              have hba := argB_argOf _ hbl (by rw [hn, hll]; omega)
              rw [hn] at hnb hba
              have hins : insA (zs[t] / 4) n = n := by
                unfold insA
                split
                · exact wrap16_in n hnb
                · rename_i hh
                  have h0 : zs[t] % 4 = 0 := by
                    rcases Nat.lt_or_ge 0 (zs[t] % 4).toNat with hp | hp
                    · exact absurd (.inr (.inr (.inr ⟨by omega, by simpa using hh⟩))) hc
                    · omega
                  rw [← hn, h0]
                  rfl
              have hkn : knB (zs[t] / 4) = true := by
                cases hk : knB (zs[t] / 4) with
                | true => rfl
                | false => exact absurd (.inl hk) hc
              unfold opEnc
              rw [if_pos ⟨hkn, fun hh => hc (.inr (.inl hh))⟩, hins, hba, hsz, show 4 * (zs[t] / 4) + zs[t] % 4 = zs[t] from by omega]
              rw [show t + 1 + (zs[t] % 4).toNat - t = (zs[t] % 4).toNat + 1 from by omega, List.drop_eq_getElem_cons ht, List.take_succ_cons]
  · rw [dec_out zs t (by omega)] at h
    simp at h
theorem dec_err (zs : List Int) (t : Int) (r1 r2 r3 r4 : Int) (h : opDec zs t = (r1, r2, r3, r4)) (h4 : r4 ≠ 0) : r1 = 0 ∧ r2 = 0 ∧ r3 = 0 := by
  unfold opDec at h
  split at h
  · simp only at h
    split at h
    · simp at h; omega
    · split at h
      · simp at h; omega
      · split at h
        · simp at h; omega
        · simp at h; omega
  · simp at h; omega
theorem dec_bd (zs : List Int) (t : Int) (r1 r2 r3 r4 : Int) (h : opDec zs t = (r1, r2, r3, r4)) : 0 ≤ r4 ∧ r4 ≤ 16 := by
  unfold opDec at h
  split at h
  · simp only at h
    split at h
    · simp at h; omega
    · split at h
      · simp at h; omega
      · split at h
        · simp at h; omega
        · simp at h; omega
  · simp at h; omega
theorem opEnc_bts (op arg : Int) : Bts (opEnc op arg) := by
  by_cases h : opEnc op arg = []
  · rw [h]; exact Bts.nil
  · obtain ⟨h1, h2⟩ := opEnc_nil h
    have hop := knB_bd h1
    have hs := sizeN_le (insA op arg)
    unfold opEnc
    rw [if_pos ⟨h1, h2⟩]
    intro x hx
    rcases List.mem_cons.1 hx with rfl | hx
    · omega
    · rcases sizeN_cases (insA op arg) with hz | hz | hz
      · rw [argB_0 hz] at hx; cases hx
      · rw [argB_1 hz] at hx; simp at hx; omega
      · rw [argB_2 hz] at hx; simp at hx; omega
end Go.Proofs.Ytfalhlnmjllfpaa
