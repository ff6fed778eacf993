/- The packing of chapter 6 as plain lists of bits and bytes. No program stands in this text. -/
import Derived.Test.YtianabgdggheiaaAlphaSpec
namespace Go.Proofs.Ytianabgdggheiaa
open Go.RowKit
set_option linter.unusedVariables false

/-- A bit of bytes, the greatest of each first. -/
def bitAt (bs : List Int) (i : Nat) : Int := bs.getD (i / 8) 0 / 2 ^ (7 - i % 8) % 2
/-- The five bits of a code. -/
def bits5 (n : Int) : List Int := [n / 16 % 2, n / 8 % 2, n / 4 % 2, n / 2 % 2, n % 2]
/-- The byte of eight bits from a place on; what lacks is 0. -/
def byteAt (l : List Int) (i : Nat) : Int :=
  128 * l.getD (8 * i) 0 + 64 * l.getD (8 * i + 1) 0 + 32 * l.getD (8 * i + 2) 0 + 16 * l.getD (8 * i + 3) 0 + 8 * l.getD (8 * i + 4) 0 + 4 * l.getD (8 * i + 5) 0 + 2 * l.getD (8 * i + 6) 0 + l.getD (8 * i + 7) 0
/-- Bits as bytes. -/
def pkB (l : List Int) : List Int := (List.range ((l.length + 7) / 8)).map (byteAt l)
/-- The bits of codes. -/
def pBits (l : List Int) : List Int := l.flatMap fun n => bits5 (n % 32)
def aPack (l : List Int) : List Int := pkB (pBits l ++ bits5 31)
/-- The code of five bits from a bit on. -/
def code5 (bs : List Int) (t : Nat) : Int := 16 * bitAt bs t + 8 * bitAt bs (t + 1) + 4 * bitAt bs (t + 2) + 2 * bitAt bs (t + 3) + bitAt bs (t + 4)
/-- What is told behind the end code, whose bits end at t. -/
def aEnd (bs : List Int) (t : Nat) (out : List Int) : List Int × Int :=
  if (t - 1) / 8 + 1 < bs.length then ([], 3) else if bs.getD ((t - 1) / 8) 0 * 2 ^ (t - 8 * ((t - 1) / 8)) % 256 ≠ 0 then ([], 4) else (out, 0)
def aOut (bs : List Int) (k : Nat) : List Int := (List.range k).map fun i => code5 bs (5 * i)
def aUnpack (bs : List Int) : List Int × Int :=
  match (List.range (8 * bs.length / 5)).find? (fun j => code5 bs (5 * j) == 31) with
  | none => ([], 2)
  | some j => aEnd bs (5 * j + 5) (aOut bs j)

/-- All are bits. -/
def Bit (l : List Int) : Prop := ∀ x ∈ l, x = 0 ∨ x = 1
theorem Bit.getD {l : List Int} (h : Bit l) (i : Nat) : l.getD i 0 = 0 ∨ l.getD i 0 = 1 := by
  by_cases hi : i < l.length
  · simp only [List.getD, List.getElem?_eq_getElem hi, Option.getD_some]
    exact h _ (List.getElem_mem hi)
  · simp [List.getD, List.getElem?_eq_none (Nat.le_of_not_lt hi)]
theorem Bit.append {l m : List Int} (h : Bit l) (k : Bit m) : Bit (l ++ m) := fun x hx => by
  rcases List.mem_append.1 hx with hx | hx
  · exact h x hx
  · exact k x hx
theorem Bit.take {l : List Int} (h : Bit l) (n : Nat) : Bit (l.take n) := fun x hx => h x (List.mem_of_mem_take hx)
theorem bits5_bit (n : Int) : Bit (bits5 n) := by
  intro x hx
  simp only [bits5, List.mem_cons, List.not_mem_nil, or_false] at hx
  omega
theorem pBits_bit (l : List Int) : Bit (pBits l) := by
  intro x hx
  obtain ⟨n, _, h⟩ := List.mem_flatMap.1 hx
  exact bits5_bit _ x h
theorem pBits_len (l : List Int) : (pBits l).length = 5 * l.length := by
  induction l with
  | nil => rfl
  | cons a l ih =>
    rw [pBits, List.flatMap_cons, List.length_append]
    have : (l.flatMap fun n => bits5 (n % 32)).length = 5 * l.length := ih
    rw [this, List.length_cons]
    simp [bits5]; omega
theorem pBits_snoc (l : List Int) (k : Nat) (h : k < l.length) : pBits (l.take (k + 1)) = pBits (l.take k) ++ bits5 (l[k] % 32) := by
  rw [List.take_succ_eq_append_getElem h, pBits, pBits, List.flatMap_append]
  simp
theorem bits5_get (n : Int) (h0 : 0 ≤ n) (h1 : n < 32) (k : Nat) (h : k < 5) (h' : k < (bits5 n).length) : (bits5 n)[k] = n / 2 ^ (4 - k) % 2 := by
  match k, h with
  | 0, _ => rfl
  | 1, _ => rfl
  | 2, _ => rfl
  | 3, _ => simp [bits5]
  | 4, _ => simp [bits5]
theorem getD_app_lt (l m : List Int) (i : Nat) (h : i < l.length) : (l ++ m).getD i 0 = l.getD i 0 := by
  simp [List.getD, List.getElem?_append_left h]
theorem getD_app_at (l : List Int) (b : Int) : (l ++ [b]).getD l.length 0 = b := by simp [List.getD]
theorem getD_ge (l : List Int) (i : Nat) (h : l.length ≤ i) : l.getD i 0 = 0 := by simp [List.getD, List.getElem?_eq_none h]
theorem getD_app_gt (l : List Int) (b : Int) (i : Nat) (h : l.length < i) : (l ++ [b]).getD i 0 = 0 := getD_ge _ _ (by simp; omega)
theorem byteAt_lt (l m : List Int) (i : Nat) (h : 8 * i + 7 < l.length) : byteAt (l ++ m) i = byteAt l i := by
  simp only [byteAt, getD_app_lt _ _ _ (show 8 * i < l.length by omega), getD_app_lt _ _ _ (show 8 * i + 1 < l.length by omega), getD_app_lt _ _ _ (show 8 * i + 2 < l.length by omega), getD_app_lt _ _ _ (show 8 * i + 3 < l.length by omega),
    getD_app_lt _ _ _ (show 8 * i + 4 < l.length by omega), getD_app_lt _ _ _ (show 8 * i + 5 < l.length by omega), getD_app_lt _ _ _ (show 8 * i + 6 < l.length by omega), getD_app_lt _ _ _ (show 8 * i + 7 < l.length by omega)]
theorem getD_app_1 (l : List Int) (b : Int) (i : Nat) : (l ++ [b]).getD i 0 = l.getD i 0 + (if i = l.length then b else 0) := by
  rcases Nat.lt_trichotomy i l.length with h | h | h
  · rw [getD_app_lt _ _ _ h, if_neg (by omega)]; omega
  · subst h; rw [getD_app_at, getD_ge _ _ (Nat.le_refl _), if_pos rfl]; omega
  · rw [getD_app_gt _ _ _ h, getD_ge _ _ (by omega), if_neg (by omega)]; rfl
theorem byteAt_at (l : List Int) (b : Int) : byteAt (l ++ [b]) (l.length / 8) = byteAt l (l.length / 8) + b * 2 ^ (7 - l.length % 8) := by
  simp only [byteAt, getD_app_1]
  have h : l.length % 8 < 8 := Nat.mod_lt _ (by omega)
  have e : l.length = 8 * (l.length / 8) + l.length % 8 := by omega
  generalize l.length / 8 = q at *
  generalize l.length % 8 = r at *
  generalize hL : l.length = L at *
  subst e
  match r, h with
  | 0, _ => simp; omega
  | 1, _ => simp; omega
  | 2, _ => simp; omega
  | 3, _ => simp; omega
  | 4, _ => simp; omega
  | 5, _ => simp; omega
  | 6, _ => simp; omega
  | 7, _ => simp; omega
/-- The last byte, before a bit is put: a new one, or the one begun. -/
def pkX (l : List Int) : List Int := if l.length % 8 = 0 then pkB l ++ [0] else pkB l
theorem pkB_len (l : List Int) : (pkB l).length = (l.length + 7) / 8 := by simp [pkB]
theorem pkX_len (l : List Int) : (pkX l).length = l.length / 8 + 1 := by
  unfold pkX
  split
  · rw [List.length_append, pkB_len]; simp; omega
  · rw [pkB_len]; omega
theorem pkB_get (l : List Int) (i : Nat) (h : i < (pkB l).length) : (pkB l)[i] = byteAt l i := by simp [pkB]
theorem byteAt_ge (l : List Int) (i : Nat) (h : l.length ≤ 8 * i) : byteAt l i = 0 := by
  simp only [byteAt, getD_ge _ _ (show l.length ≤ 8 * i by omega), getD_ge _ _ (show l.length ≤ 8 * i + 1 by omega), getD_ge _ _ (show l.length ≤ 8 * i + 2 by omega), getD_ge _ _ (show l.length ≤ 8 * i + 3 by omega), getD_ge _ _ (show l.length ≤ 8 * i + 4 by omega), getD_ge _ _ (show l.length ≤ 8 * i + 5 by omega), getD_ge _ _ (show l.length ≤ 8 * i + 6 by omega), getD_ge _ _ (show l.length ≤ 8 * i + 7 by omega)]
  rfl
theorem pkX_get (l : List Int) (i : Nat) (h : i < (pkX l).length) : (pkX l)[i] = byteAt l i := by
  have hl := pkX_len l
  by_cases h8 : l.length % 8 = 0
  · simp only [pkX, if_pos h8] at h ⊢
    rw [List.getElem_append]
    split
    · exact pkB_get l i _
    · rw [pkB_len] at *
      rw [byteAt_ge l i (by omega)]
      simp
  · simp only [pkX, if_neg h8] at h ⊢
    exact pkB_get l i _
theorem pk_step (l : List Int) (b : Int) : pkB (l ++ [b]) = (pkX l).set (l.length / 8) (byteAt l (l.length / 8) + b * 2 ^ (7 - l.length % 8)) := by
  refine List.ext_getElem (by rw [List.length_set, pkX_len, pkB_len]; simp; omega) fun i h1 h2 => ?_
  rw [pkB_get, List.getElem_set]
  rw [List.length_set, pkX_len] at h2
  split
  · rename_i h
    rw [← h, byteAt_at]
  · rw [pkX_get, byteAt_lt _ _ _ (by omega)]
theorem byteAt_low (l : List Int) (hb : Bit l) : 0 ≤ byteAt l (l.length / 8) ∧ byteAt l (l.length / 8) < 256 ∧ byteAt l (l.length / 8) % 2 ^ (8 - l.length % 8) = 0 := by
  have g := hb.getD
  have h : l.length % 8 < 8 := Nat.mod_lt _ (by omega)
  have hge := getD_ge l
  have e : l.length = 8 * (l.length / 8) + l.length % 8 := by omega
  simp only [byteAt]
  generalize l.length / 8 = q at *
  generalize l.length % 8 = r at *
  have g0 := g (8 * q); have g1 := g (8 * q + 1); have g2 := g (8 * q + 2); have g3 := g (8 * q + 3); have g4 := g (8 * q + 4); have g5 := g (8 * q + 5); have g6 := g (8 * q + 6); have g7 := g (8 * q + 7)
  have z : ∀ i, r ≤ i → l.getD (8 * q + i) 0 = 0 := fun i hi => hge _ (by omega)
  have z0 := z 0; have z1 := z 1; have z2 := z 2; have z3 := z 3; have z4 := z 4; have z5 := z 5; have z6 := z 6; have z7 := z 7
  rw [Nat.add_zero] at z0
  generalize l.getD (8 * q) 0 = a0 at *
  generalize l.getD (8 * q + 1) 0 = a1 at *
  generalize l.getD (8 * q + 2) 0 = a2 at *
  generalize l.getD (8 * q + 3) 0 = a3 at *
  generalize l.getD (8 * q + 4) 0 = a4 at *
  generalize l.getD (8 * q + 5) 0 = a5 at *
  generalize l.getD (8 * q + 6) 0 = a6 at *
  generalize l.getD (8 * q + 7) 0 = a7 at *
  clear z g hge hb e
  match r, h with
  | 0, _ => simp at *; omega
  | 1, _ => simp at *; omega
  | 2, _ => simp at *; omega
  | 3, _ => simp at *; omega
  | 4, _ => simp at *; omega
  | 5, _ => simp at *; omega
  | 6, _ => simp at *; omega
  | 7, _ => simp at *; omega

theorem bitAt_01 (bs : List Int) (i : Nat) : bitAt bs i = 0 ∨ bitAt bs i = 1 := by unfold bitAt; omega
/-- The number of the first bits from a place on. -/
def codeP (bs : List Int) (t : Nat) : Nat → Int
  | 0 => 0
  | k + 1 => 2 * codeP bs t k + bitAt bs (t + k)
theorem codeP_five (bs : List Int) (t : Nat) : codeP bs t 5 = code5 bs t := by
  simp only [codeP, code5, Nat.add_zero]; omega
theorem codeP_bd (bs : List Int) (t k : Nat) : 0 ≤ codeP bs t k ∧ codeP bs t k < 2 ^ k := by
  induction k with
  | zero => simp [codeP]
  | succ k ih =>
    have := bitAt_01 bs (t + k)
    rw [codeP, Int.pow_succ]
    omega
theorem codeP_32 (bs : List Int) (t k : Nat) (h : k ≤ 5) : codeP bs t k < 32 := by
  have h1 := (codeP_bd bs t k).2
  have h2 : (2 : Int) ^ k ≤ 2 ^ 5 := by exact_mod_cast Nat.pow_le_pow_right (by omega) h
  omega
theorem code5_bd (bs : List Int) (t : Nat) : 0 ≤ code5 bs t ∧ code5 bs t < 32 := by
  rw [← codeP_five]
  exact ⟨(codeP_bd bs t 5).1, codeP_32 bs t 5 (by omega)⟩

/-! ### bits of numbers -/
theorem and_low (n : Int) (k : Nat) (hk : k ≤ 60) (h : n % 18446744073709551616 = n % 18446744073709551616) : bits .and .i64 n ((2 ^ k - 1 : Nat) : Int) = n % 2 ^ k := by
  have hp : 2 ^ k ≤ 2 ^ 60 := Nat.pow_le_pow_right (by omega) hk
  have hp1 : 1 ≤ 2 ^ k := Nat.one_le_two_pow
  have h60 : 2 ^ 60 = 1152921504606846976 := by decide
  show IntKind.i64.wrap ((BitVec.ofInt 64 n &&& BitVec.ofInt 64 ((2 ^ k - 1 : Nat) : Int)).toNat : Int) = _
  rw [BitVec.toNat_and, ofInt_i64' (2 ^ k - 1) (by omega), Nat.and_two_pow_sub_one_eq_mod, BitVec.toNat_ofInt, IntKind.wrap_i64]
  have h64 : ((2 ^ 64 : Nat) : Int) = 18446744073709551616 := by decide
  rw [h64]
  have hd : (2 ^ k) ∣ 18446744073709551616 := by
    have e : (18446744073709551616 : Nat) = 2 ^ 64 := by decide
    rw [e]
    exact Nat.pow_dvd_pow 2 (by omega)
  have hN : ((n % 18446744073709551616).toNat % 2 ^ k : Nat) = (((n % 18446744073709551616) % ((2 ^ k : Nat) : Int)) : Int) := by
    rw [Int.natCast_emod, Int.toNat_of_nonneg (by omega)]
  have hlt : (n % 18446744073709551616).toNat % 2 ^ k < 2 ^ k := Nat.mod_lt _ (by omega)
  have hm : n % 18446744073709551616 % ((2 ^ k : Nat) : Int) = n % ((2 ^ k : Nat) : Int) := Int.emod_emod_of_dvd _ (Int.natCast_dvd_natCast.2 hd : ((2 ^ k : Nat) : Int) ∣ ((18446744073709551616 : Nat) : Int))
  rw [hm] at hN
  have hc : ((2 ^ k : Nat) : Int) = 2 ^ k := by rw [Int.natCast_pow]; rfl
  rw [hc] at hN
  omega
theorem and31 (n : Int) : bits .and .i64 n 31 = n % 32 := and_low n 5 (by omega) rfl
theorem and1 (n : Int) : bits .and .i64 n 1 = n % 2 := and_low n 1 (by omega) rfl
theorem and1_u8 (m : Int) (h0 : 0 ≤ m) (h1 : m < 256) : bits .and .u8 m 1 = m % 2 := byte_all (P := fun m => bits .and .u8 m 1 = m % 2) (by decide +kernel) m h0 h1
theorem or_bit (x : Int) (h0 : 0 ≤ x) (h1 : x < 256) (r : Nat) (hr : r < 8) (hx : x % 2 ^ (8 - r) = 0) (b : Int) (hb : b = 0 ∨ b = 1) : bits .or .u8 x (b % 256 * 2 ^ (7 - r) % 256) = x + b * 2 ^ (7 - r) := by
  have key : ∀ (y : Fin 256) (s : Fin 8), (y.val : Int) % 2 ^ (8 - s.val) = 0 → (bits .or .u8 (y.val : Int) (0 % 256 * 2 ^ (7 - s.val) % 256) = (y.val : Int) + 0 * 2 ^ (7 - s.val)) ∧ (bits .or .u8 (y.val : Int) (1 % 256 * 2 ^ (7 - s.val) % 256) = (y.val : Int) + 1 * 2 ^ (7 - s.val)) := by decide +kernel
  have := key ⟨x.toNat, by omega⟩ ⟨r, hr⟩ (by simpa [Int.toNat_of_nonneg h0] using hx)
  simp only [Int.toNat_of_nonneg h0] at this
  rcases hb with rfl | rfl
  · exact this.1
  · exact this.2
end Go.Proofs.Ytianabgdggheiaa
