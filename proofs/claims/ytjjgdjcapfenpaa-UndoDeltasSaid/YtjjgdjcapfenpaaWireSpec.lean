/- The encodings of chapter 2 as plain lists of numbers. No program stands in this text. -/
import Derived.Test.YtjjgdjcapfenpaaWords
namespace Go.Proofs.Ytjjgdjcapfenpaa

/-- The value of 16 bits that a number is. -/
def wrap16 (n : Int) : Int := (n + 32768) % 65536 - 32768
def sByte (n : Int) : List Int := [n % 256]
def sWord (n : Int) : List Int := [n % 65536 / 256, n % 256]
def sLong (n : Int) : List Int := [n / 16777216 % 256, n / 65536 % 256, n / 256 % 256, n % 256]
def sHuge (n : Int) : List Int := sLong (n / 4294967296) ++ sLong (n % 4294967296)
def sSizeN (n : Nat) : List Int := if n < 128 then [(n : Int)] else ((128 + n % 128 : Nat) : Int) :: sSizeN (n / 128)
termination_by n
decreasing_by omega
def sSize (n : Int) : List Int := sSizeN n.toNat
/-- The bytes of a text. -/
def sBytes (s : ByteArray) : List Int := s.data.toList.map fun b => (b.toNat : Int)
def sText (s : ByteArray) : List Int := sSize s.size ++ sBytes s
def sInts (l : List Int) : List Int := sSize l.length ++ l.flatMap sWord

theorem sSizeN_small {n : Nat} (h : n < 128) : sSizeN n = [(n : Int)] := by rw [sSizeN, if_pos h]
theorem sSizeN_big {n : Nat} (h : ¬ n < 128) : sSizeN n = ((128 + n % 128 : Nat) : Int) :: sSizeN (n / 128) := by rw [sSizeN, if_neg h]
theorem sSizeN_len (n : Nat) (k : Nat) (h : n < 128 ^ (k + 1)) : (sSizeN n).length ≤ k + 1 := by
  induction k generalizing n with
  | zero => rw [sSizeN_small (by simpa using h)]; simp
  | succ k ih =>
    by_cases hn : n < 128
    · rw [sSizeN_small hn]; simp
    · rw [sSizeN_big hn, List.length_cons]
      have := ih (n / 128) (by rw [Nat.pow_succ] at h; omega)
      omega
theorem sSize_len (n : Int) (h : n ≤ 9223372036854775807) : (sSize n).length ≤ 9 := by
  refine sSizeN_len n.toNat 8 ?_
  have h1 : n.toNat ≤ 9223372036854775807 := by omega
  have h2 : 128 ^ (8 + 1) = 9223372036854775808 := by decide
  omega
theorem sBytes_len (s : ByteArray) : (sBytes s).length = s.size := by
  rw [sBytes, List.length_map, Array.length_toList]
  rfl
theorem strCells_s (s : ByteArray) : Lib.strCells s = cb .u8 (sBytes s) := strCells_cb s
theorem wrap16_mod (n : Int) : wrap16 n % 65536 = n % 65536 := by unfold wrap16; omega
theorem sWord_wrap (n : Int) : sWord (wrap16 n) = sWord n := by
  unfold sWord wrap16
  congr 1
  · omega
  · congr 1; omega
theorem words_len (l : List Int) : (l.flatMap sWord).length = 2 * l.length := by
  induction l with
  | nil => rfl
  | cons a l ih => rw [List.flatMap_cons, List.length_append, ih, List.length_cons]; simp [sWord]; omega
theorem words_snoc (l : List Int) (k : Nat) (h : k < l.length) : (l.take (k + 1)).flatMap sWord = (l.take k).flatMap sWord ++ sWord l[k] := by
  rw [List.take_succ_eq_append_getElem h, List.flatMap_append]
  simp
theorem word_cells (m : Int) : [Value.int .u8 (IntKind.u16.wrap (wrap16 m) / 256 % 256), Value.int .u8 (IntKind.u16.wrap (wrap16 m) % 256)] = cb .u8 (sWord m) := by
  simp only [w_u16, cb, sWord, List.map]
  rw [wrap16_mod]
  have h1 : m % 65536 / 256 % 256 = m % 65536 / 256 := by omega
  have h2 : m % 65536 % 256 = m % 256 := by omega
  rw [h1, h2]
theorem long_cells (m : Int) (h0 : 0 ≤ m) (hm : m ≤ 4294967295) : [Value.int .u8 (m / 16777216), Value.int .u8 (m / 65536 % 256), Value.int .u8 (m / 256 % 256), Value.int .u8 (m % 256)] = cb .u8 (sLong m) := by
  simp only [cb, sLong, List.map]
  rw [Int.emod_eq_of_lt (a := m / 16777216) (by omega) (by omega)]
/-- All are bytes. -/
def Byt (xs : List Int) : Prop := ∀ x ∈ xs, 0 ≤ x ∧ x < 256
theorem Byt.get {xs : List Int} (h : Byt xs) {i : Nat} (hi : i < xs.length) : 0 ≤ xs[i] ∧ xs[i] < 256 := h _ (List.getElem_mem hi)
theorem Byt.take {xs : List Int} (h : Byt xs) (n : Nat) : Byt (xs.take n) := fun x hx => h x (List.mem_of_mem_take hx)
theorem Byt.drop {xs : List Int} (h : Byt xs) (n : Nat) : Byt (xs.drop n) := fun x hx => h x (List.mem_of_mem_drop hx)
theorem Byt.nil : Byt [] := fun x hx => by cases hx
theorem Byt.append {xs ys : List Int} (h : Byt xs) (k : Byt ys) : Byt (xs ++ ys) := fun x hx => by
  rcases List.mem_append.1 hx with hx | hx
  · exact h x hx
  · exact k x hx
/-- Fewer than k bytes from a place on. -/
def sLacks (n : Nat) (at_ k : Int) : Prop := at_ < 0 ∨ n < at_ ∨ n - at_ < k
instance (n : Nat) (at_ k : Int) : Decidable (sLacks n at_ k) := by unfold sLacks; infer_instance
/-- What is taken of a reader: the bytes, the place, the error. -/
def sTk (xs : List Int) (at_ err : Int) (k : Nat) : List Int × Int × Int :=
  if err ≠ 0 then ([], at_, err) else if sLacks xs.length at_ k then ([], at_, 2) else ((xs.drop at_.toNat).take k, at_ + k, 0)
theorem sTk_byt (xs : List Int) (at_ err : Int) (k : Nat) (h : Byt xs) : Byt (sTk xs at_ err k).1 := by
  unfold sTk
  split
  · exact Byt.nil
  · split
    · exact Byt.nil
    · exact (h.drop _).take _
theorem sTk_len (xs : List Int) (at_ err : Int) (k : Nat) : (sTk xs at_ err k).1.length ≤ k := by
  unfold sTk
  split
  · simp
  · split
    · simp
    · exact List.length_take_le _ _
/-- The number that bytes are, the greatest first. -/
def sNum (xs : List Int) : Int := xs.foldl (fun n x => n * 256 + x) 0
theorem sNum_snoc (xs : List Int) (x : Int) : sNum (xs ++ [x]) = sNum xs * 256 + x := by simp [sNum]
theorem sNum_take (xs : List Int) (k : Nat) (h : k < xs.length) : sNum (xs.take (k + 1)) = sNum (xs.take k) * 256 + xs[k] := by
  rw [List.take_succ_eq_append_getElem h, sNum_snoc]
theorem sNum_bound (xs : List Int) (h : Byt xs) (k : Nat) (hk : k ≤ xs.length) : 0 ≤ sNum (xs.take k) ∧ sNum (xs.take k) < 256 ^ k := by
  induction k with
  | zero => simp [sNum]
  | succ k ih =>
    have h1 := ih (by omega)
    have h2 := h.get (i := k) (by omega)
    rw [sNum_take xs k (by omega), Int.pow_succ]
    omega
theorem sNum_lt (xs : List Int) (h : Byt xs) (k : Nat) (hk : xs.length ≤ k) : 0 ≤ sNum xs ∧ sNum xs < 256 ^ k := by
  have h1 := sNum_bound xs h xs.length (Nat.le_refl _)
  rw [List.take_length] at h1
  have e : ∀ m : Nat, (256 : Int) ^ m = ((256 ^ m : Nat) : Int) := fun m => by rw [Int.natCast_pow]; rfl
  have h2 : 256 ^ xs.length ≤ 256 ^ k := Nat.pow_le_pow_right (by omega) hk
  rw [e] at h1 ⊢
  omega
theorem sTk_lack (xs : List Int) (at_ : Int) (k : Nat) (h : sLacks xs.length at_ k) : sTk xs at_ 0 k = ([], at_, 2) := by simp [sTk, h]
theorem sTk_one (xs : List Int) (at_ : Int) (h : ¬ sLacks xs.length at_ 1) : at_.toNat < xs.length ∧ sTk xs at_ 0 1 = ([xs.getD at_.toNat 0], at_ + 1, 0) := by
  have h' := h
  unfold sLacks at h'
  have hl : at_.toNat < xs.length := by omega
  refine ⟨hl, ?_⟩
  have h2 : ¬ sLacks xs.length at_ ((1 : Nat) : Int) := h
  simp only [sTk, if_neg h2]
  rw [if_neg (by omega)]
  rw [List.drop_eq_getElem_cons hl, List.take_succ_cons, List.take_zero]
  simp [List.getD, List.getElem?_eq_getElem hl]
/-- The groups of a size from the k-th on; at0: where the first stands. -/
def sGrp (xs : List Int) (at0 most : Int) : Nat → Nat → Int → Int × Int × Int
  | 0, _, _ => (0, at0, 4)
  | f + 1, k, n =>
    if sLacks xs.length (at0 + k) 1 then (0, at0, 2)
    else if k = 5 ∨ (0 < k ∧ xs.getD (at0 + k).toNat 0 = 0) then (0, at0, 4)
    else if xs.getD (at0 + k).toNat 0 < 128 then (if most < n + xs.getD (at0 + k).toNat 0 % 128 * 128 ^ k then (0, at0, 5) else (n + xs.getD (at0 + k).toNat 0 % 128 * 128 ^ k, at0 + k + 1, 0))
    else sGrp xs at0 most f (k + 1) (n + xs.getD (at0 + k).toNat 0 % 128 * 128 ^ k)
/-- What is taken as a size: the number, the place, the error. -/
def sTS (xs : List Int) (at_ err most : Int) : Int × Int × Int := if err ≠ 0 then (0, at_, err) else sGrp xs at_ most 6 0 0
/-- What End tells. -/
def sEnd (n : Nat) (at_ err : Int) : Int := if err = 0 ∧ at_ < n then 3 else err
end Go.Proofs.Ytjjgdjcapfenpaa
