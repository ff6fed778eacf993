/- The encodings of chapter 2 as plain lists of numbers. No program stands in this text. Texts and lists of values of chapter 2 as plain lists of numbers. No program stands in this text. -/
import Derived.Test.YtjloemlnejndmaaWords
namespace Go.Proofs.Ytjloemlnejndmaa

/-- The value of 16 bits that a number is. -/
def wrap16 (n : Int) : Int := (n + 32768) % 65536 - 32768
def sByte (n : Int) : List Int := [n % 256]
def sWord (n : Int) : List Int := [n % 65536 / 256, n % 256]
def sLong (n : Int) : List Int := [n / 16777216 % 256, n / 65536 % 256, n / 256 % 256, n % 256]
def sHuge (n : Int) : List Int := sLong (n / 4294967296) ++ sLong (n % 4294967296)
def sSizeN (n : Nat) : List Int := if n < 128 then [(n : Int)] else ((128 + n % 128 : Nat) : Int) :: sSizeN (n / 128)
termination_by n
decreasing_by omega
def sSize (n : Int) : List Int := sSizeN n.toNat
def sInts (l : List Int) : List Int := sSize l.length ++ l.flatMap sWord
theorem sSizeN_small {n : Nat} (h : n < 128) : sSizeN n = [(n : Int)] := by rw [sSizeN, if_pos h]
theorem sSizeN_big {n : Nat} (h : ¬ n < 128) : sSizeN n = ((128 + n % 128 : Nat) : Int) :: sSizeN (n / 128) := by rw [sSizeN, if_neg h]
theorem sSizeN_len (n : Nat) (k : Nat) (h : n < 128 ^ (k + 1)) : (sSizeN n).length ≤ k + 1 := by
  induction k generalizing n with
  | zero => rw [sSizeN_small (by simpa using h)]; simp
  | succ k ih =>
    by_cases hn : n < 128
    · rw [sSizeN_small hn]; simp
    · rw [sSizeN_big hn, List.length_cons]
      have := ih (n / 128) (by rw [Nat.pow_succ] at h; omega)
      omega
theorem sSize_len (n : Int) (h : n ≤ 9223372036854775807) : (sSize n).length ≤ 9 := by
  refine sSizeN_len n.toNat 8 ?_
  have h1 : n.toNat ≤ 9223372036854775807 := by omega
  have h2 : 128 ^ (8 + 1) = 9223372036854775808 := by decide
  omega
theorem wrap16_mod (n : Int) : wrap16 n % 65536 = n % 65536 := by unfold wrap16; omega
theorem words_len (l : List Int) : (l.flatMap sWord).length = 2 * l.length := by
  induction l with
  | nil => rfl
  | cons a l ih => rw [List.flatMap_cons, List.length_append, ih, List.length_cons]; simp [sWord]; omega
theorem words_snoc (l : List Int) (k : Nat) (h : k < l.length) : (l.take (k + 1)).flatMap sWord = (l.take k).flatMap sWord ++ sWord l[k] := by
  rw [List.take_succ_eq_append_getElem h, List.flatMap_append]
  simp
theorem word_cells (m : Int) : [Value.int .u8 (IntKind.u16.wrap (wrap16 m) / 256 % 256), Value.int .u8 (IntKind.u16.wrap (wrap16 m) % 256)] = cb .u8 (sWord m) := by
  simp only [w_u16, cb, sWord, List.map]
  rw [wrap16_mod]
  have h1 : m % 65536 / 256 % 256 = m % 65536 / 256 := by omega
  have h2 : m % 65536 % 256 = m % 256 := by omega
  rw [h1, h2]
theorem long_cells (m : Int) (h0 : 0 ≤ m) (hm : m ≤ 4294967295) : [Value.int .u8 (m / 16777216), Value.int .u8 (m / 65536 % 256), Value.int .u8 (m / 256 % 256), Value.int .u8 (m % 256)] = cb .u8 (sLong m) := by
  simp only [cb, sLong, List.map]
  rw [Int.emod_eq_of_lt (a := m / 16777216) (by omega) (by omega)]
/-- All are bytes. -/
def Byt (xs : List Int) : Prop := ∀ x ∈ xs, 0 ≤ x ∧ x < 256
theorem Byt.get {xs : List Int} (h : Byt xs) {i : Nat} (hi : i < xs.length) : 0 ≤ xs[i] ∧ xs[i] < 256 := h _ (List.getElem_mem hi)
theorem Byt.take {xs : List Int} (h : Byt xs) (n : Nat) : Byt (xs.take n) := fun x hx => h x (List.mem_of_mem_take hx)
theorem Byt.drop {xs : List Int} (h : Byt xs) (n : Nat) : Byt (xs.drop n) := fun x hx => h x (List.mem_of_mem_drop hx)
theorem Byt.nil : Byt [] := fun x hx => by cases hx
theorem Byt.append {xs ys : List Int} (h : Byt xs) (k : Byt ys) : Byt (xs ++ ys) := fun x hx => by
  rcases List.mem_append.1 hx with hx | hx
  · exact h x hx
  · exact k x hx
/-- Fewer than k bytes from a place on. -/
def sLacks (n : Nat) (at_ k : Int) : Prop := at_ < 0 ∨ n < at_ ∨ n - at_ < k
instance (n : Nat) (at_ k : Int) : Decidable (sLacks n at_ k) := by unfold sLacks; infer_instance
/-- What is taken of a reader: the bytes, the place, the error. -/
def sTk (xs : List Int) (at_ err : Int) (k : Nat) : List Int × Int × Int :=
  if err ≠ 0 then ([], at_, err) else if sLacks xs.length at_ k then ([], at_, 2) else ((xs.drop at_.toNat).take k, at_ + k, 0)
theorem sTk_byt (xs : List Int) (at_ err : Int) (k : Nat) (h : Byt xs) : Byt (sTk xs at_ err k).1 := by
  unfold sTk
  split
  · exact Byt.nil
  · split
    · exact Byt.nil
    · exact (h.drop _).take _
theorem sTk_len (xs : List Int) (at_ err : Int) (k : Nat) : (sTk xs at_ err k).1.length ≤ k := by
  unfold sTk
  split
  · simp
  · split
    · simp
    · exact List.length_take_le _ _
/-- The number that bytes are, the greatest first. -/
def sNum (xs : List Int) : Int := xs.foldl (fun n x => n * 256 + x) 0
theorem sNum_snoc (xs : List Int) (x : Int) : sNum (xs ++ [x]) = sNum xs * 256 + x := by simp [sNum]
theorem sNum_take (xs : List Int) (k : Nat) (h : k < xs.length) : sNum (xs.take (k + 1)) = sNum (xs.take k) * 256 + xs[k] := by
  rw [List.take_succ_eq_append_getElem h, sNum_snoc]
theorem sNum_bound (xs : List Int) (h : Byt xs) (k : Nat) (hk : k ≤ xs.length) : 0 ≤ sNum (xs.take k) ∧ sNum (xs.take k) < 256 ^ k := by
  induction k with
  | zero => simp [sNum]
  | succ k ih =>
    have h1 := ih (by omega)
    have h2 := h.get (i := k) (by omega)
    rw [sNum_take xs k (by omega), Int.pow_succ]
    omega
theorem sNum_lt (xs : List Int) (h : Byt xs) (k : Nat) (hk : xs.length ≤ k) : 0 ≤ sNum xs ∧ sNum xs < 256 ^ k := by
  have h1 := sNum_bound xs h xs.length (Nat.le_refl _)
  rw [List.take_length] at h1
  have e : ∀ m : Nat, (256 : Int) ^ m = ((256 ^ m : Nat) : Int) := fun m => by rw [Int.natCast_pow]; rfl
  have h2 : 256 ^ xs.length ≤ 256 ^ k := Nat.pow_le_pow_right (by omega) hk
  rw [e] at h1 ⊢
  omega
theorem sTk_lack (xs : List Int) (at_ : Int) (k : Nat) (h : sLacks xs.length at_ k) : sTk xs at_ 0 k = ([], at_, 2) := by simp [sTk, h]
theorem sTk_one (xs : List Int) (at_ : Int) (h : ¬ sLacks xs.length at_ 1) : at_.toNat < xs.length ∧ sTk xs at_ 0 1 = ([xs.getD at_.toNat 0], at_ + 1, 0) := by
  have h' := h
  unfold sLacks at h'
  have hl : at_.toNat < xs.length := by omega
  refine ⟨hl, ?_⟩
  have h2 : ¬ sLacks xs.length at_ ((1 : Nat) : Int) := h
  simp only [sTk, if_neg h2]
  rw [if_neg (by omega)]
  rw [List.drop_eq_getElem_cons hl, List.take_succ_cons, List.take_zero]
  simp [List.getD, List.getElem?_eq_getElem hl]
/-- The groups of a size from the k-th on; at0: where the first stands. -/
def sGrp (xs : List Int) (at0 most : Int) : Nat → Nat → Int → Int × Int × Int
  | 0, _, _ => (0, at0, 4)
  | f + 1, k, n =>
    if sLacks xs.length (at0 + k) 1 then (0, at0, 2)
    else if k = 5 ∨ (0 < k ∧ xs.getD (at0 + k).toNat 0 = 0) then (0, at0, 4)
    else if xs.getD (at0 + k).toNat 0 < 128 then (if most < n + xs.getD (at0 + k).toNat 0 % 128 * 128 ^ k then (0, at0, 5) else (n + xs.getD (at0 + k).toNat 0 % 128 * 128 ^ k, at0 + k + 1, 0))
    else sGrp xs at0 most f (k + 1) (n + xs.getD (at0 + k).toNat 0 % 128 * 128 ^ k)
/-- What is taken as a size: the number, the place, the error. -/
def sTS (xs : List Int) (at_ err most : Int) : Int × Int × Int := if err ≠ 0 then (0, at_, err) else sGrp xs at_ most 6 0 0
/-- What End tells. -/
def sEnd (n : Nat) (at_ err : Int) : Int := if err = 0 ∧ at_ < n then 3 else err
end Go.Proofs.Ytjloemlnejndmaa
namespace Go.Proofs.Ytjloemlnejndmaa

/-- So many bytes as a size ahead of them tells, each thing having e of them. -/
def sOf (xs : List Int) (at_ err most : Int) (e : Nat) : List Int × Int × Int :=
  if (sTk xs (sTS xs at_ err most).2.1 (sTS xs at_ err most).2.2 ((sTS xs at_ err most).1.toNat * e)).2.2 = 0 then sTk xs (sTS xs at_ err most).2.1 (sTS xs at_ err most).2.2 ((sTS xs at_ err most).1.toNat * e)
  else ([], at_, (sTk xs (sTS xs at_ err most).2.1 (sTS xs at_ err most).2.2 ((sTS xs at_ err most).1.toNat * e)).2.2)
/-- The values that pairs of bytes are. -/
def sPairs : List Int → List Int
  | a :: b :: r => wrap16 (sNum [a, b]) :: sPairs r
  | _ => []
theorem sGrp_bound (xs : List Int) (hb : Byt xs) (at0 most : Int) : ∀ (f k : Nat) (n : Int), k + f ≤ 6 → 0 ≤ n → n < 128 ^ k → 0 ≤ (sGrp xs at0 most f k n).1 ∧ (sGrp xs at0 most f k n).1 < 34359738368
  | 0, _, _, _, _, _ => by simp [sGrp]
  | f + 1, k, n, hk, h0, h1 => by
    rw [sGrp]
    have z : (0 : Int) ≤ 0 ∧ (0 : Int) < 34359738368 := by decide
    split
    · exact z
    · rename_i hlk
      split
      · exact z
      · rename_i h5
        have hx : 0 ≤ xs.getD (at0 + k).toNat 0 ∧ xs.getD (at0 + k).toNat 0 < 256 := by
          unfold sLacks at hlk
          have hidx : (at0 + k).toNat < xs.length := by omega
          have := hb.get hidx
          simpa [List.getD, List.getElem?_eq_getElem hidx] using this
        generalize xs.getD (at0 + k).toNat 0 = x at *
        have hk4 : k ≤ 4 := by omega
        have hy : 0 ≤ x % 128 ∧ x % 128 ≤ 127 := by omega
        generalize x % 128 = y at *
        have key : 0 ≤ n + y * 128 ^ k ∧ n + y * 128 ^ k < 128 ^ (k + 1) ∧ (128 : Int) ^ (k + 1) ≤ 34359738368 := by
          rcases (show k = 0 ∨ k = 1 ∨ k = 2 ∨ k = 3 ∨ k = 4 by omega) with rfl | rfl | rfl | rfl | rfl <;> (simp only [Int.reducePow, Nat.zero_add, Nat.reduceAdd] at *; omega)
        split
        · split
          · exact z
          · exact ⟨key.1, by omega⟩
        · exact sGrp_bound xs hb at0 most f (k + 1) _ (by omega) key.1 key.2.1
theorem sTS_bound (xs : List Int) (hb : Byt xs) (at_ err most : Int) : 0 ≤ (sTS xs at_ err most).1 ∧ (sTS xs at_ err most).1 < 34359738368 := by
  unfold sTS
  split
  · exact ⟨Int.le_refl 0, by omega⟩
  · exact sGrp_bound xs hb at_ most 6 0 0 (by omega) (by omega) (by decide)
theorem sOf_byt (xs : List Int) (at_ err most : Int) (e : Nat) (h : Byt xs) : Byt (sOf xs at_ err most e).1 := by
  unfold sOf
  split
  · exact sTk_byt _ _ _ _ h
  · exact Byt.nil
theorem sPairs_snoc : ∀ (k : Nat) (bs : List Int) (h : 2 * k + 1 < bs.length), sPairs (bs.take (2 * k + 2)) = sPairs (bs.take (2 * k)) ++ [wrap16 (sNum [bs[2 * k]'(by omega), bs[2 * k + 1]])]
  | 0, a :: b :: r, _ => by simp [sPairs]
  | k + 1, a :: b :: r, h => by
    have := sPairs_snoc k r (by simp at h; omega)
    have t1 : (a :: b :: r).take (2 * (k + 1)) = a :: b :: r.take (2 * k) := rfl
    have t2 : (a :: b :: r).take (2 * (k + 1) + 2) = a :: b :: r.take (2 * k + 2) := rfl
    have g1 : (a :: b :: r)[2 * (k + 1)]'(by omega) = r[2 * k]'(by simp at h; omega) := rfl
    have g2 : (a :: b :: r)[2 * (k + 1) + 1] = r[2 * k + 1]'(by simp at h; omega) := rfl
    rw [t1, t2, g1, g2, sPairs, sPairs, this]
    rfl
  | _, [_], h => by simp at h
  | _, [], h => by simp at h
theorem sPairs_len : ∀ (k : Nat) (bs : List Int), 2 * k ≤ bs.length → (sPairs (bs.take (2 * k))).length = k
  | 0, _, _ => by simp [sPairs]
  | k + 1, a :: b :: r, h => by
    rw [show 2 * (k + 1) = (2 * k) + 2 by omega, List.take_succ_cons, List.take_succ_cons, sPairs, List.length_cons, sPairs_len k r (by simp at h; omega)]
  | _ + 1, [_], h => by simp at h; omega
  | _ + 1, [], h => by simp at h
theorem sPairs_all : ∀ (k : Nat) (bs : List Int), bs.length ≤ 2 * k + 1 → sPairs (bs.take (2 * k)) = sPairs bs
  | 0, [], _ => rfl
  | 0, [_], _ => rfl
  | 0, _ :: _ :: _, h => by simp at h
  | k + 1, a :: b :: r, h => by
    rw [show 2 * (k + 1) = (2 * k) + 2 by omega, List.take_succ_cons, List.take_succ_cons, sPairs, sPairs, sPairs_all k r (by simp at h; omega)]
  | _ + 1, [_], _ => rfl
  | _ + 1, [], _ => rfl
theorem sPairs_le : ∀ (bs : List Int), (sPairs bs).length ≤ bs.length
  | [] => by simp [sPairs]
  | [_] => by simp [sPairs]
  | a :: b :: r => by
    have := sPairs_le r
    simp [sPairs]; omega
theorem sNum_two {x y : Int} (hx : 0 ≤ x ∧ x < 256) (hy : 0 ≤ y ∧ y < 256) : 0 ≤ sNum [x, y] ∧ sNum [x, y] < 65536 := by
  simp [sNum]; omega
/-- Two cells side by side. -/
theorem Rd.pair {w : World} {B : Nat} {A : Option Addr} {k : IntKind} {zs : List Int} (h : Rd w B A (cb k zs)) {i : Nat} (hi : i + 1 < zs.length) : ∃ b o, A = some ⟨b, o, none⟩ ∧ b < B ∧ Rd w B (some ⟨b, o + i, none⟩) (cb k [zs[i], zs[i + 1]]) := by
  obtain ⟨b, o, e, hb, hc⟩ := h (by simp; omega)
  refine ⟨b, o, e, hb, fun _ => ⟨b, o + i, rfl, hb, fun j u hu => ?_⟩⟩
  have hj : j < 2 := by simpa using (List.getElem?_eq_some_iff.1 hu).1
  have h2 := hc (i + j) u
  rw [← Nat.add_assoc] at h2
  refine h2 ?_
  rcases (show j = 0 ∨ j = 1 by omega) with rfl | rfl
  · have hu' : some (Value.int k zs[i]) = some u := hu
    rw [← hu', cb, List.getElem?_map, List.getElem?_eq_getElem (by omega)]
    rfl
  · have hu' : some (Value.int k zs[i + 1]) = some u := hu
    rw [← hu', cb, List.getElem?_map, List.getElem?_eq_getElem hi]
    rfl
theorem sTk_len2 (xs : List Int) (at_ err : Int) (k : Nat) : (sTk xs at_ err k).1.length ≤ xs.length := by
  unfold sTk
  split
  · simp
  · split
    · simp
    · simp; omega
theorem sOf_len (xs : List Int) (at_ err most : Int) (e : Nat) : (sOf xs at_ err most e).1.length ≤ xs.length := by
  unfold sOf
  split
  · exact sTk_len2 _ _ _ _
  · simp
theorem Own.far1 {w : World} {base : Nat} {e : TypeId} {v : Value} {xs : List Value} (h : Own w base e v xs) {p : Addr} (hp : p.block < base) (u : Value) : Own (w.setCell p u) base e v xs :=
  h.keep fun g hg => Go.RowKit.Below.heap_setCell w p u g (by have := (h.block g hg).1; omega)
theorem Own.set3 {w : World} {base : Nat} {e : TypeId} {v : Value} {xs : List Value} (h : Own w base e v xs) {g : Nat} (hp : g < base) (x y z : Value) : Own (((w.setCell ⟨g, 0, none⟩ x).setCell ⟨g, 1, none⟩ y).setCell ⟨g, 2, none⟩ z) base e v xs :=
  ((h.far1 (p := ⟨g, 0, none⟩) hp x).far1 (p := ⟨g, 1, none⟩) hp y).far1 (p := ⟨g, 2, none⟩) hp z
theorem sTk_two (xs : List Int) (t : Nat) (h : t + 1 < xs.length) : sTk xs (t : Int) 0 2 = ([xs[t]'(by omega), xs[t + 1]], (t : Int) + 2, 0) := by
  have h2 : ¬ sLacks xs.length (t : Int) ((2 : Nat) : Int) := by unfold sLacks; omega
  simp only [sTk, if_neg h2]
  rw [if_neg (by omega), Int.toNat_natCast, List.drop_eq_getElem_cons (by omega), List.drop_eq_getElem_cons h, List.take_succ_cons, List.take_succ_cons, List.take_zero]
  rfl
theorem Blk.grown1 {w w' : World} {g : Nat} {t : TypeId} {cs : List Value} {row : Option Nat} (h : Blk w g t cs) (hg : w.grownBy w' row) (hr : row ≠ some g) : Blk w' g t cs := (hg.block g h.lt (fun e => hr e.symm)).trans h
theorem Own.fresh {w : World} {base : Nat} {e : TypeId} {v : Value} {xs : List Value} (h : Own w base e v xs) {g : Nat} (hg : w.heap.size ≤ g) : v.ownBlock ≠ some g := fun e => by have := (h.block g e).2; omega
theorem Own.under {w : World} {base : Nat} {e : TypeId} {v : Value} {xs : List Value} (h : Own w base e v xs) {g : Nat} (hg : g < base) : v.ownBlock ≠ some g := fun e => by have := (h.block g e).1; omega
theorem Rd.new1 (w : World) (o : Obj) (cs : List Value) (t : TypeId) : Rd ((w.alloc o).alloc (.cells cs.toArray t)) ((w.alloc o).alloc (.cells cs.toArray t)).heap.size (some ⟨w.heap.size + 1, 0, none⟩) cs := by
  simpa using Rd.new (w.alloc o) cs t
end Go.Proofs.Ytjloemlnejndmaa
