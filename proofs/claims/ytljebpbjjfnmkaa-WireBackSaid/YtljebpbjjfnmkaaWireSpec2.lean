/- Texts and lists of values of chapter 2 as plain lists of numbers. No program stands in this text. -/
import Derived.Test.YtljebpbjjfnmkaaWireSpec
namespace Go.Proofs.Ytljebpbjjfnmkaa

/-- So many bytes as a size ahead of them tells, each thing having e of them. -/
def sOf (xs : List Int) (at_ err most : Int) (e : Nat) : List Int × Int × Int :=
  if (sTk xs (sTS xs at_ err most).2.1 (sTS xs at_ err most).2.2 ((sTS xs at_ err most).1.toNat * e)).2.2 = 0 then sTk xs (sTS xs at_ err most).2.1 (sTS xs at_ err most).2.2 ((sTS xs at_ err most).1.toNat * e)
  else ([], at_, (sTk xs (sTS xs at_ err most).2.1 (sTS xs at_ err most).2.2 ((sTS xs at_ err most).1.toNat * e)).2.2)
/-- The values that pairs of bytes are. -/
def sPairs : List Int → List Int
  | a :: b :: r => wrap16 (sNum [a, b]) :: sPairs r
  | _ => []
theorem sGrp_bound (xs : List Int) (hb : Byt xs) (at0 most : Int) : ∀ (f k : Nat) (n : Int), k + f ≤ 6 → 0 ≤ n → n < 128 ^ k → 0 ≤ (sGrp xs at0 most f k n).1 ∧ (sGrp xs at0 most f k n).1 < 34359738368
  | 0, _, _, _, _, _ => by simp [sGrp]
  | f + 1, k, n, hk, h0, h1 => by
    rw [sGrp]
    have z : (0 : Int) ≤ 0 ∧ (0 : Int) < 34359738368 := by decide
    split
    · exact z
    · rename_i hlk
      split
      · exact z
      · rename_i h5
        have hx : 0 ≤ xs.getD (at0 + k).toNat 0 ∧ xs.getD (at0 + k).toNat 0 < 256 := by
          unfold sLacks at hlk
          have hidx : (at0 + k).toNat < xs.length := by omega
          have := hb.get hidx
          simpa [List.getD, List.getElem?_eq_getElem hidx] using this
        generalize xs.getD (at0 + k).toNat 0 = x at *
        have hk4 : k ≤ 4 := by omega
        have hy : 0 ≤ x % 128 ∧ x % 128 ≤ 127 := by omega
        generalize x % 128 = y at *
        have key : 0 ≤ n + y * 128 ^ k ∧ n + y * 128 ^ k < 128 ^ (k + 1) ∧ (128 : Int) ^ (k + 1) ≤ 34359738368 := by
          rcases (show k = 0 ∨ k = 1 ∨ k = 2 ∨ k = 3 ∨ k = 4 by omega) with rfl | rfl | rfl | rfl | rfl <;> (simp only [Int.reducePow, Nat.zero_add, Nat.reduceAdd] at *; omega)
        split
        · split
          · exact z
          · exact ⟨key.1, by omega⟩
        · exact sGrp_bound xs hb at0 most f (k + 1) _ (by omega) key.1 key.2.1
theorem sTS_bound (xs : List Int) (hb : Byt xs) (at_ err most : Int) : 0 ≤ (sTS xs at_ err most).1 ∧ (sTS xs at_ err most).1 < 34359738368 := by
  unfold sTS
  split
  · exact ⟨Int.le_refl 0, by omega⟩
  · exact sGrp_bound xs hb at_ most 6 0 0 (by omega) (by omega) (by decide)
theorem sOf_byt (xs : List Int) (at_ err most : Int) (e : Nat) (h : Byt xs) : Byt (sOf xs at_ err most e).1 := by
  unfold sOf
  split
  · exact sTk_byt _ _ _ _ h
  · exact Byt.nil
theorem sPairs_snoc : ∀ (k : Nat) (bs : List Int) (h : 2 * k + 1 < bs.length), sPairs (bs.take (2 * k + 2)) = sPairs (bs.take (2 * k)) ++ [wrap16 (sNum [bs[2 * k]'(by omega), bs[2 * k + 1]])]
  | 0, a :: b :: r, _ => by simp [sPairs]
  | k + 1, a :: b :: r, h => by
    have := sPairs_snoc k r (by simp at h; omega)
    have t1 : (a :: b :: r).take (2 * (k + 1)) = a :: b :: r.take (2 * k) := rfl
    have t2 : (a :: b :: r).take (2 * (k + 1) + 2) = a :: b :: r.take (2 * k + 2) := rfl
    have g1 : (a :: b :: r)[2 * (k + 1)]'(by omega) = r[2 * k]'(by simp at h; omega) := rfl
    have g2 : (a :: b :: r)[2 * (k + 1) + 1] = r[2 * k + 1]'(by simp at h; omega) := rfl
    rw [t1, t2, g1, g2, sPairs, sPairs, this]
    rfl
  | _, [_], h => by simp at h
  | _, [], h => by simp at h
theorem sPairs_len : ∀ (k : Nat) (bs : List Int), 2 * k ≤ bs.length → (sPairs (bs.take (2 * k))).length = k
  | 0, _, _ => by simp [sPairs]
  | k + 1, a :: b :: r, h => by
    rw [show 2 * (k + 1) = (2 * k) + 2 by omega, List.take_succ_cons, List.take_succ_cons, sPairs, List.length_cons, sPairs_len k r (by simp at h; omega)]
  | _ + 1, [_], h => by simp at h; omega
  | _ + 1, [], h => by simp at h
theorem sPairs_all : ∀ (k : Nat) (bs : List Int), bs.length ≤ 2 * k + 1 → sPairs (bs.take (2 * k)) = sPairs bs
  | 0, [], _ => rfl
  | 0, [_], _ => rfl
  | 0, _ :: _ :: _, h => by simp at h
  | k + 1, a :: b :: r, h => by
    rw [show 2 * (k + 1) = (2 * k) + 2 by omega, List.take_succ_cons, List.take_succ_cons, sPairs, sPairs, sPairs_all k r (by simp at h; omega)]
  | _ + 1, [_], _ => rfl
  | _ + 1, [], _ => rfl
theorem sPairs_le : ∀ (bs : List Int), (sPairs bs).length ≤ bs.length
  | [] => by simp [sPairs]
  | [_] => by simp [sPairs]
  | a :: b :: r => by
    have := sPairs_le r
    simp [sPairs]; omega
theorem sNum_two {x y : Int} (hx : 0 ≤ x ∧ x < 256) (hy : 0 ≤ y ∧ y < 256) : 0 ≤ sNum [x, y] ∧ sNum [x, y] < 65536 := by
  simp [sNum]; omega
/-- Two cells side by side. -/
theorem Rd.pair {w : World} {B : Nat} {A : Option Addr} {k : IntKind} {zs : List Int} (h : Rd w B A (cb k zs)) {i : Nat} (hi : i + 1 < zs.length) : ∃ b o, A = some ⟨b, o, none⟩ ∧ b < B ∧ Rd w B (some ⟨b, o + i, none⟩) (cb k [zs[i], zs[i + 1]]) := by
  obtain ⟨b, o, e, hb, hc⟩ := h (by simp; omega)
  refine ⟨b, o, e, hb, fun _ => ⟨b, o + i, rfl, hb, fun j u hu => ?_⟩⟩
  have hj : j < 2 := by simpa using (List.getElem?_eq_some_iff.1 hu).1
  have h2 := hc (i + j) u
  rw [← Nat.add_assoc] at h2
  refine h2 ?_
  rcases (show j = 0 ∨ j = 1 by omega) with rfl | rfl
  · have hu' : some (Value.int k zs[i]) = some u := hu
    rw [← hu', cb, List.getElem?_map, List.getElem?_eq_getElem (by omega)]
    rfl
  · have hu' : some (Value.int k zs[i + 1]) = some u := hu
    rw [← hu', cb, List.getElem?_map, List.getElem?_eq_getElem hi]
    rfl
theorem sTk_len2 (xs : List Int) (at_ err : Int) (k : Nat) : (sTk xs at_ err k).1.length ≤ xs.length := by
  unfold sTk
  split
  · simp
  · split
    · simp
    · simp; omega
theorem sOf_len (xs : List Int) (at_ err most : Int) (e : Nat) : (sOf xs at_ err most e).1.length ≤ xs.length := by
  unfold sOf
  split
  · exact sTk_len2 _ _ _ _
  · simp
theorem Own.far {w : World} {base : Nat} {e : TypeId} {v : Value} {xs : List Value} (h : Own w base e v xs) {p : Addr} (hp : p.block < base) (u : Value) : Own (w.setCell p u) base e v xs :=
  h.keep fun g hg => Go.RowKit.Below.heap_setCell w p u g (by have := (h.block g hg).1; omega)
theorem Own.set3 {w : World} {base : Nat} {e : TypeId} {v : Value} {xs : List Value} (h : Own w base e v xs) {g : Nat} (hp : g < base) (x y z : Value) : Own (((w.setCell ⟨g, 0, none⟩ x).setCell ⟨g, 1, none⟩ y).setCell ⟨g, 2, none⟩ z) base e v xs :=
  ((h.far (p := ⟨g, 0, none⟩) hp x).far (p := ⟨g, 1, none⟩) hp y).far (p := ⟨g, 2, none⟩) hp z
theorem sTk_two (xs : List Int) (t : Nat) (h : t + 1 < xs.length) : sTk xs (t : Int) 0 2 = ([xs[t]'(by omega), xs[t + 1]], (t : Int) + 2, 0) := by
  have h2 : ¬ sLacks xs.length (t : Int) ((2 : Nat) : Int) := by unfold sLacks; omega
  simp only [sTk, if_neg h2]
  rw [if_neg (by omega), Int.toNat_natCast, List.drop_eq_getElem_cons (by omega), List.drop_eq_getElem_cons h, List.take_succ_cons, List.take_succ_cons, List.take_zero]
  rfl
theorem Blk.grown {w w' : World} {g : Nat} {t : TypeId} {cs : List Value} {row : Option Nat} (h : Blk w g t cs) (hg : w.grownBy w' row) (hr : row ≠ some g) : Blk w' g t cs := (hg.block g h.lt (fun e => hr e.symm)).trans h
theorem Own.fresh {w : World} {base : Nat} {e : TypeId} {v : Value} {xs : List Value} (h : Own w base e v xs) {g : Nat} (hg : w.heap.size ≤ g) : v.ownBlock ≠ some g := fun e => by have := (h.block g e).2; omega
theorem Own.under {w : World} {base : Nat} {e : TypeId} {v : Value} {xs : List Value} (h : Own w base e v xs) {g : Nat} (hg : g < base) : v.ownBlock ≠ some g := fun e => by have := (h.block g e).1; omega
theorem Rd.new1 (w : World) (o : Obj) (cs : List Value) (t : TypeId) : Rd ((w.alloc o).alloc (.cells cs.toArray t)) ((w.alloc o).alloc (.cells cs.toArray t)).heap.size (some ⟨w.heap.size + 1, 0, none⟩) cs := by
  simpa using Rd.new (w.alloc o) cs t
end Go.Proofs.Ytljebpbjjfnmkaa
