/- Plain words on strings as lists of numbers. No program stands in this text. -/
import Derived.Test.YtjjgdjcapfenpaaWords
namespace Go.Proofs.Ytjjgdjcapfenpaa

/-- The bytes of a text. -/
def tB (s : ByteArray) : List Int := s.data.toList.map fun b => (b.toNat : Int)
theorem tB_len (s : ByteArray) : (tB s).length = s.size := by
  rw [tB, List.length_map, Array.length_toList]
  rfl
theorem tB_get (s : ByteArray) (k : Nat) (h : k < s.size) (h' : k < (tB s).length) : (tB s)[k] = (s[k].toNat : Int) := by
  simp [tB]
  rfl
theorem tB_getD (s : ByteArray) (k : Nat) (h : k < s.size) : (tB s).getD k 0 = (s[k].toNat : Int) := by
  have h' : k < (tB s).length := by rw [tB_len]; exact h
  simp only [List.getD, List.getElem?_eq_getElem h', Option.getD_some]
  exact tB_get s k h h'
/-- All are bytes. -/
def Bts (xs : List Int) : Prop := ∀ x ∈ xs, 0 ≤ x ∧ x < 256
theorem tB_bts (s : ByteArray) : Bts (tB s) := by
  intro x hx
  rw [tB, List.mem_map] at hx
  obtain ⟨b, _, rfl⟩ := hx
  have := b.toNat_lt
  omega
theorem tB_take (s : ByteArray) (k : Nat) (h : k < s.size) : (tB s).take (k + 1) = (tB s).take k ++ [(s[k].toNat : Int)] := by
  have h' : k < (tB s).length := by rw [tB_len]; exact h
  rw [List.take_succ_eq_append_getElem h', tB_get s k h h']
theorem tB_extract (s : ByteArray) (i j : Nat) : tB (s.extract i j) = ((tB s).take j).drop i := by
  rw [tB, tB, ByteArray.data_extract, Array.toList_extract, List.extract_eq_take_drop, List.map_take, List.map_drop, List.drop_take]
theorem tB_one (s : ByteArray) (k : Nat) (h : k < s.size) : tB (s.extract k (k + 1)) = [(s[k].toNat : Int)] := by
  rw [tB_extract, tB_take s k h, List.drop_append_of_le_length (by rw [List.length_take, tB_len]; omega), List.drop_of_length_le (by rw [List.length_take, tB_len]; omega), List.nil_append]
theorem tB_append (s t : ByteArray) : tB (s ++ t) = tB s ++ tB t := by simp [tB]
theorem tB_inj {s t : ByteArray} (h : tB s = tB t) : s = t := by
  have : s.data.toList = t.data.toList := by
    unfold tB at h
    refine List.map_inj_right (fun a b hab => ?_) |>.1 h
    have : a.toNat = b.toNat := Int.ofNat.inj hab
    exact UInt8.toNat_inj.1 this
  cases s; cases t
  simp at this
  simp [this]
theorem strCells_t (s : ByteArray) : Lib.strCells s = cb .u8 (tB s) := strCells_cb s
theorem tB_str {xs : List Int} (h : Bts xs) : tB (strOfNums xs) = xs := by
  rw [tB, strOfNums_data, List.map_map]
  conv => rhs; rw [← List.map_id xs]
  refine List.map_congr_left fun x hx => ?_
  have := h x hx
  simp only [Function.comp, id]
  rw [UInt8.toNat_ofNat']
  omega
theorem tB_empty : tB ⟨#[]⟩ = [] := rfl
theorem str_tB (s : ByteArray) : strOfNums (tB s) = s := tB_inj (tB_str (tB_bts s))
theorem Bts.nil : Bts [] := fun x hx => by cases hx
theorem Bts.append {xs ys : List Int} (h : Bts xs) (k : Bts ys) : Bts (xs ++ ys) := fun x hx => by
  rcases List.mem_append.1 hx with hx | hx
  · exact h x hx
  · exact k x hx
theorem Bts.take {xs : List Int} (h : Bts xs) (n : Nat) : Bts (xs.take n) := fun x hx => h x (List.mem_of_mem_take hx)
theorem Bts.drop {xs : List Int} (h : Bts xs) (n : Nat) : Bts (xs.drop n) := fun x hx => h x (List.mem_of_mem_drop hx)
theorem Bts.get {xs : List Int} (h : Bts xs) {i : Nat} (hi : i < xs.length) : 0 ≤ xs[i] ∧ xs[i] < 256 := h _ (List.getElem_mem hi)
/-- What holds of all bytes, one by one. -/
theorem byte_all {P : Int → Prop} (h : ∀ r : Fin 256, P (r.val : Int)) (m : Int) (h0 : 0 ≤ m) (h1 : m < 256) : P m := by
  have := h ⟨m.toNat, by omega⟩
  simpa [Int.toNat_of_nonneg h0] using this
theorem toList_tB (s : ByteArray) : s.toList.map (fun b => (b.toNat : Int)) = tB s := by rw [ByteArray.toList_eq]; rfl
theorem toList_len (s : ByteArray) : s.toList.length = s.size := by rw [ByteArray.toList_eq, Array.length_toList]; rfl
theorem toList_inj {s t : ByteArray} : s.toList = t.toList ↔ tB s = tB t := by
  rw [ByteArray.toList_eq, ByteArray.toList_eq]
  constructor
  · intro h; unfold tB; rw [h]
  · intro h; rw [tB_inj h]
theorem toList_nil {s : ByteArray} : s.toList = [] ↔ tB s = [] := by rw [← toList_tB]; simp
theorem toList_beq (s t : ByteArray) : (s.toList == t.toList) = (tB s == tB t) := by
  rw [Bool.eq_iff_iff, beq_iff_eq, beq_iff_eq, toList_inj]
/-- A byte of a text. -/
def tOkB (c : Int) : Bool := decide (32 ≤ c ∧ c ≤ 126 ∨ c = 10)
/-- A text that may be said. -/
def isTextB (l : List Int) : Bool := decide (l.length ≤ 1024) && l.all tOkB
theorem isText_take {l : List Int} (h : isTextB l = true) {k : Nat} (hk : k < l.length) : tOkB l[k] = true := by
  simp only [isTextB, Bool.and_eq_true, List.all_eq_true] at h
  exact h.2 _ (List.getElem_mem hk)
end Go.Proofs.Ytjjgdjcapfenpaa
