/- More plain words on memory: a row of the call's own, read and written at a place; blocks of different element types. No program stands in this text. Plain words on strings as lists of numbers. No program stands in this text. -/
import Derived.Test.YtpbaiighifhfnaaDoorWords
namespace Go.Proofs.YtpbaiighifhfnaaDoor
open Go.RowKit

theorem own_blk {w : World} {base g : Nat} {e t : TypeId} {v : Value} {xs cs : List Value} (h : Own w base e v xs) (hb : Blk w g t cs) (hne : e ≠ t) : v.ownBlock ≠ some g := by
  rcases h.2 with ⟨rfl, _⟩ | ⟨g', cap, cur, rfl, _, hh, _⟩
  · simp [Value.ownBlock]
  · intro he
    simp [Value.ownBlock] at he
    subst he
    unfold Blk at hb
    rw [hh] at hb
    injection hb with hb
    injection hb with _ ht
    exact hne ht
theorem Blk.grown {w w' : World} {g : Nat} {t : TypeId} {cs : List Value} {row : Option Nat} (h : Blk w g t cs) (hg : w.grownBy w' row) (hne : row ≠ some g) : Blk w' g t cs :=
  (hg.block g h.lt (fun e => hne e.symm)).trans h
theorem Blk.ne_ {w : World} {g g' : Nat} {t t' : TypeId} {cs cs' : List Value} (h : Blk w g t cs) (h' : Blk w g' t' cs') (hne : t ≠ t') : g ≠ g' := by
  rintro rfl
  unfold Blk at h h'
  rw [h] at h'
  injection h' with h'
  injection h' with _ ht
  exact hne ht
section
variable {w : World} {base : Nat} {e : TypeId} {A : Option Addr} {n c g : Nat} {xs : List Value}
theorem Own.addr (h : Own w base e (.slice A n c) xs) (hx : 0 < n) : ∃ g, A = some ⟨g, 0, none⟩ ∧ base ≤ g ∧ g < w.heap.size := by
  have hn := h.rd.1
  rcases h.2 with ⟨hv, h0⟩ | ⟨g, cap, cur, hv, hb, hh, _⟩
  · omega
  · injection hv with h1
    exact ⟨g, h1, hb, (Array.getElem?_eq_some_iff.1 hh).1⟩
theorem Own.cellAt (h : Own w base e (.slice (some ⟨g, 0, none⟩) n c) xs) (j : Nat) (hj : j < xs.length) : w.cell? ⟨g, j, none⟩ = some xs[j] := by
  have hn := h.rd.1
  subst hn
  rw [World.ownsRow.cellAt h j (by omega), List.getElem?_eq_getElem hj]
theorem Own.free (h : Own w base e (.slice (some ⟨g, 0, none⟩) n c) xs) (j : Nat) : w.frozen? ⟨g, j, none⟩ = false := by
  have hn := h.rd.1
  subst hn
  exact World.ownsRow.frozenAt h j
theorem Own.set_ (h : Own w base e (.slice (some ⟨g, 0, none⟩) n c) xs) (j : Nat) (u : Value) : Own (w.setCell ⟨g, j, none⟩ u) base e (.slice (some ⟨g, 0, none⟩) n c) (xs.set j u) := by
  have hn := h.rd.1
  subst hn
  have := (World.ownsRow.stored h j u).1
  simpa [Own] using this
/-- A store elsewhere. -/
theorem Own.far {v : Value} (h : Own w base e v xs) {p : Addr} (hp : v.ownBlock ≠ some p.block) (u : Value) : Own (w.setCell p u) base e v xs :=
  h.keep fun g hg => Below.heap_setCell w p u g (fun hh => hp (by rw [hg, hh]))
end
theorem Own.ne_own {w : World} {base base' : Nat} {e e' : TypeId} {v v' : Value} {xs xs' : List Value} (h : Own w base e v xs) (h' : Own w base' e' v' xs') (hne : e ≠ e') : ∀ g, v.ownBlock = some g → v'.ownBlock ≠ some g := by
  intro g hg hg'
  rcases h.2 with ⟨rfl, _⟩ | ⟨g1, cap, cur, rfl, _, hh, _⟩
  · simp [Value.ownBlock] at hg
  · rcases h'.2 with ⟨rfl, _⟩ | ⟨g2, cap', cur', rfl, _, hh', _⟩
    · simp [Value.ownBlock] at hg'
    · simp [Value.ownBlock] at hg hg'
      subst hg
      subst hg'
      rw [hh] at hh'
      injection hh' with hh'
      injection hh' with _ ht
      exact hne ht
/-- Two rows in different blocks. -/
def Apart (v v' : Value) : Prop := ∀ g, v.ownBlock = some g → v'.ownBlock ≠ some g
theorem Apart.older {w w' : World} {base base' : Nat} {e e' : TypeId} {v v' : Value} {xs xs' : List Value} (h : Own w base e v xs) (h' : Own w' base' e' v' xs') (hb : w.heap.size ≤ base') : Apart v v' := by
  intro g hg hg'
  have h1 := (h.block g hg).2
  have h2 := (h'.block g hg').1
  omega
theorem Apart.grown {w w' : World} {base' : Nat} {e' : TypeId} {v v' v2 : Value} {xs' : List Value} (h : Apart v v') (hg : v2.ownBlock = v.ownBlock ∨ v2.ownBlock = some w.heap.size) (h' : Own w' base' e' v' xs') (hb : w'.heap.size ≤ w.heap.size) : Apart v2 v' := by
  intro g hg1 hg2
  rcases hg with he | he
  · exact h g (he ▸ hg1) hg2
  · have h2 := (h'.block g hg2).2
    rw [he] at hg1
    injection hg1 with hg1
    omega
theorem Apart.symm {v v' : Value} (h : Apart v v') : Apart v' v := fun g h1 h2 => h g h2 h1
/-- How long a slice is. -/
def lenOf (v : Value) : Nat := match v with | .slice _ n _ => n | _ => 0
theorem cb_set (k : IntKind) (zs : List Int) (j : Nat) (z : Int) : (cb k zs).set j (.int k z) = cb k (zs.set j z) := by simp [cb, List.map_set]
theorem cb_get (k : IntKind) (zs : List Int) (j : Nat) (h : j < (cb k zs).length) : (cb k zs)[j] = .int k (zs[j]'(by simpa using h)) := by simp [cb]
end Go.Proofs.YtpbaiighifhfnaaDoor
namespace Go.Proofs.YtpbaiighifhfnaaDoor

/-- The bytes of a text. -/
def tB (s : ByteArray) : List Int := s.data.toList.map fun b => (b.toNat : Int)
theorem tB_len (s : ByteArray) : (tB s).length = s.size := by
  rw [tB, List.length_map, Array.length_toList]
  rfl
theorem tB_get (s : ByteArray) (k : Nat) (h : k < s.size) (h' : k < (tB s).length) : (tB s)[k] = (s[k].toNat : Int) := by
  simp [tB]
  rfl
theorem tB_getD (s : ByteArray) (k : Nat) (h : k < s.size) : (tB s).getD k 0 = (s[k].toNat : Int) := by
  have h' : k < (tB s).length := by rw [tB_len]; exact h
  simp only [List.getD, List.getElem?_eq_getElem h', Option.getD_some]
  exact tB_get s k h h'
/-- All are bytes. -/
def Bts (xs : List Int) : Prop := ∀ x ∈ xs, 0 ≤ x ∧ x < 256
theorem tB_bts (s : ByteArray) : Bts (tB s) := by
  intro x hx
  rw [tB, List.mem_map] at hx
  obtain ⟨b, _, rfl⟩ := hx
  have := b.toNat_lt
  omega
theorem tB_take (s : ByteArray) (k : Nat) (h : k < s.size) : (tB s).take (k + 1) = (tB s).take k ++ [(s[k].toNat : Int)] := by
  have h' : k < (tB s).length := by rw [tB_len]; exact h
  rw [List.take_succ_eq_append_getElem h', tB_get s k h h']
theorem tB_extract (s : ByteArray) (i j : Nat) : tB (s.extract i j) = ((tB s).take j).drop i := by
  rw [tB, tB, ByteArray.data_extract, Array.toList_extract, List.extract_eq_take_drop, List.map_take, List.map_drop, List.drop_take]
theorem tB_one (s : ByteArray) (k : Nat) (h : k < s.size) : tB (s.extract k (k + 1)) = [(s[k].toNat : Int)] := by
  rw [tB_extract, tB_take s k h, List.drop_append_of_le_length (by rw [List.length_take, tB_len]; omega), List.drop_of_length_le (by rw [List.length_take, tB_len]; omega), List.nil_append]
theorem tB_append (s t : ByteArray) : tB (s ++ t) = tB s ++ tB t := by simp [tB]
theorem tB_inj {s t : ByteArray} (h : tB s = tB t) : s = t := by
  have : s.data.toList = t.data.toList := by
    unfold tB at h
    refine List.map_inj_right (fun a b hab => ?_) |>.1 h
    have : a.toNat = b.toNat := Int.ofNat.inj hab
    exact UInt8.toNat_inj.1 this
  cases s; cases t
  simp at this
  simp [this]
theorem strCells_t (s : ByteArray) : Lib.strCells s = cb .u8 (tB s) := strCells_cb s
theorem tB_str {xs : List Int} (h : Bts xs) : tB (strOfNums xs) = xs := by
  rw [tB, strOfNums_data, List.map_map]
  conv => rhs; rw [← List.map_id xs]
  refine List.map_congr_left fun x hx => ?_
  have := h x hx
  simp only [Function.comp, id]
  rw [UInt8.toNat_ofNat']
  omega
theorem tB_empty : tB ⟨#[]⟩ = [] := rfl
theorem str_tB (s : ByteArray) : strOfNums (tB s) = s := tB_inj (tB_str (tB_bts s))
theorem Bts.nil : Bts [] := fun x hx => by cases hx
theorem Bts.append {xs ys : List Int} (h : Bts xs) (k : Bts ys) : Bts (xs ++ ys) := fun x hx => by
  rcases List.mem_append.1 hx with hx | hx
  · exact h x hx
  · exact k x hx
theorem Bts.take {xs : List Int} (h : Bts xs) (n : Nat) : Bts (xs.take n) := fun x hx => h x (List.mem_of_mem_take hx)
theorem Bts.drop {xs : List Int} (h : Bts xs) (n : Nat) : Bts (xs.drop n) := fun x hx => h x (List.mem_of_mem_drop hx)
theorem Bts.get {xs : List Int} (h : Bts xs) {i : Nat} (hi : i < xs.length) : 0 ≤ xs[i] ∧ xs[i] < 256 := h _ (List.getElem_mem hi)
/-- What holds of all bytes, one by one. -/
theorem byte_all {P : Int → Prop} (h : ∀ r : Fin 256, P (r.val : Int)) (m : Int) (h0 : 0 ≤ m) (h1 : m < 256) : P m := by
  have := h ⟨m.toNat, by omega⟩
  simpa [Int.toNat_of_nonneg h0] using this
theorem toList_tB (s : ByteArray) : s.toList.map (fun b => (b.toNat : Int)) = tB s := by rw [ByteArray.toList_eq]; rfl
theorem toList_len (s : ByteArray) : s.toList.length = s.size := by rw [ByteArray.toList_eq, Array.length_toList]; rfl
theorem toList_inj {s t : ByteArray} : s.toList = t.toList ↔ tB s = tB t := by
  rw [ByteArray.toList_eq, ByteArray.toList_eq]
  constructor
  · intro h; unfold tB; rw [h]
  · intro h; rw [tB_inj h]
theorem toList_nil {s : ByteArray} : s.toList = [] ↔ tB s = [] := by rw [← toList_tB]; simp
theorem toList_beq (s t : ByteArray) : (s.toList == t.toList) = (tB s == tB t) := by
  rw [Bool.eq_iff_iff, beq_iff_eq, beq_iff_eq, toList_inj]
/-- A byte of a text. -/
def tOkB (c : Int) : Bool := decide (32 ≤ c ∧ c ≤ 126 ∨ c = 10)
/-- A text that may be said. -/
def isTextB (l : List Int) : Bool := decide (l.length ≤ 1024) && l.all tOkB
theorem isText_take {l : List Int} (h : isTextB l = true) {k : Nat} (hk : k < l.length) : tOkB l[k] = true := by
  simp only [isTextB, Bool.and_eq_true, List.all_eq_true] at h
  exact h.2 _ (List.getElem_mem hk)
end Go.Proofs.YtpbaiighifhfnaaDoor
