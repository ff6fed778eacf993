/- Chapter 46 as plain data: a history, an image more, an image less, all of them. No program stands in this text. -/
import Derived.Test.YtjjgdjcapfenpaaDelP
import Derived.Test.YtjjgdjcapfenpaaOo
namespace Go.Proofs.Ytjjgdjcapfenpaa
set_option linter.unusedVariables false
open Go.RowKit

theorem dLoop_byt {a d : List Int} (ha : Byt a) (hd : Byt d) (n : Nat) : ∀ (f : Nat) (p : Int) (out : List Int), Byt out → Byt (dLoop a d n f p out).1
  | 0, p, out, h => h
  | f + 1, p, out, h => by
    rw [dLoop]
    split
    · split
      · exact h
      · split
        · exact h
        · simp only
          split
          · exact h
          · split
            · exact h
            · split
              · exact h
              · exact dLoop_byt ha hd n f _ _ ((h.append ((ha.drop _).take _)).append ((hd.drop _).take _))
    · exact h
theorem dApp_byt {a d : List Int} (ha : Byt a) (hd : Byt d) : Byt (dApp a d).1 := by
  unfold dApp
  split
  · exact Byt.nil
  · simp only
    split
    · exact Byt.nil
    · split
      · exact Byt.nil
      · split
        · exact dLoop_byt ha hd _ _ _ _ Byt.nil
        · exact Byt.nil
theorem dApp_len {a d : List Int} (hd : Byt d) : (dApp a d).1.length ≤ 65536 := by
  rcases h : dApp a d with ⟨y, e⟩
  by_cases he : e = 0
  · subst he
    exact (dApp_ok hd h).2.1
  · rw [dApp_err_nil h he]
    simp
structure HistP where
  most : Int
  now : List Int
  ds : List (List Int)
def remN (n : Int) : Int := min (max n 0) 32
def pushP (h : HistP) (b : List Int) : HistP :=
  if b.length = 0 ∨ remN h.most = 0 then h else if h.now.length = 0 then ⟨h.most, b, []⟩ else ⟨h.most, b, (dMake b h.now :: h.ds).take (remN h.most - 1).toNat⟩
def newP (n : Int) : HistP := ⟨remN n, [], []⟩
def lenP (h : HistP) : Int := if h.now.length = 0 then 0 else 1 + h.ds.length
def popP (h : HistP) : List Int × HistP × Int :=
  if h.now.length = 0 then ([], h, 11) else if h.ds.length = 0 then (h.now, ⟨h.most, [], []⟩, 0)
  else if (dApp h.now (h.ds.getD 0 [])).2 ≠ 0 then ([], h, (dApp h.now (h.ds.getD 0 [])).2)
  else if (dApp h.now (h.ds.getD 0 [])).1.length = 0 then ([], h, 4)
  else (h.now, ⟨h.most, (dApp h.now (h.ds.getD 0 [])).1, h.ds.drop 1⟩, 0)
/-- What has come, and the error. -/
def allG : Nat → List (List Int) → HistP → List (List Int) × Int
  | 0, acc, _ => (acc, 0)
  | f + 1, acc, h => if h.now.length = 0 then (acc, 0) else if (popP h).2.2 ≠ 0 then (acc, (popP h).2.2) else allG f (acc ++ [(popP h).1]) (popP h).2.1
def fuelP (h : HistP) : Nat := h.ds.length + (if h.now.length = 0 then 0 else 1)
def allR (h : HistP) : List (List Int) × Int := allG (fuelP h) [] h
def allP (h : HistP) : List (List Int) × Int := if (allR h).2 ≠ 0 then ([], (allR h).2) else ((allR h).1, 0)
structure HOk (h : HistP) : Prop where
  most : -9223372036854775808 ≤ h.most ∧ h.most < 9223372036854775808
  len : h.now.length ≤ 100000
  byt : Byt h.now
  ds : ∀ d ∈ h.ds, d.length ≤ 100000 ∧ Byt d
  cnt : h.ds.length ≤ 100000
theorem HOk.at {h : HistP} (hk : HOk h) (i : Nat) : (h.ds.getD i []).length ≤ 100000 ∧ Byt (h.ds.getD i []) := by
  by_cases e : i < h.ds.length
  · have : h.ds.getD i [] = h.ds[i] := by simp [List.getD, e]
    rw [this]
    exact hk.ds _ (List.getElem_mem e)
  · have : h.ds.getD i [] = [] := by simp [List.getD, Nat.le_of_not_lt e]
    rw [this]
    exact ⟨by simp, Byt.nil⟩
theorem rem_pos (n : Int) : 0 ≤ remN n ∧ remN n ≤ 32 := by unfold remN; omega
theorem pop_ok {h : HistP} (hk : HOk h) : HOk (popP h).2.1 := by
  unfold popP
  split
  · exact hk
  · split
    · exact ⟨hk.most, by simp, Byt.nil, by simp, by simp⟩
    · split
      · exact hk
      · split
        · exact hk
        · have := dApp_len (a := h.now) (hk.at 0).2
          exact ⟨hk.most, by show (dApp _ _).1.length ≤ _; omega, dApp_byt hk.byt (hk.at 0).2, fun d hd => hk.ds d (List.mem_of_mem_drop hd), by have := hk.cnt; simp; omega⟩
theorem pop_img {h : HistP} (hk : HOk h) : (popP h).1.length ≤ 100000 := by
  unfold popP
  have := hk.len
  repeat' split
  all_goals simp_all
theorem new_ok (n : Int) : HOk (newP n) := ⟨by have := rem_pos n; show _ ≤ remN n ∧ remN n < _; omega, by simp [newP], Byt.nil, by simp [newP], by simp [newP]⟩
theorem push_ok {h : HistP} {b : List Int} (hk : HOk h) (hb : b.length ≤ 1000) (hn : h.now.length ≤ 3000) (hB : Byt b) : HOk (pushP h b) := by
  unfold pushP
  split
  · exact hk
  · split
    · exact ⟨hk.most, by show b.length ≤ _; omega, hB, by simp, by simp⟩
    · refine ⟨hk.most, by show b.length ≤ _; omega, hB, fun d hd => ?_, ?_⟩
      · rcases List.mem_cons.1 (List.mem_of_mem_take hd) with rfl | hd
        · have := dMake_len b h.now (by omega)
          exact ⟨by omega, dMake_byt _ _ hk.byt⟩
        · exact hk.ds d hd
      · have := rem_pos h.most
        show ((dMake b h.now :: h.ds).take (remN h.most - 1).toNat).length ≤ _
        have := List.length_take_le (remN h.most - 1).toNat (dMake b h.now :: h.ds)
        omega
/-! ### As abstract values -/
def bsl (ds : List (List Int)) : Av := .sl 1 ds.length fun j => bs (ds.getD j [])
def histFl (h : HistP) : List Av := [vi h.most, bs h.now, bsl h.ds]
def histAv (h : HistP) : Av := .agg [vi h.most, bs h.now, bsl h.ds]
theorem bsl_pure (ds : List (List Int)) : Pure (bsl ds) := by unfold bsl Pure; exact fun j => bs_pure _
/-! ### Tests -/
def sumP (ds : List (List Int)) (k : Nat) : Int := ((ds.take k).map fun d => (d.length : Int)).sum
theorem sum_step {ds : List (List Int)} {k : Nat} (h : k < ds.length) : sumP ds (k + 1) = sumP ds k + (ds.getD k []).length := by
  unfold sumP
  rw [List.take_add_one, List.getElem?_eq_getElem h, Option.toList, List.map_append, List.sum_append, List.getD, List.getElem?_eq_getElem h]
  simp only [List.map_cons, List.map_nil, List.sum_cons, List.sum_nil, Option.getD_some, Int.add_zero]
theorem sum_bound (ds : List (List Int)) : ∀ k, 0 ≤ sumP ds k
  | 0 => by simp [sumP]
  | k + 1 => by
    by_cases h : k < ds.length
    · rw [sum_step h]; have := sum_bound ds k; omega
    · have h1 := sum_bound ds k
      have : sumP ds (k + 1) = sumP ds k := by
        unfold sumP
        rw [List.take_of_length_le (by omega), List.take_of_length_le (by omega)]
      rw [this]
      exact h1
theorem sum_le {ds : List (List Int)} {B : Int} (hB : 0 ≤ B) (h : ∀ d ∈ ds, (d.length : Int) ≤ B) : ∀ k, sumP ds k ≤ k * B
  | 0 => by simp [sumP]
  | k + 1 => by
    by_cases hk : k < ds.length
    · rw [sum_step hk]
      have h1 := sum_le hB h k
      have h2 := h (ds.getD k []) (by rw [List.getD, List.getElem?_eq_getElem hk]; exact List.getElem_mem hk)
      rw [Int.natCast_add, Int.add_mul]
      omega
    · have h1 := sum_le hB h k
      have : sumP ds (k + 1) = sumP ds k := by
        unfold sumP
        rw [List.take_of_length_le (by omega), List.take_of_length_le (by omega)]
      rw [this, Int.natCast_add, Int.add_mul]
      omega
def wsum (h : HistP) : Nat → Int
  | 0 => h.now.length
  | k + 1 => IntKind.i64.wrap (wsum h k + (h.ds.getD k []).length)
def fewP (h : HistP) (n b : Int) : Bool := decide ((h.ds.length : Int) ≤ n) && decide (wsum h h.ds.length ≤ b)
/-- What came in. -/
structure HW (h : HistP) : Prop where
  most : -9223372036854775808 ≤ h.most ∧ h.most < 9223372036854775808
  len : h.now.length ≤ 140737488355328
  byt : Byt h.now
  ds : ∀ d ∈ h.ds, d.length ≤ 140737488355328 ∧ Byt d
  cnt : h.ds.length ≤ 140737488355328
theorem wsum_is {h : HistP} (hw : HW h) (hn : h.ds.length ≤ 40) : ∀ k, k ≤ h.ds.length → wsum h k = h.now.length + sumP h.ds k ∧ sumP h.ds k ≤ k * 140737488355328
  | 0, _ => by simp [wsum, sumP]
  | k + 1, hk => by
    obtain ⟨h1, h2⟩ := wsum_is hw hn k (by omega)
    have h3 : ((h.ds.getD k []).length : Int) ≤ 140737488355328 := by
      have := (hw.ds (h.ds.getD k []) (by rw [List.getD, List.getElem?_eq_getElem (by omega)]; exact List.getElem_mem _)).1
      omega
    have h4 := sum_bound h.ds k
    have h5 := hw.len
    rw [wsum, h1, sum_step (by omega)]
    refine ⟨?_, by rw [Int.natCast_add, Int.add_mul]; omega⟩
    have h6 : (k : Int) * 140737488355328 ≤ 40 * 140737488355328 := by
      have : (k : Int) ≤ 40 := by omega
      omega
    rw [i64_in _ (by omega) (by omega)]
    omega
theorem few_facts {h : HistP} (hw : HW h) (hf : fewP h 40 3000 = true) : h.ds.length ≤ 40 ∧ h.now.length ≤ 3000 ∧ ∀ i, (h.ds.getD i []).length ≤ 3000 := by
  unfold fewP at hf
  rw [Bool.and_eq_true, decide_eq_true_eq, decide_eq_true_eq] at hf
  obtain ⟨h1, h2⟩ := hf
  have h3 : h.ds.length ≤ 40 := by omega
  rw [(wsum_is hw h3 _ (Nat.le_refl _)).1] at h2
  have h4 := sum_bound h.ds h.ds.length
  refine ⟨h3, by omega, fun i => ?_⟩
  by_cases hi : i < h.ds.length
  · have key : ∀ m, m ≤ h.ds.length → i < m → ((h.ds.getD i []).length : Int) ≤ sumP h.ds m := by
      intro m
      induction m with
      | zero => intro _ h; omega
      | succ m ih =>
        intro h5 h6
        rw [sum_step (by omega)]
        rcases Nat.lt_or_ge i m with h7 | h7
        · have := ih (by omega) h7; omega
        · obtain rfl : i = m := by omega
          have := sum_bound h.ds i
          omega
    have := key _ (Nat.le_refl _) hi
    omega
  · rw [List.getD, List.getElem?_eq_none (by omega)]
    simp
theorem few_ok {h : HistP} (hw : HW h) (hf : fewP h 40 3000 = true) : HOk h := by
  obtain ⟨h1, h2, h3⟩ := few_facts hw hf
  refine ⟨hw.most, by omega, hw.byt, fun d hd => ⟨?_, (hw.ds d hd).2⟩, by omega⟩
  obtain ⟨i, hi⟩ := List.getElem?_of_mem hd
  have := h3 i
  rw [List.getD, hi] at this
  have h4 : d.length ≤ 3000 := this
  omega
def strL (x : List Int) : List UInt8 := (strOfNums x).toList
def listsB (a b : List (List Int)) : Bool := (a.length : Int) == b.length && (List.range a.length).all fun j => !(strL (a.getD j []) != strL (b.getD j []))
theorem lists_refl (a : List (List Int)) : listsB a a = true := by simp [listsB]
def sameH (a b : HistP) : Bool := a.most == b.most && strL a.now == strL b.now && listsB a.ds b.ds
theorem same_refl (a : HistP) : sameH a a = true := by simp [sameH, lists_refl]
end Go.Proofs.Ytjjgdjcapfenpaa
