/- Chapter 7 as plain data: the row that saves most, whatever the order in which rows are asked. No program is walked in this text. -/
import Derived.Test.YtfbpbpapfkimfaaDoorBb
namespace Go.Proofs.YtfbpbpapfkimfaaDoor
open Go.RowKit Go.Maps
set_option linter.unusedVariables false
open Op (bytesLess)
theorem less_irrefl : ∀ l : List UInt8, bytesLess l l = false
  | [] => rfl
  | a :: l => by simp [bytesLess, less_irrefl l]
theorem less_trans : ∀ {a b c : List UInt8}, bytesLess a b = true → bytesLess b c = true → bytesLess a c = true
  | _, [], _, h, _ => by cases ‹List UInt8› <;> simp [bytesLess] at h
  | [], b :: y, [], _, h => by simp [bytesLess] at h
  | [], b :: y, c :: z, _, _ => by simp [bytesLess]
  | a :: x, b :: y, [], _, h => by simp [bytesLess] at h
  | a :: x, b :: y, c :: z, h, k => by
    simp only [bytesLess, Bool.or_eq_true, decide_eq_true_eq, Bool.and_eq_true, beq_iff_eq] at h k ⊢
    rcases h with h | ⟨h1, h2⟩ <;> rcases k with k | ⟨k1, k2⟩
    · exact .inl (by rw [UInt8.lt_iff_toNat_lt] at *; omega)
    · subst k1; exact .inl h
    · subst h1; exact .inl k
    · subst h1; subst k1; exact .inr ⟨rfl, less_trans h2 k2⟩
theorem less_total : ∀ {a b : List UInt8}, a ≠ b → bytesLess a b = true ∨ bytesLess b a = true
  | [], [], h => absurd rfl h
  | [], _ :: _, _ => .inl rfl
  | _ :: _, [], _ => .inr rfl
  | a :: x, b :: y, h => by
    simp only [bytesLess, Bool.or_eq_true, decide_eq_true_eq, Bool.and_eq_true, beq_iff_eq]
    by_cases e : a = b
    · subst e
      rcases less_total (a := x) (b := y) (fun h' => h (by rw [h'])) with h1 | h1
      · exact .inl (.inr ⟨rfl, h1⟩)
      · exact .inr (.inr ⟨rfl, h1⟩)
    · have : a.toNat ≠ b.toNat := fun h' => e (UInt8.toNat_inj.1 h')
      rcases Nat.lt_or_gt_of_ne this with h1 | h1
      · exact .inl (.inl (UInt8.lt_iff_toNat_lt.2 h1))
      · exact .inr (.inl (UInt8.lt_iff_toNat_lt.2 h1))
theorem less_asymm {a b : List UInt8} (h : bytesLess a b = true) : bytesLess b a = false := by
  cases k : bytesLess b a with
  | false => rfl
  | true =>
    have := less_trans h k
    rw [less_irrefl] at this
    cases this
abbrev RowP := ByteArray × Int
def rowAv (r : RowP) : Av := .agg [vs r.1, vi r.2]
def aheadB (a b : RowP) : Bool := if a.2 ≠ b.2 then decide (a.2 > b.2) else if (a.1.size : Int) ≠ b.1.size then decide ((a.1.size : Int) > b.1.size) else bytesLess a.1.toList b.1.toList
theorem ahead_trans {a b c : RowP} (h : aheadB a b = true) (k : aheadB b c = true) : aheadB a c = true := by
  unfold aheadB at *
  by_cases h1 : a.2 = b.2
  · rw [if_neg (by omega)] at h
    by_cases h2 : b.2 = c.2
    · rw [if_neg (by omega)] at k
      rw [if_neg (by omega)]
      by_cases h3 : (a.1.size : Int) = b.1.size
      · rw [if_neg (by omega)] at h
        by_cases h4 : (b.1.size : Int) = c.1.size
        · rw [if_neg (by omega)] at k
          rw [if_neg (by omega)]
          exact less_trans h k
        · rw [if_pos h4] at k
          rw [if_pos (by omega)]
          simp at k ⊢
          omega
      · rw [if_pos h3] at h
        by_cases h4 : (b.1.size : Int) = c.1.size
        · rw [if_pos (by omega)]
          simp at h ⊢
          omega
        · rw [if_pos h4] at k
          simp at h k
          rw [if_pos (by omega)]
          simp
          omega
    · rw [if_pos h2] at k
      rw [if_pos (by omega)]
      simp at k ⊢
      omega
  · rw [if_pos h1] at h
    by_cases h2 : b.2 = c.2
    · rw [if_pos (by omega)]
      simp at h ⊢
      omega
    · rw [if_pos h2] at k
      simp at h k
      rw [if_pos (by omega)]
      simp
      omega
theorem ahead_total {a b : RowP} (h : a.1 ≠ b.1) : aheadB a b = true ∨ aheadB b a = true := by
  by_cases h1 : a.2 = b.2
  · by_cases h3 : (a.1.size : Int) = b.1.size
    · have f1 : aheadB a b = bytesLess a.1.toList b.1.toList := by unfold aheadB; rw [if_neg (by omega), if_neg (by omega)]
      have f2 : aheadB b a = bytesLess b.1.toList a.1.toList := by unfold aheadB; rw [if_neg (by omega), if_neg (by omega)]
      rw [f1, f2]
      exact less_total fun h4 => h (tB_inj (toList_inj.1 h4))
    · have f1 : aheadB a b = decide ((a.1.size : Int) > b.1.size) := by unfold aheadB; rw [if_neg (by omega), if_pos h3]
      have f2 : aheadB b a = decide ((b.1.size : Int) > a.1.size) := by unfold aheadB; rw [if_neg (by omega), if_pos (by omega)]
      rw [f1, f2, decide_eq_true_eq, decide_eq_true_eq]
      omega
  · have f1 : aheadB a b = decide (a.2 > b.2) := by unfold aheadB; rw [if_pos h1]
    have f2 : aheadB b a = decide (b.2 > a.2) := by unfold aheadB; rw [if_pos (by omega)]
    rw [f1, f2, decide_eq_true_eq, decide_eq_true_eq]
    omega
theorem ahead_irrefl (a : RowP) : aheadB a a = false := by
  unfold aheadB
  rw [if_neg (by omega), if_neg (by omega), less_irrefl]
theorem ahead_asymm {a b : RowP} (h : aheadB a b = true) : aheadB b a = false := by
  cases k : aheadB b a with
  | false => rfl
  | true =>
    have := ahead_trans h k
    rw [ahead_irrefl] at this
    cases this
/-- What a row saves. -/
def rowOf (D : DataW Unit) (s : ByteArray) : RowP := (s, (costS s - 2) * getM D s - costS s)
/-- The best row of those that are not left. -/
def BestOf (D : DataW Unit) (left : Lit → Bool) (r : RowP) : Prop :=
  (r = (⟨#[]⟩, 0) ∧ ∀ s, Maps.has D (kS s) = true → left (kS s) = true) ∨
  (Maps.has D (kS r.1) = true ∧ left (kS r.1) = false ∧ r = rowOf D r.1 ∧ ∀ s, Maps.has D (kS s) = true → left (kS s) = false → s = r.1 ∨ aheadB r (rowOf D s) = true)
theorem best_start (D : DataW Unit) : BestOf D (Maps.has D) (⟨#[]⟩, 0) := .inl ⟨rfl, fun s h => h⟩
theorem same_kS {s t : ByteArray} : (kS t).sameKey (kS s) = decide (t = s) := by
  by_cases e : t = s
  · subst e
    rw [WideAt.sameKey_self (kS_key t)]
    simp
  · rw [sameKey_ne fun h => e (kS_inj h)]
    simp [e]
/-- The key sk comes. -/
theorem best_take {D : DataW Unit} {left : Lit → Bool} {r : RowP} {sk : ByteArray} (h : BestOf D left r) (hs : Maps.has D (kS sk) = true) (hw : r.1 = ⟨#[]⟩ → r = (⟨#[]⟩, 0) ∧ ∀ s, Maps.has D (kS s) = true → left (kS s) = true) (ht : (r.1 = ⟨#[]⟩) ∨ aheadB (rowOf D sk) r = true) :
    BestOf D (fun z => left z && !z.sameKey (kS sk)) (rowOf D sk) := by
  refine .inr ⟨hs, by show (left (kS sk) && !(kS sk).sameKey (kS sk)) = false; rw [same_kS]; simp, rfl, fun s h1 h2 => ?_⟩
  have h2' : (left (kS s) && !(kS s).sameKey (kS sk)) = false := h2
  rw [same_kS] at h2'
  by_cases e : s = sk
  · exact .inl e
  · have hl : left (kS s) = false := by simpa [e] using h2'
    refine .inr ?_
    rcases ht with ht | ht
    · rw [(hw ht).2 s h1] at hl
      cases hl
    · rcases h with ⟨h3, h4⟩ | ⟨h3, h4, h5, h6⟩
      · rw [h4 s h1] at hl
        cases hl
      · rcases h6 s h1 hl with h7 | h7
        · have : rowOf D s = r := by rw [h7, ← h5]
          rw [this]
          exact ht
        · exact ahead_trans ht h7
theorem best_leave {D : DataW Unit} {left : Lit → Bool} {r : RowP} {sk : ByteArray} (h : BestOf D left r) (hl : left (kS sk) = true) (h0 : r.1 ≠ ⟨#[]⟩) (ht : aheadB (rowOf D sk) r = false) :
    BestOf D (fun z => left z && !z.sameKey (kS sk)) r := by
  rcases h with ⟨h3, _⟩ | ⟨h3, h4, h5, h6⟩
  · rw [h3] at h0
    exact absurd rfl h0
  · refine .inr ⟨h3, by show (left (kS r.1) && !(kS r.1).sameKey (kS sk)) = false; rw [h4]; rfl, h5, fun s h1 h2 => ?_⟩
    have h2' : (left (kS s) && !(kS s).sameKey (kS sk)) = false := h2
    rw [same_kS] at h2'
    by_cases e : s = sk
    · subst e
      by_cases e2 : s = r.1
      · exact .inl e2
      · rcases ahead_total (a := rowOf D s) (b := r) e2 with h7 | h7
        · rw [ht] at h7; cases h7
        · exact .inr h7
    · exact h6 s h1 (by simpa [e] using h2')
theorem best_one {D : DataW Unit} {r r' : RowP} (h : BestOf D (fun _ => false) r) (h' : BestOf D (fun _ => false) r') : r = r' := by
  rcases h with ⟨h1, h2⟩ | ⟨h1, _, h2, h3⟩ <;> rcases h' with ⟨k1, k2⟩ | ⟨k1, _, k2, k3⟩
  · rw [h1, k1]
  · have := h2 _ k1
    cases this
  · have := k2 _ h1
    cases this
  · rcases h3 r'.1 k1 rfl with e | e
    · rw [h2, k2, e]
    · rw [← k2] at e
      rcases k3 r.1 h1 rfl with e' | e'
      · rw [h2, k2, e']
      · rw [← h2] at e'
        rw [ahead_asymm e] at e'
        cases e'
open Classical in
noncomputable def bestR (D : DataW Unit) : RowP := if h : ∃ r, BestOf D (fun _ => false) r then h.choose else (⟨#[]⟩, 0)
theorem bestR_eq {D : DataW Unit} {r : RowP} (h : BestOf D (fun _ => false) r) : bestR D = r := by
  have hx : ∃ r, BestOf D (fun _ => false) r := ⟨r, h⟩
  unfold bestR
  rw [dif_pos hx]
  exact best_one hx.choose_spec h
/-- The keys are rows of 2 to 8 bytes. -/
def KeysOk (D : DataW Unit) : Prop := ∀ s, Maps.has D (kS s) = true → 2 ≤ s.size ∧ s.size ≤ 8
theorem keys_step {p : ByteArray} {i n : Nat} {s : MM} (h : MI s.1) (hk : KeysOk s.1) (hn : 2 ≤ n ∧ n ≤ 8) (hp : i + n ≤ p.size) : KeysOk (cStep p i n s).1 := by
  unfold cStep
  split
  · intro t ht
    have ht' : Maps.has (s.1.put (kS (p.extract i (i + n))) (iv (getM s.1 (p.extract i (i + n)) + 1))) (kS t) = true := ht
    rw [has_put h, Bool.or_eq_true, decide_eq_true_eq] at ht'
    rcases ht' with e | e
    · rw [e, ex_size p i n hp]
      exact hn
    · exact hk t e
  · exact hk
theorem keys_row {p : ByteArray} {i b : Nat} {s : MM} (hp : p.size ≤ 1000000000) (h : Sane b s) (hk : KeysOk s.1) : ∀ k, k ≤ 7 → KeysOk (cRow p i s k).1
  | 0, _ => hk
  | k + 1, hk7 => by
    have h1 := keys_row (i := i) hp h hk k (by omega)
    unfold cRow
    split
    · rename_i hc
      exact keys_step (h.row hp k).m1 h1 ⟨by omega, hc.1⟩ hc.2
    · exact h1
theorem keys_part {p : ByteArray} {M : DataW Unit} {b : Nat} (hM : MI M) (hs : Maps.size M ≤ b) (hg : ∀ t, 0 ≤ getM M t ∧ getM M t ≤ b) (hk : KeysOk M) (hp : p.size ≤ 1000000000) : ∀ k, KeysOk (cPart p M k).1
  | 0 => hk
  | k + 1 => keys_row hp (Sane.part hM hs hg hp k) (keys_part hM hs hg hk hp k) 7 (Nat.le_refl _)
theorem keys_all {l : List ByteArray} (h : FewT l) : ∀ k, KeysOk (cAll l k)
  | 0 => fun s hs => by cases hs
  | k + 1 => by
    obtain ⟨h1, h2, h3⟩ := Sane.all h k
    have := h.size k
    exact keys_part h1 h2 h3 (keys_all h k) (by omega) _
theorem cost_few {s : ByteArray} (h : s.size ≤ 8) : 0 ≤ costS s ∧ costS s ≤ 24 := by
  have := cst_bd s s.size
  unfold costS
  omega
theorem mul_few {a c : Int} (h : -2 ≤ a ∧ a ≤ 22) (hc : 0 ≤ c ∧ c ≤ 700000000) : -2000000000 ≤ a * c ∧ a * c ≤ 20000000000 := by
  constructor
  · have h1 : (-2) * c ≤ a * c := Int.mul_le_mul_of_nonneg_right h.1 hc.1
    omega
  · have h1 : a * c ≤ 22 * c := Int.mul_le_mul_of_nonneg_right h.2 hc.1
    omega
end Go.Proofs.YtfbpbpapfkimfaaDoor
