/- Chapter 7 as plain data: both count rows alike. No program is walked in this text. Chapter 7 as plain data: both find the same best row. No program is walked in this text. Chapter 7 as plain data: both split alike, and choose alike. No program is walked in this text. -/
import Derived.Test.YtfbpbpapfkimfaaDoorBn
namespace Go.Proofs.YtfbpbpapfkimfaaDoor
open Go.RowKit Go.Maps
set_option linter.unusedVariables false
/-- A row stands at a place. -/
def stands (p r : ByteArray) (i : Nat) : Prop := i + r.size ≤ p.size ∧ p.extract i (i + r.size) = r
instance (p r : ByteArray) (i : Nat) : Decidable (stands p r i) := by unfold stands; infer_instance
/-- How often it has stood, not over itself; where the last one ends. -/
def grd (p r : ByteArray) : Nat → Nat × Nat
  | 0 => (0, 0)
  | i + 1 => if stands p r i ∧ (grd p r i).2 ≤ i then ((grd p r i).1 + 1, i + r.size) else grd p r i
theorem grd_hit {p r : ByteArray} {i : Nat} (h : stands p r i) (he : (grd p r i).2 ≤ i) (hr : 0 < r.size) : ∀ d, d < r.size → grd p r (i + 1 + d) = ((grd p r i).1 + 1, i + r.size)
  | 0, _ => by
    show (if _ then _ else _) = _
    rw [if_pos ⟨h, he⟩]
  | d + 1, hd => by
    have h1 := grd_hit h he hr d (by omega)
    rw [← Nat.add_assoc]
    show (if stands p r (i + 1 + d) ∧ (grd p r (i + 1 + d)).2 ≤ i + 1 + d then _ else grd p r (i + 1 + d)) = _
    rw [h1, if_neg (fun hc => by have := hc.2; simp at this; omega)]
theorem grd_over {p r : ByteArray} {i : Nat} (h : ¬ i + r.size ≤ p.size) : ∀ d, grd p r (i + d) = grd p r i
  | 0 => rfl
  | d + 1 => by
    rw [← Nat.add_assoc]
    show (if stands p r (i + d) ∧ _ then _ else grd p r (i + d)) = _
    rw [if_neg (fun hc => by have := hc.1.1; omega)]
    exact grd_over h d
theorem cnt_grd {p r : ByteArray} (hr : 0 < r.size) : ∀ (f i : Nat) (n : Int), p.size < f + i → (grd p r i).2 ≤ i → i ≤ p.size → cntF p r f i n + (grd p r i).1 = n + (grd p r p.size).1
  | 0, i, n, h, _, hi => by omega
  | f + 1, i, n, h, he, hi => by
    unfold cntF
    split
    · rename_i hin
      split
      · rename_i hat
        have hs : stands p r i := ⟨hin, hat⟩
        have h1 := grd_hit hs he hr (r.size - 1) (by omega)
        have e : i + 1 + (r.size - 1) = i + r.size := by omega
        rw [e] at h1
        have h2 := cnt_grd (p := p) hr f (i + r.size) (n + 1) (by omega) (by rw [h1]; exact Nat.le_refl _) hin
        rw [h1] at h2
        simp at h2 ⊢
        omega
      · rename_i hat
        have h1 : grd p r (i + 1) = grd p r i := by
          show (if _ then _ else _) = _
          rw [if_neg (fun hc => hat hc.1.2)]
        have h2 := cnt_grd (p := p) hr f (i + 1) n (by omega) (by rw [h1]; omega) (by omega)
        rw [h1] at h2
        exact h2
    · rename_i hin
      have h1 := grd_over (p := p) (r := r) hin (p.size - i)
      rw [show i + (p.size - i) = p.size from by omega] at h1
      rw [h1]
/-- What the maps say of a row, place by place. -/
theorem step_other {p r : ByteArray} {i n : Nat} {s : MM} (h1 : MI s.1) (h2 : MI s.2) (hp : i + n ≤ p.size) (hn : n ≠ r.size) : getM (cStep p i n s).1 r = getM s.1 r ∧ getM (cStep p i n s).2 r = getM s.2 r := by
  unfold cStep
  have hne : ¬ r = p.extract i (i + n) := fun e => hn (by rw [e, ex_size p i n hp])
  split
  · exact ⟨by rw [get_put h1, if_neg hne], by rw [get_put h2, if_neg hne]⟩
  · exact ⟨rfl, rfl⟩
theorem step_yes {p r : ByteArray} {i : Nat} {s : MM} (h1 : MI s.1) (h2 : MI s.2) (hc : stands p r i) (he : getM s.2 r ≤ i) :
    getM (cStep p i r.size s).1 r = getM s.1 r + 1 ∧ getM (cStep p i r.size s).2 r = ((i + r.size : Nat) : Int) := by
  unfold cStep
  rw [hc.2, if_pos he]
  exact ⟨by show getM (s.1.put _ _) r = _; rw [get_put h1, if_pos rfl], by show getM (s.2.put _ _) r = _; rw [get_put h2, if_pos rfl]⟩
theorem step_no {p r : ByteArray} {i : Nat} {s : MM} (h1 : MI s.1) (h2 : MI s.2) (hp : i + r.size ≤ p.size) (hc : ¬ (stands p r i ∧ getM s.2 r ≤ i)) :
    getM (cStep p i r.size s).1 r = getM s.1 r ∧ getM (cStep p i r.size s).2 r = getM s.2 r := by
  unfold cStep
  by_cases hat : p.extract i (i + r.size) = r
  · rw [hat, if_neg (fun he => hc ⟨⟨hp, hat⟩, he⟩)]
    exact ⟨rfl, rfl⟩
  · have hne : ¬ r = p.extract i (i + r.size) := fun e => hat e.symm
    split
    · exact ⟨by show getM (s.1.put _ _) r = _; rw [get_put h1, if_neg hne], by show getM (s.2.put _ _) r = _; rw [get_put h2, if_neg hne]⟩
    · exact ⟨rfl, rfl⟩
/-- A place: the row is counted if it stands there, behind the end of the last one. -/
theorem row_count {p r : ByteArray} {i b : Nat} {s : MM} (hS : Sane b s) (hp : p.size ≤ 1000000000) (h2 : 2 ≤ r.size) : ∀ k,
    (k + 1 < r.size → getM (cRow p i s k).1 r = getM s.1 r ∧ getM (cRow p i s k).2 r = getM s.2 r) ∧
    (r.size ≤ k + 1 → k ≤ 7 → (stands p r i ∧ getM s.2 r ≤ i → getM (cRow p i s k).1 r = getM s.1 r + 1 ∧ getM (cRow p i s k).2 r = ((i + r.size : Nat) : Int)) ∧
      (¬ (stands p r i ∧ getM s.2 r ≤ i) → getM (cRow p i s k).1 r = getM s.1 r ∧ getM (cRow p i s k).2 r = getM s.2 r))
  | 0 => ⟨fun _ => ⟨rfl, rfl⟩, fun h => by omega⟩
  | k + 1 => by
    obtain ⟨ih1, ih2⟩ := row_count hS hp h2 (i := i) k
    have hT := hS.row hp (i := i) k
    have hu : cRow p i s (k + 1) = if k + 2 ≤ 8 ∧ i + (k + 2) ≤ p.size then cStep p i (k + 2) (cRow p i s k) else cRow p i s k := rfl
    refine ⟨fun hk => ?_, fun hk hk7 => ?_⟩
    · obtain ⟨e1, e2⟩ := ih1 (by omega)
      rw [hu]
      split
      · rename_i hc
        obtain ⟨f1, f2⟩ := step_other (r := r) hT.m1 hT.m2 hc.2 (by omega)
        exact ⟨f1.trans e1, f2.trans e2⟩
      · exact ⟨e1, e2⟩
    · rcases Nat.lt_or_ge (k + 1) r.size with h3 | h3
      · have hn : r.size = k + 2 := by omega
        obtain ⟨e1, e2⟩ := ih1 h3
        refine ⟨fun hc => ?_, fun hc => ?_⟩
        · have hin : i + (k + 2) ≤ p.size := by have := hc.1.1; omega
          rw [hu, if_pos ⟨by omega, hin⟩, ← hn]
          obtain ⟨f1, f2⟩ := step_yes hT.m1 hT.m2 hc.1 (by rw [e2]; exact hc.2)
          exact ⟨by rw [f1, e1], f2⟩
        · rw [hu]
          split
          · rename_i hd
            rw [← hn]
            obtain ⟨f1, f2⟩ := step_no (p := p) (r := r) (i := i) hT.m1 hT.m2 (by rw [hn]; exact hd.2) (by rw [e2]; exact hc)
            exact ⟨f1.trans e1, f2.trans e2⟩
          · exact ⟨e1, e2⟩
      · obtain ⟨g1, g2⟩ := ih2 h3 (by omega)
        refine ⟨fun hc => ?_, fun hc => ?_⟩
        · obtain ⟨e1, e2⟩ := g1 hc
          rw [hu]
          split
          · rename_i hd
            obtain ⟨f1, f2⟩ := step_other (r := r) hT.m1 hT.m2 hd.2 (by omega)
            exact ⟨f1.trans e1, f2.trans e2⟩
          · exact ⟨e1, e2⟩
        · obtain ⟨e1, e2⟩ := g2 hc
          rw [hu]
          split
          · rename_i hd
            obtain ⟨f1, f2⟩ := step_other (r := r) hT.m1 hT.m2 hd.2 (by omega)
            exact ⟨f1.trans e1, f2.trans e2⟩
          · exact ⟨e1, e2⟩
theorem part_count {p r : ByteArray} {M : DataW Unit} {b : Nat} (hM : MI M) (hs : Maps.size M ≤ b) (hg : ∀ t, 0 ≤ getM M t ∧ getM M t ≤ b) (hp : p.size ≤ 1000000000) (h2 : 2 ≤ r.size) (h8 : r.size ≤ 8) : ∀ i, getM (cPart p M i).1 r = getM M r + ((grd p r i).1 : Int) ∧ getM (cPart p M i).2 r = ((grd p r i).2 : Int)
  | 0 => ⟨by show getM M r = _; simp [grd], rfl⟩
  | i + 1 => by
    obtain ⟨e1, e2⟩ := part_count hM hs hg hp h2 h8 i
    have hS := Sane.part hM hs hg hp i
    obtain ⟨_, g⟩ := row_count (i := i) hS hp h2 7
    obtain ⟨g1, g2⟩ := g (by omega) (Nat.le_refl _)
    show getM (cRow p i (cPart p M i) 7).1 r = _ ∧ getM (cRow p i (cPart p M i) 7).2 r = _
    have hgr : grd p r (i + 1) = if stands p r i ∧ (grd p r i).2 ≤ i then ((grd p r i).1 + 1, i + r.size) else grd p r i := rfl
    by_cases hc : stands p r i ∧ (grd p r i).2 ≤ i
    · obtain ⟨f1, f2⟩ := g1 ⟨hc.1, by rw [e2]; have := hc.2; omega⟩
      rw [hgr, if_pos hc, f1, f2, e1]
      exact ⟨by simp only []; omega, rfl⟩
    · obtain ⟨f1, f2⟩ := g2 (fun hd => hc ⟨hd.1, by have := hd.2; rw [e2] at this; omega⟩)
      rw [hgr, if_neg hc, f1, f2]
      exact ⟨e1, e2⟩
/-- **Both count alike.** -/
theorem count_alike {l : List ByteArray} (h : FewT l) {r : ByteArray} (h2 : 2 ≤ r.size) (h8 : r.size ≤ 8) : ∀ k, getM (cAll l k) r = cntA l r k
  | 0 => rfl
  | k + 1 => by
    have ih := count_alike h h2 h8 k
    obtain ⟨m1, m2, m3⟩ := Sane.all h k
    have hs := h.size k
    obtain ⟨e1, _⟩ := part_count (r := r) m1 m2 m3 (p := l.getD k ⟨#[]⟩) (by omega) h2 h8 (l.getD k ⟨#[]⟩).size
    have e2 := cnt_grd (p := l.getD k ⟨#[]⟩) (r := r) (by omega) ((l.getD k ⟨#[]⟩).size + 1) 0 (cntA l r k) (by omega) (Nat.le_refl _) (Nat.zero_le _)
    have e3 : (grd (l.getD k ⟨#[]⟩) r 0).1 = 0 := rfl
    show getM (cPart (l.getD k ⟨#[]⟩) (cAll l k) (l.getD k ⟨#[]⟩).size).1 r = cntF (l.getD k ⟨#[]⟩) r ((l.getD k ⟨#[]⟩).size + 1) 0 (cntA l r k)
    rw [e1, ih]
    rw [e3] at e2
    omega
end Go.Proofs.YtfbpbpapfkimfaaDoor
namespace Go.Proofs.YtfbpbpapfkimfaaDoor
open Go.RowKit Go.Maps
set_option linter.unusedVariables false
/-! ### What stands in a map is what counts -/
def Pos (D : DataW Unit) : Prop := ∀ s, Maps.has D (kS s) = decide (0 < getM D s)
theorem pos_step {p : ByteArray} {i n b : Nat} {s : MM} (hS : Sane b s) (h : Pos s.1) : Pos (cStep p i n s).1 := by
  unfold cStep
  split
  · intro t
    show Maps.has (s.1.put (kS (p.extract i (i + n))) (iv (getM s.1 (p.extract i (i + n)) + 1))) (kS t) = decide (0 < getM (s.1.put (kS (p.extract i (i + n))) (iv (getM s.1 (p.extract i (i + n)) + 1))) t)
    rw [has_put hS.m1, get_put hS.m1, h t]
    by_cases e : t = p.extract i (i + n)
    · have := hS.g1 (p.extract i (i + n))
      rw [if_pos e]
      simp [e]
      omega
    · rw [if_neg e]
      simp [e]
  · exact h
theorem pos_row {p : ByteArray} {i b : Nat} {s : MM} (hp : p.size ≤ 1000000000) (hS : Sane b s) (h : Pos s.1) : ∀ k, Pos (cRow p i s k).1
  | 0 => h
  | k + 1 => by
    have h1 := pos_row hp hS h (i := i) k
    unfold cRow
    split
    · exact pos_step (hS.row hp k) h1
    · exact h1
theorem pos_part {p : ByteArray} {M : DataW Unit} {b : Nat} (hM : MI M) (hs : Maps.size M ≤ b) (hg : ∀ t, 0 ≤ getM M t ∧ getM M t ≤ b) (h : Pos M) (hp : p.size ≤ 1000000000) : ∀ k, Pos (cPart p M k).1
  | 0 => h
  | k + 1 => pos_row hp (Sane.part hM hs hg hp k) (pos_part hM hs hg h hp k) 7
theorem pos_all {l : List ByteArray} (h : FewT l) : ∀ k, Pos (cAll l k)
  | 0 => fun s => rfl
  | k + 1 => by
    obtain ⟨h1, h2, h3⟩ := Sane.all h k
    have := h.size k
    exact pos_part h1 h2 h3 (pos_all h k) (by omega) _
/-! ### A row counts where it stands -/
theorem grd_none {p r : ByteArray} : ∀ i, (grd p r i).1 = 0 → (grd p r i).2 = 0
  | 0, _ => rfl
  | i + 1, h => by
    have hu : grd p r (i + 1) = if stands p r i ∧ (grd p r i).2 ≤ i then ((grd p r i).1 + 1, i + r.size) else grd p r i := rfl
    rw [hu] at h ⊢
    split at h
    · simp at h
    · rename_i hc
      rw [if_neg hc]
      exact grd_none i h
theorem grd_mono {p r : ByteArray} (i : Nat) : ∀ d, (grd p r i).1 ≤ (grd p r (i + d)).1
  | 0 => Nat.le_refl _
  | d + 1 => by
    have h1 := grd_mono (p := p) (r := r) i d
    have hu : grd p r (i + d + 1) = if stands p r (i + d) ∧ (grd p r (i + d)).2 ≤ i + d then ((grd p r (i + d)).1 + 1, i + d + r.size) else grd p r (i + d) := rfl
    rw [← Nat.add_assoc, hu]
    split
    · show _ ≤ (grd p r (i + d)).1 + 1; omega
    · exact h1
theorem grd_pos {p r : ByteArray} : ∀ n, (0 < (grd p r n).1 ↔ ∃ i, i < n ∧ stands p r i)
  | 0 => by simp [grd]
  | n + 1 => by
    have ih := grd_pos (p := p) (r := r) n
    have hu : grd p r (n + 1) = if stands p r n ∧ (grd p r n).2 ≤ n then ((grd p r n).1 + 1, n + r.size) else grd p r n := rfl
    constructor
    · intro h
      rw [hu] at h
      split at h
      · rename_i hc; exact ⟨n, by omega, hc.1⟩
      · obtain ⟨i, h1, h2⟩ := ih.1 h
        exact ⟨i, by omega, h2⟩
    · rintro ⟨i, h1, h2⟩
      rw [hu]
      split
      · show 0 < _ + 1; omega
      · rename_i hc
        rcases Nat.lt_or_ge i n with h3 | h3
        · exact ih.2 ⟨i, h3, h2⟩
        · obtain rfl : i = n := by omega
          refine Nat.pos_of_ne_zero fun h0 => hc ⟨h2, ?_⟩
          rw [grd_none i h0]
          omega
/-- A row stands in the first k parts. -/
def Vis (l : List ByteArray) (k : Nat) (s : ByteArray) : Prop := ∃ j, j < k ∧ ∃ i, stands (l.getD j ⟨#[]⟩) s i
theorem cntA_grd {l : List ByteArray} {r : ByteArray} (hr : 0 < r.size) (k : Nat) : cntA l r (k + 1) = cntA l r k + ((grd (l.getD k ⟨#[]⟩) r (l.getD k ⟨#[]⟩).size).1 : Int) := by
  have e2 := cnt_grd (p := l.getD k ⟨#[]⟩) (r := r) hr ((l.getD k ⟨#[]⟩).size + 1) 0 (cntA l r k) (by omega) (Nat.le_refl _) (Nat.zero_le _)
  have e3 : (grd (l.getD k ⟨#[]⟩) r 0).1 = 0 := rfl
  rw [e3] at e2
  show cntF (l.getD k ⟨#[]⟩) r ((l.getD k ⟨#[]⟩).size + 1) 0 (cntA l r k) = _
  omega
theorem cntA_nonneg {l : List ByteArray} {r : ByteArray} (hr : 0 < r.size) : ∀ k, 0 ≤ cntA l r k
  | 0 => by simp [cntA]
  | k + 1 => by have := cntA_nonneg (l := l) hr k; rw [cntA_grd hr]; omega
theorem cnt_vis {l : List ByteArray} {r : ByteArray} (hr : 0 < r.size) : ∀ k, (0 < cntA l r k ↔ Vis l k r)
  | 0 => ⟨fun h => by simp [cntA] at h, fun ⟨j, h, _⟩ => by omega⟩
  | k + 1 => by
    have ih := cnt_vis (l := l) hr k
    have hn := cntA_nonneg (l := l) hr k
    have hg := grd_pos (p := l.getD k ⟨#[]⟩) (r := r) (l.getD k ⟨#[]⟩).size
    rw [cntA_grd hr]
    constructor
    · intro h
      by_cases h1 : 0 < cntA l r k
      · obtain ⟨j, h2, h3⟩ := ih.1 h1
        exact ⟨j, by omega, h3⟩
      · obtain ⟨i, _, h3⟩ := hg.1 (by omega)
        exact ⟨k, by omega, i, h3⟩
    · rintro ⟨j, h1, i, h2⟩
      rcases Nat.lt_or_ge j k with h3 | h3
      · have := ih.2 ⟨j, h3, i, h2⟩
        omega
      · obtain rfl : j = k := by omega
        have hi : i < (l.getD j ⟨#[]⟩).size := by have := h2.1; omega
        have := hg.2 ⟨i, hi, h2⟩
        omega
theorem has_vis {l : List ByteArray} (h : FewT l) {s : ByteArray} (k : Nat) : Maps.has (cAll l k) (kS s) = true ↔ (2 ≤ s.size ∧ s.size ≤ 8) ∧ Vis l k s := by
  constructor
  · intro hh
    have h1 := keys_all h k s hh
    rw [pos_all h k s, decide_eq_true_eq, count_alike h h1.1 h1.2 k] at hh
    exact ⟨h1, (cnt_vis (by omega) k).1 hh⟩
  · rintro ⟨h1, h2⟩
    rw [pos_all h k s, decide_eq_true_eq, count_alike h h1.1 h1.2 k]
    exact (cnt_vis (by omega) k).2 h2
/-! ### The document's best -/
/-- b is best of what has been seen. -/
def BestIn (l : List ByteArray) (V : ByteArray → Prop) (b : RowP) : Prop :=
  (b = (⟨#[]⟩, 0) ∧ ∀ s, V s → savesOf l s ≤ 0) ∨ (V b.1 ∧ b.2 = savesOf l b.1 ∧ 0 < b.2 ∧ ∀ s, V s → 0 < savesOf l s → s = b.1 ∨ aheadB b (s, savesOf l s) = true)
theorem better_ahead {s : Int} {row : ByteArray} {b : RowP} (hb : 0 < b.2) : betterB s row b = aheadB (row, s) b := by
  unfold betterB aheadB
  by_cases h1 : s = b.2
  · rw [if_neg (by simpa using h1)]
    have e1 : decide (s > b.2) = false := by simp; omega
    have e2 : (s == b.2) = true := by simpa using h1
    have e3 : decide (s > 0) = true := by simp; omega
    rw [e1, e2, e3]
    by_cases h2 : (row.size : Int) = b.1.size
    · rw [if_neg (by simpa using h2)]
      have e4 : decide ((row.size : Int) > b.1.size) = false := by simp; omega
      have e5 : ((row.size : Int) == (b.1.size : Int)) = true := by simpa using h2
      rw [e4, e5]
      simp
    · rw [if_pos (by simpa using h2)]
      have e5 : ((row.size : Int) == (b.1.size : Int)) = false := by simpa using h2
      rw [e5]
      simp
  · rw [if_pos (by simpa using h1)]
    have e2 : (s == b.2) = false := by simpa using h1
    rw [e2]
    simp
theorem bestIn_step {l : List ByteArray} {V : ByteArray → Prop} {b : RowP} {row : ByteArray} (h : BestIn l V b) : BestIn l (fun s => V s ∨ s = row) (if betterB (savesOf l row) row b = true then (row, savesOf l row) else b) := by
  rcases h with ⟨rfl, h2⟩ | ⟨h1, h2, h3, h4⟩
  · have e : betterB (savesOf l row) row (⟨#[]⟩, 0) = decide (savesOf l row > 0) := by
      unfold betterB
      by_cases h5 : savesOf l row > 0
      · simp [h5]
      · have : ¬ savesOf l row > 0 := h5
        simp [this]
    rw [e]
    split
    · rename_i h5
      rw [decide_eq_true_eq] at h5
      refine .inr ⟨.inr rfl, rfl, h5, fun s hs hp => ?_⟩
      rcases hs with hs | hs
      · have := h2 s hs; omega
      · exact .inl hs
    · rename_i h5
      rw [decide_eq_true_eq] at h5
      refine .inl ⟨rfl, fun s hs => ?_⟩
      rcases hs with hs | hs
      · exact h2 s hs
      · rw [hs]; omega
  · rw [better_ahead h3]
    split
    · rename_i h5
      have hp : 0 < savesOf l row := by
        unfold aheadB at h5
        split at h5
        · simp at h5; omega
        · rename_i h6; have : savesOf l row = b.2 := by simpa using h6
          omega
      refine .inr ⟨.inr rfl, rfl, hp, fun s hs hsp => ?_⟩
      rcases hs with hs | hs
      · rcases h4 s hs hsp with h6 | h6
        · subst h6
          rw [← h2]
          exact .inr h5
        · exact .inr (ahead_trans h5 h6)
      · exact .inl hs
    · rename_i h5
      have h5' : aheadB (row, savesOf l row) b = false := by simpa using h5
      refine .inr ⟨.inl h1, h2, h3, fun s hs hsp => ?_⟩
      rcases hs with hs | hs
      · exact h4 s hs hsp
      · subst hs
        by_cases e : s = b.1
        · exact .inl e
        · rcases ahead_total (a := (s, savesOf l s)) (b := b) e with h6 | h6
          · rw [h5'] at h6; cases h6
          · exact .inr h6
theorem BestIn.same {l : List ByteArray} {V W : ByteArray → Prop} {b : RowP} (h : BestIn l V b) (hv : ∀ s, V s ↔ W s) : BestIn l W b := by
  have e : V = W := funext fun s => propext (hv s)
  rwa [← e]
/-- The rows of a part: places before i, and at i of fewer than k + 2 bytes. -/
def seenRow (p : ByteArray) (i k : Nat) (s : ByteArray) : Prop := ∃ n, 2 ≤ n ∧ n < k + 2 ∧ n ≤ 8 ∧ i + n ≤ p.size ∧ s = p.extract i (i + n)
def seenPart (p : ByteArray) (i : Nat) (s : ByteArray) : Prop := ∃ j, j < i ∧ seenRow p j 7 s
theorem best_row {l : List ByteArray} {p : ByteArray} {i : Nat} {b : RowP} {V : ByteArray → Prop} (h : BestIn l V b) : ∀ k, BestIn l (fun s => V s ∨ seenRow p i k s) (rbRow l p i b k)
  | 0 => h.same fun s => ⟨.inl, fun hs => hs.elim id fun ⟨n, h1, h2, _⟩ => by omega⟩
  | k + 1 => by
    have h1 := best_row h (p := p) (i := i) k
    have hu : rbRow l p i b (k + 1) = if k + 2 ≤ 8 ∧ i + (k + 2) ≤ p.size then rbStep l p i (k + 2) (rbRow l p i b k) else rbRow l p i b k := rfl
    rw [hu]
    split
    · rename_i hc
      refine BestIn.same (bestIn_step (row := p.extract i (i + (k + 2))) h1) fun s => ?_
      constructor
      · rintro ((hs | ⟨n, g1, g2, g3⟩) | hs)
        · exact .inl hs
        · exact .inr ⟨n, g1, by omega, g3⟩
        · exact .inr ⟨k + 2, by omega, by omega, hc.1, hc.2, hs⟩
      · rintro (hs | ⟨n, g1, g2, g3, g4, g5⟩)
        · exact .inl (.inl hs)
        · rcases Nat.lt_or_ge n (k + 2) with h5 | h5
          · exact .inl (.inr ⟨n, g1, h5, g3, g4, g5⟩)
          · obtain rfl : n = k + 2 := by omega
            exact .inr g5
    · rename_i hc
      refine h1.same fun s => ?_
      constructor
      · rintro (hs | ⟨n, g1, g2, g3⟩)
        · exact .inl hs
        · exact .inr ⟨n, g1, by omega, g3⟩
      · rintro (hs | ⟨n, g1, g2, g3, g4, g5⟩)
        · exact .inl hs
        · rcases Nat.lt_or_ge n (k + 2) with h5 | h5
          · exact .inr ⟨n, g1, h5, g3, g4, g5⟩
          · obtain rfl : n = k + 2 := by omega
            exact absurd ⟨g3, g4⟩ hc
theorem best_part {l : List ByteArray} {p : ByteArray} {b : RowP} {V : ByteArray → Prop} (h : BestIn l V b) : ∀ i, BestIn l (fun s => V s ∨ seenPart p i s) (rbPart l p b i)
  | 0 => h.same fun s => ⟨.inl, fun hs => hs.elim id fun ⟨j, h1, _⟩ => by omega⟩
  | i + 1 => by
    refine BestIn.same (best_row (best_part h i) (p := p) (i := i) 7) fun s => ?_
    constructor
    · rintro ((hs | ⟨j, h1, h2⟩) | hs)
      · exact .inl hs
      · exact .inr ⟨j, by omega, h2⟩
      · exact .inr ⟨i, by omega, hs⟩
    · rintro (hs | ⟨j, h1, h2⟩)
      · exact .inl (.inl hs)
      · rcases Nat.lt_or_ge j i with h3 | h3
        · exact .inl (.inr ⟨j, h3, h2⟩)
        · obtain rfl : j = i := by omega
          exact .inr h2
theorem seen_stands {p s : ByteArray} : seenPart p p.size s ↔ (2 ≤ s.size ∧ s.size ≤ 8) ∧ ∃ i, stands p s i := by
  constructor
  · rintro ⟨i, _, n, h1, _, h3, h4, rfl⟩
    have e := ex_size p i n h4
    exact ⟨by rw [e]; exact ⟨h1, h3⟩, i, by unfold stands; rw [e]; exact ⟨h4, rfl⟩⟩
  · rintro ⟨⟨h1, h2⟩, i, h3, h4⟩
    exact ⟨i, by omega, s.size, h1, by omega, h2, h3, h4.symm⟩
theorem best_all_in {l : List ByteArray} : ∀ k, BestIn l (fun s => (2 ≤ s.size ∧ s.size ≤ 8) ∧ Vis l k s) (rbAll l k)
  | 0 => .inl ⟨rfl, fun s ⟨_, j, h, _⟩ => by omega⟩
  | k + 1 => by
    refine BestIn.same (best_part (best_all_in k) (p := l.getD k ByteArray.empty) (l.getD k ByteArray.empty).size) fun s => ?_
    rw [seen_stands]
    constructor
    · rintro (⟨h1, j, h2, h3⟩ | ⟨h1, h2⟩)
      · exact ⟨h1, j, by omega, h3⟩
      · exact ⟨h1, k, by omega, h2⟩
    · rintro ⟨h1, j, h2, h3⟩
      rcases Nat.lt_or_ge j k with h4 | h4
      · exact .inl ⟨h1, j, h4, h3⟩
      · obtain rfl : j = k := by omega
        exact .inr ⟨h1, h3⟩
/-- **Both find the same best row, where it saves something.** -/
theorem best_alike {l : List ByteArray} (h : FewT l) : ((bestL l).2 ≤ 0 → rbL l = ⟨#[]⟩) ∧ (0 < (bestL l).2 → rbL l = (bestL l).1 ∧ rbL l ≠ ⟨#[]⟩) := by
  have hrow : ∀ s, (2 ≤ s.size ∧ s.size ≤ 8) → rowOf (cAll l l.length) s = (s, savesOf l s) := fun s hs => by
    unfold rowOf savesOf
    rw [count_alike h hs.1 hs.2]
  rcases best_all_in (l := l) l.length with ⟨e, h2⟩ | ⟨⟨h1, hv⟩, h2, h3, h4⟩
  · have e1 : rbL l = ⟨#[]⟩ := by unfold rbL; rw [e]
    refine ⟨fun _ => e1, fun hp => ?_⟩
    exfalso
    by_cases hx : ∃ r, BestOf (cAll l l.length) (fun _ => false) r
    · obtain ⟨r, hr⟩ := hx
      have e2 : bestL l = r := bestR_eq hr
      rw [e2] at hp
      rcases hr with ⟨rfl, _⟩ | ⟨g1, _, g3, _⟩
      · simp at hp
      · have g4 := (has_vis h l.length).1 g1
        rw [hrow _ g4.1] at g3
        have := h2 _ g4
        have e5 : r.2 = savesOf l r.1 := by rw [g3]
        omega
    · have e2 : bestL l = (⟨#[]⟩, 0) := by unfold bestL bestR; rw [dif_neg hx]
      rw [e2] at hp
      simp at hp
  · have hb : BestOf (cAll l l.length) (fun _ => false) (rbAll l l.length) := by
      refine .inr ⟨(has_vis h l.length).2 ⟨h1, hv⟩, rfl, ?_, fun s hs _ => ?_⟩
      · rw [hrow _ h1, ← h2]
      · have g4 := (has_vis h l.length).1 hs
        rw [hrow s g4.1]
        by_cases g5 : 0 < savesOf l s
        · exact h4 s g4 g5
        · refine .inr ?_
          unfold aheadB
          rw [if_pos (by show (rbAll l l.length).2 ≠ savesOf l s; omega)]
          show decide ((rbAll l l.length).2 > savesOf l s) = true
          simp
          omega
    have e2 : bestL l = rbAll l l.length := bestR_eq hb
    rw [e2]
    refine ⟨fun hle => by omega, fun _ => ⟨rfl, fun hem => ?_⟩⟩
    have : (rbAll l l.length).1 = ⟨#[]⟩ := hem
    rw [this] at h1
    exact absurd h1.1 (by decide)
end Go.Proofs.YtfbpbpapfkimfaaDoor
namespace Go.Proofs.YtfbpbpapfkimfaaDoor
open Go.RowKit Go.Lib
set_option linter.unusedVariables false
theorem ex_ex {p : ByteArray} {fr a b : Nat} (h : fr + b ≤ p.size) : (p.extract fr p.size).extract a b = p.extract (fr + a) (fr + b) := by
  refine tB_inj ?_
  rw [tB_extract, tB_extract, tB_extract, List.take_of_length_le (l := tB p) (by rw [tB_len]; exact Nat.le_refl _), List.take_drop, List.drop_drop]
theorem ex_size2 {p : ByteArray} {fr : Nat} (h : fr ≤ p.size) : (p.extract fr p.size).size = p.size - fr := by rw [ByteArray.size_extract]; omega
theorem noOcc0 (s r : ByteArray) : NoOccB s r 0 := fun j hj => absurd hj (by omega)
theorem wo_split {p r : ByteArray} (hr : 1 ≤ r.size) : ∀ (f d fr : Nat) (out : List ByteArray), NoOccB (p.extract fr p.size) r d → p.size < f + (fr + d) → fr + d ≤ p.size → woF p r f (fr + d) fr out = out ++ splitB r 0 (countB (p.extract fr p.size) r) (p.extract fr p.size)
  | 0, d, fr, out, _, h1, h2 => by omega
  | f + 1, d, fr, out, hno, h1, h2 => by
    have hq := ex_size2 (p := p) (fr := fr) (by omega)
    unfold woF
    split
    · rename_i hin
      have he : (p.extract fr p.size).extract d (d + r.size) = p.extract (fr + d) (fr + d + r.size) := by rw [ex_ex (by omega)]; congr 1; omega
      split
      · rename_i hat
        have hix : indexB (p.extract fr p.size) r = d := hit _ _ d hno (by omega) (by rw [he, hat]; simp)
        have e1 : (p.extract fr p.size).extract 0 (d + 0) = p.extract fr (fr + d) := by rw [ex_ex (by omega)]; congr 1
        have e2 : (p.extract fr p.size).extract (d + r.size) (p.extract fr p.size).size = p.extract (fr + d + r.size) p.size := by rw [hq, ex_ex (by omega)]; congr 1 <;> omega
        have ih := wo_split (p := p) hr f 0 (fr + d + r.size) (out ++ [p.extract fr (fr + d)]) (noOcc0 _ _) (by omega) (by omega)
        rw [Nat.add_zero] at ih
        rw [ih, countB_hit _ r d hr hix, e2, Nat.add_comm 1, splitB_hit r 0 _ _ d hix, e1, e2]
        simp
      · rename_i hat
        have hno2 : NoOccB (p.extract fr p.size) r (d + 1) := miss_piece _ _ d hno (by omega) (by rw [he, str_eq]; simpa using hat)
        have ih := wo_split (p := p) hr f (d + 1) fr out hno2 (by omega) (by omega)
        exact ih
    · rename_i hin
      have hix : indexB (p.extract fr p.size) r = -1 := past _ _ d hno hr (by omega)
      rw [splitB_miss r 0 _ _ hix]
theorem split_alike {p r : ByteArray} (hr : 1 ≤ r.size) : splitP p r = woF p r (p.size + 1) 0 0 [] := by
  have e : p.extract 0 p.size = p := by
    refine tB_inj ?_
    rw [tB_extract, List.drop_zero, List.take_of_length_le (by rw [tB_len]; exact Nat.le_refl _)]
  have h := wo_split (p := p) hr (p.size + 1) 0 0 [] (noOcc0 _ _) (by omega) (by omega)
  rw [e] at h
  exact h.symm
theorem woF_out (p r : ByteArray) : ∀ (f i fr : Nat) (out : List ByteArray), woF p r f i fr out = out ++ woF p r f i fr []
  | 0, i, fr, out => by simp [woF]
  | f + 1, i, fr, out => by
    unfold woF
    split
    · split
      · rw [woF_out p r f _ _ (out ++ [p.extract fr i]), woF_out p r f _ _ ([] ++ [p.extract fr i])]
        simp
      · exact woF_out p r f _ _ out
    · simp
theorem spl_alike {r : ByteArray} (hr : 1 ≤ r.size) (l : List ByteArray) : ∀ k, splA l r k = woA l r k
  | 0 => rfl
  | k + 1 => by
    show splA l r k ++ splitP (l.getD k ByteArray.empty) r = woF (l.getD k ByteArray.empty) r ((l.getD k ByteArray.empty).size + 1) 0 0 (woA l r k)
    rw [woF_out, ← spl_alike hr l k, split_alike hr]
theorem ch_alike (most : Int) : ∀ (f : Nat) (out parts : List ByteArray), wt parts ≤ 10000 → chF most f out parts = rcF most f out parts
  | 0, out, parts, _ => rfl
  | f + 1, out, parts, hw => by
    have hf := few_wt hw
    obtain ⟨b1, b2⟩ := best_alike hf
    have hbo := bestL_ok hf
    unfold chF rcF
    have hiff : ((out.length : Int) < min most 32) ↔ ((out.length : Int) < most ∧ out.length < 32) := by omega
    by_cases hc : (out.length : Int) < min most 32
    · rw [if_pos hc, if_pos (hiff.1 hc)]
      by_cases hle : (bestL parts).2 ≤ 0
      · rw [if_pos hle, if_pos (b1 hle)]
      · obtain ⟨e1, e2⟩ := b2 (by omega)
        have hx2 := hbo.2 (by omega)
        rw [if_neg hle, if_neg e2, e1, spl_alike (by omega)]
        exact ch_alike most f _ _ (by have := wt_wo (r := (bestL parts).1) (by omega) parts; omega)
    · rw [if_neg hc, if_neg (fun h => hc (hiff.2 h))]
/-- **Both choose alike.** -/
theorem choose_alike {l : List ByteArray} (h : wt l ≤ 10000) (most : Int) : chooseP l most = rchooseP l most := ch_alike most 33 [] l h
end Go.Proofs.YtfbpbpapfkimfaaDoor
