/- Things within things: the given test's answer and the document's, in plain words, and that they are alike. No program stands in this text. -/
import Derived.Test.YtjloemlnejndmaaYpl
namespace Go.Proofs.Ytjloemlnejndmaa
open Go.RowKit
set_option linter.unusedVariables false
section
variable (w : WorldP)
def WorldP.n : Nat := w.parent.length
def WorldP.pz (x : Int) : Int := getZ w.parent x
def WorldP.cz (x : Int) : Int := getZ w.child x
def WorldP.xz (x : Int) : Int := getZ w.next x
def atZ (l : List Int) (i : Int) : Int := bif decide (i < 0) || decide (i ≥ (l.length : Int)) then 0 else getZ l i
def isW (x : Int) : Bool := decide (x ≥ 1) && decide (x < (w.parent.length : Int))
def countZ (l : List Int) (x : Int) : Int := (l.countP (fun v => v == x) : Nat)
def chN : Nat → Int → List Int
  | 0, _ => []
  | m + 1, c => bif isW w c then c :: chN m (atZ w.next c) else []
def kids (x : Int) : List Int := bif isW w x then chN w w.parent.length (atZ w.child x) else []
def withinN (y : Int) : Nat → Int → Bool
  | 0, _ => false
  | m + 1, x => bif isW w x then (bif x == y then true else withinN y m (w.pz x)) else false
def rtopN : Nat → Int → Int → Int
  | 0, t, _ => t
  | m + 1, t, x => bif isW w x then rtopN m x (w.pz x) else t
def listBad (x : Int) (i : Nat) : Bool := w.pz ((kids w x).getD i 0) != x || countZ (kids w x) ((kids w x).getD i 0) != 1
def lastW (x : Int) : Int := if 0 < (kids w x).length then w.xz ((kids w x).getD ((kids w x).length - 1) 0) else w.cz x
def listedB (x : Int) : Bool := ((List.range (kids w x).length).all fun i => !listBad w x i) && (lastW w x == 0)
def nest1 (x : Int) : Bool := (w.pz x != 0 && !isW w (w.pz x)) || (w.pz x == 0 && w.xz x != 0) || !listedB w x
def nest2 (x : Int) : Bool := (w.pz x != 0 && countZ (kids w (w.pz x)) x != 1) || (isW w (w.pz x) && withinN w x w.parent.length (w.pz x))
def nestHead : Bool := decide ((w.parent.length : Int) < 1) || (w.child.length : Int) != w.parent.length || (w.next.length : Int) != w.parent.length || w.pz 0 != 0 || w.cz 0 != 0 || w.xz 0 != 0
def rnestedB : Bool := !nestHead w && (List.range w.parent.length).all fun k => decide (k = 0) || (!nest1 w k && !nest2 w k)
/-- One thing's children are marked. -/
def markN (i : Int) : Nat → Int → List Bool → Option (List Bool)
  | 0, _, _ => none
  | m + 1, t, s => if t = 0 then some s else if (s.getD t.toNat false || w.pz t != i) = true then none else markN i m (w.xz t) (s.set t.toNat true)
def mkN : Nat → Option (List Bool)
  | 0 => some (List.replicate w.parent.length false)
  | k + 1 => (mkN k).bind fun s => markN w ((k + 1 : Nat) : Int) (w.parent.length + 1) (w.cz ((k + 1 : Nat) : Int)) s
def inR (l : List Int) : Bool := l.all fun z => among z 0 ((w.parent.length : Int) - 1)
def finBad (s : List Bool) (x : Nat) : Bool := (s.getD x false != (w.pz x != 0)) || (!s.getD x false && w.xz x != 0) || topN w.pz w.parent.length x == 0
def nestedB : Bool := !nestHead w && (inR w w.parent && inR w w.child && inR w w.next) && match mkN w (w.parent.length - 1) with | none => false | some s => (List.range w.parent.length).all fun x => decide (x = 0) || !finBad w s x
end
/-! ### Chains -/
def pathR (X : Int → Int) : Int → List Int → Prop
  | c, [] => c = 0
  | c, a :: r => c = a ∧ pathR X (X a) r
def finR (X : Int → Int) : Int → List Int → Int
  | c, [] => c
  | _, a :: r => finR X (X a) r
theorem finR_last (X : Int → Int) : ∀ (l : List Int) (c : Int), finR X c l = if 0 < l.length then X (l.getD (l.length - 1) 0) else c
  | [], c => rfl
  | [a], c => rfl
  | a :: b :: r, c => by
    show finR X (X a) (b :: r) = _
    rw [finR_last X (b :: r) (X a)]
    simp
section
variable {w : WorldP}
theorem isW_iff {x : Int} : isW w x = true ↔ 1 ≤ x ∧ x < w.parent.length := by simp [isW]
theorem isW_zero : isW w 0 = false := by simp [isW]
theorem atZ_in {l : List Int} {i : Int} (h0 : 0 ≤ i) (h : i < l.length) : atZ l i = getZ l i := by
  unfold atZ
  have e1 : decide (i < 0) = false := by simp; omega
  have e2 : decide (i ≥ (l.length : Int)) = false := by simp; omega
  rw [e1, e2]
  rfl
theorem chN_T : ∀ (m : Nat) (c a : Int), a ∈ chN w m c → isW w a = true
  | 0, c, a, h => by simp [chN] at h
  | m + 1, c, a, h => by
    unfold chN at h
    cases hc : isW w c with
    | false => rw [hc] at h; simp at h
    | true =>
      rw [hc, cond_true] at h
      rcases List.mem_cons.1 h with rfl | h
      · exact hc
      · exact chN_T m _ a h
theorem chN_path (hx : w.next.length = w.parent.length) : ∀ (m : Nat) (c : Int), (chN w m c).length < m → finR w.xz c (chN w m c) = 0 → pathR w.xz c (chN w m c)
  | 0, c, h, _ => by omega
  | m + 1, c, h, hf => by
    unfold chN at h hf ⊢
    cases hc : isW w c with
    | false => simp only [hc, cond_false] at hf ⊢; exact hf
    | true =>
      simp only [hc, cond_true] at h hf ⊢
      have hb := isW_iff.1 hc
      have e : atZ w.next c = w.xz c := atZ_in (by omega) (by omega)
      rw [e] at h hf ⊢
      exact ⟨rfl, chN_path hx m _ (by simpa using h) hf⟩
theorem chN_of_path (hx : w.next.length = w.parent.length) : ∀ (l : List Int) (m : Nat) (c : Int), pathR w.xz c l → (∀ a ∈ l, isW w a = true) → l.length ≤ m → chN w m c = l
  | [], m, c, h, _, _ => by
    obtain rfl : c = 0 := h
    cases m with
    | zero => rfl
    | succ m => unfold chN; rw [isW_zero]; rfl
  | a :: r, m, c, h, ha, hl => by
    cases m with
    | zero => simp at hl
    | succ m =>
      obtain ⟨rfl, h2⟩ := h
      have hc := ha c (by simp)
      have hb := isW_iff.1 hc
      unfold chN
      rw [hc, cond_true, show atZ w.next c = w.xz c from atZ_in (by omega) (by omega), chN_of_path hx r m _ h2 (fun b hb => ha b (by simp [hb])) (by simpa using hl)]
theorem count_nodup : ∀ {l : List Int}, (∀ a ∈ l, countZ l a = 1) → l.Nodup := by
  have key : ∀ {l : List Int}, (∀ a : Int, l.countP (fun v => v == a) ≤ 1) → l.Nodup := by
    intro l
    induction l with
    | nil => intro _; exact List.nodup_nil
    | cons b r ih =>
      intro h
      rw [List.nodup_cons]
      refine ⟨fun hb => ?_, ih fun a => ?_⟩
      · have h1 := h b
        rw [List.countP_cons] at h1
        have : 0 < r.countP (fun v => v == b) := List.countP_pos_iff.2 ⟨b, hb, by simp⟩
        simp at h1
        exact absurd rfl (h1 b hb)
      · have h1 := h a
        rw [List.countP_cons] at h1
        omega
  intro l h
  refine key fun a => ?_
  by_cases ha : a ∈ l
  · have := h a ha
    unfold countZ at this
    omega
  · have : l.countP (fun v => v == a) = 0 := by
      rw [List.countP_eq_zero]
      intro b hb e
      simp at e
      subst e
      exact ha hb
    omega
theorem nodup_count : ∀ {l : List Int} {a : Int}, l.Nodup → a ∈ l → countZ l a = 1
  | b :: r, a, h, ha => by
    rw [List.nodup_cons] at h
    unfold countZ
    rw [List.countP_cons]
    by_cases e : b = a
    · subst e
      have : r.countP (fun v => v == b) = 0 := by
        rw [List.countP_eq_zero]
        intro c hc e
        simp at e
        subst e
        exact h.1 hc
      rw [this]
      simp
    · have ha' : a ∈ r := by
        rcases List.mem_cons.1 ha with rfl | h
        · exact absurd rfl e
        · exact h
      have := nodup_count h.2 ha'
      unfold countZ at this
      have e2 : (b == a) = false := by simpa using e
      rw [e2]
      simpa using this
theorem count_mem {l : List Int} {a : Int} (h : countZ l a = 1) : a ∈ l := by
  unfold countZ at h
  have : 0 < l.countP (fun v => v == a) := by omega
  obtain ⟨b, hb, e⟩ := List.countP_pos_iff.1 this
  simp at e
  subst e
  exact hb
theorem nodup_le {l : List Int} (h : l.Nodup) (ht : ∀ a ∈ l, isW w a = true) : l.length ≤ w.parent.length - 1 := by
  refine pigeon (w.parent.length - 1) l.length (fun i => (l.getD i 0).toNat - 1) (fun i hi => ?_) fun i j hij hj e => ?_
  · have := isW_iff.1 (ht _ (getD_mem (d := 0) hi))
    show (l.getD i 0).toNat - 1 < _
    omega
  · have a := isW_iff.1 (ht _ (getD_mem (d := 0) (show i < l.length by omega)))
    have b := isW_iff.1 (ht _ (getD_mem (d := 0) hj))
    have e' : (l.getD i 0).toNat - 1 = (l.getD j 0).toNat - 1 := e
    have c : l.getD i 0 = l.getD j 0 := by omega
    have hp := List.pairwise_iff_getElem.1 h i j (by omega) hj hij
    simp [show i < l.length from by omega, hj] at c
    exact hp c
/-- Things are within things as they must be. -/
structure GoodW (w : WorldP) : Prop where
  up : ∀ x, isW w x = true → w.pz x = 0 ∨ isW w (w.pz x) = true
  last : ∀ x, isW w x = true → w.pz x = 0 → w.xz x = 0
  kids : ∀ i, isW w i = true → ∃ l : List Int, pathR w.xz (w.cz i) l ∧ l.Nodup ∧ ∀ a, a ∈ l ↔ isW w a = true ∧ w.pz a = i
  ends : ∀ x, isW w x = true → ∃ k, itN w.pz k x = 0
structure HeadW (w : WorldP) : Prop where
  pos : 1 ≤ w.parent.length
  child : w.child.length = w.parent.length
  next : w.next.length = w.parent.length
  p0 : w.pz 0 = 0
  c0 : w.cz 0 = 0
  x0 : w.xz 0 = 0
theorem head_iff : nestHead w = false ↔ HeadW w := by
  unfold nestHead
  simp only [Bool.or_eq_false_iff, decide_eq_false_iff_not, bne_eq_false_iff_eq]
  constructor
  · rintro ⟨⟨⟨⟨⟨h1, h2⟩, h3⟩, h4⟩, h5⟩, h6⟩
    exact ⟨by omega, by omega, by omega, h4, h5, h6⟩
  · rintro ⟨h1, h2, h3, h4, h5, h6⟩
    exact ⟨⟨⟨⟨⟨by omega, by omega⟩, by omega⟩, h4⟩, h5⟩, h6⟩
theorem isW_nat {k : Nat} (h : k < w.parent.length) (h0 : 0 < k) : isW w (k : Int) = true := isW_iff.2 ⟨by omega, by omega⟩
theorem it_W (hG : ∀ x, isW w x = true → w.pz x = 0 ∨ isW w (w.pz x) = true) (h0 : w.pz 0 = 0) {x : Int} (hx : isW w x = true) : ∀ i, itN w.pz i x = 0 ∨ isW w (itN w.pz i x) = true
  | 0 => .inr hx
  | i + 1 => by
    rcases it_W hG h0 hx i with h1 | h1
    · exact .inl (by show w.pz (itN w.pz i x) = 0; rw [h1, h0])
    · exact hG _ h1
/-- Whoever ends, ends soon. -/
theorem ends_soon (hG : ∀ x, isW w x = true → w.pz x = 0 ∨ isW w (w.pz x) = true) (h0 : w.pz 0 = 0) {x : Int} (hx : isW w x = true) (he : ∃ k, itN w.pz k x = 0) : ∃ d, d < w.parent.length ∧ itN w.pz d x = 0 ∧ ∀ j, j < d → isW w (itN w.pz j x) = true := by
  obtain ⟨k, e⟩ := he
  obtain ⟨d, hd, e1, h1⟩ := least (p := fun j => itN w.pz j x = 0) e
  have h2 : ∀ j, j < d → isW w (itN w.pz j x) = true := fun j hj => (it_W hG h0 hx j).resolve_left (h1 j hj)
  have hxb := isW_iff.1 hx
  refine ⟨d, ?_, e1, h2⟩
  have := pigeon (w.parent.length - 1) d (fun j => (itN w.pz j x).toNat - 1) (fun j hj => by
      have := isW_iff.1 (h2 j hj)
      show (itN w.pz j x).toNat - 1 < w.parent.length - 1
      omega) (fun i j hij hj e => by
      have a := isW_iff.1 (h2 i (by omega))
      have b := isW_iff.1 (h2 j hj)
      have c : itN w.pz i x = itN w.pz j x := by
        have : (itN w.pz i x).toNat - 1 = (itN w.pz j x).toNat - 1 := e
        omega
      have e2 : itN w.pz (d - (j - i)) x = 0 := by
        have a1 := itN_add w.pz j x (d - j)
        rw [show j + (d - j) = d from by omega, e1] at a1
        have a2 := itN_add w.pz i x (d - j)
        rw [c, ← a1] at a2
        rwa [show i + (d - j) = d - (j - i) from by omega] at a2
      exact h1 _ (by omega) e2)
  omega
theorem never_back (h0 : w.pz 0 = 0) {x : Int} (hx : x ≠ 0) {m : Nat} (hm : 0 < m) (hb : itN w.pz m x = x) : ∀ k, itN w.pz k x ≠ 0 := by
  have hper : ∀ q, itN w.pz (q * m) x = x := by
    intro q
    induction q with
    | zero => rw [Nat.zero_mul]; rfl
    | succ q ih => rw [Nat.succ_mul, itN_add, ih, hb]
  intro k hk
  have h1 : itN w.pz (k * m) x = 0 := by
    have : k ≤ k * m := Nat.le_mul_of_pos_right k hm
    rw [show k * m = k + (k * m - k) from by omega, itN_add, hk, itN_zero h0]
  exact hx (by rw [← hper k, h1])
theorem within_iff (y : Int) : ∀ (m : Nat) (x : Int), withinN w y m x = true ↔ ∃ k, k < m ∧ itN w.pz k x = y ∧ ∀ j, j ≤ k → isW w (itN w.pz j x) = true
  | 0, x => by simp [withinN]
  | m + 1, x => by
    unfold withinN
    cases hx : isW w x with
    | false =>
      rw [cond_false]
      refine ⟨fun h => by simp at h, fun ⟨k, _, _, h⟩ => ?_⟩
      have := h 0 (Nat.zero_le _)
      rw [show itN w.pz 0 x = x from rfl, hx] at this
      cases this
    | true =>
      rw [cond_true]
      cases hy : (x == y) with
      | true =>
        rw [cond_true]
        refine ⟨fun _ => ⟨0, by omega, by simpa [itN] using hy, fun j hj => ?_⟩, fun _ => rfl⟩
        obtain rfl : j = 0 := by omega
        exact hx
      | false =>
        rw [cond_false, within_iff y m]
        have hne : x ≠ y := by simpa using hy
        constructor
        · rintro ⟨k, hk, e, h⟩
          refine ⟨k + 1, by omega, by rw [show k + 1 = 1 + k from by omega, itN_add]; exact e, fun j hj => ?_⟩
          rcases j with _ | j
          · exact hx
          · rw [show j + 1 = 1 + j from by omega, itN_add]; exact h j (by omega)
        · rintro ⟨k, hk, e, h⟩
          rcases k with _ | k
          · exact absurd e hne
          · refine ⟨k, by omega, by rw [show k + 1 = 1 + k from by omega, itN_add] at e; exact e, fun j hj => ?_⟩
            have := h (j + 1) (by omega)
            rw [show j + 1 = 1 + j from by omega, itN_add] at this
            exact this
/-! ### The document's answer -/
theorem kids_eq (hH : HeadW w) {i : Int} (hi : isW w i = true) {l : List Int} (hp : pathR w.xz (w.cz i) l) (hn : l.Nodup) (ht : ∀ a ∈ l, isW w a = true) : kids w i = l := by
  have hb := isW_iff.1 hi
  have := hH.child
  unfold kids
  rw [hi, cond_true, show atZ w.child i = w.cz i from atZ_in (by omega) (by omega)]
  exact chN_of_path hH.next l _ _ hp ht (by have := nodup_le hn ht; omega)
theorem listed_of (hH : HeadW w) {i : Int} (hi : isW w i = true) (h : listedB w i = true) : pathR w.xz (w.cz i) (kids w i) ∧ (kids w i).Nodup ∧ (∀ a ∈ kids w i, isW w a = true ∧ w.pz a = i) := by
  unfold listedB at h
  simp only [Bool.and_eq_true, List.all_eq_true, List.mem_range, beq_iff_eq] at h
  obtain ⟨h1, h2⟩ := h
  have hb := isW_iff.1 hi
  have hc := hH.child
  have e : kids w i = chN w w.parent.length (w.cz i) := by
    unfold kids
    rw [hi, cond_true, show atZ w.child i = w.cz i from atZ_in (by omega) (by omega)]
  have ht : ∀ a ∈ kids w i, isW w a = true := fun a ha => by rw [e] at ha; exact chN_T _ _ a ha
  have each : ∀ a ∈ kids w i, w.pz a = i ∧ countZ (kids w i) a = 1 := fun a ha => by
    obtain ⟨j, hj, rfl⟩ := List.getElem_of_mem ha
    have := h1 j hj
    unfold listBad at this
    simp only [Bool.not_or, Bool.and_eq_true, Bool.not_eq_true', bne_eq_false_iff_eq] at this
    simpa [hj] using this
  have hn := count_nodup fun a ha => (each a ha).2
  refine ⟨?_, hn, fun a ha => ⟨ht a ha, (each a ha).1⟩⟩
  have hl := nodup_le hn ht
  have hf : finR w.xz (w.cz i) (kids w i) = 0 := by
    rw [finR_last]
    exact h2
  rw [e] at hl hf ⊢
  exact chN_path hH.next _ _ (by omega) hf
theorem doc_good (hH : HeadW w) (h : ∀ k, k < w.parent.length → 0 < k → nest1 w k = false ∧ nest2 w k = false) : GoodW w := by
  have hx : ∀ x, isW w x = true → nest1 w x = false ∧ nest2 w x = false := fun x hx => by
    have hb := isW_iff.1 hx
    have := h x.toNat (by omega) (by omega)
    rwa [show ((x.toNat : Nat) : Int) = x from by omega] at this
  have up : ∀ x, isW w x = true → w.pz x = 0 ∨ isW w (w.pz x) = true := fun x h1 => by
    have := (hx x h1).1
    unfold nest1 at this
    simp only [Bool.or_eq_false_iff, Bool.and_eq_false_iff, bne_eq_false_iff_eq, Bool.not_eq_false'] at this
    exact this.1.1
  have ls : ∀ x, isW w x = true → listedB w x = true := fun x h1 => by
    have := (hx x h1).1
    unfold nest1 at this
    simp only [Bool.or_eq_false_iff, Bool.not_eq_false'] at this
    exact this.2
  refine ⟨up, fun x h1 h2 => ?_, fun i h1 => ?_, fun x h1 => ?_⟩
  · have := (hx x h1).1
    unfold nest1 at this
    simp only [Bool.or_eq_false_iff, Bool.and_eq_false_iff, bne_eq_false_iff_eq, beq_eq_false_iff_ne] at this
    rcases this.1.2 with h3 | h3
    · exact absurd h2 h3
    · exact h3
  · obtain ⟨h2, h3, h4⟩ := listed_of hH h1 (ls i h1)
    refine ⟨_, h2, h3, fun a => ⟨fun ha => h4 a ha, fun ⟨h5, h6⟩ => ?_⟩⟩
    have := (hx a h5).2
    unfold nest2 at this
    rw [h6] at this
    simp only [Bool.or_eq_false_iff, Bool.and_eq_false_iff, bne_eq_false_iff_eq] at this
    have hb := isW_iff.1 h1
    rcases this.1 with h7 | h7
    · omega
    · exact count_mem h7
  · rcases Classical.em (∃ k, itN w.pz k x = 0) with h2 | h2
    · exact h2
    exfalso
    have hall : ∀ j, isW w (itN w.pz j x) = true := fun j => (it_W up hH.p0 h1 j).resolve_left fun e => h2 ⟨j, e⟩
    have hxb := isW_iff.1 h1
    have hrep : ∃ i j, i < j ∧ j < w.parent.length ∧ itN w.pz i x = itN w.pz j x := by
      rcases Classical.em (∃ i j, i < j ∧ j < w.parent.length ∧ itN w.pz i x = itN w.pz j x) with h3 | h3
      · exact h3
      exfalso
      have := pigeon (w.parent.length - 1) w.parent.length (fun j => (itN w.pz j x).toNat - 1) (fun j hj => by
          have := isW_iff.1 (hall j)
          show (itN w.pz j x).toNat - 1 < w.parent.length - 1
          omega) (fun i j hij hj e => by
          have a := isW_iff.1 (hall i)
          have b := isW_iff.1 (hall j)
          have e' : (itN w.pz i x).toNat - 1 = (itN w.pz j x).toNat - 1 := e
          exact h3 ⟨i, j, hij, hj, by omega⟩)
      omega
    obtain ⟨i, j, hij, hj, e⟩ := hrep
    have hy := hall i
    have := (hx _ hy).2
    unfold nest2 at this
    simp only [Bool.or_eq_false_iff, Bool.and_eq_false_iff] at this
    have hpy : isW w (w.pz (itN w.pz i x)) = true := hall (i + 1)
    rcases this.2 with h3 | h3
    · rw [hpy] at h3; cases h3
    · have h4 : withinN w (itN w.pz i x) w.parent.length (w.pz (itN w.pz i x)) = true := by
        rw [within_iff]
        refine ⟨j - i - 1, by omega, ?_, fun q hq => ?_⟩
        · have := itN_add w.pz (i + 1) x (j - i - 1)
          rw [show i + 1 + (j - i - 1) = j from by omega] at this
          exact this.symm.trans e.symm
        · have := itN_add w.pz (i + 1) x q
          have h5 := hall (i + 1 + q)
          rw [this] at h5
          exact h5
      rw [h4] at h3
      cases h3
theorem good_doc (hH : HeadW w) (hG : GoodW w) : ∀ k, k < w.parent.length → 0 < k → nest1 w k = false ∧ nest2 w k = false := by
  intro k hk h0
  have hx := isW_nat hk h0
  have hkids : ∀ i, isW w i = true → (kids w i).Nodup ∧ pathR w.xz (w.cz i) (kids w i) ∧ ∀ a, a ∈ kids w i ↔ isW w a = true ∧ w.pz a = i := fun i hi => by
    obtain ⟨l, h1, h2, h3⟩ := hG.kids i hi
    rw [kids_eq hH hi h1 h2 fun a ha => ((h3 a).1 ha).1]
    exact ⟨h2, h1, h3⟩
  constructor
  · unfold nest1
    simp only [Bool.or_eq_false_iff, Bool.and_eq_false_iff, bne_eq_false_iff_eq, beq_eq_false_iff_ne, Bool.not_eq_false']
    refine ⟨⟨hG.up _ hx, ?_⟩, ?_⟩
    · rcases Classical.em (w.pz k = 0) with h | h
      · exact .inr (hG.last _ hx h)
      · exact .inl h
    · obtain ⟨h1, h2, h3⟩ := hkids _ hx
      unfold listedB
      simp only [Bool.and_eq_true, List.all_eq_true, List.mem_range, beq_iff_eq]
      constructor
      · intro i hi
        have hm := getD_mem (d := (0 : Int)) hi
        unfold listBad
        rw [nodup_count h1 hm, ((h3 _).1 hm).2]
        simp
      · have : finR w.xz (w.cz k) (kids w k) = 0 := by
          have : ∀ (l : List Int) (c : Int), pathR w.xz c l → finR w.xz c l = 0 := by
            intro l
            induction l with
            | nil => intro c h; exact h
            | cons a r ih => intro c h; exact ih _ h.2
          exact this _ _ h2
        rw [finR_last] at this
        exact this
  · unfold nest2
    simp only [Bool.or_eq_false_iff, Bool.and_eq_false_iff, bne_eq_false_iff_eq]
    constructor
    · rcases hG.up _ hx with h | h
      · exact .inl h
      · obtain ⟨h1, h2, h3⟩ := hkids _ h
        exact .inr (nodup_count h1 ((h3 _).2 ⟨hx, rfl⟩))
    · cases hw : withinN w (k : Int) w.parent.length (w.pz k) with
      | false => exact .inr rfl
      | true =>
        exfalso
        obtain ⟨m, _, e, _⟩ := (within_iff _ _ _).1 hw
        obtain ⟨d, hd⟩ := hG.ends _ hx
        have := never_back hH.p0 (x := (k : Int)) (by omega) (m := m + 1) (by omega) (by rw [show m + 1 = 1 + m from by omega, itN_add]; exact e)
        exact this d hd
theorem rnested_iff : rnestedB w = true ↔ HeadW w ∧ GoodW w := by
  unfold rnestedB
  rw [Bool.and_eq_true, Bool.not_eq_true', head_iff, List.all_eq_true]
  constructor
  · rintro ⟨h1, h2⟩
    refine ⟨h1, doc_good h1 fun k hk h0 => ?_⟩
    have := h2 k (List.mem_range.2 hk)
    have e : decide (k = 0) = false := by simp; omega
    rw [e, Bool.false_or, Bool.and_eq_true, Bool.not_eq_true', Bool.not_eq_true'] at this
    exact this
  · rintro ⟨h1, h2⟩
    refine ⟨h1, fun k hk => ?_⟩
    rcases Nat.eq_zero_or_pos k with rfl | h0
    · rfl
    · have := good_doc h1 h2 k (List.mem_range.1 hk) h0
      rw [this.1, this.2]
      simp
/-! ### The given answer -/
theorem set_get {s : List Bool} {t x : Nat} (ht : t < s.length) : (s.set t true).getD x false = (s.getD x false || decide (x = t)) := by
  simp only [List.getD, List.getElem?_set]
  by_cases e : t = x
  · subst e; simp [ht]
  · rw [if_neg e]
    have : decide (x = t) = false := by simp; exact fun h => e h.symm
    rw [this, Bool.or_false]
theorem mark_some (hX : ∀ x, isW w x = true → w.xz x = 0 ∨ isW w (w.xz x) = true) (i : Int) : ∀ (m : Nat) (t : Int) (s s' : List Bool), s.length = w.parent.length → (t = 0 ∨ isW w t = true) → markN w i m t s = some s' →
    ∃ l : List Int, pathR w.xz t l ∧ l.Nodup ∧ (∀ a ∈ l, isW w a = true ∧ w.pz a = i ∧ s.getD a.toNat false = false) ∧ s'.length = w.parent.length ∧ ∀ x : Int, isW w x = true → s'.getD x.toNat false = (s.getD x.toNat false || decide (x ∈ l))
  | 0, t, s, s', _, _, h => by simp [markN] at h
  | m + 1, t, s, s', hs, ht, h => by
    unfold markN at h
    by_cases h0 : t = 0
    · rw [if_pos h0] at h
      injection h with h
      subst h
      exact ⟨[], h0, List.nodup_nil, by simp, hs, fun x _ => by simp⟩
    · rw [if_neg h0] at h
      have hT := ht.resolve_left h0
      have hb := isW_iff.1 hT
      by_cases h1 : (s.getD t.toNat false || w.pz t != i) = true
      · rw [if_pos h1] at h; cases h
      · rw [if_neg h1] at h
        simp only [Bool.or_eq_true, not_or, Bool.not_eq_true, bne_iff_ne, ne_eq, Decidable.not_not] at h1
        obtain ⟨l, h2, h3, h4, h5, h6⟩ := mark_some hX i m _ _ _ (by rw [List.length_set]; exact hs) (hX t hT) h
        have hne : ∀ a ∈ l, a ≠ t := fun a ha e => by
          have := (h4 a ha).2.2
          rw [set_get (by omega), e] at this
          simp at this
        refine ⟨t :: l, ⟨rfl, h2⟩, List.nodup_cons.2 ⟨fun ht => hne t ht rfl, h3⟩, fun a ha => ?_, h5, fun x hx => ?_⟩
        · rcases List.mem_cons.1 ha with rfl | ha
          · exact ⟨hT, h1.2, h1.1⟩
          · obtain ⟨k1, k2, k3⟩ := h4 a ha
            rw [set_get (by omega)] at k3
            exact ⟨k1, k2, (Bool.or_eq_false_iff.1 k3).1⟩
        · have hbx := isW_iff.1 hx
          rw [h6 x hx, set_get (by omega), Bool.or_assoc]
          congr 1
          rw [Bool.eq_iff_iff]
          simp only [Bool.or_eq_true, decide_eq_true_eq, List.mem_cons]
          constructor
          · rintro (h | h)
            · exact .inl (by omega)
            · exact .inr h
          · rintro (rfl | h)
            · exact .inl rfl
            · exact .inr h
theorem mark_path (i : Int) : ∀ (l : List Int) (m : Nat) (t : Int) (s : List Bool), s.length = w.parent.length → pathR w.xz t l → l.Nodup → (∀ a ∈ l, isW w a = true ∧ w.pz a = i ∧ s.getD a.toNat false = false) → l.length < m →
    ∃ s', markN w i m t s = some s' ∧ s'.length = w.parent.length ∧ ∀ x : Int, isW w x = true → s'.getD x.toNat false = (s.getD x.toNat false || decide (x ∈ l))
  | [], m + 1, t, s, hs, hp, _, _, _ => by
    refine ⟨s, ?_, hs, fun x _ => by simp⟩
    unfold markN
    rw [if_pos (show t = 0 from hp)]
  | a :: r, m + 1, t, s, hs, hp, hn, ha, hl => by
    obtain ⟨rfl, hp⟩ := hp
    rw [List.nodup_cons] at hn
    obtain ⟨h1, h2, h3⟩ := ha t (by simp)
    have hb := isW_iff.1 h1
    obtain ⟨s', k1, k2, k3⟩ := mark_path i r m (w.xz t) (s.set t.toNat true) (by rw [List.length_set]; exact hs) hp hn.2 (fun b hb' => by
      obtain ⟨q1, q2, q3⟩ := ha b (by simp [hb'])
      have hbb := isW_iff.1 q1
      refine ⟨q1, q2, ?_⟩
      rw [set_get (by omega), q3, Bool.false_or]
      simp only [decide_eq_false_iff_not]
      intro e
      have : b = t := by omega
      subst this
      exact hn.1 hb') (by simpa using hl)
    refine ⟨s', ?_, k2, fun x hx => ?_⟩
    · unfold markN
      rw [if_neg (show ¬ t = 0 by omega), if_neg (by rw [h2, h3]; simp)]
      exact k1
    · have hbx := isW_iff.1 hx
      rw [k3 x hx, set_get (by omega), Bool.or_assoc]
      congr 1
      rw [Bool.eq_iff_iff]
      simp only [Bool.or_eq_true, decide_eq_true_eq, List.mem_cons]
      constructor
      · rintro (h | h)
        · exact .inl (by omega)
        · exact .inr h
      · rintro (rfl | h)
        · exact .inl rfl
        · exact .inr h
theorem getZ_mem {l : List Int} {x : Int} (h0 : 0 ≤ x) (h : x < l.length) : getZ l x ∈ l := getD_mem (by omega)
theorem inR_get {l : List Int} (h : inR w l = true) {x : Int} (h0 : 0 ≤ x) (hx : x < l.length) : getZ l x = 0 ∨ isW w (getZ l x) = true := by
  unfold inR at h
  have := among_iff.1 (List.all_eq_true.1 h _ (getZ_mem h0 hx))
  by_cases e : getZ l x = 0
  · exact .inl e
  · exact .inr (isW_iff.2 ⟨by omega, by omega⟩)
theorem inR_of {l : List Int} (hl : l.length = w.parent.length) (hp : 1 ≤ w.parent.length) (h0 : getZ l 0 = 0) (h : ∀ x, isW w x = true → getZ l x = 0 ∨ isW w (getZ l x) = true) : inR w l = true := by
  unfold inR
  refine all_of (d := 0) fun j hj => ?_
  rw [among_iff]
  have e : l.getD j 0 = getZ l (j : Int) := by simp [getZ]
  rw [e]
  rcases Nat.eq_zero_or_pos j with rfl | hp
  · rw [show ((0 : Nat) : Int) = 0 from rfl, h0]
    omega
  · rcases h (j : Int) (isW_nat (by omega) hp) with h1 | h1
    · rw [h1]; omega
    · have := isW_iff.1 h1; omega
theorem mk_some (hH : HeadW w) (hC : inR w w.child = true) (hX : inR w w.next = true) : ∀ (k : Nat) (s : List Bool), k < w.parent.length → mkN w k = some s → s.length = w.parent.length ∧
    (∀ i : Nat, 0 < i → i ≤ k → ∃ l : List Int, pathR w.xz (w.cz i) l ∧ l.Nodup ∧ (∀ a ∈ l, isW w a = true ∧ w.pz a = i) ∧ ∀ a ∈ l, s.getD a.toNat false = true) ∧ (∀ x : Int, isW w x = true → s.getD x.toNat false = true → ∃ i : Nat, 0 < i ∧ i ≤ k ∧ w.pz x = i ∧ ∀ l : List Int, pathR w.xz (w.cz i) l → x ∈ l)
  | 0, s, _, h => by
    unfold mkN at h
    injection h with h
    subst h
    refine ⟨by simp, fun i h1 h2 => by omega, fun x hx h => ?_⟩
    have hb := isW_iff.1 hx
    simp [List.getD, List.getElem?_replicate] at h
    split at h <;> simp at h
  | k + 1, s, hk, h => by
    unfold mkN at h
    obtain ⟨s0, h1, h2⟩ := Option.bind_eq_some_iff.1 h
    obtain ⟨q1, q2, q3⟩ := mk_some hH hC hX k s0 (by omega) h1
    have hxx : ∀ x, isW w x = true → w.xz x = 0 ∨ isW w (w.xz x) = true := fun x hx => by
      have hb := isW_iff.1 hx
      have := hH.next
      exact inR_get hX (by omega) (by omega)
    have hc1 : w.cz ((k + 1 : Nat) : Int) = 0 ∨ isW w (w.cz ((k + 1 : Nat) : Int)) = true := inR_get hC (by omega) (by have := hH.child; omega)
    obtain ⟨l, r1, r2, r3, r4, r5⟩ := mark_some hxx _ _ _ _ _ q1 hc1 h2
    have uniq : ∀ (l l' : List Int) (c : Int), pathR w.xz c l → pathR w.xz c l' → (∀ a ∈ l, isW w a = true) → (∀ x, x ∈ l → x ∈ l') := by
      intro l
      induction l with
      | nil => intro l' c _ _ _ x hx; simp at hx
      | cons a r ih =>
        intro l' c h1 h2 h3 x hx
        obtain ⟨rfl, h1⟩ := h1
        have hb := isW_iff.1 (h3 c (by simp))
        cases l' with
        | nil => have : c = 0 := h2; omega
        | cons b r' =>
          obtain ⟨rfl, h2⟩ := h2
          rcases List.mem_cons.1 hx with rfl | hx
          · simp
          · exact List.mem_cons_of_mem _ (ih r' _ h1 h2 (fun a ha => h3 a (by simp [ha])) x hx)
    refine ⟨r4, fun i hi1 hi2 => ?_, fun x hx hs => ?_⟩
    · rcases Nat.lt_or_ge i (k + 1) with h3 | h3
      · obtain ⟨l', a1, a2, a3, a4⟩ := q2 i hi1 (by omega)
        exact ⟨l', a1, a2, a3, fun a ha => by rw [r5 a (a3 a ha).1, a4 a ha, Bool.true_or]⟩
      · obtain rfl : i = k + 1 := by omega
        exact ⟨l, r1, r2, fun a ha => ⟨(r3 a ha).1, (r3 a ha).2.1⟩, fun a ha => by rw [r5 a (r3 a ha).1]; simp [ha]⟩
    · rw [r5 x hx, Bool.or_eq_true] at hs
      rcases hs with hs | hs
      · obtain ⟨i, a1, a2, a3, a4⟩ := q3 x hx hs
        exact ⟨i, a1, by omega, a3, a4⟩
      · have hm : x ∈ l := by simpa using hs
        exact ⟨k + 1, by omega, Nat.le_refl _, (r3 x hm).2.1, fun l' hl' => uniq l l' _ r1 hl' (fun a ha => (r3 a ha).1) x hm⟩
theorem fast_good (hH : HeadW w) (hP : inR w w.parent = true) (hC : inR w w.child = true) (hX : inR w w.next = true) {s : List Bool} (hm : mkN w (w.parent.length - 1) = some s) (hf : ∀ x, x < w.parent.length → 0 < x → finBad w s x = false) : GoodW w := by
  have hp := hH.pos
  obtain ⟨h1, h2, h3⟩ := mk_some hH hC hX _ s (by omega) hm
  have hF : ∀ x, isW w x = true → s.getD x.toNat false = (w.pz x != 0) ∧ (s.getD x.toNat false = true ∨ w.xz x = 0) ∧ topN w.pz w.parent.length x ≠ 0 := fun x hx => by
    have hb := isW_iff.1 hx
    have := hf x.toNat (by omega) (by omega)
    unfold finBad at this
    rw [show ((x.toNat : Nat) : Int) = x from by omega] at this
    simp only [Bool.or_eq_false_iff, bne_eq_false_iff_eq, Bool.and_eq_false_iff, Bool.not_eq_false', beq_eq_false_iff_ne] at this
    exact ⟨this.1.1, this.1.2, this.2⟩
  have hup : ∀ x, isW w x = true → w.pz x = 0 ∨ isW w (w.pz x) = true := fun x hx => by
    have hb := isW_iff.1 hx
    exact inR_get hP (by omega) (by omega)
  refine ⟨hup, fun x hx h0 => ?_, fun i hi => ?_, fun x hx => ?_⟩
  · obtain ⟨a, b, _⟩ := hF x hx
    rw [h0] at a
    rcases b with b | b
    · rw [b] at a; simp at a
    · exact b
  · have hb := isW_iff.1 hi
    obtain ⟨l, a1, a2, a3, a4⟩ := h2 i.toNat (by omega) (by omega)
    rw [show ((i.toNat : Nat) : Int) = i from by omega] at a1 a3
    refine ⟨l, a1, a2, fun a => ⟨fun ha => a3 a ha, fun ⟨k1, k2⟩ => ?_⟩⟩
    obtain ⟨b1, _, _⟩ := hF a k1
    have : s.getD a.toNat false = true := by rw [b1, k2]; simp; omega
    obtain ⟨j, c1, c2, c3, c4⟩ := h3 a k1 this
    have : (j : Int) = i := by omega
    exact c4 l (by rw [this]; exact a1)
  · have hb := isW_iff.1 hx
    obtain ⟨i, hi, e⟩ := (topN_iff (f := w.pz) w.parent.length x (by omega)).1 (hF x hx).2.2
    exact ⟨i + 1, e⟩
theorem good_fast (hH : HeadW w) (hG : GoodW w) : inR w w.parent = true ∧ inR w w.child = true ∧ inR w w.next = true ∧ ∃ s, mkN w (w.parent.length - 1) = some s ∧ ∀ x, x < w.parent.length → 0 < x → finBad w s x = false := by
  have hp := hH.pos
  have hmk : ∀ k, k < w.parent.length → ∃ s, mkN w k = some s ∧ s.length = w.parent.length ∧ ∀ x : Int, isW w x = true → s.getD x.toNat false = decide (1 ≤ w.pz x ∧ w.pz x ≤ k) := by
    intro k
    induction k with
    | zero =>
      intro _
      refine ⟨_, rfl, by simp, fun x hx => ?_⟩
      have hb := isW_iff.1 hx
      have : decide (1 ≤ w.pz x ∧ w.pz x ≤ ((0 : Nat) : Int)) = false := by simp; omega
      rw [this]
      simp [List.getD, List.getElem?_replicate]
      split <;> rfl
    | succ k ih =>
      intro hk
      obtain ⟨s, h1, h2, h3⟩ := ih (by omega)
      obtain ⟨l, a1, a2, a3⟩ := hG.kids _ (isW_nat hk (by omega))
      have hin : ∀ a ∈ l, isW w a = true := fun a ha => ((a3 a).1 ha).1
      obtain ⟨s', b1, b2, b3⟩ := mark_path (((k + 1 : Nat) : Int)) l (w.parent.length + 1) (w.cz ((k + 1 : Nat) : Int)) s h2 a1 a2 (fun a ha => by
        obtain ⟨c1, c2⟩ := (a3 a).1 ha
        refine ⟨c1, c2, ?_⟩
        rw [h3 a c1, c2]
        simp
        omega) (by have := nodup_le a2 hin; omega)
      refine ⟨s', ?_, b2, fun x hx => ?_⟩
      · unfold mkN
        rw [h1]
        exact b1
      · rw [b3 x hx, h3 x hx, Bool.eq_iff_iff]
        simp only [Bool.or_eq_true, decide_eq_true_eq]
        rw [a3 x]
        constructor
        · rintro (h | h)
          · omega
          · have := h.2; omega
        · intro h
          by_cases e : w.pz x = ((k + 1 : Nat) : Int)
          · exact .inr ⟨hx, e⟩
          · exact .inl (by omega)
  have hpath : ∀ (l : List Int) (c : Int), pathR w.xz c l → (∀ a ∈ l, isW w a = true) → (c = 0 ∨ isW w c = true) ∧ ∀ a ∈ l, w.xz a = 0 ∨ isW w (w.xz a) = true := by
    intro l
    induction l with
    | nil => intro c h _; exact ⟨.inl h, by simp⟩
    | cons b r ih =>
      intro c h ha
      obtain ⟨rfl, h⟩ := h
      obtain ⟨k1, k2⟩ := ih _ h fun a h => ha a (by simp [h])
      refine ⟨.inr (ha c (by simp)), fun a h => ?_⟩
      rcases List.mem_cons.1 h with rfl | h
      · exact k1
      · exact k2 a h
  refine ⟨inR_of rfl hp hH.p0 hG.up, inR_of hH.child hp hH.c0 fun x hx => ?_, inR_of hH.next hp hH.x0 fun x hx => ?_, ?_⟩
  · obtain ⟨l, a1, a2, a3⟩ := hG.kids x hx
    exact (hpath l _ a1 fun a ha => ((a3 a).1 ha).1).1
  · rcases hG.up x hx with h | h
    · exact .inl (hG.last x hx h)
    · obtain ⟨l, a1, a2, a3⟩ := hG.kids _ h
      exact (hpath l _ a1 fun a ha => ((a3 a).1 ha).1).2 x ((a3 x).2 ⟨hx, rfl⟩)
  · obtain ⟨s, h1, h2, h3⟩ := hmk (w.parent.length - 1) (by omega)
    refine ⟨s, h1, fun x hx h0 => ?_⟩
    have hW := isW_nat hx h0
    have hs := h3 _ hW
    rw [show ((x : Int)).toNat = x from by omega] at hs
    have hb : w.pz x = 0 ∨ (1 ≤ w.pz x ∧ w.pz x < w.parent.length) := by
      rcases hG.up _ hW with h | h
      · exact .inl h
      · exact .inr (isW_iff.1 h)
    have hsv : s.getD x false = (w.pz x != 0) := by
      rw [hs, Bool.eq_iff_iff]
      simp only [decide_eq_true_eq, bne_iff_ne]
      omega
    unfold finBad
    simp only [Bool.or_eq_false_iff, bne_eq_false_iff_eq, Bool.and_eq_false_iff, Bool.not_eq_false', beq_eq_false_iff_ne]
    refine ⟨⟨hsv, ?_⟩, ?_⟩
    · rcases hb with h | h
      · exact .inr (hG.last _ hW h)
      · exact .inl (by rw [hsv]; simp; omega)
    · rw [topN_iff _ _ (by omega)]
      obtain ⟨d, hd, e, _⟩ := ends_soon hG.up hH.p0 hW (hG.ends _ hW)
      rcases d with _ | d
      · exact absurd (show (x : Int) = 0 from e) (by omega)
      · exact ⟨d, by omega, e⟩
theorem nested_iff : nestedB w = true ↔ HeadW w ∧ GoodW w := by
  unfold nestedB
  rw [Bool.and_eq_true, Bool.and_eq_true, Bool.not_eq_true', head_iff, Bool.and_eq_true, Bool.and_eq_true]
  constructor
  · rintro ⟨⟨h1, ⟨h2, h3⟩, h4⟩, h5⟩
    refine ⟨h1, ?_⟩
    cases hm : mkN w (w.parent.length - 1) with
    | none => rw [hm] at h5; cases h5
    | some s =>
      rw [hm] at h5
      simp only [List.all_eq_true, List.mem_range] at h5
      refine fast_good h1 h2 h3 h4 hm fun x hx h0 => ?_
      have := h5 x hx
      have e : decide (x = 0) = false := by simp; omega
      rw [e, Bool.false_or, Bool.not_eq_true'] at this
      exact this
  · rintro ⟨h1, h2⟩
    obtain ⟨k1, k2, k3, s, k4, k5⟩ := good_fast h1 h2
    refine ⟨⟨h1, ⟨k1, k2⟩, k3⟩, ?_⟩
    rw [k4]
    simp only [List.all_eq_true, List.mem_range]
    intro x hx
    rcases Nat.eq_zero_or_pos x with rfl | h0
    · rfl
    · rw [k5 x hx h0]; simp
theorem nested_eq (w : WorldP) : nestedB w = rnestedB w := by rw [Bool.eq_iff_iff, nested_iff, rnested_iff]
end
end Go.Proofs.Ytjloemlnejndmaa
