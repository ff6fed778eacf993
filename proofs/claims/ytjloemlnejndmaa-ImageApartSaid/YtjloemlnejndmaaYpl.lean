/- What the document's tests of tables answer, in plain words. No program stands in this text. The given tables' test and the document's answer alike. No program stands in this text. -/
import Derived.Test.YtjloemlnejndmaaIsp
namespace Go.Proofs.Ytjloemlnejndmaa
open Go.RowKit
set_option linter.unusedVariables false

def bitsZ (n : Int) : Int := 2 ^ (min n.toNat 16)
theorem pow_bd {k : Nat} (h : k ≤ 16) : 0 < (2 : Int) ^ k ∧ (2 : Int) ^ k ≤ 65536 := by
  have h1 : (2 : Int) ^ k ≤ 2 ^ 16 := by
    have : (2 : Nat) ^ k ≤ 2 ^ 16 := Nat.pow_le_pow_right (by decide) h
    exact_mod_cast this
  have h2 : 0 < (2 : Int) ^ k := Int.pow_pos (by decide)
  exact ⟨h2, by simpa using h1⟩
theorem bits_bd (n : Int) : 0 < bitsZ n ∧ bitsZ n ≤ 65536 := pow_bd (Nat.min_le_right _ _)
theorem pow_step (k : Nat) : (2 : Int) ^ (k + 1) = 2 * 2 ^ k := by rw [Int.pow_succ, Int.mul_comm]
def rh1 (t : TabP) : Bool := decide ((t.texts.length : Int) > 4096) || !(textB t t.title || (false && t.title == -1)) || !(textB t t.by_ || (false && t.by_ == -1)) || !among t.release 0 32767 || !among t.max 0 32767 || !among t.flags 4 16
def rh2 (t : TabP) : Bool := decide ((t.props.length : Int) > 16) || decide ((t.globals.length : Int) > 64) || !t.props.all isV16 || !t.globals.all isV16 || (t.params.length : Int) != t.locals.length || decide ((t.params.length : Int) > 2048)
def rheadB (t : TabP) : Bool := !rh1 t && !rh2 t && t.texts.all isTextS && (List.range t.params.length).all fun k => !rtBad t k
def roomN (t : TabP) : Nat → Int → Bool
  | 0, _ => false
  | m + 1, x => bif thingB t x then (bif (t.at_ x).room then true else roomN t m (upT t x)) else false
theorem roomN_step {t : TabP} {M k : Nat} {x : Int} (hk : k < M) (h : roomN t M x = roomN t (M - k) (itN (upT t) k x)) : roomN t M x = bif thingB t (itN (upT t) k x) then (bif (t.at_ (itN (upT t) k x)).room then true else roomN t (M - (k + 1)) (itN (upT t) (k + 1) x)) else false := by
  rw [h, show M - k = (M - (k + 1)) + 1 from by omega]
  rfl
def endsN (t : TabP) : Nat → Int → Bool
  | 0, _ => false
  | m + 1, x => if x = 0 then true else endsN t m (upT t x)
theorem endsN_step {t : TabP} {M k : Nat} {x : Int} (hk : k < M) (h : endsN t M x = endsN t (M - k) (itN (upT t) k x)) : endsN t M x = if itN (upT t) k x = 0 then true else endsN t (M - (k + 1)) (itN (upT t) (k + 1) x) := by
  rw [h, show M - k = (M - (k + 1)) + 1 from by omega]
  rfl
def rwayBad (t : TabP) (l : List WayP) (k : Nat) : Bool := !among (l.getD k dWay).dir 1 12 || (decide ((k : Int) > 0) && decide ((l.getD k dWay).dir ≤ (l.getD (k - 1) dWay).dir)) || !thingB t (l.getD k dWay).goal || !(t.at_ (l.getD k dWay).goal).room || !((true && (l.getD k dWay).cond == -1) || freeB t (l.getD k dWay).cond) || !(textB t (l.getD k dWay).els || (true && (l.getD k dWay).els == -1))
def rwaysB (t : TabP) (l : List WayP) : Bool := (List.range l.length).all fun k => !rwayBad t l k
def rtHeadB (t : TabP) : Bool := !among t.things.length 3 128 || !rnothingB t (t.things.getD 0 dThing) || (t.things.getD 1 dThing).room
def rth1 (t : TabP) (x : ThingP) : Bool := !(textB t x.title || (false && x.title == -1)) || !(textB t x.text || (true && x.text == -1)) || !among x.flags 0 (bitsZ t.flags - 1) || (x.props.length : Int) != t.props.length || !x.props.all isV16 || !wordsB x.words 8 || !wordsB x.adjs 8
def rth2 (t : TabP) (x : ThingP) : Bool := (x.parent != 0 && !thingB t x.parent) || (x.room && x.parent != 0) || (!x.room && decide ((x.ways.length : Int) > 0)) || !rwaysB t x.ways
def rthOk (t : TabP) (k : Nat) : Bool := decide (k = 0) || (!rth1 t (t.things.getD k dThing) && !rth2 t (t.things.getD k dThing))
def rthingsB (t : TabP) : Bool := !rtHeadB t && ((List.range t.things.length).all (rthOk t)) && ((List.range t.things.length).all fun k => decide (k = 0) || endsN t t.things.length k) && roomN t t.things.length 1
def rslotBad (l : List SlotP) (k : Nat) : Bool := !among (l.getD k dSlot).kind 1 5 || ((l.getD k dSlot).kind == 1 && ((l.getD k dSlot).words.length : Int) == 0) || ((l.getD k dSlot).kind != 1 && decide (((l.getD k dSlot).words.length : Int) > 0)) || !wordsB (l.getD k dSlot).words 4
def rlineB (l : List SlotP) : Bool := ((List.range l.length).all fun k => !rslotBad l k) && (among l.length 1 8 && ((l.getD 0 dSlot).kind == 1 || (l.getD 0 dSlot).kind == 5) && decide (cntK isNoun l l.length ≤ 2) && decide (cntK (fun k => k == 4) l l.length ≤ 1) && decide (cntK (fun k => k == 5) l l.length ≤ 1))
def rdeedBad (t : TabP) (d : DeedP) : Bool := !among d.verb 0 ((t.acts.length : Int) - 1) || !among d.phase 1 3 || (d.noun != -1 && !thingB t d.noun) || (d.second != -1 && !thingB t d.second) || !((true && d.cond == -1) || freeB t d.cond) || !((false && d.body == -1) || freeB t d.body)
def rrHead (t : TabP) : Bool := decide ((t.acts.length : Int) > 64) || decide ((t.deeds.length : Int) > 512) || decide ((t.funcs.length : Int) > 64) || decide ((t.daemons.length : Int) > 16)
def rverbOk (v : VerbP) : Bool := among v.lines.length 1 8 && v.lines.all rlineB
def rrulesB (t : TabP) : Bool := !rrHead t && t.acts.all rverbOk && t.deeds.all (fun d => !rdeedBad t d) && t.funcs.all (fun n => among n 0 ((t.params.length : Int) - 1)) && t.daemons.all (fun n => (false && n == -1) || freeB t n)
def rfitsB (t : TabP) : Bool := rheadB t && rthingsB t && rrulesB t
theorem rth_parent {t : TabP} {k : Nat} (h : rthOk t k = true) (h0 : 0 < k) : (t.things.getD k dThing).parent = 0 ∨ thingB t (t.things.getD k dThing).parent = true := by
  unfold rthOk rth2 at h
  rw [Bool.or_eq_true] at h
  rcases h with h | h
  · simp at h; omega
  · simp only [Bool.and_eq_true, Bool.not_eq_true', Bool.or_eq_false_iff, Bool.and_eq_false_iff] at h
    rcases h.2.1.1.1 with h1 | h1
    · exact .inl (by simpa using h1)
    · exact .inr (by simpa using h1)
def RLed (t : TabP) : Prop := ∀ k, k < t.things.length → 0 < k → (t.things.getD k dThing).parent = 0 ∨ thingB t (t.things.getD k dThing).parent = true
theorem rled_up {t : TabP} (h : RLed t) {n : Int} (hn : thingB t n = true) : upT t n = 0 ∨ thingB t (upT t n) = true := by
  have h1 := among_iff.1 (show among n 1 _ = true from hn)
  exact h n.toNat (by omega) (by omega)
theorem rled_it {t : TabP} (h : RLed t) {n : Int} (hn : n = 0 ∨ thingB t n = true) (h2 : n ≠ 0) : upT t n = 0 ∨ thingB t (upT t n) = true := rled_up h (hn.resolve_left h2)
end Go.Proofs.Ytjloemlnejndmaa
namespace Go.Proofs.Ytjloemlnejndmaa
open Go.RowKit
set_option linter.unusedVariables false

theorem pigeon : ∀ (n m : Nat) (g : Nat → Nat), (∀ i, i < m → g i < n) → (∀ i j, i < j → j < m → g i ≠ g j) → m ≤ n
  | 0, m, g, h1, h2 => by
    rcases Nat.eq_zero_or_pos m with h | h
    · omega
    · have := h1 0 h; omega
  | n + 1, m, g, h1, h2 => by
    rcases Nat.eq_zero_or_pos m with h | h
    · omega
    by_cases hl : ∃ k, k < m ∧ g k = n
    · obtain ⟨k, hk, hg⟩ := hl
      have := pigeon n (m - 1) (fun i => if i < k then g i else g (i + 1)) (fun i hi => by
          show (if i < k then g i else g (i + 1)) < n
          by_cases hik : i < k
          · rw [if_pos hik]
            have a := h1 i (by omega)
            have b := h2 i k hik hk
            omega
          · rw [if_neg hik]
            have a := h1 (i + 1) (by omega)
            have b := h2 k (i + 1) (by omega) (by omega)
            omega) (fun i j hij hj => by
          show (if i < k then g i else g (i + 1)) ≠ (if j < k then g j else g (j + 1))
          by_cases h3 : i < k <;> by_cases h4 : j < k
          · rw [if_pos h3, if_pos h4]; exact h2 i j hij (by omega)
          · rw [if_pos h3, if_neg h4]; exact h2 i (j + 1) (by omega) (by omega)
          · omega
          · rw [if_neg h3, if_neg h4]; exact h2 (i + 1) (j + 1) (by omega) (by omega))
      omega
    · have := pigeon n m g (fun i hi => by
        have a := h1 i hi
        have b : g i ≠ n := fun e => hl ⟨i, hi, e⟩
        omega) h2
      omega
theorem itN_add (f : Int → Int) (a : Nat) (x : Int) : ∀ b, itN f (a + b) x = itN f b (itN f a x)
  | 0 => rfl
  | b + 1 => by show f (itN f (a + b) x) = _; rw [itN_add f a x b]; rfl
theorem itN_zero {f : Int → Int} (h : f 0 = 0) : ∀ b, itN f b 0 = 0
  | 0 => rfl
  | b + 1 => by show f (itN f b 0) = 0; rw [itN_zero h b, h]
theorem topN_iff {f : Int → Int} : ∀ (m : Nat) (x : Int), x ≠ 0 → (topN f m x ≠ 0 ↔ ∃ i, i < m ∧ itN f (i + 1) x = 0)
  | 0, x, hx => by simp [topN]
  | m + 1, x, hx => by
    unfold topN
    by_cases h : f x = 0
    · rw [if_pos h]
      exact ⟨fun _ => ⟨0, by omega, h⟩, fun _ => hx⟩
    · rw [if_neg h, topN_iff m (f x) h]
      constructor
      · rintro ⟨i, hi, e⟩
        exact ⟨i + 1, by omega, by rw [show i + 1 + 1 = 1 + (i + 1) from by omega, itN_add]; exact e⟩
      · rintro ⟨i, hi, e⟩
        rcases i with _ | i
        · exact absurd e h
        · exact ⟨i, by omega, by rw [show i + 1 + 1 = 1 + (i + 1) from by omega, itN_add] at e; exact e⟩
theorem endsN_iff (t : TabP) : ∀ (m : Nat) (x : Int), endsN t m x = true ↔ ∃ i, i < m ∧ itN (upT t) i x = 0
  | 0, x => by simp [endsN]
  | m + 1, x => by
    unfold endsN
    by_cases h : x = 0
    · rw [if_pos h]
      exact ⟨fun _ => ⟨0, by omega, h⟩, fun _ => rfl⟩
    · rw [if_neg h, endsN_iff t m]
      constructor
      · rintro ⟨i, hi, e⟩
        exact ⟨i + 1, by omega, by rw [show i + 1 = 1 + i from by omega, itN_add]; exact e⟩
      · rintro ⟨i, hi, e⟩
        rcases i with _ | i
        · exact absurd e h
        · exact ⟨i, by omega, by rw [show i + 1 = 1 + i from by omega, itN_add] at e; exact e⟩
theorem it_thing {t : TabP} (h : RLed t) (h0 : upT t 0 = 0) {x : Int} (hx : thingB t x = true) : ∀ i, itN (upT t) i x = 0 ∨ thingB t (itN (upT t) i x) = true
  | 0 => .inr hx
  | i + 1 => by
    rcases it_thing h h0 hx i with h1 | h1
    · exact .inl (by show upT t (itN (upT t) i x) = 0; rw [h1, h0])
    · exact rled_up h h1
theorem least {p : Nat → Prop} [DecidablePred p] : ∀ {n : Nat}, p n → ∃ m, m ≤ n ∧ p m ∧ ∀ j, j < m → ¬ p j
  | 0, h => ⟨0, Nat.le_refl _, h, fun j hj => absurd hj (by omega)⟩
  | n + 1, h => by
    by_cases hp : ∃ k, k < n + 1 ∧ p k
    · obtain ⟨k, hk, hpk⟩ := hp
      obtain ⟨m, h1, h2, h3⟩ := least hpk
      exact ⟨m, by omega, h2, h3⟩
    · exact ⟨n + 1, Nat.le_refl _, h, fun j hj hpj => hp ⟨j, hj, hpj⟩⟩
  termination_by n => n
theorem ends_eq {t : TabP} (h : RLed t) (h0 : upT t 0 = 0) {x : Int} (hx : thingB t x = true) : (topN (upT t) t.things.length x != 0) = endsN t t.things.length x := by
  have hxb := among_iff.1 (show among x 1 _ = true from hx)
  rw [Bool.eq_iff_iff, bne_iff_ne, topN_iff _ _ (by omega), endsN_iff]
  constructor
  · rintro ⟨i, hi, e⟩
    obtain ⟨d, hd, e1, h1⟩ := least (p := fun j => itN (upT t) j x = 0) e
    refine ⟨d, ?_, e1⟩
    have h2 : ∀ j, j < d → thingB t (itN (upT t) j x) = true := fun j hj => (it_thing h h0 hx j).resolve_left (h1 j hj)
    have := pigeon (t.things.length - 1) d (fun j => (itN (upT t) j x).toNat - 1) (fun j hj => by
        have := among_iff.1 (show among _ 1 _ = true from h2 j hj)
        show (itN (upT t) j x).toNat - 1 < t.things.length - 1
        omega) (fun i j hij hj e => by
        have a := among_iff.1 (show among _ 1 _ = true from h2 i (by omega))
        have b := among_iff.1 (show among _ 1 _ = true from h2 j hj)
        have c : itN (upT t) i x = itN (upT t) j x := by
          have : (itN (upT t) i x).toNat - 1 = (itN (upT t) j x).toNat - 1 := e
          omega
        have e2 : itN (upT t) (d - (j - i)) x = 0 := by
          have a1 := itN_add (upT t) j x (d - j)
          rw [show j + (d - j) = d from by omega, e1] at a1
          have a2 := itN_add (upT t) i x (d - j)
          rw [c, ← a1] at a2
          rwa [show i + (d - j) = d - (j - i) from by omega] at a2
        exact h1 _ (by omega) e2)
    omega
  · rintro ⟨i, hi, e⟩
    rcases i with _ | i
    · exact absurd (show x = 0 from e) (by omega)
    · exact ⟨i, by omega, e⟩
theorem thing_zero (t : TabP) : thingB t 0 = false := by simp [thingB, among]
theorem roomN_zero (t : TabP) (m : Nat) : roomN t m 0 = false := by
  cases m with
  | zero => rfl
  | succ m => unfold roomN; rw [thing_zero]; rfl
theorem room_eq {t : TabP} (h : RLed t) (hr : ∀ x, thingB t x = true → (t.at_ x).room = true → upT t x = 0) : ∀ (m : Nat) (x : Int), thingB t x = true → topN (upT t) m x ≠ 0 → roomB t (topN (upT t) m x) = roomN t m x
  | 0, x, hx, h1 => absurd rfl h1
  | m + 1, x, hx, h1 => by
    unfold topN at h1 ⊢
    unfold roomN
    rw [hx, cond_true]
    by_cases hu : upT t x = 0
    · rw [if_pos hu]
      rw [hu, roomN_zero]
      unfold roomB
      rw [hx]
      cases (t.at_ x).room <;> rfl
    · rw [if_neg hu] at h1 ⊢
      have : (t.at_ x).room = false := by
        cases hq : (t.at_ x).room with
        | false => rfl
        | true => exact absurd (hr x hx hq) hu
      rw [this, cond_false]
      exact room_eq h hr m _ ((rled_up h hx).resolve_left hu) h1
/-! ### The small parts -/
theorem num_eq (t : TabP) : (numbersB t && routinesB t && !(decide ((t.things.length : Int) < 0))) = (rheadB t && !(decide ((t.things.length : Int) < 0))) := by
  unfold numbersB routinesB rheadB rh1 rh2 rtHead
  rw [Bool.eq_iff_iff]
  simp only [Bool.and_eq_true, Bool.not_eq_true', Bool.or_eq_false_iff, decide_eq_true_eq, decide_eq_false_iff_not, Bool.false_and, Bool.or_false, bne_eq_false_iff_eq, Bool.not_eq_false', Int.not_lt, gt_iff_lt]
  constructor
  · rintro ⟨⟨h1, h2⟩, h3⟩; simp_all; omega
  · rintro ⟨h1, h3⟩; simp_all; omega
theorem ways_eq (t : TabP) (l : List WayP) : waysB t l = rwaysB t l := by
  have key : ∀ k, (∀ j, j < k → wayBad t (lastDir l j) (l.getD j dWay) = false) → 0 ≤ lastDir l k := by
    intro k hk
    induction k with
    | zero => exact Int.le_refl _
    | succ k ih =>
      have h1 := ih fun j hj => hk j (by omega)
      have h2 := hk k (by omega)
      unfold wayBad at h2
      simp only [Bool.or_eq_false_iff, decide_eq_false_iff_not] at h2
      show 0 ≤ (l.getD k dWay).dir
      omega
  have rkey : ∀ k, (∀ j, j < k → rwayBad t l j = false) → 0 ≤ lastDir l k := by
    intro k hk
    cases k with
    | zero => exact Int.le_refl _
    | succ k =>
      have h2 := hk k (by omega)
      unfold rwayBad at h2
      simp only [Bool.or_eq_false_iff, Bool.not_eq_false'] at h2
      have := among_iff.1 h2.1.1.1.1.1
      show 0 ≤ (l.getD k dWay).dir
      omega
  have step : ∀ k, 0 ≤ lastDir l k → wayBad t (lastDir l k) (l.getD k dWay) = rwayBad t l k := by
    intro k hk
    unfold wayBad rwayBad roomB
    have e1 : (decide ((l.getD k dWay).dir ≤ lastDir l k) || decide ((l.getD k dWay).dir > 12)) = (!among (l.getD k dWay).dir 1 12 || (decide ((k : Int) > 0) && decide ((l.getD k dWay).dir ≤ (l.getD (k - 1) dWay).dir))) := by
      cases k with
      | zero => simp only [lastDir, among]; rw [Bool.eq_iff_iff]; simp; omega
      | succ k =>
        have : lastDir l (k + 1) = (l.getD k dWay).dir := rfl
        rw [this] at hk ⊢
        simp only [among, Nat.add_sub_cancel]
        generalize (l.getD k dWay).dir = A at *
        generalize (l.getD (k + 1) dWay).dir = B
        rw [Bool.eq_iff_iff]; simp; omega
    rw [← e1]
    simp only [bne]
    generalize (decide ((l.getD k dWay).dir ≤ lastDir l k) || decide ((l.getD k dWay).dir > 12)) = A
    generalize thingB t (l.getD k dWay).goal = B
    generalize (t.at_ (l.getD k dWay).goal).room = C
    generalize freeB t (l.getD k dWay).cond = D
    generalize textB t (l.getD k dWay).els = E
    generalize ((l.getD k dWay).cond == -1) = F
    generalize ((l.getD k dWay).els == -1) = G
    clear e1 hk key rkey
    revert A B C D E F G
    decide
  unfold waysB rwaysB
  have same : ∀ n, (∀ j, j < n → wayBad t (lastDir l j) (l.getD j dWay) = false) ↔ (∀ j, j < n → rwayBad t l j = false) := by
    intro n
    induction n with
    | zero => exact ⟨fun _ j hj => absurd hj (by omega), fun _ j hj => absurd hj (by omega)⟩
    | succ n ih =>
      constructor <;> intro h j hj <;> rcases Nat.lt_or_ge j n with h1 | h1
      · exact ih.1 (fun j hj => h j (by omega)) j h1
      · obtain rfl : j = n := by omega
        rw [← step j (key j fun i hi => h i (by omega))]; exact h j hj
      · exact ih.2 (fun j hj => h j (by omega)) j h1
      · obtain rfl : j = n := by omega
        rw [step j (rkey j fun i hi => h i (by omega))]; exact h j hj
  rw [Bool.eq_iff_iff, List.all_eq_true, List.all_eq_true]
  constructor <;> intro H x hx
  · have := (same l.length).1 (fun j hj => by simpa using H j (List.mem_range.2 hj)) x (List.mem_range.1 hx); rw [this]; rfl
  · have := (same l.length).2 (fun j hj => by simpa using H j (List.mem_range.2 hj)) x (List.mem_range.1 hx); rw [this]; rfl
theorem flag_eq {n : Int} (h : among n 4 16 = true) : IntKind.i64.wrap (1 * 2 ^ (min n.toNat IntKind.i64.bits)) = bitsZ n := by
  have := among_iff.1 h
  have h1 : IntKind.i64.bits = 64 := rfl
  unfold bitsZ
  rw [h1, show min n.toNat 64 = n.toNat from by omega, show min n.toNat 16 = n.toNat from by omega, Int.one_mul]
  have := pow_bd (k := n.toNat) (by omega)
  exact i64_in _ (by omega) (by omega)
theorem alone_eq {t : TabP} (h : among t.flags 4 16 = true) (x : ThingP) : (!((x.props.length : Int) != t.props.length) && aloneB t x) = (!rth1 t x && !rth2 t x) := by
  have e1 : aloneH t x = (!(textB t x.title || (false && x.title == -1)) || !(textB t x.text || (true && x.text == -1)) || !among x.flags 0 (bitsZ t.flags - 1) || !x.props.all isV16 || !wordsB x.words 8 || !wordsB x.adjs 8) := by
    unfold aloneH
    rw [flag_eq h]
    have e2 : (decide (x.flags < 0) || decide (x.flags ≥ bitsZ t.flags)) = !among x.flags 0 (bitsZ t.flags - 1) := by
      unfold among; rw [Bool.eq_iff_iff]; simp; omega
    rw [← e2]
    cases textB t x.title <;> cases h3 : (x.text == -1) <;> cases textB t x.text <;> simp [bne, h3, Bool.or_assoc]
  unfold aloneB rth1 rth2
  rw [e1, ← ways_eq]
  have e3 : x.ways = [] → waysB t x.ways = true := fun e => by rw [e]; rfl
  have e4 : ((x.ways.length : Int) == 0) = !decide ((x.ways.length : Int) > 0) := by rw [Bool.eq_iff_iff]; simp
  have e5 : waysB t x.ways = true ∨ decide ((x.ways.length : Int) > 0) = true := by
    cases hw : x.ways with
    | nil => exact .inl rfl
    | cons a l => exact .inr (by simp)
  rw [e4]
  generalize (!(textB t x.title || (false && x.title == -1)) || !(textB t x.text || (true && x.text == -1)) || !among x.flags 0 (bitsZ t.flags - 1)) = A
  generalize ((x.props.length : Int) != t.props.length) = B
  generalize x.props.all isV16 = C
  generalize wordsB x.words 8 = D
  generalize wordsB x.adjs 8 = E
  generalize decide ((x.ways.length : Int) > 0) = F at *
  generalize waysB t x.ways = G at *
  generalize thingB t x.parent = H
  have e6 : (x.parent != 0) = !(x.parent == 0) := rfl
  rw [e6]
  generalize (x.parent == 0) = J
  generalize x.room = K
  clear e1 e3 e4 e6 h
  revert A B C D E F G H J K
  decide
theorem slot_eq {l : List SlotP} {k : Nat} : (!slotBad l k) = (!rslotBad l k && (!(decide ((k : Int) = 0)) || (((l.getD k dSlot).kind == 1) || ((l.getD k dSlot).kind == 5)))) := by
  unfold slotBad rslotBad
  cases h1 : ((l.getD k dSlot).kind == 1) with
  | true =>
    rw [cond_true]
    have h2 : (l.getD k dSlot).kind = 1 := by simpa using h1
    rw [h2]
    simp [among]
  | false =>
    rw [cond_false]
    have h2 : (l.getD k dSlot).kind ≠ 1 := by simpa using h1
    have e1 : among (l.getD k dSlot).kind 2 5 = among (l.getD k dSlot).kind 1 5 := by
      unfold among
      generalize (l.getD k dSlot).kind = z at *
      rw [Bool.eq_iff_iff]; simp; omega
    rw [e1]
    have e2 : ((l.getD k dSlot).kind != 1) = true := by simpa using h2
    rw [e2]
    have e3 : decide (((l.getD k dSlot).words.length : Int) > 0) = true ∨ wordsB (l.getD k dSlot).words 4 = true := by
      cases (l.getD k dSlot).words with
      | nil => exact .inr rfl
      | cons a l => exact .inl (by simp)
    have e4 : ((k : Int) == 0) = decide ((k : Int) = 0) := by rw [Bool.eq_iff_iff]; simp
    rw [e4]
    have e5 : ((l.getD k dSlot).kind != 5) = !((l.getD k dSlot).kind == 5) := rfl
    rw [e5, Bool.false_and]
    generalize among (l.getD k dSlot).kind 1 5 = A
    generalize decide (((l.getD k dSlot).words.length : Int) > 0) = B at *
    generalize wordsB (l.getD k dSlot).words 4 = C at *
    generalize decide ((k : Int) = 0) = D
    generalize ((l.getD k dSlot).kind == 5) = F
    clear e1 e2 e4 e5 h1 h2
    revert A B C D F
    decide
theorem line_eq (l : List SlotP) : lineB l = rlineB l := by
  unfold lineB rlineB
  rw [Bool.eq_iff_iff]
  simp only [Bool.and_eq_true, List.all_eq_true, List.mem_range, decide_eq_true_eq]
  constructor
  · rintro ⟨h1, ⟨⟨h2, h3⟩, h4⟩, h5⟩
    have hl := among_iff.1 h2
    refine ⟨fun k hk => ?_, ⟨⟨⟨h2, ?_⟩, h3⟩, h4⟩, h5⟩
    · have := h1 k hk; rw [slot_eq] at this; rw [Bool.and_eq_true] at this; exact this.1
    · have := h1 0 (by omega); rw [slot_eq, Bool.and_eq_true] at this; simpa using this.2
  · rintro ⟨h1, ⟨⟨⟨h2, h6⟩, h3⟩, h4⟩, h5⟩
    refine ⟨fun k hk => ?_, ⟨⟨h2, h3⟩, h4⟩, h5⟩
    rw [slot_eq, h1 k hk, Bool.true_and]
    rcases Nat.eq_zero_or_pos k with rfl | hp
    · simpa using h6
    · have : decide ((k : Int) = 0) = false := by simp; omega
      rw [this]; rfl
theorem verb_eq (v : VerbP) : verbB v = rverbOk v := by
  unfold verbB rverbOk
  rw [show lineB = rlineB from funext line_eq]
theorem deed_eq (t : TabP) (d : DeedP) : deedB t d = !rdeedBad t d := by
  unfold deedB rdeedBad nounB
  have e1 : (d.noun != -1) = !(d.noun == -1) := rfl
  have e2 : (d.second != -1) = !(d.second == -1) := rfl
  rw [e1, e2]
  generalize among d.verb 0 ((t.acts.length : Int) - 1) = A
  generalize among d.phase 1 3 = B
  generalize (d.noun == -1) = C
  generalize (d.second == -1) = D
  generalize (d.cond == -1) = E
  generalize (d.body == -1) = F
  generalize thingB t d.noun = G
  generalize thingB t d.second = H
  generalize freeB t d.cond = J
  generalize freeB t d.body = K
  revert A B C D E F G H J K
  decide
theorem nothing_eq (t : TabP) (x : ThingP) : (!((x.props.length : Int) != t.props.length) && nothingB x) = rnothingB t x := by
  unfold nothingB rnothingB rnHead
  simp only [bne]
  generalize (x.title == 0) = A
  generalize (x.text == -1) = B
  generalize (x.parent == 0) = C
  generalize (x.flags == 0) = D
  generalize x.room = E
  generalize ((x.props.length : Int) == t.props.length) = F
  generalize (x.sum == 0) = G
  generalize (x.props.all fun z => z == 0) = H
  revert A B C D E F G H
  decide
theorem things_eq {t : TabP} (hf : among t.flags 4 16 = true) : thingsB t = rthingsB t := by
  have hbad : ∀ k, (t.things.getD k dThing) = t.things.getD k dThing := fun _ => rfl
  have hpos : ∀ k : Nat, 0 < k → (!thBad t k) = rthOk t k := fun k hk => by
    have := alone_eq hf (t.things.getD k dThing)
    have e1 : decide ((k : Int) > 0) = true := by simp; omega
    have e2 : decide (k = 0) = false := by simp; omega
    unfold thBad rthOk
    rw [e1, e2, Bool.false_or, ← this, Bool.true_and, Bool.not_or, Bool.not_not]
  rw [Bool.eq_iff_iff]
  constructor
  · intro h
    unfold thingsB at h
    simp only [Bool.and_eq_true, List.all_eq_true, List.mem_range] at h
    obtain ⟨⟨⟨h1, h2⟩, h3⟩, h4, h5⟩ := h
    unfold thHead at h1
    simp only [Bool.not_or, Bool.not_not, Bool.and_eq_true] at h1
    obtain ⟨hn, h0⟩ := h1
    have hl := among_iff.1 hn
    have hb0 := h2 0 (by omega)
    unfold thBad at hb0
    simp only [Bool.not_or, Bool.and_eq_true] at hb0
    have hz : rnothingB t (t.things.getD 0 dThing) = true := by rw [← nothing_eq, hb0.1, h0]; rfl
    have hok : ∀ k, k < t.things.length → rthOk t k = true := fun k hk => by
      rcases Nat.eq_zero_or_pos k with rfl | hp
      · simp [rthOk]
      · rw [← hpos k hp]; exact h2 k hk
    have hR : RLed t := fun k hk hp => rth_parent (hok k hk) hp
    have hu0 : upT t 0 = 0 := by
      unfold nothingB at h0
      simp only [Bool.and_eq_true, beq_iff_eq] at h0
      unfold upT
      rw [TabP.at_getD t 0 |> fun _ => show t.at_ 0 = t.things.getD 0 dThing from rfl]
      exact h0.1.1.1.1.2
    have hroom : ∀ x, thingB t x = true → (t.at_ x).room = true → upT t x = 0 := fun x hx hr => by
      have hb := among_iff.1 (show among x 1 _ = true from hx)
      have := hok x.toNat (by omega)
      unfold rthOk rth2 at this
      have e2 : decide (x.toNat = 0) = false := by simp; omega
      rw [e2, Bool.false_or, Bool.and_eq_true] at this
      have h9 := this.2
      have e3 : (t.things.getD x.toNat dThing).room = true := hr
      rw [e3] at h9
      simp at h9
      exact h9.1.2
    have h1t : thingB t 1 = true := by unfold thingB; rw [among_iff]; omega
    have ht1 : topN (upT t) t.things.length 1 ≠ 0 := by
      have := h3 1 (by omega)
      simpa using this
    unfold rthingsB rtHeadB
    simp only [Bool.and_eq_true, List.all_eq_true, List.mem_range]
    refine ⟨⟨⟨by rw [hn, hz]; simpa using h4, hok⟩, fun k hk => ?_⟩, ?_⟩
    · rcases Nat.eq_zero_or_pos k with rfl | hp
      · rfl
      · have h6 := h3 k hk
        have e2 : decide (k = 0) = false := by simp; omega
        rw [e2, Bool.false_or] at h6 ⊢
        rw [← ends_eq hR hu0 (by unfold thingB; rw [among_iff]; omega)]; exact h6
    · rw [← room_eq hR hroom _ 1 h1t ht1]; exact h5
  · intro h
    unfold rthingsB rtHeadB at h
    simp only [Bool.and_eq_true, List.all_eq_true, List.mem_range] at h
    obtain ⟨⟨⟨h1, hok⟩, h3⟩, h5⟩ := h
    simp only [Bool.not_or, Bool.not_not, Bool.and_eq_true] at h1
    obtain ⟨⟨hn, hz⟩, h4⟩ := h1
    have hl := among_iff.1 hn
    rw [← nothing_eq, Bool.and_eq_true] at hz
    have hR : RLed t := fun k hk hp => rth_parent (hok k hk) hp
    have hu0 : upT t 0 = 0 := by
      have h0 := hz.2
      unfold nothingB at h0
      simp only [Bool.and_eq_true, beq_iff_eq] at h0
      exact h0.1.1.1.1.2
    have hroom : ∀ x, thingB t x = true → (t.at_ x).room = true → upT t x = 0 := fun x hx hr => by
      have hb := among_iff.1 (show among x 1 _ = true from hx)
      have := hok x.toNat (by omega)
      unfold rthOk rth2 at this
      have e2 : decide (x.toNat = 0) = false := by simp; omega
      rw [e2, Bool.false_or, Bool.and_eq_true] at this
      have h9 := this.2
      have e3 : (t.things.getD x.toNat dThing).room = true := hr
      rw [e3] at h9
      simp at h9
      exact h9.1.2
    have h1t : thingB t 1 = true := by unfold thingB; rw [among_iff]; omega
    have htop : ∀ k : Nat, k < t.things.length → 0 < k → topN (upT t) t.things.length k ≠ 0 := fun k hk hp => by
      have h6 := h3 k hk
      have e2 : decide (k = 0) = false := by simp; omega
      rw [e2, Bool.false_or, ← ends_eq hR hu0 (by unfold thingB; rw [among_iff]; omega)] at h6
      simpa using h6
    unfold thingsB thHead
    simp only [Bool.and_eq_true, List.all_eq_true, List.mem_range]
    refine ⟨⟨⟨by rw [hn, hz.2]; rfl, fun k hk => ?_⟩, fun k hk => ?_⟩, h4, ?_⟩
    · rcases Nat.eq_zero_or_pos k with rfl | hp
      · unfold thBad
        have := hz.1
        simp_all
      · rw [hpos k hp]; exact hok k hk
    · rcases Nat.eq_zero_or_pos k with rfl | hp
      · rfl
      · have := htop k hk hp
        simp only [Bool.or_eq_true, bne_iff_ne]
        exact .inr this
    · rw [room_eq hR hroom _ 1 h1t (htop 1 (by omega) (by omega))]; exact h5
theorem fits_eq (t : TabP) : fitsB t = rfitsB t := by
  have hn := num_eq t
  have e0 : decide ((t.things.length : Int) < 0) = false := by simp
  rw [e0] at hn
  simp only [Bool.not_false, Bool.and_true] at hn
  have hr : rrulesB t = (!rrHead t && (t.acts.all verbB && t.deeds.all (deedB t) && t.funcs.all (fun n => among n 0 ((t.params.length : Int) - 1)) && t.daemons.all (freeB t))) := by
    unfold rrulesB
    rw [show verbB = rverbOk from funext verb_eq, show deedB t = (fun d => !rdeedBad t d) from funext (deed_eq t)]
    simp only [Bool.false_and, Bool.false_or, Bool.and_assoc]
  unfold fitsB rfitsB fitsHead
  rw [← hn, hr]
  unfold rrHead
  by_cases hf : among t.flags 4 16 = true
  · rw [← things_eq hf]
    cases numbersB t <;> cases routinesB t <;> cases thingsB t <;> simp
  · have : numbersB t = false := by unfold numbersB; simp [hf]
    rw [this]
    simp
end Go.Proofs.Ytjloemlnejndmaa
