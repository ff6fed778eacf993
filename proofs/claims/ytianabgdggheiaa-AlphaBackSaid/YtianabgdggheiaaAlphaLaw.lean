/- Chapter 6 in plain lists: what is packed is unpacked; a text is told by its codes. No program stands in this text. -/
import Derived.Test.YtianabgdggheiaaAlphaBits
namespace Go.Proofs.Ytianabgdggheiaa
open Go.RowKit
set_option linter.unusedVariables false

/-! ### packing -/
theorem Bit.bd {l : List Int} (h : Bit l) (i : Nat) : 0 ≤ l.getD i 0 ∧ l.getD i 0 ≤ 1 := by have := h.getD i; omega
theorem byteAt_bit (l : List Int) (h : Bit l) (q r : Nat) (hr : r < 8) : byteAt l q / 2 ^ (7 - r) % 2 = l.getD (8 * q + r) 0 := by
  have g0 := h.bd (8 * q); have g1 := h.bd (8 * q + 1); have g2 := h.bd (8 * q + 2); have g3 := h.bd (8 * q + 3); have g4 := h.bd (8 * q + 4); have g5 := h.bd (8 * q + 5); have g6 := h.bd (8 * q + 6); have g7 := h.bd (8 * q + 7)
  unfold byteAt
  match r, hr with
  | 0, _ => simp only [Nat.add_zero]; omega
  | 1, _ => simp only [show (7 - 1 : Nat) = 6 from rfl]; omega
  | 2, _ => simp only [show (7 - 2 : Nat) = 5 from rfl]; omega
  | 3, _ => simp only [show (7 - 3 : Nat) = 4 from rfl]; omega
  | 4, _ => simp only [show (7 - 4 : Nat) = 3 from rfl]; omega
  | 5, _ => simp only [show (7 - 5 : Nat) = 2 from rfl]; omega
  | 6, _ => simp only [show (7 - 6 : Nat) = 1 from rfl]; omega
  | 7, _ => simp only [show (7 - 7 : Nat) = 0 from rfl]; omega
theorem byteAt_u8 (l : List Int) (h : Bit l) (q : Nat) : 0 ≤ byteAt l q ∧ byteAt l q < 256 := by
  have g0 := h.bd (8 * q); have g1 := h.bd (8 * q + 1); have g2 := h.bd (8 * q + 2); have g3 := h.bd (8 * q + 3); have g4 := h.bd (8 * q + 4); have g5 := h.bd (8 * q + 5); have g6 := h.bd (8 * q + 6); have g7 := h.bd (8 * q + 7)
  unfold byteAt
  omega
theorem pkB_bts (l : List Int) (h : Bit l) : Bts (pkB l) := by
  intro x hx
  obtain ⟨q, _, rfl⟩ := List.mem_map.1 hx
  exact byteAt_u8 l h q
theorem bitAt_pk (l : List Int) (h : Bit l) (i : Nat) : bitAt (pkB l) i = l.getD i 0 := by
  unfold bitAt
  by_cases hi : i / 8 < (pkB l).length
  · simp only [List.getD, List.getElem?_eq_getElem hi, Option.getD_some]
    rw [pkB_get, byteAt_bit l h _ _ (Nat.mod_lt _ (by omega)), show 8 * (i / 8) + i % 8 = i from by omega]
    rfl
  · rw [pkB_len] at hi
    rw [getD_ge (pkB l) _ (by rw [pkB_len]; omega), getD_ge l i (by omega)]
    simp
theorem bits5_getD (n : Int) (h0 : 0 ≤ n) (h1 : n < 32) : (bits5 n).getD 0 0 * 16 + (bits5 n).getD 1 0 * 8 + (bits5 n).getD 2 0 * 4 + (bits5 n).getD 3 0 * 2 + (bits5 n).getD 4 0 = n := by
  simp [bits5]; omega
theorem pBits_cons (a : Int) (l : List Int) : pBits (a :: l) = bits5 (a % 32) ++ pBits l := by simp [pBits]
theorem getD_app_ge (l m : List Int) (i : Nat) (h : l.length ≤ i) : (l ++ m).getD i 0 = m.getD (i - l.length) 0 := by
  simp [List.getD, List.getElem?_append_right h]
theorem pBits_getD (l m : List Int) (j t : Nat) (hj : j < l.length) (ht : t < 5) : (pBits l ++ m).getD (5 * j + t) 0 = (bits5 (l[j] % 32)).getD t 0 := by
  induction l generalizing j with
  | nil => simp at hj
  | cons a l ih =>
    rw [pBits_cons, List.append_assoc]
    match j, hj with
    | 0, _ => rw [getD_app_lt _ _ _ (by simp [bits5]; omega)]; simp
    | j + 1, hj =>
      rw [getD_app_ge _ _ _ (by simp [bits5]; omega)]
      have := ih j (by simpa using hj)
      simp only [List.getElem_cons_succ]
      rw [← this]
      congr 1
      simp [bits5]; omega
/-- The bits of codes and the end code. -/
def pAll (l : List Int) : List Int := pBits l ++ bits5 31
theorem pAll_bit (l : List Int) : Bit (pAll l) := (pBits_bit l).append (bits5_bit 31)
theorem pAll_len (l : List Int) : (pAll l).length = 5 * l.length + 5 := by
  rw [pAll, List.length_append, pBits_len]; rfl
theorem aPack_len (l : List Int) : (aPack l).length = (5 * l.length + 12) / 8 := by
  have := pAll_len l
  rw [aPack, pkB_len]
  unfold pAll at this
  omega
theorem aPack_bts (l : List Int) : Bts (aPack l) := pkB_bts _ (pAll_bit l)
theorem code5_pack (l : List Int) (j : Nat) (hj : j < l.length) : code5 (aPack l) (5 * j) = l[j] % 32 := by
  have hp : ∀ i, bitAt (aPack l) i = (pAll l).getD i 0 := bitAt_pk _ (pAll_bit l)
  unfold code5
  simp only [hp]
  have e := fun t ht => pBits_getD l (bits5 31) j t hj ht
  have e0 := e 0 (by omega); have e1 := e 1 (by omega); have e2 := e 2 (by omega); have e3 := e 3 (by omega); have e4 := e 4 (by omega)
  rw [Nat.add_zero] at e0
  unfold pAll
  rw [e0, e1, e2, e3, e4]
  have := bits5_getD (l[j] % 32) (by omega) (by omega)
  omega
theorem code5_end (l : List Int) : code5 (aPack l) (5 * l.length) = 31 := by
  have hp : ∀ i, bitAt (aPack l) i = (pAll l).getD i 0 := bitAt_pk _ (pAll_bit l)
  unfold code5
  simp only [hp]
  unfold pAll
  have hl := pBits_len l
  rw [getD_app_ge _ _ _ (by omega), getD_app_ge _ _ _ (by omega), getD_app_ge _ _ _ (by omega), getD_app_ge _ _ _ (by omega), getD_app_ge _ _ _ (by omega), hl]
  simp only [Nat.sub_self, show 5 * l.length + 1 - 5 * l.length = 1 from by omega, show 5 * l.length + 2 - 5 * l.length = 2 from by omega, show 5 * l.length + 3 - 5 * l.length = 3 from by omega, show 5 * l.length + 4 - 5 * l.length = 4 from by omega]
  decide
theorem tail_byte' (x : Int) (h0 : 0 ≤ x) (h1 : x < 256) (s : Nat) (hs : s ≤ 8) : x * 2 ^ s % 256 = 0 ↔ ∀ j, s ≤ j → j < 8 → x / 2 ^ (7 - j) % 2 = 0 := by
  have key : ∀ (y : Fin 256) (s : Fin 9), (y.val : Int) * 2 ^ s.val % 256 = 0 ↔ ∀ j : Fin 8, s.val ≤ j.val → (y.val : Int) / 2 ^ (7 - j.val) % 2 = 0 := by decide +kernel
  have := key ⟨x.toNat, by omega⟩ ⟨s, by omega⟩
  simp only [Int.toNat_of_nonneg h0] at this
  rw [this]
  exact ⟨fun h j h1 h2 => h ⟨j, h2⟩ h1, fun h j h1 => h j.val h1 j.2⟩
/-- The end is well formed where nothing stands behind it. -/
theorem aEnd_iff (bs : List Int) (hb : Bts bs) (t : Nat) (ht : 0 < t) (hl : t ≤ 8 * bs.length) (out : List Int) :
    (bs.length = (t - 1) / 8 + 1 ∧ (∀ j, t ≤ j → bitAt bs j = 0) → aEnd bs t out = (out, 0)) ∧ ((aEnd bs t out).2 = 0 → bs.length = (t - 1) / 8 + 1 ∧ (∀ j, t ≤ j → bitAt bs j = 0) ∧ (aEnd bs t out).1 = out) := by
  have hq : (t - 1) / 8 < bs.length := by omega
  have hx := hb.get hq
  have hg : bs.getD ((t - 1) / 8) 0 = bs[(t - 1) / 8] := by simp only [List.getD, List.getElem?_eq_getElem hq, Option.getD_some]
  have htb := tail_byte' _ hx.1 hx.2 (t - 8 * ((t - 1) / 8)) (by omega)
  have key : bs.length = (t - 1) / 8 + 1 → ((∀ j, t ≤ j → bitAt bs j = 0) ↔ bs[(t - 1) / 8] * 2 ^ (t - 8 * ((t - 1) / 8)) % 256 = 0) := by
    intro hL
    rw [htb]
    constructor
    · intro h j h1 h2
      have := h (8 * ((t - 1) / 8) + j) (by omega)
      unfold bitAt at this
      rw [show (8 * ((t - 1) / 8) + j) / 8 = (t - 1) / 8 by omega, show (8 * ((t - 1) / 8) + j) % 8 = j by omega, hg] at this
      exact this
    · intro h j h1
      by_cases h3 : j < 8 * bs.length
      · have := h (j - 8 * ((t - 1) / 8)) (by omega) (by omega)
        unfold bitAt
        rw [show j / 8 = (t - 1) / 8 by omega, show j % 8 = j - 8 * ((t - 1) / 8) by omega, hg]
        exact this
      · unfold bitAt
        rw [getD_ge bs _ (by omega)]
        simp
  unfold aEnd
  rw [hg]
  constructor
  · rintro ⟨hL, h0⟩
    rw [if_neg (by omega), if_neg (by simpa using (key hL).1 h0)]
  · intro he
    by_cases c1 : (t - 1) / 8 + 1 < bs.length
    · rw [if_pos c1] at he; simp at he
    · rw [if_neg c1] at he ⊢
      have hL : bs.length = (t - 1) / 8 + 1 := by omega
      by_cases c2 : bs[(t - 1) / 8] * 2 ^ (t - 8 * ((t - 1) / 8)) % 256 = 0
      · rw [if_neg (by simpa using c2)] at he ⊢
        exact ⟨hL, (key hL).2 c2, rfl⟩
      · rw [if_pos c2] at he; simp at he
/-- What was packed is unpacked. -/
theorem unpack_pack (l : List Int) (h : ∀ x ∈ l, 0 ≤ x ∧ x < 31) : aUnpack (aPack l) = (l, 0) := by
  have hl := aPack_len l
  have hf : (List.range (8 * (aPack l).length / 5)).find? (fun j => code5 (aPack l) (5 * j) == 31) = some l.length := by
    rw [List.find?_range_eq_some]
    refine ⟨by simpa using code5_end l, List.mem_range.2 (by omega), fun j hj => ?_⟩
    have h1 := h l[j] (List.getElem_mem hj)
    rw [code5_pack l j hj]
    simp; omega
  unfold aUnpack
  rw [hf]
  have ho : aOut (aPack l) l.length = l := by
    refine List.ext_getElem (by simp [aOut]) fun j h1 h2 => ?_
    have h3 := h l[j] (List.getElem_mem h2)
    simp only [aOut, List.getElem_map, List.getElem_range]
    rw [code5_pack l j h2]
    omega
  simp only [ho]
  refine (aEnd_iff (aPack l) (aPack_bts l) (5 * l.length + 5) (by omega) (by omega) l).1 ⟨by omega, fun j hj => ?_⟩
  have hp : bitAt (aPack l) j = (pAll l).getD j 0 := bitAt_pk _ (pAll_bit l) j
  rw [hp, getD_ge _ _ (by rw [pAll_len]; omega)]
theorem byte_sum (x : Int) (h0 : 0 ≤ x) (h1 : x < 256) : 128 * (x / 2 ^ 7 % 2) + 64 * (x / 2 ^ 6 % 2) + 32 * (x / 2 ^ 5 % 2) + 16 * (x / 2 ^ 4 % 2) + 8 * (x / 2 ^ 3 % 2) + 4 * (x / 2 ^ 2 % 2) + 2 * (x / 2 ^ 1 % 2) + x / 2 ^ 0 % 2 = x := by omega
theorem byteAt_bits (bs : List Int) (hb : Bts bs) (L : List Int) (h : ∀ i, L.getD i 0 = bitAt bs i) (q : Nat) (hq : q < bs.length) : byteAt L q = bs[q] := by
  have hx := hb.get hq
  have hg : bs.getD q 0 = bs[q] := by simp only [List.getD, List.getElem?_eq_getElem hq, Option.getD_some]
  have e : ∀ t, t < 8 → L.getD (8 * q + t) 0 = bs[q] / 2 ^ (7 - t) % 2 := by
    intro t ht
    rw [h, bitAt, show (8 * q + t) / 8 = q by omega, show (8 * q + t) % 8 = t by omega, hg]
  have e0 : L.getD (8 * q) 0 = bs[q] / 2 ^ 7 % 2 := e 0 (by omega)
  have e1 : L.getD (8 * q + 1) 0 = bs[q] / 2 ^ 6 % 2 := e 1 (by omega)
  have e2 : L.getD (8 * q + 2) 0 = bs[q] / 2 ^ 5 % 2 := e 2 (by omega)
  have e3 : L.getD (8 * q + 3) 0 = bs[q] / 2 ^ 4 % 2 := e 3 (by omega)
  have e4 : L.getD (8 * q + 4) 0 = bs[q] / 2 ^ 3 % 2 := e 4 (by omega)
  have e5 : L.getD (8 * q + 5) 0 = bs[q] / 2 ^ 2 % 2 := e 5 (by omega)
  have e6 : L.getD (8 * q + 6) 0 = bs[q] / 2 ^ 1 % 2 := e 6 (by omega)
  have e7 : L.getD (8 * q + 7) 0 = bs[q] / 2 ^ 0 % 2 := e 7 (by omega)
  unfold byteAt
  rw [e0, e1, e2, e3, e4, e5, e6, e7]
  exact byte_sum _ hx.1 hx.2
theorem code5_bits (bs : List Int) (p t : Nat) (ht : t < 5) : (bits5 (code5 bs p % 32)).getD t 0 = bitAt bs (p + t) := by
  have g0 := bitAt_01 bs p; have g1 := bitAt_01 bs (p + 1); have g2 := bitAt_01 bs (p + 2); have g3 := bitAt_01 bs (p + 3); have g4 := bitAt_01 bs (p + 4)
  unfold code5 bits5
  match t, ht with
  | 0, _ => simp; omega
  | 1, _ => simp; omega
  | 2, _ => simp; omega
  | 3, _ => simp; omega
  | 4, _ => simp; omega
/-- What was unpacked is packed as it was. -/
theorem pack_unpack (bs : List Int) (hb : Bts bs) (h : (aUnpack bs).2 = 0) : aPack (aUnpack bs).1 = bs := by
  unfold aUnpack at h ⊢
  split at h
  · simp at h
  · rename_i j hj
    have h1 := List.mem_range.1 (List.mem_of_find?_eq_some hj)
    have h31 : code5 bs (5 * j) = 31 := by simpa using List.find?_some hj
    obtain ⟨hL, hz, he⟩ := (aEnd_iff bs hb (5 * j + 5) (by omega) (by omega) (aOut bs j)).2 h
    rw [he]
    have hol : (aOut bs j).length = j := by simp [aOut]
    have hbits : ∀ i, (pAll (aOut bs j)).getD i 0 = bitAt bs i := by
      intro i
      by_cases c1 : i < 5 * j
      · have := pBits_getD (aOut bs j) (bits5 31) (i / 5) (i % 5) (by omega) (Nat.mod_lt _ (by omega))
        rw [show 5 * (i / 5) + i % 5 = i by omega] at this
        unfold pAll
        rw [this]
        have : (aOut bs j)[i / 5]'(by omega) = code5 bs (5 * (i / 5)) := by simp [aOut]
        rw [this, code5_bits _ _ _ (Nat.mod_lt _ (by omega)), show 5 * (i / 5) + i % 5 = i by omega]
      · by_cases c2 : i < 5 * j + 5
        · have hc := code5_bits bs (5 * j) (i - 5 * j) (by omega)
          rw [h31, show 5 * j + (i - 5 * j) = i by omega] at hc
          rw [← hc]
          unfold pAll
          rw [getD_app_ge _ _ _ (by rw [pBits_len, hol]; omega), pBits_len, hol]
          rfl
        · rw [getD_ge _ _ (by rw [pAll_len, hol]; omega), hz i (by omega)]
    refine List.ext_getElem (by rw [aPack_len, hol]; omega) fun q h2 h3 => ?_
    have : aPack (aOut bs j) = pkB (pAll (aOut bs j)) := rfl
    simp only [this, pkB_get]
    exact byteAt_bits bs hb _ hbits q h3

/-! ### texts -/
/-- The byte with which codes begin, and how many codes it has; 0: none. -/
def aFirst3 (a b c : Int) : Int × Nat :=
  if a = 0 then (32, 1) else if 1 ≤ a ∧ a ≤ 26 then (96 + a, 1) else if a = 27 ∧ 1 ≤ b ∧ b ≤ 26 then (64 + b, 2) else
  if a = 28 ∧ 0 ≤ b ∧ b ≤ 30 then (aSigns.getD b.toNat 0, 2) else if a = 29 ∧ (0 ≤ b ∧ b ≤ 7) ∧ 0 ≤ c ∧ c ≤ 15 then (16 * b + c, 3) else (0, 0)
def aFirst (l : List Int) : Int × Nat := aFirst3 (l.getD 0 (-1)) (l.getD 1 (-1)) (l.getD 2 (-1))
theorem aSign_get (c : Int) (k : Nat) (h : aSign c = some k) : k < 31 ∧ aSigns.getD k 0 = c := by
  unfold aSign at h
  rw [List.idxOf?_eq_some_iff] at h
  obtain ⟨hk, he, _⟩ := h
  refine ⟨hk, ?_⟩
  simp only [List.getD, List.getElem?_eq_getElem hk, Option.getD_some]
  simpa using he
theorem aFirst_sort (c : Int) (rest : List Int) (h : tOkB c = true) : aFirst (aSort c ++ rest) = (c, (aSort c).length) := by
  have hc : 32 ≤ c ∧ c ≤ 126 ∨ c = 10 := by simpa [tOkB] using h
  by_cases c0 : c = 32
  · subst c0; rfl
  · by_cases c1 : 97 ≤ c ∧ c ≤ 122
    · rw [aSort_small c c1.1 c1.2]
      simp only [aFirst, aFirst3, List.cons_append, List.getD_cons_zero, List.length_cons, List.length_nil]
      rw [if_neg (by omega), if_pos (by omega)]
      congr 1; omega
    · by_cases c2 : 65 ≤ c ∧ c ≤ 90
      · rw [aSort_great c c2.1 c2.2]
        simp only [aFirst, aFirst3, List.cons_append, List.getD_cons_zero, List.getD_cons_succ, List.length_cons, List.length_nil]
        rw [if_neg (by omega), if_neg (by omega), if_pos (by refine ⟨by first | trivial | rfl, ?_, ?_⟩ <;> omega)]
        congr 1; omega
      · cases hs : aSign c with
        | some k =>
          obtain ⟨hk, hg⟩ := aSign_get c k hs
          rw [aSort_sign c c0 c1 c2 k hs]
          simp only [aFirst, aFirst3, List.cons_append, List.getD_cons_zero, List.getD_cons_succ, List.length_cons, List.length_nil]
          rw [if_neg (by omega), if_neg (by omega), if_neg (fun h => absurd h.1 (by decide)), if_pos (by refine ⟨by first | trivial | rfl, ?_, ?_⟩ <;> omega), Int.toNat_natCast, hg]
        | none =>
          have h10 : c ≠ 10 := by rintro rfl; revert hs; decide
          rw [aSort_whole c c0 c1 c2 hs (by omega)]
          simp only [aFirst, aFirst3, List.cons_append, List.getD_cons_zero, List.getD_cons_succ, List.length_cons, List.length_nil]
          rw [if_neg (by omega), if_neg (by omega), if_neg (fun h => absurd h.1 (by decide)), if_neg (fun h => absurd h.1 (by decide)), if_pos (by refine ⟨by first | trivial | rfl, ?_, ?_⟩ <;> omega)]
          congr 1; omega
theorem aSort_pos (c : Int) (h : tOkB c = true) : 0 < (aSort c).length := by
  rcases Nat.eq_zero_or_pos (aSort c).length with h0 | h0
  · have h1 := aFirst_sort c [] h
    rw [List.eq_nil_of_length_eq_zero h0] at h1
    have : c = 0 := by
      have := congrArg Prod.fst h1
      simpa [aFirst, aFirst3] using this.symm
    subst this
    revert h; decide
  · exact h0
/-- Texts have their codes alone. -/
theorem aCodes_inj (l m : List Int) (hl : ∀ c ∈ l, tOkB c = true) (hm : ∀ c ∈ m, tOkB c = true) (h : aCodes l = aCodes m) : l = m := by
  induction l generalizing m with
  | nil =>
    cases m with
    | nil => rfl
    | cons b m =>
      have := aSort_pos b (hm b List.mem_cons_self)
      have e := congrArg List.length h
      simp only [aCodes, List.flatMap_nil, List.flatMap_cons, List.length_append, List.length_nil] at e
      omega
  | cons a l ih =>
    cases m with
    | nil =>
      have := aSort_pos a (hl a List.mem_cons_self)
      have e := congrArg List.length h
      simp only [aCodes, List.flatMap_nil, List.flatMap_cons, List.length_append, List.length_nil] at e
      omega
    | cons b m =>
      have h' : aSort a ++ aCodes l = aSort b ++ aCodes m := h
      have e1 := aFirst_sort a (aCodes l) (hl a List.mem_cons_self)
      have e2 := aFirst_sort b (aCodes m) (hm b List.mem_cons_self)
      rw [h', e2] at e1
      obtain rfl : b = a := congrArg Prod.fst e1
      rw [ih m (fun c hc => hl c (List.mem_cons_of_mem _ hc)) (fun c hc => hm c (List.mem_cons_of_mem _ hc)) (List.append_cancel_left h')]
end Go.Proofs.Ytianabgdggheiaa
