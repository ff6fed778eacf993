/- The contract of op.Decode, where there is an argument. -/
import Derived.Test.YtfalhlnmjllfpaaOpG
namespace Go.Proofs.Ytfalhlnmjllfpaa
open Go.RowKit Go.IntWalk
set_option maxRecDepth 100000
set_option linter.unusedVariables false

theorem w_i8 (n : Int) : IntKind.i8.wrap n = (n + 128) % 256 - 128 := by simp only [IntKind.wrap, IntKind.bits, IntKind.signed]; simp; split <;> omega
/-- The first byte of an argument, with its sign. -/
def s8 (y : Int) : Int := (y + 128) % 256 - 128
theorem s8_bd (y : Int) : -128 ≤ s8 y ∧ s8 y ≤ 127 := by unfold s8; omega
/-- The argument, as it is put together. -/
def argQ (y0 y1 : Int) : Nat → Int
  | 0 => 0
  | 1 => s8 y0
  | _ => s8 y0 * 256 + y1
theorem or_two (a y : Int) (ha : -128 ≤ a ∧ a ≤ 127) (hy : 0 ≤ y ∧ y < 256) : bits .or .i64 (a * 256) y = a * 256 + y := by
  show IntKind.i64.wrap ((BitVec.ofInt 64 (a * 256) ||| BitVec.ofInt 64 y).toNat : Int) = _
  have h64 : ((2 ^ 64 : Nat) : Int) = 18446744073709551616 := by decide
  rw [BitVec.toNat_or, BitVec.toNat_ofInt, BitVec.toNat_ofInt, IntKind.wrap_i64, h64]
  have h1 : (a * 256 % 18446744073709551616).toNat = 2 ^ 8 * (a % 72057594037927936).toNat := by omega
  have h2 : (y % 18446744073709551616).toNat = y.toNat := by omega
  rw [h1, h2, or_hi _ _ _ (by omega)]
  omega
theorem arg_take1 (bs : List Int) (t : Nat) (h : t + 1 < bs.length) : argOf ((bs.drop (t + 1)).take 1) = argQ bs[t + 1] 0 1 := by
  rw [List.take_one, List.head?_drop, List.getElem?_eq_getElem h]; rfl
theorem arg_take2 (bs : List Int) (t : Nat) (h : t + 2 < bs.length) : argOf ((bs.drop (t + 1)).take 2) = argQ bs[t + 1] bs[t + 2] 2 := by
  rw [List.drop_eq_getElem_cons (show t + 1 < bs.length by omega), List.drop_eq_getElem_cons (show t + 1 + 1 < bs.length by omega)]
  rfl
set_option maxHeartbeats 6400000 in
theorem dec_arg1_walk (A : Option Addr) (n c : Nat) (bs : List Int) (t : Nat) (w : World) (hr : Rd w w.heap.size A (cb .u8 bs)) (hn : n = bs.length) (hb : Bts bs) (hnc : n ≤ c) (hcm : c ≤ 9223372036854775807) (hl : n ≤ 100000000) (h : t < bs.length)
    (hc : ¬ (knB (bs[t] / 4) = false ∨ bs[t] / 4 = 38 ∨ bs[t] % 4 = 3 ∨ (0 < bs[t] % 4 ∧ hasB (bs[t] / 4) = false))) (h0 : bs[t] % 4 = 1) (hs : t + 1 < bs.length) :
    Calls Try.prog 15 #[.slice A n c, .int .i64 t] w (DecPost w (opDec bs t)) := by
  have hta := arg_take1 bs t hs
  have hok := dec_ok bs t h hc (by rw [h0]; omega) (argQ bs[t + 1] 0 1) (by rw [h0]; exact hta)
  have hfm := dec_form bs t h hc (by rw [h0]; omega) (argQ bs[t + 1] 0 1) (by rw [h0]; exact hta)
  rw [h0] at hok hfm
  have HOK := Lib.hid hok
  have HFM := Lib.hid hfm
  clear hta hok hfm
  have hy0 := hb.get (show t + 1 < bs.length by omega)
  obtain ⟨b1, o1, he1, _, hd0⟩ := hr.num (show t + 1 < bs.length by omega)
  obtain ⟨b, o, rfl, _, hcell⟩ := hr.num h
  injection he1 with he1; injection he1 with he11 he12; subst he11; subst he12
  obtain ⟨hx0, hx1⟩ := hb.get h
  have hal := (hr.alloc (Nat.le_refl _) (.cells #[.int .i64 0, .int .i64 0] 28)).num h
  obtain ⟨b', o', he, hbw, hcell'⟩ := hal
  injection he with he; injection he with he3 he4; subst he3; subst he4
  have htn : t < n := by omega
  have g1 : (t : Int) < (n : Int) := by omega
  have hbx : Below w.heap.size w (w.alloc (.cells #[.int .i64 0, .int .i64 0] 28)) := (Below.refl _ _).alloc (Nat.le_refl _) _
  have HLT := Lib.hid (ltB_t (n := (t : Int)) (lo := 0) (hi := (n : Int)) (by omega))
  generalize bs[t] = x at *
  have hq0 : 0 ≤ x / 4 ∧ x / 4 ≤ 63 := by omega
  obtain ⟨hq1, hq2⟩ := hq0
  have HN := Lib.hid hn
  generalize bs[t + 1] = y0 at *
  have hk : knB (x / 4) = true := by
    cases hk : knB (x / 4) with
    | true => rfl
    | false => exact absurd (Or.inl hk) hc
  have HK := Lib.hid hk
  have h38 : x / 4 ≠ 38 := fun hh => hc (Or.inr (Or.inl hh))
  have e38 : (x / 4 == 38) = false := by simpa using h38
  have hh : hasB (x / 4) = true := by
    cases hh : hasB (x / 4) with
    | true => rfl
    | false => exact absurd (Or.inr (Or.inr (Or.inr ⟨by omega, hh⟩))) hc
  have HH := Lib.hid hh
  have hbW : b < w.heap.size := by assumption
  have hcap : ¬ (c = t + 1) := by omega
  have hcap' : ¬ (t + 1 = c) := by omega
  have hlen : t + 1 < n := by omega
  have e5 : decide ((n : Int) - t - 1 < 1) = false := by simp; omega
  have ha := s8_bd y0
  obtain ⟨hy00, hy01⟩ := hy0
  obtain ⟨ha0, ha1⟩ := ha
  clear hn hk h38 hh hc
  go_enter Try.func15, Try.ntmps15
  go_wp2_with fail
  refine (opAmong_any (t : Int) 0 (n : Int) _).mono ?_
  rw [HLT.out]
  rintro e w' ⟨rfl, rfl⟩
  go_wp2_with fail
  go_quiet (fail)
  go_wp2_with fail
  refine (known_any (x / 4) _).mono ?_
  rw [HK.out]
  rintro e w' ⟨rfl, rfl⟩
  go_wp2_with fail
  refine (has_any (x / 4) _).mono ?_
  rw [HH.out]
  rintro e w1 ⟨rfl, hb1⟩
  have hb1' := below_call (below_drewN hbx _) hb1
  have hsz1 := hb1'.size
  obtain ⟨hc1, hf1⟩ := bcell hb1
  have hz1 : w.heap.size < w1.heap.size := by have := hb1.size; simp at this; omega
  go_wp2_with fail
  have hcA : w1.cell? ⟨b, o + (t + 1), none⟩ = some (.int .u8 y0) := by rw [hb1'.cell (p := ⟨b, _, none⟩) hbW]; exact hd0
  go_loop [9, 10, 11, 70] (fun a _ _ i => ∃ q : Nat, q ≤ 1 ∧ i = .int .i64 q ∧ a = .int .i64 (argQ y0 0 q)) (fun _ _ _ i => 1 - (intOf i).toNat)
  case atStart => exact ⟨0, by omega, rfl, rfl⟩
  case round =>
    obtain ⟨q, hq, rfl, rfl⟩ := hrel
    rcases (show q = 0 ∨ q = 1 by omega) with rfl | rfl
    · go_wp2_with fail
      go_round
      case rel => refine ⟨1, by omega, rfl, ?_⟩; show Value.int .i64 _ = .int .i64 (s8 y0); congr 1; rw [w_i8, wrap64_in _ (by omega)]; rfl
      case measure => simp [intOf]
    · obtain ⟨a, ha⟩ : ∃ a, argQ y0 0 1 = a := ⟨_, rfl⟩
      rw [ha]
      rw [ha] at HOK HFM
      clear ha
      by_cases hz : sizeN a = 1
      · have hfin := Lib.hid (HOK.out (by rw [hz]; simp))
        have HZ := Lib.hid hz
        clear hz
        go_wp2_with fail
        refine (opSize_any a _).mono ?_
        rw [HZ.out]
        rintro e w' ⟨rfl, rfl⟩
        go_wp2_with fail
        exact bodyPost_ret (v := .tuple #[.agg #[.int .i64 (x / 4), .int .i64 a], .int .i64 ((t : Int) + 1 + 1), .int .i64 0]) (by simp [results, Try.results15, go_sem, hc1]) rfl ⟨by rw [hfin.out], below_set2 hb1' _ _⟩
      · have hsl := sizeN_le a
        obtain ⟨S, HS⟩ : ∃ S, Hid (sizeN a = S) := ⟨_, rfl⟩
        rw [HS.out] at hz hsl
        have eS : (((S : Int)) != 1) = true := by simp; omega
        by_cases h24 : x / 4 = 24
        · have hfin := Lib.hid (HOK.out (fun h => h.2.1 h24))
          have e24 : (x / 4 != 24) = false := by simpa using h24
          clear h24 hz
          go_wp2_with fail
          refine (opSize_any a _).mono ?_
          rw [HS.out]
          rintro e w' ⟨rfl, rfl⟩
          go_wp2_with fail
          exact bodyPost_ret (v := .tuple #[.agg #[.int .i64 (x / 4), .int .i64 a], .int .i64 ((t : Int) + 1 + 1), .int .i64 0]) (by simp [results, Try.results15, go_sem, hc1]) rfl ⟨by rw [hfin.out], below_set2 hb1' _ _⟩
        · have e24 : (x / 4 != 24) = true := by simpa using h24
          by_cases h25 : x / 4 = 25
          · have hfin := Lib.hid (HOK.out (fun h => h.2.2 h25))
            have e25 : (x / 4 != 25) = false := by simpa using h25
            clear h24 h25 hz
            go_wp2_with fail
            refine (opSize_any a _).mono ?_
            rw [HS.out]
            rintro e w' ⟨rfl, rfl⟩
            go_wp2_with fail
            exact bodyPost_ret (v := .tuple #[.agg #[.int .i64 (x / 4), .int .i64 a], .int .i64 ((t : Int) + 1 + 1), .int .i64 0]) (by simp [results, Try.results15, go_sem, hc1]) rfl ⟨by rw [hfin.out], below_set2 hb1' _ _⟩
          · have e25 : (x / 4 != 25) = true := by simpa using h25
            have hfin := Lib.hid (HFM.out ⟨by rw [HS.out]; omega, h24, h25⟩)
            clear h24 h25 hz
            go_wp2_with fail
            refine (opSize_any a _).mono ?_
            rw [HS.out]
            rintro e w' ⟨rfl, rfl⟩
            go_wp2_with fail
            exact bodyPost_ret (v := .tuple #[.agg #[.int .i64 0, .int .i64 0], .int .i64 0, .int .i64 4]) (by simp [results, Try.results15, go_sem, hc1]) rfl ⟨by rw [hfin.out], below_set2 hb1' _ _⟩
set_option maxHeartbeats 6400000 in
theorem dec_arg2_walk (A : Option Addr) (n c : Nat) (bs : List Int) (t : Nat) (w : World) (hr : Rd w w.heap.size A (cb .u8 bs)) (hn : n = bs.length) (hb : Bts bs) (hnc : n ≤ c) (hcm : c ≤ 9223372036854775807) (hl : n ≤ 100000000) (h : t < bs.length)
    (hc : ¬ (knB (bs[t] / 4) = false ∨ bs[t] / 4 = 38 ∨ bs[t] % 4 = 3 ∨ (0 < bs[t] % 4 ∧ hasB (bs[t] / 4) = false))) (h0 : bs[t] % 4 = 2) (hs : t + 2 < bs.length) :
    Calls Try.prog 15 #[.slice A n c, .int .i64 t] w (DecPost w (opDec bs t)) := by
  have hta := arg_take2 bs t hs
  have hok := dec_ok bs t h hc (by rw [h0]; omega) (argQ bs[t + 1] bs[t + 2] 2) (by rw [h0]; exact hta)
  have hfm := dec_form bs t h hc (by rw [h0]; omega) (argQ bs[t + 1] bs[t + 2] 2) (by rw [h0]; exact hta)
  rw [h0] at hok hfm
  have HOK := Lib.hid hok
  have HFM := Lib.hid hfm
  clear hta hok hfm
  have hy0 := hb.get (show t + 1 < bs.length by omega)
  have hy1 := hb.get (show t + 2 < bs.length by omega)
  obtain ⟨b1, o1, he1, _, hd0⟩ := hr.num (show t + 1 < bs.length by omega)
  obtain ⟨b2, o2, he2, _, hd1⟩ := hr.num (show t + 2 < bs.length by omega)
  obtain ⟨b, o, rfl, _, hcell⟩ := hr.num h
  injection he1 with he1; injection he1 with he11 he12; subst he11; subst he12
  injection he2 with he2; injection he2 with he21 he22; subst he21; subst he22
  obtain ⟨hx0, hx1⟩ := hb.get h
  have hal := (hr.alloc (Nat.le_refl _) (.cells #[.int .i64 0, .int .i64 0] 28)).num h
  obtain ⟨b', o', he, hbw, hcell'⟩ := hal
  injection he with he; injection he with he3 he4; subst he3; subst he4
  have htn : t < n := by omega
  have g1 : (t : Int) < (n : Int) := by omega
  have hbx : Below w.heap.size w (w.alloc (.cells #[.int .i64 0, .int .i64 0] 28)) := (Below.refl _ _).alloc (Nat.le_refl _) _
  have HLT := Lib.hid (ltB_t (n := (t : Int)) (lo := 0) (hi := (n : Int)) (by omega))
  generalize bs[t] = x at *
  have hq0 : 0 ≤ x / 4 ∧ x / 4 ≤ 63 := by omega
  obtain ⟨hq1, hq2⟩ := hq0
  have HN := Lib.hid hn
  generalize bs[t + 1] = y0 at *
  generalize bs[t + 2] = y1 at *
  have hk : knB (x / 4) = true := by
    cases hk : knB (x / 4) with
    | true => rfl
    | false => exact absurd (Or.inl hk) hc
  have HK := Lib.hid hk
  have h38 : x / 4 ≠ 38 := fun hh => hc (Or.inr (Or.inl hh))
  have e38 : (x / 4 == 38) = false := by simpa using h38
  have hh : hasB (x / 4) = true := by
    cases hh : hasB (x / 4) with
    | true => rfl
    | false => exact absurd (Or.inr (Or.inr (Or.inr ⟨by omega, hh⟩))) hc
  have HH := Lib.hid hh
  have hbW : b < w.heap.size := by assumption
  have hcap : ¬ (c = t + 1) := by omega
  have hcap' : ¬ (t + 1 = c) := by omega
  have hlen : t + 2 < n := by omega
  have e5 : decide ((n : Int) - t - 1 < 2) = false := by simp; omega
  have ha := s8_bd y0
  obtain ⟨hy00, hy01⟩ := hy0
  obtain ⟨hy10, hy11⟩ := hy1
  obtain ⟨ha0, ha1⟩ := ha
  clear hn hk h38 hh hc
  go_enter Try.func15, Try.ntmps15
  go_wp2_with fail
  refine (opAmong_any (t : Int) 0 (n : Int) _).mono ?_
  rw [HLT.out]
  rintro e w' ⟨rfl, rfl⟩
  go_wp2_with fail
  go_quiet (fail)
  go_wp2_with fail
  refine (known_any (x / 4) _).mono ?_
  rw [HK.out]
  rintro e w' ⟨rfl, rfl⟩
  go_wp2_with fail
  refine (has_any (x / 4) _).mono ?_
  rw [HH.out]
  rintro e w1 ⟨rfl, hb1⟩
  have hb1' := below_call (below_drewN hbx _) hb1
  have hsz1 := hb1'.size
  obtain ⟨hc1, hf1⟩ := bcell hb1
  have hz1 : w.heap.size < w1.heap.size := by have := hb1.size; simp at this; omega
  go_wp2_with fail
  have hcA : w1.cell? ⟨b, o + (t + 1), none⟩ = some (.int .u8 y0) := by rw [hb1'.cell (p := ⟨b, _, none⟩) hbW]; exact hd0
  have hcB : w.cell? ⟨b, o + (t + 1) + 1, none⟩ = some (.int .u8 y1) := by rw [show o + (t + 1) + 1 = o + (t + 2) from by omega]; exact hd1
  go_loop [9, 10, 11, 70] (fun a _ _ i => ∃ q : Nat, q ≤ 2 ∧ i = .int .i64 q ∧ a = .int .i64 (argQ y0 y1 q)) (fun _ _ _ i => 2 - (intOf i).toNat)
  case atStart => exact ⟨0, by omega, rfl, rfl⟩
  case round =>
    obtain ⟨q, hq, rfl, rfl⟩ := hrel
    rcases (show q = 0 ∨ q = 1 ∨ q = 2 by omega) with rfl | rfl | rfl
    · go_wp2_with fail
      go_round
      case rel => refine ⟨1, by omega, rfl, ?_⟩; show Value.int .i64 _ = .int .i64 (s8 y0); congr 1; rw [w_i8, wrap64_in _ (by omega)]; rfl
      case measure => simp [intOf]
    · go_wp2_with fail
      go_round
      case rel => refine ⟨2, by omega, rfl, ?_⟩; show Value.int .i64 _ = .int .i64 (s8 y0 * 256 + y1); congr 1; rw [show argQ y0 y1 1 = s8 y0 from rfl, wrap64_in _ (by omega), or_two _ _ ⟨ha0, ha1⟩ ⟨hy10, hy11⟩]
      case measure => simp [intOf]
    · obtain ⟨a, ha⟩ : ∃ a, argQ y0 y1 2 = a := ⟨_, rfl⟩
      rw [ha]
      rw [ha] at HOK HFM
      clear ha
      by_cases hz : sizeN a = 2
      · have hfin := Lib.hid (HOK.out (by rw [hz]; simp))
        have HZ := Lib.hid hz
        clear hz
        go_wp2_with fail
        refine (opSize_any a _).mono ?_
        rw [HZ.out]
        rintro e w' ⟨rfl, rfl⟩
        go_wp2_with fail
        exact bodyPost_ret (v := .tuple #[.agg #[.int .i64 (x / 4), .int .i64 a], .int .i64 ((t : Int) + 1 + 2), .int .i64 0]) (by simp [results, Try.results15, go_sem, hc1]) rfl ⟨by rw [hfin.out], below_set2 hb1' _ _⟩
      · have hsl := sizeN_le a
        obtain ⟨S, HS⟩ : ∃ S, Hid (sizeN a = S) := ⟨_, rfl⟩
        rw [HS.out] at hz hsl
        have eS : (((S : Int)) != 2) = true := by simp; omega
        by_cases h24 : x / 4 = 24
        · have hfin := Lib.hid (HOK.out (fun h => h.2.1 h24))
          have e24 : (x / 4 != 24) = false := by simpa using h24
          clear h24 hz
          go_wp2_with fail
          refine (opSize_any a _).mono ?_
          rw [HS.out]
          rintro e w' ⟨rfl, rfl⟩
          go_wp2_with fail
          exact bodyPost_ret (v := .tuple #[.agg #[.int .i64 (x / 4), .int .i64 a], .int .i64 ((t : Int) + 1 + 2), .int .i64 0]) (by simp [results, Try.results15, go_sem, hc1]) rfl ⟨by rw [hfin.out], below_set2 hb1' _ _⟩
        · have e24 : (x / 4 != 24) = true := by simpa using h24
          by_cases h25 : x / 4 = 25
          · have hfin := Lib.hid (HOK.out (fun h => h.2.2 h25))
            have e25 : (x / 4 != 25) = false := by simpa using h25
            clear h24 h25 hz
            go_wp2_with fail
            refine (opSize_any a _).mono ?_
            rw [HS.out]
            rintro e w' ⟨rfl, rfl⟩
            go_wp2_with fail
            exact bodyPost_ret (v := .tuple #[.agg #[.int .i64 (x / 4), .int .i64 a], .int .i64 ((t : Int) + 1 + 2), .int .i64 0]) (by simp [results, Try.results15, go_sem, hc1]) rfl ⟨by rw [hfin.out], below_set2 hb1' _ _⟩
          · have e25 : (x / 4 != 25) = true := by simpa using h25
            have hfin := Lib.hid (HFM.out ⟨by rw [HS.out]; omega, h24, h25⟩)
            clear h24 h25 hz
            go_wp2_with fail
            refine (opSize_any a _).mono ?_
            rw [HS.out]
            rintro e w' ⟨rfl, rfl⟩
            go_wp2_with fail
            exact bodyPost_ret (v := .tuple #[.agg #[.int .i64 0, .int .i64 0], .int .i64 0, .int .i64 4]) (by simp [results, Try.results15, go_sem, hc1]) rfl ⟨by rw [hfin.out], below_set2 hb1' _ _⟩
/-- op.Decode. -/
theorem opDec_any (A : Option Addr) (n c : Nat) (bs : List Int) (t : Int) (w : World) (hr : Rd w w.heap.size A (cb .u8 bs)) (hn : n = bs.length) (hb : Bts bs) (hnc : n ≤ c) (hcm : c ≤ 9223372036854775807) (hl : n ≤ 100000000) :
    Calls Try.prog 15 #[.slice A n c, .int .i64 t] w (DecPost w (opDec bs t)) := by
  by_cases ht : 0 ≤ t ∧ t < bs.length
  · obtain ⟨q, rfl⟩ := Int.eq_ofNat_of_zero_le ht.1
    have h : q < bs.length := by omega
    by_cases hc : knB (bs[q] / 4) = false ∨ bs[q] / 4 = 38 ∨ bs[q] % 4 = 3 ∨ (0 < bs[q] % 4 ∧ hasB (bs[q] / 4) = false)
    · exact dec_code_walk A n c bs q w hr hn hb hnc hcm hl h hc
    · by_cases hs : (bs.length : Int) - q - 1 < bs[q] % 4
      · exact dec_short_walk A n c bs q w hr hn hb hnc hcm hl h hc hs
      · have hx := hb.get h
        rcases (show bs[q] % 4 = 0 ∨ bs[q] % 4 = 1 ∨ bs[q] % 4 = 2 by omega) with h0 | h0 | h0
        · exact dec_zero_walk A n c bs q w hr hn hb hnc hcm hl h hc h0
        · exact dec_arg1_walk A n c bs q w hr hn hb hnc hcm hl h hc h0 (by omega)
        · exact dec_arg2_walk A n c bs q w hr hn hb hnc hcm hl h hc h0 (by omega)
  · exact dec_out_walk A n c bs t w hn hl ht
end Go.Proofs.Ytfalhlnmjllfpaa
