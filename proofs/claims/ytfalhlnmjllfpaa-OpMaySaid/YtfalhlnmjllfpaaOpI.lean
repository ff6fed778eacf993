/- The contract of the reference's Decode. -/
import Derived.Test.YtfalhlnmjllfpaaOpH
namespace Go.Proofs.Ytfalhlnmjllfpaa
open Go.RowKit Go.IntWalk
set_option maxRecDepth 100000
set_option linter.unusedVariables false

set_option maxHeartbeats 1600000 in
theorem rdec_out_walk (A : Option Addr) (n c : Nat) (bs : List Int) (t : Int) (w : World) (hn : n = bs.length) (hl : n ≤ 100000000) (h : ¬ (0 ≤ t ∧ t < bs.length)) :
    Calls Try.prog 16 #[.slice A n c, .int .i64 t] w (DecPost w (opDec bs t)) := by
  have hfin := Lib.hid (dec_out bs t h)
  have hbx : Below w.heap.size w (w.alloc (.cells #[.int .i64 0, .int .i64 0] 28)) := (Below.refl _ _).alloc (Nat.le_refl _) _
  rw [← hn] at h
  clear hn
  by_cases h1 : t < 0
  · have e1 : decide (t < 0) = true := by simpa using h1
    go_enter Try.func16, Try.ntmps16
    go_wp2_with fail
    exact bodyPost_ret (v := .tuple #[.agg #[.int .i64 0, .int .i64 0], .int .i64 0, .int .i64 2]) (by simp [results, Try.results16, go_sem]) rfl ⟨by rw [hfin.out], hbx⟩
  · have e1 : decide (t < 0) = false := by simpa using h1
    have e2 : decide ((n : Int) ≤ t) = true := by simp; omega
    go_enter Try.func16, Try.ntmps16
    go_wp2_with fail
    exact bodyPost_ret (v := .tuple #[.agg #[.int .i64 0, .int .i64 0], .int .i64 0, .int .i64 2]) (by simp [results, Try.results16, go_sem]) rfl ⟨by rw [hfin.out], hbx⟩

set_option maxHeartbeats 3200000 in
theorem rdec_code_walk (A : Option Addr) (n c : Nat) (bs : List Int) (t : Nat) (w : World) (hr : Rd w w.heap.size A (cb .u8 bs)) (hn : n = bs.length) (hb : Bts bs) (hl : n ≤ 100000000) (h : t < bs.length)
    (hc : knB (bs[t] / 4) = false ∨ bs[t] / 4 = 38 ∨ bs[t] % 4 = 3 ∨ (0 < bs[t] % 4 ∧ hasB (bs[t] / 4) = false)) :
    Calls Try.prog 16 #[.slice A n c, .int .i64 t] w (DecPost w (opDec bs t)) := by
  have hfin := Lib.hid (dec_code bs t h hc)
  obtain ⟨b, o, rfl, hbW, hcell⟩ := hr.num h
  obtain ⟨hx0, hx1⟩ := hb.get h
  have hal := (hr.alloc (Nat.le_refl _) (.cells #[.int .i64 0, .int .i64 0] 28)).num h
  obtain ⟨b', o', he, _, hcell'⟩ := hal
  injection he with he; injection he with he3 he4; subst he3; subst he4
  have htn : t < n := by omega
  have g1 : (t : Int) < (n : Int) := by omega
  have e00 : decide ((t : Int) < 0) = false := by simp
  have e01 : decide ((n : Int) ≤ (t : Int)) = false := by simp; omega
  have hbx : Below w.heap.size w (w.alloc (.cells #[.int .i64 0, .int .i64 0] 28)) := (Below.refl _ _).alloc (Nat.le_refl _) _
  generalize bs[t] = x at *
  have hq0 : 0 ≤ x / 4 ∧ x / 4 ≤ 63 := by omega
  obtain ⟨hq1, hq2⟩ := hq0
  have HN := Lib.hid hn
  clear hn
  by_cases h1 : x / 4 < 1
  · have e1 : decide (x / 4 < 1) = true := by simpa using h1
    clear hc
    go_enter Try.func16, Try.ntmps16
    go_wp2_with fail
    go_quiet (fail)
    go_wp2_with fail
    exact bodyPost_ret (v := .tuple #[.agg #[.int .i64 0, .int .i64 0], .int .i64 0, .int .i64 16]) (by simp [results, Try.results16, go_sem]) rfl ⟨by rw [hfin.out], below_set2 (below_drewN hbx _) _ _⟩
  · have e1 : decide (x / 4 < 1) = false := by simpa using h1
    by_cases h2 : 38 ≤ x / 4
    · have e2 : decide (38 ≤ x / 4) = true := by simpa using h2
      clear hc
      go_enter Try.func16, Try.ntmps16
      go_wp2_with fail
      go_quiet (fail)
      go_wp2_with fail
      exact bodyPost_ret (v := .tuple #[.agg #[.int .i64 0, .int .i64 0], .int .i64 0, .int .i64 16]) (by simp [results, Try.results16, go_sem]) rfl ⟨by rw [hfin.out], below_set2 (below_drewN hbx _) _ _⟩
    · have e2 : decide (38 ≤ x / 4) = false := by simpa using h2
      have hkn : knB (x / 4) = true := by unfold knB; simp; omega
      by_cases h3 : x % 4 = 3
      · have e3 : (x % 4 == 3) = true := by simpa using h3
        clear h3 hc hkn
        go_enter Try.func16, Try.ntmps16
        go_wp2_with fail
        go_quiet (fail)
        go_wp2_with fail
        exact bodyPost_ret (v := .tuple #[.agg #[.int .i64 0, .int .i64 0], .int .i64 0, .int .i64 16]) (by simp [results, Try.results16, go_sem]) rfl ⟨by rw [hfin.out], below_set2 (below_drewN hbx _) _ _⟩
      · have e3 : (x % 4 == 3) = false := by simpa using h3
        have hp : 0 < x % 4 ∧ hasB (x / 4) = false := by
          rcases hc with h | h | h | h
          · rw [hkn] at h; cases h
          · omega
          · exact absurd h h3
          · exact h
        have HH := Lib.hid hp.2
        have hp1 : decide (0 < x % 4) = true := by simpa using hp.1
        clear h3 hc hp hkn
        go_enter Try.func16, Try.ntmps16
        go_wp2_with fail
        go_quiet (fail)
        go_wp2_with fail
        refine (rhas_any (x / 4) _).mono ?_
        rw [HH.out]
        rintro e w1 ⟨rfl, hb1⟩
        have hb1' := below_call (below_drewN hbx _) hb1
        have hsz1 := hb1'.size
        obtain ⟨hc1, hf1⟩ := bcell hb1
        have hz1 : w.heap.size < w1.heap.size := by have := hb1.size; simp at this; omega
        go_wp2_with fail
        exact bodyPost_ret (v := .tuple #[.agg #[.int .i64 0, .int .i64 0], .int .i64 0, .int .i64 16]) (by simp [results, Try.results16, go_sem, hc1]) rfl ⟨by rw [hfin.out], below_set2 hb1' _ _⟩

set_option maxHeartbeats 3200000 in
theorem rdec_short_walk (A : Option Addr) (n c : Nat) (bs : List Int) (t : Nat) (w : World) (hr : Rd w w.heap.size A (cb .u8 bs)) (hn : n = bs.length) (hb : Bts bs) (hl : n ≤ 100000000) (h : t < bs.length)
    (hc : ¬ (knB (bs[t] / 4) = false ∨ bs[t] / 4 = 38 ∨ bs[t] % 4 = 3 ∨ (0 < bs[t] % 4 ∧ hasB (bs[t] / 4) = false))) (hs : (bs.length : Int) - t - 1 < bs[t] % 4) :
    Calls Try.prog 16 #[.slice A n c, .int .i64 t] w (DecPost w (opDec bs t)) := by
  have hfin := Lib.hid (dec_short bs t h hc hs)
  rw [← hn] at hs
  obtain ⟨b, o, rfl, hbW, hcell⟩ := hr.num h
  obtain ⟨hx0, hx1⟩ := hb.get h
  have hal := (hr.alloc (Nat.le_refl _) (.cells #[.int .i64 0, .int .i64 0] 28)).num h
  obtain ⟨b', o', he, _, hcell'⟩ := hal
  injection he with he; injection he with he3 he4; subst he3; subst he4
  have htn : t < n := by omega
  have g1 : (t : Int) < (n : Int) := by omega
  have e00 : decide ((t : Int) < 0) = false := by simp
  have e01 : decide ((n : Int) ≤ (t : Int)) = false := by simp; omega
  have hbx : Below w.heap.size w (w.alloc (.cells #[.int .i64 0, .int .i64 0] 28)) := (Below.refl _ _).alloc (Nat.le_refl _) _
  generalize bs[t] = x at *
  have hq0 : 0 ≤ x / 4 ∧ x / 4 ≤ 63 := by omega
  obtain ⟨hq1, hq2⟩ := hq0
  have HN := Lib.hid hn
  have hp : 0 < x % 4 := by omega
  have hk : knB (x / 4) = true := by
    cases hk : knB (x / 4) with
    | true => rfl
    | false => exact absurd (Or.inl hk) hc
  have hkb : 1 ≤ x / 4 ∧ x / 4 ≤ 38 := by simpa [knB] using hk
  have h38 : x / 4 ≠ 38 := fun hh => hc (Or.inr (Or.inl hh))
  have h3 : x % 4 ≠ 3 := fun hh => hc (Or.inr (Or.inr (Or.inl hh)))
  have e1 : decide (x / 4 < 1) = false := by simp; omega
  have e2 : decide (38 ≤ x / 4) = false := by simp; omega
  have e3 : (x % 4 == 3) = false := by simpa using h3
  have hh : hasB (x / 4) = true := by
    cases hh : hasB (x / 4) with
    | true => rfl
    | false => exact absurd (Or.inr (Or.inr (Or.inr ⟨hp, hh⟩))) hc
  have HH := Lib.hid hh
  have hp1 : decide (0 < x % 4) = true := by simpa using hp
  clear hn hk h38 h3 hh hc hp hkb
  go_enter Try.func16, Try.ntmps16
  go_wp2_with fail
  go_quiet (fail)
  go_wp2_with fail
  refine (rhas_any (x / 4) _).mono ?_
  rw [HH.out]
  rintro e w1 ⟨rfl, hb1⟩
  have hb1' := below_call (below_drewN hbx _) hb1
  have hsz1 := hb1'.size
  obtain ⟨hc1, hf1⟩ := bcell hb1
  have hz1 : w.heap.size < w1.heap.size := by have := hb1.size; simp at this; omega
  go_wp2_with fail
  exact bodyPost_ret (v := .tuple #[.agg #[.int .i64 0, .int .i64 0], .int .i64 0, .int .i64 2]) (by simp [results, Try.results16, go_sem, hc1]) rfl ⟨by rw [hfin.out], below_set2 hb1' _ _⟩

set_option maxHeartbeats 3200000 in
theorem rdec_zero_walk (A : Option Addr) (n c : Nat) (bs : List Int) (t : Nat) (w : World) (hr : Rd w w.heap.size A (cb .u8 bs)) (hn : n = bs.length) (hb : Bts bs) (hl : n ≤ 100000000) (h : t < bs.length)
    (hc : ¬ (knB (bs[t] / 4) = false ∨ bs[t] / 4 = 38 ∨ bs[t] % 4 = 3 ∨ (0 < bs[t] % 4 ∧ hasB (bs[t] / 4) = false))) (h0 : bs[t] % 4 = 0) :
    Calls Try.prog 16 #[.slice A n c, .int .i64 t] w (DecPost w (opDec bs t)) := by
  have hfin : Hid (opDec bs t = (bs[t] / 4, 0, (t : Int) + 1, 0)) := by
    unfold Hid
    rw [dec_ok bs t h hc (by omega) 0 (by rw [h0]; rfl) (by rw [h0]; simp [sizeN]), h0]
    simp
  obtain ⟨b, o, rfl, hbW, hcell⟩ := hr.num h
  obtain ⟨hx0, hx1⟩ := hb.get h
  have hal := (hr.alloc (Nat.le_refl _) (.cells #[.int .i64 0, .int .i64 0] 28)).num h
  obtain ⟨b', o', he, _, hcell'⟩ := hal
  injection he with he; injection he with he3 he4; subst he3; subst he4
  have htn : t < n := by omega
  have g1 : (t : Int) < (n : Int) := by omega
  have e00 : decide ((t : Int) < 0) = false := by simp
  have e01 : decide ((n : Int) ≤ (t : Int)) = false := by simp; omega
  have hbx : Below w.heap.size w (w.alloc (.cells #[.int .i64 0, .int .i64 0] 28)) := (Below.refl _ _).alloc (Nat.le_refl _) _
  generalize bs[t] = x at *
  have hq0 : 0 ≤ x / 4 ∧ x / 4 ≤ 63 := by omega
  obtain ⟨hq1, hq2⟩ := hq0
  have HN := Lib.hid hn
  have hk : knB (x / 4) = true := by
    cases hk : knB (x / 4) with
    | true => rfl
    | false => exact absurd (Or.inl hk) hc
  have hkb : 1 ≤ x / 4 ∧ x / 4 ≤ 38 := by simpa [knB] using hk
  have h38 : x / 4 ≠ 38 := fun hh => hc (Or.inr (Or.inl hh))
  have h3 : x % 4 ≠ 3 := fun hh => hc (Or.inr (Or.inr (Or.inl hh)))
  have e1 : decide (x / 4 < 1) = false := by simp; omega
  have e2 : decide (38 ≤ x / 4) = false := by simp; omega
  have e3 : (x % 4 == 3) = false := by simpa using h3
  clear hn hk h38 h3 hc hkb e3
  go_enter Try.func16, Try.ntmps16
  go_wp2_with fail
  go_quiet (fail)
  go_wp2_with fail
  refine (ropBytes_any 0 _).mono ?_
  rw [show sizeN 0 = 0 from rfl]
  rintro e w' ⟨rfl, rfl⟩
  go_wp2_with fail
  exact bodyPost_ret (v := .tuple #[.agg #[.int .i64 (x / 4), .int .i64 0], .int .i64 ((t : Int) + 1), .int .i64 0]) (by simp [results, Try.results16, go_sem]) rfl ⟨by rw [hfin.out], below_set2 (below_drewN hbx _) _ _⟩

set_option maxHeartbeats 3200000 in
theorem rdec_arg1_walk (A : Option Addr) (n c : Nat) (bs : List Int) (t : Nat) (w : World) (hr : Rd w w.heap.size A (cb .u8 bs)) (hn : n = bs.length) (hb : Bts bs) (hl : n ≤ 100000000) (h : t < bs.length)
    (hc : ¬ (knB (bs[t] / 4) = false ∨ bs[t] / 4 = 38 ∨ bs[t] % 4 = 3 ∨ (0 < bs[t] % 4 ∧ hasB (bs[t] / 4) = false))) (h0 : bs[t] % 4 = 1) (hs : t + 1 < bs.length) :
    Calls Try.prog 16 #[.slice A n c, .int .i64 t] w (DecPost w (opDec bs t)) := by
  have hta := arg_take1 bs t hs
  have hok := dec_ok bs t h hc (by rw [h0]; omega) (argQ bs[t + 1] 0 1) (by rw [h0]; exact hta)
  have hfm := dec_form bs t h hc (by rw [h0]; omega) (argQ bs[t + 1] 0 1) (by rw [h0]; exact hta)
  rw [h0] at hok hfm
  have HOK := Lib.hid hok
  have HFM := Lib.hid hfm
  clear hta hok hfm
  have hy0 := hb.get (show t + 1 < bs.length by omega)
  obtain ⟨b1, o1, he1, _, hd0⟩ := hr.num (show t + 1 < bs.length by omega)
  obtain ⟨b, o, rfl, hbW, hcell⟩ := hr.num h
  injection he1 with he1; injection he1 with he11 he12; subst he11; subst he12
  obtain ⟨hx0, hx1⟩ := hb.get h
  have hal := (hr.alloc (Nat.le_refl _) (.cells #[.int .i64 0, .int .i64 0] 28)).num h
  obtain ⟨b', o', he, _, hcell'⟩ := hal
  injection he with he; injection he with he3 he4; subst he3; subst he4
  have htn : t < n := by omega
  have g1 : (t : Int) < (n : Int) := by omega
  have e00 : decide ((t : Int) < 0) = false := by simp
  have e01 : decide ((n : Int) ≤ (t : Int)) = false := by simp; omega
  have hbx : Below w.heap.size w (w.alloc (.cells #[.int .i64 0, .int .i64 0] 28)) := (Below.refl _ _).alloc (Nat.le_refl _) _
  generalize bs[t] = x at *
  have hq0 : 0 ≤ x / 4 ∧ x / 4 ≤ 63 := by omega
  obtain ⟨hq1, hq2⟩ := hq0
  have HN := Lib.hid hn
  generalize bs[t + 1] = y0 at *
  have hk : knB (x / 4) = true := by
    cases hk : knB (x / 4) with
    | true => rfl
    | false => exact absurd (Or.inl hk) hc
  have hkb : 1 ≤ x / 4 ∧ x / 4 ≤ 38 := by simpa [knB] using hk
  have h38 : x / 4 ≠ 38 := fun hh => hc (Or.inr (Or.inl hh))
  have e1 : decide (x / 4 < 1) = false := by simp; omega
  have e2 : decide (38 ≤ x / 4) = false := by simp; omega
  have hp : 0 < x % 4 := by omega
  have hh : hasB (x / 4) = true := by
    cases hh : hasB (x / 4) with
    | true => rfl
    | false => exact absurd (Or.inr (Or.inr (Or.inr ⟨hp, hh⟩))) hc
  have HH := Lib.hid hh
  have hlen : t + 1 < n := by omega
  have g2 : (t : Int) + 1 < (n : Int) := by omega
  have g3 : (t : Int) + 1 < (n : Int) := by omega
  have e5 : decide ((n : Int) - t - 1 < 1) = false := by simp; omega
  obtain ⟨hy00, hy01⟩ := hy0
  clear hn hk h38 hh hc hkb hp
  go_enter Try.func16, Try.ntmps16
  go_wp2_with fail
  go_quiet (fail)
  go_wp2_with fail
  refine (rhas_any (x / 4) _).mono ?_
  rw [HH.out]
  rintro e w1 ⟨rfl, hb1⟩
  have hb1' := below_call (below_drewN hbx _) hb1
  have hsz1 := hb1'.size
  obtain ⟨hc1, hf1⟩ := bcell hb1
  have hz1 : w.heap.size < w1.heap.size := by have := hb1.size; simp at this; omega
  by_cases hy : 128 ≤ y0
  · obtain ⟨a, ha⟩ : ∃ a, argQ y0 0 1 = a := ⟨_, rfl⟩
    have ha2 : Hid (y0 - 256 = a) := by unfold Hid; rw [← ha]; show _ = s8 y0; unfold s8; omega
    rw [ha] at HOK HFM
    clear ha
    go_wp2_with fail
    rw [ha2.out]
    by_cases hz : sizeN a = 1
    · have hfin := Lib.hid (HOK.out (by rw [hz]; simp))
      have HZ := Lib.hid hz
      clear hz
      go_wp2_with fail
      refine (ropBytes_any a _).mono ?_
      rw [HZ.out]
      rintro e w' ⟨rfl, rfl⟩
      go_wp2_with fail
      exact bodyPost_ret (v := .tuple #[.agg #[.int .i64 (x / 4), .int .i64 a], .int .i64 ((t : Int) + 1 + 1), .int .i64 0]) (by simp [results, Try.results16, go_sem, hc1]) rfl ⟨by rw [hfin.out], below_set2 hb1' _ _⟩
    · have hsl := sizeN_le a
      obtain ⟨S, HS⟩ : ∃ S, Hid (sizeN a = S) := ⟨_, rfl⟩
      rw [HS.out] at hz hsl
      have eS : ((1 : Int) != (S : Int)) = true := by simp; omega
      by_cases h24 : x / 4 = 24
      · have hfin := Lib.hid (HOK.out (fun h => h.2.1 h24))
        have e24 : (x / 4 != 24) = false := by simpa using h24
        clear h24 hz
        go_wp2_with fail
        refine (ropBytes_any a _).mono ?_
        rw [HS.out]
        rintro e w' ⟨rfl, rfl⟩
        go_wp2_with fail
        exact bodyPost_ret (v := .tuple #[.agg #[.int .i64 (x / 4), .int .i64 a], .int .i64 ((t : Int) + 1 + 1), .int .i64 0]) (by simp [results, Try.results16, go_sem, hc1]) rfl ⟨by rw [hfin.out], below_set2 hb1' _ _⟩
      · have e24 : (x / 4 != 24) = true := by simpa using h24
        by_cases h25 : x / 4 = 25
        · have hfin := Lib.hid (HOK.out (fun h => h.2.2 h25))
          have e25 : (x / 4 != 25) = false := by simpa using h25
          clear h24 h25 hz
          go_wp2_with fail
          refine (ropBytes_any a _).mono ?_
          rw [HS.out]
          rintro e w' ⟨rfl, rfl⟩
          go_wp2_with fail
          exact bodyPost_ret (v := .tuple #[.agg #[.int .i64 (x / 4), .int .i64 a], .int .i64 ((t : Int) + 1 + 1), .int .i64 0]) (by simp [results, Try.results16, go_sem, hc1]) rfl ⟨by rw [hfin.out], below_set2 hb1' _ _⟩
        · have e25 : (x / 4 != 25) = true := by simpa using h25
          have hfin := Lib.hid (HFM.out ⟨by rw [HS.out]; omega, h24, h25⟩)
          clear h24 h25 hz
          go_wp2_with fail
          refine (ropBytes_any a _).mono ?_
          rw [HS.out]
          rintro e w' ⟨rfl, rfl⟩
          go_wp2_with fail
          exact bodyPost_ret (v := .tuple #[.agg #[.int .i64 0, .int .i64 0], .int .i64 0, .int .i64 4]) (by simp [results, Try.results16, go_sem, hc1]) rfl ⟨by rw [hfin.out], below_set2 hb1' _ _⟩
  · obtain ⟨a, ha⟩ : ∃ a, argQ y0 0 1 = a := ⟨_, rfl⟩
    have ha2 : Hid (y0 = a) := by unfold Hid; rw [← ha]; show _ = s8 y0; unfold s8; omega
    rw [ha] at HOK HFM
    clear ha
    have hy2 : y0 < 128 := by omega
    go_wp2_with fail
    rw [ha2.out]
    by_cases hz : sizeN a = 1
    · have hfin := Lib.hid (HOK.out (by rw [hz]; simp))
      have HZ := Lib.hid hz
      clear hz
      go_wp2_with fail
      refine (ropBytes_any a _).mono ?_
      rw [HZ.out]
      rintro e w' ⟨rfl, rfl⟩
      go_wp2_with fail
      exact bodyPost_ret (v := .tuple #[.agg #[.int .i64 (x / 4), .int .i64 a], .int .i64 ((t : Int) + 1 + 1), .int .i64 0]) (by simp [results, Try.results16, go_sem, hc1]) rfl ⟨by rw [hfin.out], below_set2 hb1' _ _⟩
    · have hsl := sizeN_le a
      obtain ⟨S, HS⟩ : ∃ S, Hid (sizeN a = S) := ⟨_, rfl⟩
      rw [HS.out] at hz hsl
      have eS : ((1 : Int) != (S : Int)) = true := by simp; omega
      by_cases h24 : x / 4 = 24
      · have hfin := Lib.hid (HOK.out (fun h => h.2.1 h24))
        have e24 : (x / 4 != 24) = false := by simpa using h24
        clear h24 hz
        go_wp2_with fail
        refine (ropBytes_any a _).mono ?_
        rw [HS.out]
        rintro e w' ⟨rfl, rfl⟩
        go_wp2_with fail
        exact bodyPost_ret (v := .tuple #[.agg #[.int .i64 (x / 4), .int .i64 a], .int .i64 ((t : Int) + 1 + 1), .int .i64 0]) (by simp [results, Try.results16, go_sem, hc1]) rfl ⟨by rw [hfin.out], below_set2 hb1' _ _⟩
      · have e24 : (x / 4 != 24) = true := by simpa using h24
        by_cases h25 : x / 4 = 25
        · have hfin := Lib.hid (HOK.out (fun h => h.2.2 h25))
          have e25 : (x / 4 != 25) = false := by simpa using h25
          clear h24 h25 hz
          go_wp2_with fail
          refine (ropBytes_any a _).mono ?_
          rw [HS.out]
          rintro e w' ⟨rfl, rfl⟩
          go_wp2_with fail
          exact bodyPost_ret (v := .tuple #[.agg #[.int .i64 (x / 4), .int .i64 a], .int .i64 ((t : Int) + 1 + 1), .int .i64 0]) (by simp [results, Try.results16, go_sem, hc1]) rfl ⟨by rw [hfin.out], below_set2 hb1' _ _⟩
        · have e25 : (x / 4 != 25) = true := by simpa using h25
          have hfin := Lib.hid (HFM.out ⟨by rw [HS.out]; omega, h24, h25⟩)
          clear h24 h25 hz
          go_wp2_with fail
          refine (ropBytes_any a _).mono ?_
          rw [HS.out]
          rintro e w' ⟨rfl, rfl⟩
          go_wp2_with fail
          exact bodyPost_ret (v := .tuple #[.agg #[.int .i64 0, .int .i64 0], .int .i64 0, .int .i64 4]) (by simp [results, Try.results16, go_sem, hc1]) rfl ⟨by rw [hfin.out], below_set2 hb1' _ _⟩

set_option maxHeartbeats 3200000 in
theorem rdec_arg2_walk (A : Option Addr) (n c : Nat) (bs : List Int) (t : Nat) (w : World) (hr : Rd w w.heap.size A (cb .u8 bs)) (hn : n = bs.length) (hb : Bts bs) (hl : n ≤ 100000000) (h : t < bs.length)
    (hc : ¬ (knB (bs[t] / 4) = false ∨ bs[t] / 4 = 38 ∨ bs[t] % 4 = 3 ∨ (0 < bs[t] % 4 ∧ hasB (bs[t] / 4) = false))) (h0 : bs[t] % 4 = 2) (hs : t + 2 < bs.length) :
    Calls Try.prog 16 #[.slice A n c, .int .i64 t] w (DecPost w (opDec bs t)) := by
  have hta := arg_take2 bs t hs
  have hok := dec_ok bs t h hc (by rw [h0]; omega) (argQ bs[t + 1] bs[t + 2] 2) (by rw [h0]; exact hta)
  have hfm := dec_form bs t h hc (by rw [h0]; omega) (argQ bs[t + 1] bs[t + 2] 2) (by rw [h0]; exact hta)
  rw [h0] at hok hfm
  have HOK := Lib.hid hok
  have HFM := Lib.hid hfm
  clear hta hok hfm
  have hy0 := hb.get (show t + 1 < bs.length by omega)
  have hy1 := hb.get (show t + 2 < bs.length by omega)
  obtain ⟨b1, o1, he1, _, hd0⟩ := hr.num (show t + 1 < bs.length by omega)
  obtain ⟨b2, o2, he2, _, hd1⟩ := hr.num (show t + 2 < bs.length by omega)
  obtain ⟨b, o, rfl, hbW, hcell⟩ := hr.num h
  injection he1 with he1; injection he1 with he11 he12; subst he11; subst he12
  injection he2 with he2; injection he2 with he21 he22; subst he21; subst he22
  obtain ⟨hx0, hx1⟩ := hb.get h
  have hal := (hr.alloc (Nat.le_refl _) (.cells #[.int .i64 0, .int .i64 0] 28)).num h
  obtain ⟨b', o', he, _, hcell'⟩ := hal
  injection he with he; injection he with he3 he4; subst he3; subst he4
  have htn : t < n := by omega
  have g1 : (t : Int) < (n : Int) := by omega
  have e00 : decide ((t : Int) < 0) = false := by simp
  have e01 : decide ((n : Int) ≤ (t : Int)) = false := by simp; omega
  have hbx : Below w.heap.size w (w.alloc (.cells #[.int .i64 0, .int .i64 0] 28)) := (Below.refl _ _).alloc (Nat.le_refl _) _
  generalize bs[t] = x at *
  have hq0 : 0 ≤ x / 4 ∧ x / 4 ≤ 63 := by omega
  obtain ⟨hq1, hq2⟩ := hq0
  have HN := Lib.hid hn
  generalize bs[t + 1] = y0 at *
  generalize bs[t + 2] = y1 at *
  have hk : knB (x / 4) = true := by
    cases hk : knB (x / 4) with
    | true => rfl
    | false => exact absurd (Or.inl hk) hc
  have hkb : 1 ≤ x / 4 ∧ x / 4 ≤ 38 := by simpa [knB] using hk
  have h38 : x / 4 ≠ 38 := fun hh => hc (Or.inr (Or.inl hh))
  have e1 : decide (x / 4 < 1) = false := by simp; omega
  have e2 : decide (38 ≤ x / 4) = false := by simp; omega
  have hp : 0 < x % 4 := by omega
  have hh : hasB (x / 4) = true := by
    cases hh : hasB (x / 4) with
    | true => rfl
    | false => exact absurd (Or.inr (Or.inr (Or.inr ⟨hp, hh⟩))) hc
  have HH := Lib.hid hh
  have hlen : t + 2 < n := by omega
  have g2 : (t : Int) + 1 < (n : Int) := by omega
  have g3 : (t : Int) + 2 < (n : Int) := by omega
  have e5 : decide ((n : Int) - t - 1 < 2) = false := by simp; omega
  obtain ⟨hy00, hy01⟩ := hy0
  obtain ⟨hy10, hy11⟩ := hy1
  clear hn hk h38 hh hc hkb hp
  go_enter Try.func16, Try.ntmps16
  go_wp2_with fail
  go_quiet (fail)
  go_wp2_with fail
  refine (rhas_any (x / 4) _).mono ?_
  rw [HH.out]
  rintro e w1 ⟨rfl, hb1⟩
  have hb1' := below_call (below_drewN hbx _) hb1
  have hsz1 := hb1'.size
  obtain ⟨hc1, hf1⟩ := bcell hb1
  have hz1 : w.heap.size < w1.heap.size := by have := hb1.size; simp at this; omega
  go_wp2_with fail
  obtain ⟨a, ha⟩ : ∃ a, argQ y0 y1 2 = a := ⟨_, rfl⟩
  have ha2 : Hid (wrap16 (256 * y0 + y1) = a) := by unfold Hid; rw [← ha]; show _ = s8 y0 * 256 + y1; unfold s8 wrap16; omega
  rw [ha] at HOK HFM
  clear ha
  have V1 : IntKind.i64.wrap ((t : Int) + 1) = t + 1 := IntWalk.i64_in _ (by omega)
  have V2 : IntKind.i64.wrap ((t : Int) + 2) = t + 2 := IntWalk.i64_in _ (by omega)
  have V3 : IntKind.i64.wrap (256 * y0) = 256 * y0 := IntWalk.i64_in _ (by omega)
  have V4 : IntKind.i64.wrap (256 * y0 + y1) = 256 * y0 + y1 := IntWalk.i64_in _ (by omega)
  have V5 : 0 ≤ (t : Int) + 1 := by omega
  have V6 : 0 ≤ (t : Int) + 2 := by omega
  have V7 : ((t : Int) + 1).toNat = t + 1 := by omega
  have V8 : ((t : Int) + 2).toNat = t + 2 := by omega
  go_quiet ((go_at_call 33; refine (rwrap_any _ _).mono ?_; rintro e w'' ⟨rfl, rfl⟩; exact ⟨rfl, _, rfl⟩))
  clear V1 V2 V3 V4 V5 V6 V7 V8
  go_wp2_with fail
  rw [ha2.out]
  by_cases hz : sizeN a = 2
  · have hfin := Lib.hid (HOK.out (by rw [hz]; simp))
    have HZ := Lib.hid hz
    clear hz
    go_wp2_with fail
    refine (ropBytes_any a _).mono ?_
    rw [HZ.out]
    rintro e w' ⟨rfl, rfl⟩
    go_wp2_with fail
    exact bodyPost_ret (v := .tuple #[.agg #[.int .i64 (x / 4), .int .i64 a], .int .i64 ((t : Int) + 1 + 2), .int .i64 0]) (by simp [results, Try.results16, go_sem, hc1]) rfl ⟨by rw [hfin.out], below_set2 (below_drewN hb1' _) _ _⟩
  · have hsl := sizeN_le a
    obtain ⟨S, HS⟩ : ∃ S, Hid (sizeN a = S) := ⟨_, rfl⟩
    rw [HS.out] at hz hsl
    have eS : ((2 : Int) != (S : Int)) = true := by simp; omega
    by_cases h24 : x / 4 = 24
    · have hfin := Lib.hid (HOK.out (fun h => h.2.1 h24))
      have e24 : (x / 4 != 24) = false := by simpa using h24
      clear h24 hz
      go_wp2_with fail
      refine (ropBytes_any a _).mono ?_
      rw [HS.out]
      rintro e w' ⟨rfl, rfl⟩
      go_wp2_with fail
      exact bodyPost_ret (v := .tuple #[.agg #[.int .i64 (x / 4), .int .i64 a], .int .i64 ((t : Int) + 1 + 2), .int .i64 0]) (by simp [results, Try.results16, go_sem, hc1]) rfl ⟨by rw [hfin.out], below_set2 (below_drewN hb1' _) _ _⟩
    · have e24 : (x / 4 != 24) = true := by simpa using h24
      by_cases h25 : x / 4 = 25
      · have hfin := Lib.hid (HOK.out (fun h => h.2.2 h25))
        have e25 : (x / 4 != 25) = false := by simpa using h25
        clear h24 h25 hz
        go_wp2_with fail
        refine (ropBytes_any a _).mono ?_
        rw [HS.out]
        rintro e w' ⟨rfl, rfl⟩
        go_wp2_with fail
        exact bodyPost_ret (v := .tuple #[.agg #[.int .i64 (x / 4), .int .i64 a], .int .i64 ((t : Int) + 1 + 2), .int .i64 0]) (by simp [results, Try.results16, go_sem, hc1]) rfl ⟨by rw [hfin.out], below_set2 (below_drewN hb1' _) _ _⟩
      · have e25 : (x / 4 != 25) = true := by simpa using h25
        have hfin := Lib.hid (HFM.out ⟨by rw [HS.out]; omega, h24, h25⟩)
        clear h24 h25 hz
        go_wp2_with fail
        refine (ropBytes_any a _).mono ?_
        rw [HS.out]
        rintro e w' ⟨rfl, rfl⟩
        go_wp2_with fail
        exact bodyPost_ret (v := .tuple #[.agg #[.int .i64 0, .int .i64 0], .int .i64 0, .int .i64 4]) (by simp [results, Try.results16, go_sem, hc1]) rfl ⟨by rw [hfin.out], below_set2 (below_drewN hb1' _) _ _⟩

/-- clewref27.Decode. -/
theorem ropDec_any (A : Option Addr) (n c : Nat) (bs : List Int) (t : Int) (w : World) (hr : Rd w w.heap.size A (cb .u8 bs)) (hn : n = bs.length) (hb : Bts bs) (hl : n ≤ 100000000) :
    Calls Try.prog 16 #[.slice A n c, .int .i64 t] w (DecPost w (opDec bs t)) := by
  by_cases ht : 0 ≤ t ∧ t < bs.length
  · obtain ⟨q, rfl⟩ := Int.eq_ofNat_of_zero_le ht.1
    have h : q < bs.length := by omega
    by_cases hc : knB (bs[q] / 4) = false ∨ bs[q] / 4 = 38 ∨ bs[q] % 4 = 3 ∨ (0 < bs[q] % 4 ∧ hasB (bs[q] / 4) = false)
    · exact rdec_code_walk A n c bs q w hr hn hb hl h hc
    · by_cases hs : (bs.length : Int) - q - 1 < bs[q] % 4
      · exact rdec_short_walk A n c bs q w hr hn hb hl h hc hs
      · have hx := hb.get h
        rcases (show bs[q] % 4 = 0 ∨ bs[q] % 4 = 1 ∨ bs[q] % 4 = 2 by omega) with h0 | h0 | h0
        · exact rdec_zero_walk A n c bs q w hr hn hb hl h hc h0
        · exact rdec_arg1_walk A n c bs q w hr hn hb hl h hc h0 (by omega)
        · exact rdec_arg2_walk A n c bs q w hr hn hb hl h hc h0 (by omega)
  · exact rdec_out_walk A n c bs t w hn hl ht
end Go.Proofs.Ytfalhlnmjllfpaa
