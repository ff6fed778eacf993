/- The contract of op.Decode, where the bytes lack and where there is no argument. -/
import Derived.Test.YtfalhlnmjllfpaaOpF
namespace Go.Proofs.Ytfalhlnmjllfpaa
open Go.RowKit Go.IntWalk
set_option maxRecDepth 100000
set_option linter.unusedVariables false

set_option maxHeartbeats 3200000 in
theorem dec_short_walk (A : Option Addr) (n c : Nat) (bs : List Int) (t : Nat) (w : World) (hr : Rd w w.heap.size A (cb .u8 bs)) (hn : n = bs.length) (hb : Bts bs) (hnc : n ≤ c) (hcm : c ≤ 9223372036854775807) (hl : n ≤ 100000000) (h : t < bs.length)
    (hc : ¬ (knB (bs[t] / 4) = false ∨ bs[t] / 4 = 38 ∨ bs[t] % 4 = 3 ∨ (0 < bs[t] % 4 ∧ hasB (bs[t] / 4) = false))) (hs : (bs.length : Int) - t - 1 < bs[t] % 4) :
    Calls Try.prog 15 #[.slice A n c, .int .i64 t] w (DecPost w (opDec bs t)) := by
  have hfin := Lib.hid (dec_short bs t h hc hs)
  rw [← hn] at hs
  obtain ⟨b, o, rfl, _, hcell⟩ := hr.num h
  obtain ⟨hx0, hx1⟩ := hb.get h
  have hal := (hr.alloc (Nat.le_refl _) (.cells #[.int .i64 0, .int .i64 0] 28)).num h
  obtain ⟨b', o', he, hbw, hcell'⟩ := hal
  injection he with he; injection he with he1 he2; subst he1; subst he2
  have htn : t < n := by omega
  have g1 : (t : Int) < (n : Int) := by omega
  have hbx : Below w.heap.size w (w.alloc (.cells #[.int .i64 0, .int .i64 0] 28)) := (Below.refl _ _).alloc (Nat.le_refl _) _
  have HLT := Lib.hid (ltB_t (n := (t : Int)) (lo := 0) (hi := (n : Int)) (by omega))
  generalize bs[t] = x at *
  have hq0 : 0 ≤ x / 4 ∧ x / 4 ≤ 63 := by omega
  obtain ⟨hq1, hq2⟩ := hq0
  have HN := Lib.hid hn
  have hp : 0 < x % 4 := by omega
  have hk : knB (x / 4) = true := by
    cases hk : knB (x / 4) with
    | true => rfl
    | false => exact absurd (Or.inl hk) hc
  have HK := Lib.hid hk
  have h38 : x / 4 ≠ 38 := fun hh => hc (Or.inr (Or.inl hh))
  have h3 : x % 4 ≠ 3 := fun hh => hc (Or.inr (Or.inr (Or.inl hh)))
  have e38 : (x / 4 == 38) = false := by simpa using h38
  have e3 : (x % 4 == 3) = false := by simpa using h3
  have hh : hasB (x / 4) = true := by
    cases hh : hasB (x / 4) with
    | true => rfl
    | false => exact absurd (Or.inr (Or.inr (Or.inr ⟨hp, hh⟩))) hc
  have HH := Lib.hid hh
  have hp1 : decide (0 < x % 4) = true := by simpa using hp
  clear hn hk h38 h3 hh hc hp
  go_enter Try.func15, Try.ntmps15
  go_wp2_with fail
  refine (opAmong_any (t : Int) 0 (n : Int) _).mono ?_
  rw [HLT.out]
  rintro e w' ⟨rfl, rfl⟩
  go_wp2_with fail
  go_quiet (fail)
  go_wp2_with fail
  refine (known_any (x / 4) _).mono ?_
  rw [HK.out]
  rintro e w' ⟨rfl, rfl⟩
  go_wp2_with fail
  refine (has_any (x / 4) _).mono ?_
  rw [HH.out]
  rintro e w1 ⟨rfl, hb1⟩
  have hb1' := below_call (below_drewN hbx _) hb1
  have hsz1 := hb1'.size
  obtain ⟨hc1, hf1⟩ := bcell hb1
  have hz1 : w.heap.size < w1.heap.size := by have := hb1.size; simp at this; omega
  go_wp2_with fail
  exact bodyPost_ret (v := .tuple #[.agg #[.int .i64 0, .int .i64 0], .int .i64 0, .int .i64 2]) (by simp [results, Try.results15, go_sem, hc1]) rfl ⟨by rw [hfin.out], below_set2 hb1' _ _⟩

set_option maxHeartbeats 3200000 in
theorem dec_zero_walk (A : Option Addr) (n c : Nat) (bs : List Int) (t : Nat) (w : World) (hr : Rd w w.heap.size A (cb .u8 bs)) (hn : n = bs.length) (hb : Bts bs) (hnc : n ≤ c) (hcm : c ≤ 9223372036854775807) (hl : n ≤ 100000000) (h : t < bs.length)
    (hc : ¬ (knB (bs[t] / 4) = false ∨ bs[t] / 4 = 38 ∨ bs[t] % 4 = 3 ∨ (0 < bs[t] % 4 ∧ hasB (bs[t] / 4) = false))) (h0 : bs[t] % 4 = 0) :
    Calls Try.prog 15 #[.slice A n c, .int .i64 t] w (DecPost w (opDec bs t)) := by
  have hfin : Hid (opDec bs t = (bs[t] / 4, 0, (t : Int) + 1, 0)) := by
    unfold Hid
    rw [dec_ok bs t h hc (by omega) 0 (by rw [h0]; rfl) (by rw [h0]; simp [sizeN]), h0]
    simp
  obtain ⟨b, o, rfl, _, hcell⟩ := hr.num h
  obtain ⟨hx0, hx1⟩ := hb.get h
  have hal := (hr.alloc (Nat.le_refl _) (.cells #[.int .i64 0, .int .i64 0] 28)).num h
  obtain ⟨b', o', he, hbw, hcell'⟩ := hal
  injection he with he; injection he with he1 he2; subst he1; subst he2
  have htn : t < n := by omega
  have g1 : (t : Int) < (n : Int) := by omega
  have hbx : Below w.heap.size w (w.alloc (.cells #[.int .i64 0, .int .i64 0] 28)) := (Below.refl _ _).alloc (Nat.le_refl _) _
  have HLT := Lib.hid (ltB_t (n := (t : Int)) (lo := 0) (hi := (n : Int)) (by omega))
  generalize bs[t] = x at *
  have hq0 : 0 ≤ x / 4 ∧ x / 4 ≤ 63 := by omega
  obtain ⟨hq1, hq2⟩ := hq0
  have HN := Lib.hid hn
  have hk : knB (x / 4) = true := by
    cases hk : knB (x / 4) with
    | true => rfl
    | false => exact absurd (Or.inl hk) hc
  have HK := Lib.hid hk
  have h38 : x / 4 ≠ 38 := fun hh => hc (Or.inr (Or.inl hh))
  have h3 : x % 4 ≠ 3 := fun hh => hc (Or.inr (Or.inr (Or.inl hh)))
  have e38 : (x / 4 == 38) = false := by simpa using h38
  have e3 : (x % 4 == 3) = false := by simpa using h3
  have hp1 : decide (0 < x % 4) = false := by simp; omega
  have HC := Lib.hid hc
  clear hn hk h38 h3 hc hp1 e3
  by_cases hcap : c = t + 1
  · subst hcap
    go_enter Try.func15, Try.ntmps15
    go_wp2_with fail
    refine (opAmong_any (t : Int) 0 (n : Int) _).mono ?_
    rw [HLT.out]
    rintro e w' ⟨rfl, rfl⟩
    go_wp2_with fail
    go_quiet (fail)
    go_wp2_with fail
    refine (known_any (x / 4) _).mono ?_
    rw [HK.out]
    rintro e w' ⟨rfl, rfl⟩
    go_wp2_with fail
    go_loop [9, 10, 11, 70] (fun a _ _ i => a = .int .i64 0 ∧ i = .int .i64 0) (fun _ _ _ _ => 0)
    case atStart => exact ⟨rfl, rfl⟩
    case round =>
      obtain ⟨rfl, rfl⟩ := hrel
      go_wp2_with (go_at_call 32; refine (opSize_any 0 _).mono ?_; rw [show sizeN 0 = 0 from rfl]; rintro e w' ⟨rfl, rfl⟩)
      exact bodyPost_ret (v := .tuple #[.agg #[.int .i64 (x / 4), .int .i64 0], .int .i64 ((t : Int) + 1), .int .i64 0]) (by simp [results, Try.results15, go_sem]) rfl ⟨by rw [hfin.out], below_set2 (below_drewN hbx _) _ _⟩
  · have hcap' : ¬ (t + 1 = c) := fun h => hcap h.symm
    go_enter Try.func15, Try.ntmps15
    go_wp2_with fail
    refine (opAmong_any (t : Int) 0 (n : Int) _).mono ?_
    rw [HLT.out]
    rintro e w' ⟨rfl, rfl⟩
    go_wp2_with fail
    go_quiet (fail)
    go_wp2_with fail
    refine (known_any (x / 4) _).mono ?_
    rw [HK.out]
    rintro e w' ⟨rfl, rfl⟩
    go_wp2_with fail
    go_loop [9, 10, 11, 70] (fun a _ _ i => a = .int .i64 0 ∧ i = .int .i64 0) (fun _ _ _ _ => 0)
    case atStart => exact ⟨rfl, rfl⟩
    case round =>
      obtain ⟨rfl, rfl⟩ := hrel
      go_wp2_with (go_at_call 32; refine (opSize_any 0 _).mono ?_; rw [show sizeN 0 = 0 from rfl]; rintro e w' ⟨rfl, rfl⟩)
      exact bodyPost_ret (v := .tuple #[.agg #[.int .i64 (x / 4), .int .i64 0], .int .i64 ((t : Int) + 1), .int .i64 0]) (by simp [results, Try.results15, go_sem]) rfl ⟨by rw [hfin.out], below_set2 (below_drewN hbx _) _ _⟩
end Go.Proofs.Ytfalhlnmjllfpaa
