/- The contract of op.Decode. -/
import Derived.Test.YtfalhlnmjllfpaaOpE
namespace Go.Proofs.Ytfalhlnmjllfpaa
open Go.RowKit Go.IntWalk
set_option maxRecDepth 100000
set_option linter.unusedVariables false

/-- What 'Decode' gives back. -/
def DecPost (w : World) (r : Int × Int × Int × Int) (e : Ending) (w' : World) : Prop :=
  e = .returned (.tuple #[.agg #[.int .i64 r.1, .int .i64 r.2.1], .int .i64 r.2.2.1, .int .i64 r.2.2.2]) ∧ Below w.heap.size w w'
theorem dec_out (bs : List Int) (t : Int) (h : ¬ (0 ≤ t ∧ t < bs.length)) : opDec bs t = (0, 0, 0, 2) := by unfold opDec; rw [if_neg h]
section
variable (bs : List Int) (t : Nat) (h : t < bs.length)
include h
theorem dec_in : opDec bs t = (let x := bs[t]; let op := x / 4; let k := x % 4
    if knB op = false ∨ op = 38 ∨ k = 3 ∨ (0 < k ∧ hasB op = false) then (0, 0, 0, 16)
    else if (bs.length : Int) - t - 1 < k then (0, 0, 0, 2)
    else
      let n := argOf ((bs.drop (t + 1)).take k.toNat)
      if (sizeN n : Int) ≠ k ∧ op ≠ 24 ∧ op ≠ 25 then (0, 0, 0, 4) else (op, n, t + 1 + k, 0)) := by
  unfold opDec
  rw [if_pos (by omega)]
  simp only [Int.toNat_natCast, List.getD, List.getElem?_eq_getElem h, Option.getD_some]
theorem dec_code (hc : knB (bs[t] / 4) = false ∨ bs[t] / 4 = 38 ∨ bs[t] % 4 = 3 ∨ (0 < bs[t] % 4 ∧ hasB (bs[t] / 4) = false)) : opDec bs t = (0, 0, 0, 16) := by
  rw [dec_in bs t h]; simp only [if_pos hc]
theorem dec_short (hc : ¬ (knB (bs[t] / 4) = false ∨ bs[t] / 4 = 38 ∨ bs[t] % 4 = 3 ∨ (0 < bs[t] % 4 ∧ hasB (bs[t] / 4) = false))) (hs : (bs.length : Int) - t - 1 < bs[t] % 4) : opDec bs t = (0, 0, 0, 2) := by
  rw [dec_in bs t h]; simp only [if_neg hc, if_pos hs]
theorem dec_form (hc : ¬ (knB (bs[t] / 4) = false ∨ bs[t] / 4 = 38 ∨ bs[t] % 4 = 3 ∨ (0 < bs[t] % 4 ∧ hasB (bs[t] / 4) = false))) (hs : ¬ (bs.length : Int) - t - 1 < bs[t] % 4) (n : Int) (hn : argOf ((bs.drop (t + 1)).take (bs[t] % 4).toNat) = n) (hf : (sizeN n : Int) ≠ bs[t] % 4 ∧ bs[t] / 4 ≠ 24 ∧ bs[t] / 4 ≠ 25) : opDec bs t = (0, 0, 0, 4) := by
  rw [dec_in bs t h]; simp only [if_neg hc, if_neg hs, hn, if_pos hf]
theorem dec_ok (hc : ¬ (knB (bs[t] / 4) = false ∨ bs[t] / 4 = 38 ∨ bs[t] % 4 = 3 ∨ (0 < bs[t] % 4 ∧ hasB (bs[t] / 4) = false))) (hs : ¬ (bs.length : Int) - t - 1 < bs[t] % 4) (n : Int) (hn : argOf ((bs.drop (t + 1)).take (bs[t] % 4).toNat) = n) (hf : ¬ ((sizeN n : Int) ≠ bs[t] % 4 ∧ bs[t] / 4 ≠ 24 ∧ bs[t] / 4 ≠ 25)) : opDec bs t = (bs[t] / 4, n, t + 1 + bs[t] % 4, 0) := by
  rw [dec_in bs t h]; simp only [if_neg hc, if_neg hs, hn, if_neg hf]
end

theorem below_set2 {w W : World} (h : Below w.heap.size w W) (x y : Value) : Below w.heap.size w ((W.setCell ⟨w.heap.size, 0, none⟩ x).setCell ⟨w.heap.size, 1, none⟩ y) :=
  (h.setCell (p := ⟨w.heap.size, 0, none⟩) (Nat.le_refl _) x).setCell (p := ⟨w.heap.size, 1, none⟩) (Nat.le_refl _) y
set_option maxHeartbeats 1600000 in
theorem dec_out_walk (A : Option Addr) (n c : Nat) (bs : List Int) (t : Int) (w : World) (hn : n = bs.length) (hl : n ≤ 100000000) (h : ¬ (0 ≤ t ∧ t < bs.length)) :
    Calls Try.prog 15 #[.slice A n c, .int .i64 t] w (DecPost w (opDec bs t)) := by
  have hfin := Lib.hid (dec_out bs t h)
  have HLT := Lib.hid (ltB_f (n := t) (lo := 0) (hi := (n : Int)) (by rw [hn]; exact h))
  have hbx : Below w.heap.size w (w.alloc (.cells #[.int .i64 0, .int .i64 0] 28)) := (Below.refl _ _).alloc (Nat.le_refl _) _
  clear hn h
  go_enter Try.func15, Try.ntmps15
  go_wp2_with fail
  refine (opAmong_any t 0 (n : Int) _).mono ?_
  rw [HLT.out]
  rintro e w' ⟨rfl, rfl⟩
  go_wp2_with fail
  exact bodyPost_ret (v := .tuple #[.agg #[.int .i64 0, .int .i64 0], .int .i64 0, .int .i64 2]) (by simp [results, Try.results15, go_sem]) rfl ⟨by rw [hfin.out], hbx⟩

set_option maxHeartbeats 3200000 in
theorem dec_code_walk (A : Option Addr) (n c : Nat) (bs : List Int) (t : Nat) (w : World) (hr : Rd w w.heap.size A (cb .u8 bs)) (hn : n = bs.length) (hb : Bts bs) (hnc : n ≤ c) (hcm : c ≤ 9223372036854775807) (hl : n ≤ 100000000) (h : t < bs.length)
    (hc : knB (bs[t] / 4) = false ∨ bs[t] / 4 = 38 ∨ bs[t] % 4 = 3 ∨ (0 < bs[t] % 4 ∧ hasB (bs[t] / 4) = false)) :
    Calls Try.prog 15 #[.slice A n c, .int .i64 t] w (DecPost w (opDec bs t)) := by
  have hfin := Lib.hid (dec_code bs t h hc)
  obtain ⟨b, o, rfl, _, hcell⟩ := hr.num h
  obtain ⟨hx0, hx1⟩ := hb.get h
  have hal := (hr.alloc (Nat.le_refl _) (.cells #[.int .i64 0, .int .i64 0] 28)).num h
  obtain ⟨b', o', he, _, hcell'⟩ := hal
  injection he with he; injection he with he1 he2; subst he1; subst he2
  have htn : t < n := by omega
  have g1 : (t : Int) < (n : Int) := by omega
  have hbx : Below w.heap.size w (w.alloc (.cells #[.int .i64 0, .int .i64 0] 28)) := (Below.refl _ _).alloc (Nat.le_refl _) _
  have HLT := Lib.hid (ltB_t (n := (t : Int)) (lo := 0) (hi := (n : Int)) (by omega))
  generalize bs[t] = x at *
  have hq0 : 0 ≤ x / 4 ∧ x / 4 ≤ 63 := by omega
  obtain ⟨hq1, hq2⟩ := hq0
  have HN := Lib.hid hn
  clear hn
  cases hk : knB (x / 4) with
  | false =>
    have HK := Lib.hid hk
    clear hk hc
    go_enter Try.func15, Try.ntmps15
    go_wp2_with fail
    refine (opAmong_any (t : Int) 0 (n : Int) _).mono ?_
    rw [HLT.out]
    rintro e w' ⟨rfl, rfl⟩
    go_wp2_with fail
    go_quiet (fail)
    go_wp2_with fail
    refine (known_any (x / 4) _).mono ?_
    rw [HK.out]
    rintro e w' ⟨rfl, rfl⟩
    go_wp2_with fail
    exact bodyPost_ret (v := .tuple #[.agg #[.int .i64 0, .int .i64 0], .int .i64 0, .int .i64 16]) (by simp [results, Try.results15, go_sem]) rfl ⟨by rw [hfin.out], below_set2 (below_drewN hbx _) _ _⟩
  | true =>
    rw [hk] at hc
    have HK := Lib.hid hk
    clear hk
    by_cases h38 : x / 4 = 38
    · have e38 : (x / 4 == 38) = true := by simpa using h38
      clear h38 hc
      go_enter Try.func15, Try.ntmps15
      go_wp2_with fail
      refine (opAmong_any (t : Int) 0 (n : Int) _).mono ?_
      rw [HLT.out]
      rintro e w' ⟨rfl, rfl⟩
      go_wp2_with fail
      go_quiet (fail)
      go_wp2_with fail
      refine (known_any (x / 4) _).mono ?_
      rw [HK.out]
      rintro e w' ⟨rfl, rfl⟩
      go_wp2_with fail
      exact bodyPost_ret (v := .tuple #[.agg #[.int .i64 0, .int .i64 0], .int .i64 0, .int .i64 16]) (by simp [results, Try.results15, go_sem]) rfl ⟨by rw [hfin.out], below_set2 (below_drewN hbx _) _ _⟩
    · have e38 : (x / 4 == 38) = false := by simpa using h38
      by_cases h3 : x % 4 = 3
      · have e3 : (x % 4 == 3) = true := by simpa using h3
        clear h38 h3 hc
        go_enter Try.func15, Try.ntmps15
        go_wp2_with fail
        refine (opAmong_any (t : Int) 0 (n : Int) _).mono ?_
        rw [HLT.out]
        rintro e w' ⟨rfl, rfl⟩
        go_wp2_with fail
        go_quiet (fail)
        go_wp2_with fail
        refine (known_any (x / 4) _).mono ?_
        rw [HK.out]
        rintro e w' ⟨rfl, rfl⟩
        go_wp2_with fail
        exact bodyPost_ret (v := .tuple #[.agg #[.int .i64 0, .int .i64 0], .int .i64 0, .int .i64 16]) (by simp [results, Try.results15, go_sem]) rfl ⟨by rw [hfin.out], below_set2 (below_drewN hbx _) _ _⟩
      · have e3 : (x % 4 == 3) = false := by simpa using h3
        have hp : 0 < x % 4 ∧ hasB (x / 4) = false := by
          rcases hc with h | h | h | h
          · cases h
          · exact absurd h h38
          · exact absurd h h3
          · exact h
        have HH := Lib.hid hp.2
        have hp1 : decide (0 < x % 4) = true := by simpa using hp.1
        clear h38 h3 hc hp
        go_enter Try.func15, Try.ntmps15
        go_wp2_with fail
        refine (opAmong_any (t : Int) 0 (n : Int) _).mono ?_
        rw [HLT.out]
        rintro e w' ⟨rfl, rfl⟩
        go_wp2_with fail
        go_quiet (fail)
        go_wp2_with fail
        refine (known_any (x / 4) _).mono ?_
        rw [HK.out]
        rintro e w' ⟨rfl, rfl⟩
        go_wp2_with fail
        refine (has_any (x / 4) _).mono ?_
        rw [HH.out]
        rintro e w1 ⟨rfl, hb1⟩
        have hb1' := below_call (below_drewN hbx _) hb1
        have hsz1 := hb1'.size
        obtain ⟨hc1, hf1⟩ := bcell hb1
        have hz1 : w.heap.size < w1.heap.size := by have := hb1.size; simp at this; omega
        go_wp2_with fail
        exact bodyPost_ret (v := .tuple #[.agg #[.int .i64 0, .int .i64 0], .int .i64 0, .int .i64 16]) (by simp [results, Try.results15, go_sem, hc1]) rfl ⟨by rw [hfin.out], below_set2 hb1' _ _⟩
end Go.Proofs.Ytfalhlnmjllfpaa
