/- The contracts of Codes and Cost, the program's and the reference's, and of sameInts. -/
import Derived.Test.YtianabgdggheiaaAlphaA
import Derived.Test.YtianabgdggheiaaAlphaB
namespace Go.Proofs.Ytianabgdggheiaa
open Go.RowKit Go.IntWalk
set_option maxRecDepth 100000
set_option linter.unusedVariables false

theorem aCodes_take (s : ByteArray) (k : Nat) (h : k < s.size) : aCodes ((tB s).take (k + 1)) = aCodes ((tB s).take k) ++ aSort s[k].toNat := by
  rw [tB_take s k h, aCodes_snoc]
theorem aCodes_take_len (s : ByteArray) (k : Nat) : (aCodes ((tB s).take k)).length ≤ 3 * k := by
  have := aCodes_len ((tB s).take k)
  rw [List.length_take] at this
  omega

set_option maxHeartbeats 800000 in
theorem codes_any (s : ByteArray) (w : World) (hs : s.size ≤ 100000000) :
    Calls Try.prog 10 #[.string s] w fun e w' => ∃ A n c, e = .returned (.tuple #[.slice A n c, .int .i64 (aTextCodes (tB s)).2]) ∧ Own w' w.heap.size 3 (.slice A n c) (cb .i64 (aTextCodes (tB s)).1) ∧ Below w.heap.size w w' := by
  cases ht : isTextB (tB s) with
  | false =>
    have hfin : Hid (aTextCodes (tB s) = ([], 13)) := by unfold Hid aTextCodes; rw [ht]; rfl
    have hT := Lib.hid ht
    clear ht
    go_enter Try.func10, Try.ntmps10
    go_wp2_with fail
    refine (isText_any s w (by omega)).mono ?_
    rw [hT.out]
    rintro e w' ⟨rfl, rfl⟩
    go_wp2
    go_ret2
    exact ⟨none, 0, 0, by rw [hfin.out]; rfl, by rw [hfin.out]; exact Own.nil _ _ _, Below.refl _ _⟩
  | true =>
    have hfin : Hid (aTextCodes (tB s) = (aCodes (tB s), 0)) := by unfold Hid aTextCodes; rw [ht]; rfl
    have hT := Lib.hid ht
    clear ht
    go_enter Try.func10, Try.ntmps10
    go_wp2_with fail
    refine (isText_any s w (by omega)).mono ?_
    rw [hT.out]
    rintro e w' ⟨rfl, rfl⟩
    go_wp2_with fail
    go_loopw [4, 11] (fun o i w2 => ∃ (k : Nat) (A : Option Addr) (n c : Nat), k ≤ s.size ∧ i = .int .i64 k ∧ o = .slice A n c ∧ Own w2 w.heap.size 3 (.slice A n c) (cb .i64 (aCodes ((tB s).take k))) ∧ Below w.heap.size w w2) (fun _ i _ => s.size - (intOf i).toNat)
    case atStart => exact ⟨0, none, 0, 0, by omega, rfl, rfl, Own.nil _ _ _, Below.refl _ _⟩
    case round =>
      obtain ⟨k, A, n, c, hk, rfl, rfl, hown, hbel⟩ := hrel
      have hb := hbel.size
      by_cases hlt : k < s.size
      · have hts := Lib.hid (aCodes_take s k hlt)
        have hln := aCodes_take_len s k
        have hl3 := aSort_len (s[k].toNat : Int)
        have hb1 : (s[k].toNat : Int) < 256 := by have := s[k].toNat_lt; omega
        have hb10 : (0 : Int) ≤ s[k].toNat := by omega
        go_wp2_with fail
        refine (sort_any (s[k].toNat : Int) _ hb10 hb1).mono ?_
        rintro e w3 ⟨A3, n3, c3, rfl, hown3, hb3⟩
        have hz := Lib.hid hown3.rd.1
        have hb4 := hb3.size
        go_wp2_with (at_builtin; refine wp_app elemInt rfl _ _ rfl rfl (hown.below hb3) rfl hown3.rd.2.2 hz.out (cb_one _ _) (by simp; omega) (by simp; omega) (by omega) ?_; intro A4 n4 c4 w4 hown4 hg4)
        go_roundw
        case rel => exact ⟨k + 1, A4, n4, c4, by omega, by go_num, rfl, by rw [hts.out, cb_append]; exact hown4, below_own (hbel.trans (hb3.mono hb)) hg4 (hown.below hb3) (Nat.le_refl _) (by omega)⟩
        case measure => simp [intOf]; omega
      · obtain rfl : k = s.size := by omega
        have hall : Hid ((tB s).take s.size = tB s) := List.take_of_length_le (by rw [tB_len]; omega)
        go_wp2
        go_ret2
        exact ⟨A, n, c, by rw [hfin.out]; rfl, by rw [hfin.out]; rw [hall.out] at hown; exact hown, hbel⟩

set_option maxHeartbeats 800000 in
theorem cost_any (s : ByteArray) (w : World) (hs : s.size ≤ 100000000) :
    Calls Try.prog 13 #[.string s] w fun e w' => e = .returned (.int .i64 (aCodes (tB s)).length) ∧ Below w.heap.size w w' := by
  go_enter Try.func13, Try.ntmps13
  go_wp2_with fail
  go_loopw [3, 7] (fun o i w2 => ∃ (k : Nat), k ≤ s.size ∧ i = .int .i64 k ∧ o = .int .i64 (aCodes ((tB s).take k)).length ∧ Below w.heap.size w w2) (fun _ i _ => s.size - (intOf i).toNat)
  case atStart => exact ⟨0, by omega, rfl, rfl, Below.refl _ _⟩
  case round =>
    obtain ⟨k, hk, rfl, rfl, hbel⟩ := hrel
    have hb := hbel.size
    by_cases hlt : k < s.size
    · have hts := Lib.hid (aCodes_take s k hlt)
      have hln := aCodes_take_len s k
      have hl3 := aSort_len (s[k].toNat : Int)
      have hb1 : (s[k].toNat : Int) < 256 := by have := s[k].toNat_lt; omega
      have hb10 : (0 : Int) ≤ s[k].toNat := by omega
      go_wp2_with fail
      refine (sort_any (s[k].toNat : Int) _ hb10 hb1).mono ?_
      rintro e w3 ⟨A3, n3, c3, rfl, hown3, hb3⟩
      have hz0 := hown3.rd.1
      rw [cb_length] at hz0
      have hz1 : n3 ≤ 3 := by omega
      have hz := Lib.hid hz0
      clear hz0
      go_wp2
      go_roundw
      case rel => exact ⟨k + 1, by omega, by go_num, by rw [hts.out, List.length_append, ← hz.out]; go_num, hbel.trans (hb3.mono hb)⟩
      case measure => simp [intOf]; omega
    · obtain rfl : k = s.size := by omega
      have hall : Hid ((tB s).take s.size = tB s) := List.take_of_length_le (by rw [tB_len]; omega)
      go_wp2
      go_ret
      exact ⟨by rw [hall.out]; rfl, hbel⟩

set_option maxHeartbeats 800000 in
theorem sameInts_any (A A' : Option Addr) (n n' c c' : Nat) (xs ys : List Int) (w : World) (B B' : Nat) (hr : Rd w B A (cb .i64 xs)) (hr' : Rd w B' A' (cb .i64 ys)) (hx : n = xs.length) (hy : n' = ys.length) (hm : xs.length ≤ 1000000000) :
    Calls Try.prog 12 #[.slice A n c, .slice A' n' c'] w fun e w' => e = .returned (.bool (xs == ys)) ∧ Below w.heap.size w w' := by
  subst hx
  by_cases hl : xs.length = n'
  · have hb0 : ((xs.length : Int) != (n' : Int)) = false := by simp; omega
    have HY := Lib.hid hy
    have HL := Lib.hid hl
    clear hy hl
    go_enter Try.func12, Try.ntmps12
    go_wp2
    go_loopw [13] (fun i w2 => ∃ k : Nat, k ≤ xs.length ∧ i = .int .i64 k ∧ Hid (∀ j, j < k → xs.getD j 0 = ys.getD j 0) ∧ Hid (∃ m, w2 = w.drewN m)) (fun i _ => xs.length - (intOf i).toNat)
    case atStart => exact ⟨0, by omega, rfl, by unfold Hid; intro j hj; omega, by unfold Hid; exact ⟨0, rfl⟩⟩
    case round =>
      obtain ⟨k, hk, rfl, hq, hw⟩ := hrel
      obtain ⟨m, rfl⟩ := hw.out
      by_cases hlt : k < xs.length
      · have hly : k < ys.length := by have := HY.out; have := HL.out; omega
        have hln : k < n' := by have := HL.out; omega
        obtain ⟨b, o, rfl, _, hc1⟩ := hr.num hlt
        obtain ⟨b', o', rfl, _, hc2⟩ := hr'.num hly
        have hx0 : xs.getD k 0 = xs[k] := by simp [List.getD, List.getElem?_eq_getElem hlt]
        have hy0 : ys.getD k 0 = ys[k] := by simp [List.getD, List.getElem?_eq_getElem hly]
        have g1 : (k : Int) < (xs.length : Int) := by omega
        have g2 : (k : Int) < (n' : Int) := by omega
        by_cases he : xs[k] = ys[k]
        · have e1 : (xs[k] != ys[k]) = false := by simpa using he
          have hq2 : Hid (∀ j, j < k + 1 → xs.getD j 0 = ys.getD j 0) := by
            unfold Hid
            intro j hj
            rcases Nat.lt_or_ge j k with h | h
            · exact hq.out j h
            · obtain rfl : j = k := by omega
              rw [hx0, hy0, he]
          clear hx0 hy0 he
          go_wp2_with fail
          go_quiet (fail)
          go_wp2
          go_roundw
          case rel => exact ⟨k + 1, by omega, by go_num, hq2, by unfold Hid; exact ⟨m + nq, rfl⟩⟩
          case measure => simp [intOf]; omega
        · have e1 : (xs[k] != ys[k]) = true := by simpa using he
          have hfin : Hid ((xs == ys) = false) := by
            unfold Hid
            rw [beq_eq_false_iff_ne]
            rintro rfl
            exact he rfl
          clear hx0 hy0 he
          go_wp2_with fail
          go_quiet (fail)
          go_wp2
          go_ret
          exact ⟨by rw [hfin.out]; rfl, by rw [World.drewN_drewN]; exact below_drewN (Below.refl _ _) _⟩
      · obtain rfl : k = xs.length := by omega
        have hfin : Hid ((xs == ys) = true) := by
          unfold Hid
          rw [beq_iff_eq]
          refine List.ext_getElem (by have := HY.out; have := HL.out; omega) fun j h1 h2 => ?_
          have := hq.out j h1
          simpa [List.getD, List.getElem?_eq_getElem h1, List.getElem?_eq_getElem h2] using this
        go_wp2
        go_ret
        exact ⟨by rw [hfin.out]; rfl, below_drewN (Below.refl _ _) _⟩
  · have hb0 : ((xs.length : Int) != (n' : Int)) = true := by simp; omega
    have hfin : Hid ((xs == ys) = false) := by
      unfold Hid
      rw [beq_eq_false_iff_ne]
      rintro rfl
      exact hl hy.symm
    clear hy hl
    go_enter Try.func12, Try.ntmps12
    go_wp2
    go_ret
    exact ⟨by rw [hfin.out]; rfl, Below.refl _ _⟩
end Go.Proofs.Ytianabgdggheiaa
