/- The contracts of Unpack, the program's and the reference's. -/
import Derived.Test.YtianabgdggheiaaAlphaD
namespace Go.Proofs.Ytianabgdggheiaa
open Go.RowKit Go.IntWalk
set_option maxRecDepth 100000
set_option linter.unusedVariables false

theorem aOut_succ (bs : List Int) (k : Nat) : aOut bs (k + 1) = aOut bs k ++ [code5 bs (5 * k)] := by
  simp [aOut, List.range_succ]
theorem aOut_len (bs : List Int) (k : Nat) : (aOut bs k).length = k := by simp [aOut]
theorem aUnpack_none (bs : List Int) (h : ∀ j, j < 8 * bs.length / 5 → code5 bs (5 * j) ≠ 31) : aUnpack bs = ([], 2) := by
  unfold aUnpack
  have : (List.range (8 * bs.length / 5)).find? (fun j => code5 bs (5 * j) == 31) = none := by
    rw [List.find?_eq_none]
    intro x hx
    have := h x (List.mem_range.1 hx)
    simpa using this
  rw [this]
theorem aUnpack_some (bs : List Int) (k : Nat) (hk : k < 8 * bs.length / 5) (h : ∀ j, j < k → code5 bs (5 * j) ≠ 31) (he : code5 bs (5 * k) = 31) : aUnpack bs = aEnd bs (5 * k + 5) (aOut bs k) := by
  unfold aUnpack
  have : (List.range (8 * bs.length / 5)).find? (fun j => code5 bs (5 * j) == 31) = some k := by
    rw [List.find?_range_eq_some]
    refine ⟨by simpa using he, List.mem_range.2 hk, fun j hj => ?_⟩
    simpa using h j hj
  rw [this]

set_option maxHeartbeats 1600000 in
theorem unpack_any (A : Option Addr) (n c : Nat) (bs : List Int) (w : World) (hr : Rd w w.heap.size A (cb .u8 bs)) (hn : n = bs.length) (hb : Bts bs) (hl : n ≤ 10000000) :
    Calls Try.prog 15 #[.slice A n c] w fun e w' => ∃ A' n' c', e = .returned (.tuple #[.slice A' n' c', .int .i64 (aUnpack bs).2]) ∧ Own w' w.heap.size 3 (.slice A' n' c') (cb .i64 (aUnpack bs).1) ∧ Below w.heap.size w w' := by
  have HN := Lib.hid hn
  clear hn
  go_enter Try.func15, Try.ntmps15
  go_wp2_with fail
  go_loopw [4, 5, 6] (fun o i _ w2 => ∃ (k : Nat) (A2 : Option Addr) (n2 c2 : Nat), 5 * k ≤ 8 * n ∧ i = .int .i64 ((5 * k : Nat) : Int) ∧ o = .slice A2 n2 c2 ∧ Own w2 w.heap.size 3 (.slice A2 n2 c2) (cb .i64 (aOut bs k)) ∧ Below w.heap.size w w2 ∧ Hid (∀ j, j < k → code5 bs (5 * j) ≠ 31)) (fun _ i _ _ => 8 * n - (intOf i).toNat)
  case atStart => exact ⟨0, none, 0, 0, by omega, rfl, rfl, Own.nil _ _ _, Below.refl _ _, by unfold Hid; intro j hj; omega⟩
  case round =>
    obtain ⟨k, A2, n2, c2, hk, rfl, rfl, hown, hbel, hq⟩ := hrel
    have hbs := hbel.size
    have hol := Lib.hid (aOut_len bs k)
    by_cases hlt : 5 * k + 5 ≤ 8 * n
    · have hcd := code5_bd bs (5 * k)
      by_cases h31 : code5 bs (5 * k) = 31
      · have hk5 : k < 8 * bs.length / 5 := by have := HN.out; omega
        have hsm := Lib.hid (aUnpack_some bs k hk5 hq.out h31)
        have H31 := Lib.hid h31
        have hlast : (5 * k + 4) / 8 < bs.length := by have := HN.out; omega
        obtain ⟨b, o, rfl, _, hc⟩ := (hr.below hbel).num (i := (5 * k + 4) / 8) hlast
        have hgd : Hid (bs.getD ((5 * k + 4) / 8) 0 = bs[(5 * k + 4) / 8]) := by
          unfold Hid
          simp only [List.getD, List.getElem?_eq_getElem hlast, Option.getD_some]
        have g1 : (5 * (k : Int) + 5 - 1) / 8 < (n : Int) := by have := HN.out; omega
        clear h31
        by_cases hn1 : (5 * k + 4) / 8 + 1 < n
        · have hfin : Hid (aUnpack bs = ([], 3)) := by
            unfold Hid; rw [hsm.out]; unfold aEnd; rw [if_pos (by have := HN.out; omega)]
          go_wp2_with fail
          refine (code_any _ n c bs (5 * k) wr w.heap.size (hr.below hbel) HN.out hb hlt (by omega)).mono ?_
          rw [H31.out]
          rintro e w' ⟨rfl, rfl⟩
          go_wp2
          go_ret2
          exact ⟨none, 0, 0, by rw [hfin.out]; rfl, by rw [hfin.out]; exact Own.nil _ _ _, hbel⟩
        · have g2 : ¬ ((5 * (k : Int) + 5 - 1) / 8 + 1 < (n : Int)) := by omega
          have HE : Hid (aUnpack bs = if bs[(5 * k + 4) / 8] * 2 ^ (5 * k + 5 - 8 * ((5 * k + 4) / 8)) % 256 ≠ 0 then ([], 4) else (aOut bs k, 0)) := by
            unfold Hid
            rw [hsm.out]
            unfold aEnd
            rw [if_neg (by have := HN.out; omega), show 5 * k + 5 - 1 = 5 * k + 4 from rfl, hgd.out]
          go_wp2_with fail
          refine (code_any _ n c bs (5 * k) wr w.heap.size (hr.below hbel) HN.out hb hlt (by omega)).mono ?_
          rw [H31.out]
          rintro e w' ⟨rfl, rfl⟩
          go_wp2
          · have hh : (bs[(5 * k + 4) / 8] * 2 ^ (5 * k + 5 - 8 * ((5 * k + 4) / 8)) % 256 != 0) = true := by assumption
            have hfin : aUnpack bs = ([], 4) := by rw [HE.out, if_pos (by simpa using hh)]
            go_ret2
            exact ⟨none, 0, 0, by rw [hfin]; rfl, by rw [hfin]; exact Own.nil _ _ _, hbel⟩
          · have hh : (bs[(5 * k + 4) / 8] * 2 ^ (5 * k + 5 - 8 * ((5 * k + 4) / 8)) % 256 != 0) = false := by assumption
            have hfin : aUnpack bs = (aOut bs k, 0) := by rw [HE.out, if_neg (by simpa using hh)]
            go_ret2
            exact ⟨A2, n2, c2, by rw [hfin]; rfl, by rw [hfin]; exact hown, hbel⟩
      · have e31 : (code5 bs (5 * k) == 31) = false := by simpa using h31
        have hq2 : Hid (∀ j, j < k + 1 → code5 bs (5 * j) ≠ 31) := by
          unfold Hid
          intro j hj
          rcases Nat.lt_or_ge j k with h | h
          · exact hq.out j h
          · obtain rfl : j = k := by omega
            exact h31
        have hsu := Lib.hid (aOut_succ bs k)
        clear h31
        go_wp2_with fail
        refine (code_any A n c bs (5 * k) wr w.heap.size (hr.below hbel) HN.out hb hlt (by omega)).mono ?_
        rintro e w' ⟨rfl, rfl⟩
        go_wp2_with (at_builtin; refine wp_app elemInt rfl _ _ rfl rfl (hown.alloc _) rfl (Rd.new _ [_] _) rfl (one1 _ _) (by simp [hol.out]; omega) (by simp [hol.out]; omega) (by simp; omega) ?_; intro A3 n3 c3 w3 hown3 hg3)
        go_roundw
        case rel => exact ⟨k + 1, A3, n3, c3, by omega, by go_num, rfl, by rw [hsu.out, cb_append]; exact hown3, below_own (hbel.alloc hbs _) hg3 (hown.alloc _) (Nat.le_refl _) (by simp; omega), hq2⟩
        case measure => simp [intOf]; omega
    · have hfin : Hid (aUnpack bs = ([], 2)) := aUnpack_none bs fun j hj => hq.out j (by have := HN.out; omega)
      go_wp2
      go_ret2
      exact ⟨none, 0, 0, by rw [hfin.out]; rfl, by rw [hfin.out]; exact Own.nil _ _ _, hbel⟩
end Go.Proofs.Ytianabgdggheiaa
