/- The laws AlphaCodes and AlphaPacks, walked. -/
import Derived.Test.YtianabgdggheiaaAlphaJ
namespace Go.Proofs.Ytianabgdggheiaa
open Go.RowKit Go.IntWalk
set_option maxRecDepth 100000
set_option linter.unusedVariables false

theorem rd_at {w W : World} {A : Option Addr} {xs : List Value} (h : Rd w w.heap.size A xs) (hb : Below w.heap.size w W) : Rd W W.heap.size A xs := (h.below hb).more hb.size

set_option maxHeartbeats 1600000 in
theorem alphaCodes_walk (s : ByteArray) (w : World) (hs : s.size ≤ maxLen) :
    Calls Try.prog 3 #[.string s] w fun e w' => e = .returned (.bool true) ∧ Below w.heap.size w w' := by
  unfold maxLen at hs
  by_cases h1 : 1100 < s.size
  · go_enter Try.func3, Try.ntmps3
    go_wp2_with (go_at_call 9; refine (awake_any _).mono ?_; rintro e w1 ⟨rfl, hb1⟩)
    go_ret
    exact ⟨rfl, hb1⟩
  · go_enter Try.func3, Try.ntmps3
    go_wp2_with fail
    refine (codes_any s _ (by omega)).mono ?_
    rintro e w1 ⟨A1, n1, c1, rfl, hown1, hb1⟩
    have hz1 := Lib.hid hown1.rd.1
    go_wp2_with fail
    refine (rcodes_any s _ (by omega)).mono ?_
    rintro e w2 ⟨A2, n2, c2, rfl, hown2, hb2⟩
    have hz2 := Lib.hid hown2.rd.1
    have hb12 := below_call hb1 hb2
    have hlen : (aTextCodes (tB s)).1.length ≤ 10000 := by
      unfold aTextCodes
      split
      · have := aCodes_len (tB s)
        rw [tB_len] at this
        simp only; omega
      · simp
    go_wp2_with fail
    refine (sameInts_eq A1 A2 n1 n2 c1 c2 _ _ true w2 _ _ (hown1.below hb2).rd.2.2 hown2.rd.2.2 (by rw [hz1.out]; simp) (by rw [hz2.out]; simp) (by omega) (by simp)).mono ?_
    rintro e w3 ⟨rfl, hb3⟩
    have hb13 := below_call hb12 hb3
    go_wp2_with fail
    refine (cost_any s _ (by omega)).mono ?_
    rintro e w4 ⟨rfl, hb4⟩
    have hb14 := below_call hb13 hb4
    go_wp2_with fail
    refine (rcost_any s _ (by omega)).mono ?_
    rintro e w5 ⟨rfl, hb5⟩
    have hb15 := below_call hb14 hb5
    go_wp2_with fail
    refine (awake_any _).mono ?_
    rintro e w6 ⟨rfl, hb6⟩
    go_wp2
    go_ret
    exact ⟨rfl, below_call hb15 hb6⟩

theorem sameInts_now (A A' : Option Addr) (n n' c c' : Nat) (xs ys : List Int) (b : Bool) (w : World) (hr : Rd w w.heap.size A (cb .i64 xs)) (hr' : Rd w w.heap.size A' (cb .i64 ys)) (hx : n = xs.length) (hy : n' = ys.length) (hm : xs.length ≤ 1000000000) (hb : (xs == ys) = b) :
    Calls Try.prog 12 #[.slice A n c, .slice A' n' c'] w fun e w' => e = .returned (.bool b) ∧ Below w.heap.size w w' := sameInts_eq A A' n n' c c' xs ys b w _ _ hr hr' hx hy hm hb
theorem aOut_len' (bs : List Int) (k : Nat) : (aOut bs k).length = k := by simp [aOut]
theorem aUnpack_len (bs : List Int) : (aUnpack bs).1.length ≤ 8 * bs.length := by
  unfold aUnpack
  split
  · simp
  · rename_i j hj
    have h1 := List.mem_range.1 (List.mem_of_find?_eq_some hj)
    unfold aEnd
    split
    · simp
    · split
      · simp
      · simp only [aOut_len']; omega
set_option maxHeartbeats 6400000 in
theorem alphaPacks_walk (L : Option Addr) (m d : Nat) (ls : List Int) (A : Option Addr) (n c : Nat) (zs : List Int) (w : World) (hm : m = ls.length) (hL : Rd w w.heap.size L (cb .i64 ls)) (hw' : ∀ z ∈ ls, (Lit.int .i64 z).wf = true) (hd : m ≤ d) (hd' : d ≤ maxLen) (hn : n = zs.length) (hr : Rd w w.heap.size A (cb .u8 zs)) (hw : ∀ z ∈ zs, (Lit.int .u8 z).wf = true) (hc : n ≤ c) (hc' : c ≤ maxLen) :
    Calls Try.prog 4 #[.slice L m d, .slice A n c] w fun e w' => e = .returned (.bool true) ∧ Below w.heap.size w w' := by
  unfold maxLen at hc' hd'
  have hb : Bts zs := fun z hz => wf_u8 (hw z hz)
  have HN := Lib.hid hn
  have HM := Lib.hid hm
  clear hn hm hw'
  have hw := True
  by_cases h1 : 500 < m
  · have e1 : decide (500 < (m : Int)) = true := by simp; omega
    go_enter Try.func4, Try.ntmps4
    go_wp2_with (go_at_call 9; refine (awake_any _).mono ?_; rintro e w1 ⟨rfl, hb1⟩)
    go_ret
    exact ⟨rfl, hb1⟩
  · have e1 : decide (500 < (m : Int)) = false := by simp; omega
    by_cases h2 : 500 < n
    · go_enter Try.func4, Try.ntmps4
      go_wp2_with (go_at_call 9; refine (awake_any _).mono ?_; rintro e w1 ⟨rfl, hb1⟩)
      go_ret
      exact ⟨rfl, hb1⟩
    · have e2 : decide (500 < (n : Int)) = false := by simp; omega
      go_enter Try.func4, Try.ntmps4
      go_wp2_with fail
      refine (unpack_any A n c zs w hr HN.out hb (by omega)).mono ?_
      rintro e w1 ⟨A1, n1, c1, rfl, hown1, hb1⟩
      have hz1 : Hid (n1 = (aUnpack zs).1.length) := by unfold Hid; rw [hown1.rd.1]; simp
      go_wp2_with fail
      refine (runpack_any A n c zs w1 (rd_at hr hb1) HN.out hb (by omega)).mono ?_
      rintro e w2 ⟨A2, n2, c2, rfl, hown2, hb2⟩
      have hz2 : Hid (n2 = (aUnpack zs).1.length) := by unfold Hid; rw [hown2.rd.1]; simp
      have hb12 := below_call hb1 hb2
      have hlen : (aUnpack zs).1.length ≤ 10000 := by have := aUnpack_len zs; have := HN.out; omega
      have ho1 := (hown1.below hb2).rd.2.2
      have ho2 := hown2.rd.2.2
      have hlenU : (aUnpack zs).1.length ≤ 1000000000 := by omega
      generalize (aUnpack zs).1 = U at *
      generalize (aUnpack zs).2 = V at *
      go_wp2_with fail
      have hL2 := rd_at hL hb12
      have hUU : Hid ((U == U) = true) := by unfold Hid; simp
      go_region_with (first
        | (go_at_call 17; go_must (refine (pack_any L m d ls _ ?_ HM.out (by omega)).mono ?_; (focus (first | exact rd_at hL2 (Below.refl _ _).drew | exact rd_at hL2 b4)); rintro e w3 ⟨A3, n3, c3, rfl, hown3, hb3⟩; have b3 : Below w2.heap.size w2 w3 := below_call (by first | exact (Below.refl _ _).drew | exact b4) hb3; have cv3 := conv_str (P := Try.prog) Try.underlying30 Try.underlying5 Try.underlying9 hown3.rd.2.2 (c := c3) (n := n3) (by rw [hown3.rd.1]; simp); (try (have cv4' := conv_str (P := Try.prog) Try.underlying30 Try.underlying5 Try.underlying9 (hown4.below hb3).rd.2.2 (c := c4) (n := n4) (by rw [hown4.rd.1]; simp))); clear hb3))
        | (go_at_call 18; go_must (refine (rpack_any L m d ls _ ?_ HM.out (by omega)).mono ?_; (focus (first | exact rd_at hL2 (Below.refl _ _).drew | exact rd_at hL2 b3)); rintro e w4 ⟨A4, n4, c4, rfl, hown4, hb4⟩; have b4 : Below w2.heap.size w2 w4 := below_call (by first | exact (Below.refl _ _).drew | exact b3) hb4; have cv4 := conv_str (P := Try.prog) Try.underlying30 Try.underlying5 Try.underlying9 hown4.rd.2.2 (c := c4) (n := n4) (by rw [hown4.rd.1]; simp); (try (have cv3' := conv_str (P := Try.prog) Try.underlying30 Try.underlying5 Try.underlying9 (hown3.below hb4).rd.2.2 (c := c3) (n := n3) (by rw [hown3.rd.1]; simp))); clear hb4))
        | (go_at_call 12; (refine (sameInts_now A1 A2 n1 n2 c1 c2 U U true _ ?_ ?_ hz1.out hz2.out hlenU hUU.out).mono ?_; (focus (first | exact rd_at ho1 b3 | exact rd_at ho1 b4)); (focus (first | exact rd_at ho2 b3 | exact rd_at ho2 b4)); rintro e w5 ⟨rfl, hb5⟩; have b5 : Below w2.heap.size w2 w5 := below_call (by first | exact b3 | exact b4) hb5; clear hb5))
        | (go_at_call 9; refine (awake_any _).mono ?_; rintro e w6 ⟨rfl, hb6⟩; have b6 : Below w2.heap.size w2 w6 := below_call b5 hb6; clear hb6))
      all_goals
        go_wp2
        go_ret
        exact ⟨rfl, below_call hb12 b6⟩
end Go.Proofs.Ytianabgdggheiaa
