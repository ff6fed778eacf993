/- The laws AlphaTexts and AlphaBack, walked. -/
import Derived.Test.YtianabgdggheiaaAlphaQ
import Derived.Test.YtianabgdggheiaaAlphaK
namespace Go.Proofs.Ytianabgdggheiaa
open Go.RowKit Go.IntWalk
set_option maxRecDepth 100000
set_option linter.unusedVariables false

theorem str_nil : strOfNums [] = ⟨#[]⟩ := rfl
set_option maxHeartbeats 1600000 in
theorem alphaTexts_walk (L : Option Addr) (m d : Nat) (ls : List Int) (w : World) (hm : m = ls.length) (hL : Rd w w.heap.size L (cb .i64 ls)) (hw' : ∀ z ∈ ls, (Lit.int .i64 z).wf = true) (hd : m ≤ d) (hd' : d ≤ maxLen) :
    Calls Try.prog 7 #[.slice L m d] w fun e w' => e = .returned (.bool true) ∧ Below w.heap.size w w' := by
  unfold maxLen at hd'
  have HM := Lib.hid hm
  clear hm hw'
  by_cases h1 : 1100 < m
  · go_enter Try.func7, Try.ntmps7
    go_wp2_with (go_at_call 9; refine (awake_any _).mono ?_; rintro e w1 ⟨rfl, hb1⟩)
    go_ret
    exact ⟨rfl, hb1⟩
  · go_enter Try.func7, Try.ntmps7
    go_wp2_with fail
    refine (text_any L m d ls w hL HM.out hd (by omega) (by omega)).mono ?_
    rintro e w1 ⟨rfl, hb1⟩
    go_wp2_with fail
    refine (rtext_any L m d ls w1 (rd_at hL hb1) HM.out (by omega)).mono ?_
    rintro e w2 ⟨rfl, hb2⟩
    have hb12 := below_call hb1 hb2
    go_wp2_with fail
    refine (awake_any _).mono ?_
    rintro e w6 ⟨rfl, hb6⟩
    go_wp2
    go_ret
    exact ⟨rfl, below_call hb12 hb6⟩

set_option maxHeartbeats 3200000 in
theorem alphaBack_walk (s : ByteArray) (L : Option Addr) (m d : Nat) (ls : List Int) (w : World) (hs : s.size ≤ maxLen) (hm : m = ls.length) (hL : Rd w w.heap.size L (cb .i64 ls)) (hw' : ∀ z ∈ ls, (Lit.int .i64 z).wf = true) (hd : m ≤ d) (hd' : d ≤ maxLen) :
    Calls Try.prog 8 #[.string s, .slice L m d] w fun e w' => e = .returned (.bool true) ∧ Below w.heap.size w w' := by
  unfold maxLen at hd' hs
  have HM := Lib.hid hm
  clear hm hw'
  by_cases h1 : 1100 < s.size
  · have e1 : decide (1100 < (s.size : Int)) = true := by simp; omega
    go_enter Try.func8, Try.ntmps8
    go_wp2_with (go_at_call 9; refine (awake_any _).mono ?_; rintro e w1 ⟨rfl, hb1⟩)
    go_ret
    exact ⟨rfl, hb1⟩
  · have e1 : decide (1100 < (s.size : Int)) = false := by simp; omega
    by_cases h2 : 1100 < m
    · have e2 : decide (1100 < (m : Int)) = true := by simp; omega
      go_enter Try.func8, Try.ntmps8
      go_wp2_with (go_at_call 9; refine (awake_any _).mono ?_; rintro e w1 ⟨rfl, hb1⟩)
      go_ret
      exact ⟨rfl, hb1⟩
    · have e2 : decide (1100 < (m : Int)) = false := by simp; omega
      -- the second half, from whatever world
      have hor := aText_or ls
      cases ht : isTextB (tB s) with
      | false =>
        have hco : Hid (aTextCodes (tB s) = ([], 13)) := by unfold Hid aTextCodes; rw [ht]; rfl
        clear ht
        rcases hor with ⟨t, ht1, ht2, ht3⟩ | hno
        · have HT3 := Lib.hid ht3
          have hct : Hid (aTextCodes (tB (strOfNums t)) = (ls, 0)) := by
            unfold Hid aTextCodes
            rw [tB_str (tOk_bts (isText_ok ht1)), ht1, ht2]; rfl
          have hszt : (strOfNums t).size ≤ 100000000 := by
            rw [← tB_len, tB_str (tOk_bts (isText_ok ht1))]
            simp [isTextB] at ht1; omega
          have hll : Hid ((ls == ls) = true) := by unfold Hid; simp
          have hlm : ls.length ≤ 1000000000 := by have := HM.out; omega
          clear ht1 ht2 ht3
          go_enter Try.func8, Try.ntmps8
          go_wp2_with fail
          refine (codes_any s _ (by omega)).mono ?_
          rw [hco.out]
          rintro e w1 ⟨A1, n1, c1, rfl, hown1, hb1⟩
          go_wp2_with fail
          refine (text_any L m d ls w1 (rd_at hL hb1) HM.out hd (by omega) (by omega)).mono ?_
          rw [HT3.out]
          rintro e w2 ⟨rfl, hb2⟩
          have hb12 := below_call hb1 hb2
          go_wp2_with fail
          refine (codes_any (strOfNums t) _ hszt).mono ?_
          rw [hct.out]
          rintro e w3 ⟨A3, n3, c3, rfl, hown3, hb3⟩
          have hb13 := below_call hb12 hb3
          have hz3 : Hid (n3 = ls.length) := by unfold Hid; rw [hown3.rd.1]; simp
          go_wp2_with fail
          refine (sameInts_now A3 L n3 m c3 d ls ls true _ hown3.rd.2.2 (rd_at hL hb13) hz3.out HM.out hlm hll.out).mono ?_
          rintro e w4 ⟨rfl, hb4⟩
          have hb14 := below_call hb13 hb4
          go_wp2_with fail
          refine (awake_any _).mono ?_
          rintro e w6 ⟨rfl, hb6⟩
          go_wp2
          go_ret
          exact ⟨rfl, below_call hb14 hb6⟩
        · have HNO := Lib.hid hno
          clear hno
          go_enter Try.func8, Try.ntmps8
          go_wp2_with fail
          refine (codes_any s _ (by omega)).mono ?_
          rw [hco.out]
          rintro e w1 ⟨A1, n1, c1, rfl, hown1, hb1⟩
          go_wp2_with fail
          refine (text_any L m d ls w1 (rd_at hL hb1) HM.out hd (by omega) (by omega)).mono ?_
          rw [HNO.out, str_nil]
          rintro e w2 ⟨rfl, hb2⟩
          have hb12 := below_call hb1 hb2
          go_wp2_with fail
          refine (awake_any _).mono ?_
          rintro e w6 ⟨rfl, hb6⟩
          go_wp2
          go_ret
          exact ⟨rfl, below_call hb12 hb6⟩
      | true =>
        have hco : Hid (aTextCodes (tB s) = (aCodes (tB s), 0)) := by unfold Hid aTextCodes; rw [ht]; rfl
        have hts : Hid (aText (aCodes (tB s)) = (tB s, 0)) := aText_yes ht rfl
        have hcl := aCodes_len (tB s)
        rw [tB_len] at hcl
        clear ht
        rcases hor with ⟨t, ht1, ht2, ht3⟩ | hno
        · have HT3 := Lib.hid ht3
          have hct : Hid (aTextCodes (tB (strOfNums t)) = (ls, 0)) := by
            unfold Hid aTextCodes
            rw [tB_str (tOk_bts (isText_ok ht1)), ht1, ht2]; rfl
          have hszt : (strOfNums t).size ≤ 100000000 := by
            rw [← tB_len, tB_str (tOk_bts (isText_ok ht1))]
            simp [isTextB] at ht1; omega
          have hll : Hid ((ls == ls) = true) := by unfold Hid; simp
          have hlm : ls.length ≤ 1000000000 := by have := HM.out; omega
          clear ht1 ht2 ht3
          go_enter Try.func8, Try.ntmps8
          go_wp2_with fail
          refine (codes_any s _ (by omega)).mono ?_
          rw [hco.out]
          rintro e w1 ⟨A1, n1, c1, rfl, hown1, hb1⟩
          have hz1 : Hid (n1 = (aCodes (tB s)).length) := by unfold Hid; rw [hown1.rd.1]; simp
          have hq1 : Hid (n1 ≤ c1 ∧ c1 ≤ 9223372036854775807) := by
            obtain ⟨_, c', hv, _, hcm, _⟩ := hown1.form
            injection hv with _ _ hcc
            subst hcc
            exact ⟨hown1.rd.2.1, hcm⟩
          have hn1 : n1 ≤ 10000000 := by have := hz1.out; omega
          go_wp2_with fail
          refine (text_any A1 n1 c1 (aCodes (tB s)) w1 hown1.rd.2.2 hz1.out hq1.out.1 hq1.out.2 hn1).mono ?_
          rw [hts.out, str_tB]
          rintro e w2 ⟨rfl, hb2⟩
          have hb12 := below_call hb1 hb2
          go_wp2_with fail
          refine (cost_any s _ (by omega)).mono ?_
          rw [← hz1.out]
          rintro e w3 ⟨rfl, hb3⟩
          have hb13 := below_call hb12 hb3
          go_wp2_with fail
          refine (text_any L m d ls w3 (rd_at hL hb13) HM.out hd (by omega) (by omega)).mono ?_
          rw [HT3.out]
          rintro e w4 ⟨rfl, hb4⟩
          have hb14 := below_call hb13 hb4
          go_wp2_with fail
          refine (codes_any (strOfNums t) _ hszt).mono ?_
          rw [hct.out]
          rintro e w5 ⟨A5, n5, c5, rfl, hown5, hb5⟩
          have hb15 := below_call hb14 hb5
          have hz5 : Hid (n5 = ls.length) := by unfold Hid; rw [hown5.rd.1]; simp
          go_wp2_with fail
          refine (sameInts_now A5 L n5 m c5 d ls ls true _ hown5.rd.2.2 (rd_at hL hb15) hz5.out HM.out hlm hll.out).mono ?_
          rintro e w6 ⟨rfl, hb6⟩
          have hb16 := below_call hb15 hb6
          go_wp2_with fail
          refine (awake_any _).mono ?_
          rintro e w7 ⟨rfl, hb7⟩
          go_wp2
          go_ret
          exact ⟨rfl, below_call hb16 hb7⟩
        · have HNO := Lib.hid hno
          clear hno
          go_enter Try.func8, Try.ntmps8
          go_wp2_with fail
          refine (codes_any s _ (by omega)).mono ?_
          rw [hco.out]
          rintro e w1 ⟨A1, n1, c1, rfl, hown1, hb1⟩
          have hz1 : Hid (n1 = (aCodes (tB s)).length) := by unfold Hid; rw [hown1.rd.1]; simp
          have hq1 : Hid (n1 ≤ c1 ∧ c1 ≤ 9223372036854775807) := by
            obtain ⟨_, c', hv, _, hcm, _⟩ := hown1.form
            injection hv with _ _ hcc
            subst hcc
            exact ⟨hown1.rd.2.1, hcm⟩
          have hn1 : n1 ≤ 10000000 := by have := hz1.out; omega
          go_wp2_with fail
          refine (text_any A1 n1 c1 (aCodes (tB s)) w1 hown1.rd.2.2 hz1.out hq1.out.1 hq1.out.2 hn1).mono ?_
          rw [hts.out, str_tB]
          rintro e w2 ⟨rfl, hb2⟩
          have hb12 := below_call hb1 hb2
          go_wp2_with fail
          refine (cost_any s _ (by omega)).mono ?_
          rw [← hz1.out]
          rintro e w3 ⟨rfl, hb3⟩
          have hb13 := below_call hb12 hb3
          go_wp2_with fail
          refine (text_any L m d ls w3 (rd_at hL hb13) HM.out hd (by omega) (by omega)).mono ?_
          rw [HNO.out, str_nil]
          rintro e w4 ⟨rfl, hb4⟩
          have hb14 := below_call hb13 hb4
          go_wp2_with fail
          refine (awake_any _).mono ?_
          rintro e w7 ⟨rfl, hb7⟩
          go_wp2
          go_ret
          exact ⟨rfl, below_call hb14 hb7⟩
end Go.Proofs.Ytianabgdggheiaa
