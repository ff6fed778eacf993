/- The laws AlphaRound and AlphaJoins, walked. -/
import Derived.Test.YtianabgdggheiaaAlphaK
import Derived.Test.YtianabgdggheiaaAlphaLaw
namespace Go.Proofs.Ytianabgdggheiaa
open Go.RowKit Go.IntWalk
set_option maxRecDepth 100000
set_option linter.unusedVariables false

theorem aUnpack_err (bs : List Int) : (aUnpack bs).2 = 0 ∨ (aUnpack bs).2 = 2 ∨ (aUnpack bs).2 = 3 ∨ (aUnpack bs).2 = 4 := by
  unfold aUnpack
  split
  · simp
  · unfold aEnd
    split
    · simp
    · split <;> simp
theorem m31_take (ls : List Int) (k : Nat) (h : k < ls.length) : (ls.take (k + 1)).map (· % 31) = (ls.take k).map (· % 31) ++ [ls[k] % 31] := by
  rw [List.take_succ_eq_append_getElem h, List.map_append]; rfl

set_option maxHeartbeats 6400000 in
theorem alphaRound_walk (L : Option Addr) (m d : Nat) (ls : List Int) (A : Option Addr) (n c : Nat) (zs : List Int) (w : World) (hm : m = ls.length) (hL : Rd w w.heap.size L (cb .u8 ls)) (hw' : ∀ z ∈ ls, (Lit.int .u8 z).wf = true) (hd : m ≤ d) (hd' : d ≤ maxLen) (hn : n = zs.length) (hr : Rd w w.heap.size A (cb .u8 zs)) (hw : ∀ z ∈ zs, (Lit.int .u8 z).wf = true) (hc : n ≤ c) (hc' : c ≤ maxLen) :
    Calls Try.prog 5 #[.slice L m d, .slice A n c] w fun e w' => e = .returned (.bool true) ∧ Below w.heap.size w w' := by
  unfold maxLen at hc' hd'
  have hb : Bts zs := fun z hz => wf_u8 (hw z hz)
  have hbl : Bts ls := fun z hz => wf_u8 (hw' z hz)
  have HN := Lib.hid hn
  have HM := Lib.hid hm
  clear hn hm hw' hw
  by_cases h1 : 500 < m
  · have e1 : decide (500 < (m : Int)) = true := by simp; omega
    go_enter Try.func5, Try.ntmps5
    go_wp2_with (go_at_call 9; refine (awake_any _).mono ?_; rintro e w1 ⟨rfl, hb1⟩)
    go_ret
    exact ⟨rfl, hb1⟩
  · have e1 : decide (500 < (m : Int)) = false := by simp; omega
    by_cases h2 : 500 < n
    · go_enter Try.func5, Try.ntmps5
      go_wp2_with (go_at_call 9; refine (awake_any _).mono ?_; rintro e w1 ⟨rfl, hb1⟩)
      go_ret
      exact ⟨rfl, hb1⟩
    · have e2 : decide (500 < (n : Int)) = false := by simp; omega
      go_enter Try.func5, Try.ntmps5
      go_wp2_with fail
      go_loopw [5, 7, 23] (fun o _ i w2 => ∃ (k : Nat) (A2 : Option Addr) (n2 c2 : Nat), k ≤ m ∧ i = .int .i64 k ∧ o = .slice A2 n2 c2 ∧ Own w2 w.heap.size 3 (.slice A2 n2 c2) (cb .i64 ((ls.take k).map (· % 31))) ∧ Below w.heap.size w w2) (fun _ _ i _ => m - (intOf i).toNat)
      case atStart => exact ⟨0, none, 0, 0, by omega, rfl, rfl, Own.nil _ _ _, Below.refl _ _⟩
      case round =>
        obtain ⟨k, A2, n2, c2, hk, rfl, rfl, hown, hbel⟩ := hrel
        have hbs := hbel.size
        by_cases hlt : k < m
        · have hkl : k < ls.length := by have := HM.out; omega
          have hs := Lib.hid (m31_take ls k hkl)
          obtain ⟨b, o, rfl, _, hc⟩ := (hL.below hbel).num (i := k) hkl
          have hx := hbl.get hkl
          obtain ⟨hx0, hx1⟩ := hx
          have hlen : Hid (((ls.take k).map (· % 31)).length ≤ 500) := by unfold Hid; simp; omega
          go_wp2_with (at_builtin; refine wp_app elemInt rfl _ _ rfl rfl (hown.alloc _) rfl (Rd.new _ [_] _) rfl (one1 _ _) (by have := hlen.out; rw [cb_length]; simp only [List.length_cons, List.length_nil]; omega) (by have := hlen.out; rw [cb_length]; simp only [List.length_cons, List.length_nil]; omega) (by simp; omega) ?_; intro A3 n3 c3 w3 hown3 hg3)
          go_roundw
          case rel => exact ⟨k + 1, A3, n3, c3, by omega, by go_num, rfl, by rw [hs.out, cb_append]; exact hown3, below_own (hbel.alloc hbs _) hg3 (hown.alloc _) (Nat.le_refl _) (by simp; omega)⟩
          case measure => simp [intOf]; omega
        · obtain rfl : k = m := by omega
          have hall : ls.take k = ls := List.take_of_length_le (by have := HM.out; omega)
          rw [hall] at hown
          clear hall
          have hM31 : ∀ x ∈ ls.map (· % 31), 0 ≤ x ∧ x < 31 := by
            intro x hx
            obtain ⟨y, _, rfl⟩ := List.mem_map.1 hx
            omega
          have hup := Lib.hid (unpack_pack _ hM31)
          have hzn : Hid (n2 = (ls.map (· % 31)).length) := by unfold Hid; rw [hown.rd.1]; simp
          have hlM : (ls.map (· % 31)).length ≤ 500 := by have := HM.out; simp; omega
          have hBP := aPack_bts (ls.map (· % 31))
          have hlP := aPack_len (ls.map (· % 31))
          have HLP := Lib.hid hlP
          clear hlP hM31
          generalize ls.map (· % 31) = M at *
          go_wp2_with fail
          refine (pack_any A2 n2 c2 M _ hown.rd.2.2 hzn.out (by have := hzn.out; omega)).mono ?_
          rintro e w3 ⟨A3, n3, c3, rfl, hown3, hb3⟩
          have hz3 : Hid (n3 = (aPack M).length) := by unfold Hid; rw [hown3.rd.1]; simp
          go_wp2_with fail
          refine (unpack_any A3 n3 c3 (aPack M) _ hown3.rd.2.2 hz3.out hBP (by have := hz3.out; have := HLP.out; omega)).mono ?_
          rw [hup.out]
          rintro e w4 ⟨A4, n4, c4, rfl, hown4, hb4⟩
          have hz4 : Hid (n4 = M.length) := by unfold Hid; rw [hown4.rd.1]; simp
          have hb24 := below_call hb3 hb4
          have hbel4 := below_call hbel hb24
          have hMM : Hid ((M == M) = true) := by unfold Hid; simp
          go_wp2_with fail
          refine (sameInts_now A4 A2 n4 n2 c4 c2 M M true _ hown4.rd.2.2 (rd_at hown.rd.2.2 hb24) hz4.out hzn.out (by omega) hMM.out).mono ?_
          rintro e w5 ⟨rfl, hb5⟩
          have hbel5 := below_call hbel4 hb5
          go_wp2_with fail
          refine (unpack_any A n c zs _ (rd_at hr hbel5) HN.out hb (by omega)).mono ?_
          rintro e w6 ⟨A6, n6, c6, rfl, hown6, hb6⟩
          have hbel6 := below_call hbel5 hb6
          have hz6 : Hid (n6 = (aUnpack zs).1.length) := by unfold Hid; rw [hown6.rd.1]; simp
          have hlen6 : (aUnpack zs).1.length ≤ 10000 := by have := aUnpack_len zs; have := HN.out; omega
          by_cases hV : (aUnpack zs).2 = 0
          · have hpu := Lib.hid (pack_unpack zs hb hV)
            have cv0 := conv_str (P := Try.prog) Try.underlying30 Try.underlying5 Try.underlying9 (rd_at hr hbel6).drew (c := c) (n := n) HN.out
            have hn6 : n6 ≤ 10000 := by have := hz6.out; omega
            rw [hV]
            clear hV
            generalize (aUnpack zs).1 = U at *
            go_wp2_with fail
            go_region_with (first
              | (go_at_call 17; refine (pack_any A6 n6 c6 U _ hown6.rd.2.2.drew hz6.out (by omega)).mono ?_; rw [hpu.out]; rintro e w7 ⟨A7, n7, c7, rfl, hown7, hb7⟩; have hbel7 := below_call hbel6.drew hb7; have cv1 := conv_str (P := Try.prog) Try.underlying30 Try.underlying5 Try.underlying9 hown7.rd.2.2 (c := c7) (n := n7) (by rw [hown7.rd.1]; simp); have cv2 := conv_str (P := Try.prog) Try.underlying30 Try.underlying5 Try.underlying9 (rd_at hr hbel7) (c := c) (n := n) HN.out; clear hb7)
              | (go_at_call 9; refine (awake_any _).mono ?_; rintro e w8 ⟨rfl, hb8⟩; have hbel8 := below_call hbel7 hb8; clear hb8))
            all_goals
              go_wp2
              go_ret
              exact ⟨rfl, hbel8⟩
          · have hV4 := aUnpack_err zs
            rcases hV4 with hv | hv | hv | hv
            · exact absurd hv hV
            all_goals
              rw [hv]
              clear hv hV
              go_wp2_with fail
              first
                | go_region_with (go_at_call 9; refine (awake_any _).mono ?_; rintro e w8 ⟨rfl, hb8⟩; have hbel8 := below_call hbel6.drew hb8; clear hb8)
                | fail
              all_goals
                go_wp2
                go_ret
                exact ⟨rfl, hbel8⟩
end Go.Proofs.Ytianabgdggheiaa
