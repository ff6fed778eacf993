/- The law WireTakes, walked. Printed by gen_wtakes.py. -/
import Derived.Test.YtljebpbjjfnmkaaWireA
import Derived.Test.YtljebpbjjfnmkaaWireU
import Derived.Test.YtljebpbjjfnmkaaWireV
import Derived.Test.YtljebpbjjfnmkaaWireW
namespace Go.Proofs.Ytljebpbjjfnmkaa
open Go.RowKit Go.IntWalk
set_option maxRecDepth 100000
set_option linter.unusedVariables false

theorem cell_keep {W w' : World} (hb : Below W.heap.size W w') {a : Addr} {v : Value} (h : W.cell? a = some v) : w'.cell? a = some v :=
  (hb.cell (World.block_lt_of_cell? W a h)).trans h

set_option maxHeartbeats 4000000 in
theorem wireTakes_walk (A : Option Addr) (n c : Nat) (xs : List Int) (at_ err most : Int) (w : World) (hn : n = xs.length) (hr : Rd w w.heap.size A (cb .u8 xs)) (hw : ∀ z ∈ xs, (Lit.int .u8 z).wf = true) (hc : n ≤ c) (hc' : c ≤ maxLen) (ha : (Lit.int .i64 at_).wf = true) (he : (Lit.int .i64 err).wf = true) (hm : (Lit.int .i64 most).wf = true) :
    Calls Try.prog 6 #[.agg #[.slice A n c, .int .i64 at_, .int .i64 err], .int .i64 most] w fun e w' => e = .returned (.bool true) ∧ Below w.heap.size w w' := by
  have HN := Lib.hid hn
  have hb : Byt xs := fun z hz => wf_u8 (hw z hz)
  clear hn hw hc' ha he hm
  by_cases h1 : 300 < n
  · go_enter Try.func6, Try.ntmps6
    go_wp2_with fail
    refine (awake_any _).mono ?_
    rintro e w1 ⟨rfl, hb1⟩
    go_wp2
    go_ret
    exact ⟨rfl, ((Below.refl _ _).alloc (Nat.le_refl _) _).trans (hb1.mono (by simp))⟩
  · have hl : n ≤ 300 := by omega
    go_enter Try.func6, Try.ntmps6
    go_wp2_with fail
    have b0 : Below w.heap.size w (w.alloc (.cells #[.slice A n c, .int .i64 at_, .int .i64 err] 37)) := (Below.refl _ _).alloc (Nat.le_refl _) _
    have kH0 : Blk (w.alloc (.cells #[.slice A n c, .int .i64 at_, .int .i64 err] 37)) w.heap.size 37 [.slice A n c, .int .i64 at_, .int .i64 err] := Blk.new _ _ _
    refine (takeByte_any A n c at_ err xs _ ((hr.below b0).more b0.size) HN.out hc (by omega) hb).mono ?_
    rintro e w1 ⟨rfl, g1⟩
    have b1 := (b0.trans (g1.mono b0.size)).alloc (b0.trans (g1.mono b0.size)).size (.cells #[.slice A n c, .int .i64 (sTk xs at_ err 1).2.1, .int .i64 (sTk xs at_ err 1).2.2] 37)
    have kH1 := (kH0.below g1 kH0.lt).alloc (.cells #[.slice A n c, .int .i64 (sTk xs at_ err 1).2.1, .int .i64 (sTk xs at_ err 1).2.2] 37)
    have k1_1 : Blk (w1.alloc (.cells #[.slice A n c, .int .i64 (sTk xs at_ err 1).2.1, .int .i64 (sTk xs at_ err 1).2.2] 37)) w1.heap.size 37 [.slice A n c, .int .i64 (sTk xs at_ err 1).2.1, .int .i64 (sTk xs at_ err 1).2.2] := Blk.new _ _ _
    clear kH0 g1 b0 
    obtain ⟨p0, p1, p2, _, _, _⟩ := kH1.three
    go_wp2_with fail
    clear p0 p1 p2
    refine (rtakeByte_any A n c at_ err xs _ ((hr.below b1).more b1.size) HN.out (by omega) hb).mono ?_
    rintro e w2 ⟨rfl, g2⟩
    have b2 := (b1.trans (g2.mono b1.size)).alloc (b1.trans (g2.mono b1.size)).size (.cells #[.slice A n c, .int .i64 (sTk xs at_ err 1).2.1, .int .i64 (sTk xs at_ err 1).2.2] 37)
    have kH2 := (kH1.below g2 kH1.lt).alloc (.cells #[.slice A n c, .int .i64 (sTk xs at_ err 1).2.1, .int .i64 (sTk xs at_ err 1).2.2] 37)
    have k1_2 := (k1_1.below g2 k1_1.lt).alloc (.cells #[.slice A n c, .int .i64 (sTk xs at_ err 1).2.1, .int .i64 (sTk xs at_ err 1).2.2] 37)
    have k2_2 : Blk (w2.alloc (.cells #[.slice A n c, .int .i64 (sTk xs at_ err 1).2.1, .int .i64 (sTk xs at_ err 1).2.2] 37)) w2.heap.size 37 [.slice A n c, .int .i64 (sTk xs at_ err 1).2.1, .int .i64 (sTk xs at_ err 1).2.2] := Blk.new _ _ _
    clear kH1 g2 b1 k1_1
    obtain ⟨p0, p1, p2, _, _, _⟩ := kH2.three
    go_wp2_with fail
    clear p0 p1 p2
    refine (takeWord_any A n c at_ err xs _ ((hr.below b2).more b2.size) HN.out hc (by omega) hb).mono ?_
    rintro e w3 ⟨rfl, g3⟩
    have b3 := (b2.trans (g3.mono b2.size)).alloc (b2.trans (g3.mono b2.size)).size (.cells #[.slice A n c, .int .i64 (sTk xs at_ err 2).2.1, .int .i64 (sTk xs at_ err 2).2.2] 37)
    have kH3 := (kH2.below g3 kH2.lt).alloc (.cells #[.slice A n c, .int .i64 (sTk xs at_ err 2).2.1, .int .i64 (sTk xs at_ err 2).2.2] 37)
    have k1_3 := (k1_2.below g3 k1_2.lt).alloc (.cells #[.slice A n c, .int .i64 (sTk xs at_ err 2).2.1, .int .i64 (sTk xs at_ err 2).2.2] 37)
    have k2_3 := (k2_2.below g3 k2_2.lt).alloc (.cells #[.slice A n c, .int .i64 (sTk xs at_ err 2).2.1, .int .i64 (sTk xs at_ err 2).2.2] 37)
    have k3_3 : Blk (w3.alloc (.cells #[.slice A n c, .int .i64 (sTk xs at_ err 2).2.1, .int .i64 (sTk xs at_ err 2).2.2] 37)) w3.heap.size 37 [.slice A n c, .int .i64 (sTk xs at_ err 2).2.1, .int .i64 (sTk xs at_ err 2).2.2] := Blk.new _ _ _
    clear kH2 g3 b2 k1_2 k2_2
    obtain ⟨p0, p1, p2, _, _, _⟩ := kH3.three
    go_wp2_with fail
    clear p0 p1 p2
    refine (rtakeWord_any A n c at_ err xs _ ((hr.below b3).more b3.size) HN.out (by omega) hb).mono ?_
    rintro e w4 ⟨rfl, g4⟩
    have b4 := (b3.trans (g4.mono b3.size)).alloc (b3.trans (g4.mono b3.size)).size (.cells #[.slice A n c, .int .i64 (sTk xs at_ err 2).2.1, .int .i64 (sTk xs at_ err 2).2.2] 37)
    have kH4 := (kH3.below g4 kH3.lt).alloc (.cells #[.slice A n c, .int .i64 (sTk xs at_ err 2).2.1, .int .i64 (sTk xs at_ err 2).2.2] 37)
    have k1_4 := (k1_3.below g4 k1_3.lt).alloc (.cells #[.slice A n c, .int .i64 (sTk xs at_ err 2).2.1, .int .i64 (sTk xs at_ err 2).2.2] 37)
    have k2_4 := (k2_3.below g4 k2_3.lt).alloc (.cells #[.slice A n c, .int .i64 (sTk xs at_ err 2).2.1, .int .i64 (sTk xs at_ err 2).2.2] 37)
    have k3_4 := (k3_3.below g4 k3_3.lt).alloc (.cells #[.slice A n c, .int .i64 (sTk xs at_ err 2).2.1, .int .i64 (sTk xs at_ err 2).2.2] 37)
    have k4_4 : Blk (w4.alloc (.cells #[.slice A n c, .int .i64 (sTk xs at_ err 2).2.1, .int .i64 (sTk xs at_ err 2).2.2] 37)) w4.heap.size 37 [.slice A n c, .int .i64 (sTk xs at_ err 2).2.1, .int .i64 (sTk xs at_ err 2).2.2] := Blk.new _ _ _
    clear kH3 g4 b3 k1_3 k2_3 k3_3
    obtain ⟨p0, p1, p2, _, _, _⟩ := kH4.three
    go_wp2_with fail
    clear p0 p1 p2
    refine (takeLong_any A n c at_ err xs _ ((hr.below b4).more b4.size) HN.out hc (by omega) hb).mono ?_
    rintro e w5 ⟨rfl, g5⟩
    have b5 := (b4.trans (g5.mono b4.size)).alloc (b4.trans (g5.mono b4.size)).size (.cells #[.slice A n c, .int .i64 (sTk xs at_ err 4).2.1, .int .i64 (sTk xs at_ err 4).2.2] 37)
    have kH5 := (kH4.below g5 kH4.lt).alloc (.cells #[.slice A n c, .int .i64 (sTk xs at_ err 4).2.1, .int .i64 (sTk xs at_ err 4).2.2] 37)
    have k1_5 := (k1_4.below g5 k1_4.lt).alloc (.cells #[.slice A n c, .int .i64 (sTk xs at_ err 4).2.1, .int .i64 (sTk xs at_ err 4).2.2] 37)
    have k2_5 := (k2_4.below g5 k2_4.lt).alloc (.cells #[.slice A n c, .int .i64 (sTk xs at_ err 4).2.1, .int .i64 (sTk xs at_ err 4).2.2] 37)
    have k3_5 := (k3_4.below g5 k3_4.lt).alloc (.cells #[.slice A n c, .int .i64 (sTk xs at_ err 4).2.1, .int .i64 (sTk xs at_ err 4).2.2] 37)
    have k4_5 := (k4_4.below g5 k4_4.lt).alloc (.cells #[.slice A n c, .int .i64 (sTk xs at_ err 4).2.1, .int .i64 (sTk xs at_ err 4).2.2] 37)
    have k5_5 : Blk (w5.alloc (.cells #[.slice A n c, .int .i64 (sTk xs at_ err 4).2.1, .int .i64 (sTk xs at_ err 4).2.2] 37)) w5.heap.size 37 [.slice A n c, .int .i64 (sTk xs at_ err 4).2.1, .int .i64 (sTk xs at_ err 4).2.2] := Blk.new _ _ _
    clear kH4 g5 b4 k1_4 k2_4 k3_4 k4_4
    obtain ⟨p0, p1, p2, _, _, _⟩ := kH5.three
    go_wp2_with fail
    clear p0 p1 p2
    refine (rtakeLong_any A n c at_ err xs _ ((hr.below b5).more b5.size) HN.out (by omega) hb).mono ?_
    rintro e w6 ⟨rfl, g6⟩
    have b6 := (b5.trans (g6.mono b5.size)).alloc (b5.trans (g6.mono b5.size)).size (.cells #[.slice A n c, .int .i64 (sTk xs at_ err 4).2.1, .int .i64 (sTk xs at_ err 4).2.2] 37)
    have kH6 := (kH5.below g6 kH5.lt).alloc (.cells #[.slice A n c, .int .i64 (sTk xs at_ err 4).2.1, .int .i64 (sTk xs at_ err 4).2.2] 37)
    have k1_6 := (k1_5.below g6 k1_5.lt).alloc (.cells #[.slice A n c, .int .i64 (sTk xs at_ err 4).2.1, .int .i64 (sTk xs at_ err 4).2.2] 37)
    have k2_6 := (k2_5.below g6 k2_5.lt).alloc (.cells #[.slice A n c, .int .i64 (sTk xs at_ err 4).2.1, .int .i64 (sTk xs at_ err 4).2.2] 37)
    have k3_6 := (k3_5.below g6 k3_5.lt).alloc (.cells #[.slice A n c, .int .i64 (sTk xs at_ err 4).2.1, .int .i64 (sTk xs at_ err 4).2.2] 37)
    have k4_6 := (k4_5.below g6 k4_5.lt).alloc (.cells #[.slice A n c, .int .i64 (sTk xs at_ err 4).2.1, .int .i64 (sTk xs at_ err 4).2.2] 37)
    have k5_6 := (k5_5.below g6 k5_5.lt).alloc (.cells #[.slice A n c, .int .i64 (sTk xs at_ err 4).2.1, .int .i64 (sTk xs at_ err 4).2.2] 37)
    have k6_6 : Blk (w6.alloc (.cells #[.slice A n c, .int .i64 (sTk xs at_ err 4).2.1, .int .i64 (sTk xs at_ err 4).2.2] 37)) w6.heap.size 37 [.slice A n c, .int .i64 (sTk xs at_ err 4).2.1, .int .i64 (sTk xs at_ err 4).2.2] := Blk.new _ _ _
    clear kH5 g6 b5 k1_5 k2_5 k3_5 k4_5 k5_5
    obtain ⟨p0, p1, p2, _, _, _⟩ := kH6.three
    go_wp2_with fail
    clear p0 p1 p2
    refine (takeHuge_any A n c at_ err xs _ ((hr.below b6).more b6.size) HN.out hc (by omega) hb).mono ?_
    rintro e w7 ⟨rfl, g7⟩
    have b7 := (b6.trans (g7.mono b6.size)).alloc (b6.trans (g7.mono b6.size)).size (.cells #[.slice A n c, .int .i64 (sTk xs at_ err 8).2.1, .int .i64 (sTk xs at_ err 8).2.2] 37)
    have kH7 := (kH6.below g7 kH6.lt).alloc (.cells #[.slice A n c, .int .i64 (sTk xs at_ err 8).2.1, .int .i64 (sTk xs at_ err 8).2.2] 37)
    have k1_7 := (k1_6.below g7 k1_6.lt).alloc (.cells #[.slice A n c, .int .i64 (sTk xs at_ err 8).2.1, .int .i64 (sTk xs at_ err 8).2.2] 37)
    have k2_7 := (k2_6.below g7 k2_6.lt).alloc (.cells #[.slice A n c, .int .i64 (sTk xs at_ err 8).2.1, .int .i64 (sTk xs at_ err 8).2.2] 37)
    have k3_7 := (k3_6.below g7 k3_6.lt).alloc (.cells #[.slice A n c, .int .i64 (sTk xs at_ err 8).2.1, .int .i64 (sTk xs at_ err 8).2.2] 37)
    have k4_7 := (k4_6.below g7 k4_6.lt).alloc (.cells #[.slice A n c, .int .i64 (sTk xs at_ err 8).2.1, .int .i64 (sTk xs at_ err 8).2.2] 37)
    have k5_7 := (k5_6.below g7 k5_6.lt).alloc (.cells #[.slice A n c, .int .i64 (sTk xs at_ err 8).2.1, .int .i64 (sTk xs at_ err 8).2.2] 37)
    have k6_7 := (k6_6.below g7 k6_6.lt).alloc (.cells #[.slice A n c, .int .i64 (sTk xs at_ err 8).2.1, .int .i64 (sTk xs at_ err 8).2.2] 37)
    have k7_7 : Blk (w7.alloc (.cells #[.slice A n c, .int .i64 (sTk xs at_ err 8).2.1, .int .i64 (sTk xs at_ err 8).2.2] 37)) w7.heap.size 37 [.slice A n c, .int .i64 (sTk xs at_ err 8).2.1, .int .i64 (sTk xs at_ err 8).2.2] := Blk.new _ _ _
    clear kH6 g7 b6 k1_6 k2_6 k3_6 k4_6 k5_6 k6_6
    obtain ⟨p0, p1, p2, _, _, _⟩ := kH7.three
    go_wp2_with fail
    clear p0 p1 p2
    refine (rtakeHuge_any A n c at_ err xs _ ((hr.below b7).more b7.size) HN.out (by omega) hb).mono ?_
    rintro e w8 ⟨rfl, g8⟩
    have b8 := (b7.trans (g8.mono b7.size)).alloc (b7.trans (g8.mono b7.size)).size (.cells #[.slice A n c, .int .i64 (sTk xs at_ err 8).2.1, .int .i64 (sTk xs at_ err 8).2.2] 37)
    have kH8 := (kH7.below g8 kH7.lt).alloc (.cells #[.slice A n c, .int .i64 (sTk xs at_ err 8).2.1, .int .i64 (sTk xs at_ err 8).2.2] 37)
    have k1_8 := (k1_7.below g8 k1_7.lt).alloc (.cells #[.slice A n c, .int .i64 (sTk xs at_ err 8).2.1, .int .i64 (sTk xs at_ err 8).2.2] 37)
    have k2_8 := (k2_7.below g8 k2_7.lt).alloc (.cells #[.slice A n c, .int .i64 (sTk xs at_ err 8).2.1, .int .i64 (sTk xs at_ err 8).2.2] 37)
    have k3_8 := (k3_7.below g8 k3_7.lt).alloc (.cells #[.slice A n c, .int .i64 (sTk xs at_ err 8).2.1, .int .i64 (sTk xs at_ err 8).2.2] 37)
    have k4_8 := (k4_7.below g8 k4_7.lt).alloc (.cells #[.slice A n c, .int .i64 (sTk xs at_ err 8).2.1, .int .i64 (sTk xs at_ err 8).2.2] 37)
    have k5_8 := (k5_7.below g8 k5_7.lt).alloc (.cells #[.slice A n c, .int .i64 (sTk xs at_ err 8).2.1, .int .i64 (sTk xs at_ err 8).2.2] 37)
    have k6_8 := (k6_7.below g8 k6_7.lt).alloc (.cells #[.slice A n c, .int .i64 (sTk xs at_ err 8).2.1, .int .i64 (sTk xs at_ err 8).2.2] 37)
    have k7_8 := (k7_7.below g8 k7_7.lt).alloc (.cells #[.slice A n c, .int .i64 (sTk xs at_ err 8).2.1, .int .i64 (sTk xs at_ err 8).2.2] 37)
    have k8_8 : Blk (w8.alloc (.cells #[.slice A n c, .int .i64 (sTk xs at_ err 8).2.1, .int .i64 (sTk xs at_ err 8).2.2] 37)) w8.heap.size 37 [.slice A n c, .int .i64 (sTk xs at_ err 8).2.1, .int .i64 (sTk xs at_ err 8).2.2] := Blk.new _ _ _
    clear kH7 g8 b7 k1_7 k2_7 k3_7 k4_7 k5_7 k6_7 k7_7
    obtain ⟨p0, p1, p2, _, _, _⟩ := kH8.three
    go_wp2_with fail
    clear p0 p1 p2
    refine (takeSize_any A n c at_ err most xs _ ((hr.below b8).more b8.size) HN.out hc (by omega) hb).mono ?_
    rintro e w9 ⟨rfl, g9⟩
    have b9 := (b8.trans (g9.mono b8.size)).alloc (b8.trans (g9.mono b8.size)).size (.cells #[.slice A n c, .int .i64 (sTS xs at_ err most).2.1, .int .i64 (sTS xs at_ err most).2.2] 37)
    have kH9 := (kH8.below g9 kH8.lt).alloc (.cells #[.slice A n c, .int .i64 (sTS xs at_ err most).2.1, .int .i64 (sTS xs at_ err most).2.2] 37)
    have k1_9 := (k1_8.below g9 k1_8.lt).alloc (.cells #[.slice A n c, .int .i64 (sTS xs at_ err most).2.1, .int .i64 (sTS xs at_ err most).2.2] 37)
    have k2_9 := (k2_8.below g9 k2_8.lt).alloc (.cells #[.slice A n c, .int .i64 (sTS xs at_ err most).2.1, .int .i64 (sTS xs at_ err most).2.2] 37)
    have k3_9 := (k3_8.below g9 k3_8.lt).alloc (.cells #[.slice A n c, .int .i64 (sTS xs at_ err most).2.1, .int .i64 (sTS xs at_ err most).2.2] 37)
    have k4_9 := (k4_8.below g9 k4_8.lt).alloc (.cells #[.slice A n c, .int .i64 (sTS xs at_ err most).2.1, .int .i64 (sTS xs at_ err most).2.2] 37)
    have k5_9 := (k5_8.below g9 k5_8.lt).alloc (.cells #[.slice A n c, .int .i64 (sTS xs at_ err most).2.1, .int .i64 (sTS xs at_ err most).2.2] 37)
    have k6_9 := (k6_8.below g9 k6_8.lt).alloc (.cells #[.slice A n c, .int .i64 (sTS xs at_ err most).2.1, .int .i64 (sTS xs at_ err most).2.2] 37)
    have k7_9 := (k7_8.below g9 k7_8.lt).alloc (.cells #[.slice A n c, .int .i64 (sTS xs at_ err most).2.1, .int .i64 (sTS xs at_ err most).2.2] 37)
    have k8_9 := (k8_8.below g9 k8_8.lt).alloc (.cells #[.slice A n c, .int .i64 (sTS xs at_ err most).2.1, .int .i64 (sTS xs at_ err most).2.2] 37)
    have k9_9 : Blk (w9.alloc (.cells #[.slice A n c, .int .i64 (sTS xs at_ err most).2.1, .int .i64 (sTS xs at_ err most).2.2] 37)) w9.heap.size 37 [.slice A n c, .int .i64 (sTS xs at_ err most).2.1, .int .i64 (sTS xs at_ err most).2.2] := Blk.new _ _ _
    clear kH8 g9 b8 k1_8 k2_8 k3_8 k4_8 k5_8 k6_8 k7_8 k8_8
    obtain ⟨p0, p1, p2, _, _, _⟩ := kH9.three
    go_wp2_with fail
    clear p0 p1 p2
    refine (rtakeSize_any A n c at_ err most xs _ ((hr.below b9).more b9.size) HN.out (by omega) hb).mono ?_
    rintro e w10 ⟨rfl, g10⟩
    have b10 := (b9.trans (g10.mono b9.size)).alloc (b9.trans (g10.mono b9.size)).size (.cells #[.slice A n c, .int .i64 (sTS xs at_ err most).2.1, .int .i64 (sTS xs at_ err most).2.2] 37)
    have kH10 := (kH9.below g10 kH9.lt).alloc (.cells #[.slice A n c, .int .i64 (sTS xs at_ err most).2.1, .int .i64 (sTS xs at_ err most).2.2] 37)
    have k1_10 := (k1_9.below g10 k1_9.lt).alloc (.cells #[.slice A n c, .int .i64 (sTS xs at_ err most).2.1, .int .i64 (sTS xs at_ err most).2.2] 37)
    have k2_10 := (k2_9.below g10 k2_9.lt).alloc (.cells #[.slice A n c, .int .i64 (sTS xs at_ err most).2.1, .int .i64 (sTS xs at_ err most).2.2] 37)
    have k3_10 := (k3_9.below g10 k3_9.lt).alloc (.cells #[.slice A n c, .int .i64 (sTS xs at_ err most).2.1, .int .i64 (sTS xs at_ err most).2.2] 37)
    have k4_10 := (k4_9.below g10 k4_9.lt).alloc (.cells #[.slice A n c, .int .i64 (sTS xs at_ err most).2.1, .int .i64 (sTS xs at_ err most).2.2] 37)
    have k5_10 := (k5_9.below g10 k5_9.lt).alloc (.cells #[.slice A n c, .int .i64 (sTS xs at_ err most).2.1, .int .i64 (sTS xs at_ err most).2.2] 37)
    have k6_10 := (k6_9.below g10 k6_9.lt).alloc (.cells #[.slice A n c, .int .i64 (sTS xs at_ err most).2.1, .int .i64 (sTS xs at_ err most).2.2] 37)
    have k7_10 := (k7_9.below g10 k7_9.lt).alloc (.cells #[.slice A n c, .int .i64 (sTS xs at_ err most).2.1, .int .i64 (sTS xs at_ err most).2.2] 37)
    have k8_10 := (k8_9.below g10 k8_9.lt).alloc (.cells #[.slice A n c, .int .i64 (sTS xs at_ err most).2.1, .int .i64 (sTS xs at_ err most).2.2] 37)
    have k9_10 := (k9_9.below g10 k9_9.lt).alloc (.cells #[.slice A n c, .int .i64 (sTS xs at_ err most).2.1, .int .i64 (sTS xs at_ err most).2.2] 37)
    have k10_10 : Blk (w10.alloc (.cells #[.slice A n c, .int .i64 (sTS xs at_ err most).2.1, .int .i64 (sTS xs at_ err most).2.2] 37)) w10.heap.size 37 [.slice A n c, .int .i64 (sTS xs at_ err most).2.1, .int .i64 (sTS xs at_ err most).2.2] := Blk.new _ _ _
    clear kH9 g10 b9 k1_9 k2_9 k3_9 k4_9 k5_9 k6_9 k7_9 k8_9 k9_9
    go_wp2_with fail
    have hkeep : ∀ W w' : World, (Below w.heap.size w W ∧ W.cell? ⟨w.heap.size, 0, none⟩ = some (.slice A n c) ∧ W.cell? ⟨w.heap.size, 1, none⟩ = some (.int .i64 at_) ∧ W.cell? ⟨w.heap.size, 2, none⟩ = some (.int .i64 err) ∧ W.cell? ⟨w1.heap.size, 0, none⟩ = some (.slice A n c) ∧ W.cell? ⟨w1.heap.size, 1, none⟩ = some (.int .i64 (sTk xs at_ err 1).2.1) ∧ W.cell? ⟨w1.heap.size, 2, none⟩ = some (.int .i64 (sTk xs at_ err 1).2.2) ∧ W.cell? ⟨w2.heap.size, 0, none⟩ = some (.slice A n c) ∧ W.cell? ⟨w2.heap.size, 1, none⟩ = some (.int .i64 (sTk xs at_ err 1).2.1) ∧ W.cell? ⟨w2.heap.size, 2, none⟩ = some (.int .i64 (sTk xs at_ err 1).2.2) ∧ W.cell? ⟨w3.heap.size, 0, none⟩ = some (.slice A n c) ∧ W.cell? ⟨w3.heap.size, 1, none⟩ = some (.int .i64 (sTk xs at_ err 2).2.1) ∧ W.cell? ⟨w3.heap.size, 2, none⟩ = some (.int .i64 (sTk xs at_ err 2).2.2) ∧ W.cell? ⟨w4.heap.size, 0, none⟩ = some (.slice A n c) ∧ W.cell? ⟨w4.heap.size, 1, none⟩ = some (.int .i64 (sTk xs at_ err 2).2.1) ∧ W.cell? ⟨w4.heap.size, 2, none⟩ = some (.int .i64 (sTk xs at_ err 2).2.2) ∧ W.cell? ⟨w5.heap.size, 0, none⟩ = some (.slice A n c) ∧ W.cell? ⟨w5.heap.size, 1, none⟩ = some (.int .i64 (sTk xs at_ err 4).2.1) ∧ W.cell? ⟨w5.heap.size, 2, none⟩ = some (.int .i64 (sTk xs at_ err 4).2.2) ∧ W.cell? ⟨w6.heap.size, 0, none⟩ = some (.slice A n c) ∧ W.cell? ⟨w6.heap.size, 1, none⟩ = some (.int .i64 (sTk xs at_ err 4).2.1) ∧ W.cell? ⟨w6.heap.size, 2, none⟩ = some (.int .i64 (sTk xs at_ err 4).2.2) ∧ W.cell? ⟨w7.heap.size, 0, none⟩ = some (.slice A n c) ∧ W.cell? ⟨w7.heap.size, 1, none⟩ = some (.int .i64 (sTk xs at_ err 8).2.1) ∧ W.cell? ⟨w7.heap.size, 2, none⟩ = some (.int .i64 (sTk xs at_ err 8).2.2) ∧ W.cell? ⟨w8.heap.size, 0, none⟩ = some (.slice A n c) ∧ W.cell? ⟨w8.heap.size, 1, none⟩ = some (.int .i64 (sTk xs at_ err 8).2.1) ∧ W.cell? ⟨w8.heap.size, 2, none⟩ = some (.int .i64 (sTk xs at_ err 8).2.2) ∧ W.cell? ⟨w9.heap.size, 0, none⟩ = some (.slice A n c) ∧ W.cell? ⟨w9.heap.size, 1, none⟩ = some (.int .i64 (sTS xs at_ err most).2.1) ∧ W.cell? ⟨w9.heap.size, 2, none⟩ = some (.int .i64 (sTS xs at_ err most).2.2) ∧ W.cell? ⟨w10.heap.size, 0, none⟩ = some (.slice A n c) ∧ W.cell? ⟨w10.heap.size, 1, none⟩ = some (.int .i64 (sTS xs at_ err most).2.1) ∧ W.cell? ⟨w10.heap.size, 2, none⟩ = some (.int .i64 (sTS xs at_ err most).2.2)) → Below W.heap.size W w' → (Below w.heap.size w w' ∧ w'.cell? ⟨w.heap.size, 0, none⟩ = some (.slice A n c) ∧ w'.cell? ⟨w.heap.size, 1, none⟩ = some (.int .i64 at_) ∧ w'.cell? ⟨w.heap.size, 2, none⟩ = some (.int .i64 err) ∧ w'.cell? ⟨w1.heap.size, 0, none⟩ = some (.slice A n c) ∧ w'.cell? ⟨w1.heap.size, 1, none⟩ = some (.int .i64 (sTk xs at_ err 1).2.1) ∧ w'.cell? ⟨w1.heap.size, 2, none⟩ = some (.int .i64 (sTk xs at_ err 1).2.2) ∧ w'.cell? ⟨w2.heap.size, 0, none⟩ = some (.slice A n c) ∧ w'.cell? ⟨w2.heap.size, 1, none⟩ = some (.int .i64 (sTk xs at_ err 1).2.1) ∧ w'.cell? ⟨w2.heap.size, 2, none⟩ = some (.int .i64 (sTk xs at_ err 1).2.2) ∧ w'.cell? ⟨w3.heap.size, 0, none⟩ = some (.slice A n c) ∧ w'.cell? ⟨w3.heap.size, 1, none⟩ = some (.int .i64 (sTk xs at_ err 2).2.1) ∧ w'.cell? ⟨w3.heap.size, 2, none⟩ = some (.int .i64 (sTk xs at_ err 2).2.2) ∧ w'.cell? ⟨w4.heap.size, 0, none⟩ = some (.slice A n c) ∧ w'.cell? ⟨w4.heap.size, 1, none⟩ = some (.int .i64 (sTk xs at_ err 2).2.1) ∧ w'.cell? ⟨w4.heap.size, 2, none⟩ = some (.int .i64 (sTk xs at_ err 2).2.2) ∧ w'.cell? ⟨w5.heap.size, 0, none⟩ = some (.slice A n c) ∧ w'.cell? ⟨w5.heap.size, 1, none⟩ = some (.int .i64 (sTk xs at_ err 4).2.1) ∧ w'.cell? ⟨w5.heap.size, 2, none⟩ = some (.int .i64 (sTk xs at_ err 4).2.2) ∧ w'.cell? ⟨w6.heap.size, 0, none⟩ = some (.slice A n c) ∧ w'.cell? ⟨w6.heap.size, 1, none⟩ = some (.int .i64 (sTk xs at_ err 4).2.1) ∧ w'.cell? ⟨w6.heap.size, 2, none⟩ = some (.int .i64 (sTk xs at_ err 4).2.2) ∧ w'.cell? ⟨w7.heap.size, 0, none⟩ = some (.slice A n c) ∧ w'.cell? ⟨w7.heap.size, 1, none⟩ = some (.int .i64 (sTk xs at_ err 8).2.1) ∧ w'.cell? ⟨w7.heap.size, 2, none⟩ = some (.int .i64 (sTk xs at_ err 8).2.2) ∧ w'.cell? ⟨w8.heap.size, 0, none⟩ = some (.slice A n c) ∧ w'.cell? ⟨w8.heap.size, 1, none⟩ = some (.int .i64 (sTk xs at_ err 8).2.1) ∧ w'.cell? ⟨w8.heap.size, 2, none⟩ = some (.int .i64 (sTk xs at_ err 8).2.2) ∧ w'.cell? ⟨w9.heap.size, 0, none⟩ = some (.slice A n c) ∧ w'.cell? ⟨w9.heap.size, 1, none⟩ = some (.int .i64 (sTS xs at_ err most).2.1) ∧ w'.cell? ⟨w9.heap.size, 2, none⟩ = some (.int .i64 (sTS xs at_ err most).2.2) ∧ w'.cell? ⟨w10.heap.size, 0, none⟩ = some (.slice A n c) ∧ w'.cell? ⟨w10.heap.size, 1, none⟩ = some (.int .i64 (sTS xs at_ err most).2.1) ∧ w'.cell? ⟨w10.heap.size, 2, none⟩ = some (.int .i64 (sTS xs at_ err most).2.2)) := fun W w' ⟨h0, h1, h2, h3, h4, h5, h6, h7, h8, h9, h10, h11, h12, h13, h14, h15, h16, h17, h18, h19, h20, h21, h22, h23, h24, h25, h26, h27, h28, h29, h30, h31, h32, h33⟩ hb => ⟨h0.trans (hb.mono h0.size), cell_keep hb h1, cell_keep hb h2, cell_keep hb h3, cell_keep hb h4, cell_keep hb h5, cell_keep hb h6, cell_keep hb h7, cell_keep hb h8, cell_keep hb h9, cell_keep hb h10, cell_keep hb h11, cell_keep hb h12, cell_keep hb h13, cell_keep hb h14, cell_keep hb h15, cell_keep hb h16, cell_keep hb h17, cell_keep hb h18, cell_keep hb h19, cell_keep hb h20, cell_keep hb h21, cell_keep hb h22, cell_keep hb h23, cell_keep hb h24, cell_keep hb h25, cell_keep hb h26, cell_keep hb h27, cell_keep hb h28, cell_keep hb h29, cell_keep hb h30, cell_keep hb h31, cell_keep hb h32, cell_keep hb h33⟩
    have hSB : ∀ W : World, (Below w.heap.size w W ∧ W.cell? ⟨w.heap.size, 0, none⟩ = some (.slice A n c) ∧ W.cell? ⟨w.heap.size, 1, none⟩ = some (.int .i64 at_) ∧ W.cell? ⟨w.heap.size, 2, none⟩ = some (.int .i64 err) ∧ W.cell? ⟨w1.heap.size, 0, none⟩ = some (.slice A n c) ∧ W.cell? ⟨w1.heap.size, 1, none⟩ = some (.int .i64 (sTk xs at_ err 1).2.1) ∧ W.cell? ⟨w1.heap.size, 2, none⟩ = some (.int .i64 (sTk xs at_ err 1).2.2) ∧ W.cell? ⟨w2.heap.size, 0, none⟩ = some (.slice A n c) ∧ W.cell? ⟨w2.heap.size, 1, none⟩ = some (.int .i64 (sTk xs at_ err 1).2.1) ∧ W.cell? ⟨w2.heap.size, 2, none⟩ = some (.int .i64 (sTk xs at_ err 1).2.2) ∧ W.cell? ⟨w3.heap.size, 0, none⟩ = some (.slice A n c) ∧ W.cell? ⟨w3.heap.size, 1, none⟩ = some (.int .i64 (sTk xs at_ err 2).2.1) ∧ W.cell? ⟨w3.heap.size, 2, none⟩ = some (.int .i64 (sTk xs at_ err 2).2.2) ∧ W.cell? ⟨w4.heap.size, 0, none⟩ = some (.slice A n c) ∧ W.cell? ⟨w4.heap.size, 1, none⟩ = some (.int .i64 (sTk xs at_ err 2).2.1) ∧ W.cell? ⟨w4.heap.size, 2, none⟩ = some (.int .i64 (sTk xs at_ err 2).2.2) ∧ W.cell? ⟨w5.heap.size, 0, none⟩ = some (.slice A n c) ∧ W.cell? ⟨w5.heap.size, 1, none⟩ = some (.int .i64 (sTk xs at_ err 4).2.1) ∧ W.cell? ⟨w5.heap.size, 2, none⟩ = some (.int .i64 (sTk xs at_ err 4).2.2) ∧ W.cell? ⟨w6.heap.size, 0, none⟩ = some (.slice A n c) ∧ W.cell? ⟨w6.heap.size, 1, none⟩ = some (.int .i64 (sTk xs at_ err 4).2.1) ∧ W.cell? ⟨w6.heap.size, 2, none⟩ = some (.int .i64 (sTk xs at_ err 4).2.2) ∧ W.cell? ⟨w7.heap.size, 0, none⟩ = some (.slice A n c) ∧ W.cell? ⟨w7.heap.size, 1, none⟩ = some (.int .i64 (sTk xs at_ err 8).2.1) ∧ W.cell? ⟨w7.heap.size, 2, none⟩ = some (.int .i64 (sTk xs at_ err 8).2.2) ∧ W.cell? ⟨w8.heap.size, 0, none⟩ = some (.slice A n c) ∧ W.cell? ⟨w8.heap.size, 1, none⟩ = some (.int .i64 (sTk xs at_ err 8).2.1) ∧ W.cell? ⟨w8.heap.size, 2, none⟩ = some (.int .i64 (sTk xs at_ err 8).2.2) ∧ W.cell? ⟨w9.heap.size, 0, none⟩ = some (.slice A n c) ∧ W.cell? ⟨w9.heap.size, 1, none⟩ = some (.int .i64 (sTS xs at_ err most).2.1) ∧ W.cell? ⟨w9.heap.size, 2, none⟩ = some (.int .i64 (sTS xs at_ err most).2.2) ∧ W.cell? ⟨w10.heap.size, 0, none⟩ = some (.slice A n c) ∧ W.cell? ⟨w10.heap.size, 1, none⟩ = some (.int .i64 (sTS xs at_ err most).2.1) ∧ W.cell? ⟨w10.heap.size, 2, none⟩ = some (.int .i64 (sTS xs at_ err most).2.2)) → Below w.heap.size w W := fun W h => h.1
    have h0S : Below w.heap.size w (w10.alloc (.cells #[.slice A n c, .int .i64 (sTS xs at_ err most).2.1, .int .i64 (sTS xs at_ err most).2.2] 37)).drew ∧ (w10.alloc (.cells #[.slice A n c, .int .i64 (sTS xs at_ err most).2.1, .int .i64 (sTS xs at_ err most).2.2] 37)).drew.cell? ⟨w.heap.size, 0, none⟩ = some (.slice A n c) ∧ (w10.alloc (.cells #[.slice A n c, .int .i64 (sTS xs at_ err most).2.1, .int .i64 (sTS xs at_ err most).2.2] 37)).drew.cell? ⟨w.heap.size, 1, none⟩ = some (.int .i64 at_) ∧ (w10.alloc (.cells #[.slice A n c, .int .i64 (sTS xs at_ err most).2.1, .int .i64 (sTS xs at_ err most).2.2] 37)).drew.cell? ⟨w.heap.size, 2, none⟩ = some (.int .i64 err) ∧ (w10.alloc (.cells #[.slice A n c, .int .i64 (sTS xs at_ err most).2.1, .int .i64 (sTS xs at_ err most).2.2] 37)).drew.cell? ⟨w1.heap.size, 0, none⟩ = some (.slice A n c) ∧ (w10.alloc (.cells #[.slice A n c, .int .i64 (sTS xs at_ err most).2.1, .int .i64 (sTS xs at_ err most).2.2] 37)).drew.cell? ⟨w1.heap.size, 1, none⟩ = some (.int .i64 (sTk xs at_ err 1).2.1) ∧ (w10.alloc (.cells #[.slice A n c, .int .i64 (sTS xs at_ err most).2.1, .int .i64 (sTS xs at_ err most).2.2] 37)).drew.cell? ⟨w1.heap.size, 2, none⟩ = some (.int .i64 (sTk xs at_ err 1).2.2) ∧ (w10.alloc (.cells #[.slice A n c, .int .i64 (sTS xs at_ err most).2.1, .int .i64 (sTS xs at_ err most).2.2] 37)).drew.cell? ⟨w2.heap.size, 0, none⟩ = some (.slice A n c) ∧ (w10.alloc (.cells #[.slice A n c, .int .i64 (sTS xs at_ err most).2.1, .int .i64 (sTS xs at_ err most).2.2] 37)).drew.cell? ⟨w2.heap.size, 1, none⟩ = some (.int .i64 (sTk xs at_ err 1).2.1) ∧ (w10.alloc (.cells #[.slice A n c, .int .i64 (sTS xs at_ err most).2.1, .int .i64 (sTS xs at_ err most).2.2] 37)).drew.cell? ⟨w2.heap.size, 2, none⟩ = some (.int .i64 (sTk xs at_ err 1).2.2) ∧ (w10.alloc (.cells #[.slice A n c, .int .i64 (sTS xs at_ err most).2.1, .int .i64 (sTS xs at_ err most).2.2] 37)).drew.cell? ⟨w3.heap.size, 0, none⟩ = some (.slice A n c) ∧ (w10.alloc (.cells #[.slice A n c, .int .i64 (sTS xs at_ err most).2.1, .int .i64 (sTS xs at_ err most).2.2] 37)).drew.cell? ⟨w3.heap.size, 1, none⟩ = some (.int .i64 (sTk xs at_ err 2).2.1) ∧ (w10.alloc (.cells #[.slice A n c, .int .i64 (sTS xs at_ err most).2.1, .int .i64 (sTS xs at_ err most).2.2] 37)).drew.cell? ⟨w3.heap.size, 2, none⟩ = some (.int .i64 (sTk xs at_ err 2).2.2) ∧ (w10.alloc (.cells #[.slice A n c, .int .i64 (sTS xs at_ err most).2.1, .int .i64 (sTS xs at_ err most).2.2] 37)).drew.cell? ⟨w4.heap.size, 0, none⟩ = some (.slice A n c) ∧ (w10.alloc (.cells #[.slice A n c, .int .i64 (sTS xs at_ err most).2.1, .int .i64 (sTS xs at_ err most).2.2] 37)).drew.cell? ⟨w4.heap.size, 1, none⟩ = some (.int .i64 (sTk xs at_ err 2).2.1) ∧ (w10.alloc (.cells #[.slice A n c, .int .i64 (sTS xs at_ err most).2.1, .int .i64 (sTS xs at_ err most).2.2] 37)).drew.cell? ⟨w4.heap.size, 2, none⟩ = some (.int .i64 (sTk xs at_ err 2).2.2) ∧ (w10.alloc (.cells #[.slice A n c, .int .i64 (sTS xs at_ err most).2.1, .int .i64 (sTS xs at_ err most).2.2] 37)).drew.cell? ⟨w5.heap.size, 0, none⟩ = some (.slice A n c) ∧ (w10.alloc (.cells #[.slice A n c, .int .i64 (sTS xs at_ err most).2.1, .int .i64 (sTS xs at_ err most).2.2] 37)).drew.cell? ⟨w5.heap.size, 1, none⟩ = some (.int .i64 (sTk xs at_ err 4).2.1) ∧ (w10.alloc (.cells #[.slice A n c, .int .i64 (sTS xs at_ err most).2.1, .int .i64 (sTS xs at_ err most).2.2] 37)).drew.cell? ⟨w5.heap.size, 2, none⟩ = some (.int .i64 (sTk xs at_ err 4).2.2) ∧ (w10.alloc (.cells #[.slice A n c, .int .i64 (sTS xs at_ err most).2.1, .int .i64 (sTS xs at_ err most).2.2] 37)).drew.cell? ⟨w6.heap.size, 0, none⟩ = some (.slice A n c) ∧ (w10.alloc (.cells #[.slice A n c, .int .i64 (sTS xs at_ err most).2.1, .int .i64 (sTS xs at_ err most).2.2] 37)).drew.cell? ⟨w6.heap.size, 1, none⟩ = some (.int .i64 (sTk xs at_ err 4).2.1) ∧ (w10.alloc (.cells #[.slice A n c, .int .i64 (sTS xs at_ err most).2.1, .int .i64 (sTS xs at_ err most).2.2] 37)).drew.cell? ⟨w6.heap.size, 2, none⟩ = some (.int .i64 (sTk xs at_ err 4).2.2) ∧ (w10.alloc (.cells #[.slice A n c, .int .i64 (sTS xs at_ err most).2.1, .int .i64 (sTS xs at_ err most).2.2] 37)).drew.cell? ⟨w7.heap.size, 0, none⟩ = some (.slice A n c) ∧ (w10.alloc (.cells #[.slice A n c, .int .i64 (sTS xs at_ err most).2.1, .int .i64 (sTS xs at_ err most).2.2] 37)).drew.cell? ⟨w7.heap.size, 1, none⟩ = some (.int .i64 (sTk xs at_ err 8).2.1) ∧ (w10.alloc (.cells #[.slice A n c, .int .i64 (sTS xs at_ err most).2.1, .int .i64 (sTS xs at_ err most).2.2] 37)).drew.cell? ⟨w7.heap.size, 2, none⟩ = some (.int .i64 (sTk xs at_ err 8).2.2) ∧ (w10.alloc (.cells #[.slice A n c, .int .i64 (sTS xs at_ err most).2.1, .int .i64 (sTS xs at_ err most).2.2] 37)).drew.cell? ⟨w8.heap.size, 0, none⟩ = some (.slice A n c) ∧ (w10.alloc (.cells #[.slice A n c, .int .i64 (sTS xs at_ err most).2.1, .int .i64 (sTS xs at_ err most).2.2] 37)).drew.cell? ⟨w8.heap.size, 1, none⟩ = some (.int .i64 (sTk xs at_ err 8).2.1) ∧ (w10.alloc (.cells #[.slice A n c, .int .i64 (sTS xs at_ err most).2.1, .int .i64 (sTS xs at_ err most).2.2] 37)).drew.cell? ⟨w8.heap.size, 2, none⟩ = some (.int .i64 (sTk xs at_ err 8).2.2) ∧ (w10.alloc (.cells #[.slice A n c, .int .i64 (sTS xs at_ err most).2.1, .int .i64 (sTS xs at_ err most).2.2] 37)).drew.cell? ⟨w9.heap.size, 0, none⟩ = some (.slice A n c) ∧ (w10.alloc (.cells #[.slice A n c, .int .i64 (sTS xs at_ err most).2.1, .int .i64 (sTS xs at_ err most).2.2] 37)).drew.cell? ⟨w9.heap.size, 1, none⟩ = some (.int .i64 (sTS xs at_ err most).2.1) ∧ (w10.alloc (.cells #[.slice A n c, .int .i64 (sTS xs at_ err most).2.1, .int .i64 (sTS xs at_ err most).2.2] 37)).drew.cell? ⟨w9.heap.size, 2, none⟩ = some (.int .i64 (sTS xs at_ err most).2.2) ∧ (w10.alloc (.cells #[.slice A n c, .int .i64 (sTS xs at_ err most).2.1, .int .i64 (sTS xs at_ err most).2.2] 37)).drew.cell? ⟨w10.heap.size, 0, none⟩ = some (.slice A n c) ∧ (w10.alloc (.cells #[.slice A n c, .int .i64 (sTS xs at_ err most).2.1, .int .i64 (sTS xs at_ err most).2.2] 37)).drew.cell? ⟨w10.heap.size, 1, none⟩ = some (.int .i64 (sTS xs at_ err most).2.1) ∧ (w10.alloc (.cells #[.slice A n c, .int .i64 (sTS xs at_ err most).2.1, .int .i64 (sTS xs at_ err most).2.2] 37)).drew.cell? ⟨w10.heap.size, 2, none⟩ = some (.int .i64 (sTS xs at_ err most).2.2) := ⟨b10.drew, kH10.cell 0, kH10.cell 1, kH10.cell 2, k1_10.cell 0, k1_10.cell 1, k1_10.cell 2, k2_10.cell 0, k2_10.cell 1, k2_10.cell 2, k3_10.cell 0, k3_10.cell 1, k3_10.cell 2, k4_10.cell 0, k4_10.cell 1, k4_10.cell 2, k5_10.cell 0, k5_10.cell 1, k5_10.cell 2, k6_10.cell 0, k6_10.cell 1, k6_10.cell 2, k7_10.cell 0, k7_10.cell 1, k7_10.cell 2, k8_10.cell 0, k8_10.cell 1, k8_10.cell 2, k9_10.cell 0, k9_10.cell 1, k9_10.cell 2, k10_10.cell 0, k10_10.cell 1, k10_10.cell 2⟩
    have H0S := Lib.hid h0S
    clear h0S kH10 b10 k1_10 k2_10 k3_10 k4_10 k5_10 k6_10 k7_10 k8_10 k9_10 k10_10
    have HKEEP := Lib.hid hkeep
    have HSB := Lib.hid hSB
    clear hkeep hSB
    go_region_held3 (fun W => Below w.heap.size w W ∧ W.cell? ⟨w.heap.size, 0, none⟩ = some (.slice A n c) ∧ W.cell? ⟨w.heap.size, 1, none⟩ = some (.int .i64 at_) ∧ W.cell? ⟨w.heap.size, 2, none⟩ = some (.int .i64 err) ∧ W.cell? ⟨w1.heap.size, 0, none⟩ = some (.slice A n c) ∧ W.cell? ⟨w1.heap.size, 1, none⟩ = some (.int .i64 (sTk xs at_ err 1).2.1) ∧ W.cell? ⟨w1.heap.size, 2, none⟩ = some (.int .i64 (sTk xs at_ err 1).2.2) ∧ W.cell? ⟨w2.heap.size, 0, none⟩ = some (.slice A n c) ∧ W.cell? ⟨w2.heap.size, 1, none⟩ = some (.int .i64 (sTk xs at_ err 1).2.1) ∧ W.cell? ⟨w2.heap.size, 2, none⟩ = some (.int .i64 (sTk xs at_ err 1).2.2) ∧ W.cell? ⟨w3.heap.size, 0, none⟩ = some (.slice A n c) ∧ W.cell? ⟨w3.heap.size, 1, none⟩ = some (.int .i64 (sTk xs at_ err 2).2.1) ∧ W.cell? ⟨w3.heap.size, 2, none⟩ = some (.int .i64 (sTk xs at_ err 2).2.2) ∧ W.cell? ⟨w4.heap.size, 0, none⟩ = some (.slice A n c) ∧ W.cell? ⟨w4.heap.size, 1, none⟩ = some (.int .i64 (sTk xs at_ err 2).2.1) ∧ W.cell? ⟨w4.heap.size, 2, none⟩ = some (.int .i64 (sTk xs at_ err 2).2.2) ∧ W.cell? ⟨w5.heap.size, 0, none⟩ = some (.slice A n c) ∧ W.cell? ⟨w5.heap.size, 1, none⟩ = some (.int .i64 (sTk xs at_ err 4).2.1) ∧ W.cell? ⟨w5.heap.size, 2, none⟩ = some (.int .i64 (sTk xs at_ err 4).2.2) ∧ W.cell? ⟨w6.heap.size, 0, none⟩ = some (.slice A n c) ∧ W.cell? ⟨w6.heap.size, 1, none⟩ = some (.int .i64 (sTk xs at_ err 4).2.1) ∧ W.cell? ⟨w6.heap.size, 2, none⟩ = some (.int .i64 (sTk xs at_ err 4).2.2) ∧ W.cell? ⟨w7.heap.size, 0, none⟩ = some (.slice A n c) ∧ W.cell? ⟨w7.heap.size, 1, none⟩ = some (.int .i64 (sTk xs at_ err 8).2.1) ∧ W.cell? ⟨w7.heap.size, 2, none⟩ = some (.int .i64 (sTk xs at_ err 8).2.2) ∧ W.cell? ⟨w8.heap.size, 0, none⟩ = some (.slice A n c) ∧ W.cell? ⟨w8.heap.size, 1, none⟩ = some (.int .i64 (sTk xs at_ err 8).2.1) ∧ W.cell? ⟨w8.heap.size, 2, none⟩ = some (.int .i64 (sTk xs at_ err 8).2.2) ∧ W.cell? ⟨w9.heap.size, 0, none⟩ = some (.slice A n c) ∧ W.cell? ⟨w9.heap.size, 1, none⟩ = some (.int .i64 (sTS xs at_ err most).2.1) ∧ W.cell? ⟨w9.heap.size, 2, none⟩ = some (.int .i64 (sTS xs at_ err most).2.2) ∧ W.cell? ⟨w10.heap.size, 0, none⟩ = some (.slice A n c) ∧ W.cell? ⟨w10.heap.size, 1, none⟩ = some (.int .i64 (sTS xs at_ err most).2.1) ∧ W.cell? ⟨w10.heap.size, 2, none⟩ = some (.int .i64 (sTS xs at_ err most).2.2)) (first | with_reducible exact H0S.out | with_reducible exact HKEEP.out _ _ (by assumption) (by assumption) | assumption) (first | (go_at_call 28; refine (rreader_same A A n n c c _ _ xs _ (Rd.more (hr.below (HSB.out _ (by assumption))) (HSB.out _ (by assumption)).size) (Rd.more (hr.below (HSB.out _ (by assumption))) (HSB.out _ (by assumption)).size) HN.out HN.out).mono ?_; rintro e w' ⟨rfl, hbn⟩) | (go_at_call 40; refine (end_any A n c at_ err _).mono ?_; rintro e w' ⟨rfl, hbn⟩) | (go_at_call 41; refine (rend_any A n c at_ err _).mono ?_; rintro e w' ⟨rfl, hbn⟩) | (go_at_call 8; refine (awake_any _).mono ?_; rintro e w' ⟨rfl, hbn⟩))
    all_goals
      go_wp2
      go_ret
      exact ⟨rfl, HSB.out _ (by assumption)⟩
end Go.Proofs.Ytljebpbjjfnmkaa
