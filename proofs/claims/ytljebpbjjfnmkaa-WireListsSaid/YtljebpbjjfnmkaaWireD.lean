/- The law WireLists, walked. Printed by gen_wlists.py. -/
import Derived.Test.YtljebpbjjfnmkaaWireA
import Derived.Test.YtljebpbjjfnmkaaWireF
import Derived.Test.YtljebpbjjfnmkaaWireH
namespace Go.Proofs.Ytljebpbjjfnmkaa
open Go.RowKit Go.IntWalk
set_option maxRecDepth 100000
set_option linter.unusedVariables false

set_option maxHeartbeats 4000000 in
theorem wireLists_walk (A : Option Addr) (n c : Nat) (xs : List Int) (at_ err most : Int) (w : World) (hn : n = xs.length) (hr : Rd w w.heap.size A (cb .u8 xs)) (hw : ∀ z ∈ xs, (Lit.int .u8 z).wf = true) (hc : n ≤ c) (hc' : c ≤ maxLen) (ha : (Lit.int .i64 at_).wf = true) (he : (Lit.int .i64 err).wf = true) (hm : (Lit.int .i64 most).wf = true) :
    Calls Try.prog 5 #[.agg #[.slice A n c, .int .i64 at_, .int .i64 err], .int .i64 most] w fun e w' => e = .returned (.bool true) ∧ Below w.heap.size w w' := by
  have HN := Lib.hid hn
  have hb : Byt xs := fun z hz => wf_u8 (hw z hz)
  clear hn hw hc' ha he hm
  by_cases h1 : 600 < n
  · go_enter Try.func5, Try.ntmps5
    go_wp2_with fail
    refine (awake_any _).mono ?_
    rintro e w1 ⟨rfl, hb1⟩
    go_wp2
    go_ret
    exact ⟨rfl, ((Below.refl _ _).alloc (Nat.le_refl _) _).trans (hb1.mono (by simp))⟩
  · have hl : n ≤ 600 := by omega
    have HLEN : Hid ((sPairs (sOf xs at_ err most 2).1).length ≤ 600) := by
      have h1 := sPairs_le (sOf xs at_ err most 2).1
      have h2 := sOf_len xs at_ err most 2
      have h3 := HN.out
      unfold Hid; omega
    go_enter Try.func5, Try.ntmps5
    go_wp2_with fail
    have b0 : Below w.heap.size w (w.alloc (.cells #[.slice A n c, .int .i64 at_, .int .i64 err] 37)) := (Below.refl _ _).alloc (Nat.le_refl _) _
    have kH0 : Blk (w.alloc (.cells #[.slice A n c, .int .i64 at_, .int .i64 err] 37)) w.heap.size 37 [.slice A n c, .int .i64 at_, .int .i64 err] := Blk.new _ _ _
    refine (takeText_any A n c at_ err most xs _ ((hr.below b0).more b0.size) HN.out hc (by omega) hb).mono ?_
    rintro e w1 ⟨rfl, g1⟩
    have b1 := (b0.trans (g1.mono b0.size)).alloc (b0.trans (g1.mono b0.size)).size (.cells #[.slice A n c, .int .i64 (sOf xs at_ err most 1).2.1, .int .i64 (sOf xs at_ err most 1).2.2] 37)
    have kH1 := (kH0.below g1 kH0.lt).alloc (.cells #[.slice A n c, .int .i64 (sOf xs at_ err most 1).2.1, .int .i64 (sOf xs at_ err most 1).2.2] 37)
    have k1_1 : Blk (w1.alloc (.cells #[.slice A n c, .int .i64 (sOf xs at_ err most 1).2.1, .int .i64 (sOf xs at_ err most 1).2.2] 37)) w1.heap.size 37 [.slice A n c, .int .i64 (sOf xs at_ err most 1).2.1, .int .i64 (sOf xs at_ err most 1).2.2] := Blk.new _ _ _
    clear kH0 g1 b0 
    obtain ⟨p0, p1, p2, _, _, _⟩ := kH1.three
    go_wp2_with fail
    clear p0 p1 p2
    refine (rtakeText_any A n c at_ err most xs _ ((hr.below b1).more b1.size) HN.out hc (by omega) hb).mono ?_
    rintro e w2 ⟨rfl, g2⟩
    have b2 := (b1.trans (g2.mono b1.size)).alloc (b1.trans (g2.mono b1.size)).size (.cells #[.slice A n c, .int .i64 (sOf xs at_ err most 1).2.1, .int .i64 (sOf xs at_ err most 1).2.2] 37)
    have kH2 := (kH1.below g2 kH1.lt).alloc (.cells #[.slice A n c, .int .i64 (sOf xs at_ err most 1).2.1, .int .i64 (sOf xs at_ err most 1).2.2] 37)
    have k1_2 := (k1_1.below g2 k1_1.lt).alloc (.cells #[.slice A n c, .int .i64 (sOf xs at_ err most 1).2.1, .int .i64 (sOf xs at_ err most 1).2.2] 37)
    have k2_2 : Blk (w2.alloc (.cells #[.slice A n c, .int .i64 (sOf xs at_ err most 1).2.1, .int .i64 (sOf xs at_ err most 1).2.2] 37)) w2.heap.size 37 [.slice A n c, .int .i64 (sOf xs at_ err most 1).2.1, .int .i64 (sOf xs at_ err most 1).2.2] := Blk.new _ _ _
    clear kH1 g2 b1 k1_1
    obtain ⟨p0, p1, p2, _, _, _⟩ := kH2.three
    go_wp2_with fail
    clear p0 p1 p2
    refine (takeInts_any A n c at_ err most xs _ ((hr.below b2).more b2.size) HN.out hc (by omega) hb).mono ?_
    rintro e w3 ⟨A3, n3, c3, rfl, o3, g3⟩
    have b3 := (b2.trans (g3.mono b2.size)).alloc (b2.trans (g3.mono b2.size)).size (.cells #[.slice A n c, .int .i64 (sOf xs at_ err most 2).2.1, .int .i64 (sOf xs at_ err most 2).2.2] 37)
    have kH3 := (kH2.below g3 kH2.lt).alloc (.cells #[.slice A n c, .int .i64 (sOf xs at_ err most 2).2.1, .int .i64 (sOf xs at_ err most 2).2.2] 37)
    have k1_3 := (k1_2.below g3 k1_2.lt).alloc (.cells #[.slice A n c, .int .i64 (sOf xs at_ err most 2).2.1, .int .i64 (sOf xs at_ err most 2).2.2] 37)
    have k2_3 := (k2_2.below g3 k2_2.lt).alloc (.cells #[.slice A n c, .int .i64 (sOf xs at_ err most 2).2.1, .int .i64 (sOf xs at_ err most 2).2.2] 37)
    replace o3 := o3.alloc (.cells #[.slice A n c, .int .i64 (sOf xs at_ err most 2).2.1, .int .i64 (sOf xs at_ err most 2).2.2] 37)
    have k3_3 : Blk (w3.alloc (.cells #[.slice A n c, .int .i64 (sOf xs at_ err most 2).2.1, .int .i64 (sOf xs at_ err most 2).2.2] 37)) w3.heap.size 37 [.slice A n c, .int .i64 (sOf xs at_ err most 2).2.1, .int .i64 (sOf xs at_ err most 2).2.2] := Blk.new _ _ _
    clear kH2 g3 b2 k1_2 k2_2
    obtain ⟨p0, p1, p2, _, _, _⟩ := kH3.three
    go_wp2_with fail
    clear p0 p1 p2
    refine (rtakeInts_any A n c at_ err most xs _ ((hr.below b3).more b3.size) HN.out hc (by omega) hb).mono ?_
    rintro e w4 ⟨A4, n4, c4, rfl, o4, g4⟩
    have b4 := (b3.trans (g4.mono b3.size)).alloc (b3.trans (g4.mono b3.size)).size (.cells #[.slice A n c, .int .i64 (sOf xs at_ err most 2).2.1, .int .i64 (sOf xs at_ err most 2).2.2] 37)
    have kH4 := (kH3.below g4 kH3.lt).alloc (.cells #[.slice A n c, .int .i64 (sOf xs at_ err most 2).2.1, .int .i64 (sOf xs at_ err most 2).2.2] 37)
    have k1_4 := (k1_3.below g4 k1_3.lt).alloc (.cells #[.slice A n c, .int .i64 (sOf xs at_ err most 2).2.1, .int .i64 (sOf xs at_ err most 2).2.2] 37)
    have k2_4 := (k2_3.below g4 k2_3.lt).alloc (.cells #[.slice A n c, .int .i64 (sOf xs at_ err most 2).2.1, .int .i64 (sOf xs at_ err most 2).2.2] 37)
    have k3_4 := (k3_3.below g4 k3_3.lt).alloc (.cells #[.slice A n c, .int .i64 (sOf xs at_ err most 2).2.1, .int .i64 (sOf xs at_ err most 2).2.2] 37)
    replace o3 := (o3.below g4).alloc (.cells #[.slice A n c, .int .i64 (sOf xs at_ err most 2).2.1, .int .i64 (sOf xs at_ err most 2).2.2] 37)
    replace o4 := o4.alloc (.cells #[.slice A n c, .int .i64 (sOf xs at_ err most 2).2.1, .int .i64 (sOf xs at_ err most 2).2.2] 37)
    have k4_4 : Blk (w4.alloc (.cells #[.slice A n c, .int .i64 (sOf xs at_ err most 2).2.1, .int .i64 (sOf xs at_ err most 2).2.2] 37)) w4.heap.size 37 [.slice A n c, .int .i64 (sOf xs at_ err most 2).2.1, .int .i64 (sOf xs at_ err most 2).2.2] := Blk.new _ _ _
    clear kH3 g4 b3 k1_3 k2_3 k3_3
    obtain ⟨p10, p11, p12, _, _, _⟩ := k1_4.three
    obtain ⟨p20, p21, p22, _, _, _⟩ := k2_4.three
    obtain ⟨p30, p31, p32, _, _, _⟩ := k3_4.three
    obtain ⟨p40, p41, p42, _, _, _⟩ := k4_4.three
    have Z3 := Lib.hid o3.rd.1
    have Z4 := Lib.hid o4.rd.1
    go_wp2_with fail
    refine (rreader_same A A n n c c _ _ xs _ ((hr.below b4).more b4.size) ((hr.below b4).more b4.size) HN.out HN.out).mono ?_
    rintro e w5 ⟨rfl, g5⟩
    replace o3 := o3.below g5
    replace o4 := o4.below g5
    have b5 := b4.trans (g5.mono b4.size)
    have k3_5 := k3_4.below g5 k3_4.lt
    have k4_5 := k4_4.below g5 k4_4.lt
    go_wp2_with fail
    refine (rsame_same A3 A4 n3 n4 c3 c4 (sPairs (sOf xs at_ err most 2).1) _ _ _ o3.rd.2.2 o4.rd.2.2 (by rw [Z3.out]; simp) (by rw [Z4.out]; simp) (by have := HLEN.out; omega)).mono ?_
    rintro e w6 ⟨rfl, g6⟩
    have b6 := b5.trans (g6.mono b5.size)
    have k3_6 := k3_5.below g6 k3_5.lt
    have k4_6 := k4_5.below g6 k4_5.lt
    obtain ⟨q30, q31, q32, _, _, _⟩ := k3_6.three
    obtain ⟨q40, q41, q42, _, _, _⟩ := k4_6.three
    go_wp2_with fail
    refine (rreader_same A A n n c c _ _ xs _ ((hr.below b6).more b6.size) ((hr.below b6).more b6.size) HN.out HN.out).mono ?_
    rintro e w7 ⟨rfl, g7⟩
    have b7 := b6.trans (g7.mono b6.size)
    go_wp2_with fail
    refine (awake_any _).mono ?_
    rintro e w8 ⟨rfl, g8⟩
    go_wp2
    go_ret
    exact ⟨rfl, b7.trans (g8.mono b7.size)⟩
end Go.Proofs.Ytljebpbjjfnmkaa
