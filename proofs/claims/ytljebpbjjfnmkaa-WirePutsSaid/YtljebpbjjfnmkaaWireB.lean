/- The law WirePuts, walked. Printed by gen_puts.py. -/
import Derived.Test.YtljebpbjjfnmkaaWireA
namespace Go.Proofs.Ytljebpbjjfnmkaa
open Go.RowKit Go.IntWalk
set_option maxRecDepth 100000
set_option linter.unusedVariables false


set_option maxHeartbeats 2000000 in
theorem wirePuts_walk (A : Option Addr) (n c : Nat) (zs : List Int) (m u : Int) (s : ByteArray) (w : World) (hn : n = zs.length) (hr : Rd w w.heap.size A (cb .u8 zs)) (hw : ∀ z ∈ zs, (Lit.int .u8 z).wf = true) (hc : n ≤ c) (hc' : c ≤ maxLen) (hm : (Lit.int .i64 m).wf = true) (hu : (Lit.int .u64 u).wf = true) (hs : s.size ≤ maxLen) :
    Calls Try.prog 3 #[.slice A n c, .int .i64 m, .int .u64 u, .string s] w fun e w' => e = .returned (.bool true) ∧ Below w.heap.size w w' := by
  have HN := Lib.hid hn
  have hm' := Lib.hid (wf_i64 hm)
  have hu' := Lib.hid (wf_u64 hu)
  clear hn hw hc hc' hm hu hs
  by_cases h1 : 300 < n
  · go_enter Try.func3, Try.ntmps3
    go_wp2_with (go_at_call 8; refine (awake_any _).mono ?_; rintro e w1 ⟨rfl, hb1⟩)
    go_ret
    exact ⟨rfl, hb1⟩
  · by_cases h2 : 300 < s.size
    · have e1 : decide (300 < (n : Int)) = false := by simp; omega
      go_enter Try.func3, Try.ntmps3
      go_wp2_with (go_at_call 8; refine (awake_any _).mono ?_; rintro e w1 ⟨rfl, hb1⟩)
      go_ret
      exact ⟨rfl, hb1⟩
    · have e1 : decide (300 < (n : Int)) = false := by simp; omega
      have e2 : decide (300 < (s.size : Int)) = false := by simp; omega
      have l1 : zs.length ≤ 300 := by have := HN.out; omega
      have l2 : s.size ≤ 300 := by omega
      go_enter Try.func3, Try.ntmps3
      have b0 := Below.refl w.heap.size w
      go_wp2_with fail
      refine (byte_any A n c zs m w ((hr.below b0).more b0.size) HN.out (by omega)).mono ?_
      rintro e w1 ⟨A1, n1, c1, rfl, o1, g1⟩
      have z1 := Lib.hid o1.rd.1
      have b1 := b0.trans (g1.mono b0.size)
      go_wp2_with fail
      refine (rbyte_any A n c zs m w1 ((hr.below b1).more b1.size) HN.out (by omega)).mono ?_
      rintro e w2 ⟨A2, n2, c2, rfl, o2, g2⟩
      have z2 := Lib.hid o2.rd.1
      have b2 := b1.trans (g2.mono b1.size)
      go_wp2_with fail
      refine (rbytes_same A1 A2 n1 n2 c1 c2 _ w2 _ _ (o1.rd.2.2.below g2) o2.rd.2.2 (by rw [z1.out]; simp) (by rw [z2.out]; simp)).mono ?_
      rintro e w2' ⟨rfl, rfl⟩
      clear z1 z2 o1 o2 g1 g2
      go_wp2_with fail
      refine (word_any A n c zs m w2 ((hr.below b2).more b2.size) HN.out (by omega)).mono ?_
      rintro e w3 ⟨A3, n3, c3, rfl, o3, g3⟩
      have z3 := Lib.hid o3.rd.1
      have b3 := b2.trans (g3.mono b2.size)
      go_wp2_with fail
      refine (rword_any A n c zs m w3 ((hr.below b3).more b3.size) HN.out (by omega)).mono ?_
      rintro e w4 ⟨A4, n4, c4, rfl, o4, g4⟩
      have z4 := Lib.hid o4.rd.1
      have b4 := b3.trans (g4.mono b3.size)
      go_wp2_with fail
      refine (rbytes_same A3 A4 n3 n4 c3 c4 _ w4 _ _ (o3.rd.2.2.below g4) o4.rd.2.2 (by rw [z3.out]; simp) (by rw [z4.out]; simp)).mono ?_
      rintro e w4' ⟨rfl, rfl⟩
      clear z3 z4 o3 o4 g3 g4
      go_wp2_with fail
      refine (long_any A n c zs _ w4 ((hr.below b4).more b4.size) HN.out (by omega) (by omega) (by omega)).mono ?_
      rintro e w5 ⟨A5, n5, c5, rfl, o5, g5⟩
      have z5 := Lib.hid o5.rd.1
      have b5 := b4.trans (g5.mono b4.size)
      go_wp2_with fail
      refine (rlong_any A n c zs _ w5 ((hr.below b5).more b5.size) HN.out (by omega) (by omega) (by omega)).mono ?_
      rintro e w6 ⟨A6, n6, c6, rfl, o6, g6⟩
      have z6 := Lib.hid o6.rd.1
      have b6 := b5.trans (g6.mono b5.size)
      go_wp2_with fail
      refine (rbytes_same A5 A6 n5 n6 c5 c6 _ w6 _ _ (o5.rd.2.2.below g6) o6.rd.2.2 (by rw [z5.out]; simp) (by rw [z6.out]; simp)).mono ?_
      rintro e w6' ⟨rfl, rfl⟩
      clear z5 z6 o5 o6 g5 g6
      go_wp2_with fail
      refine (huge_any A n c zs u w6 ((hr.below b6).more b6.size) HN.out (by omega) hu'.out.1 hu'.out.2).mono ?_
      rintro e w7 ⟨A7, n7, c7, rfl, o7, g7⟩
      have z7 := Lib.hid o7.rd.1
      have b7 := b6.trans (g7.mono b6.size)
      go_wp2_with fail
      refine (rhuge_any A n c zs u w7 ((hr.below b7).more b7.size) HN.out (by omega) hu'.out.1 hu'.out.2).mono ?_
      rintro e w8 ⟨A8, n8, c8, rfl, o8, g8⟩
      have z8 := Lib.hid o8.rd.1
      have b8 := b7.trans (g8.mono b7.size)
      go_wp2_with fail
      refine (rbytes_same A7 A8 n7 n8 c7 c8 _ w8 _ _ (o7.rd.2.2.below g8) o8.rd.2.2 (by rw [z7.out]; simp) (by rw [z8.out]; simp)).mono ?_
      rintro e w8' ⟨rfl, rfl⟩
      clear z7 z8 o7 o8 g7 g8
      go_wp2_with fail
      refine (size_any A n c zs m w8 ((hr.below b8).more b8.size) HN.out (by omega) hm'.out.2).mono ?_
      rintro e w9 ⟨A9, n9, c9, rfl, o9, g9⟩
      have z9 := Lib.hid o9.rd.1
      have b9 := b8.trans (g9.mono b8.size)
      go_wp2_with fail
      refine (rsize_any A n c zs m w9 ((hr.below b9).more b9.size) HN.out (by omega) hm'.out.2).mono ?_
      rintro e w10 ⟨A10, n10, c10, rfl, o10, g10⟩
      have z10 := Lib.hid o10.rd.1
      have b10 := b9.trans (g10.mono b9.size)
      go_wp2_with fail
      refine (rbytes_same A9 A10 n9 n10 c9 c10 _ w10 _ _ (o9.rd.2.2.below g10) o10.rd.2.2 (by rw [z9.out]; simp) (by rw [z10.out]; simp)).mono ?_
      rintro e w10' ⟨rfl, rfl⟩
      clear z9 z10 o9 o10 g9 g10
      go_wp2_with fail
      refine (text_any A n c zs s w10 ((hr.below b10).more b10.size) HN.out (by omega) (by omega)).mono ?_
      rintro e w11 ⟨A11, n11, c11, rfl, o11, g11⟩
      have z11 := Lib.hid o11.rd.1
      have b11 := b10.trans (g11.mono b10.size)
      go_wp2_with fail
      refine (rtext_any A n c zs s w11 ((hr.below b11).more b11.size) HN.out (by omega) (by omega)).mono ?_
      rintro e w12 ⟨A12, n12, c12, rfl, o12, g12⟩
      have z12 := Lib.hid o12.rd.1
      have b12 := b11.trans (g12.mono b11.size)
      go_wp2_with fail
      refine (rbytes_same A11 A12 n11 n12 c11 c12 _ w12 _ _ (o11.rd.2.2.below g12) o12.rd.2.2 (by rw [z11.out]; simp) (by rw [z12.out]; simp)).mono ?_
      rintro e w12' ⟨rfl, rfl⟩
      clear z11 z12 o11 o12 g11 g12
      go_wp2_with fail
      refine (awake_any _).mono ?_
      rintro e w13 ⟨rfl, g13⟩
      go_wp2
      go_ret
      exact ⟨rfl, b12.trans (g13.mono b12.size)⟩
end Go.Proofs.Ytljebpbjjfnmkaa
