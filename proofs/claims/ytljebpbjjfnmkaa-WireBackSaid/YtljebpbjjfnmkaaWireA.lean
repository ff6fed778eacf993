/- Chapter 2's examples, and the laws WirePuts and WireInts, walked. -/
import Derived.Test.YtljebpbjjfnmkaaWireR
import Derived.Test.YtljebpbjjfnmkaaWireS
namespace Go.Proofs.Ytljebpbjjfnmkaa
open Go.RowKit Go.IntWalk
set_option maxRecDepth 100000
set_option linter.unusedVariables false

theorem ex_form : sTS [128, 0] 0 0 9 = (0, 0, 4) := by decide
theorem ex_size : sSize 300 = [172, 2] := by
  unfold sSize
  rw [show (300 : Int).toNat = 300 from rfl, sSizeN_big (by omega), sSizeN_small (by omega)]
  rfl
theorem ex_word : sWord (-2) = [255, 254] := by decide

set_option maxHeartbeats 800000 in
theorem awake_any (w : World) : Calls Try.prog 8 #[] w fun e w' => e = .returned (.bool true) ∧ Below w.heap.size w w' := by
  go_enter Try.func8, Try.ntmps8
  go_wp2_with fail
  have hb0 : Below w.heap.size w (w.alloc (.cells #[.int .u8 128, .int .u8 0] 5)) := (Below.refl _ _).alloc (Nat.le_refl _) _
  refine (takeSize_any _ 2 2 0 0 9 [128, 0] _ (Rd.new w [.int .u8 128, .int .u8 0] _) rfl (by omega) (by omega) (by intro x hx; simp at hx; omega)).mono ?_
  rw [ex_form]
  rintro e w1 ⟨rfl, hb1⟩
  have hbW := hb0.trans (hb1.mono (by simp))
  go_wp2_with fail
  have kk : Blk (w1.alloc (.cells #[.slice (some ⟨w.heap.size, 0, none⟩) 2 2, .int .i64 0, .int .i64 4] 37)) w1.heap.size 37 [.slice (some ⟨w.heap.size, 0, none⟩) 2 2, .int .i64 0, .int .i64 4] := Blk.new _ _ _
  have hbX := hbW.alloc hbW.size (.cells #[.slice (some ⟨w.heap.size, 0, none⟩) 2 2, .int .i64 0, .int .i64 4] 37)
  refine (size_any none 0 0 [] 300 _ (Rd.nil _ _ _) rfl (by simp) (by omega)).mono ?_
  rw [List.nil_append, ex_size]
  rintro e w2 ⟨A2, n2, c2, rfl, hown2, hb2⟩
  have k2 := kk.below hb2 (by simp)
  have hbY := hbX.trans (hb2.mono hbX.size)
  go_wp2_with fail
  have hz2 := Lib.hid hown2.rd.1
  refine (rbytes_same A2 _ n2 2 c2 2 [172, 2] _ w2.heap.size _ (hown2.rd.2.2.alloc (Nat.le_refl _) _) (Rd.new w2 [.int .u8 172, .int .u8 2] _) hz2.out rfl).mono ?_
  rintro e w3 ⟨rfl, rfl⟩
  have hbZ := hbY.alloc hbY.size (.cells #[.int .u8 172, .int .u8 2] 5)
  have k3 := k2.alloc (.cells #[.int .u8 172, .int .u8 2] 5)
  go_wp2_with fail
  refine (word_any none 0 0 [] (-2) _ (Rd.nil _ _ _) rfl (by simp)).mono ?_
  rw [List.nil_append, ex_word]
  rintro e w4 ⟨A4, n4, c4, rfl, hown4, hb4⟩
  have k4 := k3.below hb4 k3.lt
  have hbV := hbZ.trans (hb4.mono hbZ.size)
  go_wp2_with fail
  have hz4 := Lib.hid hown4.rd.1
  refine (rbytes_same A4 _ n4 2 c4 2 [255, 254] _ w4.heap.size _ (hown4.rd.2.2.alloc (Nat.le_refl _) _) (Rd.new w4 [.int .u8 255, .int .u8 254] _) hz4.out rfl).mono ?_
  rintro e w5 ⟨rfl, rfl⟩
  obtain ⟨d0, d1, d2, _, _, _⟩ := (k4.alloc (.cells #[.int .u8 255, .int .u8 254] 5)).three
  go_wp2
  go_ret
  exact ⟨rfl, hbV.alloc hbV.size _⟩

set_option maxHeartbeats 800000 in
theorem wireInts_walk (A : Option Addr) (n c : Nat) (zs : List Int) (L : Option Addr) (m d : Nat) (ls : List Int) (w : World) (hn : n = zs.length) (hr : Rd w w.heap.size A (cb .u8 zs)) (hw : ∀ z ∈ zs, (Lit.int .u8 z).wf = true) (hc : n ≤ c) (hc' : c ≤ maxLen) (hm : m = ls.length) (hL : Rd w w.heap.size L (cb .i64 ls)) (hw' : ∀ z ∈ ls, (Lit.int .i64 z).wf = true) (hd : m ≤ d) (hd' : d ≤ maxLen) :
    Calls Try.prog 4 #[.slice A n c, .slice L m d] w fun e w' => e = .returned (.bool true) ∧ Below w.heap.size w w' := by
  have HN := Lib.hid hn
  have HM := Lib.hid hm
  clear hn hm hw hw' hc hc' hd hd'
  by_cases h1 : 300 < n
  · go_enter Try.func4, Try.ntmps4
    go_wp2_with (go_at_call 8; refine (awake_any _).mono ?_; rintro e w1 ⟨rfl, hb1⟩)
    go_ret
    exact ⟨rfl, hb1⟩
  · by_cases h2 : 300 < m
    · have e1 : decide (300 < (n : Int)) = false := by simp; omega
      go_enter Try.func4, Try.ntmps4
      go_wp2_with (go_at_call 8; refine (awake_any _).mono ?_; rintro e w1 ⟨rfl, hb1⟩)
      go_ret
      exact ⟨rfl, hb1⟩
    · have e1 : decide (300 < (n : Int)) = false := by simp; omega
      have e2 : decide (300 < (m : Int)) = false := by simp; omega
      have l1 : zs.length ≤ 300 := by have := HN.out; omega
      have l2 : ls.length ≤ 300 := by have := HM.out; omega
      go_enter Try.func4, Try.ntmps4
      go_wp2_with fail
      refine (ints_any A L n c m d zs ls w hr HN.out (by omega) hL HM.out (by omega)).mono ?_
      rintro e w1 ⟨A1, n1, c1, rfl, hown1, hb1⟩
      go_wp2_with fail
      refine (rints_any A L n c m d zs ls w1 ((hr.below hb1).more hb1.size) HN.out (by omega) ((hL.below hb1).more hb1.size) HM.out (by omega)).mono ?_
      rintro e w2 ⟨A2, n2, c2, rfl, hown2, hb2⟩
      have hz1 := Lib.hid hown1.rd.1
      have hz2 := Lib.hid hown2.rd.1
      go_wp2_with fail
      refine (rbytes_same A1 A2 n1 n2 c1 c2 _ w2 _ _ (hown1.rd.2.2.below hb2) hown2.rd.2.2 (by rw [hz1.out]; simp) (by rw [hz2.out]; simp)).mono ?_
      rintro e w3 ⟨rfl, rfl⟩
      go_wp2_with fail
      refine (awake_any _).mono ?_
      rintro e w3 ⟨rfl, hb3⟩
      go_wp2
      go_ret
      have b12 := hb1.trans (hb2.mono hb1.size)
      exact ⟨rfl, b12.trans (hb3.mono b12.size)⟩
end Go.Proofs.Ytljebpbjjfnmkaa
