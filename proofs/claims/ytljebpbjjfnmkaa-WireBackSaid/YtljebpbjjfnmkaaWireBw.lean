/- The law WireBack, walked. Printed by gen_wback.py. -/
import Derived.Test.YtljebpbjjfnmkaaWireA
import Derived.Test.YtljebpbjjfnmkaaWireF
import Derived.Test.YtljebpbjjfnmkaaWireU
import Derived.Test.YtljebpbjjfnmkaaWireBk
namespace Go.Proofs.Ytljebpbjjfnmkaa
open Go.RowKit Go.IntWalk
set_option maxRecDepth 100000
set_option linter.unusedVariables false

set_option maxHeartbeats 4000000 in
theorem wireBack_walk (A : Option Addr) (n c : Nat) (zs : List Int) (m : Int) (s : ByteArray) (LA : Option Addr) (ln lc : Nat) (ls : List Int) (w : World) (hn : n = zs.length) (hr : Rd w w.heap.size A (cb .u8 zs)) (hw : ∀ z ∈ zs, (Lit.int .u8 z).wf = true) (hc : n ≤ c) (hc' : c ≤ maxLen) (hm : (Lit.int .i64 m).wf = true) (hs : s.size ≤ maxLen) (hln : ln = ls.length) (hL : Rd w w.heap.size LA (cb .i64 ls)) (hwl : ∀ z ∈ ls, (Lit.int .i64 z).wf = true) (hlc : ln ≤ lc) (hlc' : lc ≤ maxLen) :
    Calls Try.prog 7 #[.slice A n c, .int .i64 m, .string s, .slice LA ln lc] w fun e w' => e = .returned (.bool true) ∧ Below w.heap.size w w' := by
  have HN := Lib.hid hn
  have HLN := Lib.hid hln
  have hb : Byt zs := fun z hz => wf_u8 (hw z hz)
  clear hn hw hc hc' hm hs hln hwl hlc hlc'
  by_cases h1 : 300 < n
  · go_enter Try.func7, Try.ntmps7
    go_wp2_with (go_at_call 8; refine (awake_any _).mono ?_; rintro e w1 ⟨rfl, hb1⟩)
    go_ret
    exact ⟨rfl, hb1⟩
  have e1 : decide (300 < (n : Int)) = false := by simp; omega
  by_cases h2 : 300 < s.size
  · go_enter Try.func7, Try.ntmps7
    go_wp2_with (go_at_call 8; refine (awake_any _).mono ?_; rintro e w1 ⟨rfl, hb1⟩)
    go_ret
    exact ⟨rfl, hb1⟩
  have e2 : decide (300 < (s.size : Int)) = false := by simp; omega
  by_cases h3 : 300 < ln
  · go_enter Try.func7, Try.ntmps7
    go_wp2_with (go_at_call 8; refine (awake_any _).mono ?_; rintro e w1 ⟨rfl, hb1⟩)
    go_ret
    exact ⟨rfl, hb1⟩
  have e3 : decide (300 < (ln : Int)) = false := by simp; omega
  by_cases h4 : m < 0
  · go_enter Try.func7, Try.ntmps7
    go_wp2_with (go_at_call 8; refine (awake_any _).mono ?_; rintro e w1 ⟨rfl, hb1⟩)
    go_ret
    exact ⟨rfl, hb1⟩
  have e4 : decide (m < 0) = false := by simp; omega
  by_cases h5 : 2147483647 < m
  · go_enter Try.func7, Try.ntmps7
    go_wp2_with (go_at_call 8; refine (awake_any _).mono ?_; rintro e w1 ⟨rfl, hb1⟩)
    go_ret
    exact ⟨rfl, hb1⟩
  have e5 : decide (2147483647 < m) = false := by simp; omega
  have l1 : zs.length ≤ 300 := by have := HN.out; omega
  have l3 : ls.length ≤ 300 := by have := HLN.out; omega
  have l2 : s.size ≤ 300 := by omega
  have l4 : m ≤ 2147483647 := by omega
  obtain ⟨m, rfl⟩ := Int.eq_ofNat_of_zero_le (show 0 ≤ m by omega)
  obtain ⟨B1, B2, B3⟩ := back_all zs m s ls (by omega) (by omega) l3
  have BY : Byt (((zs ++ sSize m) ++ sText s) ++ sInts ls) := ((hb.append (sSize_byt _)).append (sText_byt s)).append (sInts_byt ls)
  have LL : (((zs ++ sSize m) ++ sText s) ++ sInts ls).length ≤ 2000 := by
    have a1 := sSize_len (m : Int) (by omega)
    have a2 := sSize_len (s.size : Int) (by omega)
    have a3 := sSize_len (ls.length : Int) (by omega)
    simp only [sText, sInts, List.length_append, sBytes_len, words_len]; omega
  have LM : (zs ++ sSize m).length ≤ 400 := by
    have a1 := sSize_len (m : Int) (by omega)
    simp only [List.length_append]; omega
  have LT : ((zs ++ sSize m) ++ sText s).length ≤ 1000 := by
    have a1 := sSize_len (m : Int) (by omega)
    have a2 := sSize_len (s.size : Int) (by omega)
    simp only [sText, List.length_append, sBytes_len]; omega
  have HB1 := Lib.hid B1
  have HB2 := Lib.hid B2
  have HB3 := Lib.hid B3
  clear B1 B2 B3 h1 h2 h3 h4 h5
  go_enter Try.func7, Try.ntmps7
  go_wp2_with fail
  refine (size_any A n c zs m _ hr HN.out (by omega) (by omega)).mono ?_
  rintro e w1 ⟨A1, n1, c1, rfl, o1, g1⟩
  have z1 := Lib.hid o1.rd.1
  go_wp2_with fail
  refine (text_any A1 n1 c1 (zs ++ sSize m) s _ o1.rd.2.2 (by rw [z1.out]; simp) (by omega) (by omega)).mono ?_
  rintro e w2 ⟨A2, n2, c2, rfl, o2, g2⟩
  have z2 := Lib.hid o2.rd.1
  have b2 := g1.trans (g2.mono g1.size)
  clear o1
  go_wp2_with fail
  refine (ints_any A2 LA n2 c2 ln lc ((zs ++ sSize m) ++ sText s) ls _ o2.rd.2.2 (by rw [z2.out]; simp) (by omega) ((hL.below b2).more b2.size) HLN.out (by omega)).mono ?_
  rintro e w3 ⟨A3, n3, c3, rfl, o3, g3⟩
  have z3 : Hid (n3 = (((zs ++ sSize m) ++ sText s) ++ sInts ls).length) := by have := o3.rd.1; unfold Hid; simpa using this
  have hc3 := o3.rd.2.1
  have r3 := o3.rd.2.2
  have b3 := b2.trans (g3.mono b2.size)
  have hlen3 : n3 ≤ 2000 := by rw [z3.out]; exact LL
  clear o2 o3 z1 z2 g1 g2 g3 b2
  clear LL
  generalize hXS : ((zs ++ sSize m) ++ sText s) ++ sInts ls = XS at *
  generalize ha2 : ((zs ++ sSize m) ++ sText s).length = a2 at *
  generalize ha1 : (zs ++ sSize m).length = a1 at *
  clear hXS ha1 ha2
  have HNZ : Hid (zs.length = n) := HN.out.symm
  go_wp2_with fail
  have k4 : Blk (w3.alloc (.cells #[.slice A3 n3 c3, .int .i64 (n : Int), .int .i64 0] 37)) w3.heap.size 37 [.slice A3 n3 c3, .int .i64 (n : Int), .int .i64 0] := Blk.new _ _ _
  have b4 := b3.alloc b3.size (.cells #[.slice A3 n3 c3, .int .i64 (n : Int), .int .i64 0] 37)
  have r4 := r3.alloc (Nat.le_refl _) (.cells #[.slice A3 n3 c3, .int .i64 (n : Int), .int .i64 0] 37)
  have q4 : Below w3.heap.size w3 (w3.alloc (.cells #[.slice A3 n3 c3, .int .i64 (n : Int), .int .i64 0] 37)) := (Below.refl _ _).alloc (Nat.le_refl _) _
  have hT1 := takeSize_any A3 n3 c3 (n : Int) 0 m XS _ (r4.more q4.size) z3.out hc3 (by omega) BY
  rw [show (n : Int) = (zs.length : Int) by rw [HN.out], HB1.out, ← HN.out] at hT1
  simp only at hT1
  refine hT1.mono ?_
  clear hT1
  rintro e w4 ⟨rfl, g4⟩
  have k5 := k4.below g4 k4.lt
  have q5 := q4.trans (g4.mono q4.size)
  obtain ⟨p0, p1, p2, f0, f1, f2⟩ := k5.three
  go_wp2_with fail
  have q5 := below_set3 q5 (Nat.le_refl _) (.slice A3 n3 c3) (.int .i64 (a1 : Int)) (.int .i64 0)
  have k5 : Blk (((w4.setCell ⟨w3.heap.size, 0, none⟩ (.slice A3 n3 c3)).setCell ⟨w3.heap.size, 1, none⟩ (.int .i64 (a1 : Int))).setCell ⟨w3.heap.size, 2, none⟩ (.int .i64 0)) w3.heap.size 37 [.slice A3 n3 c3, .int .i64 (a1 : Int), .int .i64 0] := ((k5.set_ 0 (.slice A3 n3 c3)).set_ 1 (.int .i64 (a1 : Int))).set_ 2 (.int .i64 0)
  clear p0 p1 p2 f0 f1 f2 k4 b4 r4 q4 g4
  generalize (((w4.setCell ⟨w3.heap.size, 0, none⟩ (.slice A3 n3 c3)).setCell ⟨w3.heap.size, 1, none⟩ (.int .i64 (a1 : Int))).setCell ⟨w3.heap.size, 2, none⟩ (.int .i64 0)) = V5 at *
  have hT2 := takeText_any A3 n3 c3 (a1 : Int) 0 300 XS V5 (((r3.below q5).more q5.size)) z3.out hc3 (by omega) BY
  rw [HB2.out] at hT2
  simp only at hT2
  rw [str_back] at hT2
  refine hT2.mono ?_
  clear hT2
  rintro e w5 ⟨rfl, g5⟩
  have k6 := k5.below g5 k5.lt
  have q6 := q5.trans (g5.mono q5.size)
  obtain ⟨p0, p1, p2, f0, f1, f2⟩ := k6.three
  go_wp2_with fail
  have q6 := below_set3 q6 (Nat.le_refl _) (.slice A3 n3 c3) (.int .i64 (a2 : Int)) (.int .i64 0)
  have k6 : Blk (((w5.setCell ⟨w3.heap.size, 0, none⟩ (.slice A3 n3 c3)).setCell ⟨w3.heap.size, 1, none⟩ (.int .i64 (a2 : Int))).setCell ⟨w3.heap.size, 2, none⟩ (.int .i64 0)) w3.heap.size 37 [.slice A3 n3 c3, .int .i64 (a2 : Int), .int .i64 0] := ((k6.set_ 0 (.slice A3 n3 c3)).set_ 1 (.int .i64 (a2 : Int))).set_ 2 (.int .i64 0)
  clear p0 p1 p2 f0 f1 f2 k5 g5 q5
  generalize (((w5.setCell ⟨w3.heap.size, 0, none⟩ (.slice A3 n3 c3)).setCell ⟨w3.heap.size, 1, none⟩ (.int .i64 (a2 : Int))).setCell ⟨w3.heap.size, 2, none⟩ (.int .i64 0)) = V6 at *
  have hT3 := takeInts_any A3 n3 c3 (a2 : Int) 0 300 XS V6 (((r3.below q6).more q6.size)) z3.out hc3 (by omega) BY
  rw [HB3.out] at hT3
  simp only at hT3
  rw [sPairs_words] at hT3
  refine hT3.mono ?_
  clear hT3
  rintro e w6 ⟨A7, n7, c7, rfl, o7, g6⟩
  have k7 := k6.below g6 k6.lt
  have q7 := q6.trans (g6.mono q6.size)
  obtain ⟨p0, p1, p2, f0, f1, f2⟩ := k7.three
  have z7 : n7 = ls.length := by have := o7.rd.1; simpa using this
  rw [← HLN.out] at z7
  subst z7
  have hgl : w3.heap.size < V6.heap.size := k6.lt
  go_wp2_with fail
  have q7 := below_set3 q7 (Nat.le_refl _) (.slice A3 n3 c3) (.int .i64 (XS.length : Int)) (.int .i64 0)
  have r7 := (o7.set3 hgl (.slice A3 n3 c3) (.int .i64 (XS.length : Int)) (.int .i64 0)).rd.2.2
  have k7 : Blk (((w6.setCell ⟨w3.heap.size, 0, none⟩ (.slice A3 n3 c3)).setCell ⟨w3.heap.size, 1, none⟩ (.int .i64 (XS.length : Int))).setCell ⟨w3.heap.size, 2, none⟩ (.int .i64 0)) w3.heap.size 37 [.slice A3 n3 c3, .int .i64 (XS.length : Int), .int .i64 0] := ((k7.set_ 0 (.slice A3 n3 c3)).set_ 1 (.int .i64 (XS.length : Int))).set_ 2 (.int .i64 0)
  clear p0 p1 p2 f0 f1 f2 k6 g6 q6
  generalize (((w6.setCell ⟨w3.heap.size, 0, none⟩ (.slice A3 n3 c3)).setCell ⟨w3.heap.size, 1, none⟩ (.int .i64 (XS.length : Int))).setCell ⟨w3.heap.size, 2, none⟩ (.int .i64 0)) = V7 at *
  have hE : sEnd n3 (XS.length : Int) 0 = 0 := by rw [z3.out]; simp [sEnd]
  have hT4 := end_any A3 n3 c3 (XS.length : Int) 0 V7
  rw [hE] at hT4
  refine hT4.mono ?_
  clear hT4 hE
  rintro e w7 ⟨rfl, g7⟩
  have b7 := (b3.trans (q7.mono b3.size)).trans (g7.mono (b3.trans (q7.mono b3.size)).size)
  have r8 := (r7.below (g7.mono (Nat.le_refl _))).more g7.size
  clear q7 r7 k7 g7 k6 q6
  go_wp2_with fail
  go_loopw [14] (fun i w8 => ∃ k : Nat, k ≤ n7 ∧ i = .int .i64 (k : Int) ∧ Below w.heap.size w w8 ∧ Rd w8 w7.heap.size A7 (cb .i64 (ls.map wrap16))) (fun i _ => n7 - (intOf i).toNat)
  case atStart => exact ⟨0, by omega, rfl, b7, r8⟩
  case round =>
    obtain ⟨k, hk, rfl, hbel, hr8⟩ := hrel
    by_cases hlt : k < n7
    · have hlt' : k < ls.length := by have := HLN.out; omega
      obtain ⟨b, o, rfl, _, hc1⟩ := hr8.num (i := k) (by simpa using hlt')
      obtain ⟨b', o', rfl, _, hc2⟩ := (hL.below hbel).num hlt'
      rw [List.getElem_map] at hc1
      generalize ls[k] = x at *
      go_wp2_with fail
      go_region_with (go_at_call 42; refine (rwrap_any _ _).mono ?_; rintro e w' ⟨rfl, rfl⟩)
      all_goals
        go_wp2
        go_roundw
        case rel => exact ⟨k + 1, by omega, by go_num, hbel.drew, hr8.drew⟩
        case measure => simp [intOf]; omega
    · obtain rfl : k = n7 := by omega
      go_wp2_with fail
      refine (awake_any _).mono ?_
      rintro e w9 ⟨rfl, g9⟩
      go_wp2
      go_ret
      exact ⟨rfl, hbel.trans (g9.mono hbel.size)⟩
end Go.Proofs.Ytljebpbjjfnmkaa
