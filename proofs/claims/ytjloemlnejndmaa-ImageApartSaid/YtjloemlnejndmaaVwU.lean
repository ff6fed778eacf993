/- The contracts of package wire's TakeByte, TakeWord, TakeLong, TakeHuge and End. Printed by gen_takes.py. -/
import Derived.Test.YtjloemlnejndmaaVwT
namespace Go.Proofs.Ytjloemlnejndmaa
open Go.RowKit Go.IntWalk
set_option maxRecDepth 100000
set_option linter.unusedVariables false

set_option maxHeartbeats 800000 in
theorem takeByte_any (A : Option Addr) (n c : Nat) (at_ err : Int) (xs : List Int) (w : World) (hr : Rd w w.heap.size A (cb .u8 xs)) (hx : n = xs.length) (hc : n ≤ c) (hn : n ≤ 1000000000) (hb : Byt xs) :
    Calls Try.prog 54 #[.agg #[.slice A n c, .int .i64 at_, .int .i64 err]] w fun e w' => e = .returned (.tuple #[.int .i64 (sNum (sTk xs at_ err 1).1), .agg #[.slice A n c, .int .i64 (sTk xs at_ err 1).2.1, .int .i64 (sTk xs at_ err 1).2.2]]) ∧ Below w.heap.size w w' := by
  have HX := Lib.hid hx
  clear hx
  have hb0 : Below w.heap.size w ((w.alloc (.cells #[.slice A n c, .int .i64 at_, .int .i64 err] 48)).alloc (.cells #[.slice none 0 0, .int .i64 0, .int .i64 0] 48)) := ((Below.refl _ _).alloc (Nat.le_refl _) _).alloc (by simp) _
  have k0 : Blk ((w.alloc (.cells #[.slice A n c, .int .i64 at_, .int .i64 err] 48)).alloc (.cells #[.slice none 0 0, .int .i64 0, .int .i64 0] 48)) w.heap.size 48 [.slice A n c, .int .i64 at_, .int .i64 err] := (Blk.new _ _ _).alloc _
  have k1 : Blk ((w.alloc (.cells #[.slice A n c, .int .i64 at_, .int .i64 err] 48)).alloc (.cells #[.slice none 0 0, .int .i64 0, .int .i64 0] 48)) (w.heap.size + 1) 48 [.slice none 0 0, .int .i64 0, .int .i64 0] := by simpa using Blk.new (w.alloc (.cells #[.slice A n c, .int .i64 at_, .int .i64 err] 48)) 48 [.slice none 0 0, .int .i64 0, .int .i64 0]
  have hB := sTk_byt xs at_ err 1 hb
  have hL := sTk_len xs at_ err 1
  have hS := sNum_lt _ hB 1 hL
  rw [show (256 : Int) ^ 1 = 256 from by decide] at hS
  obtain ⟨hS0, hS1⟩ := hS
  have hWR : IntKind.i64.wrap (sNum (sTk xs at_ err 1).1) = sNum (sTk xs at_ err 1).1 := IntWalk.i64_in _ (by omega)
  go_enter Try.func54, Try.ntmps54
  go_wp2_with fail
  refine (take_any A n c at_ err 1 xs _ w.heap.size (hr.below hb0) HX.out hc hn (by omega)).mono ?_
  rintro e w1 ⟨A1, m1, c1, rfl, hr1, hm1, hc1, hb1⟩
  have HM := Lib.hid hm1
  clear hm1
  have hbW := hb0.trans (hb1.mono (by simp; omega))
  have j0 := k0.below hb1 (by simp; omega)
  have j1 := k1.below hb1 (by simp)
  obtain ⟨c00, c01, c02, f00, f01, f02⟩ := j0.three
  obtain ⟨c10, c11, c12, f10, f11, f12⟩ := j1.three
  have hR := (((hr1.below (hb1.mono (by simp; omega))).setCell (p := ⟨w.heap.size, 0, none⟩) (Nat.le_refl _) (.slice A n c)).setCell (p := ⟨w.heap.size, 1, none⟩) (Nat.le_refl _) (.int .i64 (sTk xs at_ err 1).2.1)).setCell (p := ⟨w.heap.size, 2, none⟩) (Nat.le_refl _) (.int .i64 (sTk xs at_ err 1).2.2)
  clear k0 k1 j0 j1 hb0 hb1 hr1 hr
  go_wp2_with fail
  go_region_with (go_at_call 86; refine (number_any A1 m1 c1 _ _ w.heap.size hR.drew HM.out hB (Nat.le_trans hL (by omega))).mono ?_; rintro e w' ⟨rfl, rfl⟩)
  all_goals
    go_wp2
    refine bodyPost_ret (v := .tuple #[.int .i64 (sNum (sTk xs at_ err 1).1), .agg #[.slice A n c, .int .i64 (sTk xs at_ err 1).2.1, .int .i64 (sTk xs at_ err 1).2.2]]) (by simp [results, Try.results54, go_sem, c10, c11, c12]) rfl ⟨rfl, ?_⟩
    exact (below_set3 (below_set3 hbW (Nat.le_refl _) _ _ _) (Nat.le_succ _) _ _ _).drew
set_option maxHeartbeats 800000 in
theorem takeWord_any (A : Option Addr) (n c : Nat) (at_ err : Int) (xs : List Int) (w : World) (hr : Rd w w.heap.size A (cb .u8 xs)) (hx : n = xs.length) (hc : n ≤ c) (hn : n ≤ 1000000000) (hb : Byt xs) :
    Calls Try.prog 52 #[.agg #[.slice A n c, .int .i64 at_, .int .i64 err]] w fun e w' => e = .returned (.tuple #[.int .i64 (wrap16 (sNum (sTk xs at_ err 2).1)), .agg #[.slice A n c, .int .i64 (sTk xs at_ err 2).2.1, .int .i64 (sTk xs at_ err 2).2.2]]) ∧ Below w.heap.size w w' := by
  have HX := Lib.hid hx
  clear hx
  have hb0 : Below w.heap.size w ((w.alloc (.cells #[.slice A n c, .int .i64 at_, .int .i64 err] 48)).alloc (.cells #[.slice none 0 0, .int .i64 0, .int .i64 0] 48)) := ((Below.refl _ _).alloc (Nat.le_refl _) _).alloc (by simp) _
  have k0 : Blk ((w.alloc (.cells #[.slice A n c, .int .i64 at_, .int .i64 err] 48)).alloc (.cells #[.slice none 0 0, .int .i64 0, .int .i64 0] 48)) w.heap.size 48 [.slice A n c, .int .i64 at_, .int .i64 err] := (Blk.new _ _ _).alloc _
  have k1 : Blk ((w.alloc (.cells #[.slice A n c, .int .i64 at_, .int .i64 err] 48)).alloc (.cells #[.slice none 0 0, .int .i64 0, .int .i64 0] 48)) (w.heap.size + 1) 48 [.slice none 0 0, .int .i64 0, .int .i64 0] := by simpa using Blk.new (w.alloc (.cells #[.slice A n c, .int .i64 at_, .int .i64 err] 48)) 48 [.slice none 0 0, .int .i64 0, .int .i64 0]
  have hB := sTk_byt xs at_ err 2 hb
  have hL := sTk_len xs at_ err 2
  have hS := sNum_lt _ hB 2 hL
  rw [show (256 : Int) ^ 2 = 65536 from by decide] at hS
  obtain ⟨hS0, hS1⟩ := hS
  have hWR : IntKind.i64.wrap (sNum (sTk xs at_ err 2).1) = sNum (sTk xs at_ err 2).1 := IntWalk.i64_in _ (by omega)
  go_enter Try.func52, Try.ntmps52
  go_wp2_with fail
  refine (take_any A n c at_ err 2 xs _ w.heap.size (hr.below hb0) HX.out hc hn (by omega)).mono ?_
  rintro e w1 ⟨A1, m1, c1, rfl, hr1, hm1, hc1, hb1⟩
  have HM := Lib.hid hm1
  clear hm1
  have hbW := hb0.trans (hb1.mono (by simp; omega))
  have j0 := k0.below hb1 (by simp; omega)
  have j1 := k1.below hb1 (by simp)
  obtain ⟨c00, c01, c02, f00, f01, f02⟩ := j0.three
  obtain ⟨c10, c11, c12, f10, f11, f12⟩ := j1.three
  have hR := (((hr1.below (hb1.mono (by simp; omega))).setCell (p := ⟨w.heap.size, 0, none⟩) (Nat.le_refl _) (.slice A n c)).setCell (p := ⟨w.heap.size, 1, none⟩) (Nat.le_refl _) (.int .i64 (sTk xs at_ err 2).2.1)).setCell (p := ⟨w.heap.size, 2, none⟩) (Nat.le_refl _) (.int .i64 (sTk xs at_ err 2).2.2)
  clear k0 k1 j0 j1 hb0 hb1 hr1 hr
  go_wp2_with fail
  go_region_with (first | (go_at_call 86; refine (number_any A1 m1 c1 _ _ w.heap.size hR.drew HM.out hB (Nat.le_trans hL (by omega))).mono ?_; rintro e w' ⟨rfl, rfl⟩) | (go_at_call 82; refine (wrap_any _ _).mono ?_; rintro e w' ⟨rfl, rfl⟩))
  all_goals
    go_wp2
    refine bodyPost_ret (v := .tuple #[.int .i64 (wrap16 (sNum (sTk xs at_ err 2).1)), .agg #[.slice A n c, .int .i64 (sTk xs at_ err 2).2.1, .int .i64 (sTk xs at_ err 2).2.2]]) (by simp [results, Try.results52, go_sem, c10, c11, c12]) rfl ⟨rfl, ?_⟩
    exact (below_set3 (below_set3 hbW (Nat.le_refl _) _ _ _) (Nat.le_succ _) _ _ _).drew
set_option maxHeartbeats 800000 in
theorem takeLong_any (A : Option Addr) (n c : Nat) (at_ err : Int) (xs : List Int) (w : World) (hr : Rd w w.heap.size A (cb .u8 xs)) (hx : n = xs.length) (hc : n ≤ c) (hn : n ≤ 1000000000) (hb : Byt xs) :
    Calls Try.prog 53 #[.agg #[.slice A n c, .int .i64 at_, .int .i64 err]] w fun e w' => e = .returned (.tuple #[.int .u32 (sNum (sTk xs at_ err 4).1), .agg #[.slice A n c, .int .i64 (sTk xs at_ err 4).2.1, .int .i64 (sTk xs at_ err 4).2.2]]) ∧ Below w.heap.size w w' := by
  have HX := Lib.hid hx
  clear hx
  have hb0 : Below w.heap.size w ((w.alloc (.cells #[.slice A n c, .int .i64 at_, .int .i64 err] 48)).alloc (.cells #[.slice none 0 0, .int .i64 0, .int .i64 0] 48)) := ((Below.refl _ _).alloc (Nat.le_refl _) _).alloc (by simp) _
  have k0 : Blk ((w.alloc (.cells #[.slice A n c, .int .i64 at_, .int .i64 err] 48)).alloc (.cells #[.slice none 0 0, .int .i64 0, .int .i64 0] 48)) w.heap.size 48 [.slice A n c, .int .i64 at_, .int .i64 err] := (Blk.new _ _ _).alloc _
  have k1 : Blk ((w.alloc (.cells #[.slice A n c, .int .i64 at_, .int .i64 err] 48)).alloc (.cells #[.slice none 0 0, .int .i64 0, .int .i64 0] 48)) (w.heap.size + 1) 48 [.slice none 0 0, .int .i64 0, .int .i64 0] := by simpa using Blk.new (w.alloc (.cells #[.slice A n c, .int .i64 at_, .int .i64 err] 48)) 48 [.slice none 0 0, .int .i64 0, .int .i64 0]
  have hB := sTk_byt xs at_ err 4 hb
  have hL := sTk_len xs at_ err 4
  have hS := sNum_lt _ hB 4 hL
  rw [show (256 : Int) ^ 4 = 4294967296 from by decide] at hS
  obtain ⟨hS0, hS1⟩ := hS
  have hWR : IntKind.u32.wrap (sNum (sTk xs at_ err 4).1) = sNum (sTk xs at_ err 4).1 := IntWalk.u32_in _ (by omega)
  go_enter Try.func53, Try.ntmps53
  go_wp2_with fail
  refine (take_any A n c at_ err 4 xs _ w.heap.size (hr.below hb0) HX.out hc hn (by omega)).mono ?_
  rintro e w1 ⟨A1, m1, c1, rfl, hr1, hm1, hc1, hb1⟩
  have HM := Lib.hid hm1
  clear hm1
  have hbW := hb0.trans (hb1.mono (by simp; omega))
  have j0 := k0.below hb1 (by simp; omega)
  have j1 := k1.below hb1 (by simp)
  obtain ⟨c00, c01, c02, f00, f01, f02⟩ := j0.three
  obtain ⟨c10, c11, c12, f10, f11, f12⟩ := j1.three
  have hR := (((hr1.below (hb1.mono (by simp; omega))).setCell (p := ⟨w.heap.size, 0, none⟩) (Nat.le_refl _) (.slice A n c)).setCell (p := ⟨w.heap.size, 1, none⟩) (Nat.le_refl _) (.int .i64 (sTk xs at_ err 4).2.1)).setCell (p := ⟨w.heap.size, 2, none⟩) (Nat.le_refl _) (.int .i64 (sTk xs at_ err 4).2.2)
  clear k0 k1 j0 j1 hb0 hb1 hr1 hr
  go_wp2_with fail
  go_region_with (go_at_call 86; refine (number_any A1 m1 c1 _ _ w.heap.size hR.drew HM.out hB (Nat.le_trans hL (by omega))).mono ?_; rintro e w' ⟨rfl, rfl⟩)
  all_goals
    go_wp2
    refine bodyPost_ret (v := .tuple #[.int .u32 (sNum (sTk xs at_ err 4).1), .agg #[.slice A n c, .int .i64 (sTk xs at_ err 4).2.1, .int .i64 (sTk xs at_ err 4).2.2]]) (by simp [results, Try.results53, go_sem, c10, c11, c12]) rfl ⟨rfl, ?_⟩
    exact (below_set3 (below_set3 hbW (Nat.le_refl _) _ _ _) (Nat.le_succ _) _ _ _).drew
set_option maxHeartbeats 800000 in
theorem takeHuge_any (A : Option Addr) (n c : Nat) (at_ err : Int) (xs : List Int) (w : World) (hr : Rd w w.heap.size A (cb .u8 xs)) (hx : n = xs.length) (hc : n ≤ c) (hn : n ≤ 1000000000) (hb : Byt xs) :
    Calls Try.prog 51 #[.agg #[.slice A n c, .int .i64 at_, .int .i64 err]] w fun e w' => e = .returned (.tuple #[.int .u64 (sNum (sTk xs at_ err 8).1), .agg #[.slice A n c, .int .i64 (sTk xs at_ err 8).2.1, .int .i64 (sTk xs at_ err 8).2.2]]) ∧ Below w.heap.size w w' := by
  have HX := Lib.hid hx
  clear hx
  have hb0 : Below w.heap.size w ((w.alloc (.cells #[.slice A n c, .int .i64 at_, .int .i64 err] 48)).alloc (.cells #[.slice none 0 0, .int .i64 0, .int .i64 0] 48)) := ((Below.refl _ _).alloc (Nat.le_refl _) _).alloc (by simp) _
  have k0 : Blk ((w.alloc (.cells #[.slice A n c, .int .i64 at_, .int .i64 err] 48)).alloc (.cells #[.slice none 0 0, .int .i64 0, .int .i64 0] 48)) w.heap.size 48 [.slice A n c, .int .i64 at_, .int .i64 err] := (Blk.new _ _ _).alloc _
  have k1 : Blk ((w.alloc (.cells #[.slice A n c, .int .i64 at_, .int .i64 err] 48)).alloc (.cells #[.slice none 0 0, .int .i64 0, .int .i64 0] 48)) (w.heap.size + 1) 48 [.slice none 0 0, .int .i64 0, .int .i64 0] := by simpa using Blk.new (w.alloc (.cells #[.slice A n c, .int .i64 at_, .int .i64 err] 48)) 48 [.slice none 0 0, .int .i64 0, .int .i64 0]
  have hB := sTk_byt xs at_ err 8 hb
  have hL := sTk_len xs at_ err 8
  have hS := sNum_lt _ hB 8 hL
  rw [show (256 : Int) ^ 8 = 18446744073709551616 from by decide] at hS
  obtain ⟨hS0, hS1⟩ := hS
  go_enter Try.func51, Try.ntmps51
  go_wp2_with fail
  refine (take_any A n c at_ err 8 xs _ w.heap.size (hr.below hb0) HX.out hc hn (by omega)).mono ?_
  rintro e w1 ⟨A1, m1, c1, rfl, hr1, hm1, hc1, hb1⟩
  have HM := Lib.hid hm1
  clear hm1
  have hbW := hb0.trans (hb1.mono (by simp; omega))
  have j0 := k0.below hb1 (by simp; omega)
  have j1 := k1.below hb1 (by simp)
  obtain ⟨c00, c01, c02, f00, f01, f02⟩ := j0.three
  obtain ⟨c10, c11, c12, f10, f11, f12⟩ := j1.three
  have hR := (((hr1.below (hb1.mono (by simp; omega))).setCell (p := ⟨w.heap.size, 0, none⟩) (Nat.le_refl _) (.slice A n c)).setCell (p := ⟨w.heap.size, 1, none⟩) (Nat.le_refl _) (.int .i64 (sTk xs at_ err 8).2.1)).setCell (p := ⟨w.heap.size, 2, none⟩) (Nat.le_refl _) (.int .i64 (sTk xs at_ err 8).2.2)
  clear k0 k1 j0 j1 hb0 hb1 hr1 hr
  go_wp2_with fail
  go_region_with (go_at_call 86; refine (number_any A1 m1 c1 _ _ w.heap.size hR.drew HM.out hB (Nat.le_trans hL (by omega))).mono ?_; rintro e w' ⟨rfl, rfl⟩)
  all_goals
    go_wp2
    refine bodyPost_ret (v := .tuple #[.int .u64 (sNum (sTk xs at_ err 8).1), .agg #[.slice A n c, .int .i64 (sTk xs at_ err 8).2.1, .int .i64 (sTk xs at_ err 8).2.2]]) (by simp [results, Try.results51, go_sem, c10, c11, c12]) rfl ⟨rfl, ?_⟩
    exact (below_set3 (below_set3 hbW (Nat.le_refl _) _ _ _) (Nat.le_succ _) _ _ _).drew
set_option maxHeartbeats 400000 in
theorem end_any (A : Option Addr) (n c : Nat) (at_ err : Int) (w : World) :
    Calls Try.prog 57 #[.agg #[.slice A n c, .int .i64 at_, .int .i64 err]] w fun e w' => e = .returned (.int .i64 (sEnd n at_ err)) ∧ Below w.heap.size w w' := by
  by_cases he : err = 0
  · subst he
    by_cases ha : at_ < n
    all_goals
      go_enter Try.func57, Try.ntmps57
      go_wp2
      go_ret
      exact ⟨by simp [sEnd, ha], (Below.refl _ _).alloc (Nat.le_refl _) _⟩
  · have he' : (err == 0) = false := by simpa using he
    have HE := Lib.hid he
    clear he
    go_enter Try.func57, Try.ntmps57
    go_wp2
    go_ret
    exact ⟨by simp [sEnd, HE.out], (Below.refl _ _).alloc (Nat.le_refl _) _⟩
end Go.Proofs.Ytjloemlnejndmaa
