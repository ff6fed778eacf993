/- The contracts of the reference's TakeByte, TakeWord, TakeLong, TakeHuge, End, Same and Reader. Printed by gen_takes.py. -/
import Derived.Test.YtjloemlnejndmaaVwQ
namespace Go.Proofs.Ytjloemlnejndmaa
open Go.RowKit Go.IntWalk
set_option maxRecDepth 100000
set_option linter.unusedVariables false

set_option maxHeartbeats 800000 in
theorem rtakeByte_any (A : Option Addr) (n c : Nat) (at_ err : Int) (xs : List Int) (w : World) (hr : Rd w w.heap.size A (cb .u8 xs)) (hx : n = xs.length) (hn : n ≤ 1000000000) (hb : Byt xs) :
    Calls Try.prog 22 #[.agg #[.slice A n c, .int .i64 at_, .int .i64 err]] w fun e w' => e = .returned (.tuple #[.int .i64 (sNum (sTk xs at_ err 1).1), .agg #[.slice A n c, .int .i64 (sTk xs at_ err 1).2.1, .int .i64 (sTk xs at_ err 1).2.2]]) ∧ Below w.heap.size w w' := by
  have HX := Lib.hid hx
  clear hx
  have hb0 : Below w.heap.size w ((w.alloc (.cells #[.slice A n c, .int .i64 at_, .int .i64 err] 48)).alloc (.cells #[.slice none 0 0, .int .i64 0, .int .i64 0] 48)) := ((Below.refl _ _).alloc (Nat.le_refl _) _).alloc (by simp) _
  have k1 : Blk ((w.alloc (.cells #[.slice A n c, .int .i64 at_, .int .i64 err] 48)).alloc (.cells #[.slice none 0 0, .int .i64 0, .int .i64 0] 48)) (w.heap.size + 1) 48 [.slice none 0 0, .int .i64 0, .int .i64 0] := by simpa using Blk.new (w.alloc (.cells #[.slice A n c, .int .i64 at_, .int .i64 err] 48)) 48 [.slice none 0 0, .int .i64 0, .int .i64 0]
  have hS := sNum_lt _ (sTk_byt xs at_ err 1 hb) 1 (sTk_len xs at_ err 1)
  rw [show (256 : Int) ^ 1 = 256 from by decide] at hS
  obtain ⟨hS0, hS1⟩ := hS
  have hWR : IntKind.i64.wrap (sNum (sTk xs at_ err 1).1) = sNum (sTk xs at_ err 1).1 := IntWalk.i64_in _ (by omega)
  go_enter Try.func22, Try.ntmps22
  go_wp2_with fail
  refine (rtake_any A n c at_ err 1 xs _ ((hr.below hb0).more (by simp; omega)) HX.out hn hb (by omega)).mono ?_
  rintro e w1 ⟨rfl, hb1⟩
  have hbW := hb0.trans (hb1.mono (by simp; omega))
  have j1 := k1.below hb1 (by simp)
  obtain ⟨c10, c11, c12, f10, f11, f12⟩ := j1.threeA
  have hlt := Lib.hid j1.lt
  clear k1 j1 hb0 hb1 hr
  go_wp2_with fail
  go_region
  all_goals
    go_wp2
    refine bodyPost_ret (v := .tuple #[.int .i64 (sNum (sTk xs at_ err 1).1), .agg #[.slice A n c, .int .i64 (sTk xs at_ err 1).2.1, .int .i64 (sTk xs at_ err 1).2.2]]) (by simp [results, Try.results22, go_sem, c10, c11, c12]) rfl ⟨rfl, ?_⟩
    exact (below_set3 (hbW.alloc (by have := hlt.out; omega) _) (Nat.le_succ _) _ _ _).drew
set_option maxHeartbeats 800000 in
theorem rtakeWord_any (A : Option Addr) (n c : Nat) (at_ err : Int) (xs : List Int) (w : World) (hr : Rd w w.heap.size A (cb .u8 xs)) (hx : n = xs.length) (hn : n ≤ 1000000000) (hb : Byt xs) :
    Calls Try.prog 20 #[.agg #[.slice A n c, .int .i64 at_, .int .i64 err]] w fun e w' => e = .returned (.tuple #[.int .i64 (wrap16 (sNum (sTk xs at_ err 2).1)), .agg #[.slice A n c, .int .i64 (sTk xs at_ err 2).2.1, .int .i64 (sTk xs at_ err 2).2.2]]) ∧ Below w.heap.size w w' := by
  have HX := Lib.hid hx
  clear hx
  have hb0 : Below w.heap.size w ((w.alloc (.cells #[.slice A n c, .int .i64 at_, .int .i64 err] 48)).alloc (.cells #[.slice none 0 0, .int .i64 0, .int .i64 0] 48)) := ((Below.refl _ _).alloc (Nat.le_refl _) _).alloc (by simp) _
  have k1 : Blk ((w.alloc (.cells #[.slice A n c, .int .i64 at_, .int .i64 err] 48)).alloc (.cells #[.slice none 0 0, .int .i64 0, .int .i64 0] 48)) (w.heap.size + 1) 48 [.slice none 0 0, .int .i64 0, .int .i64 0] := by simpa using Blk.new (w.alloc (.cells #[.slice A n c, .int .i64 at_, .int .i64 err] 48)) 48 [.slice none 0 0, .int .i64 0, .int .i64 0]
  have hS := sNum_lt _ (sTk_byt xs at_ err 2 hb) 2 (sTk_len xs at_ err 2)
  rw [show (256 : Int) ^ 2 = 65536 from by decide] at hS
  obtain ⟨hS0, hS1⟩ := hS
  have hWR : IntKind.i64.wrap (sNum (sTk xs at_ err 2).1) = sNum (sTk xs at_ err 2).1 := IntWalk.i64_in _ (by omega)
  go_enter Try.func20, Try.ntmps20
  go_wp2_with fail
  refine (rtake_any A n c at_ err 2 xs _ ((hr.below hb0).more (by simp; omega)) HX.out hn hb (by omega)).mono ?_
  rintro e w1 ⟨rfl, hb1⟩
  have hbW := hb0.trans (hb1.mono (by simp; omega))
  have j1 := k1.below hb1 (by simp)
  obtain ⟨c10, c11, c12, f10, f11, f12⟩ := j1.threeA
  have hlt := Lib.hid j1.lt
  clear k1 j1 hb0 hb1 hr
  go_wp2_with fail
  go_region_with (go_at_call 73; refine (rwrap_any _ _).mono ?_; rintro e w' ⟨rfl, rfl⟩)
  all_goals
    go_wp2
    refine bodyPost_ret (v := .tuple #[.int .i64 (wrap16 (sNum (sTk xs at_ err 2).1)), .agg #[.slice A n c, .int .i64 (sTk xs at_ err 2).2.1, .int .i64 (sTk xs at_ err 2).2.2]]) (by simp [results, Try.results20, go_sem, c10, c11, c12]) rfl ⟨rfl, ?_⟩
    exact (below_set3 (hbW.alloc (by have := hlt.out; omega) _) (Nat.le_succ _) _ _ _).drew
set_option maxHeartbeats 800000 in
theorem rtakeLong_any (A : Option Addr) (n c : Nat) (at_ err : Int) (xs : List Int) (w : World) (hr : Rd w w.heap.size A (cb .u8 xs)) (hx : n = xs.length) (hn : n ≤ 1000000000) (hb : Byt xs) :
    Calls Try.prog 21 #[.agg #[.slice A n c, .int .i64 at_, .int .i64 err]] w fun e w' => e = .returned (.tuple #[.int .u32 (sNum (sTk xs at_ err 4).1), .agg #[.slice A n c, .int .i64 (sTk xs at_ err 4).2.1, .int .i64 (sTk xs at_ err 4).2.2]]) ∧ Below w.heap.size w w' := by
  have HX := Lib.hid hx
  clear hx
  have hb0 : Below w.heap.size w ((w.alloc (.cells #[.slice A n c, .int .i64 at_, .int .i64 err] 48)).alloc (.cells #[.slice none 0 0, .int .i64 0, .int .i64 0] 48)) := ((Below.refl _ _).alloc (Nat.le_refl _) _).alloc (by simp) _
  have k1 : Blk ((w.alloc (.cells #[.slice A n c, .int .i64 at_, .int .i64 err] 48)).alloc (.cells #[.slice none 0 0, .int .i64 0, .int .i64 0] 48)) (w.heap.size + 1) 48 [.slice none 0 0, .int .i64 0, .int .i64 0] := by simpa using Blk.new (w.alloc (.cells #[.slice A n c, .int .i64 at_, .int .i64 err] 48)) 48 [.slice none 0 0, .int .i64 0, .int .i64 0]
  have hS := sNum_lt _ (sTk_byt xs at_ err 4 hb) 4 (sTk_len xs at_ err 4)
  rw [show (256 : Int) ^ 4 = 4294967296 from by decide] at hS
  obtain ⟨hS0, hS1⟩ := hS
  have hWR : IntKind.u32.wrap (sNum (sTk xs at_ err 4).1) = sNum (sTk xs at_ err 4).1 := IntWalk.u32_in _ (by omega)
  go_enter Try.func21, Try.ntmps21
  go_wp2_with fail
  refine (rtake_any A n c at_ err 4 xs _ ((hr.below hb0).more (by simp; omega)) HX.out hn hb (by omega)).mono ?_
  rintro e w1 ⟨rfl, hb1⟩
  have hbW := hb0.trans (hb1.mono (by simp; omega))
  have j1 := k1.below hb1 (by simp)
  obtain ⟨c10, c11, c12, f10, f11, f12⟩ := j1.threeA
  have hlt := Lib.hid j1.lt
  clear k1 j1 hb0 hb1 hr
  go_wp2_with fail
  go_region
  all_goals
    go_wp2
    refine bodyPost_ret (v := .tuple #[.int .u32 (sNum (sTk xs at_ err 4).1), .agg #[.slice A n c, .int .i64 (sTk xs at_ err 4).2.1, .int .i64 (sTk xs at_ err 4).2.2]]) (by simp [results, Try.results21, go_sem, c10, c11, c12]) rfl ⟨rfl, ?_⟩
    exact (below_set3 (hbW.alloc (by have := hlt.out; omega) _) (Nat.le_succ _) _ _ _).drew
set_option maxHeartbeats 800000 in
theorem rtakeHuge_any (A : Option Addr) (n c : Nat) (at_ err : Int) (xs : List Int) (w : World) (hr : Rd w w.heap.size A (cb .u8 xs)) (hx : n = xs.length) (hn : n ≤ 1000000000) (hb : Byt xs) :
    Calls Try.prog 19 #[.agg #[.slice A n c, .int .i64 at_, .int .i64 err]] w fun e w' => e = .returned (.tuple #[.int .u64 (sNum (sTk xs at_ err 8).1), .agg #[.slice A n c, .int .i64 (sTk xs at_ err 8).2.1, .int .i64 (sTk xs at_ err 8).2.2]]) ∧ Below w.heap.size w w' := by
  have HX := Lib.hid hx
  clear hx
  have hb0 : Below w.heap.size w ((w.alloc (.cells #[.slice A n c, .int .i64 at_, .int .i64 err] 48)).alloc (.cells #[.slice none 0 0, .int .i64 0, .int .i64 0] 48)) := ((Below.refl _ _).alloc (Nat.le_refl _) _).alloc (by simp) _
  have k1 : Blk ((w.alloc (.cells #[.slice A n c, .int .i64 at_, .int .i64 err] 48)).alloc (.cells #[.slice none 0 0, .int .i64 0, .int .i64 0] 48)) (w.heap.size + 1) 48 [.slice none 0 0, .int .i64 0, .int .i64 0] := by simpa using Blk.new (w.alloc (.cells #[.slice A n c, .int .i64 at_, .int .i64 err] 48)) 48 [.slice none 0 0, .int .i64 0, .int .i64 0]
  have hS := sNum_lt _ (sTk_byt xs at_ err 8 hb) 8 (sTk_len xs at_ err 8)
  rw [show (256 : Int) ^ 8 = 18446744073709551616 from by decide] at hS
  obtain ⟨hS0, hS1⟩ := hS
  go_enter Try.func19, Try.ntmps19
  go_wp2_with fail
  refine (rtake_any A n c at_ err 8 xs _ ((hr.below hb0).more (by simp; omega)) HX.out hn hb (by omega)).mono ?_
  rintro e w1 ⟨rfl, hb1⟩
  have hbW := hb0.trans (hb1.mono (by simp; omega))
  have j1 := k1.below hb1 (by simp)
  obtain ⟨c10, c11, c12, f10, f11, f12⟩ := j1.threeA
  have hlt := Lib.hid j1.lt
  clear k1 j1 hb0 hb1 hr
  go_wp2_with fail
  go_region
  all_goals
    go_wp2
    refine bodyPost_ret (v := .tuple #[.int .u64 (sNum (sTk xs at_ err 8).1), .agg #[.slice A n c, .int .i64 (sTk xs at_ err 8).2.1, .int .i64 (sTk xs at_ err 8).2.2]]) (by simp [results, Try.results19, go_sem, c10, c11, c12]) rfl ⟨rfl, ?_⟩
    exact (below_set3 (hbW.alloc (by have := hlt.out; omega) _) (Nat.le_succ _) _ _ _).drew
set_option maxHeartbeats 400000 in
theorem rend_any (A : Option Addr) (n c : Nat) (at_ err : Int) (w : World) :
    Calls Try.prog 23 #[.agg #[.slice A n c, .int .i64 at_, .int .i64 err]] w fun e w' => e = .returned (.int .i64 (sEnd n at_ err)) ∧ Below w.heap.size w w' := by
  by_cases he : err = 0
  · subst he
    by_cases ha : at_ < n
    all_goals
      go_enter Try.func23, Try.ntmps23
      go_wp2
      go_ret
      exact ⟨by simp [sEnd, ha], (Below.refl _ _).alloc (Nat.le_refl _) _⟩
  · have he' : (err != 0) = true := by simpa using he
    have HE := Lib.hid he
    clear he
    go_enter Try.func23, Try.ntmps23
    go_wp2
    go_ret
    exact ⟨by simp [sEnd, HE.out], (Below.refl _ _).alloc (Nat.le_refl _) _⟩
end Go.Proofs.Ytjloemlnejndmaa
