/- The contracts of the reference's TakeByte, TakeWord, TakeLong, TakeHuge, End, Same and Reader. Printed by gen_takes.py. -/
import Derived.Test.YtljebpbjjfnmkaaWireQ
namespace Go.Proofs.Ytljebpbjjfnmkaa
open Go.RowKit Go.IntWalk
set_option maxRecDepth 100000
set_option linter.unusedVariables false

set_option maxHeartbeats 800000 in
theorem rtakeByte_any (A : Option Addr) (n c : Nat) (at_ err : Int) (xs : List Int) (w : World) (hr : Rd w w.heap.size A (cb .u8 xs)) (hx : n = xs.length) (hn : n ≤ 1000000000) (hb : Byt xs) :
    Calls Try.prog 31 #[.agg #[.slice A n c, .int .i64 at_, .int .i64 err]] w fun e w' => e = .returned (.tuple #[.int .i64 (sNum (sTk xs at_ err 1).1), .agg #[.slice A n c, .int .i64 (sTk xs at_ err 1).2.1, .int .i64 (sTk xs at_ err 1).2.2]]) ∧ Below w.heap.size w w' := by
  have HX := Lib.hid hx
  clear hx
  have hb0 : Below w.heap.size w ((w.alloc (.cells #[.slice A n c, .int .i64 at_, .int .i64 err] 37)).alloc (.cells #[.slice none 0 0, .int .i64 0, .int .i64 0] 37)) := ((Below.refl _ _).alloc (Nat.le_refl _) _).alloc (by simp) _
  have k1 : Blk ((w.alloc (.cells #[.slice A n c, .int .i64 at_, .int .i64 err] 37)).alloc (.cells #[.slice none 0 0, .int .i64 0, .int .i64 0] 37)) (w.heap.size + 1) 37 [.slice none 0 0, .int .i64 0, .int .i64 0] := by simpa using Blk.new (w.alloc (.cells #[.slice A n c, .int .i64 at_, .int .i64 err] 37)) 37 [.slice none 0 0, .int .i64 0, .int .i64 0]
  have hS := sNum_lt _ (sTk_byt xs at_ err 1 hb) 1 (sTk_len xs at_ err 1)
  rw [show (256 : Int) ^ 1 = 256 from by decide] at hS
  obtain ⟨hS0, hS1⟩ := hS
  have hWR : IntKind.i64.wrap (sNum (sTk xs at_ err 1).1) = sNum (sTk xs at_ err 1).1 := IntWalk.i64_in _ (by omega)
  go_enter Try.func31, Try.ntmps31
  go_wp2_with fail
  refine (rtake_any A n c at_ err 1 xs _ ((hr.below hb0).more (by simp; omega)) HX.out hn hb (by omega)).mono ?_
  rintro e w1 ⟨rfl, hb1⟩
  have hbW := hb0.trans (hb1.mono (by simp; omega))
  have j1 := k1.below hb1 (by simp)
  obtain ⟨c10, c11, c12, f10, f11, f12⟩ := j1.threeA
  have hlt := Lib.hid j1.lt
  clear k1 j1 hb0 hb1 hr
  go_wp2_with fail
  go_region
  all_goals
    go_wp2
    refine bodyPost_ret (v := .tuple #[.int .i64 (sNum (sTk xs at_ err 1).1), .agg #[.slice A n c, .int .i64 (sTk xs at_ err 1).2.1, .int .i64 (sTk xs at_ err 1).2.2]]) (by simp [results, Try.results31, go_sem, c10, c11, c12]) rfl ⟨rfl, ?_⟩
    exact (below_set3 (hbW.alloc (by have := hlt.out; omega) _) (Nat.le_succ _) _ _ _).drew

set_option maxHeartbeats 800000 in
theorem rtakeWord_any (A : Option Addr) (n c : Nat) (at_ err : Int) (xs : List Int) (w : World) (hr : Rd w w.heap.size A (cb .u8 xs)) (hx : n = xs.length) (hn : n ≤ 1000000000) (hb : Byt xs) :
    Calls Try.prog 33 #[.agg #[.slice A n c, .int .i64 at_, .int .i64 err]] w fun e w' => e = .returned (.tuple #[.int .i64 (wrap16 (sNum (sTk xs at_ err 2).1)), .agg #[.slice A n c, .int .i64 (sTk xs at_ err 2).2.1, .int .i64 (sTk xs at_ err 2).2.2]]) ∧ Below w.heap.size w w' := by
  have HX := Lib.hid hx
  clear hx
  have hb0 : Below w.heap.size w ((w.alloc (.cells #[.slice A n c, .int .i64 at_, .int .i64 err] 37)).alloc (.cells #[.slice none 0 0, .int .i64 0, .int .i64 0] 37)) := ((Below.refl _ _).alloc (Nat.le_refl _) _).alloc (by simp) _
  have k1 : Blk ((w.alloc (.cells #[.slice A n c, .int .i64 at_, .int .i64 err] 37)).alloc (.cells #[.slice none 0 0, .int .i64 0, .int .i64 0] 37)) (w.heap.size + 1) 37 [.slice none 0 0, .int .i64 0, .int .i64 0] := by simpa using Blk.new (w.alloc (.cells #[.slice A n c, .int .i64 at_, .int .i64 err] 37)) 37 [.slice none 0 0, .int .i64 0, .int .i64 0]
  have hS := sNum_lt _ (sTk_byt xs at_ err 2 hb) 2 (sTk_len xs at_ err 2)
  rw [show (256 : Int) ^ 2 = 65536 from by decide] at hS
  obtain ⟨hS0, hS1⟩ := hS
  have hWR : IntKind.i64.wrap (sNum (sTk xs at_ err 2).1) = sNum (sTk xs at_ err 2).1 := IntWalk.i64_in _ (by omega)
  go_enter Try.func33, Try.ntmps33
  go_wp2_with fail
  refine (rtake_any A n c at_ err 2 xs _ ((hr.below hb0).more (by simp; omega)) HX.out hn hb (by omega)).mono ?_
  rintro e w1 ⟨rfl, hb1⟩
  have hbW := hb0.trans (hb1.mono (by simp; omega))
  have j1 := k1.below hb1 (by simp)
  obtain ⟨c10, c11, c12, f10, f11, f12⟩ := j1.threeA
  have hlt := Lib.hid j1.lt
  clear k1 j1 hb0 hb1 hr
  go_wp2_with fail
  go_region_with (go_at_call 42; refine (rwrap_any _ _).mono ?_; rintro e w' ⟨rfl, rfl⟩)
  all_goals
    go_wp2
    refine bodyPost_ret (v := .tuple #[.int .i64 (wrap16 (sNum (sTk xs at_ err 2).1)), .agg #[.slice A n c, .int .i64 (sTk xs at_ err 2).2.1, .int .i64 (sTk xs at_ err 2).2.2]]) (by simp [results, Try.results33, go_sem, c10, c11, c12]) rfl ⟨rfl, ?_⟩
    exact (below_set3 (hbW.alloc (by have := hlt.out; omega) _) (Nat.le_succ _) _ _ _).drew

set_option maxHeartbeats 800000 in
theorem rtakeLong_any (A : Option Addr) (n c : Nat) (at_ err : Int) (xs : List Int) (w : World) (hr : Rd w w.heap.size A (cb .u8 xs)) (hx : n = xs.length) (hn : n ≤ 1000000000) (hb : Byt xs) :
    Calls Try.prog 35 #[.agg #[.slice A n c, .int .i64 at_, .int .i64 err]] w fun e w' => e = .returned (.tuple #[.int .u32 (sNum (sTk xs at_ err 4).1), .agg #[.slice A n c, .int .i64 (sTk xs at_ err 4).2.1, .int .i64 (sTk xs at_ err 4).2.2]]) ∧ Below w.heap.size w w' := by
  have HX := Lib.hid hx
  clear hx
  have hb0 : Below w.heap.size w ((w.alloc (.cells #[.slice A n c, .int .i64 at_, .int .i64 err] 37)).alloc (.cells #[.slice none 0 0, .int .i64 0, .int .i64 0] 37)) := ((Below.refl _ _).alloc (Nat.le_refl _) _).alloc (by simp) _
  have k1 : Blk ((w.alloc (.cells #[.slice A n c, .int .i64 at_, .int .i64 err] 37)).alloc (.cells #[.slice none 0 0, .int .i64 0, .int .i64 0] 37)) (w.heap.size + 1) 37 [.slice none 0 0, .int .i64 0, .int .i64 0] := by simpa using Blk.new (w.alloc (.cells #[.slice A n c, .int .i64 at_, .int .i64 err] 37)) 37 [.slice none 0 0, .int .i64 0, .int .i64 0]
  have hS := sNum_lt _ (sTk_byt xs at_ err 4 hb) 4 (sTk_len xs at_ err 4)
  rw [show (256 : Int) ^ 4 = 4294967296 from by decide] at hS
  obtain ⟨hS0, hS1⟩ := hS
  have hWR : IntKind.u32.wrap (sNum (sTk xs at_ err 4).1) = sNum (sTk xs at_ err 4).1 := IntWalk.u32_in _ (by omega)
  go_enter Try.func35, Try.ntmps35
  go_wp2_with fail
  refine (rtake_any A n c at_ err 4 xs _ ((hr.below hb0).more (by simp; omega)) HX.out hn hb (by omega)).mono ?_
  rintro e w1 ⟨rfl, hb1⟩
  have hbW := hb0.trans (hb1.mono (by simp; omega))
  have j1 := k1.below hb1 (by simp)
  obtain ⟨c10, c11, c12, f10, f11, f12⟩ := j1.threeA
  have hlt := Lib.hid j1.lt
  clear k1 j1 hb0 hb1 hr
  go_wp2_with fail
  go_region
  all_goals
    go_wp2
    refine bodyPost_ret (v := .tuple #[.int .u32 (sNum (sTk xs at_ err 4).1), .agg #[.slice A n c, .int .i64 (sTk xs at_ err 4).2.1, .int .i64 (sTk xs at_ err 4).2.2]]) (by simp [results, Try.results35, go_sem, c10, c11, c12]) rfl ⟨rfl, ?_⟩
    exact (below_set3 (hbW.alloc (by have := hlt.out; omega) _) (Nat.le_succ _) _ _ _).drew

set_option maxHeartbeats 800000 in
theorem rtakeHuge_any (A : Option Addr) (n c : Nat) (at_ err : Int) (xs : List Int) (w : World) (hr : Rd w w.heap.size A (cb .u8 xs)) (hx : n = xs.length) (hn : n ≤ 1000000000) (hb : Byt xs) :
    Calls Try.prog 37 #[.agg #[.slice A n c, .int .i64 at_, .int .i64 err]] w fun e w' => e = .returned (.tuple #[.int .u64 (sNum (sTk xs at_ err 8).1), .agg #[.slice A n c, .int .i64 (sTk xs at_ err 8).2.1, .int .i64 (sTk xs at_ err 8).2.2]]) ∧ Below w.heap.size w w' := by
  have HX := Lib.hid hx
  clear hx
  have hb0 : Below w.heap.size w ((w.alloc (.cells #[.slice A n c, .int .i64 at_, .int .i64 err] 37)).alloc (.cells #[.slice none 0 0, .int .i64 0, .int .i64 0] 37)) := ((Below.refl _ _).alloc (Nat.le_refl _) _).alloc (by simp) _
  have k1 : Blk ((w.alloc (.cells #[.slice A n c, .int .i64 at_, .int .i64 err] 37)).alloc (.cells #[.slice none 0 0, .int .i64 0, .int .i64 0] 37)) (w.heap.size + 1) 37 [.slice none 0 0, .int .i64 0, .int .i64 0] := by simpa using Blk.new (w.alloc (.cells #[.slice A n c, .int .i64 at_, .int .i64 err] 37)) 37 [.slice none 0 0, .int .i64 0, .int .i64 0]
  have hS := sNum_lt _ (sTk_byt xs at_ err 8 hb) 8 (sTk_len xs at_ err 8)
  rw [show (256 : Int) ^ 8 = 18446744073709551616 from by decide] at hS
  obtain ⟨hS0, hS1⟩ := hS
  go_enter Try.func37, Try.ntmps37
  go_wp2_with fail
  refine (rtake_any A n c at_ err 8 xs _ ((hr.below hb0).more (by simp; omega)) HX.out hn hb (by omega)).mono ?_
  rintro e w1 ⟨rfl, hb1⟩
  have hbW := hb0.trans (hb1.mono (by simp; omega))
  have j1 := k1.below hb1 (by simp)
  obtain ⟨c10, c11, c12, f10, f11, f12⟩ := j1.threeA
  have hlt := Lib.hid j1.lt
  clear k1 j1 hb0 hb1 hr
  go_wp2_with fail
  go_region
  all_goals
    go_wp2
    refine bodyPost_ret (v := .tuple #[.int .u64 (sNum (sTk xs at_ err 8).1), .agg #[.slice A n c, .int .i64 (sTk xs at_ err 8).2.1, .int .i64 (sTk xs at_ err 8).2.2]]) (by simp [results, Try.results37, go_sem, c10, c11, c12]) rfl ⟨rfl, ?_⟩
    exact (below_set3 (hbW.alloc (by have := hlt.out; omega) _) (Nat.le_succ _) _ _ _).drew

set_option maxHeartbeats 400000 in
theorem rend_any (A : Option Addr) (n c : Nat) (at_ err : Int) (w : World) :
    Calls Try.prog 41 #[.agg #[.slice A n c, .int .i64 at_, .int .i64 err]] w fun e w' => e = .returned (.int .i64 (sEnd n at_ err)) ∧ Below w.heap.size w w' := by
  by_cases he : err = 0
  · subst he
    by_cases ha : at_ < n
    all_goals
      go_enter Try.func41, Try.ntmps41
      go_wp2
      go_ret
      exact ⟨by simp [sEnd, ha], (Below.refl _ _).alloc (Nat.le_refl _) _⟩
  · have he' : (err != 0) = true := by simpa using he
    have HE := Lib.hid he
    clear he
    go_enter Try.func41, Try.ntmps41
    go_wp2
    go_ret
    exact ⟨by simp [sEnd, HE.out], (Below.refl _ _).alloc (Nat.le_refl _) _⟩

set_option maxHeartbeats 400000 in
/-- clewref02.Reader at two readers that hold the same. -/
theorem rreader_same (A A' : Option Addr) (n n' c c' : Nat) (at_ err : Int) (xs : List Int) (w : World) (hx : Rd w w.heap.size A (cb .u8 xs)) (hy : Rd w w.heap.size A' (cb .u8 xs)) (hn : n = xs.length) (hn' : n' = xs.length) :
    Calls Try.prog 28 #[.agg #[.slice A n c, .int .i64 at_, .int .i64 err], .agg #[.slice A' n' c', .int .i64 at_, .int .i64 err]] w fun e w' => e = .returned (.bool true) ∧ Below w.heap.size w w' := by
  have HN := Lib.hid hn
  have HN' := Lib.hid hn'
  clear hn hn'
  have hb0 : Below w.heap.size w ((w.alloc (.cells #[.slice A n c, .int .i64 at_, .int .i64 err] 37)).alloc (.cells #[.slice A' n' c', .int .i64 at_, .int .i64 err] 37)) := ((Below.refl _ _).alloc (Nat.le_refl _) _).alloc (by simp) _
  go_enter Try.func28, Try.ntmps28
  go_wp2_with fail
  refine (rbytes_same A A' n n' c c' xs _ w.heap.size w.heap.size (hx.below hb0) (hy.below hb0) HN.out HN'.out).mono ?_
  rintro e w1 ⟨rfl, rfl⟩
  go_wp2
  go_ret
  exact ⟨rfl, hb0⟩

set_option maxHeartbeats 400000 in
/-- clewref02.Same at two lists that hold the same. -/
theorem rsame_same (A A' : Option Addr) (n n' c c' : Nat) (xs : List Int) (w : World) (B B' : Nat) (hx : Rd w B A (cb .i64 xs)) (hy : Rd w B' A' (cb .i64 xs)) (hn : n = xs.length) (hn' : n' = xs.length) (hl : xs.length ≤ 1000000000) :
    Calls Try.prog 29 #[.slice A n c, .slice A' n' c'] w fun e w' => e = .returned (.bool true) ∧ Below w.heap.size w w' := by
  subst hn
  subst hn'
  go_enter Try.func29, Try.ntmps29
  go_wp2
  go_loopw [5] (fun i w2 => ∃ k : Nat, k ≤ xs.length ∧ i = .int .i64 k ∧ Below w.heap.size w w2 ∧ Rd w2 B A (cb .i64 xs) ∧ Rd w2 B' A' (cb .i64 xs)) (fun i _ => xs.length - (intOf i).toNat)
  case atStart => exact ⟨0, by omega, rfl, Below.refl _ _, hx, hy⟩
  case round =>
    obtain ⟨k, hk, rfl, hbel, hx2, hy2⟩ := hrel
    by_cases hlt : k < xs.length
    · obtain ⟨b, o, rfl, _, hc⟩ := hx2.num hlt
      obtain ⟨b', o', rfl, _, hc'⟩ := hy2.num hlt
      have hge : Hid (xs[k] = xs[k]) := rfl
      generalize xs[k] = x at *
      go_wp2
      go_region
      go_wp2
      go_roundw
      case rel => exact ⟨k + 1, by omega, by go_num, hbel.drew, hx2, hy2⟩
      case measure => simp [intOf]; omega
    · obtain rfl : k = xs.length := by omega
      go_wp2
      go_ret
      exact ⟨rfl, hbel⟩
end Go.Proofs.Ytljebpbjjfnmkaa
