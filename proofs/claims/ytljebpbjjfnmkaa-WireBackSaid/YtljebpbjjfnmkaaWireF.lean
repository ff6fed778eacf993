/- The contract of wire.TakeText. Printed by gen_txt.py. -/
import Derived.Test.YtljebpbjjfnmkaaWireE
namespace Go.Proofs.Ytljebpbjjfnmkaa
open Go.RowKit Go.IntWalk
set_option maxRecDepth 100000
set_option linter.unusedVariables false

set_option maxHeartbeats 800000 in
theorem takeText_any (A : Option Addr) (n c : Nat) (at_ err most : Int) (xs : List Int) (w : World) (hr : Rd w w.heap.size A (cb .u8 xs)) (hx : n = xs.length) (hc : n ≤ c) (hn : n ≤ 1000000000) (hb : Byt xs) :
    Calls Try.prog 24 #[.agg #[.slice A n c, .int .i64 at_, .int .i64 err], .int .i64 most] w fun en w' => en = .returned (.tuple #[.string (strOfNums (sOf xs at_ err most 1).1), .agg #[.slice A n c, .int .i64 (sOf xs at_ err most 1).2.1, .int .i64 (sOf xs at_ err most 1).2.2]]) ∧ Below w.heap.size w w' := by
  have HX := Lib.hid hx
  clear hx
  have hb0 : Below w.heap.size w ((w.alloc (.cells #[.slice A n c, .int .i64 at_, .int .i64 err] 37)).alloc (.cells #[.slice none 0 0, .int .i64 0, .int .i64 0] 37)) := ((Below.refl _ _).alloc (Nat.le_refl _) _).alloc (by simp) _
  have k0 : Blk ((w.alloc (.cells #[.slice A n c, .int .i64 at_, .int .i64 err] 37)).alloc (.cells #[.slice none 0 0, .int .i64 0, .int .i64 0] 37)) w.heap.size 37 [.slice A n c, .int .i64 at_, .int .i64 err] := (Blk.new _ _ _).alloc _
  have k1 : Blk ((w.alloc (.cells #[.slice A n c, .int .i64 at_, .int .i64 err] 37)).alloc (.cells #[.slice none 0 0, .int .i64 0, .int .i64 0] 37)) (w.heap.size + 1) 37 [.slice none 0 0, .int .i64 0, .int .i64 0] := by simpa using Blk.new (w.alloc (.cells #[.slice A n c, .int .i64 at_, .int .i64 err] 37)) 37 [.slice none 0 0, .int .i64 0, .int .i64 0]
  go_enter Try.func24, Try.ntmps24
  go_wp2_with fail
  refine (bytes1_any A n c at_ err most xs _ w.heap.size (by simp; omega) (hr.below hb0) HX.out hc hn hb).mono ?_
  rintro en w1 ⟨A1, m1, c1, rfl, hr1, hm1, hc1, hb1⟩
  have HM := Lib.hid hm1
  clear hm1
  have j0 := k0.below hb1 (by simp; omega)
  have j1 := k1.below hb1 (by simp)
  have hbV := hb0.trans (hb1.mono (by simp; omega))
  clear k0 k1
  have hrW : Rd (((w1.setCell ⟨w.heap.size, 0, none⟩ (.slice A n c)).setCell ⟨w.heap.size, 1, none⟩ (.int .i64 (sOf xs at_ err most 1).2.1)).setCell ⟨w.heap.size, 2, none⟩ (.int .i64 (sOf xs at_ err most 1).2.2)) w.heap.size A1 (cb .u8 (sOf xs at_ err most 1).1) := (((hr1.below (hb1.mono (by simp; omega))).setCell (p := ⟨w.heap.size, 0, none⟩) (Nat.le_refl _) (.slice A n c)).setCell (p := ⟨w.heap.size, 1, none⟩) (Nat.le_refl _) (.int .i64 (sOf xs at_ err most 1).2.1)).setCell (p := ⟨w.heap.size, 2, none⟩) (Nat.le_refl _) (.int .i64 (sOf xs at_ err most 1).2.2)
  have hrX : Rd ((((((w1.setCell ⟨w.heap.size, 0, none⟩ (.slice A n c)).setCell ⟨w.heap.size, 1, none⟩ (.int .i64 (sOf xs at_ err most 1).2.1)).setCell ⟨w.heap.size, 2, none⟩ (.int .i64 (sOf xs at_ err most 1).2.2)).setCell ⟨w.heap.size + 1, 0, none⟩ (.slice A n c)).setCell ⟨w.heap.size + 1, 1, none⟩ (.int .i64 (sOf xs at_ err most 1).2.1)).setCell ⟨w.heap.size + 1, 2, none⟩ (.int .i64 (sOf xs at_ err most 1).2.2)) w.heap.size A1 (cb .u8 (sOf xs at_ err most 1).1) := ((hrW.setCell (p := ⟨w.heap.size + 1, 0, none⟩) (Nat.le_succ _) (.slice A n c)).setCell (p := ⟨w.heap.size + 1, 1, none⟩) (Nat.le_succ _) (.int .i64 (sOf xs at_ err most 1).2.1)).setCell (p := ⟨w.heap.size + 1, 2, none⟩) (Nat.le_succ _) (.int .i64 (sOf xs at_ err most 1).2.2)
  have g1 := conv_str (P := Try.prog) Try.underlying22 Try.underlying5 Try.underlying9 (c := c1) hrW.drew HM.out
  have g2 := conv_str (P := Try.prog) Try.underlying22 Try.underlying5 Try.underlying9 (c := c1) hrX.drew HM.out
  obtain ⟨c00, c01, c02, f00, f01, f02⟩ := j0.three
  obtain ⟨c10, c11, c12, f10, f11, f12⟩ := j1.three
  clear j0 j1 hrW hrX hr1 hr HM hb0 hb1
  go_wp2_with fail
  go_region
  go_wp2
  refine bodyPost_ret (v := .tuple #[.string (strOfNums (sOf xs at_ err most 1).1), .agg #[.slice A n c, .int .i64 (sOf xs at_ err most 1).2.1, .int .i64 (sOf xs at_ err most 1).2.2]]) (by simp [results, Try.results24, go_sem, c10, c11, c12]) rfl ⟨rfl, ?_⟩
  exact (below_set3 (below_set3 hbV (Nat.le_refl _) _ _ _) (Nat.le_succ _) _ _ _).drew
end Go.Proofs.Ytljebpbjjfnmkaa
