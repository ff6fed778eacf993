/- The contracts of wire.bytes. Printed by gen_lists.py. The contract of wire.TakeInts. Printed by gen_tints.py. -/
import Derived.Test.YtjloemlnejndmaaVwS
import Derived.Test.YtjloemlnejndmaaVwSpec2
namespace Go.Proofs.Ytjloemlnejndmaa
open Go.RowKit Go.IntWalk
set_option maxRecDepth 100000
set_option linter.unusedVariables false

set_option maxHeartbeats 800000 in
theorem bytes2_any (A : Option Addr) (n c : Nat) (at_ err most : Int) (xs : List Int) (w : World) (B : Nat) (hB : B ≤ w.heap.size) (hr : Rd w B A (cb .u8 xs)) (hx : n = xs.length) (hc : n ≤ c) (hn : n ≤ 1000000000) (hb : Byt xs) :
    Calls Try.prog 85 #[.agg #[.slice A n c, .int .i64 at_, .int .i64 err], .int .i64 most, .int .i64 2] w fun en w' => ∃ A' m' c', en = .returned (.tuple #[.slice A' m' c', .agg #[.slice A n c, .int .i64 (sOf xs at_ err most 2).2.1, .int .i64 (sOf xs at_ err most 2).2.2]]) ∧ Rd w B A' (cb .u8 (sOf xs at_ err most 2).1) ∧ m' = (sOf xs at_ err most 2).1.length ∧ m' ≤ c' ∧ Below w.heap.size w w' := by
  have HX := Lib.hid hx
  clear hx
  have hb0 : Below w.heap.size w ((w.alloc (.cells #[.slice A n c, .int .i64 at_, .int .i64 err] 48)).alloc (.cells #[.slice none 0 0, .int .i64 0, .int .i64 0] 48)) := ((Below.refl _ _).alloc (Nat.le_refl _) _).alloc (by simp) _
  have k0 : Blk ((w.alloc (.cells #[.slice A n c, .int .i64 at_, .int .i64 err] 48)).alloc (.cells #[.slice none 0 0, .int .i64 0, .int .i64 0] 48)) w.heap.size 48 [.slice A n c, .int .i64 at_, .int .i64 err] := (Blk.new _ _ _).alloc _
  have k1 : Blk ((w.alloc (.cells #[.slice A n c, .int .i64 at_, .int .i64 err] 48)).alloc (.cells #[.slice none 0 0, .int .i64 0, .int .i64 0] 48)) (w.heap.size + 1) 48 [.slice none 0 0, .int .i64 0, .int .i64 0] := by simpa using Blk.new (w.alloc (.cells #[.slice A n c, .int .i64 at_, .int .i64 err] 48)) 48 [.slice none 0 0, .int .i64 0, .int .i64 0]
  obtain ⟨hm0, hm1⟩ := sTS_bound xs hb at_ err most
  go_enter Try.func85, Try.ntmps85
  go_wp2_with fail
  refine (takeSize_any A n c at_ err most xs _ (((hr.more hB).below hb0).more (by simp; omega)) HX.out hc hn hb).mono ?_
  rintro en w1 ⟨rfl, hb1⟩
  have j0 := (k0.below hb1 (by simp; omega)).alloc (.cells #[.slice A n c, .int .i64 (sTS xs at_ err most).2.1, .int .i64 (sTS xs at_ err most).2.2] 48)
  have j1 := (k1.below hb1 (by simp)).alloc (.cells #[.slice A n c, .int .i64 (sTS xs at_ err most).2.1, .int .i64 (sTS xs at_ err most).2.2] 48)
  have j2 : Blk (w1.alloc (.cells #[.slice A n c, .int .i64 (sTS xs at_ err most).2.1, .int .i64 (sTS xs at_ err most).2.2] 48)) w1.heap.size 48 [.slice A n c, .int .i64 (sTS xs at_ err most).2.1, .int .i64 (sTS xs at_ err most).2.2] := Blk.new _ _ _
  have hbV := hb0.trans (hb1.mono (by simp; omega))
  have hbW := hbV.alloc hbV.size (.cells #[.slice A n c, .int .i64 (sTS xs at_ err most).2.1, .int .i64 (sTS xs at_ err most).2.2] 48)
  have hlt1 := Lib.hid k1.lt
  have hsz1 := Lib.hid hb1.size
  clear k0 k1 hb0 hb1
  go_wp2_with fail
  obtain ⟨N, hN⟩ := Int.eq_ofNat_of_zero_le hm0
  obtain ⟨L, hL⟩ : ∃ L : Nat, (sTS xs at_ err most).1.toNat * 2 = L := ⟨_, rfl⟩
  have hmul : (sTS xs at_ err most).1 * 2 = (L : Int) := by omega
  rw [hmul]
  refine (take_any A n c _ _ L xs _ B (hr.below (hbW.mono hB)) HX.out hc hn (by omega)).mono ?_
  clear hN hmul hm0 hm1
  have HL := Lib.hid hL
  clear hL
  generalize hT : (sTk xs (sTS xs at_ err most).2.1 (sTS xs at_ err most).2.2 L) = T
  have HT := Lib.hid hT
  clear hT
  rintro en w2 ⟨A2, m2, c2, rfl, hr2, hm2, hc2, hb2⟩
  have HM := Lib.hid hm2
  clear hm2
  have l0 := j0.below hb2 j0.lt
  have l1 := j1.below hb2 j1.lt
  have l2 := j2.below hb2 j2.lt
  have hbX := hbW.trans (hb2.mono hbW.size)
  obtain ⟨c00, c01, c02, f00, f01, f02⟩ := l0.three
  obtain ⟨c10, c11, c12, f10, f11, f12⟩ := l1.three
  obtain ⟨c20, c21, c22, f20, f21, f22⟩ := l2.three
  have hR2 : Rd w B A2 (cb .u8 T.1) := hr2.keep fun b o hbo => (hbW.cell (p := ⟨b, o, none⟩) (by simp; omega)).symm
  have hne0 : w1.heap.size ≠ w.heap.size := by have := hlt1.out; have := hsz1.out; simp at *; omega
  have hne1 : w1.heap.size ≠ w.heap.size + 1 := by have := hlt1.out; have := hsz1.out; simp at *; omega
  have hne0' := hne0.symm
  have hne1' := hne1.symm
  have hle : w.heap.size ≤ w1.heap.size := hbV.size
  clear j0 j1 j2 l0 l1 l2 hb2 hr2 hbW hbV
  by_cases he : T.2.2 = 0
  · have HS : Hid (sOf xs at_ err most 2 = T) := by unfold Hid sOf; rw [HL.out, HT.out, if_pos he]
    have he' : (T.2.2 != 0) = false := by simpa using he
    have HE := Lib.hid he
    clear he
    go_wp2_with fail
    go_region
    go_wp2
    refine bodyPost_ret (v := .tuple #[.slice A2 m2 c2, .agg #[.slice A n c, .int .i64 T.2.1, .int .i64 T.2.2]]) (by simp [results, Try.results85, go_sem, c10, c11, c12]) rfl ⟨A2, m2, c2, by rw [HS.out], ?_, by rw [HS.out]; exact HM.out, hc2, ?_⟩
    · rw [HS.out]; exact hR2.keep fun b o hbo => rfl
    · exact (below_set3 (below_set3 hbX hle _ _ _) (Nat.le_succ _) _ _ _).drew
  · have HS : Hid (sOf xs at_ err most 2 = ([], at_, T.2.2)) := by unfold Hid sOf; rw [HL.out, HT.out, if_neg he]
    have he' : (T.2.2 != 0) = true := by simpa using he
    clear he
    go_wp2_with fail
    go_region
    go_wp2
    refine bodyPost_ret (v := .tuple #[.slice none 0 0, .agg #[.slice A n c, .int .i64 at_, .int .i64 T.2.2]]) (by simp [results, Try.results85, go_sem, c10, c11, c12]) rfl ⟨none, 0, 0, by rw [HS.out], ?_, by rw [HS.out]; rfl, Nat.le_refl _, ?_⟩
    · rw [HS.out]; exact Rd.nil _ _ _
    · exact (below_set3 ((below_set3 hbX hle _ _ _).setCell (p := ⟨w.heap.size, 2, none⟩) (Nat.le_refl _) _) (Nat.le_succ _) _ _ _).drew
end Go.Proofs.Ytjloemlnejndmaa
namespace Go.Proofs.Ytjloemlnejndmaa
open Go.RowKit Go.IntWalk
set_option maxRecDepth 100000
set_option linter.unusedVariables false

theorem infoI64 : (Try.prog.info? 3).map (fun i => (i.zero, i.size, i.bytes)) = some (some (.int .i64 0), 1, 8) := by kernel_rfl
theorem elemI64 : Elem Try.prog 23 3 (.int .i64 0) 8 := ⟨Try.underlying23, info_parts infoI64, rfl⟩
set_option maxHeartbeats 1600000 in
theorem takeInts_any (A : Option Addr) (n c : Nat) (at_ err most : Int) (xs : List Int) (w : World) (hr : Rd w w.heap.size A (cb .u8 xs)) (hx : n = xs.length) (hc : n ≤ c) (hn : n ≤ 1000000) (hb : Byt xs) :
    Calls Try.prog 50 #[.agg #[.slice A n c, .int .i64 at_, .int .i64 err], .int .i64 most] w fun en w' => ∃ A' m' c', en = .returned (.tuple #[.slice A' m' c', .agg #[.slice A n c, .int .i64 (sOf xs at_ err most 2).2.1, .int .i64 (sOf xs at_ err most 2).2.2]]) ∧ Own w' w.heap.size 3 (.slice A' m' c') (cb .i64 (sPairs (sOf xs at_ err most 2).1)) ∧ Below w.heap.size w w' := by
  have HX := Lib.hid hx
  have hlen := sOf_len xs at_ err most 2
  rw [← hx] at hlen
  clear hx
  have hbt := sOf_byt xs at_ err most 2 hb
  have hb0 : Below w.heap.size w ((w.alloc (.cells #[.slice A n c, .int .i64 at_, .int .i64 err] 48)).alloc (.cells #[.slice none 0 0, .int .i64 0, .int .i64 0] 48)) := ((Below.refl _ _).alloc (Nat.le_refl _) _).alloc (by simp) _
  have k0 : Blk ((w.alloc (.cells #[.slice A n c, .int .i64 at_, .int .i64 err] 48)).alloc (.cells #[.slice none 0 0, .int .i64 0, .int .i64 0] 48)) w.heap.size 48 [.slice A n c, .int .i64 at_, .int .i64 err] := (Blk.new _ _ _).alloc _
  have k1 : Blk ((w.alloc (.cells #[.slice A n c, .int .i64 at_, .int .i64 err] 48)).alloc (.cells #[.slice none 0 0, .int .i64 0, .int .i64 0] 48)) (w.heap.size + 1) 48 [.slice none 0 0, .int .i64 0, .int .i64 0] := by simpa using Blk.new (w.alloc (.cells #[.slice A n c, .int .i64 at_, .int .i64 err] 48)) 48 [.slice none 0 0, .int .i64 0, .int .i64 0]
  go_enter Try.func50, Try.ntmps50
  go_wp2_with fail
  refine (bytes2_any A n c at_ err most xs _ w.heap.size (by simp; omega) (hr.below hb0) HX.out hc (by omega) hb).mono ?_
  rintro en w1 ⟨A1, m1, c1, rfl, hr1, hm1, hc1, hb1⟩
  have j0 := k0.below hb1 (by simp; omega)
  have j1 := k1.below hb1 (by simp)
  have hbV := hb0.trans (hb1.mono (by simp; omega))
  have hrV := hr1.below (hb1.mono (by simp; omega))
  clear k0 k1 hb0 hb1 hr1 hr HX hb
  generalize hT : (sOf xs at_ err most 2) = T at *
  have HT := Lib.hid hT
  clear hT
  obtain ⟨c00, c01, c02, f00, f01, f02⟩ := j0.three
  obtain ⟨c10, c11, c12, f10, f11, f12⟩ := j1.three
  have l0 := ((j0.set_ 0 (.slice A n c)).set_ 1 (.int .i64 T.2.1)).set_ 2 (.int .i64 T.2.2)
  have l1 := ((j1.far (p := ⟨w.heap.size, 0, none⟩) (by simp) (.slice A n c)).far (p := ⟨w.heap.size, 1, none⟩) (by simp) (.int .i64 T.2.1)).far (p := ⟨w.heap.size, 2, none⟩) (by simp) (.int .i64 T.2.2)
  have hbW := below_set3 hbV (Nat.le_refl _) (.slice A n c) (.int .i64 T.2.1) (.int .i64 T.2.2)
  have hrW := ((hrV.setCell (p := ⟨w.heap.size, 0, none⟩) (Nat.le_refl _) (.slice A n c)).setCell (p := ⟨w.heap.size, 1, none⟩) (Nat.le_refl _) (.int .i64 T.2.1)).setCell (p := ⟨w.heap.size, 2, none⟩) (Nat.le_refl _) (.int .i64 T.2.2)
  clear j0 j1 hrV
  go_wp2_with fail
  clear c00 c01 c02 f00 f01 f02 c10 c11 c12 f10 f11 f12 hbV
  generalize ((w1.setCell ⟨w.heap.size, 0, none⟩ (.slice A n c)).setCell ⟨w.heap.size, 1, none⟩ (.int .i64 T.2.1)).setCell ⟨w.heap.size, 2, none⟩ (.int .i64 T.2.2) = W at *
  simp at l0
  have hl1 := l1.lt
  go_loopw [7, 8] (fun s i w2 => ∃ (k : Nat) (A2 : Option Addr) (n2 c2 : Nat), 2 * k ≤ m1 ∧ i = .int .i64 ((2 * k : Nat) : Int) ∧ s = .slice A2 n2 c2 ∧ Own w2 W.heap.size 3 (.slice A2 n2 c2) (cb .i64 (sPairs (T.1.take (2 * k)))) ∧ Below W.heap.size W w2) (fun _ i _ => m1 - (intOf i).toNat)
  case atStart => exact ⟨0, none, 0, 0, by omega, rfl, rfl, by simpa [sPairs, cb] using Own.nil _ _ _, Below.refl _ _⟩
  case round =>
    obtain ⟨k, A2, n2, c2, hk, rfl, rfl, hown2, hbel⟩ := hrel
    have hbs := hbel.size
    by_cases hlt : 2 * k + 1 < m1
    · have hkk := sPairs_snoc k T.1 (by omega)
      have hpl := sPairs_len k T.1 (by omega)
      obtain ⟨b, o, rfl, hbB, hrp⟩ := (hrW.below (hbel.mono (by omega))).pair (i := 2 * k) (by omega)
      have hx0 := hbt.get (i := 2 * k) (by omega)
      have hx1 := hbt.get (i := 2 * k + 1) (by omega)
      have hbp : Byt [T.1[2 * k], T.1[2 * k + 1]] := by intro u hu; simp at hu; rcases hu with rfl | rfl <;> assumption
      have hS := sNum_two hx0 hx1
      have hWR : IntKind.i64.wrap (sNum [T.1[2 * k], T.1[2 * k + 1]]) = sNum [T.1[2 * k], T.1[2 * k + 1]] := IntWalk.i64_in _ (by omega)
      go_wp2_with (first | (go_at_call 86; refine (number_any _ _ _ _ _ _ hrp rfl hbp (by simp)).mono ?_; rintro e w' ⟨rfl, rfl⟩) | (go_at_call 82; refine (wrap_any _ _).mono ?_; rintro e w' ⟨rfl, rfl⟩) | (at_builtin; refine wp_app elemI64 rfl _ _ rfl rfl (hown2.alloc _) rfl (Rd.new _ [_] _) rfl (one1 _ _) (by simp [hpl]; omega) (by simp [hpl]; omega) (by simp; omega) ?_; intro A3 n3 c3 w3 hown3 hg3))
      go_roundw
      case rel => exact ⟨k + 1, A3, n3, c3, by omega, by go_num, rfl, by rw [show 2 * (k + 1) = 2 * k + 2 by omega, hkk, cb_append]; exact hown3, below_own (hbel.alloc hbs _) hg3 (hown2.alloc _) (Nat.le_refl _) (by simp; omega)⟩
      case measure => simp [intOf]; omega
    · rw [sPairs_all k T.1 (by omega)] at hown2
      have j0 := l0.below hbel l0.lt
      have j1 := l1.below hbel l1.lt
      obtain ⟨c00, c01, c02, f00, f01, f02⟩ := j0.three
      obtain ⟨c10, c11, c12, f10, f11, f12⟩ := j1.three
      go_wp2_with fail
      go_region
      go_wp2
      refine bodyPost_ret (v := .tuple #[.slice A2 n2 c2, .agg #[.slice A n c, .int .i64 T.2.1, .int .i64 T.2.2]]) (by simp [results, Try.results50, go_sem, c10, c11, c12]) rfl ⟨A2, n2, c2, by rw [HT.out], ?_, ?_⟩
      · rw [HT.out]; exact (hown2.set3 hl1 _ _ _).less hbW.size
      · exact (below_set3 (hbW.trans (hbel.mono hbW.size)) (Nat.le_succ _) _ _ _).drew
end Go.Proofs.Ytjloemlnejndmaa
