/- The contracts of wire.bytes. Printed by gen_lists.py. -/
import Derived.Test.YtljebpbjjfnmkaaWireS
import Derived.Test.YtljebpbjjfnmkaaWireSpec2
namespace Go.Proofs.Ytljebpbjjfnmkaa
open Go.RowKit Go.IntWalk
set_option maxRecDepth 100000
set_option linter.unusedVariables false

set_option maxHeartbeats 800000 in
theorem bytes1_any (A : Option Addr) (n c : Nat) (at_ err most : Int) (xs : List Int) (w : World) (B : Nat) (hB : B ≤ w.heap.size) (hr : Rd w B A (cb .u8 xs)) (hx : n = xs.length) (hc : n ≤ c) (hn : n ≤ 1000000000) (hb : Byt xs) :
    Calls Try.prog 45 #[.agg #[.slice A n c, .int .i64 at_, .int .i64 err], .int .i64 most, .int .i64 1] w fun en w' => ∃ A' m' c', en = .returned (.tuple #[.slice A' m' c', .agg #[.slice A n c, .int .i64 (sOf xs at_ err most 1).2.1, .int .i64 (sOf xs at_ err most 1).2.2]]) ∧ Rd w B A' (cb .u8 (sOf xs at_ err most 1).1) ∧ m' = (sOf xs at_ err most 1).1.length ∧ m' ≤ c' ∧ Below w.heap.size w w' := by
  have HX := Lib.hid hx
  clear hx
  have hb0 : Below w.heap.size w ((w.alloc (.cells #[.slice A n c, .int .i64 at_, .int .i64 err] 37)).alloc (.cells #[.slice none 0 0, .int .i64 0, .int .i64 0] 37)) := ((Below.refl _ _).alloc (Nat.le_refl _) _).alloc (by simp) _
  have k0 : Blk ((w.alloc (.cells #[.slice A n c, .int .i64 at_, .int .i64 err] 37)).alloc (.cells #[.slice none 0 0, .int .i64 0, .int .i64 0] 37)) w.heap.size 37 [.slice A n c, .int .i64 at_, .int .i64 err] := (Blk.new _ _ _).alloc _
  have k1 : Blk ((w.alloc (.cells #[.slice A n c, .int .i64 at_, .int .i64 err] 37)).alloc (.cells #[.slice none 0 0, .int .i64 0, .int .i64 0] 37)) (w.heap.size + 1) 37 [.slice none 0 0, .int .i64 0, .int .i64 0] := by simpa using Blk.new (w.alloc (.cells #[.slice A n c, .int .i64 at_, .int .i64 err] 37)) 37 [.slice none 0 0, .int .i64 0, .int .i64 0]
  obtain ⟨hm0, hm1⟩ := sTS_bound xs hb at_ err most
  go_enter Try.func45, Try.ntmps45
  go_wp2_with fail
  refine (takeSize_any A n c at_ err most xs _ (((hr.more hB).below hb0).more (by simp; omega)) HX.out hc hn hb).mono ?_
  rintro en w1 ⟨rfl, hb1⟩
  have j0 := (k0.below hb1 (by simp; omega)).alloc (.cells #[.slice A n c, .int .i64 (sTS xs at_ err most).2.1, .int .i64 (sTS xs at_ err most).2.2] 37)
  have j1 := (k1.below hb1 (by simp)).alloc (.cells #[.slice A n c, .int .i64 (sTS xs at_ err most).2.1, .int .i64 (sTS xs at_ err most).2.2] 37)
  have j2 : Blk (w1.alloc (.cells #[.slice A n c, .int .i64 (sTS xs at_ err most).2.1, .int .i64 (sTS xs at_ err most).2.2] 37)) w1.heap.size 37 [.slice A n c, .int .i64 (sTS xs at_ err most).2.1, .int .i64 (sTS xs at_ err most).2.2] := Blk.new _ _ _
  have hbV := hb0.trans (hb1.mono (by simp; omega))
  have hbW := hbV.alloc hbV.size (.cells #[.slice A n c, .int .i64 (sTS xs at_ err most).2.1, .int .i64 (sTS xs at_ err most).2.2] 37)
  have hlt1 := Lib.hid k1.lt
  have hsz1 := Lib.hid hb1.size
  clear k0 k1 hb0 hb1
  go_wp2_with fail
  obtain ⟨N, hN⟩ := Int.eq_ofNat_of_zero_le hm0
  obtain ⟨L, hL⟩ : ∃ L : Nat, (sTS xs at_ err most).1.toNat * 1 = L := ⟨_, rfl⟩
  have hmul : (sTS xs at_ err most).1 = (L : Int) := by omega
  rw [hmul]
  refine (take_any A n c _ _ L xs _ B (hr.below (hbW.mono hB)) HX.out hc hn (by omega)).mono ?_
  clear hN hmul hm0 hm1
  have HL := Lib.hid hL
  clear hL
  generalize hT : (sTk xs (sTS xs at_ err most).2.1 (sTS xs at_ err most).2.2 L) = T
  have HT := Lib.hid hT
  clear hT
  rintro en w2 ⟨A2, m2, c2, rfl, hr2, hm2, hc2, hb2⟩
  have HM := Lib.hid hm2
  clear hm2
  have l0 := j0.below hb2 j0.lt
  have l1 := j1.below hb2 j1.lt
  have l2 := j2.below hb2 j2.lt
  have hbX := hbW.trans (hb2.mono hbW.size)
  obtain ⟨c00, c01, c02, f00, f01, f02⟩ := l0.three
  obtain ⟨c10, c11, c12, f10, f11, f12⟩ := l1.three
  obtain ⟨c20, c21, c22, f20, f21, f22⟩ := l2.three
  have hR2 : Rd w B A2 (cb .u8 T.1) := hr2.keep fun b o hbo => (hbW.cell (p := ⟨b, o, none⟩) (by simp; omega)).symm
  have hne0 : w1.heap.size ≠ w.heap.size := by have := hlt1.out; have := hsz1.out; simp at *; omega
  have hne1 : w1.heap.size ≠ w.heap.size + 1 := by have := hlt1.out; have := hsz1.out; simp at *; omega
  have hne0' := hne0.symm
  have hne1' := hne1.symm
  have hle : w.heap.size ≤ w1.heap.size := hbV.size
  clear j0 j1 j2 l0 l1 l2 hb2 hr2 hbW hbV
  by_cases he : T.2.2 = 0
  · have HS : Hid (sOf xs at_ err most 1 = T) := by unfold Hid sOf; rw [HL.out, HT.out, if_pos he]
    have he' : (T.2.2 != 0) = false := by simpa using he
    have HE := Lib.hid he
    clear he
    go_wp2_with fail
    go_region
    go_wp2
    refine bodyPost_ret (v := .tuple #[.slice A2 m2 c2, .agg #[.slice A n c, .int .i64 T.2.1, .int .i64 T.2.2]]) (by simp [results, Try.results45, go_sem, c10, c11, c12]) rfl ⟨A2, m2, c2, by rw [HS.out], ?_, by rw [HS.out]; exact HM.out, hc2, ?_⟩
    · rw [HS.out]; exact hR2.keep fun b o hbo => rfl
    · exact (below_set3 (below_set3 hbX hle _ _ _) (Nat.le_succ _) _ _ _).drew
  · have HS : Hid (sOf xs at_ err most 1 = ([], at_, T.2.2)) := by unfold Hid sOf; rw [HL.out, HT.out, if_neg he]
    have he' : (T.2.2 != 0) = true := by simpa using he
    clear he
    go_wp2_with fail
    go_region
    go_wp2
    refine bodyPost_ret (v := .tuple #[.slice none 0 0, .agg #[.slice A n c, .int .i64 at_, .int .i64 T.2.2]]) (by simp [results, Try.results45, go_sem, c10, c11, c12]) rfl ⟨none, 0, 0, by rw [HS.out], ?_, by rw [HS.out]; rfl, Nat.le_refl _, ?_⟩
    · rw [HS.out]; exact Rd.nil _ _ _
    · exact (below_set3 ((below_set3 hbX hle _ _ _).setCell (p := ⟨w.heap.size, 2, none⟩) (Nat.le_refl _) _) (Nat.le_succ _) _ _ _).drew

set_option maxHeartbeats 800000 in
theorem bytes2_any (A : Option Addr) (n c : Nat) (at_ err most : Int) (xs : List Int) (w : World) (B : Nat) (hB : B ≤ w.heap.size) (hr : Rd w B A (cb .u8 xs)) (hx : n = xs.length) (hc : n ≤ c) (hn : n ≤ 1000000000) (hb : Byt xs) :
    Calls Try.prog 45 #[.agg #[.slice A n c, .int .i64 at_, .int .i64 err], .int .i64 most, .int .i64 2] w fun en w' => ∃ A' m' c', en = .returned (.tuple #[.slice A' m' c', .agg #[.slice A n c, .int .i64 (sOf xs at_ err most 2).2.1, .int .i64 (sOf xs at_ err most 2).2.2]]) ∧ Rd w B A' (cb .u8 (sOf xs at_ err most 2).1) ∧ m' = (sOf xs at_ err most 2).1.length ∧ m' ≤ c' ∧ Below w.heap.size w w' := by
  have HX := Lib.hid hx
  clear hx
  have hb0 : Below w.heap.size w ((w.alloc (.cells #[.slice A n c, .int .i64 at_, .int .i64 err] 37)).alloc (.cells #[.slice none 0 0, .int .i64 0, .int .i64 0] 37)) := ((Below.refl _ _).alloc (Nat.le_refl _) _).alloc (by simp) _
  have k0 : Blk ((w.alloc (.cells #[.slice A n c, .int .i64 at_, .int .i64 err] 37)).alloc (.cells #[.slice none 0 0, .int .i64 0, .int .i64 0] 37)) w.heap.size 37 [.slice A n c, .int .i64 at_, .int .i64 err] := (Blk.new _ _ _).alloc _
  have k1 : Blk ((w.alloc (.cells #[.slice A n c, .int .i64 at_, .int .i64 err] 37)).alloc (.cells #[.slice none 0 0, .int .i64 0, .int .i64 0] 37)) (w.heap.size + 1) 37 [.slice none 0 0, .int .i64 0, .int .i64 0] := by simpa using Blk.new (w.alloc (.cells #[.slice A n c, .int .i64 at_, .int .i64 err] 37)) 37 [.slice none 0 0, .int .i64 0, .int .i64 0]
  obtain ⟨hm0, hm1⟩ := sTS_bound xs hb at_ err most
  go_enter Try.func45, Try.ntmps45
  go_wp2_with fail
  refine (takeSize_any A n c at_ err most xs _ (((hr.more hB).below hb0).more (by simp; omega)) HX.out hc hn hb).mono ?_
  rintro en w1 ⟨rfl, hb1⟩
  have j0 := (k0.below hb1 (by simp; omega)).alloc (.cells #[.slice A n c, .int .i64 (sTS xs at_ err most).2.1, .int .i64 (sTS xs at_ err most).2.2] 37)
  have j1 := (k1.below hb1 (by simp)).alloc (.cells #[.slice A n c, .int .i64 (sTS xs at_ err most).2.1, .int .i64 (sTS xs at_ err most).2.2] 37)
  have j2 : Blk (w1.alloc (.cells #[.slice A n c, .int .i64 (sTS xs at_ err most).2.1, .int .i64 (sTS xs at_ err most).2.2] 37)) w1.heap.size 37 [.slice A n c, .int .i64 (sTS xs at_ err most).2.1, .int .i64 (sTS xs at_ err most).2.2] := Blk.new _ _ _
  have hbV := hb0.trans (hb1.mono (by simp; omega))
  have hbW := hbV.alloc hbV.size (.cells #[.slice A n c, .int .i64 (sTS xs at_ err most).2.1, .int .i64 (sTS xs at_ err most).2.2] 37)
  have hlt1 := Lib.hid k1.lt
  have hsz1 := Lib.hid hb1.size
  clear k0 k1 hb0 hb1
  go_wp2_with fail
  obtain ⟨N, hN⟩ := Int.eq_ofNat_of_zero_le hm0
  obtain ⟨L, hL⟩ : ∃ L : Nat, (sTS xs at_ err most).1.toNat * 2 = L := ⟨_, rfl⟩
  have hmul : (sTS xs at_ err most).1 * 2 = (L : Int) := by omega
  rw [hmul]
  refine (take_any A n c _ _ L xs _ B (hr.below (hbW.mono hB)) HX.out hc hn (by omega)).mono ?_
  clear hN hmul hm0 hm1
  have HL := Lib.hid hL
  clear hL
  generalize hT : (sTk xs (sTS xs at_ err most).2.1 (sTS xs at_ err most).2.2 L) = T
  have HT := Lib.hid hT
  clear hT
  rintro en w2 ⟨A2, m2, c2, rfl, hr2, hm2, hc2, hb2⟩
  have HM := Lib.hid hm2
  clear hm2
  have l0 := j0.below hb2 j0.lt
  have l1 := j1.below hb2 j1.lt
  have l2 := j2.below hb2 j2.lt
  have hbX := hbW.trans (hb2.mono hbW.size)
  obtain ⟨c00, c01, c02, f00, f01, f02⟩ := l0.three
  obtain ⟨c10, c11, c12, f10, f11, f12⟩ := l1.three
  obtain ⟨c20, c21, c22, f20, f21, f22⟩ := l2.three
  have hR2 : Rd w B A2 (cb .u8 T.1) := hr2.keep fun b o hbo => (hbW.cell (p := ⟨b, o, none⟩) (by simp; omega)).symm
  have hne0 : w1.heap.size ≠ w.heap.size := by have := hlt1.out; have := hsz1.out; simp at *; omega
  have hne1 : w1.heap.size ≠ w.heap.size + 1 := by have := hlt1.out; have := hsz1.out; simp at *; omega
  have hne0' := hne0.symm
  have hne1' := hne1.symm
  have hle : w.heap.size ≤ w1.heap.size := hbV.size
  clear j0 j1 j2 l0 l1 l2 hb2 hr2 hbW hbV
  by_cases he : T.2.2 = 0
  · have HS : Hid (sOf xs at_ err most 2 = T) := by unfold Hid sOf; rw [HL.out, HT.out, if_pos he]
    have he' : (T.2.2 != 0) = false := by simpa using he
    have HE := Lib.hid he
    clear he
    go_wp2_with fail
    go_region
    go_wp2
    refine bodyPost_ret (v := .tuple #[.slice A2 m2 c2, .agg #[.slice A n c, .int .i64 T.2.1, .int .i64 T.2.2]]) (by simp [results, Try.results45, go_sem, c10, c11, c12]) rfl ⟨A2, m2, c2, by rw [HS.out], ?_, by rw [HS.out]; exact HM.out, hc2, ?_⟩
    · rw [HS.out]; exact hR2.keep fun b o hbo => rfl
    · exact (below_set3 (below_set3 hbX hle _ _ _) (Nat.le_succ _) _ _ _).drew
  · have HS : Hid (sOf xs at_ err most 2 = ([], at_, T.2.2)) := by unfold Hid sOf; rw [HL.out, HT.out, if_neg he]
    have he' : (T.2.2 != 0) = true := by simpa using he
    clear he
    go_wp2_with fail
    go_region
    go_wp2
    refine bodyPost_ret (v := .tuple #[.slice none 0 0, .agg #[.slice A n c, .int .i64 at_, .int .i64 T.2.2]]) (by simp [results, Try.results45, go_sem, c10, c11, c12]) rfl ⟨none, 0, 0, by rw [HS.out], ?_, by rw [HS.out]; rfl, Nat.le_refl _, ?_⟩
    · rw [HS.out]; exact Rd.nil _ _ _
    · exact (below_set3 ((below_set3 hbX hle _ _ _).setCell (p := ⟨w.heap.size, 2, none⟩) (Nat.le_refl _) _) (Nat.le_succ _) _ _ _).drew
end Go.Proofs.Ytljebpbjjfnmkaa
