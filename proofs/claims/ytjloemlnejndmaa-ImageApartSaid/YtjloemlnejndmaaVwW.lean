/- The contract of clewref02.TakeSize. Printed by gen_rts.py. -/
import Derived.Test.YtjloemlnejndmaaVwQ
namespace Go.Proofs.Ytjloemlnejndmaa
open Go.RowKit Go.IntWalk
set_option maxRecDepth 100000
set_option linter.unusedVariables false

theorem sLacks_step (n : Nat) (at_ : Int) (k : Nat) (h : 0 ≤ at_ ∨ k = 0) : sLacks n at_ ((k : Int) + 1) ↔ sLacks n (at_ + k) 1 := by
  unfold sLacks; omega
set_option maxHeartbeats 4000000 in
theorem rtakeSize_any (A : Option Addr) (n c : Nat) (at_ err most : Int) (xs : List Int) (w : World) (hr : Rd w w.heap.size A (cb .u8 xs)) (hx : n = xs.length) (hn : n ≤ 1000000000) (hb : Byt xs) :
    Calls Try.prog 69 #[.agg #[.slice A n c, .int .i64 at_, .int .i64 err], .int .i64 most] w fun e w' => e = .returned (.tuple #[.int .i64 (sTS xs at_ err most).1, .agg #[.slice A n c, .int .i64 (sTS xs at_ err most).2.1, .int .i64 (sTS xs at_ err most).2.2]]) ∧ Below w.heap.size w w' := by
  subst hx
  by_cases he : err = 0
  · subst he
    go_enter Try.func69, Try.ntmps69
    go_wp2_with fail
    go_loopw [6, 7, 8] (fun sn su sk w2 => ∃ (k : Nat) (m U : Int), sk = .int .i64 k ∧ sn = .int .i64 m ∧ su = .int .i64 U ∧ Blk w2 w.heap.size 48 [.slice A xs.length c, .int .i64 at_, .int .i64 0] ∧ Blk w2 (w.heap.size + 1) 48 [.slice none 0 0, .int .i64 0, .int .i64 0] ∧ Below w.heap.size w w2 ∧ k ≤ 5 ∧ 0 ≤ m ∧ Hid (m < 128 ^ k) ∧ Hid (U = 128 ^ k) ∧ (0 ≤ at_ ∨ k = 0) ∧ Hid (sTS xs at_ 0 most = sGrp xs at_ most (6 - k) k m)) (fun _ _ sk _ => 6 - (intOf sk).toNat)
    case atStart =>
      refine ⟨0, 0, 1, rfl, rfl, rfl, (Blk.new _ _ _).alloc _, ?_, ((Below.refl _ _).alloc (Nat.le_refl _) _).alloc (by simp) _, by omega, by omega, by unfold Hid; decide, by unfold Hid; decide, .inr rfl, by unfold Hid sTS; simp⟩
      simpa using Blk.new (w.alloc (.cells #[.slice A xs.length c, .int .i64 at_, .int .i64 0] 48)) 48 [.slice none 0 0, .int .i64 0, .int .i64 0]
    case round =>
      obtain ⟨k, m, U, rfl, rfl, rfl, k0, k1, hbel, hk, hm0, hm1, hU, hpos, hspec⟩ := hrel
      obtain ⟨c00, c01, c02, f00, f01, f02⟩ := k0.three
      have hstep := sLacks_step xs.length at_ k hpos
      by_cases hlk : sLacks xs.length (at_ + k) 1
      · have hsp : Hid (sTS xs at_ 0 most = (0, at_, 2)) := by
          unfold Hid
          rw [hspec.out]
          obtain ⟨f, hf⟩ : ∃ f, 6 - k = f + 1 := ⟨5 - k, by omega⟩
          rw [hf, sGrp, if_pos hlk]
        have hlk' := hstep.2 hlk
        clear hspec hm1 hU hstep hlk
        have HL := Lib.hid hlk'
        clear hlk'
        by_cases h5 : k < 5
        · go_wp2_with fail
          refine (rlacks_yes A _ c at_ 0 (k + 1) wr hn (by omega) (by omega) HL.out).mono ?_
          rintro e w1 ⟨rfl, hb1⟩
          have j0 := k0.below hb1 k0.lt
          have j1 := k1.below hb1 k1.lt
          obtain ⟨d00, d01, d02, e00, e01, e02⟩ := j0.three
          have hbW := hbel.trans (hb1.mono hbel.size)
          go_wp2_with fail
          refine (rfail_any A _ c at_ 0 2 _).mono ?_
          rintro e w2 ⟨rfl, hb2⟩
          have l1 := j1.below hb2 j1.lt
          obtain ⟨d10, d11, d12, e10, e11, e12⟩ := l1.three
          go_wp2
          refine bodyPost_ret (v := .tuple #[.int .i64 0, .agg #[.slice A xs.length c, .int .i64 at_, .int .i64 2]]) (by simp [results, Try.results69, go_sem, d10, d11, d12]) rfl ⟨by rw [hsp.out], ?_⟩
          exact below_set3 (hbW.trans (hb2.mono hbW.size)) (Nat.le_succ _) _ _ _
        · obtain rfl : k = 5 := by omega
          go_wp2_with fail
          refine (rlacks_yes A _ c at_ 0 6 wr hn (by omega) (by omega) HL.out).mono ?_
          rintro e w1 ⟨rfl, hb1⟩
          have j0 := k0.below hb1 k0.lt
          have j1 := k1.below hb1 k1.lt
          obtain ⟨d00, d01, d02, e00, e01, e02⟩ := j0.three
          have hbW := hbel.trans (hb1.mono hbel.size)
          go_wp2_with fail
          refine (rfail_any A _ c at_ 0 2 _).mono ?_
          rintro e w2 ⟨rfl, hb2⟩
          have l1 := j1.below hb2 j1.lt
          obtain ⟨d10, d11, d12, e10, e11, e12⟩ := l1.three
          go_wp2
          refine bodyPost_ret (v := .tuple #[.int .i64 0, .agg #[.slice A xs.length c, .int .i64 at_, .int .i64 2]]) (by simp [results, Try.results69, go_sem, d10, d11, d12]) rfl ⟨by rw [hsp.out], ?_⟩
          exact below_set3 (hbW.trans (hb2.mono hbW.size)) (Nat.le_succ _) _ _ _
      · have hpos' : 0 ≤ at_ ∧ at_ + k < xs.length := by unfold sLacks at hlk; omega
        obtain ⟨t, rfl⟩ := Int.eq_ofNat_of_zero_le hpos'.1
        have hidx : t + k < xs.length := by omega
        have hx := hb.get hidx
        have hgd : xs.getD ((t : Int) + k).toNat 0 = xs[t + k] := by rw [show ((t : Int) + k).toNat = t + k from by omega]; simp [List.getD, List.getElem?_eq_getElem hidx]
        have hsp : Hid (sTS xs t 0 most = if k = 5 ∨ (0 < k ∧ xs[t + k] = 0) then (0, (t : Int), 4)
            else if xs[t + k] < 128 then (if most < m + xs[t + k] % 128 * 128 ^ k then (0, (t : Int), 5) else (m + xs[t + k] % 128 * 128 ^ k, (t : Int) + k + 1, 0))
            else sGrp xs t most (6 - (k + 1)) (k + 1) (m + xs[t + k] % 128 * 128 ^ k)) := by
          unfold Hid
          rw [hspec.out]
          obtain ⟨f, hf⟩ : ∃ f, 6 - k = f + 1 := ⟨5 - k, by omega⟩
          have hf' : 6 - (k + 1) = f := by omega
          rw [hf, hf', sGrp, if_neg hlk, hgd]
        have hlk' : ¬ sLacks xs.length t ((k : Int) + 1) := fun h => hlk (hstep.1 h)
        obtain ⟨b, o, hA, hlt', hcx⟩ := hr.num hidx
        subst hA
        clear hspec hlk hgd hstep hpos hpos'
        generalize xs[t + k] = x at *
        obtain ⟨hx0, hx1⟩ := hx
        have HL := Lib.hid hlk'
        have HCX := Lib.hid hcx
        clear hlk' hcx
        by_cases h5 : k = 5
        · subst h5
          have hsp' : Hid (sTS xs t 0 most = (0, (t : Int), 4)) := by unfold Hid; rw [hsp.out]; simp
          clear hsp
          go_wp2_with fail
          refine (rlacks_no (some ⟨b, o, none⟩) _ c t 0 6 wr hn (by omega) HL.out).mono ?_
          rintro e w1 ⟨rfl, hb1⟩
          have j0 := k0.below hb1 k0.lt
          have j1 := k1.below hb1 k1.lt
          obtain ⟨d00, d01, d02, e00, e01, e02⟩ := j0.three
          have hbW := hbel.trans (hb1.mono hbel.size)
          go_wp2_with fail
          refine (rfail_any (some ⟨b, o, none⟩) _ c t 0 4 _).mono ?_
          rintro e w2 ⟨rfl, hb2⟩
          have l1 := j1.below hb2 j1.lt
          obtain ⟨d10, d11, d12, e10, e11, e12⟩ := l1.three
          go_wp2
          refine bodyPost_ret (v := .tuple #[.int .i64 0, .agg #[.slice (some ⟨b, o, none⟩) xs.length c, .int .i64 t, .int .i64 4]]) (by simp [results, Try.results69, go_sem, d10, d11, d12]) rfl ⟨by rw [hsp'.out], ?_⟩
          exact below_set3 (hbW.trans (hb2.mono hbW.size)) (Nat.le_succ _) _ _ _
        · rcases (show k = 0 ∨ k = 1 ∨ k = 2 ∨ k = 3 ∨ k = 4 by omega) with rfl | rfl | rfl | rfl | rfl
          · obtain rfl : U = 1 := by rw [hU.out]; decide
            have hP : (128 : Int) ^ 0 = 1 := by decide
            rw [hP] at hsp
            rw [Int.mul_one] at hsp
            have HM1 : m < 1 := by have := hm1.out; rw [hP] at this; exact this
            have hcx2 : wr.cell? ⟨b, o + (t + 0), none⟩ = some (.int .u8 x) := (hbel.cell (p := ⟨b, o + (t + 0), none⟩) hlt').trans HCX.out
            go_wp2_with fail
            refine (rlacks_no (some ⟨b, o, none⟩) _ c t 0 1 wr hn (by omega) HL.out).mono ?_
            rintro e w1 ⟨rfl, hb1⟩
            have j0 := k0.below hb1 k0.lt
            have j1 := k1.below hb1 k1.lt
            obtain ⟨d00, d01, d02, e00, e01, e02⟩ := j0.three
            obtain ⟨d10, d11, d12, e10, e11, e12⟩ := j1.three
            have hbW := hbel.trans (hb1.mono hbel.size)
            have hcx3 : w1.cell? ⟨b, o + t, none⟩ = some (.int .u8 x) := (hbW.cell (p := ⟨b, o + t, none⟩) hlt').trans HCX.out
            clear hcx2 k0 k1 hb1 c00 c01 c02 f00 f01 f02 hbel
            have HZ : Hid (¬ (0 = 5 ∨ (0 < 0 ∧ x = 0))) := by unfold Hid; omega
            by_cases hz : x = 0
            · have hxz : (x == 0) = true := by simpa using hz
              have HZ0 := Lib.hid hz
              clear hz
              by_cases hlt : x < 128
              · by_cases hmost : most < m + x % 128
                · have hsp' : Hid (sTS xs t 0 most = (0, (t : Int), 5)) := by unfold Hid; rw [hsp.out, if_neg HZ.out, if_pos hlt, if_pos hmost]
                  clear hsp
                  go_wp2_with fail
                  refine (rfail_any (some ⟨b, o, none⟩) _ c t 0 5 _).mono ?_
                  rintro e w2 ⟨rfl, hb2⟩
                  have l1 := j1.below hb2 j1.lt
                  obtain ⟨d10, d11, d12, e10, e11, e12⟩ := l1.three
                  go_wp2
                  refine bodyPost_ret (v := .tuple #[.int .i64 0, .agg #[.slice (some ⟨b, o, none⟩) xs.length c, .int .i64 t, .int .i64 5]]) (by simp [results, Try.results69, go_sem, d10, d11, d12]) rfl ⟨by rw [hsp'.out], ?_⟩
                  exact below_set3 (hbW.trans (hb2.mono hbW.size)) (Nat.le_succ _) _ _ _
                · have hsp' : Hid (sTS xs t 0 most = (m + x % 128, (t : Int) + 0 + 1, 0)) := by unfold Hid; rw [hsp.out, if_neg HZ.out, if_pos hlt, if_neg hmost]; simp
                  clear hsp
                  go_wp2_with fail
                  go_region
                  go_wp2
                  refine bodyPost_ret (v := .tuple #[.int .i64 (m + x % 128), .agg #[.slice (some ⟨b, o, none⟩) xs.length c, .int .i64 ((t : Int) + 1), .int .i64 0]]) (by simp [results, Try.results69, go_sem, d10, d11, d12]) rfl ⟨by rw [hsp'.out]; simp, ?_⟩
                  exact (below_set3 (hbW.setCell (p := ⟨w.heap.size, 1, none⟩) (Nat.le_refl _) _) (Nat.le_succ _) _ _ _).drew
              · exact absurd HZ0.out (by omega)
            · have hxz : (x == 0) = false := by simpa using hz
              clear hz
              by_cases hlt : x < 128
              · by_cases hmost : most < m + x % 128
                · have hsp' : Hid (sTS xs t 0 most = (0, (t : Int), 5)) := by unfold Hid; rw [hsp.out, if_neg HZ.out, if_pos hlt, if_pos hmost]
                  clear hsp
                  go_wp2_with fail
                  refine (rfail_any (some ⟨b, o, none⟩) _ c t 0 5 _).mono ?_
                  rintro e w2 ⟨rfl, hb2⟩
                  have l1 := j1.below hb2 j1.lt
                  obtain ⟨d10, d11, d12, e10, e11, e12⟩ := l1.three
                  go_wp2
                  refine bodyPost_ret (v := .tuple #[.int .i64 0, .agg #[.slice (some ⟨b, o, none⟩) xs.length c, .int .i64 t, .int .i64 5]]) (by simp [results, Try.results69, go_sem, d10, d11, d12]) rfl ⟨by rw [hsp'.out], ?_⟩
                  exact below_set3 (hbW.trans (hb2.mono hbW.size)) (Nat.le_succ _) _ _ _
                · have hsp' : Hid (sTS xs t 0 most = (m + x % 128, (t : Int) + 0 + 1, 0)) := by unfold Hid; rw [hsp.out, if_neg HZ.out, if_pos hlt, if_neg hmost]; simp
                  clear hsp
                  go_wp2_with fail
                  go_region
                  go_wp2
                  refine bodyPost_ret (v := .tuple #[.int .i64 (m + x % 128), .agg #[.slice (some ⟨b, o, none⟩) xs.length c, .int .i64 ((t : Int) + 1), .int .i64 0]]) (by simp [results, Try.results69, go_sem, d10, d11, d12]) rfl ⟨by rw [hsp'.out]; simp, ?_⟩
                  exact (below_set3 (hbW.setCell (p := ⟨w.heap.size, 1, none⟩) (Nat.le_refl _) _) (Nat.le_succ _) _ _ _).drew
              · have hsp' : Hid (sTS xs t 0 most = sGrp xs t most (6 - 1) 1 (m + x % 128)) := by unfold Hid; rw [hsp.out, if_neg HZ.out, if_neg hlt]
                clear hsp
                go_wp2_with fail
                go_roundw
                case rel =>
                  refine ⟨1, m + x % 128, 128, rfl, rfl, rfl, j0, j1, hbW, by omega, by omega, ?_, by unfold Hid; decide, by omega, hsp'⟩
                  have hQ : (128 : Int) ^ 1 = 128 := by decide
                  unfold Hid; omega
                case measure => simp [intOf]
          · obtain rfl : U = 128 := by rw [hU.out]; decide
            have hP : (128 : Int) ^ 1 = 128 := by decide
            rw [hP] at hsp
            have HM1 : m < 128 := by have := hm1.out; rw [hP] at this; exact this
            have hcx2 : wr.cell? ⟨b, o + (t + 1), none⟩ = some (.int .u8 x) := (hbel.cell (p := ⟨b, o + (t + 1), none⟩) hlt').trans HCX.out
            go_wp2_with fail
            refine (rlacks_no (some ⟨b, o, none⟩) _ c t 0 2 wr hn (by omega) HL.out).mono ?_
            rintro e w1 ⟨rfl, hb1⟩
            have j0 := k0.below hb1 k0.lt
            have j1 := k1.below hb1 k1.lt
            obtain ⟨d00, d01, d02, e00, e01, e02⟩ := j0.three
            obtain ⟨d10, d11, d12, e10, e11, e12⟩ := j1.three
            have hbW := hbel.trans (hb1.mono hbel.size)
            have hcx3 : w1.cell? ⟨b, o + (t + 1), none⟩ = some (.int .u8 x) := (hbW.cell (p := ⟨b, o + (t + 1), none⟩) hlt').trans HCX.out
            clear hcx2 k0 k1 hb1 c00 c01 c02 f00 f01 f02 hbel
            by_cases hz : x = 0
            · have hsp' : Hid (sTS xs t 0 most = (0, (t : Int), 4)) := by unfold Hid; rw [hsp.out]; simp [hz]
              subst hz
              clear hsp
              go_wp2_with fail
              refine (rfail_any (some ⟨b, o, none⟩) _ c t 0 4 _).mono ?_
              rintro e w2 ⟨rfl, hb2⟩
              have l1 := j1.below hb2 j1.lt
              obtain ⟨d10, d11, d12, e10, e11, e12⟩ := l1.three
              go_wp2
              refine bodyPost_ret (v := .tuple #[.int .i64 0, .agg #[.slice (some ⟨b, o, none⟩) xs.length c, .int .i64 t, .int .i64 4]]) (by simp [results, Try.results69, go_sem, d10, d11, d12]) rfl ⟨by rw [hsp'.out], ?_⟩
              exact below_set3 (hbW.trans (hb2.mono hbW.size)) (Nat.le_succ _) _ _ _
            have hxz : (x == 0) = false := by simpa using hz
            have hz' : ¬ (1 = 5 ∨ (0 < 1 ∧ x = 0)) := by omega
            have HZ := Lib.hid hz'
            clear hz hz'
            by_cases hlt : x < 128
            · by_cases hmost : most < m + x % 128 * 128
              · have hsp' : Hid (sTS xs t 0 most = (0, (t : Int), 5)) := by unfold Hid; rw [hsp.out, if_neg HZ.out, if_pos hlt, if_pos hmost]
                clear hsp
                go_wp2_with fail
                refine (rfail_any (some ⟨b, o, none⟩) _ c t 0 5 _).mono ?_
                rintro e w2 ⟨rfl, hb2⟩
                have l1 := j1.below hb2 j1.lt
                obtain ⟨d10, d11, d12, e10, e11, e12⟩ := l1.three
                go_wp2
                refine bodyPost_ret (v := .tuple #[.int .i64 0, .agg #[.slice (some ⟨b, o, none⟩) xs.length c, .int .i64 t, .int .i64 5]]) (by simp [results, Try.results69, go_sem, d10, d11, d12]) rfl ⟨by rw [hsp'.out], ?_⟩
                exact below_set3 (hbW.trans (hb2.mono hbW.size)) (Nat.le_succ _) _ _ _
              · have hsp' : Hid (sTS xs t 0 most = (m + x % 128 * 128, (t : Int) + 1 + 1, 0)) := by unfold Hid; rw [hsp.out, if_neg HZ.out, if_pos hlt, if_neg hmost]; simp
                clear hsp
                go_wp2_with fail
                go_region
                go_wp2
                refine bodyPost_ret (v := .tuple #[.int .i64 (m + x % 128 * 128), .agg #[.slice (some ⟨b, o, none⟩) xs.length c, .int .i64 ((t : Int) + 1 + 1), .int .i64 0]]) (by simp [results, Try.results69, go_sem, d10, d11, d12]) rfl ⟨by rw [hsp'.out], ?_⟩
                exact (below_set3 (hbW.setCell (p := ⟨w.heap.size, 1, none⟩) (Nat.le_refl _) _) (Nat.le_succ _) _ _ _).drew
            · have hsp' : Hid (sTS xs t 0 most = sGrp xs t most (6 - 2) 2 (m + x % 128 * 128)) := by unfold Hid; rw [hsp.out, if_neg HZ.out, if_neg hlt]
              clear hsp
              go_wp2_with fail
              go_roundw
              case rel =>
                refine ⟨2, m + x % 128 * 128, 16384, rfl, rfl, rfl, j0, j1, hbW, by omega, by omega, ?_, by unfold Hid; decide, by omega, hsp'⟩
                have hQ : (128 : Int) ^ 2 = 16384 := by decide
                unfold Hid; omega
              case measure => simp [intOf]
          · obtain rfl : U = 16384 := by rw [hU.out]; decide
            have hP : (128 : Int) ^ 2 = 16384 := by decide
            rw [hP] at hsp
            have HM1 : m < 16384 := by have := hm1.out; rw [hP] at this; exact this
            have hcx2 : wr.cell? ⟨b, o + (t + 2), none⟩ = some (.int .u8 x) := (hbel.cell (p := ⟨b, o + (t + 2), none⟩) hlt').trans HCX.out
            go_wp2_with fail
            refine (rlacks_no (some ⟨b, o, none⟩) _ c t 0 3 wr hn (by omega) HL.out).mono ?_
            rintro e w1 ⟨rfl, hb1⟩
            have j0 := k0.below hb1 k0.lt
            have j1 := k1.below hb1 k1.lt
            obtain ⟨d00, d01, d02, e00, e01, e02⟩ := j0.three
            obtain ⟨d10, d11, d12, e10, e11, e12⟩ := j1.three
            have hbW := hbel.trans (hb1.mono hbel.size)
            have hcx3 : w1.cell? ⟨b, o + (t + 2), none⟩ = some (.int .u8 x) := (hbW.cell (p := ⟨b, o + (t + 2), none⟩) hlt').trans HCX.out
            clear hcx2 k0 k1 hb1 c00 c01 c02 f00 f01 f02 hbel
            by_cases hz : x = 0
            · have hsp' : Hid (sTS xs t 0 most = (0, (t : Int), 4)) := by unfold Hid; rw [hsp.out]; simp [hz]
              subst hz
              clear hsp
              go_wp2_with fail
              refine (rfail_any (some ⟨b, o, none⟩) _ c t 0 4 _).mono ?_
              rintro e w2 ⟨rfl, hb2⟩
              have l1 := j1.below hb2 j1.lt
              obtain ⟨d10, d11, d12, e10, e11, e12⟩ := l1.three
              go_wp2
              refine bodyPost_ret (v := .tuple #[.int .i64 0, .agg #[.slice (some ⟨b, o, none⟩) xs.length c, .int .i64 t, .int .i64 4]]) (by simp [results, Try.results69, go_sem, d10, d11, d12]) rfl ⟨by rw [hsp'.out], ?_⟩
              exact below_set3 (hbW.trans (hb2.mono hbW.size)) (Nat.le_succ _) _ _ _
            have hxz : (x == 0) = false := by simpa using hz
            have hz' : ¬ (2 = 5 ∨ (0 < 2 ∧ x = 0)) := by omega
            have HZ := Lib.hid hz'
            clear hz hz'
            by_cases hlt : x < 128
            · by_cases hmost : most < m + x % 128 * 16384
              · have hsp' : Hid (sTS xs t 0 most = (0, (t : Int), 5)) := by unfold Hid; rw [hsp.out, if_neg HZ.out, if_pos hlt, if_pos hmost]
                clear hsp
                go_wp2_with fail
                refine (rfail_any (some ⟨b, o, none⟩) _ c t 0 5 _).mono ?_
                rintro e w2 ⟨rfl, hb2⟩
                have l1 := j1.below hb2 j1.lt
                obtain ⟨d10, d11, d12, e10, e11, e12⟩ := l1.three
                go_wp2
                refine bodyPost_ret (v := .tuple #[.int .i64 0, .agg #[.slice (some ⟨b, o, none⟩) xs.length c, .int .i64 t, .int .i64 5]]) (by simp [results, Try.results69, go_sem, d10, d11, d12]) rfl ⟨by rw [hsp'.out], ?_⟩
                exact below_set3 (hbW.trans (hb2.mono hbW.size)) (Nat.le_succ _) _ _ _
              · have hsp' : Hid (sTS xs t 0 most = (m + x % 128 * 16384, (t : Int) + 2 + 1, 0)) := by unfold Hid; rw [hsp.out, if_neg HZ.out, if_pos hlt, if_neg hmost]; simp
                clear hsp
                go_wp2_with fail
                go_region
                go_wp2
                refine bodyPost_ret (v := .tuple #[.int .i64 (m + x % 128 * 16384), .agg #[.slice (some ⟨b, o, none⟩) xs.length c, .int .i64 ((t : Int) + 2 + 1), .int .i64 0]]) (by simp [results, Try.results69, go_sem, d10, d11, d12]) rfl ⟨by rw [hsp'.out], ?_⟩
                exact (below_set3 (hbW.setCell (p := ⟨w.heap.size, 1, none⟩) (Nat.le_refl _) _) (Nat.le_succ _) _ _ _).drew
            · have hsp' : Hid (sTS xs t 0 most = sGrp xs t most (6 - 3) 3 (m + x % 128 * 16384)) := by unfold Hid; rw [hsp.out, if_neg HZ.out, if_neg hlt]
              clear hsp
              go_wp2_with fail
              go_roundw
              case rel =>
                refine ⟨3, m + x % 128 * 16384, 2097152, rfl, rfl, rfl, j0, j1, hbW, by omega, by omega, ?_, by unfold Hid; decide, by omega, hsp'⟩
                have hQ : (128 : Int) ^ 3 = 2097152 := by decide
                unfold Hid; omega
              case measure => simp [intOf]
          · obtain rfl : U = 2097152 := by rw [hU.out]; decide
            have hP : (128 : Int) ^ 3 = 2097152 := by decide
            rw [hP] at hsp
            have HM1 : m < 2097152 := by have := hm1.out; rw [hP] at this; exact this
            have hcx2 : wr.cell? ⟨b, o + (t + 3), none⟩ = some (.int .u8 x) := (hbel.cell (p := ⟨b, o + (t + 3), none⟩) hlt').trans HCX.out
            go_wp2_with fail
            refine (rlacks_no (some ⟨b, o, none⟩) _ c t 0 4 wr hn (by omega) HL.out).mono ?_
            rintro e w1 ⟨rfl, hb1⟩
            have j0 := k0.below hb1 k0.lt
            have j1 := k1.below hb1 k1.lt
            obtain ⟨d00, d01, d02, e00, e01, e02⟩ := j0.three
            obtain ⟨d10, d11, d12, e10, e11, e12⟩ := j1.three
            have hbW := hbel.trans (hb1.mono hbel.size)
            have hcx3 : w1.cell? ⟨b, o + (t + 3), none⟩ = some (.int .u8 x) := (hbW.cell (p := ⟨b, o + (t + 3), none⟩) hlt').trans HCX.out
            clear hcx2 k0 k1 hb1 c00 c01 c02 f00 f01 f02 hbel
            by_cases hz : x = 0
            · have hsp' : Hid (sTS xs t 0 most = (0, (t : Int), 4)) := by unfold Hid; rw [hsp.out]; simp [hz]
              subst hz
              clear hsp
              go_wp2_with fail
              refine (rfail_any (some ⟨b, o, none⟩) _ c t 0 4 _).mono ?_
              rintro e w2 ⟨rfl, hb2⟩
              have l1 := j1.below hb2 j1.lt
              obtain ⟨d10, d11, d12, e10, e11, e12⟩ := l1.three
              go_wp2
              refine bodyPost_ret (v := .tuple #[.int .i64 0, .agg #[.slice (some ⟨b, o, none⟩) xs.length c, .int .i64 t, .int .i64 4]]) (by simp [results, Try.results69, go_sem, d10, d11, d12]) rfl ⟨by rw [hsp'.out], ?_⟩
              exact below_set3 (hbW.trans (hb2.mono hbW.size)) (Nat.le_succ _) _ _ _
            have hxz : (x == 0) = false := by simpa using hz
            have hz' : ¬ (3 = 5 ∨ (0 < 3 ∧ x = 0)) := by omega
            have HZ := Lib.hid hz'
            clear hz hz'
            by_cases hlt : x < 128
            · by_cases hmost : most < m + x % 128 * 2097152
              · have hsp' : Hid (sTS xs t 0 most = (0, (t : Int), 5)) := by unfold Hid; rw [hsp.out, if_neg HZ.out, if_pos hlt, if_pos hmost]
                clear hsp
                go_wp2_with fail
                refine (rfail_any (some ⟨b, o, none⟩) _ c t 0 5 _).mono ?_
                rintro e w2 ⟨rfl, hb2⟩
                have l1 := j1.below hb2 j1.lt
                obtain ⟨d10, d11, d12, e10, e11, e12⟩ := l1.three
                go_wp2
                refine bodyPost_ret (v := .tuple #[.int .i64 0, .agg #[.slice (some ⟨b, o, none⟩) xs.length c, .int .i64 t, .int .i64 5]]) (by simp [results, Try.results69, go_sem, d10, d11, d12]) rfl ⟨by rw [hsp'.out], ?_⟩
                exact below_set3 (hbW.trans (hb2.mono hbW.size)) (Nat.le_succ _) _ _ _
              · have hsp' : Hid (sTS xs t 0 most = (m + x % 128 * 2097152, (t : Int) + 3 + 1, 0)) := by unfold Hid; rw [hsp.out, if_neg HZ.out, if_pos hlt, if_neg hmost]; simp
                clear hsp
                go_wp2_with fail
                go_region
                go_wp2
                refine bodyPost_ret (v := .tuple #[.int .i64 (m + x % 128 * 2097152), .agg #[.slice (some ⟨b, o, none⟩) xs.length c, .int .i64 ((t : Int) + 3 + 1), .int .i64 0]]) (by simp [results, Try.results69, go_sem, d10, d11, d12]) rfl ⟨by rw [hsp'.out], ?_⟩
                exact (below_set3 (hbW.setCell (p := ⟨w.heap.size, 1, none⟩) (Nat.le_refl _) _) (Nat.le_succ _) _ _ _).drew
            · have hsp' : Hid (sTS xs t 0 most = sGrp xs t most (6 - 4) 4 (m + x % 128 * 2097152)) := by unfold Hid; rw [hsp.out, if_neg HZ.out, if_neg hlt]
              clear hsp
              go_wp2_with fail
              go_roundw
              case rel =>
                refine ⟨4, m + x % 128 * 2097152, 268435456, rfl, rfl, rfl, j0, j1, hbW, by omega, by omega, ?_, by unfold Hid; decide, by omega, hsp'⟩
                have hQ : (128 : Int) ^ 4 = 268435456 := by decide
                unfold Hid; omega
              case measure => simp [intOf]
          · obtain rfl : U = 268435456 := by rw [hU.out]; decide
            have hP : (128 : Int) ^ 4 = 268435456 := by decide
            rw [hP] at hsp
            have HM1 : m < 268435456 := by have := hm1.out; rw [hP] at this; exact this
            have hcx2 : wr.cell? ⟨b, o + (t + 4), none⟩ = some (.int .u8 x) := (hbel.cell (p := ⟨b, o + (t + 4), none⟩) hlt').trans HCX.out
            go_wp2_with fail
            refine (rlacks_no (some ⟨b, o, none⟩) _ c t 0 5 wr hn (by omega) HL.out).mono ?_
            rintro e w1 ⟨rfl, hb1⟩
            have j0 := k0.below hb1 k0.lt
            have j1 := k1.below hb1 k1.lt
            obtain ⟨d00, d01, d02, e00, e01, e02⟩ := j0.three
            obtain ⟨d10, d11, d12, e10, e11, e12⟩ := j1.three
            have hbW := hbel.trans (hb1.mono hbel.size)
            have hcx3 : w1.cell? ⟨b, o + (t + 4), none⟩ = some (.int .u8 x) := (hbW.cell (p := ⟨b, o + (t + 4), none⟩) hlt').trans HCX.out
            clear hcx2 k0 k1 hb1 c00 c01 c02 f00 f01 f02 hbel
            by_cases hz : x = 0
            · have hsp' : Hid (sTS xs t 0 most = (0, (t : Int), 4)) := by unfold Hid; rw [hsp.out]; simp [hz]
              subst hz
              clear hsp
              go_wp2_with fail
              refine (rfail_any (some ⟨b, o, none⟩) _ c t 0 4 _).mono ?_
              rintro e w2 ⟨rfl, hb2⟩
              have l1 := j1.below hb2 j1.lt
              obtain ⟨d10, d11, d12, e10, e11, e12⟩ := l1.three
              go_wp2
              refine bodyPost_ret (v := .tuple #[.int .i64 0, .agg #[.slice (some ⟨b, o, none⟩) xs.length c, .int .i64 t, .int .i64 4]]) (by simp [results, Try.results69, go_sem, d10, d11, d12]) rfl ⟨by rw [hsp'.out], ?_⟩
              exact below_set3 (hbW.trans (hb2.mono hbW.size)) (Nat.le_succ _) _ _ _
            have hxz : (x == 0) = false := by simpa using hz
            have hz' : ¬ (4 = 5 ∨ (0 < 4 ∧ x = 0)) := by omega
            have HZ := Lib.hid hz'
            clear hz hz'
            by_cases hlt : x < 128
            · by_cases hmost : most < m + x % 128 * 268435456
              · have hsp' : Hid (sTS xs t 0 most = (0, (t : Int), 5)) := by unfold Hid; rw [hsp.out, if_neg HZ.out, if_pos hlt, if_pos hmost]
                clear hsp
                go_wp2_with fail
                refine (rfail_any (some ⟨b, o, none⟩) _ c t 0 5 _).mono ?_
                rintro e w2 ⟨rfl, hb2⟩
                have l1 := j1.below hb2 j1.lt
                obtain ⟨d10, d11, d12, e10, e11, e12⟩ := l1.three
                go_wp2
                refine bodyPost_ret (v := .tuple #[.int .i64 0, .agg #[.slice (some ⟨b, o, none⟩) xs.length c, .int .i64 t, .int .i64 5]]) (by simp [results, Try.results69, go_sem, d10, d11, d12]) rfl ⟨by rw [hsp'.out], ?_⟩
                exact below_set3 (hbW.trans (hb2.mono hbW.size)) (Nat.le_succ _) _ _ _
              · have hsp' : Hid (sTS xs t 0 most = (m + x % 128 * 268435456, (t : Int) + 4 + 1, 0)) := by unfold Hid; rw [hsp.out, if_neg HZ.out, if_pos hlt, if_neg hmost]; simp
                clear hsp
                go_wp2_with fail
                go_region
                go_wp2
                refine bodyPost_ret (v := .tuple #[.int .i64 (m + x % 128 * 268435456), .agg #[.slice (some ⟨b, o, none⟩) xs.length c, .int .i64 ((t : Int) + 4 + 1), .int .i64 0]]) (by simp [results, Try.results69, go_sem, d10, d11, d12]) rfl ⟨by rw [hsp'.out], ?_⟩
                exact (below_set3 (hbW.setCell (p := ⟨w.heap.size, 1, none⟩) (Nat.le_refl _) _) (Nat.le_succ _) _ _ _).drew
            · have hsp' : Hid (sTS xs t 0 most = sGrp xs t most (6 - 5) 5 (m + x % 128 * 268435456)) := by unfold Hid; rw [hsp.out, if_neg HZ.out, if_neg hlt]
              clear hsp
              go_wp2_with fail
              go_roundw
              case rel =>
                refine ⟨5, m + x % 128 * 268435456, 34359738368, rfl, rfl, rfl, j0, j1, hbW, by omega, by omega, ?_, by unfold Hid; decide, by omega, hsp'⟩
                have hQ : (128 : Int) ^ 5 = 34359738368 := by decide
                unfold Hid; omega
              case measure => simp [intOf]
  · have he' : (err != 0) = true := by simpa using he
    have HE : Hid (sTS xs at_ err most = (0, at_, err)) := by unfold Hid sTS; rw [if_pos he]
    clear he
    go_enter Try.func69, Try.ntmps69
    go_wp2
    go_region
    go_wp2
    refine bodyPost_ret (v := .tuple #[.int .i64 0, .agg #[.slice A xs.length c, .int .i64 at_, .int .i64 err]]) (by simp [results, Try.results69, go_sem]) rfl ⟨by rw [HE.out], ?_⟩
    exact (((Below.refl _ _).alloc (Nat.le_refl _) _).alloc (by simp) _).drew
end Go.Proofs.Ytjloemlnejndmaa
