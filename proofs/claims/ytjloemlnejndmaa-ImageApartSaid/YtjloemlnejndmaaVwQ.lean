/- The contracts of the reference's encoding functions (clewref02), of clewref01.Wrap and of clewref02.Bytes. The contracts of the reference's decoding functions (clewref02). -/
import Derived.Test.YtjloemlnejndmaaSlices
import Derived.Test.YtjloemlnejndmaaVwSpec2
namespace Go.Proofs.Ytjloemlnejndmaa
open Go.RowKit Go.IntWalk
set_option maxRecDepth 100000
set_option linter.unusedVariables false

theorem rwrap_any (n : Int) (w : World) : Calls Try.prog 73 #[.int .i64 n] w fun e w' => e = .returned (.int .i64 (wrap16 n)) ∧ w = w' := by
  rcases tmod_cases n 65536 with ⟨hs, he⟩ | ⟨hs, he⟩
  all_goals
    go_enter Try.func73, Try.ntmps73
    go_wp2
    all_goals
      go_ret
      exact ⟨ret_int (by unfold wrap16; omega), rfl⟩
end Go.Proofs.Ytjloemlnejndmaa
namespace Go.Proofs.Ytjloemlnejndmaa
open Go.RowKit Go.IntWalk
set_option maxRecDepth 100000
set_option linter.unusedVariables false

set_option maxHeartbeats 400000 in
theorem rfail_any (A : Option Addr) (n c : Nat) (at_ err e : Int) (w : World) :
    Calls Try.prog 70 #[.agg #[.slice A n c, .int .i64 at_, .int .i64 err], .int .i64 e] w fun en w' => en = .returned (.agg #[.slice A n c, .int .i64 at_, .int .i64 e]) ∧ Below w.heap.size w w' := by
  go_enter Try.func70, Try.ntmps70
  go_wp2
  refine bodyPost_ret (v := .agg #[.slice A n c, .int .i64 at_, .int .i64 e]) (by simp [results, Try.results70, go_sem]) rfl ⟨rfl, ?_⟩
  exact ((Below.refl _ _).alloc (Nat.le_refl _) _).alloc (by simp) _
set_option maxHeartbeats 400000 in
theorem rlacks_yes (A : Option Addr) (n c : Nat) (at_ err k : Int) (w : World) (hn : n ≤ 1000000000) (hk0 : 0 ≤ k) (hk : k ≤ 1000000000000) (hs : sLacks n at_ k) :
    Calls Try.prog 71 #[.agg #[.slice A n c, .int .i64 at_, .int .i64 err], .int .i64 k] w fun en w' => en = .returned (.bool true) ∧ Below w.heap.size w w' := by
  rcases (show at_ < 0 ∨ (0 ≤ at_ ∧ n < at_) ∨ (0 ≤ at_ ∧ at_ ≤ n ∧ n - at_ < k) by unfold sLacks at hs; omega) with h1 | ⟨h1, h2⟩ | ⟨h1, h2, h3⟩
  all_goals
    clear hs
    go_enter Try.func71, Try.ntmps71
    go_wp2
    go_ret
    exact ⟨rfl, (Below.refl _ _).alloc (Nat.le_refl _) _⟩
set_option maxHeartbeats 400000 in
theorem rlacks_no (A : Option Addr) (n c : Nat) (at_ err k : Int) (w : World) (hn : n ≤ 1000000000) (hk : k ≤ 1000000000000) (hs : ¬ sLacks n at_ k) :
    Calls Try.prog 71 #[.agg #[.slice A n c, .int .i64 at_, .int .i64 err], .int .i64 k] w fun en w' => en = .returned (.bool false) ∧ Below w.heap.size w w' := by
  have h' : 0 ≤ at_ ∧ at_ ≤ n ∧ k ≤ n - at_ := by unfold sLacks at hs; omega
  obtain ⟨h1, h2, h3⟩ := h'
  clear hs
  have e1 : decide (at_ < 0) = false := by simp; omega
  have e2 : decide ((n : Int) < at_) = false := by simp; omega
  have e3 : decide ((n : Int) - at_ < k) = false := by simp; omega
  go_enter Try.func71, Try.ntmps71
  go_wp2
  go_ret
  exact ⟨rfl, (Below.refl _ _).alloc (Nat.le_refl _) _⟩
set_option maxHeartbeats 800000 in
theorem rtake_any (A : Option Addr) (n c : Nat) (at_ err : Int) (k : Nat) (xs : List Int) (w : World) (hr : Rd w w.heap.size A (cb .u8 xs)) (hx : n = xs.length) (hn : n ≤ 1000000000) (hb : Byt xs) (hk : k ≤ 8) :
    Calls Try.prog 72 #[.agg #[.slice A n c, .int .i64 at_, .int .i64 err], .int .i64 k] w fun e w' => e = .returned (.tuple #[.int .u64 (sNum (sTk xs at_ err k).1), .agg #[.slice A n c, .int .i64 (sTk xs at_ err k).2.1, .int .i64 (sTk xs at_ err k).2.2]]) ∧ Below w.heap.size w w' := by
  subst hx
  have hb0 : Below w.heap.size w ((w.alloc (.cells #[.slice A xs.length c, .int .i64 at_, .int .i64 err] 48)).alloc (.cells #[.slice none 0 0, .int .i64 0, .int .i64 0] 48)) := ((Below.refl _ _).alloc (Nat.le_refl _) _).alloc (by simp) _
  have k0 : Blk ((w.alloc (.cells #[.slice A xs.length c, .int .i64 at_, .int .i64 err] 48)).alloc (.cells #[.slice none 0 0, .int .i64 0, .int .i64 0] 48)) w.heap.size 48 [.slice A xs.length c, .int .i64 at_, .int .i64 err] := (Blk.new _ _ _).alloc _
  have k1 : Blk ((w.alloc (.cells #[.slice A xs.length c, .int .i64 at_, .int .i64 err] 48)).alloc (.cells #[.slice none 0 0, .int .i64 0, .int .i64 0] 48)) (w.heap.size + 1) 48 [.slice none 0 0, .int .i64 0, .int .i64 0] := by simpa using Blk.new (w.alloc (.cells #[.slice A xs.length c, .int .i64 at_, .int .i64 err] 48)) 48 [.slice none 0 0, .int .i64 0, .int .i64 0]
  by_cases h1 : err = 0
  · subst h1
    by_cases h2 : sLacks xs.length at_ k
    · have hsp := Lib.hid (sTk_lack xs at_ k h2)
      go_enter Try.func72, Try.ntmps72
      go_wp2_with fail
      refine (rlacks_yes A _ c at_ 0 k _ hn (by omega) (by omega) h2).mono ?_
      rintro e w1 ⟨rfl, hb1⟩
      have j0 := k0.below hb1 (by simp; omega)
      have j1 := k1.below hb1 (by simp)
      obtain ⟨c00, c01, c02, f00, f01, f02⟩ := j0.three
      clear h2
      go_wp2_with fail
      refine (rfail_any A _ c at_ 0 2 _).mono ?_
      rintro e w2 ⟨rfl, hb2⟩
      have l1 := j1.below hb2 j1.lt
      obtain ⟨c10, c11, c12, f10, f11, f12⟩ := l1.three
      go_wp2
      refine bodyPost_ret (v := .tuple #[.int .u64 0, .agg #[.slice A xs.length c, .int .i64 at_, .int .i64 2]]) (by simp [results, Try.results72, go_sem, c10, c11, c12]) rfl ⟨by rw [hsp.out]; rfl, ?_⟩
      have hbW := hb0.trans (hb1.mono (by simp; omega))
      exact below_set3 (hbW.trans (hb2.mono hbW.size)) (Nat.le_succ _) _ _ _
    · have h2' : 0 ≤ at_ ∧ at_ ≤ xs.length ∧ k ≤ xs.length - at_ := by unfold sLacks at h2; omega
      obtain ⟨t, rfl⟩ := Int.eq_ofNat_of_zero_le h2'.1
      have hsp : Hid (sTk xs t 0 k = ((xs.drop t).take k, (t : Int) + k, 0)) := by unfold Hid sTk; rw [if_neg (by simp), if_neg h2]; simp
      obtain ⟨_, h3, h4⟩ := h2'
      go_enter Try.func72, Try.ntmps72
      go_wp2_with fail
      refine (rlacks_no A _ c t 0 k _ hn (by omega) h2).mono ?_
      rintro e w1 ⟨rfl, hb1⟩
      have j0 := k0.below hb1 (by simp; omega)
      have j1 := k1.below hb1 (by simp)
      have hbW := hb0.trans (hb1.mono (by simp; omega))
      obtain ⟨c00, c01, c02, f00, f01, f02⟩ := j0.three
      obtain ⟨c10, c11, c12, f10, f11, f12⟩ := j1.three
      have hR := hr.below hbW
      clear h2 k0 k1 j0 j1 hb0 hb1 hr
      go_wp2_with fail
      go_loop [6, 7] (fun s i => ∃ j : Nat, j ≤ k ∧ i = .int .i64 j ∧ s = .int .u64 (sNum ((xs.drop t).take j))) (fun _ i => k - (intOf i).toNat)
      case atStart => exact ⟨0, by omega, rfl, rfl⟩
      case round =>
        obtain ⟨j, hj, rfl, rfl⟩ := hrel
        by_cases hlt : j < k
        · obtain ⟨b, o, rfl, _, hc⟩ := hR.num (i := t + j) (by omega)
          have hst := Lib.hid (sNum_take (xs.drop t) j (by rw [List.length_drop]; omega))
          have hbd := sNum_bound (xs.drop t) (hb.drop t) j (by rw [List.length_drop]; omega)
          have hx := hb.get (i := t + j) (by omega)
          have hpw : (256 : Int) ^ j ≤ 256 ^ 7 := by
            have e : ∀ m : Nat, (256 : Int) ^ m = ((256 ^ m : Nat) : Int) := fun m => by rw [Int.natCast_pow]; rfl
            rw [e, e]
            exact Int.ofNat_le.2 (Nat.pow_le_pow_right (by omega) (by omega))
          rw [show (256 : Int) ^ 7 = 72057594037927936 from by decide] at hpw
          have hge : (xs.drop t)[j]'(by rw [List.length_drop]; omega) = xs[t + j] := by simp
          rw [hge] at hst
          generalize sNum ((xs.drop t).take j) = S at *
          generalize xs[t + j] = x at *
          have e1 : IntKind.u64.wrap (S * 256) = S * 256 := by rw [w_u64]; omega
          have e2 : IntKind.u64.wrap x = x := by rw [w_u64]; omega
          have e3 : IntKind.u64.wrap (S * 256 + x) = S * 256 + x := by rw [w_u64]; omega
          clear hbd hx hpw
          go_wp2
          go_round
          case rel => exact ⟨j + 1, by omega, by go_num, by rw [hst.out]⟩
          case measure => simp [intOf]; omega
        · obtain rfl : j = k := by omega
          go_wp2
          go_region
          go_wp2
          refine bodyPost_ret (v := .tuple #[.int .u64 (sNum ((xs.drop t).take j)), .agg #[.slice A xs.length c, .int .i64 ((t : Int) + j), .int .i64 0]]) (by simp [results, Try.results72, go_sem, c10, c11, c12]) rfl ⟨by rw [hsp.out], ?_⟩
          exact (below_set3 (hbW.setCell (p := ⟨w.heap.size, 1, none⟩) (Nat.le_refl _) _) (Nat.le_succ _) _ _ _).drew
  · have he' : (err != 0) = true := by simpa using h1
    have hsp : Hid (sTk xs at_ err k = ([], at_, err)) := by unfold Hid sTk; rw [if_pos h1]
    clear h1
    go_enter Try.func72, Try.ntmps72
    go_wp2
    go_region
    go_wp2
    refine bodyPost_ret (v := .tuple #[.int .u64 0, .agg #[.slice A xs.length c, .int .i64 at_, .int .i64 err]]) (by simp [results, Try.results72, go_sem]) rfl ⟨by rw [hsp.out]; rfl, ?_⟩
    exact (((Below.refl _ _).alloc (Nat.le_refl _) _).alloc (by simp) _).drew
end Go.Proofs.Ytjloemlnejndmaa
