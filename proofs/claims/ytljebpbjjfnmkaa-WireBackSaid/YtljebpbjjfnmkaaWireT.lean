/- The contracts of package wire's decoding functions. -/
import Derived.Test.YtljebpbjjfnmkaaWireP
namespace Go.Proofs.Ytljebpbjjfnmkaa
open Go.RowKit Go.IntWalk
set_option maxRecDepth 100000
set_option linter.unusedVariables false

/-- A reader as a value. -/
def rdr (A : Option Addr) (n c : Nat) (at_ err : Int) : Value := .agg #[.slice A n c, .int .i64 at_, .int .i64 err]

set_option maxHeartbeats 400000 in
theorem take_err (A : Option Addr) (n c : Nat) (at_ err k : Int) (w : World) (he : err ≠ 0) :
    Calls Try.prog 49 #[.agg #[.slice A n c, .int .i64 at_, .int .i64 err], .int .i64 k] w fun e w' => e = .returned (.tuple #[.slice none 0 0, .agg #[.slice A n c, .int .i64 at_, .int .i64 err]]) ∧ Below w.heap.size w w' := by
  have h1 : (err != 0) = true := by simpa using he
  have HE := Lib.hid he
  clear he
  go_enter Try.func49, Try.ntmps49
  go_wp2
  go_region
  go_wp2
  refine bodyPost_ret (v := .tuple #[.slice none 0 0, .agg #[.slice A n c, .int .i64 at_, .int .i64 err]]) (by simp [results, Try.results49, go_sem]) rfl ⟨rfl, ?_⟩
  exact (((Below.refl _ _).alloc (Nat.le_refl _) _).alloc (by simp) _).drew
set_option maxHeartbeats 400000 in
theorem take_bad (A : Option Addr) (n c : Nat) (at_ : Int) (k : Nat) (w : World) (h : sLacks n at_ k) (hk : k ≤ 1000000000000) :
    Calls Try.prog 49 #[.agg #[.slice A n c, .int .i64 at_, .int .i64 0], .int .i64 k] w fun e w' => e = .returned (.tuple #[.slice none 0 0, .agg #[.slice A n c, .int .i64 at_, .int .i64 2]]) ∧ Below w.heap.size w w' := by
  have h' : at_ < 0 ∨ (0 ≤ at_ ∧ n < at_) ∨ (0 ≤ at_ ∧ at_ ≤ n ∧ n - at_ < k) := by unfold sLacks at h; omega
  clear h
  rcases h' with h1 | ⟨h1, h2⟩ | ⟨h1, h2, h3⟩
  all_goals
    go_enter Try.func49, Try.ntmps49
    go_wp2
    go_region
    go_wp2
    refine bodyPost_ret (v := .tuple #[.slice none 0 0, .agg #[.slice A n c, .int .i64 at_, .int .i64 2]]) (by simp [results, Try.results49, go_sem]) rfl ⟨rfl, ?_⟩
    exact (((Below.refl _ _).alloc (Nat.le_refl _) _).alloc (by simp) _).drew
set_option maxHeartbeats 400000 in
theorem take_ok (A : Option Addr) (n c t k : Nat) (xs : List Value) (w : World) (B : Nat) (hr : Rd w B A xs) (hx : n = xs.length) (hk : t + k ≤ n) (hc : n ≤ c) (hn : n ≤ 1000000000) :
    Calls Try.prog 49 #[.agg #[.slice A n c, .int .i64 t, .int .i64 0], .int .i64 k] w fun e w' => ∃ A' c', e = .returned (.tuple #[.slice A' k c', .agg #[.slice A n c, .int .i64 ((t + k : Nat) : Int), .int .i64 0]]) ∧ k ≤ c' ∧ Rd w B A' ((xs.drop t).take k) ∧ Below w.heap.size w w' := by
  have hcut := Lib.hid ((hr.drop t c (by omega) (by omega)).take k)
  clear hx
  by_cases hct : c = t
  · subst hct
    go_enter Try.func49, Try.ntmps49
    go_wp2
    go_region
    go_wp2
    obtain ⟨A', hA⟩ : ∃ A', A' = A := ⟨_, rfl⟩
    refine bodyPost_ret (v := .tuple #[.slice A k 0, .agg #[.slice A n c, .int .i64 ((c : Int) + k), .int .i64 0]]) (by simp [results, Try.results49, go_sem]) rfl ⟨A, 0, by simp, by omega, ?_, ?_⟩
    · have := hcut.out
      simpa using this
    · exact (((Below.refl _ _).alloc (Nat.le_refl _) _).alloc (by simp) _).drew
  · have hct' : (c = t) = False := by simp [hct]
    go_enter Try.func49, Try.ntmps49
    go_wp2
    go_region
    go_wp2
    refine bodyPost_ret (v := .tuple #[.slice (A.map (·.add t)) k (c - t), .agg #[.slice A n c, .int .i64 ((t : Int) + k), .int .i64 0]]) (by simp [results, Try.results49, go_sem]) rfl ⟨A.map (·.add t), c - t, by simp, by omega, ?_, ?_⟩
    · have := hcut.out
      simpa [hct] using this
    · exact (((Below.refl _ _).alloc (Nat.le_refl _) _).alloc (by simp) _).drew

/-- wire.take, whatever the reader. -/
theorem take_any (A : Option Addr) (n c : Nat) (at_ err : Int) (k : Nat) (xs : List Int) (w : World) (B : Nat) (hr : Rd w B A (cb .u8 xs)) (hx : n = xs.length) (hc : n ≤ c) (hn : n ≤ 1000000000) (hk : k ≤ 1000000000000) :
    Calls Try.prog 49 #[.agg #[.slice A n c, .int .i64 at_, .int .i64 err], .int .i64 k] w fun e w' => ∃ A' m' c', e = .returned (.tuple #[.slice A' m' c', .agg #[.slice A n c, .int .i64 (sTk xs at_ err k).2.1, .int .i64 (sTk xs at_ err k).2.2]]) ∧ Rd w B A' (cb .u8 (sTk xs at_ err k).1) ∧ m' = (sTk xs at_ err k).1.length ∧ m' ≤ c' ∧ Below w.heap.size w w' := by
  subst hx
  by_cases h1 : err ≠ 0
  · simp only [sTk, if_pos h1]
    exact (take_err A _ c at_ err k w h1).mono fun e w' ⟨he, hb⟩ => ⟨none, 0, 0, he, Rd.nil _ _ _, rfl, by omega, hb⟩
  · obtain rfl : err = 0 := by omega
    by_cases h2 : sLacks xs.length at_ k
    · simp only [sTk, if_neg h1, if_pos h2]
      exact (take_bad A _ c at_ k w h2 hk).mono fun e w' ⟨he, hb⟩ => ⟨none, 0, 0, he, Rd.nil _ _ _, rfl, by omega, hb⟩
    · simp only [sTk, if_neg h1, if_neg h2]
      unfold sLacks at h2
      obtain ⟨t, rfl⟩ := Int.eq_ofNat_of_zero_le (show 0 ≤ at_ by omega)
      refine (take_ok A _ c t k (cb .u8 xs) w B hr (by simp) (by omega) hc hn).mono ?_
      rintro e w' ⟨A', c', rfl, h3, h4, hb⟩
      refine ⟨A', k, c', by simp, ?_, ?_, h3, hb⟩
      · rw [cb_drop, cb_take] at h4; exact h4
      · rw [List.length_take, List.length_drop]; simp only [Int.toNat_natCast]; omega

theorem num_step (S x : Int) (h0 : 0 ≤ S) (h1 : S < 72057594037927936) (h2 : 0 ≤ x) (h3 : x < 256) : bits .or .u64 (IntKind.u64.wrap (S * 256)) (IntKind.u64.wrap x) = S * 256 + x := by
  obtain ⟨s, rfl⟩ := Int.eq_ofNat_of_zero_le h0
  obtain ⟨y, rfl⟩ := Int.eq_ofNat_of_zero_le h2
  rw [w_u64, w_u64, Int.emod_eq_of_lt (by omega) (by omega), Int.emod_eq_of_lt (by omega) (by omega)]
  have h := u64_or_hi s y 8 (by omega) (by omega)
  rw [show ((2 ^ 8 * s : Nat) : Int) = (s : Int) * 256 from by omega] at h
  rw [h]; omega
set_option maxHeartbeats 400000 in
theorem number_any (A : Option Addr) (n c : Nat) (xs : List Int) (w : World) (B : Nat) (hr : Rd w B A (cb .u8 xs)) (hx : n = xs.length) (hb : Byt xs) (h8 : xs.length ≤ 8) :
    Calls Try.prog 48 #[.slice A n c] w fun e w' => e = .returned (.int .u64 (sNum xs)) ∧ w = w' := by
  subst hx
  go_enter Try.func48, Try.ntmps48
  go_wp2
  go_loop [3, 8] (fun s i => ∃ k : Nat, k ≤ xs.length ∧ i = .int .i64 k ∧ s = .int .u64 (sNum (xs.take k))) (fun _ i => xs.length - (intOf i).toNat)
  case atStart => exact ⟨0, by omega, rfl, rfl⟩
  case round =>
    obtain ⟨k, hk, rfl, rfl⟩ := hrel
    by_cases hlt : k < xs.length
    · obtain ⟨b, o, rfl, _, hc⟩ := hr.num hlt
      have hst := Lib.hid (sNum_take xs k hlt)
      have hbd := Lib.hid (sNum_bound xs hb k hk)
      have hx := Lib.hid (hb.get hlt)
      go_wp2
      go_round
      case rel =>
        refine ⟨k + 1, by omega, by go_num, ?_⟩
        have h7 : (256 : Int) ^ k ≤ 256 ^ 7 := by exact_mod_cast Nat.pow_le_pow_right (by omega) (show k ≤ 7 by omega)
        have hb2 := hbd.out
        rw [num_step _ _ hb2.1 (by have : (256 : Int) ^ 7 = 72057594037927936 := by decide
                                   omega) hx.out.1 hx.out.2, hst.out]
      case measure => simp [intOf]; omega
    · obtain rfl : k = xs.length := by omega
      rw [List.take_length]
      go_wp2
      go_ret
      exact ⟨rfl, rfl⟩
end Go.Proofs.Ytljebpbjjfnmkaa
