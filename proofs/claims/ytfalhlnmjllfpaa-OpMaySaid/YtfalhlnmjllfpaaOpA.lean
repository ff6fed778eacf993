/- The contracts of chapter 27's small functions. -/
import Derived.Test.YtfalhlnmjllfpaaOpSpec
import Derived.Test.YtfalhlnmjllfpaaElems
import Derived.Test.YtfalhlnmjllfpaaMore
import Derived.Outline
namespace Go.Proofs.Ytfalhlnmjllfpaa
open Go.RowKit Go.IntWalk
set_option maxRecDepth 100000
set_option linter.unusedVariables false

theorem wrap_any (n : Int) (w : World) : Calls Try.prog 19 #[.int .i64 n] w fun e w' => e = .returned (.int .i64 (wrap16 n)) ∧ w = w' := by
  go_enter Try.func19, Try.ntmps19
  go_wp2
  go_ret
  exact ⟨ret_int (by rw [w_i16, wrap64_in _ (by omega)]; rfl), rfl⟩
theorem rwrap_any (n : Int) (w : World) : Calls Try.prog 33 #[.int .i64 n] w fun e w' => e = .returned (.int .i64 (wrap16 n)) ∧ w = w' := by
  rcases tmod_cases n 65536 with ⟨hs, he⟩ | ⟨hs, he⟩
  all_goals
    go_enter Try.func33, Try.ntmps33
    go_wp2
    all_goals
      go_ret
      exact ⟨ret_int (by unfold wrap16; omega), rfl⟩
set_option maxHeartbeats 400000 in
theorem known_any (n : Int) (w : World) : Calls Try.prog 27 #[.int .i64 n] w fun e w' => e = .returned (.bool (knB n)) ∧ w = w' := by
  by_cases h1 : 1 ≤ n
  · by_cases h2 : n ≤ 38
    · have key : Hid (knB n = true) := by unfold Hid knB; simp; omega
      go_enter Try.func27, Try.ntmps27
      go_wp2
      go_ret
      exact ⟨by rw [key.out]; rfl, rfl⟩
    · have key : Hid (knB n = false) := by unfold Hid knB; simp; omega
      have h3 : 38 < n := by omega
      go_enter Try.func27, Try.ntmps27
      go_wp2
      go_ret
      exact ⟨by rw [key.out]; rfl, rfl⟩
  · have key : Hid (knB n = false) := by unfold Hid knB; simp; omega
    have h3 : n < 1 := by omega
    go_enter Try.func27, Try.ntmps27
    go_wp2
    go_ret
    exact ⟨by rw [key.out]; rfl, rfl⟩
/-- A number is from one on, below another one. -/
def ltB (n lo hi : Int) : Bool := decide (lo ≤ n ∧ n < hi)
theorem ltB_t {n lo hi : Int} (h : lo ≤ n ∧ n < hi) : ltB n lo hi = true := by unfold ltB; simpa using h
theorem ltB_f {n lo hi : Int} (h : ¬ (lo ≤ n ∧ n < hi)) : ltB n lo hi = false := by unfold ltB; simpa using h
set_option maxHeartbeats 400000 in
theorem opAmong_any (n lo hi : Int) (w : World) : Calls Try.prog 31 #[.int .i64 n, .int .i64 lo, .int .i64 hi] w fun e w' => e = .returned (.bool (ltB n lo hi)) ∧ w = w' := by
  by_cases h1 : lo ≤ n
  · by_cases h2 : n < hi
    · have key := Lib.hid (ltB_t ⟨h1, h2⟩)
      go_enter Try.func31, Try.ntmps31
      go_wp2
      go_ret
      exact ⟨by rw [key.out]; rfl, rfl⟩
    · have key := Lib.hid (ltB_f (n := n) (lo := lo) (hi := hi) (fun h => h2 h.2))
      have h3 : hi ≤ n := by omega
      go_enter Try.func31, Try.ntmps31
      go_wp2
      go_ret
      exact ⟨by rw [key.out]; rfl, rfl⟩
  · have key := Lib.hid (ltB_f (n := n) (lo := lo) (hi := hi) (fun h => h1 h.1))
    have h3 : n < lo := by omega
    go_enter Try.func31, Try.ntmps31
    go_wp2
    go_ret
    exact ⟨by rw [key.out]; rfl, rfl⟩
set_option maxHeartbeats 400000 in
theorem opSize_any (n : Int) (w : World) : Calls Try.prog 32 #[.int .i64 n] w fun e w' => e = .returned (.int .i64 (sizeN n)) ∧ w = w' := by
  by_cases h0 : n = 0
  · subst h0
    go_enter Try.func32, Try.ntmps32
    go_wp2
    go_ret
    exact ⟨rfl, rfl⟩
  · have e0 : (n == 0) = false := by simpa using h0
    by_cases h1 : -128 ≤ n
    · by_cases h2 : n ≤ 127
      · have key : Hid (sizeN n = 1) := by unfold Hid sizeN; rw [if_neg h0, if_pos ⟨h1, h2⟩]
        clear h0
        go_enter Try.func32, Try.ntmps32
        go_wp2
        go_ret
        exact ⟨by rw [key.out]; rfl, rfl⟩
      · have key : Hid (sizeN n = 2) := by unfold Hid sizeN; rw [if_neg h0, if_neg (by omega)]
        have h3 : 127 < n := by omega
        clear h0
        go_enter Try.func32, Try.ntmps32
        go_wp2
        go_ret
        exact ⟨by rw [key.out]; rfl, rfl⟩
    · have key : Hid (sizeN n = 2) := by unfold Hid sizeN; rw [if_neg h0, if_neg (by omega)]
      have h3 : n < -128 := by omega
      clear h0
      go_enter Try.func32, Try.ntmps32
      go_wp2
      go_ret
      exact ⟨by rw [key.out]; rfl, rfl⟩
set_option maxHeartbeats 400000 in
theorem ropBytes_any (n : Int) (w : World) : Calls Try.prog 34 #[.int .i64 n] w fun e w' => e = .returned (.int .i64 (sizeN n)) ∧ w = w' := by
  by_cases h0 : n = 0
  · subst h0
    go_enter Try.func34, Try.ntmps34
    go_wp2
    go_ret
    exact ⟨rfl, rfl⟩
  · have e0 : (n == 0) = false := by simpa using h0
    by_cases h1 : -128 ≤ n
    · by_cases h2 : n ≤ 127
      · have key : Hid (sizeN n = 1) := by unfold Hid sizeN; rw [if_neg h0, if_pos ⟨h1, h2⟩]
        clear h0
        go_enter Try.func34, Try.ntmps34
        go_wp2
        go_ret
        exact ⟨by rw [key.out]; rfl, rfl⟩
      · have key : Hid (sizeN n = 2) := by unfold Hid sizeN; rw [if_neg h0, if_neg (by omega)]
        have h3 : 127 < n := by omega
        clear h0
        go_enter Try.func34, Try.ntmps34
        go_wp2
        go_ret
        exact ⟨by rw [key.out]; rfl, rfl⟩
    · have key : Hid (sizeN n = 2) := by unfold Hid sizeN; rw [if_neg h0, if_neg (by omega)]
      have h3 : n < -128 := by omega
      clear h0
      go_enter Try.func34, Try.ntmps34
      go_wp2
      go_ret
      exact ⟨by rw [key.out]; rfl, rfl⟩

/-- A number is among those of a list. -/
def inB (xs : List Int) (v : Int) : Bool := xs.contains v
theorem inB_at {xs : List Int} {v : Int} {k : Nat} (hk : k < xs.length) (h : xs[k] = v) : inB xs v = true := by
  unfold inB; rw [List.contains_iff_mem, ← h]; exact List.getElem_mem hk
theorem inB_none {xs : List Int} {v : Int} (h : ∀ j, j < xs.length → xs.getD j 0 ≠ v) : inB xs v = false := by
  unfold inB
  rw [← Bool.not_eq_true, List.contains_iff_mem]
  intro hm
  obtain ⟨k, hk, he⟩ := List.mem_iff_getElem.1 hm
  exact h k hk (by simp only [List.getD, List.getElem?_eq_getElem hk, Option.getD_some]; exact he)

/-- What 'slices.Index' gives back. -/
def IxPost (w : World) (xs : List Int) (v : Int) (e : Ending) (w' : World) : Prop := ∃ r : Int, e = .returned (.int .i64 r) ∧ Hid ((0 ≤ r) ↔ inB xs v = true) ∧ w = w'
set_option maxHeartbeats 400000 in
theorem index_any (A : Option Addr) (n c : Nat) (xs : List Int) (v : Int) (w : World) (B : Nat) (hr : Rd w B A (cb .i64 xs)) (hn : n = xs.length) (hl : n ≤ 1000000000) :
    Calls Try.prog 41 #[.slice A n c, .int .i64 v] w (IxPost w xs v) := by
  subst hn
  go_enter Try.func41, Try.ntmps41
  go_wp2
  go_loop [8] (fun i => ∃ k : Nat, k ≤ xs.length ∧ i = .int .i64 k ∧ Hid (∀ j, j < k → xs.getD j 0 ≠ v)) (fun i => xs.length - (intOf i).toNat)
  case atStart => exact ⟨0, by omega, rfl, by unfold Hid; intro j hj; omega⟩
  case round =>
    obtain ⟨k, hk, rfl, hq⟩ := hrel
    by_cases hlt : k < xs.length
    · obtain ⟨b, o, rfl, _, hc⟩ := hr.num hlt
      by_cases he : xs[k] = v
      · have e1 : (v == xs[k]) = true := by rw [beq_iff_eq]; exact he.symm
        have hfin := Lib.hid (inB_at hlt he)
        clear he
        go_wp2
        go_ret
        exact ⟨(k : Int), rfl, by unfold Hid; exact ⟨fun _ => hfin.out, fun _ => by omega⟩, rfl⟩
      · have e1 : (v == xs[k]) = false := by rw [beq_eq_false_iff_ne]; exact fun h => he h.symm
        have hq2 : Hid (∀ j, j < k + 1 → xs.getD j 0 ≠ v) := by
          unfold Hid
          intro j hj
          rcases Nat.lt_or_ge j k with h | h
          · exact hq.out j h
          · obtain rfl : j = k := by omega
            simp only [List.getD, List.getElem?_eq_getElem hlt, Option.getD_some]
            exact he
        clear he
        go_wp2
        go_round
        case rel => exact ⟨k + 1, by omega, by go_num, hq2⟩
        case measure => simp [intOf]; omega
    · obtain rfl : k = xs.length := by omega
      have hfin := Lib.hid (inB_none hq.out)
      go_wp2
      go_ret
      exact ⟨-1, rfl, by unfold Hid; exact ⟨fun h => by omega, fun h => by rw [hfin.out] at h; cases h⟩, rfl⟩
set_option maxHeartbeats 400000 in
theorem contains_any (A : Option Addr) (n c : Nat) (xs : List Int) (v : Int) (w : World) (B : Nat) (hr : Rd w B A (cb .i64 xs)) (hn : n = xs.length) (hl : n ≤ 1000000000) :
    Calls Try.prog 39 #[.slice A n c, .int .i64 v] w fun e w' => e = .returned (.bool (inB xs v)) ∧ w = w' := by
  subst hn
  go_enter Try.func39, Try.ntmps39
  go_wp2_with fail
  refine (index_any A _ c xs v w B hr rfl hl).mono ?_
  rintro e w' ⟨r, rfl, hrr, rfl⟩
  by_cases h0 : 0 ≤ r
  · have h1 := Lib.hid (hrr.out.1 h0)
    go_wp2
    go_ret
    exact ⟨by rw [h1.out]; rfl, rfl⟩
  · have h1 : Hid (inB xs v = false) := by
      unfold Hid
      rw [← Bool.not_eq_true]
      exact fun h => h0 (hrr.out.2 h)
    have h2 : decide (0 ≤ r) = false := by simpa using h0
    clear h0
    go_wp2
    go_ret
    exact ⟨by rw [h1.out]; rfl, rfl⟩
set_option maxHeartbeats 400000 in
theorem opOne_any (A : Option Addr) (n c : Nat) (xs : List Int) (v : Int) (w : World) (B : Nat) (hr : Rd w B A (cb .i64 xs)) (hn : n = xs.length) (hl : n ≤ 1000000000) :
    Calls Try.prog 29 #[.int .i64 v, .slice A n c] w fun e w' => e = .returned (.bool (inB xs v)) ∧ w = w' := by
  subst hn
  go_enter Try.func29, Try.ntmps29
  go_wp2_with fail
  refine (contains_any A _ c xs v w B hr rfl hl).mono ?_
  rintro e w' ⟨rfl, rfl⟩
  go_wp2
  go_ret
  exact ⟨rfl, rfl⟩
set_option maxHeartbeats 400000 in
theorem ropAmong_any (A : Option Addr) (n c : Nat) (xs : List Int) (v : Int) (w : World) (B : Nat) (hr : Rd w B A (cb .i64 xs)) (hn : n = xs.length) (hl : n ≤ 1000000000) :
    Calls Try.prog 30 #[.int .i64 v, .slice A n c] w fun e w' => e = .returned (.bool (inB xs v)) ∧ w = w' := by
  subst hn
  go_enter Try.func30, Try.ntmps30
  go_wp2
  go_loop [5] (fun i => ∃ k : Nat, k ≤ xs.length ∧ i = .int .i64 k ∧ Hid (∀ j, j < k → xs.getD j 0 ≠ v)) (fun i => xs.length - (intOf i).toNat)
  case atStart => exact ⟨0, by omega, rfl, by unfold Hid; intro j hj; omega⟩
  case round =>
    obtain ⟨k, hk, rfl, hq⟩ := hrel
    by_cases hlt : k < xs.length
    · obtain ⟨b, o, rfl, _, hc⟩ := hr.num hlt
      by_cases he : xs[k] = v
      · have e1 : (xs[k] == v) = true := by rw [beq_iff_eq]; exact he
        have hfin := Lib.hid (inB_at hlt he)
        clear he
        go_wp2
        go_ret
        exact ⟨by rw [hfin.out]; rfl, rfl⟩
      · have e1 : (xs[k] == v) = false := by rw [beq_eq_false_iff_ne]; exact he
        have hq2 : Hid (∀ j, j < k + 1 → xs.getD j 0 ≠ v) := by
          unfold Hid
          intro j hj
          rcases Nat.lt_or_ge j k with h | h
          · exact hq.out j h
          · obtain rfl : j = k := by omega
            simp only [List.getD, List.getElem?_eq_getElem hlt, Option.getD_some]
            exact he
        clear he
        go_wp2
        go_round
        case rel => exact ⟨k + 1, by omega, by go_num, hq2⟩
        case measure => simp [intOf]; omega
    · obtain rfl : k = xs.length := by omega
      have hfin := Lib.hid (inB_none hq.out)
      go_wp2
      go_ret
      exact ⟨by rw [hfin.out]; rfl, rfl⟩
set_option maxHeartbeats 400000 in
theorem has_any (v : Int) (w : World) : Calls Try.prog 13 #[.int .i64 v] w fun e w' => e = .returned (.bool (hasB v)) ∧ Below w.heap.size w w' := by
  go_enter Try.func13, Try.ntmps13
  go_wp2_with fail
  refine (opOne_any _ 20 _ hasL v _ _ (Rd.new w (cb .i64 hasL) _) rfl (by omega)).mono ?_
  rintro e w' ⟨rfl, rfl⟩
  go_wp2
  go_ret
  exact ⟨rfl, (Below.refl _ _).alloc (Nat.le_refl _) _⟩
set_option maxHeartbeats 400000 in
theorem rhas_any (v : Int) (w : World) : Calls Try.prog 14 #[.int .i64 v] w fun e w' => e = .returned (.bool (hasB v)) ∧ Below w.heap.size w w' := by
  go_enter Try.func14, Try.ntmps14
  go_wp2_with fail
  refine (ropAmong_any _ 20 _ hasL v _ _ (Rd.new w (cb .i64 hasL) _) rfl (by omega)).mono ?_
  rintro e w' ⟨rfl, rfl⟩
  go_wp2
  go_ret
  exact ⟨rfl, (Below.refl _ _).alloc (Nat.le_refl _) _⟩
end Go.Proofs.Ytfalhlnmjllfpaa
