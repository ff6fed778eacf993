/- The contracts of the reference's Name and Of. -/
import Derived.Test.YtfalhlnmjllfpaaOpB
namespace Go.Proofs.Ytfalhlnmjllfpaa
open Go.RowKit Go.IntWalk
set_option maxRecDepth 100000
set_option linter.unusedVariables false

def cAt (k : Nat) : Int := allL.getD k 0
theorem cAt_bd (k : Nat) (h : k < 207) : 0 ≤ cAt k ∧ cAt k < 256 := allL_bd k h
theorem allB_size : allB.size = 207 := by rw [← tB_len, allB_t]; rfl
theorem allB_get (k : Nat) (h : k < 207) : ((allB[k]'(by rw [allB_size]; exact h)).toNat : Int) = cAt k := by
  rw [← tB_getD allB k (by rw [allB_size]; exact h), allB_t]; rfl
theorem extract_all (k : Nat) (h : k < 207) : allB.extract k (k + 1) = strOfNums [cAt k] := by
  have hk : k < allB.size := by rw [allB_size]; exact h
  exact tB_inj (by
    rw [tB_one allB k hk, tB_str (by intro x hx; rw [List.mem_singleton] at hx; subst hx; exact cAt_bd k h), ← tB_getD allB k hk, allB_t]
    rfl)
theorem str_snoc {xs : List Int} {c : Int} (h : Bts xs) (hc : 0 ≤ c ∧ c < 256) : strOfNums xs ++ strOfNums [c] = strOfNums (xs ++ [c]) := by
  have k : Bts [c] := by intro x hx; rw [List.mem_singleton] at hx; subst hx; exact hc
  exact tB_inj (by rw [tB_append, tB_str h, tB_str k, tB_str (h.append k)])
theorem str_size {xs : List Int} (h : Bts xs) : (strOfNums xs).size = xs.length := by rw [← tB_len, tB_str h]
theorem opName_st (k : Nat) (hk : k < 207) (hb : cAt k = 32) (h0 : 1 ≤ (stA k).1) : opName ((stA k).1 : Int) = (stA k).2 := by
  obtain ⟨h1, h2⟩ := stA_hit k hk hb
  unfold opName
  rw [show knB ((stA k).1 : Int) = true from by unfold knB; simp; omega]
  simp only [if_true, Int.toNat_natCast]
  exact h2

/-- What holds at the head of the loop over the names. -/
def NmIn (n : Int) (m s i : Value) : Prop := ∃ k : Nat, k ≤ 207 ∧ i = .int .i64 k ∧ m = .int .i64 (stA k).1 ∧ s = .string (strOfNums (stA k).2) ∧ Hid (∀ j, j < k → cAt j = 32 → 1 ≤ n → ((stA j).1 : Int) ≠ n)
set_option maxHeartbeats 3200000 in
theorem rname_any (n : Int) (w : World) : Calls Try.prog 10 #[.int .i64 n] w fun e w' => e = .returned (.string (strOfNums (opName n))) ∧ w = w' := by
  go_enter Try.func10, Try.ntmps10
  go_wp2_with fail
  go_loop [3, 4, 5] (fun m s i => NmIn n m s i) (fun _ _ i => 207 - (intOf i).toNat)
  case atStart => unfold NmIn; exact ⟨0, by omega, rfl, rfl, rfl, by unfold Hid; intro j hj; omega⟩
  case round =>
    obtain ⟨k, hk, rfl, rfl, rfl, hq⟩ := hrel
    obtain ⟨hb1, hb2, hb3⟩ := stA_bd k hk
    have hsz := str_size hb3
    have hs1 : (strOfNums (stA k).2).size ≤ 20 := by omega
    clear hsz
    by_cases hlt : k < 207
    · have hex := Lib.hid (extract_all k hlt)
      have hgt := Lib.hid (allB_get k hlt)
      have hsu := stA_succ k hlt
      rw [show allL.getD k 0 = cAt k from rfl] at hsu
      obtain ⟨hc0, hc1⟩ := cAt_bd k hlt
      have hst := Lib.hid (opName_st k hlt)
      have hs2 : (allB.extract k (k + 1)).size ≤ 1 := by rw [hex.out, str_size (by intro x hx; rw [List.mem_singleton] at hx; subst hx; omega)]; simp
      have hsn := Lib.hid (str_snoc hb3 (show 0 ≤ cAt k ∧ cAt k < 256 by omega))
      by_cases h32 : cAt k = 32
      · have e1 : (((allB[k]'(by rw [allB_size]; exact hlt)).toNat : Int) != 32) = false := by rw [hgt.out]; simpa using h32
        have hsu1 : Hid ((stA (k + 1)).1 = (stA k).1 + 1) := by unfold Hid; rw [hsu]; unfold stepA; rw [if_pos h32]
        have hsu2 : Hid ((stA (k + 1)).2 = []) := by unfold Hid; rw [hsu]; unfold stepA; rw [if_pos h32]
        have H32 := Lib.hid h32
        clear hsu h32
        by_cases hn : ((stA k).1 : Int) = n
        · by_cases hp : 0 < n
          · have e2 : (((stA k).1 : Int) == n) = true := by simpa using hn
            have hfin : Hid (opName n = (stA k).2) := by unfold Hid; rw [← hn]; exact hst.out H32.out (by omega)
            clear hn
            go_wp2_with fail
            go_ret
            exact ⟨by rw [hfin.out]; rfl, rfl⟩
          · have e2 : (((stA k).1 : Int) == n) = true := by simpa using hn
            have e3 : decide (0 < n) = false := by simpa using hp
            clear hn
            go_wp2_with fail
            go_round
            case rel => unfold NmIn; exact ⟨k + 1, by omega, by go_num, by rw [hsu1.out]; go_num, by rw [hsu2.out]; rfl, by unfold Hid; intro j hj h1 h2; omega⟩
            case measure => simp [intOf]; omega
        · have e2 : (((stA k).1 : Int) == n) = false := by simpa using hn
          have hq2 : Hid (∀ j, j < k + 1 → cAt j = 32 → 1 ≤ n → ((stA j).1 : Int) ≠ n) := by
            unfold Hid
            intro j hj h1 h2
            rcases Nat.lt_or_ge j k with h | h
            · exact hq.out j h h1 h2
            · obtain rfl : j = k := by omega
              exact hn
          clear hn
          go_wp2_with fail
          go_round
          case rel => unfold NmIn; exact ⟨k + 1, by omega, by go_num, by rw [hsu1.out]; go_num, by rw [hsu2.out]; rfl, hq2⟩
          case measure => simp [intOf]; omega
      · have e1 : (((allB[k]'(by rw [allB_size]; exact hlt)).toNat : Int) != 32) = true := by rw [hgt.out]; simpa using h32
        have hsu1 : Hid ((stA (k + 1)).1 = (stA k).1) := by unfold Hid; rw [hsu]; unfold stepA; rw [if_neg h32]
        have hsu2 : Hid ((stA (k + 1)).2 = (stA k).2 ++ [cAt k]) := by unfold Hid; rw [hsu]; unfold stepA; rw [if_neg h32]
        have hq2 : Hid (∀ j, j < k + 1 → cAt j = 32 → 1 ≤ n → ((stA j).1 : Int) ≠ n) := by
          unfold Hid
          intro j hj h1 h2
          rcases Nat.lt_or_ge j k with h | h
          · exact hq.out j h h1 h2
          · obtain rfl : j = k := by omega
            exact absurd h1 h32
        clear hsu h32
        go_wp2_with fail
        go_round
        case rel => unfold NmIn; exact ⟨k + 1, by omega, by go_num, by rw [hsu1.out], by rw [hsu2.out, ← hsn.out, ← hex.out], hq2⟩
        case measure => simp [intOf]; omega
    · obtain rfl : k = 207 := by omega
      have hfin : Hid (opName n = []) := by
        unfold Hid opName
        split
        · rename_i hkn
          have hn : 1 ≤ n ∧ n ≤ 38 := by simpa [knB] using hkn
          obtain ⟨j, h1, h2, h3⟩ := stA_all n.toNat (by omega) (by omega)
          exact absurd (show ((stA j).1 : Int) = n by omega) (hq.out j h1 h2 hn.1)
        · rfl
      go_wp2_with fail
      go_ret
      exact ⟨by rw [hfin.out]; rfl, rfl⟩

set_option maxHeartbeats 800000 in
theorem rof_any (s : ByteArray) (w : World) : Calls Try.prog 12 #[.string s] w fun e w' => e = .returned (.int .i64 (opOf (tB s))) ∧ w = w' := by
  go_enter Try.func12, Try.ntmps12
  go_wp2_with fail
  go_loop [3] (fun i => ∃ k : Nat, 1 ≤ k ∧ k ≤ 39 ∧ i = .int .i64 k ∧ Hid (∀ j, 1 ≤ j → j < k → nmAt j ≠ tB s)) (fun i => 39 - (intOf i).toNat)
  case atStart => exact ⟨1, by omega, by omega, rfl, by unfold Hid; intro j h1 hj; omega⟩
  case round =>
    obtain ⟨k, hk1, hk, rfl, hq⟩ := hrel
    by_cases hlt : k < 39
    · have hsq := strEq (strOfNums (nmAt k)) s
      rw [tB_str (opNames_bts k)] at hsq
      have hnm : Hid (opName (k : Int) = nmAt k) := by
        unfold Hid opName
        rw [show knB (k : Int) = true from by unfold knB; simp; omega]
        rfl
      by_cases he : nmAt k = tB s
      · have e1 : ((strOfNums (nmAt k)).toList == s.toList) = true := by rw [hsq]; simpa using he
        have hfin := Lib.hid (opOf_at (tB s) k hlt he)
        clear he hsq
        go_wp2_with fail
        refine (rname_any (k : Int) w).mono ?_
        rw [hnm.out]
        rintro e w' ⟨rfl, rfl⟩
        go_wp2_with fail
        go_ret
        exact ⟨by rw [hfin.out]; rfl, rfl⟩
      · have e1 : ((strOfNums (nmAt k)).toList == s.toList) = false := by rw [hsq]; simpa using he
        have hq2 : Hid (∀ j, 1 ≤ j → j < k + 1 → nmAt j ≠ tB s) := by
          unfold Hid
          intro j h1 hj
          rcases Nat.lt_or_ge j k with h | h
          · exact hq.out j h1 h
          · obtain rfl : j = k := by omega
            exact he
        clear he hsq
        go_wp2_with fail
        refine (rname_any (k : Int) w).mono ?_
        rw [hnm.out]
        rintro e w' ⟨rfl, rfl⟩
        go_wp2_with fail
        go_round
        case rel => exact ⟨k + 1, by omega, by omega, by go_num, hq2⟩
        case measure => simp [intOf]; omega
    · obtain rfl : k = 39 := by omega
      have hfin := Lib.hid (opOf_none (tB s) (fun k h1 h => hq.out k h1 h))
      go_wp2_with fail
      go_ret
      exact ⟨by rw [hfin.out]; rfl, rfl⟩
end Go.Proofs.Ytfalhlnmjllfpaa
