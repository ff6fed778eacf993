/- The contract of the reference's Encode. -/
import Derived.Test.YtfalhlnmjllfpaaOpD
namespace Go.Proofs.Ytfalhlnmjllfpaa
open Go.RowKit Go.IntWalk
set_option maxRecDepth 100000
set_option linter.unusedVariables false

theorem argB_2u {A u : Int} (h : sizeN A = 2) (hu : u = A % 65536) : argB A = [u / 256, u % 256] := by
  rw [argB_2 h]; congr 1
  · omega
  · congr 1; omega
theorem argB_1u {A u : Int} (h : sizeN A = 1) (hu : u = A % 65536) : argB A = [u % 256] := by
  rw [argB_1 h]; congr 1; omega

set_option maxHeartbeats 6400000 in
theorem renc_any (op arg : Int) (w : World) : Calls Try.prog 18 #[.agg #[.int .i64 op, .int .i64 arg]] w (RetOwn w 5 (cb .u8 (opEnc op arg))) := by
  have hbx : Below w.heap.size w (w.alloc (.cells #[.int .i64 op, .int .i64 arg] 28)) := (Below.refl _ _).alloc (Nat.le_refl _) _
  by_cases h1 : op < 1
  · have hfin : Hid ([] = cb .u8 (opEnc op arg)) := by unfold Hid; rw [opEnc_no op arg (fun h => by have := h.1; simp [knB] at this; omega)]; rfl
    have e1 : decide (op < 1) = true := by simpa using h1
    go_enter Try.func18, Try.ntmps18
    go_wp2_with fail
    go_ret
    exact ret_nil_on hbx _ hfin.out
  · have e1 : decide (op < 1) = false := by simpa using h1
    by_cases h2 : 38 ≤ op
    · have hfin : Hid ([] = cb .u8 (opEnc op arg)) := by unfold Hid; rw [opEnc_no op arg (fun h => by have := h.1; have := h.2; simp [knB] at *; omega)]; rfl
      have e2 : decide (38 ≤ op) = true := by simpa using h2
      go_enter Try.func18, Try.ntmps18
      go_wp2_with fail
      go_ret
      exact ret_nil_on hbx _ hfin.out
    · have e2 : decide (38 ≤ op) = false := by simpa using h2
      obtain ⟨A, hA⟩ : ∃ A, insA op arg = A := ⟨_, rfl⟩
      have hAb := insA_bd op arg
      rw [hA] at hAb
      obtain ⟨hA1, hA2⟩ := hAb
      have hy := opEnc_yes op arg (by unfold knB; simp; omega) (by omega) A hA
      have hsz := sizeN_le A
      obtain ⟨k, hkk⟩ : ∃ k, sizeN A = k := ⟨_, rfl⟩
      have HE := Lib.hid hy
      have HA := Lib.hid hA
      have HKK := Lib.hid hkk
      rw [hkk] at hsz
      have g1 : 1 ≤ op := by omega
      have g2 : op < 38 := by omega
      clear hA hy hkk h1 h2
      have hWb := wrap16_bd arg
      have hW : Hid (hasB op = true → wrap16 arg = A) := by unfold Hid; intro hh; rw [← HA.out]; unfold insA; rw [hh]; rfl
      have hW0 : Hid (hasB op = false → 0 = A) := by unfold Hid; intro hh; rw [← HA.out]; unfold insA; rw [hh]; rfl
      obtain ⟨hw1, hw2⟩ := hWb
      cases hh : hasB op with
      | true =>
        have hW2 := Lib.hid (hW.out hh)
        have HH := Lib.hid hh
        clear hh
        go_enter Try.func18, Try.ntmps18
        go_wp2_with fail
        refine (rwrap_any arg _).mono ?_
        rw [hW2.out]
        rintro e w' ⟨rfl, rfl⟩
        go_wp2_with fail
        refine (rhas_any op _).mono ?_
        rw [HH.out]
        rintro e w1 ⟨rfl, hb1⟩
        have hbel1 := below_call hbx hb1
        obtain ⟨hc1, hf1⟩ := bcell hb1
        have hbs := hbel1.size
        go_wp2_with fail
        have W1 : IntKind.i64.wrap (4 * op) = 4 * op := IntWalk.i64_in _ (by omega)
        have W2 : IntKind.i64.wrap (4 * op + (k : Int)) = 4 * op + k := IntWalk.i64_in _ (by omega)
        have W3 : IntKind.u8.wrap (4 * op + (k : Int)) = 4 * op + k := by simp [IntKind.wrap, IntKind.bits, IntKind.signed]; omega
        go_region_with (go_at_call 34; go_must (refine (ropBytes_any A _).mono ?_; rw [HKK.out]; rintro e w' ⟨rfl, rfl⟩))
        all_goals
          clear W1 W2 W3
          clear hc1 hf1
          have hbel2 := (hbel1.alloc hbs (.cells #[.int .u8 (4 * op + k)] 5)).drew
          have hown2 : Own (w1.alloc (.cells #[.int .u8 (4 * op + k)] 5)).drew w.heap.size 5 (.slice (some ⟨w1.heap.size, 0, none⟩) 1 1) (cb .u8 [4 * op + k]) := (Own.new w1 [.int .u8 (4 * op + k)] _ 1 rfl hbs (by omega)).drew
          have hfin0 := Lib.hid (fun h => (HE.out k HKK.out _ (argB_0 h)).symm)
          have hfin1 := Lib.hid (fun h u hu => (HE.out k HKK.out _ (argB_1u h (u := u) hu)).symm)
          have hfin2 := Lib.hid (fun h u hu => (HE.out k HKK.out _ (argB_2u h (u := u) hu)).symm)
          generalize (w1.alloc (.cells #[.int .u8 (4 * op + k)] 5)).drew = W2 at *
          generalize 4 * op + (k : Int) = X at *
          rcases (show k = 0 ∨ k = 1 ∨ k = 2 by omega) with rfl | rfl | rfl
          · by_cases hneg : A < 0
            all_goals
              go_wp2_with (go_at_call 34; refine (ropBytes_any A _).mono ?_; rw [HKK.out]; rintro e w' ⟨rfl, rfl⟩)
              go_ret
              exact ⟨_, _, _, rfl, hown2.cast (by rw [← hfin0.out HKK.out]), hbel2⟩
          · by_cases hneg : A < 0
            · have hu : Hid (A + 65536 = A % 65536) := by unfold Hid; omega
              go_wp2_with (first
                | (go_at_call 34; refine (ropBytes_any A _).mono ?_; rw [HKK.out]; rintro e w' ⟨rfl, rfl⟩)
                | (at_builtin; refine wp_app elemU8 rfl _ _ rfl rfl (hown2.alloc _) rfl (Rd.new _ [_] _) rfl (one1 _ _) (by simp) (by simp) (by have := hbel2.size; simp; omega) ?_; intro A3 n3 c3 w3 hown3 hg3))
              go_ret
              exact ⟨A3, n3, c3, rfl, hown3.cast (by rw [← hfin1.out HKK.out _ hu.out]; simp [cb]), below_own (hbel2.alloc hbel2.size _) hg3 (hown2.alloc _) (Nat.le_refl _) (by have := hbel2.size; simp; omega)⟩
            · have hu : Hid (A = A % 65536) := by unfold Hid; omega
              go_wp2_with (first
                | (go_at_call 34; refine (ropBytes_any A _).mono ?_; rw [HKK.out]; rintro e w' ⟨rfl, rfl⟩)
                | (at_builtin; refine wp_app elemU8 rfl _ _ rfl rfl (hown2.alloc _) rfl (Rd.new _ [_] _) rfl (one1 _ _) (by simp) (by simp) (by have := hbel2.size; simp; omega) ?_; intro A3 n3 c3 w3 hown3 hg3))
              go_ret
              exact ⟨A3, n3, c3, rfl, hown3.cast (by rw [← hfin1.out HKK.out _ hu.out]; simp [cb]), below_own (hbel2.alloc hbel2.size _) hg3 (hown2.alloc _) (Nat.le_refl _) (by have := hbel2.size; simp; omega)⟩
          · by_cases hneg : A < 0
            · have hu : Hid (A + 65536 = A % 65536) := by unfold Hid; omega
              go_wp2_with (first
                | (go_at_call 34; refine (ropBytes_any A _).mono ?_; rw [HKK.out]; rintro e w' ⟨rfl, rfl⟩)
                | (at_builtin; refine wp_app elemU8 rfl (.tmp 37) (.tmp 41) rfl rfl (hown2.alloc _) rfl (Rd.new _ [_] _) rfl (one1 _ _) (by simp) (by simp) (by have := hbel2.size; simp; omega) ?_; intro A3 n3 c3 w3 hown3 hg3; have hb3 := below_own (hbel2.alloc hbel2.size (.cells #[.int .u8 ((A + 65536) / 256)] 5)) hg3 (hown2.alloc _) (Nat.le_refl _) (by have := hbel2.size; simp; omega))
                | (at_builtin; refine wp_app elemU8 rfl (.tmp 46) (.tmp 50) rfl rfl (hown3.alloc _) rfl (Rd.new _ [_] _) rfl (one1 _ _) (by simp) (by simp) (by have := hb3.size; simp; omega) ?_; intro A4 n4 c4 w4 hown4 hg4))
              go_ret
              exact ⟨A4, n4, c4, rfl, hown4.cast (by rw [← hfin2.out HKK.out _ hu.out]; simp [cb]), below_own (hb3.alloc hb3.size _) hg4 (hown3.alloc _) (Nat.le_refl _) (by have := hb3.size; simp; omega)⟩
            · have hu : Hid (A = A % 65536) := by unfold Hid; omega
              go_wp2_with (first
                | (go_at_call 34; refine (ropBytes_any A _).mono ?_; rw [HKK.out]; rintro e w' ⟨rfl, rfl⟩)
                | (at_builtin; refine wp_app elemU8 rfl (.tmp 37) (.tmp 41) rfl rfl (hown2.alloc _) rfl (Rd.new _ [_] _) rfl (one1 _ _) (by simp) (by simp) (by have := hbel2.size; simp; omega) ?_; intro A3 n3 c3 w3 hown3 hg3; have hb3 := below_own (hbel2.alloc hbel2.size (.cells #[.int .u8 (A / 256)] 5)) hg3 (hown2.alloc _) (Nat.le_refl _) (by have := hbel2.size; simp; omega))
                | (at_builtin; refine wp_app elemU8 rfl (.tmp 46) (.tmp 50) rfl rfl (hown3.alloc _) rfl (Rd.new _ [_] _) rfl (one1 _ _) (by simp) (by simp) (by have := hb3.size; simp; omega) ?_; intro A4 n4 c4 w4 hown4 hg4))
              go_ret
              exact ⟨A4, n4, c4, rfl, hown4.cast (by rw [← hfin2.out HKK.out _ hu.out]; simp [cb]), below_own (hb3.alloc hb3.size _) hg4 (hown3.alloc _) (Nat.le_refl _) (by have := hb3.size; simp; omega)⟩
      | false =>
        have hA0 := hW0.out hh
        have HH := Lib.hid hh
        clear hh
        subst hA0
        obtain rfl : k = 0 := by rw [← HKK.out]; rfl
        go_enter Try.func18, Try.ntmps18
        go_wp2_with fail
        refine (rwrap_any arg _).mono ?_
        rintro e w' ⟨rfl, rfl⟩
        go_wp2_with fail
        refine (rhas_any op _).mono ?_
        rw [HH.out]
        rintro e w1 ⟨rfl, hb1⟩
        have hbel1 := below_call hbx hb1
        obtain ⟨hc1, hf1⟩ := bcell hb1
        have hbs := hbel1.size
        go_wp2_with fail
        have W1 : IntKind.i64.wrap (4 * op) = 4 * op := IntWalk.i64_in _ (by omega)
        have W3 : IntKind.u8.wrap (4 * op) = 4 * op := by simp [IntKind.wrap, IntKind.bits, IntKind.signed]; omega
        go_region_with (go_at_call 34; go_must (refine (ropBytes_any 0 _).mono ?_; rw [HKK.out]; rintro e w' ⟨rfl, rfl⟩))
        all_goals
          clear W1 W3
          clear hc1 hf1
          have hbel2 := (hbel1.alloc hbs (.cells #[.int .u8 (4 * op)] 5)).drew
          have hown2 : Own (w1.alloc (.cells #[.int .u8 (4 * op)] 5)).drew w.heap.size 5 (.slice (some ⟨w1.heap.size, 0, none⟩) 1 1) (cb .u8 [4 * op]) := (Own.new w1 [.int .u8 (4 * op)] _ 1 rfl hbs (by omega)).drew
          have hfin0 : Hid ([4 * op] = opEnc op arg) := by unfold Hid; rw [HE.out 0 HKK.out _ (argB_0 HKK.out)]; simp
          go_wp2_with (go_at_call 34; refine (ropBytes_any 0 _).mono ?_; rw [HKK.out]; rintro e w' ⟨rfl, rfl⟩)
          go_ret
          exact ⟨_, _, _, rfl, hown2.cast (by rw [← hfin0.out]), hbel2⟩
end Go.Proofs.Ytfalhlnmjllfpaa
