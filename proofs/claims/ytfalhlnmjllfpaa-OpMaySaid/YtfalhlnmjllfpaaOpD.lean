/- The contracts of Encode, the program's and the reference's. -/
import Derived.Test.YtfalhlnmjllfpaaOpC
import Derived.Test.YtfalhlnmjllfpaaConcat
namespace Go.Proofs.Ytfalhlnmjllfpaa
open Go.RowKit Go.IntWalk
set_option maxRecDepth 100000
set_option linter.unusedVariables false

theorem opEnc_no (op arg : Int) (h : ¬ (knB op = true ∧ op ≠ 38)) : opEnc op arg = [] := by unfold opEnc; rw [if_neg h]
theorem opEnc_yes (op arg : Int) (h : knB op = true) (h' : op ≠ 38) (A : Int) (hA : insA op arg = A) (k : Nat) (hk : sizeN A = k) (l : List Int) (hl : argB A = l) : opEnc op arg = (4 * op + k) :: l := by
  unfold opEnc; rw [if_pos ⟨h, h'⟩, hA, hk, hl]
theorem argB_0 {n : Int} (h : sizeN n = 0) : argB n = [] := by unfold argB; rw [h]; rfl
theorem argB_1 {n : Int} (h : sizeN n = 1) : argB n = [n % 256] := by unfold argB; rw [h]; rfl
theorem argB_2 {n : Int} (h : sizeN n = 2) : argB n = [n / 256 % 256, n % 256] := by unfold argB; rw [h]; rfl

theorem below_call {w w1 w2 : World} (h : Below w.heap.size w w1) (h' : Below w1.heap.size w1 w2) : Below w.heap.size w w2 := h.trans (h'.mono h.size)
theorem rd_at {w W : World} {A : Option Addr} {xs : List Value} (h : Rd w w.heap.size A xs) (hb : Below w.heap.size w W) : Rd W W.heap.size A xs := (h.below hb).more hb.size
theorem ret_nil_on {w W : World} {e : TypeId} (hb : Below w.heap.size w W) (xs : List Value) (hx : [] = xs) : RetOwn w e xs (.returned (.slice none 0 0)) W := by
  subst hx
  exact ⟨_, _, _, rfl, Own.nil _ _ _, hb⟩

/-- Two parts of a block that the caller has just made. -/
theorem concat_pair (A1 A2 : Option Addr) (n1 n2 c1 c2 g : Nat) (xs ys : List Int) (W : World) (h1 : Rd W W.heap.size A1 (cb .u8 xs)) (h2 : Rd W W.heap.size A2 (cb .u8 ys)) (hn1 : n1 = xs.length) (hn2 : n2 = ys.length) (hg : g = W.heap.size) (hl : xs.length + ys.length ≤ 1000000000) :
    Calls Try.prog 35 #[.slice (some ⟨g, 0, none⟩) 2 2] (W.alloc (.cells #[.slice A1 n1 c1, .slice A2 n2 c2] 29)).drew (RetOwn W 5 (cb .u8 (xs ++ ys))) := by
  subst hn1; subst hn2; subst hg
  have hb : Below W.heap.size W (W.alloc (.cells #[.slice A1 xs.length c1, .slice A2 ys.length c2] 29)) := (Below.refl _ _).alloc (Nat.le_refl _) _
  refine (concat_any [⟨A1, c1, cb .u8 xs⟩, ⟨A2, c2, cb .u8 ys⟩] _ 2 _ _ rfl ?_ ?_ ?_ (by simp [sumLen]; omega) (by omega)).mono ?_
  · have := (Rd.new W [.slice A1 xs.length c1, .slice A2 ys.length c2] 29).drew
    simpa [Part.val] using this
  · intro p hp
    simp only [List.mem_cons, List.not_mem_nil, or_false] at hp
    rcases hp with rfl | rfl
    · exact ((h1.below hb).more (by simp)).drew
    · exact ((h2.below hb).more (by simp)).drew
  · intro p hp
    simp only [List.mem_cons, List.not_mem_nil, or_false] at hp
    rcases hp with rfl | rfl
    · exact cb_one _ _
    · exact cb_one _ _
  rintro e w1 ⟨A3, n3, c3, rfl, hown, hb1⟩
  exact ⟨A3, n3, c3, rfl, by simpa [cb_append] using hown.less (B := W.heap.size) (by simp), hb.drew.trans (hb1.mono (by simp))⟩
/-- The parts of a block of three bytes. -/
theorem three_rd (w : World) (x y z : Int) : Rd (w.alloc (.cells #[.int .u8 x, .int .u8 y, .int .u8 z] 5)) (w.alloc (.cells #[.int .u8 x, .int .u8 y, .int .u8 z] 5)).heap.size (some ⟨w.heap.size, 0, none⟩) (cb .u8 [x, y, z]) := Rd.new w [.int .u8 x, .int .u8 y, .int .u8 z] _
theorem three_1 (w : World) (x y z : Int) : Rd (w.alloc (.cells #[.int .u8 x, .int .u8 y, .int .u8 z] 5)) (w.alloc (.cells #[.int .u8 x, .int .u8 y, .int .u8 z] 5)).heap.size (some ⟨w.heap.size, 0, none⟩) (cb .u8 [x]) := (three_rd w x y z).take 1
theorem three_d1 (w : World) (x y z : Int) : Rd (w.alloc (.cells #[.int .u8 x, .int .u8 y, .int .u8 z] 5)) (w.alloc (.cells #[.int .u8 x, .int .u8 y, .int .u8 z] 5)).heap.size (some ⟨w.heap.size, 1, none⟩) (cb .u8 [y, z]) := by
  have := (three_rd w x y z).drop 1 3 (by simp) (by simp)
  simpa [Addr.add_lit, cb] using this
theorem three_d2 (w : World) (x y z : Int) : Rd (w.alloc (.cells #[.int .u8 x, .int .u8 y, .int .u8 z] 5)) (w.alloc (.cells #[.int .u8 x, .int .u8 y, .int .u8 z] 5)).heap.size (some ⟨w.heap.size, 2, none⟩) (cb .u8 [z]) := by
  have := (three_rd w x y z).drop 2 3 (by simp) (by simp)
  simpa [Addr.add_lit, cb] using this
/-- What 'Encode' gives back, out of its parts. -/
theorem enc_ret {w w1 w2 : World} {l l' : List Int} {b : List Value} {e : Ending} (hbel : Below w.heap.size w w1) (h : RetOwn (w1.alloc (.cells b.toArray 5)) 5 (cb .u8 l) e w2) (hl : l = l') : RetOwn w 5 (cb .u8 l') e w2 := by
  subst hl
  obtain ⟨A3, n3, c3, rfl, hown, hb⟩ := h
  have hb2 := hbel.alloc hbel.size (.cells b.toArray 5)
  exact ⟨A3, n3, c3, rfl, hown.less (by have := hbel.size; simp; omega), hb2.trans (hb.mono (by have := hbel.size; simp; omega))⟩

set_option maxHeartbeats 3200000 in
theorem enc_any (op arg : Int) (w : World) : Calls Try.prog 17 #[.agg #[.int .i64 op, .int .i64 arg]] w (RetOwn w 5 (cb .u8 (opEnc op arg))) := by
  have hbx : Below w.heap.size w (w.alloc (.cells #[.int .i64 op, .int .i64 arg] 28)) := (Below.refl _ _).alloc (Nat.le_refl _) _
  cases hk : knB op with
  | false =>
    have hfin : Hid ([] = cb .u8 (opEnc op arg)) := by unfold Hid; rw [opEnc_no op arg (by rw [hk]; simp)]; rfl
    have HK := Lib.hid hk
    clear hk
    go_enter Try.func17, Try.ntmps17
    go_wp2_with fail
    refine (known_any op _).mono ?_
    rw [HK.out]
    rintro e w' ⟨rfl, rfl⟩
    go_wp2_with fail
    go_ret
    exact ret_nil_on hbx _ hfin.out
  | true =>
    have hob : 1 ≤ op ∧ op ≤ 38 := by simpa [knB] using hk
    by_cases h38 : op = 38
    · have hfin : Hid ([] = cb .u8 (opEnc op arg)) := by unfold Hid; rw [opEnc_no op arg (fun h => h.2 h38)]; rfl
      have e38 : (op == 38) = true := by simpa using h38
      have HK := Lib.hid hk
      clear hk h38 hob
      go_enter Try.func17, Try.ntmps17
      go_wp2_with fail
      refine (known_any op _).mono ?_
      rw [HK.out]
      rintro e w' ⟨rfl, rfl⟩
      go_wp2_with fail
      go_ret
      exact ret_nil_on hbx _ hfin.out
    · have e38 : (op == 38) = false := by simpa using h38
      obtain ⟨hob1, hob2⟩ := hob
      obtain ⟨A, hA⟩ : ∃ A, insA op arg = A := ⟨_, rfl⟩
      have hAb := insA_bd op arg
      rw [hA] at hAb
      obtain ⟨hA1, hA2⟩ := hAb
      have hy := opEnc_yes op arg hk h38 A hA
      have hsz := sizeN_le A
      obtain ⟨k, hkk⟩ : ∃ k, sizeN A = k := ⟨_, rfl⟩
      have HE := Lib.hid hy
      have HA := Lib.hid hA
      have HK := Lib.hid hk
      have HKK := Lib.hid hkk
      rw [hkk] at hsz
      clear hk h38 hA hy hkk
      cases hh : hasB op with
      | true =>
        have hW : Hid (wrap16 arg = A) := by unfold Hid; rw [← HA.out]; unfold insA; rw [hh]; rfl
        have HH := Lib.hid hh
        clear hh
        go_enter Try.func17, Try.ntmps17
        go_wp2_with fail
        refine (known_any op _).mono ?_
        rw [HK.out]
        rintro e w' ⟨rfl, rfl⟩
        go_wp2_with fail
        refine (has_any op _).mono ?_
        rw [HH.out]
        rintro e w1 ⟨rfl, hb1⟩
        have hbel1 := below_call hbx hb1
        obtain ⟨hc1, hf1⟩ := bcell hb1
        go_wp2_with fail
        refine (wrap_any arg _).mono ?_
        rw [hW.out]
        rintro e w' ⟨rfl, rfl⟩
        go_wp2_with fail
        refine (opSize_any A _).mono ?_
        rw [HKK.out]
        rintro e w' ⟨rfl, rfl⟩
        rcases (show k = 0 ∨ k = 1 ∨ k = 2 by omega) with rfl | rfl | rfl
        · have hfin : Hid ([4 * op] ++ [] = opEnc op arg) := by unfold Hid; rw [HE.out 0 HKK.out _ (argB_0 HKK.out)]; simp
          go_wp2_with fail
          go_region_with (go_at_call 35; go_must (refine (concat_pair (some ⟨w1.heap.size, 0, none⟩) (some ⟨w1.heap.size, 0, none⟩) 1 0 3 0 _ [4 * op] [] _ (three_1 w1 _ _ _) (Rd.nil _ _ _) rfl rfl ?_ ?_).mono ?_; (focus (simp; done)); (focus (simp; done)); rintro e w2 ⟨A3, n3, c3, rfl, hown, hb⟩))
          all_goals
            go_wp2_with fail
            go_ret
            exact enc_ret hbel1 ⟨A3, n3, c3, rfl, hown, hb⟩ hfin.out
        · have hfin : Hid ([4 * op + (1 : Int)] ++ [A % 256] = opEnc op arg) := (HE.out 1 HKK.out _ (argB_1 HKK.out)).symm
          go_wp2_with fail
          go_region_with (go_at_call 35; go_must (refine (concat_pair (some ⟨w1.heap.size, 0, none⟩) (some ⟨w1.heap.size, 2, none⟩) 1 1 3 1 _ [4 * op + 1] [A % 256] _ (three_1 w1 _ _ _) (three_d2 w1 _ _ _) rfl rfl ?_ ?_).mono ?_; (focus (simp; done)); (focus (simp; done)); rintro e w2 ⟨A3, n3, c3, rfl, hown, hb⟩))
          all_goals
            go_wp2_with fail
            go_ret
            exact enc_ret hbel1 ⟨A3, n3, c3, rfl, hown, hb⟩ hfin.out
        · have hfin : Hid ([4 * op + (2 : Int)] ++ [A / 256 % 256, A % 256] = opEnc op arg) := (HE.out 2 HKK.out _ (argB_2 HKK.out)).symm
          go_wp2_with fail
          go_region_with (go_at_call 35; go_must (refine (concat_pair (some ⟨w1.heap.size, 0, none⟩) (some ⟨w1.heap.size, 1, none⟩) 1 2 3 2 _ [4 * op + 2] [A / 256 % 256, A % 256] _ (three_1 w1 _ _ _) (three_d1 w1 _ _ _) rfl rfl ?_ ?_).mono ?_; (focus (simp; done)); (focus (simp; done)); rintro e w2 ⟨A3, n3, c3, rfl, hown, hb⟩))
          all_goals
            go_wp2_with fail
            go_ret
            exact enc_ret hbel1 ⟨A3, n3, c3, rfl, hown, hb⟩ hfin.out
      | false =>
        have hW : Hid (0 = A) := by unfold Hid; rw [← HA.out]; unfold insA; rw [hh]; rfl
        have HH := Lib.hid hh
        clear hh
        go_enter Try.func17, Try.ntmps17
        go_wp2_with fail
        refine (known_any op _).mono ?_
        rw [HK.out]
        rintro e w' ⟨rfl, rfl⟩
        go_wp2_with fail
        refine (has_any op _).mono ?_
        rw [HH.out]
        rintro e w1 ⟨rfl, hb1⟩
        have hbel1 := below_call hbx hb1
        obtain ⟨hc1, hf1⟩ := bcell hb1
        go_wp2_with fail
        rw [hW.out]
        refine (opSize_any A _).mono ?_
        rw [HKK.out]
        rintro e w' ⟨rfl, rfl⟩
        rcases (show k = 0 ∨ k = 1 ∨ k = 2 by omega) with rfl | rfl | rfl
        · have hfin : Hid ([4 * op] ++ [] = opEnc op arg) := by unfold Hid; rw [HE.out 0 HKK.out _ (argB_0 HKK.out)]; simp
          go_wp2_with fail
          go_region_with (go_at_call 35; go_must (refine (concat_pair (some ⟨w1.heap.size, 0, none⟩) (some ⟨w1.heap.size, 0, none⟩) 1 0 3 0 _ [4 * op] [] _ (three_1 w1 _ _ _) (Rd.nil _ _ _) rfl rfl ?_ ?_).mono ?_; (focus (simp; done)); (focus (simp; done)); rintro e w2 ⟨A3, n3, c3, rfl, hown, hb⟩))
          all_goals
            go_wp2_with fail
            go_ret
            exact enc_ret hbel1 ⟨A3, n3, c3, rfl, hown, hb⟩ hfin.out
        · have hfin : Hid ([4 * op + (1 : Int)] ++ [A % 256] = opEnc op arg) := (HE.out 1 HKK.out _ (argB_1 HKK.out)).symm
          go_wp2_with fail
          go_region_with (go_at_call 35; go_must (refine (concat_pair (some ⟨w1.heap.size, 0, none⟩) (some ⟨w1.heap.size, 2, none⟩) 1 1 3 1 _ [4 * op + 1] [A % 256] _ (three_1 w1 _ _ _) (three_d2 w1 _ _ _) rfl rfl ?_ ?_).mono ?_; (focus (simp; done)); (focus (simp; done)); rintro e w2 ⟨A3, n3, c3, rfl, hown, hb⟩))
          all_goals
            go_wp2_with fail
            go_ret
            exact enc_ret hbel1 ⟨A3, n3, c3, rfl, hown, hb⟩ hfin.out
        · have hfin : Hid ([4 * op + (2 : Int)] ++ [A / 256 % 256, A % 256] = opEnc op arg) := (HE.out 2 HKK.out _ (argB_2 HKK.out)).symm
          go_wp2_with fail
          go_region_with (go_at_call 35; go_must (refine (concat_pair (some ⟨w1.heap.size, 0, none⟩) (some ⟨w1.heap.size, 1, none⟩) 1 2 3 2 _ [4 * op + 2] [A / 256 % 256, A % 256] _ (three_1 w1 _ _ _) (three_d1 w1 _ _ _) rfl rfl ?_ ?_).mono ?_; (focus (simp; done)); (focus (simp; done)); rintro e w2 ⟨A3, n3, c3, rfl, hown, hb⟩))
          all_goals
            go_wp2_with fail
            go_ret
            exact enc_ret hbel1 ⟨A3, n3, c3, rfl, hown, hb⟩ hfin.out
end Go.Proofs.Ytfalhlnmjllfpaa
