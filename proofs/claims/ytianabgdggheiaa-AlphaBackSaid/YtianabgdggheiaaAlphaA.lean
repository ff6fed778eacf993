/- The contracts of letter.IsText, clewref04.IsText and of a byte's codes. -/
import Derived.Test.YtianabgdggheiaaAlphaSpec
import Derived.Test.YtianabgdggheiaaProg
import Derived.KernelRfl
import Derived.Outline
import Derived.Laws.RangeAny
import Derived.Laws.RangeString
namespace Go.Proofs.Ytianabgdggheiaa
open Go.RowKit Go.IntWalk
set_option maxRecDepth 100000
set_option linter.unusedVariables false

set_option maxHeartbeats 400000 in
theorem anyByte_any (m : Int) (w : World) (h0 : 0 ≤ m) (h1 : m < 256) : Calls Try.prog 31 #[.int .u8 m] w fun e w' => e = .returned (.bool (tOkB m)) ∧ w = w' := by
  have key : Hid (tOkB m = (decide (32 ≤ m) && decide (m ≤ 126) || m == 10)) := by
    unfold Hid tOkB
    rw [Bool.eq_iff_iff]; simp
  go_enter Try.func31, Try.ntmps31
  go_wp2
  all_goals
    go_ret
    refine ⟨congrArg Ending.returned (congrArg Value.bool ?_ : Value.bool _ = Value.bool _), rfl⟩
    rw [key.out, Bool.eq_iff_iff]
    simp
    omega

set_option maxHeartbeats 400000 in
theorem risText_any (s : ByteArray) (w : World) (hs : s.size ≤ 1000000000) : Calls Try.prog 19 #[.string s] w fun e w' => e = .returned (.bool (isTextB (tB s))) ∧ w = w' := by
  go_enter Try.func19, Try.ntmps19
  go_wp2
  go_loop [3] (fun i => ∃ k : Nat, k ≤ s.size ∧ i = .int .i64 k ∧ Hid (((tB s).take k).all tOkB = true)) (fun i => s.size - (intOf i).toNat)
  case atStart => exact ⟨0, by omega, rfl, by unfold Hid; rfl⟩
  case round =>
    obtain ⟨k, hk, rfl, hq⟩ := hrel
    by_cases hlt : k < s.size
    · have hts := Lib.hid (tB_take s k hlt)
      have hall : Hid (tOkB s[k].toNat = true → ((tB s).take (k + 1)).all tOkB = true) := fun h => by
        rw [hts.out, List.all_append, hq.out]; simpa using h
      have hno : Hid (tOkB s[k].toNat = false → isTextB (tB s) = false) := fun h => by
        cases hb : isTextB (tB s) with
        | false => rfl
        | true =>
          have := isText_take hb (k := k) (by rw [tB_len]; exact hlt)
          rw [tB_get s k hlt] at this
          rw [this] at h; cases h
      have hbd : (s[k].toNat : Int) < 256 := by have := s[k].toNat_lt; omega
      rcases (show ((s[k].toNat : Int) < 32 ∧ (s[k].toNat : Int) ≠ 10) ∨ (s[k].toNat : Int) = 10 ∨ 126 < (s[k].toNat : Int) ∨ (32 ≤ (s[k].toNat : Int) ∧ (s[k].toNat : Int) ≤ 126) by omega) with ⟨h1, h2⟩ | h2 | h1 | ⟨h1, h2⟩
      · have e1 : ((s[k].toNat : Int) != 10) = true := by simpa using h2
        have e2 : Hid (tOkB s[k].toNat = false) := by unfold Hid tOkB; simp; omega
        clear h2
        go_wp2
        go_ret
        exact ⟨by rw [hno.out e2.out]; rfl, rfl⟩
      · have e1 : ((s[k].toNat : Int) != 10) = false := by simpa using h2
        have e2 : Hid (tOkB s[k].toNat = true) := by unfold Hid tOkB; simp; omega
        have h3 : (s[k].toNat : Int) < 32 := by omega
        clear h2
        go_wp2
        go_round
        case rel => exact ⟨k + 1, by omega, by go_num, hall.out e2.out⟩
        case measure => simp [intOf]; omega
      · have e1 : ((s[k].toNat : Int) != 10) = true := by simp; omega
        have e2 : Hid (tOkB s[k].toNat = false) := by unfold Hid tOkB; simp; omega
        have h3 : 32 ≤ (s[k].toNat : Int) := by omega
        go_wp2
        go_ret
        exact ⟨by rw [hno.out e2.out]; rfl, rfl⟩
      · have e2 : Hid (tOkB s[k].toNat = true) := by unfold Hid tOkB; simp; omega
        go_wp2
        go_round
        case rel => exact ⟨k + 1, by omega, by go_num, hall.out e2.out⟩
        case measure => simp [intOf]; omega
    · obtain rfl : k = s.size := by omega
      have hq2 : Hid (isTextB (tB s) = decide (s.size ≤ 1024)) := by
        have := hq.out
        rw [List.take_of_length_le (by rw [tB_len]; omega)] at this
        unfold Hid isTextB
        rw [this, tB_len, Bool.and_true]
      clear hq
      go_wp2
      go_ret
      exact ⟨by rw [hq2.out]; simp; omega, rfl⟩


set_option maxHeartbeats 800000 in
/-- letter.all with one sort of bytes, told by a function value's contract. -/
theorem all_any (K : Nat) (P : Int → Bool) (hcall : ∀ (args : Array Value) (w : World), Sem.run Try.prog (callFunc K args) w = .ok (.enter K args) w) (hK : ∀ (m : Int) (w : World), 0 ≤ m → m < 256 → Calls Try.prog K #[.int .u8 m] w fun e w' => e = .returned (.bool (P m)) ∧ w = w') (s : ByteArray) (most : Int) (w : World) (hs : s.size ≤ 1000000000) (h1 : 1 ≤ s.size) :
    Calls Try.prog 32 #[.string s, .int .i64 most, .func (.func K) #[] #[], .func (.func K) #[] #[]] w fun e w' => e = .returned (.bool (decide ((s.size : Int) ≤ most) && (tB s).all P)) ∧ w = w' := by
  have HK := Lib.hid hK
  clear hK
  by_cases hm : most < s.size
  · go_enter Try.func32, Try.ntmps32
    go_wp2
    go_ret
    exact ⟨by simp; omega, rfl⟩
  · have hts0 := tB_get s 0 (by omega) (by rw [tB_len]; omega)
    have hb0 : (s[0].toNat : Int) < 256 := by have := s[0].toNat_lt; omega
    have hb00 : (0 : Int) ≤ s[0].toNat := by omega
    cases hp0 : P s[0].toNat with
    | false =>
      have hfin : Hid ((tB s).all P = false) := by
        unfold Hid
        rw [List.all_eq_false]
        exact ⟨_, List.getElem_mem (n := 0) (by rw [tB_len]; omega), by rw [hts0, hp0]; simp⟩
      have HP := Lib.hid hp0
      clear hts0 hp0
      go_enter Try.func32, Try.ntmps32
      go_wp2_with fail
      refine (HK.out (s[0].toNat : Int) w hb00 hb0).mono ?_
      rw [HP.out]
      rintro e w' ⟨rfl, rfl⟩
      go_wp2
      go_ret
      exact ⟨by rw [hfin.out]; simp, rfl⟩
    | true =>
      have HP := Lib.hid hp0
      clear hts0 hp0
      go_enter Try.func32, Try.ntmps32
      go_wp2_with fail
      refine (HK.out (s[0].toNat : Int) w hb00 hb0).mono ?_
      rw [HP.out]
      rintro e w' ⟨rfl, rfl⟩
      go_wp2_with fail
      go_loop [28] (fun i => ∃ k : Nat, k ≤ s.size ∧ i = .int .i64 k ∧ Hid (((tB s).take k).all P = true)) (fun i => s.size - (intOf i).toNat)
      case atStart => exact ⟨0, by omega, rfl, by unfold Hid; rfl⟩
      case round =>
        obtain ⟨k, hk, rfl, hq⟩ := hrel
        by_cases hlt : k < s.size
        · have hts := Lib.hid (tB_take s k hlt)
          have hgt := Lib.hid (tB_get s k hlt (by rw [tB_len]; omega))
          have hb1 : (s[k].toNat : Int) < 256 := by have := s[k].toNat_lt; omega
          have hb10 : (0 : Int) ≤ s[k].toNat := by omega
          cases hp1 : P s[k].toNat with
          | false =>
            have hfin : Hid ((tB s).all P = false) := by
              unfold Hid
              rw [List.all_eq_false]
              exact ⟨_, List.getElem_mem (n := k) (by rw [tB_len]; omega), by rw [hgt.out, hp1]; simp⟩
            have HP1 := Lib.hid hp1
            clear hp1
            go_wp2_with fail
            refine (HK.out (s[k].toNat : Int) w hb10 hb1).mono ?_
            rw [HP1.out]
            rintro e w' ⟨rfl, rfl⟩
            go_wp2
            go_ret
            exact ⟨by rw [hfin.out]; simp, rfl⟩
          | true =>
            have HP1 := Lib.hid hp1
            clear hp1
            go_wp2_with fail
            refine (HK.out (s[k].toNat : Int) w hb10 hb1).mono ?_
            rw [HP1.out]
            rintro e w' ⟨rfl, rfl⟩
            go_wp2_with fail
            go_round
            case rel => exact ⟨k + 1, by omega, by go_num, by unfold Hid; rw [hts.out, List.all_append, hq.out]; simpa using HP1.out⟩
            case measure => simp [intOf]; omega
        · obtain rfl : k = s.size := by omega
          have hfin : Hid ((tB s).all P = true) := by
            have := hq.out
            rwa [List.take_of_length_le (by rw [tB_len]; omega)] at this
          go_wp2
          go_ret
          exact ⟨by rw [hfin.out]; simp, rfl⟩

theorem callAny (args : Array Value) (w : World) : Sem.run Try.prog (callFunc 31 args) w = .ok (.enter 31 args) w := rfl
set_option maxHeartbeats 400000 in
theorem isText_any (s : ByteArray) (w : World) (hs : s.size ≤ 1000000000) : Calls Try.prog 22 #[.string s] w fun e w' => e = .returned (.bool (isTextB (tB s))) ∧ w = w' := by
  have hsl := toList_len s
  by_cases h0 : s.toList = []
  · have hfin : Hid (isTextB (tB s) = true) := by
      unfold Hid
      rw [toList_nil.1 h0]; decide
    go_enter Try.func22, Try.ntmps22
    go_wp2_with fail
    go_ret
    exact ⟨by rw [hfin.out]; rfl, rfl⟩
  · have h1 : 1 ≤ s.size := by
      have := List.length_pos_iff.2 h0
      omega
    have hie : s.toList.isEmpty = false := by simpa using h0
    have hfin : Hid (isTextB (tB s) = (decide ((s.size : Int) ≤ 1024) && (tB s).all tOkB)) := by
      unfold Hid isTextB
      rw [tB_len]
      congr 1
      simp; omega
    clear hsl
    go_enter Try.func22, Try.ntmps22
    go_wp2_with fail
    refine (all_any 31 tOkB callAny anyByte_any s 1024 w hs h1).mono ?_
    rintro e w' ⟨rfl, rfl⟩
    go_wp2
    go_ret
    exact ⟨by rw [hfin.out]; rfl, rfl⟩
end Go.Proofs.Ytianabgdggheiaa
