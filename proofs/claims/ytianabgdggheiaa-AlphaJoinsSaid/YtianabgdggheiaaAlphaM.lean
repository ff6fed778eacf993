/- The law AlphaJoins, walked. -/
import Derived.Test.YtianabgdggheiaaAlphaK
import Derived.Test.YtianabgdggheiaaAlphaLaw
import Derived.Test.YtianabgdggheiaaGuards
namespace Go.Proofs.Ytianabgdggheiaa
open Go.RowKit Go.IntWalk
set_option maxRecDepth 100000
set_option linter.unusedVariables false

theorem codes_of (s : ByteArray) (h : isTextB (tB s) = true) : aTextCodes (tB s) = (aCodes (tB s), 0) := by unfold aTextCodes; rw [h]; rfl
theorem isText_add {l m : List Int} (h : isTextB l = true) (h' : isTextB m = true) (hl : l.length ≤ 500) (hm : m.length ≤ 500) : isTextB (l ++ m) = true := by
  simp only [isTextB, Bool.and_eq_true] at *
  refine ⟨by simp; omega, ?_⟩
  rw [List.all_append, h.2, h'.2]; rfl

set_option maxHeartbeats 3200000 in
theorem alphaJoins_walk (a b : ByteArray) (w : World) (ha : a.size ≤ maxLen) (hb : b.size ≤ maxLen) :
    Calls Try.prog 6 #[.string a, .string b] w fun e w' => e = .returned (.bool true) ∧ Below w.heap.size w w' := by
  unfold maxLen at ha hb
  by_cases h1 : 500 < a.size
  · have e1 : decide (500 < (a.size : Int)) = true := by simp; omega
    go_enter Try.func6, Try.ntmps6
    go_wp2_with (go_at_call 9; refine (awake_any _).mono ?_; rintro e w1 ⟨rfl, hb1⟩)
    go_ret
    exact ⟨rfl, hb1⟩
  · have e1 : decide (500 < (a.size : Int)) = false := by simp; omega
    by_cases h2 : 500 < b.size
    · have e2 : decide (500 < (b.size : Int)) = true := by simp; omega
      go_enter Try.func6, Try.ntmps6
      go_wp2_with (go_at_call 9; refine (awake_any _).mono ?_; rintro e w1 ⟨rfl, hb1⟩)
      go_ret
      exact ⟨rfl, hb1⟩
    · have e2 : decide (500 < (b.size : Int)) = false := by simp; omega
      cases hta : isTextB (tB a) with
      | false =>
        have HA := Lib.hid hta
        clear hta
        go_enter Try.func6, Try.ntmps6
        go_wp2_with fail
        refine (risText_any a w (by omega)).mono ?_
        rw [HA.out]
        rintro e w' ⟨rfl, rfl⟩
        go_wp2_with (go_at_call 9; refine (awake_any _).mono ?_; rintro e w1 ⟨rfl, hb1⟩)
        go_ret
        exact ⟨rfl, hb1⟩
      | true =>
        cases htb : isTextB (tB b) with
        | false =>
          have HA := Lib.hid hta
          have HB := Lib.hid htb
          clear hta htb
          go_enter Try.func6, Try.ntmps6
          go_wp2_with fail
          refine (risText_any a w (by omega)).mono ?_
          rw [HA.out]
          rintro e w' ⟨rfl, rfl⟩
          go_wp2_with fail
          refine (risText_any b w (by omega)).mono ?_
          rw [HB.out]
          rintro e w' ⟨rfl, rfl⟩
          go_wp2_with (go_at_call 9; refine (awake_any _).mono ?_; rintro e w1 ⟨rfl, hb1⟩)
          go_ret
          exact ⟨rfl, hb1⟩
        | true =>
          have hab : isTextB (tB (a ++ b)) = true := by
            rw [tB_append]
            exact isText_add hta htb (by rw [tB_len]; omega) (by rw [tB_len]; omega)
          have hca := Lib.hid (codes_of a hta)
          have hcb := Lib.hid (codes_of b htb)
          have hcab : Hid (aTextCodes (tB (a ++ b)) = (aCodes (tB a) ++ aCodes (tB b), 0)) := by
            unfold Hid
            rw [codes_of _ hab, tB_append, aCodes_append]
          have hcost : Hid ((aCodes (tB (a ++ b))).length = (aCodes (tB a)).length + (aCodes (tB b)).length) := by
            unfold Hid
            rw [tB_append, aCodes_append, List.length_append]
          have hla : (aCodes (tB a)).length ≤ 1500 := by have := aCodes_len (tB a); rw [tB_len] at this; omega
          have hlb : (aCodes (tB b)).length ≤ 1500 := by have := aCodes_len (tB b); rw [tB_len] at this; omega
          have hsab : (a ++ b).size ≤ 100000000 := by rw [← tB_len, tB_append, List.length_append, tB_len, tB_len]; omega
          have hinj : Hid ((aCodes (tB a) == aCodes (tB b)) = (tB a == tB b)) := by
            unfold Hid
            rw [Bool.eq_iff_iff, beq_iff_eq, beq_iff_eq]
            exact ⟨aCodes_inj _ _ (isText_mem hta) (isText_mem htb), fun h => by rw [h]⟩
          have HA := Lib.hid hta
          have HB := Lib.hid htb
          clear hta htb hab
          go_enter Try.func6, Try.ntmps6
          go_wp2_with fail
          refine (risText_any a w (by omega)).mono ?_
          rw [HA.out]
          rintro e w' ⟨rfl, rfl⟩
          go_wp2_with fail
          refine (risText_any b w (by omega)).mono ?_
          rw [HB.out]
          rintro e w' ⟨rfl, rfl⟩
          go_wp2_with fail
          refine (codes_any a _ (by omega)).mono ?_
          rw [hca.out]
          rintro e w1 ⟨A1, n1, c1, rfl, hown1, hb1⟩
          go_wp2_with fail
          refine (codes_any b _ (by omega)).mono ?_
          rw [hcb.out]
          rintro e w2 ⟨A2, n2, c2, rfl, hown2, hb2⟩
          have hbel2 := below_call hb1 hb2
          go_wp2_with fail
          refine (codes_any (a ++ b) _ hsab).mono ?_
          rw [hcab.out]
          rintro e w3 ⟨A3, n3, c3, rfl, hown3, hb3⟩
          have hbel3 := below_call hbel2 hb3
          have hz1 : Hid (n1 = (aCodes (tB a)).length) := by unfold Hid; rw [hown1.rd.1]; simp
          have hz2 : Hid (n2 = (aCodes (tB b)).length) := by unfold Hid; rw [hown2.rd.1]; simp
          have hz3 : Hid (n3 = (aCodes (tB a) ++ aCodes (tB b)).length) := by unfold Hid; rw [hown3.rd.1]; simp
          have hr1 := rd_at hown1.rd.2.2 (below_call hb2 hb3)
          have hr2 := rd_at hown2.rd.2.2 hb3
          have hr3 := hown3.rd.2.2
          go_wp2_with (first
            | (at_builtin; refine wp_app_w elemInt rfl _ _ rfl rfl (Own.nil w3 w3.heap.size 3) rfl hr1 (by simpa using hz1.out) (cb_one _ _) (by simp; omega) (by simp; omega) (Nat.le_refl _) ?_; intro A4 n4 c4 w4 hown4 hg4; have hb4 := below_own (Below.refl w3.heap.size w3) hg4 (Own.nil w3 w3.heap.size 3) (Nat.le_refl _) (Nat.le_refl _); rw [List.nil_append] at hown4)
            | (at_builtin; refine wp_app_w elemInt rfl _ _ rfl rfl hown4 rfl (rd_at hr2 hb4) (by simpa using hz2.out) (cb_one _ _) (by simp; omega) (by simp; omega) hb4.size ?_; intro A5 n5 c5 w5 hown5 hg5; have hb5 := below_own hb4 hg5 hown4 (Nat.le_refl _) hb4.size))
          rw [← cb_append] at hown5
          have hz5 : Hid (n5 = (aCodes (tB a) ++ aCodes (tB b)).length) := by unfold Hid; rw [hown5.rd.1]; simp
          have hlen : (aCodes (tB a) ++ aCodes (tB b)).length ≤ 1000000000 := by simp; omega
          refine (sameInts_now A5 A3 n5 n3 c5 c3 (aCodes (tB a) ++ aCodes (tB b)) (aCodes (tB a) ++ aCodes (tB b)) true _ hown5.rd.2.2 (rd_at hr3 hb5) hz5.out hz3.out hlen (by simp)).mono ?_
          rintro e w6 ⟨rfl, hb6⟩
          have hb36 := below_call hb5 hb6
          go_wp2_with fail
          refine (sameInts_now A1 A2 n1 n2 c1 c2 (aCodes (tB a)) (aCodes (tB b)) (tB a == tB b) _ (rd_at hr1 hb36) (rd_at hr2 hb36) hz1.out hz2.out (by omega) hinj.out).mono ?_
          rintro e w7 ⟨rfl, hb7⟩
          have hb37 := below_call hb36 hb7
          have hbeq : ((tB a == tB b) == (a.toList == b.toList)) = true := by rw [toList_beq]; simp
          go_wp2_with fail
          refine (cost_any (a ++ b) _ hsab).mono ?_
          rw [hcost.out]
          rintro e w8 ⟨rfl, hb8⟩
          have hb38 := below_call hb37 hb8
          go_wp2_with fail
          refine (cost_any a _ (by omega)).mono ?_
          rintro e w9 ⟨rfl, hb9⟩
          have hb39 := below_call hb38 hb9
          go_wp2_with fail
          refine (cost_any b _ (by omega)).mono ?_
          rintro e w10 ⟨rfl, hb10⟩
          have hb310 := below_call hb39 hb10
          go_wp2_with fail
          refine (awake_any _).mono ?_
          rintro e w11 ⟨rfl, hb11⟩
          go_wp2
          go_ret
          exact ⟨rfl, below_call hbel3 (below_call hb310 hb11)⟩
end Go.Proofs.Ytianabgdggheiaa
