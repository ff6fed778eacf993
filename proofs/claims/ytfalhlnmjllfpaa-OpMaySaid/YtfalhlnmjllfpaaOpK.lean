/- The law OpNames, walked. -/
import Derived.Test.YtfalhlnmjllfpaaOpJ
namespace Go.Proofs.Ytfalhlnmjllfpaa
open Go.RowKit Go.IntWalk
set_option maxRecDepth 100000
set_option linter.unusedVariables false

theorem opOf_name (s : List Int) (h : 0 < opOf s) : opName (opOf s) = s := by
  unfold opOf at h ⊢
  split at h
  · rename_i k hk
    rw [List.idxOf?_eq_some_iff] at hk
    obtain ⟨h1, h2, _⟩ := hk
    have h39 : k < 39 := h1
    show opName (k : Int) = s
    unfold opName
    rw [show knB (k : Int) = true from by unfold knB; simp; omega]
    unfold nmAt
    simp only [if_true, Int.toNat_natCast, List.getD, List.getElem?_eq_getElem h1, Option.getD_some]
    simpa using h2
  · cases h
theorem opName_of (n : Int) (h : opName n ≠ []) : opOf (opName n) = n := by
  have hk : knB n = true := by
    cases hk : knB n with
    | true => rfl
    | false => unfold opName at h; rw [hk] at h; exact absurd rfl h
  have hb : 1 ≤ n ∧ n ≤ 38 := by simpa [knB] using hk
  have e : opName n = nmAt n.toNat := by unfold opName; rw [hk]; rfl
  rw [e, opOf_at (nmAt n.toNat) n.toNat (by omega) rfl]
  omega
theorem opOf_bd (s : List Int) : 0 ≤ opOf s ∧ opOf s ≤ 39 := by
  unfold opOf
  split
  · rename_i k hk
    rw [List.idxOf?_eq_some_iff] at hk
    have h39 : k < 39 := hk.1
    omega
  · omega

set_option maxHeartbeats 3200000 in
theorem opNames_walk (n : Int) (s : ByteArray) (w : World) (hn : (Lit.int .i64 n).wf = true) (hs : s.size ≤ maxLen) :
    Calls Try.prog 3 #[.int .i64 n, .string s] w fun e w' => e = .returned (.bool true) ∧ Below w.heap.size w w' := by
  unfold maxLen at hs
  clear hn
  by_cases h1 : 100 < s.size
  · go_enter Try.func3, Try.ntmps3
    go_wp2_with (go_at_call 8; refine (awake_any _).mono ?_; rintro e w1 ⟨rfl, hb1⟩)
    go_ret
    exact ⟨rfl, hb1⟩
  · obtain ⟨k, hk⟩ : ∃ k, opOf (tB s) = k := ⟨_, rfl⟩
    have hkn := opOf_name (tB s)
    have hnb := opName_of n
    have hbb := opName_bts n
    rw [hk] at hkn
    have HK := Lib.hid hk
    clear hk
    obtain ⟨X, hX⟩ : ∃ X, strOfNums (opName n) = X := ⟨_, rfl⟩
    have htX : tB X = opName n := by rw [← hX, tB_str hbb]
    have HX := Lib.hid hX
    have HTX := Lib.hid htX
    clear hX htX hbb
    by_cases hkp : 0 < k
    · have HKS : Hid (strOfNums (opName k) = s) := by unfold Hid; rw [hkn hkp, str_tB]
      by_cases hne : opName n = []
      · have HXE : Hid (X = ⟨#[]⟩) := by unfold Hid; rw [← HX.out, hne]; rfl
        clear hne hnb hkn
        go_enter Try.func3, Try.ntmps3
        go_wp2_with fail
        refine (name_any n _).mono ?_
        rw [HX.out]
        rintro e w1 ⟨rfl, hb1⟩
        go_wp2_with fail
        refine (rname_any n _).mono ?_
        rw [HX.out]
        rintro e w' ⟨rfl, rfl⟩
        go_wp2_with fail
        refine (of_any s _).mono ?_
        rw [HK.out]
        rintro e w2 ⟨rfl, hb2⟩
        have hB2 := below_call hb1 hb2
        go_wp2_with fail
        refine (rof_any s _).mono ?_
        rw [HK.out]
        rintro e w' ⟨rfl, rfl⟩
        go_wp2_with fail
        refine (has_any n _).mono ?_
        rintro e w3 ⟨rfl, hb3⟩
        have hB3 := below_call hB2 hb3
        go_wp2_with fail
        refine (rhas_any n _).mono ?_
        rintro e w4 ⟨rfl, hb4⟩
        have hB4 := below_call hB3 hb4
        go_wp2_with fail
        refine (of_any s _).mono ?_
        rw [HK.out]
        rintro e w5 ⟨rfl, hb5⟩
        have hB5 := below_call hB4 hb5
        go_wp2_with fail
        refine (name_any k _).mono ?_
        rw [HKS.out]
        rintro e w6 ⟨rfl, hb6⟩
        have hB6 := below_call hB5 hb6
        go_wp2_with fail
        refine (name_any n _).mono ?_
        rw [HX.out]
        rw [HXE.out]
        rintro e w7 ⟨rfl, hb7⟩
        have hB7 := below_call hB6 hb7
        go_wp2_with fail
        refine (awake_any _).mono ?_
        rintro e w8 ⟨rfl, hb8⟩
        have hB8 := below_call hB7 hb8
        go_wp2
        go_ret
        exact ⟨rfl, hB8⟩
      · have HOF := Lib.hid (hnb hne)
        have hxl : X.toList ≠ [] := fun h => hne (by rw [← HTX.out]; exact toList_nil.1 h)
        have e1 : (X.toList == []) = false := by simpa using hxl
        have e2 : X.toList.isEmpty = false := by simpa using hxl
        clear hne hnb hkn hxl
        go_enter Try.func3, Try.ntmps3
        go_wp2_with fail
        refine (name_any n _).mono ?_
        rw [HX.out]
        rintro e w1 ⟨rfl, hb1⟩
        go_wp2_with fail
        refine (rname_any n _).mono ?_
        rw [HX.out]
        rintro e w' ⟨rfl, rfl⟩
        go_wp2_with fail
        refine (of_any s _).mono ?_
        rw [HK.out]
        rintro e w2 ⟨rfl, hb2⟩
        have hB2 := below_call hb1 hb2
        go_wp2_with fail
        refine (rof_any s _).mono ?_
        rw [HK.out]
        rintro e w' ⟨rfl, rfl⟩
        go_wp2_with fail
        refine (has_any n _).mono ?_
        rintro e w3 ⟨rfl, hb3⟩
        have hB3 := below_call hB2 hb3
        go_wp2_with fail
        refine (rhas_any n _).mono ?_
        rintro e w4 ⟨rfl, hb4⟩
        have hB4 := below_call hB3 hb4
        go_wp2_with fail
        refine (of_any s _).mono ?_
        rw [HK.out]
        rintro e w5 ⟨rfl, hb5⟩
        have hB5 := below_call hB4 hb5
        go_wp2_with fail
        refine (name_any k _).mono ?_
        rw [HKS.out]
        rintro e w6 ⟨rfl, hb6⟩
        have hB6 := below_call hB5 hb6
        go_wp2_with fail
        refine (name_any n _).mono ?_
        rw [HX.out]
        rintro e w7 ⟨rfl, hb7⟩
        have hB7 := below_call hB6 hb7
        go_wp2_with fail
        refine (name_any n _).mono ?_
        rw [HX.out]
        rintro e w8 ⟨rfl, hb8⟩
        have hB8 := below_call hB7 hb8
        go_wp2_with fail
        refine (of_any X _).mono ?_
        rw [HTX.out]
        rw [HOF.out]
        rintro e w9 ⟨rfl, hb9⟩
        have hB9 := below_call hB8 hb9
        go_wp2_with fail
        refine (awake_any _).mono ?_
        rintro e w10 ⟨rfl, hb10⟩
        have hB10 := below_call hB9 hb10
        go_wp2
        go_ret
        exact ⟨rfl, hB10⟩
    · by_cases hne : opName n = []
      · have HXE : Hid (X = ⟨#[]⟩) := by unfold Hid; rw [← HX.out, hne]; rfl
        clear hne hnb hkn
        go_enter Try.func3, Try.ntmps3
        go_wp2_with fail
        refine (name_any n _).mono ?_
        rw [HX.out]
        rintro e w1 ⟨rfl, hb1⟩
        go_wp2_with fail
        refine (rname_any n _).mono ?_
        rw [HX.out]
        rintro e w' ⟨rfl, rfl⟩
        go_wp2_with fail
        refine (of_any s _).mono ?_
        rw [HK.out]
        rintro e w2 ⟨rfl, hb2⟩
        have hB2 := below_call hb1 hb2
        go_wp2_with fail
        refine (rof_any s _).mono ?_
        rw [HK.out]
        rintro e w' ⟨rfl, rfl⟩
        go_wp2_with fail
        refine (has_any n _).mono ?_
        rintro e w3 ⟨rfl, hb3⟩
        have hB3 := below_call hB2 hb3
        go_wp2_with fail
        refine (rhas_any n _).mono ?_
        rintro e w4 ⟨rfl, hb4⟩
        have hB4 := below_call hB3 hb4
        go_wp2_with fail
        refine (of_any s _).mono ?_
        rw [HK.out]
        rintro e w5 ⟨rfl, hb5⟩
        have hB5 := below_call hB4 hb5
        go_wp2_with fail
        refine (name_any n _).mono ?_
        rw [HX.out]
        rw [HXE.out]
        rintro e w6 ⟨rfl, hb6⟩
        have hB6 := below_call hB5 hb6
        go_wp2_with fail
        refine (awake_any _).mono ?_
        rintro e w7 ⟨rfl, hb7⟩
        have hB7 := below_call hB6 hb7
        go_wp2
        go_ret
        exact ⟨rfl, hB7⟩
      · have HOF := Lib.hid (hnb hne)
        have hxl : X.toList ≠ [] := fun h => hne (by rw [← HTX.out]; exact toList_nil.1 h)
        have e1 : (X.toList == []) = false := by simpa using hxl
        have e2 : X.toList.isEmpty = false := by simpa using hxl
        clear hne hnb hkn hxl
        go_enter Try.func3, Try.ntmps3
        go_wp2_with fail
        refine (name_any n _).mono ?_
        rw [HX.out]
        rintro e w1 ⟨rfl, hb1⟩
        go_wp2_with fail
        refine (rname_any n _).mono ?_
        rw [HX.out]
        rintro e w' ⟨rfl, rfl⟩
        go_wp2_with fail
        refine (of_any s _).mono ?_
        rw [HK.out]
        rintro e w2 ⟨rfl, hb2⟩
        have hB2 := below_call hb1 hb2
        go_wp2_with fail
        refine (rof_any s _).mono ?_
        rw [HK.out]
        rintro e w' ⟨rfl, rfl⟩
        go_wp2_with fail
        refine (has_any n _).mono ?_
        rintro e w3 ⟨rfl, hb3⟩
        have hB3 := below_call hB2 hb3
        go_wp2_with fail
        refine (rhas_any n _).mono ?_
        rintro e w4 ⟨rfl, hb4⟩
        have hB4 := below_call hB3 hb4
        go_wp2_with fail
        refine (of_any s _).mono ?_
        rw [HK.out]
        rintro e w5 ⟨rfl, hb5⟩
        have hB5 := below_call hB4 hb5
        go_wp2_with fail
        refine (name_any n _).mono ?_
        rw [HX.out]
        rintro e w6 ⟨rfl, hb6⟩
        have hB6 := below_call hB5 hb6
        go_wp2_with fail
        refine (name_any n _).mono ?_
        rw [HX.out]
        rintro e w7 ⟨rfl, hb7⟩
        have hB7 := below_call hB6 hb7
        go_wp2_with fail
        refine (of_any X _).mono ?_
        rw [HTX.out]
        rw [HOF.out]
        rintro e w8 ⟨rfl, hb8⟩
        have hB8 := below_call hB7 hb8
        go_wp2_with fail
        refine (awake_any _).mono ?_
        rintro e w9 ⟨rfl, hb9⟩
        have hB9 := below_call hB8 hb9
        go_wp2
        go_ret
        exact ⟨rfl, hB9⟩
end Go.Proofs.Ytfalhlnmjllfpaa
