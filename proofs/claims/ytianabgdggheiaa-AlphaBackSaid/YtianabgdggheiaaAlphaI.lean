/- The contracts of Codes and Cost of the reference. -/
import Derived.Test.YtianabgdggheiaaAlphaC
import Derived.Test.YtianabgdggheiaaMore
namespace Go.Proofs.Ytianabgdggheiaa
open Go.RowKit Go.IntWalk
set_option maxRecDepth 100000
set_option linter.unusedVariables false

theorem aOnes (l : List Int) (h : ∀ c ∈ l, tOkB c = true) : l.flatMap aOne = aCodes l := by
  induction l with
  | nil => rfl
  | cons a l ih =>
    rw [aCodes, List.flatMap_cons, List.flatMap_cons, ih fun c hc => h c (List.mem_cons_of_mem _ hc), aOne_sort a (h a List.mem_cons_self)]
    rfl
theorem isText_mem {l : List Int} (h : isTextB l = true) : ∀ c ∈ l, tOkB c = true := by
  simp only [isTextB, Bool.and_eq_true, List.all_eq_true] at h
  exact h.2
theorem isText_one (c : Int) : isTextB [c] = tOkB c := by simp [isTextB]
theorem getElem_take_succ (l : List Int) (k : Nat) (h : k < l.length) : l.take (k + 1) = l.take k ++ [l[k]] := List.take_succ_eq_append_getElem h

/-- What holds at the head of the loop over the bytes. -/
def RcIn (w w2 : World) (s : ByteArray) (o i : Value) : Prop :=
  ∃ (k : Nat) (A2 : Option Addr) (n2 c2 : Nat), k ≤ s.size ∧ i = .int .i64 k ∧ o = .slice A2 n2 c2 ∧ Own w2 w.heap.size 3 (.slice A2 n2 c2) (cb .i64 (((tB s).take k).flatMap aOne)) ∧ Below w.heap.size w w2
/-- What holds at the head of the loop over a byte's codes. -/
def RcOne (w w2 : World) (s : ByteArray) (wo : World) (k : Nat) (L : List Int) (A3 : Option Addr) (n3 c3 : Nat) (o j : Value) : Prop :=
  ∃ (q : Nat) (A2 : Option Addr) (n2 c2 : Nat), q ≤ n3 ∧ j = .int .i64 q ∧ o = .slice A2 n2 c2 ∧ Own w2 w.heap.size 3 (.slice A2 n2 c2) (cb .i64 (((tB s).take k).flatMap aOne ++ L.take q)) ∧ Own w2 wo.heap.size 3 (.slice A3 n3 c3) (cb .i64 L) ∧ Apart (.slice A2 n2 c2) (.slice A3 n3 c3) ∧ Below w.heap.size w w2
theorem aOne_flat_len (l : List Int) : (l.flatMap aOne).length ≤ 3 * l.length := by
  induction l with
  | nil => simp
  | cons a l ih =>
    have := aOne_len a
    simp only [List.flatMap_cons, List.length_append, List.length_cons] at *
    omega

set_option maxHeartbeats 800000 in
theorem rcodes_any (s : ByteArray) (w : World) (hs : s.size ≤ 100000000) :
    Calls Try.prog 11 #[.string s] w fun e w' => ∃ A n c, e = .returned (.tuple #[.slice A n c, .int .i64 (aTextCodes (tB s)).2]) ∧ Own w' w.heap.size 3 (.slice A n c) (cb .i64 (aTextCodes (tB s)).1) ∧ Below w.heap.size w w' := by
  cases ht : isTextB (tB s) with
  | false =>
    have hfin : Hid (aTextCodes (tB s) = ([], 13)) := by unfold Hid aTextCodes; rw [ht]; rfl
    have hT := Lib.hid ht
    clear ht
    go_enter Try.func11, Try.ntmps11
    go_wp2_with fail
    refine (risText_any s w (by omega)).mono ?_
    rw [hT.out]
    rintro e w' ⟨rfl, rfl⟩
    go_wp2
    go_ret2
    exact ⟨none, 0, 0, by rw [hfin.out]; rfl, by rw [hfin.out]; exact Own.nil _ _ _, Below.refl _ _⟩
  | true =>
    have hfin : Hid (aTextCodes (tB s) = ((tB s).flatMap aOne, 0)) := by unfold Hid aTextCodes; rw [ht, aOnes _ (isText_mem ht)]; rfl
    have hT := Lib.hid ht
    clear ht
    go_enter Try.func11, Try.ntmps11
    go_wp2_with fail
    refine (risText_any s w (by omega)).mono ?_
    rw [hT.out]
    rintro e w' ⟨rfl, rfl⟩
    go_wp2_with fail
    go_loopw [4, 5, 6, 7] (fun o i _ _ w2 => RcIn w w2 s o i) (fun _ i _ _ _ => s.size - (intOf i).toNat)
    case atStart => unfold RcIn; exact ⟨0, none, 0, 0, by omega, rfl, rfl, Own.nil _ _ _, Below.refl _ _⟩
    case round =>
      obtain ⟨k, A, n, c, hk, rfl, rfl, hown, hbel⟩ := hrel
      have hb := hbel.size
      obtain ⟨wo, rfl⟩ : ∃ wo : World, wo = wr := ⟨_, rfl⟩
      by_cases hlt : k < s.size
      · have hts : Hid (((tB s).take (k + 1)).flatMap aOne = ((tB s).take k).flatMap aOne ++ aOne s[k].toNat) := by
          unfold Hid; rw [tB_take s k hlt, List.flatMap_append]; simp
        have hln : (((tB s).take k).flatMap aOne).length ≤ 3 * k := by
          have := aOne_flat_len ((tB s).take k)
          rw [List.length_take] at this
          omega
        have hl3 := aOne_len (s[k].toNat : Int)
        have hb1 : (s[k].toNat : Int) < 256 := by have := s[k].toNat_lt; omega
        have hb10 : (0 : Int) ≤ s[k].toNat := by omega
        go_wp2_with fail
        refine (one_any (s[k].toNat : Int) _ hb10 hb1).mono ?_
        rintro e w3 ⟨A3, n3, c3, rfl, hown3, hb3⟩
        have hz0 := hown3.rd.1
        rw [cb_length] at hz0
        have hz1 : n3 ≤ 3 := by omega
        have hz := Lib.hid hz0
        clear hz0
        have hb4 := hb3.size
        have hbel3 := hbel.trans (hb3.mono hb)
        generalize aOne (s[k].toNat : Int) = L at *
        go_wp2_with fail
        go_loopw [4, 7] (fun o j w2 => RcOne w w2 s wo k L A3 n3 c3 o j) (fun _ j _ => n3 - (intOf j).toNat)
        case atStart => unfold RcOne; exact ⟨0, A, n, c, by omega, rfl, rfl, by simpa using hown.below hb3, hown3, Apart.older hown hown3 (Nat.le_refl _), hbel3⟩
        case round =>
          obtain ⟨q, A4, n4, c4, hq, rfl, rfl, hown4, hrd4, hap4, hbel4⟩ := hrel
          have hb5 := hbel4.size
          by_cases hql : q < n3
          · have hqL : q < L.length := by have := hz.out; omega
            obtain ⟨b, o, rfl, _, hc⟩ := hrd4.rd.2.2.num hqL
            have hst : Hid (L.take (q + 1) = L.take q ++ [L[q]]) := getElem_take_succ L q hqL
            have hlen4 : Hid ((((tB s).take k).flatMap aOne ++ L.take q).length ≤ 3 * k + 3) := by
              unfold Hid; rw [List.length_append, List.length_take]; omega
            go_wp2_with (at_builtin; refine wp_app_at elemInt rfl _ _ rfl rfl (hown4.alloc _) rfl (Rd.new _ [_] _) rfl (one1 _ _) (by have := hlen4.out; rw [cb_length]; simp only [List.length_cons, List.length_nil]; omega) (by have := hlen4.out; rw [cb_length]; simp only [List.length_cons, List.length_nil]; omega) (by simp; omega) ?_; intro A6 n6 c6 w6 hown6 hg6 he6)
            have hg7 : (wr.alloc (.cells #[.int .i64 L[q]] 3)).grownBy w6 (Value.slice A4 n4 c4).ownBlock := hg6
            have hbel6 := below_own (hbel4.alloc hb5 _) hg7 (hown4.alloc _) (Nat.le_refl _) (by simp; omega)
            go_roundw
            case rel =>
              unfold RcOne
              refine ⟨q + 1, A6, n6, c6, by omega, by go_num, rfl, by rw [hst.out, ← List.append_assoc, cb_append]; exact hown6, (hrd4.alloc _).grown hg7 hap4.symm, hap4.grown he6 hrd4 (by simp), hbel6⟩
            case measure => simp [intOf]; omega
          · obtain rfl : q = n3 := by omega
            have hall : Hid (L.take q = L) := by unfold Hid; rw [hz.out]; simp
            go_wp2_with fail
            go_roundw
            case rel => unfold RcIn; exact ⟨k + 1, A4, n4, c4, by omega, by go_num, rfl, by rw [hts.out]; rw [hall.out] at hown4; exact hown4, hbel4⟩
            case measure => simp [intOf]; omega
      · obtain rfl : k = s.size := by omega
        have hall : Hid ((tB s).take s.size = tB s) := List.take_of_length_le (by rw [tB_len]; omega)
        go_wp2
        go_ret2
        exact ⟨A, n, c, by rw [hfin.out]; rfl, by rw [hfin.out]; rw [hall.out] at hown; exact hown, hbel⟩

set_option maxHeartbeats 800000 in
theorem rcost_any (s : ByteArray) (w : World) (hs : s.size ≤ 100000000) :
    Calls Try.prog 14 #[.string s] w fun e w' => e = .returned (.int .i64 (aCodes (tB s)).length) ∧ Below w.heap.size w w' := by
  go_enter Try.func14, Try.ntmps14
  go_wp2_with fail
  go_loopw [3, 4] (fun o i w2 => ∃ (k : Nat), k ≤ s.size ∧ i = .int .i64 k ∧ o = .int .i64 (aCodes ((tB s).take k)).length ∧ Below w.heap.size w w2) (fun _ i _ => s.size - (intOf i).toNat)
  case atStart => exact ⟨0, by omega, rfl, rfl, Below.refl _ _⟩
  case round =>
    obtain ⟨k, hk, rfl, rfl, hbel⟩ := hrel
    have hb := hbel.size
    by_cases hlt : k < s.size
    · have hts := Lib.hid (aCodes_take s k hlt)
      have hln := aCodes_take_len s k
      have hl3 := aOne_len (s[k].toNat : Int)
      have hb1 : (s[k].toNat : Int) < 256 := by have := s[k].toNat_lt; omega
      have hb10 : (0 : Int) ≤ s[k].toNat := by omega
      have hsz : (s.extract k (k + 1)).size ≤ 1000000000 := by rw [← tB_len, tB_one s k hlt]; simp
      have hone : Hid (isTextB (tB (s.extract k (k + 1))) = tOkB s[k].toNat) := by unfold Hid; rw [tB_one s k hlt, isText_one]
      cases hok : tOkB s[k].toNat with
      | true =>
        have hoo := Lib.hid (aOne_sort _ hok)
        have HOK := Lib.hid hok
        clear hok
        go_wp2_with fail
        refine (risText_any (s.extract k (k + 1)) _ hsz).mono ?_
        rw [hone.out, HOK.out]
        rintro e w' ⟨rfl, rfl⟩
        go_wp2_with fail
        refine (one_any (s[k].toNat : Int) _ hb10 hb1).mono ?_
        rintro e w3 ⟨A3, n3, c3, rfl, hown3, hb3⟩
        have hz0 := hown3.rd.1
        rw [cb_length] at hz0
        have hz1 : n3 ≤ 3 := by omega
        have hz := Lib.hid hz0
        clear hz0
        go_wp2_with fail
        go_roundw
        case rel => exact ⟨k + 1, by omega, by go_num, by rw [hts.out, List.length_append, ← hoo.out, ← hz.out]; go_num, hbel.trans (hb3.mono hb)⟩
        case measure => simp [intOf]; omega
      | false =>
        have hoo := Lib.hid (aSort_out _ hok)
        have HOK := Lib.hid hok
        clear hok
        go_wp2_with fail
        refine (risText_any (s.extract k (k + 1)) _ hsz).mono ?_
        rw [hone.out, HOK.out]
        rintro e w' ⟨rfl, rfl⟩
        go_wp2_with fail
        go_roundw
        case rel => exact ⟨k + 1, by omega, by go_num, by rw [hts.out, List.length_append, hoo.out]; simp, hbel⟩
        case measure => simp [intOf]; omega
    · obtain rfl : k = s.size := by omega
      have hall : Hid ((tB s).take s.size = tB s) := List.take_of_length_le (by rw [tB_len]; omega)
      go_wp2
      go_ret
      exact ⟨by rw [hall.out]; rfl, hbel⟩
end Go.Proofs.Ytianabgdggheiaa
