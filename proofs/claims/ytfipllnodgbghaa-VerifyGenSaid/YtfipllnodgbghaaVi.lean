/- Chapter 31: the code of bound statements keeps its heights. No program stands in this text. Chapter 31: the code of a bound routine keeps its heights. No program stands in this text. Chapter 31: how the heights are found; of good code they are found, and right. No program stands in this text. A literal slice of the call's own whose elements have some cells; rows of pairs of numbers. No program stands in this text. -/
import Derived.Test.YtfipllnodgbghaaVe
import Derived.Test.YtfipllnodgbghaaOkr
namespace Go.Proofs.Ytfipllnodgbghaa
open Go.RowKit
set_option linter.unusedVariables false
set_option linter.unusedSimpArgs false
set_option linter.unusedSectionVars false
theorem boundE_eq {t : TabP} {locals : Int} (e : ExprP) (said : Bool) : boundE t locals e said = (boundK t locals e said && boundEs t locals e.args) := by cases e; rfl
theorem bound_said {t : TabP} {locals : Int} {e : ExprP} (h13 : e.kind ≠ 13) (h19 : e.kind ≠ 19) : boundE t locals e true = boundE t locals e false := by
  rw [boundE_eq, boundE_eq]
  congr 1
  unfold boundK
  rw [if_neg h19, if_neg h13, if_neg h19, if_neg h13]
theorem bound_text {t : TabP} {locals : Int} {e : ExprP} (h : boundE t locals e true = true) (h19 : e.kind = 19) : 0 ≤ e.num ∧ e.num ≤ (t.texts.length : Int) - 1 := by
  rw [boundE_eq, Bool.and_eq_true] at h
  have h1 := h.1
  unfold boundK at h1
  rw [if_neg (by omega), if_neg (by omega), if_neg (by omega), if_pos h19] at h1
  simp only [Bool.and_eq_true, among_iff] at h1
  exact h1.2
theorem bound_title {t : TabP} {locals : Int} {e : ExprP} (h : boundE t locals e true = true) (h13 : e.kind = 13) : ∃ x, e.args = [x] ∧ boundE t locals x false = true := by
  rw [boundE_eq, Bool.and_eq_true] at h
  obtain ⟨h1, h2⟩ := h
  unfold boundK at h1
  rw [if_neg (by omega), if_neg (by omega), if_neg (by omega), if_neg (by omega), if_neg (by omega), if_pos h13] at h1
  simp only [Bool.and_eq_true] at h1
  obtain ⟨hl, _, _⟩ := bare_in h1.2
  match e.args, hl, h2 with
  | [x], _, h2 =>
    unfold boundEs boundEs at h2
    rw [Bool.and_eq_true] at h2
    exact ⟨x, rfl, h2.1⟩
theorem args_es {t : TabP} {locals : Int} : ∀ {l : List ExprP}, boundArgs t locals false l = true → boundEs t locals l = true
  | [], _ => rfl
  | e :: l, h => by
    unfold boundArgs at h
    unfold boundEs
    rw [Bool.and_eq_true] at h ⊢
    exact ⟨h.1, args_es h.2⟩
theorem has_in {s : StmtP} {named body other : Bool} {n : Int} (h : hasS s named n body other = true) : (s.args.length : Int) = n := by
  unfold hasS at h
  simp only [Bool.and_eq_true, decide_eq_true_eq] at h
  exact h.1.1.1
section
variable {t : TabP} (hT : TFit t) {locals : Int} (hlo : locals ≤ 24)
include hT hlo
theorem okSay : ∀ (l : List ExprP), boundArgs t locals true l = true → ∀ (X : List (Int × Int)) (n : Int), 8 * (dEs l : Int) ≤ 256 → 0 ≤ n → n + 2 * (sizeEs l : Int) ≤ 32000 → GoodX t X (genSay l n).1 n (genSay l n).2 0 0 ∧ (genSay l n).2 ≤ n + 2 * (sizeEs l : Int)
  | [], hb, X, n, h1, hn, hs => ⟨.nil n 0, by unfold genSay sizeEs; simp⟩
  | e :: l, hb, X, n, h1, hn, hs => by
    unfold boundArgs at hb
    rw [Bool.and_eq_true] at hb
    unfold dEs at h1
    unfold sizeEs at hs ⊢
    unfold genSay
    by_cases h19 : e.kind = 19
    · rw [if_pos h19]
      obtain ⟨g, lg⟩ := okSay l hb.2 X n (by omega) hn (by omega)
      have hr := bound_text hb.1 h19
      refine ⟨GoodX.app (C := [(21, e.num)]) (b := 0) (.one fun L S h => step_on (p := 0) (q := 0) (pops_is (by decide)) rfl (by decide) (by decide) (by decide) (by decide) (fun e => absurd e (by decide)) (right_of (by decide) (by decide) rfl (by decide) hr.1 hr.2) (by omega) (by omega) (by omega) (by omega)) g, ?_⟩
      show (genSay l n).2 ≤ _
      omega
    · rw [if_neg h19]
      by_cases h13 : e.kind = 13
      · rw [if_pos h13]
        obtain ⟨x, hx, hbx⟩ := bound_title hb.1 h13
        have hsz := sizeE_eq e
        have hdz : dE e = dEs e.args + 1 := by cases e; rfl
        rw [hx] at hsz hdz
        unfold sizeEs sizeEs at hsz
        unfold dEs dEs at hdz
        have hg : e.args.getD 0 dExpr = x := by rw [hx]; rfl
        rw [hg]
        obtain ⟨g1, l1⟩ := okE hT hlo x hbx X n 0 (by omega) (by omega) hn (by omega)
        have g0 := g1.le
        obtain ⟨g2, l2⟩ := okSay l hb.2 X (genE x n).2 (by omega) (by omega) (by omega)
        refine ⟨(g1.app (.one fun L S h => step_on (p := 1) (q := 0) (pops_is (by decide)) rfl (by decide) (by decide) (by decide) (by decide) (fun e => absurd e (by decide)) (right_zero (by decide) (by decide) (fun _ _ _ _ _ => rfl) (by decide)) (by omega) (by omega) (by omega) (by omega))).app g2, ?_⟩
        show (genSay l (genE x n).2).2 ≤ _
        omega
      · rw [if_neg h13]
        rw [bound_said h13 h19] at hb
        obtain ⟨g1, l1⟩ := okE hT hlo e hb.1 X n 0 (by omega) (by omega) hn (by omega)
        have g0 := g1.le
        obtain ⟨g2, l2⟩ := okSay l hb.2 X (genE e n).2 (by omega) (by omega) (by omega)
        refine ⟨(g1.app (.one fun L S h => step_on (p := 1) (q := 0) (pops_is (by decide)) rfl (by decide) (by decide) (by decide) (by decide) (fun e => absurd e (by decide)) (right_zero (by decide) (by decide) (fun _ _ _ _ _ => rfl) (by decide)) (by omega) (by omega) (by omega) (by omega))).app g2, ?_⟩
        show (genSay l (genE e n).2).2 ≤ _
        omega
omit hT in
/-- What a statement itself does. -/
theorem deed_step {s : StmtP} (hs : (shapeS s).1 = true) (ht : thereS t s locals = true) (hk : s.kind ≠ 1 ∧ s.kind ≠ 9 ∧ s.kind ≠ 10 ∧ s.kind ≠ 11) {L : Int → Int} {S : Int → Prop} : (s.args.length : Int) ≤ 2 ∧ StepOk t L S (deedI s) (s.args.length : Int) 0 := by
  have on : ∀ {c y p : Int}, c ≠ 26 → popsC c = p → pushesC c = 0 → c ≠ 38 → c ≠ 24 → c ≠ 25 → c ≠ 27 → c ≠ 37 → rightI t (c, y) = true → (s.args.length : Int) = p → StepOk t L S (c, y) (s.args.length : Int) 0 := fun h26 hp hq h38 h24 h25 h27 h37 hr hl =>
    step_on ((pops_is h26).trans hp) hq h38 h24 h25 h27 (fun e => absurd e h37) hr (by omega) (by omega) (by omega) (by omega)
  unfold shapeS at hs
  unfold thereS at ht
  rw [if_neg hk.1] at hs
  split at ht
  · cases ht
  by_cases h2 : s.kind = 2 ∨ s.kind = 3 ∨ s.kind = 5 ∨ s.kind = 6 ∨ s.kind = 17 ∨ s.kind = 23
  · rw [if_pos h2] at hs
    have hl := has_in hs
    refine ⟨by omega, ?_⟩
    rcases h2 with h | h | h | h | h | h
    · rw [if_pos (.inl h)] at ht
      simp only [Bool.and_eq_true, decide_eq_true_eq] at ht
      rw [show deedI s = (6, s.num) by unfold deedI; rw [if_pos (.inl h)]]
      exact on (p := 1) (by decide) rfl rfl (by decide) (by decide) (by decide) (by decide) (by decide) (right_of (lo := 0) (hi := 23) (by decide) (by decide) rfl (by decide) ht.1 (by omega)) hl
    · rw [if_pos (.inr h)] at ht
      simp only [Bool.and_eq_true, decide_eq_true_eq] at ht
      rw [show deedI s = (6, s.num) by unfold deedI; rw [if_pos (.inr h)]]
      exact on (p := 1) (by decide) rfl rfl (by decide) (by decide) (by decide) (by decide) (by decide) (right_of (lo := 0) (hi := 23) (by decide) (by decide) rfl (by decide) ht.1 (by omega)) hl
    · rw [if_neg (by omega), if_neg (by omega), if_neg (by omega), if_neg (by omega), if_pos (.inl h)] at ht
      simp only [Bool.and_eq_true, decide_eq_true_eq] at ht
      rw [show deedI s = (15, s.num) by unfold deedI; rw [if_neg (by omega), if_neg (by omega), if_neg (by omega), if_pos h]]
      exact on (p := 1) (by decide) rfl rfl (by decide) (by decide) (by decide) (by decide) (by decide) (right_flag (.inr (.inl rfl)) ht.1 ht.2) hl
    · rw [if_neg (by omega), if_neg (by omega), if_neg (by omega), if_neg (by omega), if_pos (.inr h)] at ht
      simp only [Bool.and_eq_true, decide_eq_true_eq] at ht
      rw [show deedI s = (16, s.num) by unfold deedI; rw [if_neg (by omega), if_neg (by omega), if_neg (by omega), if_neg (by omega), if_pos h]]
      exact on (p := 1) (by decide) rfl rfl (by decide) (by decide) (by decide) (by decide) (by decide) (right_flag (.inr (.inr rfl)) ht.1 ht.2) hl
    · rw [if_neg (by omega), if_neg (by omega), if_neg (by omega), if_neg (by omega), if_neg (by omega), if_pos (.inl h)] at ht
      rw [among_iff] at ht
      rw [show deedI s = (32, s.num) by unfold deedI; rw [if_neg (by omega), if_neg (by omega), if_neg (by omega), if_neg (by omega), if_neg (by omega), if_pos h]]
      exact on (p := 1) (by decide) rfl rfl (by decide) (by decide) (by decide) (by decide) (by decide) (right_of (by decide) (by decide) rfl (by decide) ht.1 ht.2) hl
    · rw [if_neg (by omega), if_neg (by omega), if_pos h] at ht
      rw [among_iff] at ht
      rw [show deedI s = (4, s.num) by unfold deedI; rw [if_neg (by omega), if_pos h]]
      exact on (p := 1) (by decide) rfl rfl (by decide) (by decide) (by decide) (by decide) (by decide) (right_of (by decide) (by decide) rfl (by decide) ht.1 ht.2) hl
  rw [if_neg h2] at hs
  by_cases h4 : s.kind = 4
  · rw [if_pos h4] at hs
    have hl := has_in hs
    refine ⟨by omega, ?_⟩
    rw [if_neg (by omega), if_neg (by omega), if_neg (by omega), if_pos h4] at ht
    rw [among_iff] at ht
    rw [show deedI s = (14, s.num) by unfold deedI; rw [if_neg (by omega), if_neg (by omega), if_pos h4]]
    exact on (p := 2) (by decide) rfl rfl (by decide) (by decide) (by decide) (by decide) (by decide) (right_of (by decide) (by decide) rfl (by decide) ht.1 ht.2) hl
  rw [if_neg h4] at hs
  by_cases h7 : s.kind = 7
  · rw [if_pos h7] at hs
    have hl := has_in hs
    refine ⟨by omega, ?_⟩
    rw [show deedI s = (17, 0) by unfold deedI; rw [if_neg (by omega), if_neg (by omega), if_neg (by omega), if_neg (by omega), if_neg (by omega), if_neg (by omega), if_neg (by omega), if_pos h7]]
    exact on (p := 2) (by decide) rfl rfl (by decide) (by decide) (by decide) (by decide) (by decide) (right_zero (by decide) (by decide) (fun _ _ _ _ _ => rfl) (by decide)) hl
  rw [if_neg h7] at hs
  have deedGo : ∀ (c : Int), deedI s = (c, 0) → (∃ p, popsC c = p ∧ (s.args.length : Int) = p) → c ≠ 26 → pushesC c = 0 → c ≠ 38 → c ≠ 24 → c ≠ 25 → c ≠ 27 → c ≠ 37 → rightI t (c, 0) = true → StepOk t L S (deedI s) (s.args.length : Int) 0 := fun c hc ⟨p, hp, hl⟩ h26 hq h38 h24 h25 h27 h37 hr => by
    rw [hc]
    exact on h26 hp hq h38 h24 h25 h27 h37 hr hl
  by_cases h8 : s.kind = 8 ∨ s.kind = 12 ∨ s.kind = 16 ∨ s.kind = 20 ∨ s.kind = 22 ∨ s.kind = 19
  · rw [if_pos h8] at hs
    have hl := has_in hs
    refine ⟨by omega, ?_⟩
    rcases h8 with h | h | h | h | h | h
    · exact deedGo 18 (by unfold deedI; simp [h]) ⟨1, rfl, hl⟩ (by decide) rfl (by decide) (by decide) (by decide) (by decide) (by decide) (right_zero (by decide) (by decide) (fun _ _ _ _ _ => rfl) (by decide))
    · rw [show deedI s = (27, 0) by unfold deedI; simp [h], hl]
      refine ⟨by omega, ?_⟩
      rw [if_neg (show ¬ (27 : Int) = 38 by decide), pops_is (show (27 : Int) ≠ 26 by decide), pushes_is, show popsC 27 = 1 from rfl, show pushesC 27 = 0 from rfl]
      exact ⟨right_zero (by decide) (by decide) (fun _ _ _ _ _ => rfl) (by decide), by omega, fun _ => rfl, by omega, fun e => absurd e (show ¬ (27 : Int) = 37 by decide), fun e => by rcases e with e | e; exact absurd e (show ¬ (27 : Int) = 24 by decide); exact absurd e (show ¬ (27 : Int) = 25 by decide), fun _ h => absurd (.inl rfl) h⟩
    · exact deedGo 31 (by unfold deedI; simp [h]) ⟨1, rfl, hl⟩ (by decide) rfl (by decide) (by decide) (by decide) (by decide) (by decide) (right_zero (by decide) (by decide) (fun _ _ _ _ _ => rfl) (by decide))
    · exact deedGo 34 (by unfold deedI; simp [h]) ⟨1, rfl, hl⟩ (by decide) rfl (by decide) (by decide) (by decide) (by decide) (by decide) (right_zero (by decide) (by decide) (fun _ _ _ _ _ => rfl) (by decide))
    · exact deedGo 36 (by unfold deedI; simp [h]) ⟨1, rfl, hl⟩ (by decide) rfl (by decide) (by decide) (by decide) (by decide) (by decide) (right_zero (by decide) (by decide) (fun _ _ _ _ _ => rfl) (by decide))
    · exact deedGo 2 (by unfold deedI; simp [h]) ⟨1, rfl, hl⟩ (by decide) rfl (by decide) (by decide) (by decide) (by decide) (by decide) (right_zero (by decide) (by decide) (fun _ _ _ _ _ => rfl) (by decide))
  rw [if_neg h8, if_neg hk.2.1, if_neg hk.2.2.1, if_neg hk.2.2.2] at hs
  by_cases h18 : s.kind = 18
  · rw [if_pos h18] at hs
    have hl := has_in hs
    refine ⟨by omega, ?_⟩
    rw [if_neg (by omega), if_neg (by omega), if_neg (by omega), if_neg (by omega), if_neg (by omega), if_pos (.inr h18)] at ht
    rw [among_iff] at ht
    rw [show deedI s = (33, s.num) by unfold deedI; simp [h18]]
    exact on (p := 0) (by decide) rfl rfl (by decide) (by decide) (by decide) (by decide) (by decide) (right_of (by decide) (by decide) rfl (by decide) ht.1 ht.2) hl
  rw [if_neg h18] at hs
  by_cases h13 : s.kind = 13 ∨ s.kind = 14 ∨ s.kind = 15 ∨ s.kind = 21
  · rw [if_pos h13] at hs
    have hl := has_in hs
    refine ⟨by omega, ?_⟩
    rcases h13 with h | h | h | h
    · exact deedGo 28 (by unfold deedI; simp [h]) ⟨0, rfl, hl⟩ (by decide) rfl (by decide) (by decide) (by decide) (by decide) (by decide) (right_zero (by decide) (by decide) (fun _ _ _ _ _ => rfl) (by decide))
    · exact deedGo 29 (by unfold deedI; simp [h]) ⟨0, rfl, hl⟩ (by decide) rfl (by decide) (by decide) (by decide) (by decide) (by decide) (right_zero (by decide) (by decide) (fun _ _ _ _ _ => rfl) (by decide))
    · exact deedGo 30 (by unfold deedI; simp [h]) ⟨0, rfl, hl⟩ (by decide) rfl (by decide) (by decide) (by decide) (by decide) (by decide) (right_zero (by decide) (by decide) (fun _ _ _ _ _ => rfl) (by decide))
    · exact deedGo 35 (by unfold deedI; simp [h]) ⟨0, rfl, hl⟩ (by decide) rfl (by decide) (by decide) (by decide) (by decide) (by decide) (right_zero (by decide) (by decide) (fun _ _ _ _ _ => rfl) (by decide))
  · rw [if_neg h13] at hs
    cases hs
end
end Go.Proofs.Ytfipllnodgbghaa
namespace Go.Proofs.Ytfipllnodgbghaa
open Go.RowKit
set_option linter.unusedVariables false
set_option linter.unusedSimpArgs false
set_option linter.unusedSectionVars false
theorem genS_if {k n : Int} {s : ByteArray} {l : List ExprP} {b c : List StmtP} {m : Int} (hk : k = 9) (hc : c.length = 0) : genS (.mk k n s l b c) m = ([(37, 0)] ++ (genE (l.getD 0 dExpr) (m + 1)).1 ++ [(25, m)] ++ (genB b (genE (l.getD 0 dExpr) (m + 1)).2).1 ++ [(38, m)], (genB b (genE (l.getD 0 dExpr) (m + 1)).2).2) := by
  conv => lhs; unfold genS
  rw [if_pos hk, if_pos hc, if_neg (show ¬ 0 < c.length by omega)]
theorem genS_else {k n : Int} {s : ByteArray} {l : List ExprP} {b c : List StmtP} {m : Int} (hk : k = 9) (hc : ¬ c.length = 0) : genS (.mk k n s l b c) m = ([(37, 0)] ++ (genE (l.getD 0 dExpr) (m + 2)).1 ++ [(25, m)] ++ (genB b (genE (l.getD 0 dExpr) (m + 2)).2).1 ++ [(24, m + 1), (38, m)] ++ (genB c (genB b (genE (l.getD 0 dExpr) (m + 2)).2).2).1 ++ [(38, m + 1)], (genB c (genB b (genE (l.getD 0 dExpr) (m + 2)).2).2).2) := by
  conv => lhs; unfold genS
  rw [if_pos hk, if_neg hc, if_pos (show 0 < c.length by omega)]
theorem genS_while {k n : Int} {s : ByteArray} {l : List ExprP} {b c : List StmtP} {m : Int} (hk : k = 10) : genS (.mk k n s l b c) m = ([(38, m), (37, 0)] ++ (genE (l.getD 0 dExpr) (m + 2)).1 ++ [(25, m + 1)] ++ (genB b (genE (l.getD 0 dExpr) (m + 2)).2).1 ++ [(24, m), (38, m + 1)], (genB b (genE (l.getD 0 dExpr) (m + 2)).2).2) := by
  conv => lhs; unfold genS
  rw [if_neg (by omega), if_pos hk]
theorem genS_each {k n : Int} {s : ByteArray} {l : List ExprP} {b c : List StmtP} {m : Int} (hk : k = 11) : genS (.mk k n s l b c) m = ([(37, 0)] ++ (genE (l.getD 0 dExpr) (m + 2)).1 ++ [(19, 2), (6, n), (38, m), (5, n), (25, m + 1), (37, 0)] ++ [(5, n), (19, 3), (6, n + 1)] ++ (genB b (genE (l.getD 0 dExpr) (m + 2)).2).1 ++ [(5, n + 1), (6, n), (24, m), (38, m + 1)], (genB b (genE (l.getD 0 dExpr) (m + 2)).2).2) := by
  conv => lhs; unfold genS
  rw [if_neg (by omega), if_neg (by omega), if_pos hk]
theorem genS_say {k n : Int} {s : ByteArray} {l : List ExprP} {b c : List StmtP} {m : Int} (hk : k = 1) : genS (.mk k n s l b c) m = ([(37, 0)] ++ (genSay l m).1, (genSay l m).2) := by
  conv => lhs; unfold genS
  rw [if_neg (by omega), if_neg (by omega), if_neg (by omega), if_pos hk]
theorem genS_flat {k n : Int} {s : ByteArray} {l : List ExprP} {b c : List StmtP} {m : Int} (hk : k ≠ 1 ∧ k ≠ 9 ∧ k ≠ 10 ∧ k ≠ 11) : genS (.mk k n s l b c) m = ([(37, 0)] ++ (genEs l m).1 ++ [deedI (.mk k n s l b c)], (genEs l m).2) := by
  conv => lhs; unfold genS
  rw [if_neg hk.2.1, if_neg hk.2.2.1, if_neg hk.2.2.2, if_neg hk.1]
theorem dSs_le : ∀ l : List StmtP, dSs l ≤ dB l
  | [] => Nat.le_refl _
  | s :: l => by unfold dSs dB; omega
theorem one_arg {t : TabP} {locals : Int} {l : List ExprP} {said : Bool} (hl : (l.length : Int) = 1) (h : boundArgs t locals said l = true) : ∃ x, l = [x] ∧ boundE t locals x said = true := by
  match l, hl, h with
  | [x], _, h =>
    unfold boundArgs boundArgs at h
    rw [Bool.and_eq_true] at h
    exact ⟨x, rfl, h.1⟩
section
variable {t : TabP} (hT : TFit t) {locals : Int} (hlo : locals ≤ 24)
include hT hlo
omit hT hlo in
theorem tick_ok {X : List (Int × Int)} (q : Int) : GoodX t X [(37, 0)] q q 0 0 := .one fun L S h => step_on (p := 0) (q := 0) (pops_is (by decide)) rfl (by decide) (by decide) (by decide) (by decide) (fun _ => rfl) (right_zero (by decide) (by decide) (fun _ _ _ _ _ => rfl) (by decide)) (by omega) (by omega) (by omega) (by omega)
omit hT hlo in
theorem put_ok {X : List (Int × Int)} (q : Int) {y : Int} (h0 : 0 ≤ y) (h1 : y ≤ 23) : GoodX t X [(6, y)] q q 1 0 := .one fun L S h => step_on (p := 1) (q := 0) (pops_is (by decide)) rfl (by decide) (by decide) (by decide) (by decide) (fun e => absurd e (by decide)) (right_of (lo := 0) (hi := 23) (by decide) (by decide) rfl (by decide) h0 h1) (by omega) (by omega) (by omega) (by omega)
omit hT hlo in
theorem loc_ok {X : List (Int × Int)} (q : Int) {y : Int} (h0 : 0 ≤ y) (h1 : y ≤ 23) : GoodX t X [(5, y)] q q 0 1 := .one fun L S h => step_on (p := 0) (q := 1) (pops_is (by decide)) rfl (by decide) (by decide) (by decide) (by decide) (fun e => absurd e (by decide)) (right_of (lo := 0) (hi := 23) (by decide) (by decide) rfl (by decide) h0 h1) (by omega) (by omega) (by omega) (by omega)
omit hT hlo in
theorem tree_ok {X : List (Int × Int)} (q : Int) {y : Int} (h0 : 1 ≤ y) (h1 : y ≤ 3) : GoodX t X [(19, y)] q q 1 1 := .one fun L S h => step_on (p := 1) (q := 1) (pops_is (by decide)) rfl (by decide) (by decide) (by decide) (by decide) (fun e => absurd e (by decide)) (right_of (lo := 1) (hi := 3) (by decide) (by decide) rfl (by decide) h0 h1) (by omega) (by omega) (by omega) (by omega)
mutual
theorem okS : ∀ (s : StmtP), boundS t locals s = true → ∀ (X : List (Int × Int)) (n : Int), 8 * (dS s : Int) ≤ 248 → 0 ≤ n → n + 2 * (sizeS s : Int) ≤ 32000 → GoodX t X (genS s n).1 n (genS s n).2 0 0 ∧ (genS s n).2 ≤ n + 2 * (sizeS s : Int)
  | .mk k num nm l b c, hb, X, n, h1, hn, hs => by
    unfold boundS at hb
    simp only [Bool.and_eq_true] at hb
    obtain ⟨⟨⟨hsh, hth⟩, _⟩, hargs, ⟨hbb, _⟩, ⟨hcc, _⟩⟩ := hb
    unfold dS at h1
    have hbd := dSs_le b
    have hcd := dSs_le c
    unfold sizeS at hs ⊢
    by_cases hk9 : k = 9 ∨ k = 10 ∨ k = 11
    · have hlen : (l.length : Int) = 1 := by
        unfold shapeS at hsh
        have q : (StmtP.mk k num nm l b c).kind = k := rfl
        rw [if_neg (by omega), if_neg (by omega), if_neg (by omega), if_neg (by omega), if_neg (by omega)] at hsh
        rcases hk9 with h | h | h
        · rw [if_pos (show (StmtP.mk k num nm l b c).kind = 9 from h)] at hsh; exact has_in hsh
        · rw [if_neg (by omega), if_pos (show (StmtP.mk k num nm l b c).kind = 10 from h)] at hsh; exact has_in hsh
        · rw [if_neg (by omega), if_neg (by omega), if_pos (show (StmtP.mk k num nm l b c).kind = 11 from h)] at hsh; exact has_in hsh
      have hsaid : decide (k = 1) = false := by simp; omega
      rw [hsaid] at hargs
      obtain ⟨x, rfl, hx⟩ := one_arg hlen hargs
      unfold sizeEs sizeEs at hs ⊢
      unfold dEs dEs at h1
      have hg : [x].getD 0 dExpr = x := rfl
      rcases hk9 with hk | hk | hk
      · by_cases hc : c.length = 0
        · rw [genS_if hk hc, hg]
          obtain ⟨gx, lx⟩ := okE hT hlo x hx ([(n, 0)] ++ X) (n + 1) 0 (by omega) (by omega) (by omega) (by omega)
          have gx0 := gx.le
          obtain ⟨gb, lb⟩ := okB b hbb ([(n, 0)] ++ X) (genE x (n + 1)).2 (by omega) (by omega) (by omega)
          have gb0 := gb.le
          have hX : ∀ (L : Int → Int) (S : Int → Prop), (∀ p ∈ [(n, (0 : Int))] ++ X, L p.1 = p.2 ∧ S p.1) → L n = 0 ∧ S n := fun L S h => h (n, 0) (by simp)
          refine ⟨GoodX.close (X := [(n, 0)]) (k := n + 1) (((((tick_ok _).app gx).app (.one fun L S h => step_zero (by omega) (by omega) ⟨hn, by omega⟩ (hX L S h).1 (hX L S h).2)).app gb).app (.one fun L S h => step_label (by omega) (hX L S h).1)) (by omega) (by simp; omega) (by simp) (by simp), ?_⟩
          show (genB b (genE x (n + 1)).2).2 ≤ _
          omega
        · rw [genS_else hk hc, hg]
          obtain ⟨gx, lx⟩ := okE hT hlo x hx ([(n, 0), (n + 1, 0)] ++ X) (n + 2) 0 (by omega) (by omega) (by omega) (by omega)
          have gx0 := gx.le
          obtain ⟨gb, lb⟩ := okB b hbb ([(n, 0), (n + 1, 0)] ++ X) (genE x (n + 2)).2 (by omega) (by omega) (by omega)
          have gb0 := gb.le
          obtain ⟨gc, lc⟩ := okB c hcc ([(n, 0), (n + 1, 0)] ++ X) (genB b (genE x (n + 2)).2).2 (by omega) (by omega) (by omega)
          have gc0 := gc.le
          have hX : ∀ (L : Int → Int) (S : Int → Prop), (∀ p ∈ [(n, (0 : Int)), (n + 1, 0)] ++ X, L p.1 = p.2 ∧ S p.1) → (L n = 0 ∧ S n) ∧ (L (n + 1) = 0 ∧ S (n + 1)) := fun L S h => ⟨h (n, 0) (by simp), h (n + 1, 0) (by simp)⟩
          refine ⟨GoodX.close (X := [(n, 0), (n + 1, 0)]) (k := n + 2) (((((((tick_ok _).app gx).app (.one fun L S h => step_zero (by omega) (by omega) ⟨hn, by omega⟩ (hX L S h).1.1 (hX L S h).1.2)).app gb).app (GoodX.app (C := [(24, n + 1)]) (b := 0) (.one fun L S h => step_jump (by omega) (by omega) ⟨by omega, by omega⟩ (hX L S h).2.1 (hX L S h).2.2) (.one fun L S h => step_label (by omega) (hX L S h).1.1))).app gc).app (.one fun L S h => step_label (by omega) (hX L S h).2.1)) (by omega) (by simp; omega) (by simp; omega) (by simp), ?_⟩
          show (genB c (genB b (genE x (n + 2)).2).2).2 ≤ _
          omega
      · rw [genS_while hk, hg]
        obtain ⟨gx, lx⟩ := okE hT hlo x hx ([(n, 0), (n + 1, 0)] ++ X) (n + 2) 0 (by omega) (by omega) (by omega) (by omega)
        have gx0 := gx.le
        obtain ⟨gb, lb⟩ := okB b hbb ([(n, 0), (n + 1, 0)] ++ X) (genE x (n + 2)).2 (by omega) (by omega) (by omega)
        have gb0 := gb.le
        have hX : ∀ (L : Int → Int) (S : Int → Prop), (∀ p ∈ [(n, (0 : Int)), (n + 1, 0)] ++ X, L p.1 = p.2 ∧ S p.1) → (L n = 0 ∧ S n) ∧ (L (n + 1) = 0 ∧ S (n + 1)) := fun L S h => ⟨h (n, 0) (by simp), h (n + 1, 0) (by simp)⟩
        refine ⟨GoodX.close (X := [(n, 0), (n + 1, 0)]) (k := n + 2) (((((GoodX.app (C := [(38, n)]) (b := 0) (.one fun L S h => step_label (by omega) (hX L S h).1.1) (tick_ok _)).app gx).app (.one fun L S h => step_zero (by omega) (by omega) ⟨by omega, by omega⟩ (hX L S h).2.1 (hX L S h).2.2)).app gb).app (GoodX.app (C := [(24, n)]) (b := 0) (.one fun L S h => step_jump (by omega) (by omega) ⟨by omega, by omega⟩ (hX L S h).1.1 (hX L S h).1.2) (.one fun L S h => step_label (by omega) (hX L S h).2.1))) (by omega) (by simp; omega) (by simp; omega) (by simp), ?_⟩
        show (genB b (genE x (n + 2)).2).2 ≤ _
        omega
      · rw [genS_each hk, hg]
        have hnum : 0 ≤ num ∧ num < locals - 1 := by
          unfold thereS at hth
          split at hth
          · cases hth
          · rw [if_neg (show ¬ ((StmtP.mk k num nm [x] b c).kind = 2 ∨ (StmtP.mk k num nm [x] b c).kind = 3) from fun h => by rcases h with h | h <;> (have h' : k = _ := h; omega)), if_pos (show (StmtP.mk k num nm [x] b c).kind = 11 from hk)] at hth
            simp only [Bool.and_eq_true, decide_eq_true_eq] at hth
            exact hth.1
        obtain ⟨gx, lx⟩ := okE hT hlo x hx ([(n, 0), (n + 1, 0)] ++ X) (n + 2) 0 (by omega) (by omega) (by omega) (by omega)
        have gx0 := gx.le
        obtain ⟨gb, lb⟩ := okB b hbb ([(n, 0), (n + 1, 0)] ++ X) (genE x (n + 2)).2 (by omega) (by omega) (by omega)
        have gb0 := gb.le
        have hX : ∀ (L : Int → Int) (S : Int → Prop), (∀ p ∈ [(n, (0 : Int)), (n + 1, 0)] ++ X, L p.1 = p.2 ∧ S p.1) → (L n = 0 ∧ S n) ∧ (L (n + 1) = 0 ∧ S (n + 1)) := fun L S h => ⟨h (n, 0) (by simp), h (n + 1, 0) (by simp)⟩
        have six : ∀ q, GoodX t ([(n, 0), (n + 1, 0)] ++ X) [(19, 2), (6, num), (38, n), (5, num), (25, n + 1), (37, 0)] q q 1 0 := fun q => (tree_ok q (by decide) (by decide)).app ((put_ok q hnum.1 (by omega)).app (GoodX.app (C := [(38, n)]) (b := 0) (.one fun L S h => step_label (by omega) (hX L S h).1.1) ((loc_ok q hnum.1 (by omega)).app (GoodX.app (C := [(25, n + 1)]) (b := 0) (.one fun L S h => step_zero (by omega) (by omega) ⟨by omega, by omega⟩ (hX L S h).2.1 (hX L S h).2.2) (tick_ok q)))))
        have three : ∀ q, GoodX t ([(n, 0), (n + 1, 0)] ++ X) [(5, num), (19, 3), (6, num + 1)] q q 0 0 := fun q => (loc_ok q hnum.1 (by omega)).app ((tree_ok q (by decide) (by decide)).app (put_ok q (by omega) (by omega)))
        have four : ∀ q, GoodX t ([(n, 0), (n + 1, 0)] ++ X) [(5, num + 1), (6, num), (24, n), (38, n + 1)] q q 0 0 := fun q => (loc_ok q (by omega) (by omega)).app ((put_ok q hnum.1 (by omega)).app (GoodX.app (C := [(24, n)]) (b := 0) (.one fun L S h => step_jump (by omega) (by omega) ⟨by omega, by omega⟩ (hX L S h).1.1 (hX L S h).1.2) (.one fun L S h => step_label (by omega) (hX L S h).2.1)))
        refine ⟨GoodX.close (X := [(n, 0), (n + 1, 0)]) (k := n + 2) ((((((tick_ok _).app gx).app (six _)).app (three _)).app gb).app (four _)) (by omega) (by simp; omega) (by simp; omega) (by simp), ?_⟩
        show (genB b (genE x (n + 2)).2).2 ≤ _
        omega
    · by_cases hk1 : k = 1
      · rw [genS_say hk1]
        have hsaid : decide (k = 1) = true := by simp [hk1]
        rw [hsaid] at hargs
        obtain ⟨g, lg⟩ := okSay hT hlo l hargs X n (by omega) hn (by omega)
        refine ⟨(tick_ok _).app g, ?_⟩
        show (genSay l n).2 ≤ _
        omega
      · have hkk : k ≠ 1 ∧ k ≠ 9 ∧ k ≠ 10 ∧ k ≠ 11 := by omega
        rw [genS_flat hkk]
        have hsaid : decide (k = 1) = false := by simp [hk1]
        rw [hsaid] at hargs
        have hd := fun (L : Int → Int) (S : Int → Prop) => deed_step (t := t) hlo (s := .mk k num nm l b c) hsh hth hkk (L := L) (S := S)
        have hl2 : (l.length : Int) ≤ 2 := (hd (fun _ => 0) (fun _ => True)).1
        by_cases hl0 : l.length = 0
        · have : l = [] := List.eq_nil_of_length_eq_zero hl0
          subst this
          refine ⟨((tick_ok _).app (GoodX.nil _ _)).app (.one fun L S h => (hd L S).2), ?_⟩
          show n ≤ _
          omega
        · obtain ⟨g, lg⟩ := okEs hT hlo l (args_es hargs) X n 0 (by omega) (by omega) hn (by omega)
          refine ⟨((tick_ok _).app g).app (.one fun L S h => by have := (hd L S).2; rw [Int.zero_add]; exact this), ?_⟩
          show (genEs l n).2 ≤ _
          omega
theorem okB : ∀ (l : List StmtP), boundAll t locals l = true → ∀ (X : List (Int × Int)) (n : Int), 8 * (dSs l : Int) ≤ 248 → 0 ≤ n → n + 2 * (sizeSs l : Int) ≤ 32000 → GoodX t X (genB l n).1 n (genB l n).2 0 0 ∧ (genB l n).2 ≤ n + 2 * (sizeSs l : Int)
  | [], hb, X, n, h1, hn, hs => ⟨.nil n 0, by unfold genB sizeSs; simp⟩
  | s :: l, hb, X, n, h1, hn, hs => by
    unfold boundAll at hb
    rw [Bool.and_eq_true] at hb
    unfold dSs at h1
    unfold sizeSs at hs ⊢
    obtain ⟨g1, l1⟩ := okS s hb.1 X n (by omega) hn (by omega)
    have g0 := g1.le
    obtain ⟨g2, l2⟩ := okB l hb.2 X (genS s n).2 (by omega) (by omega) (by omega)
    unfold genB
    exact ⟨g1.app g2, by show (genB l (genS s n).2).2 ≤ _; omega⟩
end
end
end Go.Proofs.Ytfipllnodgbghaa
namespace Go.Proofs.Ytfipllnodgbghaa
open Go.RowKit
set_option linter.unusedVariables false
set_option linter.unusedSimpArgs false
/-- Where a label stands first. -/
def standsP (C : List InsP) (k : Int) : Option Nat := C.findIdx? fun x => x.1 == 38 && x.2 == k
/-- The height behind an instruction, or what is wrong with it. -/
def metP (t : TabP) (x : InsP) (h : Int) (is : Bool) : Int × Int :=
  if x.1 = 38 then (h, 0)
  else if rightI t x = false ∨ (x.1 = 24 ∨ x.1 = 25) ∧ is = false then (0, 16)
  else if h < popsI t x ∨ x.1 = 27 ∧ h ≠ 1 ∨ popsI t x < h + pushesI x - 256 then (0, 17)
  else (h - popsI t x + pushesI x, 0)
def pushTo (C : List InsP) (x : InsP) (at_ : Nat) (b : Int) (r : List (Nat × Int)) : List (Nat × Int) :=
  let r1 := if x.1 = 24 ∨ x.1 = 25 then r ++ [((standsP C x.2).getD 0, b)] else r
  if x.1 ≠ 24 ∧ ¬ (x.1 = 27 ∨ x.1 = 28 ∨ x.1 = 29 ∨ x.1 = 30) then r1 ++ [(at_ + 1, b)] else r1
def heightsF (t : TabP) (C : List InsP) : Nat → List Int → List (Nat × Int) → List Int × Int
  | 0, out, _ => (out, 0)
  | f + 1, out, todo => if todo = [] then (out, 0) else
      let x := todo.getLastD (0, 0); let r := todo.dropLast
      if x.1 ≥ C.length then ([], 2)
      else if out.getD x.1 0 = x.2 then heightsF t C f out r
      else if out.getD x.1 0 ≠ -1 then ([], 17)
      else
        let i := C.getD x.1 dIns
        let b := metP t i x.2 (standsP C i.2).isSome
        if b.2 ≠ 0 then ([], b.2) else heightsF t C f (out.set x.1 x.2) (pushTo C i x.1 b.1 r)
def heightsP (t : TabP) (C : List InsP) : List Int × Int := heightsF t C (3 * C.length + 2) (List.replicate C.length (-1)) [(0, 0)]
/-! ### Frag at a place -/
theorem Frag.len {t : TabP} {L : Int → Int} {S : Int → Prop} {a b : Int} {C : List InsP} {H : List Int} (h : Frag t L S a C H b) : H.length = C.length := by
  induction h with
  | nil a => rfl
  | cons h1 h2 ih => simp [ih]
theorem Frag.at_ {t : TabP} {L : Int → Int} {S : Int → Prop} {a b : Int} {C : List InsP} {H : List Int} (h : Frag t L S a C H b) : (0 < C.length → H.getD 0 0 = a) ∧ ∀ i, i < C.length → StepOk t L S (C.getD i dIns) (H.getD i 0) (if i + 1 < C.length then H.getD (i + 1) 0 else b) := by
  induction h with
  | nil a => exact ⟨fun h => absurd h (Nat.lt_irrefl 0), fun i h => absurd h (Nat.not_lt_zero i)⟩
  | @cons x h b c C H h1 h2 ih =>
    refine ⟨fun _ => rfl, fun i hi => ?_⟩
    cases i with
    | zero =>
      show StepOk t L S x h _
      by_cases hc : 0 < C.length
      · rw [if_pos (by rw [List.length_cons]; omega)]
        show StepOk t L S x h (H.getD 0 0)
        rw [ih.1 hc]
        exact h1
      · rw [if_neg (by rw [List.length_cons]; omega)]
        have : C = [] := List.eq_nil_of_length_eq_zero (by omega)
        subst this
        cases h2
        exact h1
    | succ i =>
      have := ih.2 i (by rw [List.length_cons] at hi; omega)
      by_cases hc : i + 1 < C.length
      · rw [if_pos hc] at this
        rw [if_pos (by rw [List.length_cons]; omega)]
        exact this
      · rw [if_neg hc] at this
        rw [if_neg (by rw [List.length_cons]; omega)]
        exact this
/-- Code whose heights are H, all along. -/
structure Typed (t : TabP) (C : List InsP) (H : List Int) : Prop where
  len : H.length = C.length
  start : 0 < C.length ∧ H.getD 0 0 = 0
  nn : ∀ i, i < C.length → 0 ≤ H.getD i 0
  met : ∀ i, i < C.length → (metP t (C.getD i dIns) (H.getD i 0) (standsP C (C.getD i dIns).2).isSome).2 = 0
  goes : ∀ i, i < C.length → ((C.getD i dIns).1 = 24 ∨ (C.getD i dIns).1 = 25) → ∃ j, standsP C (C.getD i dIns).2 = some j ∧ j < C.length ∧ H.getD j 0 = (metP t (C.getD i dIns) (H.getD i 0) (standsP C (C.getD i dIns).2).isSome).1
  next : ∀ i, i < C.length → ((C.getD i dIns).1 ≠ 24 ∧ ¬ ((C.getD i dIns).1 = 27 ∨ (C.getD i dIns).1 = 28 ∨ (C.getD i dIns).1 = 29 ∨ (C.getD i dIns).1 = 30)) → i + 1 < C.length ∧ H.getD (i + 1) 0 = (metP t (C.getD i dIns) (H.getD i 0) (standsP C (C.getD i dIns).2).isSome).1
  tick : ∀ i, i < C.length → (C.getD i dIns).1 = 37 → H.getD i 0 = 0
  pops : ∀ i, i < C.length → (C.getD i dIns).1 ≠ 38 → popsI t (C.getD i dIns) ≤ H.getD i 0
theorem stands_some {C : List InsP} {k : Int} (h : (38, k) ∈ C) : ∃ j, standsP C k = some j ∧ j < C.length ∧ C.getD j dIns = (38, k) := by
  unfold standsP
  cases hf : C.findIdx? fun x => x.1 == 38 && x.2 == k with
  | none =>
    rw [List.findIdx?_eq_none_iff] at hf
    have := hf _ h
    simp at this
  | some j =>
    obtain ⟨h1, h2, _⟩ := List.findIdx?_eq_some_iff_getElem.1 hf
    refine ⟨j, rfl, h1, ?_⟩
    rw [List.getD, List.getElem?_eq_getElem h1, Option.getD_some]
    simp only [Bool.and_eq_true, beq_iff_eq] at h2
    exact Prod.ext h2.1 h2.2
theorem Frag.typed {t : TabP} {L : Int → Int} {b : Int} {C : List InsP} {H : List Int} (h : Frag t L (fun k => (38, k) ∈ C) 0 C H b) (h0 : 0 < C.length) (hl : ∀ i, i + 1 = C.length → (C.getD i dIns).1 = 27) : Typed t C H := by
  obtain ⟨g1, g2⟩ := h.at_
  have hm : ∀ i, i < C.length → (C.getD i dIns).1 ≠ 38 → metP t (C.getD i dIns) (H.getD i 0) (standsP C (C.getD i dIns).2).isSome = (H.getD i 0 - popsI t (C.getD i dIns) + pushesI (C.getD i dIns), 0) := fun i hi h38 => by
    obtain ⟨k0, k1⟩ := g2 i hi
    rw [if_neg h38] at k1
    obtain ⟨m1, m2, m3, m4, m5, m6, m7⟩ := k1
    unfold metP
    rw [if_neg h38, if_neg, if_neg]
    · rintro (e | ⟨e, e'⟩ | e)
      · omega
      · exact e' (m3 e)
      · omega
    · rintro (e | ⟨e, e'⟩)
      · rw [m1] at e; cases e
      · obtain ⟨j, hj, _, _⟩ := stands_some (m6 e).1
        rw [hj] at e'
        cases e'
  have hlab : ∀ i, i < C.length → (C.getD i dIns).1 = 38 → metP t (C.getD i dIns) (H.getD i 0) (standsP C (C.getD i dIns).2).isSome = (H.getD i 0, 0) := fun i hi h38 => by
    unfold metP
    rw [if_pos h38]
  refine ⟨h.len, ⟨h0, g1 h0⟩, fun i hi => (g2 i hi).1, fun i hi => ?_, fun i hi hg => ?_, fun i hi hn => ?_, fun i hi ht => ?_, fun i hi h38 => ?_⟩
  · by_cases h38 : (C.getD i dIns).1 = 38
    · rw [hlab i hi h38]
    · rw [hm i hi h38]
  · have h38 : (C.getD i dIns).1 ≠ 38 := by omega
    rw [hm i hi h38]
    obtain ⟨k0, k1⟩ := g2 i hi
    rw [if_neg h38] at k1
    obtain ⟨m1, m2, m3, m4, m5, m6, m7⟩ := k1
    obtain ⟨hs, hL⟩ := m6 hg
    obtain ⟨j, hj, hjl, hjc⟩ := stands_some hs
    refine ⟨j, hj, hjl, ?_⟩
    obtain ⟨_, q⟩ := g2 j hjl
    rw [hjc] at q
    have q1 := q.1
    rw [← q1]
    exact hL
  · have hlt : i + 1 < C.length := by
      rcases Nat.lt_or_ge (i + 1) C.length with h | h
      · exact h
      · exact absurd (.inl (hl i (by omega))) hn.2
    refine ⟨hlt, ?_⟩
    obtain ⟨k0, k1⟩ := g2 i hi
    by_cases h38 : (C.getD i dIns).1 = 38
    · rw [if_pos h38, if_pos hlt] at k1
      rw [hlab i hi h38]
      exact k1.2
    · rw [if_neg h38, if_pos hlt] at k1
      rw [hm i hi h38]
      exact k1.2.2.2.2.2.2 hn.1 hn.2
  · obtain ⟨k0, k1⟩ := g2 i hi
    rw [if_neg (by omega)] at k1
    exact k1.2.2.2.2.1 ht
  · obtain ⟨k0, k1⟩ := g2 i hi
    rw [if_neg h38] at k1
    exact k1.2.1
/-! ### The heights of typed code -/
theorem heights_typed {t : TabP} {C : List InsP} {H : List Int} (hT : Typed t C H) : ∀ (f : Nat) (out : List Int) (todo : List (Nat × Int)), out.length = C.length → (∀ i, i < C.length → out.getD i 0 = -1 ∨ out.getD i 0 = H.getD i 0) → (∀ p ∈ todo, p.1 < C.length ∧ p.2 = H.getD p.1 0) →
    (heightsF t C f out todo).2 = 0 ∧ (heightsF t C f out todo).1.length = C.length ∧ ∀ i, i < C.length → (heightsF t C f out todo).1.getD i 0 = -1 ∨ (heightsF t C f out todo).1.getD i 0 = H.getD i 0
  | 0, out, todo, h1, h2, h3 => ⟨rfl, h1, h2⟩
  | f + 1, out, todo, h1, h2, h3 => by
    unfold heightsF
    by_cases hn : todo = []
    · rw [if_pos hn]
      exact ⟨rfl, h1, h2⟩
    · rw [if_neg hn]
      have hx : todo.getLastD (0, 0) ∈ todo := by
        rw [List.getLastD_eq_getLast?, List.getLast?_eq_some_getLast hn]
        exact List.getLast_mem hn
      generalize todo.getLastD (0, 0) = x at hx ⊢
      obtain ⟨x1, x2⟩ := h3 x hx
      have hr : ∀ p ∈ todo.dropLast, p.1 < C.length ∧ p.2 = H.getD p.1 0 := fun p hp => h3 p (List.dropLast_subset _ hp)
      generalize todo.dropLast = r at hr ⊢
      show (if x.1 ≥ C.length then _ else _ : List Int × Int).2 = 0 ∧ (if x.1 ≥ C.length then _ else _ : List Int × Int).1.length = _ ∧ _
      simp only [if_neg (show ¬ x.1 ≥ C.length by omega)]
      by_cases he : out.getD x.1 0 = x.2
      · simp only [if_pos he]
        exact heights_typed hT f out r h1 h2 hr
      · simp only [if_neg he]
        have hu : out.getD x.1 0 = -1 := by
          rcases h2 x.1 x1 with h | h
          · exact h
          · exact absurd (h.trans x2.symm) he
        simp only [if_neg (show ¬ out.getD x.1 0 ≠ -1 from fun h => h hu)]
        have hmet := hT.met x.1 x1
        rw [← x2] at hmet
        simp only [if_neg (show ¬ (metP t (C.getD x.1 dIns) x.2 (standsP C (C.getD x.1 dIns).2).isSome).2 ≠ 0 from fun h => h hmet)]
        refine heights_typed hT f _ _ (by rw [List.length_set]; exact h1) (fun i hi => ?_) (fun p hp => ?_)
        · by_cases e : x.1 = i
          · subst e
            right
            rw [List.getD, List.getElem?_set_self (by omega)]
            exact x2
          · rw [List.getD, List.getElem?_set_ne e]
            exact h2 i hi
        · have hgo := hT.goes x.1 x1
          have hnx := hT.next x.1 x1
          rw [← x2] at hgo hnx
          have one : ∀ p ∈ (if (C.getD x.1 dIns).1 = 24 ∨ (C.getD x.1 dIns).1 = 25 then r ++ [((standsP C (C.getD x.1 dIns).2).getD 0, (metP t (C.getD x.1 dIns) x.2 (standsP C (C.getD x.1 dIns).2).isSome).1)] else r), p.1 < C.length ∧ p.2 = H.getD p.1 0 := by
            intro p hp
            split at hp
            · rename_i hg
              rcases List.mem_append.1 hp with hp | hp
              · exact hr p hp
              · rw [List.mem_singleton] at hp
                obtain ⟨j, hj, hjl, hjh⟩ := hgo hg
                subst hp
                rw [hj] at hjh ⊢
                exact ⟨hjl, hjh.symm⟩
            · exact hr p hp
          unfold pushTo at hp
          simp only at hp
          split at hp
          · rename_i hc
            rcases List.mem_append.1 hp with hp | hp
            · exact one p hp
            · rw [List.mem_singleton] at hp
              subst hp
              obtain ⟨q1, q2⟩ := hnx hc
              exact ⟨q1, q2.symm⟩
          · exact one p hp
/-! ### The routine -/
theorem routine_typed {t : TabP} (hT : TFit t) {locals : Int} (hlo : locals ≤ 24) {l : List StmtP} (hb : boundB t locals l = true) (hd : dB l ≤ 32) (hs : sizeSs l ≤ 300) : ∃ H, Typed t (routineP l) H := by
  unfold boundB at hb
  rw [Bool.and_eq_true] at hb
  have hds : dSs l ≤ 31 ∨ l = [] := by
    cases l with
    | nil => exact .inr rfl
    | cons s l => left; unfold dB at hd; unfold dSs; omega
  have hds' : 8 * (dSs l : Int) ≤ 248 := by
    rcases hds with h | h
    · omega
    · subst h; unfold dSs; omega
  obtain ⟨g, _⟩ := okB hT hlo l hb.1 [] 0 hds' (by omega) (by omega)
  have g2 : GoodX t [] (routineP l) 0 (genB l 0).2 0 0 := g.app (GoodX.app (C := [(1, 0)]) (b := 1) (.one fun L S h => step_push (by omega) (by omega) (by decide)) (.one fun L S h => by
    refine ⟨by omega, ?_⟩
    rw [if_neg (show ¬ (27 : Int) = 38 by decide), pops_is (show (27 : Int) ≠ 26 by decide), pushes_is, show popsC 27 = 1 from rfl, show pushesC 27 = 0 from rfl]
    exact ⟨right_zero (by decide) (by decide) (fun _ _ _ _ _ => rfl) (by decide), by omega, fun _ => rfl, by omega, fun e => absurd e (show ¬ (27 : Int) = 37 by decide), fun e => by rcases e with e | e; exact absurd e (show ¬ (27 : Int) = 24 by decide); exact absurd e (show ¬ (27 : Int) = 25 by decide), fun _ h => absurd (.inl rfl) h⟩))
  obtain ⟨_, H, B, k1, k2, k3, k4⟩ := g2
  have hF := k4 (fun k => ((B.find? fun p => p.1 == k).map (·.2)).getD 0) (fun k => (38, k) ∈ routineP l) (fun p hp => ⟨?_, k3 p hp⟩) (fun p hp => by cases hp)
  · refine ⟨H, hF.typed (by unfold routineP; simp) fun i hi => ?_⟩
    unfold routineP at hi ⊢
    rw [List.length_append] at hi
    rw [List.getD, List.getElem?_append_right (by simp at hi; omega)]
    have : i - (genB l 0).1.length = 1 := by simp at hi; omega
    rw [this]
    rfl
  · cases hf : B.find? fun q => q.1 == p.1 with
    | none =>
      have := List.find?_eq_none.1 hf p hp
      simp at this
    | some q =>
      have hq := List.mem_of_find?_eq_some hf
      have he := List.find?_some hf
      have he' : q.1 = p.1 := by simpa using he
      show q.2 = p.2
      by_cases e : q = p
      · rw [e]
      · exact absurd he' (by
          rcases List.pairwise_iff_getElem.1 k2 with hpw
          obtain ⟨i, hi, e1⟩ := List.mem_iff_getElem.1 hq
          obtain ⟨j, hj, e2⟩ := List.mem_iff_getElem.1 hp
          rcases Nat.lt_trichotomy i j with h | h | h
          · have := hpw i j hi hj h
            rw [e1, e2] at this
            exact this
          · subst h
            exact absurd (e1.symm.trans e2) e
          · have := hpw j i hj hi h
            rw [e1, e2] at this
            exact fun h => this h.symm)
end Go.Proofs.Ytfipllnodgbghaa
namespace Go.Proofs.Ytfipllnodgbghaa
open Go.RowKit
set_option linter.unusedVariables false
set_option linter.unusedSimpArgs false
theorem flat_idx {k : Nat} (hk : 0 < k) : ∀ (l : List Av), (∀ z ∈ l, (flatA z).length = k) → ∀ (j : Nat) (y : Av), (l.flatMap flatA)[j]? = some y → ∃ m i z, j = m * k + i ∧ i < k ∧ l[m]? = some z ∧ (flatA z)[i]? = some y
  | [], _, j, y, hy => by simp at hy
  | z :: l, hl, j, y, hy => by
    have hz := hl z (List.mem_cons_self ..)
    rw [List.flatMap_cons] at hy
    rcases Nat.lt_or_ge j k with h | h
    · rw [List.getElem?_append_left (by omega)] at hy
      exact ⟨0, j, z, by omega, h, rfl, hy⟩
    · rw [List.getElem?_append_right (by omega), hz] at hy
      obtain ⟨m, i, z', h1, h2, h3, h4⟩ := flat_idx hk l (fun x hx => hl x (List.mem_cons_of_mem _ hx)) (j - k) y hy
      exact ⟨m + 1, i, z', by rw [Nat.succ_mul]; omega, h2, h3, h4⟩
section
variable {P : Program} {o : Oper} {ρ : Operand → Av} {T : TypeId}
theorem oc_buildSlice_ownK {ps : List Operand} {xs : List Av} {e : TypeId} {k by_ n : Nat} {zs : List Value} (m : Nat) (ho : o.op = .buildSlice T n (seqParts 0 ps).toArray) (hT : eB P T = some e) (hi : infoB P e = some (k, by_, zs)) (hxs : ps.map ρ = xs) (hs : szAll k xs = true) (hk : 0 < k) (hf : ∀ z ∈ xs, (flatA z).length = k) (hn : ps.length = n) (hm : n ≤ 16777216) (hm2 : n * k ≤ 16777216) :
    OC P o ρ [(m, .unborn)] (.osl k m n) [(m, .live e (xs.flatMap flatA))] := by
  intro E a hG hr hH
  have hu : E.loc m = .unborn := hH m .unborn (by simp)
  subst hxs hn
  have hr' : ∀ p ∈ ps, Rep E (ρ p) (a.eval p) := fun p hp => hr p (by
    obtain ⟨i, hi⟩ := seq_mem ps 0 hp
    simp [ho, Op.operands]
    exact ⟨i, hi⟩)
  obtain ⟨cells', h1, h2, h3⟩ := buildSlice_run E.w hT hi hr' hs hm2
  have hB : Below E.w.heap.size E.w (E.w.alloc (.cells cells' e)) := (Below.refl _ _).alloc (Nat.le_refl _) _
  have : ((seqParts 0 ps).toArray.map fun (i, x) => (i, a.eval x)) = ((seqParts 0 ps).map fun ip => (ip.1, a.eval ip.2)).toArray := by simp
  unfold grows execOp
  simp only [ho, this, Sem.run_bind, h1, Result.andThen_ok, Sem.run_pure, growUpon]
  refine post_give hG hu hB (Nat.le_refl _) (heap_alloc_new _ _) (fun j y hy => ?_) ?_
  · obtain ⟨q, i, z, rfl, hi', hz, hzy⟩ := flat_idx hk _ hf j y hy
    rw [List.getElem?_map] at hz
    cases hp : ps[q]? with
    | none => simp [hp] at hz
    | some p =>
      simp [hp] at hz
      subst hz
      have hpm := List.mem_of_getElem? hp
      obtain ⟨h4, h5, h6, h7⟩ := flat_cells (hr' p hpm) (szAll_get _ hs _ (List.mem_map.2 ⟨p, hpm, rfl⟩))
      obtain ⟨u, h8, h9, h10⟩ := h7 i y hzy
      exact ⟨u, h3 q p hp i u h8, h9, h10⟩
  · unfold Rep
    refine ⟨⟨by simp [Env.give], ⟨_, _, rfl⟩, fun hn => by simp [Env.give] at hn⟩, fun b hb => ?_⟩
    simp [Env.give] at hb
    subst hb
    exact ⟨ps.length, cells', e, rfl, Nat.le_refl _, by unfold maxLen; omega, heap_alloc_new _ _, by omega⟩
end
/-! ### Rows of pairs of numbers -/
def ins2 (l : List InsP) : List Av := l.flatMap fun p => [vi p.1, vi p.2]
theorem ins2_len (l : List InsP) : (ins2 l).length = l.length * 2 := by
  induction l with
  | nil => rfl
  | cons p l ih =>
    show ([vi p.1, vi p.2] ++ ins2 l).length = _
    rw [List.length_append, ih]
    simp only [List.length_cons, List.length_nil]
    omega
theorem ins2_app (a b : List InsP) : ins2 (a ++ b) = ins2 a ++ ins2 b := by unfold ins2; simp
theorem ins2_fst {l : List InsP} : ∀ {j : Nat}, j < l.length → (ins2 l)[j * 2]? = some (vi (l.getD j dIns).1) := by
  induction l with
  | nil => intro j h; simp at h
  | cons p l ih =>
    intro j h
    cases j with
    | zero => rfl
    | succ j =>
      show (vi p.1 :: vi p.2 :: ins2 l)[(j + 1) * 2]? = _
      rw [show (j + 1) * 2 = j * 2 + 1 + 1 from by omega, List.getElem?_cons_succ, List.getElem?_cons_succ, ih (by simpa using h)]
      rfl
theorem ins2_snd {l : List InsP} : ∀ {j : Nat}, j < l.length → (ins2 l)[j * 2 + 1]? = some (vi (l.getD j dIns).2) := by
  induction l with
  | nil => intro j h; simp at h
  | cons p l ih =>
    intro j h
    cases j with
    | zero => rfl
    | succ j =>
      show (vi p.1 :: vi p.2 :: ins2 l)[(j + 1) * 2 + 1]? = _
      rw [show (j + 1) * 2 + 1 = j * 2 + 1 + 1 + 1 from by omega, List.getElem?_cons_succ, List.getElem?_cons_succ, ih (by simpa using h)]
      rfl
theorem app_ins2 (l : List InsP) : ∀ j, j < l.length → szB ((fun j => insAv (l.getD j dIns)) j) 2 = true ∧ ∀ i y, i < 2 → (ins2 l)[j * 2 + i]? = some y → (flatA ((fun j => insAv (l.getD j dIns)) j))[i]? = some y := fun j hj => by
  refine ⟨rfl, fun i y hi hy => ?_⟩
  rcases i with _ | _ | i
  · rw [Nat.add_zero, ins2_fst hj] at hy; exact hy
  · rw [ins2_snd hj] at hy; exact hy
  · omega
theorem non_ins2 {Z : List Nat} (l : List InsP) : ∀ z ∈ ins2 l, NoN Z z := fun z hz => by
  obtain ⟨p, _, hp⟩ := List.mem_flatMap.1 hz
  simp at hp
  rcases hp with rfl | rfl <;> simp [NoN]
/-- A named row of pairs, read only from here on. -/
theorem Le.freezeI {N : Nat} {D : List Nat} {s : List (Nat × Av)} {h : List (Nat × Hs)} (t n : Nat) {ty : TypeId} (l : List InsP) (hs : lkS s t = .osl 2 n l.length) (hn : lkH h n = some (.live ty (ins2 l))) : Le N D ⟨s, h⟩ ⟨(t, codeAv l) :: s, (n, .dead) :: h⟩ := Le.step fun E a hF => by
  have hv := hF.holds.1 t
  rw [hs] at hv
  have hH := hF.holds.2 n _ hn
  have hn0 : E.loc n ≠ .unborn := by unfold Rep at hv; exact hv.1.1
  have hS := Step.kill E n hn0
  refine ⟨E.re n .dead, [n], rfl, hS, hF.good.re (by simp), fun u => ?_, fun m y hy => ?_⟩
  · by_cases e : t = u
    · subst e
      rw [lkS_eq]
      refine freeze_rep hF.good hv hH (ins2_len l) (fun j hj => ⟨rfl, fun i y hy => ?_⟩) (fun j hj us hus h1 => ?_)
      · have hy' : [vi (l.getD j dIns).1, vi (l.getD j dIns).2][i]? = some y := hy
        rcases i with _ | _ | i
        · simp at hy'; subst hy'; rw [Nat.add_zero, ins2_fst hj]; simp
        · simp at hy'; subst hy'; rw [ins2_snd hj]; simp
        · simp at hy'
      · refine ⟨.agg us.toArray, ?_, ?_⟩
        · unfold insAv Rep
          exact ⟨us, rfl, hus, h1⟩
        · have hus' : RepL (E.re n .dead) [vi (l.getD j dIns).1, vi (l.getD j dIns).2] us := hus
          unfold RepL RepL RepL at hus'
          obtain ⟨u, us', rfl, h3, u', us'', rfl, h4, rfl⟩ := hus'
          unfold Rep at h3 h4
          subst h3
          subst h4
          rfl
    · rw [lkS_ne _ _ e]
      exact Rep.step hS _ _ (hF.holds.1 u)
  · by_cases e : n = m
    · subst e
      simp [lkH] at hy
      subst hy
      show (E.re n .dead).loc n = .dead
      simp [Env.re]
    · simp only [lkH, beqF e, cond_false] at hy
      exact HAt.step hS (by simp [Ne.symm e]) (hF.holds.2 m y hy)
end Go.Proofs.Ytfipllnodgbghaa
