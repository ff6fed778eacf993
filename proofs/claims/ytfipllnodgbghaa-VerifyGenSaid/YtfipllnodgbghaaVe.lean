/- Chapter 31: trees, and the document's code of them, as plain data. No program stands in this text. Chapter 31: how many, how deep, and which trees may be. No program stands in this text. Chapter 31: which trees may be; heights along code. No program stands in this text. Chapter 31: the document's code of bound trees keeps its heights: expressions. No program stands in this text. Chapter 31: the code of bound expressions keeps its heights. No program stands in this text. -/
import Derived.Test.YtfipllnodgbghaaFwa
namespace Go.Proofs.Ytfipllnodgbghaa
open Go.RowKit
set_option linter.unusedVariables false
set_option linter.unusedSimpArgs false
inductive ExprP where
  | mk (kind op num : Int) (name : ByteArray) (args : List ExprP)
inductive StmtP where
  | mk (kind num : Int) (name : ByteArray) (args : List ExprP) (body els : List StmtP)
namespace ExprP
def kind : ExprP → Int | mk k _ _ _ _ => k
def op : ExprP → Int | mk _ o _ _ _ => o
def num : ExprP → Int | mk _ _ n _ _ => n
def name : ExprP → ByteArray | mk _ _ _ s _ => s
def args : ExprP → List ExprP | mk _ _ _ _ l => l
end ExprP
namespace StmtP
def kind : StmtP → Int | mk k _ _ _ _ _ => k
def num : StmtP → Int | mk _ n _ _ _ _ => n
def name : StmtP → ByteArray | mk _ _ s _ _ _ => s
def args : StmtP → List ExprP | mk _ _ _ l _ _ => l
def body : StmtP → List StmtP | mk _ _ _ _ l _ => l
def els : StmtP → List StmtP | mk _ _ _ _ _ l => l
end StmtP
def dExpr : ExprP := .mk 0 0 0 ByteArray.empty []
def dStmt : StmtP := .mk 0 0 ByteArray.empty [] [] []
mutual
def sizeE : ExprP → Nat
  | .mk _ _ _ _ l => 1 + sizeEs l
def sizeEs : List ExprP → Nat
  | [] => 0
  | e :: l => sizeE e + sizeEs l
end
mutual
def sizeS : StmtP → Nat
  | .mk _ _ _ l b c => 1 + sizeEs l + sizeSs b + sizeSs c
def sizeSs : List StmtP → Nat
  | [] => 0
  | s :: l => sizeS s + sizeSs l
end
mutual
def exprAv : ExprP → Av
  | .mk k o n s l => .agg [vi k, vi o, vi n, vs s, .sl 5 l.length (exprRow l)]
def exprRow : List ExprP → Nat → Av
  | [], _ => .any
  | e :: l, 0 => exprAv e
  | e :: l, j + 1 => exprRow l j
end
mutual
def stmtAv : StmtP → Av
  | .mk k n s l b c => .agg [vi k, vi n, vs s, .sl 5 l.length (exprRow l), .sl 6 b.length (stmtRow b), .sl 6 c.length (stmtRow c)]
def stmtRow : List StmtP → Nat → Av
  | [], _ => .any
  | e :: l, 0 => stmtAv e
  | e :: l, j + 1 => stmtRow l j
end
def exprsAv (l : List ExprP) : Av := .sl 5 l.length (exprRow l)
def stmtsAv (l : List StmtP) : Av := .sl 6 l.length (stmtRow l)
theorem exprAv_eq (e : ExprP) : exprAv e = .agg [vi e.kind, vi e.op, vi e.num, vs e.name, exprsAv e.args] := by cases e; rfl
theorem stmtAv_eq (s : StmtP) : stmtAv s = .agg [vi s.kind, vi s.num, vs s.name, exprsAv s.args, stmtsAv s.body, stmtsAv s.els] := by cases s; rfl
theorem exprRow_at : ∀ {l : List ExprP} {j : Nat}, j < l.length → exprRow l j = exprAv (l.getD j dExpr)
  | e :: l, 0, _ => rfl
  | e :: l, j + 1, h => exprRow_at (l := l) (j := j) (by simpa using h)
theorem stmtRow_at : ∀ {l : List StmtP} {j : Nat}, j < l.length → stmtRow l j = stmtAv (l.getD j dStmt)
  | e :: l, 0, _ => rfl
  | e :: l, j + 1, h => stmtRow_at (l := l) (j := j) (by simpa using h)
mutual
theorem expr_pure : ∀ e : ExprP, Pure (exprAv e)
  | .mk k o n s l => by
    unfold exprAv Pure PureL PureL PureL PureL PureL PureL
    refine ⟨by simp [Pure], by simp [Pure], by simp [Pure], by simp [Pure], ?_, trivial⟩
    unfold Pure
    exact exprRow_pure l
theorem exprRow_pure : ∀ (l : List ExprP) (j : Nat), Pure (exprRow l j)
  | [], _ => by unfold exprRow; simp [Pure]
  | e :: l, 0 => expr_pure e
  | e :: l, j + 1 => exprRow_pure l j
end
mutual
theorem stmt_pure : ∀ e : StmtP, Pure (stmtAv e)
  | .mk k n s l b c => by
    unfold stmtAv Pure PureL PureL PureL PureL PureL PureL PureL
    refine ⟨by simp [Pure], by simp [Pure], by simp [Pure], ?_, ?_, ?_, trivial⟩
    · unfold Pure
      exact exprRow_pure l
    · unfold Pure
      exact stmtRow_pure b
    · unfold Pure
      exact stmtRow_pure c
theorem stmtRow_pure : ∀ (l : List StmtP) (j : Nat), Pure (stmtRow l j)
  | [], _ => by unfold stmtRow; simp [Pure]
  | e :: l, 0 => stmt_pure e
  | e :: l, j + 1 => stmtRow_pure l j
end
theorem exprs_pure (l : List ExprP) : Pure (exprsAv l) := by unfold exprsAv Pure; exact exprRow_pure l
theorem stmts_pure (l : List StmtP) : Pure (stmtsAv l) := by unfold stmtsAv Pure; exact stmtRow_pure l
theorem sizeE_eq (e : ExprP) : sizeE e = 1 + sizeEs e.args := by cases e; rfl
theorem sizeS_eq (s : StmtP) : sizeS s = 1 + sizeEs s.args + sizeSs s.body + sizeSs s.els := by cases s; rfl
abbrev InsP := Int × Int
def dIns : InsP := (0, 0)
def insAv (x : InsP) : Av := .agg [vi x.1, vi x.2]
def codeAv (l : List InsP) : Av := .sl 2 l.length fun j => insAv (l.getD j dIns)
theorem code_pure (l : List InsP) : Pure (codeAv l) := by unfold codeAv Pure; intro j; simp [insAv, Pure, PureL]
/-! ### The document's code -/
def ownI (e : ExprP) : InsP :=
  if e.kind = 1 then (1, e.num) else if e.kind = 14 then (3, e.num) else if e.kind = 15 then (5, e.num) else if e.kind = 12 then (7, e.op) else if e.kind = 4 then (9, 0) else if e.kind = 5 then (10, 0)
  else if e.kind = 11 then (20, 0) else if e.kind = 6 then (8, e.op) else if e.kind = 16 then (12, e.num) else if e.kind = 17 then (13, e.num) else if e.kind = 18 then (26, e.num) else (19, e.op)
mutual
def genE : ExprP → Int → List InsP × Int
  | .mk k o n s l, m =>
    if k = 6 ∧ (o = 1 ∨ o = 2) then
      (match l with
      | a :: b :: _ =>
        let A := genE a (m + 2); let B := genE b A.2
        if o = 1 then (A.1 ++ [(25, m)] ++ [(1, 1), (24, m + 1), (38, m)] ++ B.1 ++ [(11, 0), (38, m + 1)], B.2)
        else (A.1 ++ [(25, m)] ++ B.1 ++ [(11, 0), (24, m + 1), (38, m), (1, 0), (38, m + 1)], B.2)
      | _ => ([], m))
    else
      let A := genEs l m
      (A.1 ++ [ownI (.mk k o n s l)], A.2)
def genEs : List ExprP → Int → List InsP × Int
  | [], m => ([], m)
  | e :: l, m =>
    let A := genE e m; let B := genEs l A.2
    (A.1 ++ B.1, B.2)
end
def genSay : List ExprP → Int → List InsP × Int
  | [], m => ([], m)
  | x :: l, m =>
    if x.kind = 19 then
      let B := genSay l m
      ((21, x.num) :: B.1, B.2)
    else if x.kind = 13 then
      let A := genE (x.args.getD 0 dExpr) m; let B := genSay l A.2
      (A.1 ++ [(23, 0)] ++ B.1, B.2)
    else
      let A := genE x m; let B := genSay l A.2
      (A.1 ++ [(22, 0)] ++ B.1, B.2)
def deedI (s : StmtP) : InsP :=
  if s.kind = 2 ∨ s.kind = 3 then (6, s.num) else if s.kind = 23 then (4, s.num) else if s.kind = 4 then (14, s.num) else if s.kind = 5 then (15, s.num) else if s.kind = 6 then (16, s.num) else if s.kind = 17 then (32, s.num) else if s.kind = 18 then (33, s.num)
  else if s.kind = 7 then (17, 0) else if s.kind = 8 then (18, 0) else if s.kind = 12 then (27, 0) else if s.kind = 13 then (28, 0) else if s.kind = 14 then (29, 0) else if s.kind = 15 then (30, 0) else if s.kind = 16 then (31, 0) else if s.kind = 20 then (34, 0) else if s.kind = 21 then (35, 0) else if s.kind = 22 then (36, 0) else (2, 0)
mutual
def genS : StmtP → Int → List InsP × Int
  | .mk k n s l b c, m =>
    if k = 9 then
      let A := genE (l.getD 0 dExpr) (if 0 < c.length then m + 2 else m + 1)
      let B := genB b A.2
      if c.length = 0 then ([(37, 0)] ++ A.1 ++ [(25, m)] ++ B.1 ++ [(38, m)], B.2)
      else
        let C := genB c B.2
        ([(37, 0)] ++ A.1 ++ [(25, m)] ++ B.1 ++ [(24, m + 1), (38, m)] ++ C.1 ++ [(38, m + 1)], C.2)
    else if k = 10 then
      let A := genE (l.getD 0 dExpr) (m + 2)
      let B := genB b A.2
      ([(38, m), (37, 0)] ++ A.1 ++ [(25, m + 1)] ++ B.1 ++ [(24, m), (38, m + 1)], B.2)
    else if k = 11 then
      let A := genE (l.getD 0 dExpr) (m + 2)
      let B := genB b A.2
      ([(37, 0)] ++ A.1 ++ [(19, 2), (6, n), (38, m), (5, n), (25, m + 1), (37, 0)] ++ [(5, n), (19, 3), (6, n + 1)] ++ B.1 ++ [(5, n + 1), (6, n), (24, m), (38, m + 1)], B.2)
    else if k = 1 then
      let A := genSay l m
      ([(37, 0)] ++ A.1, A.2)
    else
      let A := genEs l m
      ([(37, 0)] ++ A.1 ++ [deedI (.mk k n s l b c)], A.2)
def genB : List StmtP → Int → List InsP × Int
  | [], m => ([], m)
  | s :: l, m =>
    let A := genS s m; let B := genB l A.2
    (A.1 ++ B.1, B.2)
end
def routineP (l : List StmtP) : List InsP := (genB l 0).1 ++ [(1, 0), (27, 0)]
end Go.Proofs.Ytfipllnodgbghaa
namespace Go.Proofs.Ytfipllnodgbghaa
open Go.RowKit
set_option linter.unusedVariables false
set_option linter.unusedSimpArgs false
/-! ### How many -/
mutual
def fewE : ExprP → Int → Int
  | .mk _ _ _ _ l, m => fewEs l (IntKind.i64.wrap (m - 1))
def fewEs : List ExprP → Int → Int
  | [], m => m
  | e :: l, m => if m < 0 then m else fewEs l (fewE e m)
end
mutual
def fewS : StmtP → Int → Int
  | .mk _ _ _ l b c, m => fewSs c (fewSs b (fewEs l (IntKind.i64.wrap (m - 1))))
def fewSs : List StmtP → Int → Int
  | [], m => m
  | s :: l, m => if fewEs s.args (IntKind.i64.wrap (m - 1)) < 0 then fewEs s.args (IntKind.i64.wrap (m - 1)) else fewSs l (fewS s m)
end
/-! ### How deep -/
mutual
def deepE : ExprP → Int → Int
  | .mk _ _ _ _ l, most => (if most > 1 then deepEs l (most - 1) 0 else 0) + 1
def deepEs : List ExprP → Int → Int → Int
  | [], _, n => n
  | e :: l, most, n => deepEs l most (if deepE e most > n then deepE e most else n)
end
def maxI (a b : Int) : Int := if a > b then a else b
def deepArgs : List ExprP → Int → Int → Int
  | [], _, n => n
  | e :: l, most, n => deepArgs l most (maxI n (deepE e most))
mutual
def deepS : StmtP → Int → Int → Int
  | .mk _ _ _ l b c, most, n => maxI (deepArgs l most n) (maxI (deepB b most) (deepB c most))
def deepB : List StmtP → Int → Int
  | [], _ => 0
  | s :: l, most => (if most > 1 then deepSs l (most - 1) (deepS s (most - 1) 0) else 0) + 1
def deepSs : List StmtP → Int → Int → Int
  | [], _, n => n
  | s :: l, most, n => deepSs l most (deepS s most n)
end
mutual
def dE : ExprP → Nat
  | .mk _ _ _ _ l => dEs l + 1
def dEs : List ExprP → Nat
  | [] => 0
  | e :: l => max (dE e) (dEs l)
end
mutual
def dS : StmtP → Nat
  | .mk _ _ _ l b c => max (dEs l) (max (dB b) (dB c))
def dB : List StmtP → Nat
  | [] => 0
  | s :: l => max (dS s) (dSs l) + 1
def dSs : List StmtP → Nat
  | [] => 0
  | s :: l => max (dS s) (dSs l)
end
mutual
theorem deepE_eq : ∀ (e : ExprP) (m : Nat), 1 ≤ m → deepE e m = (min (dE e) m : Nat)
  | .mk k o n s l, m, hm => by
    unfold deepE dE
    by_cases h1 : m > 1
    · rw [if_pos (by omega), show ((m : Int) - 1) = ((m - 1 : Nat) : Int) by omega, show (0 : Int) = ((0 : Nat) : Int) from rfl, deepEs_eq l (m - 1) 0 (by omega)]
      omega
    · rw [if_neg (by omega)]
      omega
theorem deepEs_eq : ∀ (l : List ExprP) (m n : Nat), 1 ≤ m → deepEs l m n = (max n (min (dEs l) m) : Nat)
  | [], m, n, _ => by unfold deepEs dEs; omega
  | e :: l, m, n, hm => by
    unfold deepEs dEs
    rw [deepE_eq e m hm]
    by_cases h : ((min (dE e) m : Nat) : Int) > n
    · rw [if_pos h, deepEs_eq l m _ hm]
      omega
    · rw [if_neg h, deepEs_eq l m _ hm]
      omega
end
theorem maxI_nat (a b : Nat) : maxI a b = (max a b : Nat) := by unfold maxI; split <;> omega
theorem deepArgs_eq : ∀ (l : List ExprP) (m n : Nat), 1 ≤ m → deepArgs l m n = (max n (min (dEs l) m) : Nat)
  | [], m, n, _ => by unfold deepArgs dEs; omega
  | e :: l, m, n, hm => by
    unfold deepArgs dEs
    rw [deepE_eq e m hm, maxI_nat, deepArgs_eq l m _ hm]
    omega
mutual
theorem deepS_eq : ∀ (s : StmtP) (m n : Nat), 1 ≤ m → deepS s m n = (max n (min (dS s) m) : Nat)
  | .mk k n' s l b c, m, n, hm => by
    unfold deepS dS
    rw [deepArgs_eq l m n hm, deepB_eq b m hm, deepB_eq c m hm, maxI_nat, maxI_nat]
    omega
theorem deepB_eq : ∀ (l : List StmtP) (m : Nat), 1 ≤ m → deepB l m = (min (dB l) m : Nat)
  | [], m, _ => by unfold deepB dB; omega
  | s :: l, m, hm => by
    unfold deepB dB
    by_cases h1 : m > 1
    · rw [if_pos (by omega), show ((m : Int) - 1) = ((m - 1 : Nat) : Int) by omega, show (0 : Int) = ((0 : Nat) : Int) from rfl, deepS_eq s (m - 1) 0 (by omega), deepSs_eq l (m - 1) _ (by omega)]
      omega
    · rw [if_neg (by omega)]
      omega
theorem deepSs_eq : ∀ (l : List StmtP) (m n : Nat), 1 ≤ m → deepSs l m n = (max n (min (dSs l) m) : Nat)
  | [], m, n, _ => by unfold deepSs dSs; omega
  | s :: l, m, n, hm => by
    unfold deepSs dSs
    rw [deepS_eq s m n hm, deepSs_eq l m _ hm]
    omega
end
/-! ### Few means few -/
theorem wrap_in {n : Int} (h : -9223372036854775808 ≤ n) (h' : n ≤ 9223372036854775807) : IntKind.i64.wrap n = n := i64_in _ h (by omega)
mutual
theorem fewE_eq : ∀ (e : ExprP) (m : Int), 0 ≤ m → m ≤ 300 → -1 ≤ fewE e m ∧ fewE e m ≤ 300 ∧ (0 ≤ fewE e m → fewE e m + sizeE e = m)
  | .mk k o n s l, m, h0, h1 => by
    unfold fewE sizeE
    rw [wrap_in (by omega) (by omega)]
    have h := fewEs_eq l (m - 1) (by omega) (by omega)
    omega
theorem fewEs_eq : ∀ (l : List ExprP) (m : Int), -1 ≤ m → m ≤ 300 → -1 ≤ fewEs l m ∧ fewEs l m ≤ 300 ∧ (0 ≤ fewEs l m → fewEs l m + sizeEs l = m)
  | [], m, h0, h1 => by unfold fewEs sizeEs; omega
  | e :: l, m, h0, h1 => by
    unfold fewEs sizeEs
    by_cases hm : m < 0
    · rw [if_pos hm]
      omega
    · rw [if_neg hm]
      have h2 := fewE_eq e m (by omega) h1
      have h3 := fewEs_eq l (fewE e m) h2.1 h2.2.1
      omega
end
theorem fewEs_neg (l : List ExprP) {m : Int} (h : m < 0) : fewEs l m = m := by
  cases l with
  | nil => rfl
  | cons e l => unfold fewEs; rw [if_pos h]
/-- Below 0 it goes down by at most 1 a list. -/
theorem fewSs_neg (l : List StmtP) {m : Int} (h : m < 0) (h' : -1000000 ≤ m) : m - 1 ≤ fewSs l m ∧ fewSs l m < 0 := by
  cases l with
  | nil => unfold fewSs; omega
  | cons s l =>
    unfold fewSs
    rw [wrap_in (by omega) (by omega), fewEs_neg _ (by omega), if_pos (by omega)]
    omega
mutual
theorem fewS_eq : ∀ (s : StmtP) (m : Int), 0 ≤ m → m ≤ 300 → dS s ≤ 100 → 0 ≤ fewEs s.args (IntKind.i64.wrap (m - 1)) → -(3 * (dS s : Int)) - 3 ≤ fewS s m ∧ fewS s m ≤ 300 ∧ (0 ≤ fewS s m → fewS s m + sizeS s = m)
  | .mk k n s l b c, m, h0, h1, hd, hr => by
    unfold dS at hd ⊢
    unfold fewS sizeS
    have hr' : 0 ≤ fewEs l (IntKind.i64.wrap (m - 1)) := hr
    rw [wrap_in (by omega) (by omega)] at hr' ⊢
    have h2 := fewEs_eq l (m - 1) (by omega) (by omega)
    have h3 := fewSs_eq b (fewEs l (m - 1)) (by omega) (by omega) (by omega)
    by_cases hb : fewSs b (fewEs l (m - 1)) < 0
    · have h4 := fewSs_neg c hb (by omega)
      omega
    · have h4 := fewSs_eq c (fewSs b (fewEs l (m - 1))) (by omega) (by omega) (by omega)
      omega
theorem fewSs_eq : ∀ (l : List StmtP) (m : Int), 0 ≤ m → m ≤ 300 → dB l ≤ 101 → -(3 * (dB l : Int)) - 2 ≤ fewSs l m ∧ fewSs l m ≤ 300 ∧ (0 ≤ fewSs l m → fewSs l m + sizeSs l = m)
  | [], m, h0, h1, hd => by unfold fewSs sizeSs; omega
  | s :: l, m, h0, h1, hd => by
    unfold fewSs sizeSs dB
    unfold dB at hd
    by_cases hr : fewEs s.args (IntKind.i64.wrap (m - 1)) < 0
    · rw [if_pos hr]
      rw [wrap_in (by omega) (by omega)] at hr ⊢
      have h2 := fewEs_eq s.args (m - 1) (by omega) (by omega)
      omega
    · rw [if_neg hr]
      have h3 := fewS_eq s m h0 h1 (by omega) (by omega)
      by_cases hb : fewS s m < 0
      · have h4 := fewSs_neg l hb (by omega)
        omega
      · have h4 := fewSs_eq l (fewS s m) (by omega) (by omega) (by
          cases l with
          | nil => unfold dB; omega
          | cons s' l' => unfold dB; unfold dSs at hd; omega)
        have h5 : dB l ≤ dSs l + 1 := by cases l <;> simp [dB, dSs]
        omega
end
end Go.Proofs.Ytfipllnodgbghaa
namespace Go.Proofs.Ytfipllnodgbghaa
open Go.RowKit
set_option linter.unusedVariables false
set_option linter.unusedSimpArgs false
/-! ### What may be -/
def bareE (e : ExprP) (n : Int) (op num named : Bool) : Bool := ((decide ((e.args.length : Int) = n) && (op || decide (e.op = 0))) && (num || decide (e.num = 0))) && (named || decide (e.name = ByteArray.empty))
def paramsT (t : TabP) (f : Int) : Int := if among f 0 ((t.funcs.length : Int) - 1) = true ∧ among (getZ t.funcs f) 0 ((t.params.length : Int) - 1) = true then getZ t.params (getZ t.funcs f) else -1
def boundK (t : TabP) (locals : Int) (e : ExprP) (said : Bool) : Bool :=
  if e.kind = 1 then bareE e 0 false true false && isV16 e.num
  else if e.kind = 14 then bareE e 0 false true false && among e.num 0 ((t.globals.length : Int) - 1)
  else if e.kind = 15 then bareE e 0 false true false && decide (e.num ≥ 0) && decide (e.num < locals)
  else if e.kind = 19 then said && bareE e 0 false true false && among e.num 0 ((t.texts.length : Int) - 1)
  else if e.kind = 4 ∨ e.kind = 5 ∨ e.kind = 11 then bareE e 1 false false false
  else if e.kind = 13 then said && bareE e 1 false false false
  else if e.kind = 6 then bareE e 2 true false false && among e.op 1 14
  else if e.kind = 16 then bareE e 1 false true false && decide (e.num ≥ 0) && decide (e.num < t.flags)
  else if e.kind = 17 then bareE e 1 false true false && among e.num 0 ((t.props.length : Int) - 1)
  else if e.kind = 18 then bareE e (e.args.length : Int) false true false && decide (paramsT t e.num = (e.args.length : Int))
  else if e.kind = 10 then bareE e 1 true false false && among e.op 1 3
  else if e.kind = 12 then bareE e 0 true false false && among e.op 1 6
  else false
mutual
def boundE (t : TabP) (locals : Int) : ExprP → Bool → Bool
  | .mk k o n s l, said => boundK t locals (.mk k o n s l) said && boundEs t locals l
def boundEs (t : TabP) (locals : Int) : List ExprP → Bool
  | [] => true
  | e :: l => boundE t locals e false && boundEs t locals l
end
def boundArgs (t : TabP) (locals : Int) (said : Bool) : List ExprP → Bool
  | [] => true
  | e :: l => boundE t locals e said && boundArgs t locals said l
def hasS (s : StmtP) (named : Bool) (args : Int) (body other : Bool) : Bool := ((decide ((s.args.length : Int) = args) && (body || decide ((s.body.length : Int) = 0))) && (other || decide ((s.els.length : Int) = 0))) && (named || (decide (s.name = ByteArray.empty) && decide (s.num = 0)))
def shapeS (s : StmtP) : Bool × Bool :=
  if s.kind = 1 then (hasS s false (s.args.length : Int) false false && among (s.args.length : Int) 1 8, false)
  else if s.kind = 2 ∨ s.kind = 3 ∨ s.kind = 5 ∨ s.kind = 6 ∨ s.kind = 17 ∨ s.kind = 23 then (hasS s true 1 false false, true)
  else if s.kind = 4 then (hasS s true 2 false false, true)
  else if s.kind = 7 then (hasS s false 2 false false, false)
  else if s.kind = 8 ∨ s.kind = 12 ∨ s.kind = 16 ∨ s.kind = 20 ∨ s.kind = 22 ∨ s.kind = 19 then (hasS s false 1 false false, false)
  else if s.kind = 9 then (hasS s false 1 true true, false)
  else if s.kind = 10 then (hasS s false 1 true false, false)
  else if s.kind = 11 then (hasS s true 1 true false, true)
  else if s.kind = 18 then (hasS s true 0 false false, true)
  else if s.kind = 13 ∨ s.kind = 14 ∨ s.kind = 15 ∨ s.kind = 21 then (hasS s false 0 false false, false)
  else (false, false)
def thereS (t : TabP) (s : StmtP) (locals : Int) : Bool :=
  if s.name ≠ ByteArray.empty then false
  else if s.kind = 2 ∨ s.kind = 3 then decide (s.num ≥ 0) && decide (s.num < locals)
  else if s.kind = 11 then decide (s.num ≥ 0) && decide (s.num < locals - 1) && decide (locals > 1)
  else if s.kind = 23 then among s.num 0 ((t.globals.length : Int) - 1)
  else if s.kind = 4 then among s.num 0 ((t.props.length : Int) - 1)
  else if s.kind = 5 ∨ s.kind = 6 then decide (s.num ≥ 0) && decide (s.num < t.flags)
  else if s.kind = 17 ∨ s.kind = 18 then among s.num 0 ((t.daemons.length : Int) - 1)
  else true
mutual
def boundS (t : TabP) (locals : Int) : StmtP → Bool
  | .mk k n s l b c => (((shapeS (.mk k n s l b c)).1 && thereS t (.mk k n s l b c) locals) && !(decide (k = 19) && decide ((l.getD 0 dExpr).kind ≠ 18))) && (boundArgs t locals (decide (k = 1)) l && ((boundAll t locals b && decide ((b.length : Int) ≤ 256)) && (boundAll t locals c && decide ((c.length : Int) ≤ 256))))
def boundAll (t : TabP) (locals : Int) : List StmtP → Bool
  | [] => true
  | s :: l => boundS t locals s && boundAll t locals l
end
def boundB (t : TabP) (locals : Int) (l : List StmtP) : Bool := boundAll t locals l && decide ((l.length : Int) ≤ 256)
/-! ### What an instruction takes, leaves, and where it may be -/
def popsI (t : TabP) (x : InsP) : Int :=
  if x.1 ∈ [(8 : Int), 14, 17] then 2
  else if x.1 ∈ [(2 : Int), 4, 6, 9, 10, 11, 12, 13, 15, 16, 18, 19, 20, 22, 23, 25, 27, 31, 32, 34, 36] then 1
  else if x.1 ≠ 26 ∨ x.2 < 0 ∨ x.2 ≥ (t.funcs.length : Int) then 0
  else if getZ t.funcs x.2 < 0 ∨ getZ t.funcs x.2 ≥ (t.params.length : Int) then 0
  else getZ t.params (getZ t.funcs x.2)
def pushesI (x : InsP) : Int := if x.1 ∈ [(1 : Int), 3, 5, 7, 8, 9, 10, 11, 12, 13, 19, 20, 26] then 1 else 0
def rightI (t : TabP) (x : InsP) : Bool :=
  if x.1 = 1 ∨ x.1 = 24 ∨ x.1 = 25 then isV16 x.2
  else if x.1 = 12 ∨ x.1 = 15 ∨ x.1 = 16 then decide (x.2 ≥ 0) && decide (x.2 < t.flags)
  else
    let p : Int × Int := if x.1 = 3 ∨ x.1 = 4 then (0, (t.globals.length : Int) - 1) else if x.1 = 5 ∨ x.1 = 6 then (0, 23) else if x.1 = 7 then (1, 6) else if x.1 = 8 then (3, 14) else if x.1 = 19 then (1, 3) else if x.1 = 13 ∨ x.1 = 14 then (0, (t.props.length : Int) - 1) else if x.1 = 21 then (0, (t.texts.length : Int) - 1) else if x.1 = 26 then (0, (t.funcs.length : Int) - 1) else if x.1 = 32 ∨ x.1 = 33 then (0, (t.daemons.length : Int) - 1) else (0, 0)
    (decide (x.1 ≥ 1) && decide (x.1 < 38)) && (decide (x.2 ≥ p.1) && decide (x.2 ≤ p.2))
def goesI (x : InsP) : Prop := x.1 = 24 ∨ x.1 = 25
def endsI (x : InsP) : Prop := x.1 = 27 ∨ x.1 = 28 ∨ x.1 = 29 ∨ x.1 = 30
/-- A step of code with the height ahead of it and behind it. -/
def StepOk (t : TabP) (L : Int → Int) (S : Int → Prop) (x : InsP) (h b : Int) : Prop :=
  0 ≤ h ∧ if x.1 = 38 then L x.2 = h ∧ b = h
  else rightI t x = true ∧ popsI t x ≤ h ∧ (x.1 = 27 → h = 1) ∧ h + pushesI x - popsI t x ≤ 256 ∧ (x.1 = 37 → h = 0) ∧ (goesI x → S x.2 ∧ L x.2 = h - popsI t x + pushesI x) ∧ (x.1 ≠ 24 → ¬ endsI x → b = h - popsI t x + pushesI x)
inductive Frag (t : TabP) (L : Int → Int) (S : Int → Prop) : Int → List InsP → List Int → Int → Prop where
  | nil (a : Int) : Frag t L S a [] [] a
  | cons {x : InsP} {h b c : Int} {C : List InsP} {H : List Int} : StepOk t L S x h b → Frag t L S b C H c → Frag t L S h (x :: C) (h :: H) c
theorem Frag.app {t : TabP} {L : Int → Int} {S : Int → Prop} {a b c : Int} {C D : List InsP} {H K : List Int} (h : Frag t L S a C H b) (k : Frag t L S b D K c) : Frag t L S a (C ++ D) (H ++ K) c := by
  induction h with
  | nil a => exact k
  | cons h1 h2 ih => exact .cons h1 (ih k)
/-- Code from height a to height b, whose labels are from n on and below m; X: labels of others that it may ask for. -/
structure GoodX (t : TabP) (X : List (Int × Int)) (C : List InsP) (n m a b : Int) : Prop where
  le : n ≤ m
  ex : ∃ (H : List Int) (B : List (Int × Int)), (∀ p ∈ B, n ≤ p.1 ∧ p.1 < m) ∧ B.Pairwise (fun p q => p.1 ≠ q.1) ∧ (∀ p ∈ B, (38, p.1) ∈ C) ∧
    ∀ L S, (∀ p ∈ B, L p.1 = p.2 ∧ S p.1) → (∀ p ∈ X, L p.1 = p.2 ∧ S p.1) → Frag t L S a C H b
theorem GoodX.app {t : TabP} {X : List (Int × Int)} {C D : List InsP} {n m k a b c : Int} (h : GoodX t X C n m a b) (g : GoodX t X D m k b c) : GoodX t X (C ++ D) n k a c := by
  obtain ⟨h0, H, B, h1, h2, h3, h4⟩ := h
  obtain ⟨g0, K, E, g1, g2, g3, g4⟩ := g
  refine ⟨by omega, H ++ K, B ++ E, fun p hp => ?_, List.pairwise_append.2 ⟨h2, g2, fun p hp q hq => ?_⟩, fun p hp => ?_, fun L S hL hX => (h4 L S (fun p hp => hL p (List.mem_append.2 (.inl hp))) hX).app (g4 L S (fun p hp => hL p (List.mem_append.2 (.inr hp))) hX)⟩
  · rcases List.mem_append.1 hp with hp | hp
    · have := h1 p hp; omega
    · have := g1 p hp; omega
  · have := h1 p hp; have := g1 q hq; omega
  · rcases List.mem_append.1 hp with hp | hp
    · exact List.mem_append.2 (.inl (h3 p hp))
    · exact List.mem_append.2 (.inr (g3 p hp))
theorem GoodX.nil {t : TabP} {X : List (Int × Int)} (n a : Int) : GoodX t X [] n n a a := ⟨Int.le_refl _, [], [], fun p hp => (by cases hp), .nil, fun p hp => (by cases hp), fun L S _ _ => .nil a⟩
/-- One step. -/
theorem GoodX.one {t : TabP} {X : List (Int × Int)} {x : InsP} {n a b : Int} (h : ∀ L S, (∀ p ∈ X, L p.1 = p.2 ∧ S p.1) → StepOk t L S x a b) : GoodX t X [x] n n a b :=
  ⟨Int.le_refl _, [a], [], fun p hp => (by cases hp), .nil, fun p hp => (by cases hp), fun L S _ hX => .cons (h L S hX) (.nil b)⟩
theorem GoodX.more {t : TabP} {X Y : List (Int × Int)} {C : List InsP} {n m a b : Int} (h : GoodX t X C n m a b) (hs : ∀ p ∈ X, p ∈ Y) : GoodX t Y C n m a b := by
  obtain ⟨h0, H, B, h1, h2, h3, h4⟩ := h
  exact ⟨h0, H, B, h1, h2, h3, fun L S hL hX => h4 L S hL fun p hp => hX p (hs p hp)⟩
/-- Labels of others become its own. -/
theorem GoodX.close {t : TabP} {X Y : List (Int × Int)} {C : List InsP} {n k m a b : Int} (h : GoodX t (X ++ Y) C k m a b) (hnk : n ≤ k) (h1 : ∀ p ∈ X, n ≤ p.1 ∧ p.1 < k) (h2 : X.Pairwise fun p q => p.1 ≠ q.1) (h3 : ∀ p ∈ X, (38, p.1) ∈ C) : GoodX t Y C n m a b := by
  obtain ⟨h0, H, B, g1, g2, g3, g4⟩ := h
  refine ⟨by omega, H, X ++ B, fun p hp => ?_, List.pairwise_append.2 ⟨h2, g2, fun p hp q hq => ?_⟩, fun p hp => ?_, fun L S hL hY => g4 L S (fun p hp => hL p (List.mem_append.2 (.inr hp))) fun p hp => ?_⟩
  · rcases List.mem_append.1 hp with hp | hp
    · have := h1 p hp; omega
    · have := g1 p hp; omega
  · have := h1 p hp; have := g1 q hq; omega
  · rcases List.mem_append.1 hp with hp | hp
    · exact h3 p hp
    · exact g3 p hp
  · rcases List.mem_append.1 hp with hp | hp
    · exact hL p (List.mem_append.2 (.inl hp))
    · exact hY p hp
end Go.Proofs.Ytfipllnodgbghaa
namespace Go.Proofs.Ytfipllnodgbghaa
open Go.RowKit
set_option linter.unusedVariables false
set_option linter.unusedSimpArgs false
/-- What the code asks of the tables. -/
structure TFit (t : TabP) : Prop where
  par : ∀ j, j < t.params.length → 0 ≤ t.params.getD j 0 ∧ t.params.getD j 0 ≤ 8
def popsC (c : Int) : Int := if c ∈ [(8 : Int), 14, 17] then 2 else if c ∈ [(2 : Int), 4, 6, 9, 10, 11, 12, 13, 15, 16, 18, 19, 20, 22, 23, 25, 27, 31, 32, 34, 36] then 1 else 0
def pushesC (c : Int) : Int := if c ∈ [(1 : Int), 3, 5, 7, 8, 9, 10, 11, 12, 13, 19, 20, 26] then 1 else 0
theorem pops_is {t : TabP} {c y : Int} (h : c ≠ 26) : popsI t (c, y) = popsC c := by
  unfold popsI popsC
  split
  · rfl
  · split
    · rfl
    · rw [if_pos (.inl h)]
theorem pushes_is {c y : Int} : pushesI (c, y) = pushesC c := rfl
/-- A step that goes on. -/
theorem step_on {t : TabP} {L : Int → Int} {S : Int → Prop} {c y h b p q : Int} (hp : popsI t (c, y) = p) (hq : pushesC c = q) (h38 : c ≠ 38) (h24 : c ≠ 24) (h25 : c ≠ 25) (h27 : c ≠ 27) (h37 : c = 37 → h = 0) (hr : rightI t (c, y) = true) (h0 : 0 ≤ h) (h1 : p ≤ h) (h2 : h + q - p ≤ 256) (hb : b = h - p + q) : StepOk t L S (c, y) h b := by
  refine ⟨h0, ?_⟩
  rw [if_neg h38, hp, pushes_is, hq]
  refine ⟨hr, h1, fun e => absurd e h27, h2, h37, fun e => ?_, fun _ _ => hb⟩
  rcases e with e | e
  · exact absurd e h24
  · exact absurd e h25
theorem step_label {t : TabP} {L : Int → Int} {S : Int → Prop} {y h : Int} (h0 : 0 ≤ h) (hL : L y = h) : StepOk t L S (38, y) h h := ⟨h0, by rw [if_pos rfl]; exact ⟨hL, rfl⟩⟩
theorem v16_is {n : Int} (h : 0 ≤ n) (h' : n ≤ 32767) : isV16 n = true := by unfold isV16; rw [among_iff]; omega
theorem step_zero {t : TabP} {L : Int → Int} {S : Int → Prop} {y h : Int} (h0 : 0 ≤ h) (h2 : h ≤ 255) (hy : 0 ≤ y ∧ y ≤ 32767) (hL : L y = h) (hS : S y) : StepOk t L S (25, y) (h + 1) h := by
  refine ⟨by omega, ?_⟩
  rw [if_neg (show ¬ (25 : Int) = 38 by decide), pops_is (by decide), pushes_is, show popsC 25 = 1 from rfl, show pushesC 25 = 0 from rfl]
  exact ⟨by unfold rightI; rw [if_pos (.inr (.inr rfl))]; exact v16_is hy.1 hy.2, by omega, fun e => absurd e (show ¬ (25 : Int) = 27 by decide), by omega, fun e => absurd e (show ¬ (25 : Int) = 37 by decide), fun _ => ⟨hS, by show L y = _; omega⟩, fun _ _ => by omega⟩
theorem step_jump {t : TabP} {L : Int → Int} {S : Int → Prop} {y h b : Int} (h0 : 0 ≤ h) (h2 : h ≤ 256) (hy : 0 ≤ y ∧ y ≤ 32767) (hL : L y = h) (hS : S y) : StepOk t L S (24, y) h b := by
  refine ⟨h0, ?_⟩
  rw [if_neg (show ¬ (24 : Int) = 38 by decide), pops_is (by decide), pushes_is, show popsC 24 = 0 from rfl, show pushesC 24 = 0 from rfl]
  exact ⟨by unfold rightI; rw [if_pos (.inr (.inl rfl))]; exact v16_is hy.1 hy.2, by omega, fun e => absurd e (show ¬ (24 : Int) = 27 by decide), by omega, fun e => absurd e (show ¬ (24 : Int) = 37 by decide), fun _ => ⟨hS, by show L y = _; omega⟩, fun h => absurd rfl h⟩
theorem step_push {t : TabP} {L : Int → Int} {S : Int → Prop} {y h : Int} (h0 : 0 ≤ h) (h2 : h ≤ 255) (hy : isV16 y = true) : StepOk t L S (1, y) h (h + 1) :=
  step_on (p := 0) (q := 1) (pops_is (by decide)) rfl (by decide) (by decide) (by decide) (by decide) (fun e => absurd e (by decide)) (by unfold rightI; rw [if_pos (.inl rfl)]; exact hy) h0 h0 (by omega) (by omega)
/-- The right argument of an operation of the long table. -/
theorem right_of {t : TabP} {c y lo hi : Int} (h1 : ¬ (c = 1 ∨ c = 24 ∨ c = 25)) (h2 : ¬ (c = 12 ∨ c = 15 ∨ c = 16)) (hp : (if c = 3 ∨ c = 4 then ((0 : Int), (t.globals.length : Int) - 1) else if c = 5 ∨ c = 6 then (0, 23) else if c = 7 then (1, 6) else if c = 8 then (3, 14) else if c = 19 then (1, 3) else if c = 13 ∨ c = 14 then (0, (t.props.length : Int) - 1) else if c = 21 then (0, (t.texts.length : Int) - 1) else if c = 26 then (0, (t.funcs.length : Int) - 1) else if c = 32 ∨ c = 33 then (0, (t.daemons.length : Int) - 1) else (0, 0)) = (lo, hi)) (hc : 1 ≤ c ∧ c < 38) (hl : lo ≤ y) (hh : y ≤ hi) : rightI t (c, y) = true := by
  unfold rightI
  rw [if_neg h1, if_neg h2]
  show ((decide (c ≥ 1) && decide (c < 38)) && (decide (y ≥ _) && decide (y ≤ _))) = true
  simp only [hp]
  simp only [Bool.and_eq_true, decide_eq_true_eq]
  exact ⟨⟨hc.1, hc.2⟩, hl, hh⟩
theorem right_zero {t : TabP} {c : Int} (h1 : ¬ (c = 1 ∨ c = 24 ∨ c = 25)) (h2 : ¬ (c = 12 ∨ c = 15 ∨ c = 16)) (hp : ∀ g p f x d : Int, (if c = 3 ∨ c = 4 then ((0 : Int), g) else if c = 5 ∨ c = 6 then (0, 23) else if c = 7 then (1, 6) else if c = 8 then (3, 14) else if c = 19 then (1, 3) else if c = 13 ∨ c = 14 then (0, p) else if c = 21 then (0, x) else if c = 26 then (0, f) else if c = 32 ∨ c = 33 then (0, d) else (0, 0)) = (0, 0)) (hc : 1 ≤ c ∧ c < 38) : rightI t (c, 0) = true := right_of (lo := 0) (hi := 0) h1 h2 (hp _ _ _ _ _) hc (by decide) (by decide)
theorem right_flag {t : TabP} {c y : Int} (h : c = 12 ∨ c = 15 ∨ c = 16) (h0 : y ≥ 0) (h1 : y < t.flags) : rightI t (c, y) = true := by
  unfold rightI
  rw [if_neg (by omega), if_pos h]
  show (decide (y ≥ 0) && decide (y < t.flags)) = true
  rw [decide_eq_true h0, decide_eq_true h1]
  rfl
theorem bare_in {e : ExprP} {n : Int} {op num named : Bool} (h : bareE e n op num named = true) : (e.args.length : Int) = n ∧ (op = false → e.op = 0) ∧ (num = false → e.num = 0) := by
  unfold bareE at h
  simp only [Bool.and_eq_true, Bool.or_eq_true, decide_eq_true_eq] at h
  exact ⟨h.1.1.1, fun ho => by rcases h.1.1.2 with h | h; exact absurd (ho ▸ h) (by decide); exact h, fun hn => by rcases h.1.2 with h | h; exact absurd (hn ▸ h) (by decide); exact h⟩
/-- An expression's own step. -/
theorem own_step {t : TabP} (hT : TFit t) {locals : Int} (hlo : locals ≤ 24) {e : ExprP} (h : boundK t locals e false = true) (hno : ¬ (e.kind = 6 ∧ (e.op = 1 ∨ e.op = 2))) {L : Int → Int} {S : Int → Prop} {a : Int} (h0 : 0 ≤ a) (h1 : a + 8 ≤ 256) : (e.args.length : Int) ≤ 8 ∧ StepOk t L S (ownI e) (a + (e.args.length : Int)) (a + 1) := by
  have on : ∀ {c y p : Int}, c ≠ 26 → popsC c = p → pushesC c = 1 → c ≠ 38 → c ≠ 24 → c ≠ 25 → c ≠ 27 → c ≠ 37 → rightI t (c, y) = true → (e.args.length : Int) = p → p ≤ 8 → StepOk t L S (c, y) (a + (e.args.length : Int)) (a + 1) := fun h26 hp hq h38 h24 h25 h27 h37 hr hl hp8 =>
    step_on ((pops_is h26).trans hp) hq h38 h24 h25 h27 (fun e => absurd e h37) hr (by omega) (by omega) (by omega) (by omega)
  unfold boundK at h
  by_cases hk : e.kind = 1
  · rw [if_pos hk] at h
    simp only [Bool.and_eq_true] at h
    obtain ⟨hb, _, _⟩ := bare_in h.1
    rw [show ownI e = (1, e.num) by unfold ownI; rw [if_pos hk]]
    exact ⟨by omega, on (p := 0) (by decide) rfl rfl (by decide) (by decide) (by decide) (by decide) (by decide) (by unfold rightI; rw [if_pos (.inl rfl)]; exact h.2) hb (by omega)⟩
  · rw [if_neg hk] at h
    have k1 := hk
    clear hk
    by_cases hk : e.kind = 14
    · rw [if_pos hk] at h
      simp only [Bool.and_eq_true, among_iff] at h
      obtain ⟨hb, _, _⟩ := bare_in h.1
      rw [show ownI e = (3, e.num) by unfold ownI; rw [if_neg k1, if_pos hk]]
      exact ⟨by omega, on (p := 0) (by decide) rfl rfl (by decide) (by decide) (by decide) (by decide) (by decide) (right_of (by decide) (by decide) rfl (by decide) h.2.1 h.2.2) hb (by omega)⟩
    · rw [if_neg hk] at h
      have k14 := hk
      clear hk
      by_cases hk : e.kind = 15
      · rw [if_pos hk] at h
        simp only [Bool.and_eq_true, decide_eq_true_eq] at h
        obtain ⟨hb, _, _⟩ := bare_in h.1.1
        rw [show ownI e = (5, e.num) by unfold ownI; rw [if_neg k1, if_neg k14, if_pos hk]]
        exact ⟨by omega, on (p := 0) (by decide) rfl rfl (by decide) (by decide) (by decide) (by decide) (by decide) (right_of (lo := 0) (hi := 23) (by decide) (by decide) rfl (by decide) h.1.2 (by omega)) hb (by omega)⟩
      · rw [if_neg hk] at h
        have k15 := hk
        clear hk
        by_cases hk : e.kind = 19
        · rw [if_pos hk] at h
          simp at h
        · rw [if_neg hk] at h
          have k19 := hk
          clear hk
          by_cases hk : e.kind = 4 ∨ e.kind = 5 ∨ e.kind = 11
          · rw [if_pos hk] at h
            obtain ⟨hb, _, _⟩ := bare_in h
            have h12 : ¬ e.kind = 12 := by omega
            rcases hk with hk | hk | hk
            · rw [show ownI e = (9, 0) by unfold ownI; rw [if_neg k1, if_neg k14, if_neg k15, if_neg h12, if_pos hk]]
              exact ⟨by omega, on (p := 1) (by decide) rfl rfl (by decide) (by decide) (by decide) (by decide) (by decide) (right_zero (by decide) (by decide) (fun _ _ _ _ _ => rfl) (by decide)) hb (by omega)⟩
            · rw [show ownI e = (10, 0) by unfold ownI; rw [if_neg k1, if_neg k14, if_neg k15, if_neg h12, if_neg (by omega), if_pos hk]]
              exact ⟨by omega, on (p := 1) (by decide) rfl rfl (by decide) (by decide) (by decide) (by decide) (by decide) (right_zero (by decide) (by decide) (fun _ _ _ _ _ => rfl) (by decide)) hb (by omega)⟩
            · rw [show ownI e = (20, 0) by unfold ownI; rw [if_neg k1, if_neg k14, if_neg k15, if_neg h12, if_neg (by omega), if_neg (by omega), if_pos hk]]
              exact ⟨by omega, on (p := 1) (by decide) rfl rfl (by decide) (by decide) (by decide) (by decide) (by decide) (right_zero (by decide) (by decide) (fun _ _ _ _ _ => rfl) (by decide)) hb (by omega)⟩
          · rw [if_neg hk] at h
            have k4 := hk
            clear hk
            have k4' : ¬ e.kind = 4 := fun h => k4 (.inl h)
            have k5' : ¬ e.kind = 5 := fun h => k4 (.inr (.inl h))
            have k11' : ¬ e.kind = 11 := fun h => k4 (.inr (.inr h))
            by_cases hk : e.kind = 13
            · rw [if_pos hk] at h
              simp at h
            · rw [if_neg hk] at h
              have k13 := hk
              clear hk
              by_cases hk : e.kind = 6
              · rw [if_pos hk] at h
                simp only [Bool.and_eq_true, among_iff] at h
                obtain ⟨hb, _, _⟩ := bare_in h.1
                rw [show ownI e = (8, e.op) by unfold ownI; rw [if_neg k1, if_neg k14, if_neg k15, if_neg (by omega), if_neg k4', if_neg k5', if_neg k11', if_pos hk]]
                have : ¬ (e.op = 1 ∨ e.op = 2) := fun h => hno ⟨hk, h⟩
                exact ⟨by omega, on (p := 2) (by decide) rfl rfl (by decide) (by decide) (by decide) (by decide) (by decide) (right_of (lo := 3) (hi := 14) (by decide) (by decide) rfl (by decide) (by omega) h.2.2) hb (by omega)⟩
              · rw [if_neg hk] at h
                have k6 := hk
                clear hk
                by_cases hk : e.kind = 16
                · rw [if_pos hk] at h
                  simp only [Bool.and_eq_true, decide_eq_true_eq] at h
                  obtain ⟨hb, _, _⟩ := bare_in h.1.1
                  rw [show ownI e = (12, e.num) by unfold ownI; rw [if_neg k1, if_neg k14, if_neg k15, if_neg (by omega), if_neg k4', if_neg k5', if_neg k11', if_neg k6, if_pos hk]]
                  exact ⟨by omega, on (p := 1) (by decide) rfl rfl (by decide) (by decide) (by decide) (by decide) (by decide) (right_flag (.inl rfl) h.1.2 h.2) hb (by omega)⟩
                · rw [if_neg hk] at h
                  have k16 := hk
                  clear hk
                  by_cases hk : e.kind = 17
                  · rw [if_pos hk] at h
                    simp only [Bool.and_eq_true, among_iff] at h
                    obtain ⟨hb, _, _⟩ := bare_in h.1
                    rw [show ownI e = (13, e.num) by unfold ownI; rw [if_neg k1, if_neg k14, if_neg k15, if_neg (by omega), if_neg k4', if_neg k5', if_neg k11', if_neg k6, if_neg k16, if_pos hk]]
                    exact ⟨by omega, on (p := 1) (by decide) rfl rfl (by decide) (by decide) (by decide) (by decide) (by decide) (right_of (by decide) (by decide) rfl (by decide) h.2.1 h.2.2) hb (by omega)⟩
                  · rw [if_neg hk] at h
                    have k17 := hk
                    clear hk
                    by_cases hk : e.kind = 18
                    · rw [if_pos hk] at h
                      simp only [Bool.and_eq_true, decide_eq_true_eq] at h
                      rw [show ownI e = (26, e.num) by unfold ownI; rw [if_neg k1, if_neg k14, if_neg k15, if_neg (by omega), if_neg k4', if_neg k5', if_neg k11', if_neg k6, if_neg k16, if_neg k17, if_pos hk]]
                      have hpa := h.2
                      unfold paramsT at hpa
                      split at hpa
                      · rename_i hc
                        rw [among_iff, among_iff] at hc
                        have hpar := hT.par (getZ t.funcs e.num).toNat (by omega)
                        have hpops : popsI t (26, e.num) = (e.args.length : Int) := by
                          unfold popsI
                          rw [if_neg (show ¬ (26 : Int) ∈ [(8 : Int), 14, 17] by decide), if_neg (show ¬ (26 : Int) ∈ [(2 : Int), 4, 6, 9, 10, 11, 12, 13, 15, 16, 18, 19, 20, 22, 23, 25, 27, 31, 32, 34, 36] by decide), if_neg (show ¬ ((26 : Int) ≠ 26 ∨ e.num < 0 ∨ e.num ≥ (t.funcs.length : Int)) by omega), if_neg (show ¬ (getZ t.funcs e.num < 0 ∨ getZ t.funcs e.num ≥ (t.params.length : Int)) by omega)]
                          exact hpa
                        have h8 : (e.args.length : Int) ≤ 8 := by rw [← hpa]; exact hpar.2
                        exact ⟨h8, step_on (p := (e.args.length : Int)) (q := 1) hpops rfl (by decide) (by decide) (by decide) (by decide) (fun e => absurd e (by decide)) (right_of (lo := 0) (hi := (t.funcs.length : Int) - 1) (by decide) (by decide) rfl (by decide) hc.1.1 hc.1.2) (by omega) (by omega) (by omega) (by omega)⟩
                      · omega
                    · rw [if_neg hk] at h
                      have k18 := hk
                      clear hk
                      by_cases hk : e.kind = 10
                      · rw [if_pos hk] at h
                        simp only [Bool.and_eq_true, among_iff] at h
                        obtain ⟨hb, _, _⟩ := bare_in h.1
                        rw [show ownI e = (19, e.op) by unfold ownI; rw [if_neg k1, if_neg k14, if_neg k15, if_neg (by omega), if_neg k4', if_neg k5', if_neg k11', if_neg k6, if_neg k16, if_neg k17, if_neg k18]]
                        exact ⟨by omega, on (p := 1) (by decide) rfl rfl (by decide) (by decide) (by decide) (by decide) (by decide) (right_of (lo := 1) (hi := 3) (by decide) (by decide) rfl (by decide) h.2.1 h.2.2) hb (by omega)⟩
                      · rw [if_neg hk] at h
                        have k10 := hk
                        clear hk
                        by_cases hk : e.kind = 12
                        · rw [if_pos hk] at h
                          simp only [Bool.and_eq_true, among_iff] at h
                          obtain ⟨hb, _, _⟩ := bare_in h.1
                          rw [show ownI e = (7, e.op) by unfold ownI; rw [if_neg k1, if_neg k14, if_neg k15, if_pos hk]]
                          exact ⟨by omega, on (p := 0) (by decide) rfl rfl (by decide) (by decide) (by decide) (by decide) (by decide) (right_of (lo := 1) (hi := 6) (by decide) (by decide) rfl (by decide) h.2.1 h.2.2) hb (by omega)⟩
                        · rw [if_neg hk] at h
                          cases h
end Go.Proofs.Ytfipllnodgbghaa
namespace Go.Proofs.Ytfipllnodgbghaa
open Go.RowKit
set_option linter.unusedVariables false
set_option linter.unusedSimpArgs false
set_option linter.unusedSectionVars false
theorem genE_log {k o n : Int} {s : ByteArray} {l : List ExprP} {m : Int} {x y : ExprP} (h : k = 6 ∧ (o = 1 ∨ o = 2)) (hl : l = [x, y]) : genE (.mk k o n s l) m = (if o = 1 then ((genE x (m + 2)).1 ++ [(25, m)] ++ [(1, 1), (24, m + 1), (38, m)] ++ (genE y (genE x (m + 2)).2).1 ++ [(11, 0), (38, m + 1)], (genE y (genE x (m + 2)).2).2) else ((genE x (m + 2)).1 ++ [(25, m)] ++ (genE y (genE x (m + 2)).2).1 ++ [(11, 0), (24, m + 1), (38, m), (1, 0), (38, m + 1)], (genE y (genE x (m + 2)).2).2)) := by
  subst hl
  conv => lhs; unfold genE
  rw [if_pos h]
theorem genE_flat {k o n : Int} {s : ByteArray} {l : List ExprP} {m : Int} (h : ¬ (k = 6 ∧ (o = 1 ∨ o = 2))) : genE (.mk k o n s l) m = ((genEs l m).1 ++ [ownI (.mk k o n s l)], (genEs l m).2) := by
  unfold genE
  rw [if_neg h]
theorem bound_two {t : TabP} {locals : Int} {e : ExprP} {said : Bool} (h : boundK t locals e said = true) (hk : e.kind = 6) : ∃ x y, e.args = [x, y] := by
  unfold boundK at h
  rw [if_neg (by omega), if_neg (by omega), if_neg (by omega), if_neg (by omega), if_neg (by omega), if_neg (by omega), if_pos hk] at h
  simp only [Bool.and_eq_true] at h
  obtain ⟨hb, _, _⟩ := bare_in h.1
  match e.args, hb with
  | [x, y], _ => exact ⟨x, y, rfl⟩
section
variable {t : TabP} (hT : TFit t) {locals : Int} (hlo : locals ≤ 24)
include hT hlo
mutual
theorem okE : ∀ (e : ExprP), boundE t locals e false = true → ∀ (X : List (Int × Int)) (n a : Int), 0 ≤ a → a + 8 * (dE e : Int) ≤ 256 → 0 ≤ n → n + 2 * (sizeE e : Int) ≤ 32000 → GoodX t X (genE e n).1 n (genE e n).2 a (a + 1) ∧ (genE e n).2 ≤ n + 2 * (sizeE e : Int)
  | .mk k o nn s l, hb, X, n, a, h0, h1, hn, hs => by
    unfold boundE at hb
    rw [Bool.and_eq_true] at hb
    obtain ⟨hk, hbs⟩ := hb
    unfold dE at h1
    unfold sizeE at hs ⊢
    by_cases hlog : k = 6 ∧ (o = 1 ∨ o = 2)
    · obtain ⟨x, y, hxy⟩ := bound_two hk hlog.1
      have hxy' : l = [x, y] := hxy
      subst hxy'
      have hbx : boundE t locals x false = true ∧ boundE t locals y false = true := by
        unfold boundEs boundEs boundEs at hbs
        simp only [Bool.and_eq_true] at hbs
        exact ⟨hbs.1, hbs.2.1⟩
      unfold sizeEs sizeEs sizeEs at hs ⊢
      unfold dEs dEs dEs at h1
      obtain ⟨gx, lx⟩ := okE x hbx.1 ([(n, a), (n + 1, a + 1)] ++ X) (n + 2) a h0 (by omega) (by omega) (by omega)
      have gx0 := gx.le
      obtain ⟨gy, ly⟩ := okE y hbx.2 ([(n, a), (n + 1, a + 1)] ++ X) (genE x (n + 2)).2 a h0 (by omega) (by omega) (by omega)
      have gy0 := gy.le
      have hX : ∀ (L : Int → Int) (S : Int → Prop), (∀ p ∈ [(n, a), (n + 1, a + 1)] ++ X, L p.1 = p.2 ∧ S p.1) → (L n = a ∧ S n) ∧ (L (n + 1) = a + 1 ∧ S (n + 1)) := fun L S h => ⟨h (n, a) (by simp), h (n + 1, a + 1) (by simp)⟩
      have z : ∀ q, GoodX t ([(n, a), (n + 1, a + 1)] ++ X) [(25, n)] q q (a + 1) a := fun q => .one fun L S h => step_zero h0 (by omega) ⟨hn, by omega⟩ (hX L S h).1.1 (hX L S h).1.2
      have j : ∀ q b, GoodX t ([(n, a), (n + 1, a + 1)] ++ X) [(24, n + 1)] q q (a + 1) b := fun q b => .one fun L S h => step_jump (by omega) (by omega) ⟨by omega, by omega⟩ (hX L S h).2.1 (hX L S h).2.2
      have l0 : ∀ q, GoodX t ([(n, a), (n + 1, a + 1)] ++ X) [(38, n)] q q a a := fun q => .one fun L S h => step_label h0 (hX L S h).1.1
      have l1 : ∀ q, GoodX t ([(n, a), (n + 1, a + 1)] ++ X) [(38, n + 1)] q q (a + 1) (a + 1) := fun q => .one fun L S h => step_label (by omega) (hX L S h).2.1
      have te : ∀ q, GoodX t ([(n, a), (n + 1, a + 1)] ++ X) [(11, 0)] q q (a + 1) (a + 1) := fun q => .one fun L S h => step_on (p := 1) (q := 1) (pops_is (by decide)) rfl (by decide) (by decide) (by decide) (by decide) (fun e => absurd e (by decide)) (right_zero (by decide) (by decide) (fun _ _ _ _ _ => rfl) (by decide)) (by omega) (by omega) (by omega) (by omega)
      have pu : ∀ q (v : Int), isV16 v = true → GoodX t ([(n, a), (n + 1, a + 1)] ++ X) [(1, v)] q q a (a + 1) := fun q v hv => .one fun L S h => step_push h0 (by omega) hv
      rw [genE_log hlog rfl]
      by_cases ho : o = 1
      · rw [if_pos ho]
        refine ⟨GoodX.close (X := [(n, a), (n + 1, a + 1)]) (k := n + 2) ((((gx.app (z _)).app ((pu _ 1 (by decide)).app ((j _ a).app (l0 _)))).app gy).app ((te _).app (l1 _))) (by omega) (by simp; omega) (by simp; omega) (by simp), ?_⟩
        show (genE y (genE x (n + 2)).2).2 ≤ _
        omega
      · rw [if_neg ho]
        refine ⟨GoodX.close (X := [(n, a), (n + 1, a + 1)]) (k := n + 2) (((gx.app (z _)).app gy).app ((te _).app ((j _ a).app ((l0 _).app ((pu _ 0 (by decide)).app (l1 _)))))) (by omega) (by simp; omega) (by simp; omega) (by simp), ?_⟩
        show (genE y (genE x (n + 2)).2).2 ≤ _
        omega
    · rw [genE_flat hlog]
      have hown : ∀ (L : Int → Int) (S : Int → Prop), _ := fun L S => own_step (t := t) hT hlo (e := .mk k o nn s l) hk hlog (L := L) (S := S) (a := a) h0 (by omega)
      have hlen : (l.length : Int) ≤ 8 := (hown (fun _ => 0) (fun _ => True)).1
      obtain ⟨g, lg⟩ := okEs l hbs X n a h0 (by omega) hn (by omega)
      refine ⟨g.app (.one fun L S h => (hown L S).2), ?_⟩
      show (genEs l n).2 ≤ _
      omega
theorem okEs : ∀ (l : List ExprP), boundEs t locals l = true → ∀ (X : List (Int × Int)) (n a : Int), 0 ≤ a → a + (l.length : Int) + 8 * (dEs l : Int) ≤ 256 → 0 ≤ n → n + 2 * (sizeEs l : Int) ≤ 32000 → GoodX t X (genEs l n).1 n (genEs l n).2 a (a + (l.length : Int)) ∧ (genEs l n).2 ≤ n + 2 * (sizeEs l : Int)
  | [], hb, X, n, a, h0, h1, hn, hs => by
    unfold genEs sizeEs
    refine ⟨?_, by simp⟩
    have := GoodX.nil (t := t) (X := X) n a
    simpa using this
  | e :: l, hb, X, n, a, h0, h1, hn, hs => by
    unfold boundEs at hb
    rw [Bool.and_eq_true] at hb
    unfold dEs at h1
    unfold sizeEs at hs ⊢
    rw [List.length_cons] at h1 ⊢
    obtain ⟨g1, l1⟩ := okE e hb.1 X n a h0 (by omega) hn (by omega)
    have g0 := g1.le
    obtain ⟨g2, l2⟩ := okEs l hb.2 X (genE e n).2 (a + 1) (by omega) (by omega) (by omega) (by omega)
    unfold genEs
    refine ⟨?_, ?_⟩
    · have := g1.app g2
      rw [show a + 1 + (l.length : Int) = a + ((l.length + 1 : Nat) : Int) by omega] at this
      exact this
    · show (genEs l (genE e n).2).2 ≤ _
      omega
end
end
end Go.Proofs.Ytfipllnodgbghaa
