/- Tables that came in. Chapter 31: which blocks may be, walked. Chapter 31: the work list of heights, plain. No program stands in this text. Chapter 31: Heights, walked. -/
import Derived.Test.YtfipllnodgbghaaOkr
import Derived.Test.YtfipllnodgbghaaFwg
import Derived.Test.YtfipllnodgbghaaVym
import Derived.Test.YtfipllnodgbghaaProg
import Derived.KernelRfl
namespace Go.Proofs.Ytfipllnodgbghaa
open Go.RowKit
set_option linter.unusedVariables false
set_option linter.unusedSimpArgs false
set_option maxRecDepth 100000
section
variable {H : Type} {enc : TypeId × Value → H} {w : World} {base : Nat} {spare : Nat → Bool} {held : Bool}
def wayFl (y : WayP) : List Av := [vi y.dir, vi y.goal, vi y.cond, vi y.els]
def thFl (x : ThingP) : List Av := [vi x.title, vi x.text, vi x.parent, vi x.flags, vb x.room, slI x.props, slS x.words, slS x.adjs, waysAv x.ways]
def slotFl (x : SlotP) : List Av := [vi x.kind, slS x.words]
def verbFl (x : VerbP) : List Av := [vb x.meta_, linesAv x.lines]
def deedFl (x : DeedP) : List Av := [vi x.verb, vi x.phase, vi x.noun, vi x.second, vi x.cond, vi x.body]
def tabFl (t : TabP) : List Av := [vi t.title, vi t.by_, vi t.release, vi t.max, slS t.texts, vi t.flags, slI t.props, slI t.globals, thingsAv t.things, actsAv t.acts, deedsAv t.deeds, slI t.funcs, slI t.daemons, slI t.params, slI t.locals]
theorem sw_of {l : List ByteArray} (h : ∀ s ∈ l, s.size ≤ 140737488351232) : SW l := fun s hs => by have := h s hs; omega
theorem i64_wf {n : Int} (h : (Lit.int .i64 n).wf = true) : -9223372036854775808 ≤ n ∧ n < 9223372036854775808 := by
  have h1 : IntKind.i64.min ≤ n ∧ n ≤ IntKind.i64.max := by simpa [Lit.wf] using h
  have h2 : IntKind.i64.min = -9223372036854775808 := rfl
  have h3 : IntKind.i64.max = 9223372036854775807 := rfl
  omega
theorem opn_way : Opn enc Try.prog w base spare held 102 WayP wayFl (fun _ => True) :=
  (opn_struct Try.underlying102 (by kernel_rfl) (opnF_cons (k := 1) rfl (by kernel_rfl) (opn_int Try.underlying3) (opnF_cons (k := 1) rfl (by kernel_rfl) (opn_int Try.underlying3) (opnF_cons (k := 1) rfl (by kernel_rfl) (opn_int Try.underlying3) (opnF_cons (k := 1) rfl (by kernel_rfl) (opn_int Try.underlying3) opnF_nil))))).map (fun d => ⟨d.1, d.2.1, d.2.2.1, d.2.2.2.1⟩) _ _ (fun d => rfl) (fun d h => by exact trivial)
theorem opn_thing : Opn enc Try.prog w base spare held 79 ThingP thFl ThingP.wf :=
  (opn_struct Try.underlying79 (by kernel_rfl) (opnF_cons (k := 1) rfl (by kernel_rfl) (opn_int Try.underlying3) (opnF_cons (k := 1) rfl (by kernel_rfl) (opn_int Try.underlying3) (opnF_cons (k := 1) rfl (by kernel_rfl) (opn_int Try.underlying3) (opnF_cons (k := 1) rfl (by kernel_rfl) (opn_int Try.underlying3) (opnF_cons (k := 1) rfl (by kernel_rfl) (opn_bool Try.underlying4) (opnF_cons (k := 1) rfl (by kernel_rfl) (opn_slice (0 : Int) 1 8 vi Try.underlying23 (by kernel_rfl) (by kernel_rfl) (by decide) (opn_int Try.underlying3) row_cell) (opnF_cons (k := 1) rfl (by kernel_rfl) (opn_slice ByteArray.empty 1 16 vs Try.underlying22 (by kernel_rfl) (by kernel_rfl) (by decide) (opn_str Try.underlying9) row_cell) (opnF_cons (k := 1) rfl (by kernel_rfl) (opn_slice ByteArray.empty 1 16 vs Try.underlying22 (by kernel_rfl) (by kernel_rfl) (by decide) (opn_str Try.underlying9) row_cell) (opnF_cons (k := 1) rfl (by kernel_rfl) (opn_slice dWay 4 32 wayAv Try.underlying77 (by kernel_rfl) (by kernel_rfl) (by decide) opn_way row_agg) opnF_nil)))))))))).map (fun d => ⟨d.1, d.2.1, d.2.2.1, d.2.2.2.1, d.2.2.2.2.1, d.2.2.2.2.2.1, d.2.2.2.2.2.2.1, d.2.2.2.2.2.2.2.1, d.2.2.2.2.2.2.2.2.1⟩) _ _ (fun d => rfl) (fun d h => by exact ⟨sw_of h.2.2.2.2.2.2.1.1, sw_of h.2.2.2.2.2.2.2.1.1⟩)
theorem opn_slot : Opn enc Try.prog w base spare held 104 SlotP slotFl SlotP.wf :=
  (opn_struct Try.underlying104 (by kernel_rfl) (opnF_cons (k := 1) rfl (by kernel_rfl) (opn_int Try.underlying3) (opnF_cons (k := 1) rfl (by kernel_rfl) (opn_slice ByteArray.empty 1 16 vs Try.underlying22 (by kernel_rfl) (by kernel_rfl) (by decide) (opn_str Try.underlying9) row_cell) opnF_nil))).map (fun d => ⟨d.1, d.2.1⟩) _ _ (fun d => rfl) (fun d h => by exact (sw_of h.2.1.1))
theorem opn_verb : Opn enc Try.prog w base spare held 86 VerbP verbFl VerbP.wf :=
  (opn_struct Try.underlying86 (by kernel_rfl) (opnF_cons (k := 1) rfl (by kernel_rfl) (opn_bool Try.underlying4) (opnF_cons (k := 1) rfl (by kernel_rfl) (opn_slice ([] : List SlotP) 1 24 lineAv Try.underlying84 (by kernel_rfl) (by kernel_rfl) (by decide) (opn_slice dSlot 2 32 slotAv Try.underlying88 (by kernel_rfl) (by kernel_rfl) (by decide) opn_slot row_agg) row_cell) opnF_nil))).map (fun d => ⟨d.1, d.2.1⟩) _ _ (fun d => rfl) (fun d h => by exact fun l hl y hy => (h.2.1.1 l hl).1 y hy)
theorem opn_deed : Opn enc Try.prog w base spare held 90 DeedP deedFl (fun _ => True) :=
  (opn_struct Try.underlying90 (by kernel_rfl) (opnF_cons (k := 1) rfl (by kernel_rfl) (opn_int Try.underlying3) (opnF_cons (k := 1) rfl (by kernel_rfl) (opn_int Try.underlying3) (opnF_cons (k := 1) rfl (by kernel_rfl) (opn_int Try.underlying3) (opnF_cons (k := 1) rfl (by kernel_rfl) (opn_int Try.underlying3) (opnF_cons (k := 1) rfl (by kernel_rfl) (opn_int Try.underlying3) (opnF_cons (k := 1) rfl (by kernel_rfl) (opn_int Try.underlying3) opnF_nil))))))).map (fun d => ⟨d.1, d.2.1, d.2.2.1, d.2.2.2.1, d.2.2.2.2.1, d.2.2.2.2.2.1⟩) _ _ (fun d => rfl) (fun d h => by exact trivial)
theorem opn_tab : Opn enc Try.prog w base spare held 28 TabP tabFl (fun t => TabP.wf t ∧ TLen t) :=
  (opn_struct Try.underlying28 (by kernel_rfl) (opnF_cons (k := 1) rfl (by kernel_rfl) (opn_int Try.underlying3) (opnF_cons (k := 1) rfl (by kernel_rfl) (opn_int Try.underlying3) (opnF_cons (k := 1) rfl (by kernel_rfl) (opn_int Try.underlying3) (opnF_cons (k := 1) rfl (by kernel_rfl) (opn_int Try.underlying3) (opnF_cons (k := 1) rfl (by kernel_rfl) (opn_slice ByteArray.empty 1 16 vs Try.underlying22 (by kernel_rfl) (by kernel_rfl) (by decide) (opn_str Try.underlying9) row_cell) (opnF_cons (k := 1) rfl (by kernel_rfl) (opn_int Try.underlying3) (opnF_cons (k := 1) rfl (by kernel_rfl) (opn_slice (0 : Int) 1 8 vi Try.underlying23 (by kernel_rfl) (by kernel_rfl) (by decide) (opn_int Try.underlying3) row_cell) (opnF_cons (k := 1) rfl (by kernel_rfl) (opn_slice (0 : Int) 1 8 vi Try.underlying23 (by kernel_rfl) (by kernel_rfl) (by decide) (opn_int Try.underlying3) row_cell) (opnF_cons (k := 1) rfl (by kernel_rfl) (opn_slice dThing 9 136 thAv Try.underlying24 (by kernel_rfl) (by kernel_rfl) (by decide) opn_thing row_agg) (opnF_cons (k := 1) rfl (by kernel_rfl) (opn_slice dVerb 2 32 verbAv Try.underlying25 (by kernel_rfl) (by kernel_rfl) (by decide) opn_verb row_agg) (opnF_cons (k := 1) rfl (by kernel_rfl) (opn_slice dDeed 6 48 deedAv Try.underlying26 (by kernel_rfl) (by kernel_rfl) (by decide) opn_deed row_agg) (opnF_cons (k := 1) rfl (by kernel_rfl) (opn_slice (0 : Int) 1 8 vi Try.underlying23 (by kernel_rfl) (by kernel_rfl) (by decide) (opn_int Try.underlying3) row_cell) (opnF_cons (k := 1) rfl (by kernel_rfl) (opn_slice (0 : Int) 1 8 vi Try.underlying23 (by kernel_rfl) (by kernel_rfl) (by decide) (opn_int Try.underlying3) row_cell) (opnF_cons (k := 1) rfl (by kernel_rfl) (opn_slice (0 : Int) 1 8 vi Try.underlying23 (by kernel_rfl) (by kernel_rfl) (by decide) (opn_int Try.underlying3) row_cell) (opnF_cons (k := 1) rfl (by kernel_rfl) (opn_slice (0 : Int) 1 8 vi Try.underlying23 (by kernel_rfl) (by kernel_rfl) (by decide) (opn_int Try.underlying3) row_cell) opnF_nil)))))))))))))))).map (fun d => ⟨d.1, d.2.1, d.2.2.1, d.2.2.2.1, d.2.2.2.2.1, d.2.2.2.2.2.1, d.2.2.2.2.2.2.1, d.2.2.2.2.2.2.2.1, d.2.2.2.2.2.2.2.2.1, d.2.2.2.2.2.2.2.2.2.1, d.2.2.2.2.2.2.2.2.2.2.1, d.2.2.2.2.2.2.2.2.2.2.2.1, d.2.2.2.2.2.2.2.2.2.2.2.2.1, d.2.2.2.2.2.2.2.2.2.2.2.2.2.1, d.2.2.2.2.2.2.2.2.2.2.2.2.2.2.1⟩) _ _ (fun d => rfl) (fun d h => by exact ⟨⟨sw_of (h.2.2.2.2.1).1, (h.2.2.2.2.2.2.2.2.1).1, (h.2.2.2.2.2.2.2.2.2.1).1⟩, ⟨Nat.le_trans (Nat.le_mul_of_pos_right _ (by decide : 0 < 8)) (Nat.le_trans (h.2.2.2.2.2.2.2.1).2 (by decide)), Nat.le_trans (Nat.le_mul_of_pos_right _ (by decide : 0 < 8)) (Nat.le_trans (h.2.2.2.2.2.2.1).2 (by decide)), Nat.le_trans (Nat.le_mul_of_pos_right _ (by decide : 0 < 8)) (Nat.le_trans (h.2.2.2.2.2.2.2.2.2.2.2.2.1).2 (by decide)), Nat.le_trans (Nat.le_mul_of_pos_right _ (by decide : 0 < 16)) (Nat.le_trans (h.2.2.2.2.1).2 (by decide)), Nat.le_trans (Nat.le_mul_of_pos_right _ (by decide : 0 < 8)) (Nat.le_trans (h.2.2.2.2.2.2.2.2.2.2.2.1).2 (by decide)), Nat.le_trans (Nat.le_mul_of_pos_right _ (by decide : 0 < 8)) (Nat.le_trans (h.2.2.2.2.2.2.2.2.2.2.2.2.2.1).2 (by decide))⟩⟩)
def exprFl (e : ExprP) : List Av := [vi e.kind, vi e.op, vi e.num, vs e.name, exprsAv e.args]
def stmtFl (s : StmtP) : List Av := [vi s.kind, vi s.num, vs s.name, exprsAv s.args, stmtsAv s.body, stmtsAv s.els]
theorem exprs_to {E : Env} (l : List ExprP) (v : Value) (h : Rep E (.sl 5 l.length fun j => exprAv (l.getD j dExpr)) v) : Rep E (exprsAv l) v := rep_rows (fun E j hj v h => by rw [exprRow_at hj]; exact h) E v h
theorem stmts_to {E : Env} (l : List StmtP) (v : Value) (h : Rep E (.sl 6 l.length fun j => stmtAv (l.getD j dStmt)) v) : Rep E (stmtsAv l) v := rep_rows (fun E j hj v h => by rw [stmtRow_at hj]; exact h) E v h
def ExprOk (e : ExprP) : Prop := wfE e ∧ nE e
def StmtOk (s : StmtP) : Prop := wfS s ∧ nS s
theorem exprs_ok : ∀ {l : List ExprP}, (∀ d ∈ l, ExprOk d) → wfEs l ∧ nEs l
  | [], _ => ⟨trivial, trivial⟩
  | e :: l, h => ⟨⟨(h e (by simp)).1, (exprs_ok fun d hd => h d (by simp [hd])).1⟩, ⟨(h e (by simp)).2, (exprs_ok fun d hd => h d (by simp [hd])).2⟩⟩
theorem stmts_ok : ∀ {l : List StmtP}, (∀ d ∈ l, StmtOk d) → wfSs l ∧ nSs l
  | [], _ => ⟨trivial, trivial⟩
  | e :: l, h => ⟨⟨(h e (by simp)).1, (stmts_ok fun d hd => h d (by simp [hd])).1⟩, ⟨(h e (by simp)).2, (stmts_ok fun d hd => h d (by simp [hd])).2⟩⟩
theorem opnB_expr : ∀ N, OpnB N enc Try.prog w base spare held 46 ExprP exprFl ExprOk
  | 0 => opnB_zero
  | N + 1 => (opnB_struct Try.underlying46 (by kernel_rfl) (opnFB_cons (k := 1) rfl (by kernel_rfl) (opn_int Try.underlying3).b (opnFB_cons (k := 1) rfl (by kernel_rfl) (opn_int Try.underlying3).b (opnFB_cons (k := 1) rfl (by kernel_rfl) (opn_int Try.underlying3).b (opnFB_cons (k := 1) rfl (by kernel_rfl) (opn_str Try.underlying9).b (opnFB_cons (k := 1) rfl (by kernel_rfl) (opnB_slice dExpr 5 64 exprAv Try.underlying42 (by kernel_rfl) (by kernel_rfl) (by decide) (opnB_expr N) (fun d cs h h1 => by rw [exprAv_eq]; exact row_agg (f := exprFl) d cs h h1)) opnFB_nil)))))).map (fun d => .mk d.1 d.2.1 d.2.2.1 d.2.2.2.1 d.2.2.2.2.1) _ _ (fun d cs h => by
      refine rep_aggTo (xs := [vi d.1, vi d.2.1, vi d.2.2.1, vs d.2.2.2.1, .sl 5 d.2.2.2.2.1.length fun j => exprAv (d.2.2.2.2.1.getD j dExpr)]) (fun i x y hx hy v h => ?_) rfl h
      rcases i with _ | _ | _ | _ | _ | i
      · simp [exprFl, stmtFl] at hx hy; subst hx; subst hy; exact h
      · simp [exprFl, stmtFl] at hx hy; subst hx; subst hy; exact h
      · simp [exprFl, stmtFl] at hx hy; subst hx; subst hy; exact h
      · simp [exprFl, stmtFl] at hx hy; subst hx; subst hy; exact h
      · simp [exprFl] at hx hy; subst hx; subst hy; exact exprs_to _ _ h
      · simp at hx) (fun d h => by
      obtain ⟨h0, h1, h2, h3, ⟨h4, h5⟩, _⟩ := h
      have := exprs_ok h4
      exact ⟨⟨Nat.le_trans (show d.2.2.2.2.1.length ≤ d.2.2.2.2.1.length * 64 by omega) (by omega), this.1⟩, ⟨⟨i64_wf h1, i64_wf h2⟩, this.2⟩⟩)
theorem opnB_stmt : ∀ N, OpnB N enc Try.prog w base spare held 44 StmtP stmtFl StmtOk
  | 0 => opnB_zero
  | N + 1 => (opnB_struct Try.underlying44 (by kernel_rfl) (opnFB_cons (k := 1) rfl (by kernel_rfl) (opn_int Try.underlying3).b (opnFB_cons (k := 1) rfl (by kernel_rfl) (opn_int Try.underlying3).b (opnFB_cons (k := 1) rfl (by kernel_rfl) (opn_str Try.underlying9).b (opnFB_cons (k := 1) rfl (by kernel_rfl) (opnB_slice dExpr 5 64 exprAv Try.underlying42 (by kernel_rfl) (by kernel_rfl) (by decide) (opnB_expr N) (fun d cs h h1 => by rw [exprAv_eq]; exact row_agg (f := exprFl) d cs h h1)) (opnFB_cons (k := 1) rfl (by kernel_rfl) (opnB_slice dStmt 6 104 stmtAv Try.underlying29 (by kernel_rfl) (by kernel_rfl) (by decide) (opnB_stmt N) (fun d cs h h1 => by rw [stmtAv_eq]; exact row_agg (f := stmtFl) d cs h h1)) (opnFB_cons (k := 1) rfl (by kernel_rfl) (opnB_slice dStmt 6 104 stmtAv Try.underlying29 (by kernel_rfl) (by kernel_rfl) (by decide) (opnB_stmt N) (fun d cs h h1 => by rw [stmtAv_eq]; exact row_agg (f := stmtFl) d cs h h1)) opnFB_nil))))))).map (fun d => .mk d.1 d.2.1 d.2.2.1 d.2.2.2.1 d.2.2.2.2.1 d.2.2.2.2.2.1) _ _ (fun d cs h => by
      refine rep_aggTo (xs := [vi d.1, vi d.2.1, vs d.2.2.1, .sl 5 d.2.2.2.1.length fun j => exprAv (d.2.2.2.1.getD j dExpr), .sl 6 d.2.2.2.2.1.length fun j => stmtAv (d.2.2.2.2.1.getD j dStmt), .sl 6 d.2.2.2.2.2.1.length fun j => stmtAv (d.2.2.2.2.2.1.getD j dStmt)]) (fun i x y hx hy v h => ?_) rfl h
      rcases i with _ | _ | _ | _ | _ | _ | i
      · simp [exprFl, stmtFl] at hx hy; subst hx; subst hy; exact h
      · simp [exprFl, stmtFl] at hx hy; subst hx; subst hy; exact h
      · simp [exprFl, stmtFl] at hx hy; subst hx; subst hy; exact h
      · simp [stmtFl] at hx hy; subst hx; subst hy; exact exprs_to _ _ h
      · simp [stmtFl] at hx hy; subst hx; subst hy; exact stmts_to _ _ h
      · simp [stmtFl] at hx hy; subst hx; subst hy; exact stmts_to _ _ h
      · simp at hx) (fun d h => by
      obtain ⟨h0, h1, h2, ⟨h3, h4⟩, ⟨h5, h6⟩, ⟨h7, h8⟩, _⟩ := h
      have e1 := exprs_ok h3
      have e2 := stmts_ok h5
      have e3 := stmts_ok h7
      exact ⟨⟨⟨Nat.le_trans (Nat.le_mul_of_pos_right _ (by decide : 0 < 64)) (Nat.le_trans h4 (by decide)), Nat.le_trans (Nat.le_mul_of_pos_right _ (by decide : 0 < 104)) (Nat.le_trans h6 (by decide)), Nat.le_trans (Nat.le_mul_of_pos_right _ (by decide : 0 < 104)) (Nat.le_trans h8 (by decide))⟩, e1.1, e2.1, e3.1⟩, ⟨i64_wf h1, e1.2, e2.2, e3.2⟩⟩)
theorem opn_stmts : Opn enc Try.prog w base spare held 29 (List StmtP) (fun l => [stmtsAv l]) (fun l => (wfSs l ∧ nSs l) ∧ l.length ≤ 140737488355328) := OpnB.all fun N =>
  ((opnB_slice dStmt 6 104 stmtAv Try.underlying29 (by kernel_rfl) (by kernel_rfl) (by decide) (opnB_stmt N) (fun d cs h h1 => by rw [stmtAv_eq]; exact row_agg (f := stmtFl) d cs h h1))).map id _ _ (fun d cs h => RepL.one (stmts_to d) cs h) (fun d h => ⟨stmts_ok h.1, Nat.le_trans (Nat.le_mul_of_pos_right _ (by decide : 0 < 104)) (Nat.le_trans h.2 (by decide))⟩)
end
end Go.Proofs.Ytfipllnodgbghaa
namespace Go.Proofs.Ytfipllnodgbghaa
open Go.RowKit
set_option maxRecDepth 100000
set_option linter.unusedVariables false
set_option linter.unusedSimpArgs false
theorem boundAll_drop {t : TabP} {locals : Int} {l : List StmtP} {k : Nat} (h : k < l.length) : boundAll t locals (l.drop k) = (boundS t locals (l.getD k dStmt) && boundAll t locals (l.drop (k + 1))) := by
  rw [List.drop_eq_getElem_cons h, List.getD, List.getElem?_eq_getElem h]
  rfl
theorem boundArgs_drop {t : TabP} {locals : Int} {said : Bool} {l : List ExprP} {k : Nat} (h : k < l.length) : boundArgs t locals said (l.drop k) = (boundE t locals (l.getD k dExpr) said && boundArgs t locals said (l.drop (k + 1))) := by
  rw [List.drop_eq_getElem_cons h, List.getD, List.getElem?_eq_getElem h]
  rfl
theorem boundS_is (t : TabP) (locals : Int) (s : StmtP) : boundS t locals s = ((((shapeS s).1 && thereS t s locals) && !(decide (s.kind = 19) && decide ((s.args.getD 0 dExpr).kind ≠ 18))) && (boundArgs t locals (decide (s.kind = 1)) s.args && (boundB t locals s.body && boundB t locals s.els))) := by cases s; rfl
theorem shape_call {s : StmtP} (h : (shapeS s).1 = true) (hk : s.kind = 19) : s.args.length = 1 := by
  unfold shapeS at h
  rw [if_neg (by omega), if_neg (by omega), if_neg (by omega), if_neg (by omega), if_pos (by omega)] at h
  unfold hasS at h
  simp only [Bool.and_eq_true, decide_eq_true_eq] at h
  omega
set_option maxHeartbeats 6400000 in
theorem boundBlock_step (t : TabP) (hT : TLen t) (l : List StmtP) (locals : Int) (hl : -9223372036854775808 ≤ locals ∧ locals < 9223372036854775808) (hlen : l.length ≤ 140737488355328) (hw : wfSs l) (ih : ∀ x ∈ l, PC Try.prog 13 [tabAv t, stmtsAv x.body, vi locals] (vb (boundB t locals x.body)) ∧ PC Try.prog 13 [tabAv t, stmtsAv x.els, vi locals] (vb (boundB t locals x.els))) : PC Try.prog 13 [tabAv t, stmtsAv l, vi locals] (vb (boundB t locals l)) := by
  refine FC.body 4 80 Try.func13 rfl (by kernel_rfl) ?_
  refine aw_seq ?_
  refine aw_text rfl ?_
  refine ch_v (R := []) rfl rfl (oc_box (x := .agg _) rfl rfl) trivial ?_
  refine ch_v (R := []) rfl rfl (oc_assign (x := .val _) rfl rfl) trivial ?_
  refine ck_nil ?_
  refine aw_seq ?_
  refine aw_seq ?_
  refine aw_text rfl ?_
  refine ch_v (R := []) rfl rfl (oc_move (x := .sl _ _ _) rfl rfl) trivial ?_
  refine ch_v (R := []) rfl rfl (oc_len rfl rfl (by kernel_rfl)) trivial ?_
  refine ch_v (R := []) rfl rfl (oc_move (x := .val _) rfl rfl) trivial ?_
  refine ck_nil ?_
  refine aw_block ?_
  refine aw_loop (ι := Nat) (fun k => ⟨[(1, stmtsAv l), (2, vi locals), (3, .ptr (tabAv t)), (13, stmtsAv l), (14, vi (l.length : Int)), (15, vi k)], [(1, .unborn), (2, .unborn)]⟩) (fun k => k ≤ l.length ∧ boundAll t locals l = boundAll t locals (l.drop k)) (fun k => l.length - k) 0 (⟨Nat.zero_le _, rfl⟩) (Le.sub ⟨.inr rfl, .inr rfl, .inr rfl, .inr rfl, .inr rfl, .inr rfl, trivial⟩ ⟨rfl, rfl, trivial⟩) ?_
  intro k hI
  obtain ⟨g1, g2⟩ := hI
  refine aw_seq ?_
  refine aw_text rfl ?_
  refine ch_v (R := []) rfl rfl (oc_binZ rfl rfl rfl rfl) trivial ?_
  refine ck_nil ?_
  refine aw_seq ?_
  refine aw_cond rfl (fun hb => ?_) (fun hb => ?_)
  · have hlt : k < l.length := by have h0 := of_decide_eq_true hb; omega
    have hmem := getD_memS hlt
    have hws := wfS_in (wfSs_mem hmem hw)
    have his := boundS_is t locals (l.getD k dStmt)
    refine aw_skip ?_
    refine aw_seq ?_
    refine aw_block ?_
    refine aw_seq ?_
    refine aw_text rfl ?_
    refine ch_v (R := []) rfl rfl (OC.cast (oc_indexN (j := k) rfl rfl rfl (by kernel_rfl) (by omega)) (show Av.ptr (stmtRow l k) = .ptr (.agg [vi (l.getD k dStmt).kind, vi (l.getD k dStmt).num, vs (l.getD k dStmt).name, exprsAv (l.getD k dStmt).args, stmtsAv (l.getD k dStmt).body, stmtsAv (l.getD k dStmt).els]) from by rw [stmtRow_at hlt, stmtAv_eq])) trivial ?_
    refine ch_v (R := []) rfl rfl (oc_load_row rfl rfl (by kernel_rfl) (by kernel_rfl) rfl) trivial ?_
    refine ch_u rfl rfl (oc_alloc (zs := [.int .i64 0, .int .i64 0, .string ⟨#[]⟩, .slice none 0 0, .slice none 0 0, .slice none 0 0]) (cs := [.val _, .val _, .val _, .val _, .val _, .val _]) 1 rfl (by kernel_rfl) rfl rfl) ⟨rfl, trivial⟩ ?_
    refine ch_n rfl rfl (oc_store_row (x := .agg _) (cs' := [_, _, _, _, _, _]) rfl rfl rfl rfl (by kernel_rfl) (by first | decide | exact Nat.le_of_ble_eq_true rfl | simp) (by first | decide | exact Nat.le_of_ble_eq_true rfl | simp) rfl) ⟨rfl, trivial⟩ ?_
    refine ck_nil ?_
    refine aw_seq ?_
    refine aw_text rfl ?_
    refine ch_v (R := [(_, .live _ _)]) rfl rfl (oc_load_own_row (k := 6) (ds := [_, _, _, _, _, _]) rfl rfl (by kernel_rfl) (by kernel_rfl) rfl rfl (by decide)) ⟨rfl, trivial⟩ ?_
    refine ch_v (R := []) rfl rfl (oc_call rfl (by kernel_rfl) ((show PC _ _ [(.agg [vi (l.getD k dStmt).kind, vi (l.getD k dStmt).num, vs (l.getD k dStmt).name, exprsAv (l.getD k dStmt).args, stmtsAv (l.getD k dStmt).body, stmtsAv (l.getD k dStmt).els])] _ from stmtAv_eq (l.getD k dStmt) ▸ shape_pc (l.getD k dStmt))) rfl (by simp only [PureL, Pure, and_self, pure_slI, pure_slS, pure_tab, expr_pure, exprs_pure, stmt_pure, stmts_pure, code_pure, insAv, implies_true]) (by simp only [PureL, Pure, and_self, pure_slI, pure_slS, pure_tab, expr_pure, exprs_pure, stmt_pure, stmts_pure, code_pure, insAv, implies_true])) trivial ?_
    refine ch_v (R := []) rfl rfl (oc_move (x := .tup _) rfl rfl) trivial ?_
    refine ch_v (R := []) rfl rfl (oc_extract rfl rfl rfl) trivial ?_
    refine ch_v (R := []) rfl rfl (oc_extract rfl rfl rfl) trivial ?_
    refine ch_v (R := []) rfl rfl (oc_assign (x := .val _) rfl rfl) trivial ?_
    refine ch_v (R := []) rfl rfl (oc_assign (x := .val _) rfl rfl) trivial ?_
    refine ck_nil ?_
    refine aw_seq ?_
    refine aw_seq ?_
    refine aw_text rfl ?_
    refine ch_v (R := []) rfl rfl (oc_move (x := .val _) rfl rfl) trivial ?_
    refine ch_v (R := []) rfl rfl (oc_not rfl rfl) trivial ?_
    refine ch_v (R := []) rfl rfl (oc_move (x := .val _) rfl rfl) trivial ?_
    refine ch_g (R := []) rfl rfl rfl gate_f (fun hC => oc_load_row rfl rfl (by kernel_rfl) (by kernel_rfl) rfl) (fun hC => ⟨(by first | rfl | exact hC | (simp only [Bool.and_eq_true] at hC; first | exact hC.1 | exact hC.1.1 | exact hC.2) | simp_all), trivial⟩) trivial ?_
    refine ch_g (R := [(_, .live _ _)]) rfl rfl rfl gate_f (fun hC => oc_load_own_row (k := 6) (ds := [_, _, _, _, _, _]) rfl rfl (by kernel_rfl) (by kernel_rfl) rfl rfl (by decide)) (fun hC => ⟨(by first | rfl | exact hC | (simp only [Bool.and_eq_true] at hC; first | exact hC.1 | exact hC.1.1 | exact hC.2) | simp_all), trivial⟩) ⟨rfl, trivial⟩ ?_
    refine ch_g (R := []) rfl rfl rfl gate_f (fun hC => oc_move (x := .val _) rfl rfl) (fun hC => ⟨(by first | rfl | exact hC | (simp only [Bool.and_eq_true] at hC; first | exact hC.1 | exact hC.1.1 | exact hC.2) | simp_all), trivial⟩) trivial ?_
    refine ch_g (R := []) rfl rfl rfl gate_f (fun hC => oc_call rfl (by kernel_rfl) ((show PC _ _ [tabAv t, (.agg [vi (l.getD k dStmt).kind, vi (l.getD k dStmt).num, vs (l.getD k dStmt).name, exprsAv (l.getD k dStmt).args, stmtsAv (l.getD k dStmt).body, stmtsAv (l.getD k dStmt).els]), vi locals] _ from stmtAv_eq (l.getD k dStmt) ▸ there_pc t hT (l.getD k dStmt) locals hl)) rfl (by simp only [PureL, Pure, and_self, pure_slI, pure_slS, pure_tab, expr_pure, exprs_pure, stmt_pure, stmts_pure, code_pure, insAv, implies_true]) (by simp only [PureL, Pure, and_self, pure_slI, pure_slS, pure_tab, expr_pure, exprs_pure, stmt_pure, stmts_pure, code_pure, insAv, implies_true])) (fun hC => ⟨(by first | rfl | exact hC | (simp only [Bool.and_eq_true] at hC; first | exact hC.1 | exact hC.1.1 | exact hC.2) | simp_all), (by first | rfl | exact hC | (simp only [Bool.and_eq_true] at hC; first | exact hC.1 | exact hC.1.1 | exact hC.2) | simp_all), (by first | rfl | exact hC | (simp only [Bool.and_eq_true] at hC; first | exact hC.1 | exact hC.1.1 | exact hC.2) | simp_all), (by first | rfl | exact hC | (simp only [Bool.and_eq_true] at hC; first | exact hC.1 | exact hC.1.1 | exact hC.2) | simp_all), trivial⟩) trivial ?_
    refine ch_g (R := []) rfl rfl rfl gate_f (fun hC => oc_not rfl rfl) (fun hC => ⟨(by first | rfl | exact hC | (simp only [Bool.and_eq_true] at hC; first | exact hC.1 | exact hC.1.1 | exact hC.2) | simp_all), trivial⟩) trivial ?_
    refine ch_v (R := []) rfl rfl (oc_or rfl rfl rfl (by first | exact fun h => h | simp_all)) trivial ?_
    refine ch_v (R := []) rfl rfl (oc_move (x := .val _) rfl rfl) trivial ?_
    refine ch_g (R := [(_, .live _ _)]) rfl rfl rfl gate_f (fun hC => oc_fieldAddr_own (off := 0) (sz := 1) (r := false) rfl rfl (by first | decide | simp) (by kernel_rfl) (by decide)) (fun hC => ⟨(by first | rfl | exact hC | (simp only [Bool.and_eq_true] at hC; first | exact hC.1 | exact hC.1.1 | exact hC.2) | simp_all), trivial⟩) ⟨rfl, trivial⟩ ?_
    refine ch_g (R := [(_, .live _ _)]) rfl rfl rfl gate_f (fun hC => oc_load_own rfl rfl (by kernel_rfl) rfl) (fun hC => ⟨(by first | rfl | exact hC | (simp only [Bool.and_eq_true] at hC; first | exact hC.1 | exact hC.1.1 | exact hC.2) | simp_all), trivial⟩) ⟨rfl, trivial⟩ ?_
    refine ch_g (R := []) rfl rfl rfl gate_f (fun hC => oc_binZ rfl rfl rfl rfl) (fun hC => ⟨(by first | rfl | exact hC | (simp only [Bool.and_eq_true] at hC; first | exact hC.1 | exact hC.1.1 | exact hC.2) | simp_all), (by first | rfl | exact hC | (simp only [Bool.and_eq_true] at hC; first | exact hC.1 | exact hC.1.1 | exact hC.2) | simp_all), trivial⟩) trivial ?_
    refine ch_g (R := []) rfl rfl rfl gate_f (fun hC => oc_move (x := .val _) rfl rfl) (fun hC => ⟨(by first | rfl | exact hC | (simp only [Bool.and_eq_true] at hC; first | exact hC.1 | exact hC.1.1 | exact hC.2) | simp_all), trivial⟩) trivial ?_
    refine ch_g (R := [(_, .live _ _)]) rfl rfl rfl gate_gt (fun hC => oc_fieldAddr_own (off := 3) (sz := 1) (r := false) rfl rfl (by first | decide | simp) (by kernel_rfl) (by decide)) (fun hC => ⟨(by first | rfl | exact hC | (simp only [Bool.and_eq_true] at hC; first | exact hC.1 | exact hC.1.1 | exact hC.2) | simp_all), trivial⟩) ⟨rfl, trivial⟩ ?_
    refine ch_g (R := [(_, .live _ _)]) rfl rfl rfl gate_gt (fun hC => oc_load_own rfl rfl (by kernel_rfl) rfl) (fun hC => ⟨(by first | rfl | exact hC | (simp only [Bool.and_eq_true] at hC; first | exact hC.1 | exact hC.1.1 | exact hC.2) | simp_all), trivial⟩) ⟨rfl, trivial⟩ ?_
    refine ch_g (R := []) rfl rfl rfl gate_gt (fun hC => by
          have hc : (shapeS (l.getD k dStmt)).1 = true ∧ (l.getD k dStmt).kind = 19 := by simp at hC; exact ⟨hC.1.1, hC.2⟩
          have h1 := shape_call hc.1 hc.2
          exact OC.cast (oc_indexN (j := 0) rfl rfl rfl (by kernel_rfl) (by omega)) (show Av.ptr (exprRow (l.getD k dStmt).args 0) = .ptr (.agg [vi ((l.getD k dStmt).args.getD 0 dExpr).kind, vi ((l.getD k dStmt).args.getD 0 dExpr).op, vi ((l.getD k dStmt).args.getD 0 dExpr).num, vs ((l.getD k dStmt).args.getD 0 dExpr).name, exprsAv ((l.getD k dStmt).args.getD 0 dExpr).args]) from by rw [exprRow_at (by omega), exprAv_eq])) (fun hC => ⟨(by first | rfl | exact hC | (simp only [Bool.and_eq_true] at hC; first | exact hC.1 | exact hC.1.1 | exact hC.2) | simp_all), (by first | rfl | exact hC | (simp only [Bool.and_eq_true] at hC; first | exact hC.1 | exact hC.1.1 | exact hC.2) | simp_all), trivial⟩) trivial ?_
    refine ch_g (R := []) rfl rfl rfl gate_gt (fun hC => oc_fieldAddr (off := 0) rfl rfl rfl (by kernel_rfl) rfl) (fun hC => ⟨(by first | rfl | exact hC | (simp only [Bool.and_eq_true] at hC; first | exact hC.1 | exact hC.1.1 | exact hC.2) | simp_all), trivial⟩) trivial ?_
    refine ch_g (R := []) rfl rfl rfl gate_gt (fun hC => oc_load rfl rfl (by kernel_rfl) cells_int) (fun hC => ⟨(by first | rfl | exact hC | (simp only [Bool.and_eq_true] at hC; first | exact hC.1 | exact hC.1.1 | exact hC.2) | simp_all), trivial⟩) trivial ?_
    refine ch_g (R := []) rfl rfl rfl gate_gt (fun hC => oc_binZ rfl rfl rfl rfl) (fun hC => ⟨(by first | rfl | exact hC | (simp only [Bool.and_eq_true] at hC; first | exact hC.1 | exact hC.1.1 | exact hC.2) | simp_all), (by first | rfl | exact hC | (simp only [Bool.and_eq_true] at hC; first | exact hC.1 | exact hC.1.1 | exact hC.2) | simp_all), trivial⟩) trivial ?_
    refine ch_gp rfl rfl rfl rfl gate_f (fun hC => (by first | rfl | exact hC | (simp only [Bool.and_eq_true] at hC; first | exact hC.1 | exact hC.1.1 | exact hC.2) | simp_all)) rfl (fun hC E a hp hq => pk_and rfl (by first | exact fun h => tt2 hC h | exact fun h => h | simp_all) hp) ?_
    refine ch_v (R := []) rfl rfl (oc_or rfl rfl rfl (by first | exact fun h => h | simp_all)) trivial ?_
    refine ck_nil ?_
    refine aw_cond rfl (fun hb => ?_) (fun hb => ?_)
    · have hbad : boundS t locals (l.getD k dStmt) = false := by
        rw [his]
        revert hb
        cases (shapeS (l.getD k dStmt)).1 <;> cases thereS t (l.getD k dStmt) locals <;> simp
        intro h1 h2
        simp [h1, h2]
      refine aw_seq ?_
      refine aw_text rfl ?_
      refine ch_v (R := []) rfl rfl (oc_assign (x := .val _) rfl rfl) trivial ?_
      refine ck_nil ?_
      refine aw_ret ?_
      exact ⟨.inl rfl, ResOk.tmp rfl (vb_eq (by unfold boundB; rw [g2, boundAll_drop hlt, hbad]; rfl)), trivial⟩
    · have hgood : (((shapeS (l.getD k dStmt)).1 && thereS t (l.getD k dStmt) locals) && !(decide ((l.getD k dStmt).kind = 19) && decide (((l.getD k dStmt).args.getD 0 dExpr).kind ≠ 18))) = true := by
        revert hb
        cases (shapeS (l.getD k dStmt)).1 <;> cases thereS t (l.getD k dStmt) locals <;> simp
        intro h
        exact (Classical.em _).symm.imp id h
      rw [hgood, Bool.true_and] at his
      rw [show decide ((l.getD k dStmt).kind = 1) = ((l.getD k dStmt).kind == 1) from (beq_decide _ _).symm] at his
      refine aw_skip ?_
      refine aw_seq ?_
      refine aw_seq ?_
      refine aw_text rfl ?_
      refine ch_v (R := [(_, .live _ _)]) rfl rfl (oc_fieldAddr_own (off := 3) (sz := 1) (r := false) rfl rfl (by first | decide | simp) (by kernel_rfl) (by decide)) ⟨rfl, trivial⟩ ?_
      refine ch_v (R := [(_, .live _ _)]) rfl rfl (oc_load_own rfl rfl (by kernel_rfl) rfl) ⟨rfl, trivial⟩ ?_
      refine ch_v (R := []) rfl rfl (oc_len rfl rfl (by kernel_rfl)) trivial ?_
      refine ch_v (R := []) rfl rfl (oc_move (x := .val _) rfl rfl) trivial ?_
      refine ck_nil ?_
      refine aw_block ?_
      refine aw_loop (ι := Nat) (fun r => ⟨[(1, stmtsAv l), (2, vi locals), (3, .ptr (tabAv t)), (8, .own 1 0), (13, stmtsAv l), (14, vi (l.length : Int)), (15, vi k), (47, exprsAv (l.getD k dStmt).args), (48, vi ((l.getD k dStmt).args.length : Int)), (49, vi r)], [(1, .live 44 [vi (l.getD k dStmt).kind, vi (l.getD k dStmt).num, vs (l.getD k dStmt).name, exprsAv (l.getD k dStmt).args, stmtsAv (l.getD k dStmt).body, stmtsAv (l.getD k dStmt).els]), (2, .unborn)]⟩) (fun r => r ≤ (l.getD k dStmt).args.length ∧ boundArgs t locals ((l.getD k dStmt).kind == 1) (l.getD k dStmt).args = boundArgs t locals ((l.getD k dStmt).kind == 1) ((l.getD k dStmt).args.drop r)) (fun r => (l.getD k dStmt).args.length - r) 0 (⟨Nat.zero_le _, rfl⟩) (Le.sub ⟨.inr rfl, .inr rfl, .inr rfl, .inr rfl, .inr rfl, .inr rfl, .inr rfl, .inr rfl, .inr rfl, .inr rfl, trivial⟩ ⟨rfl, rfl, trivial⟩) ?_
      intro r hI
      obtain ⟨r1, r2⟩ := hI
      refine aw_seq ?_
      refine aw_text rfl ?_
      refine ch_v (R := []) rfl rfl (oc_binZ rfl rfl rfl rfl) trivial ?_
      refine ck_nil ?_
      refine aw_seq ?_
      refine aw_cond rfl (fun hb => ?_) (fun hb => ?_)
      · have hlr : r < (l.getD k dStmt).args.length := by have h0 := of_decide_eq_true hb; omega
        have hme := getD_memE hlr
        refine aw_skip ?_
        refine aw_seq ?_
        refine aw_block ?_
        refine aw_seq ?_
        refine aw_text rfl ?_
        refine ch_v (R := []) rfl rfl (OC.cast (oc_indexN (j := r) rfl rfl rfl (by kernel_rfl) (by omega)) (show Av.ptr (exprRow (l.getD k dStmt).args r) = .ptr (.agg [vi ((l.getD k dStmt).args.getD r dExpr).kind, vi ((l.getD k dStmt).args.getD r dExpr).op, vi ((l.getD k dStmt).args.getD r dExpr).num, vs ((l.getD k dStmt).args.getD r dExpr).name, exprsAv ((l.getD k dStmt).args.getD r dExpr).args]) from by rw [exprRow_at hlr, exprAv_eq])) trivial ?_
        refine ch_v (R := []) rfl rfl (oc_load_row rfl rfl (by kernel_rfl) (by kernel_rfl) rfl) trivial ?_
        refine ch_u rfl rfl (oc_alloc (zs := [.int .i64 0, .int .i64 0, .int .i64 0, .string ⟨#[]⟩, .slice none 0 0]) (cs := [.val _, .val _, .val _, .val _, .val _]) 2 rfl (by kernel_rfl) rfl rfl) ⟨rfl, trivial⟩ ?_
        refine ch_n rfl rfl (oc_store_row (x := .agg _) (cs' := [_, _, _, _, _]) rfl rfl rfl rfl (by kernel_rfl) (by first | decide | exact Nat.le_of_ble_eq_true rfl | simp) (by first | decide | exact Nat.le_of_ble_eq_true rfl | simp) rfl) ⟨rfl, trivial⟩ ?_
        refine ck_nil ?_
        refine aw_seq ?_
        refine aw_text rfl ?_
        refine ch_v (R := []) rfl rfl (oc_load_row rfl rfl (by kernel_rfl) (by kernel_rfl) rfl) trivial ?_
        refine ch_v (R := [(_, .live _ _)]) rfl rfl (oc_load_own_row (k := 5) (ds := [_, _, _, _, _]) rfl rfl (by kernel_rfl) (by kernel_rfl) rfl rfl (by decide)) ⟨rfl, trivial⟩ ?_
        refine ch_v (R := []) rfl rfl (oc_move (x := .val _) rfl rfl) trivial ?_
        refine ch_v (R := [(_, .live _ _)]) rfl rfl (oc_fieldAddr_own (off := 0) (sz := 1) (r := false) rfl rfl (by first | decide | simp) (by kernel_rfl) (by decide)) ⟨rfl, trivial⟩ ?_
        refine ch_v (R := [(_, .live _ _)]) rfl rfl (oc_load_own rfl rfl (by kernel_rfl) rfl) ⟨rfl, trivial⟩ ?_
        refine ch_v (R := []) rfl rfl (oc_binZ rfl rfl rfl rfl) trivial ?_
        refine ch_v (R := []) rfl rfl (oc_call rfl (by kernel_rfl) ((show PC _ _ [tabAv t, (.agg [vi ((l.getD k dStmt).args.getD r dExpr).kind, vi ((l.getD k dStmt).args.getD r dExpr).op, vi ((l.getD k dStmt).args.getD r dExpr).num, vs ((l.getD k dStmt).args.getD r dExpr).name, exprsAv ((l.getD k dStmt).args.getD r dExpr).args]), vi locals, vb ((l.getD k dStmt).kind == 1)] _ from exprAv_eq ((l.getD k dStmt).args.getD r dExpr) ▸ bound_pc t hT _ ((l.getD k dStmt).args.getD r dExpr) (Nat.le_refl _) (wfEs_mem hme hws.2.1) locals ((l.getD k dStmt).kind == 1))) rfl (by simp only [PureL, Pure, and_self, pure_slI, pure_slS, pure_tab, expr_pure, exprs_pure, stmt_pure, stmts_pure, code_pure, insAv, implies_true]) (by simp only [PureL, Pure, and_self, pure_slI, pure_slS, pure_tab, expr_pure, exprs_pure, stmt_pure, stmts_pure, code_pure, insAv, implies_true])) trivial ?_
        refine ch_v (R := []) rfl rfl (oc_not rfl rfl) trivial ?_
        refine ck_nil ?_
        refine aw_cond rfl (fun hb => ?_) (fun hb => ?_)
        · have hbe : boundE t locals ((l.getD k dStmt).args.getD r dExpr) ((l.getD k dStmt).kind == 1) = false := by simpa using hb
          have hbad : boundS t locals (l.getD k dStmt) = false := by rw [his, r2, boundArgs_drop hlr, hbe, Bool.false_and, Bool.false_and]
          refine aw_seq ?_
          refine aw_text rfl ?_
          refine ch_v (R := []) rfl rfl (oc_assign (x := .val _) rfl rfl) trivial ?_
          refine ck_nil ?_
          refine aw_ret ?_
          exact ⟨.inl rfl, ResOk.tmp rfl (vb_eq (by unfold boundB; rw [g2, boundAll_drop hlt, hbad]; rfl)), trivial⟩
        · have hbe : boundE t locals ((l.getD k dStmt).args.getD r dExpr) ((l.getD k dStmt).kind == 1) = true := by simpa using hb
          refine aw_skip ?_
          refine aw_text rfl ?_
          refine ch_v (R := []) rfl rfl (oc_binZ rfl rfl rfl (by first | exact binW_add (by omega) (by omega) | rfl)) trivial ?_
          refine ch_v (R := []) rfl rfl (oc_move (x := .val _) rfl rfl) trivial ?_
          refine ck_nil ?_
          exact ⟨r + 1, ⟨by omega, by rw [r2, boundArgs_drop hlr, hbe, Bool.true_and]⟩, by omega, Le.reset [2] (by simp) ⟨.inr rfl, .inr rfl, .inr rfl, .inr rfl, .inr rfl, .inr rfl, .inr rfl, .inr rfl, .inr rfl, .inr (vi_eq (by omega)), trivial⟩ ⟨NoN.of_pure _ (stmts_pure l), by simp [NoN], NoN.of_pure _ (by unfold Pure; exact pure_tab t), by simp [NoN], NoN.of_pure _ (stmts_pure l), by simp [NoN], by simp [NoN], NoN.of_pure _ (exprs_pure (l.getD k dStmt).args), by simp [NoN], by simp [NoN], trivial⟩ ⟨by rw [if_neg (by decide)]; exact ⟨rfl, non_stmt _⟩, by rw [if_pos (by decide)], trivial⟩⟩
      · have hge : r = (l.getD k dStmt).args.length := by have h0 := of_decide_eq_false hb; omega
        have hba : boundArgs t locals ((l.getD k dStmt).kind == 1) (l.getD k dStmt).args = true := by rw [r2, hge, List.drop_length]; rfl
        rw [hba, Bool.true_and] at his
        refine aw_exit ?_
        refine aw_seq ?_
        refine aw_text rfl ?_
        refine ch_v (R := []) rfl rfl (oc_load_row rfl rfl (by kernel_rfl) (by kernel_rfl) rfl) trivial ?_
        refine ch_v (R := [(_, .live _ _)]) rfl rfl (oc_fieldAddr_own (off := 4) (sz := 1) (r := false) rfl rfl (by first | decide | simp) (by kernel_rfl) (by decide)) ⟨rfl, trivial⟩ ?_
        refine ch_v (R := [(_, .live _ _)]) rfl rfl (oc_load_own rfl rfl (by kernel_rfl) rfl) ⟨rfl, trivial⟩ ?_
        refine ch_v (R := []) rfl rfl (oc_move (x := .val _) rfl rfl) trivial ?_
        refine ch_v (R := []) rfl rfl (oc_call rfl (by kernel_rfl) ((ih (l.getD k dStmt) hmem).1) rfl (by simp only [PureL, Pure, and_self, pure_slI, pure_slS, pure_tab, expr_pure, exprs_pure, stmt_pure, stmts_pure, code_pure, insAv, implies_true]) (by simp only [PureL, Pure, and_self, pure_slI, pure_slS, pure_tab, expr_pure, exprs_pure, stmt_pure, stmts_pure, code_pure, insAv, implies_true])) trivial ?_
        refine ch_v (R := []) rfl rfl (oc_not rfl rfl) trivial ?_
        refine ch_v (R := []) rfl rfl (oc_move (x := .val _) rfl rfl) trivial ?_
        refine ch_g (R := []) rfl rfl rfl gate_f (fun hC => oc_load_row rfl rfl (by kernel_rfl) (by kernel_rfl) rfl) (fun hC => ⟨(by first | rfl | exact hC | (simp only [Bool.and_eq_true] at hC; first | exact hC.1 | exact hC.1.1 | exact hC.2) | simp_all), trivial⟩) trivial ?_
        refine ch_g (R := [(_, .live _ _)]) rfl rfl rfl gate_f (fun hC => oc_fieldAddr_own (off := 5) (sz := 1) (r := false) rfl rfl (by first | decide | simp) (by kernel_rfl) (by decide)) (fun hC => ⟨(by first | rfl | exact hC | (simp only [Bool.and_eq_true] at hC; first | exact hC.1 | exact hC.1.1 | exact hC.2) | simp_all), trivial⟩) ⟨rfl, trivial⟩ ?_
        refine ch_g (R := [(_, .live _ _)]) rfl rfl rfl gate_f (fun hC => oc_load_own rfl rfl (by kernel_rfl) rfl) (fun hC => ⟨(by first | rfl | exact hC | (simp only [Bool.and_eq_true] at hC; first | exact hC.1 | exact hC.1.1 | exact hC.2) | simp_all), trivial⟩) ⟨rfl, trivial⟩ ?_
        refine ch_g (R := []) rfl rfl rfl gate_f (fun hC => oc_move (x := .val _) rfl rfl) (fun hC => ⟨(by first | rfl | exact hC | (simp only [Bool.and_eq_true] at hC; first | exact hC.1 | exact hC.1.1 | exact hC.2) | simp_all), trivial⟩) trivial ?_
        refine ch_g (R := []) rfl rfl rfl gate_f (fun hC => oc_call rfl (by kernel_rfl) ((ih (l.getD k dStmt) hmem).2) rfl (by simp only [PureL, Pure, and_self, pure_slI, pure_slS, pure_tab, expr_pure, exprs_pure, stmt_pure, stmts_pure, code_pure, insAv, implies_true]) (by simp only [PureL, Pure, and_self, pure_slI, pure_slS, pure_tab, expr_pure, exprs_pure, stmt_pure, stmts_pure, code_pure, insAv, implies_true])) (fun hC => ⟨(by first | rfl | exact hC | (simp only [Bool.and_eq_true] at hC; first | exact hC.1 | exact hC.1.1 | exact hC.2) | simp_all), (by first | rfl | exact hC | (simp only [Bool.and_eq_true] at hC; first | exact hC.1 | exact hC.1.1 | exact hC.2) | simp_all), (by first | rfl | exact hC | (simp only [Bool.and_eq_true] at hC; first | exact hC.1 | exact hC.1.1 | exact hC.2) | simp_all), (by first | rfl | exact hC | (simp only [Bool.and_eq_true] at hC; first | exact hC.1 | exact hC.1.1 | exact hC.2) | simp_all), trivial⟩) trivial ?_
        refine ch_g (R := []) rfl rfl rfl gate_f (fun hC => oc_not rfl rfl) (fun hC => ⟨(by first | rfl | exact hC | (simp only [Bool.and_eq_true] at hC; first | exact hC.1 | exact hC.1.1 | exact hC.2) | simp_all), trivial⟩) trivial ?_
        refine ch_v (R := []) rfl rfl (oc_or rfl rfl rfl (by first | exact fun h => h | simp_all)) trivial ?_
        refine ck_nil ?_
        refine aw_cond rfl (fun hb => ?_) (fun hb => ?_)
        · have hbad : boundS t locals (l.getD k dStmt) = false := by
            rw [his]
            revert hb
            cases boundB t locals (l.getD k dStmt).body <;> cases boundB t locals (l.getD k dStmt).els <;> simp
          refine aw_seq ?_
          refine aw_text rfl ?_
          refine ch_v (R := []) rfl rfl (oc_assign (x := .val _) rfl rfl) trivial ?_
          refine ck_nil ?_
          refine aw_ret ?_
          exact ⟨.inl rfl, ResOk.tmp rfl (vb_eq (by unfold boundB; rw [g2, boundAll_drop hlt, hbad]; rfl)), trivial⟩
        · have hok : boundS t locals (l.getD k dStmt) = true := by
            rw [his]
            revert hb
            cases boundB t locals (l.getD k dStmt).body <;> cases boundB t locals (l.getD k dStmt).els <;> simp
          refine aw_skip ?_
          refine aw_text rfl ?_
          refine ch_v (R := []) rfl rfl (oc_binZ rfl rfl rfl (by first | exact binW_add (by omega) (by omega) | rfl)) trivial ?_
          refine ch_v (R := []) rfl rfl (oc_move (x := .val _) rfl rfl) trivial ?_
          refine ck_nil ?_
          exact ⟨k + 1, ⟨by omega, by rw [g2, boundAll_drop hlt, hok, Bool.true_and]⟩, by omega, Le.reset [1, 2] (by simp) ⟨.inr rfl, .inr rfl, .inr rfl, .inr rfl, .inr rfl, .inr (vi_eq (by omega)), trivial⟩ ⟨NoN.of_pure _ (stmts_pure l), by simp [NoN], NoN.of_pure _ (by unfold Pure; exact pure_tab t), NoN.of_pure _ (stmts_pure l), by simp [NoN], by simp [NoN], trivial⟩ ⟨by rw [if_pos (by decide)], by rw [if_pos (by decide)], trivial⟩⟩
  · have hge : k = l.length := by have h0 := of_decide_eq_false hb; omega
    have hfin : boundAll t locals l = true := by rw [g2, hge, List.drop_length]; rfl
    refine aw_exit ?_
    refine aw_seq ?_
    refine aw_text rfl ?_
    refine ch_v (R := []) rfl rfl (oc_move (x := .sl _ _ _) rfl rfl) trivial ?_
    refine ch_v (R := []) rfl rfl (oc_len rfl rfl (by kernel_rfl)) trivial ?_
    refine ch_v (R := []) rfl rfl (oc_binZ rfl rfl rfl rfl) trivial ?_
    refine ch_v (R := []) rfl rfl (oc_assign (x := .val _) rfl rfl) trivial ?_
    refine ck_nil ?_
    refine aw_ret ?_
    exact ⟨.inl rfl, ResOk.tmp rfl (vb_eq (by unfold boundB; rw [hfin]; rfl)), trivial⟩
theorem boundBlock_pc (t : TabP) (hT : TLen t) (locals : Int) (hl : -9223372036854775808 ≤ locals ∧ locals < 9223372036854775808) : ∀ (N : Nat) (l : List StmtP), sizeSs l ≤ N → l.length ≤ 140737488355328 → wfSs l → PC Try.prog 13 [tabAv t, stmtsAv l, vi locals] (vb (boundB t locals l))
  | 0, l, h, hn, hw => boundBlock_step t hT l locals hl hn hw fun x hx => by
    have := sizeSs_mem hx
    have := sizeS_eq x
    omega
  | N + 1, l, h, hn, hw => boundBlock_step t hT l locals hl hn hw fun x hx => by
    have h1 := sizeSs_mem hx
    have h2 := sizeS_eq x
    have h3 := wfS_in (wfSs_mem hx hw)
    exact ⟨boundBlock_pc t hT locals hl N x.body (by omega) h3.1.2.1 h3.2.2.1, boundBlock_pc t hT locals hl N x.els (by omega) h3.1.2.2 h3.2.2.2⟩
set_option maxHeartbeats 800000 in
theorem boundAll_pc (t : TabP) (hT : TLen t) (l : List StmtP) (locals : Int) (hl : -9223372036854775808 ≤ locals ∧ locals < 9223372036854775808) (hn : l.length ≤ 140737488355328) (hw : wfSs l) : PC Try.prog 5 [tabAv t, stmtsAv l, vi locals] (vb (decide (deepB l 65 ≤ 32) && boundB t locals l)) := by
  refine FC.body 2 16 Try.func5 rfl (by kernel_rfl) ?_
  refine aw_seq ?_
  refine aw_text rfl ?_
  refine ch_v (R := []) rfl rfl (oc_box (x := .agg _) rfl rfl) trivial ?_
  refine ch_v (R := []) rfl rfl (oc_assign (x := .val _) rfl rfl) trivial ?_
  refine ck_nil ?_
  refine aw_seq ?_
  refine aw_text rfl ?_
  refine ch_v (R := []) rfl rfl (oc_move (x := .sl _ _ _) rfl rfl) trivial ?_
  refine ch_v (R := []) rfl rfl (oc_call rfl (by kernel_rfl) (depthBlock_pc l hn hw) rfl (by simp only [PureL, Pure, and_self, pure_slI, pure_slS, pure_tab, expr_pure, exprs_pure, stmt_pure, stmts_pure, code_pure, insAv, implies_true]) (by simp only [PureL, Pure, and_self, pure_slI, pure_slS, pure_tab, expr_pure, exprs_pure, stmt_pure, stmts_pure, code_pure, insAv, implies_true])) trivial ?_
  refine ch_v (R := []) rfl rfl (oc_binZ rfl rfl rfl rfl) trivial ?_
  refine ch_v (R := []) rfl rfl (oc_move (x := .val _) rfl rfl) trivial ?_
  refine ch_g (R := []) rfl rfl rfl gate_t (fun hC => oc_load_row rfl rfl (by kernel_rfl) (by kernel_rfl) rfl) (fun hC => ⟨(by first | rfl | exact hC | (simp only [Bool.and_eq_true] at hC; first | exact hC.1 | exact hC.1.1 | exact hC.2) | simp_all), trivial⟩) trivial ?_
  refine ch_g (R := []) rfl rfl rfl gate_t (fun hC => oc_move (x := .sl _ _ _) rfl rfl) (fun hC => ⟨(by first | rfl | exact hC | (simp only [Bool.and_eq_true] at hC; first | exact hC.1 | exact hC.1.1 | exact hC.2) | simp_all), trivial⟩) trivial ?_
  refine ch_g (R := []) rfl rfl rfl gate_t (fun hC => oc_move (x := .val _) rfl rfl) (fun hC => ⟨(by first | rfl | exact hC | (simp only [Bool.and_eq_true] at hC; first | exact hC.1 | exact hC.1.1 | exact hC.2) | simp_all), trivial⟩) trivial ?_
  refine ch_g (R := []) rfl rfl rfl gate_t (fun hC => oc_call rfl (by kernel_rfl) (boundBlock_pc t hT locals hl _ l (Nat.le_refl _) hn hw) rfl (by simp only [PureL, Pure, and_self, pure_slI, pure_slS, pure_tab, expr_pure, exprs_pure, stmt_pure, stmts_pure, code_pure, insAv, implies_true]) (by simp only [PureL, Pure, and_self, pure_slI, pure_slS, pure_tab, expr_pure, exprs_pure, stmt_pure, stmts_pure, code_pure, insAv, implies_true])) (fun hC => ⟨(by first | rfl | exact hC | (simp only [Bool.and_eq_true] at hC; first | exact hC.1 | exact hC.1.1 | exact hC.2) | simp_all), (by first | rfl | exact hC | (simp only [Bool.and_eq_true] at hC; first | exact hC.1 | exact hC.1.1 | exact hC.2) | simp_all), (by first | rfl | exact hC | (simp only [Bool.and_eq_true] at hC; first | exact hC.1 | exact hC.1.1 | exact hC.2) | simp_all), (by first | rfl | exact hC | (simp only [Bool.and_eq_true] at hC; first | exact hC.1 | exact hC.1.1 | exact hC.2) | simp_all), trivial⟩) trivial ?_
  refine ch_v (R := []) rfl rfl (oc_and rfl rfl rfl rfl (by first | exact fun h => h | simp_all)) trivial ?_
  refine ch_v (R := []) rfl rfl (oc_assign (x := .val _) rfl rfl) trivial ?_
  refine ck_nil ?_
  refine aw_ret ?_
  exact ⟨.inl rfl, ResOk.tmp rfl rfl, trivial⟩
end Go.Proofs.Ytfipllnodgbghaa
namespace Go.Proofs.Ytfipllnodgbghaa
open Go.RowKit
set_option linter.unusedVariables false
set_option linter.unusedSimpArgs false
/-- How many places have not been met. -/
def unm (out : List Int) : Nat := out.countP (· == -1)
theorem unm_set : ∀ {out : List Int} {i : Nat} {x : Int}, out.getD i 0 = -1 → x ≠ -1 → unm (out.set i x) + 1 = unm out
  | [], i, x, h, _ => by simp at h
  | y :: l, 0, x, h, hx => by
    simp at h
    subst h
    unfold unm
    simp [hx]
  | y :: l, i + 1, x, h, hx => by
    have := unm_set (out := l) (i := i) (x := x) (by simpa using h) hx
    unfold unm at this ⊢
    rw [List.set_cons_succ, List.countP_cons, List.countP_cons]
    omega
theorem unm_fill (n : Nat) : unm (List.replicate n (-1)) = n := by unfold unm; simp [List.countP_replicate]
def fillL (n k : Nat) : List Int := List.replicate k (-1) ++ List.replicate (n - k) 0
theorem fill_len {n k : Nat} (h : k ≤ n) : (fillL n k).length = n := by unfold fillL; simp; omega
theorem fill_zero (n : Nat) : List.replicate n (vi 0) = (fillL n 0).map vi := by unfold fillL; simp
theorem fill_all (n : Nat) : fillL n n = List.replicate n (-1) := by unfold fillL; simp
theorem fill_set {n k : Nat} (h : k < n) : (fillL n k).set k (-1) = fillL n (k + 1) := by
  refine List.ext_getElem? fun i => ?_
  unfold fillL
  rw [List.getElem?_set]
  simp only [List.length_append, List.length_replicate, List.getElem?_append, List.getElem?_replicate]
  by_cases e : k = i
  · subst e
    simp
    omega
  · rw [if_neg e]
    by_cases h1 : i < k
    · simp [h1, show i < k + 1 by omega]
    · by_cases h2 : i < n
      · simp [h1, show ¬ i < k + 1 by omega, show i - k < n - k by omega, show i - (k + 1) < n - (k + 1) by omega]
      · simp [h1, show ¬ i < k + 1 by omega, show ¬ i - k < n - k by omega, show ¬ i - (k + 1) < n - (k + 1) by omega]
def td2 (l : List (Nat × Int)) : List InsP := l.map fun p => ((p.1 : Int), p.2)
def tdC (l : List (Nat × Int)) : List Av := ins2 (td2 l)
theorem td_len (l : List (Nat × Int)) : (tdC l).length = l.length * 2 := by unfold tdC td2; rw [ins2_len, List.length_map]
theorem td_app (a b : List (Nat × Int)) : tdC (a ++ b) = tdC a ++ tdC b := by unfold tdC td2; rw [List.map_append, ins2_app]
theorem td_last (rest : List (Nat × Int)) (x : Nat × Int) : ((tdC (rest ++ [x])).drop (rest.length * 2)).take 2 = [vi x.1, vi x.2] := by
  rw [td_app, ← td_len, List.drop_left]
  rfl
theorem td_front (rest : List (Nat × Int)) (x : Nat × Int) : ∀ (i : Nat) (y : Av), (tdC rest)[i]? = some y → (tdC (rest ++ [x]))[i]? = some y := fun i y h => by
  rw [td_app, List.getElem?_append_left (List.getElem?_eq_some_iff.1 h).1, h]
theorem non_td {Z : List Nat} (l : List (Nat × Int)) : ∀ z ∈ tdC l, NoN Z z := non_ins2 _
theorem heights_step (t : TabP) (C : List InsP) (f : Nat) (out : List Int) (rest : List (Nat × Int)) (x : Nat × Int) : heightsF t C (f + 1) out (rest ++ [x]) =
    if x.1 ≥ C.length then ([], 2) else if out.getD x.1 0 = x.2 then heightsF t C f out rest else if out.getD x.1 0 ≠ -1 then ([], 17)
    else if (metP t (C.getD x.1 dIns) x.2 (standsP C (C.getD x.1 dIns).2).isSome).2 ≠ 0 then ([], (metP t (C.getD x.1 dIns) x.2 (standsP C (C.getD x.1 dIns).2).isSome).2) else heightsF t C f (out.set x.1 x.2) (pushTo C (C.getD x.1 dIns) x.1 (metP t (C.getD x.1 dIns) x.2 (standsP C (C.getD x.1 dIns).2).isSome).1 rest) := by
  conv => lhs; unfold heightsF
  rw [if_neg (show ¬ rest ++ [x] = [] by simp)]
  simp only [List.getLastD_concat, List.dropLast_concat]
theorem heights_nil (t : TabP) (C : List InsP) (f : Nat) (out : List Int) : heightsF t C f out [] = (out, 0) := by
  cases f with
  | zero => rfl
  | succ f => unfold heightsF; rw [if_pos rfl]
theorem met_bd {t : TabP} {x : InsP} {h : Int} {is_ : Bool} (h0 : 0 ≤ h ∧ h ≤ 256) (he : (metP t x h is_).2 = 0) : 0 ≤ (metP t x h is_).1 ∧ (metP t x h is_).1 ≤ 256 := by
  unfold metP at he ⊢
  by_cases h1 : x.1 = 38
  · rw [if_pos h1]; exact h0
  · rw [if_neg h1] at he ⊢
    by_cases h2 : rightI t x = false ∨ (x.1 = 24 ∨ x.1 = 25) ∧ is_ = false
    · rw [if_pos h2] at he; cases he
    · rw [if_neg h2] at he ⊢
      by_cases h3 : h < popsI t x ∨ x.1 = 27 ∧ h ≠ 1 ∨ popsI t x < h + pushesI x - 256
      · rw [if_pos h3] at he; cases he
      · rw [if_neg h3]
        have := pushes_bd x
        show 0 ≤ h - popsI t x + pushesI x ∧ h - popsI t x + pushesI x ≤ 256
        omega
theorem pairL {p q : List Int × Int} (h : p = q) : Av.tup [slI p.1, vi p.2] = .tup [slI q.1, vi q.2] := by rw [h]
theorem inNL_td {Z : Nat → Prop} (l : List (Nat × Int)) : InNL Z (tdC l) := inNL_ins2 _
end Go.Proofs.Ytfipllnodgbghaa
namespace Go.Proofs.Ytfipllnodgbghaa
open Go.RowKit
set_option maxRecDepth 100000
set_option linter.unusedVariables false
set_option linter.unusedSimpArgs false
set_option maxHeartbeats 800000 in
theorem next_nil  : FC Try.prog 23 [.own 2 0] ([(2, .live 61 [.osl 2 1 (([] : List (Nat × Int))).length]), (1, .live 60 (tdC (([] : List (Nat × Int)))))]) (.tup [.agg [vi 0, vi 0], vb false]) ([(2, .live 61 [.osl 2 1 (([] : List (Nat × Int))).length]), (1, .live 60 (tdC (([] : List (Nat × Int)))))]) := by
  refine FC.body 5 20 Try.func23 rfl (by kernel_rfl) ?_
  refine aw_seq ?_
  refine aw_text rfl ?_
  refine ch_u rfl rfl (oc_alloc (zs := [.int .i64 0, .int .i64 0]) (cs := [.val _, .val _]) 0 rfl (by kernel_rfl) rfl rfl) ⟨rfl, trivial⟩ ?_
  refine ch_v (R := []) rfl rfl (oc_assign (x := .val _) rfl rfl) trivial ?_
  refine ck_nil ?_
  refine aw_seq ?_
  refine aw_seq ?_
  refine aw_text rfl ?_
  refine ch_v (R := [(_, .live _ _)]) rfl rfl (oc_load_own rfl rfl (by kernel_rfl) rfl) ⟨rfl, trivial⟩ ?_
  refine ch_v (R := [(_, .live _ _)]) rfl rfl (oc_len_own rfl rfl (by kernel_rfl)) ⟨rfl, trivial⟩ ?_
  refine ch_v (R := []) rfl rfl (oc_binZ rfl rfl rfl rfl) trivial ?_
  refine ck_nil ?_
  refine aw_cond rfl (fun hb => ?_) (fun hb => ?_)
  · refine aw_seq ?_
    refine aw_text rfl ?_
    refine ch_v (R := []) rfl rfl (oc_build (pl := [(0, 1), (1, 1)]) (zs := [.int .i64 0, .int .i64 0]) (ds := [.val _, .val _]) rfl (by kernel_rfl) rfl (by kernel_rfl) (by first | rfl | decide) rfl) trivial ?_
    refine ch_n rfl rfl (oc_store_row (x := .agg _) (cs' := [_, _]) rfl rfl rfl rfl (by kernel_rfl) (by first | decide | exact Nat.le_of_ble_eq_true rfl | simp) (by first | decide | exact Nat.le_of_ble_eq_true rfl | simp) rfl) ⟨rfl, trivial⟩ ?_
    refine ch_v (R := []) rfl rfl (oc_assign (x := .val _) rfl rfl) trivial ?_
    refine ck_nil ?_
    refine aw_ret ?_
    exact ⟨.inl rfl, ResOk.two rfl (ResC.row rfl rfl (by kernel_rfl) (by kernel_rfl) (by simp)) (ResC.tmp rfl), ⟨rfl, rfl, trivial⟩⟩
  · exact absurd hb (by cases hb)
set_option maxHeartbeats 800000 in
theorem next_cons (rest : List (Nat × Int)) (x : Nat × Int) (hl : rest.length ≤ 1000000000000) : FC Try.prog 23 [.own 2 0] ([(2, .live 61 [.osl 2 1 (rest ++ [x]).length]), (1, .live 60 (tdC (rest ++ [x])))]) (.tup [.agg [vi x.1, vi x.2], vb true]) ([(2, .live 61 [.osl 2 1 (rest).length]), (1, .live 60 (tdC (rest)))]) := by
  have hlen : (rest ++ [x]).length = rest.length + 1 := by simp
  refine FC.body 5 20 Try.func23 rfl (by kernel_rfl) ?_
  refine aw_seq ?_
  refine aw_text rfl ?_
  refine ch_u rfl rfl (oc_alloc (zs := [.int .i64 0, .int .i64 0]) (cs := [.val _, .val _]) 0 rfl (by kernel_rfl) rfl rfl) ⟨rfl, trivial⟩ ?_
  refine ch_v (R := []) rfl rfl (oc_assign (x := .val _) rfl rfl) trivial ?_
  refine ck_nil ?_
  refine aw_seq ?_
  refine aw_seq ?_
  refine aw_text rfl ?_
  refine ch_v (R := [(_, .live _ _)]) rfl rfl (oc_load_own rfl rfl (by kernel_rfl) rfl) ⟨rfl, trivial⟩ ?_
  refine ch_v (R := [(_, .live _ _)]) rfl rfl (oc_len_own rfl rfl (by kernel_rfl)) ⟨rfl, trivial⟩ ?_
  refine ch_v (R := []) rfl rfl (oc_binZ rfl rfl rfl rfl) trivial ?_
  refine ck_nil ?_
  refine aw_cond rfl (fun hb => ?_) (fun hb => ?_)
  · exact absurd hb (by 
        rw [show ((((rest ++ [x]).length : Nat) : Int) == 0) = false by rw [List.length_append, List.length_singleton, beq_eq_false_iff_ne]; omega] at hb
        cases hb)
  · refine aw_skip ?_
    refine aw_seq ?_
    refine aw_text rfl ?_
    refine ch_v (R := [(_, .live _ _)]) rfl rfl (oc_load_own rfl rfl (by kernel_rfl) rfl) ⟨rfl, trivial⟩ ?_
    refine ch_v (R := [(_, .live _ _)]) rfl rfl (oc_load_own rfl rfl (by kernel_rfl) rfl) ⟨rfl, trivial⟩ ?_
    refine ch_v (R := [(_, .live _ _)]) rfl rfl (oc_len_own rfl rfl (by kernel_rfl)) ⟨rfl, trivial⟩ ?_
    refine ch_v (R := []) rfl rfl (oc_binZ rfl rfl rfl (by first | exact binW_sub (by omega) (by omega) | rfl)) trivial ?_
    refine ch_v (R := [(_, .live _ _)]) rfl rfl (oc_index_own (j := rest.length * 2) rfl rfl rfl (by kernel_rfl) (by omega) (by omega) (by omega)) ⟨rfl, trivial⟩ ?_
    refine ch_v (R := [(_, .live _ _)]) rfl rfl (oc_load_own_row (k := 2) (ds := [vi x.1, vi x.2]) rfl rfl (by kernel_rfl) (by kernel_rfl) (td_last rest x) rfl (by decide)) ⟨rfl, trivial⟩ ?_
    refine ch_u rfl rfl (oc_alloc (zs := [.int .i64 0, .int .i64 0]) (cs := [.val _, .val _]) 3 rfl (by kernel_rfl) rfl rfl) ⟨rfl, trivial⟩ ?_
    refine ch_n rfl rfl (oc_store_row (x := .agg _) (cs' := [_, _]) rfl rfl rfl rfl (by kernel_rfl) (by first | decide | exact Nat.le_of_ble_eq_true rfl | simp) (by first | decide | exact Nat.le_of_ble_eq_true rfl | simp) rfl) ⟨rfl, trivial⟩ ?_
    refine ck_nil ?_
    refine aw_seq ?_
    refine aw_text rfl ?_
    refine ch_v (R := [(_, .live _ _)]) rfl rfl (oc_load_own rfl rfl (by kernel_rfl) rfl) ⟨rfl, trivial⟩ ?_
    refine ch_v (R := [(_, .live _ _)]) rfl rfl (oc_load_own rfl rfl (by kernel_rfl) rfl) ⟨rfl, trivial⟩ ?_
    refine ch_v (R := [(_, .live _ _)]) rfl rfl (oc_len_own rfl rfl (by kernel_rfl)) ⟨rfl, trivial⟩ ?_
    refine ch_v (R := []) rfl rfl (oc_binZ rfl rfl rfl (by first | exact binW_sub (by omega) (by omega) | rfl)) trivial ?_
    refine ch_v (R := [(_, .live _ _)]) rfl rfl (oc_slice_ownH (e := 60) (by_ := 16) (zs := [.int .i64 0, .int .i64 0]) rest.length rfl rfl (by show Av.val _ = Av.val _; rw [hlen, show ((rest.length + 1 : Nat) : Int) - 1 = (rest.length : Int) by omega]) (by kernel_rfl) (by kernel_rfl) (by omega)) ⟨rfl, trivial⟩ ?_
    refine ch_n rfl rfl (oc_store (y := .osl _ _ _) rfl rfl rfl (by kernel_rfl) (by kernel_rfl) cells_osl (by first | decide | (simp; done) | (simp; omega)) rfl) ⟨rfl, trivial⟩ ?_
    refine ck_nil ?_
    refine aw_seq ?_
    refine aw_le (Le.cut 1 (tdC rest) rfl (td_front rest x)) ?_
    refine aw_text rfl ?_
    refine ch_v (R := [(_, .live _ _)]) rfl rfl (oc_load_own_row (k := 2) (ds := [_, _]) rfl rfl (by kernel_rfl) (by kernel_rfl) rfl rfl (by decide)) ⟨rfl, trivial⟩ ?_
    refine ch_n rfl rfl (oc_store_row (x := .agg _) (cs' := [_, _]) rfl rfl rfl rfl (by kernel_rfl) (by first | decide | exact Nat.le_of_ble_eq_true rfl | simp) (by first | decide | exact Nat.le_of_ble_eq_true rfl | simp) rfl) ⟨rfl, trivial⟩ ?_
    refine ch_v (R := []) rfl rfl (oc_assign (x := .val _) rfl rfl) trivial ?_
    refine ck_nil ?_
    refine aw_ret ?_
    exact ⟨.inl rfl, ResOk.two rfl (ResC.row rfl rfl (by kernel_rfl) (by kernel_rfl) (by simp)) (ResC.tmp rfl), ⟨rfl, rfl, trivial⟩⟩
end Go.Proofs.Ytfipllnodgbghaa
