/- An append behind a guard. No program stands in this text. -/
import Derived.Test.YtianabgdggheiaaMore
import Derived.BigFrame
namespace Go.Proofs.Ytianabgdggheiaa
open Go.RowKit Go.BigFrame
section
variable {P : Program} {w : World} {ops : Array Oper} {rest : List Oper} {o : Oper} {a : Act} {Q : Exit → Act → World → Prop}
/-- 'append' behind a guard that lets it run. -/
theorem wp_app_w {t e : TypeId} {z : Value} {bytes : Nat} (E : Elem P t e z bytes) (hgd : Region.wanted o (yielded ops a.tmps) = true) (s x : Operand)
    (ho : o.op = .call { callee := .builtin .append, args := #[s, x], argTypes := #[t, t] }) {base : Nat} {v : Value} {xs : List Value} (hs : a.eval s = v) (hown : Own w base e v xs) {B : Nat} {A : Option Addr} {m c : Nat} {news : List Value}
    (hx : a.eval x = .slice A m c) (hr : Rd w B A news) (hm : m = news.length) (h1 : ∀ u ∈ news, u.oneCell' = true) (hb : (xs.length + news.length) * bytes ≤ 140737488355328) (h63 : xs.length + news.length ≤ 9223372036854775807) (hbase : base ≤ w.heap.size)
    (h : ∀ A' n' c' w', Own w' base e (.slice A' n' c') (xs ++ news) → w.grownBy w' v.ownBlock → wpList P ops Q rest (a.put o.dst (.slice A' n' c')) w') : wpList P ops Q (o :: rest) a w := by
  obtain ⟨v', w', hrun, h2, h3, _⟩ := run_app (ty := o.type) E hown (c := c) hr hm h1 hb h63 hbase
  refine wpList_want hgd fun K hK => ?_
  unfold Oper.wp execOp
  simp only [ho, resolve, invoke, builtin, Sem.run_bind, Sem.run_pure, Result.andThen_ok, List.map_toArray, List.map_cons, List.map_nil, hs, hx, hrun]
  obtain ⟨A', c', rfl, _⟩ := h2.form
  exact hK _ _ (h A' _ c' w' h2 h3)
/-- 'append' in a region that draws its order: for 'go_region_law'. -/
theorem step_app {t e : TypeId} {z : Value} {bytes : Nat} (E : Elem P t e z bytes) {K : Act → World → Prop} {X : Prop} (hgd : Region.wanted o (yielded ops a.tmps) = true) (s x : Operand)
    (ho : o.op = .call { callee := .builtin .append, args := #[s, x], argTypes := #[t, t] }) {base : Nat} {v : Value} {xs : List Value} (hs : a.eval s = v) (hown : Own w base e v xs) {B : Nat} {A : Option Addr} {m c : Nat} {news : List Value}
    (hx : a.eval x = .slice A m c) (hr : Rd w B A news) (hm : m = news.length) (h1 : ∀ u ∈ news, u.oneCell' = true) (hb : (xs.length + news.length) * bytes ≤ 140737488355328) (h63 : xs.length + news.length ≤ 9223372036854775807) (hbase : base ≤ w.heap.size)
    (h : ∀ A' n' c' w', Own w' base e (.slice A' n' c') (xs ++ news) → w.grownBy w' v.ownBlock → ((Value.slice A' n' c').ownBlock = v.ownBlock ∨ (Value.slice A' n' c').ownBlock = some w.heap.size) → K (a.put o.dst (.slice A' n' c')) w') :
    if Region.wanted o (yielded ops a.tmps) = true then Oper.wp P o a w K Q else X := by
  obtain ⟨v', w', hrun, h2, h3, h4⟩ := run_app (ty := o.type) E hown (c := c) hr hm h1 hb h63 hbase
  rw [if_pos hgd]
  unfold Oper.wp execOp
  simp only [ho, resolve, invoke, builtin, Sem.run_bind, Sem.run_pure, Result.andThen_ok, List.map_toArray, List.map_cons, List.map_nil, hs, hx, hrun]
  obtain ⟨A', c', rfl, _⟩ := h2.form
  exact h A' _ c' w' h2 h3 h4
end
end Go.Proofs.Ytianabgdggheiaa
