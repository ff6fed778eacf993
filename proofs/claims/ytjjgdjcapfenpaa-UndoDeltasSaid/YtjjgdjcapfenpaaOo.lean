/- Several results, in slots and in memory; joins. No program stands in this text. -/
import Derived.Test.YtjjgdjcapfenpaaOn
namespace Go.Proofs.Ytjjgdjcapfenpaa
open Go.RowKit
set_option linter.unusedVariables false
set_option linter.unusedSimpArgs false
def readR (rv : ResultVar) (tm : Array Value) : Sem Value := match rv with | .tmp t => pure (tm.getD t undef) | .cell a t => do loadVar t (← asAddr (tm.getD a undef))
/-- One of a function's results. -/
def ResC (P : Program) (Γ : Ctx) (rv : ResultVar) (x : Av) : Prop := ∀ (E : Env) (a : Act), Good E → Holds E a.tmps Γ → ∃ v, (readR rv a.tmps).run P E.w = .ok v E.w ∧ Rep E x v
section
variable {P : Program} {fn : Func} {Γ : Ctx} {x y z : Av} {r1 r2 r3 : ResultVar}
theorem ResC.tmp {t : Nat} (hx : lkS Γ.s t = x) : ResC P Γ (.tmp t) x := fun E a hG hH => by
  subst hx
  exact ⟨_, by simp [readR], hH.1 t⟩
theorem ResC.to (h : ResC P Γ r1 x) (hxy : ∀ E v, Rep E x v → Rep E y v) : ResC P Γ r1 y := fun E a hG hH => by
  obtain ⟨v, h1, h2⟩ := h E a hG hH
  exact ⟨v, h1, hxy E v h2⟩
/-- A struct in a named block. -/
theorem ResC.row {t n : Nat} {T ty : TypeId} {cs : List Av} (hs : lkS Γ.s t = .own n 0) (hn : lkH Γ.h n = some (.live ty cs)) (hT : rowB P T = some true) (hz : sizeB P T = some cs.length) (h0 : 0 < cs.length) : ResC P Γ (.cell t T) (.agg cs) := fun E a hG hH => by
  have hv := hH.1 t
  rw [hs] at hv
  obtain ⟨b, cur, h1, h2, h3, h4⟩ := own_at hv (hH.2 n _ hn) h0
  obtain ⟨vs, h5, h6, h7⟩ := cells_list (E := E) (cur := cur) cs 0 fun i y hy => by simpa using h4 i y hy
  refine ⟨.agg vs.toArray, ?_, by unfold Rep; exact ⟨vs, rfl, h5, h6⟩⟩
  obtain ⟨d, hd1, hd2⟩ := rowB_some hT
  have hl := run_loadVar_mid (P := P) E.w b 0 T vs d (fun j u hu => by rw [cell_cur h3]; exact h7 j u hu) hd1 hd2 (by rw [h5.length]; exact hz)
  simp [readR, asAddr, Sem.run_bind, hl, h1]
/-- A scalar in a named block. -/
theorem ResC.one {t n : Nat} {T ty : TypeId} {cs : List Av} (hs : lkS Γ.s t = .own n 0) (hn : lkH Γ.h n = some (.live ty (x :: cs))) (hT : rowB P T = some false) : ResC P Γ (.cell t T) x := fun E a hG hH => by
  have hv := hH.1 t
  rw [hs] at hv
  obtain ⟨b, cur, h1, h2, h3, h4⟩ := own_at hv (hH.2 n _ hn) (by simp)
  obtain ⟨u, h5, h6, h7⟩ := h4 0 x rfl
  refine ⟨u, ?_, h7⟩
  have hc : E.w.cell? ⟨b, 0, none⟩ = some u := by rw [cell_cur h3, h5]
  simp [readR, asAddr, Sem.run_bind, h1, loadVar, isAgg_run hT, hc]
theorem getD_eta (tm : Array Value) (t : Nat) : tm[t]?.getD undef = tm.getD t undef := by rw [Array.getD_eq_getD_getElem?]
theorem readR_run (rv : ResultVar) (tm : Array Value) (w : World) : (match rv with | .tmp t => (pure (tm.getD t undef) : Sem Value) | .cell a t => do loadVar t (← asAddr (tm.getD a undef))).run P w = (readR rv tm).run P w := rfl
theorem ResOk.two (h : fn.results = #[r1, r2]) (h1 : ResC P Γ r1 x) (h2 : ResC P Γ r2 y) : ResOk P fn Γ (.tup [x, y]) := fun E a hG hH => by
  obtain ⟨v1, k1, l1⟩ := h1 E a hG hH
  obtain ⟨v2, k2, l2⟩ := h2 E a hG hH
  refine ⟨.tuple #[v1, v2], ?_, by unfold Rep; refine ⟨[v1, v2], rfl, ?_⟩; unfold RepL RepL RepL; exact ⟨_, _, rfl, l1, _, _, rfl, l2, rfl⟩⟩
  have e : fn.results.mapM (fun rv => readR rv a.tmps) = (do let x ← readR r1 a.tmps; let y ← readR r2 a.tmps; pure #[x, y]) := by rw [h]; simp
  unfold results
  show (do let vs ← fn.results.mapM (fun rv => readR rv a.tmps); pure (if h : vs.size = 1 then vs[0] else .tuple vs) : Sem Value).run P E.w = _
  rw [e]
  simp [Sem.run_bind, k1, k2]
theorem ResOk.three (h : fn.results = #[r1, r2, r3]) (h1 : ResC P Γ r1 x) (h2 : ResC P Γ r2 y) (h3 : ResC P Γ r3 z) : ResOk P fn Γ (.tup [x, y, z]) := fun E a hG hH => by
  obtain ⟨v1, k1, l1⟩ := h1 E a hG hH
  obtain ⟨v2, k2, l2⟩ := h2 E a hG hH
  obtain ⟨v3, k3, l3⟩ := h3 E a hG hH
  refine ⟨.tuple #[v1, v2, v3], ?_, by unfold Rep; refine ⟨[v1, v2, v3], rfl, ?_⟩; unfold RepL RepL RepL RepL; exact ⟨_, _, rfl, l1, _, _, rfl, l2, _, _, rfl, l3, rfl⟩⟩
  have e : fn.results.mapM (fun rv => readR rv a.tmps) = (do let x ← readR r1 a.tmps; let y ← readR r2 a.tmps; let z ← readR r3 a.tmps; pure #[x, y, z]) := by rw [h]; simp
  unfold results
  show (do let vs ← fn.results.mapM (fun rv => readR rv a.tmps); pure (if h : vs.size = 1 then vs[0] else .tuple vs) : Sem Value).run P E.w = _
  rw [e]
  simp [Sem.run_bind, k1, k2, k3]
end
section
variable {ro : Option Nat} {P : Program} {N : Nat} {D : List Nat} {c x y : Code} {Q R : Exit → Ctx → Prop} {Γ τ : Ctx}
theorem aw_mono (h : AWo ro P N D c Q Γ) (hm : ∀ e Γ, Q e Γ → R e Γ) : AWo ro P N D c R Γ := fun E a hF => wpIn_mono (h E a hF) fun e a' w' ⟨E', Γ', h1, h2, h3, h5, h4⟩ => ⟨E', Γ', h1, h2, h3, h5, hm _ _ h4⟩
theorem aw_joinQ (h1 : AWo ro P N D x (thenA (fun Γ' => Le N D Γ' τ) Q) Γ) (h2 : AWo ro P N D y Q τ) : AWo ro P N D x (thenA (AWo ro P N D y Q) Q) Γ := aw_mono h1 fun e Γ' h => by
  cases e
  case normal => exact aw_le h h2
  all_goals exact h
end
theorem PC.to {P : Program} {f : Nat} {xs : List Av} {y z : Av} (h : PC P f xs y) (hyz : ∀ E v, Rep E y v → Rep E z v) : PC P f xs z := fun E vs hG hA hR hB hU => (h E vs hG hA hR hB hU).mono fun e w' ⟨E', v, h1, h2, h3, h4, h5, h6⟩ => ⟨E', v, h1, h2, h3, h4, hyz E' v h5, h6⟩
theorem rep_aggTo {E : Env} : ∀ {xs ys : List Av} {vs : List Value}, (∀ (i : Nat) (x y : Av), xs[i]? = some x → ys[i]? = some y → ∀ v, Rep E x v → Rep E y v) → xs.length = ys.length → RepL E xs vs → RepL E ys vs
  | [], [], vs, _, _, h => by unfold RepL at h ⊢; exact h
  | [], _ :: _, _, _, hl, _ => by simp at hl
  | _ :: _, [], _, _, hl, _ => by simp at hl
  | x :: xs, y :: ys, vs, hp, hl, h => by
    unfold RepL at h ⊢
    obtain ⟨v, us, h1, h2, h3⟩ := h
    exact ⟨v, us, h1, hp 0 x y rfl rfl v h2, rep_aggTo (fun i a b ha hb => hp (i + 1) a b (by simpa using ha) (by simpa using hb)) (by simpa using hl) h3⟩
theorem rep_agg {xs ys : List Av} {E : Env} {v : Value} (h : Rep E (.agg xs) v) (hl : xs.length = ys.length) (hp : ∀ (E : Env) (i : Nat) (x y : Av), xs[i]? = some x → ys[i]? = some y → ∀ v, Rep E x v → Rep E y v) : Rep E (.agg ys) v := by
  unfold Rep at h ⊢
  obtain ⟨vs, h1, h2, h3⟩ := h
  exact ⟨vs, h1, rep_aggTo (hp E) hl h2, h3⟩
theorem rep_rows {k n : Nat} {r r' : Nat → Av} (hp : ∀ E j, j < n → ∀ v, Rep E (r j) v → Rep E (r' j) v) (E : Env) (v : Value) (h : Rep E (.sl k n r) v) : Rep E (.sl k n r') v := by
  unfold Rep at h ⊢
  obtain ⟨A, c, h1, h2, h3, h4⟩ := h
  refine ⟨A, c, h1, h2, h3, fun h0 => ?_⟩
  obtain ⟨b, o, h5, h6, h7⟩ := h4 h0
  refine ⟨b, o, h5, h6, fun j hj => ?_⟩
  obtain ⟨u, h8, h9⟩ := h7 j hj
  exact ⟨u, hp E j hj u h8, h9⟩
theorem rep_nil0 {k : Nat} {row : Nat → Av} (E : Env) (v : Value) (h : Rep E (.val (.slice none 0 0)) v) : Rep E (.sl k 0 row) v := rep_nil (by decide) E v h
theorem vi_at {l : List Int} {i : Nat} (h : i < l.length) : (l.map vi)[i]? = some (vi (l.getD i 0)) := by simp [h]
theorem vi_put (l : List Int) (i : Nat) (x : Int) : (l.map vi).set i (vi x) = (l.set i x).map vi := by rw [List.map_set]
theorem row_vi (l : List Int) : ∀ j, j < l.length → (l.map vi)[j]? = some ((fun j => vi (l.getD j 0)) j) ∧ oneA ((fun j => vi (l.getD j 0)) j) = true := fun j hj => ⟨vi_at hj, rfl⟩
theorem app_vi (l : List Int) : ∀ j, j < l.length → szB ((fun j => vi (l.getD j 0)) j) 1 = true ∧ ∀ i y, i < 1 → (l.map vi)[j * 1 + i]? = some y → (flatA ((fun j => vi (l.getD j 0)) j))[i]? = some y := row_one (fun j y hy => by
  rw [List.getElem?_map] at hy
  cases h : l[j]? with
  | none => rw [h] at hy; cases hy
  | some z => rw [h] at hy; simp at hy; subst hy; simp [List.getD, h]) (fun j hj => ⟨rfl, rfl⟩)
theorem PC.arg {P : Program} {f : Nat} {x y z : Av} (h : PC P f [x] z) (hxy : ∀ E v, Rep E y v → Rep E x v) : PC P f [y] z := fun E vs hG hA hR hB hU => h E vs hG (by
  unfold RepL at hA ⊢
  obtain ⟨v, us, h1, h2, h3⟩ := hA
  exact ⟨v, us, h1, hxy E v h2, h3⟩) hR hB hU
theorem take_vi {l : List Int} {k : Nat} {x : Int} (h : k < l.length) (hx : l.getD k 0 = x) : (l.take (k + 1)).length = (l.take k).length + 1 ∧ (l.take (k + 1)).map vi = (l.take k).map vi ++ [vi x] := by
  have e : l.take (k + 1) = l.take k ++ [x] := by rw [List.take_add_one, ← hx]; simp [h]
  rw [e]
  simp
theorem vb_at {l : List Bool} {i : Nat} (h : i < l.length) : (l.map vb)[i]? = some (vb (l.getD i false)) := by simp [h]
theorem vb_put (l : List Bool) (i : Nat) (x : Bool) : (l.map vb).set i (vb x) = (l.set i x).map vb := by rw [List.map_set]
/-- A struct's fields told otherwise. -/
theorem rep_agg2 {E : Env} : ∀ {xs ys : List Av} {v : Value}, (∀ vs, RepL E xs vs → RepL E ys vs) → Rep E (.agg xs) v → Rep E (.agg ys) v := fun h hr => by
  unfold Rep at hr ⊢
  obtain ⟨vs, h1, h2, h3⟩ := hr
  exact ⟨vs, h1, h vs h2, h3⟩
end Go.Proofs.Ytjjgdjcapfenpaa
