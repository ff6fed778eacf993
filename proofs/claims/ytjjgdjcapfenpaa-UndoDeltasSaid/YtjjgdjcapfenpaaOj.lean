/- A row against nil. No program stands in this text. -/
import Derived.Test.YtjjgdjcapfenpaaOi
namespace Go.Proofs.Ytjjgdjcapfenpaa
open Go.RowKit
set_option linter.unusedVariables false
section
variable {P : Program} {o : Oper} {ρ : Operand → Av} {p q : Operand} {T : TypeId}
theorem oc_nil_eq {T' e : TypeId} {a b : Nat} (ho : o.op = .binOp .eql T p q T') (hp : ρ p = .val (.slice none 0 a)) (hq : ρ q = .val (.slice none 0 b)) (hT : eB P T = some e) : OC P o ρ [] (.val (.bool true)) [] := oc_read fun E c hG hr _ => by
  have h1 := hr p (by simp [ho, Op.operands])
  have h2 := hr q (by simp [ho, Op.operands])
  rw [hp] at h1
  rw [hq] at h2
  unfold Rep at h1 h2
  have he : ∀ d, (Op.equalIn (d + 1) T (.slice none 0 a) (.slice none 0 b)).run P E.w = .ok true E.w := fun d => by
    unfold Op.equalIn
    rw [Sem.run_bind, run_underlying (eB_some hT) E.w]
    rfl
  refine ⟨.bool true, ?_, by unfold Rep; rfl⟩
  simp only [execOp, ho, h1, h2, eqGuard, binOp, Op.equal, Sem.run_bind]
  have := he 9999
  simp [Op.maxDepth, this]
theorem oc_nz_eq {T' e : TypeId} {k n b : Nat} {row : Nat → Av} (ho : o.op = .binOp .eql T p q T') (hp : ρ p = .nz (.sl k n row)) (hq : ρ q = .val (.slice none 0 b)) (hT : eB P T = some e) : OC P o ρ [] (.val (.bool false)) [] := oc_read fun E c hG hr _ => by
  have h1 := hr p (by simp [ho, Op.operands])
  have h2 := hr q (by simp [ho, Op.operands])
  rw [hp] at h1
  rw [hq] at h2
  unfold Rep at h1 h2
  obtain ⟨h3, h4⟩ := h1
  unfold Rep at h3
  obtain ⟨A, cc, h5, _⟩ := h3
  cases A with
  | none => exact absurd h5 (h4 _ _)
  | some A =>
  have he : ∀ d, (Op.equalIn (d + 1) T (.slice (some A) n cc) (.slice none 0 b)).run P E.w = .ok false E.w := fun d => by
    unfold Op.equalIn
    rw [Sem.run_bind, run_underlying (eB_some hT) E.w]
    rfl
  refine ⟨.bool false, ?_, by unfold Rep; rfl⟩
  simp only [execOp, ho, h5, h2, eqGuard, binOp, Op.equal, Sem.run_bind]
  have := he 9999
  simp [Op.maxDepth, this]
end
/-! ### What is left of the blocks -/
section
variable {η : List (Nat × Hs)} {Z : List Nat} {τ : List (Nat × Hs)} {n : Nat} {t : TypeId} {cs : List Av} {π : Nat → Nat}
theorem noH_nil : noH η Z [] := trivial
theorem noH_live (hn : n ∉ Z) (h1 : lkH η n = some (.live t cs)) (h2 : ∀ z ∈ cs, NoN Z z) (h3 : noH η Z τ) : noH η Z ((n, .live t cs) :: τ) := by
  unfold noH
  rw [if_neg hn]
  exact ⟨⟨h1, h2⟩, h3⟩
theorem noH_unb (hn : n ∈ Z) (h3 : noH η Z τ) : noH η Z ((n, .unborn) :: τ) := by
  unfold noH
  rw [if_pos hn]
  exact ⟨rfl, h3⟩
theorem non_vi (l : List Int) : ∀ z ∈ l.map vi, NoN Z z := fun z hz => by
  obtain ⟨x, _, rfl⟩ := List.mem_map.1 hz
  exact NoN.of_pure _ (by simp [Pure])
theorem ren_vi (l : List Int) : (Hs.live t (l.map vi)).ren π = .live t (l.map vi) := by
  show Hs.live t ((l.map vi).map (Av.ren π)) = _
  rw [List.map_map]
  congr 1
theorem renH_cons {y : Hs} (h1 : lkH η (π n) = some (y.ren π)) (h2 : renH π η τ) : renH π η ((n, y) :: τ) := ⟨h1, h2⟩
end
/-- The result told otherwise. -/
theorem ResOk.to {P : Program} {fn : Func} {Γ : Ctx} {x y : Av} (h : ResOk P fn Γ x) (hxy : ∀ E v, Rep E x v → Rep E y v) : ResOk P fn Γ y := fun E a hG hH => by
  obtain ⟨v, h1, h2⟩ := h E a hG hH
  exact ⟨v, h1, hxy E v h2⟩
theorem rep_nil {k c : Nat} {row : Nat → Av} (hc : c ≤ maxLen) (E : Env) (v : Value) (h : Rep E (.val (.slice none 0 c)) v) : Rep E (.sl k 0 row) v := by
  unfold Rep at h ⊢
  exact ⟨none, c, h, Nat.zero_le _, hc, fun h => absurd h (by omega)⟩
end Go.Proofs.Ytjjgdjcapfenpaa
