/- Two pieces compared. -/
import Derived.Test.YtfbpbpapfkimfaaDoorBq
import Derived.Laws.StructEq
import Derived.KernelRfl
namespace Go.Proofs.YtfbpbpapfkimfaaDoor
open Go.RowKit
set_option linter.unusedVariables false
set_option linter.unusedSimpArgs false
theorem piece_eql (a c : ByteArray) (b d : Int) (w : World) : (binOp .eql 39 (.agg #[.string a, .int .i64 b]) (.agg #[.string c, .int .i64 d])).run Tryd.prog w = .ok (.bool (a.toList == c.toList && b == d)) w := by
  have hu : Tryd.prog.underlying 39 = some (.struct (Tryd.prog.fieldsOf 39)) := by kernel_rfl
  have hf : (Tryd.prog.fieldsOf 39).toList.map (fun f => (f.name, f.type, f.offset)) = [("Text", 9, 0), ("Abbr", 3, 1)] := by kernel_rfl
  have hp : Tryd.prog.stoodInHeld 39 = false := by kernel_rfl
  have ha : (isAgg 3).run Tryd.prog w = .ok false w := by kernel_rfl
  have hs : (isAgg 9).run Tryd.prog w = .ok false w := by kernel_rfl
  rw [run_eql_struct, run_equalIn_struct w 9999 _ _ _ hu hp]
  generalize (Tryd.prog.fieldsOf 39).toList = fs at *
  have hl : fs.length = 2 := by simpa using congrArg List.length hf
  obtain ⟨f, g, rfl⟩ : ∃ f g, fs = [f, g] := by
    rcases fs with _ | ⟨f, _ | ⟨g, _ | ⟨h, r⟩⟩⟩
    · simp at hl
    · simp at hl
    · exact ⟨f, g, rfl⟩
    · simp at hl
  simp at hf
  obtain ⟨⟨h1, h2, h3⟩, h4, h5, h6⟩ := hf
  simp only [Op.eqFields, h1, h2, h3, h4, h5, h6]
  simp [part, ha, hs, Sem.run_bind, run_equalIn_int w _ _ _ .i64 _ _ Tryd.underlying3, run_equalIn_string w _ _ _ _ Tryd.underlying9]
  by_cases e1 : a.toList = c.toList <;> by_cases e2 : b = d <;> simp [e1, e2]
theorem piece_neq (a c : ByteArray) (b d : Int) (w : World) : (binOp .neq 39 (.agg #[.string a, .int .i64 b]) (.agg #[.string c, .int .i64 d])).run Tryd.prog w = .ok (.bool (!(a.toList == c.toList && b == d))) w := by
  have h := piece_eql a c b d w
  rw [run_eql_struct] at h
  rw [run_neq_struct]
  generalize (Op.equalIn 10000 39 (.agg #[.string a, .int .i64 b]) (.agg #[.string c, .int .i64 d])).run Tryd.prog w = r at *
  cases r with
  | ok x w' =>
    simp only [Result.andThen, Result.ok.injEq, Value.bool.injEq] at h ⊢
    obtain ⟨rfl, rfl⟩ := h
    exact ⟨rfl, rfl⟩
  | halt x w' => simp [Result.andThen] at h
theorem rep_piece {E : Env} {a : PieceP} {v : Value} (h : Rep E (pieceAv a) v) : v = .agg #[.string a.1, .int .i64 a.2] := by
  unfold pieceAv Rep at h
  obtain ⟨vs', rfl, h2, _⟩ := h
  unfold RepL RepL RepL at h2
  obtain ⟨u, us, rfl, h3, u', us', rfl, h4, rfl⟩ := h2
  unfold Rep at h3 h4
  subst h3
  subst h4
  rfl
theorem oc_pieceNe {o : Oper} {ρ : Operand → Av} {p q : Operand} {T' : TypeId} {a b : PieceP} (ho : o.op = .binOp .neq 39 p q T') (hp : ρ p = pieceAv a) (hq : ρ q = pieceAv b) : OC Tryd.prog o ρ [] (.val (.bool (!(a.1.toList == b.1.toList && a.2 == b.2)))) [] := oc_read fun E c hG hr _ => by
  have h1 := hr p (by simp [ho, Op.operands])
  have h2 := hr q (by simp [ho, Op.operands])
  rw [hp] at h1
  rw [hq] at h2
  have e1 := rep_piece h1
  have e2 := rep_piece h2
  have hg := run_eqGuard_agg (P := Tryd.prog) E.w .neq 39 p q #[.string a.1, .int .i64 a.2] #[.string b.1, .int .i64 b.2] (by kernel_rfl)
  refine ⟨.bool (!(a.1.toList == b.1.toList && a.2 == b.2)), ?_, by unfold Rep; rfl⟩
  unfold execOp
  simp only [ho, e1, e2, Sem.run_bind, hg, Result.andThen_ok, piece_neq, Sem.run_pure]
end Go.Proofs.YtfbpbpapfkimfaaDoor
