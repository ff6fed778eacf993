/- Two instructions compared. -/
import Derived.Test.YtfalhlnmjllfpaaElems
import Derived.Laws.StructEq
namespace Go.Proofs.Ytfalhlnmjllfpaa
open Go.RowKit
theorem ins_eql (a b c d : Int) (w : World) : (binOp .eql 28 (.agg #[.int .i64 a, .int .i64 b]) (.agg #[.int .i64 c, .int .i64 d])).run Try.prog w = .ok (.bool (a == c && b == d)) w := by
  have hu : Try.prog.underlying 28 = some (.struct (Try.prog.fieldsOf 28)) := by kernel_rfl
  have hf : (Try.prog.fieldsOf 28).toList.map (fun f => (f.name, f.type, f.offset)) = [("Op", 3, 0), ("Arg", 3, 1)] := by kernel_rfl
  have hp : Try.prog.stoodInHeld 28 = false := by kernel_rfl
  have ha : (isAgg 3).run Try.prog w = .ok false w := by kernel_rfl
  rw [run_eql_struct, run_equalIn_struct w 9999 _ _ _ hu hp]
  generalize (Try.prog.fieldsOf 28).toList = fs at *
  have hl : fs.length = 2 := by simpa using congrArg List.length hf
  obtain ⟨f, g, rfl⟩ : ∃ f g, fs = [f, g] := by
    rcases fs with _ | ⟨f, _ | ⟨g, _ | ⟨h, r⟩⟩⟩
    · simp at hl
    · simp at hl
    · exact ⟨f, g, rfl⟩
    · simp at hl
  simp at hf
  obtain ⟨⟨h1, h2, h3⟩, h4, h5, h6⟩ := hf
  simp only [Op.eqFields, h1, h2, h3, h4, h5, h6]
  simp [part, ha, Sem.run_bind, run_equalIn_int w _ _ _ .i64 _ _ Try.underlying3]
  by_cases e1 : a = c <;> by_cases e2 : b = d <;> simp [e1, e2]
theorem ins_neq (a b c d : Int) (w : World) : (binOp .neq 28 (.agg #[.int .i64 a, .int .i64 b]) (.agg #[.int .i64 c, .int .i64 d])).run Try.prog w = .ok (.bool (!(a == c && b == d))) w := by
  have h := ins_eql a b c d w
  rw [run_eql_struct] at h
  rw [run_neq_struct]
  generalize (Op.equalIn 10000 28 (.agg #[.int .i64 a, .int .i64 b]) (.agg #[.int .i64 c, .int .i64 d])).run Try.prog w = r at *
  cases r with
  | ok x w' =>
    simp only [Result.andThen, Result.ok.injEq, Value.bool.injEq] at h ⊢
    obtain ⟨rfl, rfl⟩ := h
    exact ⟨rfl, rfl⟩
  | halt x w' => simp [Result.andThen] at h
theorem ins_guard (op : BinOp) (x y : Operand) (xs ys : Array Value) (w : World) : (eqGuard op 28 x y (.agg xs) (.agg ys)).run Try.prog w = .ok () w := run_eqGuard_agg w op _ x y xs ys (by kernel_rfl)
end Go.Proofs.Ytfalhlnmjllfpaa
