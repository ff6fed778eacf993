/- Histories that came in. -/
import Derived.Test.YtjjgdjcapfenpaaUs
import Derived.Test.YtjjgdjcapfenpaaOk
import Derived.Test.YtjjgdjcapfenpaaProg
import Derived.KernelRfl
namespace Go.Proofs.Ytjjgdjcapfenpaa
open Go.RowKit
set_option linter.unusedVariables false
set_option maxRecDepth 100000
section
variable {H : Type} {enc : TypeId × Value → H} {w : World} {base : Nat} {spare : Nat → Bool} {held : Bool}
theorem i64_wf {n : Int} (h : (Lit.int .i64 n).wf = true) : -9223372036854775808 ≤ n ∧ n < 9223372036854775808 := by
  have h1 : IntKind.i64.min ≤ n ∧ n ≤ IntKind.i64.max := by simpa [Lit.wf] using h
  have h2 : IntKind.i64.min = -9223372036854775808 := rfl
  have h3 : IntKind.i64.max = 9223372036854775807 := rfl
  omega
theorem u8_wf {n : Int} (h : (Lit.int .u8 n).wf = true) : 0 ≤ n ∧ n < 256 := by
  have h1 : IntKind.u8.min ≤ n ∧ n ≤ IntKind.u8.max := by simpa [Lit.wf] using h
  have h2 : IntKind.u8.min = 0 := rfl
  have h3 : IntKind.u8.max = 255 := rfl
  omega
def BW (l : List Int) : Prop := Byt l ∧ l.length ≤ 140737488355328
theorem opn_bytes : Opn enc Try.prog w base spare held 22 (List Int) (fun l => [bs l]) BW :=
  (opn_slice (0 : Int) 1 1 (fun n => .val (.int .u8 n)) Try.underlying22 (by kernel_rfl) (by kernel_rfl) (by decide) (opn_int Try.underlying5) row_cell).map (fun l => l) _ _ (fun d => rfl) (fun l h => ⟨fun x hx => u8_wf (h.1 x hx), by have := h.2; omega⟩)
def RW (l : List (List Int)) : Prop := (∀ d ∈ l, BW d) ∧ l.length ≤ 140737488355328
theorem opn_rows : Opn enc Try.prog w base spare held 23 (List (List Int)) (fun l => [bsl l]) RW :=
  (opn_slice ([] : List Int) 1 24 bs Try.underlying23 (by kernel_rfl) (by kernel_rfl) (by decide) opn_bytes row_cell).map (fun l => l) _ _ (fun d => rfl) (fun l h => ⟨h.1, by have := h.2; omega⟩)
theorem opn_hist : Opn enc Try.prog w base spare held 25 HistP histFl HW :=
  (opn_struct Try.underlying25 (by kernel_rfl) (opnF_cons (k := 1) rfl (by kernel_rfl) (opn_int Try.underlying3) (opnF_cons (k := 1) rfl (by kernel_rfl) opn_bytes (opnF_cons (k := 1) rfl (by kernel_rfl) opn_rows opnF_nil)))).map (fun d => ⟨d.1, d.2.1, d.2.2.1⟩) _ _ (fun d => rfl) (fun d h => by exact ⟨i64_wf h.1, h.2.1.2, h.2.1.1, fun d hd => ⟨(h.2.2.1.1 d hd).2, (h.2.2.1.1 d hd).1⟩, h.2.2.1.2⟩)
end
end Go.Proofs.Ytjjgdjcapfenpaa
