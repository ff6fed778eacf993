/- Chapter 8: how a pool that comes in is read. -/
import Derived.Test.YtpbaiighifhfnaaDoorBcj
import Derived.Test.YtpbaiighifhfnaaDoorPu
namespace Go.Proofs.YtpbaiighifhfnaaDoor
set_option linter.unusedSimpArgs false
open Go.RowKit
set_option linter.unusedVariables false
theorem u8_bd8 {n : Int} (h : (Lit.int .u8 n).wf = true) : 0 ≤ n ∧ n < 256 := by
  have h1 : IntKind.u8.min ≤ n ∧ n ≤ IntKind.u8.max := by simpa [Lit.wf] using h
  have h2 : IntKind.u8.min = 0 := rfl
  have h3 : IntKind.u8.max = 255 := rfl
  omega
section
variable {H : Type} {enc : TypeId × Value → H} {w : World} {base : Nat} {spare : Nat → Bool} {held : Bool}
theorem opn_ints8 : Opn enc Tryd.prog w base spare held 25 (List Int) (fun l => [slI l]) (fun _ => True) :=
  (opn_slice (0 : Int) 1 8 vi Tryd.underlying25 (by kernel_rfl) (by kernel_rfl) (by decide) (opn_int Tryd.underlying3) row_cell).map (fun l => l) _ _ (fun d => rfl) (fun l h => trivial)
theorem opn_bytes8 : Opn enc Tryd.prog w base spare held 26 (List Int) (fun l => [bs l]) Bts :=
  (opn_slice (0 : Int) 1 1 (fun n => .val (.int .u8 n)) Tryd.underlying26 (by kernel_rfl) (by kernel_rfl) (by decide) (opn_int Tryd.underlying5) row_cell).map (fun l => l) _ _ (fun d => rfl) (fun l h x hx => u8_bd8 (h.1 x hx))
theorem opn_pool : Opn enc Tryd.prog w base spare held 28 PoolP (fun p => [slS p.abbrevs, slI p.at_, bs p.bytes]) (fun p => Bts p.bytes) :=
  (opn_struct Tryd.underlying28 (by kernel_rfl) (opnF_cons (k := 1) rfl (by kernel_rfl) opn_abbrevs (opnF_cons (k := 1) rfl (by kernel_rfl) opn_ints8 (opnF_cons (k := 1) rfl (by kernel_rfl) opn_bytes8 opnF_nil)))).map (fun d => ⟨d.1, d.2.1, d.2.2.1⟩) _ _ (fun d => rfl) (fun d h => h.2.2.1)
end
end Go.Proofs.YtpbaiighifhfnaaDoor
