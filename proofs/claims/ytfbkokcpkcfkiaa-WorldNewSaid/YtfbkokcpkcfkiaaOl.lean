/- Scopes. No program stands in this text. -/
import Derived.Test.YtfbkokcpkcfkiaaOj
import Derived.Scope
namespace Go.Proofs.Ytfbkokcpkcfkiaa
open Go.RowKit
set_option linter.unusedVariables false
/-! ### Scopes without jumps -/
def noGotoA (Q : Exit → Ctx → Prop) : Exit → Ctx → Prop
  | .goto _, _ => False
  | e, Γ => Q e Γ
theorem aw_scope {P : Program} {N : Nat} {D : List Nat} {c : Code} {Q : Exit → Ctx → Prop} {Γ : Ctx} (h : AW P N D c (noGotoA Q) Γ) : AW P N D (.scope c) Q Γ := fun E a hF => by
  refine wp_scope_straight (wp_mono (h E a hF) ?_)
  rintro e a' w' ⟨E', Γ', rfl, hK, hF', hq⟩
  cases e
  case goto l => exact hq.elim
  all_goals exact ⟨E', Γ', rfl, hK, hF', hq⟩
theorem aw_label {P : Program} {N l : Nat} {D : List Nat} {Q : Exit → Ctx → Prop} {Γ : Ctx} (h : Q .normal Γ) : AW P N D (.label l) Q Γ := fun E a hF => wp_label ⟨E, Γ, rfl, Kept.refl hF.born, hF, h⟩
end Go.Proofs.Ytfbkokcpkcfkiaa
