/- Scopes. No program stands in this text. -/
import Derived.Test.YtjjgdjcapfenpaaOj
import Derived.Scope
namespace Go.Proofs.Ytjjgdjcapfenpaa
open Go.RowKit
set_option linter.unusedVariables false
/-! ### Scopes without jumps -/
def noGotoA (Q : Exit → Ctx → Prop) : Exit → Ctx → Prop
  | .goto _, _ => False
  | e, Γ => Q e Γ
theorem aw_scope {P : Program} {N : Nat} {D : List Nat} {c : Code} {Q : Exit → Ctx → Prop} {Γ : Ctx} (h : AW P N D c (noGotoA Q) Γ) : AW P N D (.scope c) Q Γ := fun E a hF => by
  refine wpIn_wide.2 (wp_scope_straight (wp_mono (wpIn_wide.1 (h E a hF)) ?_))
  rintro e a' w' ⟨E', Γ', rfl, hK, hF', hd, hq⟩
  cases e
  case goto l => exact hq.elim
  all_goals exact ⟨E', Γ', rfl, hK, hF', hd, hq⟩
theorem aw_label {P : Program} {N l : Nat} {D : List Nat} {Q : Exit → Ctx → Prop} {Γ : Ctx} {ro : Option Nat} (h : Q .normal Γ) : AWo ro P N D (.label l) Q Γ := fun E a hF => wpIn_label ⟨E, Γ, rfl, Kept.refl hF.born, hF, rfl, h⟩
end Go.Proofs.Ytjjgdjcapfenpaa
