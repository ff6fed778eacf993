/- A struct of one-cell fields, by value, however many: its parts and each one's reading. No program stands in this text. -/
import Derived.Lib.SmallJoins
import Derived.Deep.Fields
namespace Go.Proofs.Ytfalhlnmjllfpaa
open Go.Joins Go.ChangeShapes Go.WideShapes Go.RowKit Go.Deep
set_option linter.unusedVariables false
section
variable {H : Type} {enc : TypeId × Value → H} {P : Program} {w : World} {base : Nat} {spare : Nat → Bool} {held : Bool}
def AggR (enc : TypeId × Value → H) (P : Program) (w : World) (base : Nat) (spare : Nat → Bool) (held : Bool) (n : Nat) : List Field → List Value → Prop
  | [], [] => True
  | f :: fs, c :: cs => (∃ y, DataW.trod enc P w base spare held n f.type [c] = some y) ∧ AggR enc P w base spare held n fs cs
  | _, _ => False
theorem aggR_cons {n : Nat} {f : Field} {fs : List Field} {cs : List Value} (h : AggR enc P w base spare held n (f :: fs) cs) :
    ∃ c cs', cs = c :: cs' ∧ (∃ y, DataW.trod enc P w base spare held n f.type [c] = some y) ∧ AggR enc P w base spare held n fs cs' := by
  match cs, h with
  | c :: cs', h => exact ⟨c, cs', rfl, h.1, h.2⟩
theorem aggR_nil {n : Nat} {cs : List Value} (h : AggR enc P w base spare held n [] cs) : cs = [] := by
  match cs, h with
  | [], _ => rfl
theorem aggR_of {n : Nat} : ∀ (fs : List Field) (cs : List Value), cs.length = fs.length → (∀ (j : Nat) (f : Field), fs[j]? = some f → ∃ (c : Value) (y : DataW H × List MemPlace), cs[j]? = some c ∧ DataW.trod enc P w base spare held n f.type [c] = some y) → AggR enc P w base spare held n fs cs
  | [], [], _, _ => trivial
  | [], c :: cs, h, _ => by simp at h
  | f :: fs, [], h, _ => by simp at h
  | f :: fs, c :: cs, h, hf => by
    refine ⟨?_, aggR_of fs cs (by simpa using h) fun j g hg => ?_⟩
    · obtain ⟨c', y, hc, hy⟩ := hf 0 f rfl
      simp at hc
      subst hc
      exact ⟨y, hy⟩
    · simpa using hf (j + 1) g (by simpa using hg)
theorem open_aggN {r : Reach} {b0 : Nat} {t : TypeId} {fs : List Field} {v : Value} {d : DataW H} {p : List MemPlace} (hs : P.underlying t = some (.struct fs.toArray)) (hone : oneCellFields P fs.toArray = true) (hC : P.cellsOf t = fs.length)
    (hv : Value.okWide P w r b0 t v) (h : DataW.Trod enc P w base spare held t v d p) :
    ∃ (cs : List Value) (n : Nat), v = .agg cs.toArray ∧ AggR enc P w base spare held n fs cs := by
  obtain ⟨cs, rfl, hsz⟩ := okWide_struct hs hv
  obtain ⟨l⟩ := cs
  have hl : l.length = fs.length := by simpa using hsz.trans hC
  obtain ⟨fuel, hf⟩ := h
  obtain ⟨xs, n, _, hx, _, hlen, hg⟩ := DataW.trod_struct hs hf
  refine ⟨l, n, rfl, aggR_of fs l hl fun j f hj => ?_⟩
  have hj' : fs.toArray[j]? = some f := by simpa using hj
  obtain ⟨o, k⟩ := hone_of hone j f hj'
  have hjl : j < l.length := by rw [hl]; exact (List.getElem?_eq_some_iff.1 hj).1
  have hjx : j < xs.length := by rw [hlen]; simpa using (Array.getElem?_eq_some_iff.1 hj').1
  have h1 := hg j f hj'
  rw [o, k] at h1
  have h2 : ((Value.agg l.toArray).cells.toList.drop j).take 1 = [l[j]] := by
    have : (Value.agg l.toArray).cells.toList = l := by simp [Value.cells]
    rw [this, List.drop_eq_getElem_cons hjl]
    rfl
  rw [h2] at h1
  exact ⟨l[j], xs[j], List.getElem?_eq_getElem hjl, h1.trans (List.getElem?_eq_getElem hjx)⟩
end
end Go.Proofs.Ytfalhlnmjllfpaa
