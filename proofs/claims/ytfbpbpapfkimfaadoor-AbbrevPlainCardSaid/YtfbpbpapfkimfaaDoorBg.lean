/- strings.Split, by the library's contract. -/
import Derived.Test.YtfbpbpapfkimfaaDoorBt
import Derived.Test.YtfbpbpapfkimfaaDoorShelf
namespace Go.Proofs.YtfbpbpapfkimfaaDoor
open Go.RowKit
set_option maxRecDepth 100000
set_option linter.unusedVariables false
set_option linter.unusedSimpArgs false
/-- A new row of strings. -/
theorem slS_new {E : Env} (hG : Good E) {t : TypeId} {l : List ByteArray} (hl : l.length ≤ maxLen) : Rep { E with w := E.w.alloc (.cells (l.map Value.string).toArray t) } (slS l) (.slice (some ⟨E.w.heap.size, 0, none⟩) l.length l.length) := by
  have hnew : (E.w.alloc (.cells (l.map Value.string).toArray t)).heap[E.w.heap.size]? = some (.cells (l.map Value.string).toArray t (0, 0)) := heap_alloc_new _ _
  unfold slS Rep
  refine ⟨_, _, rfl, Nat.le_refl _, hl, fun h0 => ⟨E.w.heap.size, 0, rfl, ⟨by simp, fun hbad => by have := hG.old _ hbad; omega, fun n hn => by have := (hG.lt n _ hn).1; omega⟩, fun j hj => ⟨.string (l.getD j ByteArray.empty), by unfold Rep; rfl, rfl, fun i u hu => ?_⟩⟩⟩
  have hi : i = 0 ∧ u = .string (l.getD j ByteArray.empty) := by
    cases i with
    | zero => simp [Value.cells] at hu; exact ⟨rfl, hu.symm⟩
    | succ i => simp [Value.cells] at hu
  obtain ⟨rfl, rfl⟩ := hi
  rw [cell_cur hnew]
  simp [hj]
def splitP (s r : ByteArray) : List ByteArray := Lib.splitB r 0 (Lib.countB s r) s
theorem split_pc (s r : ByteArray) (hs : s.size < 4294967281) (hr : 1 ≤ r.size) : PC Tryd.prog 24 [vs s, vs r] (slS (splitP s r)) := by
  intro E vs hG hA _ _ _
  unfold RepL RepL RepL at hA
  obtain ⟨v, us, rfl, hv, v', us', rfl, hv', rfl⟩ := hA
  unfold Rep at hv hv'
  subst hv
  subst hv'
  obtain ⟨_, m, hm⟩ := hG.shp 0 (by simp [gsOf])
  have hlen : (splitP s r).length = Lib.countB s r + 1 := Lib.splitB_all r hr 0 _ s rfl
  have hle := Lib.countB_le r hr s.size s (Nat.le_refl _)
  refine (Tryd.strings_Split s r m E.w hs hm hr).mono ?_
  rintro en w' ⟨rfl, rfl⟩
  have hb : Below E.w.heap.size E.w (E.w.alloc (.cells ((splitP s r).map Value.string).toArray 9)) := (Below.refl _ _).alloc (Nat.le_refl _) _
  have hml : maxLen = 9223372036854775807 := rfl
  have hrep := slS_new hG (t := 9) (l := splitP s r) (by omega)
  rw [hlen] at hrep
  exact ⟨{ E with w := E.w.alloc (.cells ((splitP s r).map Value.string).toArray 9) }, _, rfl, rfl, hG.grow hb, (Step.grow hG hb).kept (by simp), hrep, fun n y hn => by simp [lkH] at hn⟩
end Go.Proofs.YtfbpbpapfkimfaaDoor
