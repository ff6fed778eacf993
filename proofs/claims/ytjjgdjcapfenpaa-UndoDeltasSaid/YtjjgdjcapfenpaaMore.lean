/- More plain words on memory: a row of the call's own, read and written at a place; blocks of different element types. No program stands in this text. -/
import Derived.Test.YtjjgdjcapfenpaaWords
namespace Go.Proofs.Ytjjgdjcapfenpaa
open Go.RowKit

theorem own_blk {w : World} {base g : Nat} {e t : TypeId} {v : Value} {xs cs : List Value} (h : Own w base e v xs) (hb : Blk w g t cs) (hne : e ≠ t) : v.ownBlock ≠ some g := by
  rcases h.2 with ⟨rfl, _⟩ | ⟨g', cap, cur, rfl, _, hh, _⟩
  · simp [Value.ownBlock]
  · intro he
    simp [Value.ownBlock] at he
    subst he
    unfold Blk at hb
    rw [hh] at hb
    injection hb with hb
    injection hb with _ ht
    exact hne ht
theorem Blk.grown {w w' : World} {g : Nat} {t : TypeId} {cs : List Value} {row : Option Nat} (h : Blk w g t cs) (hg : w.grownBy w' row) (hne : row ≠ some g) : Blk w' g t cs :=
  (hg.block g h.lt (fun e => hne e.symm)).trans h
theorem Blk.ne_ {w : World} {g g' : Nat} {t t' : TypeId} {cs cs' : List Value} (h : Blk w g t cs) (h' : Blk w g' t' cs') (hne : t ≠ t') : g ≠ g' := by
  rintro rfl
  unfold Blk at h h'
  rw [h] at h'
  injection h' with h'
  injection h' with _ ht
  exact hne ht
section
variable {w : World} {base : Nat} {e : TypeId} {A : Option Addr} {n c g : Nat} {xs : List Value}
theorem Own.addr (h : Own w base e (.slice A n c) xs) (hx : 0 < n) : ∃ g, A = some ⟨g, 0, none⟩ ∧ base ≤ g ∧ g < w.heap.size := by
  have hn := h.rd.1
  rcases h.2 with ⟨hv, h0⟩ | ⟨g, cap, cur, hv, hb, hh, _⟩
  · omega
  · injection hv with h1
    exact ⟨g, h1, hb, (Array.getElem?_eq_some_iff.1 hh).1⟩
theorem Own.cellAt (h : Own w base e (.slice (some ⟨g, 0, none⟩) n c) xs) (j : Nat) (hj : j < xs.length) : w.cell? ⟨g, j, none⟩ = some xs[j] := by
  have hn := h.rd.1
  subst hn
  rw [World.ownsRow.cellAt h j (by omega), List.getElem?_eq_getElem hj]
theorem Own.free (h : Own w base e (.slice (some ⟨g, 0, none⟩) n c) xs) (j : Nat) : w.frozen? ⟨g, j, none⟩ = false := by
  have hn := h.rd.1
  subst hn
  exact World.ownsRow.frozenAt h j
theorem Own.set_ (h : Own w base e (.slice (some ⟨g, 0, none⟩) n c) xs) (j : Nat) (u : Value) : Own (w.setCell ⟨g, j, none⟩ u) base e (.slice (some ⟨g, 0, none⟩) n c) (xs.set j u) := by
  have hn := h.rd.1
  subst hn
  have := (World.ownsRow.stored h j u).1
  simpa [Own] using this
/-- A store elsewhere. -/
theorem Own.far {v : Value} (h : Own w base e v xs) {p : Addr} (hp : v.ownBlock ≠ some p.block) (u : Value) : Own (w.setCell p u) base e v xs :=
  h.keep fun g hg => Below.heap_setCell w p u g (fun hh => hp (by rw [hg, hh]))
end
theorem Own.ne_own {w : World} {base base' : Nat} {e e' : TypeId} {v v' : Value} {xs xs' : List Value} (h : Own w base e v xs) (h' : Own w base' e' v' xs') (hne : e ≠ e') : ∀ g, v.ownBlock = some g → v'.ownBlock ≠ some g := by
  intro g hg hg'
  rcases h.2 with ⟨rfl, _⟩ | ⟨g1, cap, cur, rfl, _, hh, _⟩
  · simp [Value.ownBlock] at hg
  · rcases h'.2 with ⟨rfl, _⟩ | ⟨g2, cap', cur', rfl, _, hh', _⟩
    · simp [Value.ownBlock] at hg'
    · simp [Value.ownBlock] at hg hg'
      subst hg
      subst hg'
      rw [hh] at hh'
      injection hh' with hh'
      injection hh' with _ ht
      exact hne ht
/-- Two rows in different blocks. -/
def Apart (v v' : Value) : Prop := ∀ g, v.ownBlock = some g → v'.ownBlock ≠ some g
theorem Apart.older {w w' : World} {base base' : Nat} {e e' : TypeId} {v v' : Value} {xs xs' : List Value} (h : Own w base e v xs) (h' : Own w' base' e' v' xs') (hb : w.heap.size ≤ base') : Apart v v' := by
  intro g hg hg'
  have h1 := (h.block g hg).2
  have h2 := (h'.block g hg').1
  omega
theorem Apart.grown {w w' : World} {base' : Nat} {e' : TypeId} {v v' v2 : Value} {xs' : List Value} (h : Apart v v') (hg : v2.ownBlock = v.ownBlock ∨ v2.ownBlock = some w.heap.size) (h' : Own w' base' e' v' xs') (hb : w'.heap.size ≤ w.heap.size) : Apart v2 v' := by
  intro g hg1 hg2
  rcases hg with he | he
  · exact h g (he ▸ hg1) hg2
  · have h2 := (h'.block g hg2).2
    rw [he] at hg1
    injection hg1 with hg1
    omega
theorem Apart.symm {v v' : Value} (h : Apart v v') : Apart v' v := fun g h1 h2 => h g h2 h1
/-- How long a slice is. -/
def lenOf (v : Value) : Nat := match v with | .slice _ n _ => n | _ => 0
theorem cb_set (k : IntKind) (zs : List Int) (j : Nat) (z : Int) : (cb k zs).set j (.int k z) = cb k (zs.set j z) := by simp [cb, List.map_set]
theorem cb_get (k : IntKind) (zs : List Int) (j : Nat) (h : j < (cb k zs).length) : (cb k zs)[j] = .int k (zs[j]'(by simpa using h)) := by simp [cb]
end Go.Proofs.Ytjjgdjcapfenpaa
