/- Plain words on memory for the walks of this seat: a slice that reads as a list of one-cell values, a row of the call's own, and how both are kept. No program stands in this text. A region that draws its order, whose operations read and make memory and write to none that stood: each operation is shown ONCE, from what its forerunners left. No program stands in this text. The package-level numbers that a walk may lean on: that they are numbers. No program stands in this text. Abstract values: what a slot or a cell holds, told without addresses; a state of memory with named blocks of the call's own; what a step leaves of both. No program stands in this text. Regions over abstract values: each operation is shown once, in the text's order; a closed check on what each reads and writes says that any order that its edges allow ends in the same state. No program stands in this text. -/
import Derived.WalkKit
import Derived.WalkSpells
import Derived.WalkLawsBesides
import Derived.Maps.AppendAt
import Derived.Deep.AppendLies
import Derived.Lib.AppendStr
import Derived.Lib.AppendZeros
import Derived.Lib.Hide
import Derived.Deep.RegionWith
import Derived.Deep.QuietTactic
import Derived.BigQuiet
import Derived.StillTailTactics
import Derived.Deep.LoopGhost
import Derived.Deep.DeepCutAuto
import Derived.Deep.DeepFit
import Derived.Deep.DeepMust
import Derived.Deep.RegionHeld3
import Derived.Deep.RegionLaw
import Derived.Laws.BytesArg
import Derived.Laws.IdiomStrings
import Derived.Maps.Range
import Derived.TacticsIn
import Derived.RangeFuncCalls
namespace Go.Proofs.Ytfipllnodgbghaa
open Go.RowKit

/-- The slice address A leads, below block B, to cells that hold xs (one cell each). -/
def Rd (w : World) (B : Nat) (A : Option Addr) (xs : List Value) : Prop :=
  0 < xs.length → ∃ b o, A = some ⟨b, o, none⟩ ∧ b < B ∧ ∀ j u, xs[j]? = some u → w.cell? ⟨b, o + j, none⟩ = some u
/-- The slice value v is the call's own: it heads a row from block 'base' on, of element type e, and holds xs. -/
def Own (w : World) (base : Nat) (e : TypeId) (v : Value) (xs : List Value) : Prop := w.ownsRow base e 1 v xs.length xs
section
variable {w w' : World} {B B' base : Nat} {e : TypeId} {A : Option Addr} {xs ys : List Value} {v : Value}
theorem Rd.nil (w : World) (B : Nat) (A : Option Addr) : Rd w B A [] := fun h => absurd h (by simp)
theorem Rd.get (h : Rd w B A xs) {k : Nat} (hk : k < xs.length) : ∃ b o, A = some ⟨b, o, none⟩ ∧ b < B ∧ w.cell? ⟨b, o + k, none⟩ = some xs[k] := by
  obtain ⟨b, o, e, hb, hc⟩ := h (by omega)
  exact ⟨b, o, e, hb, hc k _ (List.getElem?_eq_getElem hk)⟩
theorem Rd.keep (h : Rd w B A xs) (hk : ∀ b o, b < B → w'.cell? ⟨b, o, none⟩ = w.cell? ⟨b, o, none⟩) : Rd w' B A xs := fun hn => by
  obtain ⟨b, o, e, hb, hc⟩ := h hn
  exact ⟨b, o, e, hb, fun j u hu => (hk b _ hb).trans (hc j u hu)⟩
theorem Rd.more (h : Rd w B A xs) (hB : B ≤ B') : Rd w B' A xs := fun hn => by
  obtain ⟨b, o, e, hb, hc⟩ := h hn
  exact ⟨b, o, e, by omega, hc⟩
theorem Rd.below (h : Rd w B A xs) (hb : Below B w w') : Rd w' B A xs := h.keep fun _ _ hp => hb.cell hp
theorem Rd.drew (h : Rd w B A xs) : Rd w.drew B A xs := h
theorem Rd.alloc (h : Rd w B A xs) (hB : B ≤ w.heap.size) (o : Obj) : Rd (w.alloc o) B A xs := h.keep fun _ _ hp => World.cell?_alloc_lt w o _ (by simp; omega)
/-- A block that has just been made. -/
theorem Rd.new (w : World) (cs : List Value) (t : TypeId) : Rd (w.alloc (.cells cs.toArray t)) (w.alloc (.cells cs.toArray t)).heap.size (some ⟨w.heap.size, 0, none⟩) cs := fun _ =>
  ⟨w.heap.size, 0, rfl, by simp, fun j u hu => by
    rw [Nat.zero_add, cell_of_row (w.alloc (.cells cs.toArray t)) w.heap.size j cs.toArray t (0, 0) (heap_alloc_new w _)]
    simpa using hu⟩
theorem Rd.setCell (h : Rd w B A xs) {p : Addr} (hB : B ≤ p.block) (u : Value) : Rd (w.setCell p u) B A xs :=
  h.keep fun b o hq => World.cell?_setCell_other w p ⟨b, o, none⟩ u (fun e => by subst e; simp at hB; omega)
theorem Rd.grown (h : Rd w B A xs) {row : Option Nat} (hg : w.grownBy w' row) (hB : B ≤ w.heap.size) (hr : ∀ g, row = some g → B ≤ g) : Rd w' B A xs :=
  h.keep fun b o hp => World.cell?_of_block (a := ⟨b, o, none⟩) (hg.block b (by omega) (fun e => by have := hr _ e.symm; omega))
/-- The part from k on. -/
theorem Rd.drop (h : Rd w B A xs) (k cap : Nat) (hk : k ≤ xs.length) (hc : xs.length ≤ cap) : Rd w B (if cap = k then A else A.map (·.add k)) (xs.drop k) := fun hn => by
  rw [List.length_drop] at hn
  obtain ⟨b, o, rfl, hb, hcell⟩ := h (by omega)
  rw [if_neg (by omega)]
  refine ⟨b, o + k, by simp [Addr.add_lit], hb, fun j u hu => ?_⟩
  rw [List.getElem?_drop] at hu
  have := hcell _ _ hu
  rwa [← Nat.add_assoc] at this
/-- The part up to k. -/
theorem Rd.take (h : Rd w B A xs) (k : Nat) : Rd w B A (xs.take k) := fun hn => by
  rw [List.length_take] at hn
  obtain ⟨b, o, rfl, hb, hcell⟩ := h (by omega)
  refine ⟨b, o, rfl, hb, fun j u hu => hcell j u ?_⟩
  rw [List.getElem?_take] at hu
  split at hu
  · exact hu
  · cases hu
theorem Own.nil (w : World) (base : Nat) (e : TypeId) : Own w base e (.slice none 0 0) [] := ⟨by simp, .inl ⟨rfl, rfl⟩⟩
/-- What an owned value looks like. -/
theorem Own.form (h : Own w base e v xs) : ∃ A c, v = .slice A xs.length c ∧ xs.length ≤ c ∧ c ≤ maxLen ∧ Rd w w.heap.size A xs ∧ (∀ g, v.ownBlock = some g → base ≤ g ∧ g < w.heap.size) := by
  rcases h.2 with ⟨rfl, h0⟩ | ⟨g, cap, cur, rfl, hb, hg, hn, hc, hs, ht⟩
  · have : xs = [] := List.eq_nil_of_length_eq_zero h0
    subst this
    exact ⟨none, 0, rfl, by simp, by simp [maxLen], Rd.nil _ _ _, fun g hg => by simp [Value.ownBlock] at hg⟩
  · refine ⟨some ⟨g, 0, none⟩, cap, rfl, hn, hc, fun _ => ⟨g, 0, rfl, (Array.getElem?_eq_some_iff.1 hg).1, fun j u hu => ?_⟩, fun g' hg' => ?_⟩
    · rw [cell_of_row w g (0 + j) cur e (0, 0) hg, Nat.zero_add]
      rw [← ht, List.getElem?_take] at hu
      split at hu
      · simpa using hu
      · cases hu
    · simp [Value.ownBlock] at hg'
      subst hg'
      exact ⟨hb, (Array.getElem?_eq_some_iff.1 hg).1⟩
theorem Own.cast (h : Own w base e v xs) (he : xs = ys) : Own w base e v ys := he ▸ h
theorem Own.rd {n c : Nat} (h : Own w base e (.slice A n c) xs) : n = xs.length ∧ n ≤ c ∧ Rd w w.heap.size A xs := by
  obtain ⟨A', c', hv, hc, _, hr, _⟩ := h.form
  injection hv with h1 h2 h3
  subst h1; subst h2; subst h3
  exact ⟨rfl, hc, hr⟩
theorem Own.block (h : Own w base e v xs) : ∀ g, v.ownBlock = some g → base ≤ g ∧ g < w.heap.size := by
  obtain ⟨_, _, _, _, _, _, h⟩ := h.form
  exact h
theorem Own.keep (h : Own w base e v xs) (hk : ∀ g, v.ownBlock = some g → w'.heap[g]? = w.heap[g]?) : Own w' base e v xs := by
  refine ⟨h.1, ?_⟩
  rcases h.2 with hn | ⟨g, cap, cur, rfl, hb, hg, r⟩
  · exact .inl hn
  · exact .inr ⟨g, cap, cur, rfl, hb, (hk g rfl).trans hg, r⟩
theorem Own.below (h : Own w base e v xs) (hb : Below w.heap.size w w') : Own w' base e v xs := h.keep fun g hg => hb.block g (h.block g hg).2
theorem Own.take {n c : Nat} (h : Own w base e (.slice A n c) xs) (k : Nat) (hk : k ≤ n) : Own w base e (.slice A k c) (xs.take k) := by
  have hn := h.rd.1
  subst hn
  rcases h.2 with ⟨hv, h0⟩ | ⟨g, cap, cur, hv, hb, hg, hn, hc, hs, ht⟩
  · have : xs = [] := List.eq_nil_of_length_eq_zero h0
    subst this
    obtain rfl : k = 0 := by simpa using hk
    obtain ⟨rfl, _, rfl⟩ := Value.slice.inj hv
    exact Own.nil _ _ _
  · obtain ⟨rfl, _, rfl⟩ := Value.slice.inj hv
    have hl : (xs.take k).length = k := by rw [List.length_take]; omega
    refine ⟨by omega, .inr ⟨g, c, cur, by rw [hl], hb, hg, by omega, hc, hs, ?_⟩⟩
    rw [hl, Nat.mul_one, ← ht, List.take_take, Nat.mul_one, Nat.min_eq_left hk]
theorem Own.drew (h : Own w base e v xs) : Own w.drew base e v xs := h
theorem Own.alloc (h : Own w base e v xs) (o : Obj) : Own (w.alloc o) base e v xs := World.ownsRow.alloc h o
theorem Own.grown (h : Own w base e v xs) {row : Option Nat} (hg : w.grownBy w' row) (hne : ∀ g, v.ownBlock = some g → row ≠ some g) : Own w' base e v xs :=
  h.keep fun g hb => hg.block g (h.block g hb).2 (fun e => hne g hb e.symm)
/-- The cells of a list of numbers of one kind. -/
def cb (k : IntKind) (zs : List Int) : List Value := zs.map (Value.int k)
@[simp] theorem cb_length (k : IntKind) (zs : List Int) : (cb k zs).length = zs.length := by simp [cb]
theorem cb_append (k : IntKind) (xs ys : List Int) : cb k (xs ++ ys) = cb k xs ++ cb k ys := by simp [cb]
/-- An element of a slice of numbers that came in. -/
theorem Rd.num {k : IntKind} {zs : List Int} (h : Rd w B A (cb k zs)) {i : Nat} (hi : i < zs.length) : ∃ b o, A = some ⟨b, o, none⟩ ∧ b < B ∧ w.cell? ⟨b, o + i, none⟩ = some (.int k zs[i]) := by
  obtain ⟨b, o, e, hb, hc⟩ := h.get (k := i) (by simpa using hi)
  refine ⟨b, o, e, hb, hc.trans ?_⟩
  simp [cb]
/-- A literal of the call's own. -/
theorem Own.new (w : World) (cs : List Value) (e : TypeId) (n : Nat) (hn : n = cs.length) (hb : base ≤ w.heap.size) (hm : n ≤ 9223372036854775807) : Own (w.alloc (.cells cs.toArray e)) base e (.slice (some ⟨w.heap.size, 0, none⟩) n n) cs := by
  subst hn
  have := World.ownsRow_lit (base := base) (e := e) (size := 1) w cs.toArray cs.length hb (by simp only [maxLen]; omega) (by simp)
  simpa [Own] using this
/-- Block g holds just the cells cs, none frozen. -/
def Blk (w : World) (g : Nat) (t : TypeId) (cs : List Value) : Prop := w.heap[g]? = some (.cells cs.toArray t (0, 0))
section
variable {g : Nat} {t : TypeId} {cs : List Value}
theorem Blk.lt (h : Blk w g t cs) : g < w.heap.size := (Array.getElem?_eq_some_iff.1 h).1
theorem Blk.cell (h : Blk w g t cs) (i : Nat) : w.cell? ⟨g, i, none⟩ = cs[i]? := by
  rw [cell_of_row w g i cs.toArray t (0, 0) h]; simp
theorem Blk.frozen (h : Blk w g t cs) (i : Nat) : w.frozen? ⟨g, i, none⟩ = false := by
  unfold Blk at h
  simp [World.frozen?, h]
theorem Blk.new (w : World) (t : TypeId) (cs : List Value) : Blk (w.alloc (.cells cs.toArray t)) w.heap.size t cs := heap_alloc_new w _
theorem Blk.drew (h : Blk w g t cs) : Blk w.drew g t cs := h
theorem Blk.alloc (h : Blk w g t cs) (o : Obj) : Blk (w.alloc o) g t cs := (Below.heap_alloc w o g h.lt).trans h
theorem Blk.below (h : Blk w g t cs) (hb : Below B w w') (hg : g < B) : Blk w' g t cs := (hb.block g hg).trans h
theorem Blk.cast {ds : List Value} (h : Blk w g t cs) (e : cs = ds) : Blk w g t ds := e ▸ h
theorem Blk.one {a : Value} (h : Blk w g t [a]) : w.cell? ⟨g, 0, none⟩ = some a ∧ w.frozen? ⟨g, 0, none⟩ = false := ⟨h.cell 0, h.frozen 0⟩
theorem Blk.two {a b : Value} (h : Blk w g t [a, b]) : w.cell? ⟨g, 0, none⟩ = some a ∧ w.cell? ⟨g, 1, none⟩ = some b ∧ w.frozen? ⟨g, 0, none⟩ = false ∧ w.frozen? ⟨g, 1, none⟩ = false := ⟨h.cell 0, h.cell 1, h.frozen 0, h.frozen 1⟩
theorem Blk.three {a b c : Value} (h : Blk w g t [a, b, c]) : w.cell? ⟨g, 0, none⟩ = some a ∧ w.cell? ⟨g, 1, none⟩ = some b ∧ w.cell? ⟨g, 2, none⟩ = some c ∧ w.frozen? ⟨g, 0, none⟩ = false ∧ w.frozen? ⟨g, 1, none⟩ = false ∧ w.frozen? ⟨g, 2, none⟩ = false :=
  ⟨h.cell 0, h.cell 1, h.cell 2, h.frozen 0, h.frozen 1, h.frozen 2⟩
end
end
theorem w_i16 (n : Int) : IntKind.i16.wrap n = (n + 32768) % 65536 - 32768 := by simp only [IntKind.wrap, IntKind.bits, IntKind.signed]; simp; split <;> omega
section
variable {P : Program} {w : World} {ops : Array Oper} {rest : List Oper} {o : Oper} {a : Act} {Q : Exit → Act → World → Prop}
end
end Go.Proofs.Ytfipllnodgbghaa
namespace Go.Proofs.Ytfipllnodgbghaa
open Go.RowKit
set_option linter.unusedVariables false

/-- What an operation leaves: a value and a world. -/
def growUpon (P : Program) (K : Value → World → Prop) : Result Next → Prop
  | .ok (.value v) w' => K v w'
  | .ok .skip w' => K undef w'
  | .ok (.enter f args) w' => Calls P f args w' fun e w'' => ∃ v, e = .returned v ∧ K v w''
  | _ => False
def grows (P : Program) (o : Oper) (a : Act) (w : World) (K : Value → World → Prop) : Prop := growUpon P K ((execOp a.eval o).run P w)
attribute [go_sem] grows growUpon
/-- Each operation waits for earlier ones alone. -/
def lexB (md : Region.Mode) : List Oper → Nat → Bool
  | [], _ => true
  | o :: l, k => o.after.all (fun e => !Region.binds md e || decide (e.on < k)) && lexB md l (k + 1)
/-- Of the operations named what S says of them. -/
def depsHold (S : Nat → Value → World → Prop) (f : Nat → Value) (w : World) : List Nat → Prop
  | [] => True
  | j :: l => S j (f j) w ∧ depsHold S f w l
def depsL : List Edge → List Nat
  | [] => []
  | e :: l => if Region.binds .any e = true then e.on :: depsL l else depsL l
def depsOf (o : Oper) : List Nat := depsL o.after.toList
/-- What is owed, operation by operation. -/
def GOps (P : Program) (ops : Array Oper) (A : (Nat → Value) → Act) (S : Nat → Value → World → Prop) (W : World) : List Oper → Nat → Prop
  | [], _ => True
  | o :: l, k => (∀ (f : Nat → Value) (w : World) (K : Value → World → Prop), Below W.heap.size W w → depsHold S f w (depsOf o) →
      (∀ v w', Below w.heap.size w w' → S k v w' → K v w') → if Region.wanted o (yielded ops (A f).tmps) then grows P o (A f) w K else K undef w) ∧ GOps P ops A S W l (k + 1)
theorem GOps.nil_ {P : Program} {ops : Array Oper} {A : (Nat → Value) → Act} {S : Nat → Value → World → Prop} {W : World} {k : Nat} : GOps P ops A S W [] k := trivial
theorem GOps.get {P : Program} {ops : Array Oper} {A : (Nat → Value) → Act} {S : Nat → Value → World → Prop} {W : World} : ∀ (l : List Oper) (k : Nat), GOps P ops A S W l k → ∀ j o, l[j]? = some o →
    ∀ (f : Nat → Value) (w : World) (K : Value → World → Prop), Below W.heap.size W w → depsHold S f w (depsOf o) →
      (∀ v w', Below w.heap.size w w' → S (k + j) v w' → K v w') → if Region.wanted o (yielded ops (A f).tmps) then grows P o (A f) w K else K undef w
  | [], _, _, j, _, h => by simp at h
  | o :: l, k, H, 0, o', h => by
    simp at h
    subst h
    exact H.1
  | o :: l, k, H, j + 1, o', h => by
    have := GOps.get l (k + 1) H.2 j o' (by simpa using h)
    rwa [show k + 1 + j = k + (j + 1) from by omega] at this

/-! ### What may be said of a value -/
theorem lexB_get {md : Region.Mode} : ∀ (l : List Oper) (k : Nat), lexB md l k = true → ∀ j o, l[j]? = some o → ∀ e ∈ o.after, Region.binds md e = true → e.on < k + j
  | [], _, _, j, _, h => by simp at h
  | o :: l, k, H, 0, o', h => by
    simp at h
    subst h
    unfold lexB at H
    rw [Bool.and_eq_true, Array.all_eq_true_iff_forall_mem] at H
    intro e he hb
    have := H.1 e he
    simpa [hb] using this
  | o :: l, k, H, j + 1, o', h => by
    unfold lexB at H
    rw [Bool.and_eq_true] at H
    have := lexB_get l (k + 1) H.2 j o' (by simpa using h)
    rwa [show k + 1 + j = k + (j + 1) from by omega] at this
theorem ready_nil {md : Region.Mode} {l : List Oper} {listed : Array Bool} (hs : listed.size = l.length) (hl : lexB md l 0 = true) (h : Region.ready md l.toArray listed = []) : ∀ j, j < l.length → listed.getD j false = true := by
  intro j
  induction j using Nat.strongRecOn with
  | _ j ih =>
    intro hj
    by_cases hc : listed.getD j false = true
    · exact hc
    · exfalso
      have : j ∈ Region.ready md l.toArray listed := by
        rw [mem_ready]
        refine ⟨?_, l[j], by simp [hj], ?_⟩
        · have hj' : j < listed.size := by omega
          simp [hj'] at hc ⊢
          exact hc
        · intro e he hb
          have hlt := lexB_get l 0 hl j l[j] (by simp [hj]) e he hb
          exact ih e.on (by omega) (by omega)
      rw [h] at this
      simp at this
/-- How many are not listed. -/
def left (listed : Array Bool) : Nat := listed.toList.countP (fun b => !b)
theorem left_set {listed : Array Bool} {i : Nat} (h : listed.getD i true = false) : left listed = left (listed.setIfInBounds i true) + 1 := by
  have hi : i < listed.size := by
    rcases Nat.lt_or_ge i listed.size with h' | h'
    · exact h'
    · simp [Array.getD, Nat.not_lt.2 h'] at h
  have hv : listed.toList[i]'(by simpa using hi) = false := by simpa [Array.getD, hi] using h
  unfold left
  rw [Array.toList_setIfInBounds, List.countP_set (by simpa using hi)]
  simp only [hv, Bool.not_false, Bool.not_true, if_true, Bool.false_eq_true, if_false]
  have hp : 0 < listed.toList.countP (fun b => !b) := List.countP_pos_iff.2 ⟨false, by rw [← hv]; exact List.getElem_mem _, rfl⟩
  omega
theorem left_zero {listed : Array Bool} (h : left listed = 0) : ∀ j, j < listed.size → listed.getD j false = true := by
  intro j hj
  unfold left at h
  rw [List.countP_eq_zero] at h
  have := h (listed.toList[j]'(by simpa using hj)) (List.getElem_mem _)
  simpa [Array.getD, hj] using this
section
variable {P : Program} {l : List Oper} {A : (Nat → Value) → Act} {S : Nat → Value → World → Prop} {W : World} {Q : Exit → Act → World → Prop}
end
end Go.Proofs.Ytfipllnodgbghaa
namespace Go.Proofs.Ytfipllnodgbghaa
/-- The blocks of package-level variables that hold a number. -/
def gsOf : List Nat := [
  ]
end Go.Proofs.Ytfipllnodgbghaa
namespace Go.Proofs.Ytfipllnodgbghaa
open Go.RowKit
set_option linter.unusedVariables false
set_option linter.unusedSimpArgs false

inductive Loc where
  | unborn
  | dead
  | nil
  | at (b : Nat)
/-- A world; which named block lies where; which blocks are another's. -/
structure Env where
  w : World
  loc : Nat → Loc
  bad : Nat → Prop
/-- A block that no name holds. -/
def Env.ok (E : Env) (b : Nat) : Prop := b < E.w.heap.size ∧ ¬ E.bad b ∧ ∀ n, E.loc n ≠ .at b

inductive Av where
  | any
  | val (v : Value)
  | sl (k n : Nat) (row : Nat → Av)
  | ptr (x : Av)
  | agg (cs : List Av)
  | tup (cs : List Av)
  | clo (f : Nat) (caps : List Av)
  | own (n off : Nat)
  | osl (k n len : Nat)
  | oss (n off len : Nat)
  /-- A map of the call's own; a map that is only read from here on. -/
  | mp (n : Nat)
  | fm (P : Program) (k e : TypeId) (D : DataW Unit)
  | gd (c : Bool) (x : Av)
  | nz (x : Av)
  /-- A row of cells that are frozen, all of those that are told and no more (what unsafe.String leaves of a row of bytes); a slice of it or (q) the pointer to it. -/
  | frz (q : Bool) (T : TypeId) (xs : List Value)

mutual
def Rep (E : Env) : Av → Value → Prop
  | .any, _ => True
  | .val x, v => v = x
  | .sl k n row, v => ∃ A c, v = .slice A n c ∧ n ≤ c ∧ c ≤ maxLen ∧ (0 < n → ∃ b o, A = some ⟨b, o, none⟩ ∧ E.ok b ∧ ∀ j, j < n → ∃ u, Rep E (row j) u ∧ u.cells.size = k ∧ E.w.rangeAt b (o + j * k) u.cells.toList)
  | .ptr x, v => ∃ b o u, v = .pointer (some ⟨b, o, none⟩) ∧ E.ok b ∧ Rep E x u ∧ E.w.rangeAt b o u.cells.toList
  | .agg cs, v => ∃ vs : List Value, v = .agg vs.toArray ∧ RepL E cs vs ∧ ∀ u ∈ vs, u.oneCell' = true
  | .tup cs, v => ∃ vs : List Value, v = .tuple vs.toArray ∧ RepL E cs vs
  | .clo f cs, v => ∃ vs : List Value, v = .func (.func f) #[] vs.toArray ∧ RepL E cs vs
  | .own n off, v => (E.loc n ≠ .unborn ∧ ∃ p, v = .pointer p) ∧ ∀ b, E.loc n = .at b → v = .pointer (some ⟨b, off, none⟩)
  | .osl k n len, v => (E.loc n ≠ .unborn ∧ (∃ a c, v = .slice a len c) ∧ (E.loc n = .nil → v = .slice none 0 0 ∧ len = 0)) ∧ ∀ b, E.loc n = .at b → ∃ c cur t, v = .slice (some ⟨b, 0, none⟩) len c ∧ len ≤ c ∧ c ≤ maxLen ∧ E.w.heap[b]? = some (.cells cur t (0, 0)) ∧ cur.size = c * k
  | .oss n off len, v => (E.loc n ≠ .unborn ∧ ∃ a c, v = .slice a len c) ∧ ∀ b, E.loc n = .at b → ∃ A c cur t, v = .slice A len c ∧ len ≤ c ∧ c ≤ maxLen ∧ (0 < len → A = some ⟨b, off, none⟩) ∧ E.w.heap[b]? = some (.cells cur t (0, 0)) ∧ off + len ≤ cur.size
  | .mp n, v => (E.loc n ≠ .unborn ∧ ∃ b, v = .map b) ∧ ∀ b, E.loc n = .at b → v = .map (some b)
  | .fm P k e D, v => ∃ b n, v = .map (some b) ∧ E.ok b ∧ E.w.ownsMap P k (plainElem P e) b n D
  | .frz q T xs, v => ∃ c g cur, v = (bif q then .pointer (some ⟨g, 0, none⟩) else .slice (some ⟨g, 0, none⟩) xs.length c) ∧ xs.length ≤ c ∧ E.ok g ∧ E.w.heap[g]? = some (.cells cur T (0, xs.length)) ∧ ∀ (j : Nat) (u : Value), xs[j]? = some u → cur[j]? = some u
  | .gd c x, v => (c = true → Rep E x v) ∧ (c = false → v = undef)
  | .nz x, v => Rep E x v ∧ ∀ n c, v ≠ .slice none n c
def RepL (E : Env) : List Av → List Value → Prop
  | [], vs => vs = []
  | x :: xs, vs => ∃ v us, vs = v :: us ∧ Rep E x v ∧ RepL E xs us
end
def lkS : List (Nat × Av) → Nat → Av
  | [], _ => .any
  | (t, x) :: r, u => bif Nat.beq t u then x else lkS r u
inductive Hs where
  | unborn
  | dead
  | live (t : TypeId) (cells : List Av)
  /-- A loop over a function: its record lies at l. -/
  | map (P : Program) (k e : TypeId) (D : DataW Unit)
  /-- A loop over a map that is only read: the entries that are still to come. -/
  | iter (P : Program) (k e : TypeId) (D : DataW Unit) (left : Lit → Bool) (cnt : Nat) (last : Option (Value × Value))
  | loop (l N : Nat) (ps : Array Tmp) (assign body : Code) (pe : Option Code) (σ : List (Nat × Av))
/-- What the iterator handed out last. -/
def entOk (P : Program) (w : World) (r : Nat) (kv : Value × Value) : Prop := (Instr.entry (.pointer (some ⟨r, 0, none⟩))).run P w = .ok (.tuple #[kv.1, kv.2]) w
/-- What is known of a named block. -/
def HAt (E : Env) (n : Nat) : Hs → Prop
  | .unborn => E.loc n = .unborn
  | .dead => E.loc n = .dead
  | .live t cells => (E.loc n = .nil ∧ cells = []) ∨ ∃ (b : Nat) (cur : Array Value), E.loc n = .at b ∧ E.w.heap[b]? = some (.cells cur t (0, 0)) ∧ ∀ (i : Nat) (y : Av), cells[i]? = some y → ∃ u : Value, cur[i]? = some u ∧ u.oneCell' = true ∧ Rep E y u
  | .map P k e D => ∃ b m, E.loc n = .at b ∧ E.w.ownsMap P k (plainElem P e) b m D
  | .iter P k e D left cnt last => ∃ b r m, E.loc n = .at r ∧ E.ok b ∧ E.w.ranges P k (plainElem P e) b r m D left cnt ∧ ∀ kv, last = some kv → entOk P E.w r kv
  | .loop l N ps assign body pe σ => E.loc n = .at l ∧ ∃ r : Loop, E.w.heap[l]? = some (.loop r) ∧ r.params = ps ∧ r.assign = assign ∧ r.body = body ∧ r.tmps.size = N ∧ r.pending = pe ∧ r.state = (if pe.isNone then .ready else .done) ∧ ∀ t, Rep E (lkS σ t) (r.tmps.getD t undef)
theorem cells_one {v : Value} (h : v.oneCell' = true) : v.cells = #[v] := by
  cases v <;> first | rfl | (simp [Value.oneCell'] at h)
/-- The package-level numbers stand, and no name holds them. -/
def Shp (E : Env) : Prop := ∀ g ∈ gsOf, E.ok g ∧ ∃ m, E.w.cell? ⟨g, 0, none⟩ = some (.int .i64 m)
structure Good (E : Env) : Prop where
  old : ∀ b, E.bad b → b < E.w.heap.size
  inj : ∀ n m b, E.loc n = .at b → E.loc m = .at b → n = m
  lt : ∀ n b, E.loc n = .at b → b < E.w.heap.size ∧ ¬ E.bad b
  shp : Shp E
/-- From E to E' alone the blocks of the names N have been written to, and new ones made. -/
structure Step (E E' : Env) (N : List Nat) : Prop where
  os : E'.w.os = E.w.os
  tape : E'.w.tape = E.w.tape
  output : E'.w.output = E.w.output
  size : E.w.heap.size ≤ E'.w.heap.size
  bad : E'.bad = E.bad
  keep : ∀ b, b < E.w.heap.size → (∀ n, E.loc n ≠ .at b) → E'.w.heap[b]? = E.w.heap[b]?
  same : ∀ n, n ∉ N → E'.loc n = E.loc n ∧ ∀ b, E.loc n = .at b → E'.w.heap[b]? = E.w.heap[b]?
  born : ∀ n, E.loc n ≠ .unborn → E'.loc n ≠ .unborn
  from_ : ∀ n b, E'.loc n = .at b → E.loc n = .at b ∨ (E.loc n = .unborn ∧ (E.w.heap.size ≤ b ∨ ∃ m, E.loc m = .at b))
  nil_ : ∀ n, E'.loc n = .nil → E.loc n = .nil ∨ E.loc n = .unborn
  shape : ∀ n b cur t, E'.loc n = .at b → E.loc n = .at b → E.w.heap[b]? = some (.cells cur t (0, 0)) → ∃ cur', E'.w.heap[b]? = some (.cells cur' t (0, 0)) ∧ cur'.size = cur.size
theorem Step.ok {E E' : Env} {N : List Nat} (h : Step E E' N) {b : Nat} (hb : E.ok b) : E'.ok b ∧ E'.w.heap[b]? = E.w.heap[b]? := by
  obtain ⟨h1, h2, h3⟩ := hb
  refine ⟨⟨Nat.lt_of_lt_of_le h1 h.size, by rwa [h.bad], fun n hn => ?_⟩, h.keep b h1 h3⟩
  rcases h.from_ n b hn with h4 | ⟨_, h4 | ⟨m, h4⟩⟩
  · exact h3 n h4
  · omega
  · exact h3 m h4
theorem Shp.same {E E' : Env} (h : Shp E) (hk : ∀ b, E.ok b → E'.ok b ∧ E'.w.heap[b]? = E.w.heap[b]?) : Shp E' := fun g hg => by
  obtain ⟨h1, m, h2⟩ := h g hg
  exact ⟨(hk g h1).1, m, (World.cell?_of_block (a := ⟨g, 0, none⟩) (hk g h1).2).trans h2⟩
theorem Shp.step {E E' : Env} {N : List Nat} (h : Shp E) (hS : Step E E' N) : Shp E' := h.same fun b hb => hS.ok hb
theorem range_of_block {w w' : World} {b o : Nat} {cs : List Value} (h : w'.heap[b]? = w.heap[b]?) (hr : w.rangeAt b o cs) : w'.rangeAt b o cs := fun j v hv => (World.cell?_of_block (w := w) (a := ⟨b, o + j, none⟩) h).trans (hr j v hv)
theorem ownsMap_of_block {w w' : World} {P : Program} {k e : TypeId} {b n : Nat} {D : DataW Unit} (h : w'.heap[b]? = w.heap[b]?) (ho : w.ownsMap P k (plainElem P e) b n D) : w'.ownsMap P k (plainElem P e) b n D := by
  obtain ⟨es, clock, h1, h2⟩ := ho
  exact ⟨es, clock, h.trans h1, h2⟩
theorem ranges_of_block {w w' : World} {P : Program} {k e : TypeId} {b r n c : Nat} {D : DataW Unit} {left : Lit → Bool} (h : w'.heap[b]? = w.heap[b]?) (h' : w'.heap[r]? = w.heap[r]?) (ho : w.ranges P k (plainElem P e) b r n D left c) : w'.ranges P k (plainElem P e) b r n D left c := by
  obtain ⟨es, clock, since, seen, c0, h1, h2, h3, h4, h5, h6⟩ := ho
  exact ⟨es, clock, since, seen, c0, h.trans h1, h2, h3, h4, h'.trans h5, h6⟩
theorem entry_same {P : Program} {w w' : World} {b r since c0 : Nat} {seen : Array Nat} {t : Value} (hr : w.heap[r]? = some (.mapIter (some b) since seen c0)) (h : w'.heap[b]? = w.heap[b]?) (h' : w'.heap[r]? = w.heap[r]?)
    (hrun : (Instr.entry (.pointer (some ⟨r, 0, none⟩))).run P w = .ok t w) : (Instr.entry (.pointer (some ⟨r, 0, none⟩))).run P w' = .ok t w' := by
  simp only [Instr.entry, getObj, Sem.run_bind, Sem.run, h', hr, h, Result.andThen] at hrun ⊢
  cases hs : seen.back? with
  | none => rw [hs] at hrun; simp [stuck, Sem.run] at hrun
  | some stamp =>
    simp only [hs, Sem.run_bind, Sem.run] at hrun ⊢
    rw [h]
    cases hb : w.heap[b]? with
    | none => simp [hb] at hrun
    | some ob =>
      cases ob <;> simp only [hb, Result.andThen] at hrun ⊢ <;> first | (simp [stuck, Sem.run] at hrun; done) | skip
      split
      · rename_i hc; rw [if_pos hc] at hrun; simp [unsupported, Sem.run, Result.andThen] at hrun
      · rename_i hc
        rw [if_neg hc] at hrun
        revert hrun
        generalize Array.find? _ _ = F
        intro hrun
        cases F with
        | none => simp [unsupported] at hrun
        | some e =>
          simp only [Sem.run_pure, Result.ok.injEq, and_true] at hrun ⊢
          exact hrun
theorem entOk.same {P P' : Program} {w w' : World} {k e : TypeId} {b r n c : Nat} {D : DataW Unit} {left : Lit → Bool} {kv : Value × Value} (hrg : w.ranges P' k (plainElem P' e) b r n D left c) (h : w'.heap[b]? = w.heap[b]?) (h' : w'.heap[r]? = w.heap[r]?) (ho : entOk P w r kv) : entOk P w' r kv := by
  obtain ⟨es, clock, since, seen, c0, _, _, _, _, h5, _⟩ := hrg
  exact entry_same h5 h h' ho
mutual
theorem Rep.step {E E' : Env} {N : List Nat} (h : Step E E' N) : ∀ (x : Av) (v : Value), Rep E x v → Rep E' x v
  | .any, _, _ => by unfold Rep; trivial
  | .val x, v, hr => by unfold Rep at hr ⊢; exact hr
  | .sl k n row, v, hr => by
    unfold Rep at hr ⊢
    obtain ⟨A, c, h1, h2, h3, h4⟩ := hr
    refine ⟨A, c, h1, h2, h3, fun hn => ?_⟩
    obtain ⟨b, o, h5, h6, h7⟩ := h4 hn
    refine ⟨b, o, h5, (h.ok h6).1, fun j hj => ?_⟩
    obtain ⟨u, h8, h9, h10⟩ := h7 j hj
    exact ⟨u, Rep.step h (row j) u h8, h9, range_of_block (h.ok h6).2 h10⟩
  | .ptr x, v, hr => by
    unfold Rep at hr ⊢
    obtain ⟨b, o, u, h1, h2, h3, h4⟩ := hr
    exact ⟨b, o, u, h1, (h.ok h2).1, Rep.step h x u h3, range_of_block (h.ok h2).2 h4⟩
  | .agg cs, v, hr => by
    unfold Rep at hr ⊢
    obtain ⟨vs, h1, h2, h3⟩ := hr
    exact ⟨vs, h1, RepL.step h cs vs h2, h3⟩
  | .tup cs, v, hr => by
    unfold Rep at hr ⊢
    obtain ⟨vs, h1, h2⟩ := hr
    exact ⟨vs, h1, RepL.step h cs vs h2⟩
  | .clo f cs, v, hr => by
    unfold Rep at hr ⊢
    obtain ⟨vs, h1, h2⟩ := hr
    exact ⟨vs, h1, RepL.step h cs vs h2⟩
  | .own n off, v, hr => by
    unfold Rep at hr ⊢
    refine ⟨⟨h.born n hr.1.1, hr.1.2⟩, fun b hb => ?_⟩
    rcases h.from_ n b hb with h1 | ⟨h1, _⟩
    · exact hr.2 b h1
    · exact absurd h1 hr.1.1
  | .osl k n len, v, hr => by
    unfold Rep at hr ⊢
    refine ⟨⟨h.born n hr.1.1, hr.1.2.1, fun hn => ?_⟩, fun b hb => ?_⟩
    · rcases h.nil_ n hn with h1 | h1
      · exact hr.1.2.2 h1
      · exact absurd h1 hr.1.1
    rcases h.from_ n b hb with h1 | ⟨h1, _⟩
    · obtain ⟨c, cur, t, h2, h3, h4, h5, h6⟩ := hr.2 b h1
      obtain ⟨cur', h7, h8⟩ := h.shape n b cur t hb h1 h5
      exact ⟨c, cur', t, h2, h3, h4, h7, by rw [h8, h6]⟩
    · exact absurd h1 hr.1.1
  | .oss n off len, v, hr => by
    unfold Rep at hr ⊢
    refine ⟨⟨h.born n hr.1.1, hr.1.2⟩, fun b hb => ?_⟩
    rcases h.from_ n b hb with h1 | ⟨h1, _⟩
    · obtain ⟨A, c, cur, t, h2, h3, h4, h9, h5, h6⟩ := hr.2 b h1
      obtain ⟨cur', h7, h8⟩ := h.shape n b cur t hb h1 h5
      exact ⟨A, c, cur', t, h2, h3, h4, h9, h7, by rw [h8]; exact h6⟩
    · exact absurd h1 hr.1.1
  | .mp n, v, hr => by
    unfold Rep at hr ⊢
    refine ⟨⟨h.born n hr.1.1, hr.1.2⟩, fun b hb => ?_⟩
    rcases h.from_ n b hb with h1 | ⟨h1, _⟩
    · exact hr.2 b h1
    · exact absurd h1 hr.1.1
  | .fm P k e D, v, hr => by
    unfold Rep at hr ⊢
    obtain ⟨b, n, h1, h2, h3⟩ := hr
    exact ⟨b, n, h1, (h.ok h2).1, ownsMap_of_block (h.ok h2).2 h3⟩
  | .frz q T xs, v, hr => by
    unfold Rep at hr ⊢
    obtain ⟨c, g, cur, h1, h2, h3, h4, h5⟩ := hr
    exact ⟨c, g, cur, h1, h2, (h.ok h3).1, (h.ok h3).2.trans h4, h5⟩
  | .gd c x, v, hr => by
    unfold Rep at hr ⊢
    exact ⟨fun hc => Rep.step h x v (hr.1 hc), hr.2⟩
  | .nz x, v, hr => by
    unfold Rep at hr ⊢
    exact ⟨Rep.step h x v hr.1, hr.2⟩
theorem RepL.step {E E' : Env} {N : List Nat} (h : Step E E' N) : ∀ (xs : List Av) (vs : List Value), RepL E xs vs → RepL E' xs vs
  | [], vs, hr => by unfold RepL at hr ⊢; exact hr
  | x :: xs, vs, hr => by
    unfold RepL at hr ⊢
    obtain ⟨v, us, h1, h2, h3⟩ := hr
    exact ⟨v, us, h1, Rep.step h x v h2, RepL.step h xs us h3⟩
end
theorem HAt.step {E E' : Env} {N : List Nat} (h : Step E E' N) {n : Nat} (hn : n ∉ N) {x : Hs} (hx : HAt E n x) : HAt E' n x := by
  obtain ⟨h1, h2⟩ := h.same n hn
  cases x with
  | unborn => exact h1.trans (show E.loc n = .unborn from hx)
  | dead => exact h1.trans (show E.loc n = .dead from hx)
  | live t cells =>
    rcases hx with ⟨h3, h4⟩ | ⟨b, cur, h3, h4, h5⟩
    · exact .inl ⟨h1.trans h3, h4⟩
    refine .inr ⟨b, cur, h1.trans h3, (h2 b h3).trans h4, fun i y hy => ?_⟩
    obtain ⟨u, h6, h8, h7⟩ := h5 i y hy
    exact ⟨u, h6, h8, Rep.step h y u h7⟩
  | map P k e D =>
    obtain ⟨b, m, h3, h4⟩ := hx
    exact ⟨b, m, h1.trans h3, ownsMap_of_block (h2 b h3) h4⟩
  | iter P k e D left cnt last =>
    obtain ⟨b, r, m, h3, h4, h5, h6⟩ := hx
    exact ⟨b, r, m, h1.trans h3, (h.ok h4).1, ranges_of_block (h.ok h4).2 (h2 r h3) h5, fun kv hk => entOk.same h5 (h.ok h4).2 (h2 r h3) (h6 kv hk)⟩
  | loop l N ps assign body pe σ =>
    obtain ⟨h3, r, h4, h5, h6, h7, h8, h9, h10, h11⟩ := hx
    exact ⟨h1.trans h3, r, (h2 l h3).trans h4, h5, h6, h7, h8, h9, h10, fun t => Rep.step h _ _ (h11 t)⟩
theorem Step.refl (E : Env) : Step E E [] := ⟨rfl, rfl, rfl, Nat.le_refl _, rfl, fun _ _ _ => rfl, fun _ _ => ⟨rfl, fun _ _ => rfl⟩, fun _ h => h, fun _ _ h => .inl h, fun _ h => .inl h, fun _ _ cur _ _ _ h => ⟨cur, h, rfl⟩⟩
theorem Step.trans {E E' E'' : Env} {N M : List Nat} (h : Step E E' N) (k : Step E' E'' M) : Step E E'' (N ++ M) where
  os := k.os.trans h.os
  tape := k.tape.trans h.tape
  output := k.output.trans h.output
  size := Nat.le_trans h.size k.size
  bad := k.bad.trans h.bad
  keep b hb hn := by
    refine (k.keep b (Nat.lt_of_lt_of_le hb h.size) fun n hn' => ?_).trans (h.keep b hb hn)
    rcases h.from_ n b hn' with h1 | ⟨_, h1 | ⟨m, h1⟩⟩
    · exact hn n h1
    · omega
    · exact hn m h1
  same n hn := by
    rw [List.mem_append, not_or] at hn
    obtain ⟨h1, h2⟩ := h.same n hn.1
    obtain ⟨h3, h4⟩ := k.same n hn.2
    exact ⟨h3.trans h1, fun b hb => (h4 b (h1.trans hb)).trans (h2 b hb)⟩
  born n hn := k.born n (h.born n hn)
  from_ n b hb := by
    rcases k.from_ n b hb with h1 | ⟨h1, h2⟩
    · exact h.from_ n b h1
    · refine .inr ⟨Classical.byContradiction fun hu => h.born n hu h1, ?_⟩
      rcases h2 with h2 | ⟨m, h2⟩
      · exact .inl (Nat.le_trans h.size h2)
      · rcases h.from_ m b h2 with h3 | ⟨_, h3⟩
        · exact .inr ⟨m, h3⟩
        · exact h3
  nil_ n hn := by
    rcases k.nil_ n hn with h1 | h1
    · exact h.nil_ n h1
    · exact .inr (Classical.byContradiction fun hu => h.born n hu h1)
  shape n b cur t hb hb0 hc := by
    have h1 : E'.loc n = .at b := by
      rcases k.from_ n b hb with h1 | ⟨h1, _⟩
      · exact h1
      · exact absurd h1 (h.born n (by rw [hb0]; intro hx; cases hx))
    obtain ⟨cur', h2, h3⟩ := h.shape n b cur t h1 hb0 hc
    obtain ⟨cur'', h4, h5⟩ := k.shape n b cur' t hb h1 h2
    exact ⟨cur'', h4, h5.trans h3⟩
theorem Step.more {E E' : Env} {N M : List Nat} (h : Step E E' N) (hs : ∀ n ∈ N, n ∈ M) : Step E E' M := { h with same := fun n hn => h.same n (fun hm => hn (hs n hm)) }
/-- Memory has grown; nothing that stood has turned. -/
theorem Step.grow {E : Env} (hG : Good E) {w' : World} (h : Below E.w.heap.size E.w w') : Step E { E with w := w' } [] where
  os := h.os
  tape := h.tape
  output := h.output
  size := h.size
  bad := rfl
  keep b hb _ := h.block b hb
  same n _ := ⟨rfl, fun b hb => h.block b (hG.lt n b hb).1⟩
  born n hn := hn
  from_ n b hb := .inl hb
  nil_ n hn := .inl hn
  shape n b cur t _ _ hc := ⟨cur, (h.block b (Array.getElem?_eq_some_iff.1 hc).1).trans hc, rfl⟩
theorem Good.grow {E : Env} (hG : Good E) {w' : World} (h : Below E.w.heap.size E.w w') : Good { E with w := w' } :=
  ⟨fun c hc => Nat.lt_of_lt_of_le (hG.old c hc) h.size, hG.inj, fun n b hb => ⟨Nat.lt_of_lt_of_le (hG.lt n b hb).1 h.size, (hG.lt n b hb).2⟩, hG.shp.step (Step.grow hG h)⟩
/-- A name for a new block. -/
def Env.give (E : Env) (w' : World) (n b : Nat) : Env := { w := w', loc := fun m => if m = n then .at b else E.loc m, bad := E.bad }
theorem Step.give {E : Env} (hG : Good E) {w' : World} (h : Below E.w.heap.size E.w w') {n b : Nat} (hn : E.loc n = .unborn) (hb : E.w.heap.size ≤ b) : Step E (E.give w' n b) [n] where
  os := h.os
  tape := h.tape
  output := h.output
  size := h.size
  bad := rfl
  keep b hb _ := h.block b hb
  same m hm := by
    have hm : m ≠ n := by simpa using hm
    exact ⟨by simp [Env.give, hm], fun b hb => h.block b (hG.lt m b hb).1⟩
  born m hm := by
    by_cases e : m = n
    · subst e; exact absurd hn hm
    · simpa [Env.give, e] using hm
  from_ m c hc := by
    by_cases e : m = n
    · subst e
      simp [Env.give] at hc
      subst hc
      exact .inr ⟨hn, .inl hb⟩
    · simp [Env.give, e] at hc
      exact .inl hc
  nil_ m hc := by
    by_cases e : m = n
    · subst e; exact .inr hn
    · simp [Env.give, e] at hc
      exact .inl hc
  shape n b cur t _ _ hc := ⟨cur, (h.block b (Array.getElem?_eq_some_iff.1 hc).1).trans hc, rfl⟩
theorem Good.give {E : Env} (hG : Good E) {w' : World} (h : Below E.w.heap.size E.w w') {n b : Nat} (hb : E.w.heap.size ≤ b) (hb' : b < w'.heap.size) : Good (E.give w' n b) where
  shp := hG.shp.same fun c hc => ⟨⟨Nat.lt_of_lt_of_le hc.1 h.size, hc.2.1, fun m hm => by
    by_cases e : m = n
    · simp [Env.give, e] at hm
      have := hc.1
      omega
    · simp [Env.give, e] at hm
      exact hc.2.2 m hm⟩, h.block c hc.1⟩
  old c hc := Nat.lt_of_lt_of_le (hG.old c hc) h.size
  inj m l c hm hl := by
    by_cases e : m = n <;> by_cases e' : l = n
    · rw [e, e']
    · simp [Env.give, e, e'] at hm hl
      have := (hG.lt l c hl).1
      omega
    · simp [Env.give, e, e'] at hm hl
      have := (hG.lt m c hm).1
      omega
    · simp [Env.give, e, e'] at hm hl
      exact hG.inj m l c hm hl
  lt m c hm := by
    by_cases e : m = n
    · simp [Env.give, e] at hm
      subst hm
      exact ⟨hb', fun hbad => by have := hG.old b hbad; omega⟩
    · simp [Env.give, e] at hm
      exact ⟨Nat.lt_of_lt_of_le (hG.lt m c hm).1 h.size, (hG.lt m c hm).2⟩
end Go.Proofs.Ytfipllnodgbghaa
namespace Go.Proofs.Ytfipllnodgbghaa
open Go.RowKit
set_option linter.unusedVariables false

structure Ctx where
  s : List (Nat × Av)
  h : List (Nat × Hs)
def lkH : List (Nat × Hs) → Nat → Option Hs
  | [], _ => none
  | (t, x) :: r, u => bif Nat.beq t u then some x else lkH r u
theorem beqF {a b : Nat} (h : a ≠ b) : Nat.beq a b = false := by
  cases hb : Nat.beq a b with
  | false => rfl
  | true => exact absurd (Nat.eq_of_beq_eq_true hb) h
theorem beqN {a b : Nat} (h : Nat.beq a b = false) : a ≠ b := by
  intro e
  subst e
  have : Nat.beq a a = true := by simp
  rw [this] at h
  cases h
theorem lkS_eq (t : Nat) (x : Av) (r : List (Nat × Av)) : lkS ((t, x) :: r) t = x := by simp [lkS]
theorem lkS_ne {t u : Nat} (x : Av) (r : List (Nat × Av)) (h : t ≠ u) : lkS ((t, x) :: r) u = lkS r u := by
  have : Nat.beq t u = false := beqF h
  simp [lkS, this]
theorem lkH_app (U h : List (Nat × Hs)) (n : Nat) : lkH (U ++ h) n = (lkH U n).or (lkH h n) := by
  induction U with
  | nil => rfl
  | cons p U ih =>
    obtain ⟨m, y⟩ := p
    simp only [List.cons_append, lkH]
    cases Nat.beq m n <;> simp [ih]
theorem lkH_none {U : List (Nat × Hs)} {n : Nat} (h : n ∉ U.map (·.1)) : lkH U n = none := by
  induction U with
  | nil => rfl
  | cons p U ih =>
    obtain ⟨m, y⟩ := p
    simp only [List.map_cons, List.mem_cons, not_or] at h
    have : Nat.beq m n = false := beqF fun e => h.1 e.symm
    simp [lkH, this, ih h.2]
theorem lkH_some {U : List (Nat × Hs)} {n : Nat} (h : n ∈ U.map (·.1)) : ∃ y, lkH U n = some y := by
  induction U with
  | nil => simp at h
  | cons p U ih =>
    obtain ⟨m, y⟩ := p
    simp only [lkH]
    cases hb : Nat.beq m n with
    | true => exact ⟨y, by simp⟩
    | false =>
      have hne : m ≠ n := beqN hb
      simp only [List.map_cons, List.mem_cons] at h
      rcases h with h | h
      · exact absurd h.symm hne
      · simpa using ih h
def Ctx.put (Γ : Ctx) (d : Option Nat) (x : Av) (U : List (Nat × Hs)) : Ctx := ⟨match d with | some d => (d, x) :: Γ.s | none => Γ.s, U ++ Γ.h⟩
def Holds (E : Env) (tm : Array Value) (Γ : Ctx) : Prop := (∀ t, Rep E (lkS Γ.s t) (tm.getD t undef)) ∧ ∀ n x, lkH Γ.h n = some x → HAt E n x
/-- What an operation leaves: a value, and of the blocks U. -/
def Post (E : Env) (x : Av) (U : List (Nat × Hs)) (v : Value) (w' : World) : Prop :=
  ∃ E' : Env, E'.w = w' ∧ Step E E' (U.map (·.1)) ∧ Good E' ∧ Rep E' x v ∧ ∀ n y, lkH U n = some y → HAt E' n y
def slotOf : Operand → List Nat
  | .tmp t => [t]
  | _ => []
def gslot (ops : Array Oper) (o : Oper) : List Nat :=
  match o.guard with
  | none => []
  | some (g, _) => match (ops[g]?).bind (·.dst) with | some t => [t] | none => []
def readsOf (ops : Array Oper) (o : Oper) : List Nat := o.op.operands.toList.flatMap slotOf ++ gslot ops o
/-- What an operation leaves, a round of a loop over a function among them where b is so. -/
def growsB (b : Bool) (P : Program) (o : Oper) (a : Act) (w : World) (K : Value → World → Prop) : Prop :=
  grows P o a w K ∨ (b = true ∧ ∃ l f tmps assign body w', (execOp a.eval o).run P w = .ok (.round l f tmps assign body) w' ∧ RoundIn Fence.wide 0 P l f tmps assign body w' fun e w'' => ∃ v, e = .returned v ∧ K v w'')
theorem growsB.mono {b : Bool} {P : Program} {o : Oper} {a : Act} {w : World} {K K' : Value → World → Prop} (h : growsB b P o a w K) (hk : ∀ v w', K v w' → K' v w') : growsB b P o a w K' := by
  rcases h with h | ⟨hb, l, f, tmps, assign, body, w', h1, h2⟩
  · refine .inl ?_
    unfold grows at h ⊢
    generalize (execOp a.eval o).run P w = r at *
    cases r with
    | ok n w' =>
      cases n <;> simp only [growUpon] at h ⊢
      case value u => exact hk _ _ h
      case skip => exact hk _ _ h
      case enter f args => exact h.mono fun e w'' ⟨v, he, hh⟩ => ⟨v, he, hk _ _ hh⟩
    | halt x w' => simp only [growUpon] at h
  · exact .inr ⟨hb, l, f, tmps, assign, body, w', h1, h2.mono fun e w'' ⟨v, he, hh⟩ => ⟨v, he, hk _ _ hh⟩⟩
/-- The fence that keeps nothing out, in a round or in none. -/
def wideAt (ro : Option Nat) : Fence := { Fence.wide with round := ro }
theorem wpIn_of_growsB {b : Bool} {ro : Option Nat} {k : Nat} {P : Program} {o : Oper} {a : Act} {w : World} {K : Act → World → Prop} {Q : Exit → Act → World → Prop} (h : growsB b P o a w fun v w' => K (a.put o.dst v) w') : o.wpIn (wideAt ro) k P a w K Q := by
  refine ⟨fun _ _ => trivial, ?_⟩
  have hs : ∀ (Z : Result Next → Prop), (∀ d w', ¬ Z (.ok (.defer d) w')) → (∀ x w', ¬ Z (.halt x w')) → Z ((execOp a.eval o).run P w) → (o.semAt (wideAt ro).round a.eval).run P w = (execOp a.eval o).run P w := by
    intro Z hd hh hz
    cases hro : (wideAt ro).round with
    | none => rfl
    | some l =>
      rw [Oper.semAt_some l a.eval o]
      intro c hc
      unfold execOp at hz
      simp only [hc] at hz
      revert hz
      simp only [Sem.run_bind]
      cases h1 : Sem.run P (resolve a.eval c o.type) w with
      | ok d w' => simp only [Result.andThen_ok, Sem.run_pure]; exact hd d w'
      | halt x w' => simp only [Result.andThen]; exact hh x w'
  rcases h with h | ⟨_, l, f, tmps, assign, body, w', h1, h2⟩
  · unfold grows at h
    rw [hs _ (fun d w' hx => by simp only [growUpon] at hx) (fun x w' hx => by simp only [growUpon] at hx) h]
    generalize (execOp a.eval o).run P w = r at *
    cases r with
    | ok n w' =>
      cases n <;> simp only [growUpon] at h
      case value u => exact h
      case skip => exact h
      case enter f args =>
        refine ⟨fun hd => by simp [wideAt, Fence.wide] at hd, ?_⟩
        refine (show CallsIn (wideAt ro) (k - 1) P f args w' _ from (callsIn_wide (n := k - 1)).2 h).mono ?_
        rintro e w'' ⟨v, rfl, hk⟩
        exact hk
    | halt x w' => simp only [growUpon] at h
  · rw [hs (fun x => x = .ok (.round l f tmps assign body) w') (fun d w' hx => by cases hx) (fun x w' hx => by cases hx) h1, h1]
    refine ⟨fun hd => by simp [wideAt, Fence.wide] at hd, ?_⟩
    have h3 : RoundIn (wideAt ro) (k - 1) P l f tmps assign body w' fun e w'' => ∃ v, e = .returned v ∧ K (a.put o.dst v) w'' := ⟨trivial, fun c cs _ => h2.2 c cs (room_wide _)⟩
    refine h3.mono ?_
    rintro e w'' ⟨v, rfl, hk⟩
    exact hk
/-- An operation, with its guard: from what it reads, what it leaves. -/
def OS (bb : Bool) (P : Program) (ops : Array Oper) (o : Oper) (σ : List (Nat × Av)) (R : List (Nat × Hs)) (x : Av) (U : List (Nat × Hs)) : Prop :=
  ∀ (E : Env) (a : Act), Good E → (∀ t ∈ readsOf ops o, Rep E (lkS σ t) (a.tmps.getD t undef)) → (∀ n y, (n, y) ∈ R → HAt E n y) →
    if Region.wanted o (yielded ops a.tmps) then growsB bb P o a E.w (Post E x U) else Post E x U undef E.w
inductive Ch (bb : Bool) (P : Program) (ops : Array Oper) : List Oper → Ctx → Ctx → List (List Nat × List Nat) → Prop
  | nil (Γ : Ctx) : Ch bb P ops [] Γ Γ []
  | cons {o : Oper} {l : List Oper} {Γ Γ' : Ctx} {F : List (List Nat × List Nat)} {x : Av} {R U : List (Nat × Hs)} (h : OS bb P ops o Γ.s R x U) (hR : ∀ n y, (n, y) ∈ R → lkH Γ.h n = some y) (h' : Ch bb P ops l (Γ.put o.dst x U) Γ' F) :
      Ch bb P ops (o :: l) Γ Γ' ((R.map (·.1), U.map (·.1)) :: F)
theorem getD_set_eq' (tm : Array Value) (d : Nat) (v : Value) (h : d < tm.size) : (tm.setIfInBounds d v).getD d undef = v := by
  simp [Array.getD, h]
theorem getD_set_ne' (tm : Array Value) {d t : Nat} (v : Value) (h : d ≠ t) : (tm.setIfInBounds d v).getD t undef = tm.getD t undef := by
  by_cases ht : t < tm.size
  · simp [Array.getD, ht, h]
  · simp [Array.getD, ht]
theorem put_size (a : Act) (d : Option Nat) (v : Value) : (a.put d v).tmps.size = a.tmps.size := by
  cases d <;> simp [Act.put]
theorem put_defers (a : Act) (d : Option Nat) (v : Value) : (a.put d v).defers = a.defers := by
  cases d <;> rfl
/-- The operation's leavings, taken into the state. -/
theorem Holds.put {E E' : Env} {tm : Array Value} {Γ : Ctx} {x : Av} {U : List (Nat × Hs)} {v : Value} {d : Option Nat} {a : Act} (h : Holds E a.tmps Γ) (hS : Step E E' (U.map (·.1))) (hx : Rep E' x v) (hU : ∀ n y, lkH U n = some y → HAt E' n y)
    (hd : ∀ t, d = some t → t < a.tmps.size) : Holds E' (a.put d v).tmps (Γ.put d x U) := by
  refine ⟨fun t => ?_, fun n y hn => ?_⟩
  · cases d with
    | none => exact Rep.step hS _ _ (h.1 t)
    | some d =>
      show Rep E' (lkS ((d, x) :: Γ.s) t) ((a.tmps.setIfInBounds d v).getD t undef)
      by_cases e : d = t
      · subst e
        rw [lkS_eq, getD_set_eq' _ _ _ (hd d rfl)]
        exact hx
      · rw [lkS_ne _ _ e, getD_set_ne' _ _ e]
        exact Rep.step hS _ _ (h.1 t)
  · have hn : lkH (U ++ Γ.h) n = some y := hn
    rw [lkH_app] at hn
    by_cases hm : n ∈ U.map (·.1)
    · obtain ⟨z, hz⟩ := lkH_some hm
      rw [hz] at hn
      simp at hn
      subst hn
      exact hU n z hz
    · rw [lkH_none hm] at hn
      exact HAt.step hS hm (h.2 n y (by simpa using hn))

/-! ### The text's order -/
def dstLt (N : Nat) (l : List Oper) : Bool := l.all fun o => match o.dst with | some d => decide (d < N) | none => true
section
variable {P : Program} {Q : Exit → Act → World → Prop}
theorem Ch.text {bb : Bool} {ro : Option Nat} {kk : Nat} {ops : Array Oper} {N : Nat} : ∀ {l : List Oper} {Γ Γ' : Ctx} {F : List (List Nat × List Nat)}, Ch bb P ops l Γ Γ' F → dstLt N l = true → ∀ (E : Env) (a : Act), Good E → Holds E a.tmps Γ → a.tmps.size = N →
    (∀ (E' : Env) (a' : Act) (M : List Nat), Good E' → Step E E' M → Holds E' a'.tmps Γ' → a'.tmps.size = N → a'.defers = a.defers → Q .normal a' E'.w) → wpListIn (wideAt ro) kk P ops Q l a E.w := by
  intro l Γ Γ' F h
  induction h with
  | nil Γ => intro _ E a hG hH hN hk; exact hk E a [] hG (Step.refl E) hH hN rfl
  | @cons o l Γ Γ' F x R U h hR h' ih =>
    intro hd E a hG hH hN hk
    simp only [dstLt, List.all_cons, Bool.and_eq_true] at hd
    have hdt : ∀ t, o.dst = some t → t < a.tmps.size := fun t ht => by
      have := hd.1
      rw [ht] at this
      rw [hN]
      simpa using this
    have hop := h E a hG (fun t _ => hH.1 t) (fun n y hn => hH.2 n y (hR n y hn))
    have go : ∀ v w', Post E x U v w' → wpListIn (wideAt ro) kk P ops Q l (a.put o.dst v) w' := by
      rintro v w' ⟨E', rfl, hS, hG', hx, hU⟩
      refine ih (by simpa [dstLt] using hd.2) E' (a.put o.dst v) hG' (hH.put (tm := #[]) hS hx hU hdt) (by rw [put_size, hN]) fun E'' a'' M hG'' hS' hH' hN' hdf => hk E'' a'' _ hG'' (hS.trans hS') hH' hN' (by rw [hdf, put_defers])
    unfold wpListIn
    split
    · rename_i hw
      rw [if_pos hw] at hop
      exact wpIn_of_growsB (hop.mono go)
    · rename_i hw
      rw [if_neg hw] at hop
      exact ⟨fun _ _ => trivial, go _ _ hop⟩
end

/-! ### Any order -/
structure Spec where
  d : Option Nat
  x : Av
  R : List (Nat × Hs)
  U : List (Nat × Hs)
def stL (L : Nat → Bool) : List Spec → Nat → Ctx → Ctx
  | [], _, Γ => Γ
  | e :: l, k, Γ => stL L l (k + 1) (if L k then Γ.put e.d e.x e.U else Γ)
def Spec.wS (e : Spec) (t : Nat) : Prop := e.d = some t
def Spec.wH (e : Spec) (n : Nat) : Prop := n ∈ e.U.map (·.1)
theorem stL_s {L L' : Nat → Bool} {t : Nat} : ∀ (l : List Spec) (k : Nat) (Γ Γ' : Ctx), (∀ j e, l[j]? = some e → e.wS t → L (k + j) = L' (k + j)) → lkS Γ.s t = lkS Γ'.s t → lkS (stL L l k Γ).s t = lkS (stL L' l k Γ').s t
  | [], _, _, _, _, h => h
  | e :: l, k, Γ, Γ', hL, h => by
    unfold stL
    refine stL_s l (k + 1) _ _ (fun j e' he hw => by have := hL (j + 1) e' (by simpa using he) hw; rwa [show k + 1 + j = k + (j + 1) from by omega]) ?_
    by_cases hw : e.wS t
    · have := hL 0 e rfl hw
      simp only [Nat.add_zero] at this
      unfold Spec.wS at hw
      rw [this]
      cases L' k
      · exact h
      · simp [Ctx.put, hw, lkS_eq]
    · have hs : ∀ Γ : Ctx, lkS (Γ.put e.d e.x e.U).s t = lkS Γ.s t := fun Γ => by
        unfold Spec.wS at hw
        cases hd : e.d with
        | none => rfl
        | some d => exact lkS_ne _ _ (fun e' => hw (by rw [hd, e']))
      have h1 : ∀ (b : Bool) (Γ : Ctx), lkS (if b = true then Γ.put e.d e.x e.U else Γ).s t = lkS Γ.s t := fun b Γ => by cases b <;> simp [hs]
      rw [h1, h1, h]
theorem stL_h {L L' : Nat → Bool} {n : Nat} : ∀ (l : List Spec) (k : Nat) (Γ Γ' : Ctx), (∀ j e, l[j]? = some e → e.wH n → L (k + j) = L' (k + j)) → lkH Γ.h n = lkH Γ'.h n → lkH (stL L l k Γ).h n = lkH (stL L' l k Γ').h n
  | [], _, _, _, _, h => h
  | e :: l, k, Γ, Γ', hL, h => by
    unfold stL
    refine stL_h l (k + 1) _ _ (fun j e' he hw => by have := hL (j + 1) e' (by simpa using he) hw; rwa [show k + 1 + j = k + (j + 1) from by omega]) ?_
    by_cases hw : e.wH n
    · have := hL 0 e rfl hw
      simp only [Nat.add_zero] at this
      obtain ⟨y, hy⟩ := lkH_some hw
      rw [this]
      cases L' k
      · exact h
      · simp [Ctx.put, lkH_app, hy]
    · have hs : ∀ Γ : Ctx, lkH (Γ.put e.d e.x e.U).h n = lkH Γ.h n := fun Γ => by simp [Ctx.put, lkH_app, lkH_none hw]
      have h1 : ∀ (b : Bool) (Γ : Ctx), lkH (if b = true then Γ.put e.d e.x e.U else Γ).h n = lkH Γ.h n := fun b Γ => by cases b <;> simp [hs]
      rw [h1, h1, h]
theorem stL_none (l : List Spec) : ∀ (k : Nat) (Γ : Ctx) (L : Nat → Bool), (∀ j, j < l.length → L (k + j) = false) → stL L l k Γ = Γ := by
  induction l with
  | nil => intros; rfl
  | cons e l ih =>
    intro k Γ L h
    unfold stL
    have := h 0 (by simp)
    simp only [Nat.add_zero] at this
    rw [this, if_neg (by simp)]
    exact ih (k + 1) Γ L fun j hj => by rw [show k + 1 + j = k + (j + 1) from by omega]; exact h (j + 1) (by simp; omega)
/-- What the last of the listed has written. -/
theorem stL_last {L : Nat → Bool} : ∀ (l : List Spec) (k : Nat) (Γ : Ctx) (i : Nat) (e : Spec), l[i]? = some e → L (k + i) = true → (∀ t, e.wS t → (∀ j e', l[j]? = some e' → i < j → e'.wS t → L (k + j) = false) → lkS (stL L l k Γ).s t = e.x) ∧
    (∀ n y, lkH e.U n = some y → (∀ j e', l[j]? = some e' → i < j → e'.wH n → L (k + j) = false) → lkH (stL L l k Γ).h n = some y)
  | [], _, _, i, e, h, _ => by simp at h
  | e0 :: l, k, Γ, 0, e, h, hL => by
    simp at h
    subst h
    simp only [Nat.add_zero] at hL
    unfold stL
    rw [hL, if_pos rfl]
    refine ⟨fun t hw hno => ?_, fun n y hy hno => ?_⟩
    · rw [stL_s (L' := fun _ => false) l (k + 1) _ (Γ.put e0.d e0.x e0.U) (fun j e' he hw' => by have := hno (j + 1) e' (by simpa using he) (by omega) hw'; rwa [show k + 1 + j = k + (j + 1) from by omega]) rfl, stL_none _ _ _ _ (fun _ _ => rfl)]
      unfold Spec.wS at hw
      simp [Ctx.put, hw, lkS_eq]
    · rw [stL_h (L' := fun _ => false) l (k + 1) _ (Γ.put e0.d e0.x e0.U) (fun j e' he hw' => by have := hno (j + 1) e' (by simpa using he) (by omega) hw'; rwa [show k + 1 + j = k + (j + 1) from by omega]) rfl, stL_none _ _ _ _ (fun _ _ => rfl)]
      simp [Ctx.put, lkH_app, hy]
  | e0 :: l, k, Γ, i + 1, e, h, hL => by
    unfold stL
    have := stL_last (L := L) l (k + 1) (if L k then Γ.put e0.d e0.x e0.U else Γ) i e (by simpa using h) (by rwa [show k + 1 + i = k + (i + 1) from by omega])
    refine ⟨fun t hw hno => this.1 t hw fun j e' he hj hw' => ?_, fun n y hy hno => this.2 n y hy fun j e' he hj hw' => ?_⟩
    · have := hno (j + 1) e' (by simpa using he) (by omega) hw'
      rwa [show k + 1 + j = k + (j + 1) from by omega]
    · have := hno (j + 1) e' (by simpa using he) (by omega) hw'
      rwa [show k + 1 + j = k + (j + 1) from by omega]
/-- The chain's specs. -/
def SpA (bb : Bool) (P : Program) (ops : Array Oper) : List Oper → List Spec → Ctx → Prop
  | [], [], _ => True
  | o :: l, e :: s, Γ => (e.d = o.dst ∧ OS bb P ops o Γ.s e.R e.x e.U ∧ ∀ n y, (n, y) ∈ e.R → lkH Γ.h n = some y) ∧ SpA bb P ops l s (Γ.put e.d e.x e.U)
  | _, _, _ => False
def fp (e : Spec) : List Nat × List Nat := (e.R.map (·.1), e.U.map (·.1))
theorem Ch.specs {bb : Bool} {P : Program} {ops : Array Oper} {l : List Oper} {Γ Γ' : Ctx} {F : List (List Nat × List Nat)} (h : Ch bb P ops l Γ Γ' F) : ∃ s : List Spec, SpA bb P ops l s Γ ∧ s.map fp = F ∧ stL (fun _ => true) s 0 Γ = Γ' := by
  suffices H : ∀ k, ∃ s : List Spec, SpA bb P ops l s Γ ∧ s.map fp = F ∧ stL (fun _ => true) s k Γ = Γ' from H 0
  induction h with
  | nil Γ => exact fun k => ⟨[], trivial, rfl, rfl⟩
  | @cons o l Γ Γ' F x R U h hR h' ih =>
    intro k
    obtain ⟨s, h1, h2, h3⟩ := ih (k + 1)
    refine ⟨⟨o.dst, x, R, U⟩ :: s, ⟨⟨rfl, h, hR⟩, h1⟩, by simp [h2, fp], ?_⟩
    unfold stL
    simpa using h3
theorem SpA.len {bb : Bool} {P : Program} {ops : Array Oper} : ∀ {l : List Oper} {s : List Spec} {Γ : Ctx}, SpA bb P ops l s Γ → s.length = l.length
  | [], [], _, _ => rfl
  | o :: l, e :: s, Γ, h => by simp [SpA.len h.2]
  | [], _ :: _, _, h => h.elim
  | _ :: _, [], _, h => h.elim
theorem SpA.get {bb : Bool} {P : Program} {ops : Array Oper} : ∀ {l : List Oper} {s : List Spec} {Γ : Ctx} (k : Nat), SpA bb P ops l s Γ → ∀ i o e, l[i]? = some o → s[i]? = some e →
    e.d = o.dst ∧ OS bb P ops o (stL (fun j => decide (j < k + i)) s k Γ).s e.R e.x e.U ∧ ∀ n y, (n, y) ∈ e.R → lkH (stL (fun j => decide (j < k + i)) s k Γ).h n = some y
  | [], [], _, _, _, i, o, e, h, _ => by simp at h
  | o :: l, e :: s, Γ, k, H, 0, o', e', h, h' => by
    simp at h h'
    subst h; subst h'
    have hn : ∀ Γ, stL (fun j => decide (j < k + 0)) s (k + 1) Γ = Γ := fun Γ => stL_none s (k + 1) Γ _ fun j hj => by simp; omega
    unfold stL
    rw [hn, if_neg (by simp)]
    exact H.1
  | o :: l, e :: s, Γ, k, H, i + 1, o', e', h, h' => by
    have := SpA.get (k + 1) H.2 i o' e' (by simpa using h) (by simpa using h')
    unfold stL
    rw [if_pos (by simp), show k + (i + 1) = k + 1 + i from by omega]
    exact this
  | [], _ :: _, _, _, h, _, _, _, _, _ => h.elim
  | _ :: _, [], _, _, h, _, _, _, _, _ => h.elim
end Go.Proofs.Ytfipllnodgbghaa
