/- Plain words on memory for the walks of this seat: a slice that reads as a list of one-cell values, a row of the call's own, and how both are kept. No program stands in this text. -/
import Derived.WalkKit
import Derived.WalkSpells
import Derived.WalkLawsBesides
import Derived.Maps.AppendAt
import Derived.Deep.AppendLies
import Derived.Lib.AppendStr
import Derived.Lib.AppendZeros
import Derived.Lib.Hide
import Derived.Deep.RegionWith
import Derived.Deep.QuietTactic
import Derived.BigQuiet
import Derived.StillTailTactics
import Derived.Deep.LoopGhost
import Derived.Deep.DeepCutAuto
import Derived.Deep.DeepFit
import Derived.Deep.DeepMust
import Derived.Deep.RegionHeld3
import Derived.Deep.RegionLaw
import Derived.Laws.BytesArg
import Derived.Laws.IdiomStrings
namespace Go.Proofs.YtpbaiighifhfnaaDoor
open Go.RowKit

/-- The slice address A leads, below block B, to cells that hold xs (one cell each). -/
def Rd (w : World) (B : Nat) (A : Option Addr) (xs : List Value) : Prop :=
  0 < xs.length → ∃ b o, A = some ⟨b, o, none⟩ ∧ b < B ∧ ∀ j u, xs[j]? = some u → w.cell? ⟨b, o + j, none⟩ = some u

/-- The slice value v is the call's own: it heads a row from block 'base' on, of element type e, and holds xs. -/
def Own (w : World) (base : Nat) (e : TypeId) (v : Value) (xs : List Value) : Prop := w.ownsRow base e 1 v xs.length xs

section
variable {w w' : World} {B B' base : Nat} {e : TypeId} {A : Option Addr} {xs ys : List Value} {v : Value}

theorem Rd.nil (w : World) (B : Nat) (A : Option Addr) : Rd w B A [] := fun h => absurd h (by simp)
theorem Rd.get (h : Rd w B A xs) {k : Nat} (hk : k < xs.length) : ∃ b o, A = some ⟨b, o, none⟩ ∧ b < B ∧ w.cell? ⟨b, o + k, none⟩ = some xs[k] := by
  obtain ⟨b, o, e, hb, hc⟩ := h (by omega)
  exact ⟨b, o, e, hb, hc k _ (List.getElem?_eq_getElem hk)⟩
theorem Rd.keep (h : Rd w B A xs) (hk : ∀ b o, b < B → w'.cell? ⟨b, o, none⟩ = w.cell? ⟨b, o, none⟩) : Rd w' B A xs := fun hn => by
  obtain ⟨b, o, e, hb, hc⟩ := h hn
  exact ⟨b, o, e, hb, fun j u hu => (hk b _ hb).trans (hc j u hu)⟩
theorem Rd.more (h : Rd w B A xs) (hB : B ≤ B') : Rd w B' A xs := fun hn => by
  obtain ⟨b, o, e, hb, hc⟩ := h hn
  exact ⟨b, o, e, by omega, hc⟩
theorem Rd.below (h : Rd w B A xs) (hb : Below B w w') : Rd w' B A xs := h.keep fun _ _ hp => hb.cell hp
theorem Rd.drew (h : Rd w B A xs) : Rd w.drew B A xs := h
theorem Rd.alloc (h : Rd w B A xs) (hB : B ≤ w.heap.size) (o : Obj) : Rd (w.alloc o) B A xs := h.keep fun _ _ hp => World.cell?_alloc_lt w o _ (by simp; omega)
/-- A block that has just been made. -/
theorem Rd.new (w : World) (cs : List Value) (t : TypeId) : Rd (w.alloc (.cells cs.toArray t)) (w.alloc (.cells cs.toArray t)).heap.size (some ⟨w.heap.size, 0, none⟩) cs := fun _ =>
  ⟨w.heap.size, 0, rfl, by simp, fun j u hu => by
    rw [Nat.zero_add, cell_of_row (w.alloc (.cells cs.toArray t)) w.heap.size j cs.toArray t (0, 0) (heap_alloc_new w _)]
    simpa using hu⟩
theorem Rd.setCell (h : Rd w B A xs) {p : Addr} (hB : B ≤ p.block) (u : Value) : Rd (w.setCell p u) B A xs :=
  h.keep fun b o hq => World.cell?_setCell_other w p ⟨b, o, none⟩ u (fun e => by subst e; simp at hB; omega)
theorem Rd.grown (h : Rd w B A xs) {row : Option Nat} (hg : w.grownBy w' row) (hB : B ≤ w.heap.size) (hr : ∀ g, row = some g → B ≤ g) : Rd w' B A xs :=
  h.keep fun b o hp => World.cell?_of_block (a := ⟨b, o, none⟩) (hg.block b (by omega) (fun e => by have := hr _ e.symm; omega))
/-- The part from k on. -/
theorem Rd.drop (h : Rd w B A xs) (k cap : Nat) (hk : k ≤ xs.length) (hc : xs.length ≤ cap) : Rd w B (if cap = k then A else A.map (·.add k)) (xs.drop k) := fun hn => by
  rw [List.length_drop] at hn
  obtain ⟨b, o, rfl, hb, hcell⟩ := h (by omega)
  rw [if_neg (by omega)]
  refine ⟨b, o + k, by simp [Addr.add_lit], hb, fun j u hu => ?_⟩
  rw [List.getElem?_drop] at hu
  have := hcell _ _ hu
  rwa [← Nat.add_assoc] at this
/-- The part up to k. -/
theorem Rd.take (h : Rd w B A xs) (k : Nat) : Rd w B A (xs.take k) := fun hn => by
  rw [List.length_take] at hn
  obtain ⟨b, o, rfl, hb, hcell⟩ := h (by omega)
  refine ⟨b, o, rfl, hb, fun j u hu => hcell j u ?_⟩
  rw [List.getElem?_take] at hu
  split at hu
  · exact hu
  · cases hu

theorem Own.nil (w : World) (base : Nat) (e : TypeId) : Own w base e (.slice none 0 0) [] := ⟨by simp, .inl ⟨rfl, rfl⟩⟩
/-- What an owned value looks like. -/
theorem Own.form (h : Own w base e v xs) : ∃ A c, v = .slice A xs.length c ∧ xs.length ≤ c ∧ c ≤ maxLen ∧ Rd w w.heap.size A xs ∧ (∀ g, v.ownBlock = some g → base ≤ g ∧ g < w.heap.size) := by
  rcases h.2 with ⟨rfl, h0⟩ | ⟨g, cap, cur, rfl, hb, hg, hn, hc, hs, ht⟩
  · have : xs = [] := List.eq_nil_of_length_eq_zero h0
    subst this
    exact ⟨none, 0, rfl, by simp, by simp [maxLen], Rd.nil _ _ _, fun g hg => by simp [Value.ownBlock] at hg⟩
  · refine ⟨some ⟨g, 0, none⟩, cap, rfl, hn, hc, fun _ => ⟨g, 0, rfl, (Array.getElem?_eq_some_iff.1 hg).1, fun j u hu => ?_⟩, fun g' hg' => ?_⟩
    · rw [cell_of_row w g (0 + j) cur e (0, 0) hg, Nat.zero_add]
      rw [← ht, List.getElem?_take] at hu
      split at hu
      · simpa using hu
      · cases hu
    · simp [Value.ownBlock] at hg'
      subst hg'
      exact ⟨hb, (Array.getElem?_eq_some_iff.1 hg).1⟩
theorem Own.cast (h : Own w base e v xs) (he : xs = ys) : Own w base e v ys := he ▸ h
theorem Own.rd {n c : Nat} (h : Own w base e (.slice A n c) xs) : n = xs.length ∧ n ≤ c ∧ Rd w w.heap.size A xs := by
  obtain ⟨A', c', hv, hc, _, hr, _⟩ := h.form
  injection hv with h1 h2 h3
  subst h1; subst h2; subst h3
  exact ⟨rfl, hc, hr⟩
theorem Own.block (h : Own w base e v xs) : ∀ g, v.ownBlock = some g → base ≤ g ∧ g < w.heap.size := by
  obtain ⟨_, _, _, _, _, _, h⟩ := h.form
  exact h
theorem Own.keep (h : Own w base e v xs) (hk : ∀ g, v.ownBlock = some g → w'.heap[g]? = w.heap[g]?) : Own w' base e v xs := by
  refine ⟨h.1, ?_⟩
  rcases h.2 with hn | ⟨g, cap, cur, rfl, hb, hg, r⟩
  · exact .inl hn
  · exact .inr ⟨g, cap, cur, rfl, hb, (hk g rfl).trans hg, r⟩
theorem Own.below (h : Own w base e v xs) (hb : Below w.heap.size w w') : Own w' base e v xs := h.keep fun g hg => hb.block g (h.block g hg).2
theorem Own.less (h : Own w base e v xs) (hb : B ≤ base) : Own w B e v xs := by
  refine ⟨h.1, ?_⟩
  rcases h.2 with hn | ⟨g, cap, cur, rfl, hb', r⟩
  · exact .inl hn
  · exact .inr ⟨g, cap, cur, rfl, by omega, r⟩
theorem Own.take {n c : Nat} (h : Own w base e (.slice A n c) xs) (k : Nat) (hk : k ≤ n) : Own w base e (.slice A k c) (xs.take k) := by
  have hn := h.rd.1
  subst hn
  rcases h.2 with ⟨hv, h0⟩ | ⟨g, cap, cur, hv, hb, hg, hn, hc, hs, ht⟩
  · have : xs = [] := List.eq_nil_of_length_eq_zero h0
    subst this
    obtain rfl : k = 0 := by simpa using hk
    obtain ⟨rfl, _, rfl⟩ := Value.slice.inj hv
    exact Own.nil _ _ _
  · obtain ⟨rfl, _, rfl⟩ := Value.slice.inj hv
    have hl : (xs.take k).length = k := by rw [List.length_take]; omega
    refine ⟨by omega, .inr ⟨g, c, cur, by rw [hl], hb, hg, by omega, hc, hs, ?_⟩⟩
    rw [hl, Nat.mul_one, ← ht, List.take_take, Nat.mul_one, Nat.min_eq_left hk]
theorem Own.drew (h : Own w base e v xs) : Own w.drew base e v xs := h
theorem Own.alloc (h : Own w base e v xs) (o : Obj) : Own (w.alloc o) base e v xs := World.ownsRow.alloc h o
theorem Own.grown (h : Own w base e v xs) {row : Option Nat} (hg : w.grownBy w' row) (hne : ∀ g, v.ownBlock = some g → row ≠ some g) : Own w' base e v xs :=
  h.keep fun g hb => hg.block g (h.block g hb).2 (fun e => hne g hb e.symm)

/-- The cells of a list of numbers of one kind. -/
def cb (k : IntKind) (zs : List Int) : List Value := zs.map (Value.int k)
@[simp] theorem cb_length (k : IntKind) (zs : List Int) : (cb k zs).length = zs.length := by simp [cb]
theorem cb_append (k : IntKind) (xs ys : List Int) : cb k (xs ++ ys) = cb k xs ++ cb k ys := by simp [cb]
theorem cb_one (k : IntKind) (zs : List Int) : ∀ u ∈ cb k zs, u.oneCell' = true := ints_oneCell k zs
theorem cb_take (k : IntKind) (zs : List Int) (n : Nat) : (cb k zs).take n = cb k (zs.take n) := by simp [cb]
theorem cb_drop (k : IntKind) (zs : List Int) (n : Nat) : (cb k zs).drop n = cb k (zs.drop n) := by simp [cb]
theorem strCells_cb (s : ByteArray) : Lib.strCells s = cb .u8 (s.data.toList.map fun b => (b.toNat : Int)) := by simp [Lib.strCells, cb]
/-- An element of a slice of numbers that came in. -/
theorem Rd.num {k : IntKind} {zs : List Int} (h : Rd w B A (cb k zs)) {i : Nat} (hi : i < zs.length) : ∃ b o, A = some ⟨b, o, none⟩ ∧ b < B ∧ w.cell? ⟨b, o + i, none⟩ = some (.int k zs[i]) := by
  obtain ⟨b, o, e, hb, hc⟩ := h.get (k := i) (by simpa using hi)
  refine ⟨b, o, e, hb, hc.trans ?_⟩
  simp [cb]

/-- A call hands back a slice of its own that holds xs, and leaves all that was there as it was. -/
def RetOwn (w : World) (e : TypeId) (xs : List Value) (en : Ending) (w' : World) : Prop := ∃ A n c, en = .returned (.slice A n c) ∧ Own w' w.heap.size e (.slice A n c) xs ∧ Below w.heap.size w w'

/-- A literal of the call's own. -/
theorem Own.new (w : World) (cs : List Value) (e : TypeId) (n : Nat) (hn : n = cs.length) (hb : base ≤ w.heap.size) (hm : n ≤ 9223372036854775807) : Own (w.alloc (.cells cs.toArray e)) base e (.slice (some ⟨w.heap.size, 0, none⟩) n n) cs := by
  subst hn
  have := World.ownsRow_lit (base := base) (e := e) (size := 1) w cs.toArray cs.length hb (by simp only [maxLen]; omega) (by simp)
  simpa [Own] using this

/-- Block g holds just the cells cs, none frozen. -/
def Blk (w : World) (g : Nat) (t : TypeId) (cs : List Value) : Prop := w.heap[g]? = some (.cells cs.toArray t (0, 0))
section
variable {g : Nat} {t : TypeId} {cs : List Value}
theorem Blk.lt (h : Blk w g t cs) : g < w.heap.size := (Array.getElem?_eq_some_iff.1 h).1
theorem Blk.cell (h : Blk w g t cs) (i : Nat) : w.cell? ⟨g, i, none⟩ = cs[i]? := by
  rw [cell_of_row w g i cs.toArray t (0, 0) h]; simp
theorem Blk.frozen (h : Blk w g t cs) (i : Nat) : w.frozen? ⟨g, i, none⟩ = false := by
  unfold Blk at h
  simp [World.frozen?, h]
theorem Blk.new (w : World) (t : TypeId) (cs : List Value) : Blk (w.alloc (.cells cs.toArray t)) w.heap.size t cs := heap_alloc_new w _
theorem Blk.drew (h : Blk w g t cs) : Blk w.drew g t cs := h
theorem Blk.alloc (h : Blk w g t cs) (o : Obj) : Blk (w.alloc o) g t cs := (Below.heap_alloc w o g h.lt).trans h
theorem Blk.below (h : Blk w g t cs) (hb : Below B w w') (hg : g < B) : Blk w' g t cs := (hb.block g hg).trans h
theorem Blk.far (h : Blk w g t cs) {p : Addr} (hp : g ≠ p.block) (u : Value) : Blk (w.setCell p u) g t cs := (Below.heap_setCell w p u g hp).trans h
theorem Blk.set_ (h : Blk w g t cs) (i : Nat) (u : Value) : Blk (w.setCell ⟨g, i, none⟩ u) g t (cs.set i u) := by
  unfold Blk at h ⊢
  simp [World.setCell, Array.getElem?_modify, h]
theorem Blk.cast {ds : List Value} (h : Blk w g t cs) (e : cs = ds) : Blk w g t ds := e ▸ h
theorem Blk.one {a : Value} (h : Blk w g t [a]) : w.cell? ⟨g, 0, none⟩ = some a ∧ w.frozen? ⟨g, 0, none⟩ = false := ⟨h.cell 0, h.frozen 0⟩
theorem Blk.two {a b : Value} (h : Blk w g t [a, b]) : w.cell? ⟨g, 0, none⟩ = some a ∧ w.cell? ⟨g, 1, none⟩ = some b ∧ w.frozen? ⟨g, 0, none⟩ = false ∧ w.frozen? ⟨g, 1, none⟩ = false := ⟨h.cell 0, h.cell 1, h.frozen 0, h.frozen 1⟩
theorem Blk.three {a b c : Value} (h : Blk w g t [a, b, c]) : w.cell? ⟨g, 0, none⟩ = some a ∧ w.cell? ⟨g, 1, none⟩ = some b ∧ w.cell? ⟨g, 2, none⟩ = some c ∧ w.frozen? ⟨g, 0, none⟩ = false ∧ w.frozen? ⟨g, 1, none⟩ = false ∧ w.frozen? ⟨g, 2, none⟩ = false :=
  ⟨h.cell 0, h.cell 1, h.cell 2, h.frozen 0, h.frozen 1, h.frozen 2⟩
end
theorem Blk.threeA {g : Nat} {t : TypeId} {a b c : Value} (h : Blk w g t [a, b, c]) : (∀ o, (w.alloc o).cell? ⟨g, 0, none⟩ = some a) ∧ (∀ o, (w.alloc o).cell? ⟨g, 1, none⟩ = some b) ∧ (∀ o, (w.alloc o).cell? ⟨g, 2, none⟩ = some c) ∧ (∀ o, (w.alloc o).frozen? ⟨g, 0, none⟩ = false) ∧ (∀ o, (w.alloc o).frozen? ⟨g, 1, none⟩ = false) ∧ (∀ o, (w.alloc o).frozen? ⟨g, 2, none⟩ = false) :=
  ⟨fun o => (h.alloc o).cell 0, fun o => (h.alloc o).cell 1, fun o => (h.alloc o).cell 2, fun o => (h.alloc o).frozen 0, fun o => (h.alloc o).frozen 1, fun o => (h.alloc o).frozen 2⟩
theorem below_set3 {a : World} (h : Below B a w) {g : Nat} (hg : B ≤ g) (x y z : Value) : Below B a (((w.setCell ⟨g, 0, none⟩ x).setCell ⟨g, 1, none⟩ y).setCell ⟨g, 2, none⟩ z) :=
  ((h.setCell (p := ⟨g, 0, none⟩) hg x).setCell (p := ⟨g, 1, none⟩) hg y).setCell (p := ⟨g, 2, none⟩) hg z
/-- What lay below B reads as it did. -/
theorem bcell {B : Nat} {W w1 : World} (hb : Below B W w1) : (∀ b o, b < B → w1.cell? ⟨b, o, none⟩ = W.cell? ⟨b, o, none⟩) ∧ (∀ b o, b < B → w1.frozen? ⟨b, o, none⟩ = W.frozen? ⟨b, o, none⟩) :=
  ⟨fun b o h => hb.cell (p := ⟨b, o, none⟩) h, fun b o h => hb.frozen (p := ⟨b, o, none⟩) h⟩
theorem below_drewN {a w : World} (h : Below B a w) (n : Nat) : Below B a (w.drewN n) := ⟨h.os, h.tape, h.output, h.size, h.block⟩
/-- An append onto a row of the call's own leaves all below as it was. -/
theorem below_own {a : World} (h : Below B a w) (hg : w.grownBy w' v.ownBlock) (ho : Own w base e v xs) (hB : B ≤ base) (hs : B ≤ w.heap.size) : Below B a w' :=
  h.grown hg hs fun k hk => by have := (ho.block k hk).1; omega
end

theorem tmod_cases (n k : Int) : (0 ≤ n ∧ n.tmod k = n % k) ∨ (n < 0 ∧ n.tmod k = -((-n) % k)) := by
  by_cases h : 0 ≤ n
  · exact .inl ⟨h, Int.tmod_eq_emod_of_nonneg h⟩
  · refine .inr ⟨by omega, ?_⟩
    have : n.tmod k = -((-n).tmod k) := by rw [Int.neg_tmod, Int.neg_neg]
    rw [this, Int.tmod_eq_emod_of_nonneg (by omega)]
theorem tdiv_cases (n k : Int) : (0 ≤ n ∧ n.tdiv k = n / k) ∨ (n < 0 ∧ n.tdiv k = -((-n) / k)) := by
  by_cases h : 0 ≤ n
  · exact .inl ⟨h, Int.tdiv_eq_ediv_of_nonneg h⟩
  · refine .inr ⟨by omega, ?_⟩
    have : n.tdiv k = -((-n).tdiv k) := by rw [Int.neg_tdiv, Int.neg_neg]
    rw [this, Int.tdiv_eq_ediv_of_nonneg (by omega)]
/-- What 'open_ints' gives of an argument, in this text's words. -/
theorem rd_of_row {k : IntKind} {w : World} {x : Addr} {l c : Nat} {zs : List Int} (hl : l ≤ c) (hm : c ≤ maxLen) (hz : zs.length = c) (hcell : ∀ i, i < zs.length → w.cell? (x.add i) = some (.int k (zs.getD i 0))) (hwz : ∀ n ∈ zs, (Lit.int k n).wf = true) :
    ∃ ys : List Int, l = ys.length ∧ Rd w w.heap.size (some x) (cb k ys) ∧ (∀ z ∈ ys, (Lit.int k z).wf = true) ∧ l ≤ c ∧ c ≤ maxLen := by
  refine ⟨zs.take l, by rw [List.length_take]; omega, fun h0 => ?_, fun z hz => hwz z (List.mem_of_mem_take hz), hl, hm⟩
  rw [cb_length, List.length_take] at h0
  obtain ⟨b, o, spot⟩ := x
  have h00 := hcell 0 (by omega)
  have hspot : spot = none := by simpa [Addr.add] using World.cell?_spot h00
  subst hspot
  refine ⟨b, o, rfl, World.block_lt_of_cell? w _ h00, fun j u hu => ?_⟩
  have hj := (List.getElem?_eq_some_iff.1 hu).1
  rw [cb_length, List.length_take] at hj
  have := hcell j (by omega)
  rw [Addr.add_lit] at this
  rw [this, ← hu]
  simp [cb, List.getD, show j < l by omega, List.getElem?_eq_getElem (show j < zs.length by omega)]
theorem wf_u8 {z : Int} (h : (Lit.int .u8 z).wf = true) : 0 ≤ z ∧ z < 256 := by
  simp [Lit.wf, IntKind.min, IntKind.max, IntKind.bits, IntKind.signed] at h; omega
theorem wf_u64 {z : Int} (h : (Lit.int .u64 z).wf = true) : 0 ≤ z ∧ z ≤ 18446744073709551615 := by
  simp [Lit.wf, IntKind.min, IntKind.max, IntKind.bits, IntKind.signed] at h; omega
theorem wf_i64 {z : Int} (h : (Lit.int .i64 z).wf = true) : -9223372036854775808 ≤ z ∧ z ≤ 9223372036854775807 := by
  simp [Lit.wf, IntKind.min, IntKind.max, IntKind.bits, IntKind.signed] at h; omega
theorem one1 (k : IntKind) (n : Int) : ∀ u ∈ [Value.int k n], u.oneCell' = true := by
  intro u hu
  rw [List.mem_singleton] at hu
  subst hu; rfl
theorem one2 (k : IntKind) (n m : Int) : ∀ u ∈ [Value.int k n, Value.int k m], u.oneCell' = true := by
  intro u hu
  simp only [List.mem_cons, List.not_mem_nil, or_false] at hu
  rcases hu with rfl | rfl <;> rfl
theorem w_u16 (n : Int) : IntKind.u16.wrap n = n % 65536 := by simp [IntKind.wrap, IntKind.bits, IntKind.signed]
theorem w_i16 (n : Int) : IntKind.i16.wrap n = (n + 32768) % 65536 - 32768 := by simp only [IntKind.wrap, IntKind.bits, IntKind.signed]; simp; split <;> omega
theorem w_u64 (n : Int) : IntKind.u64.wrap n = n % 18446744073709551616 := by simp [IntKind.wrap, IntKind.bits, IntKind.signed]
theorem ret_int {k : IntKind} {a b : Int} (h : a = b) : Ending.returned (.int k a) = .returned (.int k b) := by rw [h]

theorem or_hi (a b i : Nat) (h : b < 2 ^ i) : (2 ^ i * a ||| b) = 2 ^ i * a + b := (Nat.two_pow_add_eq_or_of_lt h a).symm
theorem u64_or_hi (a b i : Nat) (hb : b < 2 ^ i) (h : 2 ^ i * a + b < 18446744073709551616) : bits .or .u64 ((2 ^ i * a : Nat) : Int) (b : Int) = ((2 ^ i * a + b : Nat) : Int) := by
  rw [u64_or_nat _ _ (by omega) (by omega), or_hi a b i hb]
theorem ofInt_i64' (a : Nat) (ha : a < 9223372036854775808) : (BitVec.ofInt 64 (a : Int)).toNat = a := by
  rw [BitVec.ofInt_natCast, BitVec.toNat_ofNat]; exact Nat.mod_eq_of_lt (by omega)
theorem i64_or_nat' (a b : Nat) (ha : a < 9223372036854775808) (hb : b < 9223372036854775808) : bits .or .i64 (a : Int) (b : Int) = ((a ||| b : Nat) : Int) := by
  have hx : a ||| b < 2 ^ 63 := Nat.or_lt_two_pow (by omega) (by omega)
  show IntKind.i64.wrap ((BitVec.ofInt 64 (a : Int) ||| BitVec.ofInt 64 (b : Int)).toNat : Int) = _
  rw [BitVec.toNat_or, ofInt_i64' a ha, ofInt_i64' b hb, IntKind.wrap_i64]
  omega
theorem i64_or_lo (a b i : Nat) (hb : b < 2 ^ i) (h : 2 ^ i * a + b < 9223372036854775808) : bits .or .i64 (b : Int) ((2 ^ i * a : Nat) : Int) = ((b + 2 ^ i * a : Nat) : Int) := by
  rw [i64_or_nat' _ _ (by omega) (by omega), Nat.or_comm, or_hi a b i hb, Nat.add_comm]

/-! ### append -/
section
variable {P : Program} {w : World} {ops : Array Oper} {rest : List Oper} {o : Oper} {a : Act} {Q : Exit → Act → World → Prop}

/-- A row of the table for an element type of one cell. -/
structure Elem (P : Program) (t e : TypeId) (z : Value) (bytes : Nat) : Prop where
  slice : P.underlying t = some (.slice e)
  info : ∃ i, P.info? e = some i ∧ i.zero = some z ∧ i.size = 1 ∧ i.bytes = bytes
  one : z.cells = #[z]

theorem run_app {t e ty : TypeId} {z : Value} {bytes : Nat} (E : Elem P t e z bytes) {base : Nat} {v : Value} {xs : List Value} (hown : Own w base e v xs) {B : Nat} {A : Option Addr} {m c : Nat} {news : List Value}
    (hr : Rd w B A news) (hm : m = news.length) (h1 : ∀ u ∈ news, u.oneCell' = true) (hb : (xs.length + news.length) * bytes ≤ 140737488355328) (h63 : xs.length + news.length ≤ 9223372036854775807) (hbase : base ≤ w.heap.size) :
    ∃ v' w', (Builtin.append_ #[t, t] ty #[v, .slice A m c]).run P w = .ok v' w' ∧ Own w' base e v' (xs ++ news) ∧ w.grownBy w' v.ownBlock ∧ (v'.ownBlock = v.ownBlock ∨ v'.ownBlock = some w.heap.size) := by
  obtain ⟨i, hi, hz, hsz, hby⟩ := E.info
  subst hm
  by_cases h0 : news.length = 0
  · have hn : news = [] := List.eq_nil_of_length_eq_zero h0
    subst hn
    refine ⟨v, w, ?_, by simpa [Own] using hown, World.grownBy.refl w _, .inl rfl⟩
    rcases A with _ | ad
    · rcases hown.2 with ⟨rfl, _⟩ | ⟨g, cap, cur, rfl, _, _, hnc, _⟩
      · simp [Builtin.append_, run_underlying E.slice, sizeOf, typeInfo, hi, Builtin.lenOf, Builtin.firstCells]
      · simp [Builtin.append_, run_underlying E.slice, sizeOf, typeInfo, hi, Builtin.lenOf, Builtin.firstCells, hnc, storeCells]
    · have hf : ∀ s : Nat, (Builtin.firstCells s 0 (.slice (some ad) 0 c)).run P w = .ok #[] w := fun s => by
        have := run_firstCells_some (P := P) w s 0 ad 0 c [] (by simp) (by simp)
        simpa using this
      have hn : ∀ s : Nat, (Builtin.firstCells s 0 (.slice none 0 0)).run P w = .ok #[] w := fun s => run_firstCells_none w s 0 0 0
      rcases hown.2 with ⟨rfl, _⟩ | ⟨g, cap, cur, rfl, _, _, hnc, _⟩
      · simp [Builtin.append_, run_underlying E.slice, sizeOf, typeInfo, hi, Builtin.lenOf, hf]
      · simp [Builtin.append_, run_underlying E.slice, sizeOf, typeInfo, hi, Builtin.lenOf, hf, hnc, storeCells]
  · obtain ⟨b, off, rfl, _, hc⟩ := hr (by omega)
    obtain ⟨v', w', r, h2, h3, _, h5⟩ := run_append_own_at (P := P) w base t ty e i z 1 bytes E.slice hi hz hsz hby (by rw [E.one]; rfl) (by omega) v xs.length xs hown ⟨b, off, none⟩ news.length c news (by omega)
      (fun j u hu => by rw [Addr.add_lit]; exact hc j u hu) h1 (by simp only [maxLen]; omega) hb hbase
    exact ⟨v', w', r, by simpa [Own] using h2, h3, h5⟩

/-- 'out = append(out, ..)' onto a row of the call's own. -/
theorem wp_app_at {t e : TypeId} {z : Value} {bytes : Nat} (E : Elem P t e z bytes) (hgd : o.guard = none) (s x : Operand)
    (ho : o.op = .call { callee := .builtin .append, args := #[s, x], argTypes := #[t, t] }) {base : Nat} {v : Value} {xs : List Value} (hs : a.eval s = v) (hown : Own w base e v xs) {B : Nat} {A : Option Addr} {m c : Nat} {news : List Value}
    (hx : a.eval x = .slice A m c) (hr : Rd w B A news) (hm : m = news.length) (h1 : ∀ u ∈ news, u.oneCell' = true) (hb : (xs.length + news.length) * bytes ≤ 140737488355328) (h63 : xs.length + news.length ≤ 9223372036854775807) (hbase : base ≤ w.heap.size)
    (h : ∀ A' n' c' w', Own w' base e (.slice A' n' c') (xs ++ news) → w.grownBy w' v.ownBlock → ((Value.slice A' n' c').ownBlock = v.ownBlock ∨ (Value.slice A' n' c').ownBlock = some w.heap.size) →
      wpList P ops Q rest (a.put o.dst (.slice A' n' c')) w') : wpList P ops Q (o :: rest) a w := by
  obtain ⟨v', w', hrun, h2, h3, h4⟩ := run_app (ty := o.type) E hown (c := c) hr hm h1 hb h63 hbase
  refine wpList_plain hgd fun K hK => ?_
  unfold Oper.wp execOp
  simp only [ho, resolve, invoke, builtin, Sem.run_bind, Sem.run_pure, Result.andThen_ok, List.map_toArray, List.map_cons, List.map_nil, hs, hx, hrun]
  obtain ⟨A', c', rfl, _⟩ := h2.form
  exact hK _ _ (h A' _ c' w' h2 h3 h4)

/-- 'out = append(out, ..)' onto a row of the call's own. -/
theorem wp_app {t e : TypeId} {z : Value} {bytes : Nat} (E : Elem P t e z bytes) (hgd : o.guard = none) (s x : Operand)
    (ho : o.op = .call { callee := .builtin .append, args := #[s, x], argTypes := #[t, t] }) {base : Nat} {v : Value} {xs : List Value} (hs : a.eval s = v) (hown : Own w base e v xs) {B : Nat} {A : Option Addr} {m c : Nat} {news : List Value}
    (hx : a.eval x = .slice A m c) (hr : Rd w B A news) (hm : m = news.length) (h1 : ∀ u ∈ news, u.oneCell' = true) (hb : (xs.length + news.length) * bytes ≤ 140737488355328) (h63 : xs.length + news.length ≤ 9223372036854775807) (hbase : base ≤ w.heap.size)
    (h : ∀ A' n' c' w', Own w' base e (.slice A' n' c') (xs ++ news) → w.grownBy w' v.ownBlock → wpList P ops Q rest (a.put o.dst (.slice A' n' c')) w') : wpList P ops Q (o :: rest) a w :=
  wp_app_at E hgd s x ho hs hown hx hr hm h1 hb h63 hbase fun A' n' c' w' h2 h3 _ => h A' n' c' w' h2 h3

/-- 'append([]T(nil), make([]T, n)...)', 0 < n. -/
theorem wp_app_zeros {t e tn : TypeId} {kn : IntKind} {z : Value} {bytes : Nat} (E : Elem P t e z bytes) (htn : P.underlying tn = some (.int kn)) (hgd : o.guard = none) (s x : Operand)
    (ho : o.op = .call { callee := .builtin .append, args := #[s, x], argTypes := #[t, tn] }) (hs : a.eval s = .slice none 0 0) {k : IntKind} {n : Nat} (hx : a.eval x = .int k n) (h0 : 0 < n) (hb : n * bytes ≤ 281474976710656) (h63 : n ≤ 9223372036854775807)
    (h : ∀ A c w', Own w' w.heap.size e (.slice A n c) (List.replicate n z) → Below w.heap.size w w' → wpList P ops Q rest (a.put o.dst (.slice A n c)) w') : wpList P ops Q (o :: rest) a w := by
  obtain ⟨i, hi, hz, hsz, hby⟩ := E.info
  have hrun := Lib.run_append_nil_zeros (P := P) w t tn o.type e i z k kn E.slice htn hi hz n h0 (by omega) (by omega) (by rw [hby]; exact hb)
  refine Lib.wpList_append_run w hgd s x t tn ho _ _ hs hx _ _ hrun (h _ _ _ ?_ ?_)
  · have hc := grownCap_ge w n 0 e
    have hm := grownCap_le_maxLen w n 0 e (by simp only [maxLen]; omega)
    have hl : ∀ m, (Builtin.zeroCells z.cells m).toList = List.replicate m z := by
      intro m
      rw [E.one]
      apply List.ext_getElem?
      intro j
      by_cases hj : j < m
      · simp [Builtin.zeroCells, hj, Nat.mod_one]
      · simp [Builtin.zeroCells, hj]
    refine ⟨by simp, .inr ⟨w.heap.size, grownCap w n 0 e, _, by simp, Nat.le_refl _, heap_alloc_new _ _, by simpa using hc, hm, ?_, ?_⟩⟩
    · simp [size_zeroCells, E.one]; omega
    · rw [Array.toList_append, hl, hl, List.length_replicate, Nat.mul_one, List.take_append_of_le_length (by simp), List.take_of_length_le (by simp)]
  · exact (Below.refl _ _).drew.alloc (Nat.le_refl _) _

/-- 'out = append(out, s...)', s a string. -/
theorem wp_app_str {t e u : TypeId} (E : Elem P t e (.int .u8 0) 1) (hu : P.underlying u = some .string) (hgd : o.guard = none) (sl x : Operand)
    (ho : o.op = .call { callee := .builtin .append, args := #[sl, x], argTypes := #[t, u] }) {base : Nat} {v : Value} {xs : List Value} (hs : a.eval sl = v) (hown : Own w base e v xs) {s : ByteArray} (hx : a.eval x = .string s)
    (hb : xs.length + s.size ≤ 140737488355328) (hbase : base ≤ w.heap.size)
    (h : ∀ A' n' c' w', Own w' base e (.slice A' n' c') (xs ++ Lib.strCells s) → w.grownBy w' v.ownBlock → wpList P ops Q rest (a.put o.dst (.slice A' n' c')) w') : wpList P ops Q (o :: rest) a w := by
  obtain ⟨i, hi, hz, hsz, hby⟩ := E.info
  obtain ⟨v', w', hrun, h2, h3, _⟩ := Lib.run_append_own_string (P := P) w base t u o.type e i E.slice hu hi hz hsz hby v xs.length xs hown s (by simp only [maxLen]; omega) hb hbase
  have h2' : Own w' base e v' (xs ++ Lib.strCells s) := by simpa [Own, Lib.strCells_length] using h2
  refine wpList_plain hgd fun K hK => ?_
  unfold Oper.wp execOp
  simp only [ho, resolve, invoke, builtin, Sem.run_bind, Sem.run_pure, Result.andThen_ok, List.map_toArray, List.map_cons, List.map_nil, hs, hx, hrun]
  obtain ⟨A', c', rfl, _⟩ := h2'.form
  exact hK _ _ (h A' _ c' w' h2' h3)

/-- 'string(b)', b a slice of bytes. -/
theorem conv_str {src e dst : TypeId} (hs : P.underlying src = some (.slice e)) (he : P.underlying e = some (.int .u8)) (hd : P.underlying dst = some .string) {B : Nat} {A : Option Addr} {n c : Nat} {xs : List Int} (hr : Rd w B A (cb .u8 xs)) (hn : n = xs.length) :
    (convert src dst (.slice A n c)).run P w = .ok (.string (strOfNums xs)) w := by
  subst hn
  by_cases h0 : xs.length = 0
  · have hx : xs = [] := List.eq_nil_of_length_eq_zero h0
    subst hx
    rcases A with _ | ad
    · exact run_convert_bytes_nil w src e hs he _ c dst hd
    · rw [run_convert_bytes_string w src dst e _ _ c hs he hd]
      have := run_bytesToString (P := P) w ad 0 c [] (by
        have := run_loadCells_list (P := P) w ad [] (by simp)
        simpa using this)
      exact this
  · obtain ⟨b, o, rfl, _, hc⟩ := hr (by simp; omega)
    refine run_convert_bytes_arg w src e hs he b o _ c xs rfl (fun i hi => ?_) dst hd
    rw [hc i (.int .u8 xs[i]) (by simp [cb, List.getElem?_eq_getElem hi])]
    simp [List.getD, List.getElem?_eq_getElem hi]

/-- '[]byte(s)': a new row, read from here on. -/
theorem conv_bytes {src e dst : TypeId} (hs : P.underlying src = some .string) (hd : P.underlying dst = some (.slice e)) (he : P.underlying e = some (.int .u8)) (w : World) (s : ByteArray) :
    ∃ A c w', (convert src dst (.string s)).run P w = .ok (.slice A s.size c) w' ∧ Rd w' w'.heap.size A (Lib.strCells s) ∧ Below w.heap.size w w' := by
  have hrun := run_bytes_of_string (P := P) w src dst e s hs hd he
  refine ⟨_, _, _, hrun, fun _ => ⟨w.heap.size, 0, rfl, by simp, fun j u hu => ?_⟩, ((Below.refl _ _).drew.alloc (Nat.le_refl _) _)⟩
  have hj : j < s.data.size := by
    have := (List.getElem?_eq_some_iff.1 hu).1
    rw [Lib.strCells_length] at this
    exact this
  rw [Nat.zero_add, cell_of_row (w.drew.alloc _) w.heap.size j _ e _ (heap_alloc_new w.drew _), bytesRow_at _ _ _ hj]
  rw [← hu, Lib.strCells, List.getElem?_map, Array.getElem?_toList, Array.getElem?_eq_getElem hj]
  rfl

theorem wp_str_bytes {src e dst : TypeId} (hs : P.underlying src = some .string) (hd : P.underlying dst = some (.slice e)) (he : P.underlying e = some (.int .u8)) (hgd : o.guard = none) (x : Operand)
    (ho : o.op = .convert src dst x) {s : ByteArray} (hx : a.eval x = .string s)
    (h : ∀ A c w', Rd w' w'.heap.size A (Lib.strCells s) → Below w.heap.size w w' → wpList P ops Q rest (a.put o.dst (.slice A s.size c)) w') : wpList P ops Q (o :: rest) a w := by
  obtain ⟨A, c, w', hrun, h2, h3⟩ := conv_bytes (P := P) hs hd he w s
  refine wpList_plain hgd fun K hK => ?_
  unfold Oper.wp execOp
  simp only [ho, hx, hrun, Sem.run_bind, Result.andThen_ok]
  exact hK _ _ (h A c w' h2 h3)
end

end Go.Proofs.YtpbaiighifhfnaaDoor
