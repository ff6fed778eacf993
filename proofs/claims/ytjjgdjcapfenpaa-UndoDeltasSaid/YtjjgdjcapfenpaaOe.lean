/- The operations on blocks of the call's own, over abstract values; more operations on plain values. No program stands in this text. -/
import Derived.Test.YtjjgdjcapfenpaaOd
import Derived.Laws.OwnMore
import Derived.ChangeKeysEq
namespace Go.Proofs.Ytjjgdjcapfenpaa
open Go.RowKit
set_option linter.unusedVariables false
set_option linter.unusedSimpArgs false

section
variable {P : Program} {o : Oper} {x y : Av} {R U : List (Nat × Hs)} {ρ : Operand → Av} {p q : Operand} {T : TypeId}

/-! ### Plain values -/
def boolB (P : Program) (T : TypeId) : Bool := match P.underlying T with | some .bool => true | _ => false
theorem oc_binB_eq {T' : TypeId} {a b : Bool} (ho : o.op = .binOp .eql T p q T') (hp : ρ p = .val (.bool a)) (hq : ρ q = .val (.bool b)) (hT : boolB P T = true) : OC P o ρ [] (.val (.bool (a == b))) [] := oc_read fun E c hG hr _ => by
  have h1 := hr p (by simp [ho, Op.operands])
  have h2 := hr q (by simp [ho, Op.operands])
  rw [hp] at h1
  rw [hq] at h2
  unfold Rep at h1 h2
  have hu : P.underlying T = some .bool := by
    unfold boolB at hT
    split at hT
    · assumption
    · cases hT
  have he : ∀ d, (Op.equalIn (d + 1) T (.bool a) (.bool b)).run P E.w = .ok (a == b) E.w := fun d => by
    unfold Op.equalIn
    rw [Sem.run_bind, run_underlying hu E.w]
    rfl
  refine ⟨.bool (a == b), ?_, by unfold Rep; rfl⟩
  simp only [execOp, ho, h1, h2, eqGuard, binOp, Op.equal, Sem.run_bind]
  have := he 9999
  simp [Op.maxDepth, this]
theorem oc_binB_ne {T' : TypeId} {a b : Bool} (ho : o.op = .binOp .neq T p q T') (hp : ρ p = .val (.bool a)) (hq : ρ q = .val (.bool b)) (hT : boolB P T = true) : OC P o ρ [] (.val (.bool (a != b))) [] := oc_read fun E c hG hr _ => by
  have h1 := hr p (by simp [ho, Op.operands])
  have h2 := hr q (by simp [ho, Op.operands])
  rw [hp] at h1
  rw [hq] at h2
  unfold Rep at h1 h2
  have hu : P.underlying T = some .bool := by
    unfold boolB at hT
    split at hT
    · assumption
    · cases hT
  have he : ∀ d, (Op.equalIn (d + 1) T (.bool a) (.bool b)).run P E.w = .ok (a == b) E.w := fun d => by
    unfold Op.equalIn
    rw [Sem.run_bind, run_underlying hu E.w]
    rfl
  refine ⟨.bool (a != b), ?_, by unfold Rep; rfl⟩
  simp only [execOp, ho, h1, h2, eqGuard, binOp, Op.equal, Sem.run_bind]
  have := he 9999
  simp [Op.maxDepth, this, bne]
theorem oc_str_eq {T' : TypeId} {a b : ByteArray} (ho : o.op = .binOp .eql T p q T') (hp : ρ p = .val (.string a)) (hq : ρ q = .val (.string b)) : OC P o ρ [] (.val (.bool (a.toList == b.toList))) [] := oc_read fun E c hG hr _ => by
  have h1 := hr p (by simp [ho, Op.operands])
  have h2 := hr q (by simp [ho, Op.operands])
  rw [hp] at h1
  rw [hq] at h2
  unfold Rep at h1 h2
  exact ⟨.bool (a.toList == b.toList), by simp [execOp, ho, h1, h2, eqGuard, binOp, Op.stringOp], by unfold Rep; rfl⟩
theorem oc_str_ne {T' : TypeId} {a b : ByteArray} (ho : o.op = .binOp .neq T p q T') (hp : ρ p = .val (.string a)) (hq : ρ q = .val (.string b)) : OC P o ρ [] (.val (.bool (a.toList != b.toList))) [] := oc_read fun E c hG hr _ => by
  have h1 := hr p (by simp [ho, Op.operands])
  have h2 := hr q (by simp [ho, Op.operands])
  rw [hp] at h1
  rw [hq] at h2
  unfold Rep at h1 h2
  exact ⟨.bool (a.toList != b.toList), by simp [execOp, ho, h1, h2, eqGuard, binOp, Op.stringOp, bne], by unfold Rep; rfl⟩
theorem oc_str_add {T' : TypeId} {a b : ByteArray} (ho : o.op = .binOp .add T p q T') (hp : ρ p = .val (.string a)) (hq : ρ q = .val (.string b)) (hs : a.size + b.size ≤ 9223372036854775807) : OC P o ρ [] (.val (.string (a ++ b))) [] := oc_read fun E c hG hr _ => by
  have h1 := hr p (by simp [ho, Op.operands])
  have h2 := hr q (by simp [ho, Op.operands])
  rw [hp] at h1
  rw [hq] at h2
  unfold Rep at h1 h2
  have : ¬ ((a.size + b.size : Nat) : Int) > IntKind.i64.max := by simp [IntKind.max, IntKind.bits, IntKind.signed]; omega
  refine ⟨.string (a ++ b), ?_, by unfold Rep; rfl⟩
  simp only [execOp, ho, h1, h2, eqGuard, binOp, Op.stringOp, Sem.run_bind]
  rw [if_neg this]
  simp
/-- Whatever two values an operation answers plainly. -/
theorem oc_bin {op : BinOp} {T' : TypeId} {a b z : Value} (ho : o.op = .binOp op T p q T') (hp : ρ p = .val a) (hq : ρ q = .val b) (hg : ∀ w, (eqGuard op T p q a b).run P w = .ok () w) (hz : ∀ w, (binOp op T a b).run P w = .ok z w) : OC P o ρ [] (.val z) [] := oc_read fun E c hG hr _ => by
  have h1 := hr p (by simp [ho, Op.operands])
  have h2 := hr q (by simp [ho, Op.operands])
  rw [hp] at h1
  rw [hq] at h2
  unfold Rep at h1 h2
  exact ⟨z, by simp only [execOp, ho, h1, h2, Sem.run_bind, hg, hz, Result.andThen_ok, Sem.run_pure], by unfold Rep; rfl⟩
def intB (P : Program) (T : TypeId) : Option IntKind := match P.underlying T with | some (.int k) => some k | _ => none
theorem intB_some {k : IntKind} (h : intB P T = some k) : P.underlying T = some (.int k) := by
  unfold intB at h
  split at h
  · injection h with h; subst h; assumption
  · cases h
theorem oc_conv {S : TypeId} {k k' : IntKind} {n : Int} (kd : IntKind) (ho : o.op = .convert S T p) (hp : ρ p = .val (.int k' n)) (hS : intB P S = some k) (hT : intB P T = some kd) : OC P o ρ [] (.val (.int kd (kd.wrap n))) [] := oc_read fun E c hG hr _ => by
  have h1 := hr p (by simp [ho, Op.operands])
  rw [hp] at h1
  unfold Rep at h1
  refine ⟨.int kd (kd.wrap n), ?_, by unfold Rep; rfl⟩
  simp [execOp, ho, h1, convert, Sem.run_bind, run_underlying (intB_some hS), run_underlying (intB_some hT), Conv.intToInt]
theorem oc_shl {T' : TypeId} {k k' : IntKind} {a b : Int} (ho : o.op = .binOp .shl T p q T') (hp : ρ p = .val (.int k a)) (hq : ρ q = .val (.int k' b)) (h0 : 0 ≤ b) : OC P o ρ [] (.val (.int k (k.wrap (a * 2 ^ (min b.toNat k.bits))))) [] := oc_read fun E c hG hr _ => by
  have h1 := hr p (by simp [ho, Op.operands])
  have h2 := hr q (by simp [ho, Op.operands])
  rw [hp] at h1
  rw [hq] at h2
  unfold Rep at h1 h2
  have : ¬ b < 0 := by omega
  refine ⟨_, ?_, by unfold Rep; rfl⟩
  simp [execOp, ho, h1, h2, eqGuard, binOp, Op.shift, this]
theorem oc_shr {T' : TypeId} {k k' : IntKind} {a b : Int} (ho : o.op = .binOp .shr T p q T') (hp : ρ p = .val (.int k a)) (hq : ρ q = .val (.int k' b)) (h0 : 0 ≤ b) : OC P o ρ [] (.val (.int k (a.fdiv (2 ^ (min b.toNat k.bits))))) [] := oc_read fun E c hG hr _ => by
  have h1 := hr p (by simp [ho, Op.operands])
  have h2 := hr q (by simp [ho, Op.operands])
  rw [hp] at h1
  rw [hq] at h2
  unfold Rep at h1 h2
  have : ¬ b < 0 := by omega
  refine ⟨_, ?_, by unfold Rep; rfl⟩
  simp [execOp, ho, h1, h2, eqGuard, binOp, Op.shift, this]
theorem oc_quo {T' : TypeId} {k : IntKind} {a b : Int} (ho : o.op = .binOp .quo T p q T') (hp : ρ p = .val (.int k a)) (hq : ρ q = .val (.int k b)) (h0 : b ≠ 0) : OC P o ρ [] (.val (.int k (k.wrap (a.tdiv b)))) [] := oc_read fun E c hG hr _ => by
  have h1 := hr p (by simp [ho, Op.operands])
  have h2 := hr q (by simp [ho, Op.operands])
  rw [hp] at h1
  rw [hq] at h2
  unfold Rep at h1 h2
  refine ⟨_, ?_, by unfold Rep; rfl⟩
  simp [execOp, ho, h1, h2, eqGuard, binOp, Op.intDiv, h0]
theorem oc_rem {T' : TypeId} {k : IntKind} {a b : Int} (ho : o.op = .binOp .rem T p q T') (hp : ρ p = .val (.int k a)) (hq : ρ q = .val (.int k b)) (h0 : b ≠ 0) : OC P o ρ [] (.val (.int k (a.tmod b))) [] := oc_read fun E c hG hr _ => by
  have h1 := hr p (by simp [ho, Op.operands])
  have h2 := hr q (by simp [ho, Op.operands])
  rw [hp] at h1
  rw [hq] at h2
  unfold Rep at h1 h2
  refine ⟨_, ?_, by unfold Rep; rfl⟩
  simp [execOp, ho, h1, h2, eqGuard, binOp, Op.intDiv, h0]
theorem oc_neg {k : IntKind} {a : Int} (ho : o.op = .unOp .neg T p) (hp : ρ p = .val (.int k a)) : OC P o ρ [] (.val (.int k (k.wrap (-a)))) [] := oc_read fun E c hG hr _ => by
  have h1 := hr p (by simp [ho, Op.operands])
  rw [hp] at h1
  unfold Rep at h1
  refine ⟨_, ?_, by unfold Rep; rfl⟩
  simp [execOp, ho, h1, Op.unary, Op.intArith]
/-- The result known by another name. -/
theorem OC.cast (h : OC P o ρ R x U) (e : x = y) : OC P o ρ R y U := e ▸ h
theorem oc_nilCheck {z : Av} (ho : o.op = .nilCheck p) (hp : ρ p = .ptr z) : OC P o ρ [] (.ptr z) [] := oc_read fun E c hG hr _ => by
  have h1 := hr p (by simp [ho, Op.operands])
  rw [hp] at h1
  have h2 := h1
  unfold Rep at h2
  obtain ⟨b, off, u, h3, _⟩ := h2
  exact ⟨c.eval p, by simp [execOp, ho, h3], h1⟩
theorem oc_extract {cs : List Av} {i : Nat} (ho : o.op = .extract p i) (hp : ρ p = .tup cs) (hy : cs[i]? = some y) : OC P o ρ [] y [] := oc_read fun E c hG hr _ => by
  have h1 := hr p (by simp [ho, Op.operands])
  rw [hp] at h1
  unfold Rep at h1
  obtain ⟨vs, h2, h3⟩ := h1
  obtain ⟨v, h4, h5⟩ := h3.get i y hy
  exact ⟨v, by simp [execOp, ho, h2, Instr.extract, h4], h5⟩

/-! ### Blocks of the call's own -/
theorem own_at {E : Env} {n off : Nat} {t : TypeId} {cs : List Av} {v : Value} (h : Rep E (.own n off) v) (hn : HAt E n (.live t cs)) (hne : off < cs.length) : ∃ b cur, v = .pointer (some ⟨b, off, none⟩) ∧ E.loc n = .at b ∧ E.w.heap[b]? = some (.cells cur t (0, 0)) ∧ ∀ (i : Nat) (y : Av), cs[i]? = some y → ∃ u : Value, cur[i]? = some u ∧ u.oneCell' = true ∧ Rep E y u := by
  rcases hn with ⟨_, rfl⟩ | ⟨b, cur, h1, h2, h3⟩
  · simp at hne
  · unfold Rep at h
    exact ⟨b, cur, h.2 b h1, h1, h2, h3⟩
theorem cell_cur {w : World} {b : Nat} {cur : Array Value} {t : TypeId} {i : Nat} (h : w.heap[b]? = some (.cells cur t (0, 0))) : w.cell? ⟨b, i, none⟩ = cur[i]? := by simp [World.cell?, h]
theorem oc_load_own {n off : Nat} {t : TypeId} {cs : List Av} (ho : o.op = .load T p) (hp : ρ p = .own n off) (hT : rowB P T = some false) (hy : cs[off]? = some y) : OC P o ρ [(n, .live t cs)] y [] := oc_read fun E a hG hr hH => by
  have h1 := hr p (by simp [ho, Op.operands])
  rw [hp] at h1
  obtain ⟨b, cur, h2, h3, h4, h5⟩ := own_at h1 (hH n (.live t cs) (by simp)) (List.getElem?_eq_some_iff.1 hy).1
  obtain ⟨u, h6, _, h7⟩ := h5 off y hy
  refine ⟨u, ?_, h7⟩
  simp only [execOp, ho, h2, Sem.run_bind, load_one hT (show E.w.cell? ⟨b, off, none⟩ = some u by rw [cell_cur h4, h6]), Result.andThen_ok, Sem.run_pure]
theorem cells_list {E : Env} {cur : Array Value} : ∀ (ds : List Av) (off : Nat), (∀ (i : Nat) (y : Av), ds[i]? = some y → ∃ u : Value, cur[off + i]? = some u ∧ u.oneCell' = true ∧ Rep E y u) → ∃ vs : List Value, RepL E ds vs ∧ (∀ u ∈ vs, u.oneCell' = true) ∧ ∀ j u, vs[j]? = some u → cur[off + j]? = some u
  | [], off, _ => ⟨[], by unfold RepL; rfl, by simp, by simp⟩
  | d :: ds, off, h => by
    obtain ⟨u, h1, h2, h3⟩ := h 0 d rfl
    obtain ⟨vs, h4, h5, h6⟩ := cells_list ds (off + 1) fun i y hy => by have := h (i + 1) y (by simpa using hy); rwa [show off + 1 + i = off + (i + 1) from by omega]
    refine ⟨u :: vs, by unfold RepL; exact ⟨u, vs, rfl, h3, h4⟩, ?_, ?_⟩
    · intro v hv
      rcases List.mem_cons.1 hv with rfl | hv
      · exact h2
      · exact h5 v hv
    · intro j v hv
      cases j with
      | zero => simp at hv; subst hv; exact h1
      | succ j => have := h6 j v (by simpa using hv); rwa [show off + 1 + j = off + (j + 1) from by omega] at this
theorem oc_load_own_row {n off k : Nat} {t : TypeId} {cs ds : List Av} (ho : o.op = .load T p) (hp : ρ p = .own n off) (hT : rowB P T = some true) (hs : sizeB P T = some k) (hds : (cs.drop off).take k = ds) (hk : ds.length = k) (h0 : 0 < k) : OC P o ρ [(n, .live t cs)] (.agg ds) [] := oc_read fun E a hG hr hH => by
  have h1 := hr p (by simp [ho, Op.operands])
  rw [hp] at h1
  have hlt : off < cs.length := by
    have : ((cs.drop off).take k).length = k := by rw [hds, hk]
    rw [List.length_take, List.length_drop] at this
    omega
  obtain ⟨b, cur, h2, h3, h4, h5⟩ := own_at h1 (hH n (.live t cs) (by simp)) hlt
  obtain ⟨vs, h6, h7, h8⟩ := cells_list (E := E) (cur := cur) ds off fun i y hy => by
    refine h5 (off + i) y ?_
    rw [← hds, List.getElem?_take] at hy
    split at hy
    · rwa [List.getElem?_drop] at hy
    · cases hy
  refine ⟨.agg vs.toArray, ?_, by unfold Rep; exact ⟨vs, rfl, h6, h7⟩⟩
  have hr : E.w.rangeAt b off vs := fun j u hu => by rw [cell_cur h4]; exact h8 j u hu
  simp only [execOp, ho, h2, Sem.run_bind, load_row hT (by rw [hs, h6.length, hk]) hr, Result.andThen_ok, Sem.run_pure]
theorem oc_fieldAddr_own {i off n k sz : Nat} {r : Bool} {t : TypeId} {cs : List Av} (ho : o.op = .fieldAddr T p i) (hp : ρ p = .own n k) (hk : k < cs.length) (hf : fldB P T i = some (off, sz, r)) (hz : sz ≠ 0) : OC P o ρ [(n, .live t cs)] (.own n (k + off)) [] := oc_read fun E a hG hr hH => by
  have h1 := hr p (by simp [ho, Op.operands])
  rw [hp] at h1
  obtain ⟨b, cur, h2, h3, h4, h5⟩ := own_at h1 (hH n (.live t cs) (by simp)) hk
  refine ⟨.pointer (some ⟨b, k + off, none⟩), by simp only [execOp, ho, h2, Sem.run_bind, fldB_run hf hz, Result.andThen_ok, Sem.run_pure], ?_⟩
  unfold Rep
  exact ⟨⟨by rw [h3]; simp, _, rfl⟩, fun b' hb' => by rw [h3] at hb'; injection hb' with hb'; rw [hb']⟩
theorem oc_nilCheck_own {n k : Nat} {t : TypeId} {cs : List Av} (ho : o.op = .nilCheck p) (hp : ρ p = .own n k) (hk : k < cs.length) : OC P o ρ [(n, .live t cs)] (.own n k) [] := oc_read fun E a hG hr hH => by
  have h1 := hr p (by simp [ho, Op.operands])
  rw [hp] at h1
  obtain ⟨b, cur, h2, h3, h4, h5⟩ := own_at h1 (hH n (.live t cs) (by simp)) hk
  exact ⟨a.eval p, by simp [execOp, ho, h2], h1⟩
theorem oc_index_own {n k len j : Nat} {t : TypeId} {cs : List Av} {kk : IntKind} {i : Int} (ho : o.op = .indexAddr T p q) (hp : ρ p = .osl k n len) (hq : ρ q = .val (.int kk i)) (hT : elemB P T = some k) (h0 : 0 ≤ i) (h1 : i < len) (hj : i.toNat * k = j) : OC P o ρ [(n, .live t cs)] (.own n j) [] := oc_read fun E a hG hr hH => by
  have h2 := hr p (by simp [ho, Op.operands])
  have h3 := hr q (by simp [ho, Op.operands])
  rw [hp] at h2
  rw [hq] at h3
  unfold Rep at h2 h3
  rcases hH n (.live t cs) (by simp) with ⟨h4, _⟩ | ⟨b, cur, h4, h5, h6⟩
  · obtain ⟨_, h5⟩ := h2.1.2.2 h4
    omega
  · obtain ⟨c, cur', t', h7, h8, h9, h10, h11⟩ := h2.2 b h4
    refine ⟨.pointer (some ⟨b, j, none⟩), ?_, by unfold Rep; exact ⟨⟨h2.1.1, _, rfl⟩, fun b' hb' => by rw [h4] at hb'; injection hb' with hb'; rw [hb']⟩⟩
    simp only [execOp, ho, h7, h3, Sem.run_bind, index_run hT E.w h0 h1, Result.andThen_ok, Sem.run_pure, Nat.zero_add, hj]
theorem oc_index_ownN {n len j : Nat} {t : TypeId} {cs : List Av} {kk : IntKind} (ho : o.op = .indexAddr T p q) (hp : ρ p = .osl 1 n len) (hq : ρ q = .val (.int kk ((j : Nat) : Int))) (hT : elemB P T = some 1) (h1 : j < len) : OC P o ρ [(n, .live t cs)] (.own n j) [] :=
  oc_index_own ho hp hq hT (by omega) (by omega) (by simp)
/-- A block of the call's own is written to. -/
theorem Step.set {E : Env} (hG : Good E) {n b : Nat} {cur cur' : Array Value} {t : TypeId} (hn : E.loc n = .at b) (hb : E.w.heap[b]? = some (.cells cur t (0, 0))) {w' : World} (h1 : w'.os = E.w.os) (h2 : w'.tape = E.w.tape) (h3 : w'.output = E.w.output) (h4 : w'.heap.size = E.w.heap.size)
    (h5 : ∀ c, c ≠ b → w'.heap[c]? = E.w.heap[c]?) (h6 : w'.heap[b]? = some (.cells cur' t (0, 0))) (h7 : cur'.size = cur.size) : Step E { E with w := w' } [n] ∧ Good { E with w := w' } := by
  refine ⟨⟨h1, h2, h3, Nat.le_of_eq h4.symm, rfl, fun c hc hno => h5 c fun e => hno n (e ▸ hn), fun m hm => ⟨rfl, fun c hc => h5 c fun e => ?_⟩, fun m h => h, fun m c h => .inl h, fun m h => .inl h, fun m c cur0 t0 hc hc' hcur => ?_⟩, fun c hc => by rw [h4]; exact hG.old c hc, hG.inj, fun m c hc => by rw [h4]; exact hG.lt m c hc⟩
  · have hm : m ≠ n := by simpa using hm
    exact hm (hG.inj m n b (e ▸ hc) hn)
  · by_cases e : c = b
    · subst e
      rw [hb] at hcur
      injection hcur with hcur
      injection hcur with hcur ht
      subst hcur; subst ht
      exact ⟨cur', h6, h7⟩
    · exact ⟨cur0, (h5 c e).trans hcur, rfl⟩
theorem heap_setCell_at {w : World} {b off : Nat} {cur : Array Value} {t : TypeId} (h : w.heap[b]? = some (.cells cur t (0, 0))) (v : Value) : (w.setCell ⟨b, off, none⟩ v).heap[b]? = some (.cells (cur.setIfInBounds off v) t (0, 0)) := by
  simp [World.setCell, Array.getElem?_modify, h]
theorem oc_store {n off : Nat} {t : TypeId} {cs cs' : List Av} (ho : o.op = .store T p q) (hp : ρ p = .own n off) (hq : ρ q = y) (hT : rowB P T = some false) (hs : sizeB P T = some 1) (hy : ∀ E v, Rep E y v → v.oneCell' = true) (hlt : off < cs.length) (hcs : cs.set off y = cs') : OC P o ρ [(n, .live t cs)] .any [(n, .live t cs')] := by
  subst hcs
  intro E a hG hr hH
  have h1 := hr p (by simp [ho, Op.operands])
  have h2 := hr q (by simp [ho, Op.operands])
  rw [hp] at h1
  rw [hq] at h2
  obtain ⟨b, cur, h3, h4, h5, h6⟩ := own_at h1 (hH n (.live t cs) (by simp)) hlt
  obtain ⟨u, h7, _, _⟩ := h6 off cs[off] (List.getElem?_eq_getElem hlt)
  have hoc := hy E _ h2
  have hcell : E.w.cell? ⟨b, off, none⟩ = some u := by rw [cell_cur h5, h7]
  have hfz : E.w.frozen? ⟨b, off, none⟩ = false := by simp [World.frozen?, h5]
  have hrun : (Instr.storeAt T (.pointer (some ⟨b, off, none⟩)) (a.eval q)).run P E.w = .ok () (E.w.setCell ⟨b, off, none⟩ (a.eval q)) := by
    cases hi : P.info? T with
    | none => simp [sizeB, hi] at hs
    | some i =>
      have hsz : i.size = 1 := by simpa [sizeB, hi] using hs
      have hc1 : (a.eval q).cells = #[a.eval q] := cells_one hoc
      simp [Instr.storeAt, Instr.sureAddr, storeVar, Sem.run_bind, sizeOf, typeInfo, hi, hsz, hc1, storeCells, run_store P _ _ _ _ hoc, hcell, hfz, Addr.add]
  unfold grows execOp
  simp only [ho, h3, Sem.run_bind, hrun, Result.andThen_ok, Sem.run_pure, growUpon]
  have hset := heap_setCell_at (off := off) h5 (a.eval q)
  obtain ⟨hS, hG'⟩ := Step.set hG h4 h5 (w' := E.w.setCell ⟨b, off, none⟩ (a.eval q)) rfl rfl rfl (by simp [World.setCell]) (fun c hc => Below.heap_setCell _ _ _ _ hc) hset (by simp)
  refine ⟨_, rfl, hS, hG', by unfold Rep; trivial, fun m z hz => ?_⟩
  have hm : m = n ∧ z = .live t (cs.set off y) := by
    simp only [lkH] at hz
    cases hb : Nat.beq n m with
    | true => rw [hb] at hz; simp at hz; exact ⟨(Nat.eq_of_beq_eq_true hb).symm, hz.symm⟩
    | false => rw [hb] at hz; simp at hz
  obtain ⟨rfl, rfl⟩ := hm
  refine .inr ⟨b, _, h4, hset, fun i z hz => ?_⟩
  rw [List.getElem?_set] at hz
  by_cases e : off = i
  · subst e
    simp [hlt] at hz
    subst hz
    have : off < cur.size := (Array.getElem?_eq_some_iff.1 h7).1
    exact ⟨a.eval q, by simp [this], hoc, Rep.step hS _ _ h2⟩
  · rw [if_neg e] at hz
    obtain ⟨u, h8, h9, h10⟩ := h6 i z hz
    exact ⟨u, by rw [Array.getElem?_setIfInBounds_ne e]; exact h8, h9, Rep.step hS _ _ h10⟩
def putAt (cs : List Av) (off : Nat) (ds : List Av) : List Av := cs.take off ++ ds ++ cs.drop (off + ds.length)
theorem heap_setCells {b : Nat} {t : TypeId} : ∀ (vs : List Value) (off : Nat) (w : World) (cur : Array Value), w.heap[b]? = some (.cells cur t (0, 0)) → off + vs.length ≤ cur.size →
    (w.setCells b off vs).os = w.os ∧ (w.setCells b off vs).tape = w.tape ∧ (w.setCells b off vs).output = w.output ∧ (w.setCells b off vs).heap.size = w.heap.size ∧ (∀ c, c ≠ b → (w.setCells b off vs).heap[c]? = w.heap[c]?) ∧
    ∃ cur' : Array Value, (w.setCells b off vs).heap[b]? = some (.cells cur' t (0, 0)) ∧ cur'.size = cur.size ∧ (∀ i, i < off ∨ off + vs.length ≤ i → cur'[i]? = cur[i]?) ∧ ∀ j u, vs[j]? = some u → cur'[off + j]? = some u
  | [], off, w, cur, h, hl => ⟨rfl, rfl, rfl, rfl, fun _ _ => rfl, cur, h, rfl, fun _ _ => rfl, by simp⟩
  | v :: vs, off, w, cur, h, hl => by
    simp only [List.length_cons] at hl
    have h1 := heap_setCell_at (off := off) h v
    obtain ⟨h2, h3, h4, h5, h6, cur', h7, h8, h9, h10⟩ := heap_setCells vs (off + 1) (w.setCell ⟨b, off, none⟩ v) _ h1 (by simp; omega)
    unfold World.setCells
    refine ⟨h2, h3, h4, h5.trans (by simp [World.setCell]), fun c hc => (h6 c hc).trans (Below.heap_setCell _ _ _ _ hc), cur', h7, by simpa using h8, fun i hi => ?_, fun j u hu => ?_⟩
    · rw [h9 i (by simp at hi; omega), Array.getElem?_setIfInBounds_ne (by simp at hi; omega)]
    · cases j with
      | zero =>
        simp at hu
        subst hu
        rw [h9 _ (by omega)]
        simp [show off < cur.size from by omega]
      | succ j =>
        have := h10 j u (by simpa using hu)
        rwa [show off + 1 + j = off + (j + 1) from by omega] at this
/-- A struct is stored. -/
theorem oc_store_row {n off : Nat} {t : TypeId} {cs cs' ds : List Av} (ho : o.op = .store T p q) (hp : ρ p = .own n off) (hq : ρ q = x) (hx : x = .agg ds) (hs : sizeB P T = some ds.length) (hlt : off + ds.length ≤ cs.length) (h0 : 0 < ds.length) (hcs : putAt cs off ds = cs') : OC P o ρ [(n, .live t cs)] .any [(n, .live t cs')] := by
  subst hcs
  intro E a hG hr hH
  have h1 := hr p (by simp [ho, Op.operands])
  have h2 := hr q (by simp [ho, Op.operands])
  rw [hp] at h1
  rw [hq, hx] at h2
  obtain ⟨b, cur, h3, h4, h5, h6⟩ := own_at h1 (hH n (.live t cs) (by simp)) (by omega)
  unfold Rep at h2
  obtain ⟨vs, h7, h8, h9⟩ := h2
  have hlen := h8.length
  have hcur : ∀ i, i < cs.length → ∃ u, cur[i]? = some u := fun i hi => by
    obtain ⟨u, h10, _⟩ := h6 i cs[i] (List.getElem?_eq_getElem hi)
    exact ⟨u, h10⟩
  have hsz : off + vs.length ≤ cur.size := by
    obtain ⟨u, hu⟩ := hcur (off + ds.length - 1) (by omega)
    have := (Array.getElem?_eq_some_iff.1 hu).1
    omega
  have hth : E.w.there b off vs.toArray.size := fun j hj => by
    simp at hj
    obtain ⟨u, hu⟩ := hcur (off + j) (by omega)
    exact ⟨by rw [cell_cur h5, hu]; rfl, by simp [World.frozen?, h5]⟩
  have hrun := run_storeAt_mid (P := P) E.w b off T vs.toArray hth (by simpa [sizeB, hlen] using hs) (all_oneCell_toArray h9)
  unfold grows execOp
  simp only [ho, h3, h7, Sem.run_bind, hrun, Result.andThen_ok, Sem.run_pure, growUpon]
  obtain ⟨k1, k2, k3, k4, k5, cur', k6, k7, k8, k9⟩ := heap_setCells vs off E.w cur h5 hsz
  obtain ⟨hS, hG'⟩ := Step.set hG h4 h5 (w' := E.w.setCells b off vs) k1 k2 k3 k4 k5 k6 k7
  refine ⟨_, rfl, hS, hG', by unfold Rep; trivial, fun m z hz => ?_⟩
  have hm : m = n ∧ z = .live t (putAt cs off ds) := by
    simp only [lkH] at hz
    cases hb : Nat.beq n m with
    | true => rw [hb] at hz; simp at hz; exact ⟨(Nat.eq_of_beq_eq_true hb).symm, hz.symm⟩
    | false => rw [hb] at hz; simp at hz
  obtain ⟨rfl, rfl⟩ := hm
  refine .inr ⟨b, cur', h4, k6, fun i z hz => ?_⟩
  unfold putAt at hz
  rcases Nat.lt_or_ge i off with hi | hi
  · rw [List.append_assoc, List.getElem?_append_left (by rw [List.length_take]; omega), List.getElem?_take, if_pos hi] at hz
    obtain ⟨u, h10, h11, h12⟩ := h6 i z hz
    exact ⟨u, by rw [k8 i (.inl hi)]; exact h10, h11, Rep.step hS _ _ h12⟩
  · rw [List.append_assoc, List.getElem?_append_right (by rw [List.length_take]; omega), List.length_take, Nat.min_eq_left (by omega)] at hz
    rcases Nat.lt_or_ge i (off + ds.length) with hi' | hi'
    · rw [List.getElem?_append_left (by omega)] at hz
      obtain ⟨u, h10, h11⟩ := h8.get _ z hz
      have := k9 _ u h10
      rw [show off + (i - off) = i from by omega] at this
      exact ⟨u, this, h9 u (List.mem_of_getElem? h10), Rep.step hS _ _ h11⟩
    · rw [List.getElem?_append_right (by omega), List.getElem?_drop] at hz
      obtain ⟨u, h10, h11, h12⟩ := h6 i z (by rw [← hz]; congr 1; omega)
      exact ⟨u, by rw [k8 i (.inr (by omega))]; exact h10, h11, Rep.step hS _ _ h12⟩
/-- A new block gets a name. -/
theorem post_give {E : Env} (hG : Good E) {n b : Nat} (hn : E.loc n = .unborn) {w' : World} (h : Below E.w.heap.size E.w w') (hb : E.w.heap.size ≤ b) {cur : Array Value} {t : TypeId} (hc : w'.heap[b]? = some (.cells cur t (0, 0))) {cs : List Av} {v : Value}
    (hcs : ∀ (i : Nat) (y : Av), cs[i]? = some y → ∃ u : Value, cur[i]? = some u ∧ u.oneCell' = true ∧ Rep E y u) (hx : Rep (E.give w' n b) x v) : Post E x [(n, .live t cs)] v w' := by
  have hS := Step.give hG h hn hb
  refine ⟨E.give w' n b, rfl, hS, hG.give h hb (Array.getElem?_eq_some_iff.1 hc).1, hx, fun m z hz => ?_⟩
  have hm : m = n ∧ z = .live t cs := by
    simp only [lkH] at hz
    cases hb : Nat.beq n m with
    | true => rw [hb] at hz; simp at hz; exact ⟨(Nat.eq_of_beq_eq_true hb).symm, hz.symm⟩
    | false => rw [hb] at hz; simp at hz
  obtain ⟨rfl, rfl⟩ := hm
  refine .inr ⟨b, cur, by simp [Env.give], hc, fun i y hy => ?_⟩
  obtain ⟨u, h1, h2, h3⟩ := hcs i y hy
  exact ⟨u, h1, h2, Rep.step hS _ _ h3⟩
def atomB : Value → Bool
  | .agg _ => false
  | .tuple _ => false
  | _ => true
theorem atomB_one {v : Value} (h : atomB v = true) : v.oneCell' = true := by cases v <;> first | rfl | (simp [atomB] at h)
def zeroB (P : Program) (T : TypeId) : Option (List Value) := ((P.info? T).bind (·.zero)).map (·.cells.toList)
theorem oc_alloc {zs : List Value} {cs : List Av} (n : Nat) (ho : o.op = .alloc T) (hz : zeroB P T = some zs) (ha : zs.all atomB = true) (hcs : zs.map .val = cs) : OC P o ρ [(n, .unborn)] (.own n 0) [(n, .live T cs)] := by
  subst hcs
  intro E a hG hr hH
  have hn : E.loc n = .unborn := hH n .unborn (by simp)
  cases hi : P.info? T with
  | none => simp [zeroB, hi] at hz
  | some i =>
    cases hz0 : i.zero with
    | none => simp [zeroB, hi, hz0] at hz
    | some z =>
      simp [zeroB, hi, hz0] at hz
      unfold grows execOp
      have hrun : (Instr.alloc T true (.tuple #[])).run P E.w = .ok (.pointer (some ⟨E.w.heap.size, 0, none⟩)) (E.w.alloc (.cells z.cells T)) := by
        simp [Instr.alloc, Sem.run_bind, zeroValue, typeInfo, hi, hz0, newVar, newRow]
      simp only [ho, Sem.run_bind, hrun, Result.andThen_ok, Sem.run_pure, growUpon]
      refine post_give hG hn ((Below.refl _ _).alloc (Nat.le_refl _) _) (Nat.le_refl _) (heap_alloc_new _ _) (fun k y hy => ?_) ?_
      · rw [List.getElem?_map] at hy
        cases hk : zs[k]? with
        | none => simp [hk] at hy
        | some u =>
          simp [hk] at hy
          subst hy
          refine ⟨u, ?_, atomB_one ((List.all_eq_true.1 ha) u (List.mem_of_getElem? hk)), by unfold Rep; rfl⟩
          rw [← hz] at hk
          simpa using hk
      · unfold Rep
        exact ⟨⟨by simp [Env.give], _, rfl⟩, fun b hb => by simp [Env.give] at hb; subst hb; rfl⟩
theorem oc_box_own (n : Nat) (ho : o.op = .box T p) (hp : ρ p = x) (hx : ∀ E v, Rep E x v → v.oneCell' = true) : OC P o ρ [(n, .unborn)] (.own n 0) [(n, .live T [x])] := by
  intro E a hG hr hH
  have hn : E.loc n = .unborn := hH n .unborn (by simp)
  have h2 := hr p (by simp [ho, Op.operands])
  rw [hp] at h2
  have hc := cells_one (hx E _ h2)
  unfold grows execOp
  have hrun : (Instr.box T (a.eval p)).run P E.w = .ok (.pointer (some ⟨E.w.heap.size, 0, none⟩)) (E.w.alloc (.cells (a.eval p).cells T)) := by
    simp [Instr.box, newVar, newRow]
  simp only [ho, Sem.run_bind, hrun, Result.andThen_ok, Sem.run_pure, growUpon]
  refine post_give hG hn ((Below.refl _ _).alloc (Nat.le_refl _) _) (Nat.le_refl _) (heap_alloc_new _ _) (fun k y hy => ?_) ?_
  · cases k with
    | zero => simp at hy; subst hy; exact ⟨a.eval p, by simp [hc], hx E _ h2, h2⟩
    | succ k => simp at hy
  · unfold Rep
    exact ⟨⟨by simp [Env.give], _, rfl⟩, fun b hb => by simp [Env.give] at hb; subst hb; rfl⟩
theorem oc_box_own_row {ds : List Av} (n : Nat) (ho : o.op = .box T p) (hp : ρ p = x) (hx : x = .agg ds) : OC P o ρ [(n, .unborn)] (.own n 0) [(n, .live T ds)] := by
  intro E a hG hr hH
  have hn : E.loc n = .unborn := hH n .unborn (by simp)
  have h2 := hr p (by simp [ho, Op.operands])
  rw [hp, hx] at h2
  unfold Rep at h2
  obtain ⟨vs, h3, h4, h5⟩ := h2
  unfold grows execOp
  have hrun : (Instr.box T (a.eval p)).run P E.w = .ok (.pointer (some ⟨E.w.heap.size, 0, none⟩)) (E.w.alloc (.cells (a.eval p).cells T)) := by
    simp [Instr.box, newVar, newRow]
  simp only [ho, Sem.run_bind, hrun, Result.andThen_ok, Sem.run_pure, growUpon]
  refine post_give hG hn ((Below.refl _ _).alloc (Nat.le_refl _) _) (Nat.le_refl _) (heap_alloc_new _ _) (fun k y hy => ?_) ?_
  · obtain ⟨u, h6, h7⟩ := h4.get k y hy
    exact ⟨u, by rw [h3]; simpa [Value.cells] using h6, h5 u (List.mem_of_getElem? h6), h7⟩
  · unfold Rep
    exact ⟨⟨by simp [Env.give], _, rfl⟩, fun b hb => by simp [Env.give] at hb; subst hb; rfl⟩
/-- A literal slice of elements of one cell, of the call's own. -/
theorem newRow_run (e : TypeId) (cs : Array Value) (w : World) : (newRow e cs).run P w = .ok ⟨w.heap.size, 0, none⟩ (w.alloc (.cells cs e)) := by simp [newRow]
end
end Go.Proofs.Ytjjgdjcapfenpaa
