/- The operations on memory and the calls, over abstract values. No program stands in this text. The operations on blocks of the call's own, over abstract values; more operations on plain values. No program stands in this text. -/
import Derived.Test.YtfipllnodgbghaaOc
import Derived.Laws.OwnMore
import Derived.ChangeKeysEq
namespace Go.Proofs.Ytfipllnodgbghaa
open Go.RowKit
set_option linter.unusedVariables false
set_option linter.unusedSimpArgs false

def rowB (P : Program) (T : TypeId) : Option Bool := (P.underlying T).map TypeDesc.isRow
def sizeB (P : Program) (T : TypeId) : Option Nat := (P.info? T).map (·.size)
def elemB (P : Program) (T : TypeId) : Option Nat := match P.underlying T with | some (.slice e) => (P.info? e).map fun i => i.size | _ => none
def fldB (P : Program) (T : TypeId) (i : Nat) : Option (Nat × Nat × Bool) :=
  match P.underlying T with
  | some (.struct fs) => (fs[i]?).bind fun f => (P.info? f.type).bind fun inf => (P.underlying f.type).map fun d => (f.offset, inf.size, d.isRow)
  | _ => none
def isStrB (P : Program) (T : TypeId) : Bool := match P.underlying T with | some .string => true | _ => false
section
variable {P : Program} {o : Oper} {x y : Av} {R U : List (Nat × Hs)} {ρ : Operand → Av} {p q : Operand} {T : TypeId}
theorem rowB_some {b : Bool} (h : rowB P T = some b) : ∃ d, P.underlying T = some d ∧ d.isRow = b := by
  unfold rowB at h
  cases hd : P.underlying T with
  | none => simp [hd] at h
  | some d => exact ⟨d, rfl, by simpa [hd] using h⟩
theorem isAgg_run {b : Bool} (h : rowB P T = some b) (w : World) : (isAgg T).run P w = .ok b w := by
  obtain ⟨d, h1, h2⟩ := rowB_some h
  unfold isAgg
  rw [Sem.run_bind, run_underlying h1 w]
  cases d <;> simp_all
theorem load_one {w : World} {b off : Nat} {u : Value} (hT : rowB P T = some false) (hc : w.cell? ⟨b, off, none⟩ = some u) : (Instr.loadAt T (.pointer (some ⟨b, off, none⟩))).run P w = .ok u w := by
  simp [Instr.loadAt, Instr.sureAddr, Sem.run_bind, loadVar, isAgg_run hT, hc]
theorem load_row {w : World} {b off : Nat} {cs : List Value} (hT : rowB P T = some true) (hs : sizeB P T = some cs.length) (hc : w.rangeAt b off cs) : (Instr.loadAt T (.pointer (some ⟨b, off, none⟩))).run P w = .ok (.agg cs.toArray) w := by
  obtain ⟨d, h1, h2⟩ := rowB_some hT
  exact run_loadAt_mid w b off T cs d hc h1 h2 hs
/-- A scalar out of what stands for ever: the cell known. -/
theorem oc_load (ho : o.op = .load T p) (hp : ρ p = .ptr x) (hT : rowB P T = some false) (hx : ∀ E v, Rep E x v → v.oneCell' = true) : OC P o ρ [] x [] := oc_read fun E a hG hr _ => by
  have h1 := hr p (by simp [ho, Op.operands])
  rw [hp] at h1
  unfold Rep at h1
  obtain ⟨b, off, u, h2, h3, h4, h5⟩ := h1
  have hc : E.w.cell? ⟨b, off, none⟩ = some u := by
    have := h5 0 u (by rw [cells_one (hx E u h4)]; rfl)
    simpa using this
  refine ⟨u, ?_, h4⟩
  simp only [execOp, ho, h2, Sem.run_bind, load_one hT hc, Result.andThen_ok, Sem.run_pure]
theorem cells_int {k : IntKind} {n : Int} (E : Env) (v : Value) (h : Rep E (.val (.int k n)) v) : v.oneCell' = true := by unfold Rep at h; subst h; rfl
theorem cells_bool {b : Bool} (E : Env) (v : Value) (h : Rep E (.val (.bool b)) v) : v.oneCell' = true := by unfold Rep at h; subst h; rfl
theorem cells_str {s : ByteArray} (E : Env) (v : Value) (h : Rep E (.val (.string s)) v) : v.oneCell' = true := by unfold Rep at h; subst h; rfl
theorem cells_sl {k n : Nat} {row : Nat → Av} (E : Env) (v : Value) (h : Rep E (.sl k n row) v) : v.oneCell' = true := by unfold Rep at h; obtain ⟨A, c, rfl, _⟩ := h; rfl
theorem cells_ptr {z : Av} (E : Env) (v : Value) (h : Rep E (.ptr z) v) : v.oneCell' = true := by unfold Rep at h; obtain ⟨b, off, u, rfl, _⟩ := h; rfl
theorem cells_clo {f : Nat} {cs : List Av} (E : Env) (v : Value) (h : Rep E (.clo f cs) v) : v.oneCell' = true := by unfold Rep at h; obtain ⟨vs, rfl, _⟩ := h; rfl
theorem cells_own {n off : Nat} (E : Env) (v : Value) (h : Rep E (.own n off) v) : v.oneCell' = true := by unfold Rep at h; obtain ⟨⟨_, p, rfl⟩, _⟩ := h; rfl
theorem cells_osl {k n len : Nat} (E : Env) (v : Value) (h : Rep E (.osl k n len) v) : v.oneCell' = true := by unfold Rep at h; obtain ⟨⟨_, ⟨a, c, rfl⟩, _⟩, _⟩ := h; rfl
/-- A struct, whole. -/
theorem oc_load_row {cs : List Av} (ho : o.op = .load T p) (hp : ρ p = .ptr x) (hT : rowB P T = some true) (hs : sizeB P T = some cs.length) (hx : x = .agg cs) : OC P o ρ [] x [] := oc_read fun E a hG hr _ => by
  have h1 := hr p (by simp [ho, Op.operands])
  rw [hp] at h1
  unfold Rep at h1
  obtain ⟨b, off, u, h2, h3, h4, h5⟩ := h1
  have h4' := h4
  rw [hx] at h4'
  unfold Rep at h4'
  obtain ⟨vs, rfl, h6, _⟩ := h4'
  refine ⟨.agg vs.toArray, ?_, h4⟩
  have h5 : E.w.rangeAt b off vs := h5
  simp only [execOp, ho, h2, Sem.run_bind, load_row hT (by rw [hs, h6.length]) h5, Result.andThen_ok, Sem.run_pure]
theorem RepL.get {E : Env} : ∀ {xs : List Av} {vs : List Value}, RepL E xs vs → ∀ (i : Nat) (y : Av), xs[i]? = some y → ∃ u : Value, vs[i]? = some u ∧ Rep E y u
  | [], vs, _, i, y, h => by simp at h
  | x :: xs, vs, hr, 0, y, h => by
    unfold RepL at hr
    obtain ⟨v, us, rfl, h1, h2⟩ := hr
    simp at h
    subst h
    exact ⟨v, rfl, h1⟩
  | x :: xs, vs, hr, i + 1, y, h => by
    unfold RepL at hr
    obtain ⟨v, us, rfl, h1, h2⟩ := hr
    simpa using h2.get i y (by simpa using h)
theorem RepL.dropTake {E : Env} {k m : Nat} : ∀ {xs : List Av} {vs : List Value}, RepL E xs vs → RepL E ((xs.drop k).take m) ((vs.drop k).take m) := by
  have tk : ∀ (m : Nat) (xs : List Av) (vs : List Value), RepL E xs vs → RepL E (xs.take m) (vs.take m) := by
    intro m
    induction m with
    | zero => intro xs vs _; simp [RepL]
    | succ m ih =>
      intro xs vs h
      cases xs with
      | nil => unfold RepL at h; subst h; simp [RepL]
      | cons x xs =>
        unfold RepL at h
        obtain ⟨v, us, rfl, h1, h2⟩ := h
        simp only [List.take_succ_cons]
        unfold RepL
        exact ⟨v, _, rfl, h1, ih _ _ h2⟩
  induction k with
  | zero => intro xs vs h; exact tk m _ _ h
  | succ k ih =>
    intro xs vs h
    cases xs with
    | nil => unfold RepL at h; subst h; simp [RepL]
    | cons x xs =>
      unfold RepL at h
      obtain ⟨v, us, rfl, h1, h2⟩ := h
      exact ih h2
theorem fldB_run {i off sz : Nat} {r : Bool} (h : fldB P T i = some (off, sz, r)) (hz : sz ≠ 0) (w : World) (b k : Nat) : (Instr.fieldAt T (.pointer (some ⟨b, k, none⟩)) i).run P w = .ok (.pointer (some ⟨b, k + off, none⟩)) w := by
  unfold fldB at h
  cases hu : P.underlying T with
  | none => simp [hu] at h
  | some d =>
    cases d with
    | struct fs =>
      simp only [hu] at h
      cases hf : fs[i]? with
      | none => simp [hf] at h
      | some f =>
        simp only [hf, Option.bind_some] at h
        cases hi : P.info? f.type with
        | none => simp [hi] at h
        | some inf =>
          cases hd : P.underlying f.type with
          | none => simp [hi, hd] at h
          | some d =>
            simp [hi, hd] at h
            obtain ⟨rfl, rfl, rfl⟩ := h
            simp [Instr.fieldAt, Sem.run_bind, run_underlying hu, hf, Instr.sureAddr, fieldPlace, sizeOf, typeInfo, hi, hz, Addr.add_mid]
    | _ => simp [hu] at h
/-- A field's address. -/
theorem oc_fieldAddr {i off : Nat} {cs : List Av} (ho : o.op = .fieldAddr T p i) (hp : ρ p = .ptr x) (hx : x = .agg cs) (hf : fldB P T i = some (off, 1, false)) (hy : cs[off]? = some y) : OC P o ρ [] (.ptr y) [] := oc_read fun E a hG hr _ => by
  have h1 := hr p (by simp [ho, Op.operands])
  rw [hp, hx] at h1
  unfold Rep Rep at h1
  obtain ⟨b, k, u, h2, h3, ⟨vs, rfl, h6, h7⟩, h5⟩ := h1
  obtain ⟨v, h8, h9⟩ := h6.get off y hy
  refine ⟨.pointer (some ⟨b, k + off, none⟩), by simp only [execOp, ho, h2, Sem.run_bind, fldB_run hf (by decide), Result.andThen_ok, Sem.run_pure], ?_⟩
  unfold Rep
  refine ⟨b, k + off, v, rfl, h3, h9, fun j u hu => ?_⟩
  rw [cells_one (h7 v (List.mem_of_getElem? h8))] at hu
  have hj : j = 0 := by
    have := (List.getElem?_eq_some_iff.1 hu).1
    simpa using this
  subst hj
  simp at hu
  subst hu
  have := h5 off v h8
  simpa using this
/-- The address of a field that is a struct. -/
theorem oc_fieldAddr_row {i off sz : Nat} {cs : List Av} (ho : o.op = .fieldAddr T p i) (hp : ρ p = .ptr x) (hx : x = .agg cs) (hf : fldB P T i = some (off, sz, true)) (hz : sz ≠ 0) : OC P o ρ [] (.ptr (.agg ((cs.drop off).take sz))) [] := oc_read fun E a hG hr _ => by
  have h1 := hr p (by simp [ho, Op.operands])
  rw [hp, hx] at h1
  unfold Rep Rep at h1
  obtain ⟨b, k, u, h2, h3, ⟨vs, rfl, h6, h7⟩, h5⟩ := h1
  refine ⟨.pointer (some ⟨b, k + off, none⟩), by simp only [execOp, ho, h2, Sem.run_bind, fldB_run hf hz, Result.andThen_ok, Sem.run_pure], ?_⟩
  unfold Rep Rep
  refine ⟨b, k + off, .agg ((vs.drop off).take sz).toArray, rfl, h3, ⟨_, rfl, h6.dropTake, fun u hu => h7 u (List.mem_of_mem_drop (List.mem_of_mem_take hu))⟩, fun j u hu => ?_⟩
  have hu : ((vs.drop off).take sz)[j]? = some u := hu
  rw [List.getElem?_take] at hu
  split at hu
  · rw [List.getElem?_drop] at hu
    have := h5 (off + j) u hu
    rwa [← Nat.add_assoc] at this
  · cases hu
theorem elemB_some {k : Nat} (h : elemB P T = some k) : ∃ e, P.underlying T = some (.slice e) ∧ ∃ i, P.info? e = some i ∧ i.size = k := by
  unfold elemB at h
  cases hu : P.underlying T with
  | none => simp [hu] at h
  | some d =>
    cases d with
    | slice e' =>
      simp only [hu] at h
      cases hi : P.info? e' with
      | none => simp [hi] at h
      | some i =>
        simp [hi] at h
        exact ⟨e', rfl, i, hi, h⟩
    | _ => simp [hu] at h
theorem index_run {k n c b off : Nat} {q : IntKind} {i : Int} (h : elemB P T = some k) (w : World) (h0 : 0 ≤ i) (h1 : i < n) :
    (Instr.indexAt T (.slice (some ⟨b, off, none⟩) n c) (.int q i)).run P w = .ok (.pointer (some ⟨b, off + i.toNat * k, none⟩)) w := by
  obtain ⟨e, hu, inf, hi, rfl⟩ := elemB_some h
  simp [Instr.indexAt, asIntOf, Sem.run_bind, run_underlying hu, h0, h1, sizeOf, typeInfo, hi, Addr.add_mid]
/-- An element's address. -/
theorem oc_index {k n j : Nat} {row : Nat → Av} {kk : IntKind} {i : Int} (ho : o.op = .indexAddr T p q) (hp : ρ p = .sl k n row) (hq : ρ q = .val (.int kk i)) (hT : elemB P T = some k) (h0 : 0 ≤ i) (h1 : i < n) (hj : i.toNat = j) : OC P o ρ [] (.ptr (row j)) [] := oc_read fun E a hG hr _ => by
  have h2 := hr p (by simp [ho, Op.operands])
  have h3 := hr q (by simp [ho, Op.operands])
  rw [hp] at h2
  rw [hq] at h3
  unfold Rep at h2 h3
  obtain ⟨A, c, h4, h5, h6, h7⟩ := h2
  obtain ⟨b, off, rfl, h8, h9⟩ := h7 (by omega)
  obtain ⟨u, h10, h11, h12⟩ := h9 j (by omega)
  refine ⟨.pointer (some ⟨b, off + i.toNat * k, none⟩), by simp only [execOp, ho, h4, h3, Sem.run_bind, index_run hT E.w h0 h1, Result.andThen_ok, Sem.run_pure], ?_⟩
  unfold Rep
  exact ⟨b, off + j * k, u, by rw [hj], h8, h10, h12⟩
theorem oc_indexN {k n j : Nat} {row : Nat → Av} {kk : IntKind} (ho : o.op = .indexAddr T p q) (hp : ρ p = .sl k n row) (hq : ρ q = .val (.int kk ((j : Nat) : Int))) (hT : elemB P T = some k) (h1 : j < n) : OC P o ρ [] (.ptr (row j)) [] :=
  oc_index ho hp hq hT (by omega) (by omega) (by simp)
/-- A byte of a text. -/
theorem oc_strIndex {s : ByteArray} {kk : IntKind} {i : Int} {z : Int} (ho : o.op = .index T p q) (hp : ρ p = .val (.string s)) (hq : ρ q = .val (.int kk i)) (hT : isStrB P T = true) (h0 : 0 ≤ i) (h1 : i < s.size) (hz : (tB s).getD i.toNat 0 = z) : OC P o ρ [] (.val (.int .u8 z)) [] := oc_read fun E a hG hr _ => by
  have h2 := hr p (by simp [ho, Op.operands])
  have h3 := hr q (by simp [ho, Op.operands])
  rw [hp] at h2
  rw [hq] at h3
  unfold Rep at h2 h3
  have hu : P.underlying T = some .string := by
    unfold isStrB at hT
    split at hT
    · assumption
    · cases hT
  refine ⟨.int .u8 z, ?_, by unfold Rep; rfl⟩
  have hlt : i.toNat < s.size := by omega
  have hg : s[i.toNat]? = some s[i.toNat] := by simp [hlt]
  rw [tB_getD s i.toNat hlt] at hz
  simp [execOp, ho, h2, h3, Instr.index, asIntOf, Sem.run_bind, run_underlying hu, h0, hg, hz]
def lenB (P : Program) (T : TypeId) : Bool := match P.underlying T with | some (.slice _) => true | _ => false
theorem lenB_some (h : lenB P T = true) : ∃ e, P.underlying T = some (.slice e) := by
  unfold lenB at h
  split at h
  · exact ⟨_, by assumption⟩
  · cases h
theorem oc_len {k n : Nat} {row : Nat → Av} (ho : o.op = .call { callee := .builtin .len, args := #[p], argTypes := #[T] }) (hp : ρ p = .sl k n row) (hT : lenB P T = true) : OC P o ρ [] (.val (.int .i64 n)) [] := oc_read fun E a hG hr _ => by
  have h2 := hr p (by simp [ho, Op.operands, Call.operands])
  rw [hp] at h2
  unfold Rep at h2
  obtain ⟨A, c, h4, _⟩ := h2
  obtain ⟨e, hu⟩ := lenB_some hT
  refine ⟨.int .i64 n, ?_, by unfold Rep; rfl⟩
  simp only [execOp, ho, resolve, invoke, builtin, Builtin.len_, h4, Sem.run_bind, Sem.run_pure, Result.andThen_ok, List.map_toArray, List.map_cons, List.map_nil, List.getElem?_toArray, List.getElem?_cons_zero, run_underlying hu, goInt]
theorem oc_len_own {k n m : Nat} {t : TypeId} {cs : List Av} (ho : o.op = .call { callee := .builtin .len, args := #[p], argTypes := #[T] }) (hp : ρ p = .osl k m n) (hT : lenB P T = true) : OC P o ρ [(m, .live t cs)] (.val (.int .i64 n)) [] := oc_read fun E a hG hr hH => by
  have h2 := hr p (by simp [ho, Op.operands, Call.operands])
  rw [hp] at h2
  unfold Rep at h2
  obtain ⟨e, hu⟩ := lenB_some hT
  refine ⟨.int .i64 n, ?_, by unfold Rep; rfl⟩
  have h4 : ∃ A c, a.eval p = .slice A n c := by
    rcases hH m (.live t cs) (by simp) with ⟨h3, _⟩ | ⟨b, cur, h3, _⟩
    · obtain ⟨h4, rfl⟩ := h2.1.2.2 h3
      exact ⟨_, _, h4⟩
    · obtain ⟨c, cur, t, h4, _⟩ := h2.2 b h3
      exact ⟨_, _, h4⟩
  obtain ⟨A, c, h4⟩ := h4
  simp only [execOp, ho, resolve, invoke, builtin, Builtin.len_, h4, Sem.run_bind, Sem.run_pure, Result.andThen_ok, List.map_toArray, List.map_cons, List.map_nil, List.getElem?_toArray, List.getElem?_cons_zero, run_underlying hu, goInt]
theorem oc_len_str {s : ByteArray} (ho : o.op = .call { callee := .builtin .len, args := #[p], argTypes := #[T] }) (hp : ρ p = .val (.string s)) (hT : isStrB P T = true) : OC P o ρ [] (.val (.int .i64 s.size)) [] := oc_read fun E a hG hr _ => by
  have h2 := hr p (by simp [ho, Op.operands, Call.operands])
  rw [hp] at h2
  unfold Rep at h2
  have hu : P.underlying T = some .string := by
    unfold isStrB at hT
    split at hT
    · assumption
    · cases hT
  refine ⟨.int .i64 s.size, ?_, by unfold Rep; rfl⟩
  simp only [execOp, ho, resolve, invoke, builtin, Builtin.len_, h2, Sem.run_bind, Sem.run_pure, Result.andThen_ok, List.map_toArray, List.map_cons, List.map_nil, List.getElem?_toArray, List.getElem?_cons_zero, run_underlying hu, goInt]
/-- A parameter that lies in a block of its own, and is never written to. -/
theorem oc_box (ho : o.op = .box T p) (hp : ρ p = x) : OC P o ρ [] (.ptr x) [] := oc_grow fun E a hG hr => by
  have h2 := hr p (by simp [ho, Op.operands])
  rw [hp] at h2
  have hB : Below E.w.heap.size E.w (E.w.alloc (.cells (a.eval p).cells T)) := (Below.refl _ _).alloc (Nat.le_refl _) _
  refine ⟨.pointer (some ⟨E.w.heap.size, 0, none⟩), E.w.alloc (.cells (a.eval p).cells T), ?_, hB, ?_⟩
  · simp [execOp, ho, Instr.box, newVar, newRow]
  · unfold Rep
    refine ⟨E.w.heap.size, 0, a.eval p, rfl, ⟨by simp, fun hb => ?_, fun n hn => ?_⟩, Rep.step (Step.grow hG hB) _ _ h2, fun j v hv => ?_⟩
    · have := hG.old _ hb; omega
    · have := (hG.lt n _ hn).1; omega
    · have := (Blk.new E.w T (a.eval p).cells.toList).cell (0 + j)
      simp only [Nat.zero_add] at this ⊢
      rw [← hv]
      simp
theorem oc_makeFunc {f : Nat} {caps : List Operand} {cs : List Av} (ho : o.op = .makeFunc (.func f) #[] caps.toArray) (hcs : caps.map ρ = cs) : OC P o ρ [] (.clo f cs) [] := oc_read fun E a hG hr _ => by
  subst hcs
  refine ⟨.func (.func f) #[] (caps.map a.eval).toArray, by simp [execOp, ho, Instr.makeFunc], ?_⟩
  unfold Rep
  refine ⟨_, rfl, ?_⟩
  have : ∀ l : List Operand, (∀ p ∈ l, p ∈ caps) → RepL E (l.map ρ) (l.map a.eval) := by
    intro l
    induction l with
    | nil => intro _; simp [RepL]
    | cons p l ih =>
      intro hl
      simp only [List.map_cons]
      unfold RepL
      exact ⟨_, _, rfl, hr p (by simp [ho, Op.operands]; exact hl p (by simp)), ih fun q hq => hl q (by simp [hq])⟩
  exact this caps fun _ h => h

/-! ### Calls -/
mutual
/-- No named block is spoken of. -/
def Pure : Av → Prop
  | .any | .val _ | .fm _ _ _ _ | .frz _ _ _ => True
  | .sl _ _ row => ∀ j, Pure (row j)
  | .ptr x => Pure x
  | .agg cs | .tup cs | .clo _ cs => PureL cs
  | .own _ _ | .osl _ _ _ | .oss _ _ _ | .mp _ => False
  | .gd _ x | .nz x => Pure x
def PureL : List Av → Prop
  | [] => True
  | x :: xs => Pure x ∧ PureL xs
end
mutual
theorem Rep.pure {E E' : Env} (hok : ∀ b, E.ok b → E'.ok b ∧ E'.w.heap[b]? = E.w.heap[b]?) : ∀ (x : Av) (v : Value), Pure x → Rep E x v → Rep E' x v
  | .any, _, _, _ => by unfold Rep; trivial
  | .val x, v, _, hr => by unfold Rep at hr ⊢; exact hr
  | .sl k n row, v, hp, hr => by
    unfold Pure at hp
    unfold Rep at hr ⊢
    obtain ⟨A, c, h1, h2, h3, h4⟩ := hr
    refine ⟨A, c, h1, h2, h3, fun hn => ?_⟩
    obtain ⟨b, o, h5, h6, h7⟩ := h4 hn
    refine ⟨b, o, h5, (hok b h6).1, fun j hj => ?_⟩
    obtain ⟨u, h8, h9, h10⟩ := h7 j hj
    exact ⟨u, Rep.pure hok (row j) u (hp j) h8, h9, range_of_block (hok b h6).2 h10⟩
  | .ptr x, v, hp, hr => by
    unfold Pure at hp
    unfold Rep at hr ⊢
    obtain ⟨b, o, u, h1, h2, h3, h4⟩ := hr
    exact ⟨b, o, u, h1, (hok b h2).1, Rep.pure hok x u hp h3, range_of_block (hok b h2).2 h4⟩
  | .agg cs, v, hp, hr => by
    unfold Pure at hp
    unfold Rep at hr ⊢
    obtain ⟨vs, h1, h2, h3⟩ := hr
    exact ⟨vs, h1, RepL.pure hok cs vs hp h2, h3⟩
  | .tup cs, v, hp, hr => by
    unfold Pure at hp
    unfold Rep at hr ⊢
    obtain ⟨vs, h1, h2⟩ := hr
    exact ⟨vs, h1, RepL.pure hok cs vs hp h2⟩
  | .clo f cs, v, hp, hr => by
    unfold Pure at hp
    unfold Rep at hr ⊢
    obtain ⟨vs, h1, h2⟩ := hr
    exact ⟨vs, h1, RepL.pure hok cs vs hp h2⟩
  | .own n off, v, hp, _ => by unfold Pure at hp; exact hp.elim
  | .osl k n len, v, hp, _ => by unfold Pure at hp; exact hp.elim
  | .oss n off len, v, hp, _ => by unfold Pure at hp; exact hp.elim
  | .mp n, v, hp, _ => by unfold Pure at hp; exact hp.elim
  | .fm P k e D, v, _, hr => by
    unfold Rep at hr ⊢
    obtain ⟨b, n, h1, h2, h3⟩ := hr
    exact ⟨b, n, h1, (hok b h2).1, ownsMap_of_block (hok b h2).2 h3⟩
  | .frz q T xs, v, _, hr => by
    unfold Rep at hr ⊢
    obtain ⟨c, g, cur, h1, h2, h3, h4, h5⟩ := hr
    exact ⟨c, g, cur, h1, h2, (hok g h3).1, (hok g h3).2.trans h4, h5⟩
  | .gd c x, v, hp, hr => by
    unfold Pure at hp
    unfold Rep at hr ⊢
    exact ⟨fun hc => Rep.pure hok x v hp (hr.1 hc), hr.2⟩
  | .nz x, v, hp, hr => by
    unfold Pure at hp
    unfold Rep at hr ⊢
    exact ⟨Rep.pure hok x v hp hr.1, hr.2⟩
theorem RepL.pure {E E' : Env} (hok : ∀ b, E.ok b → E'.ok b ∧ E'.w.heap[b]? = E.w.heap[b]?) : ∀ (xs : List Av) (vs : List Value), PureL xs → RepL E xs vs → RepL E' xs vs
  | [], vs, _, hr => by unfold RepL at hr ⊢; exact hr
  | x :: xs, vs, hp, hr => by
    unfold PureL at hp
    unfold RepL at hr ⊢
    obtain ⟨v, us, h1, h2, h3⟩ := hr
    exact ⟨v, us, h1, Rep.pure hok x v hp.1 h2, RepL.pure hok xs us hp.2 h3⟩
end
/-- A contract that speaks of no named block. -/
def PC (P : Program) (f : FuncId) (args : List Av) (x : Av) : Prop := FC P f args [] x []
/-- The callee's view of memory. -/
def Env.hide (E : Env) : Env := { w := E.w, loc := fun _ => .unborn, bad := fun b => E.bad b ∨ ∃ n, E.loc n = .at b }
theorem hide_ok {E : Env} {b : Nat} (h : E.ok b) : E.hide.ok b ∧ E.hide.w.heap[b]? = E.w.heap[b]? :=
  ⟨⟨h.1, fun hb => by
    rcases hb with hb | ⟨n, hn⟩
    · exact h.2.1 hb
    · exact h.2.2 n hn, fun n hn => (by cases hn)⟩, rfl⟩
theorem Good.hide {E : Env} (hG : Good E) : Good E.hide := ⟨fun b hb => by
  rcases hb with hb | ⟨n, hn⟩
  · exact hG.old b hb
  · exact (hG.lt n b hn).1, fun n m b h => (by cases h), fun n b h => (by cases h), hG.shp.same fun b hb => hide_ok hb⟩
theorem PC.post {f : Nat} {args : List Av} {E : Env} {vs : List Value} (hc : PC P f args x) (hG : Good E) (hA : RepL E args vs) (hpa : PureL args) (hpx : Pure x) : Calls P f vs.toArray E.w fun e w' => ∃ v, e = .returned v ∧ Post E x [] v w' := by
  refine (hc E.hide vs hG.hide (RepL.pure (fun b hb => hide_ok hb) _ _ hpa hA) (fun n y hn => by simp [lkH] at hn) (by simp) (fun _ _ => rfl)).mono ?_
  rintro e w' ⟨E', v, rfl, rfl, hG', hK, hx, _⟩
  have hB : Below E.w.heap.size E.w E'.w := ⟨hK.os, hK.tape, hK.output, hK.size, fun b hb => hK.keep b hb fun n hn => (by cases hn)⟩
  refine ⟨v, rfl, { E with w := E'.w }, rfl, Step.grow hG hB, hG.grow hB, ?_, fun n y hn => by simp [lkH] at hn⟩
  refine Rep.pure (E := E') (E' := { E with w := E'.w }) (fun b hb => ⟨⟨hb.1, fun hbad => hb.2.1 ?_, fun n hn => hb.2.1 ?_⟩, rfl⟩) x v hpx hx
  · rw [hK.bad]; exact .inl hbad
  · rw [hK.bad]; exact .inr ⟨n, hn⟩
def callB (P : Program) (f : FuncId) : Bool := match P.funcs[f]? with | some fn => fn.name != "runtime.NumGoroutine" && fn.body.isSome | none => false
theorem callB_run {f : FuncId} (h : callB P f = true) (args : Array Value) (w : World) : (callFunc f args).run P w = .ok (.enter f args) w := by
  unfold callB at h
  unfold callFunc
  cases hf : P.funcs[f]? with
  | none => simp [hf] at h
  | some fn =>
    simp only [hf, Bool.and_eq_true, bne_iff_ne, ne_eq] at h
    cases hb : fn.body with
    | none => simp [hb] at h
    | some c =>
      have h1 : (fn.name == "runtime.NumGoroutine") = false := by simpa using h.1
      show ((match P.funcs[f]? with | none => _ | some fn => _ : Sem Next)).run P w = _
      rw [hf]
      simp only [h1, hb]
      rfl
theorem repL_map {E : Env} {a : Act} {l : List Operand} (h : ∀ p ∈ l, Rep E (ρ p) (a.eval p)) : RepL E (l.map ρ) (l.map a.eval) := by
  induction l with
  | nil => simp [RepL]
  | cons p l ih =>
    simp only [List.map_cons]
    unfold RepL
    exact ⟨_, _, rfl, h p (by simp), ih fun q hq => h q (by simp [hq])⟩
theorem oc_call {f : Nat} {args : List Operand} {tys : Array TypeId} {xs : List Av} (ho : o.op = .call { callee := .value (.func f), args := args.toArray, argTypes := tys }) (hf : callB P f = true) (hc : PC P f xs x) (hxs : args.map ρ = xs) (hpa : PureL xs) (hpx : Pure x) : OC P o ρ [] x [] := by
  intro E a hG hr _
  subst hxs
  have hA := repL_map (ρ := ρ) (E := E) (a := a) (l := args) fun p hp => hr p (by simp [ho, Op.operands, Call.operands, hp])
  have := PC.post hc hG hA hpa hpx
  unfold grows execOp
  simp only [ho, resolve, Deferred.ofValue, Act.eval, Sem.run_bind, Sem.run_pure, Result.andThen_ok, invoke, Array.append_empty, Array.empty_append, List.map_toArray, callB_run hf, growUpon]
  exact this
end
end Go.Proofs.Ytfipllnodgbghaa
namespace Go.Proofs.Ytfipllnodgbghaa
open Go.RowKit
set_option linter.unusedVariables false
set_option linter.unusedSimpArgs false

section
variable {P : Program} {o : Oper} {x y : Av} {R U : List (Nat × Hs)} {ρ : Operand → Av} {p q : Operand} {T : TypeId}

/-! ### Plain values -/
theorem oc_str_eq {T' : TypeId} {a b : ByteArray} (ho : o.op = .binOp .eql T p q T') (hp : ρ p = .val (.string a)) (hq : ρ q = .val (.string b)) : OC P o ρ [] (.val (.bool (a.toList == b.toList))) [] := oc_read fun E c hG hr _ => by
  have h1 := hr p (by simp [ho, Op.operands])
  have h2 := hr q (by simp [ho, Op.operands])
  rw [hp] at h1
  rw [hq] at h2
  unfold Rep at h1 h2
  exact ⟨.bool (a.toList == b.toList), by simp [execOp, ho, h1, h2, eqGuard, binOp, Op.stringOp], by unfold Rep; rfl⟩
theorem oc_str_ne {T' : TypeId} {a b : ByteArray} (ho : o.op = .binOp .neq T p q T') (hp : ρ p = .val (.string a)) (hq : ρ q = .val (.string b)) : OC P o ρ [] (.val (.bool (a.toList != b.toList))) [] := oc_read fun E c hG hr _ => by
  have h1 := hr p (by simp [ho, Op.operands])
  have h2 := hr q (by simp [ho, Op.operands])
  rw [hp] at h1
  rw [hq] at h2
  unfold Rep at h1 h2
  exact ⟨.bool (a.toList != b.toList), by simp [execOp, ho, h1, h2, eqGuard, binOp, Op.stringOp, bne], by unfold Rep; rfl⟩
def intB (P : Program) (T : TypeId) : Option IntKind := match P.underlying T with | some (.int k) => some k | _ => none
theorem intB_some {k : IntKind} (h : intB P T = some k) : P.underlying T = some (.int k) := by
  unfold intB at h
  split at h
  · injection h with h; subst h; assumption
  · cases h
theorem oc_conv {S : TypeId} {k k' : IntKind} {n : Int} (kd : IntKind) (ho : o.op = .convert S T p) (hp : ρ p = .val (.int k' n)) (hS : intB P S = some k) (hT : intB P T = some kd) : OC P o ρ [] (.val (.int kd (kd.wrap n))) [] := oc_read fun E c hG hr _ => by
  have h1 := hr p (by simp [ho, Op.operands])
  rw [hp] at h1
  unfold Rep at h1
  refine ⟨.int kd (kd.wrap n), ?_, by unfold Rep; rfl⟩
  simp [execOp, ho, h1, convert, Sem.run_bind, run_underlying (intB_some hS), run_underlying (intB_some hT), Conv.intToInt]
/-- The result known by another name. -/
theorem OC.cast (h : OC P o ρ R x U) (e : x = y) : OC P o ρ R y U := e ▸ h
theorem oc_extract {cs : List Av} {i : Nat} (ho : o.op = .extract p i) (hp : ρ p = .tup cs) (hy : cs[i]? = some y) : OC P o ρ [] y [] := oc_read fun E c hG hr _ => by
  have h1 := hr p (by simp [ho, Op.operands])
  rw [hp] at h1
  unfold Rep at h1
  obtain ⟨vs, h2, h3⟩ := h1
  obtain ⟨v, h4, h5⟩ := h3.get i y hy
  exact ⟨v, by simp [execOp, ho, h2, Instr.extract, h4], h5⟩

/-! ### Blocks of the call's own -/
theorem own_at {E : Env} {n off : Nat} {t : TypeId} {cs : List Av} {v : Value} (h : Rep E (.own n off) v) (hn : HAt E n (.live t cs)) (hne : off < cs.length) : ∃ b cur, v = .pointer (some ⟨b, off, none⟩) ∧ E.loc n = .at b ∧ E.w.heap[b]? = some (.cells cur t (0, 0)) ∧ ∀ (i : Nat) (y : Av), cs[i]? = some y → ∃ u : Value, cur[i]? = some u ∧ u.oneCell' = true ∧ Rep E y u := by
  rcases hn with ⟨_, rfl⟩ | ⟨b, cur, h1, h2, h3⟩
  · simp at hne
  · unfold Rep at h
    exact ⟨b, cur, h.2 b h1, h1, h2, h3⟩
theorem cell_cur {w : World} {b : Nat} {cur : Array Value} {t : TypeId} {i : Nat} (h : w.heap[b]? = some (.cells cur t (0, 0))) : w.cell? ⟨b, i, none⟩ = cur[i]? := by simp [World.cell?, h]
theorem oc_load_own {n off : Nat} {t : TypeId} {cs : List Av} (ho : o.op = .load T p) (hp : ρ p = .own n off) (hT : rowB P T = some false) (hy : cs[off]? = some y) : OC P o ρ [(n, .live t cs)] y [] := oc_read fun E a hG hr hH => by
  have h1 := hr p (by simp [ho, Op.operands])
  rw [hp] at h1
  obtain ⟨b, cur, h2, h3, h4, h5⟩ := own_at h1 (hH n (.live t cs) (by simp)) (List.getElem?_eq_some_iff.1 hy).1
  obtain ⟨u, h6, _, h7⟩ := h5 off y hy
  refine ⟨u, ?_, h7⟩
  simp only [execOp, ho, h2, Sem.run_bind, load_one hT (show E.w.cell? ⟨b, off, none⟩ = some u by rw [cell_cur h4, h6]), Result.andThen_ok, Sem.run_pure]
theorem cells_list {E : Env} {cur : Array Value} : ∀ (ds : List Av) (off : Nat), (∀ (i : Nat) (y : Av), ds[i]? = some y → ∃ u : Value, cur[off + i]? = some u ∧ u.oneCell' = true ∧ Rep E y u) → ∃ vs : List Value, RepL E ds vs ∧ (∀ u ∈ vs, u.oneCell' = true) ∧ ∀ j u, vs[j]? = some u → cur[off + j]? = some u
  | [], off, _ => ⟨[], by unfold RepL; rfl, by simp, by simp⟩
  | d :: ds, off, h => by
    obtain ⟨u, h1, h2, h3⟩ := h 0 d rfl
    obtain ⟨vs, h4, h5, h6⟩ := cells_list ds (off + 1) fun i y hy => by have := h (i + 1) y (by simpa using hy); rwa [show off + 1 + i = off + (i + 1) from by omega]
    refine ⟨u :: vs, by unfold RepL; exact ⟨u, vs, rfl, h3, h4⟩, ?_, ?_⟩
    · intro v hv
      rcases List.mem_cons.1 hv with rfl | hv
      · exact h2
      · exact h5 v hv
    · intro j v hv
      cases j with
      | zero => simp at hv; subst hv; exact h1
      | succ j => have := h6 j v (by simpa using hv); rwa [show off + 1 + j = off + (j + 1) from by omega] at this
theorem oc_load_own_row {n off k : Nat} {t : TypeId} {cs ds : List Av} (ho : o.op = .load T p) (hp : ρ p = .own n off) (hT : rowB P T = some true) (hs : sizeB P T = some k) (hds : (cs.drop off).take k = ds) (hk : ds.length = k) (h0 : 0 < k) : OC P o ρ [(n, .live t cs)] (.agg ds) [] := oc_read fun E a hG hr hH => by
  have h1 := hr p (by simp [ho, Op.operands])
  rw [hp] at h1
  have hlt : off < cs.length := by
    have : ((cs.drop off).take k).length = k := by rw [hds, hk]
    rw [List.length_take, List.length_drop] at this
    omega
  obtain ⟨b, cur, h2, h3, h4, h5⟩ := own_at h1 (hH n (.live t cs) (by simp)) hlt
  obtain ⟨vs, h6, h7, h8⟩ := cells_list (E := E) (cur := cur) ds off fun i y hy => by
    refine h5 (off + i) y ?_
    rw [← hds, List.getElem?_take] at hy
    split at hy
    · rwa [List.getElem?_drop] at hy
    · cases hy
  refine ⟨.agg vs.toArray, ?_, by unfold Rep; exact ⟨vs, rfl, h6, h7⟩⟩
  have hr : E.w.rangeAt b off vs := fun j u hu => by rw [cell_cur h4]; exact h8 j u hu
  simp only [execOp, ho, h2, Sem.run_bind, load_row hT (by rw [hs, h6.length, hk]) hr, Result.andThen_ok, Sem.run_pure]
theorem oc_fieldAddr_own {i off n k sz : Nat} {r : Bool} {t : TypeId} {cs : List Av} (ho : o.op = .fieldAddr T p i) (hp : ρ p = .own n k) (hk : k < cs.length) (hf : fldB P T i = some (off, sz, r)) (hz : sz ≠ 0) : OC P o ρ [(n, .live t cs)] (.own n (k + off)) [] := oc_read fun E a hG hr hH => by
  have h1 := hr p (by simp [ho, Op.operands])
  rw [hp] at h1
  obtain ⟨b, cur, h2, h3, h4, h5⟩ := own_at h1 (hH n (.live t cs) (by simp)) hk
  refine ⟨.pointer (some ⟨b, k + off, none⟩), by simp only [execOp, ho, h2, Sem.run_bind, fldB_run hf hz, Result.andThen_ok, Sem.run_pure], ?_⟩
  unfold Rep
  exact ⟨⟨by rw [h3]; simp, _, rfl⟩, fun b' hb' => by rw [h3] at hb'; injection hb' with hb'; rw [hb']⟩
theorem oc_index_own {n k len j : Nat} {t : TypeId} {cs : List Av} {kk : IntKind} {i : Int} (ho : o.op = .indexAddr T p q) (hp : ρ p = .osl k n len) (hq : ρ q = .val (.int kk i)) (hT : elemB P T = some k) (h0 : 0 ≤ i) (h1 : i < len) (hj : i.toNat * k = j) : OC P o ρ [(n, .live t cs)] (.own n j) [] := oc_read fun E a hG hr hH => by
  have h2 := hr p (by simp [ho, Op.operands])
  have h3 := hr q (by simp [ho, Op.operands])
  rw [hp] at h2
  rw [hq] at h3
  unfold Rep at h2 h3
  rcases hH n (.live t cs) (by simp) with ⟨h4, _⟩ | ⟨b, cur, h4, h5, h6⟩
  · obtain ⟨_, h5⟩ := h2.1.2.2 h4
    omega
  · obtain ⟨c, cur', t', h7, h8, h9, h10, h11⟩ := h2.2 b h4
    refine ⟨.pointer (some ⟨b, j, none⟩), ?_, by unfold Rep; exact ⟨⟨h2.1.1, _, rfl⟩, fun b' hb' => by rw [h4] at hb'; injection hb' with hb'; rw [hb']⟩⟩
    simp only [execOp, ho, h7, h3, Sem.run_bind, index_run hT E.w h0 h1, Result.andThen_ok, Sem.run_pure, Nat.zero_add, hj]
theorem oc_index_ownN {n len j : Nat} {t : TypeId} {cs : List Av} {kk : IntKind} (ho : o.op = .indexAddr T p q) (hp : ρ p = .osl 1 n len) (hq : ρ q = .val (.int kk ((j : Nat) : Int))) (hT : elemB P T = some 1) (h1 : j < len) : OC P o ρ [(n, .live t cs)] (.own n j) [] :=
  oc_index_own ho hp hq hT (by omega) (by omega) (by simp)
/-- A block of the call's own is written to. -/
theorem Step.set {E : Env} (hG : Good E) {n b : Nat} {cur cur' : Array Value} {t : TypeId} (hn : E.loc n = .at b) (hb : E.w.heap[b]? = some (.cells cur t (0, 0))) {w' : World} (h1 : w'.os = E.w.os) (h2 : w'.tape = E.w.tape) (h3 : w'.output = E.w.output) (h4 : w'.heap.size = E.w.heap.size)
    (h5 : ∀ c, c ≠ b → w'.heap[c]? = E.w.heap[c]?) (h6 : w'.heap[b]? = some (.cells cur' t (0, 0))) (h7 : cur'.size = cur.size) : Step E { E with w := w' } [n] ∧ Good { E with w := w' } := by
  refine ⟨⟨h1, h2, h3, Nat.le_of_eq h4.symm, rfl, fun c hc hno => h5 c fun e => hno n (e ▸ hn), fun m hm => ⟨rfl, fun c hc => h5 c fun e => ?_⟩, fun m h => h, fun m c h => .inl h, fun m h => .inl h, fun m c cur0 t0 hc hc' hcur => ?_⟩, fun c hc => by rw [h4]; exact hG.old c hc, hG.inj, fun m c hc => by rw [h4]; exact hG.lt m c hc, hG.shp.same fun c hc => ⟨⟨by show c < w'.heap.size; rw [h4]; exact hc.1, hc.2.1, hc.2.2⟩, h5 c fun e => hc.2.2 n (e ▸ hn)⟩⟩
  · have hm : m ≠ n := by simpa using hm
    exact hm (hG.inj m n b (e ▸ hc) hn)
  · by_cases e : c = b
    · subst e
      rw [hb] at hcur
      injection hcur with hcur
      injection hcur with hcur ht
      subst hcur; subst ht
      exact ⟨cur', h6, h7⟩
    · exact ⟨cur0, (h5 c e).trans hcur, rfl⟩
theorem heap_setCell_at {w : World} {b off : Nat} {cur : Array Value} {t : TypeId} (h : w.heap[b]? = some (.cells cur t (0, 0))) (v : Value) : (w.setCell ⟨b, off, none⟩ v).heap[b]? = some (.cells (cur.setIfInBounds off v) t (0, 0)) := by
  simp [World.setCell, Array.getElem?_modify, h]
theorem oc_store {n off : Nat} {t : TypeId} {cs cs' : List Av} (ho : o.op = .store T p q) (hp : ρ p = .own n off) (hq : ρ q = y) (hT : rowB P T = some false) (hs : sizeB P T = some 1) (hy : ∀ E v, Rep E y v → v.oneCell' = true) (hlt : off < cs.length) (hcs : cs.set off y = cs') : OC P o ρ [(n, .live t cs)] .any [(n, .live t cs')] := by
  subst hcs
  intro E a hG hr hH
  have h1 := hr p (by simp [ho, Op.operands])
  have h2 := hr q (by simp [ho, Op.operands])
  rw [hp] at h1
  rw [hq] at h2
  obtain ⟨b, cur, h3, h4, h5, h6⟩ := own_at h1 (hH n (.live t cs) (by simp)) hlt
  obtain ⟨u, h7, _, _⟩ := h6 off cs[off] (List.getElem?_eq_getElem hlt)
  have hoc := hy E _ h2
  have hcell : E.w.cell? ⟨b, off, none⟩ = some u := by rw [cell_cur h5, h7]
  have hfz : E.w.frozen? ⟨b, off, none⟩ = false := by simp [World.frozen?, h5]
  have hrun : (Instr.storeAt T (.pointer (some ⟨b, off, none⟩)) (a.eval q)).run P E.w = .ok () (E.w.setCell ⟨b, off, none⟩ (a.eval q)) := by
    cases hi : P.info? T with
    | none => simp [sizeB, hi] at hs
    | some i =>
      have hsz : i.size = 1 := by simpa [sizeB, hi] using hs
      have hc1 : (a.eval q).cells = #[a.eval q] := cells_one hoc
      simp [Instr.storeAt, Instr.sureAddr, storeVar, Sem.run_bind, sizeOf, typeInfo, hi, hsz, hc1, storeCells, run_store P _ _ _ _ hoc, hcell, hfz, Addr.add]
  unfold grows execOp
  simp only [ho, h3, Sem.run_bind, hrun, Result.andThen_ok, Sem.run_pure, growUpon]
  have hset := heap_setCell_at (off := off) h5 (a.eval q)
  obtain ⟨hS, hG'⟩ := Step.set hG h4 h5 (w' := E.w.setCell ⟨b, off, none⟩ (a.eval q)) rfl rfl rfl (by simp [World.setCell]) (fun c hc => Below.heap_setCell _ _ _ _ hc) hset (by simp)
  refine ⟨_, rfl, hS, hG', by unfold Rep; trivial, fun m z hz => ?_⟩
  have hm : m = n ∧ z = .live t (cs.set off y) := by
    simp only [lkH] at hz
    cases hb : Nat.beq n m with
    | true => rw [hb] at hz; simp at hz; exact ⟨(Nat.eq_of_beq_eq_true hb).symm, hz.symm⟩
    | false => rw [hb] at hz; simp at hz
  obtain ⟨rfl, rfl⟩ := hm
  refine .inr ⟨b, _, h4, hset, fun i z hz => ?_⟩
  rw [List.getElem?_set] at hz
  by_cases e : off = i
  · subst e
    simp [hlt] at hz
    subst hz
    have : off < cur.size := (Array.getElem?_eq_some_iff.1 h7).1
    exact ⟨a.eval q, by simp [this], hoc, Rep.step hS _ _ h2⟩
  · rw [if_neg e] at hz
    obtain ⟨u, h8, h9, h10⟩ := h6 i z hz
    exact ⟨u, by rw [Array.getElem?_setIfInBounds_ne e]; exact h8, h9, Rep.step hS _ _ h10⟩
def putAt (cs : List Av) (off : Nat) (ds : List Av) : List Av := cs.take off ++ ds ++ cs.drop (off + ds.length)
theorem heap_setCells {b : Nat} {t : TypeId} : ∀ (vs : List Value) (off : Nat) (w : World) (cur : Array Value), w.heap[b]? = some (.cells cur t (0, 0)) → off + vs.length ≤ cur.size →
    (w.setCells b off vs).os = w.os ∧ (w.setCells b off vs).tape = w.tape ∧ (w.setCells b off vs).output = w.output ∧ (w.setCells b off vs).heap.size = w.heap.size ∧ (∀ c, c ≠ b → (w.setCells b off vs).heap[c]? = w.heap[c]?) ∧
    ∃ cur' : Array Value, (w.setCells b off vs).heap[b]? = some (.cells cur' t (0, 0)) ∧ cur'.size = cur.size ∧ (∀ i, i < off ∨ off + vs.length ≤ i → cur'[i]? = cur[i]?) ∧ ∀ j u, vs[j]? = some u → cur'[off + j]? = some u
  | [], off, w, cur, h, hl => ⟨rfl, rfl, rfl, rfl, fun _ _ => rfl, cur, h, rfl, fun _ _ => rfl, by simp⟩
  | v :: vs, off, w, cur, h, hl => by
    simp only [List.length_cons] at hl
    have h1 := heap_setCell_at (off := off) h v
    obtain ⟨h2, h3, h4, h5, h6, cur', h7, h8, h9, h10⟩ := heap_setCells vs (off + 1) (w.setCell ⟨b, off, none⟩ v) _ h1 (by simp; omega)
    unfold World.setCells
    refine ⟨h2, h3, h4, h5.trans (by simp [World.setCell]), fun c hc => (h6 c hc).trans (Below.heap_setCell _ _ _ _ hc), cur', h7, by simpa using h8, fun i hi => ?_, fun j u hu => ?_⟩
    · rw [h9 i (by simp at hi; omega), Array.getElem?_setIfInBounds_ne (by simp at hi; omega)]
    · cases j with
      | zero =>
        simp at hu
        subst hu
        rw [h9 _ (by omega)]
        simp [show off < cur.size from by omega]
      | succ j =>
        have := h10 j u (by simpa using hu)
        rwa [show off + 1 + j = off + (j + 1) from by omega] at this
/-- A struct is stored. -/
theorem oc_store_row {n off : Nat} {t : TypeId} {cs cs' ds : List Av} (ho : o.op = .store T p q) (hp : ρ p = .own n off) (hq : ρ q = x) (hx : x = .agg ds) (hs : sizeB P T = some ds.length) (hlt : off + ds.length ≤ cs.length) (h0 : 0 < ds.length) (hcs : putAt cs off ds = cs') : OC P o ρ [(n, .live t cs)] .any [(n, .live t cs')] := by
  subst hcs
  intro E a hG hr hH
  have h1 := hr p (by simp [ho, Op.operands])
  have h2 := hr q (by simp [ho, Op.operands])
  rw [hp] at h1
  rw [hq, hx] at h2
  obtain ⟨b, cur, h3, h4, h5, h6⟩ := own_at h1 (hH n (.live t cs) (by simp)) (by omega)
  unfold Rep at h2
  obtain ⟨vs, h7, h8, h9⟩ := h2
  have hlen := h8.length
  have hcur : ∀ i, i < cs.length → ∃ u, cur[i]? = some u := fun i hi => by
    obtain ⟨u, h10, _⟩ := h6 i cs[i] (List.getElem?_eq_getElem hi)
    exact ⟨u, h10⟩
  have hsz : off + vs.length ≤ cur.size := by
    obtain ⟨u, hu⟩ := hcur (off + ds.length - 1) (by omega)
    have := (Array.getElem?_eq_some_iff.1 hu).1
    omega
  have hth : E.w.there b off vs.toArray.size := fun j hj => by
    simp at hj
    obtain ⟨u, hu⟩ := hcur (off + j) (by omega)
    exact ⟨by rw [cell_cur h5, hu]; rfl, by simp [World.frozen?, h5]⟩
  have hrun := run_storeAt_mid (P := P) E.w b off T vs.toArray hth (by simpa [sizeB, hlen] using hs) (all_oneCell_toArray h9)
  unfold grows execOp
  simp only [ho, h3, h7, Sem.run_bind, hrun, Result.andThen_ok, Sem.run_pure, growUpon]
  obtain ⟨k1, k2, k3, k4, k5, cur', k6, k7, k8, k9⟩ := heap_setCells vs off E.w cur h5 hsz
  obtain ⟨hS, hG'⟩ := Step.set hG h4 h5 (w' := E.w.setCells b off vs) k1 k2 k3 k4 k5 k6 k7
  refine ⟨_, rfl, hS, hG', by unfold Rep; trivial, fun m z hz => ?_⟩
  have hm : m = n ∧ z = .live t (putAt cs off ds) := by
    simp only [lkH] at hz
    cases hb : Nat.beq n m with
    | true => rw [hb] at hz; simp at hz; exact ⟨(Nat.eq_of_beq_eq_true hb).symm, hz.symm⟩
    | false => rw [hb] at hz; simp at hz
  obtain ⟨rfl, rfl⟩ := hm
  refine .inr ⟨b, cur', h4, k6, fun i z hz => ?_⟩
  unfold putAt at hz
  rcases Nat.lt_or_ge i off with hi | hi
  · rw [List.append_assoc, List.getElem?_append_left (by rw [List.length_take]; omega), List.getElem?_take, if_pos hi] at hz
    obtain ⟨u, h10, h11, h12⟩ := h6 i z hz
    exact ⟨u, by rw [k8 i (.inl hi)]; exact h10, h11, Rep.step hS _ _ h12⟩
  · rw [List.append_assoc, List.getElem?_append_right (by rw [List.length_take]; omega), List.length_take, Nat.min_eq_left (by omega)] at hz
    rcases Nat.lt_or_ge i (off + ds.length) with hi' | hi'
    · rw [List.getElem?_append_left (by omega)] at hz
      obtain ⟨u, h10, h11⟩ := h8.get _ z hz
      have := k9 _ u h10
      rw [show off + (i - off) = i from by omega] at this
      exact ⟨u, this, h9 u (List.mem_of_getElem? h10), Rep.step hS _ _ h11⟩
    · rw [List.getElem?_append_right (by omega), List.getElem?_drop] at hz
      obtain ⟨u, h10, h11, h12⟩ := h6 i z (by rw [← hz]; congr 1; omega)
      exact ⟨u, by rw [k8 i (.inr (by omega))]; exact h10, h11, Rep.step hS _ _ h12⟩
/-- A new block gets a name. -/
theorem post_give {E : Env} (hG : Good E) {n b : Nat} (hn : E.loc n = .unborn) {w' : World} (h : Below E.w.heap.size E.w w') (hb : E.w.heap.size ≤ b) {cur : Array Value} {t : TypeId} (hc : w'.heap[b]? = some (.cells cur t (0, 0))) {cs : List Av} {v : Value}
    (hcs : ∀ (i : Nat) (y : Av), cs[i]? = some y → ∃ u : Value, cur[i]? = some u ∧ u.oneCell' = true ∧ Rep E y u) (hx : Rep (E.give w' n b) x v) : Post E x [(n, .live t cs)] v w' := by
  have hS := Step.give hG h hn hb
  refine ⟨E.give w' n b, rfl, hS, hG.give h hb (Array.getElem?_eq_some_iff.1 hc).1, hx, fun m z hz => ?_⟩
  have hm : m = n ∧ z = .live t cs := by
    simp only [lkH] at hz
    cases hb : Nat.beq n m with
    | true => rw [hb] at hz; simp at hz; exact ⟨(Nat.eq_of_beq_eq_true hb).symm, hz.symm⟩
    | false => rw [hb] at hz; simp at hz
  obtain ⟨rfl, rfl⟩ := hm
  refine .inr ⟨b, cur, by simp [Env.give], hc, fun i y hy => ?_⟩
  obtain ⟨u, h1, h2, h3⟩ := hcs i y hy
  exact ⟨u, h1, h2, Rep.step hS _ _ h3⟩
def atomB : Value → Bool
  | .agg _ => false
  | .tuple _ => false
  | _ => true
theorem atomB_one {v : Value} (h : atomB v = true) : v.oneCell' = true := by cases v <;> first | rfl | (simp [atomB] at h)
def zeroB (P : Program) (T : TypeId) : Option (List Value) := ((P.info? T).bind (·.zero)).map (·.cells.toList)
theorem oc_alloc {zs : List Value} {cs : List Av} (n : Nat) (ho : o.op = .alloc T) (hz : zeroB P T = some zs) (ha : zs.all atomB = true) (hcs : zs.map .val = cs) : OC P o ρ [(n, .unborn)] (.own n 0) [(n, .live T cs)] := by
  subst hcs
  intro E a hG hr hH
  have hn : E.loc n = .unborn := hH n .unborn (by simp)
  cases hi : P.info? T with
  | none => simp [zeroB, hi] at hz
  | some i =>
    cases hz0 : i.zero with
    | none => simp [zeroB, hi, hz0] at hz
    | some z =>
      simp [zeroB, hi, hz0] at hz
      unfold grows execOp
      have hrun : (Instr.alloc T true (.tuple #[])).run P E.w = .ok (.pointer (some ⟨E.w.heap.size, 0, none⟩)) (E.w.alloc (.cells z.cells T)) := by
        simp [Instr.alloc, Sem.run_bind, zeroValue, typeInfo, hi, hz0, newVar, newRow]
      simp only [ho, Sem.run_bind, hrun, Result.andThen_ok, Sem.run_pure, growUpon]
      refine post_give hG hn ((Below.refl _ _).alloc (Nat.le_refl _) _) (Nat.le_refl _) (heap_alloc_new _ _) (fun k y hy => ?_) ?_
      · rw [List.getElem?_map] at hy
        cases hk : zs[k]? with
        | none => simp [hk] at hy
        | some u =>
          simp [hk] at hy
          subst hy
          refine ⟨u, ?_, atomB_one ((List.all_eq_true.1 ha) u (List.mem_of_getElem? hk)), by unfold Rep; rfl⟩
          rw [← hz] at hk
          simpa using hk
      · unfold Rep
        exact ⟨⟨by simp [Env.give], _, rfl⟩, fun b hb => by simp [Env.give] at hb; subst hb; rfl⟩
/-- A literal slice of elements of one cell, of the call's own. -/
theorem newRow_run (e : TypeId) (cs : Array Value) (w : World) : (newRow e cs).run P w = .ok ⟨w.heap.size, 0, none⟩ (w.alloc (.cells cs e)) := by simp [newRow]
end
end Go.Proofs.Ytfipllnodgbghaa
