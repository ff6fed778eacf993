/- Pointers to blocks of the call's own, compared and seen as unsafe.Pointer and back; append(bytes, text...); a text made of the head of a row of bytes (what package strings' Builder does). No program stands in this text. -/
import Derived.Test.YtfbpbpapfkimfaaDoorMq
import Derived.Lib.Builder
import Derived.Lib.UnsafeStr
import Derived.Laws.Externs
namespace Go.Proofs.YtfbpbpapfkimfaaDoor
open Go.RowKit
set_option linter.unusedVariables false
set_option linter.unusedSimpArgs false
section
variable {P : Program} {o : Oper} {ρ : Operand → Av} {p q : Operand} {T : TypeId}
def ptrB (P : Program) (T : TypeId) : Option TypeId := match P.underlying T with | some (.pointer e) => some e | _ => none
theorem ptrB_some {e : TypeId} (h : ptrB P T = some e) : P.underlying T = some (.pointer e) := by
  unfold ptrB at h
  split at h
  · injection h with h; subst h; assumption
  · cases h
def uptrB (P : Program) (T : TypeId) : Bool := match P.underlying T with | some .unsafePointer => true | _ => false
theorem uptrB_some (h : uptrB P T = true) : P.underlying T = some .unsafePointer := by
  unfold uptrB at h
  split at h
  · assumption
  · cases h
def sized (P : Program) (e : TypeId) : Bool := match P.info? e with | some i => i.size != 0 | none => false
theorem sized_some {e : TypeId} (h : sized P e = true) : ∃ i, P.info? e = some i ∧ i.size ≠ 0 := by
  unfold sized at h
  split at h
  · rename_i i hi
    exact ⟨i, hi, by simpa using h⟩
  · cases h
theorem oc_ptr_nil {T' : TypeId} (ho : o.op = .binOp .eql T p (.const (.pointer none)) T') (hp : ρ p = .val (.pointer none)) (hT : (ptrB P T).isSome = true) : OC P o ρ [] (vb true) [] := oc_read fun E c hG hr _ => by
  obtain ⟨e, he⟩ := Option.isSome_iff_exists.1 hT
  have h1 := hr p (by simp [ho, Op.operands])
  rw [hp] at h1
  unfold Rep at h1
  have hq : ∀ d, (Op.equalIn (d + 1) T (.pointer none) (.pointer none)).run P E.w = .ok true E.w := fun d => by
    unfold Op.equalIn
    rw [Sem.run_bind, run_underlying (ptrB_some he) E.w]
    rfl
  refine ⟨.bool true, ?_, by unfold Rep; rfl⟩
  have h2 : c.eval (.const (.pointer none)) = .pointer none := rfl
  simp only [execOp, ho, h1, h2, eqGuard, binOp, Op.equal, Sem.run_bind]
  have := hq 9999
  simp [Op.maxDepth, this]
/-- A pointer into a block that stands is not nil. -/
theorem oc_ptr_own {T' t : TypeId} {n off : Nat} {y : Av} {cs : List Av} (ho : o.op = .binOp .eql T p (.const (.pointer none)) T') (hp : ρ p = .own n off) (hT : (ptrB P T).isSome = true) : OC P o ρ [(n, .live t (y :: cs))] (vb false) [] := oc_read fun E c hG hr hH => by
  obtain ⟨e, he⟩ := Option.isSome_iff_exists.1 hT
  have h1 := hr p (by simp [ho, Op.operands])
  rw [hp] at h1
  unfold Rep at h1
  rcases hH n _ (List.mem_singleton.2 rfl) with ⟨_, h2⟩ | ⟨b, cur, h2, h3, h4⟩
  · cases h2
  have h5 := h1.2 b h2
  have hq : ∀ d, (Op.equalIn (d + 1) T (.pointer (some ⟨b, off, none⟩)) (.pointer none)).run P E.w = .ok false E.w := fun d => by
    unfold Op.equalIn
    rw [Sem.run_bind, run_underlying (ptrB_some he) E.w]
    rfl
  refine ⟨.bool false, ?_, by unfold Rep; rfl⟩
  have h6 : c.eval (.const (.pointer none)) = .pointer none := rfl
  simp only [execOp, ho, h5, h6, eqGuard, binOp, Op.equal, Sem.run_bind]
  have := hq 9999
  simp [Op.maxDepth, this]
theorem oc_ptr_same {T' t e : TypeId} {n off : Nat} {y : Av} {cs : List Av} (ho : o.op = .binOp .neq T p q T') (hp : ρ p = .own n off) (hq : ρ q = .own n off) (hT : ptrB P T = some e) (hs : sized P e = true) : OC P o ρ [(n, .live t (y :: cs))] (vb false) [] := oc_read fun E c hG hr hH => by
  have h1 := hr p (by simp [ho, Op.operands])
  have h2 := hr q (by simp [ho, Op.operands])
  rw [hp] at h1
  rw [hq] at h2
  unfold Rep at h1 h2
  rcases hH n _ (List.mem_singleton.2 rfl) with ⟨_, h3⟩ | ⟨b, cur, h3, _, _⟩
  · cases h3
  obtain ⟨j, hj, _⟩ := sized_some hs
  refine ⟨.bool false, ?_, by unfold Rep; rfl⟩
  simp only [execOp, ho, h1.2 b h3, h2.2 b h3, eqGuard, Sem.run_bind]
  have := Lib.run_neq_ptr_same (P := P) E.w (⟨b, off, none⟩ : Addr) (ptrB_some hT) hj
  simp [this]
theorem live_shape {E : Env} {n : Nat} {t : TypeId} {cs : List Av} {y : Av} (h : HAt E n (.live t (y :: cs))) : ∃ (b : Nat) (cur : Array Value), E.loc n = .at b ∧ E.w.heap[b]? = some (.cells cur t (0, 0)) ∧ E.w.shape? b = some (t, cur.size) ∧ (y :: cs).length ≤ cur.size := by
  rcases h with ⟨_, h2⟩ | ⟨b, cur, h2, h3, h4⟩
  · cases h2
  refine ⟨b, cur, h2, h3, by simp [World.shape?, h3], ?_⟩
  have hl : (y :: cs).length - 1 < (y :: cs).length := by simp
  obtain ⟨u, hu, _⟩ := h4 ((y :: cs).length - 1) _ (List.getElem?_eq_getElem hl)
  have := (Array.getElem?_eq_some_iff.1 hu).1
  omega
/-- A pointer into a block of the call's own, seen as unsafe.Pointer. -/
theorem oc_toU {S t e : TypeId} {n : Nat} {y : Av} {cs : List Av} (ho : o.op = .convert S T p) (hp : ρ p = .own n 0) (hS : ptrB P S = some e) (hT : uptrB P T = true) (he : sized P e = true) : OC P o ρ [(n, .live t (y :: cs))] (.own n 0) [] := oc_read fun E c hG hr hH => by
  have h1 := hr p (by simp [ho, Op.operands])
  rw [hp] at h1
  have h1' := h1
  unfold Rep at h1
  obtain ⟨b, cur, h2, h3, h4, h5⟩ := live_shape (hH n _ (List.mem_singleton.2 rfl))
  obtain ⟨j, hj, hj0⟩ := sized_some he
  have h6 := h1.2 b h2
  refine ⟨.pointer (some ⟨b, 0, none⟩), ?_, by rw [← h6]; exact h1'⟩
  have := Lib.run_to_unsafe (P := P) E.w ⟨b, 0, none⟩ (ptrB_some hS) (uptrB_some hT) hj hj0 h4 (by simp at h5; show 0 < _; omega)
  simp [execOp, ho, h6, Sem.run_bind, this]
theorem lies_self {e : TypeId} {s : Nat} (hc : P.cellsOf e = s) (h0 : s ≠ 0) (count : Nat) (hn : 1 ≤ count) : liesAt P P.depth e count 0 e 1 = true := by
  have hd : P.depth = (2 * (P.types.size + Made.depth) + 1) + 1 := rfl
  rw [hd]
  simp only [liesAt, Bool.or_eq_true]
  left
  rw [hd]
  simp [rowAt, hc, hn, h0, sameLayout]
/-- .. and back. -/
theorem oc_fromU {S t : TypeId} {n : Nat} {y : Av} {cs : List Av} (ho : o.op = .convert S T p) (hp : ρ p = .own n 0) (hS : uptrB P S = true) (hT : ptrB P T = some t) (he : sized P t = true) (hk : Nat.ble (P.cellsOf t) (y :: cs).length = true) (hk0 : P.cellsOf t ≠ 0) : OC P o ρ [(n, .live t (y :: cs))] (.own n 0) [] := oc_read fun E c hG hr hH => by
  have h1 := hr p (by simp [ho, Op.operands])
  rw [hp] at h1
  have h1' := h1
  unfold Rep at h1
  obtain ⟨b, cur, h2, h3, h4, h5⟩ := live_shape (hH n _ (List.mem_singleton.2 rfl))
  obtain ⟨j, hj, hj0⟩ := sized_some he
  have h6 := h1.2 b h2
  refine ⟨.pointer (some ⟨b, 0, none⟩), ?_, by rw [← h6]; exact h1'⟩
  have hcount : 1 ≤ cur.size / P.cellsOf t := by
    have := Nat.le_of_ble_eq_true hk
    exact (Nat.one_le_div_iff (by omega)).2 (by omega)
  have := Lib.run_from_unsafe (P := P) E.w ⟨b, 0, none⟩ (uptrB_some hS) (ptrB_some hT) hj h4 (lies_self rfl hk0 _ hcount)
  simp [execOp, ho, h6, Sem.run_bind, this]
/-- internal/abi.NoEscape: the pointer as it is. -/
def escB (P : Program) (f : FuncId) : Bool := match P.funcs[f]? with | some fn => !(fn.name == "runtime.NumGoroutine") && fn.body.isNone && (Extern.findNext fn).isNone | none => false
theorem oc_noEscape {f : Nat} {fn : Func} {tys : Array TypeId} {x : Av} (ho : o.op = .call { callee := .value (.func f), args := #[p], argTypes := tys }) (hp : ρ p = x) (hf : P.funcs[f]? = some fn) (h1 : (fn.name == "runtime.NumGoroutine") = false) (h2 : fn.body.isNone = true) (h3 : Extern.findNext fn = none) (h4 : Extern.find fn = some Extern.AbiNoEscape.same) : OC P o ρ [] x [] := oc_read fun E c hG hr _ => by
  have hx := hr p (by simp [ho, Op.operands, Call.operands])
  rw [hp] at hx
  refine ⟨c.eval p, ?_, hx⟩
  have := run_callFunc_extern (P := P) hf h1 h2 h3 h4 #[c.eval p] E.w
  rw [Lib.run_noEscape] at this
  simp only [Result.andThen] at this
  unfold execOp
  simp only [ho, resolve, Deferred.ofValue, Act.eval, Sem.run_bind, Sem.run_pure, Result.andThen_ok, invoke, Array.append_empty, Array.empty_append, List.map_toArray, List.map_cons, List.map_nil]
  exact this
/-! ### append(bytes, text...) -/
def bytA (s : ByteArray) : List Av := s.data.toList.map fun c => .val (.int .u8 c.toNat)
theorem bytA_len (s : ByteArray) : (bytA s).length = s.size := by unfold bytA; rw [List.length_map, Array.length_toList]; rfl
theorem bytA_app (a b : ByteArray) : bytA (a ++ b) = bytA a ++ bytA b := by unfold bytA; rw [ByteArray.data_append, Array.toList_append, List.map_append]
theorem bytA_rep {E : Env} (s : ByteArray) : RepL E (bytA s) (Lib.strCells s) := by
  unfold bytA Lib.strCells
  induction s.data.toList with
  | nil => unfold List.map RepL; rfl
  | cons c l ih =>
    rw [List.map_cons, List.map_cons]
    unfold RepL
    exact ⟨_, _, rfl, by unfold Rep; rfl, ih⟩
theorem bytA_vals {E : Env} (s : ByteArray) (vs : List Value) (h : RepL E (bytA s) vs) : vs = Lib.strCells s := by
  unfold bytA at h
  unfold Lib.strCells
  revert vs h
  induction s.data.toList with
  | nil => intro vs h; unfold List.map RepL at h; exact h
  | cons c l ih =>
    intro vs h
    rw [List.map_cons] at h
    unfold RepL at h
    obtain ⟨v, us, rfl, h1, h2⟩ := h
    unfold Rep at h1
    rw [List.map_cons, h1, ih us h2]
theorem run_appS {t u e ty : TypeId} {w : World} {i : TypeInfo} (ht : P.underlying t = some (.slice e)) (hu : P.underlying u = some .string) (hi : P.info? e = some i) (hz : i.zero = some (.int .u8 0)) (hsize : i.size = 1) (hby : i.bytes = 1)
    {v : Value} {n : Nat} {xs : List Value} (hown : w.ownsRow 0 e 1 v n xs) (s : ByteArray) (hb : n + s.size ≤ 140737488355328) :
    ∃ v' w', (Builtin.append_ #[t, u] ty #[v, .string s]).run P w = .ok v' w' ∧ w'.ownsRow 0 e 1 v' (n + s.size) (xs ++ Lib.strCells s) ∧ w.grownBy w' v.ownBlock ∧ (v'.ownBlock = v.ownBlock ∨ v'.ownBlock = some w.heap.size) := by
  obtain ⟨v', w', r, h2, h3, h4⟩ := Lib.run_append_own_string (P := P) w 0 t u ty e i ht hu hi hz hsize hby v n xs hown s (by simp only [maxLen]; omega) hb (Nat.zero_le _)
  refine ⟨v', w', r, h2, h3, ?_⟩
  have hxl : xs.length = n := by simpa using hown.1
  rcases hown.2 with ⟨rfl, rfl⟩ | ⟨g, cap, cur, rfl, _, hg, hnc, hcm, hcs, _⟩
  · by_cases hm : s.size = 0
    · exact .inl (by rw [h4.2 ⟨rfl, hm⟩])
    · have hr := run_append_nil_string (P := P) w t u ty e i (.int .u8 0) ht hu hi hz s (by omega) (by omega) (by rw [hby]; omega)
      rw [hr] at r
      injection r with r1 r2
      exact .inr (by rw [← r1]; rfl)
  · by_cases hroom : n + s.size ≤ cap
    · have hr := Lib.run_append_room_string (P := P) w t u ty e i ht hu hi hsize g n cap cur hg s hroom (by omega)
      rw [hr] at r
      injection r with r1 r2
      exact .inl (by rw [← r1]; rfl)
    · have hr := Lib.run_append_grow_string (P := P) w t u ty e i (.int .u8 0) ht hu hi hz ⟨g, 0, none⟩ n cap xs (by rw [hsize]; simpa using hxl) (hown.cells (g := g) rfl) s (by omega) (by omega) (by rw [hby]; exact growslice_fits (by omega) (by omega))
      rw [hr] at r
      injection r with r1 r2
      exact .inr (by rw [← r1]; rfl)
theorem append_execS {t u : TypeId} {a : Act} {w : World} (ho : o.op = .call { callee := .builtin .append, args := #[p, q], argTypes := #[t, u] }) {v' : Value} {w' : World} (hrun : (Builtin.append_ #[t, u] o.type #[a.eval p, a.eval q]).run P w = .ok v' w') : (execOp a.eval o).run P w = .ok (.value v') w' := by
  unfold execOp
  simp only [ho, resolve, invoke, builtin, Sem.run_bind, Sem.run_pure, Result.andThen_ok, List.map_toArray, List.map_cons, List.map_nil, hrun]
theorem oc_appendS {e T2 : TypeId} {n len : Nat} {cs : List Av} {s : ByteArray} (m : Nat) (ho : o.op = .call { callee := .builtin .append, args := #[p, q], argTypes := #[T, T2] }) (hp : ρ p = .osl 1 n len) (hq : ρ q = vs s) (hT : eB P T = some e) (hT2 : isStrB P T2 = true) (hi : infoB P e = some (1, 1, [.int .u8 0])) (hz0 : (P.info? e).bind (·.zero) = some (.int .u8 0)) (hnm : n ≠ m) (hl : cs.length = len) (hb : len + s.size ≤ 140737488355328) :
    OC P o ρ [(n, .live e cs), (m, .unborn)] (.osl 1 m (len + s.size)) [(n, .dead), (m, .live e (cs ++ bytA s))] := by
  intro E a hG hr hH
  have h1 := hr p (by simp [ho, Op.operands, Call.operands])
  have h2 := hr q (by simp [ho, Op.operands, Call.operands])
  rw [hp] at h1
  rw [hq] at h2
  have h2' : a.eval q = .string s := by unfold Rep at h2; exact h2
  have hn := hH n (.live e cs) (by simp)
  have hu : E.loc m = .unborn := hH m .unborn (by simp)
  obtain ⟨xs, g1, g2, g3, g4⟩ := own_row h1 hn (by rw [hl, Nat.mul_one])
  obtain ⟨i, z, i1, i2, i3, i4, i5⟩ := infoB_some hi
  have hz : z = .int .u8 0 := by
    rw [i1] at hz0
    simp only [Option.bind_some, i2] at hz0
    exact Option.some.inj hz0
  subst hz
  obtain ⟨v', w', r1, r2, r3, r4⟩ := run_appS (ty := o.type) (eB_some hT) (isStr_some hT2) i1 i2 i3 i4 g1 s hb
  unfold grows
  rw [append_execS ho (by rw [h2']; exact r1)]
  have hn0 : E.loc n ≠ .unborn := by unfold Rep at h1; exact h1.1.1
  exact post_append hG hnm hu hn0 g2 (bytA_rep s) g3 (fun u hu => by obtain ⟨c, _, rfl⟩ := List.mem_map.1 hu; rfl) g4 r2 r3 r4
/-! ### unsafe.SliceData, unsafe.String, len -/
theorem oc_len_osl {k m n : Nat} (ho : o.op = .call { callee := .builtin .len, args := #[p], argTypes := #[T] }) (hp : ρ p = .osl k m n) (hT : lenB P T = true) : OC P o ρ [] (.val (.int .i64 n)) [] := oc_read fun E a hG hr _ => by
  have h1 := hr p (by simp [ho, Op.operands, Call.operands])
  rw [hp] at h1
  unfold Rep at h1
  obtain ⟨⟨_, ⟨A, c, hv⟩, _⟩, _⟩ := h1
  obtain ⟨e, he⟩ := lenB_some hT
  refine ⟨.int .i64 n, ?_, by unfold Rep; rfl⟩
  simp [execOp, ho, resolve, invoke, builtin, Builtin.len_, Sem.run_bind, run_underlying he, hv, goInt]
theorem exec_sd {a : Act} {w w' : World} {v : Value} (ho : o.op = .call { callee := .builtin .unsafeSliceData, args := #[p], argTypes := #[T] }) (hrun : (Builtin.unsafeSliceData_ #[T] o.type #[a.eval p]).run P w = .ok v w') : (execOp a.eval o).run P w = .ok (.value v) w' := by
  unfold execOp
  simp only [ho, resolve, invoke, builtin, Sem.run_bind, Sem.run_pure, Result.andThen_ok, List.map_toArray, List.map_cons, List.map_nil, hrun]
theorem exec_us {T2 : TypeId} {a : Act} {w w' : World} {v : Value} (ho : o.op = .call { callee := .builtin .unsafeString, args := #[p, q], argTypes := #[T, T2] }) (hrun : (Builtin.unsafeString_ #[T, T2] o.type #[a.eval p, a.eval q]).run P w = .ok v w') : (execOp a.eval o).run P w = .ok (.value v) w' := by
  unfold execOp
  simp only [ho, resolve, invoke, builtin, Sem.run_bind, Sem.run_pure, Result.andThen_ok, List.map_toArray, List.map_cons, List.map_nil, hrun]
theorem oc_sliceData {t : TypeId} {m len : Nat} {cs : List Av} (ho : o.op = .call { callee := .builtin .unsafeSliceData, args := #[p], argTypes := #[T] }) (hp : ρ p = .osl 1 m len) (hc0 : 0 < cs.length) (h0 : 0 < len) : OC P o ρ [(m, .live t cs)] (.own m 0) [] := oc_read fun E a hG hr hH => by
  cases cs with
  | nil => simp at hc0
  | cons y cs =>
  have h1 := hr p (by simp [ho, Op.operands, Call.operands])
  rw [hp] at h1
  unfold Rep at h1
  obtain ⟨b, cur, h2, h3, h4, h5⟩ := live_shape (hH m _ (List.mem_singleton.2 rfl))
  obtain ⟨c, cur', t', h6, h7, _⟩ := h1.2 b h2
  refine ⟨.pointer (some ⟨b, 0, none⟩), exec_sd ho ?_, ?_⟩
  · rw [h6]; exact Lib.run_unsafeSliceData_row _ _ _ _ _ _ (by omega)
  · unfold Rep
    exact ⟨⟨h1.1.1, _, rfl⟩, fun b' hb' => by rw [h2] at hb'; injection hb' with hb'; rw [hb']⟩
theorem oc_sliceData0 {t e : TypeId} {m : Nat} (ho : o.op = .call { callee := .builtin .unsafeSliceData, args := #[p], argTypes := #[T] }) (hp : ρ p = .osl 1 m 0) (ht : ptrB P o.type = some e) : OC P o ρ [(m, .live t [])] (.own m 0) [(m, .dead)] := by
  intro E a hG hr hH
  have h1 := hr p (by simp [ho, Op.operands, Call.operands])
  rw [hp] at h1
  unfold Rep at h1
  have hK := Step.kill E m h1.1.1
  have fin : ∀ (v : Value) (w' : World), (execOp a.eval o).run P E.w = .ok (.value v) w' → Below E.w.heap.size E.w w' → (∃ x, v = .pointer x) → grows P o a E.w (Post E (.own m 0) [(m, .dead)]) := fun v w' hr hb hv => by
    unfold grows
    rw [hr]
    have hg := Step.grow hG hb
    have hS := hg.trans (Step.kill { E with w := w' } m h1.1.1)
    refine ⟨_, rfl, hS, (hG.grow hb).re (by simp), ?_, fun n y hn => ?_⟩
    · unfold Rep
      refine ⟨⟨by simp [Env.re], hv⟩, fun b hb => ?_⟩
      simp [Env.re] at hb
    · simp only [lkH] at hn
      by_cases e : m = n
      · subst e
        simp at hn
        subst hn
        show (Env.re _ m .dead).loc m = .dead
        simp [Env.re]
      · simp [beqF e] at hn
  rcases hH m _ (List.mem_singleton.2 rfl) with ⟨h2, _⟩ | ⟨b, cur, h2, h3, _⟩
  · obtain ⟨hv, _⟩ := h1.1.2.2 h2
    exact fin _ _ (exec_sd ho (by rw [hv]; exact Lib.run_unsafeSliceData_nil _ _ _ _ _)) (Below.refl _ _) ⟨_, rfl⟩
  · obtain ⟨c, cur', t', h6, h7, _⟩ := h1.2 b h2
    by_cases hc : c = 0
    · subst hc
      exact fin _ _ (exec_sd ho (by rw [h6]; exact Lib.run_unsafeSliceData_zero _ _ _ e (ptrB_some ht) _ _ (t, cur.size) (by simp [World.shape?, h3]))) ((Below.refl _ _).alloc (Nat.le_refl _) _) ⟨_, rfl⟩
    · exact fin _ _ (exec_sd ho (by rw [h6]; exact Lib.run_unsafeSliceData_row _ _ _ _ _ _ hc)) (Below.refl _ _) ⟨_, rfl⟩
theorem oc_unsafeString0 {T2 : TypeId} {m : Nat} (ho : o.op = .call { callee := .builtin .unsafeString, args := #[p, q], argTypes := #[T, T2] }) (hp : ρ p = .own m 0) (hq : ρ q = vi 0) : OC P o ρ [] (vs ByteArray.empty) [] := oc_read fun E a hG hr _ => by
  have h1 := hr p (by simp [ho, Op.operands, Call.operands])
  have h2 := hr q (by simp [ho, Op.operands, Call.operands])
  rw [hp] at h1
  rw [hq] at h2
  unfold Rep at h1 h2
  obtain ⟨⟨_, x, hx⟩, _⟩ := h1
  exact ⟨.string .empty, exec_us ho (by rw [hx, h2]; exact Lib.run_unsafeString_none _ _ _ _ _), by unfold Rep; rfl⟩
theorem freeze_other {w : World} {g k n : Nat} (h : k ≠ g) : (w.freeze ⟨g, 0, none⟩ n).heap[k]? = w.heap[k]? := by
  unfold World.freeze
  split
  · rfl
  · show (w.heap.modify g _)[k]? = _
    rw [Array.getElem?_modify, if_neg (fun e => h e.symm)]
theorem freeze_same {w : World} {g n : Nat} : (w.freeze ⟨g, 0, none⟩ n).heap.size = w.heap.size ∧ (w.freeze ⟨g, 0, none⟩ n).os = w.os ∧ (w.freeze ⟨g, 0, none⟩ n).tape = w.tape ∧ (w.freeze ⟨g, 0, none⟩ n).output = w.output := by
  unfold World.freeze
  split
  · exact ⟨rfl, rfl, rfl, rfl⟩
  · exact ⟨by simp, rfl, rfl, rfl⟩
theorem oc_unsafeString {T2 e : TypeId} {m n : Nat} {s : ByteArray} (ho : o.op = .call { callee := .builtin .unsafeString, args := #[p, q], argTypes := #[T, T2] }) (hp : ρ p = .own m 0) (hq : ρ q = vi (n : Int)) (hT : ptrB P T = some e) (hc : P.cellsOf e = 1) (hn : n = s.size) (h0 : 0 < s.size) (h63 : s.size ≤ 9223372036854775807) : OC P o ρ [(m, .live e (bytA s))] (vs s) [(m, .dead)] := by
  intro E a hG hr hH
  have h1 := hr p (by simp [ho, Op.operands, Call.operands])
  have h2 := hr q (by simp [ho, Op.operands, Call.operands])
  rw [hp] at h1
  rw [hq] at h2
  have h2' : a.eval q = .int .i64 (n : Int) := by unfold Rep at h2; exact h2
  unfold Rep at h1
  have hls : s.data.toList.length = s.size := by rw [Array.length_toList]; rfl
  rcases hH m _ (List.mem_singleton.2 rfl) with ⟨_, h3⟩ | ⟨b, cur, h3, h4, h5⟩
  · have := bytA_len s
    rw [h3] at this
    simp at this
    omega
  have h6 := h1.2 b h3
  have hcell : ∀ (j : Nat) (x : UInt8), s.data.toList[j]? = some x → cur[j]? = some (Value.int .u8 x.toNat) := fun j x hx => by
    obtain ⟨u, hu, _, hu2⟩ := h5 j (.val (.int .u8 x.toNat)) (by unfold bytA; rw [List.getElem?_map, hx]; rfl)
    unfold Rep at hu2
    rw [hu, hu2]
  have hsz : s.size ≤ cur.size := by
    have hlt : s.size - 1 < s.data.toList.length := by omega
    have := (Array.getElem?_eq_some_iff.1 (hcell (s.size - 1) _ (List.getElem?_eq_getElem hlt))).1
    omega
  have hrun : (Builtin.unsafeString_ #[T, T2] o.type #[a.eval p, a.eval q]).run P E.w = .ok (.string ⟨s.data.toList.toArray⟩) (E.w.freeze ⟨b, 0, none⟩ s.data.toList.length) := by
    rw [h6, h2', hn, ← hls]
    refine Lib.run_unsafeString_row E.w T T2 o.type e (ptrB_some hT) hc b cur.size (by simp [World.shape?, h4]) s.data.toList (fun hz => by rw [hz] at hls; simp at hls; omega) (by omega) (by omega) fun j x hx => ?_
    rw [Addr.add_lit]
    show E.w.cell? ⟨b, 0 + j, none⟩ = _
    rw [Lib.cell_of_heap h4, Nat.zero_add]
    exact hcell j x hx
  unfold grows
  rw [exec_us ho hrun]
  obtain ⟨f1, f2, f3, f4⟩ := freeze_same (w := E.w) (g := b) (n := s.data.toList.length)
  let E' : Env := { w := E.w.freeze ⟨b, 0, none⟩ s.data.toList.length, loc := fun i => if i = m then .dead else E.loc i, bad := E.bad }
  have hne : ∀ i c, E'.loc i = .at c → i ≠ m ∧ E.loc i = .at c := fun i c hi => by
    by_cases e : i = m
    · simp [E', e] at hi
    · simp [E', e] at hi; exact ⟨e, hi⟩
  have hob : ∀ i c, i ≠ m → E.loc i = .at c → c ≠ b := fun i c hi hc e => hi (hG.inj i m b (by rw [← e]; exact hc) h3)
  refine ⟨E', rfl, ⟨f2, f3, f4, by rw [show E'.w.heap.size = E.w.heap.size from f1]; exact Nat.le_refl _, rfl, fun c hlt hno => freeze_other (fun e => hno m (by rw [e]; exact h3)), fun i hi => ?_, fun i hi => ?_, fun i c hi => .inl (hne i c hi).2, fun i hi => ?_, fun i c cur' t' hi hi' hcc => ?_⟩, ⟨fun c hc => by rw [show E'.w.heap.size = E.w.heap.size from f1]; exact hG.old c hc, fun i j c hi hj => hG.inj i j c (hne i c hi).2 (hne j c hj).2, fun i c hi => ?_, hG.shp.same fun c hc => ⟨⟨?_, hc.2.1, fun i hi => hc.2.2 i (hne i c hi).2⟩, ?_⟩⟩, ?_, fun i y hi => ?_⟩
  · have hi : i ≠ m := by simpa using hi
    exact ⟨by simp [E', hi], fun c hc => freeze_other (hob i c hi hc)⟩
  · by_cases e : i = m
    · simp [E', e]
    · simpa [E', e] using hi
  · by_cases e : i = m
    · simp [E', e] at hi
    · simp [E', e] at hi; exact .inl hi
  · exact ⟨cur', (freeze_other (hob i c (hne i c hi).1 hi')).trans hcc, rfl⟩
  · have := hG.lt i c (hne i c hi).2
    exact ⟨by rw [show E'.w.heap.size = E.w.heap.size from f1]; exact this.1, this.2⟩
  · rw [show E'.w.heap.size = E.w.heap.size from f1]; exact hc.1
  · exact freeze_other (fun e => hc.2.2 m (by rw [e]; exact h3))
  · unfold Rep; rfl
  · simp only [lkH] at hi
    by_cases e : m = i
    · subst e
      simp at hi
      subst hi
      show E'.loc m = .dead
      simp [E']
    · simp [beqF e] at hi
end
end Go.Proofs.YtfbpbpapfkimfaaDoor
