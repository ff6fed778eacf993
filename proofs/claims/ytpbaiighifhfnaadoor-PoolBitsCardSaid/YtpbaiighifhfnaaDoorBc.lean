/- Pointers to blocks of the call's own, compared and seen as unsafe.Pointer and back; append(bytes, text...); a text made of the head of a row of bytes (what package strings' Builder does). No program stands in this text. The codes of chapter 6 as plain lists of numbers. No program stands in this text. Chapter 7 as plain data: rows counted in maps. No program stands in this text. A story's tables and a world as plain data, and as abstract values. No program stands in this text. Contracts told by rows: readers, rows of numbers; an array's element. No program stands in this text. Texts, asked byte by byte. The contracts of a byte's codes: alpha.sort, clewref06.sign, clewref06.one. Chapter 7: what a text costs, walked. Chapter 7: counting rows, walked. Chapter 7 as plain data: the row that saves most, whatever the order in which rows are asked. No program is walked in this text. -/
import Derived.Test.YtpbaiighifhfnaaDoorPk
import Derived.Lib.Builder
import Derived.Lib.UnsafeStr
import Derived.Laws.Externs
import Derived.Test.YtpbaiighifhfnaaDoorTexts
import Derived.Test.YtpbaiighifhfnaaDoorOo
import Derived.Test.YtpbaiighifhfnaaDoorProg
import Derived.KernelRfl
import Derived.Outline
import Derived.Laws.RangeAny
import Derived.Laws.RangeString
namespace Go.Proofs.YtpbaiighifhfnaaDoor
open Go.RowKit
set_option linter.unusedVariables false
set_option linter.unusedSimpArgs false
section
variable {P : Program} {o : Oper} {ρ : Operand → Av} {p q : Operand} {T : TypeId}
def ptrB (P : Program) (T : TypeId) : Option TypeId := match P.underlying T with | some (.pointer e) => some e | _ => none
theorem ptrB_some {e : TypeId} (h : ptrB P T = some e) : P.underlying T = some (.pointer e) := by
  unfold ptrB at h
  split at h
  · injection h with h; subst h; assumption
  · cases h
def uptrB (P : Program) (T : TypeId) : Bool := match P.underlying T with | some .unsafePointer => true | _ => false
theorem uptrB_some (h : uptrB P T = true) : P.underlying T = some .unsafePointer := by
  unfold uptrB at h
  split at h
  · assumption
  · cases h
def sized (P : Program) (e : TypeId) : Bool := match P.info? e with | some i => i.size != 0 | none => false
theorem sized_some {e : TypeId} (h : sized P e = true) : ∃ i, P.info? e = some i ∧ i.size ≠ 0 := by
  unfold sized at h
  split at h
  · rename_i i hi
    exact ⟨i, hi, by simpa using h⟩
  · cases h
theorem oc_ptr_nil {T' : TypeId} (ho : o.op = .binOp .eql T p (.const (.pointer none)) T') (hp : ρ p = .val (.pointer none)) (hT : (ptrB P T).isSome = true) : OC P o ρ [] (vb true) [] := oc_read fun E c hG hr _ => by
  obtain ⟨e, he⟩ := Option.isSome_iff_exists.1 hT
  have h1 := hr p (by simp [ho, Op.operands])
  rw [hp] at h1
  unfold Rep at h1
  have hq : ∀ d, (Op.equalIn (d + 1) T (.pointer none) (.pointer none)).run P E.w = .ok true E.w := fun d => by
    unfold Op.equalIn
    rw [Sem.run_bind, run_underlying (ptrB_some he) E.w]
    rfl
  refine ⟨.bool true, ?_, by unfold Rep; rfl⟩
  have h2 : c.eval (.const (.pointer none)) = .pointer none := rfl
  simp only [execOp, ho, h1, h2, eqGuard, binOp, Op.equal, Sem.run_bind]
  have := hq 9999
  simp [Op.maxDepth, this]
/-- A pointer into a block that stands is not nil. -/
theorem oc_ptr_own {T' t : TypeId} {n off : Nat} {y : Av} {cs : List Av} (ho : o.op = .binOp .eql T p (.const (.pointer none)) T') (hp : ρ p = .own n off) (hT : (ptrB P T).isSome = true) : OC P o ρ [(n, .live t (y :: cs))] (vb false) [] := oc_read fun E c hG hr hH => by
  obtain ⟨e, he⟩ := Option.isSome_iff_exists.1 hT
  have h1 := hr p (by simp [ho, Op.operands])
  rw [hp] at h1
  unfold Rep at h1
  rcases hH n _ (List.mem_singleton.2 rfl) with ⟨_, h2⟩ | ⟨b, cur, h2, h3, h4⟩
  · cases h2
  have h5 := h1.2 b h2
  have hq : ∀ d, (Op.equalIn (d + 1) T (.pointer (some ⟨b, off, none⟩)) (.pointer none)).run P E.w = .ok false E.w := fun d => by
    unfold Op.equalIn
    rw [Sem.run_bind, run_underlying (ptrB_some he) E.w]
    rfl
  refine ⟨.bool false, ?_, by unfold Rep; rfl⟩
  have h6 : c.eval (.const (.pointer none)) = .pointer none := rfl
  simp only [execOp, ho, h5, h6, eqGuard, binOp, Op.equal, Sem.run_bind]
  have := hq 9999
  simp [Op.maxDepth, this]
theorem oc_ptr_same {T' t e : TypeId} {n off : Nat} {y : Av} {cs : List Av} (ho : o.op = .binOp .neq T p q T') (hp : ρ p = .own n off) (hq : ρ q = .own n off) (hT : ptrB P T = some e) (hs : sized P e = true) : OC P o ρ [(n, .live t (y :: cs))] (vb false) [] := oc_read fun E c hG hr hH => by
  have h1 := hr p (by simp [ho, Op.operands])
  have h2 := hr q (by simp [ho, Op.operands])
  rw [hp] at h1
  rw [hq] at h2
  unfold Rep at h1 h2
  rcases hH n _ (List.mem_singleton.2 rfl) with ⟨_, h3⟩ | ⟨b, cur, h3, _, _⟩
  · cases h3
  obtain ⟨j, hj, _⟩ := sized_some hs
  refine ⟨.bool false, ?_, by unfold Rep; rfl⟩
  simp only [execOp, ho, h1.2 b h3, h2.2 b h3, eqGuard, Sem.run_bind]
  have := Lib.run_neq_ptr_same (P := P) E.w (⟨b, off, none⟩ : Addr) (ptrB_some hT) hj
  simp [this]
theorem live_shape {E : Env} {n : Nat} {t : TypeId} {cs : List Av} {y : Av} (h : HAt E n (.live t (y :: cs))) : ∃ (b : Nat) (cur : Array Value), E.loc n = .at b ∧ E.w.heap[b]? = some (.cells cur t (0, 0)) ∧ E.w.shape? b = some (t, cur.size) ∧ (y :: cs).length ≤ cur.size := by
  rcases h with ⟨_, h2⟩ | ⟨b, cur, h2, h3, h4⟩
  · cases h2
  refine ⟨b, cur, h2, h3, by simp [World.shape?, h3], ?_⟩
  have hl : (y :: cs).length - 1 < (y :: cs).length := by simp
  obtain ⟨u, hu, _⟩ := h4 ((y :: cs).length - 1) _ (List.getElem?_eq_getElem hl)
  have := (Array.getElem?_eq_some_iff.1 hu).1
  omega
/-- A pointer into a block of the call's own, seen as unsafe.Pointer. -/
theorem oc_toU {S t e : TypeId} {n : Nat} {y : Av} {cs : List Av} (ho : o.op = .convert S T p) (hp : ρ p = .own n 0) (hS : ptrB P S = some e) (hT : uptrB P T = true) (he : sized P e = true) : OC P o ρ [(n, .live t (y :: cs))] (.own n 0) [] := oc_read fun E c hG hr hH => by
  have h1 := hr p (by simp [ho, Op.operands])
  rw [hp] at h1
  have h1' := h1
  unfold Rep at h1
  obtain ⟨b, cur, h2, h3, h4, h5⟩ := live_shape (hH n _ (List.mem_singleton.2 rfl))
  obtain ⟨j, hj, hj0⟩ := sized_some he
  have h6 := h1.2 b h2
  refine ⟨.pointer (some ⟨b, 0, none⟩), ?_, by rw [← h6]; exact h1'⟩
  have := Lib.run_to_unsafe (P := P) E.w ⟨b, 0, none⟩ (ptrB_some hS) (uptrB_some hT) hj hj0 h4 (by simp at h5; show 0 < _; omega)
  simp [execOp, ho, h6, Sem.run_bind, this]
theorem lies_self {e : TypeId} {s : Nat} (hc : P.cellsOf e = s) (h0 : s ≠ 0) (count : Nat) (hn : 1 ≤ count) : liesAt P P.depth e count 0 e 1 = true := by
  have hd : P.depth = (2 * (P.types.size + Made.depth) + 1) + 1 := rfl
  rw [hd]
  simp only [liesAt, Bool.or_eq_true]
  left
  rw [hd]
  simp [rowAt, hc, hn, h0, sameLayout]
/-- .. and back. -/
theorem oc_fromU {S t : TypeId} {n : Nat} {y : Av} {cs : List Av} (ho : o.op = .convert S T p) (hp : ρ p = .own n 0) (hS : uptrB P S = true) (hT : ptrB P T = some t) (he : sized P t = true) (hk : Nat.ble (P.cellsOf t) (y :: cs).length = true) (hk0 : P.cellsOf t ≠ 0) : OC P o ρ [(n, .live t (y :: cs))] (.own n 0) [] := oc_read fun E c hG hr hH => by
  have h1 := hr p (by simp [ho, Op.operands])
  rw [hp] at h1
  have h1' := h1
  unfold Rep at h1
  obtain ⟨b, cur, h2, h3, h4, h5⟩ := live_shape (hH n _ (List.mem_singleton.2 rfl))
  obtain ⟨j, hj, hj0⟩ := sized_some he
  have h6 := h1.2 b h2
  refine ⟨.pointer (some ⟨b, 0, none⟩), ?_, by rw [← h6]; exact h1'⟩
  have hcount : 1 ≤ cur.size / P.cellsOf t := by
    have := Nat.le_of_ble_eq_true hk
    exact (Nat.one_le_div_iff (by omega)).2 (by omega)
  have := Lib.run_from_unsafe (P := P) E.w ⟨b, 0, none⟩ (uptrB_some hS) (ptrB_some hT) hj h4 (lies_self rfl hk0 _ hcount)
  simp [execOp, ho, h6, Sem.run_bind, this]
theorem oc_noEscape {f : Nat} {fn : Func} {tys : Array TypeId} {x : Av} (ho : o.op = .call { callee := .value (.func f), args := #[p], argTypes := tys }) (hp : ρ p = x) (hf : P.funcs[f]? = some fn) (h1 : (fn.name == "runtime.NumGoroutine") = false) (h2 : fn.body.isNone = true) (h3 : Extern.findNext fn = none) (h4 : Extern.find fn = some Extern.AbiNoEscape.same) : OC P o ρ [] x [] := oc_read fun E c hG hr _ => by
  have hx := hr p (by simp [ho, Op.operands, Call.operands])
  rw [hp] at hx
  refine ⟨c.eval p, ?_, hx⟩
  have := run_callFunc_extern (P := P) hf h1 h2 h3 h4 #[c.eval p] E.w
  rw [Lib.run_noEscape] at this
  simp only [Result.andThen] at this
  unfold execOp
  simp only [ho, resolve, Deferred.ofValue, Act.eval, Sem.run_bind, Sem.run_pure, Result.andThen_ok, invoke, Array.append_empty, Array.empty_append, List.map_toArray, List.map_cons, List.map_nil]
  exact this
/-! ### append(bytes, text...) -/
def bytA (s : ByteArray) : List Av := s.data.toList.map fun c => .val (.int .u8 c.toNat)
theorem bytA_len (s : ByteArray) : (bytA s).length = s.size := by unfold bytA; rw [List.length_map, Array.length_toList]; rfl
theorem bytA_app (a b : ByteArray) : bytA (a ++ b) = bytA a ++ bytA b := by unfold bytA; rw [ByteArray.data_append, Array.toList_append, List.map_append]
theorem bytA_rep {E : Env} (s : ByteArray) : RepL E (bytA s) (Lib.strCells s) := by
  unfold bytA Lib.strCells
  induction s.data.toList with
  | nil => unfold List.map RepL; rfl
  | cons c l ih =>
    rw [List.map_cons, List.map_cons]
    unfold RepL
    exact ⟨_, _, rfl, by unfold Rep; rfl, ih⟩
theorem run_appS {t u e ty : TypeId} {w : World} {i : TypeInfo} (ht : P.underlying t = some (.slice e)) (hu : P.underlying u = some .string) (hi : P.info? e = some i) (hz : i.zero = some (.int .u8 0)) (hsize : i.size = 1) (hby : i.bytes = 1)
    {v : Value} {n : Nat} {xs : List Value} (hown : w.ownsRow 0 e 1 v n xs) (s : ByteArray) (hb : n + s.size ≤ 140737488355328) :
    ∃ v' w', (Builtin.append_ #[t, u] ty #[v, .string s]).run P w = .ok v' w' ∧ w'.ownsRow 0 e 1 v' (n + s.size) (xs ++ Lib.strCells s) ∧ w.grownBy w' v.ownBlock ∧ (v'.ownBlock = v.ownBlock ∨ v'.ownBlock = some w.heap.size) := by
  obtain ⟨v', w', r, h2, h3, h4⟩ := Lib.run_append_own_string (P := P) w 0 t u ty e i ht hu hi hz hsize hby v n xs hown s (by simp only [maxLen]; omega) hb (Nat.zero_le _)
  refine ⟨v', w', r, h2, h3, ?_⟩
  have hxl : xs.length = n := by simpa using hown.1
  rcases hown.2 with ⟨rfl, rfl⟩ | ⟨g, cap, cur, rfl, _, hg, hnc, hcm, hcs, _⟩
  · by_cases hm : s.size = 0
    · exact .inl (by rw [h4.2 ⟨rfl, hm⟩])
    · have hr := run_append_nil_string (P := P) w t u ty e i (.int .u8 0) ht hu hi hz s (by omega) (by omega) (by rw [hby]; omega)
      rw [hr] at r
      injection r with r1 r2
      exact .inr (by rw [← r1]; rfl)
  · by_cases hroom : n + s.size ≤ cap
    · have hr := Lib.run_append_room_string (P := P) w t u ty e i ht hu hi hsize g n cap cur hg s hroom (by omega)
      rw [hr] at r
      injection r with r1 r2
      exact .inl (by rw [← r1]; rfl)
    · have hr := Lib.run_append_grow_string (P := P) w t u ty e i (.int .u8 0) ht hu hi hz ⟨g, 0, none⟩ n cap xs (by rw [hsize]; simpa using hxl) (hown.cells (g := g) rfl) s (by omega) (by omega) (by rw [hby]; exact growslice_fits (by omega) (by omega))
      rw [hr] at r
      injection r with r1 r2
      exact .inr (by rw [← r1]; rfl)
theorem append_execS {t u : TypeId} {a : Act} {w : World} (ho : o.op = .call { callee := .builtin .append, args := #[p, q], argTypes := #[t, u] }) {v' : Value} {w' : World} (hrun : (Builtin.append_ #[t, u] o.type #[a.eval p, a.eval q]).run P w = .ok v' w') : (execOp a.eval o).run P w = .ok (.value v') w' := by
  unfold execOp
  simp only [ho, resolve, invoke, builtin, Sem.run_bind, Sem.run_pure, Result.andThen_ok, List.map_toArray, List.map_cons, List.map_nil, hrun]
theorem oc_appendS {e T2 : TypeId} {n len : Nat} {cs : List Av} {s : ByteArray} (m : Nat) (ho : o.op = .call { callee := .builtin .append, args := #[p, q], argTypes := #[T, T2] }) (hp : ρ p = .osl 1 n len) (hq : ρ q = vs s) (hT : eB P T = some e) (hT2 : isStrB P T2 = true) (hi : infoB P e = some (1, 1, [.int .u8 0])) (hz0 : (P.info? e).bind (·.zero) = some (.int .u8 0)) (hnm : n ≠ m) (hl : cs.length = len) (hb : len + s.size ≤ 140737488355328) :
    OC P o ρ [(n, .live e cs), (m, .unborn)] (.osl 1 m (len + s.size)) [(n, .dead), (m, .live e (cs ++ bytA s))] := by
  intro E a hG hr hH
  have h1 := hr p (by simp [ho, Op.operands, Call.operands])
  have h2 := hr q (by simp [ho, Op.operands, Call.operands])
  rw [hp] at h1
  rw [hq] at h2
  have h2' : a.eval q = .string s := by unfold Rep at h2; exact h2
  have hn := hH n (.live e cs) (by simp)
  have hu : E.loc m = .unborn := hH m .unborn (by simp)
  obtain ⟨xs, g1, g2, g3, g4⟩ := own_row h1 hn (by rw [hl, Nat.mul_one])
  obtain ⟨i, z, i1, i2, i3, i4, i5⟩ := infoB_some hi
  have hz : z = .int .u8 0 := by
    rw [i1] at hz0
    simp only [Option.bind_some, i2] at hz0
    exact Option.some.inj hz0
  subst hz
  obtain ⟨v', w', r1, r2, r3, r4⟩ := run_appS (ty := o.type) (eB_some hT) (isStr_some hT2) i1 i2 i3 i4 g1 s hb
  unfold grows
  rw [append_execS ho (by rw [h2']; exact r1)]
  have hn0 : E.loc n ≠ .unborn := by unfold Rep at h1; exact h1.1.1
  exact post_append hG hnm hu hn0 g2 (bytA_rep s) g3 (fun u hu => by obtain ⟨c, _, rfl⟩ := List.mem_map.1 hu; rfl) g4 r2 r3 r4
/-! ### unsafe.SliceData, unsafe.String, len -/
theorem oc_len_osl {k m n : Nat} (ho : o.op = .call { callee := .builtin .len, args := #[p], argTypes := #[T] }) (hp : ρ p = .osl k m n) (hT : lenB P T = true) : OC P o ρ [] (.val (.int .i64 n)) [] := oc_read fun E a hG hr _ => by
  have h1 := hr p (by simp [ho, Op.operands, Call.operands])
  rw [hp] at h1
  unfold Rep at h1
  obtain ⟨⟨_, ⟨A, c, hv⟩, _⟩, _⟩ := h1
  obtain ⟨e, he⟩ := lenB_some hT
  refine ⟨.int .i64 n, ?_, by unfold Rep; rfl⟩
  simp [execOp, ho, resolve, invoke, builtin, Builtin.len_, Sem.run_bind, run_underlying he, hv, goInt]
theorem exec_sd {a : Act} {w w' : World} {v : Value} (ho : o.op = .call { callee := .builtin .unsafeSliceData, args := #[p], argTypes := #[T] }) (hrun : (Builtin.unsafeSliceData_ #[T] o.type #[a.eval p]).run P w = .ok v w') : (execOp a.eval o).run P w = .ok (.value v) w' := by
  unfold execOp
  simp only [ho, resolve, invoke, builtin, Sem.run_bind, Sem.run_pure, Result.andThen_ok, List.map_toArray, List.map_cons, List.map_nil, hrun]
theorem exec_us {T2 : TypeId} {a : Act} {w w' : World} {v : Value} (ho : o.op = .call { callee := .builtin .unsafeString, args := #[p, q], argTypes := #[T, T2] }) (hrun : (Builtin.unsafeString_ #[T, T2] o.type #[a.eval p, a.eval q]).run P w = .ok v w') : (execOp a.eval o).run P w = .ok (.value v) w' := by
  unfold execOp
  simp only [ho, resolve, invoke, builtin, Sem.run_bind, Sem.run_pure, Result.andThen_ok, List.map_toArray, List.map_cons, List.map_nil, hrun]
theorem oc_sliceData {t : TypeId} {m len : Nat} {cs : List Av} (ho : o.op = .call { callee := .builtin .unsafeSliceData, args := #[p], argTypes := #[T] }) (hp : ρ p = .osl 1 m len) (hc0 : 0 < cs.length) (h0 : 0 < len) : OC P o ρ [(m, .live t cs)] (.own m 0) [] := oc_read fun E a hG hr hH => by
  cases cs with
  | nil => simp at hc0
  | cons y cs =>
  have h1 := hr p (by simp [ho, Op.operands, Call.operands])
  rw [hp] at h1
  unfold Rep at h1
  obtain ⟨b, cur, h2, h3, h4, h5⟩ := live_shape (hH m _ (List.mem_singleton.2 rfl))
  obtain ⟨c, cur', t', h6, h7, _⟩ := h1.2 b h2
  refine ⟨.pointer (some ⟨b, 0, none⟩), exec_sd ho ?_, ?_⟩
  · rw [h6]; exact Lib.run_unsafeSliceData_row _ _ _ _ _ _ (by omega)
  · unfold Rep
    exact ⟨⟨h1.1.1, _, rfl⟩, fun b' hb' => by rw [h2] at hb'; injection hb' with hb'; rw [hb']⟩
theorem oc_unsafeString0 {T2 : TypeId} {m : Nat} (ho : o.op = .call { callee := .builtin .unsafeString, args := #[p, q], argTypes := #[T, T2] }) (hp : ρ p = .own m 0) (hq : ρ q = vi 0) : OC P o ρ [] (vs ByteArray.empty) [] := oc_read fun E a hG hr _ => by
  have h1 := hr p (by simp [ho, Op.operands, Call.operands])
  have h2 := hr q (by simp [ho, Op.operands, Call.operands])
  rw [hp] at h1
  rw [hq] at h2
  unfold Rep at h1 h2
  obtain ⟨⟨_, x, hx⟩, _⟩ := h1
  exact ⟨.string .empty, exec_us ho (by rw [hx, h2]; exact Lib.run_unsafeString_none _ _ _ _ _), by unfold Rep; rfl⟩
theorem freeze_other {w : World} {g k n : Nat} (h : k ≠ g) : (w.freeze ⟨g, 0, none⟩ n).heap[k]? = w.heap[k]? := by
  unfold World.freeze
  split
  · rfl
  · show (w.heap.modify g _)[k]? = _
    rw [Array.getElem?_modify, if_neg (fun e => h e.symm)]
theorem freeze_same {w : World} {g n : Nat} : (w.freeze ⟨g, 0, none⟩ n).heap.size = w.heap.size ∧ (w.freeze ⟨g, 0, none⟩ n).os = w.os ∧ (w.freeze ⟨g, 0, none⟩ n).tape = w.tape ∧ (w.freeze ⟨g, 0, none⟩ n).output = w.output := by
  unfold World.freeze
  split
  · exact ⟨rfl, rfl, rfl, rfl⟩
  · exact ⟨by simp, rfl, rfl, rfl⟩
end
end Go.Proofs.YtpbaiighifhfnaaDoor
namespace Go.Proofs.YtpbaiighifhfnaaDoor

abbrev aSignsB : ByteArray := ⟨#[48, 49, 50, 51, 52, 53, 54, 55, 56, 57, 46, 44, 33, 63, 39, 34, 45, 58, 59, 40, 41, 47, 38, 42, 43, 61, 37, 35, 36, 10, 60]⟩
def aSigns : List Int := [48, 49, 50, 51, 52, 53, 54, 55, 56, 57, 46, 44, 33, 63, 39, 34, 45, 58, 59, 40, 41, 47, 38, 42, 43, 61, 37, 35, 36, 10, 60]
theorem aSigns_at (k : Nat) (h : k < 31) : (aSignsB[k]'h).toNat = aSigns.getD k 0 ∧ (aSignsB[k]'h).toNat < 128 := by
  have : ∀ r : Fin 31, ((aSignsB[r.val]'r.2).toNat : Int) = aSigns.getD r.val 0 ∧ (aSignsB[r.val]'r.2).toNat < 128 := by decide
  exact this ⟨k, h⟩
/-- A sign's place. -/
def aSign (c : Int) : Option Nat := aSigns.idxOf? c
theorem aSign_some (k : Nat) (h : k < 31) : aSign (aSigns.getD k 0) = some k := by
  have : ∀ r : Fin 31, aSign (aSigns.getD r.val 0) = some r.val := by decide
  exact this ⟨k, h⟩
theorem aSign_none (c : Int) (h : ∀ k, k < 31 → aSigns.getD k 0 ≠ c) : aSign c = none := by
  unfold aSign
  rw [List.idxOf?_eq_none_iff]
  intro hm
  obtain ⟨k, hk, he⟩ := List.mem_iff_getElem.1 hm
  exact h k hk (by simp only [List.getD, List.getElem?_eq_getElem hk, Option.getD_some]; exact he)
/-- A byte's codes; none: no text has it. -/
def aSort (c : Int) : List Int :=
  if c = 32 then [0] else if 97 ≤ c ∧ c ≤ 122 then [c - 96] else if 65 ≤ c ∧ c ≤ 90 then [27, c - 64] else
  match aSign c with
  | some i => [28, i]
  | none => if c < 32 ∨ 126 < c then [] else [29, c / 16, c % 16]
/-- The same of the reference, which asks no text. -/
def aOne (c : Int) : List Int :=
  if c = 32 then [0] else if 97 ≤ c ∧ c ≤ 122 then [c - 96] else if 65 ≤ c ∧ c ≤ 90 then [27, c - 64] else
  match aSign c with
  | some i => [28, i]
  | none => [29, c / 16, c % 16]
theorem aSort_small (c : Int) (h : 97 ≤ c) (h' : c ≤ 122) : aSort c = [c - 96] := by
  unfold aSort; rw [if_neg (by omega), if_pos ⟨h, h'⟩]
theorem aSort_great (c : Int) (h : 65 ≤ c) (h' : c ≤ 90) : aSort c = [27, c - 64] := by
  unfold aSort; rw [if_neg (by omega), if_neg (by omega), if_pos ⟨h, h'⟩]
theorem aSort_sign (c : Int) (h0 : c ≠ 32) (h1 : ¬ (97 ≤ c ∧ c ≤ 122)) (h2 : ¬ (65 ≤ c ∧ c ≤ 90)) (k : Nat) (h : aSign c = some k) : aSort c = [28, (k : Int)] := by
  unfold aSort; rw [if_neg h0, if_neg h1, if_neg h2, h]
theorem aSort_none (c : Int) (h0 : c ≠ 32) (h1 : ¬ (97 ≤ c ∧ c ≤ 122)) (h2 : ¬ (65 ≤ c ∧ c ≤ 90)) (h : aSign c = none) (h3 : c < 32 ∨ 126 < c) : aSort c = [] := by
  unfold aSort; rw [if_neg h0, if_neg h1, if_neg h2, h]; simp [h3]
theorem aSort_whole (c : Int) (h0 : c ≠ 32) (h1 : ¬ (97 ≤ c ∧ c ≤ 122)) (h2 : ¬ (65 ≤ c ∧ c ≤ 90)) (h : aSign c = none) (h3 : ¬ (c < 32 ∨ 126 < c)) : aSort c = [29, c / 16, c % 16] := by
  unfold aSort; rw [if_neg h0, if_neg h1, if_neg h2, h]; simp only [if_neg h3]
theorem aSort_len (c : Int) : (aSort c).length ≤ 3 := by
  unfold aSort
  split
  · simp
  · split
    · simp
    · split
      · simp
      · split
        · simp
        · split <;> simp
theorem aOne_len (c : Int) : (aOne c).length ≤ 3 := by
  unfold aOne
  split
  · simp
  · split
    · simp
    · split
      · simp
      · split <;> simp
theorem aOne_sort (c : Int) (h : tOkB c = true) : aOne c = aSort c := by
  by_cases h0 : c = 10
  · subst h0; decide
  · have h1 : 32 ≤ c ∧ c ≤ 126 := by simpa [tOkB, h0] using h
    unfold aOne aSort
    simp only [if_neg (show ¬ (c < 32 ∨ 126 < c) by omega)]
/-- The codes of bytes. -/
def aCodes (l : List Int) : List Int := l.flatMap aSort
theorem aCodes_snoc (l : List Int) (c : Int) : aCodes (l ++ [c]) = aCodes l ++ aSort c := by simp [aCodes]
theorem aCodes_len (l : List Int) : (aCodes l).length ≤ 3 * l.length := by
  induction l with
  | nil => simp [aCodes]
  | cons a l ih =>
    have := aSort_len a
    simp only [aCodes, List.flatMap_cons, List.length_append, List.length_cons] at *
    omega
/-- The codes of a text; the error. -/
def aTextCodes (l : List Int) : List Int × Int := if isTextB l = true then (aCodes l, 0) else ([], 13)
end Go.Proofs.YtpbaiighifhfnaaDoor
namespace Go.Proofs.YtpbaiighifhfnaaDoor
open Go.RowKit Go.Maps
set_option linter.unusedVariables false

def kS (s : ByteArray) : Lit := .string s.data.toList
def iv (c : Int) : DataW Unit := .lit (.int .i64 c)
def getM (D : DataW Unit) (s : ByteArray) : Int := match D.atKey (kS s) (iv 0) with | .lit (.int _ c) => c | _ => 0
/-- A map of numbers. -/
def MI (D : DataW Unit) : Prop := Tidy D ∧ ∀ s, D.atKey (kS s) (iv 0) = iv (getM D s)
theorem kS_inj {s t : ByteArray} (h : kS s = kS t) : s = t := by
  unfold kS at h
  injection h with h
  cases s
  cases t
  simpa [Array.toList_inj] using h
theorem kS_key (s : ByteArray) : WideAt.IsKeyLit (kS s) := trivial
theorem mi_empty : MI (.map []) := ⟨tidy_empty, fun s => rfl⟩
theorem get_empty (s : ByteArray) : getM (.map []) s = 0 := rfl
theorem at_put {D : DataW Unit} (h : MI D) (s : ByteArray) (c : Int) (t : ByteArray) : (D.put (kS s) (iv c)).atKey (kS t) (iv 0) = iv (if t = s then c else getM D t) := by
  by_cases e : t = s
  · subst e
    rw [if_pos rfl]
    exact atKey_put_same h.1.isMap (kS_key t) _ _
  · rw [if_neg e, atKey_put_other (fun h' => e (kS_inj h')), h.2 t]
theorem get_put {D : DataW Unit} (h : MI D) (s : ByteArray) (c : Int) (t : ByteArray) : getM (D.put (kS s) (iv c)) t = if t = s then c else getM D t := by
  unfold getM
  rw [at_put h s c t]
  rfl
theorem mi_put {D : DataW Unit} (h : MI D) (s : ByteArray) (c : Int) : MI (D.put (kS s) (iv c)) := ⟨h.1.put (kS_key s) _, fun t => by rw [at_put h s c t, get_put h s c t]⟩
theorem size_put_le {D : DataW Unit} (h : MI D) (s : ByteArray) (c : Int) : Maps.size (D.put (kS s) (iv c)) ≤ Maps.size D + 1 := by
  rw [size_put h.1]
  split <;> omega
theorem has_put {D : DataW Unit} (h : MI D) (s : ByteArray) (c : Int) (t : ByteArray) : Maps.has (D.put (kS s) (iv c)) (kS t) = (decide (t = s) || Maps.has D (kS t)) := by
  by_cases e : t = s
  · subst e
    rw [has_put_same h.1.isMap (kS_key t)]
    simp
  · rw [has_put_other fun h' => e (kS_inj h')]
    simp [e]
/-! ### Counting: the maps, step by step -/
abbrev MM := DataW Unit × DataW Unit
def cStep (p : ByteArray) (i n : Nat) (s : MM) : MM :=
  if getM s.2 (p.extract i (i + n)) ≤ i then (s.1.put (kS (p.extract i (i + n))) (iv (getM s.1 (p.extract i (i + n)) + 1)), s.2.put (kS (p.extract i (i + n))) (iv ((i + n : Nat) : Int))) else s
/-- The rows at a place, of 2 to 8 bytes: k of them. -/
def cRow (p : ByteArray) (i : Nat) (s : MM) : Nat → MM
  | 0 => s
  | k + 1 => if k + 2 ≤ 8 ∧ i + (k + 2) ≤ p.size then cStep p i (k + 2) (cRow p i s k) else cRow p i s k
def cPart (p : ByteArray) (M : DataW Unit) : Nat → MM
  | 0 => (M, .map [])
  | i + 1 => cRow p i (cPart p M i) 7
def cAll (l : List ByteArray) : Nat → DataW Unit
  | 0 => .map []
  | k + 1 => (cPart (l.getD k ⟨#[]⟩) (cAll l k) (l.getD k ⟨#[]⟩).size).1
/-- Maps of numbers that are not negative, of so many entries at most. -/
structure Sane (b : Nat) (s : MM) : Prop where
  m1 : MI s.1
  m2 : MI s.2
  s1 : Maps.size s.1 ≤ b
  s2 : Maps.size s.2 ≤ b
  g1 : ∀ t, 0 ≤ getM s.1 t ∧ getM s.1 t ≤ b
  g2 : ∀ t, 0 ≤ getM s.2 t ∧ getM s.2 t ≤ 2000000000
theorem Sane.step {b : Nat} {s : MM} (h : Sane b s) (p : ByteArray) (i n : Nat) (hin : i + n ≤ 2000000000) : Sane (b + 1) (cStep p i n s) := by
  unfold cStep
  split
  · refine ⟨mi_put h.m1 _ _, mi_put h.m2 _ _, ?_, ?_, fun t => ?_, fun t => ?_⟩
    · have := size_put_le h.m1 (p.extract i (i + n)) (getM s.1 (p.extract i (i + n)) + 1); have := h.s1; show Maps.size (s.1.put _ _) ≤ _; omega
    · have := size_put_le h.m2 (p.extract i (i + n)) ((i + n : Nat) : Int); have := h.s2; show Maps.size (s.2.put _ _) ≤ _; omega
    · show 0 ≤ getM (s.1.put _ _) t ∧ getM (s.1.put _ _) t ≤ _
      rw [get_put h.m1]
      have h1 := h.g1 (p.extract i (i + n))
      have h2 := h.g1 t
      split <;> omega
    · show 0 ≤ getM (s.2.put _ _) t ∧ getM (s.2.put _ _) t ≤ _
      rw [get_put h.m2]
      have h2 := h.g2 t
      split <;> omega
  · exact ⟨h.m1, h.m2, by have := h.s1; omega, by have := h.s2; omega, fun t => by have := h.g1 t; omega, h.g2⟩
theorem Sane.more {b c : Nat} {s : MM} (h : Sane b s) (hc : b ≤ c) : Sane c s := ⟨h.m1, h.m2, by have := h.s1; omega, by have := h.s2; omega, fun t => by have := h.g1 t; omega, h.g2⟩
theorem Sane.row {b : Nat} {s : MM} (h : Sane b s) {p : ByteArray} {i : Nat} (hp : p.size ≤ 1000000000) : ∀ k, Sane (b + k) (cRow p i s k)
  | 0 => h
  | k + 1 => by
    have := Sane.row h hp (i := i) k
    unfold cRow
    split
    · exact this.step p i (k + 2) (by omega)
    · exact this.more (by omega)
theorem Sane.part {b : Nat} {M : DataW Unit} (hM : MI M) (hs : Maps.size M ≤ b) (hg : ∀ t, 0 ≤ getM M t ∧ getM M t ≤ b) {p : ByteArray} (hp : p.size ≤ 1000000000) : ∀ k, Sane (b + 7 * k) (cPart p M k)
  | 0 => ⟨hM, mi_empty, hs, Nat.zero_le _, hg, fun t => by show 0 ≤ getM (.map []) t ∧ getM (.map []) t ≤ _; rw [get_empty]; omega⟩
  | k + 1 => ((Sane.part hM hs hg hp k).row hp 7).more (by omega)
end Go.Proofs.YtpbaiighifhfnaaDoor
namespace Go.Proofs.YtpbaiighifhfnaaDoor
open Go.RowKit
set_option linter.unusedVariables false

def slI (l : List Int) : Av := .sl 1 l.length fun j => vi (l.getD j 0)
def slS (l : List ByteArray) : Av := .sl 1 l.length fun j => vs (l.getD j ByteArray.empty)
structure WayP where
  dir : Int
  goal : Int
  cond : Int
  els : Int
structure ThingP where
  title : Int
  text : Int
  parent : Int
  flags : Int
  room : Bool
  props : List Int
  words : List ByteArray
  adjs : List ByteArray
  ways : List WayP
def dThing : ThingP := ⟨0, 0, 0, 0, false, [], [], [], []⟩
structure SlotP where
  kind : Int
  words : List ByteArray
structure VerbP where
  meta_ : Bool
  lines : List (List SlotP)
structure DeedP where
  verb : Int
  phase : Int
  noun : Int
  second : Int
  cond : Int
  body : Int
structure TabP where
  title : Int
  by_ : Int
  release : Int
  max : Int
  texts : List ByteArray
  flags : Int
  props : List Int
  globals : List Int
  things : List ThingP
  acts : List VerbP
  deeds : List DeedP
  funcs : List Int
  daemons : List Int
  params : List Int
  locals : List Int
structure WorldP where
  globals : List Int
  parent : List Int
  child : List Int
  next : List Int
  flags : List Int
  props : List Int
  timers : List Int
  seed : Int
  score : Int
  turns : Int
  over : Int
  it : Int
  go : Int
def WorldP.row (w : WorldP) (k : Nat) : List Int := [w.globals, w.parent, w.child, w.next, w.flags, w.props, w.timers].getD k []
theorem pure_slI (l : List Int) : Pure (slI l) := by unfold slI; simp [Pure]
theorem pure_slS (l : List ByteArray) : Pure (slS l) := by unfold slS; simp [Pure]
/-- So many of each as memory holds. -/
structure TabP.Few (t : TabP) : Prop where
  texts : t.texts.length ≤ 9223372036854775807
  things : t.things.length ≤ 9223372036854775807
  acts : t.acts.length ≤ 9223372036854775807
  deeds : t.deeds.length ≤ 9223372036854775807
  funcs : t.funcs.length ≤ 9223372036854775807
  daemons : t.daemons.length ≤ 9223372036854775807
  params : t.params.length ≤ 9223372036854775807
  locals : t.locals.length ≤ 9223372036854775807
theorem RepL.at_ {E : Env} {xs : List Av} {vs : List Value} (h : RepL E xs vs) (i : Nat) (y : Av) (hy : xs[i]? = some y) : ∃ v, Rep E y v := by
  obtain ⟨u, _, h2⟩ := h.get i y hy
  exact ⟨u, h2⟩
def among (n lo hi : Int) : Bool := decide (lo ≤ n) && decide (n ≤ hi)
def TabP.at_ (t : TabP) (n : Int) : ThingP := t.things.getD n.toNat dThing
def textC (n : Int) : Bool := (decide (32 ≤ n) && decide (n ≤ 126)) || n == 10
def isTextS (s : ByteArray) : Bool := (tB s).all textC && decide ((s.size : Int) ≤ 1024)
theorem textC_not (c : Int) : ((decide (c < 32) || decide (126 < c)) && c != 10) = !textC c := by
  unfold textC
  rw [Bool.eq_iff_iff]
  simp
  try omega
end Go.Proofs.YtpbaiighifhfnaaDoor
namespace Go.Proofs.YtpbaiighifhfnaaDoor
open Go.RowKit
set_option linter.unusedVariables false
set_option linter.unusedSimpArgs false
theorem rd_of_slI {E : Env} {xs : List Int} {v : Value} (h : Rep E (slI xs) v) : ∃ A c, v = .slice A xs.length c ∧ xs.length ≤ c ∧ c ≤ maxLen ∧ Rd E.w E.w.heap.size A (cb .i64 xs) := by
  unfold slI Rep at h
  obtain ⟨A, c, h1, h2, h3, h4⟩ := h
  refine ⟨A, c, h1, h2, h3, fun hl => ?_⟩
  rw [cb_length] at hl
  obtain ⟨b, o, h5, h6, h7⟩ := h4 hl
  refine ⟨b, o, h5, h6.1, fun j u hu => ?_⟩
  have hj : j < xs.length := by have := (List.getElem?_eq_some_iff.1 hu).1; rwa [cb_length] at this
  obtain ⟨u', h8, h9, h10⟩ := h7 j hj
  unfold Rep at h8
  subst h8
  have := h10 0 (.int .i64 (xs.getD j 0)) (by simp [Value.cells])
  have hu' : u = .int .i64 (xs.getD j 0) := by
    unfold cb at hu
    rw [List.getElem?_map, List.getElem?_eq_getElem hj] at hu
    simp at hu
    rw [← hu]
    simp [List.getD, hj]
  rw [hu']
  simpa using this
theorem slI_of_rd {E : Env} {xs : List Int} {A : Option Addr} {c : Nat} (h : 0 < xs.length → ∃ b o, A = some ⟨b, o, none⟩ ∧ E.ok b ∧ ∀ j u, (cb .i64 xs)[j]? = some u → E.w.cell? ⟨b, o + j, none⟩ = some u) (h1 : xs.length ≤ c) (h2 : c ≤ maxLen) : Rep E (slI xs) (.slice A xs.length c) := by
  unfold slI Rep
  refine ⟨A, c, rfl, h1, h2, fun hl => ?_⟩
  obtain ⟨b, o, h3, h4, h5⟩ := h hl
  refine ⟨b, o, h3, h4, fun j hj => ⟨.int .i64 (xs.getD j 0), by unfold Rep; rfl, rfl, fun i u hu => ?_⟩⟩
  have hi : i = 0 := by
    cases i with
    | zero => rfl
    | succ i => simp [Value.cells] at hu
  subst hi
  simp [Value.cells] at hu
  subst hu
  have := h5 j (.int .i64 (xs.getD j 0)) (by unfold cb; rw [List.getElem?_map, List.getElem?_eq_getElem hj]; simp [List.getD, hj])
  simpa using this
theorem slI_of_own {E : Env} (hG : Good E) {w' : World} {e : TypeId} {A : Option Addr} {n c : Nat} {zs : List Int} (ho : Own w' E.w.heap.size e (.slice A n c) (cb .i64 zs)) (hb : Below E.w.heap.size E.w w') : Rep { E with w := w' } (slI zs) (.slice A n c) := by
  obtain ⟨h1, h2, h3⟩ := ho.rd
  rw [cb_length] at h1
  subst h1
  rcases ho.2 with ⟨h4, _⟩ | ⟨g, cap, cur, h4, h5, h6, h7, h8, _⟩
  · injection h4 with h4 h5 h6
    subst h6
    exact slI_of_rd (fun hl => by omega) h2 (Nat.zero_le _)
  · injection h4 with h4 h9 h10
    subst h10
    refine slI_of_rd (fun hl => ?_) h2 h8
    obtain ⟨b, o, h11, _, h12⟩ := h3 (by rwa [cb_length])
    rw [h4] at h11
    injection h11 with h11
    injection h11 with h11 h13
    subst h11; subst h13
    exact ⟨g, 0, h4, ⟨(Array.getElem?_eq_some_iff.1 h6).1, fun hbad => by have := hG.old g hbad; omega, fun n hn => by have := (hG.lt n g hn).1; omega⟩, h12⟩
section
variable {P : Program} {o : Oper} {x y : Av} {R U : List (Nat × Hs)} {ρ : Operand → Av} {p q : Operand} {T : TypeId}
end
end Go.Proofs.YtpbaiighifhfnaaDoor
namespace Go.Proofs.YtpbaiighifhfnaaDoor
open Go.RowKit
set_option maxRecDepth 100000
set_option linter.unusedVariables false
set_option linter.unusedSimpArgs false
theorem rall_true {n : Nat} {p : Nat → Bool} (h : ∀ j, j < n → p j = true) : (List.range n).all p = true := by
  rw [List.all_eq_true]
  intro x hx
  exact h x (List.mem_range.1 hx)
theorem rall_false {n k : Nat} {p : Nat → Bool} (h : k < n) (hp : p k = false) : (List.range n).all p = false := by
  rw [List.all_eq_false]
  exact ⟨k, List.mem_range.2 h, by simp [hp]⟩
theorem rall_step {k : Nat} {p : Nat → Bool} (h : ∀ j, j < k → p j = true) (hp : p k = true) : ∀ j, j < k + 1 → p j = true := fun j hj => by
  rcases Nat.lt_or_ge j k with h1 | h1
  · exact h j h1
  · obtain rfl : j = k := by omega
    exact hp
theorem rall_zero {p : Nat → Bool} : ∀ j, j < 0 → p j = true := fun j hj => absurd hj (by omega)
theorem all_range {α : Type} (d : α) (l : List α) (p : α → Bool) : (List.range l.length).all (fun i => p (l.getD i d)) = l.all p := by
  rw [Bool.eq_iff_iff, List.all_eq_true, List.all_eq_true]
  constructor
  · intro H x hx
    obtain ⟨i, hi, rfl⟩ := List.getElem_of_mem hx
    have := H i (List.mem_range.2 hi)
    simpa [hi] using this
  · intro H i hi
    have hi' : i < l.length := List.mem_range.1 hi
    have := H l[i] (List.getElem_mem hi')
    simpa [hi'] using this
theorem all_of {α : Type} {d : α} {l : List α} {p : α → Bool} (h : ∀ j, j < l.length → p (l.getD j d) = true) : l.all p = true := by rw [← all_range d]; exact rall_true h
theorem all_not {α : Type} {d : α} {l : List α} {p : α → Bool} {k : Nat} (hk : k < l.length) (h : p (l.getD k d) = false) : l.all p = false := by rw [← all_range d]; exact rall_false (p := fun i => p (l.getD i d)) hk h
theorem mixed : Tryd.prog.follows .mixedOrders = true := by kernel_rfl
theorem sall_true {s : ByteArray} {p : Int → Bool} {k : Nat} (hk : k = s.size) (h : ∀ j, j < k → p ((tB s).getD j 0) = true) : (tB s).all p = true := all_of (d := 0) fun j hj => h j (by rw [tB_len] at hj; omega)
theorem sall_false {s : ByteArray} {p : Int → Bool} {k : Nat} (hk : k < s.size) (h : p ((tB s).getD k 0) = false) : (tB s).all p = false := all_not (d := 0) (by rw [tB_len]; exact hk) h
set_option maxHeartbeats 800000 in
theorem rIsText_pc (s : ByteArray) (hs : s.size ≤ 9223372036854775807) : PC Tryd.prog 13 [vs s] (vb (isTextS s)) := by
  refine FC.body 6 29 Tryd.func13 rfl (by kernel_rfl) ?_
  refine aw_seq ?_
  refine aw_text rfl ?_
  refine ch_v (R := []) rfl rfl (oc_assign (x := .val _) rfl rfl) trivial ?_
  refine ck_nil ?_
  refine aw_seq ?_
  refine aw_seq ?_
  refine aw_text rfl ?_
  refine ch_v (R := []) rfl rfl (oc_assign (x := .val _) rfl rfl) trivial ?_
  refine ck_nil ?_
  refine aw_block ?_
  refine aw_loop (ι := Nat) (fun k => ⟨[(0, vs s), (3, vi k)], []⟩) (fun k => k ≤ s.size ∧ ∀ j, j < k → textC ((tB s).getD j 0) = true) (fun k => s.size - k) 0 (⟨Nat.zero_le _, rall_zero⟩) (Le.sub (by repeat (first | trivial | refine ⟨.inr rfl, ?_⟩ | refine ⟨.inr (vi_eq (by omega)), ?_⟩)) (by repeat (first | trivial | refine ⟨rfl, ?_⟩))) ?_
  intro k hI
  refine aw_seq ?_
  refine aw_seq ?_
  refine aw_text rfl ?_
  refine ch_v (R := []) rfl rfl (oc_move (x := .val _) rfl rfl) trivial ?_
  refine ch_v (R := []) rfl rfl (oc_move (x := .val _) rfl rfl) trivial ?_
  refine ch_v (R := []) rfl rfl (oc_len_str rfl rfl (by kernel_rfl)) trivial ?_
  refine ch_v (R := []) rfl rfl (oc_binZ rfl rfl rfl rfl) trivial ?_
  refine ck_nil ?_
  refine aw_cond rfl (fun hb => ?_) (fun hb => ?_)
  · have hlt : k < s.size := by simpa using hb
    refine aw_skip ?_
    refine aw_seq ?_
    refine aw_block ?_
    refine aw_seq ?_
    refine aw_text rfl ?_
    refine ch_v (R := []) rfl rfl (oc_move (x := .val _) rfl rfl) trivial ?_
    refine ch_v (R := []) rfl rfl (oc_move (x := .val _) rfl rfl) trivial ?_
    refine ch_v (R := []) rfl rfl (oc_strIndex rfl rfl rfl (by kernel_rfl) (by omega) (by omega) rfl) trivial ?_
    refine ch_v (R := []) rfl rfl (oc_binZ rfl rfl rfl rfl) trivial ?_
    refine ch_v (R := []) rfl rfl (oc_move (x := .val _) rfl rfl) trivial ?_
    refine ch_g (R := []) rfl rfl rfl gate_f (fun hC => oc_move (x := .val _) rfl rfl) (fun hC => ⟨(by first | rfl | exact hC | (simp only [Bool.and_eq_true] at hC; first | exact hC.1 | exact hC.1.1 | exact hC.2) | simp_all), trivial⟩) trivial ?_
    refine ch_g (R := []) rfl rfl rfl gate_f (fun hC => oc_move (x := .val _) rfl rfl) (fun hC => ⟨(by first | rfl | exact hC | (simp only [Bool.and_eq_true] at hC; first | exact hC.1 | exact hC.1.1 | exact hC.2) | simp_all), trivial⟩) trivial ?_
    refine ch_g (R := []) rfl rfl rfl gate_f (fun hC => oc_strIndex rfl rfl rfl (by kernel_rfl) (by omega) (by omega) rfl) (fun hC => ⟨(by first | rfl | exact hC | (simp only [Bool.and_eq_true] at hC; first | exact hC.1 | exact hC.1.1 | exact hC.2) | simp_all), (by first | rfl | exact hC | (simp only [Bool.and_eq_true] at hC; first | exact hC.1 | exact hC.1.1 | exact hC.2) | simp_all), trivial⟩) trivial ?_
    refine ch_g (R := []) rfl rfl rfl gate_f (fun hC => oc_binZ rfl rfl rfl rfl) (fun hC => ⟨(by first | rfl | exact hC | (simp only [Bool.and_eq_true] at hC; first | exact hC.1 | exact hC.1.1 | exact hC.2) | simp_all), (by first | rfl | exact hC | (simp only [Bool.and_eq_true] at hC; first | exact hC.1 | exact hC.1.1 | exact hC.2) | simp_all), trivial⟩) trivial ?_
    refine ch_v (R := []) rfl rfl (oc_or rfl rfl rfl (by first | exact fun h => h | simp_all)) trivial ?_
    refine ch_v (R := []) rfl rfl (oc_move (x := .val _) rfl rfl) trivial ?_
    refine ch_g (R := []) rfl rfl rfl gate_t (fun hC => oc_move (x := .val _) rfl rfl) (fun hC => ⟨(by first | rfl | exact hC | (simp only [Bool.and_eq_true] at hC; first | exact hC.1 | exact hC.1.1 | exact hC.2) | simp_all), trivial⟩) trivial ?_
    refine ch_g (R := []) rfl rfl rfl gate_t (fun hC => oc_move (x := .val _) rfl rfl) (fun hC => ⟨(by first | rfl | exact hC | (simp only [Bool.and_eq_true] at hC; first | exact hC.1 | exact hC.1.1 | exact hC.2) | simp_all), trivial⟩) trivial ?_
    refine ch_g (R := []) rfl rfl rfl gate_t (fun hC => oc_strIndex rfl rfl rfl (by kernel_rfl) (by omega) (by omega) rfl) (fun hC => ⟨(by first | rfl | exact hC | (simp only [Bool.and_eq_true] at hC; first | exact hC.1 | exact hC.1.1 | exact hC.2) | simp_all), (by first | rfl | exact hC | (simp only [Bool.and_eq_true] at hC; first | exact hC.1 | exact hC.1.1 | exact hC.2) | simp_all), trivial⟩) trivial ?_
    refine ch_g (R := []) rfl rfl rfl gate_t (fun hC => oc_binZ rfl rfl rfl rfl) (fun hC => ⟨(by first | rfl | exact hC | (simp only [Bool.and_eq_true] at hC; first | exact hC.1 | exact hC.1.1 | exact hC.2) | simp_all), (by first | rfl | exact hC | (simp only [Bool.and_eq_true] at hC; first | exact hC.1 | exact hC.1.1 | exact hC.2) | simp_all), trivial⟩) trivial ?_
    refine ch_v (R := []) rfl rfl (oc_and rfl rfl rfl rfl (by first | exact fun h => h | simp_all)) trivial ?_
    refine ck_nil ?_
    refine aw_cond rfl (fun hb => ?_) (fun hb => ?_)
    · refine aw_seq ?_
      refine aw_text rfl ?_
      refine ch_v (R := []) rfl rfl (oc_assign (x := .val _) rfl rfl) trivial ?_
      refine ck_nil ?_
      refine aw_ret ?_
      exact ⟨.inl rfl, ResOk.tmp rfl (vb_eq (by unfold isTextS; rw [sall_false hlt (by have h1 := (textC_not ((tB s).getD k 0)).symm.trans hb; simpa using h1)]; rfl)), trivial⟩
    · refine aw_skip ?_
      refine aw_text rfl ?_
      refine ch_v (R := []) rfl rfl (oc_move (x := .val _) rfl rfl) trivial ?_
      refine ch_v (R := []) rfl rfl (oc_binZ rfl rfl rfl (by first | exact binW_add (by omega) (by omega) | rfl)) trivial ?_
      refine ch_v (R := []) rfl rfl (oc_assign (x := .val _) rfl rfl) trivial ?_
      refine ck_nil ?_
      exact ⟨k + 1, ⟨by omega, rall_step (p := fun j => textC ((tB s).getD j 0)) hI.2 (by have h1 := (textC_not ((tB s).getD k 0)).symm.trans hb; simpa using h1)⟩, by omega, Le.sub (by repeat (first | trivial | refine ⟨.inr rfl, ?_⟩ | refine ⟨.inr (vi_eq (by omega)), ?_⟩)) (by repeat (first | trivial | refine ⟨rfl, ?_⟩))⟩
  · have hge : k = s.size := by simp at hb; omega
    refine aw_exit ?_
    refine aw_seq ?_
    refine aw_text rfl ?_
    refine ch_v (R := []) rfl rfl (oc_move (x := .val _) rfl rfl) trivial ?_
    refine ch_v (R := []) rfl rfl (oc_len_str rfl rfl (by kernel_rfl)) trivial ?_
    refine ch_v (R := []) rfl rfl (oc_binZ rfl rfl rfl rfl) trivial ?_
    refine ch_v (R := []) rfl rfl (oc_assign (x := .val _) rfl rfl) trivial ?_
    refine ck_nil ?_
    refine aw_ret ?_
    exact ⟨.inl rfl, ResOk.tmp rfl (vb_eq (by unfold isTextS; rw [sall_true hge hI.2]; rfl)), trivial⟩
end Go.Proofs.YtpbaiighifhfnaaDoor
namespace Go.Proofs.YtpbaiighifhfnaaDoor
open Go.RowKit Go.IntWalk
set_option maxRecDepth 100000
set_option linter.unusedVariables false

theorem infoInt : (Tryd.prog.info? 3).map (fun i => (i.zero, i.size, i.bytes)) = some (some (.int .i64 0), 1, 8) := by kernel_rfl
theorem elemInt : Elem Tryd.prog 25 3 (.int .i64 0) 8 := ⟨Tryd.underlying25, info_parts infoInt, rfl⟩
/-- The place of a sign as a number; -1: it is none. -/
def aPlace (c : Int) : Int := match aSign c with | some i => i | none => -1
set_option maxHeartbeats 400000 in
theorem rsign_any (m : Int) (w : World) (h0 : 0 ≤ m) (h1 : m < 256) : Calls Tryd.prog 79 #[.int .u8 m] w fun e w' => e = .returned (.int .i64 (aPlace m)) ∧ w = w' := by
  go_enter Tryd.func79, Tryd.ntmps79
  go_wp2
  go_loop [3] (fun i => ∃ k : Nat, k ≤ 31 ∧ i = .int .i64 k ∧ Hid (∀ j, j < k → aSigns.getD j 0 ≠ m)) (fun i => 31 - (intOf i).toNat)
  case atStart => exact ⟨0, by omega, rfl, by unfold Hid; intro j hj; omega⟩
  case round =>
    obtain ⟨k, hk, rfl, hq⟩ := hrel
    by_cases hlt : k < 31
    · have hat := Lib.hid (aSigns_at k hlt)
      have hbd := (aSigns_at k hlt).2
      by_cases he : aSigns.getD k 0 = m
      · have hb : (((aSignsB[k]'hlt).toNat : Int) == m) = true := by rw [beq_iff_eq, (aSigns_at k hlt).1, he]
        have hfin : Hid (aPlace m = (k : Int)) := by unfold Hid aPlace; rw [← he, aSign_some k hlt]
        clear he
        go_wp2
        go_ret
        exact ⟨by rw [hfin.out]; rfl, rfl⟩
      · have hb : (((aSignsB[k]'hlt).toNat : Int) == m) = false := by rw [beq_eq_false_iff_ne, (aSigns_at k hlt).1]; exact he
        have hq2 : Hid (∀ j, j < k + 1 → aSigns.getD j 0 ≠ m) := by
          unfold Hid
          intro j hj
          rcases Nat.lt_or_ge j k with h | h
          · exact hq.out j h
          · obtain rfl : j = k := by omega
            exact he
        clear he
        go_wp2
        go_round
        case rel => exact ⟨k + 1, by omega, by go_num, hq2⟩
        case measure => simp [intOf]; omega
    · obtain rfl : k = 31 := by omega
      have hfin : Hid (aPlace m = -1) := by unfold Hid aPlace; rw [aSign_none m hq.out]
      go_wp2
      go_ret
      exact ⟨by rw [hfin.out]; rfl, rfl⟩
/-- A list literal of the call's own, handed back. -/
theorem ret_lit {w : World} {e : TypeId} (cs : List Value) (n : Nat) (xs : List Value) (hn : n = cs.length) (hx : cs = xs) (hm : n ≤ 9223372036854775807) : RetOwn w e xs (.returned (.slice (some ⟨w.heap.size, 0, none⟩) n n)) (w.alloc (.cells cs.toArray e)) := by
  subst hx
  exact ⟨_, _, _, rfl, Own.new w cs e n hn (Nat.le_refl _) hm, (Below.refl _ _).alloc (Nat.le_refl _) _⟩
theorem ret_lit_on {w W : World} {e : TypeId} (hb : Below w.heap.size w W) (cs : List Value) (n : Nat) (xs : List Value) (hn : n = cs.length) (hx : cs = xs) (hm : n ≤ 9223372036854775807) : RetOwn w e xs (.returned (.slice (some ⟨W.heap.size, 0, none⟩) n n)) (W.alloc (.cells cs.toArray e)) := by
  subst hx
  exact ⟨_, _, _, rfl, Own.new W cs e n hn hb.size hm, hb.alloc hb.size _⟩
theorem ret_nil_on {w W : World} {e : TypeId} (hb : Below w.heap.size w W) (xs : List Value) (hx : [] = xs) : RetOwn w e xs (.returned (.slice none 0 0)) W := by
  subst hx
  exact ⟨_, _, _, rfl, Own.nil _ _ _, hb⟩
theorem below_iter (w : World) (s : ByteArray) (k : Nat) : Below w.heap.size w (w.iter s k) := (Below.refl _ _).alloc (Nat.le_refl _) _
set_option maxHeartbeats 800000 in
theorem one_any (m : Int) (w : World) (h0 : 0 ≤ m) (h1 : m < 256) : Calls Tryd.prog 71 #[.int .u8 m] w (RetOwn w 3 (cb .i64 (aOne m))) := by
  by_cases c0 : m = 32
  · subst c0
    go_enter Tryd.func71, Tryd.ntmps71
    go_wp2
    go_ret
    exact ret_lit [.int .i64 0] 1 _ rfl rfl (by omega)
  · have e0 : (m == 32) = false := by simpa using c0
    by_cases c1 : 97 ≤ m ∧ m ≤ 122
    · have hfin : Hid (aOne m = [m - 96]) := by unfold Hid aOne; rw [if_neg c0, if_pos c1]
      obtain ⟨a1, a2⟩ := c1
      clear c0
      go_enter Tryd.func71, Tryd.ntmps71
      go_wp2
      go_ret
      exact ret_lit [.int .i64 (m - 97 + 1)] 1 _ rfl (by rw [hfin.out]; simp [cb]; omega) (by omega)
    · by_cases c2 : 65 ≤ m ∧ m ≤ 90
      · have hfin : Hid (aOne m = [27, m - 64]) := by unfold Hid aOne; rw [if_neg c0, if_neg c1, if_pos c2]
        obtain ⟨a1, a2⟩ := c2
        clear c0 c1
        go_enter Tryd.func71, Tryd.ntmps71
        go_wp2
        go_ret
        exact ret_lit [.int .i64 27, .int .i64 (m - 65 + 1)] 2 _ rfl (by rw [hfin.out]; simp [cb]; omega) (by omega)
      · cases hs : aSign m with
        | some k =>
          have hp : Hid (aPlace m = (k : Int)) := by unfold Hid aPlace; rw [hs]
          have hfin : Hid (aOne m = [28, (k : Int)]) := by unfold Hid aOne; rw [if_neg c0, if_neg c1, if_neg c2, hs]
          have hC := Lib.hid (fun w => rsign_any m w h0 h1)
          have hk : (0 : Int) ≤ (k : Int) := by omega
          have q : (32 < m ∧ m < 65) ∨ (90 < m ∧ m < 97) ∨ (122 < m) ∨ m < 32 := by omega
          clear hs c0 c1 c2
          rcases q with ⟨q1, q2⟩ | ⟨q1, q2⟩ | q1 | q1
          all_goals
            go_enter Tryd.func71, Tryd.ntmps71
            go_wp2_with fail
            refine (hC.out w).mono ?_
            rw [hp.out]
            rintro e w' ⟨rfl, rfl⟩
            go_wp2_with fail
            refine (hC.out w).mono ?_
            rw [hp.out]
            rintro e w' ⟨rfl, rfl⟩
            go_wp2
            go_ret
            exact ret_lit [.int .i64 28, .int .i64 k] 2 _ rfl (by rw [hfin.out]; simp [cb]) (by omega)
        | none =>
          have hp : Hid (aPlace m = -1) := by unfold Hid aPlace; rw [hs]
          have hfin : Hid (aOne m = [29, m / 16, m % 16]) := by unfold Hid aOne; rw [if_neg c0, if_neg c1, if_neg c2, hs]
          have hC := Lib.hid (fun w => rsign_any m w h0 h1)
          have q : (32 < m ∧ m < 65) ∨ (90 < m ∧ m < 97) ∨ (122 < m) ∨ m < 32 := by omega
          clear hs c0 c1 c2
          rcases q with ⟨q1, q2⟩ | ⟨q1, q2⟩ | q1 | q1
          all_goals
            go_enter Tryd.func71, Tryd.ntmps71
            go_wp2_with fail
            refine (hC.out w).mono ?_
            rw [hp.out]
            rintro e w' ⟨rfl, rfl⟩
            go_wp2
            go_ret
            exact ret_lit [.int .i64 29, .int .i64 (m / 16), .int .i64 (m % 16)] 3 _ rfl (by rw [hfin.out]; simp [cb]) (by omega)
set_option maxHeartbeats 800000 in
theorem sort_any (m : Int) (w : World) (h0 : 0 ≤ m) (h1 : m < 256) : Calls Tryd.prog 39 #[.int .u8 m] w (RetOwn w 3 (cb .i64 (aSort m))) := by
  by_cases c0 : m = 32
  · subst c0
    go_enter Tryd.func39, Tryd.ntmps39
    go_wp2
    go_ret
    exact ret_lit [.int .i64 0] 1 _ rfl rfl (by omega)
  · have e0 : (m == 32) = false := by simpa using c0
    by_cases c1 : 97 ≤ m ∧ m ≤ 122
    · have hfin : Hid (aSort m = [m - 96]) := aSort_small m c1.1 c1.2
      obtain ⟨a1, a2⟩ := c1
      clear c0
      go_enter Tryd.func39, Tryd.ntmps39
      go_wp2
      go_ret
      exact ret_lit [.int .i64 (m - 97 + 1)] 1 _ rfl (by rw [hfin.out]; simp [cb]; omega) (by omega)
    · by_cases c2 : 65 ≤ m ∧ m ≤ 90
      · have hfin : Hid (aSort m = [27, m - 64]) := aSort_great m c2.1 c2.2
        obtain ⟨a1, a2⟩ := c2
        clear c0 c1
        go_enter Tryd.func39, Tryd.ntmps39
        go_wp2
        go_ret
        exact ret_lit [.int .i64 27, .int .i64 (m - 65 + 1)] 2 _ rfl (by rw [hfin.out]; simp [cb]; omega) (by omega)
      · have HS := Lib.hid (aSort_sign m c0 c1 c2)
        have HN := Lib.hid (aSort_none m c0 c1 c2)
        have HW := Lib.hid (aSort_whole m c0 c1 c2)
        have q : (32 < m ∧ m < 65) ∨ (90 < m ∧ m < 97) ∨ (122 < m) ∨ m < 32 := by omega
        clear c0 c1 c2
        rcases q with ⟨q1, q2⟩ | ⟨q1, q2⟩ | q1 | q1
        all_goals
          go_enter Tryd.func39, Tryd.ntmps39
          go_wp2_with fail
          go_loopw [3] (fun _ w' => ∃ k : Nat, k ≤ 31 ∧ w' = w.iter aSignsB k ∧ Hid (∀ j, j < k → aSigns.getD j 0 ≠ m)) (fun _ w' => 31 - w'.iterPos w.heap.size)
          case atStart => exact ⟨0, by omega, rfl, by unfold Hid; intro j hj; omega⟩
          case round =>
            obtain ⟨k, hk, rfl, hq⟩ := hrel
            by_cases hlt : k < 31
            · have hat := Lib.hid (aSigns_at k hlt)
              have hbd := (aSigns_at k hlt).2
              have hnx : ∀ ty, (Instr.next (.pointer (some ⟨w.heap.size, 0, none⟩)) true ty).run Tryd.prog (w.iter aSignsB k) = _ := fun ty => run_next_ascii w aSignsB k ty hlt hbd
              by_cases he : aSigns.getD k 0 = m
              · have hb : (((aSignsB[k]'hlt).toNat : Int) == m) = true := by rw [beq_iff_eq, (aSigns_at k hlt).1, he]
                have hfin : Hid (aSort m = [28, (k : Int)]) := HS.out k (by rw [← he]; exact aSign_some k hlt)
                clear he
                go_wp2
                go_ret
                exact ret_lit_on (below_iter w aSignsB (k + 1)) [.int .i64 28, .int .i64 k] 2 _ rfl (by rw [hfin.out]; simp [cb]) (by omega)
              · have hb : (((aSignsB[k]'hlt).toNat : Int) == m) = false := by rw [beq_eq_false_iff_ne, (aSigns_at k hlt).1]; exact he
                have hq2 : Hid (∀ j, j < k + 1 → aSigns.getD j 0 ≠ m) := by
                  unfold Hid
                  intro j hj
                  rcases Nat.lt_or_ge j k with h | h
                  · exact hq.out j h
                  · obtain rfl : j = k := by omega
                    exact he
                clear he
                go_wp2
                go_roundw
                case rel => exact ⟨k + 1, by omega, rfl, hq2⟩
                case measure => simp; omega
            · obtain rfl : k = 31 := by omega
              have hnx : ∀ ty, (Instr.next (.pointer (some ⟨w.heap.size, 0, none⟩)) true ty).run Tryd.prog (w.iter aSignsB 31) = _ := fun ty => run_next_end w aSignsB 31 ty (by decide)
              have hno := Lib.hid (aSign_none m hq.out)
              first
                | (have hfin := Lib.hid (HN.out hno.out (by omega))
                   go_wp2
                   go_ret
                   exact ret_nil_on (below_iter w aSignsB 31) _ (by rw [hfin.out]; rfl))
                | (have hfin := Lib.hid (HW.out hno.out (by omega))
                   go_wp2
                   go_ret
                   exact ret_lit_on (below_iter w aSignsB 31) [.int .i64 29, .int .i64 (m / 16), .int .i64 (m % 16)] 3 _ rfl (by rw [hfin.out]; simp [cb]) (by omega))
                | (by_cases c4 : 126 < m
                   · have hfin := Lib.hid (HN.out hno.out (by omega))
                     go_wp2
                     go_ret
                     exact ret_nil_on (below_iter w aSignsB 31) _ (by rw [hfin.out]; rfl)
                   · have hfin := Lib.hid (HW.out hno.out (by omega))
                     go_wp2
                     go_ret
                     exact ret_lit_on (below_iter w aSignsB 31) [.int .i64 29, .int .i64 (m / 16), .int .i64 (m % 16)] 3 _ rfl (by rw [hfin.out]; simp [cb]) (by omega))
end Go.Proofs.YtpbaiighifhfnaaDoor
namespace Go.Proofs.YtpbaiighifhfnaaDoor
open Go.RowKit
set_option maxRecDepth 100000
set_option linter.unusedVariables false
set_option linter.unusedSimpArgs false
theorem pc_byte {P : Program} {f : FuncId} {e : TypeId} {m : Int} {zs : List Int} (h : ∀ w, Calls P f #[.int .u8 m] w (RetOwn w e (cb .i64 zs))) : PC P f [.val (.int .u8 m)] (slI zs) := by
  intro E vs hG hA _ _ _
  unfold RepL RepL at hA
  obtain ⟨v, us, rfl, hv, rfl⟩ := hA
  unfold Rep at hv
  subst hv
  refine (h E.w).mono ?_
  rintro en w' ⟨B, n, cc, rfl, hown, hb⟩
  exact ⟨{ E with w := w' }, _, rfl, rfl, hG.grow hb, (Step.grow hG hb).kept (by simp), slI_of_own hG hown hb, fun n y hn => by simp [lkH] at hn⟩
theorem sort_pc (m : Int) (h0 : 0 ≤ m) (h1 : m < 256) : PC Tryd.prog 39 [.val (.int .u8 m)] (slI (aSort m)) := pc_byte fun w => sort_any m w h0 h1
theorem one_pc (m : Int) (h0 : 0 ≤ m) (h1 : m < 256) : PC Tryd.prog 71 [.val (.int .u8 m)] (slI (aOne m)) := pc_byte fun w => one_any m w h0 h1
/-- What the first bytes of a text cost. -/
def cst (s : ByteArray) : Nat → Int
  | 0 => 0
  | k + 1 => cst s k + ((aSort ((tB s).getD k 0)).length : Int)
theorem cst_succ (s : ByteArray) (k : Nat) : cst s (k + 1) = cst s k + ((aSort ((tB s).getD k 0)).length : Int) := rfl
def costS (s : ByteArray) : Int := cst s s.size
theorem cst_bd (s : ByteArray) : ∀ k, 0 ≤ cst s k ∧ cst s k ≤ 3 * k
  | 0 => by simp [cst]
  | k + 1 => by
    have := cst_bd s k
    have := aSort_len ((tB s).getD k 0)
    unfold cst
    omega
theorem byte_bd {s : ByteArray} {k : Nat} (h : k < s.size) : 0 ≤ (tB s).getD k 0 ∧ (tB s).getD k 0 < 256 := by
  have hl : k < (tB s).length := by rw [tB_len]; exact h
  rw [List.getD, List.getElem?_eq_getElem hl]
  have hm : (tB s)[k] ∈ tB s := List.getElem_mem hl
  generalize (tB s)[k] = x at hm
  unfold tB at hm
  rw [List.mem_map] at hm
  obtain ⟨b, _, e⟩ := hm
  have := b.toNat_lt
  show 0 ≤ x ∧ x < 256
  omega
set_option maxHeartbeats 800000 in
theorem cost_pc (s : ByteArray) (hs : s.size ≤ 100000000) : PC Tryd.prog 17 [vs s] (vi (costS s)) := by
  refine FC.body 6 19 Tryd.func17 rfl (by kernel_rfl) ?_
  refine aw_seq ?_
  refine aw_text rfl ?_
  refine ch_v (R := []) rfl rfl (oc_assign (x := .val _) rfl rfl) trivial ?_
  refine ck_nil ?_
  refine aw_seq ?_
  refine aw_text rfl ?_
  refine ch_v (R := []) rfl rfl (oc_assign (x := .val _) rfl rfl) trivial ?_
  refine ck_nil ?_
  refine aw_seq ?_
  refine aw_seq ?_
  refine aw_text rfl ?_
  refine ch_v (R := []) rfl rfl (oc_move (x := .val _) rfl rfl) trivial ?_
  refine ch_v (R := []) rfl rfl (oc_len_str rfl rfl (by kernel_rfl)) trivial ?_
  refine ch_v (R := []) rfl rfl (oc_move (x := .val _) rfl rfl) trivial ?_
  refine ck_nil ?_
  refine aw_block ?_
  refine aw_loop (ι := Nat) (fun k => ⟨[(0, vs s), (3, vi (cst s k)), (6, vi s.size), (7, vi k)], []⟩) (fun k => k ≤ s.size) (fun k => s.size - k) 0 (Nat.zero_le _) (Le.sub (by repeat (first | trivial | refine ⟨.inr rfl, ?_⟩ | refine ⟨.inr (vi_eq (by omega)), ?_⟩)) (by repeat (first | trivial | refine ⟨rfl, ?_⟩))) ?_
  intro k hI
  refine aw_seq ?_
  refine aw_text rfl ?_
  refine ch_v (R := []) rfl rfl (oc_binZ rfl rfl rfl rfl) trivial ?_
  refine ck_nil ?_
  refine aw_seq ?_
  refine aw_cond rfl (fun hb => ?_) (fun hb => ?_)
  · have hlt : k < s.size := by have h0 := of_decide_eq_true hb; omega
    have hb0 := byte_bd hlt
    have hc0 := cst_bd s k
    have hc1 := aSort_len ((tB s).getD k 0)
    refine aw_skip ?_
    refine aw_seq ?_
    refine aw_block ?_
    refine aw_seq ?_
    refine aw_text rfl ?_
    refine ch_v (R := []) rfl rfl (oc_move (x := .val _) rfl rfl) trivial ?_
    refine ch_v (R := []) rfl rfl (oc_assign (x := .val _) rfl rfl) trivial ?_
    refine ck_nil ?_
    refine aw_text rfl ?_
    refine ch_v (R := []) rfl rfl (oc_move (x := .val _) rfl rfl) trivial ?_
    refine ch_v (R := []) rfl rfl (oc_move (x := .val _) rfl rfl) trivial ?_
    refine ch_v (R := []) rfl rfl (oc_move (x := .val _) rfl rfl) trivial ?_
    refine ch_v (R := []) rfl rfl (oc_strIndex rfl rfl rfl (by kernel_rfl) (by omega) (by omega) rfl) trivial ?_
    refine ch_v (R := []) rfl rfl (oc_call rfl (by kernel_rfl) (sort_pc _ hb0.1 hb0.2) rfl (by simp only [PureL, Pure, and_self, pure_slI, pure_slS, implies_true]) (by simp only [PureL, Pure, and_self, pure_slI, pure_slS, implies_true])) trivial ?_
    refine ch_v (R := []) rfl rfl (oc_len rfl rfl (by kernel_rfl)) trivial ?_
    refine ch_v (R := []) rfl rfl (oc_binZ rfl rfl rfl (by first | exact binW_add (by omega) (by omega) | rfl)) trivial ?_
    refine ch_v (R := []) rfl rfl (oc_assign (x := .val _) rfl rfl) trivial ?_
    refine ck_nil ?_
    refine aw_text rfl ?_
    refine ch_v (R := []) rfl rfl (oc_binZ rfl rfl rfl (by first | exact binW_add (by omega) (by omega) | rfl)) trivial ?_
    refine ch_v (R := []) rfl rfl (oc_move (x := .val _) rfl rfl) trivial ?_
    refine ck_nil ?_
    exact ⟨k + 1, by omega, by omega, Le.sub (by repeat (first | trivial | refine ⟨.inr rfl, ?_⟩ | refine ⟨.inr (vi_eq (by omega)), ?_⟩)) (by repeat (first | trivial | refine ⟨rfl, ?_⟩))⟩
  · have hge : k = s.size := by have h0 := of_decide_eq_false hb; omega
    refine aw_exit ?_
    refine aw_seq ?_
    refine aw_text rfl ?_
    refine ch_v (R := []) rfl rfl (oc_move (x := .val _) rfl rfl) trivial ?_
    refine ch_v (R := []) rfl rfl (oc_assign (x := .val _) rfl rfl) trivial ?_
    refine ck_nil ?_
    refine aw_ret ?_
    exact ⟨.inl rfl, ResOk.tmp rfl (vi_eq (by rw [hge]; rfl)), trivial⟩
theorem text_cost : ∀ c : Fin 256, (if textC (c.val : Int) = true then (aOne (c.val : Int)).length else 0) = (aSort (c.val : Int)).length := by decide +kernel
theorem text_cost' {c : Int} (h0 : 0 ≤ c) (h1 : c < 256) : (if textC c = true then (aOne c).length else 0) = (aSort c).length := by
  have := text_cost ⟨c.toNat, by omega⟩
  have e : ((c.toNat : Nat) : Int) = c := by omega
  simp only [e] at this
  exact this
theorem one_text {s : ByteArray} {k : Nat} (h : k < s.size) : isTextS (s.extract (k : Int).toNat ((k : Int) + 1).toNat) = textC ((tB s).getD k 0) := by
  have e1 : (k : Int).toNat = k := by omega
  have e2 : ((k : Int) + 1).toNat = k + 1 := by omega
  have e3 : (s.extract k (k + 1)).size = 1 := by rw [← tB_len, tB_one s k h]; rfl
  rw [e1, e2]
  unfold isTextS
  rw [tB_one s k h, e3, tB_getD s k h]
  simp
theorem one_size {s : ByteArray} {k : Nat} (h : k < s.size) : (s.extract (k : Int).toNat ((k : Int) + 1).toNat).size ≤ 9223372036854775807 := by
  have e1 : (k : Int).toNat = k := by omega
  have e2 : ((k : Int) + 1).toNat = k + 1 := by omega
  have e3 : (s.extract k (k + 1)).size = 1 := by rw [← tB_len, tB_one s k h]; rfl
  rw [e1, e2, e3]
  decide
set_option maxHeartbeats 800000 in
theorem rcost_pc (s : ByteArray) (hs : s.size ≤ 100000000) : PC Tryd.prog 55 [vs s] (vi (costS s)) := by
  refine FC.body 6 25 Tryd.func55 rfl (by kernel_rfl) ?_
  refine aw_seq ?_
  refine aw_text rfl ?_
  refine ch_v (R := []) rfl rfl (oc_assign (x := .val _) rfl rfl) trivial ?_
  refine ck_nil ?_
  refine aw_seq ?_
  refine aw_text rfl ?_
  refine ch_v (R := []) rfl rfl (oc_assign (x := .val _) rfl rfl) trivial ?_
  refine ck_nil ?_
  refine aw_seq ?_
  refine aw_seq ?_
  refine aw_text rfl ?_
  refine ch_v (R := []) rfl rfl (oc_assign (x := .val _) rfl rfl) trivial ?_
  refine ck_nil ?_
  refine aw_block ?_
  refine aw_loop (ι := Nat) (fun k => ⟨[(0, vs s), (3, vi (cst s k)), (4, vi k)], []⟩) (fun k => k ≤ s.size) (fun k => s.size - k) 0 (Nat.zero_le _) (Le.sub (by repeat (first | trivial | refine ⟨.inr rfl, ?_⟩ | refine ⟨.inr (vi_eq (by omega)), ?_⟩)) (by repeat (first | trivial | refine ⟨rfl, ?_⟩))) ?_
  intro k hI
  refine aw_seq ?_
  refine aw_seq ?_
  refine aw_text rfl ?_
  refine ch_v (R := []) rfl rfl (oc_move (x := .val _) rfl rfl) trivial ?_
  refine ch_v (R := []) rfl rfl (oc_move (x := .val _) rfl rfl) trivial ?_
  refine ch_v (R := []) rfl rfl (oc_len_str rfl rfl (by kernel_rfl)) trivial ?_
  refine ch_v (R := []) rfl rfl (oc_binZ rfl rfl rfl rfl) trivial ?_
  refine ck_nil ?_
  refine aw_cond rfl (fun hb => ?_) (fun hb => ?_)
  · have hlt : k < s.size := by have h0 := of_decide_eq_true hb; omega
    have hb0 := byte_bd hlt
    have hc0 := cst_bd s k
    have hc1 := aOne_len ((tB s).getD k 0)
    have hc2 := text_cost' hb0.1 hb0.2
    have hot := one_text hlt
    refine aw_skip ?_
    refine aw_seq ?_
    refine aw_block ?_
    refine aw_seq ?_
    refine aw_text rfl ?_
    refine ch_v (R := []) rfl rfl (oc_move (x := .val _) rfl rfl) trivial ?_
    refine ch_v (R := []) rfl rfl (oc_move (x := .val _) rfl rfl) trivial ?_
    refine ch_v (R := []) rfl rfl (oc_move (x := .val _) rfl rfl) trivial ?_
    refine ch_v (R := []) rfl rfl (oc_binZ rfl rfl rfl (by first | exact binW_add (by omega) (by omega) | rfl)) trivial ?_
    refine ch_v (R := []) rfl rfl (oc_substr rfl rfl rfl rfl (by kernel_rfl) (by omega) (by omega) (by omega)) trivial ?_
    refine ch_v (R := []) rfl rfl (oc_call rfl (by kernel_rfl) (rIsText_pc _ (one_size hlt)) rfl (by simp only [PureL, Pure, and_self, pure_slI, pure_slS, implies_true]) (by simp only [PureL, Pure, and_self, pure_slI, pure_slS, implies_true])) trivial ?_
    refine ck_nil ?_
    refine aw_cond rfl (fun hb => ?_) (fun hb => ?_)
    · have hstep : cst s (k + 1) = cst s k + ((aOne ((tB s).getD k 0)).length : Int) := by rw [cst_succ, ← hc2, if_pos (hot ▸ hb)]
      refine aw_text rfl ?_
      refine ch_v (R := []) rfl rfl (oc_move (x := .val _) rfl rfl) trivial ?_
      refine ch_v (R := []) rfl rfl (oc_move (x := .val _) rfl rfl) trivial ?_
      refine ch_v (R := []) rfl rfl (oc_move (x := .val _) rfl rfl) trivial ?_
      refine ch_v (R := []) rfl rfl (oc_strIndex rfl rfl rfl (by kernel_rfl) (by omega) (by omega) rfl) trivial ?_
      refine ch_v (R := []) rfl rfl (oc_call rfl (by kernel_rfl) (one_pc _ hb0.1 hb0.2) rfl (by simp only [PureL, Pure, and_self, pure_slI, pure_slS, implies_true]) (by simp only [PureL, Pure, and_self, pure_slI, pure_slS, implies_true])) trivial ?_
      refine ch_v (R := []) rfl rfl (oc_len rfl rfl (by kernel_rfl)) trivial ?_
      refine ch_v (R := []) rfl rfl (oc_binZ rfl rfl rfl (by first | exact binW_add (by omega) (by omega) | rfl)) trivial ?_
      refine ch_v (R := []) rfl rfl (oc_assign (x := .val _) rfl rfl) trivial ?_
      refine ck_nil ?_
      refine aw_text rfl ?_
      refine ch_v (R := []) rfl rfl (oc_move (x := .val _) rfl rfl) trivial ?_
      refine ch_v (R := []) rfl rfl (oc_binZ rfl rfl rfl (by first | exact binW_add (by omega) (by omega) | rfl)) trivial ?_
      refine ch_v (R := []) rfl rfl (oc_assign (x := .val _) rfl rfl) trivial ?_
      refine ck_nil ?_
      exact ⟨k + 1, by omega, by omega, Le.sub (by repeat (first | trivial | refine ⟨.inr rfl, ?_⟩ | refine ⟨.inr (vi_eq (by omega)), ?_⟩)) (by repeat (first | trivial | refine ⟨rfl, ?_⟩))⟩
    · have hstep : cst s (k + 1) = cst s k := by
        have hb2 : textC ((tB s).getD k 0) = false := hot ▸ hb
        rw [cst_succ, ← hc2, if_neg (by rw [hb2]; decide)]
        omega
      refine aw_skip ?_
      refine aw_text rfl ?_
      refine ch_v (R := []) rfl rfl (oc_move (x := .val _) rfl rfl) trivial ?_
      refine ch_v (R := []) rfl rfl (oc_binZ rfl rfl rfl (by first | exact binW_add (by omega) (by omega) | rfl)) trivial ?_
      refine ch_v (R := []) rfl rfl (oc_assign (x := .val _) rfl rfl) trivial ?_
      refine ck_nil ?_
      exact ⟨k + 1, by omega, by omega, Le.sub (by repeat (first | trivial | refine ⟨.inr rfl, ?_⟩ | refine ⟨.inr (vi_eq (by omega)), ?_⟩)) (by repeat (first | trivial | refine ⟨rfl, ?_⟩))⟩
  · have hge : k = s.size := by have h0 := of_decide_eq_false hb; omega
    refine aw_exit ?_
    refine aw_seq ?_
    refine aw_text rfl ?_
    refine ch_v (R := []) rfl rfl (oc_move (x := .val _) rfl rfl) trivial ?_
    refine ch_v (R := []) rfl rfl (oc_assign (x := .val _) rfl rfl) trivial ?_
    refine ck_nil ?_
    refine aw_ret ?_
    exact ⟨.inl rfl, ResOk.tmp rfl (vi_eq (by rw [hge]; rfl)), trivial⟩
end Go.Proofs.YtpbaiighifhfnaaDoor
namespace Go.Proofs.YtpbaiighifhfnaaDoor
open Go.RowKit
set_option maxRecDepth 100000
set_option linter.unusedVariables false
set_option linter.unusedSimpArgs false
/-- Few texts, of few bytes. -/
structure FewT (l : List ByteArray) : Prop where
  len : l.length ≤ 10000
  size : ∀ k, (l.getD k ⟨#[]⟩).size ≤ 10000
theorem Sane.all {l : List ByteArray} (h : FewT l) : ∀ k, MI (cAll l k) ∧ Maps.size (cAll l k) ≤ 70000 * k ∧ ∀ t, 0 ≤ getM (cAll l k) t ∧ getM (cAll l k) t ≤ ((70000 * k : Nat) : Int)
  | 0 => ⟨mi_empty, Nat.zero_le _, fun t => by show 0 ≤ getM (.map []) t ∧ getM (.map []) t ≤ _; rw [get_empty]; omega⟩
  | k + 1 => by
    obtain ⟨h1, h2, h3⟩ := Sane.all h k
    have hs := h.size k
    have := Sane.part h1 h2 h3 (p := l.getD k ⟨#[]⟩) (by omega) (l.getD k ⟨#[]⟩).size
    have := this.more (c := 70000 * (k + 1)) (by omega)
    exact ⟨this.m1, this.s1, this.g1⟩
theorem cRow_stop {p : ByteArray} {i : Nat} {s : MM} {j : Nat} (hj : j ≤ 7) (h : ¬ (j + 2 ≤ 8 ∧ i + (j + 2) ≤ p.size)) : cRow p i s 7 = cRow p i s j := by
  have key : ∀ d, j + d ≤ 7 → cRow p i s (j + d) = cRow p i s j := by
    intro d
    induction d with
    | zero => intro _; rfl
    | succ d ih =>
      intro hd
      rw [← Nat.add_assoc]
      show (if j + d + 2 ≤ 8 ∧ i + (j + d + 2) ≤ p.size then _ else _) = _
      rw [if_neg (by omega)]
      exact ih (by omega)
  have := key (7 - j) (by omega)
  rwa [show j + (7 - j) = 7 from by omega] at this
theorem wf_num {c : Int} (h : -9223372036854775808 ≤ c ∧ c < 9223372036854775808) : (Lit.int .i64 c).wf = true := by
  have h2 : IntKind.i64.min = -9223372036854775808 := rfl
  have h3 : IntKind.i64.max = 9223372036854775807 := rfl
  simp [Lit.wf, h2, h3]
  omega
theorem ex_nat (p : ByteArray) (i n : Nat) : p.extract (i : Int).toNat ((i : Int) + (n : Int)).toNat = p.extract i (i + n) := by
  have e1 : (i : Int).toNat = i := by omega
  have e2 : ((i : Int) + (n : Int)).toNat = i + n := by omega
  rw [e1, e2]
theorem ex_size (p : ByteArray) (i n : Nat) (h : i + n ≤ p.size) : (p.extract i (i + n)).size = n := by
  rw [← tB_len, tB_extract, List.length_drop, List.length_take, tB_len]
  omega
set_option maxHeartbeats 800000 in
theorem count_pc (l : List ByteArray) (hl : FewT l) : PC Tryd.prog 65 [slS l] (.fm Tryd.prog 9 3 (cAll l l.length)) := by
  refine FC.body 4 58 Tryd.func65 rfl (by kernel_rfl) ?_
  refine aw_seq ?_
  refine aw_text rfl ?_
  refine ch_v (R := []) rfl rfl (oc_assign (x := .val _) rfl rfl) trivial ?_
  refine ck_nil ?_
  refine aw_seq ?_
  refine aw_text rfl ?_
  refine ch_u rfl rfl (oc_makeMap (k := 9) (e := 3) 0 rfl (by kernel_rfl)) ⟨rfl, trivial⟩ ?_
  refine ch_v (R := []) rfl rfl (oc_assign (x := .mp _) rfl rfl) trivial ?_
  refine ck_nil ?_
  refine aw_seq ?_
  refine aw_seq ?_
  refine aw_text rfl ?_
  refine ch_v (R := []) rfl rfl (oc_move (x := .sl _ _ _) rfl rfl) trivial ?_
  refine ch_v (R := []) rfl rfl (oc_len rfl rfl (by kernel_rfl)) trivial ?_
  refine ch_v (R := []) rfl rfl (oc_move (x := .val _) rfl rfl) trivial ?_
  refine ck_nil ?_
  refine aw_block ?_
  refine aw_loop (ι := Nat) (fun k => ⟨[(3, .mp 0), (11, slS l), (12, vi l.length), (13, vi k)], [(0, .map Tryd.prog 9 3 (cAll l k)), (1, .unborn)]⟩) (fun k => k ≤ l.length) (fun k => l.length - k) 0 (Nat.zero_le _) (Le.sub (by repeat (first | trivial | refine ⟨.inr rfl, ?_⟩ | refine ⟨.inr (vi_eq (by omega)), ?_⟩)) (by repeat (first | trivial | refine ⟨rfl, ?_⟩))) ?_
  intro k hI
  refine aw_seq ?_
  refine aw_text rfl ?_
  refine ch_v (R := []) rfl rfl (oc_binZ rfl rfl rfl rfl) trivial ?_
  refine ck_nil ?_
  refine aw_seq ?_
  refine aw_cond rfl (fun hb => ?_) (fun hb => ?_)
  · have hlt : k < l.length := by have h0 := of_decide_eq_true hb; omega
    have hk0 := Sane.all hl k
    have hps := hl.size k
    have hll := hl.len
    have hp1 : (l.getD k ⟨#[]⟩).size ≤ 1000000000 := by omega
    refine aw_skip ?_
    refine aw_seq ?_
    refine aw_block ?_
    refine aw_seq ?_
    refine aw_text rfl ?_
    refine ch_v (R := []) rfl rfl ((by first | exact oc_indexN rfl rfl rfl (by kernel_rfl) (by omega) | exact oc_index rfl rfl rfl (by kernel_rfl) (by omega) (by omega) rfl)) trivial ?_
    refine ch_v (R := []) rfl rfl (oc_load rfl rfl (by kernel_rfl) cells_str) trivial ?_
    refine ch_v (R := []) rfl rfl (oc_assign (x := .val _) rfl rfl) trivial ?_
    refine ck_nil ?_
    refine aw_seq ?_
    refine aw_text rfl ?_
    refine ch_u rfl rfl (oc_makeMap (k := 9) (e := 3) 1 rfl (by kernel_rfl)) ⟨rfl, trivial⟩ ?_
    refine ch_v (R := []) rfl rfl (oc_assign (x := .mp _) rfl rfl) trivial ?_
    refine ck_nil ?_
    refine aw_seq ?_
    refine aw_text rfl ?_
    refine ch_v (R := []) rfl rfl (oc_move (x := .val _) rfl rfl) trivial ?_
    refine ch_v (R := []) rfl rfl (oc_len_str rfl rfl (by kernel_rfl)) trivial ?_
    refine ch_v (R := []) rfl rfl (oc_move (x := .val _) rfl rfl) trivial ?_
    refine ck_nil ?_
    refine aw_block ?_
    refine aw_loop (ι := Nat) (fun i => ⟨[(3, .mp 0), (11, slS l), (12, vi l.length), (13, vi k), (5, vs (l.getD k ⟨#[]⟩)), (6, .mp 1), (19, vi (l.getD k ⟨#[]⟩).size), (20, vi i)], [(0, .map Tryd.prog 9 3 ((cPart (l.getD k ⟨#[]⟩) (cAll l k) i).1)), (1, .map Tryd.prog 9 3 ((cPart (l.getD k ⟨#[]⟩) (cAll l k) i).2))]⟩) (fun i => i ≤ (l.getD k ⟨#[]⟩).size) (fun i => (l.getD k ⟨#[]⟩).size - i) 0 (Nat.zero_le _) (Le.sub (by repeat (first | trivial | refine ⟨.inr rfl, ?_⟩ | refine ⟨.inr (vi_eq (by omega)), ?_⟩)) (by repeat (first | trivial | refine ⟨rfl, ?_⟩))) ?_
    intro i hI
    refine aw_seq ?_
    refine aw_text rfl ?_
    refine ch_v (R := []) rfl rfl (oc_binZ rfl rfl rfl rfl) trivial ?_
    refine ck_nil ?_
    refine aw_seq ?_
    refine aw_cond rfl (fun hb => ?_) (fun hb => ?_)
    · have hli : i < (l.getD k ⟨#[]⟩).size := by have h0 := of_decide_eq_true hb; omega
      have hP := (Sane.part hk0.1 hk0.2.1 hk0.2.2 (p := (l.getD k ⟨#[]⟩)) hp1 i).more (c := 999999993) (by omega)
      refine aw_skip ?_
      refine aw_seq ?_
      refine aw_block ?_
      refine aw_seq ?_
      refine aw_text rfl ?_
      refine ch_v (R := []) rfl rfl (oc_move (x := .val _) rfl rfl) trivial ?_
      refine ch_v (R := []) rfl rfl (oc_assign (x := .val _) rfl rfl) trivial ?_
      refine ck_nil ?_
      refine aw_seq ?_
      refine aw_text rfl ?_
      refine ch_v (R := []) rfl rfl (oc_assign (x := .val _) rfl rfl) trivial ?_
      refine ck_nil ?_
      refine aw_block ?_
      refine aw_loop (ι := Nat) (fun j => ⟨[(3, .mp 0), (11, slS l), (12, vi l.length), (13, vi k), (5, vs (l.getD k ⟨#[]⟩)), (6, .mp 1), (19, vi (l.getD k ⟨#[]⟩).size), (20, vi i), (7, vi i), (8, vi ((j + 2 : Nat) : Int))], [(0, .map Tryd.prog 9 3 ((cRow (l.getD k ⟨#[]⟩) i (cPart (l.getD k ⟨#[]⟩) (cAll l k) i) j).1)), (1, .map Tryd.prog 9 3 ((cRow (l.getD k ⟨#[]⟩) i (cPart (l.getD k ⟨#[]⟩) (cAll l k) i) j).2))]⟩) (fun j => j ≤ 7) (fun j => 7 - j) 0 (Nat.zero_le _) (Le.sub (by repeat (first | trivial | refine ⟨.inr rfl, ?_⟩ | refine ⟨.inr (vi_eq (by omega)), ?_⟩)) (by repeat (first | trivial | refine ⟨rfl, ?_⟩))) ?_
      intro j hI
      have hS := (hP.row (p := (l.getD k ⟨#[]⟩)) (i := i) hp1 j).more (c := 1000000000) (by omega)
      refine aw_seq ?_
      refine aw_seq ?_
      refine aw_text rfl ?_
      refine ch_v (R := []) rfl rfl (oc_move (x := .val _) rfl rfl) trivial ?_
      refine ch_v (R := []) rfl rfl (oc_binZ rfl rfl rfl rfl) trivial ?_
      refine ch_v (R := []) rfl rfl (oc_move (x := .val _) rfl rfl) trivial ?_
      refine ch_g (R := []) rfl rfl rfl gate_t (fun hC => oc_move (x := .val _) rfl rfl) (fun hC => ⟨(by first | rfl | exact hC | (simp only [Bool.and_eq_true] at hC; first | exact hC.1 | exact hC.1.1 | exact hC.2) | simp_all), trivial⟩) trivial ?_
      refine ch_g (R := []) rfl rfl rfl gate_t (fun hC => oc_move (x := .val _) rfl rfl) (fun hC => ⟨(by first | rfl | exact hC | (simp only [Bool.and_eq_true] at hC; first | exact hC.1 | exact hC.1.1 | exact hC.2) | simp_all), trivial⟩) trivial ?_
      refine ch_g (R := []) rfl rfl rfl gate_t (fun hC => oc_binZ rfl rfl rfl (by first | exact binW_add (by omega) (by omega) | rfl)) (fun hC => ⟨(by first | rfl | exact hC | (simp only [Bool.and_eq_true] at hC; first | exact hC.1 | exact hC.1.1 | exact hC.2) | simp_all), (by first | rfl | exact hC | (simp only [Bool.and_eq_true] at hC; first | exact hC.1 | exact hC.1.1 | exact hC.2) | simp_all), trivial⟩) trivial ?_
      refine ch_g (R := []) rfl rfl rfl gate_t (fun hC => oc_move (x := .val _) rfl rfl) (fun hC => ⟨(by first | rfl | exact hC | (simp only [Bool.and_eq_true] at hC; first | exact hC.1 | exact hC.1.1 | exact hC.2) | simp_all), trivial⟩) trivial ?_
      refine ch_g (R := []) rfl rfl rfl gate_t (fun hC => oc_len_str rfl rfl (by kernel_rfl)) (fun hC => ⟨(by first | rfl | exact hC | (simp only [Bool.and_eq_true] at hC; first | exact hC.1 | exact hC.1.1 | exact hC.2) | simp_all), trivial⟩) trivial ?_
      refine ch_g (R := []) rfl rfl rfl gate_t (fun hC => oc_binZ rfl rfl rfl rfl) (fun hC => ⟨(by first | rfl | exact hC | (simp only [Bool.and_eq_true] at hC; first | exact hC.1 | exact hC.1.1 | exact hC.2) | simp_all), (by first | rfl | exact hC | (simp only [Bool.and_eq_true] at hC; first | exact hC.1 | exact hC.1.1 | exact hC.2) | simp_all), trivial⟩) trivial ?_
      refine ch_v (R := []) rfl rfl (oc_and rfl rfl rfl rfl (by first | exact fun h => h | simp_all)) trivial ?_
      refine ck_nil ?_
      refine aw_cond rfl (fun hb => ?_) (fun hb => ?_)
      · have hn : j + 2 ≤ 8 ∧ i + (j + 2) ≤ (l.getD k ⟨#[]⟩).size := by simp only [Bool.and_eq_true, decide_eq_true_eq] at hb; omega
        have hx := ex_nat (l.getD k ⟨#[]⟩) i (j + 2)
        have hsz : ((l.getD k ⟨#[]⟩).extract i (i + (j + 2))).size ≤ maxLen := by rw [ex_size _ _ _ hn.2]; have : maxLen = 9223372036854775807 := rfl; omega
        have hg1 := hS.g1 ((l.getD k ⟨#[]⟩).extract i (i + (j + 2)))
        have hg2 := hS.g2 ((l.getD k ⟨#[]⟩).extract i (i + (j + 2)))
        have hs1 := hS.s1
        have hs2 := hS.s2
        have hml : maxLen = 9223372036854775807 := rfl
        refine aw_skip ?_
        refine aw_seq ?_
        refine aw_block ?_
        refine aw_seq ?_
        refine aw_text rfl ?_
        refine ch_v (R := []) rfl rfl (oc_move (x := .val _) rfl rfl) trivial ?_
        refine ch_v (R := []) rfl rfl (oc_move (x := .val _) rfl rfl) trivial ?_
        refine ch_v (R := []) rfl rfl (oc_move (x := .val _) rfl rfl) trivial ?_
        refine ch_v (R := []) rfl rfl (oc_move (x := .val _) rfl rfl) trivial ?_
        refine ch_v (R := []) rfl rfl (oc_binZ rfl rfl rfl (by first | exact binW_add (by omega) (by omega) | rfl)) trivial ?_
        refine ch_v (R := []) rfl rfl (OC.cast (oc_substr rfl rfl rfl rfl (by kernel_rfl) (by omega) (by omega) (by omega)) (show Av.val (.string ((l.getD k ⟨#[]⟩).extract (i : Int).toNat ((i : Int) + ((j + 2 : Nat) : Int)).toNat)) = vs ((l.getD k ⟨#[]⟩).extract i (i + (j + 2))) from by rw [hx])) trivial ?_
        refine ch_v (R := []) rfl rfl (oc_assign (x := .val _) rfl rfl) trivial ?_
        refine ck_nil ?_
        refine aw_seq ?_
        refine aw_text rfl ?_
        refine ch_v (R := []) rfl rfl (oc_move (x := .val _) rfl rfl) trivial ?_
        refine ch_v (R := []) rfl rfl (oc_move (x := .mp _) rfl rfl) trivial ?_
        refine ch_v (R := []) rfl rfl (oc_move (x := .val _) rfl rfl) trivial ?_
        refine ch_v (R := [(_, .map _ _ _ _)]) rfl rfl (oc_lookup (k := 9) (e := 3) (Go.Maps.string_keyed Tryd.underlying9) rfl rfl rfl (by kernel_rfl) (by kernel_rfl) (by kernel_rfl) (key_str Tryd.underlying9 hsz) (hS.m2.2 _)) ⟨rfl, trivial⟩ ?_
        refine ch_v (R := []) rfl rfl (oc_binZ rfl rfl rfl rfl) trivial ?_
        refine ck_nil ?_
        refine aw_cond rfl (fun hb => ?_) (fun hb => ?_)
        · have hge : getM (cRow (l.getD k ⟨#[]⟩) i (cPart (l.getD k ⟨#[]⟩) (cAll l k) i) j).2 ((l.getD k ⟨#[]⟩).extract i (i + (j + 2))) ≤ i := by have h0 := of_decide_eq_true hb; omega
          have e1 : cRow (l.getD k ⟨#[]⟩) i (cPart (l.getD k ⟨#[]⟩) (cAll l k) i) (j + 1) = ((cRow (l.getD k ⟨#[]⟩) i (cPart (l.getD k ⟨#[]⟩) (cAll l k) i) j).1.put (kS ((l.getD k ⟨#[]⟩).extract i (i + (j + 2)))) (iv (getM (cRow (l.getD k ⟨#[]⟩) i (cPart (l.getD k ⟨#[]⟩) (cAll l k) i) j).1 ((l.getD k ⟨#[]⟩).extract i (i + (j + 2))) + 1)), (cRow (l.getD k ⟨#[]⟩) i (cPart (l.getD k ⟨#[]⟩) (cAll l k) i) j).2.put (kS ((l.getD k ⟨#[]⟩).extract i (i + (j + 2)))) (iv ((i + (j + 2) : Nat) : Int))) := by
            show (if _ then cStep _ _ _ _ else _) = _
            rw [if_pos hn]
            unfold cStep
            rw [if_pos hge]
          refine aw_seq ?_
          refine aw_text rfl ?_
          refine ch_v (R := []) rfl rfl (oc_move (x := .mp _) rfl rfl) trivial ?_
          refine ch_v (R := []) rfl rfl (oc_move (x := .val _) rfl rfl) trivial ?_
          refine ch_v (R := [(_, .map _ _ _ _)]) rfl rfl (oc_lookup (k := 9) (e := 3) (Go.Maps.string_keyed Tryd.underlying9) rfl rfl rfl (by kernel_rfl) (by kernel_rfl) (by kernel_rfl) (key_str Tryd.underlying9 hsz) (hS.m1.2 _)) ⟨rfl, trivial⟩ ?_
          refine ch_v (R := []) rfl rfl (oc_binZ rfl rfl rfl (by first | exact binW_add (by omega) (by omega) | rfl)) trivial ?_
          refine ch_n rfl rfl (oc_mapUpdate (k := 9) (e := 3) (Go.Maps.string_keyed Tryd.underlying9) rfl rfl rfl rfl (by kernel_rfl) (by kernel_rfl) (key_str Tryd.underlying9 hsz) (wf_num (by omega)) (by omega)) ⟨rfl, trivial⟩ ?_
          refine ck_nil ?_
          refine aw_text rfl ?_
          refine ch_v (R := []) rfl rfl (oc_move (x := .mp _) rfl rfl) trivial ?_
          refine ch_v (R := []) rfl rfl (oc_move (x := .val _) rfl rfl) trivial ?_
          refine ch_v (R := []) rfl rfl (oc_move (x := .val _) rfl rfl) trivial ?_
          refine ch_v (R := []) rfl rfl (oc_move (x := .val _) rfl rfl) trivial ?_
          refine ch_v (R := []) rfl rfl (oc_binZ rfl rfl rfl (by first | exact binW_add (by omega) (by omega) | rfl)) trivial ?_
          refine ch_n rfl rfl (oc_mapUpdate (k := 9) (e := 3) (Go.Maps.string_keyed Tryd.underlying9) rfl rfl rfl rfl (by kernel_rfl) (by kernel_rfl) (key_str Tryd.underlying9 hsz) (wf_num (by omega)) (by omega)) ⟨rfl, trivial⟩ ?_
          refine ck_nil ?_
          refine aw_text rfl ?_
          refine ch_v (R := []) rfl rfl (oc_move (x := .val _) rfl rfl) trivial ?_
          refine ch_v (R := []) rfl rfl (oc_binZ rfl rfl rfl (by first | exact binW_add (by omega) (by omega) | rfl)) trivial ?_
          refine ch_v (R := []) rfl rfl (oc_assign (x := .val _) rfl rfl) trivial ?_
          refine ck_nil ?_
          exact ⟨j + 1, by omega, by omega, Le.sub (by repeat (first | trivial | refine ⟨.inr rfl, ?_⟩ | refine ⟨.inr (vi_eq (by omega)), ?_⟩)) ⟨by rw [e1]; rfl, by rw [e1]; rfl, trivial⟩⟩
        · have hge : ¬ getM (cRow (l.getD k ⟨#[]⟩) i (cPart (l.getD k ⟨#[]⟩) (cAll l k) i) j).2 ((l.getD k ⟨#[]⟩).extract i (i + (j + 2))) ≤ i := by have h0 := of_decide_eq_false hb; omega
          have e1 : cRow (l.getD k ⟨#[]⟩) i (cPart (l.getD k ⟨#[]⟩) (cAll l k) i) (j + 1) = cRow (l.getD k ⟨#[]⟩) i (cPart (l.getD k ⟨#[]⟩) (cAll l k) i) j := by
            show (if _ then cStep _ _ _ _ else _) = _
            rw [if_pos hn]
            unfold cStep
            rw [if_neg hge]
          refine aw_skip ?_
          refine aw_text rfl ?_
          refine ch_v (R := []) rfl rfl (oc_move (x := .val _) rfl rfl) trivial ?_
          refine ch_v (R := []) rfl rfl (oc_binZ rfl rfl rfl (by first | exact binW_add (by omega) (by omega) | rfl)) trivial ?_
          refine ch_v (R := []) rfl rfl (oc_assign (x := .val _) rfl rfl) trivial ?_
          refine ck_nil ?_
          exact ⟨j + 1, by omega, by omega, Le.sub (by repeat (first | trivial | refine ⟨.inr rfl, ?_⟩ | refine ⟨.inr (vi_eq (by omega)), ?_⟩)) ⟨by rw [e1]; rfl, by rw [e1]; rfl, trivial⟩⟩
      · have hn : ¬ (j + 2 ≤ 8 ∧ i + (j + 2) ≤ (l.getD k ⟨#[]⟩).size) := by intro hc; simp only [Bool.and_eq_false_iff, decide_eq_false_iff_not] at hb; omega
        have hend : cPart (l.getD k ⟨#[]⟩) (cAll l k) (i + 1) = cRow (l.getD k ⟨#[]⟩) i (cPart (l.getD k ⟨#[]⟩) (cAll l k) i) j := cRow_stop hI hn
        refine aw_exit ?_
        refine aw_text rfl ?_
        refine ch_v (R := []) rfl rfl (oc_binZ rfl rfl rfl (by first | exact binW_add (by omega) (by omega) | rfl)) trivial ?_
        refine ch_v (R := []) rfl rfl (oc_move (x := .val _) rfl rfl) trivial ?_
        refine ck_nil ?_
        exact ⟨i + 1, by omega, by omega, Le.sub (by repeat (first | trivial | refine ⟨.inr rfl, ?_⟩)) ⟨by rw [hend]; rfl, by rw [hend]; rfl, trivial⟩⟩
    · have hie : i = (l.getD k ⟨#[]⟩).size := by have h0 := of_decide_eq_false hb; omega
      refine aw_exit ?_
      refine aw_text rfl ?_
      refine ch_v (R := []) rfl rfl (oc_binZ rfl rfl rfl (by first | exact binW_add (by omega) (by omega) | rfl)) trivial ?_
      refine ch_v (R := []) rfl rfl (oc_move (x := .val _) rfl rfl) trivial ?_
      refine ck_nil ?_
      exact ⟨k + 1, by omega, by omega, Le.reset [1] (by simp) (by repeat (first | trivial | refine ⟨.inr rfl, ?_⟩)) ⟨by simp [NoN], NoN.of_pure _ (pure_slS l), trivial, trivial, trivial⟩ ⟨by rw [if_neg (by decide), hie]; exact ⟨rfl, trivial⟩, by rw [if_pos (by decide)], trivial⟩⟩
  · have hge : k = l.length := by have h0 := of_decide_eq_false hb; omega
    refine aw_exit ?_
    refine aw_seq ?_
    rw [hge]
    refine aw_le (Le.freezeMap 3 0 rfl rfl) ?_
    refine aw_text rfl ?_
    refine ch_v (R := []) rfl rfl (oc_move (x := .fm _ _ _ _) rfl rfl) trivial ?_
    refine ch_v (R := []) rfl rfl (oc_assign (x := .fm _ _ _ _) rfl rfl) trivial ?_
    refine ck_nil ?_
    refine aw_ret ?_
    exact ⟨.inl rfl, ResOk.tmp rfl rfl, trivial⟩
end Go.Proofs.YtpbaiighifhfnaaDoor
namespace Go.Proofs.YtpbaiighifhfnaaDoor
open Go.RowKit Go.Maps
set_option linter.unusedVariables false
open Op (bytesLess)
theorem less_irrefl : ∀ l : List UInt8, bytesLess l l = false
  | [] => rfl
  | a :: l => by simp [bytesLess, less_irrefl l]
theorem less_trans : ∀ {a b c : List UInt8}, bytesLess a b = true → bytesLess b c = true → bytesLess a c = true
  | _, [], _, h, _ => by cases ‹List UInt8› <;> simp [bytesLess] at h
  | [], b :: y, [], _, h => by simp [bytesLess] at h
  | [], b :: y, c :: z, _, _ => by simp [bytesLess]
  | a :: x, b :: y, [], _, h => by simp [bytesLess] at h
  | a :: x, b :: y, c :: z, h, k => by
    simp only [bytesLess, Bool.or_eq_true, decide_eq_true_eq, Bool.and_eq_true, beq_iff_eq] at h k ⊢
    rcases h with h | ⟨h1, h2⟩ <;> rcases k with k | ⟨k1, k2⟩
    · exact .inl (by rw [UInt8.lt_iff_toNat_lt] at *; omega)
    · subst k1; exact .inl h
    · subst h1; exact .inl k
    · subst h1; subst k1; exact .inr ⟨rfl, less_trans h2 k2⟩
theorem less_total : ∀ {a b : List UInt8}, a ≠ b → bytesLess a b = true ∨ bytesLess b a = true
  | [], [], h => absurd rfl h
  | [], _ :: _, _ => .inl rfl
  | _ :: _, [], _ => .inr rfl
  | a :: x, b :: y, h => by
    simp only [bytesLess, Bool.or_eq_true, decide_eq_true_eq, Bool.and_eq_true, beq_iff_eq]
    by_cases e : a = b
    · subst e
      rcases less_total (a := x) (b := y) (fun h' => h (by rw [h'])) with h1 | h1
      · exact .inl (.inr ⟨rfl, h1⟩)
      · exact .inr (.inr ⟨rfl, h1⟩)
    · have : a.toNat ≠ b.toNat := fun h' => e (UInt8.toNat_inj.1 h')
      rcases Nat.lt_or_gt_of_ne this with h1 | h1
      · exact .inl (.inl (UInt8.lt_iff_toNat_lt.2 h1))
      · exact .inr (.inl (UInt8.lt_iff_toNat_lt.2 h1))
abbrev RowP := ByteArray × Int
def rowAv (r : RowP) : Av := .agg [vs r.1, vi r.2]
def aheadB (a b : RowP) : Bool := if a.2 ≠ b.2 then decide (a.2 > b.2) else if (a.1.size : Int) ≠ b.1.size then decide ((a.1.size : Int) > b.1.size) else bytesLess a.1.toList b.1.toList
theorem ahead_trans {a b c : RowP} (h : aheadB a b = true) (k : aheadB b c = true) : aheadB a c = true := by
  unfold aheadB at *
  by_cases h1 : a.2 = b.2
  · rw [if_neg (by omega)] at h
    by_cases h2 : b.2 = c.2
    · rw [if_neg (by omega)] at k
      rw [if_neg (by omega)]
      by_cases h3 : (a.1.size : Int) = b.1.size
      · rw [if_neg (by omega)] at h
        by_cases h4 : (b.1.size : Int) = c.1.size
        · rw [if_neg (by omega)] at k
          rw [if_neg (by omega)]
          exact less_trans h k
        · rw [if_pos h4] at k
          rw [if_pos (by omega)]
          simp at k ⊢
          omega
      · rw [if_pos h3] at h
        by_cases h4 : (b.1.size : Int) = c.1.size
        · rw [if_pos (by omega)]
          simp at h ⊢
          omega
        · rw [if_pos h4] at k
          simp at h k
          rw [if_pos (by omega)]
          simp
          omega
    · rw [if_pos h2] at k
      rw [if_pos (by omega)]
      simp at k ⊢
      omega
  · rw [if_pos h1] at h
    by_cases h2 : b.2 = c.2
    · rw [if_pos (by omega)]
      simp at h ⊢
      omega
    · rw [if_pos h2] at k
      simp at h k
      rw [if_pos (by omega)]
      simp
      omega
theorem ahead_total {a b : RowP} (h : a.1 ≠ b.1) : aheadB a b = true ∨ aheadB b a = true := by
  by_cases h1 : a.2 = b.2
  · by_cases h3 : (a.1.size : Int) = b.1.size
    · have f1 : aheadB a b = bytesLess a.1.toList b.1.toList := by unfold aheadB; rw [if_neg (by omega), if_neg (by omega)]
      have f2 : aheadB b a = bytesLess b.1.toList a.1.toList := by unfold aheadB; rw [if_neg (by omega), if_neg (by omega)]
      rw [f1, f2]
      exact less_total fun h4 => h (tB_inj (toList_inj.1 h4))
    · have f1 : aheadB a b = decide ((a.1.size : Int) > b.1.size) := by unfold aheadB; rw [if_neg (by omega), if_pos h3]
      have f2 : aheadB b a = decide ((b.1.size : Int) > a.1.size) := by unfold aheadB; rw [if_neg (by omega), if_pos (by omega)]
      rw [f1, f2, decide_eq_true_eq, decide_eq_true_eq]
      omega
  · have f1 : aheadB a b = decide (a.2 > b.2) := by unfold aheadB; rw [if_pos h1]
    have f2 : aheadB b a = decide (b.2 > a.2) := by unfold aheadB; rw [if_pos (by omega)]
    rw [f1, f2, decide_eq_true_eq, decide_eq_true_eq]
    omega
theorem ahead_irrefl (a : RowP) : aheadB a a = false := by
  unfold aheadB
  rw [if_neg (by omega), if_neg (by omega), less_irrefl]
theorem ahead_asymm {a b : RowP} (h : aheadB a b = true) : aheadB b a = false := by
  cases k : aheadB b a with
  | false => rfl
  | true =>
    have := ahead_trans h k
    rw [ahead_irrefl] at this
    cases this
/-- What a row saves. -/
def rowOf (D : DataW Unit) (s : ByteArray) : RowP := (s, (costS s - 2) * getM D s - costS s)
/-- The best row of those that are not left. -/
def BestOf (D : DataW Unit) (left : Lit → Bool) (r : RowP) : Prop :=
  (r = (⟨#[]⟩, 0) ∧ ∀ s, Maps.has D (kS s) = true → left (kS s) = true) ∨
  (Maps.has D (kS r.1) = true ∧ left (kS r.1) = false ∧ r = rowOf D r.1 ∧ ∀ s, Maps.has D (kS s) = true → left (kS s) = false → s = r.1 ∨ aheadB r (rowOf D s) = true)
theorem best_start (D : DataW Unit) : BestOf D (Maps.has D) (⟨#[]⟩, 0) := .inl ⟨rfl, fun s h => h⟩
theorem same_kS {s t : ByteArray} : (kS t).sameKey (kS s) = decide (t = s) := by
  by_cases e : t = s
  · subst e
    rw [WideAt.sameKey_self (kS_key t)]
    simp
  · rw [sameKey_ne fun h => e (kS_inj h)]
    simp [e]
/-- The key sk comes. -/
theorem best_take {D : DataW Unit} {left : Lit → Bool} {r : RowP} {sk : ByteArray} (h : BestOf D left r) (hs : Maps.has D (kS sk) = true) (hw : r.1 = ⟨#[]⟩ → r = (⟨#[]⟩, 0) ∧ ∀ s, Maps.has D (kS s) = true → left (kS s) = true) (ht : (r.1 = ⟨#[]⟩) ∨ aheadB (rowOf D sk) r = true) :
    BestOf D (fun z => left z && !z.sameKey (kS sk)) (rowOf D sk) := by
  refine .inr ⟨hs, by show (left (kS sk) && !(kS sk).sameKey (kS sk)) = false; rw [same_kS]; simp, rfl, fun s h1 h2 => ?_⟩
  have h2' : (left (kS s) && !(kS s).sameKey (kS sk)) = false := h2
  rw [same_kS] at h2'
  by_cases e : s = sk
  · exact .inl e
  · have hl : left (kS s) = false := by simpa [e] using h2'
    refine .inr ?_
    rcases ht with ht | ht
    · rw [(hw ht).2 s h1] at hl
      cases hl
    · rcases h with ⟨h3, h4⟩ | ⟨h3, h4, h5, h6⟩
      · rw [h4 s h1] at hl
        cases hl
      · rcases h6 s h1 hl with h7 | h7
        · have : rowOf D s = r := by rw [h7, ← h5]
          rw [this]
          exact ht
        · exact ahead_trans ht h7
theorem best_leave {D : DataW Unit} {left : Lit → Bool} {r : RowP} {sk : ByteArray} (h : BestOf D left r) (hl : left (kS sk) = true) (h0 : r.1 ≠ ⟨#[]⟩) (ht : aheadB (rowOf D sk) r = false) :
    BestOf D (fun z => left z && !z.sameKey (kS sk)) r := by
  rcases h with ⟨h3, _⟩ | ⟨h3, h4, h5, h6⟩
  · rw [h3] at h0
    exact absurd rfl h0
  · refine .inr ⟨h3, by show (left (kS r.1) && !(kS r.1).sameKey (kS sk)) = false; rw [h4]; rfl, h5, fun s h1 h2 => ?_⟩
    have h2' : (left (kS s) && !(kS s).sameKey (kS sk)) = false := h2
    rw [same_kS] at h2'
    by_cases e : s = sk
    · subst e
      by_cases e2 : s = r.1
      · exact .inl e2
      · rcases ahead_total (a := rowOf D s) (b := r) e2 with h7 | h7
        · rw [ht] at h7; cases h7
        · exact .inr h7
    · exact h6 s h1 (by simpa [e] using h2')
theorem best_one {D : DataW Unit} {r r' : RowP} (h : BestOf D (fun _ => false) r) (h' : BestOf D (fun _ => false) r') : r = r' := by
  rcases h with ⟨h1, h2⟩ | ⟨h1, _, h2, h3⟩ <;> rcases h' with ⟨k1, k2⟩ | ⟨k1, _, k2, k3⟩
  · rw [h1, k1]
  · have := h2 _ k1
    cases this
  · have := k2 _ h1
    cases this
  · rcases h3 r'.1 k1 rfl with e | e
    · rw [h2, k2, e]
    · rw [← k2] at e
      rcases k3 r.1 h1 rfl with e' | e'
      · rw [h2, k2, e']
      · rw [← h2] at e'
        rw [ahead_asymm e] at e'
        cases e'
open Classical in
noncomputable def bestR (D : DataW Unit) : RowP := if h : ∃ r, BestOf D (fun _ => false) r then h.choose else (⟨#[]⟩, 0)
theorem bestR_eq {D : DataW Unit} {r : RowP} (h : BestOf D (fun _ => false) r) : bestR D = r := by
  have hx : ∃ r, BestOf D (fun _ => false) r := ⟨r, h⟩
  unfold bestR
  rw [dif_pos hx]
  exact best_one hx.choose_spec h
/-- The keys are rows of 2 to 8 bytes. -/
def KeysOk (D : DataW Unit) : Prop := ∀ s, Maps.has D (kS s) = true → 2 ≤ s.size ∧ s.size ≤ 8
theorem keys_step {p : ByteArray} {i n : Nat} {s : MM} (h : MI s.1) (hk : KeysOk s.1) (hn : 2 ≤ n ∧ n ≤ 8) (hp : i + n ≤ p.size) : KeysOk (cStep p i n s).1 := by
  unfold cStep
  split
  · intro t ht
    have ht' : Maps.has (s.1.put (kS (p.extract i (i + n))) (iv (getM s.1 (p.extract i (i + n)) + 1))) (kS t) = true := ht
    rw [has_put h, Bool.or_eq_true, decide_eq_true_eq] at ht'
    rcases ht' with e | e
    · rw [e, ex_size p i n hp]
      exact hn
    · exact hk t e
  · exact hk
theorem keys_row {p : ByteArray} {i b : Nat} {s : MM} (hp : p.size ≤ 1000000000) (h : Sane b s) (hk : KeysOk s.1) : ∀ k, k ≤ 7 → KeysOk (cRow p i s k).1
  | 0, _ => hk
  | k + 1, hk7 => by
    have h1 := keys_row (i := i) hp h hk k (by omega)
    unfold cRow
    split
    · rename_i hc
      exact keys_step (h.row hp k).m1 h1 ⟨by omega, hc.1⟩ hc.2
    · exact h1
theorem keys_part {p : ByteArray} {M : DataW Unit} {b : Nat} (hM : MI M) (hs : Maps.size M ≤ b) (hg : ∀ t, 0 ≤ getM M t ∧ getM M t ≤ b) (hk : KeysOk M) (hp : p.size ≤ 1000000000) : ∀ k, KeysOk (cPart p M k).1
  | 0 => hk
  | k + 1 => keys_row hp (Sane.part hM hs hg hp k) (keys_part hM hs hg hk hp k) 7 (Nat.le_refl _)
theorem keys_all {l : List ByteArray} (h : FewT l) : ∀ k, KeysOk (cAll l k)
  | 0 => fun s hs => by cases hs
  | k + 1 => by
    obtain ⟨h1, h2, h3⟩ := Sane.all h k
    have := h.size k
    exact keys_part h1 h2 h3 (keys_all h k) (by omega) _
theorem cost_few {s : ByteArray} (h : s.size ≤ 8) : 0 ≤ costS s ∧ costS s ≤ 24 := by
  have := cst_bd s s.size
  unfold costS
  omega
theorem mul_few {a c : Int} (h : -2 ≤ a ∧ a ≤ 22) (hc : 0 ≤ c ∧ c ≤ 700000000) : -2000000000 ≤ a * c ∧ a * c ≤ 20000000000 := by
  constructor
  · have h1 : (-2) * c ≤ a * c := Int.mul_le_mul_of_nonneg_right h.1 hc.1
    omega
  · have h1 : a * c ≤ 22 * c := Int.mul_le_mul_of_nonneg_right h.2 hc.1
    omega
end Go.Proofs.YtpbaiighifhfnaaDoor
