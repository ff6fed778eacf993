/- Parts of slices, copy, the least and the greatest, bytes as texts; contracts told by rows of bytes. No program stands in this text. Several results, in slots and in memory; joins. No program stands in this text. -/
import Derived.Test.YtpbaiighifhfnaaDoorOr
import Derived.Test.YtpbaiighifhfnaaDoorCopy
namespace Go.Proofs.YtpbaiighifhfnaaDoor
open Go.RowKit
set_option linter.unusedVariables false
set_option linter.unusedSimpArgs false

section
variable {P : Program} {o : Oper} {x y : Av} {R U : List (Nat × Hs)} {ρ : Operand → Av} {p q q' : Operand} {T T' : TypeId}

/-! ### Parts of slices -/
theorem rep_part {E : Env} {k n l h : Nat} {row : Nat → Av} {A : Option Addr} {c : Nat} (hr : Rep E (.sl k n row) (.slice A n c)) (h1 : l ≤ h) (h2 : h ≤ n) : Rep E (.sl k (h - l) (fun j => row (j + l))) (sliced A l h c k) := by
  unfold Rep at hr ⊢
  obtain ⟨A', c', e, h3, h4, h5⟩ := hr
  injection e with e1 e2 e3
  subst e1; subst e3
  unfold sliced
  refine ⟨_, _, rfl, by omega, by omega, fun hl => ?_⟩
  rw [if_neg (by omega)]
  obtain ⟨b, o, rfl, h6, h7⟩ := h5 (by omega)
  refine ⟨b, o + l * k, by simp [Addr.add], h6, fun j hj => ?_⟩
  obtain ⟨u, h8, h9, h10⟩ := h7 (j + l) (by omega)
  exact ⟨u, h8, h9, by rwa [show o + l * k + j * k = o + (j + l) * k from by rw [Nat.add_mul]; omega]⟩
theorem elem_of {e : TypeId} (h : P.underlying T = some (.slice e)) : P.elem T = e := by simp [Program.elem, h]
theorem part_exec {e : TypeId} {k by_ n c : Nat} {zs : List Value} {A : Option Addr} {a : Act} {w : World} {lo hi : Option Operand} {l h : Nat} (ho : o.op = .slice T p lo hi none) (hT : eB P T = some e) (hi_ : infoB P e = some (k, by_, zs)) (hp : a.eval p = .slice A n c) (hc : n ≤ c)
    (hl : (lo = none ∧ l = 0) ∨ ∃ r kk, lo = some r ∧ a.eval r = .int kk (l : Int)) (hh : (hi = none ∧ h = n) ∨ ∃ r kk, hi = some r ∧ a.eval r = .int kk (h : Int)) (h1 : l ≤ h) (h2 : h ≤ n) : (execOp a.eval o).run P w = .ok (.value (sliced A l h c k)) w := by
  obtain ⟨i, z, i1, i2, i3, i4, i5⟩ := infoB_some hi_
  have hu := eB_some hT
  have hu' : P.underlying T = some (.slice (P.elem T)) := by rw [elem_of hu]; exact hu
  have hsz : (sizeOf (P.elem T)).run P w = .ok k w := by rw [elem_of hu]; simp [sizeOf, typeInfo, i1, i3, Sem.run_bind]
  unfold execOp
  simp only [ho, Sem.run_bind, hp, Option.map]
  rw [run_sliceAt_slice w T _ _ _ _ hu']
  rcases hl with ⟨rfl, e1⟩ | ⟨r, kk, rfl, hl⟩ <;> rcases hh with ⟨rfl, e2⟩ | ⟨r', kk', rfl, hh⟩
  · rw [e1, e2, run_slice_all w T A n c hu']
    simp only [hsz, Result.andThen_ok, Sem.run_pure]
  · rw [e1]
    simp only [hh]
    rw [run_slice_h w T A n c hu' kk' (h : Int) (by omega) (by omega)]
    simp only [hsz, Result.andThen_ok, Sem.run_pure, Int.toNat_natCast]
  · rw [e2]
    simp only [hl]
    rw [run_slice_l w T A n c hu' kk (l : Int) (by omega) (by omega)]
    simp only [hsz, Result.andThen_ok, Sem.run_pure, Int.toNat_natCast]
  · simp only [hl, hh]
    rw [run_slice_lh w T A n c hu' kk kk' (l : Int) (h : Int) (by omega) (by omega) (by omega)]
    simp only [hsz, Result.andThen_ok, Sem.run_pure, Int.toNat_natCast]
theorem sl_form {E : Env} {k n : Nat} {row : Nat → Av} {v : Value} (h : Rep E (.sl k n row) v) : ∃ A c, v = .slice A n c ∧ n ≤ c ∧ c ≤ maxLen := by
  unfold Rep at h
  obtain ⟨A, c, h1, h2, h3, _⟩ := h
  exact ⟨A, c, h1, h2, h3⟩
theorem oc_slice_l {e : TypeId} {k by_ n : Nat} {zs : List Value} {row : Nat → Av} {kk : IntKind} (l : Nat) (ho : o.op = .slice T p (some q) none none) (hp : ρ p = .sl k n row) (hq : ρ q = .val (.int kk (l : Int))) (hT : eB P T = some e) (hi : infoB P e = some (k, by_, zs)) (hl : l ≤ n) : OC P o ρ [] (.sl k (n - l) (fun j => row (j + l))) [] := oc_read fun E a hG hr _ => by
  have h1 := hr p (by simp [ho, Op.operands])
  have h2 := hr q (by simp [ho, Op.operands])
  rw [hp] at h1
  rw [hq] at h2
  unfold Rep at h2
  obtain ⟨A, c, h3, h4, _⟩ := sl_form h1
  rw [h3] at h1
  exact ⟨_, part_exec ho hT hi h3 h4 (.inr ⟨q, kk, rfl, h2⟩) (.inl ⟨rfl, rfl⟩) hl (Nat.le_refl _), rep_part h1 hl (Nat.le_refl _)⟩
theorem oc_slice_h {e : TypeId} {k by_ n : Nat} {zs : List Value} {row : Nat → Av} {kk : IntKind} (h : Nat) (ho : o.op = .slice T p none (some q) none) (hp : ρ p = .sl k n row) (hq : ρ q = .val (.int kk (h : Int))) (hT : eB P T = some e) (hi : infoB P e = some (k, by_, zs)) (hl : h ≤ n) : OC P o ρ [] (.sl k h row) [] := oc_read fun E a hG hr _ => by
  have h1 := hr p (by simp [ho, Op.operands])
  have h2 := hr q (by simp [ho, Op.operands])
  rw [hp] at h1
  rw [hq] at h2
  unfold Rep at h2
  obtain ⟨A, c, h3, h4, _⟩ := sl_form h1
  rw [h3] at h1
  have := rep_part (l := 0) h1 (Nat.zero_le _) hl
  exact ⟨_, part_exec ho hT hi h3 h4 (.inl ⟨rfl, rfl⟩) (.inr ⟨q, kk, rfl, h2⟩) (Nat.zero_le _) hl, by simpa using this⟩
/-- A part of a named row, from one place on. -/
theorem oc_slice_own {e t : TypeId} {by_ n len : Nat} {zs : List Value} {kk : IntKind} {cs : List Av} (l : Nat) (ho : o.op = .slice T p (some q) none none) (hp : ρ p = .osl 1 n len) (hq : ρ q = .val (.int kk (l : Int))) (hT : eB P T = some e) (hi : infoB P e = some (1, by_, zs)) (hl : l ≤ len) : OC P o ρ [(n, .live t cs)] (.oss n l (len - l)) [] := oc_read fun E a hG hr hH => by
  have h1 := hr p (by simp [ho, Op.operands])
  have h2 := hr q (by simp [ho, Op.operands])
  rw [hp] at h1
  rw [hq] at h2
  unfold Rep at h1 h2
  have hform : ∃ A c, a.eval p = .slice A len c ∧ len ≤ c ∧ c ≤ maxLen ∧ ∀ b, E.loc n = .at b → A = some ⟨b, 0, none⟩ ∧ ∃ cur t, E.w.heap[b]? = some (.cells cur t (0, 0)) ∧ cur.size = c := by
    rcases hH n (.live t cs) (by simp) with ⟨h3, _⟩ | ⟨b, cur, h3, _⟩
    · obtain ⟨h4, rfl⟩ := h1.1.2.2 h3
      exact ⟨none, 0, h4, Nat.le_refl _, Nat.zero_le _, fun b hb => by rw [h3] at hb; cases hb⟩
    · obtain ⟨c, cur, t, h4, h5, h6, h7, h8⟩ := h1.2 b h3
      exact ⟨_, c, h4, h5, h6, fun b' hb => by rw [h3] at hb; injection hb with hb; subst hb; exact ⟨rfl, cur, t, h7, by omega⟩⟩
  obtain ⟨A, c, h3, h4, h5, h6⟩ := hform
  refine ⟨_, part_exec ho hT hi h3 h4 (.inr ⟨q, kk, rfl, h2⟩) (.inl ⟨rfl, rfl⟩) hl (Nat.le_refl _), ?_⟩
  unfold Rep sliced
  refine ⟨⟨h1.1.1, _, _, rfl⟩, fun b hb => ?_⟩
  obtain ⟨rfl, cur, t, h7, h8⟩ := h6 b hb
  refine ⟨_, _, cur, t, rfl, by omega, by omega, fun hl => ?_, h7, by omega⟩
  rw [if_neg (by omega)]
  simp [Addr.add]
  try omega
/-! ### The least and the greatest -/
theorem oc_min {i j : Int} (ho : o.op = .call { callee := .builtin .min, args := #[p, q], argTypes := #[T, T'] }) (hp : ρ p = .val (.int .i64 i)) (hq : ρ q = .val (.int .i64 j)) : OC P o ρ [] (.val (.int .i64 (min i j))) [] := oc_read fun E a hG hr _ => by
  have h1 := hr p (by simp [ho, Op.operands, Call.operands])
  have h2 := hr q (by simp [ho, Op.operands, Call.operands])
  rw [hp] at h1
  rw [hq] at h2
  unfold Rep at h1 h2
  refine ⟨.int .i64 (min i j), ?_, by unfold Rep; rfl⟩
  have : (if j < i then j else i) = min i j := by split <;> omega
  simp [execOp, ho, resolve, invoke, builtin, Builtin.min_, Builtin.min2, h1, h2, Sem.run_bind, Sem.run_pure, this]
theorem oc_max {i j : Int} (ho : o.op = .call { callee := .builtin .max, args := #[p, q], argTypes := #[T, T'] }) (hp : ρ p = .val (.int .i64 i)) (hq : ρ q = .val (.int .i64 j)) : OC P o ρ [] (.val (.int .i64 (max i j))) [] := oc_read fun E a hG hr _ => by
  have h1 := hr p (by simp [ho, Op.operands, Call.operands])
  have h2 := hr q (by simp [ho, Op.operands, Call.operands])
  rw [hp] at h1
  rw [hq] at h2
  unfold Rep at h1 h2
  refine ⟨.int .i64 (max i j), ?_, by unfold Rep; rfl⟩
  have : (if j > i then j else i) = max i j := by split <;> omega
  simp [execOp, ho, resolve, invoke, builtin, Builtin.max_, Builtin.max2, h1, h2, Sem.run_bind, Sem.run_pure, this]
/-! ### Bytes -/
def bv (xs : List Int) (j : Nat) : Av := .val (.int .u8 (xs.getD j 0))
def bs (xs : List Int) : Av := .sl 1 xs.length (bv xs)
theorem bs_pure (xs : List Int) : Pure (bs xs) := by unfold bs Pure; intro j; unfold bv Pure; trivial
theorem rd_of_bs {E : Env} {xs : List Int} {v : Value} (h : Rep E (bs xs) v) : ∃ A c, v = .slice A xs.length c ∧ xs.length ≤ c ∧ c ≤ maxLen ∧ Rd E.w E.w.heap.size A (cb .u8 xs) := by
  unfold bs Rep at h
  obtain ⟨A, c, h1, h2, h3, h4⟩ := h
  refine ⟨A, c, h1, h2, h3, fun hl => ?_⟩
  rw [cb_length] at hl
  obtain ⟨b, o, h5, h6, h7⟩ := h4 hl
  refine ⟨b, o, h5, h6.1, fun j u hu => ?_⟩
  have hj : j < xs.length := by have := (List.getElem?_eq_some_iff.1 hu).1; rwa [cb_length] at this
  obtain ⟨u', h8, h9, h10⟩ := h7 j hj
  unfold bv Rep at h8
  subst h8
  have := h10 0 (.int .u8 (xs.getD j 0)) (by simp [Value.cells])
  have hu' : u = .int .u8 (xs.getD j 0) := by
    unfold cb at hu
    rw [List.getElem?_map, List.getElem?_eq_getElem hj] at hu
    simp at hu
    rw [← hu]
    simp [List.getD, hj]
  rw [hu']
  simpa using this
theorem bs_of_rd {E : Env} {xs : List Int} {A : Option Addr} {c : Nat} (h : 0 < xs.length → ∃ b o, A = some ⟨b, o, none⟩ ∧ E.ok b ∧ ∀ j u, (cb .u8 xs)[j]? = some u → E.w.cell? ⟨b, o + j, none⟩ = some u) (h1 : xs.length ≤ c) (h2 : c ≤ maxLen) : Rep E (bs xs) (.slice A xs.length c) := by
  unfold bs Rep
  refine ⟨A, c, rfl, h1, h2, fun hl => ?_⟩
  obtain ⟨b, o, h3, h4, h5⟩ := h hl
  refine ⟨b, o, h3, h4, fun j hj => ⟨.int .u8 (xs.getD j 0), by unfold bv Rep; rfl, rfl, fun i u hu => ?_⟩⟩
  have hi : i = 0 := by
    cases i with
    | zero => rfl
    | succ i => simp [Value.cells] at hu
  subst hi
  simp [Value.cells] at hu
  subst hu
  have := h5 j (.int .u8 (xs.getD j 0)) (by unfold cb; rw [List.getElem?_map, List.getElem?_eq_getElem hj]; simp [List.getD, hj])
  simpa using this
theorem bs_of_own {E : Env} (hG : Good E) {w' : World} {e : TypeId} {A : Option Addr} {n c : Nat} {zs : List Int} (ho : Own w' E.w.heap.size e (.slice A n c) (cb .u8 zs)) (hb : Below E.w.heap.size E.w w') : Rep { E with w := w' } (bs zs) (.slice A n c) := by
  obtain ⟨h1, h2, h3⟩ := ho.rd
  rw [cb_length] at h1
  subst h1
  rcases ho.2 with ⟨h4, _⟩ | ⟨g, cap, cur, h4, h5, h6, h7, h8, _⟩
  · injection h4 with h4 h5 h6
    subst h6
    exact bs_of_rd (fun hl => by omega) h2 (Nat.zero_le _)
  · injection h4 with h4 h9 h10
    subst h10
    refine bs_of_rd (fun hl => ?_) h2 h8
    obtain ⟨b, o, h11, _, h12⟩ := h3 (by rwa [cb_length])
    rw [h4] at h11
    injection h11 with h11
    injection h11 with h11 h13
    subst h11; subst h13
    exact ⟨g, 0, h4, ⟨(Array.getElem?_eq_some_iff.1 h6).1, fun hbad => by have := hG.old g hbad; omega, fun n hn => by have := (hG.lt n g hn).1; omega⟩, h12⟩
/-- A contract told by rows: two rows of bytes in, one out. -/
theorem pc_of_ret {f : FuncId} {e : TypeId} {xs ys zs : List Int} (h : ∀ A A' c c' w, Rd w w.heap.size A (cb .u8 xs) → Rd w w.heap.size A' (cb .u8 ys) → xs.length ≤ c → ys.length ≤ c' → Calls P f #[.slice A xs.length c, .slice A' ys.length c'] w (RetOwn w e (cb .u8 zs))) : PC P f [bs xs, bs ys] (bs zs) := by
  intro E vs hG hA _ _ _
  unfold RepL RepL RepL at hA
  obtain ⟨v, us, rfl, hv, v', us', rfl, hv', rfl⟩ := hA
  obtain ⟨A, c, rfl, h1, _, h2⟩ := rd_of_bs hv
  obtain ⟨A', c', rfl, h1', _, h2'⟩ := rd_of_bs hv'
  refine (h A A' c c' E.w h2 h2' h1 h1').mono ?_
  rintro en w' ⟨B, n, cc, rfl, hown, hb⟩
  exact ⟨{ E with w := w' }, _, rfl, rfl, hG.grow hb, (Step.grow hG hb).kept (by simp), bs_of_own hG hown hb, fun n y hn => by simp [lkH] at hn⟩
/-- The same with an error beside. -/
theorem pc_of_app {f : FuncId} {e : TypeId} {xs ys zs : List Int} {k : Int} (h : ∀ A A' c c' w, Rd w w.heap.size A (cb .u8 xs) → Rd w w.heap.size A' (cb .u8 ys) → xs.length ≤ c → ys.length ≤ c' → Calls P f #[.slice A xs.length c, .slice A' ys.length c'] w fun en w' => ∃ B n cc, en = .returned (.tuple #[.slice B n cc, .int .i64 k]) ∧ Own w' w.heap.size e (.slice B n cc) (cb .u8 zs) ∧ Below w.heap.size w w') : PC P f [bs xs, bs ys] (.tup [bs zs, .val (.int .i64 k)]) := by
  intro E vs hG hA _ _ _
  unfold RepL RepL RepL at hA
  obtain ⟨v, us, rfl, hv, v', us', rfl, hv', rfl⟩ := hA
  obtain ⟨A, c, rfl, h1, _, h2⟩ := rd_of_bs hv
  obtain ⟨A', c', rfl, h1', _, h2'⟩ := rd_of_bs hv'
  refine (h A A' c c' E.w h2 h2' h1 h1').mono ?_
  rintro en w' ⟨B, n, cc, rfl, hown, hb⟩
  refine ⟨{ E with w := w' }, _, rfl, rfl, hG.grow hb, (Step.grow hG hb).kept (by simp), ?_, fun n y hn => by simp [lkH] at hn⟩
  unfold Rep
  refine ⟨[_, _], rfl, ?_⟩
  unfold RepL RepL RepL
  exact ⟨_, _, rfl, bs_of_own hG hown hb, _, _, rfl, by unfold Rep; rfl, rfl⟩
/-- string(b). -/
def cvB (P : Program) (T T' : TypeId) : Bool := match P.underlying T with | some (.slice e) => (match P.underlying e with | some (.int .u8) => isStrB P T' | _ => false) | _ => false
theorem cvB_some (h : cvB P T T' = true) : ∃ e, P.underlying T = some (.slice e) ∧ P.underlying e = some (.int .u8) ∧ P.underlying T' = some .string := by
  unfold cvB at h
  split at h
  · rename_i e he
    split at h
    · rename_i hu
      unfold isStrB at h
      split at h
      · exact ⟨e, he, hu, by assumption⟩
      · cases h
    · cases h
  · cases h
theorem oc_str (xs : List Int) (ho : o.op = .convert T T' p) (hp : ρ p = bs xs) (hT : cvB P T T' = true) : OC P o ρ [] (.val (.string (strOfNums xs))) [] := oc_read fun E a hG hr _ => by
  have h1 := hr p (by simp [ho, Op.operands])
  rw [hp] at h1
  obtain ⟨A, c, h2, h3, _, h4⟩ := rd_of_bs h1
  obtain ⟨e, t1, t2, t3⟩ := cvB_some hT
  refine ⟨.string (strOfNums xs), ?_, by unfold Rep; rfl⟩
  unfold execOp
  simp only [ho, h2, Sem.run_bind, conv_str t1 t2 t3 h4 rfl, Result.andThen_ok, Sem.run_pure]
/-! ### copy -/
theorem run_cpy' (w : World) {dT sT ty e : TypeId} (hu : P.underlying dT = some (.slice e)) (hsz : (P.info? e).map (·.size) = some 1) {dp sp : Option Addr} {dl dc sl sc : Nat} {g off : Nat} {cur cs : List Value} {t : TypeId}
    (hg : w.heap[g]? = some (.cells cur.toArray t (0, 0))) {B : Nat} (hr : Rd w B sp cs) (hn : cs.length = Nat.min sl dl) (hd : 0 < cs.length → dp = some ⟨g, off, none⟩) (hfit : off + cs.length ≤ cur.length) (h1 : ∀ v ∈ cs, v.oneCell' = true) :
    ∃ w', (Builtin.copy_ #[dT, sT] ty #[.slice dp dl dc, .slice sp sl sc]).run P w = .ok (.int .i64 cs.length) w' ∧ w'.heap[g]? = some (.cells (splice cur off cs).toArray t (0, 0)) ∧ w'.os = w.os ∧ w'.tape = w.tape ∧ w'.output = w.output ∧ w'.heap.size = w.heap.size ∧ ∀ k, k ≠ g → w'.heap[k]? = w.heap[k]? := by
  by_cases h0 : cs.length = 0
  · have hc : cs = [] := List.eq_nil_of_length_eq_zero h0
    subst hc
    have hrun := run_copy_none (P := P) w dT sT ty e dp sp dl dc sl sc hu hsz (by simpa using hn.symm)
    exact ⟨w, hrun, by rw [splice_nil]; exact hg, rfl, rfl, rfl, rfl, fun _ _ => rfl⟩
  · obtain ⟨b, o, rfl, _, hc⟩ := hr (by omega)
    have hdp := hd (by omega)
    subst hdp
    have hrun := run_copy_row (P := P) w dT sT ty e g off dl dc ⟨b, o, none⟩ sl sc cur.toArray t cs hu hsz hg hn (fun j v hj => by rw [Addr.add_lit]; exact hc j v hj) (by simpa using hfit) h1
    refine ⟨_, hrun, ?_, rfl, rfl, rfl, by simp [World.setRow], fun k hne => setRow_other w g k _ hne⟩
    have := setRow_heap w g cur.toArray (cur.toArray.toList.take off ++ cs ++ cur.toArray.toList.drop (off + cs.length)).toArray t (0, 0) hg
    simpa [splice] using this
/-- copy onto a named row, or a part of one. -/
theorem oc_copy {e t : TypeId} {by_ n off len m : Nat} {zs : List Value} {row : Nat → Av} {cs : List Av} {d : Av} (ho : o.op = .call { callee := .builtin .copy, args := #[p, q], argTypes := #[T, T'] }) (hp : ρ p = d) (hd : (d = .osl 1 n len ∧ off = 0) ∨ d = .oss n off len) (hq : ρ q = .sl 1 m row) (hT : eB P T = some e) (hi : infoB P e = some (1, by_, zs))
    (hl : off + len ≤ cs.length) (hone : ∀ E j v, Rep E (row j) v → v.oneCell' = true) : OC P o ρ [(n, .live t cs)] (.val (.int .i64 ((Nat.min m len : Nat) : Int))) [(n, .live t (putAt cs off ((List.range (Nat.min m len)).map row)))] := by
  intro E a hG hr hH
  have h1 := hr p (by simp [ho, Op.operands, Call.operands])
  have h2 := hr q (by simp [ho, Op.operands, Call.operands])
  rw [hp] at h1
  rw [hq] at h2
  have hn := hH n (.live t cs) (by simp)
  obtain ⟨i, z, i1, i2, i3, i4, i5⟩ := infoB_some hi
  have hun : E.loc n ≠ .unborn := by
    rcases hd with ⟨rfl, _⟩ | rfl
    · unfold Rep at h1; exact h1.1.1
    · unfold Rep at h1; exact h1.1.1
  have hform : ∃ A c, a.eval p = .slice A len c ∧ ∀ b, E.loc n = .at b → 0 < len → A = some ⟨b, off, none⟩ := by
    rcases hd with ⟨rfl, rfl⟩ | rfl
    · unfold Rep at h1
      rcases hn with ⟨h3, _⟩ | ⟨b, cur, h3, _⟩
      · obtain ⟨h4, rfl⟩ := h1.1.2.2 h3
        exact ⟨none, 0, h4, fun b hb => by rw [h3] at hb; cases hb⟩
      · obtain ⟨c, cur, t, h4, h5, h6, h7, h8⟩ := h1.2 b h3
        exact ⟨_, c, h4, fun b' hb _ => by rw [h3] at hb; injection hb with hb; subst hb; rfl⟩
    · unfold Rep at h1
      rcases hn with ⟨h3, _⟩ | ⟨b, cur, h3, _⟩
      · obtain ⟨A, c, h4⟩ := h1.1.2
        exact ⟨A, c, h4, fun b hb => by rw [h3] at hb; cases hb⟩
      · obtain ⟨A, c, cur, t, h4, h5, h6, h7, _⟩ := h1.2 b h3
        exact ⟨A, c, h4, fun b' hb hl => by rw [h3] at hb; injection hb with hb; subst hb; exact h7 hl⟩
  obtain ⟨A, c, h3, hA⟩ := hform
  have h2' := h2
  unfold Rep at h2'
  obtain ⟨A', c', h4, h5, h6, h7⟩ := h2'
  -- the elements
  obtain ⟨vs, v1, v2, v3⟩ : ∃ vs : List Value, vs.length = Nat.min m len ∧ (∀ j u, vs[j]? = some u → Rep E (row j) u ∧ u.oneCell' = true) ∧ Rd E.w E.w.heap.size A' vs := by
    by_cases hm : m = 0
    · subst hm
      exact ⟨[], by simp [Nat.min_def], by simp, Rd.nil _ _ _⟩
    · obtain ⟨b, off', hA', hok, hel⟩ := h7 (by omega)
      have cell : ∀ j, j < m → ∃ u, Rep E (row j) u ∧ u.oneCell' = true ∧ E.w.cell? ⟨b, off' + j, none⟩ = some u := fun j hj => by
        obtain ⟨u, h8, h9, h10⟩ := hel j hj
        have h11 := hone E j u h8
        refine ⟨u, h8, h11, ?_⟩
        have := h10 0 u (by rw [cells_one h11]; rfl)
        simpa using this
      have build : ∀ k, k ≤ m → ∃ vs : List Value, vs.length = k ∧ ∀ j u, vs[j]? = some u → Rep E (row j) u ∧ u.oneCell' = true ∧ E.w.cell? ⟨b, off' + j, none⟩ = some u := by
        intro k
        induction k with
        | zero => exact fun _ => ⟨[], rfl, by simp⟩
        | succ k ih =>
          intro hk
          obtain ⟨vs, k1, k2⟩ := ih (by omega)
          obtain ⟨u, k3⟩ := cell k (by omega)
          refine ⟨vs ++ [u], by simp [k1], fun j w hw => ?_⟩
          rw [List.getElem?_append] at hw
          split at hw
          · exact k2 j w hw
          · rename_i hj
            have : j = k := by
              have := (List.getElem?_eq_some_iff.1 hw).1
              simp at this
              omega
            subst this
            simp [k1] at hw
            subst hw
            exact k3
      obtain ⟨vs, k1, k2⟩ := build (Nat.min m len) (Nat.min_le_left _ _)
      exact ⟨vs, k1, fun j u hu => ⟨(k2 j u hu).1, (k2 j u hu).2.1⟩, fun _ => ⟨b, off', hA', hok.1, fun j u hu => (k2 j u hu).2.2⟩⟩
  have hone' : ∀ v ∈ vs, v.oneCell' = true := fun v hv => by
    obtain ⟨j, hj⟩ := List.getElem?_of_mem hv
    exact (v2 j v hj).2
  have hnmin : Nat.min m len ≤ len := Nat.min_le_right _ _
  rcases hn with ⟨g1, rfl⟩ | ⟨b, cur, g1, g2, g3⟩
  · -- nil
    simp at hl
    have hv : vs = [] := List.eq_nil_of_length_eq_zero (by omega)
    subst hv
    have hrun := run_copy_none (P := P) E.w T T' o.type e A A' len c m c' (eB_some hT) (by rw [i1]; simp [i3]) (by simpa using v1.symm)
    unfold grows execOp
    simp only [ho, resolve, invoke, builtin, Sem.run_bind, Sem.run_pure, Result.andThen_ok, List.map_toArray, List.map_cons, List.map_nil, h3, h4, hrun, growUpon]
    have hm0 : Nat.min m len = 0 := by simpa using v1.symm
    rw [hm0]
    refine ⟨E, rfl, (Step.refl E).more (by simp), hG, by unfold Rep; rfl, fun k y hk => ?_⟩
    simp only [lkH] at hk
    cases hb : Nat.beq n k with
    | false => rw [hb] at hk; simp at hk
    | true =>
      rw [hb] at hk
      simp at hk
      obtain rfl := Nat.eq_of_beq_eq_true hb
      subst hk
      exact .inl ⟨g1, by simp [putAt]⟩
  · have hcsz : ∀ i, i < cs.length → i < cur.size := fun i hi => by
      obtain ⟨u, h8, _⟩ := g3 i cs[i] (List.getElem?_eq_getElem hi)
      exact (Array.getElem?_eq_some_iff.1 h8).1
    have hfit : off + vs.length ≤ cur.toList.length := by
      rw [v1]
      simp
      by_cases h0 : off + Nat.min m len = 0
      · omega
      · have := hcsz (off + Nat.min m len - 1) (by omega)
        omega
    obtain ⟨w', r1, r2, r3, r4, r5, r6, r7⟩ := run_cpy' (P := P) E.w (sT := T') (ty := o.type) (dc := c) (sc := c') (eB_some hT) (by rw [i1]; simp [i3]) (cur := cur.toList) (by simpa using g2) v3 v1 (fun hl => hA b g1 (by omega)) hfit hone'
    unfold grows execOp
    simp only [ho, resolve, invoke, builtin, Sem.run_bind, Sem.run_pure, Result.andThen_ok, List.map_toArray, List.map_cons, List.map_nil, h3, h4, r1, growUpon]
    have hsz : (splice cur.toList off vs).toArray.size = cur.size := by
      simp only [splice, List.size_toArray, List.length_append, List.length_take, List.length_drop, Array.length_toList]
      simp at hfit
      omega
    obtain ⟨hS, hG'⟩ := Step.set hG g1 g2 r3 r4 r5 r6 r7 r2 hsz
    refine ⟨_, rfl, hS, hG', by unfold Rep; rw [v1], fun k y hk => ?_⟩
    simp only [lkH] at hk
    cases hb : Nat.beq n k with
    | false => rw [hb] at hk; simp at hk
    | true =>
      rw [hb] at hk
      simp at hk
      obtain rfl := Nat.eq_of_beq_eq_true hb
      subst hk
      refine .inr ⟨b, _, g1, r2, fun i y hy => ?_⟩
      have hlen1 : ((List.range (Nat.min m len)).map row).length = vs.length := by simp [v1]
      unfold putAt at hy
      simp only [hlen1] at hy
      have hcurl : off ≤ cur.toList.length := by omega
      have hcsl : off ≤ cs.length := by omega
      simp only [List.getElem?_toArray, splice]
      by_cases c1 : i < off
      · rw [List.append_assoc, List.getElem?_append_left (by simp; omega), List.getElem?_take_of_lt c1] at hy
        obtain ⟨u, k1, k2, k3⟩ := g3 i y hy
        refine ⟨u, ?_, k2, Rep.step hS _ _ k3⟩
        rw [List.getElem?_append_left (by simp at hcurl ⊢; omega), List.getElem?_take_of_lt c1]
        simpa using k1
      · by_cases c2 : i < off + vs.length
        · rw [List.append_assoc, List.getElem?_append_right (by simp; omega), List.getElem?_append_left (by simp; omega)] at hy
          have hto : (cs.take off).length = off := by simp; omega
          rw [hto, List.getElem?_map, List.getElem?_range (by omega)] at hy
          simp at hy
          subst hy
          have hiv : i - off < vs.length := by omega
          obtain ⟨k1, k2⟩ := v2 (i - off) vs[i - off] (List.getElem?_eq_getElem hiv)
          refine ⟨vs[i - off], ?_, k2, Rep.step hS _ _ k1⟩
          rw [List.getElem?_append_right (by simp; omega), List.getElem?_append_left (by simp at hcurl ⊢; omega)]
          have hto' : (cur.toList.take off).length = off := by simp at hcurl ⊢; omega
          rw [hto', List.getElem?_eq_getElem hiv]
        · rw [List.getElem?_append_right (by simp; omega), List.getElem?_drop] at hy
          have hto : (cs.take off ++ (List.range (Nat.min m len)).map row).length = off + vs.length := by simp [v1]; omega
          rw [hto, show off + vs.length + (i - (off + vs.length)) = i from by omega] at hy
          obtain ⟨u, k1, k2, k3⟩ := g3 i y hy
          refine ⟨u, ?_, k2, Rep.step hS _ _ k3⟩
          rw [← List.append_assoc, List.getElem?_append_right (by simp; omega), List.getElem?_drop]
          have hto' : (cur.toList.take off ++ vs).length = off + vs.length := by simp at hcurl ⊢; omega
          rw [hto', show off + vs.length + (i - (off + vs.length)) = i from by omega]
          simpa using k1
end
end Go.Proofs.YtpbaiighifhfnaaDoor
namespace Go.Proofs.YtpbaiighifhfnaaDoor
open Go.RowKit
set_option linter.unusedVariables false
set_option linter.unusedSimpArgs false
def readR (rv : ResultVar) (tm : Array Value) : Sem Value := match rv with | .tmp t => pure (tm.getD t undef) | .cell a t => do loadVar t (← asAddr (tm.getD a undef))
/-- One of a function's results. -/
def ResC (P : Program) (Γ : Ctx) (rv : ResultVar) (x : Av) : Prop := ∀ (E : Env) (a : Act), Good E → Holds E a.tmps Γ → ∃ v, (readR rv a.tmps).run P E.w = .ok v E.w ∧ Rep E x v
section
variable {P : Program} {fn : Func} {Γ : Ctx} {x y z : Av} {r1 r2 r3 : ResultVar}
theorem ResC.tmp {t : Nat} (hx : lkS Γ.s t = x) : ResC P Γ (.tmp t) x := fun E a hG hH => by
  subst hx
  exact ⟨_, by simp [readR], hH.1 t⟩
theorem ResC.to (h : ResC P Γ r1 x) (hxy : ∀ E v, Rep E x v → Rep E y v) : ResC P Γ r1 y := fun E a hG hH => by
  obtain ⟨v, h1, h2⟩ := h E a hG hH
  exact ⟨v, h1, hxy E v h2⟩
/-- A struct in a named block. -/
theorem ResC.row {t n : Nat} {T ty : TypeId} {cs : List Av} (hs : lkS Γ.s t = .own n 0) (hn : lkH Γ.h n = some (.live ty cs)) (hT : rowB P T = some true) (hz : sizeB P T = some cs.length) (h0 : 0 < cs.length) : ResC P Γ (.cell t T) (.agg cs) := fun E a hG hH => by
  have hv := hH.1 t
  rw [hs] at hv
  obtain ⟨b, cur, h1, h2, h3, h4⟩ := own_at hv (hH.2 n _ hn) h0
  obtain ⟨vs, h5, h6, h7⟩ := cells_list (E := E) (cur := cur) cs 0 fun i y hy => by simpa using h4 i y hy
  refine ⟨.agg vs.toArray, ?_, by unfold Rep; exact ⟨vs, rfl, h5, h6⟩⟩
  obtain ⟨d, hd1, hd2⟩ := rowB_some hT
  have hl := run_loadVar_mid (P := P) E.w b 0 T vs d (fun j u hu => by rw [cell_cur h3]; exact h7 j u hu) hd1 hd2 (by rw [h5.length]; exact hz)
  simp [readR, asAddr, Sem.run_bind, hl, h1]
/-- A scalar in a named block. -/
theorem ResC.one {t n : Nat} {T ty : TypeId} {cs : List Av} (hs : lkS Γ.s t = .own n 0) (hn : lkH Γ.h n = some (.live ty (x :: cs))) (hT : rowB P T = some false) : ResC P Γ (.cell t T) x := fun E a hG hH => by
  have hv := hH.1 t
  rw [hs] at hv
  obtain ⟨b, cur, h1, h2, h3, h4⟩ := own_at hv (hH.2 n _ hn) (by simp)
  obtain ⟨u, h5, h6, h7⟩ := h4 0 x rfl
  refine ⟨u, ?_, h7⟩
  have hc : E.w.cell? ⟨b, 0, none⟩ = some u := by rw [cell_cur h3, h5]
  simp [readR, asAddr, Sem.run_bind, h1, loadVar, isAgg_run hT, hc]
theorem getD_eta (tm : Array Value) (t : Nat) : tm[t]?.getD undef = tm.getD t undef := by rw [Array.getD_eq_getD_getElem?]
theorem readR_run (rv : ResultVar) (tm : Array Value) (w : World) : (match rv with | .tmp t => (pure (tm.getD t undef) : Sem Value) | .cell a t => do loadVar t (← asAddr (tm.getD a undef))).run P w = (readR rv tm).run P w := rfl
theorem ResOk.two (h : fn.results = #[r1, r2]) (h1 : ResC P Γ r1 x) (h2 : ResC P Γ r2 y) : ResOk P fn Γ (.tup [x, y]) := fun E a hG hH => by
  obtain ⟨v1, k1, l1⟩ := h1 E a hG hH
  obtain ⟨v2, k2, l2⟩ := h2 E a hG hH
  refine ⟨.tuple #[v1, v2], ?_, by unfold Rep; refine ⟨[v1, v2], rfl, ?_⟩; unfold RepL RepL RepL; exact ⟨_, _, rfl, l1, _, _, rfl, l2, rfl⟩⟩
  have e : fn.results.mapM (fun rv => readR rv a.tmps) = (do let x ← readR r1 a.tmps; let y ← readR r2 a.tmps; pure #[x, y]) := by rw [h]; simp
  unfold results
  show (do let vs ← fn.results.mapM (fun rv => readR rv a.tmps); pure (if h : vs.size = 1 then vs[0] else .tuple vs) : Sem Value).run P E.w = _
  rw [e]
  simp [Sem.run_bind, k1, k2]
theorem ResOk.three (h : fn.results = #[r1, r2, r3]) (h1 : ResC P Γ r1 x) (h2 : ResC P Γ r2 y) (h3 : ResC P Γ r3 z) : ResOk P fn Γ (.tup [x, y, z]) := fun E a hG hH => by
  obtain ⟨v1, k1, l1⟩ := h1 E a hG hH
  obtain ⟨v2, k2, l2⟩ := h2 E a hG hH
  obtain ⟨v3, k3, l3⟩ := h3 E a hG hH
  refine ⟨.tuple #[v1, v2, v3], ?_, by unfold Rep; refine ⟨[v1, v2, v3], rfl, ?_⟩; unfold RepL RepL RepL RepL; exact ⟨_, _, rfl, l1, _, _, rfl, l2, _, _, rfl, l3, rfl⟩⟩
  have e : fn.results.mapM (fun rv => readR rv a.tmps) = (do let x ← readR r1 a.tmps; let y ← readR r2 a.tmps; let z ← readR r3 a.tmps; pure #[x, y, z]) := by rw [h]; simp
  unfold results
  show (do let vs ← fn.results.mapM (fun rv => readR rv a.tmps); pure (if h : vs.size = 1 then vs[0] else .tuple vs) : Sem Value).run P E.w = _
  rw [e]
  simp [Sem.run_bind, k1, k2, k3]
end
section
variable {ro : Option Nat} {P : Program} {N : Nat} {D : List Nat} {c x y : Code} {Q R : Exit → Ctx → Prop} {Γ τ : Ctx}
theorem aw_mono (h : AWo ro P N D c Q Γ) (hm : ∀ e Γ, Q e Γ → R e Γ) : AWo ro P N D c R Γ := fun E a hF => wpIn_mono (h E a hF) fun e a' w' ⟨E', Γ', h1, h2, h3, h5, h4⟩ => ⟨E', Γ', h1, h2, h3, h5, hm _ _ h4⟩
theorem aw_joinQ (h1 : AWo ro P N D x (thenA (fun Γ' => Le N D Γ' τ) Q) Γ) (h2 : AWo ro P N D y Q τ) : AWo ro P N D x (thenA (AWo ro P N D y Q) Q) Γ := aw_mono h1 fun e Γ' h => by
  cases e
  case normal => exact aw_le h h2
  all_goals exact h
end
theorem PC.to {P : Program} {f : Nat} {xs : List Av} {y z : Av} (h : PC P f xs y) (hyz : ∀ E v, Rep E y v → Rep E z v) : PC P f xs z := fun E vs hG hA hR hB hU => (h E vs hG hA hR hB hU).mono fun e w' ⟨E', v, h1, h2, h3, h4, h5, h6⟩ => ⟨E', v, h1, h2, h3, h4, hyz E' v h5, h6⟩
theorem rep_aggTo {E : Env} : ∀ {xs ys : List Av} {vs : List Value}, (∀ (i : Nat) (x y : Av), xs[i]? = some x → ys[i]? = some y → ∀ v, Rep E x v → Rep E y v) → xs.length = ys.length → RepL E xs vs → RepL E ys vs
  | [], [], vs, _, _, h => by unfold RepL at h ⊢; exact h
  | [], _ :: _, _, _, hl, _ => by simp at hl
  | _ :: _, [], _, _, hl, _ => by simp at hl
  | x :: xs, y :: ys, vs, hp, hl, h => by
    unfold RepL at h ⊢
    obtain ⟨v, us, h1, h2, h3⟩ := h
    exact ⟨v, us, h1, hp 0 x y rfl rfl v h2, rep_aggTo (fun i a b ha hb => hp (i + 1) a b (by simpa using ha) (by simpa using hb)) (by simpa using hl) h3⟩
theorem rep_agg {xs ys : List Av} {E : Env} {v : Value} (h : Rep E (.agg xs) v) (hl : xs.length = ys.length) (hp : ∀ (E : Env) (i : Nat) (x y : Av), xs[i]? = some x → ys[i]? = some y → ∀ v, Rep E x v → Rep E y v) : Rep E (.agg ys) v := by
  unfold Rep at h ⊢
  obtain ⟨vs, h1, h2, h3⟩ := h
  exact ⟨vs, h1, rep_aggTo (hp E) hl h2, h3⟩
theorem rep_rows {k n : Nat} {r r' : Nat → Av} (hp : ∀ E j, j < n → ∀ v, Rep E (r j) v → Rep E (r' j) v) (E : Env) (v : Value) (h : Rep E (.sl k n r) v) : Rep E (.sl k n r') v := by
  unfold Rep at h ⊢
  obtain ⟨A, c, h1, h2, h3, h4⟩ := h
  refine ⟨A, c, h1, h2, h3, fun h0 => ?_⟩
  obtain ⟨b, o, h5, h6, h7⟩ := h4 h0
  refine ⟨b, o, h5, h6, fun j hj => ?_⟩
  obtain ⟨u, h8, h9⟩ := h7 j hj
  exact ⟨u, hp E j hj u h8, h9⟩
theorem rep_nil0 {k : Nat} {row : Nat → Av} (E : Env) (v : Value) (h : Rep E (.val (.slice none 0 0)) v) : Rep E (.sl k 0 row) v := rep_nil (by decide) E v h
theorem vi_at {l : List Int} {i : Nat} (h : i < l.length) : (l.map vi)[i]? = some (vi (l.getD i 0)) := by simp [h]
theorem vi_put (l : List Int) (i : Nat) (x : Int) : (l.map vi).set i (vi x) = (l.set i x).map vi := by rw [List.map_set]
theorem row_vi (l : List Int) : ∀ j, j < l.length → (l.map vi)[j]? = some ((fun j => vi (l.getD j 0)) j) ∧ oneA ((fun j => vi (l.getD j 0)) j) = true := fun j hj => ⟨vi_at hj, rfl⟩
theorem app_vi (l : List Int) : ∀ j, j < l.length → szB ((fun j => vi (l.getD j 0)) j) 1 = true ∧ ∀ i y, i < 1 → (l.map vi)[j * 1 + i]? = some y → (flatA ((fun j => vi (l.getD j 0)) j))[i]? = some y := row_one (fun j y hy => by
  rw [List.getElem?_map] at hy
  cases h : l[j]? with
  | none => rw [h] at hy; cases hy
  | some z => rw [h] at hy; simp at hy; subst hy; simp [List.getD, h]) (fun j hj => ⟨rfl, rfl⟩)
theorem PC.arg {P : Program} {f : Nat} {x y z : Av} (h : PC P f [x] z) (hxy : ∀ E v, Rep E y v → Rep E x v) : PC P f [y] z := fun E vs hG hA hR hB hU => h E vs hG (by
  unfold RepL at hA ⊢
  obtain ⟨v, us, h1, h2, h3⟩ := hA
  exact ⟨v, us, h1, hxy E v h2, h3⟩) hR hB hU
theorem take_vi {l : List Int} {k : Nat} {x : Int} (h : k < l.length) (hx : l.getD k 0 = x) : (l.take (k + 1)).length = (l.take k).length + 1 ∧ (l.take (k + 1)).map vi = (l.take k).map vi ++ [vi x] := by
  have e : l.take (k + 1) = l.take k ++ [x] := by rw [List.take_add_one, ← hx]; simp [h]
  rw [e]
  simp
theorem vb_at {l : List Bool} {i : Nat} (h : i < l.length) : (l.map vb)[i]? = some (vb (l.getD i false)) := by simp [h]
theorem vb_put (l : List Bool) (i : Nat) (x : Bool) : (l.map vb).set i (vb x) = (l.set i x).map vb := by rw [List.map_set]
/-- A struct's fields told otherwise. -/
theorem rep_agg2 {E : Env} : ∀ {xs ys : List Av} {v : Value}, (∀ vs, RepL E xs vs → RepL E ys vs) → Rep E (.agg xs) v → Rep E (.agg ys) v := fun h hr => by
  unfold Rep at hr ⊢
  obtain ⟨vs, h1, h2, h3⟩ := hr
  exact ⟨vs, h1, h vs h2, h3⟩
end Go.Proofs.YtpbaiighifhfnaaDoor
