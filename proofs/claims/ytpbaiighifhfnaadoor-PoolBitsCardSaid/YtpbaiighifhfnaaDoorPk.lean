/- Maps as abstract values: made, read, written, ranged over in any order. No program stands in this text. Parts of strings, their order; closures that are handed names. No program stands in this text. Operations whose guard is known; a pick that is known; ways that meet by a family of states. No program stands in this text. -/
import Derived.Test.YtpbaiighifhfnaaDoorOo
import Derived.Maps.RangeWalk
import Derived.Maps.OwnOps
namespace Go.Proofs.YtpbaiighifhfnaaDoor
open Go.RowKit Go.Maps
set_option linter.unusedVariables false
set_option linter.unusedSimpArgs false

def mapB (P : Program) (T : TypeId) : Option (TypeId × TypeId) := match P.underlying T with | some (.map k e) => some (k, e) | _ => none
theorem mapB_some {P : Program} {T k e : TypeId} (h : mapB P T = some (k, e)) : P.underlying T = some (.map k e) := by
  unfold mapB at h
  split at h
  · rename_i hu
    injection h with h
    injection h with h1 h2
    subst h1; subst h2
    exact hu
  · cases h
def intE (P : Program) (e : TypeId) : Option IntKind := match P.underlying e with | some (.int q) => some q | _ => none
theorem intE_some {P : Program} {e : TypeId} {q : IntKind} (h : intE P e = some q) : P.underlying e = some (.int q) := by
  unfold intE at h
  split at h
  · rename_i hu
    injection h with h
    subst h
    exact hu
  · cases h
/-- A named block that holds no cells is turned. -/
theorem Step.turn {E : Env} (hG : Good E) {n b : Nat} (hn : E.loc n = .at b) (hnc : ∀ cur t, E.w.heap[b]? ≠ some (.cells cur t (0, 0))) {w' : World} (hg : E.w.grownBy w' (some b)) : Step E { E with w := w' } [n] ∧ Good { E with w := w' } := by
  refine ⟨⟨hg.os, hg.tape, hg.output, hg.size, rfl, fun c hc hno => hg.block c hc fun e => ?_, fun m hm => ⟨rfl, fun c hc => hg.block c (hG.lt m c hc).1 fun e => ?_⟩, fun m h => h, fun m c h => .inl h, fun m h => .inl h, fun m c cur t hc hc' hcur => ?_⟩, fun c hc => Nat.lt_of_lt_of_le (hG.old c hc) hg.size, hG.inj, fun m c hc => ⟨Nat.lt_of_lt_of_le (hG.lt m c hc).1 hg.size, (hG.lt m c hc).2⟩, hG.shp.same fun c hc => ⟨⟨Nat.lt_of_lt_of_le hc.1 hg.size, hc.2.1, hc.2.2⟩, hg.block c hc.1 fun e => by injection e with e; exact hc.2.2 n (e ▸ hn)⟩⟩
  · injection e with e
    exact hno n (e ▸ hn)
  · injection e with e
    subst e
    exact hm (by simp [hG.inj m n c hc hn])
  · refine ⟨cur, ?_, rfl⟩
    have hlt := (Array.getElem?_eq_some_iff.1 hcur).1
    rw [hg.block c hlt fun e => ?_]
    · exact hcur
    · injection e with e
      subst e
      exact hnc _ _ hcur
theorem ownsMap_noCells {w : World} {P : Program} {k e : TypeId} {b n : Nat} {D : DataW Unit} (h : w.ownsMap P k (plainElem P e) b n D) : ∀ cur t, w.heap[b]? ≠ some (.cells cur t (0, 0)) := fun cur t hc => by
  obtain ⟨es, clock, h1, _⟩ := h
  rw [h1] at hc
  cases hc
theorem ranges_noCells {w : World} {P : Program} {k e : TypeId} {b r n c : Nat} {D : DataW Unit} {left : Lit → Bool} (h : w.ranges P k (plainElem P e) b r n D left c) : ∀ cur t, w.heap[r]? ≠ some (.cells cur t (0, 0)) := fun cur t hc => by
  obtain ⟨es, clock, since, seen, c0, _, _, _, _, h5, _⟩ := h
  rw [h5] at hc
  cases hc
/-- No more than what stands in it. -/
theorem ownsMap_size {w : World} {P : Program} {k e : TypeId} {b n : Nat} {D : DataW Unit} (h : w.ownsMap P k (plainElem P e) b n D) : w.ownsMap P k (plainElem P e) b (Maps.size D) D := by
  obtain ⟨es, clock, h1, F, _, rfl⟩ := h
  refine ⟨es, clock, h1, F, ?_, rfl⟩
  rw [Maps.size_eq, length_sorted]
  simp
section
variable {P : Program} {o : Oper} {ρ : Operand → Av} {p q r : Operand} {T k e : TypeId} {kk : IntKind} {D : DataW Unit}
theorem oc_makeMap (m : Nat) (ho : o.op = .makeMap T none) (hT : mapB P T = some (k, e)) : OC P o ρ [(m, .unborn)] (.mp m) [(m, .map P k e (.map []))] := by
  intro E a hG hr hH
  have hn : E.loc m = .unborn := hH m .unborn (by simp)
  unfold grows execOp
  simp only [ho, Option.map_none, Sem.run_bind, run_makeMap, Result.andThen_ok, Sem.run_pure, growUpon]
  have hb : Below E.w.heap.size E.w (E.w.alloc (.map #[] 0)) := (Below.refl _ _).alloc (Nat.le_refl _) _
  refine ⟨E.give (E.w.alloc (.map #[] 0)) m E.w.heap.size, rfl, Step.give hG hb hn (Nat.le_refl _), hG.give hb (Nat.le_refl _) (by simp), ?_, fun i y hy => ?_⟩
  · unfold Rep
    refine ⟨⟨by simp [Env.give], _, rfl⟩, fun b hb => ?_⟩
    simp [Env.give] at hb
    rw [hb]
  · simp only [lkH] at hy
    by_cases e1 : m = i
    · subst e1
      simp at hy
      subst hy
      exact ⟨E.w.heap.size, 0, by simp [Env.give], World.ownsMap_made E.w P k (plainElem P e)⟩
    · rw [beqF e1, cond_false] at hy
      cases hy
/-- m[k] = v. -/
theorem oc_mapUpdate {n : Nat} {key : Value} {kl : Lit} {c : Int} (K : Keyed P k) (ho : o.op = .mapUpdate T p q r) (hp : ρ p = .mp n) (hq : ρ q = .val key) (hr' : ρ r = .val (.int kk c)) (hT : mapB P T = some (k, e)) (he : intE P e = some kk) (hkey : keyOf P k key = some kl) (hw : (Lit.int kk c).wf = true) (hs : Maps.size D < maxLen) :
    OC P o ρ [(n, .map P k e D)] .any [(n, .map P k e (D.put kl (.lit (.int kk c))))] := by
  intro E a hG hr hH
  have h1 := hr p (by simp [ho, Op.operands])
  have h2 := hr q (by simp [ho, Op.operands])
  have h3 := hr r (by simp [ho, Op.operands])
  rw [hp] at h1
  rw [hq] at h2
  rw [hr'] at h3
  unfold Rep at h1 h2 h3
  obtain ⟨b, m, h4, h5⟩ := hH n (.map P k e D) (by simp)
  obtain ⟨w', hrun, h6, h7⟩ := (ownsMap_size h5).update K (mapB_some hT) hs hkey (plainElem_int (H := Unit) (intE_some he) hw)
  unfold grows execOp
  simp only [ho, h1.2 b h4, h2, h3, Sem.run_bind, hrun, Result.andThen_ok, Sem.run_pure, growUpon]
  obtain ⟨hS, hG'⟩ := Step.turn hG h4 (ownsMap_noCells h5) h7
  refine ⟨{ E with w := w' }, rfl, hS, hG', by unfold Rep; trivial, fun i y hy => ?_⟩
  simp only [lkH] at hy
  by_cases e1 : n = i
  · subst e1
    simp at hy
    subst hy
    exact ⟨b, _, h4, h6⟩
  · rw [beqF e1, cond_false] at hy
    cases hy
theorem zero_run {P : Program} {e : TypeId} {z : Value} (h : (P.info? e).bind (·.zero) = some z) (w : World) : (zeroValue e).run P w = .ok z w := by
  cases hi : P.info? e with
  | none => simp [hi] at h
  | some i =>
    cases hz : i.zero with
    | none => simp [hi, hz] at h
    | some y =>
      simp [hi, hz] at h
      subst h
      simp [zeroValue, typeInfo, hi, hz, Sem.run_bind]
/-- m[k]. -/
theorem oc_lookup {n : Nat} {key : Value} {kl : Lit} {c : Int} (K : Keyed P k) (ho : o.op = .lookup T p q false) (hp : ρ p = .mp n) (hq : ρ q = .val key) (hT : mapB P T = some (k, e)) (he : intE P e = some kk) (hz : (P.info? e).bind (·.zero) = some (.int kk 0)) (hkey : keyOf P k key = some kl) (hat : D.atKey kl (.lit (.int kk 0)) = .lit (.int kk c)) :
    OC P o ρ [(n, .map P k e D)] (.val (.int kk c)) [] := oc_read fun E a hG hr hH => by
  have h1 := hr p (by simp [ho, Op.operands])
  have h2 := hr q (by simp [ho, Op.operands])
  rw [hp] at h1
  rw [hq] at h2
  unfold Rep at h1 h2
  obtain ⟨b, m, h4, h5⟩ := hH n (.map P k e D) (by simp)
  obtain ⟨c', hrun, hat', _⟩ := h5.lookup_int K (mapB_some hT) (intE_some he) (zero_run hz E.w) hkey
  rw [hat] at hat'
  injection hat' with hat'
  injection hat' with _ hat'
  subst hat'
  refine ⟨.int kk c, ?_, by unfold Rep; rfl⟩
  unfold execOp
  simp only [ho, h1.2 b h4, h2, Sem.run_bind, hrun, Result.andThen_ok, Sem.run_pure]
/-- A map that is only read from here on. -/
theorem Le.freezeMap {N : Nat} {D' : List Nat} {s : List (Nat × Av)} {h : List (Nat × Hs)} (t n : Nat) (hs : lkS s t = .mp n) (hn : lkH h n = some (.map P k e D)) : Le N D' ⟨s, h⟩ ⟨(t, .fm P k e D) :: s, (n, .dead) :: h⟩ := Le.step fun E a hF => by
  have hv := hF.holds.1 t
  rw [hs] at hv
  obtain ⟨b, m, h4, h5⟩ := hF.holds.2 n _ hn
  have hn0 : E.loc n ≠ .unborn := by rw [h4]; simp
  have hS := Step.kill E n hn0
  refine ⟨E.re n .dead, [n], rfl, hS, hF.good.re (by simp), fun u => ?_, fun j y hy => ?_⟩
  · by_cases e1 : t = u
    · subst e1
      rw [lkS_eq]
      unfold Rep at hv ⊢
      exact ⟨b, m, hv.2 b h4, re_ok hF.good h4, h5⟩
    · rw [lkS_ne _ _ e1]
      exact Rep.step hS _ _ (hF.holds.1 u)
  · by_cases e1 : n = j
    · subst e1
      simp [lkH] at hy
      subst hy
      show (E.re n .dead).loc n = .dead
      simp [Env.re]
    · simp only [lkH, beqF e1, cond_false] at hy
      exact HAt.step hS (by simp [Ne.symm e1]) (hF.holds.2 j y hy)
/-- range m. -/
theorem oc_range (m : Nat) (K : Keyed P k) (ho : o.op = .range T p) (hp : ρ p = .fm P k e D) (hT : mapB P T = some (k, e)) : OC P o ρ [(m, .unborn)] (.own m 0) [(m, .iter P k e D (Maps.has D) (Maps.size D) none)] := by
  intro E a hG hr hH
  have h1 := hr p (by simp [ho, Op.operands])
  rw [hp] at h1
  unfold Rep at h1
  obtain ⟨b, n, h2, h3, h4⟩ := h1
  have hn : E.loc m = .unborn := hH m .unborn (by simp)
  obtain ⟨w', hrun, h5, h6, h7⟩ := h4.range K (mapB_some hT)
  have hb : Below E.w.heap.size E.w w' := ⟨h6.os, h6.tape, h6.output, h6.size, fun c hc => h6.block c hc (by simp)⟩
  unfold grows execOp
  simp only [ho, h2, Sem.run_bind, hrun, Result.andThen_ok, Sem.run_pure, growUpon]
  have hS := Step.give hG hb hn (Nat.le_refl _)
  refine ⟨E.give w' m E.w.heap.size, rfl, hS, hG.give hb (Nat.le_refl _) (by omega), ?_, fun i y hy => ?_⟩
  · unfold Rep
    refine ⟨⟨by simp [Env.give], _, rfl⟩, fun b hb => ?_⟩
    simp [Env.give] at hb
    rw [hb]
  · simp only [lkH] at hy
    by_cases e1 : m = i
    · subst e1
      simp at hy
      subst hy
      exact ⟨b, E.w.heap.size, n, by simp [Env.give], (hS.ok h3).1, h5, fun kv hk => by cases hk⟩
    · rw [beqF e1, cond_false] at hy
      cases hy
/-- What the loop's step handed out. -/
theorem oc_entry {n c : Nat} {left : Lit → Bool} {key v : Value} (ho : o.op = .entry p) (hp : ρ p = .own n 0) : OC P o ρ [(n, .iter P k e D left c (some (key, v)))] (.tup [.val key, .val v]) [] := oc_read fun E a hG hr hH => by
  have h1 := hr p (by simp [ho, Op.operands])
  rw [hp] at h1
  unfold Rep at h1
  obtain ⟨b, r, m, h2, h3, h4, h5⟩ := hH n _ (List.mem_singleton.2 rfl)
  have h6 : (Instr.entry (.pointer (some ⟨r, 0, none⟩))).run P E.w = .ok (.tuple #[key, v]) E.w := h5 _ rfl
  refine ⟨.tuple #[key, v], ?_, ?_⟩
  · unfold execOp
    simp only [ho, h1.2 r h2, Sem.run_bind, h6, Result.andThen_ok, Sem.run_pure]
  · unfold Rep
    refine ⟨[key, v], rfl, ?_⟩
    unfold RepL
    refine ⟨key, [v], rfl, by unfold Rep; rfl, ?_⟩
    unfold RepL
    exact ⟨v, [], rfl, by unfold Rep; rfl, by unfold RepL; rfl⟩
end
section
variable {ro : Option Nat} {P : Program} {N : Nat} {D : List Nat} {s : List (Nat × Av)} {h : List (Nat × Hs)} {Q : Exit → Ctx → Prop} {k e : TypeId} {M : DataW Unit}
/-- The step of a loop over a map: nothing is left, or some entry comes. -/
theorem aw_next {o : Oper} {l : List Oper} {id d m c : Nat} {it : Operand} {left : Lit → Bool} {last : Option (Value × Value)} (K : Keyed P k) (hg : o.guard = none) (hd : o.dst = some d) (ho : o.op = .next it false) (hds : dstLt N (o :: l) = true) (hit : evA s it = .own m 0) (hm : lkH h m = some (.iter P k e M left c last))
    (hDone : c = 0 → (∀ kl, left kl = false) → Ck true P (o :: l).toArray l ⟨(d, .tup [.val (.bool false)]) :: s, h⟩ fun Γ' _ => Q .normal Γ')
    (hMore : ∀ (key v : Value) (kl : Lit) (y : DataW Unit × List MemPlace) (c' : Nat), keyOf P k key = some kl → left kl = true → plainElem P e v = some y → (∀ zd, M.atKey kl zd = y.1) → c' < c →
      Ck true P (o :: l).toArray l ⟨(d, .tup [.val (.bool true), .val key, .val v]) :: s, (m, .iter P k e M (fun z => left z && !z.sameKey kl) c' (some (key, v))) :: h⟩ fun Γ' _ => Q .normal Γ') :
    AWo ro P N D (.region id (o :: l).toArray false) Q ⟨s, h⟩ := fun E a hF => by
  refine wpIn_region_lit (l := o :: l) ?_
  obtain ⟨b, r, n, h1, h2, h3, _⟩ := hF.holds.2 m _ hm
  have hds' : dstLt N l = true := by
    simp only [dstLt, List.all_cons, Bool.and_eq_true] at hds ⊢
    exact hds.2
  have hdt : ∀ t, o.dst = some t → t < a.tmps.size := fun t ht => by
    have := hds
    simp only [dstLt, List.all_cons, Bool.and_eq_true] at this
    have := this.1
    rw [ht] at this
    rw [hF.size]
    simpa using this
  have hw : Region.wanted o (yielded (o :: l).toArray a.tmps) = true := by simp [Region.wanted, hg]
  have hv : a.eval it = .pointer (some ⟨r, 0, none⟩) := by
    have hr : Rep E (evA s it) (a.eval it) := by
      cases it with
      | tmp t => exact hF.holds.1 t
      | _ => simp [evA] at hit
    rw [hit] at hr
    unfold Rep at hr
    exact hr.2 r h1
  have key : growsB true P o a E.w fun v w' => ∃ x U, Post E x U v w' ∧ (∀ q, q ∈ U.map (·.1) → q = m) ∧ Ck true P (o :: l).toArray l ⟨(d, x) :: s, U ++ h⟩ fun Γ' _ => Q .normal Γ' := by
    refine .inl ?_
    unfold grows execOp
    rcases h3.next (P := P) K o.type with ⟨g0, gl, hrun⟩ | ⟨ky, v, kl, y, w', c', gk, gl, gy, gat, hrun, grg, glt, gg, gs, gen⟩
    · simp only [ho, hv, Sem.run_bind, hrun, Result.andThen_ok, Sem.run_pure, growUpon]
      refine ⟨.tup [.val (.bool false)], [], ⟨E, rfl, Step.refl E, hF.good, ?_, fun i y hy => by simp [lkH] at hy⟩, by simp, hDone g0 gl⟩
      unfold Rep
      exact ⟨[.bool false], rfl, by unfold RepL; exact ⟨_, _, rfl, by unfold Rep; rfl, by unfold RepL; rfl⟩⟩
    · simp only [ho, hv, Sem.run_bind, hrun, Result.andThen_ok, Sem.run_pure, growUpon]
      obtain ⟨hS, hG'⟩ := Step.turn hF.good h1 (ranges_noCells h3) gg
      refine ⟨.tup [.val (.bool true), .val ky, .val v], [(m, .iter P k e M (fun z => left z && !z.sameKey kl) c' (some (ky, v)))], ⟨{ E with w := w' }, rfl, hS, hG', ?_, fun i y hy => ?_⟩, by simp, hMore ky v kl y c' gk gl gy gat glt⟩
      · unfold Rep
        refine ⟨[.bool true, ky, v], rfl, ?_⟩
        unfold RepL
        refine ⟨_, _, rfl, by unfold Rep; rfl, ?_⟩
        unfold RepL
        refine ⟨_, _, rfl, by unfold Rep; rfl, ?_⟩
        unfold RepL
        exact ⟨_, _, rfl, by unfold Rep; rfl, by unfold RepL; rfl⟩
      · simp only [lkH] at hy
        by_cases e1 : m = i
        · subst e1
          simp at hy
          subst hy
          refine ⟨b, r, n, h1, ?_, grg, fun kv hk => ?_⟩
          · exact ⟨Nat.lt_of_lt_of_le h2.1 gg.size, h2.2.1, h2.2.2⟩
          · injection hk with hk
            subst hk
            exact gen
        · rw [beqF e1, cond_false] at hy
          cases hy
  unfold wpListIn
  rw [if_pos hw]
  refine wpIn_of_growsB (key.mono ?_)
  rintro v w' ⟨x, U, ⟨E', rfl, hS, hG', hx, hU⟩, hUm, Γ', F, hch, hq⟩
  refine hch.text hds' E' (a.put o.dst v) hG' ?_ (by rw [put_size, hF.size]) fun E'' a'' M' hG'' hS' hH' hN' hdf => ⟨E'', Γ', rfl, ?_, ⟨hG'', hN', fun n hn => ?_, hH'⟩, by rw [hdf, put_defers], hq⟩
  · have := hF.holds.put (tm := #[]) hS hx hU hdt
    rw [hd] at this ⊢
    exact this
  · exact (hS.trans hS').kept hF.born
  · exact ((hS.trans hS').kept hF.born).born n hn
end
/-! ### Strings as keys, numbers as elements -/
theorem key_str {P : Program} {k : TypeId} (hk : P.underlying k = some .string) {s : ByteArray} (hs : s.size ≤ maxLen) : keyOf P k (.string s) = some (.string s.data.toList) := WideMaps.keyOf_string_mk hk hs
theorem key_str_inv {P : Program} {k : TypeId} (hk : P.underlying k = some .string) {key : Value} {kl : Lit} (h : keyOf P k key = some kl) : ∃ s, key = .string s ∧ kl = .string s.data.toList ∧ s.size ≤ maxLen := by
  cases key <;> simp [keyOf, hk, mapKey] at h
  exact ⟨_, rfl, h.2.symm, h.1⟩
end Go.Proofs.YtpbaiighifhfnaaDoor
namespace Go.Proofs.YtpbaiighifhfnaaDoor
open Go.RowKit
set_option linter.unusedVariables false
set_option linter.unusedSimpArgs false

theorem isStr_some {P : Program} {T : TypeId} (h : isStrB P T = true) : P.underlying T = some .string := by
  unfold isStrB at h
  split at h
  · assumption
  · cases h
section
variable {P : Program} {o : Oper} {x y : Av} {R M U : List (Nat × Hs)} {ρ : Operand → Av} {p q r : Operand} {T : TypeId}
theorem oc_substr {s : ByteArray} {k k' : IntKind} {i j : Int} (ho : o.op = .slice T p (some q) (some r) none) (hp : ρ p = .val (.string s)) (hq : ρ q = .val (.int k i)) (hr' : ρ r = .val (.int k' j)) (hT : isStrB P T = true) (h0 : 0 ≤ i) (h1 : i ≤ j) (h2 : j ≤ s.size) : OC P o ρ [] (.val (.string (s.extract i.toNat j.toNat))) [] := oc_read fun E a hG hr _ => by
  have h3 := hr p (by simp [ho, Op.operands])
  have h4 := hr q (by simp [ho, Op.operands])
  have h5 := hr r (by simp [ho, Op.operands])
  rw [hp] at h3
  rw [hq] at h4
  rw [hr'] at h5
  unfold Rep at h3 h4 h5
  refine ⟨.string (s.extract i.toNat j.toNat), ?_, by unfold Rep; rfl⟩
  have hrun := run_slice_string E.w T s k k' i j (isStr_some hT) h0 h1 h2
  unfold execOp
  simp only [ho, Option.map_some, Option.map_none, h3, h4, h5, Sem.run_bind, (run_sliceAt_string (w := E.w) T _ _ _ _ (isStr_some hT)).trans hrun, Result.andThen_ok, Sem.run_pure]
theorem oc_substr_l {s : ByteArray} {k : IntKind} {i : Int} (ho : o.op = .slice T p (some q) none none) (hp : ρ p = .val (.string s)) (hq : ρ q = .val (.int k i)) (hT : isStrB P T = true) (h0 : 0 ≤ i) (h1 : i ≤ s.size) : OC P o ρ [] (.val (.string (s.extract i.toNat s.size))) [] := oc_read fun E a hG hr _ => by
  have h3 := hr p (by simp [ho, Op.operands])
  have h4 := hr q (by simp [ho, Op.operands])
  rw [hp] at h3
  rw [hq] at h4
  unfold Rep at h3 h4
  refine ⟨.string (s.extract i.toNat s.size), ?_, by unfold Rep; rfl⟩
  have hrun := run_slice_string_from_if E.w T s k i (isStr_some hT)
  rw [if_pos ⟨h0, h1⟩] at hrun
  unfold execOp
  simp only [ho, Option.map_some, Option.map_none, h3, h4, Sem.run_bind, (run_sliceAt_string (w := E.w) T _ _ _ _ (isStr_some hT)).trans hrun, Result.andThen_ok, Sem.run_pure]
theorem oc_str_lt {T' : TypeId} {a b : ByteArray} (ho : o.op = .binOp .lss T p q T') (hp : ρ p = .val (.string a)) (hq : ρ q = .val (.string b)) : OC P o ρ [] (.val (.bool (Op.bytesLess a.toList b.toList))) [] := oc_read fun E c hG hr _ => by
  have h1 := hr p (by simp [ho, Op.operands])
  have h2 := hr q (by simp [ho, Op.operands])
  rw [hp] at h1
  rw [hq] at h2
  unfold Rep at h1 h2
  exact ⟨.bool (Op.bytesLess a.toList b.toList), by simp [execOp, ho, h1, h2, eqGuard, binOp, Op.stringOp], by unfold Rep; rfl⟩
/-- A closure's call with names; V: the new ones. -/
theorem oc_callCloFC {f : Nat} {g : Operand} {args : List Operand} {tys : Array TypeId} {ys caps : List Av} (V : List Nat) (ho : o.op = .call { callee := .value g, args := args.toArray, argTypes := tys }) (hg : ρ g = .clo f caps) (hf : callB P f = true) (hc : FCM P f ys R M x U) (hxs : args.map ρ ++ caps = ys)
    (hV : ∀ n ∈ U.map (·.1), n ∈ R.map (·.1) ∨ n ∈ V) (hb : bornH (R ++ M)) (hRU : ∀ n ∈ R.map (·.1), n ∈ U.map (·.1)) (hMU : ∀ n ∈ M.map (·.1), n ∉ U.map (·.1)) (hIA : InNL (· ∈ (R ++ M).map (·.1)) ys) (hIR : InHs (· ∈ (R ++ M).map (·.1)) (R ++ M)) (hIx : InN (· ∈ U.map (·.1)) x) (hIU : InHs (· ∈ U.map (·.1)) U) : OC P o ρ ((R ++ M) ++ V.map fun n => (n, .unborn)) x (U ++ deadH M) := by
  intro E a hG hr hH
  subst hxs
  have hA := repL_map (ρ := ρ) (E := E) (a := a) (l := args) fun p hp => hr p (by simp [ho, Op.operands, Call.operands, hp])
  have h1 := hr g (by simp [ho, Op.operands, Call.operands])
  rw [hg] at h1
  unfold Rep at h1
  obtain ⟨vs, h2, h3⟩ := h1
  have app : ∀ (xs : List Av) (us : List Value), RepL E xs us → RepL E (xs ++ caps) (us ++ vs) := by
    intro xs
    induction xs with
    | nil => intro us h; unfold RepL at h; subst h; exact h3
    | cons x xs ih =>
      intro us h
      unfold RepL at h
      obtain ⟨v, us', rfl, h4, h5⟩ := h
      rw [List.cons_append, List.cons_append]
      unfold RepL
      exact ⟨v, us' ++ vs, rfl, h4, ih us' h5⟩
  have := FCM.post hc hG (app _ _ hA) (fun n y hn => hH n y (List.mem_append_left _ hn)) (fun n hn hn' => hH n .unborn (List.mem_append_right _ (List.mem_map.2 ⟨n, (hV n hn).resolve_left hn', rfl⟩))) hb hRU hMU hIA hIR hIx hIU
  unfold grows execOp
  simp only [ho, resolve, Deferred.ofValue, h2, Sem.run_bind, Sem.run_pure, Result.andThen_ok, invoke, Array.append_empty, Array.empty_append, List.map_toArray, List.append_toArray, callB_run hf, growUpon]
  exact this
end
end Go.Proofs.YtpbaiighifhfnaaDoor
namespace Go.Proofs.YtpbaiighifhfnaaDoor
set_option linter.unusedSimpArgs false
open Go.RowKit
set_option linter.unusedVariables false
section
variable {bb : Bool} {P : Program} {ops : Array Oper} {o : Oper} {l : List Oper} {d : Nat} {s : List (Nat × Av)} {h : List (Nat × Hs)} {R U : List (Nat × Hs)} {x : Av} {K : Ctx → List (List Nat × List Nat) → Prop}
theorem gate_is {pol : Bool} : Gate (.val (.bool pol)) pol true := fun E v h => by unfold Rep at h; subst h; cases pol <;> rfl
theorem gate_isnt {pol : Bool} : Gate (.val (.bool (!pol))) pol false := fun E v h => by unfold Rep at h; subst h; cases pol <;> rfl
theorem want_of {g t : Nat} {pol C : Bool} (hg : o.guard = some (g, pol)) (hs : (ops[g]?).bind (·.dst) = some t) (hG : Gate (lkS s t) pol C) {E : Env} {a : Act} (ht : ∀ t ∈ readsOf ops o, Rep E (lkS s t) (a.tmps.getD t undef)) : Region.wanted o (yielded ops a.tmps) = C := by
  have hgt : Rep E (lkS s t) (a.tmps.getD t undef) := ht t (by simp [readsOf, gslot, hg, hs])
  have hy : (yielded ops a.tmps g == some pol) = C := by
    have h1 := hG E _ hgt
    unfold yielded
    rw [hs, Option.bind_some]
    rw [← h1]
    by_cases hlt : t < a.tmps.size
    · simp [Array.getD, hlt]
      split <;> simp_all
    · simp [Array.getD, hlt, undef]
  simp only [Region.wanted, hg]
  exact hy
/-- The guard lets by. -/
theorem ch_kT {g t : Nat} {pol : Bool} (hg : o.guard = some (g, pol)) (hs : (ops[g]?).bind (·.dst) = some t) (hd : o.dst = some d) (hG : lkS s t = .val (.bool pol)) (hop : OC P o (evA s) R x U) (hR : subH h R) (h' : Ck bb P ops l ⟨(d, x) :: s, U ++ h⟩ fun Γ' F => K Γ' ((R.map (·.1), U.map (·.1)) :: F)) : Ck bb P ops (o :: l) ⟨s, h⟩ K :=
  let ⟨Γ', F, h1, h2⟩ := h'
  ⟨Γ', _, Ch.cons (R := R) (U := U) (x := x) (fun E a hGd ht hRr => by
    rw [if_pos (want_of hg hs (hG ▸ gate_is) ht)]
    exact .inl (hop E a hGd (rep_slots ht) hRr)) (subH_mem hR) (by rw [hd]; exact h1), h2⟩
/-- The guard keeps it out. -/
theorem ch_kF {g t : Nat} {pol : Bool} (hg : o.guard = some (g, pol)) (hs : (ops[g]?).bind (·.dst) = some t) (hd : o.dst = some d) (hG : lkS s t = .val (.bool (!pol))) (h' : Ck bb P ops l ⟨(d, .any) :: s, h⟩ fun Γ' F => K Γ' (([], []) :: F)) : Ck bb P ops (o :: l) ⟨s, h⟩ K :=
  let ⟨Γ', F, h1, h2⟩ := h'
  ⟨Γ', _, Ch.cons (R := []) (U := []) (x := .any) (fun E a hGd ht hRr => by
    rw [if_neg (by rw [want_of hg hs (hG ▸ gate_isnt) ht]; simp)]
    exact ⟨E, rfl, Step.refl E, hGd, by unfold Rep; trivial, fun n y hn => by simp [lkH] at hn⟩) (fun n y hn => by simp at hn) (by rw [hd]; exact h1), h2⟩
end
section
variable {P : Program} {o : Oper} {ρ : Operand → Av}
theorem oc_pickT {c p q : Operand} {x : Av} (ho : o.op = .pick c p q) (hc : ρ c = vb true) (hp : ρ p = x) : OC P o ρ [] x [] := oc_read fun E a hG hr _ => by
  have h1 := hr c (by simp [ho, Op.operands])
  have h2 := hr p (by simp [ho, Op.operands])
  rw [hc] at h1
  rw [hp] at h2
  unfold Rep at h1
  exact ⟨a.eval p, by simp [execOp, ho, h1, asBool, Sem.run_bind], h2⟩
theorem oc_pickF {c p q : Operand} {x : Av} (ho : o.op = .pick c p q) (hc : ρ c = vb false) (hq : ρ q = x) : OC P o ρ [] x [] := oc_read fun E a hG hr _ => by
  have h1 := hr c (by simp [ho, Op.operands])
  have h2 := hr q (by simp [ho, Op.operands])
  rw [hc] at h1
  rw [hq] at h2
  unfold Rep at h1
  exact ⟨a.eval q, by simp [execOp, ho, h1, asBool, Sem.run_bind], h2⟩
end
section
variable {ro : Option Nat} {P : Program} {N : Nat} {D : List Nat} {x y : Code} {Q : Exit → Ctx → Prop} {Γ : Ctx}
/-- Ways that meet: the states by an index. -/
theorem aw_seqJ {ι : Type} (F : ι → Ctx) (I : ι → Prop) (h1 : AWo ro P N D x (thenA (fun Γ' => ∃ i, I i ∧ Le N D Γ' (F i)) Q) Γ) (h2 : ∀ i, I i → AWo ro P N D y Q (F i)) : AWo ro P N D (.seq x y) Q Γ := aw_seq (aw_mono h1 fun e Γ' h => by
  cases e
  case normal =>
    obtain ⟨i, hi, hl⟩ := h
    exact aw_le hl (h2 i hi)
  all_goals exact h)
end
/-- Both ends of a slice. -/
theorem oc_slice_lh {P : Program} {o : Oper} {ρ : Operand → Av} {p q r : Operand} {T e : TypeId} {k by_ n : Nat} {zs : List Value} {row : Nat → Av} {kk kk' : IntKind} (l h : Nat) (ho : o.op = .slice T p (some q) (some r) none) (hp : ρ p = .sl k n row) (hq : ρ q = .val (.int kk (l : Int))) (hr' : ρ r = .val (.int kk' (h : Int))) (hT : eB P T = some e) (hi : infoB P e = some (k, by_, zs)) (h1 : l ≤ h) (h2 : h ≤ n) : OC P o ρ [] (.sl k (h - l) (fun j => row (j + l))) [] := oc_read fun E a hG hr _ => by
  have g1 := hr p (by simp [ho, Op.operands])
  have g2 := hr q (by simp [ho, Op.operands])
  have g3 := hr r (by simp [ho, Op.operands])
  rw [hp] at g1
  rw [hq] at g2
  rw [hr'] at g3
  have g2' : a.eval q = .int kk (l : Int) := by unfold Rep at g2; exact g2
  have g3' : a.eval r = .int kk' (h : Int) := by unfold Rep at g3; exact g3
  obtain ⟨A, c, hv, hc, hm⟩ := sl_form g1
  exact ⟨_, part_exec ho hT hi hv hc (.inr ⟨q, kk, rfl, g2'⟩) (.inr ⟨r, kk', rfl, g3'⟩) h1 h2, rep_part (hv ▸ g1) h1 h2⟩
end Go.Proofs.YtpbaiighifhfnaaDoor
