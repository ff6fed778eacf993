/- Appends, parts of slices, conversions; names that are forgotten, frozen or given to nil; calls that bear names. No program stands in this text. -/
import Derived.Test.YtjjgdjcapfenpaaOf
namespace Go.Proofs.Ytjjgdjcapfenpaa
open Go.RowKit
set_option linter.unusedVariables false
set_option linter.unusedSimpArgs false

section
variable {P : Program} {o : Oper} {x y : Av} {R U : List (Nat × Hs)} {ρ : Operand → Av} {p q : Operand} {T : TypeId}

/-- A row of the call's own, as append's laws ask it. -/
theorem own_row {E : Env} {k n len : Nat} {t : TypeId} {cs : List Av} {v : Value} (hv : Rep E (.osl k n len) v) (hn : HAt E n (.live t cs)) (hl : cs.length = len * k) :
    ∃ xs : List Value, E.w.ownsRow 0 t k v len xs ∧ RepL E cs xs ∧ (∀ u ∈ xs, u.oneCell' = true) ∧ ((E.loc n = .nil ∧ v = .slice none 0 0) ∨ ∃ b, E.loc n = .at b ∧ v.ownBlock = some b) := by
  unfold Rep at hv
  rcases hn with ⟨h1, rfl⟩ | ⟨b, cur, h1, h2, h3⟩
  · obtain ⟨rfl, rfl⟩ := hv.1.2.2 h1
    exact ⟨[], ⟨by simp, .inl ⟨rfl, rfl⟩⟩, by unfold RepL; rfl, by simp, .inl ⟨h1, rfl⟩⟩
  · obtain ⟨c, cur', t', h4, h5, h6, h7, h8⟩ := hv.2 b h1
    rw [h2] at h7
    injection h7 with h7
    injection h7 with h7 h9
    subst h7; subst h9
    obtain ⟨xs, g1, g2, g3⟩ := cells_list (E := E) (cur := cur) cs 0 fun i y hy => by simpa using h3 i y hy
    have hle : len * k ≤ cur.size := by rw [h8]; exact Nat.mul_le_mul_right _ h5
    have hxs : cur.toList.take (len * k) = xs := by
      apply List.ext_getElem?
      intro i
      rw [List.getElem?_take]
      by_cases hi : i < len * k
      · rw [if_pos hi]
        have hx : i < xs.length := by rw [g1.length]; omega
        have := g3 i xs[i] (List.getElem?_eq_getElem hx)
        rw [List.getElem?_eq_getElem hx, ← this]
        simp
      · rw [if_neg hi, List.getElem?_eq_none (by rw [g1.length]; omega)]
    exact ⟨xs, ⟨by rw [g1.length, hl], .inr ⟨b, c, cur, h4, Nat.zero_le _, h2, h5, h6, h8, hxs⟩⟩, g1, g2, .inr ⟨b, h1, by rw [h4]; rfl⟩⟩
theorem RepL.stepL {E E' : Env} {N : List Nat} (h : Step E E' N) {xs : List Av} {vs : List Value} (hr : RepL E xs vs) : RepL E' xs vs := RepL.step h _ _ hr
theorem RepL.append {E : Env} : ∀ {xs ys : List Av} {us vs : List Value}, RepL E xs us → RepL E ys vs → RepL E (xs ++ ys) (us ++ vs)
  | [], ys, us, vs, h, k => by unfold RepL at h; subst h; exact k
  | x :: xs, ys, us, vs, h, k => by
    unfold RepL at h
    obtain ⟨v, us', rfl, h1, h2⟩ := h
    simp only [List.cons_append]
    unfold RepL
    exact ⟨v, _, rfl, h1, h2.append k⟩
/-- What an append onto a named row leaves. -/
theorem post_append {E : Env} (hG : Good E) {k n m len' : Nat} {t : TypeId} {cs ds : List Av} {v v' : Value} {xs ys : List Value} {w' : World} (hnm : n ≠ m) (hm : E.loc m = .unborn) (hn0 : E.loc n ≠ .unborn) (hx : RepL E cs xs) (hy : RepL E ds ys) (hx1 : ∀ u ∈ xs, u.oneCell' = true) (hy1 : ∀ u ∈ ys, u.oneCell' = true)
    (hv : (E.loc n = .nil ∧ v = .slice none 0 0) ∨ ∃ b, E.loc n = .at b ∧ v.ownBlock = some b) (hown : w'.ownsRow 0 t k v' len' (xs ++ ys)) (hg : E.w.grownBy w' v.ownBlock) (hb : v'.ownBlock = v.ownBlock ∨ v'.ownBlock = some E.w.heap.size) :
    Post E (.osl k m len') [(n, .dead), (m, .live t (cs ++ ds))] v' w' := by
  let L : Loc := match v'.ownBlock with | some b => .at b | none => .nil
  let E' : Env := { w := w', loc := fun i => if i = m then L else if i = n then .dead else E.loc i, bad := E.bad }
  have hLn : L = .nil ↔ v'.ownBlock = none := by
    show (match v'.ownBlock with | some b => Loc.at b | none => .nil) = .nil ↔ _
    cases v'.ownBlock <;> simp
  have hLa : ∀ b, L = .at b ↔ v'.ownBlock = some b := fun b => by
    show (match v'.ownBlock with | some b => Loc.at b | none => .nil) = .at b ↔ _
    cases v'.ownBlock <;> simp
  have hem : E'.loc m = L := by simp [E']
  have hen : E'.loc n = .dead := by simp [E', hnm]
  have heo : ∀ i, i ≠ m → i ≠ n → E'.loc i = E.loc i := fun i h1 h2 => by simp [E', h1, h2]
  have hvb : ∀ b, v.ownBlock = some b → E.loc n = .at b := fun b hb => by
    rcases hv with ⟨_, rfl⟩ | ⟨c, h1, h2⟩
    · simp [Value.ownBlock] at hb
    · rw [h2] at hb; injection hb with hb; rw [← hb]; exact h1
  have hnew : ∀ b, L = .at b → E.loc n = .at b ∨ b = E.w.heap.size := fun b hL => by
    rcases hb with h1 | h1
    · exact .inl (hvb b (by rw [← h1]; exact (hLa b).1 hL))
    · have := (hLa b).1 hL
      rw [h1] at this
      injection this with this
      exact .inr this.symm
  have hS : Step E E' [n, m] := by
    refine ⟨hg.os, hg.tape, hg.output, hg.size, rfl, fun b hlt hno => hg.block b hlt fun e => hno n (hvb b e.symm), fun i hi => ?_, fun i hi => ?_, fun i b hi => ?_, fun i hi => ?_, fun i b cur t0 hi hi' hc => ?_⟩
    · simp only [List.mem_cons, List.not_mem_nil, or_false, not_or] at hi
      refine ⟨heo i hi.2 hi.1, fun b hb => hg.block b (hG.lt i b hb).1 fun e => hi.1 (hG.inj i n b hb (hvb b e.symm))⟩
    · by_cases h1 : i = m
      · subst h1; exact absurd hm hi
      · by_cases h2 : i = n
        · subst h2; rw [hen]; simp
        · rw [heo i h1 h2]; exact hi
    · by_cases h1 : i = m
      · subst h1
        rw [hem] at hi
        refine .inr ⟨hm, ?_⟩
        rcases hnew b hi with h3 | h3
        · exact .inr ⟨n, h3⟩
        · exact .inl (by omega)
      · by_cases h2 : i = n
        · subst h2; rw [hen] at hi; cases hi
        · rw [heo i h1 h2] at hi; exact .inl hi
    · by_cases h1 : i = m
      · subst h1; exact .inr hm
      · by_cases h2 : i = n
        · subst h2; rw [hen] at hi; cases hi
        · rw [heo i h1 h2] at hi; exact .inl hi
    · by_cases h1 : i = m
      · subst h1; rw [hm] at hi'; cases hi'
      · by_cases h2 : i = n
        · subst h2; rw [hen] at hi; cases hi
        · exact ⟨cur, (hg.block b (hG.lt i b hi').1 fun e => h2 (hG.inj i n b hi' (hvb b e.symm))).trans hc, rfl⟩
  have hform : (v' = .slice none 0 0 ∧ len' = 0) ∨ ∃ g cap cur, v' = .slice (some ⟨g, 0, none⟩) len' cap ∧ 0 ≤ g ∧ w'.heap[g]? = some (.cells cur t (0, 0)) ∧ len' ≤ cap ∧ cap ≤ maxLen ∧ cur.size = cap * k ∧ cur.toList.take (len' * k) = xs ++ ys := hown.2
  refine ⟨E', rfl, hS, ⟨fun b hbad => Nat.lt_of_lt_of_le (hG.old b hbad) hg.size, fun i j b hi hj => ?_, fun i b hi => ?_⟩, ?_, fun i z hz => ?_⟩
  · have key : ∀ i, i ≠ m → E'.loc i = .at b → E'.loc m = .at b → False := fun i h1 hi hmm => by
      rw [hem] at hmm
      by_cases h2 : i = n
      · subst h2; rw [hen] at hi; cases hi
      · rw [heo i h1 h2] at hi
        rcases hnew b hmm with h3 | h3
        · exact h2 (hG.inj i n b hi h3)
        · have := (hG.lt i b hi).1; omega
    by_cases h1 : i = m
    · by_cases h2 : j = m
      · rw [h1, h2]
      · exact (key j h2 hj (h1 ▸ hi)).elim
    · by_cases h2 : j = m
      · exact (key i h1 hi (h2 ▸ hj)).elim
      · by_cases h3 : i = n
        · subst h3; rw [hen] at hi; cases hi
        · by_cases h4 : j = n
          · subst h4; rw [hen] at hj; cases hj
          · rw [heo i h1 h3] at hi
            rw [heo j h2 h4] at hj
            exact hG.inj i j b hi hj
  · by_cases h1 : i = m
    · subst h1
      rw [hem] at hi
      have hvb' := (hLa b).1 hi
      rcases hform with ⟨h2, _⟩ | ⟨g, cap, cur, h2, _, h3, _⟩
      · rw [h2] at hvb'; simp [Value.ownBlock] at hvb'
      · rw [h2] at hvb'
        simp [Value.ownBlock] at hvb'
        subst hvb'
        refine ⟨(Array.getElem?_eq_some_iff.1 h3).1, fun hbad => ?_⟩
        rcases hnew g hi with h4 | h4
        · exact (hG.lt n g h4).2 hbad
        · have := hG.old g hbad; omega
    · by_cases h2 : i = n
      · subst h2; rw [hen] at hi; cases hi
      · rw [heo i h1 h2] at hi
        exact ⟨Nat.lt_of_lt_of_le (hG.lt i b hi).1 hg.size, (hG.lt i b hi).2⟩
  · unfold Rep
    rw [hem]
    rcases hform with ⟨h2, h3⟩ | ⟨g, cap, cur, h2, _, h3, h4, h5, h6, _⟩
    · have hno : v'.ownBlock = none := by rw [h2]; rfl
      refine ⟨⟨fun h => ?_, ⟨none, 0, by rw [h2, h3]⟩, fun _ => ⟨h2, h3⟩⟩, fun b hL => ?_⟩
      · rw [hLn.2 hno] at h; cases h
      · rw [hLn.2 hno] at hL; cases hL
    · have hso : v'.ownBlock = some g := by rw [h2]; rfl
      have hLg := (hLa g).2 hso
      refine ⟨⟨fun h => (by rw [hLg] at h; cases h), ⟨_, _, h2⟩, fun h => (by rw [hLg] at h; cases h)⟩, fun b hL => ?_⟩
      rw [hLg] at hL
      injection hL with hL
      subst hL
      exact ⟨cap, cur, t, h2, h4, h5, h3, h6⟩
  · have hall := (RepL.append hx hy).stepL hS
    simp only [lkH] at hz
    cases h1 : Nat.beq n i with
    | true =>
      rw [h1] at hz
      simp at hz
      subst hz
      obtain rfl := Nat.eq_of_beq_eq_true h1
      exact hen
    | false =>
      rw [h1] at hz
      cases h2 : Nat.beq m i with
      | false => rw [h2] at hz; simp at hz
      | true =>
        rw [h2] at hz
        simp at hz
        subst hz
        obtain rfl := Nat.eq_of_beq_eq_true h2
        rcases hform with ⟨h3, h4⟩ | ⟨g, cap, cur, h3, _, h4, h5, h6, h7, h8⟩
        · have hno : v'.ownBlock = none := by rw [h3]; rfl
          refine .inl ⟨by rw [hem]; exact hLn.2 hno, ?_⟩
          have hl := hown.1
          rw [h4, Nat.zero_mul] at hl
          have := (RepL.append hx hy).length
          exact List.eq_nil_of_length_eq_zero (by omega)
        · have hso : v'.ownBlock = some g := by rw [h3]; rfl
          refine .inr ⟨g, cur, by rw [hem]; exact (hLa g).2 hso, h4, fun j z hz => ?_⟩
          obtain ⟨u, h9, h10⟩ := hall.get j z hz
          refine ⟨u, ?_, ?_, h10⟩
          · rw [← h8, List.getElem?_take] at h9
            split at h9
            · simpa using h9
            · cases h9
          · rcases List.mem_append.1 (List.mem_of_getElem? h9) with h11 | h11
            · exact hx1 u h11
            · exact hy1 u h11
theorem run_appK {t e ty : TypeId} {w : World} {i : TypeInfo} {z : Value} {k by_ : Nat} (hT : P.underlying t = some (.slice e)) (hi : P.info? e = some i) (hz : i.zero = some z) (hk : i.size = k) (hby : i.bytes = by_) (hzk : z.cells.size = k) (h0 : 0 < k) {v : Value} {n : Nat} {xs : List Value} (hown : w.ownsRow 0 e k v n xs)
    {A : Option Addr} {m c : Nat} {news : List Value} (hl : news.length = m * k) (hA : 0 < m → ∃ b off, A = some ⟨b, off, none⟩ ∧ ∀ j u, news[j]? = some u → w.cell? ⟨b, off + j, none⟩ = some u) (h1 : ∀ u ∈ news, u.oneCell' = true) (hb : (n + m) * by_ ≤ 140737488355328) (h63 : n + m ≤ 9223372036854775807) :
    ∃ v' w', (Builtin.append_ #[t, t] ty #[v, .slice A m c]).run P w = .ok v' w' ∧ w'.ownsRow 0 e k v' (n + m) (xs ++ news) ∧ w.grownBy w' v.ownBlock ∧ (v'.ownBlock = v.ownBlock ∨ v'.ownBlock = some w.heap.size) := by
  by_cases hm : m = 0
  · subst hm
    have hn : news = [] := List.eq_nil_of_length_eq_zero (by simpa using hl)
    subst hn
    refine ⟨v, w, ?_, by simpa using hown, World.grownBy.refl w _, .inl rfl⟩
    rcases A with _ | ad
    · rcases hown.2 with ⟨rfl, _⟩ | ⟨g, cap, cur, rfl, _, _, hnc, _⟩
      · simp [Builtin.append_, run_underlying hT, sizeOf, typeInfo, hi, Builtin.lenOf, Builtin.firstCells]
      · simp [Builtin.append_, run_underlying hT, sizeOf, typeInfo, hi, Builtin.lenOf, Builtin.firstCells, hnc, storeCells]
    · have hf : ∀ s : Nat, (Builtin.firstCells s 0 (.slice (some ad) 0 c)).run P w = .ok #[] w := fun s => by
        have := run_firstCells_some (P := P) w s 0 ad 0 c [] (by simp) (by simp)
        simpa using this
      have hn : ∀ s : Nat, (Builtin.firstCells s 0 (.slice none 0 0)).run P w = .ok #[] w := fun s => run_firstCells_none w s 0 0 0
      rcases hown.2 with ⟨rfl, _⟩ | ⟨g, cap, cur, rfl, _, _, hnc, _⟩
      · simp [Builtin.append_, run_underlying hT, sizeOf, typeInfo, hi, Builtin.lenOf, hf]
      · simp [Builtin.append_, run_underlying hT, sizeOf, typeInfo, hi, Builtin.lenOf, hf, hnc, storeCells]
  · obtain ⟨b, off, rfl, hc⟩ := hA (by omega)
    obtain ⟨v', w', r, h2, h3, _, h5⟩ := run_append_own_at (P := P) w 0 t ty e i z k by_ hT hi hz hk hby hzk h0 v n xs hown ⟨b, off, none⟩ m c news hl
      (fun j u hu => by rw [Addr.add_lit]; exact hc j u hu) h1 (by simp only [maxLen]; omega) hb (Nat.zero_le _)
    exact ⟨v', w', r, h2, h3, h5⟩
theorem append_exec {t : TypeId} {a : Act} {w : World} (ho : o.op = .call { callee := .builtin .append, args := #[p, q], argTypes := #[t, t] }) {v' : Value} {w' : World} (hrun : (Builtin.append_ #[t, t] o.type #[a.eval p, a.eval q]).run P w = .ok v' w') : (execOp a.eval o).run P w = .ok (.value v') w' := by
  unfold execOp
  simp only [ho, resolve, invoke, builtin, Sem.run_bind, Sem.run_pure, Result.andThen_ok, List.map_toArray, List.map_cons, List.map_nil, hrun]
/-- 'append(own, tree...)'. ds: what the tree's elements are, flat. -/
theorem oc_append {e : TypeId} {k by_ n len l : Nat} {row : Nat → Av} {cs ds : List Av} {zs : List Value} (m : Nat) (ho : o.op = .call { callee := .builtin .append, args := #[p, q], argTypes := #[T, T] }) (hp : ρ p = .osl k n len) (hq : ρ q = .sl k l row) (hT : eB P T = some e) (hi : infoB P e = some (k, by_, zs)) (hzl : zs.length = k) (h0 : 0 < k) (hnm : n ≠ m) (hl : cs.length = len * k)
    (hds : ds.length = l * k) (hrow : ∀ j, j < l → szB (row j) k = true ∧ ∀ i y, i < k → ds[j * k + i]? = some y → (flatA (row j))[i]? = some y) (hb : (len + l) * by_ ≤ 140737488355328) (h63 : len + l ≤ 9223372036854775807) : OC P o ρ [(n, .live e cs), (m, .unborn)] (.osl k m (len + l)) [(n, .dead), (m, .live e (cs ++ ds))] := by
  intro E a hG hr hH
  have h1 := hr p (by simp [ho, Op.operands, Call.operands])
  have h2 := hr q (by simp [ho, Op.operands, Call.operands])
  rw [hp] at h1
  rw [hq] at h2
  have hn := hH n (.live e cs) (by simp)
  have hu : E.loc m = .unborn := hH m .unborn (by simp)
  obtain ⟨xs, g1, g2, g3, g4⟩ := own_row h1 hn hl
  obtain ⟨i, z, i1, i2, i3, i4, i5⟩ := infoB_some hi
  unfold Rep at h2
  obtain ⟨A, c, h3, h4, h5, h6⟩ := h2
  obtain ⟨ys, y1, y2, y3⟩ : ∃ ys : List Value, RepL E ds ys ∧ (∀ u ∈ ys, u.oneCell' = true) ∧ (0 < l → ∃ b off, A = some ⟨b, off, none⟩ ∧ ∀ j u, ys[j]? = some u → E.w.cell? ⟨b, off + j, none⟩ = some u) := by
    by_cases hl0 : l = 0
    · subst hl0
      have : ds = [] := List.eq_nil_of_length_eq_zero (by simpa using hds)
      subst this
      exact ⟨[], by unfold RepL; rfl, by simp, fun h => by omega⟩
    · obtain ⟨b, off, hA, hok, hel⟩ := h6 (by omega)
      have cell : ∀ (j : Nat) (y : Av), ds[j]? = some y → ∃ u, E.w.cell? ⟨b, off + j, none⟩ = some u ∧ u.oneCell' = true ∧ Rep E y u := fun j y hy => by
        have hj := (List.getElem?_eq_some_iff.1 hy).1
        have hjl : j / k < l := by rw [Nat.div_lt_iff_lt_mul h0]; omega
        have hji : j % k < k := Nat.mod_lt _ h0
        have hjj : j / k * k + j % k = j := by rw [Nat.mul_comm]; exact Nat.div_add_mod j k
        obtain ⟨hs, hf⟩ := hrow (j / k) hjl
        have hfy := hf (j % k) y hji (by rw [hjj]; exact hy)
        obtain ⟨u, h8, h9, h10⟩ := hel (j / k) hjl
        obtain ⟨_, _, _, h11⟩ := flat_cells h8 hs
        obtain ⟨u', h12, h13, h14⟩ := h11 _ y hfy
        refine ⟨u', ?_, h13, h14⟩
        have := h10 (j % k) u' (by simpa using h12)
        rwa [Nat.add_assoc, hjj] at this
      have build : ∀ (ds : List Av) (s : Nat), (∀ (j : Nat) (y : Av), ds[j]? = some y → ∃ u, E.w.cell? ⟨b, off + (s + j), none⟩ = some u ∧ u.oneCell' = true ∧ Rep E y u) → ∃ ys : List Value, RepL E ds ys ∧ (∀ u ∈ ys, u.oneCell' = true) ∧ ∀ j u, ys[j]? = some u → E.w.cell? ⟨b, off + (s + j), none⟩ = some u := by
        intro ds
        induction ds with
        | nil => intro s _; exact ⟨[], by unfold RepL; rfl, by simp, by simp⟩
        | cons d ds ih =>
          intro s hh
          obtain ⟨u, k1, k2, k3⟩ := hh 0 d rfl
          obtain ⟨ys, k4, k5, k6⟩ := ih (s + 1) fun j y hy => by have := hh (j + 1) y (by simpa using hy); rwa [show s + 1 + j = s + (j + 1) from by omega]
          refine ⟨u :: ys, by unfold RepL; exact ⟨u, ys, rfl, k3, k4⟩, fun v hv => ?_, fun j v hv => ?_⟩
          · rcases List.mem_cons.1 hv with rfl | hv
            · exact k2
            · exact k5 v hv
          · cases j with
            | zero => simp at hv; subst hv; exact k1
            | succ j => have := k6 j v (by simpa using hv); rwa [show s + 1 + j = s + (j + 1) from by omega] at this
      obtain ⟨ys, k1, k2, k3⟩ := build ds 0 fun j y hy => by simpa using cell j y hy
      exact ⟨ys, k1, k2, fun _ => ⟨b, off, hA, fun j u hu => by simpa using k3 j u hu⟩⟩
  obtain ⟨v', w', r1, r2, r3, r4⟩ := run_appK (ty := o.type) (c := c) (eB_some hT) i1 i2 i3 i4 (by rw [← hzl, ← i5]; simp) h0 g1 (by rw [y1.length, hds]) y3 y2 hb h63
  unfold grows
  rw [append_exec ho (by rw [h3]; exact r1)]
  have hn0 : E.loc n ≠ .unborn := by unfold Rep at h1; exact h1.1.1
  exact post_append hG hnm hu hn0 g2 y1 g3 y2 g4 r2 r3 r4
/-- Elements of one cell. -/
theorem row_one {l : Nat} {row : Nat → Av} {ds : List Av} (h : ∀ j y, ds[j]? = some y → y = row j) (hs : ∀ j, j < l → szB (row j) 1 = true ∧ flatA (row j) = [row j]) : ∀ j, j < l → szB (row j) 1 = true ∧ ∀ i y, i < 1 → ds[j * 1 + i]? = some y → (flatA (row j))[i]? = some y := fun j hj => by
  obtain ⟨h1, h2⟩ := hs j hj
  refine ⟨h1, fun i y hi hy => ?_⟩
  obtain rfl : i = 0 := by omega
  rw [h2]
  simp at hy
  rw [h j y hy]
  rfl
end
end Go.Proofs.Ytjjgdjcapfenpaa
