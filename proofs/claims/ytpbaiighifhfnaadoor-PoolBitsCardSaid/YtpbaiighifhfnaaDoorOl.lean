/- Literals, makes and appends over abstract values; names that are forgotten, frozen or given to nil. No program stands in this text. Appends, parts of slices, conversions; names that are forgotten, frozen or given to nil; calls that bear names. No program stands in this text. Names that are given to nil, frozen, forgotten; results that lie in memory; parts of slices; texts and bytes. No program stands in this text. A row against nil. No program stands in this text. Scopes. No program stands in this text. -/
import Derived.Test.YtpbaiighifhfnaaDoorOe
import Derived.Scope
namespace Go.Proofs.YtpbaiighifhfnaaDoor
open Go.RowKit
set_option linter.unusedVariables false
set_option linter.unusedSimpArgs false

section
variable {P : Program} {o : Oper} {x y : Av} {R U : List (Nat × Hs)} {ρ : Operand → Av} {p q : Operand} {T : TypeId}

/-! ### Literals -/
def szB : Av → Nat → Bool
  | .agg ds, n => Nat.beq ds.length n
  | .val v, n => atomB v && Nat.beq n 1
  | .sl .., n | .ptr _, n | .clo .., n | .own .., n | .osl .., n => Nat.beq n 1
  | _, _ => false
def flatA : Av → List Av
  | .agg ds => ds
  | y => [y]
/-- The cells read so. -/
def RepC (E : Env) (cs : List Av) (cells : Array Value) : Prop := cs.length = cells.size ∧ ∀ (i : Nat) (y : Av), cs[i]? = some y → ∃ u : Value, cells[i]? = some u ∧ u.oneCell' = true ∧ Rep E y u
theorem flat_cells {E : Env} {y : Av} {v : Value} {n : Nat} (h : Rep E y v) (hs : szB y n = true) : v.cells.size = n ∧ (flatA y).length = n ∧ RepC E (flatA y) v.cells := by
  have one : v.oneCell' = true → n = 1 → flatA y = [y] → v.cells.size = n ∧ (flatA y).length = n ∧ RepC E (flatA y) v.cells := fun h1 h2 h3 => by
    rw [h3, cells_one h1, h2]
    refine ⟨rfl, rfl, rfl, fun i z hz => ?_⟩
    cases i with
    | zero => simp at hz; subst hz; exact ⟨v, rfl, h1, h⟩
    | succ i => simp at hz
  cases y with
  | agg ds =>
    unfold Rep at h
    obtain ⟨vs, rfl, h2, h3⟩ := h
    have hl := h2.length
    have hn : ds.length = n := by simpa [szB] using hs
    refine ⟨by simp [Value.cells, hl, hn], by simpa [flatA] using hn, by simp [flatA, Value.cells, hl], fun i z hz => ?_⟩
    obtain ⟨u, h4, h5⟩ := h2.get i z (by simpa [flatA] using hz)
    exact ⟨u, by simpa [Value.cells] using h4, h3 u (List.mem_of_getElem? h4), h5⟩
  | val u =>
    simp only [szB, Bool.and_eq_true] at hs
    have h' := h
    unfold Rep at h'
    exact one (by rw [h']; exact atomB_one hs.1) (Nat.eq_of_beq_eq_true hs.2) rfl
  | sl k m row => exact one (cells_sl E v h) (Nat.eq_of_beq_eq_true (by simpa [szB] using hs)) rfl
  | ptr z => exact one (cells_ptr E v h) (Nat.eq_of_beq_eq_true (by simpa [szB] using hs)) rfl
  | clo f cs => exact one (cells_clo E v h) (Nat.eq_of_beq_eq_true (by simpa [szB] using hs)) rfl
  | own m off => exact one (cells_own E v h) (Nat.eq_of_beq_eq_true (by simpa [szB] using hs)) rfl
  | osl k m len => exact one (cells_osl E v h) (Nat.eq_of_beq_eq_true (by simpa [szB] using hs)) rfl
  | _ => simp [szB] at hs
theorem fold_zip : ∀ (vs : List Value) (k off : Nat) (cells : Array Value), off + k + vs.length ≤ cells.size →
    ((vs.zipIdx k).foldl (fun cs (c : Value × Nat) => cs.setIfInBounds (off + c.2) c.1) cells).size = cells.size ∧
    (∀ i, i < off + k ∨ off + k + vs.length ≤ i → ((vs.zipIdx k).foldl (fun cs (c : Value × Nat) => cs.setIfInBounds (off + c.2) c.1) cells)[i]? = cells[i]?) ∧
    ∀ j u, vs[j]? = some u → ((vs.zipIdx k).foldl (fun cs (c : Value × Nat) => cs.setIfInBounds (off + c.2) c.1) cells)[off + k + j]? = some u
  | [], k, off, cells, h => ⟨rfl, fun _ _ => rfl, by simp⟩
  | v :: vs, k, off, cells, h => by
    simp only [List.length_cons] at h
    simp only [List.zipIdx_cons, List.foldl_cons]
    obtain ⟨h1, h2, h3⟩ := fold_zip vs (k + 1) off (cells.setIfInBounds (off + k) v) (by simp; omega)
    refine ⟨by simpa using h1, fun i hi => ?_, fun j u hu => ?_⟩
    · simp only [List.length_cons] at hi
      rw [h2 i (by omega), Array.getElem?_setIfInBounds_ne (by omega)]
    · cases j with
      | zero =>
        simp at hu
        subst hu
        rw [h2 _ (by omega)]
        simp [show off + k < cells.size from by omega]
      | succ j =>
        have := h3 j u (by simpa using hu)
        rwa [show off + (k + 1) + j = off + k + (j + 1) from by omega] at this
theorem repC_put {E : Env} {cs ds : List Av} {cells dc : Array Value} {off : Nat} (h : RepC E cs cells) (hd : RepC E ds dc) (hl : off + ds.length ≤ cs.length) : RepC E (putAt cs off ds) (dc.zipIdx.foldl (fun cs (c, j) => cs.setIfInBounds (off + j) c) cells) := by
  have hdl := hd.1
  have hcl := h.1
  obtain ⟨h1, h2, h3⟩ := fold_zip dc.toList 0 off cells (by simp; omega)
  have e : dc.zipIdx.foldl (fun cs (c, j) => cs.setIfInBounds (off + j) c) cells = ((dc.toList.zipIdx 0).foldl (fun cs (c : Value × Nat) => cs.setIfInBounds (off + c.2) c.1) cells) := by
    rw [← Array.foldl_toList, Array.toList_zipIdx]
  rw [e]
  refine ⟨by unfold putAt; simp; omega, fun i y hy => ?_⟩
  unfold putAt at hy
  rcases Nat.lt_or_ge i off with hi | hi
  · rw [List.append_assoc, List.getElem?_append_left (by rw [List.length_take]; omega), List.getElem?_take, if_pos hi] at hy
    rw [h2 i (.inl (by omega))]
    exact h.2 i y hy
  · rw [List.append_assoc, List.getElem?_append_right (by rw [List.length_take]; omega), List.length_take, Nat.min_eq_left (by omega)] at hy
    rcases Nat.lt_or_ge i (off + ds.length) with hi' | hi'
    · rw [List.getElem?_append_left (by omega)] at hy
      obtain ⟨u, h4, h5⟩ := hd.2 _ y hy
      have := h3 (i - off) u (by simpa using h4)
      rw [show off + 0 + (i - off) = i from by omega] at this
      exact ⟨u, this, h5⟩
    · rw [List.getElem?_append_right (by omega), List.getElem?_drop] at hy
      rw [h2 i (.inr (by simp; omega))]
      exact h.2 i y (by rw [← hy]; congr 1; omega)
def fillA (place : Nat → Option (Nat × Nat)) : List Av → List (Nat × Av) → List Av
  | cs, [] => cs
  | cs, (i, y) :: r => match place i with | some (off, _) => fillA place (putAt cs off (flatA y)) r | none => cs
def partsB (place : Nat → Option (Nat × Nat)) (N : Nat) : List (Nat × Av) → Bool
  | [] => true
  | (i, y) :: r => (match place i with | some (off, sz) => szB y sz && Nat.ble (off + sz) N | none => false) && partsB place N r
theorem putAt_len {cs ds : List Av} {off : Nat} (h : off + ds.length ≤ cs.length) : (putAt cs off ds).length = cs.length := by unfold putAt; simp; omega
theorem fill_ok {E : Env} {a : Act} {place : Nat → Option (Nat × Nat)} {N : Nat} : ∀ (parts : List (Nat × Operand)) (cs : List Av) (cells : Array Value), RepC E cs cells → cs.length = N → (∀ ip ∈ parts, Rep E (ρ ip.2) (a.eval ip.2)) → partsB place N (parts.map fun ip => (ip.1, ρ ip.2)) = true →
    ∃ cells', Instr.fill place cells (parts.map fun ip => (ip.1, a.eval ip.2)) = some cells' ∧ RepC E (fillA place cs (parts.map fun ip => (ip.1, ρ ip.2))) cells'
  | [], cs, cells, h, _, _, _ => ⟨cells, rfl, h⟩
  | (i, p) :: r, cs, cells, h, hN, hr, hp => by
    simp only [List.map_cons, partsB, Bool.and_eq_true] at hp
    obtain ⟨hp1, hp2⟩ := hp
    cases hpl : place i with
    | none => simp [hpl] at hp1
    | some os =>
      obtain ⟨off, sz⟩ := os
      simp only [hpl, Bool.and_eq_true] at hp1
      have hle := Nat.le_of_ble_eq_true hp1.2
      obtain ⟨h1, h2, h3⟩ := flat_cells (y := ρ p) (v := a.eval p) (hr (i, p) (by simp)) hp1.1
      have hput := repC_put h h3 (off := off) (by omega)
      obtain ⟨cells', h4, h5⟩ := fill_ok r _ _ hput (by rw [putAt_len (by omega), hN]) (fun ip hip => hr ip (by simp [hip])) hp2
      refine ⟨cells', ?_, by simpa [fillA, hpl] using h5⟩
      simp only [List.map_cons, Instr.fill, hpl]
      rw [if_neg (by simp only [Bool.or_eq_true, decide_eq_true_eq]; have := h.1; omega)]
      exact h4
def placesB (P : Program) (T : TypeId) : Option (List (Nat × Nat)) :=
  match P.underlying T with
  | some (.struct fs) => fs.toList.mapM fun f => (P.info? f.type).map fun i => (f.offset, i.size)
  | _ => none
theorem places_run {w : World} : ∀ (l : List Field) (pl : List (Nat × Nat)), (l.mapM fun f => (P.info? f.type).map fun i => (f.offset, i.size)) = some pl → (l.mapM fun f => (do pure (f.offset, ← sizeOf f.type) : Sem (Nat × Nat))).run P w = .ok pl w
  | [], pl, h => by simp at h; subst h; rfl
  | f :: l, pl, h => by
    cases hi : P.info? f.type with
    | none => simp [hi] at h
    | some i =>
      cases hl : (l.mapM fun f => (P.info? f.type).map fun i => (f.offset, i.size)) with
      | none => simp [hi, hl] at h
      | some r =>
        simp [hi, hl] at h
        subst h
        have hs : (do pure (f.offset, ← sizeOf f.type) : Sem (Nat × Nat)).run P w = .ok (f.offset, i.size) w := by simp [Sem.run_bind, sizeOf, typeInfo, hi]
        rw [List.mapM_cons, Sem.run_bind, hs, Result.andThen_ok, Sem.run_bind, places_run l r hl]
        rfl
/-- A struct out of its parts. -/
theorem oc_build {parts : List (Nat × Operand)} {pl : List (Nat × Nat)} {zs : List Value} {ds : List Av} (ho : o.op = .build T parts.toArray) (hz : zeroB P T = some zs) (ha : zs.all atomB = true) (hpl : placesB P T = some pl) (hp : partsB (pl[·]?) zs.length (parts.map fun ip => (ip.1, ρ ip.2)) = true)
    (hds : fillA (pl[·]?) (zs.map .val) (parts.map fun ip => (ip.1, ρ ip.2)) = ds) : OC P o ρ [] (.agg ds) [] := oc_read fun E a hG hr _ => by
  cases hi : P.info? T with
  | none => simp [zeroB, hi] at hz
  | some i =>
    cases hz0 : i.zero with
    | none => simp [zeroB, hi, hz0] at hz
    | some z =>
      simp [zeroB, hi, hz0] at hz
      subst hz
      have hRC : RepC E (z.cells.toList.map .val) z.cells := ⟨by simp, fun k y hy => by
        rw [List.getElem?_map] at hy
        cases hk : z.cells.toList[k]? with
        | none => simp [hk] at hy
        | some u =>
          simp [hk] at hy
          subst hy
          exact ⟨u, by simpa using hk, atomB_one ((List.all_eq_true.1 ha) u (List.mem_of_getElem? hk)), by unfold Rep; rfl⟩⟩
      obtain ⟨cells', h1, h2⟩ := fill_ok (a := a) (N := z.cells.toList.length) parts _ _ hRC (by simp) (fun ip hip => hr ip.2 (by simp [ho, Op.operands]; exact ⟨_, hip⟩)) (by simpa using hp)
      rw [hds] at h2
      unfold placesB at hpl
      cases hu : P.underlying T with
      | none => simp [hu] at hpl
      | some d =>
        cases d with
        | struct fs =>
          simp only [hu] at hpl
          have hpr := places_run (w := E.w) fs.toList pl hpl
          refine ⟨.agg cells', ?_, ?_⟩
          · have hm : (fs.mapM fun f => (do pure (f.offset, ← sizeOf f.type) : Sem (Nat × Nat))).run P E.w = .ok pl.toArray E.w := by
              rw [Array.mapM_eq_mapM_toList, map_eq_pure_bind, Sem.run_bind, hpr]
              rfl
            have hfill : Instr.fill (pl.toArray[·]?) z.cells ((parts.toArray.map fun (i, x) => (i, a.eval x)).toList) = some cells' := by
              have : (fun (n : Nat) => pl.toArray[n]?) = (fun (n : Nat) => pl[n]?) := by funext n; simp
              rw [this]
              simpa using h1
            have hzr : (zeroValue T).run P E.w = .ok z E.w := by simp [zeroValue, Sem.run_bind, typeInfo, hi, hz0]
            simp only [execOp, ho, Instr.build, Sem.run_bind, hzr, Sem.run_pure, Result.andThen_ok, run_underlying hu, hm, hfill]
          · unfold Rep
            refine ⟨cells'.toList, by simp, ?_, ?_⟩
            · have gen : ∀ (ds : List Av) (vs : List Value), ds.length = vs.length → (∀ (i : Nat) (y : Av), ds[i]? = some y → ∃ u : Value, vs[i]? = some u ∧ Rep E y u) → RepL E ds vs := by
                intro ds
                induction ds with
                | nil => intro vs hl _; unfold RepL; cases vs with | nil => rfl | cons => simp at hl
                | cons d ds ih =>
                  intro vs hl hh
                  cases vs with
                  | nil => simp at hl
                  | cons v vs =>
                    unfold RepL
                    refine ⟨v, vs, rfl, ?_, ih vs (by simpa using hl) fun i y hy => by simpa using hh (i + 1) y (by simpa using hy)⟩
                    obtain ⟨u, hu, h3⟩ := hh 0 d rfl
                    simp at hu
                    subst hu
                    exact h3
              refine gen ds _ (by simpa using h2.1) fun i y hy => ?_
              obtain ⟨u, h3, h4, h5⟩ := h2.2 i y hy
              exact ⟨u, by simpa using h3, h5⟩
            · intro u hu
              obtain ⟨i, hi', rfl⟩ := List.getElem_of_mem hu
              have hlt : i < ds.length := by have := h2.1; simp at hi'; omega
              obtain ⟨u', h3, h4, h5⟩ := h2.2 i ds[i] (List.getElem?_eq_getElem hlt)
              have : cells'[i]? = some cells'.toList[i] := by simp at hi' ⊢
              rw [this] at h3
              injection h3 with h3
              rw [h3]; exact h4
        | _ => simp [hu] at hpl
def eB (P : Program) (T : TypeId) : Option TypeId := match P.underlying T with | some (.slice e) => some e | _ => none
theorem eB_some {e : TypeId} (h : eB P T = some e) : P.underlying T = some (.slice e) := by
  unfold eB at h
  split at h
  · injection h with h; subst h; assumption
  · cases h
def infoB (P : Program) (e : TypeId) : Option (Nat × Nat × List Value) := (P.info? e).bind fun i => i.zero.map fun z => (i.size, i.bytes, z.cells.toList)
theorem infoB_some {e : TypeId} {k by_ : Nat} {zs : List Value} (h : infoB P e = some (k, by_, zs)) : ∃ i z, P.info? e = some i ∧ i.zero = some z ∧ i.size = k ∧ i.bytes = by_ ∧ z.cells.toList = zs := by
  unfold infoB at h
  cases hi : P.info? e with
  | none => simp [hi] at h
  | some i =>
    cases hz : i.zero with
    | none => simp [hi, hz] at h
    | some z =>
      simp [hi, hz] at h
      obtain ⟨rfl, rfl, rfl⟩ := h
      exact ⟨i, z, rfl, hz, rfl, rfl, rfl⟩
def seqParts (k : Nat) : List Operand → List (Nat × Operand)
  | [] => []
  | p :: r => (k, p) :: seqParts (k + 1) r
def szAll (k : Nat) : List Av → Bool
  | [] => true
  | y :: r => szB y k && szAll k r
theorem fill_seq {E : Env} {a : Act} {k : Nat} : ∀ (ps : List Operand) (j : Nat) (cells : Array Value), cells.size = (j + ps.length) * k → (∀ p ∈ ps, Rep E (ρ p) (a.eval p)) → szAll k (ps.map ρ) = true →
    ∃ cells', Instr.fill (fun i => some (i * k, k)) cells ((seqParts j ps).map fun ip => (ip.1, a.eval ip.2)) = some cells' ∧ cells'.size = cells.size ∧ (∀ i, i < j * k → cells'[i]? = cells[i]?) ∧
      ∀ m p, ps[m]? = some p → ∀ i u, (a.eval p).cells[i]? = some u → cells'[(j + m) * k + i]? = some u
  | [], j, cells, _, _, _ => ⟨cells, rfl, rfl, fun _ _ => rfl, by simp⟩
  | p :: ps, j, cells, hc, hr, hs => by
    simp only [List.map_cons, szAll, Bool.and_eq_true] at hs
    obtain ⟨h1, h2, h3⟩ := flat_cells (y := ρ p) (v := a.eval p) (hr p (by simp)) hs.1
    simp only [List.length_cons] at hc
    have hle : j * k + k ≤ cells.size := by rw [hc, ← Nat.succ_mul]; exact Nat.mul_le_mul_right _ (by omega)
    obtain ⟨f1, f2, f3⟩ := fold_zip (a.eval p).cells.toList 0 (j * k) cells (by simp; omega)
    have e : (a.eval p).cells.zipIdx.foldl (fun cs (c, i) => cs.setIfInBounds (j * k + i) c) cells = (((a.eval p).cells.toList.zipIdx 0).foldl (fun cs (c : Value × Nat) => cs.setIfInBounds (j * k + c.2) c.1) cells) := by
      rw [← Array.foldl_toList, Array.toList_zipIdx]
    rw [← e] at f1 f2 f3
    obtain ⟨cells', g1, g2, g3, g4⟩ := fill_seq ps (j + 1) _ (by rw [f1, hc]; congr 1; omega) (fun q hq => hr q (by simp [hq])) hs.2
    refine ⟨cells', ?_, by rw [g2, f1], fun i hi => ?_, fun m q hq i u hu => ?_⟩
    · simp only [seqParts, List.map_cons, Instr.fill]
      rw [if_neg (by simp only [Bool.or_eq_true, decide_eq_true_eq]; omega)]
      exact g1
    · rw [g3 i (by rw [Nat.succ_mul]; omega), f2 i (.inl (by omega))]
    · cases m with
      | zero =>
        simp at hq
        subst hq
        have hi : i < k := by have := (Array.getElem?_eq_some_iff.1 hu).1; omega
        rw [Nat.add_zero, g3 _ (by rw [Nat.succ_mul]; omega)]
        have := f3 i u (by simpa using hu)
        rwa [Nat.add_zero] at this
      | succ m =>
        have := g4 m q (by simpa using hq) i u hu
        rwa [show j + 1 + m = j + (m + 1) from by omega] at this
/-- What 'buildSlice' does. -/
theorem buildSlice_run {E : Env} {a : Act} {ps : List Operand} {e : TypeId} {k by_ : Nat} {zs : List Value} (w : World) (hT : eB P T = some e) (hi : infoB P e = some (k, by_, zs)) (hr : ∀ p ∈ ps, Rep E (ρ p) (a.eval p)) (hs : szAll k (ps.map ρ) = true) (hn : ps.length * k ≤ 16777216) :
    ∃ cells' : Array Value, (Instr.buildSlice T ps.length ((seqParts 0 ps).map fun ip => (ip.1, a.eval ip.2)).toArray).run P w = .ok (.slice (some ⟨w.heap.size, 0, none⟩) ps.length ps.length) (w.alloc (.cells cells' e)) ∧ cells'.size = ps.length * k ∧
      ∀ m p, ps[m]? = some p → ∀ i u, (a.eval p).cells[i]? = some u → cells'[m * k + i]? = some u := by
  obtain ⟨i, z, h1, h2, rfl, rfl, rfl⟩ := infoB_some hi
  have hsz : (sizeOf e).run P w = .ok i.size w := by simp [sizeOf, Sem.run_bind, typeInfo, h1]
  have hzr : (zeroValue e).run P w = .ok z w := by simp [zeroValue, Sem.run_bind, typeInfo, h1, h2]
  have fin : ∀ z0 : Array Value, ∃ cells' : Array Value, Instr.fill (fun j => some (j * i.size, i.size)) ((Array.range (ps.length * i.size)).map (z0[· % z0.size]!)) (((seqParts 0 ps).map fun ip => (ip.1, a.eval ip.2)).toArray.toList) = some cells' ∧ cells'.size = ps.length * i.size ∧
      ∀ m p, ps[m]? = some p → ∀ j u, (a.eval p).cells[j]? = some u → cells'[m * i.size + j]? = some u := fun z0 => by
    obtain ⟨c, g1, g2, g3, g4⟩ := fill_seq (ρ := ρ) (k := i.size) ps 0 ((Array.range (ps.length * i.size)).map (z0[· % z0.size]!)) (by simp) hr hs
    exact ⟨c, by simpa using g1, by simpa using g2, fun m p hp j u hu => by simpa using g4 m p hp j u hu⟩
  have hlim : ¬ ps.length * i.size > 2 ^ 24 := by omega
  by_cases h0 : ps.length * i.size = 0
  · obtain ⟨c, g1, g2, g3⟩ := fin #[]
    refine ⟨c, ?_, g2, g3⟩
    simp only [Instr.buildSlice, Sem.run_bind, run_underlying (eB_some hT), Result.andThen_ok, hsz, if_neg hlim, if_pos h0, Sem.run_pure, g1, newRow_run]
  · obtain ⟨c, g1, g2, g3⟩ := fin z.cells
    refine ⟨c, ?_, g2, g3⟩
    simp only [Instr.buildSlice, Sem.run_bind, run_underlying (eB_some hT), Result.andThen_ok, hsz, if_neg hlim, if_neg h0, hzr, Sem.run_pure, g1, newRow_run]
def rowL (l : List Av) : Nat → Av := fun j => l.getD j .any
theorem seq_mem {p : Operand} : ∀ (ps : List Operand) (j : Nat), p ∈ ps → ∃ i, (i, p) ∈ seqParts j ps
  | [], j, h => by simp at h
  | q :: r, j, h => by
    rcases List.mem_cons.1 h with rfl | h
    · exact ⟨j, by simp [seqParts]⟩
    · obtain ⟨i, hi⟩ := seq_mem r (j + 1) h
      exact ⟨i, by simp [seqParts, hi]⟩
theorem szAll_get {k : Nat} : ∀ (l : List Av), szAll k l = true → ∀ y ∈ l, szB y k = true
  | z :: l, h, y, hy => by
    simp only [szAll, Bool.and_eq_true] at h
    rcases List.mem_cons.1 hy with rfl | hy
    · exact h.1
    · exact szAll_get l h.2 y hy
/-- A literal slice that is never written to. -/
theorem oc_buildSlice {ps : List Operand} {xs : List Av} {e : TypeId} {k by_ n : Nat} {zs : List Value} (ho : o.op = .buildSlice T n (seqParts 0 ps).toArray) (hT : eB P T = some e) (hi : infoB P e = some (k, by_, zs)) (hxs : ps.map ρ = xs) (hs : szAll k xs = true) (hn : ps.length = n) (hl : n * k ≤ 16777216) (hm : n ≤ 16777216) : OC P o ρ [] (.sl k n (rowL xs)) [] := oc_grow fun E a hG hr => by
  subst hxs hn
  have hr' : ∀ p ∈ ps, Rep E (ρ p) (a.eval p) := fun p hp => hr p (by
    obtain ⟨i, hi⟩ := seq_mem ps 0 hp
    simp [ho, Op.operands]
    exact ⟨i, hi⟩)
  obtain ⟨cells', h1, h2, h3⟩ := buildSlice_run E.w hT hi hr' hs hl
  have hB : Below E.w.heap.size E.w (E.w.alloc (.cells cells' e)) := (Below.refl _ _).alloc (Nat.le_refl _) _
  refine ⟨.slice (some ⟨E.w.heap.size, 0, none⟩) ps.length ps.length, E.w.alloc (.cells cells' e), ?_, hB, ?_⟩
  · have : ((seqParts 0 ps).toArray.map fun (i, x) => (i, a.eval x)) = ((seqParts 0 ps).map fun ip => (ip.1, a.eval ip.2)).toArray := by simp
    simp only [execOp, ho, this, Sem.run_bind, h1, Result.andThen_ok, Sem.run_pure]
  · unfold Rep
    refine ⟨some ⟨E.w.heap.size, 0, none⟩, ps.length, rfl, Nat.le_refl _, by unfold maxLen; omega, fun hn => ⟨E.w.heap.size, 0, rfl, ⟨by simp, fun hb => ?_, fun n hn => ?_⟩, fun j hj => ?_⟩⟩
    · have := hG.old _ hb; omega
    · have := (hG.lt n _ hn).1; omega
    · obtain ⟨p, hp⟩ : ∃ p, ps[j]? = some p := ⟨ps[j], List.getElem?_eq_getElem hj⟩
      have hpm := List.mem_of_getElem? hp
      have hrow : rowL (ps.map ρ) j = ρ p := by simp [rowL, hp]
      obtain ⟨h4, h5, h6⟩ := flat_cells (hr' p hpm) (szAll_get _ hs _ (List.mem_map.2 ⟨p, hpm, rfl⟩))
      rw [hrow]
      refine ⟨a.eval p, Rep.step (Step.grow hG hB) _ _ (hr' p hpm), h4, fun i u hu => ?_⟩
      rw [Nat.zero_add, cell_cur (heap_alloc_new _ _)]
      exact h3 j p hp i u (by simpa using hu)
/-- A literal slice of the call's own (elements of one cell). -/
theorem oc_buildSlice_own {ps : List Operand} {xs : List Av} {e : TypeId} {by_ n : Nat} {zs : List Value} (m : Nat) (ho : o.op = .buildSlice T n (seqParts 0 ps).toArray) (hT : eB P T = some e) (hi : infoB P e = some (1, by_, zs)) (hxs : ps.map ρ = xs) (hs : szAll 1 xs = true) (hf : xs.all (fun y => Nat.beq (flatA y).length 1) = true) (hn : ps.length = n) (hm : n ≤ 16777216) :
    OC P o ρ [(m, .unborn)] (.osl 1 m n) [(m, .live e (xs.flatMap flatA))] := by
  intro E a hG hr hH
  have hu : E.loc m = .unborn := hH m .unborn (by simp)
  subst hxs hn
  have hr' : ∀ p ∈ ps, Rep E (ρ p) (a.eval p) := fun p hp => hr p (by
    obtain ⟨i, hi⟩ := seq_mem ps 0 hp
    simp [ho, Op.operands]
    exact ⟨i, hi⟩)
  obtain ⟨cells', h1, h2, h3⟩ := buildSlice_run E.w hT hi hr' hs (by omega)
  have hB : Below E.w.heap.size E.w (E.w.alloc (.cells cells' e)) := (Below.refl _ _).alloc (Nat.le_refl _) _
  have : ((seqParts 0 ps).toArray.map fun (i, x) => (i, a.eval x)) = ((seqParts 0 ps).map fun ip => (ip.1, a.eval ip.2)).toArray := by simp
  unfold grows execOp
  simp only [ho, this, Sem.run_bind, h1, Result.andThen_ok, Sem.run_pure, growUpon]
  have flat1 : ∀ (l : List Av), szAll 1 l = true → l.flatMap flatA = l ∨ True := fun _ _ => .inr trivial
  refine post_give hG hu hB (Nat.le_refl _) (heap_alloc_new _ _) (fun j y hy => ?_) ?_
  · have idx : ∀ (l : List Av), szAll 1 l = true → ∀ (j : Nat) (y : Av), (l.flatMap flatA)[j]? = some y → ∃ z, l[j]? = some z ∧ flatA z = [y] := by
      intro l
      induction l with
      | nil => intro _ j y h; simp at h
      | cons z l ih =>
        intro h j y hy
        simp only [szAll, Bool.and_eq_true] at h
        have hz : (flatA z).length = 1 := by
          cases z <;> simp_all [szB, flatA]
        obtain ⟨z', hz'⟩ := List.length_eq_one_iff.1 hz
        rw [List.flatMap_cons, hz'] at hy
        cases j with
        | zero => simp at hy; subst hy; exact ⟨z, rfl, hz'⟩
        | succ j => simpa using ih h.2 j y (by simpa using hy)
    obtain ⟨z, hz, hzy⟩ := idx _ hs j y hy
    rw [List.getElem?_map] at hz
    cases hp : ps[j]? with
    | none => simp [hp] at hz
    | some p =>
      simp [hp] at hz
      subst hz
      have hpm := List.mem_of_getElem? hp
      obtain ⟨h4, h5, h6, h7⟩ := flat_cells (hr' p hpm) (szAll_get _ hs _ (List.mem_map.2 ⟨p, hpm, rfl⟩))
      obtain ⟨u, h8, h9, h10⟩ := h7 0 y (by rw [hzy]; rfl)
      exact ⟨u, by have := h3 j p hp 0 u h8; simpa using this, h9, h10⟩
  · unfold Rep
    refine ⟨⟨by simp [Env.give], ⟨_, _, rfl⟩, fun hn => by simp [Env.give] at hn⟩, fun b hb => ?_⟩
    simp [Env.give] at hb
    subst hb
    exact ⟨ps.length, cells', e, rfl, Nat.le_refl _, by unfold maxLen; omega, heap_alloc_new _ _, by omega⟩
/-- 'make([]T, m)' of elements of one cell. -/
theorem oc_makeSlice {e : TypeId} {by_ m : Nat} {z : Value} {k1 k2 : IntKind} {l : Int} (n : Nat) (ho : o.op = .makeSlice T p q) (hp : ρ p = .val (.int k1 l)) (hq : ρ q = .val (.int k2 l)) (hl : l = (m : Int)) (hT : eB P T = some e) (hi : infoB P e = some (1, by_, [z])) (hz : atomB z = true) (hb : by_ * m ≤ 281474976710656) (hm : m ≤ 9223372036854775807) :
    OC P o ρ [(n, .unborn)] (.osl 1 n m) [(n, .live e (List.replicate m (.val z)))] := by
  intro E a hG hr hH
  have hu : E.loc n = .unborn := hH n .unborn (by simp)
  have h1 := hr p (by simp [ho, Op.operands])
  have h2 := hr q (by simp [ho, Op.operands])
  rw [hp] at h1
  rw [hq] at h2
  unfold Rep at h1 h2
  subst hl
  obtain ⟨i, z', g1, g2, g3, g4, g5⟩ := infoB_some hi
  have hb' : (i.bytes : Int) * (m : Int) ≤ 281474976710656 := by
    have : ((i.bytes * m : Nat) : Int) ≤ 281474976710656 := by rw [g4]; omega
    rwa [Int.natCast_mul] at this
  have hrun := run_make (P := P) E.w T e i z' (eB_some hT) g1 g2 k1 k2 m m (by omega) (Int.le_refl _) hb' (by omega)
  unfold grows execOp
  simp only [ho, h1, h2, Sem.run_bind, hrun, Result.andThen_ok, Sem.run_pure, growUpon, Int.toNat_natCast, g3, Nat.mul_one]
  have hzc : z'.cells = #[z] := by rw [← Array.toList_inj]; exact g5
  refine post_give hG hu ((Below.refl _ _).alloc (Nat.le_refl _) _) (Nat.le_refl _) (heap_alloc_new _ _) (fun j y hy => ?_) ?_
  · rw [List.getElem?_replicate] at hy
    split at hy
    · rename_i hj
      injection hy with hy
      subst hy
      exact ⟨z, by simp [madeCells, hzc, hj, Nat.mod_one], atomB_one hz, by unfold Rep; rfl⟩
    · cases hy
  · unfold Rep
    refine ⟨⟨by simp [Env.give], ⟨_, _, rfl⟩, fun hn => by simp [Env.give] at hn⟩, fun b hb => ?_⟩
    simp [Env.give] at hb
    subst hb
    exact ⟨m, _, e, rfl, Nat.le_refl _, by unfold maxLen; omega, heap_alloc_new _ _, by rw [size_madeCells, Nat.mul_one]⟩
end
end Go.Proofs.YtpbaiighifhfnaaDoor
namespace Go.Proofs.YtpbaiighifhfnaaDoor
open Go.RowKit
set_option linter.unusedVariables false
set_option linter.unusedSimpArgs false

section
variable {P : Program} {o : Oper} {x y : Av} {R U : List (Nat × Hs)} {ρ : Operand → Av} {p q : Operand} {T : TypeId}

/-- A row of the call's own, as append's laws ask it. -/
theorem own_row {E : Env} {k n len : Nat} {t : TypeId} {cs : List Av} {v : Value} (hv : Rep E (.osl k n len) v) (hn : HAt E n (.live t cs)) (hl : cs.length = len * k) :
    ∃ xs : List Value, E.w.ownsRow 0 t k v len xs ∧ RepL E cs xs ∧ (∀ u ∈ xs, u.oneCell' = true) ∧ ((E.loc n = .nil ∧ v = .slice none 0 0) ∨ ∃ b, E.loc n = .at b ∧ v.ownBlock = some b) := by
  unfold Rep at hv
  rcases hn with ⟨h1, rfl⟩ | ⟨b, cur, h1, h2, h3⟩
  · obtain ⟨rfl, rfl⟩ := hv.1.2.2 h1
    exact ⟨[], ⟨by simp, .inl ⟨rfl, rfl⟩⟩, by unfold RepL; rfl, by simp, .inl ⟨h1, rfl⟩⟩
  · obtain ⟨c, cur', t', h4, h5, h6, h7, h8⟩ := hv.2 b h1
    rw [h2] at h7
    injection h7 with h7
    injection h7 with h7 h9
    subst h7; subst h9
    obtain ⟨xs, g1, g2, g3⟩ := cells_list (E := E) (cur := cur) cs 0 fun i y hy => by simpa using h3 i y hy
    have hle : len * k ≤ cur.size := by rw [h8]; exact Nat.mul_le_mul_right _ h5
    have hxs : cur.toList.take (len * k) = xs := by
      apply List.ext_getElem?
      intro i
      rw [List.getElem?_take]
      by_cases hi : i < len * k
      · rw [if_pos hi]
        have hx : i < xs.length := by rw [g1.length]; omega
        have := g3 i xs[i] (List.getElem?_eq_getElem hx)
        rw [List.getElem?_eq_getElem hx, ← this]
        simp
      · rw [if_neg hi, List.getElem?_eq_none (by rw [g1.length]; omega)]
    exact ⟨xs, ⟨by rw [g1.length, hl], .inr ⟨b, c, cur, h4, Nat.zero_le _, h2, h5, h6, h8, hxs⟩⟩, g1, g2, .inr ⟨b, h1, by rw [h4]; rfl⟩⟩
theorem RepL.stepL {E E' : Env} {N : List Nat} (h : Step E E' N) {xs : List Av} {vs : List Value} (hr : RepL E xs vs) : RepL E' xs vs := RepL.step h _ _ hr
theorem RepL.append {E : Env} : ∀ {xs ys : List Av} {us vs : List Value}, RepL E xs us → RepL E ys vs → RepL E (xs ++ ys) (us ++ vs)
  | [], ys, us, vs, h, k => by unfold RepL at h; subst h; exact k
  | x :: xs, ys, us, vs, h, k => by
    unfold RepL at h
    obtain ⟨v, us', rfl, h1, h2⟩ := h
    simp only [List.cons_append]
    unfold RepL
    exact ⟨v, _, rfl, h1, h2.append k⟩
/-- What an append onto a named row leaves. -/
theorem post_append {E : Env} (hG : Good E) {k n m len' : Nat} {t : TypeId} {cs ds : List Av} {v v' : Value} {xs ys : List Value} {w' : World} (hnm : n ≠ m) (hm : E.loc m = .unborn) (hn0 : E.loc n ≠ .unborn) (hx : RepL E cs xs) (hy : RepL E ds ys) (hx1 : ∀ u ∈ xs, u.oneCell' = true) (hy1 : ∀ u ∈ ys, u.oneCell' = true)
    (hv : (E.loc n = .nil ∧ v = .slice none 0 0) ∨ ∃ b, E.loc n = .at b ∧ v.ownBlock = some b) (hown : w'.ownsRow 0 t k v' len' (xs ++ ys)) (hg : E.w.grownBy w' v.ownBlock) (hb : v'.ownBlock = v.ownBlock ∨ v'.ownBlock = some E.w.heap.size) :
    Post E (.osl k m len') [(n, .dead), (m, .live t (cs ++ ds))] v' w' := by
  let L : Loc := match v'.ownBlock with | some b => .at b | none => .nil
  let E' : Env := { w := w', loc := fun i => if i = m then L else if i = n then .dead else E.loc i, bad := E.bad }
  have hLn : L = .nil ↔ v'.ownBlock = none := by
    show (match v'.ownBlock with | some b => Loc.at b | none => .nil) = .nil ↔ _
    cases v'.ownBlock <;> simp
  have hLa : ∀ b, L = .at b ↔ v'.ownBlock = some b := fun b => by
    show (match v'.ownBlock with | some b => Loc.at b | none => .nil) = .at b ↔ _
    cases v'.ownBlock <;> simp
  have hem : E'.loc m = L := by simp [E']
  have hen : E'.loc n = .dead := by simp [E', hnm]
  have heo : ∀ i, i ≠ m → i ≠ n → E'.loc i = E.loc i := fun i h1 h2 => by simp [E', h1, h2]
  have hvb : ∀ b, v.ownBlock = some b → E.loc n = .at b := fun b hb => by
    rcases hv with ⟨_, rfl⟩ | ⟨c, h1, h2⟩
    · simp [Value.ownBlock] at hb
    · rw [h2] at hb; injection hb with hb; rw [← hb]; exact h1
  have hnew : ∀ b, L = .at b → E.loc n = .at b ∨ b = E.w.heap.size := fun b hL => by
    rcases hb with h1 | h1
    · exact .inl (hvb b (by rw [← h1]; exact (hLa b).1 hL))
    · have := (hLa b).1 hL
      rw [h1] at this
      injection this with this
      exact .inr this.symm
  have hS : Step E E' [n, m] := by
    refine ⟨hg.os, hg.tape, hg.output, hg.size, rfl, fun b hlt hno => hg.block b hlt fun e => hno n (hvb b e.symm), fun i hi => ?_, fun i hi => ?_, fun i b hi => ?_, fun i hi => ?_, fun i b cur t0 hi hi' hc => ?_⟩
    · simp only [List.mem_cons, List.not_mem_nil, or_false, not_or] at hi
      refine ⟨heo i hi.2 hi.1, fun b hb => hg.block b (hG.lt i b hb).1 fun e => hi.1 (hG.inj i n b hb (hvb b e.symm))⟩
    · by_cases h1 : i = m
      · subst h1; exact absurd hm hi
      · by_cases h2 : i = n
        · subst h2; rw [hen]; simp
        · rw [heo i h1 h2]; exact hi
    · by_cases h1 : i = m
      · subst h1
        rw [hem] at hi
        refine .inr ⟨hm, ?_⟩
        rcases hnew b hi with h3 | h3
        · exact .inr ⟨n, h3⟩
        · exact .inl (by omega)
      · by_cases h2 : i = n
        · subst h2; rw [hen] at hi; cases hi
        · rw [heo i h1 h2] at hi; exact .inl hi
    · by_cases h1 : i = m
      · subst h1; exact .inr hm
      · by_cases h2 : i = n
        · subst h2; rw [hen] at hi; cases hi
        · rw [heo i h1 h2] at hi; exact .inl hi
    · by_cases h1 : i = m
      · subst h1; rw [hm] at hi'; cases hi'
      · by_cases h2 : i = n
        · subst h2; rw [hen] at hi; cases hi
        · exact ⟨cur, (hg.block b (hG.lt i b hi').1 fun e => h2 (hG.inj i n b hi' (hvb b e.symm))).trans hc, rfl⟩
  have hform : (v' = .slice none 0 0 ∧ len' = 0) ∨ ∃ g cap cur, v' = .slice (some ⟨g, 0, none⟩) len' cap ∧ 0 ≤ g ∧ w'.heap[g]? = some (.cells cur t (0, 0)) ∧ len' ≤ cap ∧ cap ≤ maxLen ∧ cur.size = cap * k ∧ cur.toList.take (len' * k) = xs ++ ys := hown.2
  refine ⟨E', rfl, hS, ⟨fun b hbad => Nat.lt_of_lt_of_le (hG.old b hbad) hg.size, fun i j b hi hj => ?_, fun i b hi => ?_, hG.shp.step hS⟩, ?_, fun i z hz => ?_⟩
  · have key : ∀ i, i ≠ m → E'.loc i = .at b → E'.loc m = .at b → False := fun i h1 hi hmm => by
      rw [hem] at hmm
      by_cases h2 : i = n
      · subst h2; rw [hen] at hi; cases hi
      · rw [heo i h1 h2] at hi
        rcases hnew b hmm with h3 | h3
        · exact h2 (hG.inj i n b hi h3)
        · have := (hG.lt i b hi).1; omega
    by_cases h1 : i = m
    · by_cases h2 : j = m
      · rw [h1, h2]
      · exact (key j h2 hj (h1 ▸ hi)).elim
    · by_cases h2 : j = m
      · exact (key i h1 hi (h2 ▸ hj)).elim
      · by_cases h3 : i = n
        · subst h3; rw [hen] at hi; cases hi
        · by_cases h4 : j = n
          · subst h4; rw [hen] at hj; cases hj
          · rw [heo i h1 h3] at hi
            rw [heo j h2 h4] at hj
            exact hG.inj i j b hi hj
  · by_cases h1 : i = m
    · subst h1
      rw [hem] at hi
      have hvb' := (hLa b).1 hi
      rcases hform with ⟨h2, _⟩ | ⟨g, cap, cur, h2, _, h3, _⟩
      · rw [h2] at hvb'; simp [Value.ownBlock] at hvb'
      · rw [h2] at hvb'
        simp [Value.ownBlock] at hvb'
        subst hvb'
        refine ⟨(Array.getElem?_eq_some_iff.1 h3).1, fun hbad => ?_⟩
        rcases hnew g hi with h4 | h4
        · exact (hG.lt n g h4).2 hbad
        · have := hG.old g hbad; omega
    · by_cases h2 : i = n
      · subst h2; rw [hen] at hi; cases hi
      · rw [heo i h1 h2] at hi
        exact ⟨Nat.lt_of_lt_of_le (hG.lt i b hi).1 hg.size, (hG.lt i b hi).2⟩
  · unfold Rep
    rw [hem]
    rcases hform with ⟨h2, h3⟩ | ⟨g, cap, cur, h2, _, h3, h4, h5, h6, _⟩
    · have hno : v'.ownBlock = none := by rw [h2]; rfl
      refine ⟨⟨fun h => ?_, ⟨none, 0, by rw [h2, h3]⟩, fun _ => ⟨h2, h3⟩⟩, fun b hL => ?_⟩
      · rw [hLn.2 hno] at h; cases h
      · rw [hLn.2 hno] at hL; cases hL
    · have hso : v'.ownBlock = some g := by rw [h2]; rfl
      have hLg := (hLa g).2 hso
      refine ⟨⟨fun h => (by rw [hLg] at h; cases h), ⟨_, _, h2⟩, fun h => (by rw [hLg] at h; cases h)⟩, fun b hL => ?_⟩
      rw [hLg] at hL
      injection hL with hL
      subst hL
      exact ⟨cap, cur, t, h2, h4, h5, h3, h6⟩
  · have hall := (RepL.append hx hy).stepL hS
    simp only [lkH] at hz
    cases h1 : Nat.beq n i with
    | true =>
      rw [h1] at hz
      simp at hz
      subst hz
      obtain rfl := Nat.eq_of_beq_eq_true h1
      exact hen
    | false =>
      rw [h1] at hz
      cases h2 : Nat.beq m i with
      | false => rw [h2] at hz; simp at hz
      | true =>
        rw [h2] at hz
        simp at hz
        subst hz
        obtain rfl := Nat.eq_of_beq_eq_true h2
        rcases hform with ⟨h3, h4⟩ | ⟨g, cap, cur, h3, _, h4, h5, h6, h7, h8⟩
        · have hno : v'.ownBlock = none := by rw [h3]; rfl
          refine .inl ⟨by rw [hem]; exact hLn.2 hno, ?_⟩
          have hl := hown.1
          rw [h4, Nat.zero_mul] at hl
          have := (RepL.append hx hy).length
          exact List.eq_nil_of_length_eq_zero (by omega)
        · have hso : v'.ownBlock = some g := by rw [h3]; rfl
          refine .inr ⟨g, cur, by rw [hem]; exact (hLa g).2 hso, h4, fun j z hz => ?_⟩
          obtain ⟨u, h9, h10⟩ := hall.get j z hz
          refine ⟨u, ?_, ?_, h10⟩
          · rw [← h8, List.getElem?_take] at h9
            split at h9
            · simpa using h9
            · cases h9
          · rcases List.mem_append.1 (List.mem_of_getElem? h9) with h11 | h11
            · exact hx1 u h11
            · exact hy1 u h11
theorem run_appK {t e ty : TypeId} {w : World} {i : TypeInfo} {z : Value} {k by_ : Nat} (hT : P.underlying t = some (.slice e)) (hi : P.info? e = some i) (hz : i.zero = some z) (hk : i.size = k) (hby : i.bytes = by_) (hzk : z.cells.size = k) (h0 : 0 < k) {v : Value} {n : Nat} {xs : List Value} (hown : w.ownsRow 0 e k v n xs)
    {A : Option Addr} {m c : Nat} {news : List Value} (hl : news.length = m * k) (hA : 0 < m → ∃ b off, A = some ⟨b, off, none⟩ ∧ ∀ j u, news[j]? = some u → w.cell? ⟨b, off + j, none⟩ = some u) (h1 : ∀ u ∈ news, u.oneCell' = true) (hb : (n + m) * by_ ≤ 140737488355328) (h63 : n + m ≤ 9223372036854775807) :
    ∃ v' w', (Builtin.append_ #[t, t] ty #[v, .slice A m c]).run P w = .ok v' w' ∧ w'.ownsRow 0 e k v' (n + m) (xs ++ news) ∧ w.grownBy w' v.ownBlock ∧ (v'.ownBlock = v.ownBlock ∨ v'.ownBlock = some w.heap.size) := by
  by_cases hm : m = 0
  · subst hm
    have hn : news = [] := List.eq_nil_of_length_eq_zero (by simpa using hl)
    subst hn
    refine ⟨v, w, ?_, by simpa using hown, World.grownBy.refl w _, .inl rfl⟩
    rcases A with _ | ad
    · rcases hown.2 with ⟨rfl, _⟩ | ⟨g, cap, cur, rfl, _, _, hnc, _⟩
      · simp [Builtin.append_, run_underlying hT, sizeOf, typeInfo, hi, Builtin.lenOf, Builtin.firstCells]
      · simp [Builtin.append_, run_underlying hT, sizeOf, typeInfo, hi, Builtin.lenOf, Builtin.firstCells, hnc, storeCells]
    · have hf : ∀ s : Nat, (Builtin.firstCells s 0 (.slice (some ad) 0 c)).run P w = .ok #[] w := fun s => by
        have := run_firstCells_some (P := P) w s 0 ad 0 c [] (by simp) (by simp)
        simpa using this
      have hn : ∀ s : Nat, (Builtin.firstCells s 0 (.slice none 0 0)).run P w = .ok #[] w := fun s => run_firstCells_none w s 0 0 0
      rcases hown.2 with ⟨rfl, _⟩ | ⟨g, cap, cur, rfl, _, _, hnc, _⟩
      · simp [Builtin.append_, run_underlying hT, sizeOf, typeInfo, hi, Builtin.lenOf, hf]
      · simp [Builtin.append_, run_underlying hT, sizeOf, typeInfo, hi, Builtin.lenOf, hf, hnc, storeCells]
  · obtain ⟨b, off, rfl, hc⟩ := hA (by omega)
    obtain ⟨v', w', r, h2, h3, _, h5⟩ := run_append_own_at (P := P) w 0 t ty e i z k by_ hT hi hz hk hby hzk h0 v n xs hown ⟨b, off, none⟩ m c news hl
      (fun j u hu => by rw [Addr.add_lit]; exact hc j u hu) h1 (by simp only [maxLen]; omega) hb (Nat.zero_le _)
    exact ⟨v', w', r, h2, h3, h5⟩
theorem append_exec {t : TypeId} {a : Act} {w : World} (ho : o.op = .call { callee := .builtin .append, args := #[p, q], argTypes := #[t, t] }) {v' : Value} {w' : World} (hrun : (Builtin.append_ #[t, t] o.type #[a.eval p, a.eval q]).run P w = .ok v' w') : (execOp a.eval o).run P w = .ok (.value v') w' := by
  unfold execOp
  simp only [ho, resolve, invoke, builtin, Sem.run_bind, Sem.run_pure, Result.andThen_ok, List.map_toArray, List.map_cons, List.map_nil, hrun]
/-- 'append(own, tree...)'. ds: what the tree's elements are, flat. -/
theorem oc_append {e : TypeId} {k by_ n len l : Nat} {row : Nat → Av} {cs ds : List Av} {zs : List Value} (m : Nat) (ho : o.op = .call { callee := .builtin .append, args := #[p, q], argTypes := #[T, T] }) (hp : ρ p = .osl k n len) (hq : ρ q = .sl k l row) (hT : eB P T = some e) (hi : infoB P e = some (k, by_, zs)) (hzl : zs.length = k) (h0 : 0 < k) (hnm : n ≠ m) (hl : cs.length = len * k)
    (hds : ds.length = l * k) (hrow : ∀ j, j < l → szB (row j) k = true ∧ ∀ i y, i < k → ds[j * k + i]? = some y → (flatA (row j))[i]? = some y) (hb : (len + l) * by_ ≤ 140737488355328) (h63 : len + l ≤ 9223372036854775807) : OC P o ρ [(n, .live e cs), (m, .unborn)] (.osl k m (len + l)) [(n, .dead), (m, .live e (cs ++ ds))] := by
  intro E a hG hr hH
  have h1 := hr p (by simp [ho, Op.operands, Call.operands])
  have h2 := hr q (by simp [ho, Op.operands, Call.operands])
  rw [hp] at h1
  rw [hq] at h2
  have hn := hH n (.live e cs) (by simp)
  have hu : E.loc m = .unborn := hH m .unborn (by simp)
  obtain ⟨xs, g1, g2, g3, g4⟩ := own_row h1 hn hl
  obtain ⟨i, z, i1, i2, i3, i4, i5⟩ := infoB_some hi
  unfold Rep at h2
  obtain ⟨A, c, h3, h4, h5, h6⟩ := h2
  obtain ⟨ys, y1, y2, y3⟩ : ∃ ys : List Value, RepL E ds ys ∧ (∀ u ∈ ys, u.oneCell' = true) ∧ (0 < l → ∃ b off, A = some ⟨b, off, none⟩ ∧ ∀ j u, ys[j]? = some u → E.w.cell? ⟨b, off + j, none⟩ = some u) := by
    by_cases hl0 : l = 0
    · subst hl0
      have : ds = [] := List.eq_nil_of_length_eq_zero (by simpa using hds)
      subst this
      exact ⟨[], by unfold RepL; rfl, by simp, fun h => by omega⟩
    · obtain ⟨b, off, hA, hok, hel⟩ := h6 (by omega)
      have cell : ∀ (j : Nat) (y : Av), ds[j]? = some y → ∃ u, E.w.cell? ⟨b, off + j, none⟩ = some u ∧ u.oneCell' = true ∧ Rep E y u := fun j y hy => by
        have hj := (List.getElem?_eq_some_iff.1 hy).1
        have hjl : j / k < l := by rw [Nat.div_lt_iff_lt_mul h0]; omega
        have hji : j % k < k := Nat.mod_lt _ h0
        have hjj : j / k * k + j % k = j := by rw [Nat.mul_comm]; exact Nat.div_add_mod j k
        obtain ⟨hs, hf⟩ := hrow (j / k) hjl
        have hfy := hf (j % k) y hji (by rw [hjj]; exact hy)
        obtain ⟨u, h8, h9, h10⟩ := hel (j / k) hjl
        obtain ⟨_, _, _, h11⟩ := flat_cells h8 hs
        obtain ⟨u', h12, h13, h14⟩ := h11 _ y hfy
        refine ⟨u', ?_, h13, h14⟩
        have := h10 (j % k) u' (by simpa using h12)
        rwa [Nat.add_assoc, hjj] at this
      have build : ∀ (ds : List Av) (s : Nat), (∀ (j : Nat) (y : Av), ds[j]? = some y → ∃ u, E.w.cell? ⟨b, off + (s + j), none⟩ = some u ∧ u.oneCell' = true ∧ Rep E y u) → ∃ ys : List Value, RepL E ds ys ∧ (∀ u ∈ ys, u.oneCell' = true) ∧ ∀ j u, ys[j]? = some u → E.w.cell? ⟨b, off + (s + j), none⟩ = some u := by
        intro ds
        induction ds with
        | nil => intro s _; exact ⟨[], by unfold RepL; rfl, by simp, by simp⟩
        | cons d ds ih =>
          intro s hh
          obtain ⟨u, k1, k2, k3⟩ := hh 0 d rfl
          obtain ⟨ys, k4, k5, k6⟩ := ih (s + 1) fun j y hy => by have := hh (j + 1) y (by simpa using hy); rwa [show s + 1 + j = s + (j + 1) from by omega]
          refine ⟨u :: ys, by unfold RepL; exact ⟨u, ys, rfl, k3, k4⟩, fun v hv => ?_, fun j v hv => ?_⟩
          · rcases List.mem_cons.1 hv with rfl | hv
            · exact k2
            · exact k5 v hv
          · cases j with
            | zero => simp at hv; subst hv; exact k1
            | succ j => have := k6 j v (by simpa using hv); rwa [show s + 1 + j = s + (j + 1) from by omega] at this
      obtain ⟨ys, k1, k2, k3⟩ := build ds 0 fun j y hy => by simpa using cell j y hy
      exact ⟨ys, k1, k2, fun _ => ⟨b, off, hA, fun j u hu => by simpa using k3 j u hu⟩⟩
  obtain ⟨v', w', r1, r2, r3, r4⟩ := run_appK (ty := o.type) (c := c) (eB_some hT) i1 i2 i3 i4 (by rw [← hzl, ← i5]; simp) h0 g1 (by rw [y1.length, hds]) y3 y2 hb h63
  unfold grows
  rw [append_exec ho (by rw [h3]; exact r1)]
  have hn0 : E.loc n ≠ .unborn := by unfold Rep at h1; exact h1.1.1
  exact post_append hG hnm hu hn0 g2 y1 g3 y2 g4 r2 r3 r4
/-- Elements of one cell. -/
theorem row_one {l : Nat} {row : Nat → Av} {ds : List Av} (h : ∀ j y, ds[j]? = some y → y = row j) (hs : ∀ j, j < l → szB (row j) 1 = true ∧ flatA (row j) = [row j]) : ∀ j, j < l → szB (row j) 1 = true ∧ ∀ i y, i < 1 → ds[j * 1 + i]? = some y → (flatA (row j))[i]? = some y := fun j hj => by
  obtain ⟨h1, h2⟩ := hs j hj
  refine ⟨h1, fun i y hi hy => ?_⟩
  obtain rfl : i = 0 := by omega
  rw [h2]
  simp at hy
  rw [h j y hy]
  rfl
end
end Go.Proofs.YtpbaiighifhfnaaDoor
namespace Go.Proofs.YtpbaiighifhfnaaDoor
open Go.RowKit
set_option linter.unusedVariables false
set_option linter.unusedSimpArgs false

/-- The environment with another standing for one name. -/
def Env.re (E : Env) (n : Nat) (L : Loc) : Env := { w := E.w, loc := fun m => if m = n then L else E.loc m, bad := E.bad }
theorem Step.nil_name {E : Env} {n : Nat} (hn : E.loc n = .unborn) : Step E (E.re n .nil) [n] := by
  refine ⟨rfl, rfl, rfl, Nat.le_refl _, rfl, fun _ _ _ => rfl, fun m hm => ?_, fun m hm => ?_, fun m b hb => ?_, fun m hm => ?_, fun m b cur t hb hb' hc => ⟨cur, hc, rfl⟩⟩
  · have hm : m ≠ n := by simpa using hm
    exact ⟨by simp [Env.re, hm], fun _ _ => rfl⟩
  · by_cases e : m = n
    · simp [Env.re, e]
    · simpa [Env.re, e] using hm
  · by_cases e : m = n
    · simp [Env.re, e] at hb
    · simp [Env.re, e] at hb; exact .inl hb
  · by_cases e : m = n
    · subst e; exact .inr hn
    · simp [Env.re, e] at hm; exact .inl hm
theorem Step.kill (E : Env) (n : Nat) (hn : E.loc n ≠ .unborn) : Step E (E.re n .dead) [n] := by
  refine ⟨rfl, rfl, rfl, Nat.le_refl _, rfl, fun _ _ _ => rfl, fun m hm => ?_, fun m hm => ?_, fun m b hb => ?_, fun m hm => ?_, fun m b cur t hb hb' hc => ⟨cur, hc, rfl⟩⟩
  · have hm : m ≠ n := by simpa using hm
    exact ⟨by simp [Env.re, hm], fun _ _ => rfl⟩
  · by_cases e : m = n
    · simp [Env.re, e]
    · simpa [Env.re, e] using hm
  · by_cases e : m = n
    · simp [Env.re, e] at hb
    · simp [Env.re, e] at hb; exact .inl hb
  · by_cases e : m = n
    · simp [Env.re, e] at hm
    · simp [Env.re, e] at hm; exact .inl hm
theorem Good.re {E : Env} (hG : Good E) {n : Nat} {L : Loc} (hL : ∀ b, L ≠ .at b) : Good (E.re n L) := by
  refine ⟨hG.old, fun i j b hi hj => ?_, fun i b hi => ?_, hG.shp.same fun b hb => ⟨⟨hb.1, hb.2.1, fun m hm => ?_⟩, rfl⟩⟩
  · have key : ∀ i b, (E.re n L).loc i = .at b → i ≠ n ∧ E.loc i = .at b := fun i b hi => by
      by_cases e : i = n
      · simp [Env.re, e] at hi; exact absurd hi (hL b)
      · simp [Env.re, e] at hi; exact ⟨e, hi⟩
    exact hG.inj i j b (key i b hi).2 (key j b hj).2
  · by_cases e : i = n
    · simp [Env.re, e] at hi; exact absurd hi (hL b)
    · simp [Env.re, e] at hi; exact hG.lt i b hi
  · by_cases e : m = n
    · simp [Env.re, e] at hm; exact absurd hm (hL b)
    · simp [Env.re, e] at hm; exact hb.2.2 m hm
theorem re_ok {E : Env} (hG : Good E) {n b : Nat} (hb : E.loc n = .at b) : (E.re n .dead).ok b := by
  refine ⟨(hG.lt n b hb).1, (hG.lt n b hb).2, fun m hm => ?_⟩
  by_cases e : m = n
  · simp [Env.re, e] at hm
  · simp [Env.re, e] at hm
    exact e (hG.inj m n b hm hb)
section
variable {N : Nat} {D : List Nat} {Γ : Ctx}
/-- What an environment's step makes of a fitting state. -/
theorem Le.step {τ : Ctx} (h : ∀ (E : Env) (a : Act), Fit N D E a Γ → ∃ E' M, E'.w = E.w ∧ Step E E' M ∧ Good E' ∧ Holds E' a.tmps τ) : Le N D Γ τ := fun E a hF => by
  obtain ⟨E', M, h1, h2, h3, h4⟩ := h E a hF
  have hK := h2.kept hF.born
  exact ⟨E', h1, hK, ⟨h3, hF.size, fun n hn => hK.born n hn, h4⟩⟩
/-- The empty slice nil gets a name. -/
theorem Le.nameNil {s : List (Nat × Av)} {h : List (Nat × Hs)} (t n k : Nat) (ty : TypeId) (hs : lkS s t = .val (.slice none 0 0)) (hn : lkH h n = some .unborn) : Le N D ⟨s, h⟩ ⟨(t, .osl k n 0) :: s, (n, .live ty []) :: h⟩ := Le.step fun E a hF => by
  have hu : E.loc n = .unborn := hF.holds.2 n .unborn hn
  have hS := Step.nil_name hu
  refine ⟨E.re n .nil, [n], rfl, hS, hF.good.re (by simp), fun u => ?_, fun m y hy => ?_⟩
  · by_cases e : t = u
    · subst e
      rw [lkS_eq]
      have := hF.holds.1 t
      rw [hs] at this
      unfold Rep at this ⊢
      exact ⟨⟨by simp [Env.re], ⟨none, 0, this⟩, fun _ => ⟨this, rfl⟩⟩, fun b hb => by simp [Env.re] at hb⟩
    · rw [lkS_ne _ _ e]
      exact Rep.step hS _ _ (hF.holds.1 u)
  · by_cases e : n = m
    · subst e
      simp [lkH] at hy
      subst hy
      exact .inl ⟨by simp [Env.re], rfl⟩
    · simp only [lkH, beqF e, cond_false] at hy
      exact HAt.step hS (by simp [Ne.symm e]) (hF.holds.2 m y hy)
/-- A named row, once and for all read only. -/
theorem freeze_rep {E : Env} (hG : Good E) {n k len : Nat} {t : TypeId} {cs : List Av} {row : Nat → Av} {v : Value} (hv : Rep E (.osl k n len) v) (hn : HAt E n (.live t cs)) (hl : cs.length = len * k) (hrow : ∀ j, j < len → szB (row j) k = true ∧ ∀ i y, (flatA (row j))[i]? = some y → cs[j * k + i]? = some y)
    (hval : ∀ j, j < len → ∀ (us : List Value), RepL (E.re n .dead) (flatA (row j)) us → (∀ u ∈ us, u.oneCell' = true) → ∃ u, Rep (E.re n .dead) (row j) u ∧ u.cells.toList = us) : Rep (E.re n .dead) (.sl k len row) v := by
  have hn0 : E.loc n ≠ .unborn := by unfold Rep at hv; exact hv.1.1
  have hS := Step.kill E n hn0
  unfold Rep at hv ⊢
  rcases hn with ⟨h1, rfl⟩ | ⟨b, cur, h1, h2, h3⟩
  · obtain ⟨rfl, rfl⟩ := hv.1.2.2 h1
    exact ⟨none, 0, rfl, Nat.le_refl _, Nat.zero_le _, fun h => absurd h (by simp)⟩
  · obtain ⟨c, cur', t', h4, h5, h6, h7, h8⟩ := hv.2 b h1
    rw [h2] at h7
    injection h7 with h7
    injection h7 with h7 h9
    subst h7; subst h9
    refine ⟨some ⟨b, 0, none⟩, c, h4, h5, h6, fun _ => ⟨b, 0, rfl, re_ok hG h1, fun j hj => ?_⟩⟩
    obtain ⟨hr1, hr2⟩ := hrow j hj
    obtain ⟨us, g1, g2, g3⟩ := cells_list (E := E.re n .dead) (cur := cur) (flatA (row j)) (j * k) fun i y hy => by
      obtain ⟨u, k1, k2, k3⟩ := h3 _ y (hr2 i y hy)
      exact ⟨u, k1, k2, Rep.step hS _ _ k3⟩
    obtain ⟨u, k1, k2⟩ := hval j hj us g1 g2
    refine ⟨u, k1, ?_, fun i u' hu' => ?_⟩
    · exact (flat_cells k1 hr1).1
    · rw [k2] at hu'
      rw [Nat.zero_add, show (E.re n .dead).w = E.w from rfl, cell_cur h2]
      exact g3 i u' hu'
/-- Elements that are one cell. -/
def oneA : Av → Bool
  | .agg _ => false
  | .val v => atomB v
  | .sl .. | .ptr _ | .clo .. => true
  | _ => false
theorem one_flat {y : Av} (h : oneA y = true) : flatA y = [y] ∧ szB y 1 = true := by
  cases y <;> simp_all [oneA, flatA, szB]
theorem freeze_one {E : Env} (hG : Good E) {n len : Nat} {t : TypeId} {cs : List Av} {row : Nat → Av} {v : Value} (hv : Rep E (.osl 1 n len) v) (hn : HAt E n (.live t cs)) (hl : cs.length = len) (hrow : ∀ j, j < len → cs[j]? = some (row j) ∧ oneA (row j) = true) : Rep (E.re n .dead) (.sl 1 len row) v := by
  refine freeze_rep hG hv hn (by omega) (fun j hj => ?_) (fun j hj us hus h1 => ?_)
  · obtain ⟨h1, h2⟩ := hrow j hj
    obtain ⟨h3, h4⟩ := one_flat h2
    refine ⟨h4, fun i y hy => ?_⟩
    rw [h3] at hy
    cases i with
    | zero => simp at hy; subst hy; simpa using h1
    | succ i => simp at hy
  · obtain ⟨h3, h4⟩ := hrow j hj
    rw [(one_flat h4).1] at hus
    unfold RepL RepL at hus
    obtain ⟨u, us', rfl, h5, rfl⟩ := hus
    exact ⟨u, h5, by rw [cells_one (h1 u (by simp))]⟩
/-- A slot's row is frozen. -/
theorem Le.freeze {s : List (Nat × Av)} {h : List (Nat × Hs)} (t n : Nat) {len : Nat} {ty : TypeId} {cs : List Av} (row : Nat → Av) (hs : lkS s t = .osl 1 n len) (hn : lkH h n = some (.live ty cs)) (hl : cs.length = len) (hrow : ∀ j, j < len → cs[j]? = some (row j) ∧ oneA (row j) = true) : Le N D ⟨s, h⟩ ⟨(t, .sl 1 len row) :: s, (n, .dead) :: h⟩ := Le.step fun E a hF => by
  have hv := hF.holds.1 t
  rw [hs] at hv
  have hH := hF.holds.2 n _ hn
  have hn0 : E.loc n ≠ .unborn := by unfold Rep at hv; exact hv.1.1
  have hS := Step.kill E n hn0
  refine ⟨E.re n .dead, [n], rfl, hS, hF.good.re (by simp), fun u => ?_, fun m y hy => ?_⟩
  · by_cases e : t = u
    · subst e
      rw [lkS_eq]
      exact freeze_one hF.good hv hH hl hrow
    · rw [lkS_ne _ _ e]
      exact Rep.step hS _ _ (hF.holds.1 u)
  · by_cases e : n = m
    · subst e
      simp [lkH] at hy
      subst hy
      show (E.re n .dead).loc n = .dead
      simp [Env.re]
    · simp only [lkH, beqF e, cond_false] at hy
      exact HAt.step hS (by simp [Ne.symm e]) (hF.holds.2 m y hy)
/-- A row that a cell of a named block holds is frozen. -/
theorem Le.freezeCell {s : List (Nat × Av)} {h : List (Nat × Hs)} (m i n : Nat) {len : Nat} {T ty : TypeId} {ds cs : List Av} (row : Nat → Av) (hm : lkH h m = some (.live T ds)) (hi : ds[i]? = some (.osl 1 n len)) (hn : lkH h n = some (.live ty cs)) (hmn : m ≠ n) (hl : cs.length = len) (hrow : ∀ j, j < len → cs[j]? = some (row j) ∧ oneA (row j) = true) :
    Le N D ⟨s, h⟩ ⟨s, (m, .live T (ds.set i (.sl 1 len row))) :: (n, .dead) :: h⟩ := Le.step fun E a hF => by
  have hM := hF.holds.2 m _ hm
  have hH := hF.holds.2 n _ hn
  have hn0 : E.loc n ≠ .unborn := by
    rcases hH with ⟨h1, _⟩ | ⟨b, cur, h1, _⟩ <;> rw [h1] <;> simp
  have hS := Step.kill E n hn0
  refine ⟨E.re n .dead, [n], rfl, hS, hF.good.re (by simp), fun u => Rep.step hS _ _ (hF.holds.1 u), fun j y hy => ?_⟩
  by_cases e : m = j
  · subst e
    simp [lkH] at hy
    subst hy
    rcases hM with ⟨h1, rfl⟩ | ⟨b, cur, h1, h2, h3⟩
    · simp at hi
    · refine .inr ⟨b, cur, by simp [Env.re, hmn, h1], h2, fun j y hy => ?_⟩
      rw [List.getElem?_set] at hy
      by_cases e : i = j
      · subst e
        have hlt := (List.getElem?_eq_some_iff.1 hi).1
        simp [hlt] at hy
        subst hy
        obtain ⟨u, h4, h5, h6⟩ := h3 i _ hi
        exact ⟨u, h4, h5, freeze_one hF.good h6 hH hl hrow⟩
      · rw [if_neg e] at hy
        obtain ⟨u, h4, h5, h6⟩ := h3 j y hy
        exact ⟨u, h4, h5, Rep.step hS _ _ h6⟩
  · simp only [lkH, beqF e, cond_false] at hy
    by_cases e' : n = j
    · subst e'
      simp at hy
      subst hy
      show (E.re n .dead).loc n = .dead
      simp [Env.re]
    · rw [beqF e', cond_false] at hy
      exact HAt.step hS (by simp [Ne.symm e']) (hF.holds.2 j y hy)
/-- A variable's block is frozen: a slot that leads to it reads it from here on. -/
theorem Le.freezeVar {s : List (Nat × Av)} {h : List (Nat × Hs)} (t n : Nat) {ty : TypeId} {x : Av} (hs : lkS s t = .own n 0) (hn : lkH h n = some (.live ty [x])) : Le N D ⟨s, h⟩ ⟨(t, .ptr x) :: s, (n, .dead) :: h⟩ := Le.step fun E a hF => by
  have hv := hF.holds.1 t
  rw [hs] at hv
  have hH := hF.holds.2 n _ hn
  obtain ⟨b, cur, h1, h2, h3, h4⟩ := own_at hv hH (by simp)
  have hS := Step.kill E n (by rw [h2]; simp)
  obtain ⟨u, h5, h6, h7⟩ := h4 0 x rfl
  refine ⟨E.re n .dead, [n], rfl, hS, hF.good.re (by simp), fun j => ?_, fun m y hy => ?_⟩
  · by_cases e : t = j
    · subst e
      rw [lkS_eq, h1]
      unfold Rep
      refine ⟨b, 0, u, rfl, re_ok hF.good h2, Rep.step hS _ _ h7, fun j v hj => ?_⟩
      rw [cells_one h6] at hj
      cases j with
      | zero => simp at hj; subst hj; rw [show (E.re n .dead).w = E.w from rfl, cell_cur h3]; exact h5
      | succ j => simp at hj
    · rw [lkS_ne _ _ e]
      exact Rep.step hS _ _ (hF.holds.1 j)
  · by_cases e : n = m
    · subst e
      simp [lkH] at hy
      subst hy
      show (E.re n .dead).loc n = .dead
      simp [Env.re]
    · simp only [lkH, beqF e, cond_false] at hy
      exact HAt.step hS (by simp [Ne.symm e]) (hF.holds.2 m y hy)
theorem Le.freezeRow {s : List (Nat × Av)} {h : List (Nat × Hs)} (t n : Nat) {ty : TypeId} {ds : List Av} (hs : lkS s t = .own n 0) (hn : lkH h n = some (.live ty ds)) (h0 : 0 < ds.length) : Le N D ⟨s, h⟩ ⟨(t, .ptr (.agg ds)) :: s, (n, .dead) :: h⟩ := Le.step fun E a hF => by
  have hv := hF.holds.1 t
  rw [hs] at hv
  have hH := hF.holds.2 n _ hn
  obtain ⟨b, cur, h1, h2, h3, h4⟩ := own_at hv hH h0
  have hS := Step.kill E n (by rw [h2]; simp)
  obtain ⟨vs, h5, h6, h7⟩ := cells_list (E := E.re n .dead) (cur := cur) ds 0 fun i y hy => by
    obtain ⟨u, g1, g2, g3⟩ := h4 i y hy
    exact ⟨u, by simpa using g1, g2, Rep.step hS _ _ g3⟩
  refine ⟨E.re n .dead, [n], rfl, hS, hF.good.re (by simp), fun j => ?_, fun m y hy => ?_⟩
  · by_cases e : t = j
    · subst e
      rw [lkS_eq, h1]
      unfold Rep
      refine ⟨b, 0, .agg vs.toArray, rfl, re_ok hF.good h2, by unfold Rep; exact ⟨vs, rfl, h5, h6⟩, fun j v hj => ?_⟩
      rw [show (E.re n .dead).w = E.w from rfl, cell_cur h3]
      exact h7 j v hj
    · rw [lkS_ne _ _ e]
      exact Rep.step hS _ _ (hF.holds.1 j)
  · by_cases e : n = m
    · subst e
      simp [lkH] at hy
      subst hy
      show (E.re n .dead).loc n = .dead
      simp [Env.re]
    · simp only [lkH, beqF e, cond_false] at hy
      exact HAt.step hS (by simp [Ne.symm e]) (hF.holds.2 m y hy)
end
/-! ### Names forgotten -/
mutual
def NoN (Z : List Nat) : Av → Prop
  | .any | .val _ | .fm _ _ _ _ | .frz _ _ _ => True
  | .sl _ _ row => ∀ j, NoN Z (row j)
  | .ptr x => NoN Z x
  | .agg cs | .tup cs | .clo _ cs => NoNL Z cs
  | .own n _ | .osl _ n _ | .oss n _ _ | .mp n => n ∉ Z
  | .gd _ x | .nz x => NoN Z x
def NoNL (Z : List Nat) : List Av → Prop
  | [] => True
  | x :: xs => NoN Z x ∧ NoNL Z xs
end
mutual
theorem NoN.of_pure {Z : List Nat} : ∀ x : Av, Pure x → NoN Z x
  | .any, _ => by unfold NoN; trivial
  | .val _, _ => by unfold NoN; trivial
  | .sl _ _ row, h => by unfold Pure at h; unfold NoN; exact fun j => NoN.of_pure (row j) (h j)
  | .ptr x, h => by unfold Pure at h; unfold NoN; exact NoN.of_pure x h
  | .agg cs, h => by unfold Pure at h; unfold NoN; exact NoNL.of_pure cs h
  | .tup cs, h => by unfold Pure at h; unfold NoN; exact NoNL.of_pure cs h
  | .clo _ cs, h => by unfold Pure at h; unfold NoN; exact NoNL.of_pure cs h
  | .own _ _, h => by unfold Pure at h; exact h.elim
  | .osl _ _ _, h => by unfold Pure at h; exact h.elim
  | .oss _ _ _, h => by unfold Pure at h; exact h.elim
  | .mp _, h => by unfold Pure at h; exact h.elim
  | .fm _ _ _ _, _ => by unfold NoN; trivial
  | .frz _ _ _, _ => by unfold NoN; trivial
  | .gd _ x, h => by unfold Pure at h; unfold NoN; exact NoN.of_pure x h
  | .nz x, h => by unfold Pure at h; unfold NoN; exact NoN.of_pure x h
theorem NoNL.of_pure {Z : List Nat} : ∀ xs : List Av, PureL xs → NoNL Z xs
  | [], _ => by unfold NoNL; trivial
  | x :: xs, h => by unfold PureL at h; unfold NoNL; exact ⟨NoN.of_pure x h.1, NoNL.of_pure xs h.2⟩
end
def Env.reset (E : Env) (Z : List Nat) : Env := { w := E.w, loc := fun m => if m ∈ Z then .unborn else E.loc m, bad := E.bad }
theorem reset_loc {E : Env} {Z : List Nat} {n b : Nat} (h : (E.reset Z).loc n = .at b) : E.loc n = .at b := by
  by_cases e : n ∈ Z
  · simp [Env.reset, e] at h
  · simpa [Env.reset, e] using h
theorem reset_ok {E : Env} {Z : List Nat} {b : Nat} (h : E.ok b) : (E.reset Z).ok b := ⟨h.1, h.2.1, fun n hn => h.2.2 n (reset_loc hn)⟩
mutual
theorem Rep.reset {E : Env} {Z : List Nat} : ∀ (x : Av) (v : Value), NoN Z x → Rep E x v → Rep (E.reset Z) x v
  | .any, _, _, _ => by unfold Rep; trivial
  | .val x, v, _, hr => by unfold Rep at hr ⊢; exact hr
  | .sl k n row, v, hp, hr => by
    unfold NoN at hp
    unfold Rep at hr ⊢
    obtain ⟨A, c, h1, h2, h3, h4⟩ := hr
    refine ⟨A, c, h1, h2, h3, fun hn => ?_⟩
    obtain ⟨b, o, h5, h6, h7⟩ := h4 hn
    refine ⟨b, o, h5, reset_ok h6, fun j hj => ?_⟩
    obtain ⟨u, h8, h9, h10⟩ := h7 j hj
    exact ⟨u, Rep.reset (row j) u (hp j) h8, h9, h10⟩
  | .ptr x, v, hp, hr => by
    unfold NoN at hp
    unfold Rep at hr ⊢
    obtain ⟨b, o, u, h1, h2, h3, h4⟩ := hr
    exact ⟨b, o, u, h1, reset_ok h2, Rep.reset x u hp h3, h4⟩
  | .agg cs, v, hp, hr => by
    unfold NoN at hp
    unfold Rep at hr ⊢
    obtain ⟨vs, h1, h2, h3⟩ := hr
    exact ⟨vs, h1, RepL.reset cs vs hp h2, h3⟩
  | .tup cs, v, hp, hr => by
    unfold NoN at hp
    unfold Rep at hr ⊢
    obtain ⟨vs, h1, h2⟩ := hr
    exact ⟨vs, h1, RepL.reset cs vs hp h2⟩
  | .clo f cs, v, hp, hr => by
    unfold NoN at hp
    unfold Rep at hr ⊢
    obtain ⟨vs, h1, h2⟩ := hr
    exact ⟨vs, h1, RepL.reset cs vs hp h2⟩
  | .own n off, v, hp, hr => by
    unfold NoN at hp
    unfold Rep at hr ⊢
    simpa [Env.reset, hp] using hr
  | .osl k n len, v, hp, hr => by
    unfold NoN at hp
    unfold Rep at hr ⊢
    simpa [Env.reset, hp] using hr
  | .oss n off len, v, hp, hr => by
    unfold NoN at hp
    unfold Rep at hr ⊢
    simpa [Env.reset, hp] using hr
  | .mp n, v, hp, hr => by
    unfold NoN at hp
    unfold Rep at hr ⊢
    simpa [Env.reset, hp] using hr
  | .fm P k e D, v, _, hr => by
    unfold Rep at hr ⊢
    obtain ⟨b, n, h1, h2, h3⟩ := hr
    exact ⟨b, n, h1, reset_ok h2, h3⟩
  | .frz q T xs, v, _, hr => by
    unfold Rep at hr ⊢
    obtain ⟨c, g, cur, h1, h2, h3, h4, h5⟩ := hr
    exact ⟨c, g, cur, h1, h2, reset_ok h3, h4, h5⟩
  | .gd c x, v, hp, hr => by
    unfold NoN at hp
    unfold Rep at hr ⊢
    exact ⟨fun hc => Rep.reset x v hp (hr.1 hc), hr.2⟩
  | .nz x, v, hp, hr => by
    unfold NoN at hp
    unfold Rep at hr ⊢
    exact ⟨Rep.reset x v hp hr.1, hr.2⟩
theorem RepL.reset {E : Env} {Z : List Nat} : ∀ (xs : List Av) (vs : List Value), NoNL Z xs → RepL E xs vs → RepL (E.reset Z) xs vs
  | [], vs, _, hr => by unfold RepL at hr ⊢; exact hr
  | x :: xs, vs, hp, hr => by
    unfold NoNL at hp
    unfold RepL at hr ⊢
    obtain ⟨v, us, h1, h2, h3⟩ := hr
    exact ⟨v, us, h1, Rep.reset x v hp.1 h2, RepL.reset xs us hp.2 h3⟩
end
def noS (Z : List Nat) : List (Nat × Av) → Prop
  | [] => True
  | (_, x) :: r => NoN Z x ∧ noS Z r
def noH (η : List (Nat × Hs)) (Z : List Nat) : List (Nat × Hs) → Prop
  | [] => True
  | (n, y) :: r => (if n ∈ Z then y = .unborn else lkH η n = some y ∧ (match y with | .live _ cs => ∀ z ∈ cs, NoN Z z | .loop _ _ _ _ _ _ σ => noS Z σ | _ => True)) ∧ noH η Z r
theorem noS_get {Z : List Nat} : ∀ {τ : List (Nat × Av)}, noS Z τ → ∀ t, NoN Z (lkS τ t)
  | [], _, t => by unfold lkS NoN; trivial
  | (u, x) :: r, h, t => by
    by_cases e : u = t
    · subst e; rw [lkS_eq]; exact h.1
    · rw [lkS_ne _ _ e]; exact noS_get h.2 t
theorem noH_get {η : List (Nat × Hs)} {Z : List Nat} : ∀ {τ : List (Nat × Hs)}, noH η Z τ → ∀ n y, lkH τ n = some y → if n ∈ Z then y = .unborn else lkH η n = some y ∧ (match y with | .live _ cs => ∀ z ∈ cs, NoN Z z | .loop _ _ _ _ _ _ σ => noS Z σ | _ => True)
  | [], _, n, y, h => by simp [lkH] at h
  | (u, x) :: r, h, n, y, hy => by
    by_cases e : u = n
    · subst e
      simp [lkH] at hy
      subst hy
      exact h.1
    · simp only [lkH, beqF e, cond_false] at hy
      exact noH_get h.2 n y hy
/-- Names are forgotten, and may be given anew. -/
theorem Le.reset {N : Nat} {D : List Nat} {Γ τ : Ctx} (Z : List Nat) (hD : ∀ n ∈ D, n ∉ Z) (hs : subS Γ.s τ.s) (hS : noS Z τ.s) (hH : noH Γ.h Z τ.h) : Le N D Γ τ := fun E a hF => by
  have hloc : ∀ n, n ∉ Z → (E.reset Z).loc n = E.loc n := fun n hn => by simp [Env.reset, hn]
  refine ⟨E.reset Z, rfl, ⟨rfl, rfl, rfl, Nat.le_refl _, rfl, fun _ _ _ => rfl, fun n b hb => .inr ⟨n, reset_loc hb⟩, fun n hn => by rw [hloc n (hD n hn)]; exact hF.born n hn, fun n hn hl => by rwa [hloc n (hD n hn)] at hl, fun n hn b hb => ⟨reset_loc hb, fun cur t hc => ⟨cur, hc, rfl⟩⟩⟩,
    ⟨⟨hF.good.old, fun n m b hn hm => hF.good.inj n m b (reset_loc hn) (reset_loc hm), fun n b hn => hF.good.lt n b (reset_loc hn), hF.good.shp.same fun b hb => ⟨reset_ok hb, rfl⟩⟩, hF.size, fun n hn => by rw [hloc n (hD n hn)]; exact hF.born n hn, fun t => ?_, fun n y hy => ?_⟩⟩
  · refine Rep.reset _ _ (noS_get hS t) ?_
    rcases subS_get hs t with h1 | h1
    · rw [h1]; unfold Rep; trivial
    · rw [← h1]; exact hF.holds.1 t
  · have := noH_get hH n y hy
    by_cases e : n ∈ Z
    · rw [if_pos e] at this
      subst this
      show (E.reset Z).loc n = .unborn
      simp [Env.reset, e]
    · rw [if_neg e] at this
      have h1 := hF.holds.2 n y this.1
      cases y with
      | unborn => exact (hloc n e).trans h1
      | dead => exact (hloc n e).trans h1
      | live t cs =>
        rcases h1 with ⟨h2, h3⟩ | ⟨b, cur, h2, h3, h4⟩
        · exact .inl ⟨(hloc n e).trans h2, h3⟩
        · refine .inr ⟨b, cur, (hloc n e).trans h2, h3, fun i z hz => ?_⟩
          obtain ⟨u, h5, h6, h7⟩ := h4 i z hz
          exact ⟨u, h5, h6, Rep.reset _ _ (this.2 z (List.mem_of_getElem? hz)) h7⟩
      | map P k e' D =>
        obtain ⟨b, m, h2, h3⟩ := h1
        exact ⟨b, m, (hloc n e).trans h2, h3⟩
      | iter P k e' D left cnt last =>
        obtain ⟨b, r, m, h2, h3, h4⟩ := h1
        exact ⟨b, r, m, (hloc n e).trans h2, reset_ok h3, h4⟩
      | loop l N' ps assign body pe σ =>
        obtain ⟨h3, r, h4, h5, h6, h7, h8, h9, h10, h11⟩ := h1
        exact ⟨(hloc n e).trans h3, r, h4, h5, h6, h7, h8, h9, h10, fun t => Rep.reset _ _ (noS_get this.2 t) (h11 t)⟩
def PureS : List (Nat × Av) → Prop
  | [] => True
  | (_, x) :: r => Pure x ∧ PureS r
theorem noS_pure {Z : List Nat} : ∀ {τ : List (Nat × Av)}, PureS τ → noS Z τ
  | [], _ => trivial
  | (_, x) :: r, h => ⟨NoN.of_pure x h.1, noS_pure h.2⟩
/-! ### Names renamed -/
mutual
def Av.ren (π : Nat → Nat) : Av → Av
  | .any => .any
  | .val v => .val v
  | .sl k n row => .sl k n fun j => (row j).ren π
  | .ptr x => .ptr (x.ren π)
  | .agg cs => .agg (renL π cs)
  | .tup cs => .tup (renL π cs)
  | .clo f cs => .clo f (renL π cs)
  | .own n off => .own (π n) off
  | .osl k n len => .osl k (π n) len
  | .oss n off len => .oss (π n) off len
  | .mp n => .mp (π n)
  | .fm P k e D => .fm P k e D
  | .frz q T xs => .frz q T xs
  | .gd c x => .gd c (x.ren π)
  | .nz x => .nz (x.ren π)
def renL (π : Nat → Nat) : List Av → List Av
  | [] => []
  | x :: xs => x.ren π :: renL π xs
end
mutual
theorem ren_pure (π : Nat → Nat) : ∀ x : Av, Pure x → x.ren π = x
  | .any, _ => by unfold Av.ren; rfl
  | .val _, _ => by unfold Av.ren; rfl
  | .sl k n row, h => by unfold Pure at h; unfold Av.ren; congr 1; funext j; exact ren_pure π (row j) (h j)
  | .ptr x, h => by unfold Pure at h; unfold Av.ren; rw [ren_pure π x h]
  | .agg cs, h => by unfold Pure at h; unfold Av.ren; rw [renL_pure π cs h]
  | .tup cs, h => by unfold Pure at h; unfold Av.ren; rw [renL_pure π cs h]
  | .clo _ cs, h => by unfold Pure at h; unfold Av.ren; rw [renL_pure π cs h]
  | .own _ _, h => by unfold Pure at h; exact h.elim
  | .osl _ _ _, h => by unfold Pure at h; exact h.elim
  | .oss _ _ _, h => by unfold Pure at h; exact h.elim
  | .mp _, h => by unfold Pure at h; exact h.elim
  | .fm _ _ _ _, _ => by unfold Av.ren; rfl
  | .frz _ _ _, _ => by unfold Av.ren; rfl
  | .gd _ x, h => by unfold Pure at h; unfold Av.ren; rw [ren_pure π x h]
  | .nz x, h => by unfold Pure at h; unfold Av.ren; rw [ren_pure π x h]
theorem renL_pure (π : Nat → Nat) : ∀ xs : List Av, PureL xs → renL π xs = xs
  | [], _ => by unfold renL; rfl
  | x :: xs, h => by unfold PureL at h; unfold renL; rw [ren_pure π x h.1, renL_pure π xs h.2]
end
theorem renL_map (π : Nat → Nat) : ∀ xs : List Av, renL π xs = xs.map (Av.ren π)
  | [] => by unfold renL; rfl
  | x :: xs => by unfold renL; rw [renL_map π xs]; rfl
def Env.ren (E : Env) (π : Nat → Nat) : Env := { w := E.w, loc := fun n => E.loc (π n), bad := E.bad }
mutual
theorem Rep.ren {E : Env} {π : Nat → Nat} : ∀ (x : Av) (v : Value), Rep E (x.ren π) v → Rep (E.ren π) x v
  | .any, _, _ => by unfold Rep; trivial
  | .val x, v, hr => by unfold Av.ren at hr; unfold Rep at hr ⊢; exact hr
  | .sl k n row, v, hr => by
    unfold Av.ren at hr
    unfold Rep at hr ⊢
    obtain ⟨A, c, h1, h2, h3, h4⟩ := hr
    refine ⟨A, c, h1, h2, h3, fun hn => ?_⟩
    obtain ⟨b, o, h5, h6, h7⟩ := h4 hn
    refine ⟨b, o, h5, ⟨h6.1, h6.2.1, fun n hn => h6.2.2 _ hn⟩, fun j hj => ?_⟩
    obtain ⟨u, h8, h9, h10⟩ := h7 j hj
    exact ⟨u, Rep.ren (row j) u h8, h9, h10⟩
  | .ptr x, v, hr => by
    unfold Av.ren at hr
    unfold Rep at hr ⊢
    obtain ⟨b, o, u, h1, h2, h3, h4⟩ := hr
    exact ⟨b, o, u, h1, ⟨h2.1, h2.2.1, fun n hn => h2.2.2 _ hn⟩, Rep.ren x u h3, h4⟩
  | .agg cs, v, hr => by
    unfold Av.ren at hr
    unfold Rep at hr ⊢
    obtain ⟨vs, h1, h2, h3⟩ := hr
    exact ⟨vs, h1, RepL.ren cs vs h2, h3⟩
  | .tup cs, v, hr => by
    unfold Av.ren at hr
    unfold Rep at hr ⊢
    obtain ⟨vs, h1, h2⟩ := hr
    exact ⟨vs, h1, RepL.ren cs vs h2⟩
  | .clo f cs, v, hr => by
    unfold Av.ren at hr
    unfold Rep at hr ⊢
    obtain ⟨vs, h1, h2⟩ := hr
    exact ⟨vs, h1, RepL.ren cs vs h2⟩
  | .own n off, v, hr => by
    unfold Av.ren at hr
    unfold Rep at hr ⊢
    exact hr
  | .osl k n len, v, hr => by
    unfold Av.ren at hr
    unfold Rep at hr ⊢
    exact hr
  | .oss n off len, v, hr => by
    unfold Av.ren at hr
    unfold Rep at hr ⊢
    exact hr
  | .mp n, v, hr => by
    unfold Av.ren at hr
    unfold Rep at hr ⊢
    exact hr
  | .fm P k e D, v, hr => by
    unfold Av.ren at hr
    unfold Rep at hr ⊢
    obtain ⟨b, n, h1, h2, h3⟩ := hr
    exact ⟨b, n, h1, ⟨h2.1, h2.2.1, fun n hn => h2.2.2 _ hn⟩, h3⟩
  | .frz q T xs, v, hr => by
    unfold Av.ren at hr
    unfold Rep at hr ⊢
    obtain ⟨c, g, cur, h1, h2, h3, h4, h5⟩ := hr
    exact ⟨c, g, cur, h1, h2, ⟨h3.1, h3.2.1, fun n hn => h3.2.2 _ hn⟩, h4, h5⟩
  | .gd c x, v, hr => by
    unfold Av.ren at hr
    unfold Rep at hr ⊢
    exact ⟨fun hc => Rep.ren x v (hr.1 hc), hr.2⟩
  | .nz x, v, hr => by
    unfold Av.ren at hr
    unfold Rep at hr ⊢
    exact ⟨Rep.ren x v hr.1, hr.2⟩
theorem RepL.ren {E : Env} {π : Nat → Nat} : ∀ (xs : List Av) (vs : List Value), RepL E (renL π xs) vs → RepL (E.ren π) xs vs
  | [], vs, hr => by unfold renL at hr; unfold RepL at hr ⊢; exact hr
  | x :: xs, vs, hr => by
    unfold renL at hr
    unfold RepL at hr ⊢
    obtain ⟨v, us, h1, h2, h3⟩ := hr
    exact ⟨v, us, h1, Rep.ren x v h2, RepL.ren xs us h3⟩
end
def Hs.ren (π : Nat → Nat) : Hs → Hs
  | .unborn => .unborn
  | .dead => .dead
  | .live t cs => .live t (cs.map (Av.ren π))
  | .map P k e D => .map P k e D
  | .iter P k e D left cnt last => .iter P k e D left cnt last
  | .loop l N ps assign body pe σ => .loop l N ps assign body pe (σ.map fun p => (p.1, p.2.ren π))
def swapN (a b : Nat) (n : Nat) : Nat := bif Nat.beq n a then b else bif Nat.beq n b then a else n
theorem swap_ne {a b n : Nat} (h1 : n ≠ a) (h2 : n ≠ b) : swapN a b n = n := by simp [swapN, beqF h1, beqF h2]
theorem swap_inj (a b : Nat) : ∀ n m, swapN a b n = swapN a b m → n = m := by
  have l : swapN a b a = b := by simp [swapN]
  have r : swapN a b b = a := by
    by_cases e : b = a
    · subst e; exact l
    · simp [swapN, beqF e]
  have inv : ∀ n, swapN a b (swapN a b n) = n := fun n => by
    by_cases h1 : n = a
    · rw [h1, l, r]
    · by_cases h2 : n = b
      · rw [h2, r, l]
      · rw [swap_ne h1 h2, swap_ne h1 h2]
  intro n m h
  rw [← inv n, h, inv m]
def renS (π : Nat → Nat) (σ : List (Nat × Av)) : List (Nat × Av) → Prop
  | [] => True
  | (t, x) :: r => lkS σ t = x.ren π ∧ renS π σ r
def renH (π : Nat → Nat) (η : List (Nat × Hs)) : List (Nat × Hs) → Prop
  | [] => True
  | (n, y) :: r => lkH η (π n) = some (y.ren π) ∧ renH π η r
theorem renS_get {π : Nat → Nat} {σ : List (Nat × Av)} : ∀ {τ : List (Nat × Av)}, renS π σ τ → ∀ t, lkS τ t = .any ∨ lkS σ t = (lkS τ t).ren π
  | [], _, t => .inl rfl
  | (u, x) :: r, h, t => by
    by_cases e : u = t
    · subst e; rw [lkS_eq]; exact .inr h.1
    · rw [lkS_ne _ _ e]; exact renS_get h.2 t
theorem renH_get {π : Nat → Nat} {η : List (Nat × Hs)} : ∀ {τ : List (Nat × Hs)}, renH π η τ → ∀ n y, lkH τ n = some y → lkH η (π n) = some (y.ren π)
  | [], _, n, y, h => by simp [lkH] at h
  | (u, x) :: r, h, n, y, hy => by
    by_cases e : u = n
    · subst e
      simp [lkH] at hy
      subst hy
      exact h.1
    · simp only [lkH, beqF e, cond_false] at hy
      exact renH_get h.2 n y hy
theorem lkS_ren {π : Nat → Nat} (t : Nat) : ∀ σ : List (Nat × Av), lkS (σ.map fun p => (p.1, p.2.ren π)) t = (lkS σ t).ren π
  | [] => by simp [lkS, Av.ren]
  | (u, x) :: r => by
    simp only [List.map_cons, lkS]
    cases Nat.beq u t with
    | true => rfl
    | false => exact lkS_ren t r
/-- Two names change places. -/
theorem Le.swap {N : Nat} {D : List Nat} {Γ τ : Ctx} (a b : Nat) (ha : a ∉ D) (hb : b ∉ D) (hs : renS (swapN a b) Γ.s τ.s) (hh : renH (swapN a b) Γ.h τ.h) : Le N D Γ τ := fun E x hF => by
  have hD : ∀ n ∈ D, swapN a b n = n := fun n hn => swap_ne (fun e => ha (e ▸ hn)) (fun e => hb (e ▸ hn))
  have hl : ∀ n ∈ D, (E.ren (swapN a b)).loc n = E.loc n := fun n hn => by simp [Env.ren, hD n hn]
  refine ⟨E.ren (swapN a b), rfl, ⟨rfl, rfl, rfl, Nat.le_refl _, rfl, fun _ _ _ => rfl, fun n b hb => .inr ⟨_, hb⟩, fun n hn => by rw [hl n hn]; exact hF.born n hn, fun n hn h => by rwa [hl n hn] at h, fun n hn c hc => ⟨by rwa [hl n hn] at hc, fun cur t hc => ⟨cur, hc, rfl⟩⟩⟩,
    ⟨⟨hF.good.old, fun n m c hn hm => swap_inj a b n m (hF.good.inj _ _ c hn hm), fun n c hn => hF.good.lt _ c hn, hF.good.shp.same fun b hb => ⟨⟨hb.1, hb.2.1, fun n hn => hb.2.2 _ hn⟩, rfl⟩⟩, hF.size, fun n hn => by rw [hl n hn]; exact hF.born n hn, fun t => ?_, fun n y hy => ?_⟩⟩
  · rcases renS_get hs t with h1 | h1
    · rw [h1]; unfold Rep; trivial
    · refine Rep.ren _ _ ?_
      rw [← h1]
      exact hF.holds.1 t
  · have h1 := hF.holds.2 _ _ (renH_get hh n y hy)
    cases y with
    | unborn => exact h1
    | dead => exact h1
    | live t cs =>
      rcases h1 with ⟨h2, h3⟩ | ⟨c, cur, h2, h3, h4⟩
      · exact .inl ⟨h2, by simpa using h3⟩
      · refine .inr ⟨c, cur, h2, h3, fun i z hz => ?_⟩
        obtain ⟨u, h5, h6, h7⟩ := h4 i (z.ren (swapN a b)) (by rw [List.getElem?_map, hz]; rfl)
        exact ⟨u, h5, h6, Rep.ren _ _ h7⟩
    | map P k e D => exact h1
    | iter P k e D left cnt last =>
      obtain ⟨b, r, m, h2, h3, h4⟩ := h1
      exact ⟨b, r, m, h2, ⟨h3.1, h3.2.1, fun n hn => h3.2.2 _ hn⟩, h4⟩
    | loop l N' ps assign body pe σ =>
      obtain ⟨h3, r, h4, h5, h6, h7, h8, h9, h10, h11⟩ := h1
      refine ⟨h3, r, h4, h5, h6, h7, h8, h9, h10, fun t => Rep.ren _ _ ?_⟩
      have := h11 t
      rwa [lkS_ren] at this
/-- The empty slice nil in a named block gets a name. -/
theorem Le.nameNilCell {N : Nat} {D : List Nat} {s : List (Nat × Av)} {h : List (Nat × Hs)} (m i n k : Nat) (ty : TypeId) {T : TypeId} {ds : List Av} (hm : lkH h m = some (.live T ds)) (hi : ds[i]? = some (.val (.slice none 0 0))) (hn : lkH h n = some .unborn) (hmn : m ≠ n) :
    Le N D ⟨s, h⟩ ⟨s, (m, .live T (ds.set i (.osl k n 0))) :: (n, .live ty []) :: h⟩ := Le.step fun E a hF => by
  have hu : E.loc n = .unborn := hF.holds.2 n .unborn hn
  have hM := hF.holds.2 m _ hm
  have hS := Step.nil_name hu
  refine ⟨E.re n .nil, [n], rfl, hS, hF.good.re (by simp), fun u => Rep.step hS _ _ (hF.holds.1 u), fun j y hy => ?_⟩
  by_cases e : m = j
  · subst e
    simp [lkH] at hy
    subst hy
    rcases hM with ⟨h1, rfl⟩ | ⟨b, cur, h1, h2, h3⟩
    · simp at hi
    · refine .inr ⟨b, cur, by simp [Env.re, hmn, h1], h2, fun j y hy => ?_⟩
      rw [List.getElem?_set] at hy
      by_cases e : i = j
      · subst e
        have hlt := (List.getElem?_eq_some_iff.1 hi).1
        simp [hlt] at hy
        subst hy
        obtain ⟨u, h4, h5, h6⟩ := h3 i _ hi
        refine ⟨u, h4, h5, ?_⟩
        unfold Rep at h6 ⊢
        exact ⟨⟨by simp [Env.re], ⟨none, 0, h6⟩, fun _ => ⟨h6, rfl⟩⟩, fun b hb => by simp [Env.re] at hb⟩
      · rw [if_neg e] at hy
        obtain ⟨u, h4, h5, h6⟩ := h3 j y hy
        exact ⟨u, h4, h5, Rep.step hS _ _ h6⟩
  · simp only [lkH, beqF e, cond_false] at hy
    by_cases e' : n = j
    · subst e'
      simp at hy
      subst hy
      exact .inl ⟨by simp [Env.re], rfl⟩
    · rw [beqF e', cond_false] at hy
      exact HAt.step hS (by simp [Ne.symm e']) (hF.holds.2 j y hy)
/-! ### nil, or not -/
theorem PC.nil_or {P : Program} {f k n : Nat} {row : Nat → Av} {xs : List Av} {x : Av} (h1 : n = 0 → ∀ c, PC P f (.val (.slice none 0 c) :: xs) x) (h2 : PC P f (.nz (.sl k n row) :: xs) x) : PC P f (.sl k n row :: xs) x := by
  intro E vs hG hA hR hB hU
  have hA' := hA
  unfold RepL at hA'
  obtain ⟨v, us, rfl, h3, h4⟩ := hA'
  have h3' := h3
  unfold Rep at h3'
  obtain ⟨A, c, rfl, h5, h6, h7⟩ := h3'
  cases A with
  | none =>
    have hn : n = 0 := by
      rcases Nat.eq_zero_or_pos n with h | h
      · exact h
      · obtain ⟨b, o, h8, _⟩ := h7 h; cases h8
    subst hn
    exact h1 rfl c E _ hG (by unfold RepL; exact ⟨_, us, rfl, by unfold Rep; rfl, h4⟩) hR hB hU
  | some a => exact h2 E _ hG (by unfold RepL; exact ⟨_, us, rfl, by unfold Rep; exact ⟨h3, fun n c h => by cases h⟩, h4⟩) hR hB hU
section
variable {P : Program} {o : Oper} {x : Av} {ρ : Operand → Av} {p q : Operand} {T : TypeId}
theorem oc_move_nz (ho : o.op = .move p) (hx : ρ p = .nz x) : OC P o ρ [] x [] := oc_read fun E a hG hp _ => by
  have h1 := hp p (by simp [ho, Op.operands])
  rw [hx] at h1
  unfold Rep at h1
  exact ⟨a.eval p, by simp [execOp, ho], h1.1⟩
end
/-! ### A result in memory -/
theorem ResOk.cell {P : Program} {fn : Func} {Γ : Ctx} {t n : Nat} {T ty : TypeId} {cs : List Av} (h : fn.results = #[.cell t T]) (hs : lkS Γ.s t = .own n 0) (hn : lkH Γ.h n = some (.live ty cs)) (hT : rowB P T = some true) (hz : sizeB P T = some cs.length) (h0 : 0 < cs.length) : ResOk P fn Γ (.agg cs) := fun E a hG hH => by
  have hv := hH.1 t
  rw [hs] at hv
  obtain ⟨b, cur, h1, h2, h3, h4⟩ := own_at hv (hH.2 n _ hn) h0
  obtain ⟨vs, h5, h6, h7⟩ := cells_list (E := E) (cur := cur) cs 0 fun i y hy => by simpa using h4 i y hy
  refine ⟨.agg vs.toArray, ?_, by unfold Rep; exact ⟨vs, rfl, h5, h6⟩⟩
  obtain ⟨d, hd1, hd2⟩ := rowB_some hT
  have hl := run_loadVar_mid (P := P) E.w b 0 T vs d (fun j u hu => by rw [cell_cur h3]; exact h7 j u hu) hd1 hd2 (by rw [h5.length]; exact hz)
  have h1' : a.tmps[t]?.getD undef = .pointer (some ⟨b, 0, none⟩) := by rw [← h1, Array.getD_eq_getD_getElem?]
  simp only [results, h]
  simp [asAddr, Sem.run_bind, hl, h1']
end Go.Proofs.YtpbaiighifhfnaaDoor
namespace Go.Proofs.YtpbaiighifhfnaaDoor
open Go.RowKit
set_option linter.unusedVariables false
section
variable {P : Program} {o : Oper} {ρ : Operand → Av} {p q : Operand} {T : TypeId}
theorem oc_nil_eq {T' e : TypeId} {a b : Nat} (ho : o.op = .binOp .eql T p q T') (hp : ρ p = .val (.slice none 0 a)) (hq : ρ q = .val (.slice none 0 b)) (hT : eB P T = some e) : OC P o ρ [] (.val (.bool true)) [] := oc_read fun E c hG hr _ => by
  have h1 := hr p (by simp [ho, Op.operands])
  have h2 := hr q (by simp [ho, Op.operands])
  rw [hp] at h1
  rw [hq] at h2
  unfold Rep at h1 h2
  have he : ∀ d, (Op.equalIn (d + 1) T (.slice none 0 a) (.slice none 0 b)).run P E.w = .ok true E.w := fun d => by
    unfold Op.equalIn
    rw [Sem.run_bind, run_underlying (eB_some hT) E.w]
    rfl
  refine ⟨.bool true, ?_, by unfold Rep; rfl⟩
  simp only [execOp, ho, h1, h2, eqGuard, binOp, Op.equal, Sem.run_bind]
  have := he 9999
  simp [Op.maxDepth, this]
theorem oc_nz_eq {T' e : TypeId} {k n b : Nat} {row : Nat → Av} (ho : o.op = .binOp .eql T p q T') (hp : ρ p = .nz (.sl k n row)) (hq : ρ q = .val (.slice none 0 b)) (hT : eB P T = some e) : OC P o ρ [] (.val (.bool false)) [] := oc_read fun E c hG hr _ => by
  have h1 := hr p (by simp [ho, Op.operands])
  have h2 := hr q (by simp [ho, Op.operands])
  rw [hp] at h1
  rw [hq] at h2
  unfold Rep at h1 h2
  obtain ⟨h3, h4⟩ := h1
  unfold Rep at h3
  obtain ⟨A, cc, h5, _⟩ := h3
  cases A with
  | none => exact absurd h5 (h4 _ _)
  | some A =>
  have he : ∀ d, (Op.equalIn (d + 1) T (.slice (some A) n cc) (.slice none 0 b)).run P E.w = .ok false E.w := fun d => by
    unfold Op.equalIn
    rw [Sem.run_bind, run_underlying (eB_some hT) E.w]
    rfl
  refine ⟨.bool false, ?_, by unfold Rep; rfl⟩
  simp only [execOp, ho, h5, h2, eqGuard, binOp, Op.equal, Sem.run_bind]
  have := he 9999
  simp [Op.maxDepth, this]
end
/-! ### What is left of the blocks -/
section
variable {η : List (Nat × Hs)} {Z : List Nat} {τ : List (Nat × Hs)} {n : Nat} {t : TypeId} {cs : List Av} {π : Nat → Nat}
theorem noH_nil : noH η Z [] := trivial
theorem noH_live (hn : n ∉ Z) (h1 : lkH η n = some (.live t cs)) (h2 : ∀ z ∈ cs, NoN Z z) (h3 : noH η Z τ) : noH η Z ((n, .live t cs) :: τ) := by
  unfold noH
  rw [if_neg hn]
  exact ⟨⟨h1, h2⟩, h3⟩
theorem noH_unb (hn : n ∈ Z) (h3 : noH η Z τ) : noH η Z ((n, .unborn) :: τ) := by
  unfold noH
  rw [if_pos hn]
  exact ⟨rfl, h3⟩
theorem non_vi (l : List Int) : ∀ z ∈ l.map vi, NoN Z z := fun z hz => by
  obtain ⟨x, _, rfl⟩ := List.mem_map.1 hz
  exact NoN.of_pure _ (by simp [Pure])
theorem ren_vi (l : List Int) : (Hs.live t (l.map vi)).ren π = .live t (l.map vi) := by
  show Hs.live t ((l.map vi).map (Av.ren π)) = _
  rw [List.map_map]
  congr 1
theorem renH_cons {y : Hs} (h1 : lkH η (π n) = some (y.ren π)) (h2 : renH π η τ) : renH π η ((n, y) :: τ) := ⟨h1, h2⟩
end
/-- The result told otherwise. -/
theorem ResOk.to {P : Program} {fn : Func} {Γ : Ctx} {x y : Av} (h : ResOk P fn Γ x) (hxy : ∀ E v, Rep E x v → Rep E y v) : ResOk P fn Γ y := fun E a hG hH => by
  obtain ⟨v, h1, h2⟩ := h E a hG hH
  exact ⟨v, h1, hxy E v h2⟩
theorem rep_nil {k c : Nat} {row : Nat → Av} (hc : c ≤ maxLen) (E : Env) (v : Value) (h : Rep E (.val (.slice none 0 c)) v) : Rep E (.sl k 0 row) v := by
  unfold Rep at h ⊢
  exact ⟨none, c, h, Nat.zero_le _, hc, fun h => absurd h (by omega)⟩
end Go.Proofs.YtpbaiighifhfnaaDoor
namespace Go.Proofs.YtpbaiighifhfnaaDoor
open Go.RowKit
set_option linter.unusedVariables false
/-! ### Scopes without jumps -/
def noGotoA (Q : Exit → Ctx → Prop) : Exit → Ctx → Prop
  | .goto _, _ => False
  | e, Γ => Q e Γ
theorem aw_scope {P : Program} {N : Nat} {D : List Nat} {c : Code} {Q : Exit → Ctx → Prop} {Γ : Ctx} (h : AW P N D c (noGotoA Q) Γ) : AW P N D (.scope c) Q Γ := fun E a hF => by
  refine wpIn_wide.2 (wp_scope_straight (wp_mono (wpIn_wide.1 (h E a hF)) ?_))
  rintro e a' w' ⟨E', Γ', rfl, hK, hF', hd, hq⟩
  cases e
  case goto l => exact hq.elim
  all_goals exact ⟨E', Γ', rfl, hK, hF', hd, hq⟩
theorem aw_label {P : Program} {N l : Nat} {D : List Nat} {Q : Exit → Ctx → Prop} {Γ : Ctx} {ro : Option Nat} (h : Q .normal Γ) : AWo ro P N D (.label l) Q Γ := fun E a hF => wpIn_label ⟨E, Γ, rfl, Kept.refl hF.born, hF, rfl, h⟩
end Go.Proofs.YtpbaiighifhfnaaDoor
