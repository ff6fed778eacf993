/- Literals, makes and appends over abstract values; names that are forgotten, frozen or given to nil. No program stands in this text. -/
import Derived.Test.YtjjgdjcapfenpaaOe
namespace Go.Proofs.Ytjjgdjcapfenpaa
open Go.RowKit
set_option linter.unusedVariables false
set_option linter.unusedSimpArgs false

section
variable {P : Program} {o : Oper} {x y : Av} {R U : List (Nat × Hs)} {ρ : Operand → Av} {p q : Operand} {T : TypeId}

/-! ### Literals -/
def szB : Av → Nat → Bool
  | .agg ds, n => Nat.beq ds.length n
  | .val v, n => atomB v && Nat.beq n 1
  | .sl .., n | .ptr _, n | .clo .., n | .own .., n | .osl .., n => Nat.beq n 1
  | _, _ => false
def flatA : Av → List Av
  | .agg ds => ds
  | y => [y]
/-- The cells read so. -/
def RepC (E : Env) (cs : List Av) (cells : Array Value) : Prop := cs.length = cells.size ∧ ∀ (i : Nat) (y : Av), cs[i]? = some y → ∃ u : Value, cells[i]? = some u ∧ u.oneCell' = true ∧ Rep E y u
theorem flat_cells {E : Env} {y : Av} {v : Value} {n : Nat} (h : Rep E y v) (hs : szB y n = true) : v.cells.size = n ∧ (flatA y).length = n ∧ RepC E (flatA y) v.cells := by
  have one : v.oneCell' = true → n = 1 → flatA y = [y] → v.cells.size = n ∧ (flatA y).length = n ∧ RepC E (flatA y) v.cells := fun h1 h2 h3 => by
    rw [h3, cells_one h1, h2]
    refine ⟨rfl, rfl, rfl, fun i z hz => ?_⟩
    cases i with
    | zero => simp at hz; subst hz; exact ⟨v, rfl, h1, h⟩
    | succ i => simp at hz
  cases y with
  | agg ds =>
    unfold Rep at h
    obtain ⟨vs, rfl, h2, h3⟩ := h
    have hl := h2.length
    have hn : ds.length = n := by simpa [szB] using hs
    refine ⟨by simp [Value.cells, hl, hn], by simpa [flatA] using hn, by simp [flatA, Value.cells, hl], fun i z hz => ?_⟩
    obtain ⟨u, h4, h5⟩ := h2.get i z (by simpa [flatA] using hz)
    exact ⟨u, by simpa [Value.cells] using h4, h3 u (List.mem_of_getElem? h4), h5⟩
  | val u =>
    simp only [szB, Bool.and_eq_true] at hs
    have h' := h
    unfold Rep at h'
    exact one (by rw [h']; exact atomB_one hs.1) (Nat.eq_of_beq_eq_true hs.2) rfl
  | sl k m row => exact one (cells_sl E v h) (Nat.eq_of_beq_eq_true (by simpa [szB] using hs)) rfl
  | ptr z => exact one (cells_ptr E v h) (Nat.eq_of_beq_eq_true (by simpa [szB] using hs)) rfl
  | clo f cs => exact one (cells_clo E v h) (Nat.eq_of_beq_eq_true (by simpa [szB] using hs)) rfl
  | own m off => exact one (cells_own E v h) (Nat.eq_of_beq_eq_true (by simpa [szB] using hs)) rfl
  | osl k m len => exact one (cells_osl E v h) (Nat.eq_of_beq_eq_true (by simpa [szB] using hs)) rfl
  | _ => simp [szB] at hs
theorem fold_zip : ∀ (vs : List Value) (k off : Nat) (cells : Array Value), off + k + vs.length ≤ cells.size →
    ((vs.zipIdx k).foldl (fun cs (c : Value × Nat) => cs.setIfInBounds (off + c.2) c.1) cells).size = cells.size ∧
    (∀ i, i < off + k ∨ off + k + vs.length ≤ i → ((vs.zipIdx k).foldl (fun cs (c : Value × Nat) => cs.setIfInBounds (off + c.2) c.1) cells)[i]? = cells[i]?) ∧
    ∀ j u, vs[j]? = some u → ((vs.zipIdx k).foldl (fun cs (c : Value × Nat) => cs.setIfInBounds (off + c.2) c.1) cells)[off + k + j]? = some u
  | [], k, off, cells, h => ⟨rfl, fun _ _ => rfl, by simp⟩
  | v :: vs, k, off, cells, h => by
    simp only [List.length_cons] at h
    simp only [List.zipIdx_cons, List.foldl_cons]
    obtain ⟨h1, h2, h3⟩ := fold_zip vs (k + 1) off (cells.setIfInBounds (off + k) v) (by simp; omega)
    refine ⟨by simpa using h1, fun i hi => ?_, fun j u hu => ?_⟩
    · simp only [List.length_cons] at hi
      rw [h2 i (by omega), Array.getElem?_setIfInBounds_ne (by omega)]
    · cases j with
      | zero =>
        simp at hu
        subst hu
        rw [h2 _ (by omega)]
        simp [show off + k < cells.size from by omega]
      | succ j =>
        have := h3 j u (by simpa using hu)
        rwa [show off + (k + 1) + j = off + k + (j + 1) from by omega] at this
theorem repC_put {E : Env} {cs ds : List Av} {cells dc : Array Value} {off : Nat} (h : RepC E cs cells) (hd : RepC E ds dc) (hl : off + ds.length ≤ cs.length) : RepC E (putAt cs off ds) (dc.zipIdx.foldl (fun cs (c, j) => cs.setIfInBounds (off + j) c) cells) := by
  have hdl := hd.1
  have hcl := h.1
  obtain ⟨h1, h2, h3⟩ := fold_zip dc.toList 0 off cells (by simp; omega)
  have e : dc.zipIdx.foldl (fun cs (c, j) => cs.setIfInBounds (off + j) c) cells = ((dc.toList.zipIdx 0).foldl (fun cs (c : Value × Nat) => cs.setIfInBounds (off + c.2) c.1) cells) := by
    rw [← Array.foldl_toList, Array.toList_zipIdx]
  rw [e]
  refine ⟨by unfold putAt; simp; omega, fun i y hy => ?_⟩
  unfold putAt at hy
  rcases Nat.lt_or_ge i off with hi | hi
  · rw [List.append_assoc, List.getElem?_append_left (by rw [List.length_take]; omega), List.getElem?_take, if_pos hi] at hy
    rw [h2 i (.inl (by omega))]
    exact h.2 i y hy
  · rw [List.append_assoc, List.getElem?_append_right (by rw [List.length_take]; omega), List.length_take, Nat.min_eq_left (by omega)] at hy
    rcases Nat.lt_or_ge i (off + ds.length) with hi' | hi'
    · rw [List.getElem?_append_left (by omega)] at hy
      obtain ⟨u, h4, h5⟩ := hd.2 _ y hy
      have := h3 (i - off) u (by simpa using h4)
      rw [show off + 0 + (i - off) = i from by omega] at this
      exact ⟨u, this, h5⟩
    · rw [List.getElem?_append_right (by omega), List.getElem?_drop] at hy
      rw [h2 i (.inr (by simp; omega))]
      exact h.2 i y (by rw [← hy]; congr 1; omega)
def fillA (place : Nat → Option (Nat × Nat)) : List Av → List (Nat × Av) → List Av
  | cs, [] => cs
  | cs, (i, y) :: r => match place i with | some (off, _) => fillA place (putAt cs off (flatA y)) r | none => cs
def partsB (place : Nat → Option (Nat × Nat)) (N : Nat) : List (Nat × Av) → Bool
  | [] => true
  | (i, y) :: r => (match place i with | some (off, sz) => szB y sz && Nat.ble (off + sz) N | none => false) && partsB place N r
theorem putAt_len {cs ds : List Av} {off : Nat} (h : off + ds.length ≤ cs.length) : (putAt cs off ds).length = cs.length := by unfold putAt; simp; omega
theorem fill_ok {E : Env} {a : Act} {place : Nat → Option (Nat × Nat)} {N : Nat} : ∀ (parts : List (Nat × Operand)) (cs : List Av) (cells : Array Value), RepC E cs cells → cs.length = N → (∀ ip ∈ parts, Rep E (ρ ip.2) (a.eval ip.2)) → partsB place N (parts.map fun ip => (ip.1, ρ ip.2)) = true →
    ∃ cells', Instr.fill place cells (parts.map fun ip => (ip.1, a.eval ip.2)) = some cells' ∧ RepC E (fillA place cs (parts.map fun ip => (ip.1, ρ ip.2))) cells'
  | [], cs, cells, h, _, _, _ => ⟨cells, rfl, h⟩
  | (i, p) :: r, cs, cells, h, hN, hr, hp => by
    simp only [List.map_cons, partsB, Bool.and_eq_true] at hp
    obtain ⟨hp1, hp2⟩ := hp
    cases hpl : place i with
    | none => simp [hpl] at hp1
    | some os =>
      obtain ⟨off, sz⟩ := os
      simp only [hpl, Bool.and_eq_true] at hp1
      have hle := Nat.le_of_ble_eq_true hp1.2
      obtain ⟨h1, h2, h3⟩ := flat_cells (y := ρ p) (v := a.eval p) (hr (i, p) (by simp)) hp1.1
      have hput := repC_put h h3 (off := off) (by omega)
      obtain ⟨cells', h4, h5⟩ := fill_ok r _ _ hput (by rw [putAt_len (by omega), hN]) (fun ip hip => hr ip (by simp [hip])) hp2
      refine ⟨cells', ?_, by simpa [fillA, hpl] using h5⟩
      simp only [List.map_cons, Instr.fill, hpl]
      rw [if_neg (by simp only [Bool.or_eq_true, decide_eq_true_eq]; have := h.1; omega)]
      exact h4
def placesB (P : Program) (T : TypeId) : Option (List (Nat × Nat)) :=
  match P.underlying T with
  | some (.struct fs) => fs.toList.mapM fun f => (P.info? f.type).map fun i => (f.offset, i.size)
  | _ => none
theorem places_run {w : World} : ∀ (l : List Field) (pl : List (Nat × Nat)), (l.mapM fun f => (P.info? f.type).map fun i => (f.offset, i.size)) = some pl → (l.mapM fun f => (do pure (f.offset, ← sizeOf f.type) : Sem (Nat × Nat))).run P w = .ok pl w
  | [], pl, h => by simp at h; subst h; rfl
  | f :: l, pl, h => by
    cases hi : P.info? f.type with
    | none => simp [hi] at h
    | some i =>
      cases hl : (l.mapM fun f => (P.info? f.type).map fun i => (f.offset, i.size)) with
      | none => simp [hi, hl] at h
      | some r =>
        simp [hi, hl] at h
        subst h
        have hs : (do pure (f.offset, ← sizeOf f.type) : Sem (Nat × Nat)).run P w = .ok (f.offset, i.size) w := by simp [Sem.run_bind, sizeOf, typeInfo, hi]
        rw [List.mapM_cons, Sem.run_bind, hs, Result.andThen_ok, Sem.run_bind, places_run l r hl]
        rfl
/-- A struct out of its parts. -/
theorem oc_build {parts : List (Nat × Operand)} {pl : List (Nat × Nat)} {zs : List Value} {ds : List Av} (ho : o.op = .build T parts.toArray) (hz : zeroB P T = some zs) (ha : zs.all atomB = true) (hpl : placesB P T = some pl) (hp : partsB (pl[·]?) zs.length (parts.map fun ip => (ip.1, ρ ip.2)) = true)
    (hds : fillA (pl[·]?) (zs.map .val) (parts.map fun ip => (ip.1, ρ ip.2)) = ds) : OC P o ρ [] (.agg ds) [] := oc_read fun E a hG hr _ => by
  cases hi : P.info? T with
  | none => simp [zeroB, hi] at hz
  | some i =>
    cases hz0 : i.zero with
    | none => simp [zeroB, hi, hz0] at hz
    | some z =>
      simp [zeroB, hi, hz0] at hz
      subst hz
      have hRC : RepC E (z.cells.toList.map .val) z.cells := ⟨by simp, fun k y hy => by
        rw [List.getElem?_map] at hy
        cases hk : z.cells.toList[k]? with
        | none => simp [hk] at hy
        | some u =>
          simp [hk] at hy
          subst hy
          exact ⟨u, by simpa using hk, atomB_one ((List.all_eq_true.1 ha) u (List.mem_of_getElem? hk)), by unfold Rep; rfl⟩⟩
      obtain ⟨cells', h1, h2⟩ := fill_ok (a := a) (N := z.cells.toList.length) parts _ _ hRC (by simp) (fun ip hip => hr ip.2 (by simp [ho, Op.operands]; exact ⟨_, hip⟩)) (by simpa using hp)
      rw [hds] at h2
      unfold placesB at hpl
      cases hu : P.underlying T with
      | none => simp [hu] at hpl
      | some d =>
        cases d with
        | struct fs =>
          simp only [hu] at hpl
          have hpr := places_run (w := E.w) fs.toList pl hpl
          refine ⟨.agg cells', ?_, ?_⟩
          · have hm : (fs.mapM fun f => (do pure (f.offset, ← sizeOf f.type) : Sem (Nat × Nat))).run P E.w = .ok pl.toArray E.w := by
              rw [Array.mapM_eq_mapM_toList, map_eq_pure_bind, Sem.run_bind, hpr]
              rfl
            have hfill : Instr.fill (pl.toArray[·]?) z.cells ((parts.toArray.map fun (i, x) => (i, a.eval x)).toList) = some cells' := by
              have : (fun (n : Nat) => pl.toArray[n]?) = (fun (n : Nat) => pl[n]?) := by funext n; simp
              rw [this]
              simpa using h1
            have hzr : (zeroValue T).run P E.w = .ok z E.w := by simp [zeroValue, Sem.run_bind, typeInfo, hi, hz0]
            simp only [execOp, ho, Instr.build, Sem.run_bind, hzr, Sem.run_pure, Result.andThen_ok, run_underlying hu, hm, hfill]
          · unfold Rep
            refine ⟨cells'.toList, by simp, ?_, ?_⟩
            · have gen : ∀ (ds : List Av) (vs : List Value), ds.length = vs.length → (∀ (i : Nat) (y : Av), ds[i]? = some y → ∃ u : Value, vs[i]? = some u ∧ Rep E y u) → RepL E ds vs := by
                intro ds
                induction ds with
                | nil => intro vs hl _; unfold RepL; cases vs with | nil => rfl | cons => simp at hl
                | cons d ds ih =>
                  intro vs hl hh
                  cases vs with
                  | nil => simp at hl
                  | cons v vs =>
                    unfold RepL
                    refine ⟨v, vs, rfl, ?_, ih vs (by simpa using hl) fun i y hy => by simpa using hh (i + 1) y (by simpa using hy)⟩
                    obtain ⟨u, hu, h3⟩ := hh 0 d rfl
                    simp at hu
                    subst hu
                    exact h3
              refine gen ds _ (by simpa using h2.1) fun i y hy => ?_
              obtain ⟨u, h3, h4, h5⟩ := h2.2 i y hy
              exact ⟨u, by simpa using h3, h5⟩
            · intro u hu
              obtain ⟨i, hi', rfl⟩ := List.getElem_of_mem hu
              have hlt : i < ds.length := by have := h2.1; simp at hi'; omega
              obtain ⟨u', h3, h4, h5⟩ := h2.2 i ds[i] (List.getElem?_eq_getElem hlt)
              have : cells'[i]? = some cells'.toList[i] := by simp at hi' ⊢
              rw [this] at h3
              injection h3 with h3
              rw [h3]; exact h4
        | _ => simp [hu] at hpl
def eB (P : Program) (T : TypeId) : Option TypeId := match P.underlying T with | some (.slice e) => some e | _ => none
theorem eB_some {e : TypeId} (h : eB P T = some e) : P.underlying T = some (.slice e) := by
  unfold eB at h
  split at h
  · injection h with h; subst h; assumption
  · cases h
def infoB (P : Program) (e : TypeId) : Option (Nat × Nat × List Value) := (P.info? e).bind fun i => i.zero.map fun z => (i.size, i.bytes, z.cells.toList)
theorem infoB_some {e : TypeId} {k by_ : Nat} {zs : List Value} (h : infoB P e = some (k, by_, zs)) : ∃ i z, P.info? e = some i ∧ i.zero = some z ∧ i.size = k ∧ i.bytes = by_ ∧ z.cells.toList = zs := by
  unfold infoB at h
  cases hi : P.info? e with
  | none => simp [hi] at h
  | some i =>
    cases hz : i.zero with
    | none => simp [hi, hz] at h
    | some z =>
      simp [hi, hz] at h
      obtain ⟨rfl, rfl, rfl⟩ := h
      exact ⟨i, z, rfl, hz, rfl, rfl, rfl⟩
def seqParts (k : Nat) : List Operand → List (Nat × Operand)
  | [] => []
  | p :: r => (k, p) :: seqParts (k + 1) r
def szAll (k : Nat) : List Av → Bool
  | [] => true
  | y :: r => szB y k && szAll k r
theorem fill_seq {E : Env} {a : Act} {k : Nat} : ∀ (ps : List Operand) (j : Nat) (cells : Array Value), cells.size = (j + ps.length) * k → (∀ p ∈ ps, Rep E (ρ p) (a.eval p)) → szAll k (ps.map ρ) = true →
    ∃ cells', Instr.fill (fun i => some (i * k, k)) cells ((seqParts j ps).map fun ip => (ip.1, a.eval ip.2)) = some cells' ∧ cells'.size = cells.size ∧ (∀ i, i < j * k → cells'[i]? = cells[i]?) ∧
      ∀ m p, ps[m]? = some p → ∀ i u, (a.eval p).cells[i]? = some u → cells'[(j + m) * k + i]? = some u
  | [], j, cells, _, _, _ => ⟨cells, rfl, rfl, fun _ _ => rfl, by simp⟩
  | p :: ps, j, cells, hc, hr, hs => by
    simp only [List.map_cons, szAll, Bool.and_eq_true] at hs
    obtain ⟨h1, h2, h3⟩ := flat_cells (y := ρ p) (v := a.eval p) (hr p (by simp)) hs.1
    simp only [List.length_cons] at hc
    have hle : j * k + k ≤ cells.size := by rw [hc, ← Nat.succ_mul]; exact Nat.mul_le_mul_right _ (by omega)
    obtain ⟨f1, f2, f3⟩ := fold_zip (a.eval p).cells.toList 0 (j * k) cells (by simp; omega)
    have e : (a.eval p).cells.zipIdx.foldl (fun cs (c, i) => cs.setIfInBounds (j * k + i) c) cells = (((a.eval p).cells.toList.zipIdx 0).foldl (fun cs (c : Value × Nat) => cs.setIfInBounds (j * k + c.2) c.1) cells) := by
      rw [← Array.foldl_toList, Array.toList_zipIdx]
    rw [← e] at f1 f2 f3
    obtain ⟨cells', g1, g2, g3, g4⟩ := fill_seq ps (j + 1) _ (by rw [f1, hc]; congr 1; omega) (fun q hq => hr q (by simp [hq])) hs.2
    refine ⟨cells', ?_, by rw [g2, f1], fun i hi => ?_, fun m q hq i u hu => ?_⟩
    · simp only [seqParts, List.map_cons, Instr.fill]
      rw [if_neg (by simp only [Bool.or_eq_true, decide_eq_true_eq]; omega)]
      exact g1
    · rw [g3 i (by rw [Nat.succ_mul]; omega), f2 i (.inl (by omega))]
    · cases m with
      | zero =>
        simp at hq
        subst hq
        have hi : i < k := by have := (Array.getElem?_eq_some_iff.1 hu).1; omega
        rw [Nat.add_zero, g3 _ (by rw [Nat.succ_mul]; omega)]
        have := f3 i u (by simpa using hu)
        rwa [Nat.add_zero] at this
      | succ m =>
        have := g4 m q (by simpa using hq) i u hu
        rwa [show j + 1 + m = j + (m + 1) from by omega] at this
/-- What 'buildSlice' does. -/
theorem buildSlice_run {E : Env} {a : Act} {ps : List Operand} {e : TypeId} {k by_ : Nat} {zs : List Value} (w : World) (hT : eB P T = some e) (hi : infoB P e = some (k, by_, zs)) (hr : ∀ p ∈ ps, Rep E (ρ p) (a.eval p)) (hs : szAll k (ps.map ρ) = true) (hn : ps.length * k ≤ 16777216) :
    ∃ cells' : Array Value, (Instr.buildSlice T ps.length ((seqParts 0 ps).map fun ip => (ip.1, a.eval ip.2)).toArray).run P w = .ok (.slice (some ⟨w.heap.size, 0, none⟩) ps.length ps.length) (w.alloc (.cells cells' e)) ∧ cells'.size = ps.length * k ∧
      ∀ m p, ps[m]? = some p → ∀ i u, (a.eval p).cells[i]? = some u → cells'[m * k + i]? = some u := by
  obtain ⟨i, z, h1, h2, rfl, rfl, rfl⟩ := infoB_some hi
  have hsz : (sizeOf e).run P w = .ok i.size w := by simp [sizeOf, Sem.run_bind, typeInfo, h1]
  have hzr : (zeroValue e).run P w = .ok z w := by simp [zeroValue, Sem.run_bind, typeInfo, h1, h2]
  have fin : ∀ z0 : Array Value, ∃ cells' : Array Value, Instr.fill (fun j => some (j * i.size, i.size)) ((Array.range (ps.length * i.size)).map (z0[· % z0.size]!)) (((seqParts 0 ps).map fun ip => (ip.1, a.eval ip.2)).toArray.toList) = some cells' ∧ cells'.size = ps.length * i.size ∧
      ∀ m p, ps[m]? = some p → ∀ j u, (a.eval p).cells[j]? = some u → cells'[m * i.size + j]? = some u := fun z0 => by
    obtain ⟨c, g1, g2, g3, g4⟩ := fill_seq (ρ := ρ) (k := i.size) ps 0 ((Array.range (ps.length * i.size)).map (z0[· % z0.size]!)) (by simp) hr hs
    exact ⟨c, by simpa using g1, by simpa using g2, fun m p hp j u hu => by simpa using g4 m p hp j u hu⟩
  have hlim : ¬ ps.length * i.size > 2 ^ 24 := by omega
  by_cases h0 : ps.length * i.size = 0
  · obtain ⟨c, g1, g2, g3⟩ := fin #[]
    refine ⟨c, ?_, g2, g3⟩
    simp only [Instr.buildSlice, Sem.run_bind, run_underlying (eB_some hT), Result.andThen_ok, hsz, if_neg hlim, if_pos h0, Sem.run_pure, g1, newRow_run]
  · obtain ⟨c, g1, g2, g3⟩ := fin z.cells
    refine ⟨c, ?_, g2, g3⟩
    simp only [Instr.buildSlice, Sem.run_bind, run_underlying (eB_some hT), Result.andThen_ok, hsz, if_neg hlim, if_neg h0, hzr, Sem.run_pure, g1, newRow_run]
def rowL (l : List Av) : Nat → Av := fun j => l.getD j .any
theorem seq_mem {p : Operand} : ∀ (ps : List Operand) (j : Nat), p ∈ ps → ∃ i, (i, p) ∈ seqParts j ps
  | [], j, h => by simp at h
  | q :: r, j, h => by
    rcases List.mem_cons.1 h with rfl | h
    · exact ⟨j, by simp [seqParts]⟩
    · obtain ⟨i, hi⟩ := seq_mem r (j + 1) h
      exact ⟨i, by simp [seqParts, hi]⟩
theorem szAll_get {k : Nat} : ∀ (l : List Av), szAll k l = true → ∀ y ∈ l, szB y k = true
  | z :: l, h, y, hy => by
    simp only [szAll, Bool.and_eq_true] at h
    rcases List.mem_cons.1 hy with rfl | hy
    · exact h.1
    · exact szAll_get l h.2 y hy
/-- A literal slice that is never written to. -/
theorem oc_buildSlice {ps : List Operand} {xs : List Av} {e : TypeId} {k by_ n : Nat} {zs : List Value} (ho : o.op = .buildSlice T n (seqParts 0 ps).toArray) (hT : eB P T = some e) (hi : infoB P e = some (k, by_, zs)) (hxs : ps.map ρ = xs) (hs : szAll k xs = true) (hn : ps.length = n) (hl : n * k ≤ 16777216) (hm : n ≤ 16777216) : OC P o ρ [] (.sl k n (rowL xs)) [] := oc_grow fun E a hG hr => by
  subst hxs hn
  have hr' : ∀ p ∈ ps, Rep E (ρ p) (a.eval p) := fun p hp => hr p (by
    obtain ⟨i, hi⟩ := seq_mem ps 0 hp
    simp [ho, Op.operands]
    exact ⟨i, hi⟩)
  obtain ⟨cells', h1, h2, h3⟩ := buildSlice_run E.w hT hi hr' hs hl
  have hB : Below E.w.heap.size E.w (E.w.alloc (.cells cells' e)) := (Below.refl _ _).alloc (Nat.le_refl _) _
  refine ⟨.slice (some ⟨E.w.heap.size, 0, none⟩) ps.length ps.length, E.w.alloc (.cells cells' e), ?_, hB, ?_⟩
  · have : ((seqParts 0 ps).toArray.map fun (i, x) => (i, a.eval x)) = ((seqParts 0 ps).map fun ip => (ip.1, a.eval ip.2)).toArray := by simp
    simp only [execOp, ho, this, Sem.run_bind, h1, Result.andThen_ok, Sem.run_pure]
  · unfold Rep
    refine ⟨some ⟨E.w.heap.size, 0, none⟩, ps.length, rfl, Nat.le_refl _, by unfold maxLen; omega, fun hn => ⟨E.w.heap.size, 0, rfl, ⟨by simp, fun hb => ?_, fun n hn => ?_⟩, fun j hj => ?_⟩⟩
    · have := hG.old _ hb; omega
    · have := (hG.lt n _ hn).1; omega
    · obtain ⟨p, hp⟩ : ∃ p, ps[j]? = some p := ⟨ps[j], List.getElem?_eq_getElem hj⟩
      have hpm := List.mem_of_getElem? hp
      have hrow : rowL (ps.map ρ) j = ρ p := by simp [rowL, hp]
      obtain ⟨h4, h5, h6⟩ := flat_cells (hr' p hpm) (szAll_get _ hs _ (List.mem_map.2 ⟨p, hpm, rfl⟩))
      rw [hrow]
      refine ⟨a.eval p, Rep.step (Step.grow hG hB) _ _ (hr' p hpm), h4, fun i u hu => ?_⟩
      rw [Nat.zero_add, cell_cur (heap_alloc_new _ _)]
      exact h3 j p hp i u (by simpa using hu)
/-- A literal slice of the call's own (elements of one cell). -/
theorem oc_buildSlice_own {ps : List Operand} {xs : List Av} {e : TypeId} {by_ n : Nat} {zs : List Value} (m : Nat) (ho : o.op = .buildSlice T n (seqParts 0 ps).toArray) (hT : eB P T = some e) (hi : infoB P e = some (1, by_, zs)) (hxs : ps.map ρ = xs) (hs : szAll 1 xs = true) (hf : xs.all (fun y => Nat.beq (flatA y).length 1) = true) (hn : ps.length = n) (hm : n ≤ 16777216) :
    OC P o ρ [(m, .unborn)] (.osl 1 m n) [(m, .live e (xs.flatMap flatA))] := by
  intro E a hG hr hH
  have hu : E.loc m = .unborn := hH m .unborn (by simp)
  subst hxs hn
  have hr' : ∀ p ∈ ps, Rep E (ρ p) (a.eval p) := fun p hp => hr p (by
    obtain ⟨i, hi⟩ := seq_mem ps 0 hp
    simp [ho, Op.operands]
    exact ⟨i, hi⟩)
  obtain ⟨cells', h1, h2, h3⟩ := buildSlice_run E.w hT hi hr' hs (by omega)
  have hB : Below E.w.heap.size E.w (E.w.alloc (.cells cells' e)) := (Below.refl _ _).alloc (Nat.le_refl _) _
  have : ((seqParts 0 ps).toArray.map fun (i, x) => (i, a.eval x)) = ((seqParts 0 ps).map fun ip => (ip.1, a.eval ip.2)).toArray := by simp
  unfold grows execOp
  simp only [ho, this, Sem.run_bind, h1, Result.andThen_ok, Sem.run_pure, growUpon]
  have flat1 : ∀ (l : List Av), szAll 1 l = true → l.flatMap flatA = l ∨ True := fun _ _ => .inr trivial
  refine post_give hG hu hB (Nat.le_refl _) (heap_alloc_new _ _) (fun j y hy => ?_) ?_
  · have idx : ∀ (l : List Av), szAll 1 l = true → ∀ (j : Nat) (y : Av), (l.flatMap flatA)[j]? = some y → ∃ z, l[j]? = some z ∧ flatA z = [y] := by
      intro l
      induction l with
      | nil => intro _ j y h; simp at h
      | cons z l ih =>
        intro h j y hy
        simp only [szAll, Bool.and_eq_true] at h
        have hz : (flatA z).length = 1 := by
          cases z <;> simp_all [szB, flatA]
        obtain ⟨z', hz'⟩ := List.length_eq_one_iff.1 hz
        rw [List.flatMap_cons, hz'] at hy
        cases j with
        | zero => simp at hy; subst hy; exact ⟨z, rfl, hz'⟩
        | succ j => simpa using ih h.2 j y (by simpa using hy)
    obtain ⟨z, hz, hzy⟩ := idx _ hs j y hy
    rw [List.getElem?_map] at hz
    cases hp : ps[j]? with
    | none => simp [hp] at hz
    | some p =>
      simp [hp] at hz
      subst hz
      have hpm := List.mem_of_getElem? hp
      obtain ⟨h4, h5, h6, h7⟩ := flat_cells (hr' p hpm) (szAll_get _ hs _ (List.mem_map.2 ⟨p, hpm, rfl⟩))
      obtain ⟨u, h8, h9, h10⟩ := h7 0 y (by rw [hzy]; rfl)
      exact ⟨u, by have := h3 j p hp 0 u h8; simpa using this, h9, h10⟩
  · unfold Rep
    refine ⟨⟨by simp [Env.give], ⟨_, _, rfl⟩, fun hn => by simp [Env.give] at hn⟩, fun b hb => ?_⟩
    simp [Env.give] at hb
    subst hb
    exact ⟨ps.length, cells', e, rfl, Nat.le_refl _, by unfold maxLen; omega, heap_alloc_new _ _, by omega⟩
/-- 'make([]T, m)' of elements of one cell. -/
theorem oc_makeSlice {e : TypeId} {by_ m : Nat} {z : Value} {k1 k2 : IntKind} {l : Int} (n : Nat) (ho : o.op = .makeSlice T p q) (hp : ρ p = .val (.int k1 l)) (hq : ρ q = .val (.int k2 l)) (hl : l = (m : Int)) (hT : eB P T = some e) (hi : infoB P e = some (1, by_, [z])) (hz : atomB z = true) (hb : by_ * m ≤ 281474976710656) (hm : m ≤ 9223372036854775807) :
    OC P o ρ [(n, .unborn)] (.osl 1 n m) [(n, .live e (List.replicate m (.val z)))] := by
  intro E a hG hr hH
  have hu : E.loc n = .unborn := hH n .unborn (by simp)
  have h1 := hr p (by simp [ho, Op.operands])
  have h2 := hr q (by simp [ho, Op.operands])
  rw [hp] at h1
  rw [hq] at h2
  unfold Rep at h1 h2
  subst hl
  obtain ⟨i, z', g1, g2, g3, g4, g5⟩ := infoB_some hi
  have hb' : (i.bytes : Int) * (m : Int) ≤ 281474976710656 := by
    have : ((i.bytes * m : Nat) : Int) ≤ 281474976710656 := by rw [g4]; omega
    rwa [Int.natCast_mul] at this
  have hrun := run_make (P := P) E.w T e i z' (eB_some hT) g1 g2 k1 k2 m m (by omega) (Int.le_refl _) hb' (by omega)
  unfold grows execOp
  simp only [ho, h1, h2, Sem.run_bind, hrun, Result.andThen_ok, Sem.run_pure, growUpon, Int.toNat_natCast, g3, Nat.mul_one]
  have hzc : z'.cells = #[z] := by rw [← Array.toList_inj]; exact g5
  refine post_give hG hu ((Below.refl _ _).alloc (Nat.le_refl _) _) (Nat.le_refl _) (heap_alloc_new _ _) (fun j y hy => ?_) ?_
  · rw [List.getElem?_replicate] at hy
    split at hy
    · rename_i hj
      injection hy with hy
      subst hy
      exact ⟨z, by simp [madeCells, hzc, hj, Nat.mod_one], atomB_one hz, by unfold Rep; rfl⟩
    · cases hy
  · unfold Rep
    refine ⟨⟨by simp [Env.give], ⟨_, _, rfl⟩, fun hn => by simp [Env.give] at hn⟩, fun b hb => ?_⟩
    simp [Env.give] at hb
    subst hb
    exact ⟨m, _, e, rfl, Nat.le_refl _, by unfold maxLen; omega, heap_alloc_new _ _, by rw [size_madeCells, Nat.mul_one]⟩
end
end Go.Proofs.Ytjjgdjcapfenpaa
