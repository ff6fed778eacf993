/- Parts of strings, their order; closures that are handed names. No program stands in this text. Chapter 31: the map of the labels as plain data. No program stands in this text. Chapter 31: labels, walked. Chapter 31: deed, walked. Chapter 31: short functions of the document's trees, walked. -/
import Derived.Test.YtfipllnodgbghaaVp
import Derived.Test.YtfipllnodgbghaaProg
import Derived.KernelRfl
namespace Go.Proofs.Ytfipllnodgbghaa
open Go.RowKit
set_option linter.unusedVariables false
set_option linter.unusedSimpArgs false

section
variable {P : Program} {o : Oper} {x y : Av} {R M U : List (Nat × Hs)} {ρ : Operand → Av} {p q r : Operand} {T : TypeId}
/-- A closure's call with names; V: the new ones. -/
theorem oc_callCloFC {f : Nat} {g : Operand} {args : List Operand} {tys : Array TypeId} {ys caps : List Av} (V : List Nat) (ho : o.op = .call { callee := .value g, args := args.toArray, argTypes := tys }) (hg : ρ g = .clo f caps) (hf : callB P f = true) (hc : FCM P f ys R M x U) (hxs : args.map ρ ++ caps = ys)
    (hV : ∀ n ∈ U.map (·.1), n ∈ R.map (·.1) ∨ n ∈ V) (hb : bornH (R ++ M)) (hRU : ∀ n ∈ R.map (·.1), n ∈ U.map (·.1)) (hMU : ∀ n ∈ M.map (·.1), n ∉ U.map (·.1)) (hIA : InNL (· ∈ (R ++ M).map (·.1)) ys) (hIR : InHs (· ∈ (R ++ M).map (·.1)) (R ++ M)) (hIx : InN (· ∈ U.map (·.1)) x) (hIU : InHs (· ∈ U.map (·.1)) U) : OC P o ρ ((R ++ M) ++ V.map fun n => (n, .unborn)) x (U ++ deadH M) := by
  intro E a hG hr hH
  subst hxs
  have hA := repL_map (ρ := ρ) (E := E) (a := a) (l := args) fun p hp => hr p (by simp [ho, Op.operands, Call.operands, hp])
  have h1 := hr g (by simp [ho, Op.operands, Call.operands])
  rw [hg] at h1
  unfold Rep at h1
  obtain ⟨vs, h2, h3⟩ := h1
  have app : ∀ (xs : List Av) (us : List Value), RepL E xs us → RepL E (xs ++ caps) (us ++ vs) := by
    intro xs
    induction xs with
    | nil => intro us h; unfold RepL at h; subst h; exact h3
    | cons x xs ih =>
      intro us h
      unfold RepL at h
      obtain ⟨v, us', rfl, h4, h5⟩ := h
      rw [List.cons_append, List.cons_append]
      unfold RepL
      exact ⟨v, us' ++ vs, rfl, h4, ih us' h5⟩
  have := FCM.post hc hG (app _ _ hA) (fun n y hn => hH n y (List.mem_append_left _ hn)) (fun n hn hn' => hH n .unborn (List.mem_append_right _ (List.mem_map.2 ⟨n, (hV n hn).resolve_left hn', rfl⟩))) hb hRU hMU hIA hIR hIx hIU
  unfold grows execOp
  simp only [ho, resolve, Deferred.ofValue, h2, Sem.run_bind, Sem.run_pure, Result.andThen_ok, invoke, Array.append_empty, Array.empty_append, List.map_toArray, List.append_toArray, callB_run hf, growUpon]
  exact this
end
end Go.Proofs.Ytfipllnodgbghaa
namespace Go.Proofs.Ytfipllnodgbghaa
open Go.RowKit Go.Maps
set_option linter.unusedVariables false
set_option linter.unusedSimpArgs false
def kI (y : Int) : Lit := .int .i64 y
def ivI (c : Int) : DataW Unit := .lit (.int .i64 c)
theorem kI_inj {a b : Int} (h : kI a = kI b) : a = b := by
  unfold kI at h
  injection h
theorem kI_key (a : Int) : WideAt.IsKeyLit (kI a) := trivial
def labD (C : List InsP) : Nat → DataW Unit
  | 0 => .map []
  | k + 1 => if (C.getD k dIns).1 = 38 ∧ Maps.has (labD C k) (kI (C.getD k dIns).2) = false then (labD C k).put (kI (C.getD k dIns).2) (ivI (k : Int)) else labD C k
structure LabOk (C : List InsP) (n : Nat) : Prop where
  tidy : Tidy (labD C n)
  size : Maps.size (labD C n) ≤ n
  has : ∀ y, Maps.has (labD C n) (kI y) = (standsP (C.take n) y).isSome
  at_ : ∀ y, (labD C n).atKey (kI y) (ivI 0) = ivI (((standsP (C.take n) y).getD 0 : Nat) : Int)
theorem stands_more {C : List InsP} {n : Nat} (h : n < C.length) (y : Int) : standsP (C.take (n + 1)) y = (match standsP (C.take n) y with | some j => some j | none => if (C.getD n dIns).1 = 38 ∧ (C.getD n dIns).2 = y then some n else none) := by
  unfold standsP
  rw [List.take_succ_eq_append_getElem h, List.findIdx?_append, List.getD, List.getElem?_eq_getElem h, Option.getD_some]
  cases (C.take n).findIdx? fun x => x.1 == 38 && x.2 == y with
  | some j => rfl
  | none =>
    show (List.findIdx? _ [C[n]]).map _ = _
    rw [List.findIdx?_singleton]
    by_cases hc : (C[n]).1 = 38 ∧ (C[n]).2 = y
    · rw [if_pos hc, if_pos (by simp [hc.1, hc.2])]
      simp
      omega
    · rw [if_neg hc, if_neg (by simpa using hc)]
      rfl
theorem lab_ok {C : List InsP} : ∀ n, n ≤ C.length → LabOk C n
  | 0, _ => ⟨tidy_empty, Nat.le_refl _, fun y => rfl, fun y => rfl⟩
  | n + 1, h => by
    have ih := lab_ok (C := C) n (by omega)
    have hm := stands_more (C := C) (n := n) (by omega)
    by_cases hc : (C.getD n dIns).1 = 38 ∧ Maps.has (labD C n) (kI (C.getD n dIns).2) = false
    · have e : labD C (n + 1) = (labD C n).put (kI (C.getD n dIns).2) (ivI (n : Int)) := by
        show (if _ then _ else _) = _
        rw [if_pos hc]
      have hno : standsP (C.take n) (C.getD n dIns).2 = none := by
        have := hc.2
        rw [ih.has] at this
        simpa using this
      refine ⟨by rw [e]; exact ih.tidy.put (kI_key _) _, ?_, fun y => ?_, fun y => ?_⟩
      · rw [e, size_put ih.tidy]
        have := ih.size
        split <;> omega
      · rw [e, hm y]
        by_cases ey : y = (C.getD n dIns).2
        · subst ey
          rw [has_put_same ih.tidy.isMap (kI_key _), hno]
          show true = (if (C.getD n dIns).1 = 38 ∧ (C.getD n dIns).2 = (C.getD n dIns).2 then some n else none : Option Nat).isSome
          rw [if_pos ⟨hc.1, rfl⟩]
          rfl
        · rw [has_put_other fun h' => ey (kI_inj h'), ih.has]
          cases standsP (C.take n) y with
          | some j => rfl
          | none =>
            show _ = (if (C.getD n dIns).1 = 38 ∧ (C.getD n dIns).2 = y then some n else none : Option Nat).isSome
            rw [if_neg fun hq => ey hq.2.symm]
      · rw [e, hm y]
        by_cases ey : y = (C.getD n dIns).2
        · subst ey
          rw [atKey_put_same ih.tidy.isMap (kI_key _), hno]
          show ivI (n : Int) = ivI ((((if (C.getD n dIns).1 = 38 ∧ (C.getD n dIns).2 = (C.getD n dIns).2 then some n else none : Option Nat)).getD 0 : Nat) : Int)
          rw [if_pos ⟨hc.1, rfl⟩]
          rfl
        · rw [atKey_put_other (fun h' => ey (kI_inj h')), ih.at_]
          cases standsP (C.take n) y with
          | some j => rfl
          | none =>
            show _ = ivI ((((if (C.getD n dIns).1 = 38 ∧ (C.getD n dIns).2 = y then some n else none : Option Nat)).getD 0 : Nat) : Int)
            rw [if_neg fun hq => ey hq.2.symm]
    · have e : labD C (n + 1) = labD C n := by
        show (if _ then _ else _) = _
        rw [if_neg hc]
      have hs : ∀ y, standsP (C.take (n + 1)) y = standsP (C.take n) y := fun y => by
        rw [hm y]
        cases hz : standsP (C.take n) y with
        | some j => rfl
        | none =>
          show (if _ then _ else _) = _
          rw [if_neg]
          rintro ⟨h1, h2⟩
          refine hc ⟨h1, ?_⟩
          rw [ih.has, h2, hz]
          rfl
      exact ⟨by rw [e]; exact ih.tidy, by rw [e]; have := ih.size; omega, fun y => by rw [e, hs y]; exact ih.has y, fun y => by rw [e, hs y]; exact ih.at_ y⟩
theorem lab_all (C : List InsP) : (∀ y, Maps.has (labD C C.length) (kI y) = (standsP C y).isSome) ∧ ∀ y, (labD C C.length).atKey (kI y) (ivI 0) = ivI (((standsP C y).getD 0 : Nat) : Int) := by
  have := lab_ok (C := C) C.length (Nat.le_refl _)
  have h1 := this.has
  have h2 := this.at_
  rw [List.take_length] at h1 h2
  exact ⟨h1, h2⟩
end Go.Proofs.Ytfipllnodgbghaa
namespace Go.Proofs.Ytfipllnodgbghaa
open Go.RowKit
set_option maxRecDepth 100000
set_option linter.unusedVariables false
set_option linter.unusedSimpArgs false
theorem wf_num {c : Int} (h : -9223372036854775808 ≤ c ∧ c < 9223372036854775808) : (Lit.int .i64 c).wf = true := by
  have h2 : IntKind.i64.min = -9223372036854775808 := rfl
  have h3 : IntKind.i64.max = 9223372036854775807 := rfl
  simp [Lit.wf, h2, h3]
  omega
set_option maxHeartbeats 800000 in
theorem labels_pc (C : List InsP) (hl : C.length ≤ 1000000000) (hC : ∀ k, -9223372036854775808 ≤ (C.getD k dIns).2 ∧ (C.getD k dIns).2 < 9223372036854775808) : PC Try.prog 22 [codeAv C] (.fm Try.prog 3 3 (labD C C.length)) := by
  refine FC.body 3 36 Try.func22 rfl (by kernel_rfl) ?_
  refine aw_seq ?_
  refine aw_text rfl ?_
  refine ch_v (R := []) rfl rfl (oc_assign (x := .val _) rfl rfl) trivial ?_
  refine ck_nil ?_
  refine aw_seq ?_
  refine aw_text rfl ?_
  refine ch_u rfl rfl (oc_makeMap (k := 3) (e := 3) 0 rfl (by kernel_rfl)) ⟨rfl, trivial⟩ ?_
  refine ch_v (R := []) rfl rfl (oc_assign (x := .mp _) rfl rfl) trivial ?_
  refine ck_nil ?_
  refine aw_seq ?_
  refine aw_seq ?_
  refine aw_text rfl ?_
  refine ch_v (R := []) rfl rfl (oc_move (x := .sl _ _ _) rfl rfl) trivial ?_
  refine ch_v (R := []) rfl rfl (oc_len rfl rfl (by kernel_rfl)) trivial ?_
  refine ch_v (R := []) rfl rfl (oc_move (x := .val _) rfl rfl) trivial ?_
  refine ck_nil ?_
  refine aw_block ?_
  refine aw_loop (ι := Nat) (fun k => ⟨[(3, .mp 0), (9, codeAv C), (10, vi (C.length : Int)), (11, vi k)], [(0, .map Try.prog 3 3 (labD C k)), (1, .unborn)]⟩) (fun k => k ≤ C.length) (fun k => C.length - k) 0 (Nat.zero_le _) (Le.sub ⟨.inr rfl, .inr rfl, .inr rfl, .inr rfl, trivial⟩ ⟨rfl, rfl, trivial⟩) ?_
  intro k hI
  refine aw_seq ?_
  refine aw_text rfl ?_
  refine ch_v (R := []) rfl rfl (oc_binZ rfl rfl rfl rfl) trivial ?_
  refine ck_nil ?_
  refine aw_seq ?_
  refine aw_cond rfl (fun hb => ?_) (fun hb => ?_)
  · have hlt : k < C.length := by have h0 := of_decide_eq_true hb; omega
    have hx2 := hC k
    have hok := lab_ok (C := C) k (by omega)
    have hsz := hok.size
    refine aw_skip ?_
    refine aw_seq ?_
    refine aw_block ?_
    refine aw_seq ?_
    refine aw_text rfl ?_
    refine ch_v (R := []) rfl rfl (oc_move (x := .val _) rfl rfl) trivial ?_
    refine ch_v (R := []) rfl rfl ((by first | exact oc_indexN rfl rfl rfl (by kernel_rfl) (by omega) | exact oc_index rfl rfl rfl (by kernel_rfl) (by omega) (by omega) rfl)) trivial ?_
    refine ch_v (R := []) rfl rfl (oc_load_row rfl rfl (by kernel_rfl) (by kernel_rfl) rfl) trivial ?_
    refine ch_u rfl rfl (oc_alloc (zs := [.int .i64 0, .int .i64 0]) (cs := [.val _, .val _]) 1 rfl (by kernel_rfl) rfl rfl) ⟨rfl, trivial⟩ ?_
    refine ch_v (R := []) rfl rfl (oc_assign (x := .val _) rfl rfl) trivial ?_
    refine ch_n rfl rfl (oc_store_row (x := .agg _) (cs' := [_, _]) rfl rfl rfl rfl (by kernel_rfl) (by first | decide | exact Nat.le_of_ble_eq_true rfl | simp) (by first | decide | exact Nat.le_of_ble_eq_true rfl | simp) rfl) ⟨rfl, trivial⟩ ?_
    refine ck_nil ?_
    refine aw_seq ?_
    refine aw_text rfl ?_
    refine ch_v (R := []) rfl rfl (oc_move (x := .mp _) rfl rfl) trivial ?_
    refine ch_v (R := [(_, .live _ _)]) rfl rfl (oc_fieldAddr_own (off := 1) (sz := 1) (r := false) rfl rfl (by first | decide | simp) (by kernel_rfl) (by decide)) ⟨rfl, trivial⟩ ?_
    refine ch_v (R := [(_, .live _ _)]) rfl rfl (oc_load_own rfl rfl (by kernel_rfl) rfl) ⟨rfl, trivial⟩ ?_
    refine ch_v (R := [(_, .map _ _ _ _)]) rfl rfl (oc_lookupOk (k := 3) (e := 3) (Go.Maps.int_keyed Try.underlying3) rfl rfl rfl (by kernel_rfl) (by kernel_rfl) (by kernel_rfl) (Go.Maps.keyOf_int_mk Try.underlying3 (wf_num hx2)) (hok.at_ _)) ⟨rfl, trivial⟩ ?_
    refine ch_v (R := []) rfl rfl (oc_move (x := .tup _) rfl rfl) trivial ?_
    refine ch_v (R := []) rfl rfl (oc_extract rfl rfl rfl) trivial ?_
    refine ch_v (R := []) rfl rfl (oc_extract rfl rfl rfl) trivial ?_
    refine ch_v (R := []) rfl rfl (oc_assign (x := .val _) rfl rfl) trivial ?_
    refine ch_v (R := []) rfl rfl (oc_assign (x := .val _) rfl rfl) trivial ?_
    refine ck_nil ?_
    refine aw_seq ?_
    refine aw_text rfl ?_
    refine ch_v (R := [(_, .live _ _)]) rfl rfl (oc_fieldAddr_own (off := 0) (sz := 1) (r := false) rfl rfl (by first | decide | simp) (by kernel_rfl) (by decide)) ⟨rfl, trivial⟩ ?_
    refine ch_v (R := [(_, .live _ _)]) rfl rfl (oc_load_own rfl rfl (by kernel_rfl) rfl) ⟨rfl, trivial⟩ ?_
    refine ch_v (R := []) rfl rfl (oc_binZ rfl rfl rfl rfl) trivial ?_
    refine ch_v (R := []) rfl rfl (oc_move (x := .val _) rfl rfl) trivial ?_
    refine ch_g (R := []) rfl rfl rfl gate_t (fun hC => oc_move (x := .val _) rfl rfl) (fun hC => ⟨(by first | rfl | exact hC | (simp only [Bool.and_eq_true] at hC; first | exact hC.1 | exact hC.1.1 | exact hC.2) | simp_all), trivial⟩) trivial ?_
    refine ch_g (R := []) rfl rfl rfl gate_t (fun hC => oc_not rfl rfl) (fun hC => ⟨(by first | rfl | exact hC | (simp only [Bool.and_eq_true] at hC; first | exact hC.1 | exact hC.1.1 | exact hC.2) | simp_all), trivial⟩) trivial ?_
    refine ch_v (R := []) rfl rfl (oc_and rfl rfl rfl rfl (by first | exact fun h => h | simp_all)) trivial ?_
    refine ck_nil ?_
    refine aw_cond rfl (fun hb => ?_) (fun hb => ?_)
    · have hb : ((C.getD k dIns).1 == 38 && !Go.Maps.has (labD C k) (kI (C.getD k dIns).2)) = true := hb
      have hc : (C.getD k dIns).1 = 38 ∧ Go.Maps.has (labD C k) (kI (C.getD k dIns).2) = false := by
        rw [Bool.and_eq_true, Bool.not_eq_true'] at hb
        exact ⟨by simpa using hb.1, hb.2⟩
      have e1 : labD C (k + 1) = (labD C k).put (kI (C.getD k dIns).2) (ivI (k : Int)) := by
        show (if _ then _ else _) = _
        rw [if_pos hc]
      refine aw_text rfl ?_
      refine ch_v (R := []) rfl rfl (oc_move (x := .mp _) rfl rfl) trivial ?_
      refine ch_v (R := [(_, .live _ _)]) rfl rfl (oc_fieldAddr_own (off := 1) (sz := 1) (r := false) rfl rfl (by first | decide | simp) (by kernel_rfl) (by decide)) ⟨rfl, trivial⟩ ?_
      refine ch_v (R := [(_, .live _ _)]) rfl rfl (oc_load_own rfl rfl (by kernel_rfl) rfl) ⟨rfl, trivial⟩ ?_
      refine ch_v (R := []) rfl rfl (oc_move (x := .val _) rfl rfl) trivial ?_
      refine ch_n rfl rfl (oc_mapUpdate (k := 3) (e := 3) (Go.Maps.int_keyed Try.underlying3) rfl rfl rfl rfl (by kernel_rfl) (by kernel_rfl) (Go.Maps.keyOf_int_mk Try.underlying3 (wf_num hx2)) (wf_num (by omega)) (by have : maxLen = 9223372036854775807 := rfl; omega)) ⟨rfl, trivial⟩ ?_
      refine ck_nil ?_
      refine aw_text rfl ?_
      refine ch_v (R := []) rfl rfl (oc_binZ rfl rfl rfl (by first | exact binW_add (by omega) (by omega) | rfl)) trivial ?_
      refine ch_v (R := []) rfl rfl (oc_move (x := .val _) rfl rfl) trivial ?_
      refine ck_nil ?_
      exact ⟨k + 1, by omega, by omega, Le.reset [1] (by simp) ⟨.inr rfl, .inr rfl, .inr rfl, .inr (vi_eq (by omega)), trivial⟩ ⟨by simp [NoN], NoN.of_pure _ (code_pure C), by simp [NoN], by simp [NoN], trivial⟩ ⟨by rw [if_neg (by decide), e1]; exact ⟨rfl, trivial⟩, by rw [if_pos (by decide)], trivial⟩⟩
    · have hb : ((C.getD k dIns).1 == 38 && !Go.Maps.has (labD C k) (kI (C.getD k dIns).2)) = false := hb
      have hc : ¬ ((C.getD k dIns).1 = 38 ∧ Go.Maps.has (labD C k) (kI (C.getD k dIns).2) = false) := by
        rintro ⟨h1, h2⟩
        rw [h1, show Go.Maps.has (labD C k) (kI (C.getD k dIns).2) = false from h2] at hb
        simp at hb
      have e1 : labD C (k + 1) = labD C k := by
        show (if _ then _ else _) = _
        rw [if_neg hc]
      refine aw_skip ?_
      refine aw_text rfl ?_
      refine ch_v (R := []) rfl rfl (oc_binZ rfl rfl rfl (by first | exact binW_add (by omega) (by omega) | rfl)) trivial ?_
      refine ch_v (R := []) rfl rfl (oc_move (x := .val _) rfl rfl) trivial ?_
      refine ck_nil ?_
      exact ⟨k + 1, by omega, by omega, Le.reset [1] (by simp) ⟨.inr rfl, .inr rfl, .inr rfl, .inr (vi_eq (by omega)), trivial⟩ ⟨by simp [NoN], NoN.of_pure _ (code_pure C), by simp [NoN], by simp [NoN], trivial⟩ ⟨by rw [if_neg (by decide), e1]; exact ⟨rfl, trivial⟩, by rw [if_pos (by decide)], trivial⟩⟩
  · have hge : k = C.length := by have h0 := of_decide_eq_false hb; omega
    refine aw_exit ?_
    refine aw_seq ?_
    rw [hge]
    refine aw_le (Le.freezeMap 3 0 rfl rfl) ?_
    refine aw_text rfl ?_
    refine ch_v (R := []) rfl rfl (oc_move (x := .fm _ _ _ _) rfl rfl) trivial ?_
    refine ch_v (R := []) rfl rfl (oc_assign (x := .fm _ _ _ _) rfl rfl) trivial ?_
    refine ck_nil ?_
    refine aw_ret ?_
    exact ⟨.inl rfl, ResOk.tmp rfl rfl, trivial⟩
end Go.Proofs.Ytfipllnodgbghaa
namespace Go.Proofs.Ytfipllnodgbghaa
open Go.RowKit
set_option maxRecDepth 100000
set_option linter.unusedVariables false
set_option linter.unusedSimpArgs false
set_option maxHeartbeats 3200000 in
theorem deed_pc (s : StmtP) : PC Try.prog 80 [stmtAv s] (insAv (deedI s)) := by
  rw [stmtAv_eq]
  refine FC.body 2 72 Try.func80 rfl (by kernel_rfl) ?_
  refine aw_seq ?_
  refine aw_text rfl ?_
  refine ch_v (R := []) rfl rfl (oc_box (x := .agg _) rfl rfl) trivial ?_
  refine ch_u rfl rfl (oc_alloc (zs := [.int .i64 0, .int .i64 0]) (cs := [.val _, .val _]) 0 rfl (by kernel_rfl) rfl rfl) ⟨rfl, trivial⟩ ?_
  refine ck_nil ?_
  refine aw_seq ?_
  refine aw_seq ?_
  refine aw_text rfl ?_
  refine ch_v (R := []) rfl rfl (oc_fieldAddr (off := 0) rfl rfl rfl (by kernel_rfl) rfl) trivial ?_
  refine ch_v (R := []) rfl rfl (oc_load rfl rfl (by kernel_rfl) cells_int) trivial ?_
  refine ck_nil ?_
  refine aw_block ?_
  refine aw_seq ?_
  refine aw_seq ?_
  refine aw_text rfl ?_
  refine ch_v (R := []) rfl rfl (oc_binZ rfl rfl rfl rfl) trivial ?_
  refine ch_v (R := []) rfl rfl (oc_assign (x := .val _) rfl rfl) trivial ?_
  refine ck_nil ?_
  refine aw_joinQ (τ := ⟨[(1, .ptr (stmtAv s)), (2, .own 0 0), (4, vi s.kind), (5, vb (s.kind == 2 || s.kind == 3))], [(0, .live 40 [vi 0, vi 0])]⟩) ?_ ?_
  · refine aw_cond rfl (fun hb => ?_) (fun hb => ?_)
    · refine aw_skip ?_
      exact Le.sub ⟨.inr (by rw [stmtAv_eq]; rfl), .inr rfl, .inr rfl, .inr (vb_eq (by simp_all)), trivial⟩ ⟨rfl, trivial⟩
    · refine aw_text rfl ?_
      refine ch_v (R := []) rfl rfl (oc_binZ rfl rfl rfl rfl) trivial ?_
      refine ch_v (R := []) rfl rfl (oc_assign (x := .val _) rfl rfl) trivial ?_
      refine ck_nil ?_
      exact Le.sub ⟨.inr (by rw [stmtAv_eq]; rfl), .inr rfl, .inr rfl, .inr (vb_eq (by simp_all)), trivial⟩ ⟨rfl, trivial⟩
  · refine aw_cond rfl (fun hb => ?_) (fun hb => ?_)
    · have k2 : s.kind = 2 ∨ s.kind = 3 := by simpa using hb
      refine aw_seq ?_
      rw [stmtAv_eq]
      refine aw_text rfl ?_
      refine ch_v (R := []) rfl rfl (oc_fieldAddr (off := 1) rfl rfl rfl (by kernel_rfl) rfl) trivial ?_
      refine ch_v (R := []) rfl rfl (oc_load rfl rfl (by kernel_rfl) cells_int) trivial ?_
      refine ch_v (R := []) rfl rfl (oc_call rfl (by kernel_rfl) (code_pc 6 (s.num)) rfl (by simp only [PureL, Pure, and_self, pure_slI, pure_slS, pure_tab, expr_pure, exprs_pure, stmt_pure, stmts_pure, code_pure, insAv, implies_true]) (by simp only [PureL, Pure, and_self, pure_slI, pure_slS, pure_tab, expr_pure, exprs_pure, stmt_pure, stmts_pure, code_pure, insAv, implies_true])) trivial ?_
      refine ch_n rfl rfl (oc_store_row (x := .agg _) (cs' := [_, _]) rfl rfl rfl rfl (by kernel_rfl) (by first | decide | exact Nat.le_of_ble_eq_true rfl | simp) (by first | decide | exact Nat.le_of_ble_eq_true rfl | simp) rfl) ⟨rfl, trivial⟩ ?_
      refine ck_nil ?_
      refine aw_ret ?_
      exact ⟨.inl rfl, by rw [ins_eq (show deedI s = (6, s.num) by unfold deedI; rw [if_pos k2])]; exact ResOk.cell rfl rfl rfl (by kernel_rfl) (by kernel_rfl) (Nat.le_of_ble_eq_true rfl), trivial⟩
    · have k2 : ¬ (s.kind = 2 ∨ s.kind = 3) := by simpa using hb
      refine aw_seq ?_
      rw [stmtAv_eq]
      refine aw_text rfl ?_
      refine ch_v (R := []) rfl rfl (oc_binZ rfl rfl rfl rfl) trivial ?_
      refine ch_v (R := []) rfl rfl (oc_assign (x := .val _) rfl rfl) trivial ?_
      refine ck_nil ?_
      refine aw_cond rfl (fun hb => ?_) (fun hb => ?_)
      · have k23 : s.kind = 23 := by simpa using hb
        refine aw_seq ?_
        refine aw_text rfl ?_
        refine ch_v (R := []) rfl rfl (oc_fieldAddr (off := 1) rfl rfl rfl (by kernel_rfl) rfl) trivial ?_
        refine ch_v (R := []) rfl rfl (oc_load rfl rfl (by kernel_rfl) cells_int) trivial ?_
        refine ch_v (R := []) rfl rfl (oc_call rfl (by kernel_rfl) (code_pc 4 (s.num)) rfl (by simp only [PureL, Pure, and_self, pure_slI, pure_slS, pure_tab, expr_pure, exprs_pure, stmt_pure, stmts_pure, code_pure, insAv, implies_true]) (by simp only [PureL, Pure, and_self, pure_slI, pure_slS, pure_tab, expr_pure, exprs_pure, stmt_pure, stmts_pure, code_pure, insAv, implies_true])) trivial ?_
        refine ch_n rfl rfl (oc_store_row (x := .agg _) (cs' := [_, _]) rfl rfl rfl rfl (by kernel_rfl) (by first | decide | exact Nat.le_of_ble_eq_true rfl | simp) (by first | decide | exact Nat.le_of_ble_eq_true rfl | simp) rfl) ⟨rfl, trivial⟩ ?_
        refine ck_nil ?_
        refine aw_ret ?_
        exact ⟨.inl rfl, by rw [ins_eq (show deedI s = (4, s.num) by unfold deedI; rw [if_neg k2, if_pos k23])]; exact ResOk.cell rfl rfl rfl (by kernel_rfl) (by kernel_rfl) (Nat.le_of_ble_eq_true rfl), trivial⟩
      · have k23 : ¬ (s.kind = 23) := by simpa using hb
        refine aw_seq ?_
        refine aw_text rfl ?_
        refine ch_v (R := []) rfl rfl (oc_binZ rfl rfl rfl rfl) trivial ?_
        refine ch_v (R := []) rfl rfl (oc_assign (x := .val _) rfl rfl) trivial ?_
        refine ck_nil ?_
        refine aw_cond rfl (fun hb => ?_) (fun hb => ?_)
        · have k4 : s.kind = 4 := by simpa using hb
          refine aw_seq ?_
          refine aw_text rfl ?_
          refine ch_v (R := []) rfl rfl (oc_fieldAddr (off := 1) rfl rfl rfl (by kernel_rfl) rfl) trivial ?_
          refine ch_v (R := []) rfl rfl (oc_load rfl rfl (by kernel_rfl) cells_int) trivial ?_
          refine ch_v (R := []) rfl rfl (oc_call rfl (by kernel_rfl) (code_pc 14 (s.num)) rfl (by simp only [PureL, Pure, and_self, pure_slI, pure_slS, pure_tab, expr_pure, exprs_pure, stmt_pure, stmts_pure, code_pure, insAv, implies_true]) (by simp only [PureL, Pure, and_self, pure_slI, pure_slS, pure_tab, expr_pure, exprs_pure, stmt_pure, stmts_pure, code_pure, insAv, implies_true])) trivial ?_
          refine ch_n rfl rfl (oc_store_row (x := .agg _) (cs' := [_, _]) rfl rfl rfl rfl (by kernel_rfl) (by first | decide | exact Nat.le_of_ble_eq_true rfl | simp) (by first | decide | exact Nat.le_of_ble_eq_true rfl | simp) rfl) ⟨rfl, trivial⟩ ?_
          refine ck_nil ?_
          refine aw_ret ?_
          exact ⟨.inl rfl, by rw [ins_eq (show deedI s = (14, s.num) by unfold deedI; rw [if_neg k2, if_neg k23, if_pos k4])]; exact ResOk.cell rfl rfl rfl (by kernel_rfl) (by kernel_rfl) (Nat.le_of_ble_eq_true rfl), trivial⟩
        · have k4 : ¬ (s.kind = 4) := by simpa using hb
          refine aw_seq ?_
          refine aw_text rfl ?_
          refine ch_v (R := []) rfl rfl (oc_binZ rfl rfl rfl rfl) trivial ?_
          refine ch_v (R := []) rfl rfl (oc_assign (x := .val _) rfl rfl) trivial ?_
          refine ck_nil ?_
          refine aw_cond rfl (fun hb => ?_) (fun hb => ?_)
          · have k5 : s.kind = 5 := by simpa using hb
            refine aw_seq ?_
            refine aw_text rfl ?_
            refine ch_v (R := []) rfl rfl (oc_fieldAddr (off := 1) rfl rfl rfl (by kernel_rfl) rfl) trivial ?_
            refine ch_v (R := []) rfl rfl (oc_load rfl rfl (by kernel_rfl) cells_int) trivial ?_
            refine ch_v (R := []) rfl rfl (oc_call rfl (by kernel_rfl) (code_pc 15 (s.num)) rfl (by simp only [PureL, Pure, and_self, pure_slI, pure_slS, pure_tab, expr_pure, exprs_pure, stmt_pure, stmts_pure, code_pure, insAv, implies_true]) (by simp only [PureL, Pure, and_self, pure_slI, pure_slS, pure_tab, expr_pure, exprs_pure, stmt_pure, stmts_pure, code_pure, insAv, implies_true])) trivial ?_
            refine ch_n rfl rfl (oc_store_row (x := .agg _) (cs' := [_, _]) rfl rfl rfl rfl (by kernel_rfl) (by first | decide | exact Nat.le_of_ble_eq_true rfl | simp) (by first | decide | exact Nat.le_of_ble_eq_true rfl | simp) rfl) ⟨rfl, trivial⟩ ?_
            refine ck_nil ?_
            refine aw_ret ?_
            exact ⟨.inl rfl, by rw [ins_eq (show deedI s = (15, s.num) by unfold deedI; rw [if_neg k2, if_neg k23, if_neg k4, if_pos k5])]; exact ResOk.cell rfl rfl rfl (by kernel_rfl) (by kernel_rfl) (Nat.le_of_ble_eq_true rfl), trivial⟩
          · have k5 : ¬ (s.kind = 5) := by simpa using hb
            refine aw_seq ?_
            refine aw_text rfl ?_
            refine ch_v (R := []) rfl rfl (oc_binZ rfl rfl rfl rfl) trivial ?_
            refine ch_v (R := []) rfl rfl (oc_assign (x := .val _) rfl rfl) trivial ?_
            refine ck_nil ?_
            refine aw_cond rfl (fun hb => ?_) (fun hb => ?_)
            · have k6 : s.kind = 6 := by simpa using hb
              refine aw_seq ?_
              refine aw_text rfl ?_
              refine ch_v (R := []) rfl rfl (oc_fieldAddr (off := 1) rfl rfl rfl (by kernel_rfl) rfl) trivial ?_
              refine ch_v (R := []) rfl rfl (oc_load rfl rfl (by kernel_rfl) cells_int) trivial ?_
              refine ch_v (R := []) rfl rfl (oc_call rfl (by kernel_rfl) (code_pc 16 (s.num)) rfl (by simp only [PureL, Pure, and_self, pure_slI, pure_slS, pure_tab, expr_pure, exprs_pure, stmt_pure, stmts_pure, code_pure, insAv, implies_true]) (by simp only [PureL, Pure, and_self, pure_slI, pure_slS, pure_tab, expr_pure, exprs_pure, stmt_pure, stmts_pure, code_pure, insAv, implies_true])) trivial ?_
              refine ch_n rfl rfl (oc_store_row (x := .agg _) (cs' := [_, _]) rfl rfl rfl rfl (by kernel_rfl) (by first | decide | exact Nat.le_of_ble_eq_true rfl | simp) (by first | decide | exact Nat.le_of_ble_eq_true rfl | simp) rfl) ⟨rfl, trivial⟩ ?_
              refine ck_nil ?_
              refine aw_ret ?_
              exact ⟨.inl rfl, by rw [ins_eq (show deedI s = (16, s.num) by unfold deedI; rw [if_neg k2, if_neg k23, if_neg k4, if_neg k5, if_pos k6])]; exact ResOk.cell rfl rfl rfl (by kernel_rfl) (by kernel_rfl) (Nat.le_of_ble_eq_true rfl), trivial⟩
            · have k6 : ¬ (s.kind = 6) := by simpa using hb
              refine aw_seq ?_
              refine aw_text rfl ?_
              refine ch_v (R := []) rfl rfl (oc_binZ rfl rfl rfl rfl) trivial ?_
              refine ch_v (R := []) rfl rfl (oc_assign (x := .val _) rfl rfl) trivial ?_
              refine ck_nil ?_
              refine aw_cond rfl (fun hb => ?_) (fun hb => ?_)
              · have k17 : s.kind = 17 := by simpa using hb
                refine aw_seq ?_
                refine aw_text rfl ?_
                refine ch_v (R := []) rfl rfl (oc_fieldAddr (off := 1) rfl rfl rfl (by kernel_rfl) rfl) trivial ?_
                refine ch_v (R := []) rfl rfl (oc_load rfl rfl (by kernel_rfl) cells_int) trivial ?_
                refine ch_v (R := []) rfl rfl (oc_call rfl (by kernel_rfl) (code_pc 32 (s.num)) rfl (by simp only [PureL, Pure, and_self, pure_slI, pure_slS, pure_tab, expr_pure, exprs_pure, stmt_pure, stmts_pure, code_pure, insAv, implies_true]) (by simp only [PureL, Pure, and_self, pure_slI, pure_slS, pure_tab, expr_pure, exprs_pure, stmt_pure, stmts_pure, code_pure, insAv, implies_true])) trivial ?_
                refine ch_n rfl rfl (oc_store_row (x := .agg _) (cs' := [_, _]) rfl rfl rfl rfl (by kernel_rfl) (by first | decide | exact Nat.le_of_ble_eq_true rfl | simp) (by first | decide | exact Nat.le_of_ble_eq_true rfl | simp) rfl) ⟨rfl, trivial⟩ ?_
                refine ck_nil ?_
                refine aw_ret ?_
                exact ⟨.inl rfl, by rw [ins_eq (show deedI s = (32, s.num) by unfold deedI; rw [if_neg k2, if_neg k23, if_neg k4, if_neg k5, if_neg k6, if_pos k17])]; exact ResOk.cell rfl rfl rfl (by kernel_rfl) (by kernel_rfl) (Nat.le_of_ble_eq_true rfl), trivial⟩
              · have k17 : ¬ (s.kind = 17) := by simpa using hb
                refine aw_seq ?_
                refine aw_text rfl ?_
                refine ch_v (R := []) rfl rfl (oc_binZ rfl rfl rfl rfl) trivial ?_
                refine ch_v (R := []) rfl rfl (oc_assign (x := .val _) rfl rfl) trivial ?_
                refine ck_nil ?_
                refine aw_cond rfl (fun hb => ?_) (fun hb => ?_)
                · have k18 : s.kind = 18 := by simpa using hb
                  refine aw_seq ?_
                  refine aw_text rfl ?_
                  refine ch_v (R := []) rfl rfl (oc_fieldAddr (off := 1) rfl rfl rfl (by kernel_rfl) rfl) trivial ?_
                  refine ch_v (R := []) rfl rfl (oc_load rfl rfl (by kernel_rfl) cells_int) trivial ?_
                  refine ch_v (R := []) rfl rfl (oc_call rfl (by kernel_rfl) (code_pc 33 (s.num)) rfl (by simp only [PureL, Pure, and_self, pure_slI, pure_slS, pure_tab, expr_pure, exprs_pure, stmt_pure, stmts_pure, code_pure, insAv, implies_true]) (by simp only [PureL, Pure, and_self, pure_slI, pure_slS, pure_tab, expr_pure, exprs_pure, stmt_pure, stmts_pure, code_pure, insAv, implies_true])) trivial ?_
                  refine ch_n rfl rfl (oc_store_row (x := .agg _) (cs' := [_, _]) rfl rfl rfl rfl (by kernel_rfl) (by first | decide | exact Nat.le_of_ble_eq_true rfl | simp) (by first | decide | exact Nat.le_of_ble_eq_true rfl | simp) rfl) ⟨rfl, trivial⟩ ?_
                  refine ck_nil ?_
                  refine aw_ret ?_
                  exact ⟨.inl rfl, by rw [ins_eq (show deedI s = (33, s.num) by unfold deedI; rw [if_neg k2, if_neg k23, if_neg k4, if_neg k5, if_neg k6, if_neg k17, if_pos k18])]; exact ResOk.cell rfl rfl rfl (by kernel_rfl) (by kernel_rfl) (Nat.le_of_ble_eq_true rfl), trivial⟩
                · have k18 : ¬ (s.kind = 18) := by simpa using hb
                  refine aw_seq ?_
                  refine aw_text rfl ?_
                  refine ch_v (R := []) rfl rfl (oc_binZ rfl rfl rfl rfl) trivial ?_
                  refine ch_v (R := []) rfl rfl (oc_assign (x := .val _) rfl rfl) trivial ?_
                  refine ck_nil ?_
                  refine aw_cond rfl (fun hb => ?_) (fun hb => ?_)
                  · have k7 : s.kind = 7 := by simpa using hb
                    refine aw_seq ?_
                    refine aw_text rfl ?_
                    refine ch_v (R := []) rfl rfl (oc_call rfl (by kernel_rfl) (code_pc 17 (0)) rfl (by simp only [PureL, Pure, and_self, pure_slI, pure_slS, pure_tab, expr_pure, exprs_pure, stmt_pure, stmts_pure, code_pure, insAv, implies_true]) (by simp only [PureL, Pure, and_self, pure_slI, pure_slS, pure_tab, expr_pure, exprs_pure, stmt_pure, stmts_pure, code_pure, insAv, implies_true])) trivial ?_
                    refine ch_n rfl rfl (oc_store_row (x := .agg _) (cs' := [_, _]) rfl rfl rfl rfl (by kernel_rfl) (by first | decide | exact Nat.le_of_ble_eq_true rfl | simp) (by first | decide | exact Nat.le_of_ble_eq_true rfl | simp) rfl) ⟨rfl, trivial⟩ ?_
                    refine ck_nil ?_
                    refine aw_ret ?_
                    exact ⟨.inl rfl, by rw [ins_eq (show deedI s = (17, 0) by unfold deedI; rw [if_neg k2, if_neg k23, if_neg k4, if_neg k5, if_neg k6, if_neg k17, if_neg k18, if_pos k7])]; exact ResOk.cell rfl rfl rfl (by kernel_rfl) (by kernel_rfl) (Nat.le_of_ble_eq_true rfl), trivial⟩
                  · have k7 : ¬ (s.kind = 7) := by simpa using hb
                    refine aw_seq ?_
                    refine aw_text rfl ?_
                    refine ch_v (R := []) rfl rfl (oc_binZ rfl rfl rfl rfl) trivial ?_
                    refine ch_v (R := []) rfl rfl (oc_assign (x := .val _) rfl rfl) trivial ?_
                    refine ck_nil ?_
                    refine aw_cond rfl (fun hb => ?_) (fun hb => ?_)
                    · have k8 : s.kind = 8 := by simpa using hb
                      refine aw_seq ?_
                      refine aw_text rfl ?_
                      refine ch_v (R := []) rfl rfl (oc_call rfl (by kernel_rfl) (code_pc 18 (0)) rfl (by simp only [PureL, Pure, and_self, pure_slI, pure_slS, pure_tab, expr_pure, exprs_pure, stmt_pure, stmts_pure, code_pure, insAv, implies_true]) (by simp only [PureL, Pure, and_self, pure_slI, pure_slS, pure_tab, expr_pure, exprs_pure, stmt_pure, stmts_pure, code_pure, insAv, implies_true])) trivial ?_
                      refine ch_n rfl rfl (oc_store_row (x := .agg _) (cs' := [_, _]) rfl rfl rfl rfl (by kernel_rfl) (by first | decide | exact Nat.le_of_ble_eq_true rfl | simp) (by first | decide | exact Nat.le_of_ble_eq_true rfl | simp) rfl) ⟨rfl, trivial⟩ ?_
                      refine ck_nil ?_
                      refine aw_ret ?_
                      exact ⟨.inl rfl, by rw [ins_eq (show deedI s = (18, 0) by unfold deedI; rw [if_neg k2, if_neg k23, if_neg k4, if_neg k5, if_neg k6, if_neg k17, if_neg k18, if_neg k7, if_pos k8])]; exact ResOk.cell rfl rfl rfl (by kernel_rfl) (by kernel_rfl) (Nat.le_of_ble_eq_true rfl), trivial⟩
                    · have k8 : ¬ (s.kind = 8) := by simpa using hb
                      refine aw_seq ?_
                      refine aw_text rfl ?_
                      refine ch_v (R := []) rfl rfl (oc_binZ rfl rfl rfl rfl) trivial ?_
                      refine ch_v (R := []) rfl rfl (oc_assign (x := .val _) rfl rfl) trivial ?_
                      refine ck_nil ?_
                      refine aw_cond rfl (fun hb => ?_) (fun hb => ?_)
                      · have k12 : s.kind = 12 := by simpa using hb
                        refine aw_seq ?_
                        refine aw_text rfl ?_
                        refine ch_v (R := []) rfl rfl (oc_call rfl (by kernel_rfl) (code_pc 27 (0)) rfl (by simp only [PureL, Pure, and_self, pure_slI, pure_slS, pure_tab, expr_pure, exprs_pure, stmt_pure, stmts_pure, code_pure, insAv, implies_true]) (by simp only [PureL, Pure, and_self, pure_slI, pure_slS, pure_tab, expr_pure, exprs_pure, stmt_pure, stmts_pure, code_pure, insAv, implies_true])) trivial ?_
                        refine ch_n rfl rfl (oc_store_row (x := .agg _) (cs' := [_, _]) rfl rfl rfl rfl (by kernel_rfl) (by first | decide | exact Nat.le_of_ble_eq_true rfl | simp) (by first | decide | exact Nat.le_of_ble_eq_true rfl | simp) rfl) ⟨rfl, trivial⟩ ?_
                        refine ck_nil ?_
                        refine aw_ret ?_
                        exact ⟨.inl rfl, by rw [ins_eq (show deedI s = (27, 0) by unfold deedI; rw [if_neg k2, if_neg k23, if_neg k4, if_neg k5, if_neg k6, if_neg k17, if_neg k18, if_neg k7, if_neg k8, if_pos k12])]; exact ResOk.cell rfl rfl rfl (by kernel_rfl) (by kernel_rfl) (Nat.le_of_ble_eq_true rfl), trivial⟩
                      · have k12 : ¬ (s.kind = 12) := by simpa using hb
                        refine aw_seq ?_
                        refine aw_text rfl ?_
                        refine ch_v (R := []) rfl rfl (oc_binZ rfl rfl rfl rfl) trivial ?_
                        refine ch_v (R := []) rfl rfl (oc_assign (x := .val _) rfl rfl) trivial ?_
                        refine ck_nil ?_
                        refine aw_cond rfl (fun hb => ?_) (fun hb => ?_)
                        · have k13 : s.kind = 13 := by simpa using hb
                          refine aw_seq ?_
                          refine aw_text rfl ?_
                          refine ch_v (R := []) rfl rfl (oc_call rfl (by kernel_rfl) (code_pc 28 (0)) rfl (by simp only [PureL, Pure, and_self, pure_slI, pure_slS, pure_tab, expr_pure, exprs_pure, stmt_pure, stmts_pure, code_pure, insAv, implies_true]) (by simp only [PureL, Pure, and_self, pure_slI, pure_slS, pure_tab, expr_pure, exprs_pure, stmt_pure, stmts_pure, code_pure, insAv, implies_true])) trivial ?_
                          refine ch_n rfl rfl (oc_store_row (x := .agg _) (cs' := [_, _]) rfl rfl rfl rfl (by kernel_rfl) (by first | decide | exact Nat.le_of_ble_eq_true rfl | simp) (by first | decide | exact Nat.le_of_ble_eq_true rfl | simp) rfl) ⟨rfl, trivial⟩ ?_
                          refine ck_nil ?_
                          refine aw_ret ?_
                          exact ⟨.inl rfl, by rw [ins_eq (show deedI s = (28, 0) by unfold deedI; rw [if_neg k2, if_neg k23, if_neg k4, if_neg k5, if_neg k6, if_neg k17, if_neg k18, if_neg k7, if_neg k8, if_neg k12, if_pos k13])]; exact ResOk.cell rfl rfl rfl (by kernel_rfl) (by kernel_rfl) (Nat.le_of_ble_eq_true rfl), trivial⟩
                        · have k13 : ¬ (s.kind = 13) := by simpa using hb
                          refine aw_seq ?_
                          refine aw_text rfl ?_
                          refine ch_v (R := []) rfl rfl (oc_binZ rfl rfl rfl rfl) trivial ?_
                          refine ch_v (R := []) rfl rfl (oc_assign (x := .val _) rfl rfl) trivial ?_
                          refine ck_nil ?_
                          refine aw_cond rfl (fun hb => ?_) (fun hb => ?_)
                          · have k14 : s.kind = 14 := by simpa using hb
                            refine aw_seq ?_
                            refine aw_text rfl ?_
                            refine ch_v (R := []) rfl rfl (oc_call rfl (by kernel_rfl) (code_pc 29 (0)) rfl (by simp only [PureL, Pure, and_self, pure_slI, pure_slS, pure_tab, expr_pure, exprs_pure, stmt_pure, stmts_pure, code_pure, insAv, implies_true]) (by simp only [PureL, Pure, and_self, pure_slI, pure_slS, pure_tab, expr_pure, exprs_pure, stmt_pure, stmts_pure, code_pure, insAv, implies_true])) trivial ?_
                            refine ch_n rfl rfl (oc_store_row (x := .agg _) (cs' := [_, _]) rfl rfl rfl rfl (by kernel_rfl) (by first | decide | exact Nat.le_of_ble_eq_true rfl | simp) (by first | decide | exact Nat.le_of_ble_eq_true rfl | simp) rfl) ⟨rfl, trivial⟩ ?_
                            refine ck_nil ?_
                            refine aw_ret ?_
                            exact ⟨.inl rfl, by rw [ins_eq (show deedI s = (29, 0) by unfold deedI; rw [if_neg k2, if_neg k23, if_neg k4, if_neg k5, if_neg k6, if_neg k17, if_neg k18, if_neg k7, if_neg k8, if_neg k12, if_neg k13, if_pos k14])]; exact ResOk.cell rfl rfl rfl (by kernel_rfl) (by kernel_rfl) (Nat.le_of_ble_eq_true rfl), trivial⟩
                          · have k14 : ¬ (s.kind = 14) := by simpa using hb
                            refine aw_seq ?_
                            refine aw_text rfl ?_
                            refine ch_v (R := []) rfl rfl (oc_binZ rfl rfl rfl rfl) trivial ?_
                            refine ch_v (R := []) rfl rfl (oc_assign (x := .val _) rfl rfl) trivial ?_
                            refine ck_nil ?_
                            refine aw_cond rfl (fun hb => ?_) (fun hb => ?_)
                            · have k15 : s.kind = 15 := by simpa using hb
                              refine aw_seq ?_
                              refine aw_text rfl ?_
                              refine ch_v (R := []) rfl rfl (oc_call rfl (by kernel_rfl) (code_pc 30 (0)) rfl (by simp only [PureL, Pure, and_self, pure_slI, pure_slS, pure_tab, expr_pure, exprs_pure, stmt_pure, stmts_pure, code_pure, insAv, implies_true]) (by simp only [PureL, Pure, and_self, pure_slI, pure_slS, pure_tab, expr_pure, exprs_pure, stmt_pure, stmts_pure, code_pure, insAv, implies_true])) trivial ?_
                              refine ch_n rfl rfl (oc_store_row (x := .agg _) (cs' := [_, _]) rfl rfl rfl rfl (by kernel_rfl) (by first | decide | exact Nat.le_of_ble_eq_true rfl | simp) (by first | decide | exact Nat.le_of_ble_eq_true rfl | simp) rfl) ⟨rfl, trivial⟩ ?_
                              refine ck_nil ?_
                              refine aw_ret ?_
                              exact ⟨.inl rfl, by rw [ins_eq (show deedI s = (30, 0) by unfold deedI; rw [if_neg k2, if_neg k23, if_neg k4, if_neg k5, if_neg k6, if_neg k17, if_neg k18, if_neg k7, if_neg k8, if_neg k12, if_neg k13, if_neg k14, if_pos k15])]; exact ResOk.cell rfl rfl rfl (by kernel_rfl) (by kernel_rfl) (Nat.le_of_ble_eq_true rfl), trivial⟩
                            · have k15 : ¬ (s.kind = 15) := by simpa using hb
                              refine aw_seq ?_
                              refine aw_text rfl ?_
                              refine ch_v (R := []) rfl rfl (oc_binZ rfl rfl rfl rfl) trivial ?_
                              refine ch_v (R := []) rfl rfl (oc_assign (x := .val _) rfl rfl) trivial ?_
                              refine ck_nil ?_
                              refine aw_cond rfl (fun hb => ?_) (fun hb => ?_)
                              · have k16 : s.kind = 16 := by simpa using hb
                                refine aw_seq ?_
                                refine aw_text rfl ?_
                                refine ch_v (R := []) rfl rfl (oc_call rfl (by kernel_rfl) (code_pc 31 (0)) rfl (by simp only [PureL, Pure, and_self, pure_slI, pure_slS, pure_tab, expr_pure, exprs_pure, stmt_pure, stmts_pure, code_pure, insAv, implies_true]) (by simp only [PureL, Pure, and_self, pure_slI, pure_slS, pure_tab, expr_pure, exprs_pure, stmt_pure, stmts_pure, code_pure, insAv, implies_true])) trivial ?_
                                refine ch_n rfl rfl (oc_store_row (x := .agg _) (cs' := [_, _]) rfl rfl rfl rfl (by kernel_rfl) (by first | decide | exact Nat.le_of_ble_eq_true rfl | simp) (by first | decide | exact Nat.le_of_ble_eq_true rfl | simp) rfl) ⟨rfl, trivial⟩ ?_
                                refine ck_nil ?_
                                refine aw_ret ?_
                                exact ⟨.inl rfl, by rw [ins_eq (show deedI s = (31, 0) by unfold deedI; rw [if_neg k2, if_neg k23, if_neg k4, if_neg k5, if_neg k6, if_neg k17, if_neg k18, if_neg k7, if_neg k8, if_neg k12, if_neg k13, if_neg k14, if_neg k15, if_pos k16])]; exact ResOk.cell rfl rfl rfl (by kernel_rfl) (by kernel_rfl) (Nat.le_of_ble_eq_true rfl), trivial⟩
                              · have k16 : ¬ (s.kind = 16) := by simpa using hb
                                refine aw_seq ?_
                                refine aw_text rfl ?_
                                refine ch_v (R := []) rfl rfl (oc_binZ rfl rfl rfl rfl) trivial ?_
                                refine ch_v (R := []) rfl rfl (oc_assign (x := .val _) rfl rfl) trivial ?_
                                refine ck_nil ?_
                                refine aw_cond rfl (fun hb => ?_) (fun hb => ?_)
                                · have k20 : s.kind = 20 := by simpa using hb
                                  refine aw_seq ?_
                                  refine aw_text rfl ?_
                                  refine ch_v (R := []) rfl rfl (oc_call rfl (by kernel_rfl) (code_pc 34 (0)) rfl (by simp only [PureL, Pure, and_self, pure_slI, pure_slS, pure_tab, expr_pure, exprs_pure, stmt_pure, stmts_pure, code_pure, insAv, implies_true]) (by simp only [PureL, Pure, and_self, pure_slI, pure_slS, pure_tab, expr_pure, exprs_pure, stmt_pure, stmts_pure, code_pure, insAv, implies_true])) trivial ?_
                                  refine ch_n rfl rfl (oc_store_row (x := .agg _) (cs' := [_, _]) rfl rfl rfl rfl (by kernel_rfl) (by first | decide | exact Nat.le_of_ble_eq_true rfl | simp) (by first | decide | exact Nat.le_of_ble_eq_true rfl | simp) rfl) ⟨rfl, trivial⟩ ?_
                                  refine ck_nil ?_
                                  refine aw_ret ?_
                                  exact ⟨.inl rfl, by rw [ins_eq (show deedI s = (34, 0) by unfold deedI; rw [if_neg k2, if_neg k23, if_neg k4, if_neg k5, if_neg k6, if_neg k17, if_neg k18, if_neg k7, if_neg k8, if_neg k12, if_neg k13, if_neg k14, if_neg k15, if_neg k16, if_pos k20])]; exact ResOk.cell rfl rfl rfl (by kernel_rfl) (by kernel_rfl) (Nat.le_of_ble_eq_true rfl), trivial⟩
                                · have k20 : ¬ (s.kind = 20) := by simpa using hb
                                  refine aw_seq ?_
                                  refine aw_text rfl ?_
                                  refine ch_v (R := []) rfl rfl (oc_binZ rfl rfl rfl rfl) trivial ?_
                                  refine ch_v (R := []) rfl rfl (oc_assign (x := .val _) rfl rfl) trivial ?_
                                  refine ck_nil ?_
                                  refine aw_cond rfl (fun hb => ?_) (fun hb => ?_)
                                  · have k21 : s.kind = 21 := by simpa using hb
                                    refine aw_seq ?_
                                    refine aw_text rfl ?_
                                    refine ch_v (R := []) rfl rfl (oc_call rfl (by kernel_rfl) (code_pc 35 (0)) rfl (by simp only [PureL, Pure, and_self, pure_slI, pure_slS, pure_tab, expr_pure, exprs_pure, stmt_pure, stmts_pure, code_pure, insAv, implies_true]) (by simp only [PureL, Pure, and_self, pure_slI, pure_slS, pure_tab, expr_pure, exprs_pure, stmt_pure, stmts_pure, code_pure, insAv, implies_true])) trivial ?_
                                    refine ch_n rfl rfl (oc_store_row (x := .agg _) (cs' := [_, _]) rfl rfl rfl rfl (by kernel_rfl) (by first | decide | exact Nat.le_of_ble_eq_true rfl | simp) (by first | decide | exact Nat.le_of_ble_eq_true rfl | simp) rfl) ⟨rfl, trivial⟩ ?_
                                    refine ck_nil ?_
                                    refine aw_ret ?_
                                    exact ⟨.inl rfl, by rw [ins_eq (show deedI s = (35, 0) by unfold deedI; rw [if_neg k2, if_neg k23, if_neg k4, if_neg k5, if_neg k6, if_neg k17, if_neg k18, if_neg k7, if_neg k8, if_neg k12, if_neg k13, if_neg k14, if_neg k15, if_neg k16, if_neg k20, if_pos k21])]; exact ResOk.cell rfl rfl rfl (by kernel_rfl) (by kernel_rfl) (Nat.le_of_ble_eq_true rfl), trivial⟩
                                  · have k21 : ¬ (s.kind = 21) := by simpa using hb
                                    refine aw_seq ?_
                                    refine aw_text rfl ?_
                                    refine ch_v (R := []) rfl rfl (oc_binZ rfl rfl rfl rfl) trivial ?_
                                    refine ch_v (R := []) rfl rfl (oc_assign (x := .val _) rfl rfl) trivial ?_
                                    refine ck_nil ?_
                                    refine aw_cond rfl (fun hb => ?_) (fun hb => ?_)
                                    · have k22 : s.kind = 22 := by simpa using hb
                                      refine aw_seq ?_
                                      refine aw_text rfl ?_
                                      refine ch_v (R := []) rfl rfl (oc_call rfl (by kernel_rfl) (code_pc 36 (0)) rfl (by simp only [PureL, Pure, and_self, pure_slI, pure_slS, pure_tab, expr_pure, exprs_pure, stmt_pure, stmts_pure, code_pure, insAv, implies_true]) (by simp only [PureL, Pure, and_self, pure_slI, pure_slS, pure_tab, expr_pure, exprs_pure, stmt_pure, stmts_pure, code_pure, insAv, implies_true])) trivial ?_
                                      refine ch_n rfl rfl (oc_store_row (x := .agg _) (cs' := [_, _]) rfl rfl rfl rfl (by kernel_rfl) (by first | decide | exact Nat.le_of_ble_eq_true rfl | simp) (by first | decide | exact Nat.le_of_ble_eq_true rfl | simp) rfl) ⟨rfl, trivial⟩ ?_
                                      refine ck_nil ?_
                                      refine aw_ret ?_
                                      exact ⟨.inl rfl, by rw [ins_eq (show deedI s = (36, 0) by unfold deedI; rw [if_neg k2, if_neg k23, if_neg k4, if_neg k5, if_neg k6, if_neg k17, if_neg k18, if_neg k7, if_neg k8, if_neg k12, if_neg k13, if_neg k14, if_neg k15, if_neg k16, if_neg k20, if_neg k21, if_pos k22])]; exact ResOk.cell rfl rfl rfl (by kernel_rfl) (by kernel_rfl) (Nat.le_of_ble_eq_true rfl), trivial⟩
                                    · have k22 : ¬ (s.kind = 22) := by simpa using hb
                                      refine aw_skip ?_
                                      refine aw_seq ?_
                                      refine aw_text rfl ?_
                                      refine ch_v (R := []) rfl rfl (oc_call rfl (by kernel_rfl) (code_pc 2 0) rfl (by simp only [PureL, Pure, and_self, pure_slI, pure_slS, pure_tab, expr_pure, exprs_pure, stmt_pure, stmts_pure, code_pure, insAv, implies_true]) (by simp only [PureL, Pure, and_self, pure_slI, pure_slS, pure_tab, expr_pure, exprs_pure, stmt_pure, stmts_pure, code_pure, insAv, implies_true])) trivial ?_
                                      refine ch_n rfl rfl (oc_store_row (x := .agg _) (cs' := [_, _]) rfl rfl rfl rfl (by kernel_rfl) (by first | decide | exact Nat.le_of_ble_eq_true rfl | simp) (by first | decide | exact Nat.le_of_ble_eq_true rfl | simp) rfl) ⟨rfl, trivial⟩ ?_
                                      refine ck_nil ?_
                                      refine aw_ret ?_
                                      exact ⟨.inl rfl, by rw [ins_eq (show deedI s = (2, 0) by unfold deedI; rw [if_neg k2, if_neg k23, if_neg k4, if_neg k5, if_neg k6, if_neg k17, if_neg k18, if_neg k7, if_neg k8, if_neg k12, if_neg k13, if_neg k14, if_neg k15, if_neg k16, if_neg k20, if_neg k21, if_neg k22])]; exact ResOk.cell rfl rfl rfl (by kernel_rfl) (by kernel_rfl) (Nat.le_of_ble_eq_true rfl), trivial⟩
end Go.Proofs.Ytfipllnodgbghaa
namespace Go.Proofs.Ytfipllnodgbghaa
open Go.RowKit
set_option maxRecDepth 100000
set_option linter.unusedVariables false
set_option linter.unusedSimpArgs false
set_option maxHeartbeats 800000 in
theorem greater_pc (a b : Int) : PC Try.prog 50 [vi a, vi b] (vi (maxI a b)) := by
  refine FC.body 2 10 Try.func50 rfl (by kernel_rfl) ?_
  refine aw_seq ?_
  refine aw_text rfl ?_
  refine ch_v (R := []) rfl rfl (oc_assign (x := .val _) rfl rfl) trivial ?_
  refine ck_nil ?_
  refine aw_seq ?_
  refine aw_seq ?_
  refine aw_text rfl ?_
  refine ch_v (R := []) rfl rfl (oc_move (x := .val _) rfl rfl) trivial ?_
  refine ch_v (R := []) rfl rfl (oc_move (x := .val _) rfl rfl) trivial ?_
  refine ch_v (R := []) rfl rfl (oc_binZ rfl rfl rfl rfl) trivial ?_
  refine ck_nil ?_
  refine aw_cond rfl (fun hb => ?_) (fun hb => ?_)
  · have h1 : a > b := of_decide_eq_true hb
    refine aw_seq ?_
    refine aw_text rfl ?_
    refine ch_v (R := []) rfl rfl (oc_move (x := .val _) rfl rfl) trivial ?_
    refine ch_v (R := []) rfl rfl (oc_assign (x := .val _) rfl rfl) trivial ?_
    refine ck_nil ?_
    refine aw_ret ?_
    exact ⟨.inl rfl, ResOk.tmp rfl (vi_eq (by unfold maxI; rw [if_pos h1])), trivial⟩
  · have h1 : ¬ a > b := of_decide_eq_false hb
    refine aw_skip ?_
    refine aw_seq ?_
    refine aw_text rfl ?_
    refine ch_v (R := []) rfl rfl (oc_move (x := .val _) rfl rfl) trivial ?_
    refine ch_v (R := []) rfl rfl (oc_assign (x := .val _) rfl rfl) trivial ?_
    refine ck_nil ?_
    refine aw_ret ?_
    exact ⟨.inl rfl, ResOk.tmp rfl (vi_eq (by unfold maxI; rw [if_neg h1])), trivial⟩
set_option maxHeartbeats 800000 in
theorem among10_pc (n lo hi : Int) : PC Try.prog 53 [vi n, vi lo, vi hi] (vb (among n lo hi)) := by
  refine FC.body 2 15 Try.func53 rfl (by kernel_rfl) ?_
  refine aw_seq ?_
  refine aw_text rfl ?_
  refine ch_v (R := []) rfl rfl (oc_assign (x := .val _) rfl rfl) trivial ?_
  refine ck_nil ?_
  refine aw_seq ?_
  refine aw_text rfl ?_
  refine ch_v (R := []) rfl rfl (oc_move (x := .val _) rfl rfl) trivial ?_
  refine ch_v (R := []) rfl rfl (oc_move (x := .val _) rfl rfl) trivial ?_
  refine ch_v (R := []) rfl rfl (oc_binZ rfl rfl rfl rfl) trivial ?_
  refine ch_v (R := []) rfl rfl (oc_move (x := .val _) rfl rfl) trivial ?_
  refine ch_g (R := []) rfl rfl rfl gate_t (fun hC => oc_move (x := .val _) rfl rfl) (fun hC => ⟨(by first | rfl | exact hC | (simp only [Bool.and_eq_true] at hC; first | exact hC.1 | exact hC.1.1 | exact hC.2) | simp_all), trivial⟩) trivial ?_
  refine ch_g (R := []) rfl rfl rfl gate_t (fun hC => oc_move (x := .val _) rfl rfl) (fun hC => ⟨(by first | rfl | exact hC | (simp only [Bool.and_eq_true] at hC; first | exact hC.1 | exact hC.1.1 | exact hC.2) | simp_all), trivial⟩) trivial ?_
  refine ch_g (R := []) rfl rfl rfl gate_t (fun hC => oc_binZ rfl rfl rfl rfl) (fun hC => ⟨(by first | rfl | exact hC | (simp only [Bool.and_eq_true] at hC; first | exact hC.1 | exact hC.1.1 | exact hC.2) | simp_all), (by first | rfl | exact hC | (simp only [Bool.and_eq_true] at hC; first | exact hC.1 | exact hC.1.1 | exact hC.2) | simp_all), trivial⟩) trivial ?_
  refine ch_v (R := []) rfl rfl (oc_and rfl rfl rfl rfl (by first | exact fun h => h | simp_all)) trivial ?_
  refine ch_v (R := []) rfl rfl (oc_assign (x := .val _) rfl rfl) trivial ?_
  refine ck_nil ?_
  refine aw_ret ?_
  exact ⟨.inl rfl, ResOk.tmp rfl rfl, trivial⟩
theorem str_eqB (s t : ByteArray) : (s.toList == t.toList) = decide (s = t) := by
  rw [toList_beq]
  by_cases e : s = t
  · subst e; simp
  · have : ¬ tB s = tB t := fun h => e (tB_inj h)
    simp [e, this]
set_option maxHeartbeats 800000 in
theorem bare_pc (e : ExprP) (n : Int) (op num named : Bool) : PC Try.prog 54 [exprAv e, vi n, vb op, vb num, vb named] (vb (bareE e n op num named)) := by
  rw [exprAv_eq]
  refine FC.body 2 40 Try.func54 rfl (by kernel_rfl) ?_
  refine aw_seq ?_
  refine aw_text rfl ?_
  refine ch_v (R := []) rfl rfl (oc_box (x := .agg _) rfl rfl) trivial ?_
  refine ch_v (R := []) rfl rfl (oc_assign (x := .val _) rfl rfl) trivial ?_
  refine ck_nil ?_
  refine aw_seq ?_
  refine aw_text rfl ?_
  refine ch_v (R := []) rfl rfl (oc_fieldAddr (off := 4) rfl rfl rfl (by kernel_rfl) rfl) trivial ?_
  refine ch_v (R := []) rfl rfl (oc_load rfl rfl (by kernel_rfl) cells_sl) trivial ?_
  refine ch_v (R := []) rfl rfl (oc_len rfl rfl (by kernel_rfl)) trivial ?_
  refine ch_v (R := []) rfl rfl (oc_move (x := .val _) rfl rfl) trivial ?_
  refine ch_v (R := []) rfl rfl (oc_binZ rfl rfl rfl rfl) trivial ?_
  refine ch_v (R := []) rfl rfl (oc_move (x := .val _) rfl rfl) trivial ?_
  refine ch_g (R := []) rfl rfl rfl gate_t (fun hC => oc_move (x := .val _) rfl rfl) (fun hC => ⟨(by first | rfl | exact hC | (simp only [Bool.and_eq_true] at hC; first | exact hC.1 | exact hC.1.1 | exact hC.2) | simp_all), trivial⟩) trivial ?_
  refine ch_g (R := []) rfl rfl rfl gate_t (fun hC => oc_move (x := .val _) rfl rfl) (fun hC => ⟨(by first | rfl | exact hC | (simp only [Bool.and_eq_true] at hC; first | exact hC.1 | exact hC.1.1 | exact hC.2) | simp_all), trivial⟩) trivial ?_
  refine ch_g (R := []) rfl rfl rfl gate_gf (fun hC => oc_fieldAddr (off := 1) rfl rfl rfl (by kernel_rfl) rfl) (fun hC => ⟨(by first | rfl | exact hC | (simp only [Bool.and_eq_true] at hC; first | exact hC.1 | exact hC.1.1 | exact hC.2) | simp_all), trivial⟩) trivial ?_
  refine ch_g (R := []) rfl rfl rfl gate_gf (fun hC => oc_load rfl rfl (by kernel_rfl) cells_int) (fun hC => ⟨(by first | rfl | exact hC | (simp only [Bool.and_eq_true] at hC; first | exact hC.1 | exact hC.1.1 | exact hC.2) | simp_all), trivial⟩) trivial ?_
  refine ch_g (R := []) rfl rfl rfl gate_gf (fun hC => oc_binZ rfl rfl rfl rfl) (fun hC => ⟨(by first | rfl | exact hC | (simp only [Bool.and_eq_true] at hC; first | exact hC.1 | exact hC.1.1 | exact hC.2) | simp_all), (by first | rfl | exact hC | (simp only [Bool.and_eq_true] at hC; first | exact hC.1 | exact hC.1.1 | exact hC.2) | simp_all), trivial⟩) trivial ?_
  refine ch_gp rfl rfl rfl rfl gate_t (fun hC => (by first | rfl | exact hC | (simp only [Bool.and_eq_true] at hC; first | exact hC.1 | exact hC.1.1 | exact hC.2) | simp_all)) rfl (fun hC E a hp hq => pk_or rfl (by first | exact fun h => tt2 hC h | exact fun h => h | simp_all) hq) ?_
  refine ch_v (R := []) rfl rfl (oc_and rfl rfl rfl rfl (by first | exact fun h => h | simp_all)) trivial ?_
  refine ch_v (R := []) rfl rfl (oc_move (x := .val _) rfl rfl) trivial ?_
  refine ch_g (R := []) rfl rfl rfl gate_t (fun hC => oc_move (x := .val _) rfl rfl) (fun hC => ⟨(by first | rfl | exact hC | (simp only [Bool.and_eq_true] at hC; first | exact hC.1 | exact hC.1.1 | exact hC.2) | simp_all), trivial⟩) trivial ?_
  refine ch_g (R := []) rfl rfl rfl gate_t (fun hC => oc_move (x := .val _) rfl rfl) (fun hC => ⟨(by first | rfl | exact hC | (simp only [Bool.and_eq_true] at hC; first | exact hC.1 | exact hC.1.1 | exact hC.2) | simp_all), trivial⟩) trivial ?_
  refine ch_g (R := []) rfl rfl rfl gate_gf (fun hC => oc_fieldAddr (off := 2) rfl rfl rfl (by kernel_rfl) rfl) (fun hC => ⟨(by first | rfl | exact hC | (simp only [Bool.and_eq_true] at hC; first | exact hC.1 | exact hC.1.1 | exact hC.2) | simp_all), trivial⟩) trivial ?_
  refine ch_g (R := []) rfl rfl rfl gate_gf (fun hC => oc_load rfl rfl (by kernel_rfl) cells_int) (fun hC => ⟨(by first | rfl | exact hC | (simp only [Bool.and_eq_true] at hC; first | exact hC.1 | exact hC.1.1 | exact hC.2) | simp_all), trivial⟩) trivial ?_
  refine ch_g (R := []) rfl rfl rfl gate_gf (fun hC => oc_binZ rfl rfl rfl rfl) (fun hC => ⟨(by first | rfl | exact hC | (simp only [Bool.and_eq_true] at hC; first | exact hC.1 | exact hC.1.1 | exact hC.2) | simp_all), (by first | rfl | exact hC | (simp only [Bool.and_eq_true] at hC; first | exact hC.1 | exact hC.1.1 | exact hC.2) | simp_all), trivial⟩) trivial ?_
  refine ch_gp rfl rfl rfl rfl gate_t (fun hC => (by first | rfl | exact hC | (simp only [Bool.and_eq_true] at hC; first | exact hC.1 | exact hC.1.1 | exact hC.2) | simp_all)) rfl (fun hC E a hp hq => pk_or rfl (by first | exact fun h => tt2 hC h | exact fun h => h | simp_all) hq) ?_
  refine ch_v (R := []) rfl rfl (oc_and rfl rfl rfl rfl (by first | exact fun h => h | simp_all)) trivial ?_
  refine ch_v (R := []) rfl rfl (oc_move (x := .val _) rfl rfl) trivial ?_
  refine ch_g (R := []) rfl rfl rfl gate_t (fun hC => oc_move (x := .val _) rfl rfl) (fun hC => ⟨(by first | rfl | exact hC | (simp only [Bool.and_eq_true] at hC; first | exact hC.1 | exact hC.1.1 | exact hC.2) | simp_all), trivial⟩) trivial ?_
  refine ch_g (R := []) rfl rfl rfl gate_t (fun hC => oc_move (x := .val _) rfl rfl) (fun hC => ⟨(by first | rfl | exact hC | (simp only [Bool.and_eq_true] at hC; first | exact hC.1 | exact hC.1.1 | exact hC.2) | simp_all), trivial⟩) trivial ?_
  refine ch_g (R := []) rfl rfl rfl gate_gf (fun hC => oc_fieldAddr (off := 3) rfl rfl rfl (by kernel_rfl) rfl) (fun hC => ⟨(by first | rfl | exact hC | (simp only [Bool.and_eq_true] at hC; first | exact hC.1 | exact hC.1.1 | exact hC.2) | simp_all), trivial⟩) trivial ?_
  refine ch_g (R := []) rfl rfl rfl gate_gf (fun hC => oc_load rfl rfl (by kernel_rfl) cells_str) (fun hC => ⟨(by first | rfl | exact hC | (simp only [Bool.and_eq_true] at hC; first | exact hC.1 | exact hC.1.1 | exact hC.2) | simp_all), trivial⟩) trivial ?_
  refine ch_g (R := []) rfl rfl rfl gate_gf (fun hC => oc_str_eq rfl rfl rfl) (fun hC => ⟨(by first | rfl | exact hC | (simp only [Bool.and_eq_true] at hC; first | exact hC.1 | exact hC.1.1 | exact hC.2) | simp_all), (by first | rfl | exact hC | (simp only [Bool.and_eq_true] at hC; first | exact hC.1 | exact hC.1.1 | exact hC.2) | simp_all), trivial⟩) trivial ?_
  refine ch_gp rfl rfl rfl rfl gate_t (fun hC => (by first | rfl | exact hC | (simp only [Bool.and_eq_true] at hC; first | exact hC.1 | exact hC.1.1 | exact hC.2) | simp_all)) rfl (fun hC E a hp hq => pk_or rfl (by first | exact fun h => tt2 hC h | exact fun h => h | simp_all) hq) ?_
  refine ch_v (R := []) rfl rfl (oc_and rfl rfl rfl rfl (by first | exact fun h => h | simp_all)) trivial ?_
  refine ch_v (R := []) rfl rfl (oc_assign (x := .val _) rfl rfl) trivial ?_
  refine ck_nil ?_
  refine aw_ret ?_
  exact ⟨.inl rfl, ResOk.tmp rfl (vb_eq (by rw [str_eqB]; rfl)), trivial⟩
end Go.Proofs.Ytfipllnodgbghaa
