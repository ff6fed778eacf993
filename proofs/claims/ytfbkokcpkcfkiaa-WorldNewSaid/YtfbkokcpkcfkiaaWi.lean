/- The walk that begins a story, and the example's. -/
import Derived.Test.YtfbkokcpkcfkiaaWh
import Derived.Test.YtfbkokcpkcfkiaaWg
import Derived.Test.YtfbkokcpkcfkiaaProg
import Derived.KernelRfl
namespace Go.Proofs.Ytfbkokcpkcfkiaa
open Go.RowKit
set_option maxRecDepth 100000
set_option linter.unusedVariables false
set_option linter.unusedSimpArgs false
/-! ### Plain -/
def twoT : TabP := ⟨0, 0, 0, 0, [⟨#[97]⟩], 4, [], [], [⟨0, -1, 0, 0, false, [], [], [], []⟩, ⟨0, -1, 2, 0, false, [], [], [], []⟩, ⟨0, -1, 0, 0, true, [], [], [], []⟩, ⟨0, -1, 2, 0, false, [], [], [], []⟩], [], [], [], [], [], []⟩
theorem rep_aggTo {E : Env} : ∀ {xs ys : List Av} {vs : List Value}, (∀ (i : Nat) (x y : Av), xs[i]? = some x → ys[i]? = some y → ∀ v, Rep E x v → Rep E y v) → xs.length = ys.length → RepL E xs vs → RepL E ys vs
  | [], [], vs, _, _, h => by unfold RepL at h ⊢; exact h
  | [], _ :: _, _, _, hl, _ => by simp at hl
  | _ :: _, [], _, _, hl, _ => by simp at hl
  | x :: xs, y :: ys, vs, hp, hl, h => by
    unfold RepL at h ⊢
    obtain ⟨v, us, h1, h2, h3⟩ := h
    exact ⟨v, us, h1, hp 0 x y rfl rfl v h2, rep_aggTo (fun i a b ha hb => hp (i + 1) a b (by simpa using ha) (by simpa using hb)) (by simpa using hl) h3⟩
theorem rep_agg {xs ys : List Av} {E : Env} {v : Value} (h : Rep E (.agg xs) v) (hl : xs.length = ys.length) (hp : ∀ (E : Env) (i : Nat) (x y : Av), xs[i]? = some x → ys[i]? = some y → ∀ v, Rep E x v → Rep E y v) : Rep E (.agg ys) v := by
  unfold Rep at h ⊢
  obtain ⟨vs, h1, h2, h3⟩ := h
  exact ⟨vs, h1, rep_aggTo (hp E) hl h2, h3⟩
theorem rep_rows {k n : Nat} {r r' : Nat → Av} (hp : ∀ E j, j < n → ∀ v, Rep E (r j) v → Rep E (r' j) v) (E : Env) (v : Value) (h : Rep E (.sl k n r) v) : Rep E (.sl k n r') v := by
  unfold Rep at h ⊢
  obtain ⟨A, c, h1, h2, h3, h4⟩ := h
  refine ⟨A, c, h1, h2, h3, fun h0 => ?_⟩
  obtain ⟨b, o, h5, h6, h7⟩ := h4 h0
  refine ⟨b, o, h5, h6, fun j hj => ?_⟩
  obtain ⟨u, h8, h9⟩ := h7 j hj
  exact ⟨u, hp E j hj u h8, h9⟩
theorem rep_nil0 {k : Nat} {row : Nat → Av} (E : Env) (v : Value) (h : Rep E (.val (.slice none 0 0)) v) : Rep E (.sl k 0 row) v := rep_nil (by decide) E v h
def upTo (l : List Int) (N k : Nat) : List Int := l.take k ++ List.replicate (N - k) 0
theorem upTo_zero (l : List Int) (N : Nat) : (upTo l N 0).map vi = List.replicate N (vi 0) := by simp [upTo]
theorem upTo_len {l : List Int} {N k : Nat} (h : l.length = N) (hk : k ≤ N) : (upTo l N k).length = N := by simp [upTo]; omega
theorem upTo_set {l : List Int} {N k : Nat} (h : l.length = N) (hk : k < N) : ((upTo l N k).map vi).set k (vi (l.getD k 0)) = (upTo l N (k + 1)).map vi := by
  rw [← List.map_set]
  congr 1
  apply List.ext_getElem?
  intro i
  unfold upTo
  rw [List.getElem?_set]
  by_cases e : k = i
  · subst e
    rw [if_pos rfl, if_pos (by simp; omega), List.getElem?_append_left (by simp; omega)]
    simp [List.getElem?_take, show k < l.length from by omega]
  · rw [if_neg e]
    by_cases h1 : i < k
    · rw [List.getElem?_append_left (by simp; omega), List.getElem?_append_left (by simp; omega), List.getElem?_take, List.getElem?_take, if_pos h1, if_pos (by omega)]
    · rw [List.getElem?_append_right (by simp; omega), List.getElem?_append_right (by simp; omega), List.getElem?_replicate, List.getElem?_replicate]
      simp only [List.length_take]
      by_cases h2 : i < N
      · rw [if_pos (by omega), if_pos (by omega)]
      · rw [if_neg (by omega), if_neg (by omega)]
theorem upTo_all {l : List Int} {N : Nat} (h : l.length = N) : upTo l N N = l := by simp [upTo, ← h]
theorem vi_at {l : List Int} {i : Nat} (h : i < l.length) : (l.map vi)[i]? = some (vi (l.getD i 0)) := by simp [h]
theorem vi_put (l : List Int) (i : Nat) (x : Int) : (l.map vi).set i (vi x) = (l.set i x).map vi := by rw [List.map_set]
def lkStep (par : List Int) (k : Nat) (s : List Int × List Int) : List Int × List Int := if par.getD k 0 = 0 then s else (s.1.set (par.getD k 0).toNat (k : Int), s.2.set k (s.1.getD (par.getD k 0).toNat 0))
def lk (par : List Int) (N : Nat) : Nat → List Int × List Int
  | 0 => (List.replicate N 0, List.replicate N 0)
  | d + 1 => lkStep par (N - 1 - d) (lk par N d)
theorem lk_len (par : List Int) (N : Nat) : ∀ d, (lk par N d).1.length = N ∧ (lk par N d).2.length = N
  | 0 => by simp [lk]
  | d + 1 => by
    have := lk_len par N d
    unfold lk lkStep
    split <;> simp [this]
def TabP.par (t : TabP) : List Int := t.things.map (·.parent)
def TabP.fl (t : TabP) : List Int := t.things.map (·.flags)
def prK (t : TabP) (k : Nat) : List Int := (t.things.take k).flatMap (·.props)
def newW (t : TabP) : WorldP :=
  { globals := t.globals, parent := t.par, child := (lk t.par t.things.length (t.things.length - 1)).1, next := (lk t.par t.things.length (t.things.length - 1)).2, flags := t.fl, props := prK t t.things.length, timers := List.replicate t.daemons.length 0, seed := seedOf t.release, score := 0, turns := 0, over := 0, it := 0, go := 0 }
structure NewOk (t : TabP) : Prop where
  globals : t.globals.length ≤ 64
  low : 0 < t.things.length
  few : t.things.length ≤ 128
  daemons : t.daemons.length ≤ 16
  props : ∀ x ∈ t.things, x.props.length ≤ 16
  up : ∀ x ∈ t.things, 0 ≤ x.parent ∧ x.parent < t.things.length
theorem par_at {t : TabP} {k : Nat} (h : k < t.things.length) : t.par.getD k 0 = (t.things.getD k dThing).parent := by simp [TabP.par, h]
theorem fl_at {t : TabP} {k : Nat} (h : k < t.things.length) : t.fl.getD k 0 = (t.things.getD k dThing).flags := by simp [TabP.fl, h]
theorem par_len (t : TabP) : t.par.length = t.things.length := by simp [TabP.par]
theorem fl_len (t : TabP) : t.fl.length = t.things.length := by simp [TabP.fl]
theorem prK_succ {t : TabP} {k : Nat} (h : k < t.things.length) : prK t (k + 1) = prK t k ++ (t.things.getD k dThing).props := by
  unfold prK
  have e : t.things.take (k + 1) = t.things.take k ++ [t.things.getD k dThing] := by rw [List.take_add_one]; simp [h]
  rw [e, List.flatMap_append]
  simp
theorem prK_len {t : TabP} (h : NewOk t) : ∀ k, k ≤ t.things.length → (prK t k).length ≤ 16 * k
  | 0, _ => by simp [prK]
  | k + 1, hk => by
    have := prK_len h k (by omega)
    have := h.props _ (getD_mem (d := dThing) (show k < t.things.length by omega))
    rw [prK_succ (by omega), List.length_append]
    omega
theorem row_vi (l : List Int) : ∀ j, j < l.length → (l.map vi)[j]? = some ((fun j => vi (l.getD j 0)) j) ∧ oneA ((fun j => vi (l.getD j 0)) j) = true := fun j hj => ⟨vi_at hj, rfl⟩
theorem app_vi (l : List Int) : ∀ j, j < l.length → szB ((fun j => vi (l.getD j 0)) j) 1 = true ∧ ∀ i y, i < 1 → (l.map vi)[j * 1 + i]? = some y → (flatA ((fun j => vi (l.getD j 0)) j))[i]? = some y := row_one (fun j y hy => by
  rw [List.getElem?_map] at hy
  cases h : l[j]? with
  | none => rw [h] at hy; cases hy
  | some z => rw [h] at hy; simp at hy; subst hy; simp [List.getD, h]) (fun j hj => ⟨rfl, rfl⟩)
theorem newW_av (t : TabP) : worldAv (newW t) = .agg [slI t.globals, .sl 1 t.things.length fun j => vi (t.par.getD j 0), .sl 1 t.things.length fun j => vi ((lk t.par t.things.length (t.things.length - 1)).1.getD j 0), .sl 1 t.things.length fun j => vi ((lk t.par t.things.length (t.things.length - 1)).2.getD j 0), .sl 1 t.things.length fun j => vi (t.fl.getD j 0), slI (prK t t.things.length), .sl 1 t.daemons.length fun j => vi ((List.replicate t.daemons.length (0 : Int)).getD j 0), vu (seedOf t.release), vi 0, vi 0, vi 0, vi 0, vi 0] := by
  simp only [worldAv, newW, slI, par_len, fl_len, lk_len, List.length_replicate]
theorem lk_next (par : List Int) {N k : Nat} (h0 : 0 < k) (h : k < N) : lk par N (N - 1 - (k - 1)) = lkStep par k (lk par N (N - 1 - k)) := by
  rw [show N - 1 - (k - 1) = (N - 1 - k) + 1 from by omega]
  show lkStep par (N - 1 - (N - 1 - k)) _ = _
  rw [show N - 1 - (N - 1 - k) = k from by omega]
/-! ### The example -/
theorem th_to (p : Int) (b : Bool) (E : Env) (v : Value) (h : Rep E (.agg [vi 0, vi (-1), vi p, vi 0, vb b, .val (.slice none 0 0), .val (.slice none 0 0), .val (.slice none 0 0), .val (.slice none 0 0)]) v) : Rep E (thAv ⟨0, -1, p, 0, b, [], [], [], []⟩) v := by
  refine rep_agg h rfl fun E i x y hx hy v h => ?_
  rcases i with _ | _ | _ | _ | _ | _ | _ | _ | _ | i <;> simp at hx hy <;> subst hx <;> subst hy <;> first | exact h | exact rep_nil0 E v h
theorem two_to (E : Env) (v : Value) (h : Rep E (.agg [vi 0, vi 0, vi 0, vi 0, .sl 1 1 (rowL [vs ⟨#[97]⟩]), vi 4, .val (.slice none 0 0), .val (.slice none 0 0), .sl 9 4 (rowL [.agg [vi 0, vi (-1), vi 0, vi 0, vb false, .val (.slice none 0 0), .val (.slice none 0 0), .val (.slice none 0 0), .val (.slice none 0 0)], .agg [vi 0, vi (-1), vi 2, vi 0, vb false, .val (.slice none 0 0), .val (.slice none 0 0), .val (.slice none 0 0), .val (.slice none 0 0)], .agg [vi 0, vi (-1), vi 0, vi 0, vb true, .val (.slice none 0 0), .val (.slice none 0 0), .val (.slice none 0 0), .val (.slice none 0 0)], .agg [vi 0, vi (-1), vi 2, vi 0, vb false, .val (.slice none 0 0), .val (.slice none 0 0), .val (.slice none 0 0), .val (.slice none 0 0)]]), .val (.slice none 0 0), .val (.slice none 0 0), .val (.slice none 0 0), .val (.slice none 0 0), .val (.slice none 0 0), .val (.slice none 0 0)]) v) : Rep E (tabAv twoT) v := by
  refine rep_agg h rfl fun E i x y hx hy v h => ?_
  rcases i with _ | _ | _ | _ | _ | _ | _ | _ | _ | _ | _ | _ | _ | _ | _ | i <;> simp at hx hy <;> subst hx <;> subst hy <;> first | exact h | exact rep_nil0 E v h | skip
  · exact rep_rows (fun E j hj v h => by
      rcases j with _ | j
      · exact h
      · exact absurd hj (by simp [twoT])) E v h
  · exact rep_rows (fun E j hj v h => by
      rcases j with _ | _ | _ | _ | j
      · exact th_to _ _ E v h
      · exact th_to _ _ E v h
      · exact th_to _ _ E v h
      · exact th_to _ _ E v h
      · exact absurd hj (by simp [twoT])) E v h
set_option maxHeartbeats 800000 in
theorem two_pc  : PC Try.prog 21 [] (tabAv twoT) := by
  refine FC.body 6 8 Try.func21 rfl (by kernel_rfl) ?_
  refine aw_seq ?_
  refine aw_text rfl ?_
  refine ch_u rfl rfl (oc_alloc (zs := [.int .i64 0, .int .i64 0, .int .i64 0, .int .i64 0, .slice none 0 0, .int .i64 0, .slice none 0 0, .slice none 0 0, .slice none 0 0, .slice none 0 0, .slice none 0 0, .slice none 0 0, .slice none 0 0, .slice none 0 0, .slice none 0 0]) (cs := [.val _, .val _, .val _, .val _, .val _, .val _, .val _, .val _, .val _, .val _, .val _, .val _, .val _, .val _, .val _]) 0 rfl (by kernel_rfl) rfl rfl) ⟨rfl, trivial⟩ ?_
  refine ck_nil ?_
  refine aw_seq ?_
  refine aw_text rfl ?_
  refine ch_v (R := []) rfl rfl (oc_buildSlice (ps := [_]) (xs := [.val _]) (e := 9) (k := 1) (by_ := 16) (zs := [.string ⟨#[]⟩]) rfl (by kernel_rfl) (by kernel_rfl) rfl rfl rfl (by decide) (by decide)) trivial ?_
  refine ch_v (R := []) rfl rfl (oc_build (pl := [(0, 1), (1, 1), (2, 1), (3, 1), (4, 1), (5, 1), (6, 1), (7, 1), (8, 1)]) (zs := [.int .i64 0, .int .i64 0, .int .i64 0, .int .i64 0, .bool false, .slice none 0 0, .slice none 0 0, .slice none 0 0, .slice none 0 0]) (ds := [.val _, .val _, .val _, .val _, .val _, .val _, .val _, .val _, .val _]) rfl (by kernel_rfl) rfl (by kernel_rfl) (by first | rfl | decide) rfl) trivial ?_
  refine ch_v (R := []) rfl rfl (oc_build (pl := [(0, 1), (1, 1), (2, 1), (3, 1), (4, 1), (5, 1), (6, 1), (7, 1), (8, 1)]) (zs := [.int .i64 0, .int .i64 0, .int .i64 0, .int .i64 0, .bool false, .slice none 0 0, .slice none 0 0, .slice none 0 0, .slice none 0 0]) (ds := [.val _, .val _, .val _, .val _, .val _, .val _, .val _, .val _, .val _]) rfl (by kernel_rfl) rfl (by kernel_rfl) (by first | rfl | decide) rfl) trivial ?_
  refine ch_v (R := []) rfl rfl (oc_build (pl := [(0, 1), (1, 1), (2, 1), (3, 1), (4, 1), (5, 1), (6, 1), (7, 1), (8, 1)]) (zs := [.int .i64 0, .int .i64 0, .int .i64 0, .int .i64 0, .bool false, .slice none 0 0, .slice none 0 0, .slice none 0 0, .slice none 0 0]) (ds := [.val _, .val _, .val _, .val _, .val _, .val _, .val _, .val _, .val _]) rfl (by kernel_rfl) rfl (by kernel_rfl) (by first | rfl | decide) rfl) trivial ?_
  refine ch_v (R := []) rfl rfl (oc_build (pl := [(0, 1), (1, 1), (2, 1), (3, 1), (4, 1), (5, 1), (6, 1), (7, 1), (8, 1)]) (zs := [.int .i64 0, .int .i64 0, .int .i64 0, .int .i64 0, .bool false, .slice none 0 0, .slice none 0 0, .slice none 0 0, .slice none 0 0]) (ds := [.val _, .val _, .val _, .val _, .val _, .val _, .val _, .val _, .val _]) rfl (by kernel_rfl) rfl (by kernel_rfl) (by first | rfl | decide) rfl) trivial ?_
  refine ch_v (R := []) rfl rfl (oc_buildSlice (ps := [.tmp 2, .tmp 3, .tmp 4, .tmp 5]) (xs := [.agg _, .agg _, .agg _, .agg _]) (e := 62) (k := 9) (by_ := 136) (zs := [.int .i64 0, .int .i64 0, .int .i64 0, .int .i64 0, .bool false, .slice none 0 0, .slice none 0 0, .slice none 0 0, .slice none 0 0]) rfl (by kernel_rfl) (by kernel_rfl) rfl rfl rfl (by decide) (by decide)) trivial ?_
  refine ch_v (R := []) rfl rfl (oc_build (pl := [(0, 1), (1, 1), (2, 1), (3, 1), (4, 1), (5, 1), (6, 1), (7, 1), (8, 1), (9, 1), (10, 1), (11, 1), (12, 1), (13, 1), (14, 1)]) (zs := [.int .i64 0, .int .i64 0, .int .i64 0, .int .i64 0, .slice none 0 0, .int .i64 0, .slice none 0 0, .slice none 0 0, .slice none 0 0, .slice none 0 0, .slice none 0 0, .slice none 0 0, .slice none 0 0, .slice none 0 0, .slice none 0 0]) (ds := [.val _, .val _, .val _, .val _, .sl _ _ _, .val _, .val _, .val _, .sl _ _ _, .val _, .val _, .val _, .val _, .val _, .val _]) rfl (by kernel_rfl) rfl (by kernel_rfl) (by first | rfl | decide) rfl) trivial ?_
  refine ch_n rfl rfl (oc_store_row (x := .agg _) (cs' := [_, _, _, _, _, _, _, _, _, _, _, _, _, _, _]) rfl rfl rfl rfl (by kernel_rfl) (by first | decide | exact Nat.le_of_ble_eq_true rfl | simp) (by first | decide | exact Nat.le_of_ble_eq_true rfl | simp) rfl) ⟨rfl, trivial⟩ ?_
  refine ck_nil ?_
  refine aw_ret ?_
  exact ⟨.inl rfl, ResOk.to (ResOk.cell rfl rfl rfl (by kernel_rfl) (by kernel_rfl) (Nat.le_of_ble_eq_true rfl)) two_to, trivial⟩
set_option maxHeartbeats 800000 in
theorem new_pc (t : TabP) (hk : NewOk t) : PC Try.prog 17 [tabAv t] (worldAv (newW t)) := by
  refine FC.body 10 86 Try.func17 rfl (by kernel_rfl) ?_
  have hg := hk.globals
  have hlo := hk.low
  have hfw := hk.few
  have hda := hk.daemons
  refine aw_seq ?_
  refine aw_text rfl ?_
  refine ch_v (R := []) rfl rfl (oc_box (x := .agg _) rfl rfl) trivial ?_
  refine ch_u rfl rfl (oc_alloc (zs := [.slice none 0 0, .slice none 0 0, .slice none 0 0, .slice none 0 0, .slice none 0 0, .slice none 0 0, .slice none 0 0, .int .u64 0, .int .i64 0, .int .i64 0, .int .i64 0, .int .i64 0, .int .i64 0]) (cs := [.val _, .val _, .val _, .val _, .val _, .val _, .val _, .val _, .val _, .val _, .val _, .val _, .val _]) 0 rfl (by kernel_rfl) rfl rfl) ⟨rfl, trivial⟩ ?_
  refine ck_nil ?_
  refine aw_seq ?_
  refine aw_text rfl ?_
  refine ch_v (R := []) rfl rfl (oc_fieldAddr (off := 8) rfl rfl rfl (by kernel_rfl) rfl) trivial ?_
  refine ch_v (R := []) rfl rfl (oc_load rfl rfl (by kernel_rfl) cells_sl) trivial ?_
  refine ch_v (R := []) rfl rfl (oc_len rfl rfl (by kernel_rfl)) trivial ?_
  refine ch_v (R := []) rfl rfl (oc_assign (x := .val _) rfl rfl) trivial ?_
  refine ck_nil ?_
  refine aw_seq ?_
  refine aw_draw mixed ?_
  refine ch_v (R := []) rfl rfl (oc_fieldAddr (off := 7) rfl rfl rfl (by kernel_rfl) rfl) trivial ?_
  refine ch_v (R := []) rfl rfl (oc_load rfl rfl (by kernel_rfl) cells_sl) trivial ?_
  refine ch_v (R := []) rfl rfl (oc_call rfl (by kernel_rfl) (clone_pc t.globals (by omega)) rfl (by simp only [PureL, Pure, and_self, pure_tab, pure_th, pure_slI, pure_slS, pure_ways, pure_way, pure_line, pure_lines, pure_slot, pure_verb, pure_deed, pure_things, pure_acts, pure_deeds, pure_world, vu]) (by simp only [PureL, Pure, and_self, pure_tab, pure_th, pure_slI, pure_slS, pure_ways, pure_way, pure_line, pure_lines, pure_slot, pure_verb, pure_deed, pure_things, pure_acts, pure_deeds, pure_world, vu])) trivial ?_
  refine ch_v (R := []) rfl rfl (oc_move (x := .val _) rfl rfl) trivial ?_
  refine ch_u rfl rfl (oc_makeSlice (e := 3) (by_ := 8) (z := .int .i64 0) (m := _) 1 rfl rfl rfl rfl (by kernel_rfl) (by kernel_rfl) rfl (by omega) (by omega)) ⟨rfl, trivial⟩ ?_
  refine ch_v (R := []) rfl rfl (oc_move (x := .val _) rfl rfl) trivial ?_
  refine ch_u rfl rfl (oc_makeSlice (e := 3) (by_ := 8) (z := .int .i64 0) (m := _) 2 rfl rfl rfl rfl (by kernel_rfl) (by kernel_rfl) rfl (by omega) (by omega)) ⟨rfl, trivial⟩ ?_
  refine ch_v (R := []) rfl rfl (oc_move (x := .val _) rfl rfl) trivial ?_
  refine ch_u rfl rfl (oc_makeSlice (e := 3) (by_ := 8) (z := .int .i64 0) (m := _) 3 rfl rfl rfl rfl (by kernel_rfl) (by kernel_rfl) rfl (by omega) (by omega)) ⟨rfl, trivial⟩ ?_
  refine ch_v (R := []) rfl rfl (oc_move (x := .val _) rfl rfl) trivial ?_
  refine ch_u rfl rfl (oc_makeSlice (e := 3) (by_ := 8) (z := .int .i64 0) (m := _) 4 rfl rfl rfl rfl (by kernel_rfl) (by kernel_rfl) rfl (by omega) (by omega)) ⟨rfl, trivial⟩ ?_
  refine ch_v (R := []) rfl rfl (oc_fieldAddr (off := 12) rfl rfl rfl (by kernel_rfl) rfl) trivial ?_
  refine ch_v (R := []) rfl rfl (oc_load rfl rfl (by kernel_rfl) cells_sl) trivial ?_
  refine ch_v (R := []) rfl rfl (oc_len rfl rfl (by kernel_rfl)) trivial ?_
  refine ch_u rfl rfl (oc_makeSlice (e := 3) (by_ := 8) (z := .int .i64 0) (m := _) 5 rfl rfl rfl rfl (by kernel_rfl) (by kernel_rfl) rfl (by omega) (by omega)) ⟨rfl, trivial⟩ ?_
  refine ch_v (R := []) rfl rfl (oc_fieldAddr (off := 2) rfl rfl rfl (by kernel_rfl) rfl) trivial ?_
  refine ch_v (R := []) rfl rfl (oc_load rfl rfl (by kernel_rfl) cells_int) trivial ?_
  refine ch_v (R := []) rfl rfl (oc_call rfl (by kernel_rfl) (From_pc _) rfl (by simp only [PureL, Pure, and_self, pure_tab, pure_th, pure_slI, pure_slS, pure_ways, pure_way, pure_line, pure_lines, pure_slot, pure_verb, pure_deed, pure_things, pure_acts, pure_deeds, pure_world, vu]) (by simp only [PureL, Pure, and_self, pure_tab, pure_th, pure_slI, pure_slS, pure_ways, pure_way, pure_line, pure_lines, pure_slot, pure_verb, pure_deed, pure_things, pure_acts, pure_deeds, pure_world, vu])) trivial ?_
  refine ch_v (R := []) rfl rfl (oc_build (pl := [(0, 1), (1, 1), (2, 1), (3, 1), (4, 1), (5, 1), (6, 1), (7, 1), (8, 1), (9, 1), (10, 1), (11, 1), (12, 1)]) (zs := [.slice none 0 0, .slice none 0 0, .slice none 0 0, .slice none 0 0, .slice none 0 0, .slice none 0 0, .slice none 0 0, .int .u64 0, .int .i64 0, .int .i64 0, .int .i64 0, .int .i64 0, .int .i64 0]) (ds := [.sl _ _ _, .osl _ _ _, .osl _ _ _, .osl _ _ _, .osl _ _ _, .val _, .osl _ _ _, .val _, .val _, .val _, .val _, .val _, .val _]) rfl (by kernel_rfl) rfl (by kernel_rfl) (by first | rfl | decide) rfl) trivial ?_
  refine ch_u rfl rfl (oc_alloc (zs := [.slice none 0 0, .slice none 0 0, .slice none 0 0, .slice none 0 0, .slice none 0 0, .slice none 0 0, .slice none 0 0, .int .u64 0, .int .i64 0, .int .i64 0, .int .i64 0, .int .i64 0, .int .i64 0]) (cs := [.val _, .val _, .val _, .val _, .val _, .val _, .val _, .val _, .val _, .val _, .val _, .val _, .val _]) 6 rfl (by kernel_rfl) rfl rfl) ⟨rfl, trivial⟩ ?_
  refine ch_n rfl rfl (oc_store_row (x := .agg _) (cs' := [_, _, _, _, _, _, _, _, _, _, _, _, _]) rfl rfl rfl rfl (by kernel_rfl) (by first | decide | exact Nat.le_of_ble_eq_true rfl | simp) (by first | decide | exact Nat.le_of_ble_eq_true rfl | simp) rfl) ⟨rfl, trivial⟩ ?_
  refine ck_nil ⟨by kernel_rfl, ?_⟩
  refine aw_seq ?_
  refine aw_seq ?_
  refine aw_text rfl ?_
  refine ch_v (R := []) rfl rfl (oc_fieldAddr (off := 8) rfl rfl rfl (by kernel_rfl) rfl) trivial ?_
  refine ch_v (R := []) rfl rfl (oc_load rfl rfl (by kernel_rfl) cells_sl) trivial ?_
  refine ch_v (R := []) rfl rfl (oc_len rfl rfl (by kernel_rfl)) trivial ?_
  refine ch_v (R := []) rfl rfl (oc_move (x := .val _) rfl rfl) trivial ?_
  refine ck_nil ?_
  refine aw_block ?_
  refine aw_le (Le.nameNilCell 6 5 8 1 3 rfl rfl rfl (by decide)) ?_
  refine aw_loop (ι := Nat) (fun k => ⟨[(1, .ptr (tabAv t)), (2, .own 0 0), (3, vi t.things.length), (4, .own 6 0), (32, thingsAv t.things), (33, vi t.things.length), (34, vi k)], [(0, .live 33 zeroW), (1, .live 3 ((upTo t.par t.things.length k).map vi)), (2, .live 3 ((List.replicate t.things.length (0 : Int)).map vi)), (3, .live 3 ((List.replicate t.things.length (0 : Int)).map vi)), (4, .live 3 ((upTo t.fl t.things.length k).map vi)), (5, .live 3 ((List.replicate t.daemons.length (0 : Int)).map vi)), (6, .live 33 [slI t.globals, .osl 1 1 t.things.length, .osl 1 2 t.things.length, .osl 1 3 t.things.length, .osl 1 4 t.things.length, .osl 1 8 (prK t k).length, .osl 1 5 t.daemons.length, vu (seedOf t.release), vi 0, vi 0, vi 0, vi 0, vi 0]), (8, .live 3 ((prK t k).map vi)), (7, .unborn), (9, .unborn)]⟩) (fun k => k ≤ t.things.length) (fun k => t.things.length - k) 0 (Nat.zero_le _) (Le.sub (by repeat (first | trivial | refine ⟨.inr rfl, ?_⟩ | refine ⟨.inr (vi_eq (by omega)), ?_⟩)) (by refine ⟨rfl, by rw [upTo_zero]; rfl, by rw [List.map_replicate]; rfl, by rw [List.map_replicate]; rfl, by rw [upTo_zero]; rfl, by rw [List.map_replicate]; rfl, rfl, rfl, rfl, rfl, trivial⟩)) ?_
  intro k hI
  refine aw_seq ?_
  refine aw_text rfl ?_
  refine ch_v (R := []) rfl rfl (oc_binZ rfl rfl rfl rfl) trivial ?_
  refine ck_nil ?_
  refine aw_seq ?_
  refine aw_cond rfl (fun hb => ?_) (fun hb => ?_)
  · have hlt : k < t.things.length := by have h0 := of_decide_eq_true hb; omega
    refine aw_skip ?_
    refine aw_seq ?_
    refine aw_block ?_
    refine aw_seq ?_
    refine aw_text rfl ?_
    refine ch_v (R := []) rfl rfl (oc_move (x := .val _) rfl rfl) trivial ?_
    refine ch_v (R := []) rfl rfl ((by first | exact oc_indexN rfl rfl rfl (by kernel_rfl) (by omega) | exact oc_index rfl rfl rfl (by kernel_rfl) (by omega) (by omega) rfl)) trivial ?_
    refine ch_v (R := []) rfl rfl (oc_load_row rfl rfl (by kernel_rfl) (by kernel_rfl) rfl) trivial ?_
    refine ch_u rfl rfl (oc_alloc (zs := [.int .i64 0, .int .i64 0, .int .i64 0, .int .i64 0, .bool false, .slice none 0 0, .slice none 0 0, .slice none 0 0, .slice none 0 0]) (cs := [.val _, .val _, .val _, .val _, .val _, .val _, .val _, .val _, .val _]) 7 rfl (by kernel_rfl) rfl rfl) ⟨rfl, trivial⟩ ?_
    refine ch_v (R := []) rfl rfl (oc_assign (x := .val _) rfl rfl) trivial ?_
    refine ch_n rfl rfl (oc_store_row (x := .agg _) (cs' := [_, _, _, _, _, _, _, _, _]) rfl rfl rfl rfl (by kernel_rfl) (by first | decide | exact Nat.le_of_ble_eq_true rfl | simp) (by first | decide | exact Nat.le_of_ble_eq_true rfl | simp) rfl) ⟨rfl, trivial⟩ ?_
    refine ck_nil ?_
    refine aw_seq ?_
    refine aw_draw mixed ?_
    refine ch_v (R := [(_, .live _ _)]) rfl rfl (oc_fieldAddr_own (off := 1) (sz := 1) (r := false) rfl rfl (by first | decide | simp) (by kernel_rfl) (by decide)) ⟨rfl, trivial⟩ ?_
    refine ch_v (R := [(_, .live _ _)]) rfl rfl (oc_load_own rfl rfl (by kernel_rfl) rfl) ⟨rfl, trivial⟩ ?_
    refine ch_v (R := []) rfl rfl (oc_move (x := .val _) rfl rfl) trivial ?_
    refine ch_v (R := [(_, .live _ _)]) rfl rfl (oc_fieldAddr_own (off := 4) (sz := 1) (r := false) rfl rfl (by first | decide | simp) (by kernel_rfl) (by decide)) ⟨rfl, trivial⟩ ?_
    refine ch_v (R := [(_, .live _ _)]) rfl rfl (oc_load_own rfl rfl (by kernel_rfl) rfl) ⟨rfl, trivial⟩ ?_
    refine ch_v (R := []) rfl rfl (oc_move (x := .val _) rfl rfl) trivial ?_
    refine ch_v (R := [(_, .live _ _)]) rfl rfl (oc_fieldAddr_own (off := 2) (sz := 1) (r := false) rfl rfl (by first | decide | simp) (by kernel_rfl) (by decide)) ⟨rfl, trivial⟩ ?_
    refine ch_v (R := [(_, .live _ _)]) rfl rfl (oc_load_own rfl rfl (by kernel_rfl) rfl) ⟨rfl, trivial⟩ ?_
    refine ch_v (R := [(_, .live _ _)]) rfl rfl (oc_fieldAddr_own (off := 3) (sz := 1) (r := false) rfl rfl (by first | decide | simp) (by kernel_rfl) (by decide)) ⟨rfl, trivial⟩ ?_
    refine ch_v (R := [(_, .live _ _)]) rfl rfl (oc_load_own rfl rfl (by kernel_rfl) rfl) ⟨rfl, trivial⟩ ?_
    refine ch_v (R := [(_, .live _ _)]) rfl rfl (oc_index_ownN rfl rfl rfl (by kernel_rfl) (by omega)) ⟨rfl, trivial⟩ ?_
    refine ch_n rfl rfl (oc_store (y := vi (t.things.getD k dThing).parent) (cs' := (upTo t.par t.things.length (k + 1)).map vi) rfl rfl rfl (by kernel_rfl) (by kernel_rfl) cells_int (by rw [List.length_map, upTo_len (par_len t) (by omega)]; omega) (by rw [← par_at hlt]; exact upTo_set (par_len t) hlt)) ⟨rfl, trivial⟩ ?_
    refine ch_v (R := [(_, .live _ _)]) rfl rfl (oc_index_ownN rfl rfl rfl (by kernel_rfl) (by omega)) ⟨rfl, trivial⟩ ?_
    refine ch_n rfl rfl (oc_store (y := vi (t.things.getD k dThing).flags) (cs' := (upTo t.fl t.things.length (k + 1)).map vi) rfl rfl rfl (by kernel_rfl) (by kernel_rfl) cells_int (by rw [List.length_map, upTo_len (fl_len t) (by omega)]; omega) (by rw [← fl_at hlt]; exact upTo_set (fl_len t) hlt)) ⟨rfl, trivial⟩ ?_
    refine ck_nil ⟨by kernel_rfl, ?_⟩
    have hp1 := prK_len hk k (by omega)
    have hp2 := hk.props _ (getD_mem (d := dThing) hlt)
    refine aw_text rfl ?_
    refine ch_v (R := [(_, .live _ _)]) rfl rfl (oc_fieldAddr_own (off := 5) (sz := 1) (r := false) rfl rfl (by first | decide | simp) (by kernel_rfl) (by decide)) ⟨rfl, trivial⟩ ?_
    refine ch_v (R := [(_, .live _ _)]) rfl rfl (oc_load_own rfl rfl (by kernel_rfl) rfl) ⟨rfl, trivial⟩ ?_
    refine ch_v (R := [(_, .live _ _)]) rfl rfl (oc_fieldAddr_own (off := 5) (sz := 1) (r := false) rfl rfl (by first | decide | simp) (by kernel_rfl) (by decide)) ⟨rfl, trivial⟩ ?_
    refine ch_v (R := [(_, .live _ _)]) rfl rfl (oc_load_own rfl rfl (by kernel_rfl) rfl) ⟨rfl, trivial⟩ ?_
    refine ch_u rfl rfl (oc_append (e := 3) (k := 1) (by_ := 8) (zs := [.int .i64 0]) (cs := (prK t k).map vi) (ds := (t.things.getD k dThing).props.map vi) 9 rfl rfl rfl (by kernel_rfl) (by kernel_rfl) rfl (by decide) (by decide) (by simp) (by simp) (app_vi _) (by omega) (by omega)) ⟨rfl, rfl, trivial⟩ ?_
    refine ch_v (R := [(_, .live _ _)]) rfl rfl (oc_fieldAddr_own (off := 5) (sz := 1) (r := false) rfl rfl (by first | decide | simp) (by kernel_rfl) (by decide)) ⟨rfl, trivial⟩ ?_
    refine ch_n rfl rfl (oc_store (y := .osl _ _ _) (cs' := [_, _, _, _, _, _, _, _, _, _, _, _, _]) rfl rfl rfl (by kernel_rfl) (by kernel_rfl) cells_osl (by first | decide | (simp; done) | (simp; omega)) rfl) ⟨rfl, trivial⟩ ?_
    refine ck_nil ?_
    refine aw_text rfl ?_
    refine ch_v (R := []) rfl rfl (oc_binZ rfl rfl rfl (by first | exact binW_add (by omega) (by omega) | rfl)) trivial ?_
    refine ch_v (R := []) rfl rfl (oc_move (x := .val _) rfl rfl) trivial ?_
    refine ck_nil ?_
    have ep := prK_succ hlt
    refine ⟨k + 1, by omega, by omega, Le.trans (Le.swap (τ := ⟨[(1, .ptr (tabAv t)), (2, .own 0 0), (3, vi t.things.length), (4, .own 6 0), (32, thingsAv t.things), (33, vi t.things.length), (34, vi ((k + 1 : Nat) : Int))], [(0, .live 33 zeroW), (1, .live 3 ((upTo t.par t.things.length (k + 1)).map vi)), (2, .live 3 ((List.replicate t.things.length (0 : Int)).map vi)), (3, .live 3 ((List.replicate t.things.length (0 : Int)).map vi)), (4, .live 3 ((upTo t.fl t.things.length (k + 1)).map vi)), (5, .live 3 ((List.replicate t.daemons.length (0 : Int)).map vi)), (6, .live 33 [slI t.globals, .osl 1 1 t.things.length, .osl 1 2 t.things.length, .osl 1 3 t.things.length, .osl 1 4 t.things.length, .osl 1 8 (prK t (k + 1)).length, .osl 1 5 t.daemons.length, vu (seedOf t.release), vi 0, vi 0, vi 0, vi 0, vi 0]), (8, .live 3 ((prK t (k + 1)).map vi)), (9, .dead)]⟩) 8 9 (by simp) (by simp) ?_ (renH_cons rfl (renH_cons (by rw [ren_vi]; rfl) (renH_cons (by rw [ren_vi]; rfl) (renH_cons (by rw [ren_vi]; rfl) (renH_cons (by rw [ren_vi]; rfl) (renH_cons (by rw [ren_vi]; rfl) (renH_cons (by rw [ep, List.length_append]; rfl) (renH_cons (by rw [ren_vi, ep, List.map_append]; rfl) (renH_cons rfl trivial)))))))))) (Le.reset [7, 9] (by simp) (by repeat (first | trivial | refine ⟨.inr rfl, ?_⟩)) ?_ (noH_live (by decide) rfl (by simp [NoN, slI, zeroW, vu]) (noH_live (by decide) rfl (non_vi _) (noH_live (by decide) rfl (non_vi _) (noH_live (by decide) rfl (non_vi _) (noH_live (by decide) rfl (non_vi _) (noH_live (by decide) rfl (non_vi _) (noH_live (by decide) rfl (by simp [NoN, slI, zeroW, vu]) (noH_live (by decide) rfl (non_vi _) (noH_unb (by decide) (noH_unb (by decide) noH_nil)))))))))))⟩
    · repeat (first | trivial | refine ⟨rfl, ?_⟩)
    · exact ⟨NoN.of_pure _ (by show Pure (tabAv t); exact pure_tab t), by simp [NoN], NoN.of_pure _ (by simp [Pure]), by simp [NoN], NoN.of_pure _ (pure_things _), NoN.of_pure _ (by simp [Pure]), NoN.of_pure _ (by simp [Pure]), trivial⟩
  · have hge : k = t.things.length := by have h0 := of_decide_eq_false hb; omega
    refine aw_exit ?_
    refine aw_seq ?_
    refine aw_seq ?_
    refine aw_text rfl ?_
    refine ch_v (R := []) rfl rfl (oc_move (x := .val _) rfl rfl) trivial ?_
    refine ch_v (R := []) rfl rfl (oc_binZ rfl rfl rfl (by first | exact binW_sub (by omega) (by omega) | rfl)) trivial ?_
    refine ch_v (R := []) rfl rfl (oc_assign (x := .val _) rfl rfl) trivial ?_
    refine ck_nil ?_
    refine aw_block ?_
    have eP : upTo t.par t.things.length k = t.par := by rw [hge]; exact upTo_all (par_len t)
    have eF : upTo t.fl t.things.length k = t.fl := by rw [hge]; exact upTo_all (fl_len t)
    have e01 : List.replicate t.things.length (0 : Int) = (lk t.par t.things.length (t.things.length - 1 - (t.things.length - 1))).1 := by rw [Nat.sub_self]; rfl
    have e02 : List.replicate t.things.length (0 : Int) = (lk t.par t.things.length (t.things.length - 1 - (t.things.length - 1))).2 := by rw [Nat.sub_self]; rfl
    refine aw_loop (ι := Nat) (fun k => ⟨[(1, .ptr (tabAv t)), (2, .own 0 0), (3, vi t.things.length), (4, .own 6 0), (7, vi k)], [(0, .live 33 zeroW), (1, .live 3 ((t.par).map vi)), (2, .live 3 (((lk t.par t.things.length (t.things.length - 1 - k)).1).map vi)), (3, .live 3 (((lk t.par t.things.length (t.things.length - 1 - k)).2).map vi)), (4, .live 3 ((t.fl).map vi)), (5, .live 3 ((List.replicate t.daemons.length (0 : Int)).map vi)), (6, .live 33 [slI t.globals, .osl 1 1 t.things.length, .osl 1 2 t.things.length, .osl 1 3 t.things.length, .osl 1 4 t.things.length, .osl 1 8 (prK t t.things.length).length, .osl 1 5 t.daemons.length, vu (seedOf t.release), vi 0, vi 0, vi 0, vi 0, vi 0]), (8, .live 3 ((prK t t.things.length).map vi))]⟩) (fun k => k < t.things.length) (fun k => k) (t.things.length - 1) (by omega) (Le.sub (by repeat (first | trivial | refine ⟨.inr rfl, ?_⟩ | refine ⟨.inr (vi_eq (by omega)), ?_⟩)) ⟨rfl, congrArg (fun l : List Int => some (Hs.live 3 (l.map vi))) eP, congrArg (fun l : List Int => some (Hs.live 3 (l.map vi))) e01, congrArg (fun l : List Int => some (Hs.live 3 (l.map vi))) e02, congrArg (fun l : List Int => some (Hs.live 3 (l.map vi))) eF, rfl, by subst hge; rfl, by subst hge; rfl, trivial⟩) ?_
    intro k hI
    refine aw_seq ?_
    refine aw_seq ?_
    refine aw_text rfl ?_
    refine ch_v (R := []) rfl rfl (oc_move (x := .val _) rfl rfl) trivial ?_
    refine ch_v (R := []) rfl rfl (oc_binZ rfl rfl rfl rfl) trivial ?_
    refine ck_nil ?_
    refine aw_cond rfl (fun hb => ?_) (fun hb => ?_)
    · have hp : 0 < k := by have h0 := of_decide_eq_true hb; omega
      have hll := lk_len t.par t.things.length (t.things.length - 1 - k)
      have hpl := par_len t
      have hu := hk.up _ (getD_mem (d := dThing) (show k < t.things.length from hI))
      rw [← par_at hI] at hu
      refine aw_skip ?_
      refine aw_seq ?_
      refine aw_block ?_
      refine aw_seq ?_
      refine aw_text rfl ?_
      refine ch_v (R := [(_, .live _ _)]) rfl rfl (oc_fieldAddr_own (off := 1) (sz := 1) (r := false) rfl rfl (by first | decide | simp) (by kernel_rfl) (by decide)) ⟨rfl, trivial⟩ ?_
      refine ch_v (R := [(_, .live _ _)]) rfl rfl (oc_load_own rfl rfl (by kernel_rfl) rfl) ⟨rfl, trivial⟩ ?_
      refine ch_v (R := []) rfl rfl (oc_move (x := .val _) rfl rfl) trivial ?_
      refine ch_v (R := [(_, .live _ _)]) rfl rfl (oc_index_ownN rfl rfl rfl (by kernel_rfl) (by omega)) ⟨rfl, trivial⟩ ?_
      refine ch_v (R := [(_, .live _ _)]) rfl rfl (oc_load_own rfl rfl (by kernel_rfl) (vi_at (by rw [hpl]; exact hI))) ⟨rfl, trivial⟩ ?_
      refine ch_v (R := []) rfl rfl (oc_assign (x := .val _) rfl rfl) trivial ?_
      refine ck_nil ?_
      refine aw_seq ?_
      refine aw_text rfl ?_
      refine ch_v (R := []) rfl rfl (oc_move (x := .val _) rfl rfl) trivial ?_
      refine ch_v (R := []) rfl rfl (oc_binZ rfl rfl rfl rfl) trivial ?_
      refine ck_nil ?_
      refine aw_cond rfl (fun hb => ?_) (fun hb => ?_)
      · have hpz : (t.par.getD k 0) ≠ 0 := by simpa using hb
        refine aw_draw mixed ?_
        refine ch_v (R := [(_, .live _ _)]) rfl rfl (oc_fieldAddr_own (off := 3) (sz := 1) (r := false) rfl rfl (by first | decide | simp) (by kernel_rfl) (by decide)) ⟨rfl, trivial⟩ ?_
        refine ch_v (R := [(_, .live _ _)]) rfl rfl (oc_load_own rfl rfl (by kernel_rfl) rfl) ⟨rfl, trivial⟩ ?_
        refine ch_v (R := []) rfl rfl (oc_move (x := .val _) rfl rfl) trivial ?_
        refine ch_v (R := [(_, .live _ _)]) rfl rfl (oc_fieldAddr_own (off := 2) (sz := 1) (r := false) rfl rfl (by first | decide | simp) (by kernel_rfl) (by decide)) ⟨rfl, trivial⟩ ?_
        refine ch_v (R := [(_, .live _ _)]) rfl rfl (oc_load_own rfl rfl (by kernel_rfl) rfl) ⟨rfl, trivial⟩ ?_
        refine ch_v (R := []) rfl rfl (oc_move (x := .val _) rfl rfl) trivial ?_
        refine ch_v (R := [(_, .live _ _)]) rfl rfl (oc_fieldAddr_own (off := 2) (sz := 1) (r := false) rfl rfl (by first | decide | simp) (by kernel_rfl) (by decide)) ⟨rfl, trivial⟩ ?_
        refine ch_v (R := [(_, .live _ _)]) rfl rfl (oc_load_own rfl rfl (by kernel_rfl) rfl) ⟨rfl, trivial⟩ ?_
        refine ch_v (R := []) rfl rfl (oc_move (x := .val _) rfl rfl) trivial ?_
        refine ch_v (R := [(_, .live _ _)]) rfl rfl (oc_index_own rfl rfl rfl (by kernel_rfl) (by omega) (by omega) rfl) ⟨rfl, trivial⟩ ?_
        refine ch_v (R := [(_, .live _ _)]) rfl rfl (oc_load_own (y := vi ((lk t.par t.things.length (t.things.length - 1 - k)).1.getD (t.par.getD k 0).toNat 0)) rfl rfl (by kernel_rfl) (by rw [Nat.mul_one]; exact vi_at (by omega))) ⟨rfl, trivial⟩ ?_
        refine ch_v (R := []) rfl rfl (oc_move (x := .val _) rfl rfl) trivial ?_
        refine ch_v (R := [(_, .live _ _)]) rfl rfl (oc_index_ownN rfl rfl rfl (by kernel_rfl) (by omega)) ⟨rfl, trivial⟩ ?_
        refine ch_n rfl rfl (oc_store (y := vi ((lk t.par t.things.length (t.things.length - 1 - k)).1.getD (t.par.getD k 0).toNat 0)) (cs' := ((lk t.par t.things.length (t.things.length - 1 - k)).2.set k ((lk t.par t.things.length (t.things.length - 1 - k)).1.getD (t.par.getD k 0).toNat 0)).map vi) rfl rfl rfl (by kernel_rfl) (by kernel_rfl) cells_int (by rw [List.length_map]; omega) (vi_put _ _ _)) ⟨rfl, trivial⟩ ?_
        refine ch_v (R := [(_, .live _ _)]) rfl rfl (oc_index_own rfl rfl rfl (by kernel_rfl) (by omega) (by omega) rfl) ⟨rfl, trivial⟩ ?_
        refine ch_n rfl rfl (oc_store (y := vi (k : Int)) (cs' := ((lk t.par t.things.length (t.things.length - 1 - k)).1.set (t.par.getD k 0).toNat (k : Int)).map vi) rfl rfl rfl (by kernel_rfl) (by kernel_rfl) cells_int (by rw [List.length_map]; omega) (by rw [Nat.mul_one]; exact vi_put _ _ _)) ⟨rfl, trivial⟩ ?_
        refine ck_nil ⟨by kernel_rfl, ?_⟩
        refine aw_text rfl ?_
        refine ch_v (R := []) rfl rfl (oc_move (x := .val _) rfl rfl) trivial ?_
        refine ch_v (R := []) rfl rfl (oc_binZ rfl rfl rfl (by first | exact binW_sub (by omega) (by omega) | rfl)) trivial ?_
        refine ch_v (R := []) rfl rfl (oc_assign (x := .val _) rfl rfl) trivial ?_
        refine ck_nil ?_
        have es := lk_next t.par hp (show k < t.things.length from hI)
        have ec : ((lk t.par t.things.length (t.things.length - 1 - k)).1.set (t.par.getD k 0).toNat (k : Int), (lk t.par t.things.length (t.things.length - 1 - k)).2.set k ((lk t.par t.things.length (t.things.length - 1 - k)).1.getD (t.par.getD k 0).toNat 0)) = lk t.par t.things.length (t.things.length - 1 - (k - 1)) := by rw [es]; unfold lkStep; rw [if_neg hpz]
        exact ⟨k - 1, by omega, by omega, Le.sub (by repeat (first | trivial | refine ⟨.inr rfl, ?_⟩ | refine ⟨.inr (vi_eq (by omega)), ?_⟩)) ⟨rfl, rfl, congrArg (fun l : List Int × List Int => some (Hs.live 3 (l.1.map vi))) ec, congrArg (fun l : List Int × List Int => some (Hs.live 3 (l.2.map vi))) ec, rfl, rfl, rfl, rfl, trivial⟩⟩
      · have hpz : (t.par.getD k 0) = 0 := by simpa using hb
        refine aw_skip ?_
        refine aw_text rfl ?_
        refine ch_v (R := []) rfl rfl (oc_move (x := .val _) rfl rfl) trivial ?_
        refine ch_v (R := []) rfl rfl (oc_binZ rfl rfl rfl (by first | exact binW_sub (by omega) (by omega) | rfl)) trivial ?_
        refine ch_v (R := []) rfl rfl (oc_assign (x := .val _) rfl rfl) trivial ?_
        refine ck_nil ?_
        have es := lk_next t.par hp (show k < t.things.length from hI)
        have ec : lk t.par t.things.length (t.things.length - 1 - k) = lk t.par t.things.length (t.things.length - 1 - (k - 1)) := by rw [es]; unfold lkStep; rw [if_pos hpz]
        exact ⟨k - 1, by omega, by omega, Le.sub (by repeat (first | trivial | refine ⟨.inr rfl, ?_⟩ | refine ⟨.inr (vi_eq (by omega)), ?_⟩)) ⟨rfl, rfl, congrArg (fun l : List Int × List Int => some (Hs.live 3 (l.1.map vi))) ec, congrArg (fun l : List Int × List Int => some (Hs.live 3 (l.2.map vi))) ec, rfl, rfl, rfl, rfl, trivial⟩⟩
    · have hz : k = 0 := by have h0 := of_decide_eq_false hb; omega
      subst hz
      refine aw_exit ?_
      refine aw_seq ?_
      refine aw_text rfl ?_
      refine ch_v (R := [(_, .live _ _)]) rfl rfl (oc_load_own_row (k := 13) (ds := [_, _, _, _, _, _, _, _, _, _, _, _, _]) rfl rfl (by kernel_rfl) (by kernel_rfl) rfl rfl (by decide)) ⟨rfl, trivial⟩ ?_
      refine ch_n rfl rfl (oc_store_row (x := .agg _) (cs' := [_, _, _, _, _, _, _, _, _, _, _, _, _]) rfl rfl rfl rfl (by kernel_rfl) (by first | decide | exact Nat.le_of_ble_eq_true rfl | simp) (by first | decide | exact Nat.le_of_ble_eq_true rfl | simp) rfl) ⟨rfl, trivial⟩ ?_
      refine ck_nil ?_
      refine aw_le (Le.freezeCell 0 1 1 (fun j => vi ((t.par).getD j 0)) rfl rfl rfl (by decide) (by simp [par_len]) (fun j hj => row_vi _ j (by simpa [par_len] using hj))) ?_
      refine aw_le (Le.freezeCell 0 2 2 (fun j => vi (((lk t.par t.things.length (t.things.length - 1)).1).getD j 0)) rfl rfl rfl (by decide) (by simp [lk_len]) (fun j hj => row_vi _ j (by simpa [lk_len] using hj))) ?_
      refine aw_le (Le.freezeCell 0 3 3 (fun j => vi (((lk t.par t.things.length (t.things.length - 1)).2).getD j 0)) rfl rfl rfl (by decide) (by simp [lk_len]) (fun j hj => row_vi _ j (by simpa [lk_len] using hj))) ?_
      refine aw_le (Le.freezeCell 0 4 4 (fun j => vi ((t.fl).getD j 0)) rfl rfl rfl (by decide) (by simp [fl_len]) (fun j hj => row_vi _ j (by simpa [fl_len] using hj))) ?_
      refine aw_le (Le.freezeCell 0 5 8 (fun j => vi ((prK t t.things.length).getD j 0)) rfl rfl rfl (by decide) (by simp [par_len]) (fun j hj => row_vi _ j (by simpa [par_len] using hj))) ?_
      refine aw_le (Le.freezeCell 0 6 5 (fun j => vi ((List.replicate t.daemons.length (0 : Int)).getD j 0)) rfl rfl rfl (by decide) (by simp [par_len]) (fun j hj => row_vi _ j (by simpa [par_len] using hj))) ?_
      refine aw_ret ?_
      exact ⟨.inl rfl, (by rw [newW_av]; exact ResOk.cell rfl rfl rfl (by kernel_rfl) (by kernel_rfl) (Nat.le_of_ble_eq_true rfl)), trivial⟩
end Go.Proofs.Ytfbkokcpkcfkiaa
