/- The walk of the document's beginning of a story. -/
import Derived.Test.YtfbkokcpkcfkiaaWo
import Derived.Test.YtfbkokcpkcfkiaaProg
import Derived.KernelRfl
namespace Go.Proofs.Ytfbkokcpkcfkiaa
open Go.RowKit
set_option maxRecDepth 100000
set_option linter.unusedVariables false
set_option linter.unusedSimpArgs false
theorem aw_mono {P : Program} {N : Nat} {D : List Nat} {c : Code} {Q R : Exit → Ctx → Prop} {Γ : Ctx} (h : AW P N D c Q Γ) (hm : ∀ e Γ, Q e Γ → R e Γ) : AW P N D c R Γ := fun E a hF => wp_mono (h E a hF) fun e a' w' ⟨E', Γ', h1, h2, h3, h4⟩ => ⟨E', Γ', h1, h2, h3, hm _ _ h4⟩
theorem aw_joinQ {P : Program} {N : Nat} {D : List Nat} {x y : Code} {Q : Exit → Ctx → Prop} {Γ τ : Ctx} (h1 : AW P N D x (thenA (fun Γ' => Le N D Γ' τ) Q) Γ) (h2 : AW P N D y Q τ) : AW P N D x (thenA (AW P N D y Q) Q) Γ := aw_mono h1 fun e Γ' h => by
  cases e
  case normal => exact aw_le h h2
  all_goals exact h
/-! ### Plain -/
def afterN (par : List Int) (p : Int) : Nat → Nat → Int
  | 0, _ => 0
  | m + 1, i => if par.getD i 0 = p then (i : Int) else afterN par p m (i + 1)
theorem after_hit {par : List Int} {p : Int} {m i : Nat} (hm : 0 < m) (h : par.getD i 0 = p) : afterN par p m i = i := by
  rcases m with _ | m
  · omega
  · unfold afterN; rw [if_pos h]
theorem after_step {par : List Int} {p : Int} {m i : Nat} (hm : 0 < m) (h : par.getD i 0 ≠ p) : afterN par p m i = afterN par p (m - 1) (i + 1) := by
  rcases m with _ | m
  · omega
  · conv => lhs; unfold afterN
    rw [if_neg h]
    rfl
def rchild (t : TabP) (k : Nat) : Int := if 0 < k then afterN t.par (k : Int) (t.things.length - 1) 1 else 0
def rnext (t : TabP) (k : Nat) : Int := if t.par.getD k 0 ≠ 0 then afterN t.par (t.par.getD k 0) (t.things.length - (k + 1)) (k + 1) else 0
def TabP.rc (t : TabP) : List Int := (List.range t.things.length).map (rchild t)
def TabP.rx (t : TabP) : List Int := (List.range t.things.length).map (rnext t)
def rnewW (t : TabP) : WorldP :=
  { globals := t.globals, parent := t.par, child := t.rc, next := t.rx, flags := t.fl, props := prK t t.things.length, timers := List.replicate t.daemons.length 0, seed := seedOf t.release, score := 0, turns := 0, over := 0, it := 0, go := 0 }
theorem take_vi {l : List Int} {k : Nat} {x : Int} (h : k < l.length) (hx : l.getD k 0 = x) : (l.take (k + 1)).length = (l.take k).length + 1 ∧ (l.take (k + 1)).map vi = (l.take k).map vi ++ [vi x] := by
  have e : l.take (k + 1) = l.take k ++ [x] := by rw [List.take_add_one, ← hx]; simp [h]
  rw [e]
  simp
theorem rc_len (t : TabP) : t.rc.length = t.things.length := by simp [TabP.rc]
theorem rx_len (t : TabP) : t.rx.length = t.things.length := by simp [TabP.rx]
theorem rc_at {t : TabP} {k : Nat} (h : k < t.things.length) : t.rc.getD k 0 = rchild t k := by simp [TabP.rc, h]
theorem rx_at {t : TabP} {k : Nat} (h : k < t.things.length) : t.rx.getD k 0 = rnext t k := by simp [TabP.rx, h]
theorem rnewW_av (t : TabP) {k : Nat} (hk : k = t.things.length) : worldAv (rnewW t) = .agg [.sl 1 (0 + t.globals.length) fun j => vi (t.globals.getD j 0), .sl 1 (t.par.take k).length fun j => vi ((t.par.take k).getD j 0), .sl 1 (t.rc.take k).length fun j => vi ((t.rc.take k).getD j 0), .sl 1 (t.rx.take k).length fun j => vi ((t.rx.take k).getD j 0), .sl 1 (t.fl.take k).length fun j => vi ((t.fl.take k).getD j 0), .sl 1 (prK t k).length fun j => vi ((prK t k).getD j 0), .sl 1 t.daemons.length fun j => vi ((List.replicate t.daemons.length (0 : Int)).getD j 0), vu (seedOf t.release), vi 0, vi 0, vi 0, vi 0, vi 0] := by
  subst hk
  have e1 : t.par.take t.things.length = t.par := by rw [← par_len]; exact List.take_length
  have e2 : t.rc.take t.things.length = t.rc := by rw [← rc_len]; exact List.take_length
  have e3 : t.rx.take t.things.length = t.rx := by rw [← rx_len]; exact List.take_length
  have e4 : t.fl.take t.things.length = t.fl := by rw [← fl_len]; exact List.take_length
  rw [e1, e2, e3, e4, Nat.zero_add]
  simp only [worldAv, rnewW, slI, List.length_replicate]
/-! ### Walks -/
set_option maxHeartbeats 800000 in
theorem rFrom_pc (n : Int) : PC Try.prog 46 [vi n] (vu (seedOf n)) := by
  refine FC.body 6 11 Try.func46 rfl (by kernel_rfl) ?_
  refine aw_seq ?_
  refine aw_text rfl ?_
  refine ch_v (R := []) rfl rfl (oc_assign (x := .val _) rfl rfl) trivial ?_
  refine ck_nil ?_
  refine aw_seq ?_
  refine aw_text rfl ?_
  refine ch_v (R := []) rfl rfl (oc_move (x := .val _) rfl rfl) trivial ?_
  refine ch_v (R := []) rfl rfl (oc_conv (k := .i64) .u64 rfl rfl (by kernel_rfl) (by kernel_rfl)) trivial ?_
  refine ch_v (R := []) rfl rfl (oc_binZ rfl rfl rfl (by first | exact binW_mul (by omega) (by omega) | rfl)) trivial ?_
  refine ch_v (R := []) rfl rfl (oc_binZ rfl rfl rfl (by first | exact binW_add (by omega) (by omega) | rfl)) trivial ?_
  refine ch_v (R := []) rfl rfl (oc_assign (x := .val _) rfl rfl) trivial ?_
  refine ck_nil ?_
  refine aw_seq ?_
  refine aw_seq ?_
  refine aw_text rfl ?_
  refine ch_v (R := []) rfl rfl (oc_move (x := .val _) rfl rfl) trivial ?_
  refine ch_v (R := []) rfl rfl (oc_binZ rfl rfl rfl rfl) trivial ?_
  refine ck_nil ?_
  refine aw_cond rfl (fun hb => ?_) (fun hb => ?_)
  · refine aw_seq ?_
    refine aw_text rfl ?_
    refine ch_v (R := []) rfl rfl (oc_assign (x := .val _) rfl rfl) trivial ?_
    refine ck_nil ?_
    refine aw_ret ?_
    exact ⟨.inl rfl, ResOk.tmp rfl (by unfold seedOf oneU; rw [show (_ == (0 : Int)) = true from hb]; rfl), trivial⟩
  · refine aw_skip ?_
    refine aw_seq ?_
    refine aw_text rfl ?_
    refine ch_v (R := []) rfl rfl (oc_move (x := .val _) rfl rfl) trivial ?_
    refine ch_v (R := []) rfl rfl (oc_assign (x := .val _) rfl rfl) trivial ?_
    refine ck_nil ?_
    refine aw_ret ?_
    exact ⟨.inl rfl, ResOk.tmp rfl (by unfold seedOf oneU; rw [show (_ == (0 : Int)) = false from hb]; rfl), trivial⟩
set_option maxHeartbeats 800000 in
theorem after_pc (t : TabP) (hN : t.things.length ≤ 128) (x p : Int) (h0 : 0 ≤ x) (h1 : x ≤ 200) : PC Try.prog 47 [tabAv t, vi x, vi p] (vi (afterN t.par p (t.things.length - x.toNat) x.toNat)) := by
  refine FC.body 6 25 Try.func47 rfl (by kernel_rfl) ?_
  refine aw_seq ?_
  refine aw_text rfl ?_
  refine ch_v (R := []) rfl rfl (oc_box (x := .agg _) rfl rfl) trivial ?_
  refine ch_v (R := []) rfl rfl (oc_assign (x := .val _) rfl rfl) trivial ?_
  refine ck_nil ?_
  refine aw_seq ?_
  refine aw_seq ?_
  refine aw_text rfl ?_
  refine ch_v (R := []) rfl rfl (oc_move (x := .val _) rfl rfl) trivial ?_
  refine ch_v (R := []) rfl rfl (oc_assign (x := .val _) rfl rfl) trivial ?_
  refine ck_nil ?_
  refine aw_block ?_
  refine aw_loop (ι := Nat) (fun k => ⟨[(2, vi p), (3, .ptr (tabAv t)), (7, vi k)], []⟩) (fun k => x.toNat ≤ k ∧ (k ≤ t.things.length ∨ k = x.toNat) ∧ afterN t.par p (t.things.length - x.toNat) x.toNat = afterN t.par p (t.things.length - k) k) (fun k => t.things.length - k) x.toNat (⟨Nat.le_refl _, .inr rfl, rfl⟩) (Le.sub (by repeat (first | trivial | refine ⟨.inr rfl, ?_⟩ | refine ⟨.inr (vi_eq (by omega)), ?_⟩)) (by repeat (first | trivial | refine ⟨rfl, ?_⟩))) ?_
  intro k hI
  refine aw_seq ?_
  refine aw_seq ?_
  refine aw_text rfl ?_
  refine ch_v (R := []) rfl rfl (oc_move (x := .val _) rfl rfl) trivial ?_
  refine ch_v (R := []) rfl rfl (oc_fieldAddr (off := 8) rfl rfl rfl (by kernel_rfl) rfl) trivial ?_
  refine ch_v (R := []) rfl rfl (oc_load rfl rfl (by kernel_rfl) cells_sl) trivial ?_
  refine ch_v (R := []) rfl rfl (oc_len rfl rfl (by kernel_rfl)) trivial ?_
  refine ch_v (R := []) rfl rfl (oc_binZ rfl rfl rfl rfl) trivial ?_
  refine ck_nil ?_
  refine aw_cond rfl (fun hb => ?_) (fun hb => ?_)
  · have hlt : k < t.things.length := by have h0 := of_decide_eq_true hb; omega
    refine aw_skip ?_
    refine aw_seq ?_
    refine aw_block ?_
    refine aw_seq ?_
    refine aw_text rfl ?_
    refine ch_v (R := []) rfl rfl (oc_fieldAddr (off := 8) rfl rfl rfl (by kernel_rfl) rfl) trivial ?_
    refine ch_v (R := []) rfl rfl (oc_load rfl rfl (by kernel_rfl) cells_sl) trivial ?_
    refine ch_v (R := []) rfl rfl (oc_move (x := .val _) rfl rfl) trivial ?_
    refine ch_v (R := []) rfl rfl ((by first | exact oc_indexN rfl rfl rfl (by kernel_rfl) (by omega) | exact oc_index rfl rfl rfl (by kernel_rfl) (by omega) (by omega) rfl)) trivial ?_
    refine ch_v (R := []) rfl rfl (oc_fieldAddr (off := 2) rfl rfl rfl (by kernel_rfl) rfl) trivial ?_
    refine ch_v (R := []) rfl rfl (oc_load rfl rfl (by kernel_rfl) cells_int) trivial ?_
    refine ch_v (R := []) rfl rfl (oc_move (x := .val _) rfl rfl) trivial ?_
    refine ch_v (R := []) rfl rfl (oc_binZ rfl rfl rfl rfl) trivial ?_
    refine ck_nil ?_
    refine aw_cond rfl (fun hb => ?_) (fun hb => ?_)
    · refine aw_seq ?_
      refine aw_text rfl ?_
      refine ch_v (R := []) rfl rfl (oc_move (x := .val _) rfl rfl) trivial ?_
      refine ch_v (R := []) rfl rfl (oc_assign (x := .val _) rfl rfl) trivial ?_
      refine ck_nil ?_
      refine aw_ret ?_
      exact ⟨.inl rfl, ResOk.tmp rfl (vi_eq (by rw [hI.2.2, after_hit (by omega) (by rw [par_at hlt]; simpa using hb)])), trivial⟩
    · refine aw_skip ?_
      refine aw_text rfl ?_
      refine ch_v (R := []) rfl rfl (oc_move (x := .val _) rfl rfl) trivial ?_
      refine ch_v (R := []) rfl rfl (oc_binZ rfl rfl rfl (by first | exact binW_add (by omega) (by omega) | rfl)) trivial ?_
      refine ch_v (R := []) rfl rfl (oc_assign (x := .val _) rfl rfl) trivial ?_
      refine ck_nil ?_
      exact ⟨k + 1, ⟨by omega, by omega, by rw [hI.2.2, after_step (by omega) (by rw [par_at hlt]; simpa using hb)]; rfl⟩, by omega, Le.sub (by repeat (first | trivial | refine ⟨.inr rfl, ?_⟩ | refine ⟨.inr (vi_eq (by omega)), ?_⟩)) (by repeat (first | trivial | refine ⟨rfl, ?_⟩))⟩
  · have hge : t.things.length ≤ k := by have h0 := of_decide_eq_false hb; omega
    refine aw_exit ?_
    refine aw_seq ?_
    refine aw_text rfl ?_
    refine ch_v (R := []) rfl rfl (oc_assign (x := .val _) rfl rfl) trivial ?_
    refine ck_nil ?_
    refine aw_ret ?_
    exact ⟨.inl rfl, ResOk.tmp rfl (vi_eq (by rw [hI.2.2, show t.things.length - k = 0 from by omega]; rfl)), trivial⟩
set_option maxHeartbeats 800000 in
theorem rnew_pc (t : TabP) (hk : NewOk t) : PC Try.prog 18 [tabAv t] (worldAv (rnewW t)) := by
  refine FC.body 12 85 Try.func18 rfl (by kernel_rfl) ?_
  have hg := hk.globals
  have hlo := hk.low
  have hfw := hk.few
  have hda := hk.daemons
  refine aw_seq ?_
  refine aw_text rfl ?_
  refine ch_v (R := []) rfl rfl (oc_box (x := .agg _) rfl rfl) trivial ?_
  refine ch_u rfl rfl (oc_alloc (zs := [.slice none 0 0, .slice none 0 0, .slice none 0 0, .slice none 0 0, .slice none 0 0, .slice none 0 0, .slice none 0 0, .int .u64 0, .int .i64 0, .int .i64 0, .int .i64 0, .int .i64 0, .int .i64 0]) (cs := [.val _, .val _, .val _, .val _, .val _, .val _, .val _, .val _, .val _, .val _, .val _, .val _, .val _]) 0 rfl (by kernel_rfl) rfl rfl) ⟨rfl, trivial⟩ ?_
  refine ck_nil ?_
  refine aw_seq ?_
  refine aw_draw mixed ?_
  refine ch_u rfl rfl (oc_buildSlice_own (ps := []) (xs := []) (e := 3) (by_ := 8) (zs := [.int .i64 0]) 1 rfl (by kernel_rfl) (by kernel_rfl) rfl rfl rfl rfl (by decide)) ⟨rfl, trivial⟩ ?_
  refine ch_v (R := []) rfl rfl (oc_fieldAddr (off := 7) rfl rfl rfl (by kernel_rfl) rfl) trivial ?_
  refine ch_v (R := []) rfl rfl (oc_load rfl rfl (by kernel_rfl) cells_sl) trivial ?_
  refine ch_u rfl rfl (oc_append (e := 3) (k := 1) (by_ := 8) (zs := [.int .i64 0]) (cs := []) (ds := t.globals.map vi) 2 rfl rfl rfl (by kernel_rfl) (by kernel_rfl) rfl (by decide) (by decide) rfl (by simp) (app_vi _) (by omega) (by omega)) ⟨rfl, rfl, trivial⟩ ?_
  refine ch_v (R := []) rfl rfl (oc_fieldAddr (off := 12) rfl rfl rfl (by kernel_rfl) rfl) trivial ?_
  refine ch_v (R := []) rfl rfl (oc_load rfl rfl (by kernel_rfl) cells_sl) trivial ?_
  refine ch_v (R := []) rfl rfl (oc_len rfl rfl (by kernel_rfl)) trivial ?_
  refine ch_u rfl rfl (oc_makeSlice (e := 3) (by_ := 8) (z := .int .i64 0) (m := _) 3 rfl rfl rfl rfl (by kernel_rfl) (by kernel_rfl) rfl (by omega) (by omega)) ⟨rfl, trivial⟩ ?_
  refine ch_v (R := []) rfl rfl (oc_fieldAddr (off := 2) rfl rfl rfl (by kernel_rfl) rfl) trivial ?_
  refine ch_v (R := []) rfl rfl (oc_load rfl rfl (by kernel_rfl) cells_int) trivial ?_
  refine ch_v (R := []) rfl rfl (oc_call rfl (by kernel_rfl) (rFrom_pc _) rfl (by simp only [PureL, Pure, and_self, pure_tab, pure_th, pure_slI, pure_slS, pure_ways, pure_way, pure_line, pure_lines, pure_slot, pure_verb, pure_deed, pure_things, pure_acts, pure_deeds, pure_world, vu]) (by simp only [PureL, Pure, and_self, pure_tab, pure_th, pure_slI, pure_slS, pure_ways, pure_way, pure_line, pure_lines, pure_slot, pure_verb, pure_deed, pure_things, pure_acts, pure_deeds, pure_world, vu])) trivial ?_
  refine ch_v (R := []) rfl rfl (oc_build (pl := [(0, 1), (1, 1), (2, 1), (3, 1), (4, 1), (5, 1), (6, 1), (7, 1), (8, 1), (9, 1), (10, 1), (11, 1), (12, 1)]) (zs := [.slice none 0 0, .slice none 0 0, .slice none 0 0, .slice none 0 0, .slice none 0 0, .slice none 0 0, .slice none 0 0, .int .u64 0, .int .i64 0, .int .i64 0, .int .i64 0, .int .i64 0, .int .i64 0]) (ds := [.osl _ _ _, .val _, .val _, .val _, .val _, .val _, .osl _ _ _, .val _, .val _, .val _, .val _, .val _, .val _]) rfl (by kernel_rfl) rfl (by kernel_rfl) (by first | rfl | decide) rfl) trivial ?_
  refine ch_u rfl rfl (oc_alloc (zs := [.slice none 0 0, .slice none 0 0, .slice none 0 0, .slice none 0 0, .slice none 0 0, .slice none 0 0, .slice none 0 0, .int .u64 0, .int .i64 0, .int .i64 0, .int .i64 0, .int .i64 0, .int .i64 0]) (cs := [.val _, .val _, .val _, .val _, .val _, .val _, .val _, .val _, .val _, .val _, .val _, .val _, .val _]) 4 rfl (by kernel_rfl) rfl rfl) ⟨rfl, trivial⟩ ?_
  refine ch_n rfl rfl (oc_store_row (x := .agg _) (cs' := [_, _, _, _, _, _, _, _, _, _, _, _, _]) rfl rfl rfl rfl (by kernel_rfl) (by first | decide | exact Nat.le_of_ble_eq_true rfl | simp) (by first | decide | exact Nat.le_of_ble_eq_true rfl | simp) rfl) ⟨rfl, trivial⟩ ?_
  refine ck_nil ⟨by kernel_rfl, ?_⟩
  refine aw_seq ?_
  refine aw_seq ?_
  refine aw_text rfl ?_
  refine ch_v (R := []) rfl rfl (oc_assign (x := .val _) rfl rfl) trivial ?_
  refine ck_nil ?_
  refine aw_block ?_
  refine aw_le (Le.nameNilCell 4 1 5 1 3 rfl rfl rfl (by decide)) ?_
  refine aw_le (Le.nameNilCell 4 2 6 1 3 rfl rfl rfl (by decide)) ?_
  refine aw_le (Le.nameNilCell 4 3 7 1 3 rfl rfl rfl (by decide)) ?_
  refine aw_le (Le.nameNilCell 4 4 8 1 3 rfl rfl rfl (by decide)) ?_
  refine aw_le (Le.nameNilCell 4 5 9 1 3 rfl rfl rfl (by decide)) ?_
  refine aw_loop (ι := Nat) (fun k => ⟨[(1, .ptr (tabAv t)), (2, .own 0 0), (3, .own 4 0), (4, vi k)], [(0, .live 33 zeroW), (2, .live 3 (t.globals.map vi)), (3, .live 3 ((List.replicate t.daemons.length (0 : Int)).map vi)), (4, .live 33 [.osl 1 2 (0 + t.globals.length), .osl 1 5 (t.par.take k).length, .osl 1 6 (t.rc.take k).length, .osl 1 7 (t.rx.take k).length, .osl 1 8 (t.fl.take k).length, .osl 1 9 (prK t k).length, .osl 1 3 t.daemons.length, vu (seedOf t.release), vi 0, vi 0, vi 0, vi 0, vi 0]), (5, .live 3 ((t.par.take k).map vi)), (6, .live 3 ((t.rc.take k).map vi)), (7, .live 3 ((t.rx.take k).map vi)), (8, .live 3 ((t.fl.take k).map vi)), (9, .live 3 ((prK t k).map vi)), (10, .unborn)]⟩) (fun k => k ≤ t.things.length) (fun k => t.things.length - k) 0 (Nat.zero_le _) (Le.sub (by repeat (first | trivial | refine ⟨.inr rfl, ?_⟩ | refine ⟨.inr (vi_eq (by omega)), ?_⟩)) (by refine ⟨rfl, rfl, by rw [List.map_replicate]; rfl, rfl, rfl, rfl, rfl, rfl, rfl, rfl, trivial⟩)) ?_
  intro k hI
  refine aw_seq ?_
  refine aw_seq ?_
  refine aw_text rfl ?_
  refine ch_v (R := []) rfl rfl (oc_move (x := .val _) rfl rfl) trivial ?_
  refine ch_v (R := []) rfl rfl (oc_fieldAddr (off := 8) rfl rfl rfl (by kernel_rfl) rfl) trivial ?_
  refine ch_v (R := []) rfl rfl (oc_load rfl rfl (by kernel_rfl) cells_sl) trivial ?_
  refine ch_v (R := []) rfl rfl (oc_len rfl rfl (by kernel_rfl)) trivial ?_
  refine ch_v (R := []) rfl rfl (oc_binZ rfl rfl rfl rfl) trivial ?_
  refine ck_nil ?_
  refine aw_cond rfl (fun hb => ?_) (fun hb => ?_)
  · have hlt : k < t.things.length := by have h0 := of_decide_eq_true hb; omega
    have hpk := par_at hlt
    obtain ⟨hl1, hc1⟩ := take_vi (l := t.par) (k := k) (by rw [par_len]; exact hlt) (hpk)
    obtain ⟨hl2, hc2⟩ := take_vi (l := t.rc) (k := k) (by rw [rc_len]; exact hlt) (rc_at hlt)
    obtain ⟨hl3, hc3⟩ := take_vi (l := t.rx) (k := k) (by rw [rx_len]; exact hlt) (rx_at hlt)
    obtain ⟨hl4, hc4⟩ := take_vi (l := t.fl) (k := k) (by rw [fl_len]; exact hlt) (fl_at hlt)
    have hps := prK_succ hlt
    have hl5 : (prK t (k + 1)).length = (prK t k).length + (t.things.getD k dThing).props.length := by rw [hps, List.length_append]
    have hc5 : (prK t (k + 1)).map vi = (prK t k).map vi ++ (t.things.getD k dThing).props.map vi := by rw [hps, List.map_append]
    have hp1 := prK_len hk k (by omega)
    have hp2 := hk.props _ (getD_mem (d := dThing) hlt)
    have hk1 : (t.par.take k).length ≤ k ∧ (t.rc.take k).length ≤ k ∧ (t.rx.take k).length ≤ k ∧ (t.fl.take k).length ≤ k := by simp only [List.length_take]; omega
    refine aw_skip ?_
    refine aw_seq ?_
    refine aw_block ?_
    refine aw_seq ?_
    refine aw_text rfl ?_
    refine ch_v (R := []) rfl rfl (oc_fieldAddr (off := 8) rfl rfl rfl (by kernel_rfl) rfl) trivial ?_
    refine ch_v (R := []) rfl rfl (oc_load rfl rfl (by kernel_rfl) cells_sl) trivial ?_
    refine ch_v (R := []) rfl rfl (oc_move (x := .val _) rfl rfl) trivial ?_
    refine ch_v (R := []) rfl rfl ((by first | exact oc_indexN rfl rfl rfl (by kernel_rfl) (by omega) | exact oc_index rfl rfl rfl (by kernel_rfl) (by omega) (by omega) rfl)) trivial ?_
    refine ch_v (R := []) rfl rfl (oc_fieldAddr (off := 2) rfl rfl rfl (by kernel_rfl) rfl) trivial ?_
    refine ch_v (R := []) rfl rfl (oc_load rfl rfl (by kernel_rfl) cells_int) trivial ?_
    refine ch_v (R := []) rfl rfl (oc_assign (x := .val _) rfl rfl) trivial ?_
    refine ck_nil ?_
    refine aw_seq ?_
    refine aw_text rfl ?_
    refine ch_v (R := []) rfl rfl (oc_assign (x := .val _) rfl rfl) trivial ?_
    refine ch_v (R := []) rfl rfl (oc_assign (x := .val _) rfl rfl) trivial ?_
    refine ck_nil ?_
    refine aw_seq ?_
    refine aw_seq ?_
    refine aw_text rfl ?_
    refine ch_v (R := []) rfl rfl (oc_move (x := .val _) rfl rfl) trivial ?_
    refine ch_v (R := []) rfl rfl (oc_binZ rfl rfl rfl rfl) trivial ?_
    refine ck_nil ?_
    refine aw_joinQ (τ := ⟨[(1, .ptr (tabAv t)), (2, .own 0 0), (3, .own 4 0), (4, vi k), (5, vi (t.things.getD k dThing).parent), (6, vi (rchild t k)), (7, vi 0)], [(0, .live 33 zeroW), (2, .live 3 (t.globals.map vi)), (3, .live 3 ((List.replicate t.daemons.length (0 : Int)).map vi)), (4, .live 33 [.osl 1 2 (0 + t.globals.length), .osl 1 5 (t.par.take k).length, .osl 1 6 (t.rc.take k).length, .osl 1 7 (t.rx.take k).length, .osl 1 8 (t.fl.take k).length, .osl 1 9 (prK t k).length, .osl 1 3 t.daemons.length, vu (seedOf t.release), vi 0, vi 0, vi 0, vi 0, vi 0]), (5, .live 3 ((t.par.take k).map vi)), (6, .live 3 ((t.rc.take k).map vi)), (7, .live 3 ((t.rx.take k).map vi)), (8, .live 3 ((t.fl.take k).map vi)), (9, .live 3 ((prK t k).map vi)), (10, .unborn)]⟩) ?_ ?_
    · refine aw_cond rfl (fun hb => ?_) (fun hb => ?_)
      · refine aw_text rfl ?_
        refine ch_v (R := []) rfl rfl (oc_load_row rfl rfl (by kernel_rfl) (by kernel_rfl) rfl) trivial ?_
        refine ch_v (R := []) rfl rfl (oc_move (x := .val _) rfl rfl) trivial ?_
        refine ch_v (R := []) rfl rfl (oc_call rfl (by kernel_rfl) (after_pc t (by omega) 1 (k : Int) (by omega) (by omega)) rfl (by simp only [PureL, Pure, and_self, pure_tab, pure_th, pure_slI, pure_slS, pure_ways, pure_way, pure_line, pure_lines, pure_slot, pure_verb, pure_deed, pure_things, pure_acts, pure_deeds, pure_world, vu]) (by simp only [PureL, Pure, and_self, pure_tab, pure_th, pure_slI, pure_slS, pure_ways, pure_way, pure_line, pure_lines, pure_slot, pure_verb, pure_deed, pure_things, pure_acts, pure_deeds, pure_world, vu])) trivial ?_
        refine ch_v (R := []) rfl rfl (oc_assign (x := .val _) rfl rfl) trivial ?_
        refine ck_nil ?_
        exact Le.sub (by first | (refine ⟨.inr rfl, .inr rfl, .inr rfl, .inr rfl, .inr rfl, .inr (vi_eq (by unfold rchild; first | (rw [if_pos (by have h0 := of_decide_eq_true hb; omega)]; rfl) | (rw [if_neg (by have h0 := of_decide_eq_false hb; omega)]))), .inr rfl, trivial⟩)) (by refine ⟨rfl, rfl, rfl, rfl, rfl, rfl, rfl, rfl, rfl, rfl, trivial⟩)
      · refine aw_skip ?_
        exact Le.sub (by first | (refine ⟨.inr rfl, .inr rfl, .inr rfl, .inr rfl, .inr rfl, .inr (vi_eq (by unfold rchild; first | (rw [if_pos (by have h0 := of_decide_eq_true hb; omega)]; rfl) | (rw [if_neg (by have h0 := of_decide_eq_false hb; omega)]))), .inr rfl, trivial⟩)) (by refine ⟨rfl, rfl, rfl, rfl, rfl, rfl, rfl, rfl, rfl, rfl, trivial⟩)
    · refine aw_seq ?_
      refine aw_seq ?_
      refine aw_text rfl ?_
      refine ch_v (R := []) rfl rfl (oc_move (x := .val _) rfl rfl) trivial ?_
      refine ch_v (R := []) rfl rfl (oc_binZ rfl rfl rfl rfl) trivial ?_
      refine ck_nil ?_
      refine aw_joinQ (τ := ⟨[(1, .ptr (tabAv t)), (2, .own 0 0), (3, .own 4 0), (4, vi k), (5, vi (t.things.getD k dThing).parent), (6, vi (rchild t k)), (7, vi (rnext t k))], [(0, .live 33 zeroW), (2, .live 3 (t.globals.map vi)), (3, .live 3 ((List.replicate t.daemons.length (0 : Int)).map vi)), (4, .live 33 [.osl 1 2 (0 + t.globals.length), .osl 1 5 (t.par.take k).length, .osl 1 6 (t.rc.take k).length, .osl 1 7 (t.rx.take k).length, .osl 1 8 (t.fl.take k).length, .osl 1 9 (prK t k).length, .osl 1 3 t.daemons.length, vu (seedOf t.release), vi 0, vi 0, vi 0, vi 0, vi 0]), (5, .live 3 ((t.par.take k).map vi)), (6, .live 3 ((t.rc.take k).map vi)), (7, .live 3 ((t.rx.take k).map vi)), (8, .live 3 ((t.fl.take k).map vi)), (9, .live 3 ((prK t k).map vi)), (10, .unborn)]⟩) ?_ ?_
      · refine aw_cond rfl (fun hb => ?_) (fun hb => ?_)
        · refine aw_text rfl ?_
          refine ch_v (R := []) rfl rfl (oc_load_row rfl rfl (by kernel_rfl) (by kernel_rfl) rfl) trivial ?_
          refine ch_v (R := []) rfl rfl (oc_move (x := .val _) rfl rfl) trivial ?_
          refine ch_v (R := []) rfl rfl (oc_binZ rfl rfl rfl (by first | exact binW_add (by omega) (by omega) | rfl)) trivial ?_
          refine ch_v (R := []) rfl rfl (oc_move (x := .val _) rfl rfl) trivial ?_
          refine ch_v (R := []) rfl rfl (oc_call rfl (by kernel_rfl) (after_pc t (by omega) ((k : Int) + 1) (t.things.getD k dThing).parent (by omega) (by omega)) rfl (by simp only [PureL, Pure, and_self, pure_tab, pure_th, pure_slI, pure_slS, pure_ways, pure_way, pure_line, pure_lines, pure_slot, pure_verb, pure_deed, pure_things, pure_acts, pure_deeds, pure_world, vu]) (by simp only [PureL, Pure, and_self, pure_tab, pure_th, pure_slI, pure_slS, pure_ways, pure_way, pure_line, pure_lines, pure_slot, pure_verb, pure_deed, pure_things, pure_acts, pure_deeds, pure_world, vu])) trivial ?_
          refine ch_v (R := []) rfl rfl (oc_assign (x := .val _) rfl rfl) trivial ?_
          refine ck_nil ?_
          exact Le.sub (by first | (refine ⟨.inr rfl, .inr rfl, .inr rfl, .inr rfl, .inr rfl, .inr rfl, .inr (vi_eq (by unfold rnext; rw [hpk]; first | (rw [if_pos (by simpa using hb)]; rfl) | (rw [if_neg (by simpa using hb)]))), trivial⟩)) (by refine ⟨rfl, rfl, rfl, rfl, rfl, rfl, rfl, rfl, rfl, rfl, trivial⟩)
        · refine aw_skip ?_
          exact Le.sub (by first | (refine ⟨.inr rfl, .inr rfl, .inr rfl, .inr rfl, .inr rfl, .inr rfl, .inr (vi_eq (by unfold rnext; rw [hpk]; first | (rw [if_pos (by simpa using hb)]; rfl) | (rw [if_neg (by simpa using hb)]))), trivial⟩)) (by refine ⟨rfl, rfl, rfl, rfl, rfl, rfl, rfl, rfl, rfl, rfl, trivial⟩)
      · refine aw_seq ?_
        refine aw_text rfl ?_
        refine ch_v (R := [(_, .live _ _)]) rfl rfl (oc_fieldAddr_own (off := 1) (sz := 1) (r := false) rfl rfl (by first | decide | simp) (by kernel_rfl) (by decide)) ⟨rfl, trivial⟩ ?_
        refine ch_v (R := [(_, .live _ _)]) rfl rfl (oc_load_own rfl rfl (by kernel_rfl) rfl) ⟨rfl, trivial⟩ ?_
        refine ch_v (R := []) rfl rfl (oc_move (x := .val _) rfl rfl) trivial ?_
        refine ch_v (R := []) rfl rfl (oc_buildSlice (ps := [.tmp 47]) (xs := [.val _]) (e := 3) (k := 1) (by_ := 8) (zs := [.int .i64 0]) rfl (by kernel_rfl) (by kernel_rfl) rfl rfl rfl (by decide) (by decide)) trivial ?_
        refine ch_u rfl rfl (oc_append (e := 3) (k := 1) (by_ := 8) (zs := [.int .i64 0]) (cs := (t.par.take k).map vi) (ds := [vi (t.things.getD k dThing).parent]) 10 rfl rfl rfl (by kernel_rfl) (by kernel_rfl) rfl (by decide) (by decide) (by simp) rfl (app_one _) (by omega) (by omega)) ⟨rfl, rfl, trivial⟩ ?_
        refine ch_v (R := [(_, .live _ _)]) rfl rfl (oc_fieldAddr_own (off := 1) (sz := 1) (r := false) rfl rfl (by first | decide | simp) (by kernel_rfl) (by decide)) ⟨rfl, trivial⟩ ?_
        refine ch_n rfl rfl (oc_store (y := .osl _ _ _) (cs' := [_, _, _, _, _, _, _, _, _, _, _, _, _]) rfl rfl rfl (by kernel_rfl) (by kernel_rfl) cells_osl (by first | decide | (simp; done) | (simp; omega)) rfl) ⟨rfl, trivial⟩ ?_
        refine ck_nil ?_
        refine aw_le (Le.trans (Le.swap (τ := ⟨[(1, .ptr (tabAv t)), (2, .own 0 0), (3, .own 4 0), (4, vi k), (5, vi (t.things.getD k dThing).parent), (6, vi (rchild t k)), (7, vi (rnext t k))], [(0, .live 33 zeroW), (2, .live 3 (t.globals.map vi)), (3, .live 3 ((List.replicate t.daemons.length (0 : Int)).map vi)), (4, .live 33 [.osl 1 2 (0 + t.globals.length), .osl 1 5 (t.par.take (k + 1)).length, .osl 1 6 (t.rc.take k).length, .osl 1 7 (t.rx.take k).length, .osl 1 8 (t.fl.take k).length, .osl 1 9 (prK t k).length, .osl 1 3 t.daemons.length, vu (seedOf t.release), vi 0, vi 0, vi 0, vi 0, vi 0]), (5, .live 3 ((t.par.take (k + 1)).map vi)), (6, .live 3 ((t.rc.take k).map vi)), (7, .live 3 ((t.rx.take k).map vi)), (8, .live 3 ((t.fl.take k).map vi)), (9, .live 3 ((prK t k).map vi)), (10, .dead)]⟩) 5 10 (by simp) (by simp) ⟨(ren_pure _ (Av.ptr (tabAv t)) (by show Pure (tabAv t); exact pure_tab t)).symm, rfl, rfl, rfl, rfl, rfl, rfl, trivial⟩ (renH_cons rfl (renH_cons (by rw [ren_vi]; rfl) (renH_cons (by rw [ren_vi]; rfl) (renH_cons (by rw [hl1]; rfl) (renH_cons (by rw [ren_vi, hc1]; rfl) (renH_cons (by rw [ren_vi]; rfl) (renH_cons (by rw [ren_vi]; rfl) (renH_cons (by rw [ren_vi]; rfl) (renH_cons (by rw [ren_vi]; rfl) (renH_cons rfl trivial))))))))))) (Le.reset (τ := ⟨[(1, .ptr (tabAv t)), (2, .own 0 0), (3, .own 4 0), (4, vi k), (5, vi (t.things.getD k dThing).parent), (6, vi (rchild t k)), (7, vi (rnext t k))], [(0, .live 33 zeroW), (2, .live 3 (t.globals.map vi)), (3, .live 3 ((List.replicate t.daemons.length (0 : Int)).map vi)), (4, .live 33 [.osl 1 2 (0 + t.globals.length), .osl 1 5 (t.par.take (k + 1)).length, .osl 1 6 (t.rc.take k).length, .osl 1 7 (t.rx.take k).length, .osl 1 8 (t.fl.take k).length, .osl 1 9 (prK t k).length, .osl 1 3 t.daemons.length, vu (seedOf t.release), vi 0, vi 0, vi 0, vi 0, vi 0]), (5, .live 3 ((t.par.take (k + 1)).map vi)), (6, .live 3 ((t.rc.take k).map vi)), (7, .live 3 ((t.rx.take k).map vi)), (8, .live 3 ((t.fl.take k).map vi)), (9, .live 3 ((prK t k).map vi)), (10, .unborn)]⟩) [10] (by simp) (by repeat (first | trivial | refine ⟨.inr rfl, ?_⟩)) ⟨NoN.of_pure _ (by show Pure (tabAv t); exact pure_tab t), by simp [NoN], by simp [NoN], NoN.of_pure _ trivial, NoN.of_pure _ trivial, NoN.of_pure _ trivial, NoN.of_pure _ trivial, trivial⟩ (noH_live (by decide) rfl (by simp [NoN, zeroW, vu]) (noH_live (by decide) rfl (non_vi _) (noH_live (by decide) rfl (non_vi _) (noH_live (by decide) rfl (by simp [NoN, zeroW, vu]) (noH_live (by decide) rfl (non_vi _) (noH_live (by decide) rfl (non_vi _) (noH_live (by decide) rfl (non_vi _) (noH_live (by decide) rfl (non_vi _) (noH_live (by decide) rfl (non_vi _) (noH_unb (by decide) noH_nil)))))))))))) ?_
        refine aw_seq ?_
        refine aw_text rfl ?_
        refine ch_v (R := [(_, .live _ _)]) rfl rfl (oc_fieldAddr_own (off := 2) (sz := 1) (r := false) rfl rfl (by first | decide | simp) (by kernel_rfl) (by decide)) ⟨rfl, trivial⟩ ?_
        refine ch_v (R := [(_, .live _ _)]) rfl rfl (oc_load_own rfl rfl (by kernel_rfl) rfl) ⟨rfl, trivial⟩ ?_
        refine ch_v (R := []) rfl rfl (oc_move (x := .val _) rfl rfl) trivial ?_
        refine ch_v (R := []) rfl rfl (oc_buildSlice (ps := [.tmp 53]) (xs := [.val _]) (e := 3) (k := 1) (by_ := 8) (zs := [.int .i64 0]) rfl (by kernel_rfl) (by kernel_rfl) rfl rfl rfl (by decide) (by decide)) trivial ?_
        refine ch_u rfl rfl (oc_append (e := 3) (k := 1) (by_ := 8) (zs := [.int .i64 0]) (cs := (t.rc.take k).map vi) (ds := [vi (rchild t k)]) 10 rfl rfl rfl (by kernel_rfl) (by kernel_rfl) rfl (by decide) (by decide) (by simp) rfl (app_one _) (by omega) (by omega)) ⟨rfl, rfl, trivial⟩ ?_
        refine ch_v (R := [(_, .live _ _)]) rfl rfl (oc_fieldAddr_own (off := 2) (sz := 1) (r := false) rfl rfl (by first | decide | simp) (by kernel_rfl) (by decide)) ⟨rfl, trivial⟩ ?_
        refine ch_n rfl rfl (oc_store (y := .osl _ _ _) (cs' := [_, _, _, _, _, _, _, _, _, _, _, _, _]) rfl rfl rfl (by kernel_rfl) (by kernel_rfl) cells_osl (by first | decide | (simp; done) | (simp; omega)) rfl) ⟨rfl, trivial⟩ ?_
        refine ck_nil ?_
        refine aw_le (Le.trans (Le.swap (τ := ⟨[(1, .ptr (tabAv t)), (2, .own 0 0), (3, .own 4 0), (4, vi k), (5, vi (t.things.getD k dThing).parent), (6, vi (rchild t k)), (7, vi (rnext t k))], [(0, .live 33 zeroW), (2, .live 3 (t.globals.map vi)), (3, .live 3 ((List.replicate t.daemons.length (0 : Int)).map vi)), (4, .live 33 [.osl 1 2 (0 + t.globals.length), .osl 1 5 (t.par.take (k + 1)).length, .osl 1 6 (t.rc.take (k + 1)).length, .osl 1 7 (t.rx.take k).length, .osl 1 8 (t.fl.take k).length, .osl 1 9 (prK t k).length, .osl 1 3 t.daemons.length, vu (seedOf t.release), vi 0, vi 0, vi 0, vi 0, vi 0]), (5, .live 3 ((t.par.take (k + 1)).map vi)), (6, .live 3 ((t.rc.take (k + 1)).map vi)), (7, .live 3 ((t.rx.take k).map vi)), (8, .live 3 ((t.fl.take k).map vi)), (9, .live 3 ((prK t k).map vi)), (10, .dead)]⟩) 6 10 (by simp) (by simp) ⟨(ren_pure _ (Av.ptr (tabAv t)) (by show Pure (tabAv t); exact pure_tab t)).symm, rfl, rfl, rfl, rfl, rfl, rfl, trivial⟩ (renH_cons rfl (renH_cons (by rw [ren_vi]; rfl) (renH_cons (by rw [ren_vi]; rfl) (renH_cons (by rw [hl2]; rfl) (renH_cons (by rw [ren_vi]; rfl) (renH_cons (by rw [ren_vi, hc2]; rfl) (renH_cons (by rw [ren_vi]; rfl) (renH_cons (by rw [ren_vi]; rfl) (renH_cons (by rw [ren_vi]; rfl) (renH_cons rfl trivial))))))))))) (Le.reset (τ := ⟨[(1, .ptr (tabAv t)), (2, .own 0 0), (3, .own 4 0), (4, vi k), (5, vi (t.things.getD k dThing).parent), (6, vi (rchild t k)), (7, vi (rnext t k))], [(0, .live 33 zeroW), (2, .live 3 (t.globals.map vi)), (3, .live 3 ((List.replicate t.daemons.length (0 : Int)).map vi)), (4, .live 33 [.osl 1 2 (0 + t.globals.length), .osl 1 5 (t.par.take (k + 1)).length, .osl 1 6 (t.rc.take (k + 1)).length, .osl 1 7 (t.rx.take k).length, .osl 1 8 (t.fl.take k).length, .osl 1 9 (prK t k).length, .osl 1 3 t.daemons.length, vu (seedOf t.release), vi 0, vi 0, vi 0, vi 0, vi 0]), (5, .live 3 ((t.par.take (k + 1)).map vi)), (6, .live 3 ((t.rc.take (k + 1)).map vi)), (7, .live 3 ((t.rx.take k).map vi)), (8, .live 3 ((t.fl.take k).map vi)), (9, .live 3 ((prK t k).map vi)), (10, .unborn)]⟩) [10] (by simp) (by repeat (first | trivial | refine ⟨.inr rfl, ?_⟩)) ⟨NoN.of_pure _ (by show Pure (tabAv t); exact pure_tab t), by simp [NoN], by simp [NoN], NoN.of_pure _ trivial, NoN.of_pure _ trivial, NoN.of_pure _ trivial, NoN.of_pure _ trivial, trivial⟩ (noH_live (by decide) rfl (by simp [NoN, zeroW, vu]) (noH_live (by decide) rfl (non_vi _) (noH_live (by decide) rfl (non_vi _) (noH_live (by decide) rfl (by simp [NoN, zeroW, vu]) (noH_live (by decide) rfl (non_vi _) (noH_live (by decide) rfl (non_vi _) (noH_live (by decide) rfl (non_vi _) (noH_live (by decide) rfl (non_vi _) (noH_live (by decide) rfl (non_vi _) (noH_unb (by decide) noH_nil)))))))))))) ?_
        refine aw_seq ?_
        refine aw_text rfl ?_
        refine ch_v (R := [(_, .live _ _)]) rfl rfl (oc_fieldAddr_own (off := 3) (sz := 1) (r := false) rfl rfl (by first | decide | simp) (by kernel_rfl) (by decide)) ⟨rfl, trivial⟩ ?_
        refine ch_v (R := [(_, .live _ _)]) rfl rfl (oc_load_own rfl rfl (by kernel_rfl) rfl) ⟨rfl, trivial⟩ ?_
        refine ch_v (R := []) rfl rfl (oc_move (x := .val _) rfl rfl) trivial ?_
        refine ch_v (R := []) rfl rfl (oc_buildSlice (ps := [.tmp 59]) (xs := [.val _]) (e := 3) (k := 1) (by_ := 8) (zs := [.int .i64 0]) rfl (by kernel_rfl) (by kernel_rfl) rfl rfl rfl (by decide) (by decide)) trivial ?_
        refine ch_u rfl rfl (oc_append (e := 3) (k := 1) (by_ := 8) (zs := [.int .i64 0]) (cs := (t.rx.take k).map vi) (ds := [vi (rnext t k)]) 10 rfl rfl rfl (by kernel_rfl) (by kernel_rfl) rfl (by decide) (by decide) (by simp) rfl (app_one _) (by omega) (by omega)) ⟨rfl, rfl, trivial⟩ ?_
        refine ch_v (R := [(_, .live _ _)]) rfl rfl (oc_fieldAddr_own (off := 3) (sz := 1) (r := false) rfl rfl (by first | decide | simp) (by kernel_rfl) (by decide)) ⟨rfl, trivial⟩ ?_
        refine ch_n rfl rfl (oc_store (y := .osl _ _ _) (cs' := [_, _, _, _, _, _, _, _, _, _, _, _, _]) rfl rfl rfl (by kernel_rfl) (by kernel_rfl) cells_osl (by first | decide | (simp; done) | (simp; omega)) rfl) ⟨rfl, trivial⟩ ?_
        refine ck_nil ?_
        refine aw_le (Le.trans (Le.swap (τ := ⟨[(1, .ptr (tabAv t)), (2, .own 0 0), (3, .own 4 0), (4, vi k), (5, vi (t.things.getD k dThing).parent), (6, vi (rchild t k)), (7, vi (rnext t k))], [(0, .live 33 zeroW), (2, .live 3 (t.globals.map vi)), (3, .live 3 ((List.replicate t.daemons.length (0 : Int)).map vi)), (4, .live 33 [.osl 1 2 (0 + t.globals.length), .osl 1 5 (t.par.take (k + 1)).length, .osl 1 6 (t.rc.take (k + 1)).length, .osl 1 7 (t.rx.take (k + 1)).length, .osl 1 8 (t.fl.take k).length, .osl 1 9 (prK t k).length, .osl 1 3 t.daemons.length, vu (seedOf t.release), vi 0, vi 0, vi 0, vi 0, vi 0]), (5, .live 3 ((t.par.take (k + 1)).map vi)), (6, .live 3 ((t.rc.take (k + 1)).map vi)), (7, .live 3 ((t.rx.take (k + 1)).map vi)), (8, .live 3 ((t.fl.take k).map vi)), (9, .live 3 ((prK t k).map vi)), (10, .dead)]⟩) 7 10 (by simp) (by simp) ⟨(ren_pure _ (Av.ptr (tabAv t)) (by show Pure (tabAv t); exact pure_tab t)).symm, rfl, rfl, rfl, rfl, rfl, rfl, trivial⟩ (renH_cons rfl (renH_cons (by rw [ren_vi]; rfl) (renH_cons (by rw [ren_vi]; rfl) (renH_cons (by rw [hl3]; rfl) (renH_cons (by rw [ren_vi]; rfl) (renH_cons (by rw [ren_vi]; rfl) (renH_cons (by rw [ren_vi, hc3]; rfl) (renH_cons (by rw [ren_vi]; rfl) (renH_cons (by rw [ren_vi]; rfl) (renH_cons rfl trivial))))))))))) (Le.reset (τ := ⟨[(1, .ptr (tabAv t)), (2, .own 0 0), (3, .own 4 0), (4, vi k), (5, vi (t.things.getD k dThing).parent), (6, vi (rchild t k)), (7, vi (rnext t k))], [(0, .live 33 zeroW), (2, .live 3 (t.globals.map vi)), (3, .live 3 ((List.replicate t.daemons.length (0 : Int)).map vi)), (4, .live 33 [.osl 1 2 (0 + t.globals.length), .osl 1 5 (t.par.take (k + 1)).length, .osl 1 6 (t.rc.take (k + 1)).length, .osl 1 7 (t.rx.take (k + 1)).length, .osl 1 8 (t.fl.take k).length, .osl 1 9 (prK t k).length, .osl 1 3 t.daemons.length, vu (seedOf t.release), vi 0, vi 0, vi 0, vi 0, vi 0]), (5, .live 3 ((t.par.take (k + 1)).map vi)), (6, .live 3 ((t.rc.take (k + 1)).map vi)), (7, .live 3 ((t.rx.take (k + 1)).map vi)), (8, .live 3 ((t.fl.take k).map vi)), (9, .live 3 ((prK t k).map vi)), (10, .unborn)]⟩) [10] (by simp) (by repeat (first | trivial | refine ⟨.inr rfl, ?_⟩)) ⟨NoN.of_pure _ (by show Pure (tabAv t); exact pure_tab t), by simp [NoN], by simp [NoN], NoN.of_pure _ trivial, NoN.of_pure _ trivial, NoN.of_pure _ trivial, NoN.of_pure _ trivial, trivial⟩ (noH_live (by decide) rfl (by simp [NoN, zeroW, vu]) (noH_live (by decide) rfl (non_vi _) (noH_live (by decide) rfl (non_vi _) (noH_live (by decide) rfl (by simp [NoN, zeroW, vu]) (noH_live (by decide) rfl (non_vi _) (noH_live (by decide) rfl (non_vi _) (noH_live (by decide) rfl (non_vi _) (noH_live (by decide) rfl (non_vi _) (noH_live (by decide) rfl (non_vi _) (noH_unb (by decide) noH_nil)))))))))))) ?_
        refine aw_seq ?_
        refine aw_draw mixed ?_
        refine ch_v (R := [(_, .live _ _)]) rfl rfl (oc_fieldAddr_own (off := 4) (sz := 1) (r := false) rfl rfl (by first | decide | simp) (by kernel_rfl) (by decide)) ⟨rfl, trivial⟩ ?_
        refine ch_v (R := [(_, .live _ _)]) rfl rfl (oc_load_own rfl rfl (by kernel_rfl) rfl) ⟨rfl, trivial⟩ ?_
        refine ch_v (R := []) rfl rfl (oc_fieldAddr (off := 8) rfl rfl rfl (by kernel_rfl) rfl) trivial ?_
        refine ch_v (R := []) rfl rfl (oc_load rfl rfl (by kernel_rfl) cells_sl) trivial ?_
        refine ch_v (R := []) rfl rfl (oc_move (x := .val _) rfl rfl) trivial ?_
        refine ch_v (R := []) rfl rfl ((by first | exact oc_indexN rfl rfl rfl (by kernel_rfl) (by omega) | exact oc_index rfl rfl rfl (by kernel_rfl) (by omega) (by omega) rfl)) trivial ?_
        refine ch_v (R := []) rfl rfl (oc_fieldAddr (off := 3) rfl rfl rfl (by kernel_rfl) rfl) trivial ?_
        refine ch_v (R := []) rfl rfl (oc_load rfl rfl (by kernel_rfl) cells_int) trivial ?_
        refine ch_v (R := []) rfl rfl (oc_buildSlice (ps := [.tmp 70]) (xs := [.val _]) (e := 3) (k := 1) (by_ := 8) (zs := [.int .i64 0]) rfl (by kernel_rfl) (by kernel_rfl) rfl rfl rfl (by decide) (by decide)) trivial ?_
        refine ch_u rfl rfl (oc_append (e := 3) (k := 1) (by_ := 8) (zs := [.int .i64 0]) (cs := (t.fl.take k).map vi) (ds := [vi (t.things.getD k dThing).flags]) 10 rfl rfl rfl (by kernel_rfl) (by kernel_rfl) rfl (by decide) (by decide) (by simp) rfl (app_one _) (by omega) (by omega)) ⟨rfl, rfl, trivial⟩ ?_
        refine ch_v (R := [(_, .live _ _)]) rfl rfl (oc_fieldAddr_own (off := 4) (sz := 1) (r := false) rfl rfl (by first | decide | simp) (by kernel_rfl) (by decide)) ⟨rfl, trivial⟩ ?_
        refine ch_n rfl rfl (oc_store (y := .osl _ _ _) (cs' := [_, _, _, _, _, _, _, _, _, _, _, _, _]) rfl rfl rfl (by kernel_rfl) (by kernel_rfl) cells_osl (by first | decide | (simp; done) | (simp; omega)) rfl) ⟨rfl, trivial⟩ ?_
        refine ck_nil ⟨by kernel_rfl, ?_⟩
        refine aw_le (Le.trans (Le.swap (τ := ⟨[(1, .ptr (tabAv t)), (2, .own 0 0), (3, .own 4 0), (4, vi k), (5, vi (t.things.getD k dThing).parent), (6, vi (rchild t k)), (7, vi (rnext t k))], [(0, .live 33 zeroW), (2, .live 3 (t.globals.map vi)), (3, .live 3 ((List.replicate t.daemons.length (0 : Int)).map vi)), (4, .live 33 [.osl 1 2 (0 + t.globals.length), .osl 1 5 (t.par.take (k + 1)).length, .osl 1 6 (t.rc.take (k + 1)).length, .osl 1 7 (t.rx.take (k + 1)).length, .osl 1 8 (t.fl.take (k + 1)).length, .osl 1 9 (prK t k).length, .osl 1 3 t.daemons.length, vu (seedOf t.release), vi 0, vi 0, vi 0, vi 0, vi 0]), (5, .live 3 ((t.par.take (k + 1)).map vi)), (6, .live 3 ((t.rc.take (k + 1)).map vi)), (7, .live 3 ((t.rx.take (k + 1)).map vi)), (8, .live 3 ((t.fl.take (k + 1)).map vi)), (9, .live 3 ((prK t k).map vi)), (10, .dead)]⟩) 8 10 (by simp) (by simp) ⟨(ren_pure _ (Av.ptr (tabAv t)) (by show Pure (tabAv t); exact pure_tab t)).symm, rfl, rfl, rfl, rfl, rfl, rfl, trivial⟩ (renH_cons rfl (renH_cons (by rw [ren_vi]; rfl) (renH_cons (by rw [ren_vi]; rfl) (renH_cons (by rw [hl4]; rfl) (renH_cons (by rw [ren_vi]; rfl) (renH_cons (by rw [ren_vi]; rfl) (renH_cons (by rw [ren_vi]; rfl) (renH_cons (by rw [ren_vi, hc4]; rfl) (renH_cons (by rw [ren_vi]; rfl) (renH_cons rfl trivial))))))))))) (Le.reset (τ := ⟨[(1, .ptr (tabAv t)), (2, .own 0 0), (3, .own 4 0), (4, vi k), (5, vi (t.things.getD k dThing).parent), (6, vi (rchild t k)), (7, vi (rnext t k))], [(0, .live 33 zeroW), (2, .live 3 (t.globals.map vi)), (3, .live 3 ((List.replicate t.daemons.length (0 : Int)).map vi)), (4, .live 33 [.osl 1 2 (0 + t.globals.length), .osl 1 5 (t.par.take (k + 1)).length, .osl 1 6 (t.rc.take (k + 1)).length, .osl 1 7 (t.rx.take (k + 1)).length, .osl 1 8 (t.fl.take (k + 1)).length, .osl 1 9 (prK t k).length, .osl 1 3 t.daemons.length, vu (seedOf t.release), vi 0, vi 0, vi 0, vi 0, vi 0]), (5, .live 3 ((t.par.take (k + 1)).map vi)), (6, .live 3 ((t.rc.take (k + 1)).map vi)), (7, .live 3 ((t.rx.take (k + 1)).map vi)), (8, .live 3 ((t.fl.take (k + 1)).map vi)), (9, .live 3 ((prK t k).map vi)), (10, .unborn)]⟩) [10] (by simp) (by repeat (first | trivial | refine ⟨.inr rfl, ?_⟩)) ⟨NoN.of_pure _ (by show Pure (tabAv t); exact pure_tab t), by simp [NoN], by simp [NoN], NoN.of_pure _ trivial, NoN.of_pure _ trivial, NoN.of_pure _ trivial, NoN.of_pure _ trivial, trivial⟩ (noH_live (by decide) rfl (by simp [NoN, zeroW, vu]) (noH_live (by decide) rfl (non_vi _) (noH_live (by decide) rfl (non_vi _) (noH_live (by decide) rfl (by simp [NoN, zeroW, vu]) (noH_live (by decide) rfl (non_vi _) (noH_live (by decide) rfl (non_vi _) (noH_live (by decide) rfl (non_vi _) (noH_live (by decide) rfl (non_vi _) (noH_live (by decide) rfl (non_vi _) (noH_unb (by decide) noH_nil)))))))))))) ?_
        refine aw_draw mixed ?_
        refine ch_v (R := [(_, .live _ _)]) rfl rfl (oc_fieldAddr_own (off := 5) (sz := 1) (r := false) rfl rfl (by first | decide | simp) (by kernel_rfl) (by decide)) ⟨rfl, trivial⟩ ?_
        refine ch_v (R := [(_, .live _ _)]) rfl rfl (oc_load_own rfl rfl (by kernel_rfl) rfl) ⟨rfl, trivial⟩ ?_
        refine ch_v (R := []) rfl rfl (oc_fieldAddr (off := 8) rfl rfl rfl (by kernel_rfl) rfl) trivial ?_
        refine ch_v (R := []) rfl rfl (oc_load rfl rfl (by kernel_rfl) cells_sl) trivial ?_
        refine ch_v (R := []) rfl rfl (oc_move (x := .val _) rfl rfl) trivial ?_
        refine ch_v (R := []) rfl rfl ((by first | exact oc_indexN rfl rfl rfl (by kernel_rfl) (by omega) | exact oc_index rfl rfl rfl (by kernel_rfl) (by omega) (by omega) rfl)) trivial ?_
        refine ch_v (R := []) rfl rfl (oc_fieldAddr (off := 5) rfl rfl rfl (by kernel_rfl) rfl) trivial ?_
        refine ch_v (R := []) rfl rfl (oc_load rfl rfl (by kernel_rfl) cells_sl) trivial ?_
        refine ch_u rfl rfl (oc_append (e := 3) (k := 1) (by_ := 8) (zs := [.int .i64 0]) (cs := (prK t k).map vi) (ds := (t.things.getD k dThing).props.map vi) 10 rfl rfl rfl (by kernel_rfl) (by kernel_rfl) rfl (by decide) (by decide) (by simp) (by simp) (app_vi _) (by omega) (by omega)) ⟨rfl, rfl, trivial⟩ ?_
        refine ch_v (R := [(_, .live _ _)]) rfl rfl (oc_fieldAddr_own (off := 5) (sz := 1) (r := false) rfl rfl (by first | decide | simp) (by kernel_rfl) (by decide)) ⟨rfl, trivial⟩ ?_
        refine ch_n rfl rfl (oc_store (y := .osl _ _ _) (cs' := [_, _, _, _, _, _, _, _, _, _, _, _, _]) rfl rfl rfl (by kernel_rfl) (by kernel_rfl) cells_osl (by first | decide | (simp; done) | (simp; omega)) rfl) ⟨rfl, trivial⟩ ?_
        refine ck_nil ⟨by kernel_rfl, ?_⟩
        refine aw_le (Le.trans (Le.swap (τ := ⟨[(1, .ptr (tabAv t)), (2, .own 0 0), (3, .own 4 0), (4, vi k), (5, vi (t.things.getD k dThing).parent), (6, vi (rchild t k)), (7, vi (rnext t k))], [(0, .live 33 zeroW), (2, .live 3 (t.globals.map vi)), (3, .live 3 ((List.replicate t.daemons.length (0 : Int)).map vi)), (4, .live 33 [.osl 1 2 (0 + t.globals.length), .osl 1 5 (t.par.take (k + 1)).length, .osl 1 6 (t.rc.take (k + 1)).length, .osl 1 7 (t.rx.take (k + 1)).length, .osl 1 8 (t.fl.take (k + 1)).length, .osl 1 9 (prK t (k + 1)).length, .osl 1 3 t.daemons.length, vu (seedOf t.release), vi 0, vi 0, vi 0, vi 0, vi 0]), (5, .live 3 ((t.par.take (k + 1)).map vi)), (6, .live 3 ((t.rc.take (k + 1)).map vi)), (7, .live 3 ((t.rx.take (k + 1)).map vi)), (8, .live 3 ((t.fl.take (k + 1)).map vi)), (9, .live 3 ((prK t (k + 1)).map vi)), (10, .dead)]⟩) 9 10 (by simp) (by simp) ⟨(ren_pure _ (Av.ptr (tabAv t)) (by show Pure (tabAv t); exact pure_tab t)).symm, rfl, rfl, rfl, rfl, rfl, rfl, trivial⟩ (renH_cons rfl (renH_cons (by rw [ren_vi]; rfl) (renH_cons (by rw [ren_vi]; rfl) (renH_cons (by rw [hl5]; rfl) (renH_cons (by rw [ren_vi]; rfl) (renH_cons (by rw [ren_vi]; rfl) (renH_cons (by rw [ren_vi]; rfl) (renH_cons (by rw [ren_vi]; rfl) (renH_cons (by rw [ren_vi, hc5]; rfl) (renH_cons rfl trivial))))))))))) (Le.reset (τ := ⟨[(1, .ptr (tabAv t)), (2, .own 0 0), (3, .own 4 0), (4, vi k), (5, vi (t.things.getD k dThing).parent), (6, vi (rchild t k)), (7, vi (rnext t k))], [(0, .live 33 zeroW), (2, .live 3 (t.globals.map vi)), (3, .live 3 ((List.replicate t.daemons.length (0 : Int)).map vi)), (4, .live 33 [.osl 1 2 (0 + t.globals.length), .osl 1 5 (t.par.take (k + 1)).length, .osl 1 6 (t.rc.take (k + 1)).length, .osl 1 7 (t.rx.take (k + 1)).length, .osl 1 8 (t.fl.take (k + 1)).length, .osl 1 9 (prK t (k + 1)).length, .osl 1 3 t.daemons.length, vu (seedOf t.release), vi 0, vi 0, vi 0, vi 0, vi 0]), (5, .live 3 ((t.par.take (k + 1)).map vi)), (6, .live 3 ((t.rc.take (k + 1)).map vi)), (7, .live 3 ((t.rx.take (k + 1)).map vi)), (8, .live 3 ((t.fl.take (k + 1)).map vi)), (9, .live 3 ((prK t (k + 1)).map vi)), (10, .unborn)]⟩) [10] (by simp) (by repeat (first | trivial | refine ⟨.inr rfl, ?_⟩)) ⟨NoN.of_pure _ (by show Pure (tabAv t); exact pure_tab t), by simp [NoN], by simp [NoN], NoN.of_pure _ trivial, NoN.of_pure _ trivial, NoN.of_pure _ trivial, NoN.of_pure _ trivial, trivial⟩ (noH_live (by decide) rfl (by simp [NoN, zeroW, vu]) (noH_live (by decide) rfl (non_vi _) (noH_live (by decide) rfl (non_vi _) (noH_live (by decide) rfl (by simp [NoN, zeroW, vu]) (noH_live (by decide) rfl (non_vi _) (noH_live (by decide) rfl (non_vi _) (noH_live (by decide) rfl (non_vi _) (noH_live (by decide) rfl (non_vi _) (noH_live (by decide) rfl (non_vi _) (noH_unb (by decide) noH_nil)))))))))))) ?_
        refine aw_text rfl ?_
        refine ch_v (R := []) rfl rfl (oc_move (x := .val _) rfl rfl) trivial ?_
        refine ch_v (R := []) rfl rfl (oc_binZ rfl rfl rfl (by first | exact binW_add (by omega) (by omega) | rfl)) trivial ?_
        refine ch_v (R := []) rfl rfl (oc_assign (x := .val _) rfl rfl) trivial ?_
        refine ck_nil ?_
        exact ⟨k + 1, by omega, by omega, Le.sub (by repeat (first | trivial | refine ⟨.inr rfl, ?_⟩ | refine ⟨.inr (vi_eq (by omega)), ?_⟩)) ⟨rfl, rfl, rfl, rfl, rfl, rfl, rfl, rfl, rfl, rfl, trivial⟩⟩
  · have hge : k = t.things.length := by have h0 := of_decide_eq_false hb; omega
    refine aw_exit ?_
    refine aw_seq ?_
    refine aw_text rfl ?_
    refine ch_v (R := [(_, .live _ _)]) rfl rfl (oc_load_own_row (k := 13) (ds := [_, _, _, _, _, _, _, _, _, _, _, _, _]) rfl rfl (by kernel_rfl) (by kernel_rfl) rfl rfl (by decide)) ⟨rfl, trivial⟩ ?_
    refine ch_n rfl rfl (oc_store_row (x := .agg _) (cs' := [_, _, _, _, _, _, _, _, _, _, _, _, _]) rfl rfl rfl rfl (by kernel_rfl) (by first | decide | exact Nat.le_of_ble_eq_true rfl | simp) (by first | decide | exact Nat.le_of_ble_eq_true rfl | simp) rfl) ⟨rfl, trivial⟩ ?_
    refine ck_nil ?_
    refine aw_le (Le.freezeCell 0 0 2 (fun j => vi ((t.globals).getD j 0)) rfl rfl rfl (by decide) (by simp) (fun j hj => row_vi _ j (by simpa using hj))) ?_
    refine aw_le (Le.freezeCell 0 1 5 (fun j => vi ((t.par.take k).getD j 0)) rfl rfl rfl (by decide) (by simp) (fun j hj => row_vi _ j (by simpa using hj))) ?_
    refine aw_le (Le.freezeCell 0 2 6 (fun j => vi ((t.rc.take k).getD j 0)) rfl rfl rfl (by decide) (by simp) (fun j hj => row_vi _ j (by simpa using hj))) ?_
    refine aw_le (Le.freezeCell 0 3 7 (fun j => vi ((t.rx.take k).getD j 0)) rfl rfl rfl (by decide) (by simp) (fun j hj => row_vi _ j (by simpa using hj))) ?_
    refine aw_le (Le.freezeCell 0 4 8 (fun j => vi ((t.fl.take k).getD j 0)) rfl rfl rfl (by decide) (by simp) (fun j hj => row_vi _ j (by simpa using hj))) ?_
    refine aw_le (Le.freezeCell 0 5 9 (fun j => vi ((prK t k).getD j 0)) rfl rfl rfl (by decide) (by simp) (fun j hj => row_vi _ j (by simpa using hj))) ?_
    refine aw_le (Le.freezeCell 0 6 3 (fun j => vi ((List.replicate t.daemons.length (0 : Int)).getD j 0)) rfl rfl rfl (by decide) (by simp) (fun j hj => row_vi _ j (by simpa using hj))) ?_
    refine aw_ret ?_
    exact ⟨.inl rfl, (by rw [rnewW_av t hge]; exact ResOk.cell rfl rfl rfl (by kernel_rfl) (by kernel_rfl) (Nat.le_of_ble_eq_true rfl)), trivial⟩
end Go.Proofs.Ytfbkokcpkcfkiaa
