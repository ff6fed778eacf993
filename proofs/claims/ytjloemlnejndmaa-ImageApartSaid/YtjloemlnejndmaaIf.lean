/- Chapter 22: the world that bytes are, walked. -/
import Derived.Test.YtjloemlnejndmaaIe
import Derived.Test.YtjloemlnejndmaaProg
import Derived.KernelRfl
namespace Go.Proofs.Ytjloemlnejndmaa
open Go.RowKit
set_option maxRecDepth 100000
set_option linter.unusedVariables false
set_option linter.unusedSimpArgs false
theorem FC.nil_or {P : Program} {f k n : Nat} {row : Nat → Av} {xs : List Av} {x : Av} {R U : List (Nat × Hs)} (h1 : n = 0 → ∀ c, FC P f (.val (.slice none 0 c) :: xs) R x U) (h2 : FC P f (.nz (.sl k n row) :: xs) R x U) : FC P f (.sl k n row :: xs) R x U := by
  intro E vs hG hA hR hB hU
  have hA' := hA
  unfold RepL at hA'
  obtain ⟨v, us, rfl, h3, h4⟩ := hA'
  have h3' := h3
  unfold Rep at h3'
  obtain ⟨A, c, rfl, h5, h6, h7⟩ := h3'
  cases A with
  | none =>
    have hn : n = 0 := by
      rcases Nat.eq_zero_or_pos n with h | h
      · exact h
      · obtain ⟨b, o, h8, _⟩ := h7 h; cases h8
    subst hn
    exact h1 rfl c E _ hG (by unfold RepL; exact ⟨_, us, rfl, by unfold Rep; rfl, h4⟩) hR hB hU
  | some a => exact h2 E _ hG (by unfold RepL; exact ⟨_, us, rfl, by unfold Rep; exact ⟨h3, fun n c h => by cases h⟩, h4⟩) hR hB hU
set_option maxHeartbeats 800000 in
theorem clone0_fc (c : Nat) : FC Try.prog 55 [.val (.slice none 0 c)] ([]) (.osl 1 4 0) ([(4, .live 3 (([]).map vi))]) := by
  refine FC.body 6 8 Try.func55 rfl (by kernel_rfl) ?_
  refine aw_seq ?_
  refine aw_text rfl ?_
  refine ch_v (R := []) rfl rfl (oc_assign (x := .val _) rfl rfl) trivial ?_
  refine ck_nil ?_
  refine aw_seq ?_
  refine aw_seq ?_
  refine aw_text rfl ?_
  refine ch_v (R := []) rfl rfl (oc_move (x := .val _) rfl rfl) trivial ?_
  refine ch_v (R := []) rfl rfl (oc_nil_eq (e := 3) rfl rfl rfl (by kernel_rfl)) trivial ?_
  refine ck_nil ?_
  refine aw_cond rfl (fun hb => ?_) (fun hb => ?_)
  · refine aw_seq ?_
    refine aw_text rfl ?_
    refine ch_v (R := []) rfl rfl (oc_assign (x := .val _) rfl rfl) trivial ?_
    refine ck_nil ?_
    refine aw_le (Le.nameNil 2 4 1 3 rfl rfl) ?_
    refine aw_ret ?_
    exact ⟨.inl rfl, ResOk.tmp rfl rfl, ⟨rfl, trivial⟩⟩
  · exact absurd hb (by cases hb)
set_option maxHeartbeats 800000 in
theorem clone1_fc (l : List Int) (hl : l.length ≤ 17592186044416) : FC Try.prog 55 [.nz (slI l)] ([]) (.osl 1 4 l.length) ([(4, .live 3 ((l).map vi))]) := by
  refine FC.body 6 8 Try.func55 rfl (by kernel_rfl) ?_
  refine aw_seq ?_
  refine aw_text rfl ?_
  refine ch_v (R := []) rfl rfl (oc_assign (x := .val _) rfl rfl) trivial ?_
  refine ck_nil ?_
  refine aw_seq ?_
  refine aw_seq ?_
  refine aw_text rfl ?_
  refine ch_v (R := []) rfl rfl (oc_move (x := .nz _) rfl rfl) trivial ?_
  refine ch_v (R := []) rfl rfl (oc_nz_eq (e := 3) rfl rfl rfl (by kernel_rfl)) trivial ?_
  refine ck_nil ?_
  refine aw_cond rfl (fun hb => ?_) (fun hb => ?_)
  · exact absurd hb (by cases hb)
  · refine aw_skip ?_
    refine aw_seq ?_
    refine aw_text rfl ?_
    refine ch_u rfl rfl (oc_buildSlice_own (ps := []) (xs := []) (e := 3) (by_ := 8) (zs := [.int .i64 0]) 3 rfl (by kernel_rfl) (by kernel_rfl) rfl rfl rfl rfl (by decide)) ⟨rfl, trivial⟩ ?_
    refine ch_v (R := []) rfl rfl (oc_move_nz rfl rfl) trivial ?_
    refine ch_u rfl rfl (oc_append (e := 3) (k := 1) (by_ := 8) (zs := [.int .i64 0]) (cs := []) (ds := l.map vi) 4 rfl rfl rfl (by kernel_rfl) (by kernel_rfl) rfl (by decide) (by decide) rfl (by simp) (app_vi l) (by omega) (by omega)) ⟨rfl, rfl, trivial⟩ ?_
    refine ch_v (R := []) rfl rfl (oc_assign (x := .osl _ _ _) rfl rfl) trivial ?_
    refine ck_nil ?_
    refine aw_ret ?_
    exact ⟨.inl rfl, ResOk.tmp rfl (by show Av.osl 1 4 (0 + l.length) = _; rw [Nat.zero_add]), ⟨rfl, trivial⟩⟩
theorem clone_fc (l : List Int) (hl : l.length ≤ 17592186044416) : FC Try.prog 55 [slI l] [] (.osl 1 4 l.length) [(4, .live 3 ((l).map vi))] :=
  FC.nil_or (fun h c => by rw [List.eq_nil_of_length_eq_zero h]; exact clone0_fc c) (clone1_fc l hl)
def bk (xs : List Int) (k i : Nat) : Av := if i < k then vi (byK xs i) else vi 0
abbrev listsA (xs : List Int) (x : Av) : List Av := [slI (liK xs 0), slI (liK xs 1), slI (liK xs 2), slI (liK xs 3), x, slI (liK xs 5), slI (liK xs 6)]
abbrev cellsB (xs : List Int) (k : Nat) : List Av := [slI (liK xs 0), slI (liK xs 1), slI (liK xs 2), slI (liK xs 3), slI (liK xs 4), slI (liK xs 5), slI (liK xs 6), vu (tN xs 8 (rdK xs 7)).1, vi (wrap16 (tN xs 2 (sA xs)).1), vi 0, bk xs k 0, bk xs k 1, bk xs k 2]
abbrev cellsC (xs : List Int) (x : Av) : List Av := [slI (liK xs 0), slI (liK xs 1), slI (liK xs 2), slI (liK xs 3), x, slI (liK xs 5), slI (liK xs 6), vu (tN xs 8 (rdK xs 7)).1, vi (wrap16 (tN xs 2 (sA xs)).1), vi (tN xs 4 (sB xs)).1, vi (byK xs 0), vi (byK xs 1), vi (byK xs 2)]
theorem cellsB_set (xs : List Int) {k : Nat} (h : k < 3) : (cellsB xs k).set (10 + k) (vi (byK xs k)) = cellsB xs (k + 1) := by
  rcases k with _ | _ | _ | k <;> first | rfl | omega
theorem own_at3 {k : Nat} (h : k < 3) : ([.own 0 10, .own 0 11, .own 0 12] : List Av)[k]? = some (.own 0 (10 + k)) := by
  rcases k with _ | _ | _ | k <;> first | rfl | omega
theorem tN_bound {xs : List Int} (hb : Byt xs) (k : Nat) (s : Int × Int) : 0 ≤ (tN xs k s).1 ∧ (tN xs k s).1 < 256 ^ k := by
  have h1 := sTk_byt xs s.1 s.2 k hb
  have h2 : (sTk xs s.1 s.2 k).1.length ≤ k := by
    unfold sTk
    split
    · simp
    · split
      · simp
      · simp; omega
  have h3 := sNum_bound _ h1 (sTk xs s.1 s.2 k).1.length (Nat.le_refl _)
  rw [List.take_length] at h3
  have h4 : (256 : Int) ^ (sTk xs s.1 s.2 k).1.length ≤ 256 ^ k := by
    have : (256 : Nat) ^ (sTk xs s.1 s.2 k).1.length ≤ 256 ^ k := Nat.pow_le_pow_right (by omega) h2
    exact_mod_cast this
  exact ⟨h3.1, Int.lt_of_lt_of_le h3.2 h4⟩
def updF (l : List Int) (k : Nat) : List Int := (l.take k).map (· % 65536) ++ l.drop k
theorem updF_len (l : List Int) (k : Nat) : (updF l k).length = l.length := by simp [updF]; omega
theorem updF_zero (l : List Int) : updF l 0 = l := by simp [updF]
theorem updF_all (l : List Int) : updF l l.length = l.map (· % 65536) := by simp [updF]
theorem updF_at {l : List Int} {k : Nat} (h : k < l.length) : ((updF l k).map vi)[k]? = some (vi (l.getD k 0)) := by
  simp [updF, List.getElem?_append_right, h, Nat.min_eq_left (Nat.le_of_lt h)]
theorem updF_set {l : List Int} {k : Nat} (h : k < l.length) : ((updF l k).map vi).set k (vi (l.getD k 0 % 65536)) = (updF l (k + 1)).map vi := by
  rw [← List.map_set]
  congr 1
  apply List.ext_getElem?
  intro i
  rw [List.getElem?_set]
  have hl := updF_len l k
  by_cases e : k = i
  · subst e
    rw [if_pos rfl, hl, if_pos h]
    unfold updF
    rw [List.getElem?_append_left (by rw [List.length_map, List.length_take]; omega), List.getElem?_map, List.getElem?_take_of_lt (by omega), List.getElem?_eq_getElem h]
    simp [List.getD, h]
  · rw [if_neg e]
    unfold updF
    rcases Nat.lt_or_ge i k with h1 | h1
    · rw [List.getElem?_append_left (by simp; omega), List.getElem?_append_left (by simp; omega), List.getElem?_map, List.getElem?_map, List.getElem?_take_of_lt h1, List.getElem?_take_of_lt (by omega)]
    · rw [List.getElem?_append_right (by simp; omega), List.getElem?_append_right (by simp; omega), List.getElem?_drop, List.getElem?_drop]
      congr 1
      simp
      omega
theorem read_to (xs : List Int) (E : Env) (v : Value) (h : Rep E (.agg (cellsC xs (.sl 1 (liK xs 4).length (fun j => vi (((liK xs 4).map (· % 65536)).getD j 0))))) v) : Rep E (worldAv (readW xs)) v := by
  have e : slI ((liK xs 4).map (· % 65536)) = .sl 1 (liK xs 4).length (fun j => vi (((liK xs 4).map (· % 65536)).getD j 0)) := by unfold slI; rw [List.length_map]
  show Rep E (.agg (cellsC xs (slI ((liK xs 4).map (· % 65536))))) v
  rw [e]
  exact h
theorem inNL_vi {Z : Nat → Prop} (l : List Int) : InNL Z (l.map vi) := by
  induction l with
  | nil => unfold InNL; trivial
  | cons x l ih => simp only [List.map_cons]; unfold InNL; exact ⟨by unfold InN; trivial, ih⟩
set_option maxHeartbeats 1600000 in
theorem read_pc (xs : List Int) (hx : xs.length ≤ 1000000) (hb : Byt xs) : PC Try.prog 16 [bs xs] (.tup [worldAv (readW xs), vi (readE xs)]) := by
  refine FC.bodyM 6 80 Try.func16 rfl (by kernel_rfl) ?_
  have htb := tN_bound hb 4 (sB xs)
  have hl4 := li_len xs 4
  refine awm_ahead ?_
  refine aw_text rfl ?_
  refine ch_u rfl rfl (oc_alloc (zs := [.slice none 0 0, .slice none 0 0, .slice none 0 0, .slice none 0 0, .slice none 0 0, .slice none 0 0, .slice none 0 0, .int .u64 0, .int .i64 0, .int .i64 0, .int .i64 0, .int .i64 0, .int .i64 0]) (cs := [.val _, .val _, .val _, .val _, .val _, .val _, .val _, .val _, .val _, .val _, .val _, .val _, .val _]) 2 rfl (by kernel_rfl) rfl rfl) ⟨rfl, trivial⟩ ?_
  refine ch_v (R := []) rfl rfl (oc_assign (x := .val _) rfl rfl) trivial ?_
  refine ck_nil ?_
  refine awm_ahead ?_
  refine aw_text rfl ?_
  refine ch_u rfl rfl (oc_alloc (zs := [.slice none 0 0, .slice none 0 0, .slice none 0 0, .slice none 0 0, .slice none 0 0, .slice none 0 0, .slice none 0 0, .int .u64 0, .int .i64 0, .int .i64 0, .int .i64 0, .int .i64 0, .int .i64 0]) (cs := [.val _, .val _, .val _, .val _, .val _, .val _, .val _, .val _, .val _, .val _, .val _, .val _, .val _]) 0 rfl (by kernel_rfl) rfl rfl) ⟨rfl, trivial⟩ ?_
  refine ck_nil ?_
  refine awm_ahead ?_
  refine aw_text rfl ?_
  refine ch_v (R := []) rfl rfl (oc_assign (x := .val _) rfl rfl) trivial ?_
  refine ck_nil ?_
  refine awm_ahead ?_
  refine aw_text rfl ?_
  refine ch_v (R := []) rfl rfl (oc_move (x := .sl _ _ _) rfl rfl) trivial ?_
  refine ch_v (R := []) rfl rfl (oc_build (pl := [(0, 1), (1, 1), (2, 1)]) (zs := [.slice none 0 0, .int .i64 0, .int .i64 0]) (ds := [.sl _ _ _, .val _, .val _]) rfl (by kernel_rfl) rfl (by kernel_rfl) (by first | rfl | decide) rfl) trivial ?_
  refine ch_u rfl rfl (oc_alloc (zs := [.slice none 0 0, .int .i64 0, .int .i64 0]) (cs := [.val _, .val _, .val _]) 1 rfl (by kernel_rfl) rfl rfl) ⟨rfl, trivial⟩ ?_
  refine ch_n rfl rfl (oc_store_row (x := .agg _) (cs' := [_, _, _]) rfl rfl rfl rfl (by kernel_rfl) (by first | decide | exact Nat.le_of_ble_eq_true rfl | simp) (by first | decide | exact Nat.le_of_ble_eq_true rfl | simp) rfl) ⟨rfl, trivial⟩ ?_
  refine ck_nil ?_
  refine awm_behind ?_
  refine awm_ahead ?_
  refine aw_text rfl ?_
  refine ch_u rfl rfl (oc_callFC [] rfl (by kernel_rfl) (FC.m (lists_fc (cellsK xs 0) (by simp [cellsK]))) rfl (by simp) (by simp [bornH]) (by simp) (by simp) (by simp [InNL, InN]) ⟨cellsK_in xs 0, trivial⟩ (by simp [InN, InNL]) ⟨cellsK_in xs 0, trivial⟩) ⟨rfl, trivial⟩ ?_
  refine ck_nil ?_
  refine awm_block ?_
  refine awm_rangeFunc (gf := 80) (σ := [(6, .own 1 0)]) (Rc := [(0, Hs.live 34 (cellsK xs 0)), (1, Hs.live 48 [bs xs, vi (rdK xs 0).1, vi (rdK xs 0).2])]) (Mc := []) (U := [(0, Hs.live 34 (cellsK xs 7)), (1, Hs.live 48 [bs xs, vi (rdK xs 7).1, vi (rdK xs 7).2])]) (B := true) 5 [] rfl rfl (by kernel_rfl) (by repeat (first | trivial | refine ⟨.inr rfl, ?_⟩)) ⟨rfl, rfl, trivial⟩ (fun l => listsO_fcm xs l 80 [15] _ _ [(6, .own 1 0)] rfl (by decide) ⟨by simp [InN], trivial⟩ ?_) trivial (by simp) (by simp) (by simp) (by simp [bornH]) (by simp) (by simp) (by simp [InNL, InN]) ⟨by simp [InN], trivial⟩ ⟨by simp only [InH]; exact cellsK_in _ _, by simp [InH, InNL, InN, InN.of_pure _ (bs_pure xs)], trivial⟩ (by unfold InN; trivial) ⟨by simp only [InH]; exact cellsK_in _ _, by simp [InH, InNL, InN, InN.of_pure _ (bs_pure xs)], trivial⟩ ?_
  · intro k hlt
    unfold RC
    refine aw_text rfl ?_
    refine ch_v (R := []) rfl rfl (oc_assign (x := .own _ _) rfl rfl) trivial ?_
    refine ck_nil ?_
    refine ⟨rfl, ?_⟩
    refine aw_block ?_
    refine aw_text rfl ?_
    refine ch_v (R := []) rfl rfl (oc_move (x := .own _ _) rfl rfl) trivial ?_
    refine ch_v (R := [(_, .live _ _)]) rfl rfl (oc_load_own_row (k := 3) (ds := [_, _, _]) rfl rfl (by kernel_rfl) (by kernel_rfl) rfl rfl (by decide)) ⟨rfl, trivial⟩ ?_
    refine ch_v (R := []) rfl rfl (oc_call rfl (by kernel_rfl) (takeInts_pc xs (rdK xs k) hx hb) rfl (by simp only [PureL, Pure, and_self, bs_pure, pure_slI, pure_world, pure_tab, rdAv, vu, implies_true]) (by simp only [PureL, Pure, and_self, bs_pure, pure_slI, pure_world, pure_tab, rdAv, vu, implies_true])) trivial ?_
    refine ch_v (R := []) rfl rfl (oc_move (x := .tup _) rfl rfl) trivial ?_
    refine ch_v (R := []) rfl rfl (oc_extract rfl rfl rfl) trivial ?_
    refine ch_v (R := []) rfl rfl (oc_extract rfl rfl rfl) trivial ?_
    refine ch_v (R := [(_, .live _ _)]) rfl rfl (oc_nilCheck_own (cs := cellsK xs k) rfl rfl (by show k < 13; omega)) ⟨rfl, trivial⟩ ?_
    refine ch_n rfl rfl (oc_store (y := .sl _ _ _) rfl rfl rfl (by kernel_rfl) (by kernel_rfl) cells_sl (by show k < 13; omega) rfl) ⟨rfl, trivial⟩ ?_
    refine ch_n rfl rfl (oc_store_row (x := .agg _) (cs' := [_, _, _]) rfl rfl rfl rfl (by kernel_rfl) (by first | decide | exact Nat.le_of_ble_eq_true rfl | simp) (by first | decide | exact Nat.le_of_ble_eq_true rfl | simp) rfl) ⟨rfl, trivial⟩ ?_
    refine ck_nil ?_
    exact ⟨rfl, by rw [← cells_set xs hlt]; rfl, rfl, trivial⟩
  · refine aw_seq ?_
    refine aw_text rfl ?_
    refine ch_v (R := [(_, .live _ _)]) rfl rfl (oc_load_own_row (k := 3) (ds := [_, _, _]) rfl rfl (by kernel_rfl) (by kernel_rfl) rfl rfl (by decide)) ⟨rfl, trivial⟩ ?_
    refine ch_v (R := []) rfl rfl (oc_call rfl (by kernel_rfl) (takeHuge_pc xs (rdK xs 7) hx hb) rfl (by simp only [PureL, Pure, and_self, bs_pure, pure_slI, pure_world, pure_tab, rdAv, vu, implies_true]) (by simp only [PureL, Pure, and_self, bs_pure, pure_slI, pure_world, pure_tab, rdAv, vu, implies_true])) trivial ?_
    refine ch_v (R := []) rfl rfl (oc_move (x := .tup _) rfl rfl) trivial ?_
    refine ch_v (R := []) rfl rfl (oc_extract rfl rfl rfl) trivial ?_
    refine ch_v (R := []) rfl rfl (oc_extract rfl rfl rfl) trivial ?_
    refine ch_v (R := [(_, .live _ _)]) rfl rfl (oc_fieldAddr_own (off := 7) (sz := 1) (r := false) (cs := cellsK xs 7) rfl rfl (by show 0 < 13; omega) (by kernel_rfl) (by decide)) ⟨rfl, trivial⟩ ?_
    refine ch_n rfl rfl (oc_store (y := .val _) (cs' := [_, _, _, _, _, _, _, _, _, _, _, _, _]) rfl rfl rfl (by kernel_rfl) (by kernel_rfl) cells_int (Nat.le_of_ble_eq_true rfl) rfl) ⟨rfl, trivial⟩ ?_
    refine ch_n rfl rfl (oc_store_row (x := .agg _) (cs' := [_, _, _]) rfl rfl rfl rfl (by kernel_rfl) (by first | decide | exact Nat.le_of_ble_eq_true rfl | simp) (by first | decide | exact Nat.le_of_ble_eq_true rfl | simp) rfl) ⟨rfl, trivial⟩ ?_
    refine ck_nil ?_
    refine aw_seq ?_
    refine aw_text rfl ?_
    refine ch_v (R := [(_, .live _ _)]) rfl rfl (oc_load_own_row (k := 3) (ds := [_, _, _]) rfl rfl (by kernel_rfl) (by kernel_rfl) rfl rfl (by decide)) ⟨rfl, trivial⟩ ?_
    refine ch_v (R := []) rfl rfl (oc_call rfl (by kernel_rfl) (takeWord_pc xs (sA xs) hx hb) rfl (by simp only [PureL, Pure, and_self, bs_pure, pure_slI, pure_world, pure_tab, rdAv, vu, implies_true]) (by simp only [PureL, Pure, and_self, bs_pure, pure_slI, pure_world, pure_tab, rdAv, vu, implies_true])) trivial ?_
    refine ch_v (R := []) rfl rfl (oc_move (x := .tup _) rfl rfl) trivial ?_
    refine ch_v (R := []) rfl rfl (oc_extract rfl rfl rfl) trivial ?_
    refine ch_v (R := []) rfl rfl (oc_extract rfl rfl rfl) trivial ?_
    refine ch_v (R := [(_, .live _ _)]) rfl rfl (oc_fieldAddr_own (off := 8) (sz := 1) (r := false) rfl rfl (by first | decide | simp) (by kernel_rfl) (by decide)) ⟨rfl, trivial⟩ ?_
    refine ch_n rfl rfl (oc_store (y := .val _) (cs' := [_, _, _, _, _, _, _, _, _, _, _, _, _]) rfl rfl rfl (by kernel_rfl) (by kernel_rfl) cells_int (Nat.le_of_ble_eq_true rfl) rfl) ⟨rfl, trivial⟩ ?_
    refine ch_n rfl rfl (oc_store_row (x := .agg _) (cs' := [_, _, _]) rfl rfl rfl rfl (by kernel_rfl) (by first | decide | exact Nat.le_of_ble_eq_true rfl | simp) (by first | decide | exact Nat.le_of_ble_eq_true rfl | simp) rfl) ⟨rfl, trivial⟩ ?_
    refine ck_nil ?_
    refine aw_seq ?_
    refine aw_text rfl ?_
    refine ch_v (R := [(_, .live _ _)]) rfl rfl (oc_load_own_row (k := 3) (ds := [_, _, _]) rfl rfl (by kernel_rfl) (by kernel_rfl) rfl rfl (by decide)) ⟨rfl, trivial⟩ ?_
    refine ch_v (R := []) rfl rfl (oc_call rfl (by kernel_rfl) (takeLong_pc xs (sB xs) hx hb) rfl (by simp only [PureL, Pure, and_self, bs_pure, pure_slI, pure_world, pure_tab, rdAv, vu, implies_true]) (by simp only [PureL, Pure, and_self, bs_pure, pure_slI, pure_world, pure_tab, rdAv, vu, implies_true])) trivial ?_
    refine ch_v (R := []) rfl rfl (oc_move (x := .tup _) rfl rfl) trivial ?_
    refine ch_v (R := []) rfl rfl (oc_extract rfl rfl rfl) trivial ?_
    refine ch_v (R := []) rfl rfl (oc_extract rfl rfl rfl) trivial ?_
    refine ch_v (R := []) rfl rfl (oc_assign (x := .val _) rfl rfl) trivial ?_
    refine ch_n rfl rfl (oc_store_row (x := .agg _) (cs' := [_, _, _]) rfl rfl rfl rfl (by kernel_rfl) (by first | decide | exact Nat.le_of_ble_eq_true rfl | simp) (by first | decide | exact Nat.le_of_ble_eq_true rfl | simp) rfl) ⟨rfl, trivial⟩ ?_
    refine ck_nil ?_
    refine aw_seq ?_
    refine aw_seq ?_
    refine aw_text rfl ?_
    refine ch_v (R := [(_, .live _ _)]) rfl rfl (oc_fieldAddr_own (off := 10) (sz := 1) (r := false) rfl rfl (by first | decide | simp) (by kernel_rfl) (by decide)) ⟨rfl, trivial⟩ ?_
    refine ch_v (R := [(_, .live _ _)]) rfl rfl (oc_fieldAddr_own (off := 11) (sz := 1) (r := false) rfl rfl (by first | decide | simp) (by kernel_rfl) (by decide)) ⟨rfl, trivial⟩ ?_
    refine ch_v (R := [(_, .live _ _)]) rfl rfl (oc_fieldAddr_own (off := 12) (sz := 1) (r := false) rfl rfl (by first | decide | simp) (by kernel_rfl) (by decide)) ⟨rfl, trivial⟩ ?_
    refine ch_v (R := []) rfl rfl (oc_buildArr (n := 3) (e := 89) (by_ := 8) (k := 1) (zs := [.pointer none, .pointer none, .pointer none]) (ez := [.pointer none]) (ds := [.own _ _, .own _ _, .own _ _]) rfl (by kernel_rfl) rfl (by kernel_rfl) (by kernel_rfl) (by first | rfl | decide) rfl) trivial ?_
    refine ch_v (R := []) rfl rfl (oc_move (x := .val _) rfl rfl) trivial ?_
    refine ck_nil ?_
    refine aw_block ?_
    refine aw_loop (ι := Nat) (fun k => ⟨[(2, .own 2 0), (4, .own 0 0), (5, .val (.int .u32 (tN xs 4 (sB xs)).1)), (6, .own 1 0), (43, .agg [.own 0 10, .own 0 11, .own 0 12]), (44, vi k)], [(0, .live 34 (cellsB xs k)), (1, .live 48 [bs xs, vi (rbK xs k).1, vi (rbK xs k).2]), (2, .live 34 (cellsK xs 0)), (4, .unborn)]⟩) (fun k => k ≤ 3) (fun k => 3 - k) 0 (Nat.zero_le _) (Le.sub (by repeat (first | trivial | refine ⟨.inr rfl, ?_⟩ | refine ⟨.inr (vi_eq (by omega)), ?_⟩)) (by repeat (first | trivial | refine ⟨rfl, ?_⟩))) ?_
    intro k hI
    refine aw_seq ?_
    refine aw_text rfl ?_
    refine ch_v (R := []) rfl rfl (oc_binZ rfl rfl rfl rfl) trivial ?_
    refine ck_nil ?_
    refine aw_seq ?_
    refine aw_cond rfl (fun hb_ => ?_) (fun hb_ => ?_)
    · have hlt : k < 3 := by have h0 := of_decide_eq_true hb_; omega
      refine aw_skip ?_
      refine aw_seq ?_
      refine aw_block ?_
      refine aw_seq ?_
      refine aw_text rfl ?_
      refine ch_v (R := []) rfl rfl (oc_arrIndex (n := 3) (e := 89) (by_ := 8) (zs := [.pointer none]) k rfl rfl rfl (by kernel_rfl) (by kernel_rfl) (by kernel_rfl) hlt (own_at3 hlt)) trivial ?_
      refine ch_v (R := []) rfl rfl (oc_assign (x := .own _ _) rfl rfl) trivial ?_
      refine ck_nil ?_
      refine aw_text rfl ?_
      refine ch_v (R := []) rfl rfl (oc_move (x := .own _ _) rfl rfl) trivial ?_
      refine ch_v (R := [(_, .live _ _)]) rfl rfl (oc_load_own_row (k := 3) (ds := [_, _, _]) rfl rfl (by kernel_rfl) (by kernel_rfl) rfl rfl (by decide)) ⟨rfl, trivial⟩ ?_
      refine ch_v (R := []) rfl rfl (oc_call rfl (by kernel_rfl) (takeByte_pc xs (rbK xs k) hx hb) rfl (by simp only [PureL, Pure, and_self, bs_pure, pure_slI, pure_world, pure_tab, rdAv, vu, implies_true]) (by simp only [PureL, Pure, and_self, bs_pure, pure_slI, pure_world, pure_tab, rdAv, vu, implies_true])) trivial ?_
      refine ch_v (R := []) rfl rfl (oc_move (x := .tup _) rfl rfl) trivial ?_
      refine ch_v (R := []) rfl rfl (oc_extract rfl rfl rfl) trivial ?_
      refine ch_v (R := []) rfl rfl (oc_extract rfl rfl rfl) trivial ?_
      refine ch_v (R := [(_, .live _ _)]) rfl rfl (oc_nilCheck_own (cs := cellsB xs k) rfl rfl (by show 10 + k < 13; omega)) ⟨rfl, trivial⟩ ?_
      refine ch_n rfl rfl (oc_store (y := .val _) rfl rfl rfl (by kernel_rfl) (by kernel_rfl) cells_int (by show 10 + k < 13; omega) rfl) ⟨rfl, trivial⟩ ?_
      refine ch_n rfl rfl (oc_store_row (x := .agg _) (cs' := [_, _, _]) rfl rfl rfl rfl (by kernel_rfl) (by first | decide | exact Nat.le_of_ble_eq_true rfl | simp) (by first | decide | exact Nat.le_of_ble_eq_true rfl | simp) rfl) ⟨rfl, trivial⟩ ?_
      refine ck_nil ?_
      refine aw_text rfl ?_
      refine ch_v (R := []) rfl rfl (oc_binZ rfl rfl rfl (by first | exact binW_add (by omega) (by omega) | rfl)) trivial ?_
      refine ch_v (R := []) rfl rfl (oc_move (x := .val _) rfl rfl) trivial ?_
      refine ck_nil ?_
      exact ⟨k + 1, by omega, by omega, Le.sub (by repeat (first | trivial | refine ⟨.inr rfl, ?_⟩)) (by rw [← cellsB_set xs hlt]; exact ⟨rfl, rfl, rfl, rfl, trivial⟩)⟩
    · have hge : k = 3 := by have h0 := of_decide_eq_false hb_; omega
      subst hge
      refine aw_exit ?_
      refine aw_seq ?_
      refine aw_text rfl ?_
      refine ch_v (R := []) rfl rfl (oc_move (x := .val _) rfl rfl) trivial ?_
      refine ch_v (R := []) rfl rfl (OC.cast (oc_conv (k := .u32) .i64 rfl rfl (by kernel_rfl) (by kernel_rfl)) (show Av.val (.int .i64 (IntKind.i64.wrap (tN xs 4 (sB xs)).1)) = vi (tN xs 4 (sB xs)).1 from by rw [i64_in _ (by omega) (by omega)])) trivial ?_
      refine ch_v (R := [(_, .live _ _)]) rfl rfl (oc_fieldAddr_own (off := 9) (sz := 1) (r := false) rfl rfl (by first | decide | simp) (by kernel_rfl) (by decide)) ⟨rfl, trivial⟩ ?_
      refine ch_n rfl rfl (oc_store (y := .val _) (cs' := [_, _, _, _, _, _, _, _, _, _, _, _, _]) rfl rfl rfl (by kernel_rfl) (by kernel_rfl) cells_int (Nat.le_of_ble_eq_true rfl) rfl) ⟨rfl, trivial⟩ ?_
      refine ck_nil ?_
      refine aw_seq ?_
      refine aw_text rfl ?_
      refine ch_v (R := [(_, .live _ _)]) rfl rfl (oc_fieldAddr_own (off := 4) (sz := 1) (r := false) rfl rfl (by first | decide | simp) (by kernel_rfl) (by decide)) ⟨rfl, trivial⟩ ?_
      refine ch_v (R := [(_, .live _ _)]) rfl rfl (oc_load_own rfl rfl (by kernel_rfl) rfl) ⟨rfl, trivial⟩ ?_
      refine ch_u rfl rfl (oc_callFC [4] rfl (by kernel_rfl) (FC.m (clone_fc (liK xs 4) (by omega))) rfl (by simp) (by simp [bornH]) (by simp) (by simp) (InNL.of_pure _ (by simp only [PureL, Pure, and_self, bs_pure, pure_slI, pure_world, pure_tab, rdAv, vu, implies_true])) trivial (by simp [InN, InNL]) ⟨inNL_vi _, trivial⟩) ⟨rfl, trivial⟩ ?_
      refine ch_v (R := [(_, .live _ _)]) rfl rfl (oc_fieldAddr_own (off := 4) (sz := 1) (r := false) rfl rfl (by first | decide | simp) (by kernel_rfl) (by decide)) ⟨rfl, trivial⟩ ?_
      refine ch_n rfl rfl (oc_store (y := .osl _ _ _) (cs' := [_, _, _, _, _, _, _, _, _, _, _, _, _]) rfl rfl rfl (by kernel_rfl) (by kernel_rfl) cells_osl (Nat.le_of_ble_eq_true rfl) rfl) ⟨rfl, trivial⟩ ?_
      refine ck_nil ?_
      refine aw_seq ?_
      refine aw_seq ?_
      refine aw_text rfl ?_
      refine ch_v (R := [(_, .live _ _)]) rfl rfl (oc_fieldAddr_own (off := 4) (sz := 1) (r := false) rfl rfl (by first | decide | simp) (by kernel_rfl) (by decide)) ⟨rfl, trivial⟩ ?_
      refine ch_v (R := [(_, .live _ _)]) rfl rfl (oc_load_own rfl rfl (by kernel_rfl) rfl) ⟨rfl, trivial⟩ ?_
      refine ch_v (R := [(_, .live _ _)]) rfl rfl (oc_len_own rfl rfl (by kernel_rfl)) ⟨rfl, trivial⟩ ?_
      refine ch_v (R := []) rfl rfl (oc_move (x := .val _) rfl rfl) trivial ?_
      refine ck_nil ?_
      refine aw_block ?_
      refine aw_loop (ι := Nat) (fun k => ⟨[(2, .own 2 0), (4, .own 0 0), (6, .own 1 0), (63, .osl 1 4 (liK xs 4).length), (64, vi (liK xs 4).length), (65, vi k)], [(0, .live 34 (cellsC xs (.osl 1 4 (liK xs 4).length))), (1, .live 48 [bs xs, vi (rbK xs 3).1, vi (rbK xs 3).2]), (2, .live 34 (cellsK xs 0)), (4, .live 3 ((updF (liK xs 4) k).map vi))]⟩) (fun k => k ≤ (liK xs 4).length) (fun k => (liK xs 4).length - k) 0 (Nat.zero_le _) (Le.sub (by repeat (first | trivial | refine ⟨.inr rfl, ?_⟩ | refine ⟨.inr (vi_eq (by omega)), ?_⟩)) ⟨rfl, rfl, rfl, by rw [updF_zero]; rfl, trivial⟩) ?_
      intro k hI
      refine aw_seq ?_
      refine aw_text rfl ?_
      refine ch_v (R := []) rfl rfl (oc_binZ rfl rfl rfl rfl) trivial ?_
      refine ck_nil ?_
      refine aw_seq ?_
      refine aw_cond rfl (fun hb_ => ?_) (fun hb_ => ?_)
      · have hlt : k < (liK xs 4).length := by have h0 := of_decide_eq_true hb_; omega
        refine aw_skip ?_
        refine aw_seq ?_
        refine aw_block ?_
        refine aw_seq ?_
        refine aw_text rfl ?_
        refine ch_v (R := []) rfl rfl (oc_move (x := .val _) rfl rfl) trivial ?_
        refine ch_v (R := [(_, .live _ _)]) rfl rfl (oc_index_ownN rfl rfl rfl (by kernel_rfl) (by omega)) ⟨rfl, trivial⟩ ?_
        refine ch_v (R := [(_, .live _ _)]) rfl rfl (oc_load_own (cs := (updF (liK xs 4) k).map vi) rfl rfl (by kernel_rfl) (updF_at hlt)) ⟨rfl, trivial⟩ ?_
        refine ch_v (R := []) rfl rfl (oc_assign (x := .val _) rfl rfl) trivial ?_
        refine ch_v (R := []) rfl rfl (oc_assign (x := .val _) rfl rfl) trivial ?_
        refine ck_nil ?_
        refine aw_draw mixed ?_
        refine ch_v (R := [(_, .live _ _)]) rfl rfl (oc_fieldAddr_own (off := 4) (sz := 1) (r := false) rfl rfl (by first | decide | simp) (by kernel_rfl) (by decide)) ⟨rfl, trivial⟩ ?_
        refine ch_v (R := [(_, .live _ _)]) rfl rfl (oc_load_own rfl rfl (by kernel_rfl) rfl) ⟨rfl, trivial⟩ ?_
        refine ch_v (R := []) rfl rfl (oc_move (x := .val _) rfl rfl) trivial ?_
        refine ch_v (R := []) rfl rfl (oc_move (x := .val _) rfl rfl) trivial ?_
        refine ch_v (R := []) rfl rfl (oc_call rfl (by kernel_rfl) (low16_pc ((liK xs 4).getD k 0)) rfl (by simp only [PureL, Pure, and_self, bs_pure, pure_slI, pure_world, pure_tab, rdAv, vu, implies_true]) (by simp only [PureL, Pure, and_self, bs_pure, pure_slI, pure_world, pure_tab, rdAv, vu, implies_true])) trivial ?_
        refine ch_v (R := [(_, .live _ _)]) rfl rfl (oc_index_ownN rfl rfl rfl (by kernel_rfl) (by omega)) ⟨rfl, trivial⟩ ?_
        refine ch_n rfl rfl (oc_store (y := .val _) rfl rfl rfl (by kernel_rfl) (by kernel_rfl) cells_int (by rw [List.length_map, updF_len]; omega) rfl) ⟨rfl, trivial⟩ ?_
        refine ck_nil ⟨by kernel_rfl, ?_⟩
        refine aw_text rfl ?_
        refine ch_v (R := []) rfl rfl (oc_binZ rfl rfl rfl (by first | exact binW_add (by omega) (by omega) | rfl)) trivial ?_
        refine ch_v (R := []) rfl rfl (oc_move (x := .val _) rfl rfl) trivial ?_
        refine ck_nil ?_
        exact ⟨k + 1, by omega, by omega, Le.sub (by repeat (first | trivial | refine ⟨.inr rfl, ?_⟩ | refine ⟨.inr (vi_eq (by omega)), ?_⟩)) (by rw [← updF_set hlt]; exact ⟨rfl, rfl, rfl, rfl, trivial⟩)⟩
      · have hge : k = (liK xs 4).length := by have h0 := of_decide_eq_false hb_; omega
        refine aw_exit ?_
        refine aw_seq ?_
        rw [hge, updF_all]
        refine aw_le (Le.freezeCell 0 4 4 (fun j => vi (((liK xs 4).map (· % 65536)).getD j 0)) rfl rfl rfl (by decide) (by simp) (fun j hj => row_vi _ j (by simpa using hj))) ?_
        refine aw_draw mixed ?_
        refine ch_v (R := [(_, .live _ _)]) rfl rfl (oc_load_own_row (k := 13) (ds := [_, _, _, _, _, _, _, _, _, _, _, _, _]) rfl rfl (by kernel_rfl) (by kernel_rfl) rfl rfl (by decide)) ⟨rfl, trivial⟩ ?_
        refine ch_v (R := [(_, .live _ _)]) rfl rfl (oc_load_own_row (k := 3) (ds := [_, _, _]) rfl rfl (by kernel_rfl) (by kernel_rfl) rfl rfl (by decide)) ⟨rfl, trivial⟩ ?_
        refine ch_v (R := []) rfl rfl (oc_call rfl (by kernel_rfl) (end_pc xs (rbK xs 3)) rfl (by simp only [PureL, Pure, and_self, bs_pure, pure_slI, pure_world, pure_tab, rdAv, vu, implies_true]) (by simp only [PureL, Pure, and_self, bs_pure, pure_slI, pure_world, pure_tab, rdAv, vu, implies_true])) trivial ?_
        refine ch_n rfl rfl (oc_store_row (x := .agg _) (cs' := [_, _, _, _, _, _, _, _, _, _, _, _, _]) rfl rfl rfl rfl (by kernel_rfl) (by first | decide | exact Nat.le_of_ble_eq_true rfl | simp) (by first | decide | exact Nat.le_of_ble_eq_true rfl | simp) rfl) ⟨rfl, trivial⟩ ?_
        refine ch_v (R := []) rfl rfl (oc_assign (x := .val _) rfl rfl) trivial ?_
        refine ck_nil ⟨by kernel_rfl, ?_⟩
        refine aw_ret ?_
        exact ⟨.inl rfl, ResOk.two rfl ((ResC.row rfl rfl (by kernel_rfl) (by kernel_rfl) (Nat.le_of_ble_eq_true rfl)).to (read_to xs)) (ResC.tmp rfl), trivial⟩
end Go.Proofs.Ytjloemlnejndmaa
