/- Chapter 7: what a text costs, walked. -/
import Derived.Test.YtfbpbpapfkimfaaDoorBsp
import Derived.Test.YtfbpbpapfkimfaaDoorBt
import Derived.Test.YtfbpbpapfkimfaaDoorAlphaB
import Derived.Test.YtfbpbpapfkimfaaDoorProg
import Derived.KernelRfl
namespace Go.Proofs.YtfbpbpapfkimfaaDoor
open Go.RowKit
set_option maxRecDepth 100000
set_option linter.unusedVariables false
set_option linter.unusedSimpArgs false
theorem pc_byte {P : Program} {f : FuncId} {e : TypeId} {m : Int} {zs : List Int} (h : ∀ w, Calls P f #[.int .u8 m] w (RetOwn w e (cb .i64 zs))) : PC P f [.val (.int .u8 m)] (slI zs) := by
  intro E vs hG hA _ _ _
  unfold RepL RepL at hA
  obtain ⟨v, us, rfl, hv, rfl⟩ := hA
  unfold Rep at hv
  subst hv
  refine (h E.w).mono ?_
  rintro en w' ⟨B, n, cc, rfl, hown, hb⟩
  exact ⟨{ E with w := w' }, _, rfl, rfl, hG.grow hb, (Step.grow hG hb).kept (by simp), slI_of_own hG hown hb, fun n y hn => by simp [lkH] at hn⟩
theorem sort_pc (m : Int) (h0 : 0 ≤ m) (h1 : m < 256) : PC Tryd.prog 35 [.val (.int .u8 m)] (slI (aSort m)) := pc_byte fun w => sort_any m w h0 h1
theorem one_pc (m : Int) (h0 : 0 ≤ m) (h1 : m < 256) : PC Tryd.prog 34 [.val (.int .u8 m)] (slI (aOne m)) := pc_byte fun w => one_any m w h0 h1
/-- What the first bytes of a text cost. -/
def cst (s : ByteArray) : Nat → Int
  | 0 => 0
  | k + 1 => cst s k + ((aSort ((tB s).getD k 0)).length : Int)
theorem cst_succ (s : ByteArray) (k : Nat) : cst s (k + 1) = cst s k + ((aSort ((tB s).getD k 0)).length : Int) := rfl
def costS (s : ByteArray) : Int := cst s s.size
theorem cst_bd (s : ByteArray) : ∀ k, 0 ≤ cst s k ∧ cst s k ≤ 3 * k
  | 0 => by simp [cst]
  | k + 1 => by
    have := cst_bd s k
    have := aSort_len ((tB s).getD k 0)
    unfold cst
    omega
theorem byte_bd {s : ByteArray} {k : Nat} (h : k < s.size) : 0 ≤ (tB s).getD k 0 ∧ (tB s).getD k 0 < 256 := by
  have hl : k < (tB s).length := by rw [tB_len]; exact h
  rw [List.getD, List.getElem?_eq_getElem hl]
  have hm : (tB s)[k] ∈ tB s := List.getElem_mem hl
  generalize (tB s)[k] = x at hm
  unfold tB at hm
  rw [List.mem_map] at hm
  obtain ⟨b, _, e⟩ := hm
  have := b.toNat_lt
  show 0 ≤ x ∧ x < 256
  omega
set_option maxHeartbeats 800000 in
theorem cost_pc (s : ByteArray) (hs : s.size ≤ 100000000) : PC Tryd.prog 22 [vs s] (vi (costS s)) := by
  refine FC.body 6 19 Tryd.func22 rfl (by kernel_rfl) ?_
  refine aw_seq ?_
  refine aw_text rfl ?_
  refine ch_v (R := []) rfl rfl (oc_assign (x := .val _) rfl rfl) trivial ?_
  refine ck_nil ?_
  refine aw_seq ?_
  refine aw_text rfl ?_
  refine ch_v (R := []) rfl rfl (oc_assign (x := .val _) rfl rfl) trivial ?_
  refine ck_nil ?_
  refine aw_seq ?_
  refine aw_seq ?_
  refine aw_text rfl ?_
  refine ch_v (R := []) rfl rfl (oc_move (x := .val _) rfl rfl) trivial ?_
  refine ch_v (R := []) rfl rfl (oc_len_str rfl rfl (by kernel_rfl)) trivial ?_
  refine ch_v (R := []) rfl rfl (oc_move (x := .val _) rfl rfl) trivial ?_
  refine ck_nil ?_
  refine aw_block ?_
  refine aw_loop (ι := Nat) (fun k => ⟨[(0, vs s), (3, vi (cst s k)), (6, vi s.size), (7, vi k)], []⟩) (fun k => k ≤ s.size) (fun k => s.size - k) 0 (Nat.zero_le _) (Le.sub (by repeat (first | trivial | refine ⟨.inr rfl, ?_⟩ | refine ⟨.inr (vi_eq (by omega)), ?_⟩)) (by repeat (first | trivial | refine ⟨rfl, ?_⟩))) ?_
  intro k hI
  refine aw_seq ?_
  refine aw_text rfl ?_
  refine ch_v (R := []) rfl rfl (oc_binZ rfl rfl rfl rfl) trivial ?_
  refine ck_nil ?_
  refine aw_seq ?_
  refine aw_cond rfl (fun hb => ?_) (fun hb => ?_)
  · have hlt : k < s.size := by have h0 := of_decide_eq_true hb; omega
    have hb0 := byte_bd hlt
    have hc0 := cst_bd s k
    have hc1 := aSort_len ((tB s).getD k 0)
    refine aw_skip ?_
    refine aw_seq ?_
    refine aw_block ?_
    refine aw_seq ?_
    refine aw_text rfl ?_
    refine ch_v (R := []) rfl rfl (oc_move (x := .val _) rfl rfl) trivial ?_
    refine ch_v (R := []) rfl rfl (oc_assign (x := .val _) rfl rfl) trivial ?_
    refine ck_nil ?_
    refine aw_text rfl ?_
    refine ch_v (R := []) rfl rfl (oc_move (x := .val _) rfl rfl) trivial ?_
    refine ch_v (R := []) rfl rfl (oc_move (x := .val _) rfl rfl) trivial ?_
    refine ch_v (R := []) rfl rfl (oc_move (x := .val _) rfl rfl) trivial ?_
    refine ch_v (R := []) rfl rfl (oc_strIndex rfl rfl rfl (by kernel_rfl) (by omega) (by omega) rfl) trivial ?_
    refine ch_v (R := []) rfl rfl (oc_call rfl (by kernel_rfl) (sort_pc _ hb0.1 hb0.2) rfl (by simp only [PureL, Pure, and_self, pure_slI, pure_slS, implies_true]) (by simp only [PureL, Pure, and_self, pure_slI, pure_slS, implies_true])) trivial ?_
    refine ch_v (R := []) rfl rfl (oc_len rfl rfl (by kernel_rfl)) trivial ?_
    refine ch_v (R := []) rfl rfl (oc_binZ rfl rfl rfl (by first | exact binW_add (by omega) (by omega) | rfl)) trivial ?_
    refine ch_v (R := []) rfl rfl (oc_assign (x := .val _) rfl rfl) trivial ?_
    refine ck_nil ?_
    refine aw_text rfl ?_
    refine ch_v (R := []) rfl rfl (oc_binZ rfl rfl rfl (by first | exact binW_add (by omega) (by omega) | rfl)) trivial ?_
    refine ch_v (R := []) rfl rfl (oc_move (x := .val _) rfl rfl) trivial ?_
    refine ck_nil ?_
    exact ⟨k + 1, by omega, by omega, Le.sub (by repeat (first | trivial | refine ⟨.inr rfl, ?_⟩ | refine ⟨.inr (vi_eq (by omega)), ?_⟩)) (by repeat (first | trivial | refine ⟨rfl, ?_⟩))⟩
  · have hge : k = s.size := by have h0 := of_decide_eq_false hb; omega
    refine aw_exit ?_
    refine aw_seq ?_
    refine aw_text rfl ?_
    refine ch_v (R := []) rfl rfl (oc_move (x := .val _) rfl rfl) trivial ?_
    refine ch_v (R := []) rfl rfl (oc_assign (x := .val _) rfl rfl) trivial ?_
    refine ck_nil ?_
    refine aw_ret ?_
    exact ⟨.inl rfl, ResOk.tmp rfl (vi_eq (by rw [hge]; rfl)), trivial⟩
theorem text_cost : ∀ c : Fin 256, (if textC (c.val : Int) = true then (aOne (c.val : Int)).length else 0) = (aSort (c.val : Int)).length := by decide +kernel
theorem text_cost' {c : Int} (h0 : 0 ≤ c) (h1 : c < 256) : (if textC c = true then (aOne c).length else 0) = (aSort c).length := by
  have := text_cost ⟨c.toNat, by omega⟩
  have e : ((c.toNat : Nat) : Int) = c := by omega
  simp only [e] at this
  exact this
theorem one_text {s : ByteArray} {k : Nat} (h : k < s.size) : isTextS (s.extract (k : Int).toNat ((k : Int) + 1).toNat) = textC ((tB s).getD k 0) := by
  have e1 : (k : Int).toNat = k := by omega
  have e2 : ((k : Int) + 1).toNat = k + 1 := by omega
  have e3 : (s.extract k (k + 1)).size = 1 := by rw [← tB_len, tB_one s k h]; rfl
  rw [e1, e2]
  unfold isTextS
  rw [tB_one s k h, e3, tB_getD s k h]
  simp
theorem one_size {s : ByteArray} {k : Nat} (h : k < s.size) : (s.extract (k : Int).toNat ((k : Int) + 1).toNat).size ≤ 9223372036854775807 := by
  have e1 : (k : Int).toNat = k := by omega
  have e2 : ((k : Int) + 1).toNat = k + 1 := by omega
  have e3 : (s.extract k (k + 1)).size = 1 := by rw [← tB_len, tB_one s k h]; rfl
  rw [e1, e2, e3]
  decide
set_option maxHeartbeats 800000 in
theorem rcost_pc (s : ByteArray) (hs : s.size ≤ 100000000) : PC Tryd.prog 20 [vs s] (vi (costS s)) := by
  refine FC.body 6 25 Tryd.func20 rfl (by kernel_rfl) ?_
  refine aw_seq ?_
  refine aw_text rfl ?_
  refine ch_v (R := []) rfl rfl (oc_assign (x := .val _) rfl rfl) trivial ?_
  refine ck_nil ?_
  refine aw_seq ?_
  refine aw_text rfl ?_
  refine ch_v (R := []) rfl rfl (oc_assign (x := .val _) rfl rfl) trivial ?_
  refine ck_nil ?_
  refine aw_seq ?_
  refine aw_seq ?_
  refine aw_text rfl ?_
  refine ch_v (R := []) rfl rfl (oc_assign (x := .val _) rfl rfl) trivial ?_
  refine ck_nil ?_
  refine aw_block ?_
  refine aw_loop (ι := Nat) (fun k => ⟨[(0, vs s), (3, vi (cst s k)), (4, vi k)], []⟩) (fun k => k ≤ s.size) (fun k => s.size - k) 0 (Nat.zero_le _) (Le.sub (by repeat (first | trivial | refine ⟨.inr rfl, ?_⟩ | refine ⟨.inr (vi_eq (by omega)), ?_⟩)) (by repeat (first | trivial | refine ⟨rfl, ?_⟩))) ?_
  intro k hI
  refine aw_seq ?_
  refine aw_seq ?_
  refine aw_text rfl ?_
  refine ch_v (R := []) rfl rfl (oc_move (x := .val _) rfl rfl) trivial ?_
  refine ch_v (R := []) rfl rfl (oc_move (x := .val _) rfl rfl) trivial ?_
  refine ch_v (R := []) rfl rfl (oc_len_str rfl rfl (by kernel_rfl)) trivial ?_
  refine ch_v (R := []) rfl rfl (oc_binZ rfl rfl rfl rfl) trivial ?_
  refine ck_nil ?_
  refine aw_cond rfl (fun hb => ?_) (fun hb => ?_)
  · have hlt : k < s.size := by have h0 := of_decide_eq_true hb; omega
    have hb0 := byte_bd hlt
    have hc0 := cst_bd s k
    have hc1 := aOne_len ((tB s).getD k 0)
    have hc2 := text_cost' hb0.1 hb0.2
    have hot := one_text hlt
    refine aw_skip ?_
    refine aw_seq ?_
    refine aw_block ?_
    refine aw_seq ?_
    refine aw_text rfl ?_
    refine ch_v (R := []) rfl rfl (oc_move (x := .val _) rfl rfl) trivial ?_
    refine ch_v (R := []) rfl rfl (oc_move (x := .val _) rfl rfl) trivial ?_
    refine ch_v (R := []) rfl rfl (oc_move (x := .val _) rfl rfl) trivial ?_
    refine ch_v (R := []) rfl rfl (oc_binZ rfl rfl rfl (by first | exact binW_add (by omega) (by omega) | rfl)) trivial ?_
    refine ch_v (R := []) rfl rfl (oc_substr rfl rfl rfl rfl (by kernel_rfl) (by omega) (by omega) (by omega)) trivial ?_
    refine ch_v (R := []) rfl rfl (oc_call rfl (by kernel_rfl) (rIsText_pc _ (one_size hlt)) rfl (by simp only [PureL, Pure, and_self, pure_slI, pure_slS, implies_true]) (by simp only [PureL, Pure, and_self, pure_slI, pure_slS, implies_true])) trivial ?_
    refine ck_nil ?_
    refine aw_cond rfl (fun hb => ?_) (fun hb => ?_)
    · have hstep : cst s (k + 1) = cst s k + ((aOne ((tB s).getD k 0)).length : Int) := by rw [cst_succ, ← hc2, if_pos (hot ▸ hb)]
      refine aw_text rfl ?_
      refine ch_v (R := []) rfl rfl (oc_move (x := .val _) rfl rfl) trivial ?_
      refine ch_v (R := []) rfl rfl (oc_move (x := .val _) rfl rfl) trivial ?_
      refine ch_v (R := []) rfl rfl (oc_move (x := .val _) rfl rfl) trivial ?_
      refine ch_v (R := []) rfl rfl (oc_strIndex rfl rfl rfl (by kernel_rfl) (by omega) (by omega) rfl) trivial ?_
      refine ch_v (R := []) rfl rfl (oc_call rfl (by kernel_rfl) (one_pc _ hb0.1 hb0.2) rfl (by simp only [PureL, Pure, and_self, pure_slI, pure_slS, implies_true]) (by simp only [PureL, Pure, and_self, pure_slI, pure_slS, implies_true])) trivial ?_
      refine ch_v (R := []) rfl rfl (oc_len rfl rfl (by kernel_rfl)) trivial ?_
      refine ch_v (R := []) rfl rfl (oc_binZ rfl rfl rfl (by first | exact binW_add (by omega) (by omega) | rfl)) trivial ?_
      refine ch_v (R := []) rfl rfl (oc_assign (x := .val _) rfl rfl) trivial ?_
      refine ck_nil ?_
      refine aw_text rfl ?_
      refine ch_v (R := []) rfl rfl (oc_move (x := .val _) rfl rfl) trivial ?_
      refine ch_v (R := []) rfl rfl (oc_binZ rfl rfl rfl (by first | exact binW_add (by omega) (by omega) | rfl)) trivial ?_
      refine ch_v (R := []) rfl rfl (oc_assign (x := .val _) rfl rfl) trivial ?_
      refine ck_nil ?_
      exact ⟨k + 1, by omega, by omega, Le.sub (by repeat (first | trivial | refine ⟨.inr rfl, ?_⟩ | refine ⟨.inr (vi_eq (by omega)), ?_⟩)) (by repeat (first | trivial | refine ⟨rfl, ?_⟩))⟩
    · have hstep : cst s (k + 1) = cst s k := by
        have hb2 : textC ((tB s).getD k 0) = false := hot ▸ hb
        rw [cst_succ, ← hc2, if_neg (by rw [hb2]; decide)]
        omega
      refine aw_skip ?_
      refine aw_text rfl ?_
      refine ch_v (R := []) rfl rfl (oc_move (x := .val _) rfl rfl) trivial ?_
      refine ch_v (R := []) rfl rfl (oc_binZ rfl rfl rfl (by first | exact binW_add (by omega) (by omega) | rfl)) trivial ?_
      refine ch_v (R := []) rfl rfl (oc_assign (x := .val _) rfl rfl) trivial ?_
      refine ck_nil ?_
      exact ⟨k + 1, by omega, by omega, Le.sub (by repeat (first | trivial | refine ⟨.inr rfl, ?_⟩ | refine ⟨.inr (vi_eq (by omega)), ?_⟩)) (by repeat (first | trivial | refine ⟨rfl, ?_⟩))⟩
  · have hge : k = s.size := by have h0 := of_decide_eq_false hb; omega
    refine aw_exit ?_
    refine aw_seq ?_
    refine aw_text rfl ?_
    refine ch_v (R := []) rfl rfl (oc_move (x := .val _) rfl rfl) trivial ?_
    refine ch_v (R := []) rfl rfl (oc_assign (x := .val _) rfl rfl) trivial ?_
    refine ck_nil ?_
    refine aw_ret ?_
    exact ⟨.inl rfl, ResOk.tmp rfl (vi_eq (by rw [hge]; rfl)), trivial⟩
end Go.Proofs.YtfbpbpapfkimfaaDoor
