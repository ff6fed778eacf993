/- The walks that copy rows and worlds. -/
import Derived.Test.YtjloemlnejndmaaYpl
import Derived.Test.YtjloemlnejndmaaProg
import Derived.KernelRfl
namespace Go.Proofs.Ytjloemlnejndmaa
open Go.RowKit
set_option maxRecDepth 100000
set_option linter.unusedVariables false
set_option linter.unusedSimpArgs false
set_option maxHeartbeats 800000 in
theorem clone_nil (c : Nat) : PC Try.prog 55 [.val (.slice none 0 c)] (slI []) := by
  refine FC.body 6 8 Try.func55 rfl (by kernel_rfl) ?_
  refine aw_seq ?_
  refine aw_text rfl ?_
  refine ch_v (R := []) rfl rfl (oc_assign (x := .val _) rfl rfl) trivial ?_
  refine ck_nil ?_
  refine aw_seq ?_
  refine aw_seq ?_
  refine aw_text rfl ?_
  refine ch_v (R := []) rfl rfl (oc_move (x := .val _) rfl rfl) trivial ?_
  refine ch_v (R := []) rfl rfl (oc_nil_eq (e := 3) rfl rfl rfl (by kernel_rfl)) trivial ?_
  refine ck_nil ?_
  refine aw_cond rfl (fun hb => ?_) (fun hb => ?_)
  · refine aw_seq ?_
    refine aw_text rfl ?_
    refine ch_v (R := []) rfl rfl (oc_assign (x := .val _) rfl rfl) trivial ?_
    refine ck_nil ?_
    refine aw_ret ?_
    exact ⟨.inl rfl, ResOk.to (ResOk.tmp rfl rfl) (rep_nil (by decide)), trivial⟩
  · exact absurd hb (by cases hb)
set_option maxHeartbeats 800000 in
theorem clone_nz (l : List Int) (hl : l.length ≤ 17592186044416) : PC Try.prog 55 [.nz (slI l)] (slI l) := by
  refine FC.body 6 8 Try.func55 rfl (by kernel_rfl) ?_
  refine aw_seq ?_
  refine aw_text rfl ?_
  refine ch_v (R := []) rfl rfl (oc_assign (x := .val _) rfl rfl) trivial ?_
  refine ck_nil ?_
  refine aw_seq ?_
  refine aw_seq ?_
  refine aw_text rfl ?_
  refine ch_v (R := []) rfl rfl (oc_move (x := .nz _) rfl rfl) trivial ?_
  refine ch_v (R := []) rfl rfl (oc_nz_eq (e := 3) rfl rfl rfl (by kernel_rfl)) trivial ?_
  refine ck_nil ?_
  refine aw_cond rfl (fun hb => ?_) (fun hb => ?_)
  · exact absurd hb (by cases hb)
  · refine aw_skip ?_
    refine aw_seq ?_
    refine aw_text rfl ?_
    refine ch_u rfl rfl (oc_buildSlice_own (ps := []) (xs := []) (e := 3) (by_ := 8) (zs := [.int .i64 0]) 0 rfl (by kernel_rfl) (by kernel_rfl) rfl rfl rfl rfl (by decide)) ⟨rfl, trivial⟩ ?_
    refine ch_v (R := []) rfl rfl (oc_move_nz rfl rfl) trivial ?_
    refine ch_u rfl rfl (oc_append (e := 3) (k := 1) (by_ := 8) (zs := [.int .i64 0]) (cs := []) (ds := l.map vi) 1 rfl rfl rfl (by kernel_rfl) (by kernel_rfl) rfl (by decide) (by decide) rfl (by simp) (row_one (fun j y hy => by rw [List.getElem?_map] at hy; cases h : l[j]? with | none => rw [h] at hy; cases hy | some z => rw [h] at hy; simp at hy; subst hy; simp [List.getD, h]) (fun j hj => ⟨rfl, rfl⟩)) (by omega) (by omega)) ⟨rfl, rfl, trivial⟩ ?_
    refine ch_v (R := []) rfl rfl (oc_assign (x := .osl _ _ _) rfl rfl) trivial ?_
    refine ck_nil ?_
    refine aw_le (Le.freeze 2 1 (len := 0 + l.length) (fun j => vi (l.getD j 0)) rfl rfl (by simp) (fun j hj => ⟨by simp at hj ⊢; simp [hj], rfl⟩)) ?_
    refine aw_ret ?_
    exact ⟨.inl rfl, ResOk.tmp rfl (by show Av.sl 1 (0 + l.length) _ = _; rw [Nat.zero_add]; rfl), trivial⟩
theorem clone_pc (l : List Int) (hl : l.length ≤ 17592186044416) : PC Try.prog 55 [slI l] (slI l) :=
  PC.nil_or (fun h c => by rw [List.eq_nil_of_length_eq_zero h]; exact clone_nil c) (clone_nz l hl)
def worldCells (w : WorldP) : List Av := [slI w.globals, slI w.parent, slI w.child, slI w.next, slI w.flags, slI w.props, slI w.timers, vu w.seed, vi w.score, vi w.turns, vi w.over, vi w.it, vi w.go]
theorem world_at (w : WorldP) {k : Nat} (h : k < 7) : (worldCells w)[k]? = some (slI (w.row k)) := by
  rcases k with _ | _ | _ | _ | _ | _ | _ | k <;> first | rfl | omega
end Go.Proofs.Ytjloemlnejndmaa
