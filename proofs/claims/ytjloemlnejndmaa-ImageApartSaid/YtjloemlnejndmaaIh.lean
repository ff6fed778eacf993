/- Chapter 22: the document's Unpack, walked. -/
import Derived.Test.YtjloemlnejndmaaIg
import Derived.Test.YtjloemlnejndmaaVwH
import Derived.Test.YtjloemlnejndmaaVwV
import Derived.Test.YtjloemlnejndmaaProg
import Derived.KernelRfl
namespace Go.Proofs.Ytjloemlnejndmaa
open Go.RowKit
set_option maxRecDepth 100000
set_option linter.unusedVariables false
set_option linter.unusedSimpArgs false
theorem rtakeInts_pc (xs : List Int) (s : Int × Int) (hl : xs.length ≤ 1000000) (hb : Byt xs) : PC Try.prog 18 [rdAv xs s, vi 32767] (.tup [slI (tI xs s).1, rdAv xs (tI xs s).2]) := pc_takes (e := 3) fun A c w k1 k2 => rtakeInts_any A _ c s.1 s.2 32767 xs w k1 rfl k2 hl hb
theorem rtakeHuge_pc (xs : List Int) (s : Int × Int) (hl : xs.length ≤ 1000000) (hb : Byt xs) : PC Try.prog 19 [rdAv xs s] (.tup [vu (tN xs 8 s).1, rdAv xs (tN xs 8 s).2]) := pc_take fun A c w k1 k2 => rtakeHuge_any A _ c s.1 s.2 xs w k1 rfl (by omega) hb
theorem rtakeWord_pc (xs : List Int) (s : Int × Int) (hl : xs.length ≤ 1000000) (hb : Byt xs) : PC Try.prog 20 [rdAv xs s] (.tup [vi (wrap16 (tN xs 2 s).1), rdAv xs (tN xs 2 s).2]) := pc_take fun A c w k1 k2 => rtakeWord_any A _ c s.1 s.2 xs w k1 rfl (by omega) hb
theorem rtakeLong_pc (xs : List Int) (s : Int × Int) (hl : xs.length ≤ 1000000) (hb : Byt xs) : PC Try.prog 21 [rdAv xs s] (.tup [.val (.int .u32 (tN xs 4 s).1), rdAv xs (tN xs 4 s).2]) := pc_take fun A c w k1 k2 => rtakeLong_any A _ c s.1 s.2 xs w k1 rfl (by omega) hb
theorem rtakeByte_pc (xs : List Int) (s : Int × Int) (hl : xs.length ≤ 1000000) (hb : Byt xs) : PC Try.prog 22 [rdAv xs s] (.tup [vi (tN xs 1 s).1, rdAv xs (tN xs 1 s).2]) := pc_take fun A c w k1 k2 => rtakeByte_any A _ c s.1 s.2 xs w k1 rfl (by omega) hb
theorem rend_pc (xs : List Int) (s : Int × Int) : PC Try.prog 23 [rdAv xs s] (vi (sEnd xs.length s.1 s.2)) := pc_end fun A c w => rend_any A _ c s.1 s.2 w
theorem and16 (x : Int) : bits .and .i64 x 65535 = x % 65536 := by
  have h : ((BitVec.ofInt 64 x) &&& (BitVec.ofInt 64 65535)).toNat = (x % 65536).toNat := by
    rw [BitVec.toNat_and, BitVec.toNat_ofInt, BitVec.toNat_ofInt]
    have e : ((65535 : Int) % ((2 ^ 64 : Nat) : Int)).toNat = 2 ^ 16 - 1 := by decide
    rw [e, Nat.and_two_pow_sub_one_eq_mod]
    omega
  show IntKind.i64.wrap (((BitVec.ofInt 64 x) &&& (BitVec.ofInt 64 65535)).toNat : Int) = _
  rw [h, i64_in _ (by omega) (by omega)]
  omega
theorem app_one1 (c : Int) : ∀ j, j < 1 → szB (rowL [vi c] j) 1 = true ∧ ∀ i y, i < 1 → [vi c][j * 1 + i]? = some y → (flatA (rowL [vi c] j))[i]? = some y := fun j hj => by
  have : j = 0 := by omega
  subst this
  refine ⟨rfl, fun i y hi hy => ?_⟩
  have : i = 0 := by omega
  subst this
  exact hy
theorem up_step {l : List Int} {k : Nat} (h : k < l.length) : ((l.take (k + 1)).map (· % 65536)) = ((l.take k).map (· % 65536)) ++ [l.getD k 0 % 65536] := by
  rw [List.take_add_one, List.getElem?_eq_getElem h, Option.toList, List.map_append, List.getD, List.getElem?_eq_getElem h]
  rfl
theorem up_len {l : List Int} {k : Nat} (h : k ≤ l.length) : ((l.take k).map (· % 65536)).length = k := by simp; omega
set_option maxHeartbeats 800000 in
theorem up_pc (l : List Int) (hl : l.length ≤ 1000000) : PC Try.prog 24 [slI l] (slI (l.map (· % 65536))) := by
  refine FC.body 6 20 Try.func24 rfl (by kernel_rfl) ?_
  refine aw_seq ?_
  refine aw_text rfl ?_
  refine ch_v (R := []) rfl rfl (oc_assign (x := .val _) rfl rfl) trivial ?_
  refine ck_nil ?_
  refine aw_seq ?_
  refine aw_text rfl ?_
  refine ch_v (R := []) rfl rfl (oc_assign (x := .val _) rfl rfl) trivial ?_
  refine ck_nil ?_
  refine aw_seq ?_
  refine aw_seq ?_
  refine aw_text rfl ?_
  refine ch_v (R := []) rfl rfl (oc_assign (x := .val _) rfl rfl) trivial ?_
  refine ck_nil ?_
  refine aw_block ?_
  refine aw_le (Le.nameNil 3 0 1 3 rfl rfl) ?_
  refine aw_loop (ι := Nat) (fun k => ⟨[(0, slI l), (3, .osl 1 0 k), (4, vi k)], [(0, .live 3 (((l.take k).map (· % 65536)).map vi)), (1, .unborn)]⟩) (fun k => k ≤ l.length) (fun k => l.length - k) 0 (Nat.zero_le _) (Le.sub (by repeat (first | trivial | refine ⟨.inr rfl, ?_⟩ | refine ⟨.inr (vi_eq (by omega)), ?_⟩)) (by repeat (first | trivial | refine ⟨rfl, ?_⟩))) ?_
  intro k hI
  refine aw_seq ?_
  refine aw_seq ?_
  refine aw_text rfl ?_
  refine ch_v (R := []) rfl rfl (oc_move (x := .val _) rfl rfl) trivial ?_
  refine ch_v (R := []) rfl rfl (oc_move (x := .sl _ _ _) rfl rfl) trivial ?_
  refine ch_v (R := []) rfl rfl (oc_len rfl rfl (by kernel_rfl)) trivial ?_
  refine ch_v (R := []) rfl rfl (oc_binZ rfl rfl rfl rfl) trivial ?_
  refine ck_nil ?_
  refine aw_cond rfl (fun hb => ?_) (fun hb => ?_)
  · have hlt : k < l.length := by have h0 := of_decide_eq_true hb; omega
    refine aw_skip ?_
    refine aw_seq ?_
    refine aw_block ?_
    refine aw_text rfl ?_
    refine ch_v (R := []) rfl rfl (oc_move (x := .osl _ _ _) rfl rfl) trivial ?_
    refine ch_v (R := []) rfl rfl (oc_move (x := .sl _ _ _) rfl rfl) trivial ?_
    refine ch_v (R := []) rfl rfl (oc_move (x := .val _) rfl rfl) trivial ?_
    refine ch_v (R := []) rfl rfl ((by first | exact oc_indexN rfl rfl rfl (by kernel_rfl) (by omega) | exact oc_index rfl rfl rfl (by kernel_rfl) (by omega) (by omega) rfl)) trivial ?_
    refine ch_v (R := []) rfl rfl (oc_load rfl rfl (by kernel_rfl) cells_int) trivial ?_
    refine ch_v (R := []) rfl rfl (OC.cast (oc_bin rfl rfl rfl (fun _ => rfl) (fun _ => rfl)) (show Av.val (.int .i64 (bits .and .i64 (l.getD k 0) 65535)) = vi (l.getD k 0 % 65536) from by rw [and16])) trivial ?_
    refine ch_v (R := []) rfl rfl (oc_buildSlice (ps := [.tmp 16]) (xs := [.val _]) (e := 3) (k := 1) (by_ := 8) (zs := [.int .i64 0]) rfl (by kernel_rfl) (by kernel_rfl) rfl rfl rfl (by decide) (by decide)) trivial ?_
    refine ch_u rfl rfl (oc_append (e := 3) (k := 1) (by_ := 8) (zs := [.int .i64 0]) (cs := ((l.take k).map (· % 65536)).map vi) (ds := [vi (l.getD k 0 % 65536)]) 1 rfl rfl rfl (by kernel_rfl) (by kernel_rfl) rfl (by decide) (by decide) (by rw [List.length_map, up_len (by omega)]; omega) rfl (app_one1 _) (by omega) (by omega)) ⟨rfl, rfl, trivial⟩ ?_
    refine ch_v (R := []) rfl rfl (oc_assign (x := .osl _ _ _) rfl rfl) trivial ?_
    refine ck_nil ?_
    refine aw_text rfl ?_
    refine ch_v (R := []) rfl rfl (oc_move (x := .val _) rfl rfl) trivial ?_
    refine ch_v (R := []) rfl rfl (oc_binZ rfl rfl rfl (by first | exact binW_add (by omega) (by omega) | rfl)) trivial ?_
    refine ch_v (R := []) rfl rfl (oc_assign (x := .val _) rfl rfl) trivial ?_
    refine ck_nil ?_
    refine ⟨k + 1, by omega, by omega, Le.trans (Le.swap (τ := ⟨[(0, slI l), (3, .osl 1 0 (k + 1)), (4, vi ((k + 1 : Nat) : Int))], [(0, .live 3 (((l.take (k + 1)).map (· % 65536)).map vi))]⟩) 0 1 (by simp) (by simp) ⟨(ren_pure _ _ (pure_slI l)).symm, rfl, rfl, trivial⟩ (renH_cons (by rw [ren_vi, up_step hlt, List.map_append]; rfl) trivial)) (Le.reset [1] (by simp) (by repeat (first | trivial | refine ⟨.inr rfl, ?_⟩)) ⟨NoN.of_pure _ (pure_slI l), by simp [NoN], trivial, trivial⟩ (noH_live (by decide) rfl (non_vi _) (noH_unb (by decide) noH_nil)))⟩
  · have hge : k = l.length := by have h0 := of_decide_eq_false hb; omega
    refine aw_exit ?_
    refine aw_seq ?_
    refine aw_le (Le.freeze 3 0 (fun j => vi ((l.map (· % 65536)).getD j 0)) rfl rfl (by rw [List.length_map, up_len (by omega)]) (fun j hj => by rw [hge, List.take_length]; exact row_vi _ j (by rw [List.length_map]; omega))) ?_
    refine aw_text rfl ?_
    refine ch_v (R := []) rfl rfl (oc_move (x := .sl _ _ _) rfl rfl) trivial ?_
    refine ch_v (R := []) rfl rfl (oc_assign (x := .sl _ _ _) rfl rfl) trivial ?_
    refine ck_nil ?_
    refine aw_ret ?_
    exact ⟨.inl rfl, ResOk.tmp rfl (by unfold slI; rw [List.length_map, hge]; rfl), trivial⟩
end Go.Proofs.Ytjloemlnejndmaa
