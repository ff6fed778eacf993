/- Chapter 7: Choose, walked. -/
import Derived.Test.YtfbpbpapfkimfaaDoorBh
import Derived.Test.YtfbpbpapfkimfaaDoorProg
import Derived.KernelRfl
namespace Go.Proofs.YtfbpbpapfkimfaaDoor
open Go.RowKit
set_option maxRecDepth 100000
set_option linter.unusedVariables false
set_option linter.unusedSimpArgs false
theorem wt_take {l : List ByteArray} {k b : Nat} (h : wt l ≤ b) : wt (l.take k) ≤ b := by
  have e := List.take_append_drop k l
  have := wt_append (l.take k) (l.drop k)
  rw [e] at this
  omega
abbrev ChSt := List ByteArray × List ByteArray
theorem ren_vs (π : Nat → Nat) (l : List ByteArray) : (l.map vs).map (Av.ren π) = l.map vs := by
  rw [List.map_map]
  exact List.map_congr_left fun x _ => by simp [Av.ren]
theorem non_vs {Z : List Nat} (l : List ByteArray) : ∀ z ∈ l.map vs, NoN Z z := fun z hz => by
  obtain ⟨u, _, rfl⟩ := List.mem_map.1 hz
  simp [NoN]
theorem pure_rowAv (r : RowP) : Pure (rowAv r) := by simp [rowAv, Pure, PureL]
set_option maxHeartbeats 800000 in
theorem choose_pc (l : List ByteArray) (hl : wt l ≤ 10000) (upto : Int) : PC Tryd.prog 12 [slS l, vi upto] (slS (chooseP l upto)) := by
  refine FC.body 5 42 Tryd.func12 rfl (by kernel_rfl) ?_
  refine aw_seq ?_
  refine aw_text rfl ?_
  refine ch_v (R := []) rfl rfl (oc_assign (x := .val _) rfl rfl) trivial ?_
  refine ck_nil ?_
  refine aw_seq ?_
  refine aw_text rfl ?_
  refine ch_v (R := []) rfl rfl (oc_assign (x := .val _) rfl rfl) trivial ?_
  refine ck_nil ?_
  refine aw_seq ?_
  refine aw_text rfl ?_
  refine ch_v (R := []) rfl rfl (oc_move (x := .sl _ _ _) rfl rfl) trivial ?_
  refine ch_v (R := []) rfl rfl (oc_assign (x := .sl _ _ _) rfl rfl) trivial ?_
  refine ck_nil ?_
  refine aw_seq ?_
  refine aw_block ?_
  refine aw_le (Le.nameNil 5 0 1 9 rfl rfl) ?_
  refine aw_loop (ι := ChSt) (fun q => ⟨[(1, vi upto), (5, .osl 1 0 q.1.length), (6, slS q.2)], [(0, .live 9 (q.1.map vs)), (1, .unborn), (2, .unborn), (3, .unborn), (4, .unborn)]⟩) (fun q => chooseP l upto = chF upto (33 - q.1.length) q.1 q.2 ∧ q.1.length ≤ 32 ∧ wt q.2 ≤ 10000) (fun q => 33 - q.1.length) ([], l) (⟨rfl, Nat.zero_le _, hl⟩) (Le.sub (by repeat (first | trivial | refine ⟨.inr rfl, ?_⟩ | refine ⟨.inr (vi_eq (by omega)), ?_⟩)) (by repeat (first | trivial | refine ⟨rfl, ?_⟩))) ?_
  intro q hI
  refine aw_seq ?_
  refine aw_seq ?_
  refine aw_text rfl ?_
  refine ch_v (R := []) rfl rfl (oc_move (x := .osl _ _ _) rfl rfl) trivial ?_
  refine ch_v (R := [(_, .live _ _)]) rfl rfl (oc_len_own rfl rfl (by kernel_rfl)) ⟨rfl, trivial⟩ ?_
  refine ch_v (R := []) rfl rfl (oc_move (x := .val _) rfl rfl) trivial ?_
  refine ch_v (R := []) rfl rfl (oc_min rfl rfl rfl) trivial ?_
  refine ch_v (R := []) rfl rfl (oc_binZ rfl rfl rfl rfl) trivial ?_
  refine ck_nil ?_
  refine aw_cond rfl (fun hb => ?_) (fun hb => ?_)
  · have hlt : (q.1.length : Int) < min upto 32 := of_decide_eq_true hb
    have hfw := few_wt hI.2.2
    have hwt := hI.2.2
    have hll := hfw.len
    have hbo := bestL_ok hfw
    have hul : q.1.length < 32 := by omega
    refine aw_skip ?_
    refine aw_block ?_
    refine aw_seq ?_
    refine aw_text rfl ?_
    refine ch_v (R := []) rfl rfl (oc_move (x := .sl _ _ _) rfl rfl) trivial ?_
    refine ch_v (R := []) rfl rfl (oc_call rfl (by kernel_rfl) (best_pc q.2 (few_wt hI.2.2)) rfl (by simp only [PureL, Pure, and_self, pure_slI, pure_slS, rowAv, pieces_pure, implies_true]) (by simp only [PureL, Pure, and_self, pure_slI, pure_slS, rowAv, pieces_pure, implies_true])) trivial ?_
    refine ch_u rfl rfl (oc_alloc (zs := [.string ⟨#[]⟩, .int .i64 0]) (cs := [.val _, .val _]) 1 rfl (by kernel_rfl) rfl rfl) ⟨rfl, trivial⟩ ?_
    refine ch_n rfl rfl (oc_store_row (x := .agg _) (cs' := [_, _]) rfl rfl rfl rfl (by kernel_rfl) (by first | decide | exact Nat.le_of_ble_eq_true rfl | simp) (by first | decide | exact Nat.le_of_ble_eq_true rfl | simp) rfl) ⟨rfl, trivial⟩ ?_
    refine ck_nil ?_
    refine aw_seq ?_
    refine aw_seq ?_
    refine aw_text rfl ?_
    refine ch_v (R := [(_, .live _ _)]) rfl rfl (oc_fieldAddr_own (off := 1) (sz := 1) (r := false) rfl rfl (by first | decide | simp) (by kernel_rfl) (by decide)) ⟨rfl, trivial⟩ ?_
    refine ch_v (R := [(_, .live _ _)]) rfl rfl (oc_load_own rfl rfl (by kernel_rfl) rfl) ⟨rfl, trivial⟩ ?_
    refine ch_v (R := []) rfl rfl (oc_binZ rfl rfl rfl rfl) trivial ?_
    refine ck_nil ?_
    refine aw_cond rfl (fun hb => ?_) (fun hb => ?_)
    · have hle : (bestL q.2).2 ≤ 0 := of_decide_eq_true hb
      have hfin : chooseP l upto = q.1 := by rw [hI.1, show 33 - q.1.length = (32 - q.1.length) + 1 from by omega]; show (if _ then _ else _) = _; rw [if_pos hlt, if_pos hle]
      refine aw_exit ?_
      refine aw_seq ?_
      refine aw_le (Le.freeze 5 0 (fun j => vs (q.1.getD j ByteArray.empty)) rfl rfl (by simp) (row_vs _)) ?_
      refine aw_text rfl ?_
      refine ch_v (R := []) rfl rfl (oc_move (x := .sl _ _ _) rfl rfl) trivial ?_
      refine ch_v (R := []) rfl rfl (oc_assign (x := .sl _ _ _) rfl rfl) trivial ?_
      refine ck_nil ?_
      refine aw_ret ?_
      exact ⟨.inl rfl, ResOk.tmp rfl (by rw [hfin]; rfl), trivial⟩
    · have hle : ¬ (bestL q.2).2 ≤ 0 := of_decide_eq_false hb
      have hx2 := hbo.2 (by omega)
      have hch : chooseP l upto = chF upto (33 - (q.1 ++ [(bestL q.2).1]).length) (q.1 ++ [(bestL q.2).1]) (splA q.2 (bestL q.2).1 q.2.length) := by rw [hI.1, show 33 - q.1.length = (32 - q.1.length) + 1 from by omega]; show (if _ then _ else _) = _; rw [if_pos hlt, if_neg hle]; congr 1; (first | (simp; done) | (simp; omega))
      refine aw_skip ?_
      refine aw_seq ?_
      refine aw_text rfl ?_
      refine ch_v (R := []) rfl rfl (oc_move (x := .osl _ _ _) rfl rfl) trivial ?_
      refine ch_v (R := [(_, .live _ _)]) rfl rfl (oc_fieldAddr_own (off := 0) (sz := 1) (r := false) rfl rfl (by first | decide | simp) (by kernel_rfl) (by decide)) ⟨rfl, trivial⟩ ?_
      refine ch_v (R := [(_, .live _ _)]) rfl rfl (oc_load_own rfl rfl (by kernel_rfl) rfl) ⟨rfl, trivial⟩ ?_
      refine ch_v (R := []) rfl rfl (oc_buildSlice (ps := [.tmp 24]) (xs := [.val _]) (e := 9) (k := 1) (by_ := 16) (zs := [.string ⟨#[]⟩]) rfl (by kernel_rfl) (by kernel_rfl) rfl rfl rfl (by decide) (by decide)) trivial ?_
      refine ch_u rfl rfl (oc_append (e := 9) (k := 1) (by_ := 16) (zs := [.string ⟨#[]⟩]) (cs := q.1.map vs) (ds := [vs (bestL q.2).1]) 3 rfl rfl rfl (by kernel_rfl) (by kernel_rfl) rfl (by decide) (by decide) (by simp) rfl (app_vs1 _) (by omega) (by omega)) ⟨rfl, rfl, trivial⟩ ?_
      refine ch_v (R := []) rfl rfl (oc_assign (x := .osl _ _ _) rfl rfl) trivial ?_
      refine ck_nil ?_
      refine aw_le (Le.trans (Le.swap (τ := ⟨[(1, vi upto), (5, .osl 1 0 (q.1.length + 1)), (6, slS q.2), (7, .own 1 0)], [(0, .live 9 ((q.1 ++ [(bestL q.2).1]).map vs)), (1, .live 42 [vs (bestL q.2).1, vi (bestL q.2).2]), (2, .unborn), (3, .dead), (4, .unborn)]⟩) 0 3 (by simp) (by simp) ⟨rfl, rfl, (ren_pure _ _ (pure_slS _)).symm, rfl, trivial⟩ ⟨by show lkH _ 3 = some (Hs.live _ (((q.1 ++ [(bestL q.2).1]).map vs).map _)); rw [ren_vs, List.map_append] <;> rfl, rfl, rfl, rfl, rfl, trivial⟩) (Le.reset (τ := ⟨[(1, vi upto), (5, .osl 1 0 (q.1.length + 1)), (6, slS q.2), (7, .own 1 0)], [(0, .live 9 ((q.1 ++ [(bestL q.2).1]).map vs)), (1, .live 42 [vs (bestL q.2).1, vi (bestL q.2).2]), (2, .unborn), (3, .unborn), (4, .unborn)]⟩) [3] (by simp) (by repeat (first | trivial | refine ⟨.inr rfl, ?_⟩)) ⟨by simp [NoN], by simp [NoN], NoN.of_pure _ (pure_slS _), by simp [NoN], trivial⟩ ⟨by rw [if_neg (by decide)]; exact ⟨rfl, non_vs _⟩, by rw [if_neg (by decide)]; exact ⟨rfl, by simp [NoN]⟩, by rw [if_neg (by decide)]; exact ⟨rfl, trivial⟩, by rw [if_pos (by decide)], by rw [if_neg (by decide)]; exact ⟨rfl, trivial⟩, trivial⟩)) ?_
      refine aw_seq ?_
      refine aw_text rfl ?_
      refine ch_v (R := []) rfl rfl (oc_assign (x := .val _) rfl rfl) trivial ?_
      refine ck_nil ?_
      refine aw_seq ?_
      refine aw_seq ?_
      refine aw_text rfl ?_
      refine ch_v (R := []) rfl rfl (oc_move (x := .sl _ _ _) rfl rfl) trivial ?_
      refine ch_v (R := []) rfl rfl (oc_len rfl rfl (by kernel_rfl)) trivial ?_
      refine ch_v (R := []) rfl rfl (oc_move (x := .val _) rfl rfl) trivial ?_
      refine ck_nil ?_
      refine aw_block ?_
      refine aw_le (Le.nameNil 8 2 1 9 rfl rfl) ?_
      refine aw_loop (ι := Nat) (fun k => ⟨[(1, vi upto), (5, .osl 1 0 (q.1.length + 1)), (7, .own 1 0), (8, .osl 1 2 (splA q.2 (bestL q.2).1 k).length), (27, slS q.2), (28, vi q.2.length), (29, vi k)], [(0, .live 9 ((q.1 ++ [(bestL q.2).1]).map vs)), (1, .live 42 [vs (bestL q.2).1, vi (bestL q.2).2]), (2, .live 9 ((splA q.2 (bestL q.2).1 k).map vs)), (3, .unborn), (4, .unborn)]⟩) (fun k => k ≤ q.2.length) (fun k => q.2.length - k) 0 (Nat.zero_le _) (Le.sub (by repeat (first | trivial | refine ⟨.inr rfl, ?_⟩ | refine ⟨.inr (vi_eq (by omega)), ?_⟩)) (by repeat (first | trivial | refine ⟨rfl, ?_⟩))) ?_
      intro k hI
      refine aw_seq ?_
      refine aw_text rfl ?_
      refine ch_v (R := []) rfl rfl (oc_binZ rfl rfl rfl rfl) trivial ?_
      refine ck_nil ?_
      refine aw_seq ?_
      refine aw_cond rfl (fun hb => ?_) (fun hb => ?_)
      · have hk : k < q.2.length := by have h0 := of_decide_eq_true hb; omega
        have hs1 : (splA q.2 (bestL q.2).1 (k + 1)) = (splA q.2 (bestL q.2).1 k) ++ splitP (q.2.getD k ByteArray.empty) (bestL q.2).1 := rfl
        have hm1 : ((splA q.2 (bestL q.2).1 k) ++ splitP (q.2.getD k ByteArray.empty) (bestL q.2).1).map vs = (splA q.2 (bestL q.2).1 k).map vs ++ (splitP (q.2.getD k ByteArray.empty) (bestL q.2).1).map vs := List.map_append
        have hl1 : (splA q.2 (bestL q.2).1 (k + 1)).length = (splA q.2 (bestL q.2).1 k).length + (splitP (q.2.getD k ByteArray.empty) (bestL q.2).1).length := by rw [hs1, List.length_append]
        have hsz := wt_size q.2 k
        have hwl := wt_splA (r := (bestL q.2).1) (by omega) q.2 k (by omega)
        have hws := wt_split (r := (bestL q.2).1) (by omega) (Lib.countB (q.2.getD k ByteArray.empty) (bestL q.2).1) (q.2.getD k ByteArray.empty)
        have hln := wt_len (splA q.2 (bestL q.2).1 k)
        have hln2 := wt_len (splitP (q.2.getD k ByteArray.empty) (bestL q.2).1)
        have hszk : (q.2.getD k ByteArray.empty).size ≤ wt q.2 := hsz
        have htk : wt (q.2.take k) ≤ 10000 := wt_take hwt
        have hsp : wt (splitP (q.2.getD k ByteArray.empty) (bestL q.2).1) ≤ (q.2.getD k ByteArray.empty).size + 1 := hws
        refine aw_skip ?_
        refine aw_seq ?_
        refine aw_block ?_
        refine aw_seq ?_
        refine aw_text rfl ?_
        refine ch_v (R := []) rfl rfl ((by first | exact oc_indexN rfl rfl rfl (by kernel_rfl) (by omega) | exact oc_index rfl rfl rfl (by kernel_rfl) (by omega) (by omega) rfl)) trivial ?_
        refine ch_v (R := []) rfl rfl (oc_load rfl rfl (by kernel_rfl) cells_str) trivial ?_
        refine ch_v (R := []) rfl rfl (oc_assign (x := .val _) rfl rfl) trivial ?_
        refine ck_nil ?_
        refine aw_text rfl ?_
        refine ch_v (R := []) rfl rfl (oc_move (x := .osl _ _ _) rfl rfl) trivial ?_
        refine ch_v (R := []) rfl rfl (oc_move (x := .val _) rfl rfl) trivial ?_
        refine ch_v (R := [(_, .live _ _)]) rfl rfl (oc_fieldAddr_own (off := 0) (sz := 1) (r := false) rfl rfl (by first | decide | simp) (by kernel_rfl) (by decide)) ⟨rfl, trivial⟩ ?_
        refine ch_v (R := [(_, .live _ _)]) rfl rfl (oc_load_own rfl rfl (by kernel_rfl) rfl) ⟨rfl, trivial⟩ ?_
        refine ch_v (R := []) rfl rfl (oc_call rfl (by kernel_rfl) (split_pc _ _ (by omega) (by omega)) rfl (by simp only [PureL, Pure, and_self, pure_slI, pure_slS, rowAv, pieces_pure, implies_true]) (by simp only [PureL, Pure, and_self, pure_slI, pure_slS, rowAv, pieces_pure, implies_true])) trivial ?_
        refine ch_u rfl rfl (oc_append (e := 9) (k := 1) (by_ := 16) (zs := [.string ⟨#[]⟩]) (cs := (splA q.2 (bestL q.2).1 k).map vs) (ds := (splitP (q.2.getD k ByteArray.empty) (bestL q.2).1).map vs) 4 rfl rfl rfl (by kernel_rfl) (by kernel_rfl) rfl (by decide) (by decide) (by simp) (by simp) (app_vs _) (by omega) (by omega)) ⟨rfl, rfl, trivial⟩ ?_
        refine ch_v (R := []) rfl rfl (oc_assign (x := .osl _ _ _) rfl rfl) trivial ?_
        refine ck_nil ?_
        refine aw_le (Le.trans (Le.swap (τ := ⟨[(1, vi upto), (5, .osl 1 0 (q.1.length + 1)), (7, .own 1 0), (8, .osl 1 2 (splA q.2 (bestL q.2).1 (k + 1)).length), (27, slS q.2), (28, vi q.2.length), (29, vi k)], [(0, .live 9 ((q.1 ++ [(bestL q.2).1]).map vs)), (1, .live 42 [vs (bestL q.2).1, vi (bestL q.2).2]), (2, .live 9 ((splA q.2 (bestL q.2).1 (k + 1)).map vs)), (3, .unborn), (4, .dead)]⟩) 2 4 (by simp) (by simp) ⟨rfl, rfl, rfl, by rw [hl1]; rfl, (ren_pure _ _ (pure_slS _)).symm, rfl, rfl, trivial⟩ ⟨by show lkH _ 0 = some (Hs.live _ (((q.1 ++ [(bestL q.2).1]).map vs).map _)); rw [ren_vs]; rfl, rfl, by show lkH _ 4 = some (Hs.live _ (((splA q.2 (bestL q.2).1 (k + 1)).map vs).map _)); rw [ren_vs, hs1, hm1]; rfl, rfl, rfl, trivial⟩) (Le.reset (τ := ⟨[(1, vi upto), (5, .osl 1 0 (q.1.length + 1)), (7, .own 1 0), (8, .osl 1 2 (splA q.2 (bestL q.2).1 (k + 1)).length), (27, slS q.2), (28, vi q.2.length), (29, vi k)], [(0, .live 9 ((q.1 ++ [(bestL q.2).1]).map vs)), (1, .live 42 [vs (bestL q.2).1, vi (bestL q.2).2]), (2, .live 9 ((splA q.2 (bestL q.2).1 (k + 1)).map vs)), (3, .unborn), (4, .unborn)]⟩) [4] (by simp) (by repeat (first | trivial | refine ⟨.inr rfl, ?_⟩)) ⟨by simp [NoN], by simp [NoN], by simp [NoN], by simp [NoN], NoN.of_pure _ (pure_slS _), by simp [NoN], by simp [NoN], trivial⟩ ⟨by rw [if_neg (by decide)]; exact ⟨rfl, non_vs _⟩, by rw [if_neg (by decide)]; exact ⟨rfl, by simp [NoN]⟩, by rw [if_neg (by decide)]; exact ⟨rfl, non_vs _⟩, by rw [if_neg (by decide)]; exact ⟨rfl, trivial⟩, by rw [if_pos (by decide)], trivial⟩)) ?_
        refine aw_text rfl ?_
        refine ch_v (R := []) rfl rfl (oc_binZ rfl rfl rfl (by first | exact binW_add (by omega) (by omega) | rfl)) trivial ?_
        refine ch_v (R := []) rfl rfl (oc_move (x := .val _) rfl rfl) trivial ?_
        refine ck_nil ?_
        exact ⟨k + 1, by omega, by omega, Le.sub (by repeat (first | trivial | refine ⟨.inr rfl, ?_⟩ | refine ⟨.inr (vi_eq (by omega)), ?_⟩)) ⟨rfl, rfl, rfl, rfl, rfl, trivial⟩⟩
      · have hke : k = q.2.length := by have h0 := of_decide_eq_false hb; omega
        subst hke
        refine aw_exit ?_
        refine aw_le (Le.freeze 8 2 (fun j => vs ((splA q.2 (bestL q.2).1 q.2.length).getD j ByteArray.empty)) rfl rfl (by simp) (row_vs _)) ?_
        refine aw_text rfl ?_
        refine ch_v (R := []) rfl rfl (oc_move (x := .sl _ _ _) rfl rfl) trivial ?_
        refine ch_v (R := []) rfl rfl (oc_assign (x := .sl _ _ _) rfl rfl) trivial ?_
        refine ck_nil ?_
        exact ⟨(q.1 ++ [(bestL q.2).1], splA q.2 (bestL q.2).1 q.2.length), ⟨hch, by simp; omega, by have h9 := wt_spl (r := (bestL q.2).1) (by omega) q.2; show wt (splA _ _ _) ≤ _; omega⟩, by simp; omega, Le.reset [1, 2] (by simp) (by repeat (first | trivial | refine ⟨.inr rfl, ?_⟩ | refine ⟨.inr (by show lkS _ 5 = Av.osl 1 0 (q.1 ++ [(bestL q.2).1]).length; rw [List.length_append]; rfl), ?_⟩)) ⟨by simp [NoN], by simp [NoN], NoN.of_pure _ (pure_slS _), trivial⟩ ⟨by rw [if_neg (by decide)]; exact ⟨rfl, by intro z hz; obtain ⟨u, _, rfl⟩ := List.mem_map.1 hz; simp [NoN]⟩, by rw [if_pos (by decide)], by rw [if_pos (by decide)], by rw [if_neg (by decide)]; exact ⟨rfl, trivial⟩, by rw [if_neg (by decide)]; exact ⟨rfl, trivial⟩, trivial⟩⟩
  · have hge : ¬ (q.1.length : Int) < min upto 32 := of_decide_eq_false hb
    have hfin : chooseP l upto = q.1 := by rw [hI.1]; cases 33 - q.1.length <;> simp [chF, hge]
    refine aw_exit ?_
    refine aw_seq ?_
    refine aw_le (Le.freeze 5 0 (fun j => vs (q.1.getD j ByteArray.empty)) rfl rfl (by simp) (row_vs _)) ?_
    refine aw_text rfl ?_
    refine ch_v (R := []) rfl rfl (oc_move (x := .sl _ _ _) rfl rfl) trivial ?_
    refine ch_v (R := []) rfl rfl (oc_assign (x := .sl _ _ _) rfl rfl) trivial ?_
    refine ck_nil ?_
    refine aw_ret ?_
    exact ⟨.inl rfl, ResOk.tmp rfl (by rw [hfin]; rfl), trivial⟩
end Go.Proofs.YtfbpbpapfkimfaaDoor
