/- Chapter 7: the document's Without, walked. -/
import Derived.Test.YtfbpbpapfkimfaaDoorBk
import Derived.Test.YtfbpbpapfkimfaaDoorProg
import Derived.KernelRfl
namespace Go.Proofs.YtfbpbpapfkimfaaDoor
open Go.RowKit
set_option maxRecDepth 100000
set_option linter.unusedVariables false
set_option linter.unusedSimpArgs false
def woF (p r : ByteArray) : Nat → Nat → Nat → List ByteArray → List ByteArray
  | 0, _, fr, out => out ++ [p.extract fr p.size]
  | f + 1, i, fr, out => if i + r.size ≤ p.size then (if p.extract i (i + r.size) = r then woF p r f (i + r.size) (i + r.size) (out ++ [p.extract fr i]) else woF p r f (i + 1) fr out) else out ++ [p.extract fr p.size]
theorem woF_over {p r : ByteArray} {f i fr : Nat} {out : List ByteArray} (h : ¬ i + r.size ≤ p.size) : woF p r f i fr out = out ++ [p.extract fr p.size] := by
  cases f with
  | zero => rfl
  | succ f => unfold woF; rw [if_neg h]
theorem woF_more {p r : ByteArray} (hr : 0 < r.size) : ∀ {f f' i fr : Nat} {out : List ByteArray}, p.size < f + i → p.size < f' + i → woF p r f i fr out = woF p r f' i fr out
  | 0, f', i, fr, out, h, h' => by rw [woF_over (by omega), woF_over (by omega)]
  | f + 1, 0, i, fr, out, h, h' => by rw [woF_over (by omega), woF_over (by omega)]
  | f + 1, f' + 1, i, fr, out, h, h' => by
    unfold woF
    split
    · split
      · exact woF_more hr (by omega) (by omega)
      · exact woF_more hr (by omega) (by omega)
    · rfl
theorem woF_len (p r : ByteArray) : ∀ (f i fr : Nat) (out : List ByteArray), (woF p r f i fr out).length ≤ out.length + f + 1
  | 0, i, fr, out => by simp [woF]
  | f + 1, i, fr, out => by
    unfold woF
    split
    · split
      · have := woF_len p r f (i + r.size) (i + r.size) (out ++ [p.extract fr i]); simp at this; omega
      · have := woF_len p r f (i + 1) fr out; omega
    · first | (simp; done) | (simp; omega)
def woA (l : List ByteArray) (r : ByteArray) : Nat → List ByteArray
  | 0 => []
  | k + 1 => woF (l.getD k ByteArray.empty) r ((l.getD k ByteArray.empty).size + 1) 0 0 (woA l r k)
theorem woA_len {l : List ByteArray} (h : FewT l) (r : ByteArray) : ∀ k, (woA l r k).length ≤ 10002 * k
  | 0 => by simp [woA]
  | k + 1 => by
    have h1 := woA_len h r k
    have h2 : (l.getD k ByteArray.empty).size ≤ 10000 := h.size k
    have h3 := woF_len (l.getD k ByteArray.empty) r ((l.getD k ByteArray.empty).size + 1) 0 0 (woA l r k)
    unfold woA
    omega
abbrev WoSt := Nat × Nat × List ByteArray
set_option maxHeartbeats 800000 in
theorem without_pc (l : List ByteArray) (hl : FewT l) (r : ByteArray) (hr : 0 < r.size) (hr2 : r.size ≤ 10000) : PC Tryd.prog 26 [slS l, vs r] (slS (woA l r l.length)) := by
  refine FC.body 2 54 Tryd.func26 rfl (by kernel_rfl) ?_
  refine aw_seq ?_
  refine aw_text rfl ?_
  refine ch_v (R := []) rfl rfl (oc_assign (x := .val _) rfl rfl) trivial ?_
  refine ck_nil ?_
  refine aw_seq ?_
  refine aw_text rfl ?_
  refine ch_v (R := []) rfl rfl (oc_assign (x := .val _) rfl rfl) trivial ?_
  refine ck_nil ?_
  refine aw_seq ?_
  refine aw_seq ?_
  refine aw_text rfl ?_
  refine ch_v (R := []) rfl rfl (oc_move (x := .sl _ _ _) rfl rfl) trivial ?_
  refine ch_v (R := []) rfl rfl (oc_len rfl rfl (by kernel_rfl)) trivial ?_
  refine ch_v (R := []) rfl rfl (oc_move (x := .val _) rfl rfl) trivial ?_
  refine ck_nil ?_
  refine aw_block ?_
  refine aw_le (Le.nameNil 5 0 1 9 rfl rfl) ?_
  refine aw_loop (ι := Nat) (fun k => ⟨[(1, vs r), (5, .osl 1 0 (woA l r k).length), (10, slS l), (11, vi l.length), (12, vi k)], [(0, .live 9 ((woA l r k).map vs)), (1, .unborn)]⟩) (fun k => k ≤ l.length) (fun k => l.length - k) 0 (Nat.zero_le _) (Le.sub (by repeat (first | trivial | refine ⟨.inr rfl, ?_⟩ | refine ⟨.inr (vi_eq (by omega)), ?_⟩)) (by repeat (first | trivial | refine ⟨rfl, ?_⟩))) ?_
  intro k hI
  refine aw_seq ?_
  refine aw_text rfl ?_
  refine ch_v (R := []) rfl rfl (oc_binZ rfl rfl rfl rfl) trivial ?_
  refine ck_nil ?_
  refine aw_seq ?_
  refine aw_cond rfl (fun hb => ?_) (fun hb => ?_)
  · have hlt : k < l.length := by have h0 := of_decide_eq_true hb; omega
    have hps : (l.getD k ByteArray.empty).size ≤ 10000 := hl.size k
    have hll := hl.len
    have hwl := woA_len hl r k
    refine aw_skip ?_
    refine aw_seq ?_
    refine aw_block ?_
    refine aw_seq ?_
    refine aw_text rfl ?_
    refine ch_v (R := []) rfl rfl ((by first | exact oc_indexN rfl rfl rfl (by kernel_rfl) (by omega) | exact oc_index rfl rfl rfl (by kernel_rfl) (by omega) (by omega) rfl)) trivial ?_
    refine ch_v (R := []) rfl rfl (oc_load rfl rfl (by kernel_rfl) cells_str) trivial ?_
    refine ch_v (R := []) rfl rfl (oc_assign (x := .val _) rfl rfl) trivial ?_
    refine ck_nil ?_
    refine aw_seq ?_
    refine aw_text rfl ?_
    refine ch_v (R := []) rfl rfl (oc_assign (x := .val _) rfl rfl) trivial ?_
    refine ck_nil ?_
    refine aw_seq ?_
    refine aw_seq ?_
    refine aw_text rfl ?_
    refine ch_v (R := []) rfl rfl (oc_assign (x := .val _) rfl rfl) trivial ?_
    refine ck_nil ?_
    refine aw_block ?_
    refine aw_loop (ι := WoSt) (fun q => ⟨[(1, vs r), (5, .osl 1 0 q.2.2.length), (10, slS l), (11, vi l.length), (12, vi k), (7, vs (l.getD k ByteArray.empty)), (8, vi q.2.1), (9, vi q.1)], [(0, .live 9 (q.2.2.map vs)), (1, .unborn)]⟩) (fun q => q.2.1 ≤ q.1 ∧ q.1 ≤ (l.getD k ByteArray.empty).size ∧ q.2.2.length ≤ (woA l r k).length + q.1 ∧ woA l r (k + 1) = woF (l.getD k ByteArray.empty) r ((l.getD k ByteArray.empty).size + 1 - q.1) q.1 q.2.1 q.2.2) (fun q => (l.getD k ByteArray.empty).size - q.1) (0, 0, woA l r k) (⟨Nat.le_refl _, Nat.zero_le _, by simp, rfl⟩) (Le.sub (by repeat (first | trivial | refine ⟨.inr rfl, ?_⟩ | refine ⟨.inr (vi_eq (by omega)), ?_⟩)) (by repeat (first | trivial | refine ⟨rfl, ?_⟩))) ?_
    intro q hI
    refine aw_seq ?_
    refine aw_seq ?_
    refine aw_text rfl ?_
    refine ch_v (R := []) rfl rfl (oc_move (x := .val _) rfl rfl) trivial ?_
    refine ch_v (R := []) rfl rfl (oc_move (x := .val _) rfl rfl) trivial ?_
    refine ch_v (R := []) rfl rfl (oc_len_str rfl rfl (by kernel_rfl)) trivial ?_
    refine ch_v (R := []) rfl rfl (oc_binZ rfl rfl rfl (by first | exact binW_add (by omega) (by omega) | rfl)) trivial ?_
    refine ch_v (R := []) rfl rfl (oc_move (x := .val _) rfl rfl) trivial ?_
    refine ch_v (R := []) rfl rfl (oc_len_str rfl rfl (by kernel_rfl)) trivial ?_
    refine ch_v (R := []) rfl rfl (oc_binZ rfl rfl rfl rfl) trivial ?_
    refine ck_nil ?_
    refine aw_cond rfl (fun hb => ?_) (fun hb => ?_)
    · have hin : q.1 + r.size ≤ (l.getD k ByteArray.empty).size := by have h0 := of_decide_eq_true hb; omega
      have hfu : (l.getD k ByteArray.empty).size + 1 - q.1 = ((l.getD k ByteArray.empty).size - q.1) + 1 := by omega
      refine aw_skip ?_
      refine aw_block ?_
      refine aw_seq ?_
      refine aw_text rfl ?_
      refine ch_v (R := []) rfl rfl (oc_move (x := .val _) rfl rfl) trivial ?_
      refine ch_v (R := []) rfl rfl (oc_move (x := .val _) rfl rfl) trivial ?_
      refine ch_v (R := []) rfl rfl (oc_move (x := .val _) rfl rfl) trivial ?_
      refine ch_v (R := []) rfl rfl (oc_move (x := .val _) rfl rfl) trivial ?_
      refine ch_v (R := []) rfl rfl (oc_len_str rfl rfl (by kernel_rfl)) trivial ?_
      refine ch_v (R := []) rfl rfl (oc_binZ rfl rfl rfl (by first | exact binW_add (by omega) (by omega) | rfl)) trivial ?_
      refine ch_v (R := []) rfl rfl (OC.cast (oc_substr rfl rfl rfl rfl (by kernel_rfl) (by omega) (by omega) (by omega)) (show Av.val (.string ((l.getD k ByteArray.empty).extract (q.1 : Int).toNat ((q.1 : Int) + (r.size : Int)).toNat)) = vs ((l.getD k ByteArray.empty).extract q.1 (q.1 + r.size)) from by rw [ex_nat])) trivial ?_
      refine ch_v (R := []) rfl rfl (oc_move (x := .val _) rfl rfl) trivial ?_
      refine ch_v (R := []) rfl rfl (oc_str_eq rfl rfl rfl) trivial ?_
      refine ck_nil ?_
      refine aw_cond rfl (fun hb => ?_) (fun hb => ?_)
      · have hat : (l.getD k ByteArray.empty).extract q.1 (q.1 + r.size) = r := by rw [str_eq] at hb; exact of_decide_eq_true hb
        refine aw_seq ?_
        refine aw_text rfl ?_
        refine ch_v (R := []) rfl rfl (oc_move (x := .osl _ _ _) rfl rfl) trivial ?_
        refine ch_v (R := []) rfl rfl (oc_move (x := .val _) rfl rfl) trivial ?_
        refine ch_v (R := []) rfl rfl (oc_move (x := .val _) rfl rfl) trivial ?_
        refine ch_v (R := []) rfl rfl (oc_move (x := .val _) rfl rfl) trivial ?_
        refine ch_v (R := []) rfl rfl (OC.cast (oc_substr rfl rfl rfl rfl (by kernel_rfl) (by omega) (by omega) (by omega)) (show Av.val (.string ((l.getD k ByteArray.empty).extract (q.2.1 : Int).toNat (q.1 : Int).toNat)) = vs ((l.getD k ByteArray.empty).extract q.2.1 q.1) from by rw [Int.toNat_natCast, Int.toNat_natCast])) trivial ?_
        refine ch_v (R := []) rfl rfl (oc_buildSlice (ps := [.tmp 36]) (xs := [.val _]) (e := 9) (k := 1) (by_ := 16) (zs := [.string ⟨#[]⟩]) rfl (by kernel_rfl) (by kernel_rfl) rfl rfl rfl (by decide) (by decide)) trivial ?_
        refine ch_u rfl rfl (oc_append (e := 9) (k := 1) (by_ := 16) (zs := [.string ⟨#[]⟩]) (cs := q.2.2.map vs) (ds := [vs ((l.getD k ByteArray.empty).extract q.2.1 q.1)]) 1 rfl rfl rfl (by kernel_rfl) (by kernel_rfl) rfl (by decide) (by decide) (by simp) rfl (app_vs1 _) (by omega) (by omega)) ⟨rfl, rfl, trivial⟩ ?_
        refine ch_v (R := []) rfl rfl (oc_assign (x := .osl _ _ _) rfl rfl) trivial ?_
        refine ck_nil ?_
        refine aw_le (Le.trans (Le.swap (τ := ⟨[(1, vs r), (5, .osl 1 0 (q.2.2.length + 1)), (10, slS l), (11, vi l.length), (12, vi k), (7, vs (l.getD k ByteArray.empty)), (8, vi q.2.1), (9, vi q.1)], [(0, .live 9 ((q.2.2 ++ [((l.getD k ByteArray.empty).extract q.2.1 q.1)]).map vs)), (1, .dead)]⟩) 0 1 (by simp) (by simp) ⟨rfl, rfl, (ren_pure _ _ (pure_slS _)).symm, rfl, rfl, rfl, rfl, rfl, trivial⟩ ⟨by show lkH _ 1 = some (Hs.live _ (((q.2.2 ++ [((l.getD k ByteArray.empty).extract q.2.1 q.1)]).map vs).map _)); rw [ren_vs, show ((q.2.2 ++ [((l.getD k ByteArray.empty).extract q.2.1 q.1)]).map vs) = q.2.2.map vs ++ [vs ((l.getD k ByteArray.empty).extract q.2.1 q.1)] from List.map_append]; rfl, rfl, trivial⟩) (Le.reset (τ := ⟨[(1, vs r), (5, .osl 1 0 (q.2.2.length + 1)), (10, slS l), (11, vi l.length), (12, vi k), (7, vs (l.getD k ByteArray.empty)), (8, vi q.2.1), (9, vi q.1)], [(0, .live 9 ((q.2.2 ++ [((l.getD k ByteArray.empty).extract q.2.1 q.1)]).map vs)), (1, .unborn)]⟩) [1] (by simp) (by repeat (first | trivial | refine ⟨.inr rfl, ?_⟩)) ⟨by simp [NoN], by simp [NoN], NoN.of_pure _ (pure_slS _), by simp [NoN], by simp [NoN], by simp [NoN], by simp [NoN], by simp [NoN], trivial⟩ ⟨by rw [if_neg (by decide)]; exact ⟨rfl, non_vs _⟩, by rw [if_pos (by decide)], trivial⟩)) ?_
        refine aw_seq ?_
        refine aw_text rfl ?_
        refine ch_v (R := []) rfl rfl (oc_move (x := .val _) rfl rfl) trivial ?_
        refine ch_v (R := []) rfl rfl (oc_move (x := .val _) rfl rfl) trivial ?_
        refine ch_v (R := []) rfl rfl (oc_len_str rfl rfl (by kernel_rfl)) trivial ?_
        refine ch_v (R := []) rfl rfl (oc_binZ rfl rfl rfl (by first | exact binW_add (by omega) (by omega) | rfl)) trivial ?_
        refine ch_v (R := []) rfl rfl (oc_assign (x := .val _) rfl rfl) trivial ?_
        refine ck_nil ?_
        refine aw_text rfl ?_
        refine ch_v (R := []) rfl rfl (oc_move (x := .val _) rfl rfl) trivial ?_
        refine ch_v (R := []) rfl rfl (oc_assign (x := .val _) rfl rfl) trivial ?_
        refine ck_nil ?_
        exact ⟨(q.1 + r.size, q.1 + r.size, q.2.2 ++ [((l.getD k ByteArray.empty).extract q.2.1 q.1)]), ⟨Nat.le_refl _, by show q.1 + r.size ≤ _; omega, by show (q.2.2 ++ [_]).length ≤ _ + (q.1 + r.size); rw [List.length_append]; simp; omega, by rw [hI.2.2.2, hfu]; show (if _ then _ else _) = _; rw [if_pos hin, if_pos hat]; exact woF_more hr (by omega) (by show _ < _ + (q.1 + r.size); omega)⟩, by show (l.getD k ByteArray.empty).size - (q.1 + r.size) < _; omega, Le.sub (by repeat (first | trivial | refine ⟨.inr rfl, ?_⟩ | refine ⟨.inr (vi_eq (by first | omega | (show (q.1 : Int) + (r.size : Int) = ((q.1 + r.size : Nat) : Int); omega) | (show (q.1 : Int) + 1 = ((q.1 + 1 : Nat) : Int); omega))), ?_⟩ | refine ⟨.inr (by show lkS _ 5 = Av.osl 1 0 (q.2.2 ++ [((l.getD k ByteArray.empty).extract q.2.1 q.1)]).length; rw [List.length_append]; rfl), ?_⟩)) ⟨rfl, rfl, trivial⟩⟩
      · have hat : ¬ (l.getD k ByteArray.empty).extract q.1 (q.1 + r.size) = r := by rw [str_eq] at hb; exact of_decide_eq_false hb
        refine aw_text rfl ?_
        refine ch_v (R := []) rfl rfl (oc_move (x := .val _) rfl rfl) trivial ?_
        refine ch_v (R := []) rfl rfl (oc_binZ rfl rfl rfl (by first | exact binW_add (by omega) (by omega) | rfl)) trivial ?_
        refine ch_v (R := []) rfl rfl (oc_assign (x := .val _) rfl rfl) trivial ?_
        refine ck_nil ?_
        exact ⟨(q.1 + 1, q.2.1, q.2.2), ⟨by show q.2.1 ≤ q.1 + 1; omega, by show q.1 + 1 ≤ _; omega, by show q.2.2.length ≤ _ + (q.1 + 1); omega, by rw [hI.2.2.2, hfu]; show (if _ then _ else _) = _; rw [if_pos hin, if_neg hat]; exact woF_more hr (by omega) (by show _ < _ + (q.1 + 1); omega)⟩, by show (l.getD k ByteArray.empty).size - (q.1 + 1) < _; omega, Le.sub (by repeat (first | trivial | refine ⟨.inr rfl, ?_⟩ | refine ⟨.inr (vi_eq (by first | omega | (show (q.1 : Int) + (r.size : Int) = ((q.1 + r.size : Nat) : Int); omega) | (show (q.1 : Int) + 1 = ((q.1 + 1 : Nat) : Int); omega))), ?_⟩ | refine ⟨.inr (by show lkS _ 5 = Av.osl 1 0 (q.2.2 ++ [((l.getD k ByteArray.empty).extract q.2.1 q.1)]).length; rw [List.length_append]; rfl), ?_⟩)) ⟨rfl, rfl, trivial⟩⟩
    · have hin : ¬ q.1 + r.size ≤ (l.getD k ByteArray.empty).size := by have h0 := of_decide_eq_false hb; omega
      have hfin : woA l r (k + 1) = q.2.2 ++ [((l.getD k ByteArray.empty).extract q.2.1 (l.getD k ByteArray.empty).size)] := by rw [hI.2.2.2, woF_over hin]
      refine aw_exit ?_
      refine aw_text rfl ?_
      refine ch_v (R := []) rfl rfl (oc_move (x := .osl _ _ _) rfl rfl) trivial ?_
      refine ch_v (R := []) rfl rfl (oc_move (x := .val _) rfl rfl) trivial ?_
      refine ch_v (R := []) rfl rfl (oc_move (x := .val _) rfl rfl) trivial ?_
      refine ch_v (R := []) rfl rfl (OC.cast (oc_substr_l rfl rfl rfl (by kernel_rfl) (by omega) (by omega)) (show Av.val (.string ((l.getD k ByteArray.empty).extract (q.2.1 : Int).toNat (l.getD k ByteArray.empty).size)) = vs ((l.getD k ByteArray.empty).extract q.2.1 (l.getD k ByteArray.empty).size) from by rw [Int.toNat_natCast])) trivial ?_
      refine ch_v (R := []) rfl rfl (oc_buildSlice (ps := [.tmp 49]) (xs := [.val _]) (e := 9) (k := 1) (by_ := 16) (zs := [.string ⟨#[]⟩]) rfl (by kernel_rfl) (by kernel_rfl) rfl rfl rfl (by decide) (by decide)) trivial ?_
      refine ch_u rfl rfl (oc_append (e := 9) (k := 1) (by_ := 16) (zs := [.string ⟨#[]⟩]) (cs := q.2.2.map vs) (ds := [vs ((l.getD k ByteArray.empty).extract q.2.1 (l.getD k ByteArray.empty).size)]) 1 rfl rfl rfl (by kernel_rfl) (by kernel_rfl) rfl (by decide) (by decide) (by simp) rfl (app_vs1 _) (by omega) (by omega)) ⟨rfl, rfl, trivial⟩ ?_
      refine ch_v (R := []) rfl rfl (oc_assign (x := .osl _ _ _) rfl rfl) trivial ?_
      refine ck_nil ?_
      refine aw_le (Le.trans (Le.swap (τ := ⟨[(1, vs r), (5, .osl 1 0 (q.2.2.length + 1)), (10, slS l), (11, vi l.length), (12, vi k)], [(0, .live 9 ((q.2.2 ++ [((l.getD k ByteArray.empty).extract q.2.1 (l.getD k ByteArray.empty).size)]).map vs)), (1, .dead)]⟩) 0 1 (by simp) (by simp) ⟨rfl, rfl, (ren_pure _ _ (pure_slS _)).symm, rfl, rfl, trivial⟩ ⟨by show lkH _ 1 = some (Hs.live _ (((q.2.2 ++ [((l.getD k ByteArray.empty).extract q.2.1 (l.getD k ByteArray.empty).size)]).map vs).map _)); rw [ren_vs, show ((q.2.2 ++ [((l.getD k ByteArray.empty).extract q.2.1 (l.getD k ByteArray.empty).size)]).map vs) = q.2.2.map vs ++ [vs ((l.getD k ByteArray.empty).extract q.2.1 (l.getD k ByteArray.empty).size)] from List.map_append]; rfl, rfl, trivial⟩) (Le.reset (τ := ⟨[(1, vs r), (5, .osl 1 0 (q.2.2.length + 1)), (10, slS l), (11, vi l.length), (12, vi k)], [(0, .live 9 ((q.2.2 ++ [((l.getD k ByteArray.empty).extract q.2.1 (l.getD k ByteArray.empty).size)]).map vs)), (1, .unborn)]⟩) [1] (by simp) (by repeat (first | trivial | refine ⟨.inr rfl, ?_⟩)) ⟨by simp [NoN], by simp [NoN], NoN.of_pure _ (pure_slS _), by simp [NoN], by simp [NoN], trivial⟩ ⟨by rw [if_neg (by decide)]; exact ⟨rfl, non_vs _⟩, by rw [if_pos (by decide)], trivial⟩)) ?_
      refine aw_text rfl ?_
      refine ch_v (R := []) rfl rfl (oc_binZ rfl rfl rfl (by first | exact binW_add (by omega) (by omega) | rfl)) trivial ?_
      refine ch_v (R := []) rfl rfl (oc_move (x := .val _) rfl rfl) trivial ?_
      refine ck_nil ?_
      exact ⟨k + 1, by omega, by omega, Le.sub (by repeat (first | trivial | refine ⟨.inr rfl, ?_⟩ | refine ⟨.inr (vi_eq (by omega)), ?_⟩ | refine ⟨.inr (by show lkS _ 5 = Av.osl 1 0 (woA l r (k + 1)).length; rw [hfin, List.length_append]; rfl), ?_⟩)) ⟨by rw [hfin]; rfl, rfl, trivial⟩⟩
  · have hge : k = l.length := by have h0 := of_decide_eq_false hb; omega
    refine aw_exit ?_
    refine aw_seq ?_
    refine aw_le (Le.freeze 5 0 (fun j => vs ((woA l r k).getD j ByteArray.empty)) rfl rfl (by simp) (row_vs _)) ?_
    refine aw_text rfl ?_
    refine ch_v (R := []) rfl rfl (oc_move (x := .sl _ _ _) rfl rfl) trivial ?_
    refine ch_v (R := []) rfl rfl (oc_assign (x := .sl _ _ _) rfl rfl) trivial ?_
    refine ck_nil ?_
    refine aw_ret ?_
    exact ⟨.inl rfl, ResOk.tmp rfl (by rw [← hge]; rfl), trivial⟩
end Go.Proofs.YtfbpbpapfkimfaaDoor
