/- Chapter 7: the document's Without, walked. Chapter 7: the document's Best, walked. Chapter 7: the document's Choose, walked. Chapter 7 as plain data: both count rows alike. No program is walked in this text. Chapter 7 as plain data: both find the same best row. No program is walked in this text. Chapter 7 as plain data: both split alike, and choose alike. No program is walked in this text. Chapter 7: pieces: Same, the document's Join, walked. Chapter 7 as plain data: cutting, both ways. No program is walked in this text. Chapter 7 as plain data: both cut alike. No program is walked in this text. Chapter 7 as plain data: what a cut costs, and that its pieces joined are the text. No program is walked in this text. Chapter 7 as plain data: the pieces of a cut, joined, are the text; more abbreviations cost no more. No program is walked in this text. -/
import Derived.Test.YtpbaiighifhfnaaDoorBj
import Derived.Test.YtpbaiighifhfnaaDoorProg
import Derived.KernelRfl
import Derived.Laws.StructEq
namespace Go.Proofs.YtpbaiighifhfnaaDoor
open Go.RowKit
set_option maxRecDepth 100000
set_option linter.unusedVariables false
set_option linter.unusedSimpArgs false
def woF (p r : ByteArray) : Nat → Nat → Nat → List ByteArray → List ByteArray
  | 0, _, fr, out => out ++ [p.extract fr p.size]
  | f + 1, i, fr, out => if i + r.size ≤ p.size then (if p.extract i (i + r.size) = r then woF p r f (i + r.size) (i + r.size) (out ++ [p.extract fr i]) else woF p r f (i + 1) fr out) else out ++ [p.extract fr p.size]
theorem woF_over {p r : ByteArray} {f i fr : Nat} {out : List ByteArray} (h : ¬ i + r.size ≤ p.size) : woF p r f i fr out = out ++ [p.extract fr p.size] := by
  cases f with
  | zero => rfl
  | succ f => unfold woF; rw [if_neg h]
theorem woF_more {p r : ByteArray} (hr : 0 < r.size) : ∀ {f f' i fr : Nat} {out : List ByteArray}, p.size < f + i → p.size < f' + i → woF p r f i fr out = woF p r f' i fr out
  | 0, f', i, fr, out, h, h' => by rw [woF_over (by omega), woF_over (by omega)]
  | f + 1, 0, i, fr, out, h, h' => by rw [woF_over (by omega), woF_over (by omega)]
  | f + 1, f' + 1, i, fr, out, h, h' => by
    unfold woF
    split
    · split
      · exact woF_more hr (by omega) (by omega)
      · exact woF_more hr (by omega) (by omega)
    · rfl
theorem woF_len (p r : ByteArray) : ∀ (f i fr : Nat) (out : List ByteArray), (woF p r f i fr out).length ≤ out.length + f + 1
  | 0, i, fr, out => by simp [woF]
  | f + 1, i, fr, out => by
    unfold woF
    split
    · split
      · have := woF_len p r f (i + r.size) (i + r.size) (out ++ [p.extract fr i]); simp at this; omega
      · have := woF_len p r f (i + 1) fr out; omega
    · first | (simp; done) | (simp; omega)
def woA (l : List ByteArray) (r : ByteArray) : Nat → List ByteArray
  | 0 => []
  | k + 1 => woF (l.getD k ByteArray.empty) r ((l.getD k ByteArray.empty).size + 1) 0 0 (woA l r k)
theorem woA_len {l : List ByteArray} (h : FewT l) (r : ByteArray) : ∀ k, (woA l r k).length ≤ 10002 * k
  | 0 => by simp [woA]
  | k + 1 => by
    have h1 := woA_len h r k
    have h2 : (l.getD k ByteArray.empty).size ≤ 10000 := h.size k
    have h3 := woF_len (l.getD k ByteArray.empty) r ((l.getD k ByteArray.empty).size + 1) 0 0 (woA l r k)
    unfold woA
    omega
abbrev WoSt := Nat × Nat × List ByteArray
set_option maxHeartbeats 800000 in
theorem without_pc (l : List ByteArray) (hl : FewT l) (r : ByteArray) (hr : 0 < r.size) (hr2 : r.size ≤ 10000) : PC Tryd.prog 52 [slS l, vs r] (slS (woA l r l.length)) := by
  refine FC.body 2 54 Tryd.func52 rfl (by kernel_rfl) ?_
  refine aw_seq ?_
  refine aw_text rfl ?_
  refine ch_v (R := []) rfl rfl (oc_assign (x := .val _) rfl rfl) trivial ?_
  refine ck_nil ?_
  refine aw_seq ?_
  refine aw_text rfl ?_
  refine ch_v (R := []) rfl rfl (oc_assign (x := .val _) rfl rfl) trivial ?_
  refine ck_nil ?_
  refine aw_seq ?_
  refine aw_seq ?_
  refine aw_text rfl ?_
  refine ch_v (R := []) rfl rfl (oc_move (x := .sl _ _ _) rfl rfl) trivial ?_
  refine ch_v (R := []) rfl rfl (oc_len rfl rfl (by kernel_rfl)) trivial ?_
  refine ch_v (R := []) rfl rfl (oc_move (x := .val _) rfl rfl) trivial ?_
  refine ck_nil ?_
  refine aw_block ?_
  refine aw_le (Le.nameNil 5 0 1 9 rfl rfl) ?_
  refine aw_loop (ι := Nat) (fun k => ⟨[(1, vs r), (5, .osl 1 0 (woA l r k).length), (10, slS l), (11, vi l.length), (12, vi k)], [(0, .live 9 ((woA l r k).map vs)), (1, .unborn)]⟩) (fun k => k ≤ l.length) (fun k => l.length - k) 0 (Nat.zero_le _) (Le.sub (by repeat (first | trivial | refine ⟨.inr rfl, ?_⟩ | refine ⟨.inr (vi_eq (by omega)), ?_⟩)) (by repeat (first | trivial | refine ⟨rfl, ?_⟩))) ?_
  intro k hI
  refine aw_seq ?_
  refine aw_text rfl ?_
  refine ch_v (R := []) rfl rfl (oc_binZ rfl rfl rfl rfl) trivial ?_
  refine ck_nil ?_
  refine aw_seq ?_
  refine aw_cond rfl (fun hb => ?_) (fun hb => ?_)
  · have hlt : k < l.length := by have h0 := of_decide_eq_true hb; omega
    have hps : (l.getD k ByteArray.empty).size ≤ 10000 := hl.size k
    have hll := hl.len
    have hwl := woA_len hl r k
    refine aw_skip ?_
    refine aw_seq ?_
    refine aw_block ?_
    refine aw_seq ?_
    refine aw_text rfl ?_
    refine ch_v (R := []) rfl rfl ((by first | exact oc_indexN rfl rfl rfl (by kernel_rfl) (by omega) | exact oc_index rfl rfl rfl (by kernel_rfl) (by omega) (by omega) rfl)) trivial ?_
    refine ch_v (R := []) rfl rfl (oc_load rfl rfl (by kernel_rfl) cells_str) trivial ?_
    refine ch_v (R := []) rfl rfl (oc_assign (x := .val _) rfl rfl) trivial ?_
    refine ck_nil ?_
    refine aw_seq ?_
    refine aw_text rfl ?_
    refine ch_v (R := []) rfl rfl (oc_assign (x := .val _) rfl rfl) trivial ?_
    refine ck_nil ?_
    refine aw_seq ?_
    refine aw_seq ?_
    refine aw_text rfl ?_
    refine ch_v (R := []) rfl rfl (oc_assign (x := .val _) rfl rfl) trivial ?_
    refine ck_nil ?_
    refine aw_block ?_
    refine aw_loop (ι := WoSt) (fun q => ⟨[(1, vs r), (5, .osl 1 0 q.2.2.length), (10, slS l), (11, vi l.length), (12, vi k), (7, vs (l.getD k ByteArray.empty)), (8, vi q.2.1), (9, vi q.1)], [(0, .live 9 (q.2.2.map vs)), (1, .unborn)]⟩) (fun q => q.2.1 ≤ q.1 ∧ q.1 ≤ (l.getD k ByteArray.empty).size ∧ q.2.2.length ≤ (woA l r k).length + q.1 ∧ woA l r (k + 1) = woF (l.getD k ByteArray.empty) r ((l.getD k ByteArray.empty).size + 1 - q.1) q.1 q.2.1 q.2.2) (fun q => (l.getD k ByteArray.empty).size - q.1) (0, 0, woA l r k) (⟨Nat.le_refl _, Nat.zero_le _, by simp, rfl⟩) (Le.sub (by repeat (first | trivial | refine ⟨.inr rfl, ?_⟩ | refine ⟨.inr (vi_eq (by omega)), ?_⟩)) (by repeat (first | trivial | refine ⟨rfl, ?_⟩))) ?_
    intro q hI
    refine aw_seq ?_
    refine aw_seq ?_
    refine aw_text rfl ?_
    refine ch_v (R := []) rfl rfl (oc_move (x := .val _) rfl rfl) trivial ?_
    refine ch_v (R := []) rfl rfl (oc_move (x := .val _) rfl rfl) trivial ?_
    refine ch_v (R := []) rfl rfl (oc_len_str rfl rfl (by kernel_rfl)) trivial ?_
    refine ch_v (R := []) rfl rfl (oc_binZ rfl rfl rfl (by first | exact binW_add (by omega) (by omega) | rfl)) trivial ?_
    refine ch_v (R := []) rfl rfl (oc_move (x := .val _) rfl rfl) trivial ?_
    refine ch_v (R := []) rfl rfl (oc_len_str rfl rfl (by kernel_rfl)) trivial ?_
    refine ch_v (R := []) rfl rfl (oc_binZ rfl rfl rfl rfl) trivial ?_
    refine ck_nil ?_
    refine aw_cond rfl (fun hb => ?_) (fun hb => ?_)
    · have hin : q.1 + r.size ≤ (l.getD k ByteArray.empty).size := by have h0 := of_decide_eq_true hb; omega
      have hfu : (l.getD k ByteArray.empty).size + 1 - q.1 = ((l.getD k ByteArray.empty).size - q.1) + 1 := by omega
      refine aw_skip ?_
      refine aw_block ?_
      refine aw_seq ?_
      refine aw_text rfl ?_
      refine ch_v (R := []) rfl rfl (oc_move (x := .val _) rfl rfl) trivial ?_
      refine ch_v (R := []) rfl rfl (oc_move (x := .val _) rfl rfl) trivial ?_
      refine ch_v (R := []) rfl rfl (oc_move (x := .val _) rfl rfl) trivial ?_
      refine ch_v (R := []) rfl rfl (oc_move (x := .val _) rfl rfl) trivial ?_
      refine ch_v (R := []) rfl rfl (oc_len_str rfl rfl (by kernel_rfl)) trivial ?_
      refine ch_v (R := []) rfl rfl (oc_binZ rfl rfl rfl (by first | exact binW_add (by omega) (by omega) | rfl)) trivial ?_
      refine ch_v (R := []) rfl rfl (OC.cast (oc_substr rfl rfl rfl rfl (by kernel_rfl) (by omega) (by omega) (by omega)) (show Av.val (.string ((l.getD k ByteArray.empty).extract (q.1 : Int).toNat ((q.1 : Int) + (r.size : Int)).toNat)) = vs ((l.getD k ByteArray.empty).extract q.1 (q.1 + r.size)) from by rw [ex_nat])) trivial ?_
      refine ch_v (R := []) rfl rfl (oc_move (x := .val _) rfl rfl) trivial ?_
      refine ch_v (R := []) rfl rfl (oc_str_eq rfl rfl rfl) trivial ?_
      refine ck_nil ?_
      refine aw_cond rfl (fun hb => ?_) (fun hb => ?_)
      · have hat : (l.getD k ByteArray.empty).extract q.1 (q.1 + r.size) = r := by rw [str_eq] at hb; exact of_decide_eq_true hb
        refine aw_seq ?_
        refine aw_text rfl ?_
        refine ch_v (R := []) rfl rfl (oc_move (x := .osl _ _ _) rfl rfl) trivial ?_
        refine ch_v (R := []) rfl rfl (oc_move (x := .val _) rfl rfl) trivial ?_
        refine ch_v (R := []) rfl rfl (oc_move (x := .val _) rfl rfl) trivial ?_
        refine ch_v (R := []) rfl rfl (oc_move (x := .val _) rfl rfl) trivial ?_
        refine ch_v (R := []) rfl rfl (OC.cast (oc_substr rfl rfl rfl rfl (by kernel_rfl) (by omega) (by omega) (by omega)) (show Av.val (.string ((l.getD k ByteArray.empty).extract (q.2.1 : Int).toNat (q.1 : Int).toNat)) = vs ((l.getD k ByteArray.empty).extract q.2.1 q.1) from by rw [Int.toNat_natCast, Int.toNat_natCast])) trivial ?_
        refine ch_v (R := []) rfl rfl (oc_buildSlice (ps := [.tmp 36]) (xs := [.val _]) (e := 9) (k := 1) (by_ := 16) (zs := [.string ⟨#[]⟩]) rfl (by kernel_rfl) (by kernel_rfl) rfl rfl rfl (by decide) (by decide)) trivial ?_
        refine ch_u rfl rfl (oc_append (e := 9) (k := 1) (by_ := 16) (zs := [.string ⟨#[]⟩]) (cs := q.2.2.map vs) (ds := [vs ((l.getD k ByteArray.empty).extract q.2.1 q.1)]) 1 rfl rfl rfl (by kernel_rfl) (by kernel_rfl) rfl (by decide) (by decide) (by simp) rfl (app_vs1 _) (by omega) (by omega)) ⟨rfl, rfl, trivial⟩ ?_
        refine ch_v (R := []) rfl rfl (oc_assign (x := .osl _ _ _) rfl rfl) trivial ?_
        refine ck_nil ?_
        refine aw_le (Le.trans (Le.swap (τ := ⟨[(1, vs r), (5, .osl 1 0 (q.2.2.length + 1)), (10, slS l), (11, vi l.length), (12, vi k), (7, vs (l.getD k ByteArray.empty)), (8, vi q.2.1), (9, vi q.1)], [(0, .live 9 ((q.2.2 ++ [((l.getD k ByteArray.empty).extract q.2.1 q.1)]).map vs)), (1, .dead)]⟩) 0 1 (by simp) (by simp) ⟨rfl, rfl, (ren_pure _ _ (pure_slS _)).symm, rfl, rfl, rfl, rfl, rfl, trivial⟩ ⟨by show lkH _ 1 = some (Hs.live _ (((q.2.2 ++ [((l.getD k ByteArray.empty).extract q.2.1 q.1)]).map vs).map _)); rw [ren_vs, show ((q.2.2 ++ [((l.getD k ByteArray.empty).extract q.2.1 q.1)]).map vs) = q.2.2.map vs ++ [vs ((l.getD k ByteArray.empty).extract q.2.1 q.1)] from List.map_append]; rfl, rfl, trivial⟩) (Le.reset (τ := ⟨[(1, vs r), (5, .osl 1 0 (q.2.2.length + 1)), (10, slS l), (11, vi l.length), (12, vi k), (7, vs (l.getD k ByteArray.empty)), (8, vi q.2.1), (9, vi q.1)], [(0, .live 9 ((q.2.2 ++ [((l.getD k ByteArray.empty).extract q.2.1 q.1)]).map vs)), (1, .unborn)]⟩) [1] (by simp) (by repeat (first | trivial | refine ⟨.inr rfl, ?_⟩)) ⟨by simp [NoN], by simp [NoN], NoN.of_pure _ (pure_slS _), by simp [NoN], by simp [NoN], by simp [NoN], by simp [NoN], by simp [NoN], trivial⟩ ⟨by rw [if_neg (by decide)]; exact ⟨rfl, non_vs _⟩, by rw [if_pos (by decide)], trivial⟩)) ?_
        refine aw_seq ?_
        refine aw_text rfl ?_
        refine ch_v (R := []) rfl rfl (oc_move (x := .val _) rfl rfl) trivial ?_
        refine ch_v (R := []) rfl rfl (oc_move (x := .val _) rfl rfl) trivial ?_
        refine ch_v (R := []) rfl rfl (oc_len_str rfl rfl (by kernel_rfl)) trivial ?_
        refine ch_v (R := []) rfl rfl (oc_binZ rfl rfl rfl (by first | exact binW_add (by omega) (by omega) | rfl)) trivial ?_
        refine ch_v (R := []) rfl rfl (oc_assign (x := .val _) rfl rfl) trivial ?_
        refine ck_nil ?_
        refine aw_text rfl ?_
        refine ch_v (R := []) rfl rfl (oc_move (x := .val _) rfl rfl) trivial ?_
        refine ch_v (R := []) rfl rfl (oc_assign (x := .val _) rfl rfl) trivial ?_
        refine ck_nil ?_
        exact ⟨(q.1 + r.size, q.1 + r.size, q.2.2 ++ [((l.getD k ByteArray.empty).extract q.2.1 q.1)]), ⟨Nat.le_refl _, by show q.1 + r.size ≤ _; omega, by show (q.2.2 ++ [_]).length ≤ _ + (q.1 + r.size); rw [List.length_append]; simp; omega, by rw [hI.2.2.2, hfu]; show (if _ then _ else _) = _; rw [if_pos hin, if_pos hat]; exact woF_more hr (by omega) (by show _ < _ + (q.1 + r.size); omega)⟩, by show (l.getD k ByteArray.empty).size - (q.1 + r.size) < _; omega, Le.sub (by repeat (first | trivial | refine ⟨.inr rfl, ?_⟩ | refine ⟨.inr (vi_eq (by first | omega | (show (q.1 : Int) + (r.size : Int) = ((q.1 + r.size : Nat) : Int); omega) | (show (q.1 : Int) + 1 = ((q.1 + 1 : Nat) : Int); omega))), ?_⟩ | refine ⟨.inr (by show lkS _ 5 = Av.osl 1 0 (q.2.2 ++ [((l.getD k ByteArray.empty).extract q.2.1 q.1)]).length; rw [List.length_append]; rfl), ?_⟩)) ⟨rfl, rfl, trivial⟩⟩
      · have hat : ¬ (l.getD k ByteArray.empty).extract q.1 (q.1 + r.size) = r := by rw [str_eq] at hb; exact of_decide_eq_false hb
        refine aw_text rfl ?_
        refine ch_v (R := []) rfl rfl (oc_move (x := .val _) rfl rfl) trivial ?_
        refine ch_v (R := []) rfl rfl (oc_binZ rfl rfl rfl (by first | exact binW_add (by omega) (by omega) | rfl)) trivial ?_
        refine ch_v (R := []) rfl rfl (oc_assign (x := .val _) rfl rfl) trivial ?_
        refine ck_nil ?_
        exact ⟨(q.1 + 1, q.2.1, q.2.2), ⟨by show q.2.1 ≤ q.1 + 1; omega, by show q.1 + 1 ≤ _; omega, by show q.2.2.length ≤ _ + (q.1 + 1); omega, by rw [hI.2.2.2, hfu]; show (if _ then _ else _) = _; rw [if_pos hin, if_neg hat]; exact woF_more hr (by omega) (by show _ < _ + (q.1 + 1); omega)⟩, by show (l.getD k ByteArray.empty).size - (q.1 + 1) < _; omega, Le.sub (by repeat (first | trivial | refine ⟨.inr rfl, ?_⟩ | refine ⟨.inr (vi_eq (by first | omega | (show (q.1 : Int) + (r.size : Int) = ((q.1 + r.size : Nat) : Int); omega) | (show (q.1 : Int) + 1 = ((q.1 + 1 : Nat) : Int); omega))), ?_⟩ | refine ⟨.inr (by show lkS _ 5 = Av.osl 1 0 (q.2.2 ++ [((l.getD k ByteArray.empty).extract q.2.1 q.1)]).length; rw [List.length_append]; rfl), ?_⟩)) ⟨rfl, rfl, trivial⟩⟩
    · have hin : ¬ q.1 + r.size ≤ (l.getD k ByteArray.empty).size := by have h0 := of_decide_eq_false hb; omega
      have hfin : woA l r (k + 1) = q.2.2 ++ [((l.getD k ByteArray.empty).extract q.2.1 (l.getD k ByteArray.empty).size)] := by rw [hI.2.2.2, woF_over hin]
      refine aw_exit ?_
      refine aw_text rfl ?_
      refine ch_v (R := []) rfl rfl (oc_move (x := .osl _ _ _) rfl rfl) trivial ?_
      refine ch_v (R := []) rfl rfl (oc_move (x := .val _) rfl rfl) trivial ?_
      refine ch_v (R := []) rfl rfl (oc_move (x := .val _) rfl rfl) trivial ?_
      refine ch_v (R := []) rfl rfl (OC.cast (oc_substr_l rfl rfl rfl (by kernel_rfl) (by omega) (by omega)) (show Av.val (.string ((l.getD k ByteArray.empty).extract (q.2.1 : Int).toNat (l.getD k ByteArray.empty).size)) = vs ((l.getD k ByteArray.empty).extract q.2.1 (l.getD k ByteArray.empty).size) from by rw [Int.toNat_natCast])) trivial ?_
      refine ch_v (R := []) rfl rfl (oc_buildSlice (ps := [.tmp 49]) (xs := [.val _]) (e := 9) (k := 1) (by_ := 16) (zs := [.string ⟨#[]⟩]) rfl (by kernel_rfl) (by kernel_rfl) rfl rfl rfl (by decide) (by decide)) trivial ?_
      refine ch_u rfl rfl (oc_append (e := 9) (k := 1) (by_ := 16) (zs := [.string ⟨#[]⟩]) (cs := q.2.2.map vs) (ds := [vs ((l.getD k ByteArray.empty).extract q.2.1 (l.getD k ByteArray.empty).size)]) 1 rfl rfl rfl (by kernel_rfl) (by kernel_rfl) rfl (by decide) (by decide) (by simp) rfl (app_vs1 _) (by omega) (by omega)) ⟨rfl, rfl, trivial⟩ ?_
      refine ch_v (R := []) rfl rfl (oc_assign (x := .osl _ _ _) rfl rfl) trivial ?_
      refine ck_nil ?_
      refine aw_le (Le.trans (Le.swap (τ := ⟨[(1, vs r), (5, .osl 1 0 (q.2.2.length + 1)), (10, slS l), (11, vi l.length), (12, vi k)], [(0, .live 9 ((q.2.2 ++ [((l.getD k ByteArray.empty).extract q.2.1 (l.getD k ByteArray.empty).size)]).map vs)), (1, .dead)]⟩) 0 1 (by simp) (by simp) ⟨rfl, rfl, (ren_pure _ _ (pure_slS _)).symm, rfl, rfl, trivial⟩ ⟨by show lkH _ 1 = some (Hs.live _ (((q.2.2 ++ [((l.getD k ByteArray.empty).extract q.2.1 (l.getD k ByteArray.empty).size)]).map vs).map _)); rw [ren_vs, show ((q.2.2 ++ [((l.getD k ByteArray.empty).extract q.2.1 (l.getD k ByteArray.empty).size)]).map vs) = q.2.2.map vs ++ [vs ((l.getD k ByteArray.empty).extract q.2.1 (l.getD k ByteArray.empty).size)] from List.map_append]; rfl, rfl, trivial⟩) (Le.reset (τ := ⟨[(1, vs r), (5, .osl 1 0 (q.2.2.length + 1)), (10, slS l), (11, vi l.length), (12, vi k)], [(0, .live 9 ((q.2.2 ++ [((l.getD k ByteArray.empty).extract q.2.1 (l.getD k ByteArray.empty).size)]).map vs)), (1, .unborn)]⟩) [1] (by simp) (by repeat (first | trivial | refine ⟨.inr rfl, ?_⟩)) ⟨by simp [NoN], by simp [NoN], NoN.of_pure _ (pure_slS _), by simp [NoN], by simp [NoN], trivial⟩ ⟨by rw [if_neg (by decide)]; exact ⟨rfl, non_vs _⟩, by rw [if_pos (by decide)], trivial⟩)) ?_
      refine aw_text rfl ?_
      refine ch_v (R := []) rfl rfl (oc_binZ rfl rfl rfl (by first | exact binW_add (by omega) (by omega) | rfl)) trivial ?_
      refine ch_v (R := []) rfl rfl (oc_move (x := .val _) rfl rfl) trivial ?_
      refine ck_nil ?_
      exact ⟨k + 1, by omega, by omega, Le.sub (by repeat (first | trivial | refine ⟨.inr rfl, ?_⟩ | refine ⟨.inr (vi_eq (by omega)), ?_⟩ | refine ⟨.inr (by show lkS _ 5 = Av.osl 1 0 (woA l r (k + 1)).length; rw [hfin, List.length_append]; rfl), ?_⟩)) ⟨by rw [hfin]; rfl, rfl, trivial⟩⟩
  · have hge : k = l.length := by have h0 := of_decide_eq_false hb; omega
    refine aw_exit ?_
    refine aw_seq ?_
    refine aw_le (Le.freeze 5 0 (fun j => vs ((woA l r k).getD j ByteArray.empty)) rfl rfl (by simp) (row_vs _)) ?_
    refine aw_text rfl ?_
    refine ch_v (R := []) rfl rfl (oc_move (x := .sl _ _ _) rfl rfl) trivial ?_
    refine ch_v (R := []) rfl rfl (oc_assign (x := .sl _ _ _) rfl rfl) trivial ?_
    refine ck_nil ?_
    refine aw_ret ?_
    exact ⟨.inl rfl, ResOk.tmp rfl (by rw [← hge]; rfl), trivial⟩
end Go.Proofs.YtpbaiighifhfnaaDoor
namespace Go.Proofs.YtpbaiighifhfnaaDoor
open Go.RowKit
set_option maxRecDepth 100000
set_option linter.unusedVariables false
set_option linter.unusedSimpArgs false
def savesOf (l : List ByteArray) (r : ByteArray) : Int := (costS r - 2) * cntA l r l.length - costS r
def betterB (s : Int) (row : ByteArray) (b : RowP) : Bool := decide (s > b.2) || (((s == b.2) && decide (s > 0)) && (decide ((row.size : Int) > b.1.size) || (((row.size : Int) == (b.1.size : Int)) && Op.bytesLess row.toList b.1.toList)))
def rbStep (l : List ByteArray) (p : ByteArray) (i n : Nat) (b : RowP) : RowP := if betterB (savesOf l (p.extract i (i + n))) (p.extract i (i + n)) b = true then (p.extract i (i + n), savesOf l (p.extract i (i + n))) else b
def rbRow (l : List ByteArray) (p : ByteArray) (i : Nat) (b : RowP) : Nat → RowP
  | 0 => b
  | k + 1 => if k + 2 ≤ 8 ∧ i + (k + 2) ≤ p.size then rbStep l p i (k + 2) (rbRow l p i b k) else rbRow l p i b k
def rbPart (l : List ByteArray) (p : ByteArray) (b : RowP) : Nat → RowP
  | 0 => b
  | i + 1 => rbRow l p i (rbPart l p b i) 7
def rbAll (l : List ByteArray) : Nat → RowP
  | 0 => (⟨#[]⟩, 0)
  | k + 1 => rbPart l (l.getD k ByteArray.empty) (rbAll l k) (l.getD k ByteArray.empty).size
theorem rbRow_stop {l : List ByteArray} {p : ByteArray} {i : Nat} {b : RowP} {j : Nat} (hj : j ≤ 7) (h : ¬ (j + 2 ≤ 8 ∧ i + (j + 2) ≤ p.size)) : rbRow l p i b 7 = rbRow l p i b j := by
  have key : ∀ d, j + d ≤ 7 → rbRow l p i b (j + d) = rbRow l p i b j := by
    intro d
    induction d with
    | zero => intro _; rfl
    | succ d ih =>
      intro hd
      rw [← Nat.add_assoc]
      show (if j + d + 2 ≤ 8 ∧ i + (j + d + 2) ≤ p.size then _ else _) = _
      rw [if_neg (by omega)]
      exact ih (by omega)
  have := key (7 - j) (by omega)
  rwa [show j + (7 - j) = 7 from by omega] at this
set_option maxHeartbeats 800000 in
theorem rbest_pc (l : List ByteArray) (hl : FewT l) : PC Tryd.prog 51 [slS l] (vs (rbAll l l.length).1) := by
  refine FC.body 6 79 Tryd.func51 rfl (by kernel_rfl) ?_
  refine aw_seq ?_
  refine aw_text rfl ?_
  refine ch_v (R := []) rfl rfl (oc_assign (x := .val _) rfl rfl) trivial ?_
  refine ck_nil ?_
  refine aw_seq ?_
  refine aw_text rfl ?_
  refine ch_v (R := []) rfl rfl (oc_assign (x := .val _) rfl rfl) trivial ?_
  refine ch_v (R := []) rfl rfl (oc_assign (x := .val _) rfl rfl) trivial ?_
  refine ck_nil ?_
  refine aw_seq ?_
  refine aw_seq ?_
  refine aw_text rfl ?_
  refine ch_v (R := []) rfl rfl (oc_move (x := .sl _ _ _) rfl rfl) trivial ?_
  refine ch_v (R := []) rfl rfl (oc_len rfl rfl (by kernel_rfl)) trivial ?_
  refine ch_v (R := []) rfl rfl (oc_move (x := .val _) rfl rfl) trivial ?_
  refine ck_nil ?_
  refine aw_block ?_
  refine aw_loop (ι := Nat) (fun k => ⟨[(0, slS l), (3, vs (rbAll l k).1), (4, vi (rbAll l k).2), (11, slS l), (12, vi l.length), (13, vi k)], []⟩) (fun k => k ≤ l.length) (fun k => l.length - k) 0 (Nat.zero_le _) (Le.sub (by repeat (first | trivial | refine ⟨.inr rfl, ?_⟩ | refine ⟨.inr (vi_eq (by omega)), ?_⟩)) (by repeat (first | trivial | refine ⟨rfl, ?_⟩))) ?_
  intro k hI
  refine aw_seq ?_
  refine aw_text rfl ?_
  refine ch_v (R := []) rfl rfl (oc_binZ rfl rfl rfl rfl) trivial ?_
  refine ck_nil ?_
  refine aw_seq ?_
  refine aw_cond rfl (fun hb => ?_) (fun hb => ?_)
  · have hlt : k < l.length := by have h0 := of_decide_eq_true hb; omega
    have hps : (l.getD k ByteArray.empty).size ≤ 10000 := hl.size k
    have hll := hl.len
    refine aw_skip ?_
    refine aw_seq ?_
    refine aw_block ?_
    refine aw_seq ?_
    refine aw_text rfl ?_
    refine ch_v (R := []) rfl rfl ((by first | exact oc_indexN rfl rfl rfl (by kernel_rfl) (by omega) | exact oc_index rfl rfl rfl (by kernel_rfl) (by omega) (by omega) rfl)) trivial ?_
    refine ch_v (R := []) rfl rfl (oc_load rfl rfl (by kernel_rfl) cells_str) trivial ?_
    refine ch_v (R := []) rfl rfl (oc_assign (x := .val _) rfl rfl) trivial ?_
    refine ck_nil ?_
    refine aw_seq ?_
    refine aw_text rfl ?_
    refine ch_v (R := []) rfl rfl (oc_assign (x := .val _) rfl rfl) trivial ?_
    refine ck_nil ?_
    refine aw_block ?_
    refine aw_loop (ι := Nat) (fun i => ⟨[(0, slS l), (3, vs (rbPart l (l.getD k ByteArray.empty) (rbAll l k) i).1), (4, vi (rbPart l (l.getD k ByteArray.empty) (rbAll l k) i).2), (11, slS l), (12, vi l.length), (13, vi k), (6, vs (l.getD k ByteArray.empty)), (7, vi i)], []⟩) (fun i => i ≤ (l.getD k ByteArray.empty).size) (fun i => (l.getD k ByteArray.empty).size - i) 0 (Nat.zero_le _) (Le.sub (by repeat (first | trivial | refine ⟨.inr rfl, ?_⟩ | refine ⟨.inr (vi_eq (by omega)), ?_⟩)) (by repeat (first | trivial | refine ⟨rfl, ?_⟩))) ?_
    intro i hI
    refine aw_seq ?_
    refine aw_seq ?_
    refine aw_text rfl ?_
    refine ch_v (R := []) rfl rfl (oc_move (x := .val _) rfl rfl) trivial ?_
    refine ch_v (R := []) rfl rfl (oc_move (x := .val _) rfl rfl) trivial ?_
    refine ch_v (R := []) rfl rfl (oc_len_str rfl rfl (by kernel_rfl)) trivial ?_
    refine ch_v (R := []) rfl rfl (oc_binZ rfl rfl rfl rfl) trivial ?_
    refine ck_nil ?_
    refine aw_cond rfl (fun hb => ?_) (fun hb => ?_)
    · have hli : i < (l.getD k ByteArray.empty).size := by have h0 := of_decide_eq_true hb; omega
      refine aw_skip ?_
      refine aw_seq ?_
      refine aw_block ?_
      refine aw_seq ?_
      refine aw_text rfl ?_
      refine ch_v (R := []) rfl rfl (oc_assign (x := .val _) rfl rfl) trivial ?_
      refine ck_nil ?_
      refine aw_block ?_
      refine aw_loop (ι := Nat) (fun j => ⟨[(0, slS l), (3, vs (rbRow l (l.getD k ByteArray.empty) i (rbPart l (l.getD k ByteArray.empty) (rbAll l k) i) j).1), (4, vi (rbRow l (l.getD k ByteArray.empty) i (rbPart l (l.getD k ByteArray.empty) (rbAll l k) i) j).2), (11, slS l), (12, vi l.length), (13, vi k), (6, vs (l.getD k ByteArray.empty)), (7, vi i), (8, vi ((j + 2 : Nat) : Int))], []⟩) (fun j => j ≤ 7) (fun j => 7 - j) 0 (Nat.zero_le _) (Le.sub (by repeat (first | trivial | refine ⟨.inr rfl, ?_⟩ | refine ⟨.inr (vi_eq (by omega)), ?_⟩)) (by repeat (first | trivial | refine ⟨rfl, ?_⟩))) ?_
      intro j hI
      refine aw_seq ?_
      refine aw_seq ?_
      refine aw_text rfl ?_
      refine ch_v (R := []) rfl rfl (oc_move (x := .val _) rfl rfl) trivial ?_
      refine ch_v (R := []) rfl rfl (oc_binZ rfl rfl rfl rfl) trivial ?_
      refine ch_v (R := []) rfl rfl (oc_move (x := .val _) rfl rfl) trivial ?_
      refine ch_g (R := []) rfl rfl rfl gate_t (fun hC => oc_move (x := .val _) rfl rfl) (fun hC => ⟨(by first | rfl | exact hC | (simp only [Bool.and_eq_true] at hC; first | exact hC.1 | exact hC.1.1 | exact hC.2) | simp_all), trivial⟩) trivial ?_
      refine ch_g (R := []) rfl rfl rfl gate_t (fun hC => oc_move (x := .val _) rfl rfl) (fun hC => ⟨(by first | rfl | exact hC | (simp only [Bool.and_eq_true] at hC; first | exact hC.1 | exact hC.1.1 | exact hC.2) | simp_all), trivial⟩) trivial ?_
      refine ch_g (R := []) rfl rfl rfl gate_t (fun hC => oc_binZ rfl rfl rfl (by first | exact binW_add (by omega) (by omega) | rfl)) (fun hC => ⟨(by first | rfl | exact hC | (simp only [Bool.and_eq_true] at hC; first | exact hC.1 | exact hC.1.1 | exact hC.2) | simp_all), (by first | rfl | exact hC | (simp only [Bool.and_eq_true] at hC; first | exact hC.1 | exact hC.1.1 | exact hC.2) | simp_all), trivial⟩) trivial ?_
      refine ch_g (R := []) rfl rfl rfl gate_t (fun hC => oc_move (x := .val _) rfl rfl) (fun hC => ⟨(by first | rfl | exact hC | (simp only [Bool.and_eq_true] at hC; first | exact hC.1 | exact hC.1.1 | exact hC.2) | simp_all), trivial⟩) trivial ?_
      refine ch_g (R := []) rfl rfl rfl gate_t (fun hC => oc_len_str rfl rfl (by kernel_rfl)) (fun hC => ⟨(by first | rfl | exact hC | (simp only [Bool.and_eq_true] at hC; first | exact hC.1 | exact hC.1.1 | exact hC.2) | simp_all), trivial⟩) trivial ?_
      refine ch_g (R := []) rfl rfl rfl gate_t (fun hC => oc_binZ rfl rfl rfl rfl) (fun hC => ⟨(by first | rfl | exact hC | (simp only [Bool.and_eq_true] at hC; first | exact hC.1 | exact hC.1.1 | exact hC.2) | simp_all), (by first | rfl | exact hC | (simp only [Bool.and_eq_true] at hC; first | exact hC.1 | exact hC.1.1 | exact hC.2) | simp_all), trivial⟩) trivial ?_
      refine ch_v (R := []) rfl rfl (oc_and rfl rfl rfl rfl (by first | exact fun h => h | simp_all)) trivial ?_
      refine ck_nil ?_
      refine aw_cond rfl (fun hb => ?_) (fun hb => ?_)
      · have hn : j + 2 ≤ 8 ∧ i + (j + 2) ≤ (l.getD k ByteArray.empty).size := by simp only [Bool.and_eq_true, decide_eq_true_eq] at hb; omega
        have hx := ex_nat (l.getD k ByteArray.empty) i (j + 2)
        have hxs := ex_size (l.getD k ByteArray.empty) i (j + 2) hn.2
        refine aw_skip ?_
        refine aw_seq ?_
        refine aw_block ?_
        refine aw_seq ?_
        refine aw_text rfl ?_
        refine ch_v (R := []) rfl rfl (oc_move (x := .val _) rfl rfl) trivial ?_
        refine ch_v (R := []) rfl rfl (oc_move (x := .val _) rfl rfl) trivial ?_
        refine ch_v (R := []) rfl rfl (oc_move (x := .val _) rfl rfl) trivial ?_
        refine ch_v (R := []) rfl rfl (oc_move (x := .val _) rfl rfl) trivial ?_
        refine ch_v (R := []) rfl rfl (oc_binZ rfl rfl rfl (by first | exact binW_add (by omega) (by omega) | rfl)) trivial ?_
        refine ch_v (R := []) rfl rfl (OC.cast (oc_substr rfl rfl rfl rfl (by kernel_rfl) (by omega) (by omega) (by omega)) (show Av.val (.string ((l.getD k ByteArray.empty).extract (i : Int).toNat ((i : Int) + ((j + 2 : Nat) : Int)).toNat)) = vs ((l.getD k ByteArray.empty).extract i (i + (j + 2))) from by rw [hx])) trivial ?_
        refine ch_v (R := []) rfl rfl (oc_assign (x := .val _) rfl rfl) trivial ?_
        refine ck_nil ?_
        refine aw_seq ?_
        refine aw_text rfl ?_
        refine ch_v (R := []) rfl rfl (oc_move (x := .sl _ _ _) rfl rfl) trivial ?_
        refine ch_v (R := []) rfl rfl (oc_move (x := .val _) rfl rfl) trivial ?_
        refine ch_v (R := []) rfl rfl (oc_call rfl (by kernel_rfl) (saves_pc l hl ((l.getD k ByteArray.empty).extract i (i + (j + 2))) (by rw [hxs]; omega) (by rw [hxs]; omega)) rfl (by simp only [PureL, Pure, and_self, pure_slI, pure_slS, rowAv, pieces_pure, implies_true]) (by simp only [PureL, Pure, and_self, pure_slI, pure_slS, rowAv, pieces_pure, implies_true])) trivial ?_
        refine ch_v (R := []) rfl rfl (oc_assign (x := .val _) rfl rfl) trivial ?_
        refine ck_nil ?_
        refine aw_seq ?_
        refine aw_text rfl ?_
        refine ch_v (R := []) rfl rfl (oc_move (x := .val _) rfl rfl) trivial ?_
        refine ch_v (R := []) rfl rfl (oc_move (x := .val _) rfl rfl) trivial ?_
        refine ch_v (R := []) rfl rfl (oc_binZ rfl rfl rfl rfl) trivial ?_
        refine ch_v (R := []) rfl rfl (oc_move (x := .val _) rfl rfl) trivial ?_
        refine ch_g (R := []) rfl rfl rfl gate_f (fun hC => oc_move (x := .val _) rfl rfl) (fun hC => ⟨(by first | rfl | exact hC | (simp only [Bool.and_eq_true] at hC; first | exact hC.1 | exact hC.1.1 | exact hC.2) | simp_all), trivial⟩) trivial ?_
        refine ch_g (R := []) rfl rfl rfl gate_f (fun hC => oc_move (x := .val _) rfl rfl) (fun hC => ⟨(by first | rfl | exact hC | (simp only [Bool.and_eq_true] at hC; first | exact hC.1 | exact hC.1.1 | exact hC.2) | simp_all), trivial⟩) trivial ?_
        refine ch_g (R := []) rfl rfl rfl gate_f (fun hC => oc_binZ rfl rfl rfl rfl) (fun hC => ⟨(by first | rfl | exact hC | (simp only [Bool.and_eq_true] at hC; first | exact hC.1 | exact hC.1.1 | exact hC.2) | simp_all), (by first | rfl | exact hC | (simp only [Bool.and_eq_true] at hC; first | exact hC.1 | exact hC.1.1 | exact hC.2) | simp_all), trivial⟩) trivial ?_
        refine ch_g (R := []) rfl rfl rfl gate_f (fun hC => oc_move (x := .val _) rfl rfl) (fun hC => ⟨(by first | rfl | exact hC | (simp only [Bool.and_eq_true] at hC; first | exact hC.1 | exact hC.1.1 | exact hC.2) | simp_all), trivial⟩) trivial ?_
        refine ch_g (R := []) rfl rfl rfl gate_gt (fun hC => oc_move (x := .val _) rfl rfl) (fun hC => ⟨(by first | rfl | exact hC | (simp only [Bool.and_eq_true] at hC; first | exact hC.1 | exact hC.1.1 | exact hC.2) | simp_all), trivial⟩) trivial ?_
        refine ch_g (R := []) rfl rfl rfl gate_gt (fun hC => oc_binZ rfl rfl rfl rfl) (fun hC => ⟨(by first | rfl | exact hC | (simp only [Bool.and_eq_true] at hC; first | exact hC.1 | exact hC.1.1 | exact hC.2) | simp_all), (by first | rfl | exact hC | (simp only [Bool.and_eq_true] at hC; first | exact hC.1 | exact hC.1.1 | exact hC.2) | simp_all), trivial⟩) trivial ?_
        refine ch_gp rfl rfl rfl rfl gate_f (fun hC => (by first | rfl | exact hC | (simp only [Bool.and_eq_true] at hC; first | exact hC.1 | exact hC.1.1 | exact hC.2) | simp_all)) rfl (fun hC E a hp hq => pk_and rfl (by first | exact fun h => tt2 hC h | exact fun h => h | simp_all) hp) ?_
        refine ch_g (R := []) rfl rfl rfl gate_f (fun hC => oc_move (x := .val _) rfl rfl) (fun hC => ⟨(by first | rfl | exact hC | (simp only [Bool.and_eq_true] at hC; first | exact hC.1 | exact hC.1.1 | exact hC.2) | simp_all), trivial⟩) trivial ?_
        refine ch_g (R := []) rfl rfl rfl gate_gt (fun hC => oc_move (x := .val _) rfl rfl) (fun hC => ⟨(by first | rfl | exact hC | (simp only [Bool.and_eq_true] at hC; first | exact hC.1 | exact hC.1.1 | exact hC.2) | simp_all), trivial⟩) trivial ?_
        refine ch_g (R := []) rfl rfl rfl gate_gt (fun hC => oc_len_str rfl rfl (by kernel_rfl)) (fun hC => ⟨(by first | rfl | exact hC | (simp only [Bool.and_eq_true] at hC; first | exact hC.1 | exact hC.1.1 | exact hC.2) | simp_all), trivial⟩) trivial ?_
        refine ch_g (R := []) rfl rfl rfl gate_gt (fun hC => oc_move (x := .val _) rfl rfl) (fun hC => ⟨(by first | rfl | exact hC | (simp only [Bool.and_eq_true] at hC; first | exact hC.1 | exact hC.1.1 | exact hC.2) | simp_all), trivial⟩) trivial ?_
        refine ch_g (R := []) rfl rfl rfl gate_gt (fun hC => oc_len_str rfl rfl (by kernel_rfl)) (fun hC => ⟨(by first | rfl | exact hC | (simp only [Bool.and_eq_true] at hC; first | exact hC.1 | exact hC.1.1 | exact hC.2) | simp_all), trivial⟩) trivial ?_
        refine ch_g (R := []) rfl rfl rfl gate_gt (fun hC => oc_binZ rfl rfl rfl rfl) (fun hC => ⟨(by first | rfl | exact hC | (simp only [Bool.and_eq_true] at hC; first | exact hC.1 | exact hC.1.1 | exact hC.2) | simp_all), (by first | rfl | exact hC | (simp only [Bool.and_eq_true] at hC; first | exact hC.1 | exact hC.1.1 | exact hC.2) | simp_all), trivial⟩) trivial ?_
        refine ch_g (R := []) rfl rfl rfl gate_gt (fun hC => oc_move (x := .val _) rfl rfl) (fun hC => ⟨(by first | rfl | exact hC | (simp only [Bool.and_eq_true] at hC; first | exact hC.1 | exact hC.1.1 | exact hC.2) | simp_all), trivial⟩) trivial ?_
        refine ch_g (R := []) rfl rfl rfl gate_gf (fun hC => oc_move (x := .val _) rfl rfl) (fun hC => ⟨(by first | rfl | exact hC | (simp only [Bool.and_eq_true] at hC; first | exact hC.1 | exact hC.1.1 | exact hC.2) | simp_all), trivial⟩) trivial ?_
        refine ch_g (R := []) rfl rfl rfl gate_gf (fun hC => oc_len_str rfl rfl (by kernel_rfl)) (fun hC => ⟨(by first | rfl | exact hC | (simp only [Bool.and_eq_true] at hC; first | exact hC.1 | exact hC.1.1 | exact hC.2) | simp_all), trivial⟩) trivial ?_
        refine ch_g (R := []) rfl rfl rfl gate_gf (fun hC => oc_move (x := .val _) rfl rfl) (fun hC => ⟨(by first | rfl | exact hC | (simp only [Bool.and_eq_true] at hC; first | exact hC.1 | exact hC.1.1 | exact hC.2) | simp_all), trivial⟩) trivial ?_
        refine ch_g (R := []) rfl rfl rfl gate_gf (fun hC => oc_len_str rfl rfl (by kernel_rfl)) (fun hC => ⟨(by first | rfl | exact hC | (simp only [Bool.and_eq_true] at hC; first | exact hC.1 | exact hC.1.1 | exact hC.2) | simp_all), trivial⟩) trivial ?_
        refine ch_g (R := []) rfl rfl rfl gate_gf (fun hC => oc_binZ rfl rfl rfl rfl) (fun hC => ⟨(by first | rfl | exact hC | (simp only [Bool.and_eq_true] at hC; first | exact hC.1 | exact hC.1.1 | exact hC.2) | simp_all), (by first | rfl | exact hC | (simp only [Bool.and_eq_true] at hC; first | exact hC.1 | exact hC.1.1 | exact hC.2) | simp_all), trivial⟩) trivial ?_
        refine ch_g (R := []) rfl rfl rfl gate_gf (fun hC => oc_move (x := .val _) rfl rfl) (fun hC => ⟨(by first | rfl | exact hC | (simp only [Bool.and_eq_true] at hC; first | exact hC.1 | exact hC.1.1 | exact hC.2) | simp_all), trivial⟩) trivial ?_
        refine ch_g (R := []) rfl rfl rfl gate_gt (fun hC => oc_move (x := .val _) rfl rfl) (fun hC => ⟨(by first | rfl | exact hC | (simp only [Bool.and_eq_true] at hC; first | exact hC.1 | exact hC.1.1 | exact hC.2) | simp_all), trivial⟩) trivial ?_
        refine ch_g (R := []) rfl rfl rfl gate_gt (fun hC => oc_move (x := .val _) rfl rfl) (fun hC => ⟨(by first | rfl | exact hC | (simp only [Bool.and_eq_true] at hC; first | exact hC.1 | exact hC.1.1 | exact hC.2) | simp_all), trivial⟩) trivial ?_
        refine ch_g (R := []) rfl rfl rfl gate_gt (fun hC => oc_str_lt rfl rfl rfl) (fun hC => ⟨(by first | rfl | exact hC | (simp only [Bool.and_eq_true] at hC; first | exact hC.1 | exact hC.1.1 | exact hC.2) | simp_all), (by first | rfl | exact hC | (simp only [Bool.and_eq_true] at hC; first | exact hC.1 | exact hC.1.1 | exact hC.2) | simp_all), trivial⟩) trivial ?_
        refine ch_gp rfl rfl rfl rfl gate_gf (fun hC => (by first | rfl | exact hC | (simp only [Bool.and_eq_true] at hC; first | exact hC.1 | exact hC.1.1 | exact hC.2) | simp_all)) rfl (fun hC E a hp hq => pk_and rfl (by first | exact fun h => tt2 hC h | exact fun h => h | simp_all) hp) ?_
        refine ch_gp rfl rfl rfl rfl gate_gt (fun hC => (by first | rfl | exact hC | (simp only [Bool.and_eq_true] at hC; first | exact hC.1 | exact hC.1.1 | exact hC.2) | simp_all)) rfl (fun hC E a hp hq => pk_or rfl (by first | exact fun h => tt2 hC h | exact fun h => h | simp_all) hq) ?_
        refine ch_gp rfl rfl rfl rfl gate_f (fun hC => (by first | rfl | exact hC | (simp only [Bool.and_eq_true] at hC; first | exact hC.1 | exact hC.1.1 | exact hC.2) | simp_all)) rfl (fun hC E a hp hq => pk_and rfl (by first | exact fun h => tt2 hC h | exact fun h => h | simp_all) hp) ?_
        refine ch_v (R := []) rfl rfl (oc_or rfl rfl rfl (by first | exact fun h => h | simp_all)) trivial ?_
        refine ck_nil ?_
        refine aw_cond rfl (fun hb => ?_) (fun hb => ?_)
        · have hbt : betterB (savesOf l ((l.getD k ByteArray.empty).extract i (i + (j + 2)))) ((l.getD k ByteArray.empty).extract i (i + (j + 2))) (rbRow l (l.getD k ByteArray.empty) i (rbPart l (l.getD k ByteArray.empty) (rbAll l k) i) j) = true := hb
          have e1 : rbRow l (l.getD k ByteArray.empty) i (rbPart l (l.getD k ByteArray.empty) (rbAll l k) i) (j + 1) = (((l.getD k ByteArray.empty).extract i (i + (j + 2))), savesOf l ((l.getD k ByteArray.empty).extract i (i + (j + 2)))) := by
            show (if _ then rbStep _ _ _ _ _ else _) = _
            rw [if_pos hn]
            unfold rbStep
            rw [if_pos hbt]
          refine aw_seq ?_
          refine aw_text rfl ?_
          refine ch_v (R := []) rfl rfl (oc_move (x := .val _) rfl rfl) trivial ?_
          refine ch_v (R := []) rfl rfl (oc_assign (x := .val _) rfl rfl) trivial ?_
          refine ck_nil ?_
          refine aw_text rfl ?_
          refine ch_v (R := []) rfl rfl (oc_move (x := .val _) rfl rfl) trivial ?_
          refine ch_v (R := []) rfl rfl (oc_assign (x := .val _) rfl rfl) trivial ?_
          refine ck_nil ?_
          refine aw_text rfl ?_
          refine ch_v (R := []) rfl rfl (oc_move (x := .val _) rfl rfl) trivial ?_
          refine ch_v (R := []) rfl rfl (oc_binZ rfl rfl rfl (by first | exact binW_add (by omega) (by omega) | rfl)) trivial ?_
          refine ch_v (R := []) rfl rfl (oc_assign (x := .val _) rfl rfl) trivial ?_
          refine ck_nil ?_
          exact ⟨j + 1, by omega, by omega, Le.sub (by repeat (first | trivial | refine ⟨.inr rfl, ?_⟩ | refine ⟨.inr (vi_eq (by omega)), ?_⟩ | refine ⟨.inr (by rw [e1]; rfl), ?_⟩)) trivial⟩
        · have hbt : ¬ betterB (savesOf l ((l.getD k ByteArray.empty).extract i (i + (j + 2)))) ((l.getD k ByteArray.empty).extract i (i + (j + 2))) (rbRow l (l.getD k ByteArray.empty) i (rbPart l (l.getD k ByteArray.empty) (rbAll l k) i) j) = true := by intro hc; have : betterB (savesOf l ((l.getD k ByteArray.empty).extract i (i + (j + 2)))) ((l.getD k ByteArray.empty).extract i (i + (j + 2))) (rbRow l (l.getD k ByteArray.empty) i (rbPart l (l.getD k ByteArray.empty) (rbAll l k) i) j) = false := hb; rw [hc] at this; cases this
          have e1 : rbRow l (l.getD k ByteArray.empty) i (rbPart l (l.getD k ByteArray.empty) (rbAll l k) i) (j + 1) = (rbRow l (l.getD k ByteArray.empty) i (rbPart l (l.getD k ByteArray.empty) (rbAll l k) i) j) := by
            show (if _ then rbStep _ _ _ _ _ else _) = _
            rw [if_pos hn]
            unfold rbStep
            rw [if_neg hbt]
          refine aw_skip ?_
          refine aw_text rfl ?_
          refine ch_v (R := []) rfl rfl (oc_move (x := .val _) rfl rfl) trivial ?_
          refine ch_v (R := []) rfl rfl (oc_binZ rfl rfl rfl (by first | exact binW_add (by omega) (by omega) | rfl)) trivial ?_
          refine ch_v (R := []) rfl rfl (oc_assign (x := .val _) rfl rfl) trivial ?_
          refine ck_nil ?_
          exact ⟨j + 1, by omega, by omega, Le.sub (by repeat (first | trivial | refine ⟨.inr rfl, ?_⟩ | refine ⟨.inr (vi_eq (by omega)), ?_⟩ | refine ⟨.inr (by rw [e1]; rfl), ?_⟩)) trivial⟩
      · have hn : ¬ (j + 2 ≤ 8 ∧ i + (j + 2) ≤ (l.getD k ByteArray.empty).size) := by intro hc; simp only [Bool.and_eq_false_iff, decide_eq_false_iff_not] at hb; omega
        have hend : rbPart l (l.getD k ByteArray.empty) (rbAll l k) (i + 1) = (rbRow l (l.getD k ByteArray.empty) i (rbPart l (l.getD k ByteArray.empty) (rbAll l k) i) j) := rbRow_stop hI hn
        refine aw_exit ?_
        refine aw_text rfl ?_
        refine ch_v (R := []) rfl rfl (oc_move (x := .val _) rfl rfl) trivial ?_
        refine ch_v (R := []) rfl rfl (oc_binZ rfl rfl rfl (by first | exact binW_add (by omega) (by omega) | rfl)) trivial ?_
        refine ch_v (R := []) rfl rfl (oc_assign (x := .val _) rfl rfl) trivial ?_
        refine ck_nil ?_
        exact ⟨i + 1, by omega, by omega, Le.sub (by repeat (first | trivial | refine ⟨.inr rfl, ?_⟩ | refine ⟨.inr (vi_eq (by omega)), ?_⟩ | refine ⟨.inr (by rw [hend]; rfl), ?_⟩)) trivial⟩
    · have hie : i = (l.getD k ByteArray.empty).size := by have h0 := of_decide_eq_false hb; omega
      have hp1 : rbAll l (k + 1) = (rbPart l (l.getD k ByteArray.empty) (rbAll l k) i) := by show rbPart _ _ _ _ = _; rw [hie]
      refine aw_exit ?_
      refine aw_text rfl ?_
      refine ch_v (R := []) rfl rfl (oc_binZ rfl rfl rfl (by first | exact binW_add (by omega) (by omega) | rfl)) trivial ?_
      refine ch_v (R := []) rfl rfl (oc_move (x := .val _) rfl rfl) trivial ?_
      refine ck_nil ?_
      exact ⟨k + 1, by omega, by omega, Le.sub (by repeat (first | trivial | refine ⟨.inr rfl, ?_⟩ | refine ⟨.inr (vi_eq (by omega)), ?_⟩ | refine ⟨.inr (by rw [hp1]; rfl), ?_⟩)) trivial⟩
  · have hge : k = l.length := by have h0 := of_decide_eq_false hb; omega
    refine aw_exit ?_
    refine aw_seq ?_
    refine aw_text rfl ?_
    refine ch_v (R := []) rfl rfl (oc_move (x := .val _) rfl rfl) trivial ?_
    refine ch_v (R := []) rfl rfl (oc_assign (x := .val _) rfl rfl) trivial ?_
    refine ck_nil ?_
    refine aw_ret ?_
    exact ⟨.inl rfl, ResOk.tmp rfl (by rw [hge]; rfl), trivial⟩
end Go.Proofs.YtpbaiighifhfnaaDoor
namespace Go.Proofs.YtpbaiighifhfnaaDoor
open Go.RowKit
set_option maxRecDepth 100000
set_option linter.unusedVariables false
set_option linter.unusedSimpArgs false
theorem ex_len {p : ByteArray} {a b : Nat} (h : a ≤ b) (hb : b ≤ p.size) : (p.extract a b).size = b - a := by rw [ByteArray.size_extract]; omega
theorem wt_woF {p r : ByteArray} (hr : 0 < r.size) : ∀ (f i fr : Nat) (out : List ByteArray), fr ≤ i → i ≤ p.size → wt (woF p r f i fr out) ≤ wt out + (p.size - fr) + 1
  | 0, i, fr, out, h1, h2 => by
    have := ex_len (p := p) (a := fr) (b := p.size) (by omega) (Nat.le_refl _)
    unfold woF
    rw [wt_append]
    simp only [wt]
    omega
  | f + 1, i, fr, out, h1, h2 => by
    unfold woF
    split
    · split
      · have h3 := wt_woF (p := p) hr f (i + r.size) (i + r.size) (out ++ [p.extract fr i]) (Nat.le_refl _) (by omega)
        have := ex_len (p := p) (a := fr) (b := i) h1 h2
        rw [wt_append] at h3
        simp only [wt] at h3
        omega
      · have := wt_woF (p := p) hr f (i + 1) fr out (by omega) (by omega)
        omega
    · have := ex_len (p := p) (a := fr) (b := p.size) (by omega) (Nat.le_refl _)
      rw [wt_append]
      simp only [wt]
      omega
theorem wt_woA {r : ByteArray} (hr : 0 < r.size) (l : List ByteArray) : ∀ k, k ≤ l.length → wt (woA l r k) ≤ wt (l.take k)
  | 0, _ => Nat.le_refl _
  | k + 1, hk => by
    have h1 := wt_woA hr l k (by omega)
    have h2 := wt_woF hr ((l.getD k ByteArray.empty).size + 1) 0 0 (woA l r k) (p := l.getD k ByteArray.empty) (Nat.le_refl _) (Nat.zero_le _)
    have e : l.take (k + 1) = l.take k ++ [l.getD k ByteArray.empty] := by rw [List.take_add_one]; simp [show k < l.length from hk]
    unfold woA
    rw [e, wt_append]
    have : wt [l.getD k ByteArray.empty] = (l.getD k ByteArray.empty).size + 1 := by simp [wt]
    omega
theorem wt_wo {r : ByteArray} (hr : 0 < r.size) (l : List ByteArray) : wt (woA l r l.length) ≤ wt l := by
  have := wt_woA hr l l.length (Nat.le_refl _)
  rwa [List.take_length] at this
/-- None, or a row of 2 to 8 bytes. -/
def RowOk (b : RowP) : Prop := b.1.size = 0 ∨ (2 ≤ b.1.size ∧ b.1.size ≤ 8)
theorem rbRow_ok {l : List ByteArray} {p : ByteArray} {i : Nat} {b : RowP} (h : RowOk b) : ∀ k, RowOk (rbRow l p i b k)
  | 0 => h
  | k + 1 => by
    have h1 := rbRow_ok h (l := l) (p := p) (i := i) k
    unfold rbRow
    split
    · rename_i hc
      unfold rbStep
      split
      · right
        show 2 ≤ (p.extract i (i + (k + 2))).size ∧ (p.extract i (i + (k + 2))).size ≤ 8
        rw [ex_size p i (k + 2) hc.2]
        omega
      · exact h1
    · exact h1
theorem rbPart_ok {l : List ByteArray} {p : ByteArray} {b : RowP} (h : RowOk b) : ∀ k, RowOk (rbPart l p b k)
  | 0 => h
  | k + 1 => rbRow_ok (rbPart_ok h k) 7
theorem rbAll_ok (l : List ByteArray) : ∀ k, RowOk (rbAll l k)
  | 0 => .inl rfl
  | k + 1 => rbPart_ok (rbAll_ok l k) _
def rbL (l : List ByteArray) : ByteArray := (rbAll l l.length).1
def rcF (most : Int) : Nat → List ByteArray → List ByteArray → List ByteArray
  | 0, out, _ => out
  | f + 1, out, parts => if (out.length : Int) < most ∧ out.length < 32 then (if rbL parts = ⟨#[]⟩ then out else rcF most f (out ++ [rbL parts]) (woA parts (rbL parts) parts.length)) else out
def rchooseP (l : List ByteArray) (most : Int) : List ByteArray := rcF most 33 [] l
set_option maxHeartbeats 800000 in
theorem rchoose_pc (l : List ByteArray) (hl : wt l ≤ 10000) (most : Int) : PC Tryd.prog 30 [slS l, vi most] (slS (rchooseP l most)) := by
  refine FC.body 4 33 Tryd.func30 rfl (by kernel_rfl) ?_
  have hll0 := wt_len l
  refine aw_seq ?_
  refine aw_text rfl ?_
  refine ch_v (R := []) rfl rfl (oc_assign (x := .val _) rfl rfl) trivial ?_
  refine ck_nil ?_
  refine aw_seq ?_
  refine aw_text rfl ?_
  refine ch_u rfl rfl (oc_buildSlice_own (ps := []) (xs := []) (e := 9) (by_ := 16) (zs := [.string ⟨#[]⟩]) 2 rfl (by kernel_rfl) (by kernel_rfl) rfl rfl rfl rfl (by decide)) ⟨rfl, trivial⟩ ?_
  refine ch_v (R := []) rfl rfl (oc_move (x := .sl _ _ _) rfl rfl) trivial ?_
  refine ch_u rfl rfl (oc_append (e := 9) (k := 1) (by_ := 16) (zs := [.string ⟨#[]⟩]) (cs := []) (ds := l.map vs) 3 rfl rfl rfl (by kernel_rfl) (by kernel_rfl) rfl (by decide) (by decide) rfl (by simp) (app_vs _) (by omega) (by omega)) ⟨rfl, rfl, trivial⟩ ?_
  refine ch_v (R := []) rfl rfl (oc_assign (x := .osl _ _ _) rfl rfl) trivial ?_
  refine ck_nil ?_
  refine aw_seq ?_
  refine aw_text rfl ?_
  refine ch_v (R := []) rfl rfl (oc_assign (x := .val _) rfl rfl) trivial ?_
  refine ck_nil ?_
  refine aw_seq ?_
  refine aw_block ?_
  refine aw_le (Le.freeze 5 3 (fun j => vs (l.getD j ByteArray.empty)) rfl rfl (by simp) (fun j hj => row_vs l j (by omega))) ?_
  refine aw_le (Le.nameNil 6 0 1 9 rfl rfl) ?_
  refine aw_le (Le.sub (τ := ⟨[(1, vi most), (5, slS l), (6, .osl 1 0 0)], [(0, .live 9 []), (1, .unborn)]⟩) (by refine ⟨.inr rfl, .inr (by show Av.sl 1 (0 + l.length) _ = slS l; rw [Nat.zero_add]; rfl), .inr rfl, trivial⟩) ⟨rfl, rfl, trivial⟩) ?_
  refine aw_loop (ι := ChSt) (fun q => ⟨[(1, vi most), (5, slS q.2), (6, .osl 1 0 q.1.length)], [(0, .live 9 (q.1.map vs)), (1, .unborn)]⟩) (fun q => rchooseP l most = rcF most (33 - q.1.length) q.1 q.2 ∧ q.1.length ≤ 32 ∧ wt q.2 ≤ 10000) (fun q => 33 - q.1.length) ([], l) (⟨rfl, Nat.zero_le _, hl⟩) (Le.sub (by repeat (first | trivial | refine ⟨.inr rfl, ?_⟩ | refine ⟨.inr (vi_eq (by omega)), ?_⟩)) (by repeat (first | trivial | refine ⟨rfl, ?_⟩))) ?_
  intro q hI
  refine aw_seq ?_
  refine aw_seq ?_
  refine aw_text rfl ?_
  refine ch_v (R := []) rfl rfl (oc_move (x := .osl _ _ _) rfl rfl) trivial ?_
  refine ch_v (R := [(_, .live _ _)]) rfl rfl (oc_len_own rfl rfl (by kernel_rfl)) ⟨rfl, trivial⟩ ?_
  refine ch_v (R := []) rfl rfl (oc_move (x := .val _) rfl rfl) trivial ?_
  refine ch_v (R := []) rfl rfl (oc_binZ rfl rfl rfl rfl) trivial ?_
  refine ch_v (R := []) rfl rfl (oc_move (x := .val _) rfl rfl) trivial ?_
  refine ch_g (R := []) rfl rfl rfl gate_t (fun hC => oc_move (x := .osl _ _ _) rfl rfl) (fun hC => ⟨(by first | rfl | exact hC | (simp only [Bool.and_eq_true] at hC; first | exact hC.1 | exact hC.1.1 | exact hC.2) | simp_all), trivial⟩) trivial ?_
  refine ch_g (R := [(_, .live _ _)]) rfl rfl rfl gate_t (fun hC => oc_len_own rfl rfl (by kernel_rfl)) (fun hC => ⟨(by first | rfl | exact hC | (simp only [Bool.and_eq_true] at hC; first | exact hC.1 | exact hC.1.1 | exact hC.2) | simp_all), trivial⟩) ⟨rfl, trivial⟩ ?_
  refine ch_g (R := []) rfl rfl rfl gate_t (fun hC => oc_binZ rfl rfl rfl rfl) (fun hC => ⟨(by first | rfl | exact hC | (simp only [Bool.and_eq_true] at hC; first | exact hC.1 | exact hC.1.1 | exact hC.2) | simp_all), (by first | rfl | exact hC | (simp only [Bool.and_eq_true] at hC; first | exact hC.1 | exact hC.1.1 | exact hC.2) | simp_all), trivial⟩) trivial ?_
  refine ch_v (R := []) rfl rfl (oc_and rfl rfl rfl rfl (by first | exact fun h => h | simp_all)) trivial ?_
  refine ck_nil ?_
  refine aw_cond rfl (fun hb => ?_) (fun hb => ?_)
  · have hlt : (q.1.length : Int) < most ∧ q.1.length < 32 := by simp only [Bool.and_eq_true, decide_eq_true_eq] at hb; omega
    have hro : RowOk (rbAll q.2 q.2.length) := rbAll_ok _ _
    refine aw_skip ?_
    refine aw_block ?_
    refine aw_seq ?_
    refine aw_text rfl ?_
    refine ch_v (R := []) rfl rfl (oc_move (x := .sl _ _ _) rfl rfl) trivial ?_
    refine ch_v (R := []) rfl rfl (oc_call rfl (by kernel_rfl) (rbest_pc q.2 (few_wt hI.2.2)) rfl (by simp only [PureL, Pure, and_self, pure_slI, pure_slS, rowAv, pieces_pure, implies_true]) (by simp only [PureL, Pure, and_self, pure_slI, pure_slS, rowAv, pieces_pure, implies_true])) trivial ?_
    refine ch_v (R := []) rfl rfl (oc_assign (x := .val _) rfl rfl) trivial ?_
    refine ck_nil ?_
    refine aw_seq ?_
    refine aw_seq ?_
    refine aw_text rfl ?_
    refine ch_v (R := []) rfl rfl (oc_move (x := .val _) rfl rfl) trivial ?_
    refine ch_v (R := []) rfl rfl (oc_str_eq rfl rfl rfl) trivial ?_
    refine ck_nil ?_
    refine aw_cond rfl (fun hb => ?_) (fun hb => ?_)
    · have hem : (rbL q.2) = ⟨#[]⟩ := by rw [show ((rbAll q.2 q.2.length).1.toList == (⟨#[]⟩ : ByteArray).toList) = _ from str_empty _] at hb; exact of_decide_eq_true hb
      have hfin : rchooseP l most = q.1 := by rw [hI.1, show 33 - q.1.length = (32 - q.1.length) + 1 from by omega]; show (if _ then _ else _) = _; rw [if_pos hlt, if_pos hem]
      refine aw_seq ?_
      refine aw_le (Le.freeze 6 0 (fun j => vs (q.1.getD j ByteArray.empty)) rfl rfl (by simp) (row_vs _)) ?_
      refine aw_text rfl ?_
      refine ch_v (R := []) rfl rfl (oc_move (x := .sl _ _ _) rfl rfl) trivial ?_
      refine ch_v (R := []) rfl rfl (oc_assign (x := .sl _ _ _) rfl rfl) trivial ?_
      refine ck_nil ?_
      refine aw_ret ?_
      exact ⟨.inl rfl, ResOk.tmp rfl (by rw [hfin]; rfl), trivial⟩
    · have hem : ¬ (rbL q.2) = ⟨#[]⟩ := by rw [show ((rbAll q.2 q.2.length).1.toList == (⟨#[]⟩ : ByteArray).toList) = _ from str_empty _] at hb; exact of_decide_eq_false hb
      have hx2 : 2 ≤ (rbL q.2).size ∧ (rbL q.2).size ≤ 8 := by
        rcases hro with h9 | h9
        · exact absurd (tB_inj (List.eq_nil_of_length_eq_zero (by rw [tB_len]; exact h9))) hem
        · exact h9
      have hch : rchooseP l most = rcF most (33 - (q.1 ++ [(rbL q.2)]).length) (q.1 ++ [(rbL q.2)]) (woA q.2 (rbL q.2) q.2.length) := by rw [hI.1, show 33 - q.1.length = (32 - q.1.length) + 1 from by omega]; show (if _ then _ else _) = _; rw [if_pos hlt, if_neg hem]; congr 1; (first | (simp; done) | (simp; omega))
      refine aw_skip ?_
      refine aw_seq ?_
      refine aw_text rfl ?_
      refine ch_v (R := []) rfl rfl (oc_move (x := .osl _ _ _) rfl rfl) trivial ?_
      refine ch_v (R := []) rfl rfl (oc_move (x := .val _) rfl rfl) trivial ?_
      refine ch_v (R := []) rfl rfl (oc_buildSlice (ps := [.tmp 26]) (xs := [.val _]) (e := 9) (k := 1) (by_ := 16) (zs := [.string ⟨#[]⟩]) rfl (by kernel_rfl) (by kernel_rfl) rfl rfl rfl (by decide) (by decide)) trivial ?_
      refine ch_u rfl rfl (oc_append (e := 9) (k := 1) (by_ := 16) (zs := [.string ⟨#[]⟩]) (cs := q.1.map vs) (ds := [vs (rbL q.2)]) 1 rfl rfl rfl (by kernel_rfl) (by kernel_rfl) rfl (by decide) (by decide) (by simp) rfl (app_vs1 _) (by omega) (by omega)) ⟨rfl, rfl, trivial⟩ ?_
      refine ch_v (R := []) rfl rfl (oc_assign (x := .osl _ _ _) rfl rfl) trivial ?_
      refine ck_nil ?_
      refine aw_le (Le.trans (Le.swap (τ := ⟨[(1, vi most), (5, slS q.2), (6, .osl 1 0 (q.1.length + 1)), (7, vs (rbL q.2))], [(0, .live 9 ((q.1 ++ [(rbL q.2)]).map vs)), (1, .dead)]⟩) 0 1 (by simp) (by simp) ⟨rfl, (ren_pure _ _ (pure_slS _)).symm, rfl, rfl, trivial⟩ ⟨by show lkH _ 1 = some (Hs.live _ (((q.1 ++ [(rbL q.2)]).map vs).map _)); rw [ren_vs, show ((q.1 ++ [(rbL q.2)]).map vs) = q.1.map vs ++ [vs (rbL q.2)] from List.map_append]; rfl, rfl, trivial⟩) (Le.reset (τ := ⟨[(1, vi most), (5, slS q.2), (6, .osl 1 0 (q.1.length + 1)), (7, vs (rbL q.2))], [(0, .live 9 ((q.1 ++ [(rbL q.2)]).map vs)), (1, .unborn)]⟩) [1] (by simp) (by repeat (first | trivial | refine ⟨.inr rfl, ?_⟩)) ⟨by simp [NoN], NoN.of_pure _ (pure_slS _), by simp [NoN], by simp [NoN], trivial⟩ ⟨by rw [if_neg (by decide)]; exact ⟨rfl, non_vs _⟩, by rw [if_pos (by decide)], trivial⟩)) ?_
      refine aw_text rfl ?_
      refine ch_v (R := []) rfl rfl (oc_move (x := .sl _ _ _) rfl rfl) trivial ?_
      refine ch_v (R := []) rfl rfl (oc_move (x := .val _) rfl rfl) trivial ?_
      refine ch_v (R := []) rfl rfl (oc_call rfl (by kernel_rfl) (without_pc q.2 (few_wt hI.2.2) _ (by omega) (by omega)) rfl (by simp only [PureL, Pure, and_self, pure_slI, pure_slS, rowAv, pieces_pure, implies_true]) (by simp only [PureL, Pure, and_self, pure_slI, pure_slS, rowAv, pieces_pure, implies_true])) trivial ?_
      refine ch_v (R := []) rfl rfl (oc_assign (x := .sl _ _ _) rfl rfl) trivial ?_
      refine ck_nil ?_
      exact ⟨((q.1 ++ [(rbL q.2)]), woA q.2 (rbL q.2) q.2.length), ⟨hch, by show (q.1 ++ [_]).length ≤ 32; rw [List.length_append]; simp; omega, by have h9 := wt_wo (r := (rbL q.2)) (by omega) q.2; show wt (woA _ _ _) ≤ _; omega⟩, by show 33 - (q.1 ++ [_]).length < _; rw [List.length_append]; simp; omega, Le.sub (by repeat (first | trivial | refine ⟨.inr rfl, ?_⟩ | refine ⟨.inr (by show lkS _ 6 = Av.osl 1 0 (q.1 ++ [(rbL q.2)]).length; rw [List.length_append]; rfl), ?_⟩)) ⟨rfl, rfl, trivial⟩⟩
  · have hge : ¬ ((q.1.length : Int) < most ∧ q.1.length < 32) := by intro hc; simp only [Bool.and_eq_false_iff, decide_eq_false_iff_not] at hb; omega
    have hfin : rchooseP l most = q.1 := by rw [hI.1]; cases 33 - q.1.length <;> simp [rcF, hge]
    refine aw_exit ?_
    refine aw_seq ?_
    refine aw_le (Le.freeze 6 0 (fun j => vs (q.1.getD j ByteArray.empty)) rfl rfl (by simp) (row_vs _)) ?_
    refine aw_text rfl ?_
    refine ch_v (R := []) rfl rfl (oc_move (x := .sl _ _ _) rfl rfl) trivial ?_
    refine ch_v (R := []) rfl rfl (oc_assign (x := .sl _ _ _) rfl rfl) trivial ?_
    refine ck_nil ?_
    refine aw_ret ?_
    exact ⟨.inl rfl, ResOk.tmp rfl (by rw [hfin]; rfl), trivial⟩
end Go.Proofs.YtpbaiighifhfnaaDoor
namespace Go.Proofs.YtpbaiighifhfnaaDoor
open Go.RowKit Go.Maps
set_option linter.unusedVariables false
/-- A row stands at a place. -/
def stands (p r : ByteArray) (i : Nat) : Prop := i + r.size ≤ p.size ∧ p.extract i (i + r.size) = r
instance (p r : ByteArray) (i : Nat) : Decidable (stands p r i) := by unfold stands; infer_instance
/-- How often it has stood, not over itself; where the last one ends. -/
def grd (p r : ByteArray) : Nat → Nat × Nat
  | 0 => (0, 0)
  | i + 1 => if stands p r i ∧ (grd p r i).2 ≤ i then ((grd p r i).1 + 1, i + r.size) else grd p r i
theorem grd_hit {p r : ByteArray} {i : Nat} (h : stands p r i) (he : (grd p r i).2 ≤ i) (hr : 0 < r.size) : ∀ d, d < r.size → grd p r (i + 1 + d) = ((grd p r i).1 + 1, i + r.size)
  | 0, _ => by
    show (if _ then _ else _) = _
    rw [if_pos ⟨h, he⟩]
  | d + 1, hd => by
    have h1 := grd_hit h he hr d (by omega)
    rw [← Nat.add_assoc]
    show (if stands p r (i + 1 + d) ∧ (grd p r (i + 1 + d)).2 ≤ i + 1 + d then _ else grd p r (i + 1 + d)) = _
    rw [h1, if_neg (fun hc => by have := hc.2; simp at this; omega)]
theorem grd_over {p r : ByteArray} {i : Nat} (h : ¬ i + r.size ≤ p.size) : ∀ d, grd p r (i + d) = grd p r i
  | 0 => rfl
  | d + 1 => by
    rw [← Nat.add_assoc]
    show (if stands p r (i + d) ∧ _ then _ else grd p r (i + d)) = _
    rw [if_neg (fun hc => by have := hc.1.1; omega)]
    exact grd_over h d
theorem cnt_grd {p r : ByteArray} (hr : 0 < r.size) : ∀ (f i : Nat) (n : Int), p.size < f + i → (grd p r i).2 ≤ i → i ≤ p.size → cntF p r f i n + (grd p r i).1 = n + (grd p r p.size).1
  | 0, i, n, h, _, hi => by omega
  | f + 1, i, n, h, he, hi => by
    unfold cntF
    split
    · rename_i hin
      split
      · rename_i hat
        have hs : stands p r i := ⟨hin, hat⟩
        have h1 := grd_hit hs he hr (r.size - 1) (by omega)
        have e : i + 1 + (r.size - 1) = i + r.size := by omega
        rw [e] at h1
        have h2 := cnt_grd (p := p) hr f (i + r.size) (n + 1) (by omega) (by rw [h1]; exact Nat.le_refl _) hin
        rw [h1] at h2
        simp at h2 ⊢
        omega
      · rename_i hat
        have h1 : grd p r (i + 1) = grd p r i := by
          show (if _ then _ else _) = _
          rw [if_neg (fun hc => hat hc.1.2)]
        have h2 := cnt_grd (p := p) hr f (i + 1) n (by omega) (by rw [h1]; omega) (by omega)
        rw [h1] at h2
        exact h2
    · rename_i hin
      have h1 := grd_over (p := p) (r := r) hin (p.size - i)
      rw [show i + (p.size - i) = p.size from by omega] at h1
      rw [h1]
/-- What the maps say of a row, place by place. -/
theorem step_other {p r : ByteArray} {i n : Nat} {s : MM} (h1 : MI s.1) (h2 : MI s.2) (hp : i + n ≤ p.size) (hn : n ≠ r.size) : getM (cStep p i n s).1 r = getM s.1 r ∧ getM (cStep p i n s).2 r = getM s.2 r := by
  unfold cStep
  have hne : ¬ r = p.extract i (i + n) := fun e => hn (by rw [e, ex_size p i n hp])
  split
  · exact ⟨by rw [get_put h1, if_neg hne], by rw [get_put h2, if_neg hne]⟩
  · exact ⟨rfl, rfl⟩
theorem step_yes {p r : ByteArray} {i : Nat} {s : MM} (h1 : MI s.1) (h2 : MI s.2) (hc : stands p r i) (he : getM s.2 r ≤ i) :
    getM (cStep p i r.size s).1 r = getM s.1 r + 1 ∧ getM (cStep p i r.size s).2 r = ((i + r.size : Nat) : Int) := by
  unfold cStep
  rw [hc.2, if_pos he]
  exact ⟨by show getM (s.1.put _ _) r = _; rw [get_put h1, if_pos rfl], by show getM (s.2.put _ _) r = _; rw [get_put h2, if_pos rfl]⟩
theorem step_no {p r : ByteArray} {i : Nat} {s : MM} (h1 : MI s.1) (h2 : MI s.2) (hp : i + r.size ≤ p.size) (hc : ¬ (stands p r i ∧ getM s.2 r ≤ i)) :
    getM (cStep p i r.size s).1 r = getM s.1 r ∧ getM (cStep p i r.size s).2 r = getM s.2 r := by
  unfold cStep
  by_cases hat : p.extract i (i + r.size) = r
  · rw [hat, if_neg (fun he => hc ⟨⟨hp, hat⟩, he⟩)]
    exact ⟨rfl, rfl⟩
  · have hne : ¬ r = p.extract i (i + r.size) := fun e => hat e.symm
    split
    · exact ⟨by show getM (s.1.put _ _) r = _; rw [get_put h1, if_neg hne], by show getM (s.2.put _ _) r = _; rw [get_put h2, if_neg hne]⟩
    · exact ⟨rfl, rfl⟩
/-- A place: the row is counted if it stands there, behind the end of the last one. -/
theorem row_count {p r : ByteArray} {i b : Nat} {s : MM} (hS : Sane b s) (hp : p.size ≤ 1000000000) (h2 : 2 ≤ r.size) : ∀ k,
    (k + 1 < r.size → getM (cRow p i s k).1 r = getM s.1 r ∧ getM (cRow p i s k).2 r = getM s.2 r) ∧
    (r.size ≤ k + 1 → k ≤ 7 → (stands p r i ∧ getM s.2 r ≤ i → getM (cRow p i s k).1 r = getM s.1 r + 1 ∧ getM (cRow p i s k).2 r = ((i + r.size : Nat) : Int)) ∧
      (¬ (stands p r i ∧ getM s.2 r ≤ i) → getM (cRow p i s k).1 r = getM s.1 r ∧ getM (cRow p i s k).2 r = getM s.2 r))
  | 0 => ⟨fun _ => ⟨rfl, rfl⟩, fun h => by omega⟩
  | k + 1 => by
    obtain ⟨ih1, ih2⟩ := row_count hS hp h2 (i := i) k
    have hT := hS.row hp (i := i) k
    have hu : cRow p i s (k + 1) = if k + 2 ≤ 8 ∧ i + (k + 2) ≤ p.size then cStep p i (k + 2) (cRow p i s k) else cRow p i s k := rfl
    refine ⟨fun hk => ?_, fun hk hk7 => ?_⟩
    · obtain ⟨e1, e2⟩ := ih1 (by omega)
      rw [hu]
      split
      · rename_i hc
        obtain ⟨f1, f2⟩ := step_other (r := r) hT.m1 hT.m2 hc.2 (by omega)
        exact ⟨f1.trans e1, f2.trans e2⟩
      · exact ⟨e1, e2⟩
    · rcases Nat.lt_or_ge (k + 1) r.size with h3 | h3
      · have hn : r.size = k + 2 := by omega
        obtain ⟨e1, e2⟩ := ih1 h3
        refine ⟨fun hc => ?_, fun hc => ?_⟩
        · have hin : i + (k + 2) ≤ p.size := by have := hc.1.1; omega
          rw [hu, if_pos ⟨by omega, hin⟩, ← hn]
          obtain ⟨f1, f2⟩ := step_yes hT.m1 hT.m2 hc.1 (by rw [e2]; exact hc.2)
          exact ⟨by rw [f1, e1], f2⟩
        · rw [hu]
          split
          · rename_i hd
            rw [← hn]
            obtain ⟨f1, f2⟩ := step_no (p := p) (r := r) (i := i) hT.m1 hT.m2 (by rw [hn]; exact hd.2) (by rw [e2]; exact hc)
            exact ⟨f1.trans e1, f2.trans e2⟩
          · exact ⟨e1, e2⟩
      · obtain ⟨g1, g2⟩ := ih2 h3 (by omega)
        refine ⟨fun hc => ?_, fun hc => ?_⟩
        · obtain ⟨e1, e2⟩ := g1 hc
          rw [hu]
          split
          · rename_i hd
            obtain ⟨f1, f2⟩ := step_other (r := r) hT.m1 hT.m2 hd.2 (by omega)
            exact ⟨f1.trans e1, f2.trans e2⟩
          · exact ⟨e1, e2⟩
        · obtain ⟨e1, e2⟩ := g2 hc
          rw [hu]
          split
          · rename_i hd
            obtain ⟨f1, f2⟩ := step_other (r := r) hT.m1 hT.m2 hd.2 (by omega)
            exact ⟨f1.trans e1, f2.trans e2⟩
          · exact ⟨e1, e2⟩
theorem part_count {p r : ByteArray} {M : DataW Unit} {b : Nat} (hM : MI M) (hs : Maps.size M ≤ b) (hg : ∀ t, 0 ≤ getM M t ∧ getM M t ≤ b) (hp : p.size ≤ 1000000000) (h2 : 2 ≤ r.size) (h8 : r.size ≤ 8) : ∀ i, getM (cPart p M i).1 r = getM M r + ((grd p r i).1 : Int) ∧ getM (cPart p M i).2 r = ((grd p r i).2 : Int)
  | 0 => ⟨by show getM M r = _; simp [grd], rfl⟩
  | i + 1 => by
    obtain ⟨e1, e2⟩ := part_count hM hs hg hp h2 h8 i
    have hS := Sane.part hM hs hg hp i
    obtain ⟨_, g⟩ := row_count (i := i) hS hp h2 7
    obtain ⟨g1, g2⟩ := g (by omega) (Nat.le_refl _)
    show getM (cRow p i (cPart p M i) 7).1 r = _ ∧ getM (cRow p i (cPart p M i) 7).2 r = _
    have hgr : grd p r (i + 1) = if stands p r i ∧ (grd p r i).2 ≤ i then ((grd p r i).1 + 1, i + r.size) else grd p r i := rfl
    by_cases hc : stands p r i ∧ (grd p r i).2 ≤ i
    · obtain ⟨f1, f2⟩ := g1 ⟨hc.1, by rw [e2]; have := hc.2; omega⟩
      rw [hgr, if_pos hc, f1, f2, e1]
      exact ⟨by simp only []; omega, rfl⟩
    · obtain ⟨f1, f2⟩ := g2 (fun hd => hc ⟨hd.1, by have := hd.2; rw [e2] at this; omega⟩)
      rw [hgr, if_neg hc, f1, f2]
      exact ⟨e1, e2⟩
/-- **Both count alike.** -/
theorem count_alike {l : List ByteArray} (h : FewT l) {r : ByteArray} (h2 : 2 ≤ r.size) (h8 : r.size ≤ 8) : ∀ k, getM (cAll l k) r = cntA l r k
  | 0 => rfl
  | k + 1 => by
    have ih := count_alike h h2 h8 k
    obtain ⟨m1, m2, m3⟩ := Sane.all h k
    have hs := h.size k
    obtain ⟨e1, _⟩ := part_count (r := r) m1 m2 m3 (p := l.getD k ⟨#[]⟩) (by omega) h2 h8 (l.getD k ⟨#[]⟩).size
    have e2 := cnt_grd (p := l.getD k ⟨#[]⟩) (r := r) (by omega) ((l.getD k ⟨#[]⟩).size + 1) 0 (cntA l r k) (by omega) (Nat.le_refl _) (Nat.zero_le _)
    have e3 : (grd (l.getD k ⟨#[]⟩) r 0).1 = 0 := rfl
    show getM (cPart (l.getD k ⟨#[]⟩) (cAll l k) (l.getD k ⟨#[]⟩).size).1 r = cntF (l.getD k ⟨#[]⟩) r ((l.getD k ⟨#[]⟩).size + 1) 0 (cntA l r k)
    rw [e1, ih]
    rw [e3] at e2
    omega
end Go.Proofs.YtpbaiighifhfnaaDoor
namespace Go.Proofs.YtpbaiighifhfnaaDoor
open Go.RowKit Go.Maps
set_option linter.unusedVariables false
/-! ### What stands in a map is what counts -/
def Pos (D : DataW Unit) : Prop := ∀ s, Maps.has D (kS s) = decide (0 < getM D s)
theorem pos_step {p : ByteArray} {i n b : Nat} {s : MM} (hS : Sane b s) (h : Pos s.1) : Pos (cStep p i n s).1 := by
  unfold cStep
  split
  · intro t
    show Maps.has (s.1.put (kS (p.extract i (i + n))) (iv (getM s.1 (p.extract i (i + n)) + 1))) (kS t) = decide (0 < getM (s.1.put (kS (p.extract i (i + n))) (iv (getM s.1 (p.extract i (i + n)) + 1))) t)
    rw [has_put hS.m1, get_put hS.m1, h t]
    by_cases e : t = p.extract i (i + n)
    · have := hS.g1 (p.extract i (i + n))
      rw [if_pos e]
      simp [e]
      omega
    · rw [if_neg e]
      simp [e]
  · exact h
theorem pos_row {p : ByteArray} {i b : Nat} {s : MM} (hp : p.size ≤ 1000000000) (hS : Sane b s) (h : Pos s.1) : ∀ k, Pos (cRow p i s k).1
  | 0 => h
  | k + 1 => by
    have h1 := pos_row hp hS h (i := i) k
    unfold cRow
    split
    · exact pos_step (hS.row hp k) h1
    · exact h1
theorem pos_part {p : ByteArray} {M : DataW Unit} {b : Nat} (hM : MI M) (hs : Maps.size M ≤ b) (hg : ∀ t, 0 ≤ getM M t ∧ getM M t ≤ b) (h : Pos M) (hp : p.size ≤ 1000000000) : ∀ k, Pos (cPart p M k).1
  | 0 => h
  | k + 1 => pos_row hp (Sane.part hM hs hg hp k) (pos_part hM hs hg h hp k) 7
theorem pos_all {l : List ByteArray} (h : FewT l) : ∀ k, Pos (cAll l k)
  | 0 => fun s => rfl
  | k + 1 => by
    obtain ⟨h1, h2, h3⟩ := Sane.all h k
    have := h.size k
    exact pos_part h1 h2 h3 (pos_all h k) (by omega) _
/-! ### A row counts where it stands -/
theorem grd_none {p r : ByteArray} : ∀ i, (grd p r i).1 = 0 → (grd p r i).2 = 0
  | 0, _ => rfl
  | i + 1, h => by
    have hu : grd p r (i + 1) = if stands p r i ∧ (grd p r i).2 ≤ i then ((grd p r i).1 + 1, i + r.size) else grd p r i := rfl
    rw [hu] at h ⊢
    split at h
    · simp at h
    · rename_i hc
      rw [if_neg hc]
      exact grd_none i h
theorem grd_pos {p r : ByteArray} : ∀ n, (0 < (grd p r n).1 ↔ ∃ i, i < n ∧ stands p r i)
  | 0 => by simp [grd]
  | n + 1 => by
    have ih := grd_pos (p := p) (r := r) n
    have hu : grd p r (n + 1) = if stands p r n ∧ (grd p r n).2 ≤ n then ((grd p r n).1 + 1, n + r.size) else grd p r n := rfl
    constructor
    · intro h
      rw [hu] at h
      split at h
      · rename_i hc; exact ⟨n, by omega, hc.1⟩
      · obtain ⟨i, h1, h2⟩ := ih.1 h
        exact ⟨i, by omega, h2⟩
    · rintro ⟨i, h1, h2⟩
      rw [hu]
      split
      · show 0 < _ + 1; omega
      · rename_i hc
        rcases Nat.lt_or_ge i n with h3 | h3
        · exact ih.2 ⟨i, h3, h2⟩
        · obtain rfl : i = n := by omega
          refine Nat.pos_of_ne_zero fun h0 => hc ⟨h2, ?_⟩
          rw [grd_none i h0]
          omega
/-- A row stands in the first k parts. -/
def Vis (l : List ByteArray) (k : Nat) (s : ByteArray) : Prop := ∃ j, j < k ∧ ∃ i, stands (l.getD j ⟨#[]⟩) s i
theorem cntA_grd {l : List ByteArray} {r : ByteArray} (hr : 0 < r.size) (k : Nat) : cntA l r (k + 1) = cntA l r k + ((grd (l.getD k ⟨#[]⟩) r (l.getD k ⟨#[]⟩).size).1 : Int) := by
  have e2 := cnt_grd (p := l.getD k ⟨#[]⟩) (r := r) hr ((l.getD k ⟨#[]⟩).size + 1) 0 (cntA l r k) (by omega) (Nat.le_refl _) (Nat.zero_le _)
  have e3 : (grd (l.getD k ⟨#[]⟩) r 0).1 = 0 := rfl
  rw [e3] at e2
  show cntF (l.getD k ⟨#[]⟩) r ((l.getD k ⟨#[]⟩).size + 1) 0 (cntA l r k) = _
  omega
theorem cntA_nonneg {l : List ByteArray} {r : ByteArray} (hr : 0 < r.size) : ∀ k, 0 ≤ cntA l r k
  | 0 => by simp [cntA]
  | k + 1 => by have := cntA_nonneg (l := l) hr k; rw [cntA_grd hr]; omega
theorem cnt_vis {l : List ByteArray} {r : ByteArray} (hr : 0 < r.size) : ∀ k, (0 < cntA l r k ↔ Vis l k r)
  | 0 => ⟨fun h => by simp [cntA] at h, fun ⟨j, h, _⟩ => by omega⟩
  | k + 1 => by
    have ih := cnt_vis (l := l) hr k
    have hn := cntA_nonneg (l := l) hr k
    have hg := grd_pos (p := l.getD k ⟨#[]⟩) (r := r) (l.getD k ⟨#[]⟩).size
    rw [cntA_grd hr]
    constructor
    · intro h
      by_cases h1 : 0 < cntA l r k
      · obtain ⟨j, h2, h3⟩ := ih.1 h1
        exact ⟨j, by omega, h3⟩
      · obtain ⟨i, _, h3⟩ := hg.1 (by omega)
        exact ⟨k, by omega, i, h3⟩
    · rintro ⟨j, h1, i, h2⟩
      rcases Nat.lt_or_ge j k with h3 | h3
      · have := ih.2 ⟨j, h3, i, h2⟩
        omega
      · obtain rfl : j = k := by omega
        have hi : i < (l.getD j ⟨#[]⟩).size := by have := h2.1; omega
        have := hg.2 ⟨i, hi, h2⟩
        omega
theorem has_vis {l : List ByteArray} (h : FewT l) {s : ByteArray} (k : Nat) : Maps.has (cAll l k) (kS s) = true ↔ (2 ≤ s.size ∧ s.size ≤ 8) ∧ Vis l k s := by
  constructor
  · intro hh
    have h1 := keys_all h k s hh
    rw [pos_all h k s, decide_eq_true_eq, count_alike h h1.1 h1.2 k] at hh
    exact ⟨h1, (cnt_vis (by omega) k).1 hh⟩
  · rintro ⟨h1, h2⟩
    rw [pos_all h k s, decide_eq_true_eq, count_alike h h1.1 h1.2 k]
    exact (cnt_vis (by omega) k).2 h2
/-! ### The document's best -/
/-- b is best of what has been seen. -/
def BestIn (l : List ByteArray) (V : ByteArray → Prop) (b : RowP) : Prop :=
  (b = (⟨#[]⟩, 0) ∧ ∀ s, V s → savesOf l s ≤ 0) ∨ (V b.1 ∧ b.2 = savesOf l b.1 ∧ 0 < b.2 ∧ ∀ s, V s → 0 < savesOf l s → s = b.1 ∨ aheadB b (s, savesOf l s) = true)
theorem better_ahead {s : Int} {row : ByteArray} {b : RowP} (hb : 0 < b.2) : betterB s row b = aheadB (row, s) b := by
  unfold betterB aheadB
  by_cases h1 : s = b.2
  · rw [if_neg (by simpa using h1)]
    have e1 : decide (s > b.2) = false := by simp; omega
    have e2 : (s == b.2) = true := by simpa using h1
    have e3 : decide (s > 0) = true := by simp; omega
    rw [e1, e2, e3]
    by_cases h2 : (row.size : Int) = b.1.size
    · rw [if_neg (by simpa using h2)]
      have e4 : decide ((row.size : Int) > b.1.size) = false := by simp; omega
      have e5 : ((row.size : Int) == (b.1.size : Int)) = true := by simpa using h2
      rw [e4, e5]
      simp
    · rw [if_pos (by simpa using h2)]
      have e5 : ((row.size : Int) == (b.1.size : Int)) = false := by simpa using h2
      rw [e5]
      simp
  · rw [if_pos (by simpa using h1)]
    have e2 : (s == b.2) = false := by simpa using h1
    rw [e2]
    simp
theorem bestIn_step {l : List ByteArray} {V : ByteArray → Prop} {b : RowP} {row : ByteArray} (h : BestIn l V b) : BestIn l (fun s => V s ∨ s = row) (if betterB (savesOf l row) row b = true then (row, savesOf l row) else b) := by
  rcases h with ⟨rfl, h2⟩ | ⟨h1, h2, h3, h4⟩
  · have e : betterB (savesOf l row) row (⟨#[]⟩, 0) = decide (savesOf l row > 0) := by
      unfold betterB
      by_cases h5 : savesOf l row > 0
      · simp [h5]
      · have : ¬ savesOf l row > 0 := h5
        simp [this]
    rw [e]
    split
    · rename_i h5
      rw [decide_eq_true_eq] at h5
      refine .inr ⟨.inr rfl, rfl, h5, fun s hs hp => ?_⟩
      rcases hs with hs | hs
      · have := h2 s hs; omega
      · exact .inl hs
    · rename_i h5
      rw [decide_eq_true_eq] at h5
      refine .inl ⟨rfl, fun s hs => ?_⟩
      rcases hs with hs | hs
      · exact h2 s hs
      · rw [hs]; omega
  · rw [better_ahead h3]
    split
    · rename_i h5
      have hp : 0 < savesOf l row := by
        unfold aheadB at h5
        split at h5
        · simp at h5; omega
        · rename_i h6; have : savesOf l row = b.2 := by simpa using h6
          omega
      refine .inr ⟨.inr rfl, rfl, hp, fun s hs hsp => ?_⟩
      rcases hs with hs | hs
      · rcases h4 s hs hsp with h6 | h6
        · subst h6
          rw [← h2]
          exact .inr h5
        · exact .inr (ahead_trans h5 h6)
      · exact .inl hs
    · rename_i h5
      have h5' : aheadB (row, savesOf l row) b = false := by simpa using h5
      refine .inr ⟨.inl h1, h2, h3, fun s hs hsp => ?_⟩
      rcases hs with hs | hs
      · exact h4 s hs hsp
      · subst hs
        by_cases e : s = b.1
        · exact .inl e
        · rcases ahead_total (a := (s, savesOf l s)) (b := b) e with h6 | h6
          · rw [h5'] at h6; cases h6
          · exact .inr h6
theorem BestIn.same {l : List ByteArray} {V W : ByteArray → Prop} {b : RowP} (h : BestIn l V b) (hv : ∀ s, V s ↔ W s) : BestIn l W b := by
  have e : V = W := funext fun s => propext (hv s)
  rwa [← e]
/-- The rows of a part: places before i, and at i of fewer than k + 2 bytes. -/
def seenRow (p : ByteArray) (i k : Nat) (s : ByteArray) : Prop := ∃ n, 2 ≤ n ∧ n < k + 2 ∧ n ≤ 8 ∧ i + n ≤ p.size ∧ s = p.extract i (i + n)
def seenPart (p : ByteArray) (i : Nat) (s : ByteArray) : Prop := ∃ j, j < i ∧ seenRow p j 7 s
theorem best_row {l : List ByteArray} {p : ByteArray} {i : Nat} {b : RowP} {V : ByteArray → Prop} (h : BestIn l V b) : ∀ k, BestIn l (fun s => V s ∨ seenRow p i k s) (rbRow l p i b k)
  | 0 => h.same fun s => ⟨.inl, fun hs => hs.elim id fun ⟨n, h1, h2, _⟩ => by omega⟩
  | k + 1 => by
    have h1 := best_row h (p := p) (i := i) k
    have hu : rbRow l p i b (k + 1) = if k + 2 ≤ 8 ∧ i + (k + 2) ≤ p.size then rbStep l p i (k + 2) (rbRow l p i b k) else rbRow l p i b k := rfl
    rw [hu]
    split
    · rename_i hc
      refine BestIn.same (bestIn_step (row := p.extract i (i + (k + 2))) h1) fun s => ?_
      constructor
      · rintro ((hs | ⟨n, g1, g2, g3⟩) | hs)
        · exact .inl hs
        · exact .inr ⟨n, g1, by omega, g3⟩
        · exact .inr ⟨k + 2, by omega, by omega, hc.1, hc.2, hs⟩
      · rintro (hs | ⟨n, g1, g2, g3, g4, g5⟩)
        · exact .inl (.inl hs)
        · rcases Nat.lt_or_ge n (k + 2) with h5 | h5
          · exact .inl (.inr ⟨n, g1, h5, g3, g4, g5⟩)
          · obtain rfl : n = k + 2 := by omega
            exact .inr g5
    · rename_i hc
      refine h1.same fun s => ?_
      constructor
      · rintro (hs | ⟨n, g1, g2, g3⟩)
        · exact .inl hs
        · exact .inr ⟨n, g1, by omega, g3⟩
      · rintro (hs | ⟨n, g1, g2, g3, g4, g5⟩)
        · exact .inl hs
        · rcases Nat.lt_or_ge n (k + 2) with h5 | h5
          · exact .inr ⟨n, g1, h5, g3, g4, g5⟩
          · obtain rfl : n = k + 2 := by omega
            exact absurd ⟨g3, g4⟩ hc
theorem best_part {l : List ByteArray} {p : ByteArray} {b : RowP} {V : ByteArray → Prop} (h : BestIn l V b) : ∀ i, BestIn l (fun s => V s ∨ seenPart p i s) (rbPart l p b i)
  | 0 => h.same fun s => ⟨.inl, fun hs => hs.elim id fun ⟨j, h1, _⟩ => by omega⟩
  | i + 1 => by
    refine BestIn.same (best_row (best_part h i) (p := p) (i := i) 7) fun s => ?_
    constructor
    · rintro ((hs | ⟨j, h1, h2⟩) | hs)
      · exact .inl hs
      · exact .inr ⟨j, by omega, h2⟩
      · exact .inr ⟨i, by omega, hs⟩
    · rintro (hs | ⟨j, h1, h2⟩)
      · exact .inl (.inl hs)
      · rcases Nat.lt_or_ge j i with h3 | h3
        · exact .inl (.inr ⟨j, h3, h2⟩)
        · obtain rfl : j = i := by omega
          exact .inr h2
theorem seen_stands {p s : ByteArray} : seenPart p p.size s ↔ (2 ≤ s.size ∧ s.size ≤ 8) ∧ ∃ i, stands p s i := by
  constructor
  · rintro ⟨i, _, n, h1, _, h3, h4, rfl⟩
    have e := ex_size p i n h4
    exact ⟨by rw [e]; exact ⟨h1, h3⟩, i, by unfold stands; rw [e]; exact ⟨h4, rfl⟩⟩
  · rintro ⟨⟨h1, h2⟩, i, h3, h4⟩
    exact ⟨i, by omega, s.size, h1, by omega, h2, h3, h4.symm⟩
theorem best_all_in {l : List ByteArray} : ∀ k, BestIn l (fun s => (2 ≤ s.size ∧ s.size ≤ 8) ∧ Vis l k s) (rbAll l k)
  | 0 => .inl ⟨rfl, fun s ⟨_, j, h, _⟩ => by omega⟩
  | k + 1 => by
    refine BestIn.same (best_part (best_all_in k) (p := l.getD k ByteArray.empty) (l.getD k ByteArray.empty).size) fun s => ?_
    rw [seen_stands]
    constructor
    · rintro (⟨h1, j, h2, h3⟩ | ⟨h1, h2⟩)
      · exact ⟨h1, j, by omega, h3⟩
      · exact ⟨h1, k, by omega, h2⟩
    · rintro ⟨h1, j, h2, h3⟩
      rcases Nat.lt_or_ge j k with h4 | h4
      · exact .inl ⟨h1, j, h4, h3⟩
      · obtain rfl : j = k := by omega
        exact .inr ⟨h1, h3⟩
/-- **Both find the same best row, where it saves something.** -/
theorem best_alike {l : List ByteArray} (h : FewT l) : ((bestL l).2 ≤ 0 → rbL l = ⟨#[]⟩) ∧ (0 < (bestL l).2 → rbL l = (bestL l).1 ∧ rbL l ≠ ⟨#[]⟩) := by
  have hrow : ∀ s, (2 ≤ s.size ∧ s.size ≤ 8) → rowOf (cAll l l.length) s = (s, savesOf l s) := fun s hs => by
    unfold rowOf savesOf
    rw [count_alike h hs.1 hs.2]
  rcases best_all_in (l := l) l.length with ⟨e, h2⟩ | ⟨⟨h1, hv⟩, h2, h3, h4⟩
  · have e1 : rbL l = ⟨#[]⟩ := by unfold rbL; rw [e]
    refine ⟨fun _ => e1, fun hp => ?_⟩
    exfalso
    by_cases hx : ∃ r, BestOf (cAll l l.length) (fun _ => false) r
    · obtain ⟨r, hr⟩ := hx
      have e2 : bestL l = r := bestR_eq hr
      rw [e2] at hp
      rcases hr with ⟨rfl, _⟩ | ⟨g1, _, g3, _⟩
      · simp at hp
      · have g4 := (has_vis h l.length).1 g1
        rw [hrow _ g4.1] at g3
        have := h2 _ g4
        have e5 : r.2 = savesOf l r.1 := by rw [g3]
        omega
    · have e2 : bestL l = (⟨#[]⟩, 0) := by unfold bestL bestR; rw [dif_neg hx]
      rw [e2] at hp
      simp at hp
  · have hb : BestOf (cAll l l.length) (fun _ => false) (rbAll l l.length) := by
      refine .inr ⟨(has_vis h l.length).2 ⟨h1, hv⟩, rfl, ?_, fun s hs _ => ?_⟩
      · rw [hrow _ h1, ← h2]
      · have g4 := (has_vis h l.length).1 hs
        rw [hrow s g4.1]
        by_cases g5 : 0 < savesOf l s
        · exact h4 s g4 g5
        · refine .inr ?_
          unfold aheadB
          rw [if_pos (by show (rbAll l l.length).2 ≠ savesOf l s; omega)]
          show decide ((rbAll l l.length).2 > savesOf l s) = true
          simp
          omega
    have e2 : bestL l = rbAll l l.length := bestR_eq hb
    rw [e2]
    refine ⟨fun hle => by omega, fun _ => ⟨rfl, fun hem => ?_⟩⟩
    have : (rbAll l l.length).1 = ⟨#[]⟩ := hem
    rw [this] at h1
    exact absurd h1.1 (by decide)
end Go.Proofs.YtpbaiighifhfnaaDoor
namespace Go.Proofs.YtpbaiighifhfnaaDoor
open Go.RowKit Go.Lib
set_option linter.unusedVariables false
theorem ex_ex {p : ByteArray} {fr a b : Nat} (h : fr + b ≤ p.size) : (p.extract fr p.size).extract a b = p.extract (fr + a) (fr + b) := by
  refine tB_inj ?_
  rw [tB_extract, tB_extract, tB_extract, List.take_of_length_le (l := tB p) (by rw [tB_len]; exact Nat.le_refl _), List.take_drop, List.drop_drop]
theorem ex_size2 {p : ByteArray} {fr : Nat} (h : fr ≤ p.size) : (p.extract fr p.size).size = p.size - fr := by rw [ByteArray.size_extract]; omega
theorem noOcc0 (s r : ByteArray) : NoOccB s r 0 := fun j hj => absurd hj (by omega)
theorem wo_split {p r : ByteArray} (hr : 1 ≤ r.size) : ∀ (f d fr : Nat) (out : List ByteArray), NoOccB (p.extract fr p.size) r d → p.size < f + (fr + d) → fr + d ≤ p.size → woF p r f (fr + d) fr out = out ++ splitB r 0 (countB (p.extract fr p.size) r) (p.extract fr p.size)
  | 0, d, fr, out, _, h1, h2 => by omega
  | f + 1, d, fr, out, hno, h1, h2 => by
    have hq := ex_size2 (p := p) (fr := fr) (by omega)
    unfold woF
    split
    · rename_i hin
      have he : (p.extract fr p.size).extract d (d + r.size) = p.extract (fr + d) (fr + d + r.size) := by rw [ex_ex (by omega)]; congr 1; omega
      split
      · rename_i hat
        have hix : indexB (p.extract fr p.size) r = d := hit _ _ d hno (by omega) (by rw [he, hat]; simp)
        have e1 : (p.extract fr p.size).extract 0 (d + 0) = p.extract fr (fr + d) := by rw [ex_ex (by omega)]; congr 1
        have e2 : (p.extract fr p.size).extract (d + r.size) (p.extract fr p.size).size = p.extract (fr + d + r.size) p.size := by rw [hq, ex_ex (by omega)]; congr 1 <;> omega
        have ih := wo_split (p := p) hr f 0 (fr + d + r.size) (out ++ [p.extract fr (fr + d)]) (noOcc0 _ _) (by omega) (by omega)
        rw [Nat.add_zero] at ih
        rw [ih, countB_hit _ r d hr hix, e2, Nat.add_comm 1, splitB_hit r 0 _ _ d hix, e1, e2]
        simp
      · rename_i hat
        have hno2 : NoOccB (p.extract fr p.size) r (d + 1) := miss_piece _ _ d hno (by omega) (by rw [he, str_eq]; simpa using hat)
        have ih := wo_split (p := p) hr f (d + 1) fr out hno2 (by omega) (by omega)
        exact ih
    · rename_i hin
      have hix : indexB (p.extract fr p.size) r = -1 := past _ _ d hno hr (by omega)
      rw [splitB_miss r 0 _ _ hix]
theorem split_alike {p r : ByteArray} (hr : 1 ≤ r.size) : splitP p r = woF p r (p.size + 1) 0 0 [] := by
  have e : p.extract 0 p.size = p := by
    refine tB_inj ?_
    rw [tB_extract, List.drop_zero, List.take_of_length_le (by rw [tB_len]; exact Nat.le_refl _)]
  have h := wo_split (p := p) hr (p.size + 1) 0 0 [] (noOcc0 _ _) (by omega) (by omega)
  rw [e] at h
  exact h.symm
theorem woF_out (p r : ByteArray) : ∀ (f i fr : Nat) (out : List ByteArray), woF p r f i fr out = out ++ woF p r f i fr []
  | 0, i, fr, out => by simp [woF]
  | f + 1, i, fr, out => by
    unfold woF
    split
    · split
      · rw [woF_out p r f _ _ (out ++ [p.extract fr i]), woF_out p r f _ _ ([] ++ [p.extract fr i])]
        simp
      · exact woF_out p r f _ _ out
    · simp
theorem spl_alike {r : ByteArray} (hr : 1 ≤ r.size) (l : List ByteArray) : ∀ k, splA l r k = woA l r k
  | 0 => rfl
  | k + 1 => by
    show splA l r k ++ splitP (l.getD k ByteArray.empty) r = woF (l.getD k ByteArray.empty) r ((l.getD k ByteArray.empty).size + 1) 0 0 (woA l r k)
    rw [woF_out, ← spl_alike hr l k, split_alike hr]
theorem ch_alike (most : Int) : ∀ (f : Nat) (out parts : List ByteArray), wt parts ≤ 10000 → chF most f out parts = rcF most f out parts
  | 0, out, parts, _ => rfl
  | f + 1, out, parts, hw => by
    have hf := few_wt hw
    obtain ⟨b1, b2⟩ := best_alike hf
    have hbo := bestL_ok hf
    unfold chF rcF
    have hiff : ((out.length : Int) < min most 32) ↔ ((out.length : Int) < most ∧ out.length < 32) := by omega
    by_cases hc : (out.length : Int) < min most 32
    · rw [if_pos hc, if_pos (hiff.1 hc)]
      by_cases hle : (bestL parts).2 ≤ 0
      · rw [if_pos hle, if_pos (b1 hle)]
      · obtain ⟨e1, e2⟩ := b2 (by omega)
        have hx2 := hbo.2 (by omega)
        rw [if_neg hle, if_neg e2, e1, spl_alike (by omega)]
        exact ch_alike most f _ _ (by have := wt_wo (r := (bestL parts).1) (by omega) parts; omega)
    · rw [if_neg hc, if_neg (fun h => hc (hiff.2 h))]
/-- **Both choose alike.** -/
theorem choose_alike {l : List ByteArray} (h : wt l ≤ 10000) (most : Int) : chooseP l most = rchooseP l most := ch_alike most 33 [] l h
end Go.Proofs.YtpbaiighifhfnaaDoor
namespace Go.Proofs.YtpbaiighifhfnaaDoor
open Go.RowKit
set_option maxRecDepth 100000
set_option linter.unusedVariables false
set_option linter.unusedSimpArgs false
/-- A piece that may not be. -/
def badP (ab : List ByteArray) (p : PieceP) : Bool := decide (p.2 < 0) || decide (p.2 > ab.length) || decide (p.2 > 32)
def textP (ab : List ByteArray) (p : PieceP) : ByteArray := if p.2 > 0 then ab.getD (p.2 - 1).toNat ByteArray.empty else p.1
end Go.Proofs.YtpbaiighifhfnaaDoor
namespace Go.Proofs.YtpbaiighifhfnaaDoor
open Go.RowKit
set_option linter.unusedVariables false
/-- Which abbreviation a place takes, of so many: 0 is none. -/
def tkK (s : ByteArray) (ab : List ByteArray) (i : Nat) (A : List Int) : Nat → Nat
  | 0 => 0
  | k + 1 => if fitsB s i ab k = true ∧ 2 + A.getD (i + (ab.getD k ByteArray.empty).size) 0 < lsK s ab i A k then k + 1 else tkK s ab i A k
theorem lsK_mono (s : ByteArray) (ab : List ByteArray) (i : Nat) (A : List Int) (k : Nat) : ∀ d, lsK s ab i A (k + d) ≤ lsK s ab i A k
  | 0 => Int.le_refl _
  | d + 1 => by
    have h := lsK_mono s ab i A k d
    rw [← Nat.add_assoc]
    show (if _ then _ else _) ≤ _
    split
    · rename_i hc
      exact Int.le_trans (Int.le_of_lt hc.2) h
    · exact h
/-- None is taken just where the byte itself is as cheap. -/
theorem tkK_zero (s : ByteArray) (ab : List ByteArray) (i : Nat) (A : List Int) : ∀ k, tkK s ab i A k = 0 ↔ lsK s ab i A k = lsK s ab i A 0
  | 0 => by simp [tkK]
  | k + 1 => by
    have ih := tkK_zero s ab i A k
    have hm := lsK_mono s ab i A 0 k
    rw [Nat.zero_add] at hm
    have hb : tkK s ab i A (k + 1) = if fitsB s i ab k = true ∧ 2 + A.getD (i + (ab.getD k ByteArray.empty).size) 0 < lsK s ab i A k then k + 1 else tkK s ab i A k := rfl
    have hl : lsK s ab i A (k + 1) = if fitsB s i ab k = true ∧ 2 + A.getD (i + (ab.getD k ByteArray.empty).size) 0 < lsK s ab i A k then 2 + A.getD (i + (ab.getD k ByteArray.empty).size) 0 else lsK s ab i A k := rfl
    rw [hb, hl]
    split
    · rename_i hc
      constructor
      · intro h; omega
      · intro h; omega
    · exact ih
/-- The one that is taken is the first that attains the least. -/
theorem tkK_first (s : ByteArray) (ab : List ByteArray) (i : Nat) (A : List Int) : ∀ k, tkK s ab i A k ≠ 0 →
    tkK s ab i A k ≤ k ∧ fitsB s i ab (tkK s ab i A k - 1) = true ∧ 2 + A.getD (i + (ab.getD (tkK s ab i A k - 1) ByteArray.empty).size) 0 = lsK s ab i A k ∧
      ∀ j, j < tkK s ab i A k - 1 → fitsB s i ab j = true → 2 + A.getD (i + (ab.getD j ByteArray.empty).size) 0 ≠ lsK s ab i A k
  | 0, h => by simp [tkK] at h
  | k + 1, h => by
    have hb : tkK s ab i A (k + 1) = if fitsB s i ab k = true ∧ 2 + A.getD (i + (ab.getD k ByteArray.empty).size) 0 < lsK s ab i A k then k + 1 else tkK s ab i A k := rfl
    have hl : lsK s ab i A (k + 1) = if fitsB s i ab k = true ∧ 2 + A.getD (i + (ab.getD k ByteArray.empty).size) 0 < lsK s ab i A k then 2 + A.getD (i + (ab.getD k ByteArray.empty).size) 0 else lsK s ab i A k := rfl
    by_cases hc : fitsB s i ab k = true ∧ 2 + A.getD (i + (ab.getD k ByteArray.empty).size) 0 < lsK s ab i A k
    · rw [if_pos hc] at hb hl
      rw [hb, hl]
      refine ⟨Nat.le_refl _, hc.1, rfl, fun j hj hf => ?_⟩
      have hj' : j < k := by omega
      have h1 : lsK s ab i A (j + 1) ≤ 2 + A.getD (i + (ab.getD j ByteArray.empty).size) 0 := by
        show (if _ then _ else _) ≤ _
        split
        · exact Int.le_refl _
        · rename_i hn
          have : ¬ 2 + A.getD (i + (ab.getD j ByteArray.empty).size) 0 < lsK s ab i A j := fun h => hn ⟨hf, h⟩
          omega
      have h2 := lsK_mono s ab i A (j + 1) (k - (j + 1))
      rw [show j + 1 + (k - (j + 1)) = k from by omega] at h2
      have h3 := hc.2
      omega
    · rw [if_neg hc] at hb hl
      rw [hb] at h
      obtain ⟨g1, g2, g3, g4⟩ := tkK_first s ab i A k h
      rw [hb, hl]
      exact ⟨by omega, g2, g3, g4⟩
end Go.Proofs.YtpbaiighifhfnaaDoor
namespace Go.Proofs.YtpbaiighifhfnaaDoor
open Go.RowKit
set_option linter.unusedVariables false
theorem lsK_congr {s : ByteArray} {ab : List ByteArray} {i : Nat} {A B : List Int} (h : ∀ j, i < j → A.getD j 0 = B.getD j 0) : ∀ k, lsK s ab i A k = lsK s ab i B k
  | 0 => by unfold lsK; rw [h (i + 1) (by omega)]
  | k + 1 => by
    have ih := lsK_congr (s := s) (ab := ab) h k
    have ea : lsK s ab i A (k + 1) = if fitsB s i ab k = true ∧ 2 + A.getD (i + (ab.getD k ByteArray.empty).size) 0 < lsK s ab i A k then 2 + A.getD (i + (ab.getD k ByteArray.empty).size) 0 else lsK s ab i A k := rfl
    have eb : lsK s ab i B (k + 1) = if fitsB s i ab k = true ∧ 2 + B.getD (i + (ab.getD k ByteArray.empty).size) 0 < lsK s ab i B k then 2 + B.getD (i + (ab.getD k ByteArray.empty).size) 0 else lsK s ab i B k := rfl
    rw [ea, eb, ih]
    by_cases hf : fitsB s i ab k = true
    · rw [h (i + (ab.getD k ByteArray.empty).size) (by have := (fits_in hf).2.1; omega)]
    · rw [if_neg (fun hc => hf hc.1), if_neg (fun hc => hf hc.1)]
theorem tkK_congr {s : ByteArray} {ab : List ByteArray} {i : Nat} {A B : List Int} (h : ∀ j, i < j → A.getD j 0 = B.getD j 0) : ∀ k, tkK s ab i A k = tkK s ab i B k
  | 0 => rfl
  | k + 1 => by
    have ih := tkK_congr (s := s) (ab := ab) h k
    have il := lsK_congr (s := s) (ab := ab) h k
    have ea : tkK s ab i A (k + 1) = if fitsB s i ab k = true ∧ 2 + A.getD (i + (ab.getD k ByteArray.empty).size) 0 < lsK s ab i A k then k + 1 else tkK s ab i A k := rfl
    have eb : tkK s ab i B (k + 1) = if fitsB s i ab k = true ∧ 2 + B.getD (i + (ab.getD k ByteArray.empty).size) 0 < lsK s ab i B k then k + 1 else tkK s ab i B k := rfl
    rw [ea, eb, ih, il]
    by_cases hf : fitsB s i ab k = true
    · rw [h (i + (ab.getD k ByteArray.empty).size) (by have := (fits_in hf).2.1; omega)]
    · rw [if_neg (fun hc => hf hc.1), if_neg (fun hc => hf hc.1)]
/-- The whole array. -/
def lsL (s : ByteArray) (ab : List ByteArray) : List Int := lsA s ab s.size
/-- A place that is done stays. -/
theorem lsA_stay {s : ByteArray} {ab : List ByteArray} {d j : Nat} (hj : s.size - d ≤ j) : ∀ e, d + e ≤ s.size → (lsA s ab (d + e)).getD j 0 = (lsA s ab d).getD j 0
  | 0, _ => rfl
  | e + 1, he => by
    have ih := lsA_stay (ab := ab) hj e (by omega)
    rw [← Nat.add_assoc]
    show ((lsA s ab (d + e)).set (s.size - 1 - (d + e)) _).getD j 0 = _
    rw [getD_put, if_neg (fun hc => by omega)]
    exact ih
theorem lsL_from {s : ByteArray} {ab : List ByteArray} {d j : Nat} (hd : d ≤ s.size) (hj : s.size - d ≤ j) : (lsL s ab).getD j 0 = (lsA s ab d).getD j 0 := by
  have := lsA_stay (s := s) (ab := ab) (d := d) (j := j) hj (s.size - d) (by omega)
  rw [show d + (s.size - d) = s.size from by omega] at this
  exact this
theorem lsL_at {s : ByteArray} {ab : List ByteArray} {i : Nat} (h : i < s.size) : (lsL s ab).getD i 0 = lsK s ab i (lsL s ab) ab.length := by
  have h1 : (lsL s ab).getD i 0 = (lsA s ab (s.size - i)).getD i 0 := lsL_from (by omega) (by omega)
  have hl := lsA_len s ab (s.size - (i + 1))
  rw [h1, lsA_step h, lsW_at (by omega), if_pos rfl]
  exact lsK_congr (fun j hj => (lsL_from (by omega) (by omega)).symm) _
/-- Which abbreviation a place takes. -/
def tkL (s : ByteArray) (ab : List ByteArray) (i : Nat) : Nat := tkK s ab i (lsL s ab) ab.length
/-! ### Cutting -/
def flushP (s : ByteArray) (fr i : Nat) (out : List PieceP) : List PieceP := if fr < i then out ++ [(s.extract fr i, 0)] else out
def cutF (s : ByteArray) (ab : List ByteArray) : Nat → Nat → Nat → List PieceP → List PieceP
  | 0, i, fr, out => flushP s fr s.size out
  | f + 1, i, fr, out => if i < s.size then (if tkL s ab i = 0 then cutF s ab f (i + 1) fr out else cutF s ab f (i + (ab.getD (tkL s ab i - 1) ByteArray.empty).size) (i + (ab.getD (tkL s ab i - 1) ByteArray.empty).size) (flushP s fr i out ++ [(ByteArray.empty, (tkL s ab i : Int))])) else flushP s fr s.size out
def cutP (s : ByteArray) (ab : List ByteArray) : List PieceP := cutF s ab (s.size + 1) 0 0 []
/-- A byte goes to the last piece, if that is text. -/
def addC (out : List PieceP) (c : ByteArray) : List PieceP :=
  match out.getLast? with
  | none => [(ByteArray.empty ++ c, 0)]
  | some p => if p.2 > 0 then out ++ [(ByteArray.empty ++ c, 0)] else out.dropLast ++ [(p.1 ++ c, p.2)]
/-- The first abbreviation that attains the least. -/
def fstK (s : ByteArray) (ab : List ByteArray) (i : Nat) : Nat → Nat → Nat
  | 0, k => k
  | f + 1, k => if fitsB s i ab k = true ∧ 2 + (lsL s ab).getD (i + (ab.getD k ByteArray.empty).size) 0 = (lsL s ab).getD i 0 then k else fstK s ab i f (k + 1)
def rcutF (s : ByteArray) (ab : List ByteArray) : Nat → Nat → List PieceP → List PieceP
  | 0, i, out => out
  | f + 1, i, out => if i < s.size then (if costS (s.extract i (i + 1)) + (lsL s ab).getD (i + 1) 0 = (lsL s ab).getD i 0 then rcutF s ab f (i + 1) (addC out (s.extract i (i + 1))) else rcutF s ab f (i + (ab.getD (fstK s ab i ab.length 0) ByteArray.empty).size) (out ++ [(ByteArray.empty, ((fstK s ab i ab.length 0 : Nat) : Int) + 1)])) else out
def rcutP (s : ByteArray) (ab : List ByteArray) : List PieceP := rcutF s ab (s.size + 1) 0 []
theorem tk_zero {s : ByteArray} {ab : List ByteArray} {i : Nat} (h : i < s.size) : tkL s ab i = 0 ↔ costS (s.extract i (i + 1)) + (lsL s ab).getD (i + 1) 0 = (lsL s ab).getD i 0 := by
  rw [lsL_at h]
  unfold tkL
  rw [tkK_zero]
  constructor
  · intro e; rw [e]; rfl
  · intro e; rw [← e]; rfl
theorem fstK_is {s : ByteArray} {ab : List ByteArray} {i m : Nat} (h1 : fitsB s i ab m = true) (h2 : 2 + (lsL s ab).getD (i + (ab.getD m ByteArray.empty).size) 0 = (lsL s ab).getD i 0)
    (h3 : ∀ j, j < m → fitsB s i ab j = true → 2 + (lsL s ab).getD (i + (ab.getD j ByteArray.empty).size) 0 ≠ (lsL s ab).getD i 0) : ∀ f k, k ≤ m → m < f + k → fstK s ab i f k = m
  | 0, k, hk, hf => by omega
  | f + 1, k, hk, hf => by
    unfold fstK
    by_cases e : k = m
    · subst e
      rw [if_pos ⟨h1, h2⟩]
    · rw [if_neg (fun hc => h3 k (by omega) hc.1 hc.2)]
      exact fstK_is h1 h2 h3 f (k + 1) (by omega) (by omega)
theorem tk_first {s : ByteArray} {ab : List ByteArray} {i : Nat} (h : i < s.size) (ht : tkL s ab i ≠ 0) : fitsB s i ab (tkL s ab i - 1) = true ∧ tkL s ab i ≤ ab.length ∧ fstK s ab i ab.length 0 = tkL s ab i - 1 := by
  obtain ⟨g1, g2, g3, g4⟩ := tkK_first s ab i (lsL s ab) ab.length ht
  have e := lsL_at (ab := ab) h
  have ht' : 0 < tkL s ab i := by omega
  have g1' : tkL s ab i ≤ ab.length := g1
  exact ⟨g2, g1', fstK_is g2 (by rw [e]; exact g3) (fun j hj hf => by rw [e]; exact g4 j hj hf) ab.length 0 (by omega) (by omega)⟩
/-- The pieces end with an abbreviation, if there are any. -/
def EndsAb (out : List PieceP) : Prop := ∀ p, out.getLast? = some p → p.2 > 0
theorem flush_add {s : ByteArray} {fr i : Nat} {out : List PieceP} (hi : i < s.size) (hf : fr ≤ i) (he : EndsAb out) : addC (flushP s fr i out) (s.extract i (i + 1)) = flushP s fr (i + 1) out := by
  unfold flushP
  by_cases h : fr < i
  · rw [if_pos h, if_pos (by omega)]
    unfold addC
    simp only [List.getLast?_append, List.getLast?_singleton, Option.some_or]
    rw [if_neg (by simp), List.dropLast_concat]
    congr 3
    refine tB_inj ?_
    rw [tB_append, tB_extract, tB_extract, tB_extract]
    have hl : (tB s).length = s.size := tB_len s
    refine List.ext_getElem? fun k => ?_
    rw [List.getElem?_append]
    simp only [List.length_drop, List.length_take, List.getElem?_drop, List.getElem?_take]
    split
    · rw [if_pos (by omega), if_pos (by omega)]
    · rename_i hk
      by_cases hk2 : fr + k < i + 1
      · rw [if_pos (by omega), if_pos hk2]
        congr 1
        omega
      · rw [if_neg (by omega), if_neg hk2]
  · have e : fr = i := by omega
    subst e
    rw [if_neg h, if_pos (by omega)]
    have e0 : ByteArray.empty ++ s.extract fr (fr + 1) = s.extract fr (fr + 1) := by refine tB_inj ?_; rw [tB_append]; rfl
    unfold addC
    cases hg : out.getLast? with
    | none =>
      have : out = [] := List.getLast?_eq_none_iff.1 hg
      subst this
      rw [e0]
      rfl
    | some p =>
      simp only []
      rw [if_pos (he p hg), e0]
theorem cut_alike_at {s : ByteArray} {ab : List ByteArray} : ∀ (f i fr : Nat) (out : List PieceP), s.size < f + i → fr ≤ i → i ≤ s.size → EndsAb out → rcutF s ab f i (flushP s fr i out) = cutF s ab f i fr out
  | 0, i, fr, out, h1, h2, h3, he => by omega
  | f + 1, i, fr, out, h1, h2, h3, he => by
    unfold rcutF cutF
    by_cases hi : i < s.size
    · rw [if_pos hi, if_pos hi]
      by_cases ht : tkL s ab i = 0
      · rw [if_pos ht, if_pos ((tk_zero hi).1 ht), flush_add hi h2 he]
        exact cut_alike_at f (i + 1) fr out (by omega) (by omega) (by omega) he
      · obtain ⟨g1, g2, g3⟩ := tk_first hi ht
        have g4 := fits_in g1
        rw [if_neg ht, if_neg (fun hc => ht ((tk_zero hi).2 hc)), g3]
        have e1 : (((tkL s ab i - 1 : Nat) : Int) + 1) = (tkL s ab i : Int) := by omega
        rw [e1]
        have ih := cut_alike_at (ab := ab) f (i + (ab.getD (tkL s ab i - 1) ByteArray.empty).size) (i + (ab.getD (tkL s ab i - 1) ByteArray.empty).size) (flushP s fr i out ++ [(ByteArray.empty, (tkL s ab i : Int))]) (by omega) (Nat.le_refl _) g4.2.2 (fun p hp => by
          simp at hp
          subst hp
          show (tkL s ab i : Int) > 0
          omega)
        have e2 : ∀ x o, flushP s x x o = o := fun x o => by unfold flushP; rw [if_neg (by omega)]
        rw [e2] at ih
        exact ih
    · rw [if_neg hi, if_neg hi]
      have : i = s.size := by omega
      rw [this]
/-- **Both cut alike.** -/
theorem cut_alike (s : ByteArray) (ab : List ByteArray) : rcutP s ab = cutP s ab := cut_alike_at (s := s) (ab := ab) (s.size + 1) 0 0 [] (by omega) (Nat.le_refl _) (Nat.zero_le _) (fun p hp => by simp at hp)
end Go.Proofs.YtpbaiighifhfnaaDoor
namespace Go.Proofs.YtpbaiighifhfnaaDoor
open Go.RowKit
set_option linter.unusedVariables false
/-! ### Costs add up -/
def sumP (l : List PieceP) : Int := (l.map pcost).sum
theorem costP_sum : ∀ (l : List PieceP) (k : Nat), k ≤ l.length → costP l k = sumP (l.take k)
  | l, 0, _ => by simp [costP, sumP]
  | l, k + 1, hk => by
    have e : l.take (k + 1) = l.take k ++ [l.getD k dPiece] := by rw [List.take_add_one]; simp [show k < l.length from hk]
    rw [costP_succ, costP_sum l k (by omega), e]
    unfold sumP
    simp
theorem costP_all (l : List PieceP) : costP l l.length = sumP l := by
  have := costP_sum l l.length (Nat.le_refl _)
  rwa [List.take_length] at this
theorem sumP_app (a b : List PieceP) : sumP (a ++ b) = sumP a + sumP b := by unfold sumP; simp
def costB (l : List Int) : Int := (l.map fun c => ((aSort c).length : Int)).sum
theorem cst_sum (s : ByteArray) : ∀ k, k ≤ s.size → cst s k = costB ((tB s).take k)
  | 0, _ => by simp [cst, costB]
  | k + 1, hk => by
    have hl : k < (tB s).length := by rw [tB_len]; exact hk
    have e : (tB s).take (k + 1) = (tB s).take k ++ [(tB s).getD k 0] := by rw [List.take_add_one]; simp [hl]
    rw [cst_succ, cst_sum s k (by omega), e]
    unfold costB
    simp
theorem costS_tB (s : ByteArray) : costS s = costB (tB s) := by
  unfold costS
  rw [cst_sum s s.size (Nat.le_refl _), List.take_of_length_le (by rw [tB_len]; exact Nat.le_refl _)]
theorem costB_app (a b : List Int) : costB (a ++ b) = costB a + costB b := by unfold costB; simp
/-- Between two places. -/
theorem cost_ex {s : ByteArray} {a b c : Nat} (h1 : a ≤ b) (h2 : b ≤ c) (h3 : c ≤ s.size) : costS (s.extract a c) = costS (s.extract a b) + costS (s.extract b c) := by
  rw [costS_tB, costS_tB, costS_tB, ← costB_app]
  congr 1
  rw [tB_extract, tB_extract, tB_extract]
  have e : (tB s).take c = (tB s).take b ++ ((tB s).take c).drop b := by
    have := List.take_append_drop b ((tB s).take c)
    rw [List.take_take, Nat.min_eq_left h2] at this
    exact this.symm
  conv => lhs; rw [e]
  rw [List.drop_append_of_le_length (by rw [List.length_take, tB_len]; omega)]
theorem cost_ex0 {s : ByteArray} {a : Nat} : costS (s.extract a a) = 0 := by
  rw [costS_tB, tB_extract, List.drop_of_length_le (by rw [List.length_take]; omega)]
  rfl
theorem flush_cost {s : ByteArray} {fr i : Nat} {out : List PieceP} (h : fr ≤ i) (hi : i ≤ s.size) : sumP (flushP s fr i out) = sumP out + costS (s.extract fr i) := by
  unfold flushP
  split
  · rw [sumP_app]
    congr 1
    show ([(s.extract fr i, (0 : Int))].map pcost).sum = _
    simp [pcost]
  · have : fr = i := by omega
    subst this
    rw [cost_ex0]
    omega
theorem lsL_end (s : ByteArray) (ab : List ByteArray) : (lsL s ab).getD s.size 0 = 0 := by
  have := lsL_from (s := s) (ab := ab) (d := 0) (j := s.size) (Nat.zero_le _) (by omega)
  rw [this]
  show (List.replicate (s.size + 1) (0 : Int)).getD s.size 0 = 0
  simp
/-- What is behind a place costs the least. -/
theorem cutF_cost {s : ByteArray} {ab : List ByteArray} : ∀ (f i fr : Nat) (out : List PieceP), s.size < f + i → fr ≤ i → i ≤ s.size → sumP (cutF s ab f i fr out) = sumP out + costS (s.extract fr i) + (lsL s ab).getD i 0
  | 0, i, fr, out, h1, h2, h3 => by omega
  | f + 1, i, fr, out, h1, h2, h3 => by
    unfold cutF
    by_cases hi : i < s.size
    · rw [if_pos hi]
      by_cases ht : tkL s ab i = 0
      · rw [if_pos ht, cutF_cost (ab := ab) f (i + 1) fr out (by omega) (by omega) (by omega), ← (tk_zero (ab := ab) hi).1 ht, cost_ex (s := s) (a := fr) (b := i) (c := i + 1) h2 (by omega) (by omega)]
        omega
      · obtain ⟨g1, g2, g3⟩ := tk_first hi ht
        have g4 := fits_in g1
        obtain ⟨_, _, k3, _⟩ := tkK_first s ab i (lsL s ab) ab.length ht
        have k3' : 2 + (lsL s ab).getD (i + (ab.getD (tkL s ab i - 1) ByteArray.empty).size) 0 = (lsL s ab).getD i 0 := by rw [lsL_at hi]; exact k3
        rw [if_neg ht, cutF_cost (ab := ab) f _ _ _ (by omega) (Nat.le_refl _) g4.2.2, cost_ex0, sumP_app, flush_cost h2 h3, ← k3']
        have e : sumP [(ByteArray.empty, (tkL s ab i : Int))] = 2 := by
          have h9 : (tkL s ab i : Int) > 0 := by omega
          show (pcost (ByteArray.empty, (tkL s ab i : Int))) + 0 = 2
          unfold pcost
          rw [if_pos h9]
          rfl
        rw [e]
        omega
    · rw [if_neg hi]
      have : i = s.size := by omega
      subst this
      rw [flush_cost h2 (Nat.le_refl _), lsL_end]
      omega
/-- **A cut costs the least.** -/
theorem cut_cost (s : ByteArray) (ab : List ByteArray) : costP (cutP s ab) (cutP s ab).length = (lsL s ab).getD 0 0 := by
  rw [costP_all]
  unfold cutP
  rw [cutF_cost (s.size + 1) 0 0 [] (by omega) (Nat.le_refl _) (Nat.zero_le _), cost_ex0]
  simp [sumP]
/-- .. at most what its bytes cost. -/
theorem lsL_le {s : ByteArray} {ab : List ByteArray} : ∀ d, d ≤ s.size → (lsL s ab).getD (s.size - d) 0 ≤ costS (s.extract (s.size - d) s.size)
  | 0, _ => by
    have h := lsL_end s ab
    rw [Nat.sub_zero, h, cost_ex0]
    exact Int.le_refl _
  | d + 1, hd => by
    have ih := lsL_le (s := s) (ab := ab) d (by omega)
    have hi : s.size - (d + 1) < s.size := by omega
    have hm := lsK_mono s ab (s.size - (d + 1)) (lsL s ab) 0 ab.length
    rw [Nat.zero_add] at hm
    rw [lsL_at hi]
    have e : s.size - (d + 1) + 1 = s.size - d := by omega
    have h0 : lsK s ab (s.size - (d + 1)) (lsL s ab) 0 = costS (s.extract (s.size - (d + 1)) (s.size - (d + 1) + 1)) + (lsL s ab).getD (s.size - (d + 1) + 1) 0 := rfl
    rw [h0, e] at hm
    rw [cost_ex (s := s) (a := s.size - (d + 1)) (b := s.size - d) (c := s.size) (by omega) (by omega) (Nat.le_refl _)]
    omega
theorem ex_all (s : ByteArray) : s.extract 0 s.size = s := by
  refine tB_inj ?_
  rw [tB_extract, List.drop_zero, List.take_of_length_le (by rw [tB_len]; exact Nat.le_refl _)]
theorem least_le (s : ByteArray) (ab : List ByteArray) : (lsL s ab).getD 0 0 ≤ costS s := by
  have := lsL_le (s := s) (ab := ab) s.size (Nat.le_refl _)
  rw [Nat.sub_self, ex_all] at this
  exact this
end Go.Proofs.YtpbaiighifhfnaaDoor
namespace Go.Proofs.YtpbaiighifhfnaaDoor
open Go.RowKit
set_option linter.unusedVariables false
def joinB (ab : List ByteArray) (l : List PieceP) : List Int := l.flatMap fun p => tB (textP ab p)
theorem joinB_app (ab : List ByteArray) (a b : List PieceP) : joinB ab (a ++ b) = joinB ab a ++ joinB ab b := by unfold joinB; simp
theorem ex_drop {s : ByteArray} {a b : Nat} (h : a ≤ b) : tB (s.extract a b) ++ (tB s).drop b = (tB s).drop a := by
  rw [tB_extract]
  have e := List.take_append_drop b (tB s)
  conv => rhs; rw [← e]
  by_cases hb : b ≤ (tB s).length
  · rw [List.drop_append_of_le_length (by rw [List.length_take]; omega)]
  · rw [List.drop_of_length_le (l := tB s) (i := b) (by omega), List.append_nil, List.append_nil]
theorem flush_join {s : ByteArray} {ab : List ByteArray} {fr i : Nat} {out : List PieceP} (h : fr ≤ i) : joinB ab (flushP s fr i out) = joinB ab out ++ tB (s.extract fr i) := by
  unfold flushP
  split
  · rw [joinB_app]
    congr 1
    show tB (textP ab (s.extract fr i, 0)) ++ [] = _
    unfold textP
    rw [if_neg (by show ¬ (0 : Int) > 0; omega), List.append_nil]
  · have : fr = i := by omega
    subst this
    rw [tB_extract, List.drop_of_length_le (by rw [List.length_take]; omega), List.append_nil]
theorem cutF_join {s : ByteArray} {ab : List ByteArray} : ∀ (f i fr : Nat) (out : List PieceP), s.size < f + i → fr ≤ i → i ≤ s.size → joinB ab (cutF s ab f i fr out) = joinB ab out ++ (tB s).drop fr
  | 0, i, fr, out, h1, h2, h3 => by omega
  | f + 1, i, fr, out, h1, h2, h3 => by
    unfold cutF
    by_cases hi : i < s.size
    · rw [if_pos hi]
      by_cases ht : tkL s ab i = 0
      · rw [if_pos ht]
        exact cutF_join f (i + 1) fr out (by omega) (by omega) (by omega)
      · obtain ⟨g1, g2, g3⟩ := tk_first hi ht
        have g4 := fits_in g1
        rw [if_neg ht, cutF_join (ab := ab) f _ _ _ (by omega) (Nat.le_refl _) g4.2.2, joinB_app, flush_join h2, List.append_assoc, List.append_assoc]
        congr 1
        have hat : s.extract i (i + (ab.getD (tkL s ab i - 1) ByteArray.empty).size) = ab.getD (tkL s ab i - 1) ByteArray.empty := by
          unfold fitsB at g1
          simp only [Bool.and_eq_true, decide_eq_true_eq] at g1
          exact g1.2
        have e : joinB ab [(ByteArray.empty, (tkL s ab i : Int))] = tB (s.extract i (i + (ab.getD (tkL s ab i - 1) ByteArray.empty).size)) := by
          show tB (textP ab (ByteArray.empty, (tkL s ab i : Int))) ++ [] = _
          unfold textP
          rw [if_pos (by show (tkL s ab i : Int) > 0; omega), List.append_nil, hat]
          congr 2
          show ((tkL s ab i : Int) - 1).toNat = _
          omega
        rw [e, ex_drop (by omega), ex_drop (by omega)]
    · rw [if_neg hi, flush_join (by omega)]
      congr 1
      have := ex_drop (s := s) (a := fr) (b := s.size) (by omega)
      rw [List.drop_of_length_le (l := tB s) (i := s.size) (by rw [tB_len]; exact Nat.le_refl _), List.append_nil] at this
      exact this
theorem flush_ok {s : ByteArray} {ab : List ByteArray} {fr i : Nat} {out : List PieceP} (h : ∀ p ∈ out, badP ab p = false) : ∀ p ∈ flushP s fr i out, badP ab p = false := by
  unfold flushP
  split
  · intro p hp
    rcases List.mem_append.1 hp with hp | hp
    · exact h p hp
    · simp at hp
      subst hp
      unfold badP
      first | (simp; done) | (simp; omega)
  · exact h
theorem cutF_ok {s : ByteArray} {ab : List ByteArray} : ∀ (f i fr : Nat) (out : List PieceP), (∀ p ∈ out, badP ab p = false) → ∀ p ∈ cutF s ab f i fr out, badP ab p = false
  | 0, i, fr, out, h => flush_ok h
  | f + 1, i, fr, out, h => by
    unfold cutF
    by_cases hi : i < s.size
    · rw [if_pos hi]
      by_cases ht : tkL s ab i = 0
      · rw [if_pos ht]
        exact cutF_ok f (i + 1) fr out h
      · obtain ⟨g1, g2, g3⟩ := tk_first hi ht
        have g4 := fits_in g1
        rw [if_neg ht]
        refine cutF_ok f _ _ _ fun p hp => ?_
        rcases List.mem_append.1 hp with hp | hp
        · exact flush_ok h p hp
        · simp at hp
          subst hp
          unfold badP
          simp
          omega
    · rw [if_neg hi]
      exact flush_ok h
end Go.Proofs.YtpbaiighifhfnaaDoor
