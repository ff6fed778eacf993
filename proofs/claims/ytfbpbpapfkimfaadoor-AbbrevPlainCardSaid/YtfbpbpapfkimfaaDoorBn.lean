/- Chapter 7: the document's Choose, walked. -/
import Derived.Test.YtfbpbpapfkimfaaDoorBm
import Derived.Test.YtfbpbpapfkimfaaDoorProg
import Derived.KernelRfl
namespace Go.Proofs.YtfbpbpapfkimfaaDoor
open Go.RowKit
set_option maxRecDepth 100000
set_option linter.unusedVariables false
set_option linter.unusedSimpArgs false
theorem ex_len {p : ByteArray} {a b : Nat} (h : a ≤ b) (hb : b ≤ p.size) : (p.extract a b).size = b - a := by rw [ByteArray.size_extract]; omega
theorem wt_woF {p r : ByteArray} (hr : 0 < r.size) : ∀ (f i fr : Nat) (out : List ByteArray), fr ≤ i → i ≤ p.size → wt (woF p r f i fr out) ≤ wt out + (p.size - fr) + 1
  | 0, i, fr, out, h1, h2 => by
    have := ex_len (p := p) (a := fr) (b := p.size) (by omega) (Nat.le_refl _)
    unfold woF
    rw [wt_append]
    simp only [wt]
    omega
  | f + 1, i, fr, out, h1, h2 => by
    unfold woF
    split
    · split
      · have h3 := wt_woF (p := p) hr f (i + r.size) (i + r.size) (out ++ [p.extract fr i]) (Nat.le_refl _) (by omega)
        have := ex_len (p := p) (a := fr) (b := i) h1 h2
        rw [wt_append] at h3
        simp only [wt] at h3
        omega
      · have := wt_woF (p := p) hr f (i + 1) fr out (by omega) (by omega)
        omega
    · have := ex_len (p := p) (a := fr) (b := p.size) (by omega) (Nat.le_refl _)
      rw [wt_append]
      simp only [wt]
      omega
theorem wt_woA {r : ByteArray} (hr : 0 < r.size) (l : List ByteArray) : ∀ k, k ≤ l.length → wt (woA l r k) ≤ wt (l.take k)
  | 0, _ => Nat.le_refl _
  | k + 1, hk => by
    have h1 := wt_woA hr l k (by omega)
    have h2 := wt_woF hr ((l.getD k ByteArray.empty).size + 1) 0 0 (woA l r k) (p := l.getD k ByteArray.empty) (Nat.le_refl _) (Nat.zero_le _)
    have e : l.take (k + 1) = l.take k ++ [l.getD k ByteArray.empty] := by rw [List.take_add_one]; simp [show k < l.length from hk]
    unfold woA
    rw [e, wt_append]
    have : wt [l.getD k ByteArray.empty] = (l.getD k ByteArray.empty).size + 1 := by simp [wt]
    omega
theorem wt_wo {r : ByteArray} (hr : 0 < r.size) (l : List ByteArray) : wt (woA l r l.length) ≤ wt l := by
  have := wt_woA hr l l.length (Nat.le_refl _)
  rwa [List.take_length] at this
/-- None, or a row of 2 to 8 bytes. -/
def RowOk (b : RowP) : Prop := b.1.size = 0 ∨ (2 ≤ b.1.size ∧ b.1.size ≤ 8)
theorem rbRow_ok {l : List ByteArray} {p : ByteArray} {i : Nat} {b : RowP} (h : RowOk b) : ∀ k, RowOk (rbRow l p i b k)
  | 0 => h
  | k + 1 => by
    have h1 := rbRow_ok h (l := l) (p := p) (i := i) k
    unfold rbRow
    split
    · rename_i hc
      unfold rbStep
      split
      · right
        show 2 ≤ (p.extract i (i + (k + 2))).size ∧ (p.extract i (i + (k + 2))).size ≤ 8
        rw [ex_size p i (k + 2) hc.2]
        omega
      · exact h1
    · exact h1
theorem rbPart_ok {l : List ByteArray} {p : ByteArray} {b : RowP} (h : RowOk b) : ∀ k, RowOk (rbPart l p b k)
  | 0 => h
  | k + 1 => rbRow_ok (rbPart_ok h k) 7
theorem rbAll_ok (l : List ByteArray) : ∀ k, RowOk (rbAll l k)
  | 0 => .inl rfl
  | k + 1 => rbPart_ok (rbAll_ok l k) _
def rbL (l : List ByteArray) : ByteArray := (rbAll l l.length).1
def rcF (most : Int) : Nat → List ByteArray → List ByteArray → List ByteArray
  | 0, out, _ => out
  | f + 1, out, parts => if (out.length : Int) < most ∧ out.length < 32 then (if rbL parts = ⟨#[]⟩ then out else rcF most f (out ++ [rbL parts]) (woA parts (rbL parts) parts.length)) else out
def rchooseP (l : List ByteArray) (most : Int) : List ByteArray := rcF most 33 [] l
set_option maxHeartbeats 800000 in
theorem rchoose_pc (l : List ByteArray) (hl : wt l ≤ 10000) (most : Int) : PC Tryd.prog 13 [slS l, vi most] (slS (rchooseP l most)) := by
  refine FC.body 4 33 Tryd.func13 rfl (by kernel_rfl) ?_
  have hll0 := wt_len l
  refine aw_seq ?_
  refine aw_text rfl ?_
  refine ch_v (R := []) rfl rfl (oc_assign (x := .val _) rfl rfl) trivial ?_
  refine ck_nil ?_
  refine aw_seq ?_
  refine aw_text rfl ?_
  refine ch_u rfl rfl (oc_buildSlice_own (ps := []) (xs := []) (e := 9) (by_ := 16) (zs := [.string ⟨#[]⟩]) 2 rfl (by kernel_rfl) (by kernel_rfl) rfl rfl rfl rfl (by decide)) ⟨rfl, trivial⟩ ?_
  refine ch_v (R := []) rfl rfl (oc_move (x := .sl _ _ _) rfl rfl) trivial ?_
  refine ch_u rfl rfl (oc_append (e := 9) (k := 1) (by_ := 16) (zs := [.string ⟨#[]⟩]) (cs := []) (ds := l.map vs) 3 rfl rfl rfl (by kernel_rfl) (by kernel_rfl) rfl (by decide) (by decide) rfl (by simp) (app_vs _) (by omega) (by omega)) ⟨rfl, rfl, trivial⟩ ?_
  refine ch_v (R := []) rfl rfl (oc_assign (x := .osl _ _ _) rfl rfl) trivial ?_
  refine ck_nil ?_
  refine aw_seq ?_
  refine aw_text rfl ?_
  refine ch_v (R := []) rfl rfl (oc_assign (x := .val _) rfl rfl) trivial ?_
  refine ck_nil ?_
  refine aw_seq ?_
  refine aw_block ?_
  refine aw_le (Le.freeze 5 3 (fun j => vs (l.getD j ByteArray.empty)) rfl rfl (by simp) (fun j hj => row_vs l j (by omega))) ?_
  refine aw_le (Le.nameNil 6 0 1 9 rfl rfl) ?_
  refine aw_le (Le.sub (τ := ⟨[(1, vi most), (5, slS l), (6, .osl 1 0 0)], [(0, .live 9 []), (1, .unborn)]⟩) (by refine ⟨.inr rfl, .inr (by show Av.sl 1 (0 + l.length) _ = slS l; rw [Nat.zero_add]; rfl), .inr rfl, trivial⟩) ⟨rfl, rfl, trivial⟩) ?_
  refine aw_loop (ι := ChSt) (fun q => ⟨[(1, vi most), (5, slS q.2), (6, .osl 1 0 q.1.length)], [(0, .live 9 (q.1.map vs)), (1, .unborn)]⟩) (fun q => rchooseP l most = rcF most (33 - q.1.length) q.1 q.2 ∧ q.1.length ≤ 32 ∧ wt q.2 ≤ 10000) (fun q => 33 - q.1.length) ([], l) (⟨rfl, Nat.zero_le _, hl⟩) (Le.sub (by repeat (first | trivial | refine ⟨.inr rfl, ?_⟩ | refine ⟨.inr (vi_eq (by omega)), ?_⟩)) (by repeat (first | trivial | refine ⟨rfl, ?_⟩))) ?_
  intro q hI
  refine aw_seq ?_
  refine aw_seq ?_
  refine aw_text rfl ?_
  refine ch_v (R := []) rfl rfl (oc_move (x := .osl _ _ _) rfl rfl) trivial ?_
  refine ch_v (R := [(_, .live _ _)]) rfl rfl (oc_len_own rfl rfl (by kernel_rfl)) ⟨rfl, trivial⟩ ?_
  refine ch_v (R := []) rfl rfl (oc_move (x := .val _) rfl rfl) trivial ?_
  refine ch_v (R := []) rfl rfl (oc_binZ rfl rfl rfl rfl) trivial ?_
  refine ch_v (R := []) rfl rfl (oc_move (x := .val _) rfl rfl) trivial ?_
  refine ch_g (R := []) rfl rfl rfl gate_t (fun hC => oc_move (x := .osl _ _ _) rfl rfl) (fun hC => ⟨(by first | rfl | exact hC | (simp only [Bool.and_eq_true] at hC; first | exact hC.1 | exact hC.1.1 | exact hC.2) | simp_all), trivial⟩) trivial ?_
  refine ch_g (R := [(_, .live _ _)]) rfl rfl rfl gate_t (fun hC => oc_len_own rfl rfl (by kernel_rfl)) (fun hC => ⟨(by first | rfl | exact hC | (simp only [Bool.and_eq_true] at hC; first | exact hC.1 | exact hC.1.1 | exact hC.2) | simp_all), trivial⟩) ⟨rfl, trivial⟩ ?_
  refine ch_g (R := []) rfl rfl rfl gate_t (fun hC => oc_binZ rfl rfl rfl rfl) (fun hC => ⟨(by first | rfl | exact hC | (simp only [Bool.and_eq_true] at hC; first | exact hC.1 | exact hC.1.1 | exact hC.2) | simp_all), (by first | rfl | exact hC | (simp only [Bool.and_eq_true] at hC; first | exact hC.1 | exact hC.1.1 | exact hC.2) | simp_all), trivial⟩) trivial ?_
  refine ch_v (R := []) rfl rfl (oc_and rfl rfl rfl rfl (by first | exact fun h => h | simp_all)) trivial ?_
  refine ck_nil ?_
  refine aw_cond rfl (fun hb => ?_) (fun hb => ?_)
  · have hlt : (q.1.length : Int) < most ∧ q.1.length < 32 := by simp only [Bool.and_eq_true, decide_eq_true_eq] at hb; omega
    have hro : RowOk (rbAll q.2 q.2.length) := rbAll_ok _ _
    refine aw_skip ?_
    refine aw_block ?_
    refine aw_seq ?_
    refine aw_text rfl ?_
    refine ch_v (R := []) rfl rfl (oc_move (x := .sl _ _ _) rfl rfl) trivial ?_
    refine ch_v (R := []) rfl rfl (oc_call rfl (by kernel_rfl) (rbest_pc q.2 (few_wt hI.2.2)) rfl (by simp only [PureL, Pure, and_self, pure_slI, pure_slS, rowAv, pieces_pure, implies_true]) (by simp only [PureL, Pure, and_self, pure_slI, pure_slS, rowAv, pieces_pure, implies_true])) trivial ?_
    refine ch_v (R := []) rfl rfl (oc_assign (x := .val _) rfl rfl) trivial ?_
    refine ck_nil ?_
    refine aw_seq ?_
    refine aw_seq ?_
    refine aw_text rfl ?_
    refine ch_v (R := []) rfl rfl (oc_move (x := .val _) rfl rfl) trivial ?_
    refine ch_v (R := []) rfl rfl (oc_str_eq rfl rfl rfl) trivial ?_
    refine ck_nil ?_
    refine aw_cond rfl (fun hb => ?_) (fun hb => ?_)
    · have hem : (rbL q.2) = ⟨#[]⟩ := by rw [show ((rbAll q.2 q.2.length).1.toList == (⟨#[]⟩ : ByteArray).toList) = _ from str_empty _] at hb; exact of_decide_eq_true hb
      have hfin : rchooseP l most = q.1 := by rw [hI.1, show 33 - q.1.length = (32 - q.1.length) + 1 from by omega]; show (if _ then _ else _) = _; rw [if_pos hlt, if_pos hem]
      refine aw_seq ?_
      refine aw_le (Le.freeze 6 0 (fun j => vs (q.1.getD j ByteArray.empty)) rfl rfl (by simp) (row_vs _)) ?_
      refine aw_text rfl ?_
      refine ch_v (R := []) rfl rfl (oc_move (x := .sl _ _ _) rfl rfl) trivial ?_
      refine ch_v (R := []) rfl rfl (oc_assign (x := .sl _ _ _) rfl rfl) trivial ?_
      refine ck_nil ?_
      refine aw_ret ?_
      exact ⟨.inl rfl, ResOk.tmp rfl (by rw [hfin]; rfl), trivial⟩
    · have hem : ¬ (rbL q.2) = ⟨#[]⟩ := by rw [show ((rbAll q.2 q.2.length).1.toList == (⟨#[]⟩ : ByteArray).toList) = _ from str_empty _] at hb; exact of_decide_eq_false hb
      have hx2 : 2 ≤ (rbL q.2).size ∧ (rbL q.2).size ≤ 8 := by
        rcases hro with h9 | h9
        · exact absurd (tB_inj (List.eq_nil_of_length_eq_zero (by rw [tB_len]; exact h9))) hem
        · exact h9
      have hch : rchooseP l most = rcF most (33 - (q.1 ++ [(rbL q.2)]).length) (q.1 ++ [(rbL q.2)]) (woA q.2 (rbL q.2) q.2.length) := by rw [hI.1, show 33 - q.1.length = (32 - q.1.length) + 1 from by omega]; show (if _ then _ else _) = _; rw [if_pos hlt, if_neg hem]; congr 1; (first | (simp; done) | (simp; omega))
      refine aw_skip ?_
      refine aw_seq ?_
      refine aw_text rfl ?_
      refine ch_v (R := []) rfl rfl (oc_move (x := .osl _ _ _) rfl rfl) trivial ?_
      refine ch_v (R := []) rfl rfl (oc_move (x := .val _) rfl rfl) trivial ?_
      refine ch_v (R := []) rfl rfl (oc_buildSlice (ps := [.tmp 26]) (xs := [.val _]) (e := 9) (k := 1) (by_ := 16) (zs := [.string ⟨#[]⟩]) rfl (by kernel_rfl) (by kernel_rfl) rfl rfl rfl (by decide) (by decide)) trivial ?_
      refine ch_u rfl rfl (oc_append (e := 9) (k := 1) (by_ := 16) (zs := [.string ⟨#[]⟩]) (cs := q.1.map vs) (ds := [vs (rbL q.2)]) 1 rfl rfl rfl (by kernel_rfl) (by kernel_rfl) rfl (by decide) (by decide) (by simp) rfl (app_vs1 _) (by omega) (by omega)) ⟨rfl, rfl, trivial⟩ ?_
      refine ch_v (R := []) rfl rfl (oc_assign (x := .osl _ _ _) rfl rfl) trivial ?_
      refine ck_nil ?_
      refine aw_le (Le.trans (Le.swap (τ := ⟨[(1, vi most), (5, slS q.2), (6, .osl 1 0 (q.1.length + 1)), (7, vs (rbL q.2))], [(0, .live 9 ((q.1 ++ [(rbL q.2)]).map vs)), (1, .dead)]⟩) 0 1 (by simp) (by simp) ⟨rfl, (ren_pure _ _ (pure_slS _)).symm, rfl, rfl, trivial⟩ ⟨by show lkH _ 1 = some (Hs.live _ (((q.1 ++ [(rbL q.2)]).map vs).map _)); rw [ren_vs, show ((q.1 ++ [(rbL q.2)]).map vs) = q.1.map vs ++ [vs (rbL q.2)] from List.map_append]; rfl, rfl, trivial⟩) (Le.reset (τ := ⟨[(1, vi most), (5, slS q.2), (6, .osl 1 0 (q.1.length + 1)), (7, vs (rbL q.2))], [(0, .live 9 ((q.1 ++ [(rbL q.2)]).map vs)), (1, .unborn)]⟩) [1] (by simp) (by repeat (first | trivial | refine ⟨.inr rfl, ?_⟩)) ⟨by simp [NoN], NoN.of_pure _ (pure_slS _), by simp [NoN], by simp [NoN], trivial⟩ ⟨by rw [if_neg (by decide)]; exact ⟨rfl, non_vs _⟩, by rw [if_pos (by decide)], trivial⟩)) ?_
      refine aw_text rfl ?_
      refine ch_v (R := []) rfl rfl (oc_move (x := .sl _ _ _) rfl rfl) trivial ?_
      refine ch_v (R := []) rfl rfl (oc_move (x := .val _) rfl rfl) trivial ?_
      refine ch_v (R := []) rfl rfl (oc_call rfl (by kernel_rfl) (without_pc q.2 (few_wt hI.2.2) _ (by omega) (by omega)) rfl (by simp only [PureL, Pure, and_self, pure_slI, pure_slS, rowAv, pieces_pure, implies_true]) (by simp only [PureL, Pure, and_self, pure_slI, pure_slS, rowAv, pieces_pure, implies_true])) trivial ?_
      refine ch_v (R := []) rfl rfl (oc_assign (x := .sl _ _ _) rfl rfl) trivial ?_
      refine ck_nil ?_
      exact ⟨((q.1 ++ [(rbL q.2)]), woA q.2 (rbL q.2) q.2.length), ⟨hch, by show (q.1 ++ [_]).length ≤ 32; rw [List.length_append]; simp; omega, by have h9 := wt_wo (r := (rbL q.2)) (by omega) q.2; show wt (woA _ _ _) ≤ _; omega⟩, by show 33 - (q.1 ++ [_]).length < _; rw [List.length_append]; simp; omega, Le.sub (by repeat (first | trivial | refine ⟨.inr rfl, ?_⟩ | refine ⟨.inr (by show lkS _ 6 = Av.osl 1 0 (q.1 ++ [(rbL q.2)]).length; rw [List.length_append]; rfl), ?_⟩)) ⟨rfl, rfl, trivial⟩⟩
  · have hge : ¬ ((q.1.length : Int) < most ∧ q.1.length < 32) := by intro hc; simp only [Bool.and_eq_false_iff, decide_eq_false_iff_not] at hb; omega
    have hfin : rchooseP l most = q.1 := by rw [hI.1]; cases 33 - q.1.length <;> simp [rcF, hge]
    refine aw_exit ?_
    refine aw_seq ?_
    refine aw_le (Le.freeze 6 0 (fun j => vs (q.1.getD j ByteArray.empty)) rfl rfl (by simp) (row_vs _)) ?_
    refine aw_text rfl ?_
    refine ch_v (R := []) rfl rfl (oc_move (x := .sl _ _ _) rfl rfl) trivial ?_
    refine ch_v (R := []) rfl rfl (oc_assign (x := .sl _ _ _) rfl rfl) trivial ?_
    refine ck_nil ?_
    refine aw_ret ?_
    exact ⟨.inl rfl, ResOk.tmp rfl (by rw [hfin]; rfl), trivial⟩
end Go.Proofs.YtfbpbpapfkimfaaDoor
