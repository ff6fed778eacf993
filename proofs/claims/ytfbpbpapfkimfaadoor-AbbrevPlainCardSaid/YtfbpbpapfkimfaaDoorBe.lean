/- Chapter 7: the document's counts, what pieces cost, walked. -/
import Derived.Test.YtfbpbpapfkimfaaDoorBd
import Derived.Test.YtfbpbpapfkimfaaDoorProg
import Derived.KernelRfl
namespace Go.Proofs.YtfbpbpapfkimfaaDoor
open Go.RowKit
set_option maxRecDepth 100000
set_option linter.unusedVariables false
set_option linter.unusedSimpArgs false
theorem str_eq (s t : ByteArray) : (s.toList == t.toList) = decide (s = t) := by
  rw [toList_beq]
  by_cases e : s = t
  · subst e; simp
  · have : ¬ tB s = tB t := fun h => e (tB_inj h)
    simp [e, this]
/-- How often a row stands in a part from a place on, not over itself. -/
def cntF (p r : ByteArray) : Nat → Nat → Int → Int
  | 0, _, n => n
  | f + 1, i, n => if i + r.size ≤ p.size then (if p.extract i (i + r.size) = r then cntF p r f (i + r.size) (n + 1) else cntF p r f (i + 1) n) else n
theorem cntF_bd (p r : ByteArray) : ∀ (f i : Nat) (n : Int), n ≤ cntF p r f i n ∧ cntF p r f i n ≤ n + f
  | 0, i, n => by simp [cntF]
  | f + 1, i, n => by
    unfold cntF
    split
    · split
      · have := cntF_bd p r f (i + r.size) (n + 1); omega
      · have := cntF_bd p r f (i + 1) n; omega
    · omega
theorem cntF_over {p r : ByteArray} {f i : Nat} {n : Int} (h : ¬ i + r.size ≤ p.size) : cntF p r f i n = n := by
  cases f with
  | zero => rfl
  | succ f => unfold cntF; rw [if_neg h]
theorem cntF_more {p r : ByteArray} (hr : 0 < r.size) : ∀ {f f' i : Nat} {n : Int}, p.size < f + i → p.size < f' + i → cntF p r f i n = cntF p r f' i n
  | 0, f', i, n, h, h' => by rw [cntF_over (by omega), cntF_over (by omega)]
  | f + 1, 0, i, n, h, h' => by rw [cntF_over (by omega), cntF_over (by omega)]
  | f + 1, f' + 1, i, n, h, h' => by
    unfold cntF
    split
    · split
      · exact cntF_more hr (by omega) (by omega)
      · exact cntF_more hr (by omega) (by omega)
    · rfl
def cntA (l : List ByteArray) (r : ByteArray) : Nat → Int
  | 0 => 0
  | k + 1 => cntF (l.getD k ⟨#[]⟩) r ((l.getD k ⟨#[]⟩).size + 1) 0 (cntA l r k)
theorem cntA_bd {l : List ByteArray} (h : FewT l) (r : ByteArray) : ∀ k, 0 ≤ cntA l r k ∧ cntA l r k ≤ 10001 * k
  | 0 => by simp [cntA]
  | k + 1 => by
    have h1 := cntA_bd h r k
    have h2 := h.size k
    have h3 := cntF_bd (l.getD k ⟨#[]⟩) r ((l.getD k ⟨#[]⟩).size + 1) 0 (cntA l r k)
    unfold cntA
    omega
/-! ### Pieces -/
abbrev PieceP := ByteArray × Int
def dPiece : PieceP := (⟨#[]⟩, 0)
def pieceAv (p : PieceP) : Av := .agg [vs p.1, vi p.2]
def piecesAv (l : List PieceP) : Av := .sl 2 l.length fun j => pieceAv (l.getD j dPiece)
theorem pieces_pure (l : List PieceP) : Pure (piecesAv l) := by unfold piecesAv Pure; intro j; simp [pieceAv, Pure, PureL]
def pcost (p : PieceP) : Int := if p.2 > 0 then 2 else costS p.1
def costP (l : List PieceP) : Nat → Int
  | 0 => 0
  | k + 1 => costP l k + pcost (l.getD k dPiece)
structure FewP (l : List PieceP) : Prop where
  len : l.length ≤ 1000000
  size : ∀ k, (l.getD k dPiece).1.size ≤ 1000000
theorem pcost_bd {p : PieceP} (h : p.1.size ≤ 1000000) : 0 ≤ pcost p ∧ pcost p ≤ 3000000 := by
  unfold pcost
  split
  · omega
  · have := cst_bd p.1 p.1.size
    unfold costS
    omega
theorem costP_bd {l : List PieceP} (h : FewP l) : ∀ k, 0 ≤ costP l k ∧ costP l k ≤ 3000000 * k
  | 0 => by simp [costP]
  | k + 1 => by
    have h1 := costP_bd h k
    have h2 := pcost_bd (h.size k)
    unfold costP
    omega
theorem costP_succ (l : List PieceP) (k : Nat) : costP l (k + 1) = costP l k + pcost (l.getD k dPiece) := rfl
set_option maxHeartbeats 800000 in
theorem rcount_pc (l : List ByteArray) (hl : FewT l) (r : ByteArray) (hr : 0 < r.size) (hr2 : r.size ≤ 10000) : PC Tryd.prog 46 [slS l, vs r] (vi (cntA l r l.length)) := by
  refine FC.body 6 41 Tryd.func46 rfl (by kernel_rfl) ?_
  refine aw_seq ?_
  refine aw_text rfl ?_
  refine ch_v (R := []) rfl rfl (oc_assign (x := .val _) rfl rfl) trivial ?_
  refine ck_nil ?_
  refine aw_seq ?_
  refine aw_text rfl ?_
  refine ch_v (R := []) rfl rfl (oc_assign (x := .val _) rfl rfl) trivial ?_
  refine ck_nil ?_
  refine aw_seq ?_
  refine aw_seq ?_
  refine aw_text rfl ?_
  refine ch_v (R := []) rfl rfl (oc_move (x := .sl _ _ _) rfl rfl) trivial ?_
  refine ch_v (R := []) rfl rfl (oc_len rfl rfl (by kernel_rfl)) trivial ?_
  refine ch_v (R := []) rfl rfl (oc_move (x := .val _) rfl rfl) trivial ?_
  refine ck_nil ?_
  refine aw_block ?_
  refine aw_loop (ι := Nat) (fun k => ⟨[(1, vs r), (5, vi (cntA l r k)), (9, slS l), (10, vi l.length), (11, vi k)], []⟩) (fun k => k ≤ l.length) (fun k => l.length - k) 0 (Nat.zero_le _) (Le.sub (by repeat (first | trivial | refine ⟨.inr rfl, ?_⟩ | refine ⟨.inr (vi_eq (by omega)), ?_⟩)) (by repeat (first | trivial | refine ⟨rfl, ?_⟩))) ?_
  intro k hI
  refine aw_seq ?_
  refine aw_text rfl ?_
  refine ch_v (R := []) rfl rfl (oc_binZ rfl rfl rfl rfl) trivial ?_
  refine ck_nil ?_
  refine aw_seq ?_
  refine aw_cond rfl (fun hb => ?_) (fun hb => ?_)
  · have hlt : k < l.length := by have h0 := of_decide_eq_true hb; omega
    have hps := hl.size k
    have hll := hl.len
    have hca := cntA_bd hl r k
    refine aw_skip ?_
    refine aw_seq ?_
    refine aw_block ?_
    refine aw_seq ?_
    refine aw_text rfl ?_
    refine ch_v (R := []) rfl rfl ((by first | exact oc_indexN rfl rfl rfl (by kernel_rfl) (by omega) | exact oc_index rfl rfl rfl (by kernel_rfl) (by omega) (by omega) rfl)) trivial ?_
    refine ch_v (R := []) rfl rfl (oc_load rfl rfl (by kernel_rfl) cells_str) trivial ?_
    refine ch_v (R := []) rfl rfl (oc_assign (x := .val _) rfl rfl) trivial ?_
    refine ck_nil ?_
    refine aw_seq ?_
    refine aw_text rfl ?_
    refine ch_v (R := []) rfl rfl (oc_assign (x := .val _) rfl rfl) trivial ?_
    refine ck_nil ?_
    refine aw_block ?_
    refine aw_loop (ι := Nat × Int) (fun q => ⟨[(1, vs r), (5, vi q.2), (9, slS l), (10, vi l.length), (11, vi k), (7, vs (l.getD k ⟨#[]⟩)), (8, vi q.1)], []⟩) (fun q => q.1 ≤ (l.getD k ⟨#[]⟩).size ∧ cntA l r k ≤ q.2 ∧ q.2 ≤ cntA l r k + q.1 ∧ cntF (l.getD k ⟨#[]⟩) r ((l.getD k ⟨#[]⟩).size + 1) 0 (cntA l r k) = cntF (l.getD k ⟨#[]⟩) r ((l.getD k ⟨#[]⟩).size + 1 - q.1) q.1 q.2) (fun q => (l.getD k ⟨#[]⟩).size - q.1) (0, cntA l r k) (⟨Nat.zero_le _, Int.le_refl _, by simp, rfl⟩) (Le.sub (by repeat (first | trivial | refine ⟨.inr rfl, ?_⟩ | refine ⟨.inr (vi_eq (by omega)), ?_⟩)) (by repeat (first | trivial | refine ⟨rfl, ?_⟩))) ?_
    intro q hI
    refine aw_seq ?_
    refine aw_seq ?_
    refine aw_text rfl ?_
    refine ch_v (R := []) rfl rfl (oc_move (x := .val _) rfl rfl) trivial ?_
    refine ch_v (R := []) rfl rfl (oc_move (x := .val _) rfl rfl) trivial ?_
    refine ch_v (R := []) rfl rfl (oc_len_str rfl rfl (by kernel_rfl)) trivial ?_
    refine ch_v (R := []) rfl rfl (oc_binZ rfl rfl rfl (by first | exact binW_add (by omega) (by omega) | rfl)) trivial ?_
    refine ch_v (R := []) rfl rfl (oc_move (x := .val _) rfl rfl) trivial ?_
    refine ch_v (R := []) rfl rfl (oc_len_str rfl rfl (by kernel_rfl)) trivial ?_
    refine ch_v (R := []) rfl rfl (oc_binZ rfl rfl rfl rfl) trivial ?_
    refine ck_nil ?_
    refine aw_cond rfl (fun hb => ?_) (fun hb => ?_)
    · have hin : q.1 + r.size ≤ (l.getD k ⟨#[]⟩).size := by have h0 := of_decide_eq_true hb; omega
      have hfu : (l.getD k ⟨#[]⟩).size + 1 - q.1 = ((l.getD k ⟨#[]⟩).size - q.1) + 1 := by omega
      refine aw_skip ?_
      refine aw_block ?_
      refine aw_seq ?_
      refine aw_text rfl ?_
      refine ch_v (R := []) rfl rfl (oc_move (x := .val _) rfl rfl) trivial ?_
      refine ch_v (R := []) rfl rfl (oc_move (x := .val _) rfl rfl) trivial ?_
      refine ch_v (R := []) rfl rfl (oc_move (x := .val _) rfl rfl) trivial ?_
      refine ch_v (R := []) rfl rfl (oc_move (x := .val _) rfl rfl) trivial ?_
      refine ch_v (R := []) rfl rfl (oc_len_str rfl rfl (by kernel_rfl)) trivial ?_
      refine ch_v (R := []) rfl rfl (oc_binZ rfl rfl rfl (by first | exact binW_add (by omega) (by omega) | rfl)) trivial ?_
      refine ch_v (R := []) rfl rfl (OC.cast (oc_substr rfl rfl rfl rfl (by kernel_rfl) (by omega) (by omega) (by omega)) (show Av.val (.string ((l.getD k ⟨#[]⟩).extract (q.1 : Int).toNat ((q.1 : Int) + (r.size : Int)).toNat)) = vs ((l.getD k ⟨#[]⟩).extract q.1 (q.1 + r.size)) from by rw [ex_nat])) trivial ?_
      refine ch_v (R := []) rfl rfl (oc_move (x := .val _) rfl rfl) trivial ?_
      refine ch_v (R := []) rfl rfl (oc_str_eq rfl rfl rfl) trivial ?_
      refine ck_nil ?_
      refine aw_cond rfl (fun hb => ?_) (fun hb => ?_)
      · have hat : (l.getD k ⟨#[]⟩).extract q.1 (q.1 + r.size) = r := by rw [str_eq] at hb; exact of_decide_eq_true hb
        refine aw_seq ?_
        refine aw_text rfl ?_
        refine ch_v (R := []) rfl rfl (oc_move (x := .val _) rfl rfl) trivial ?_
        refine ch_v (R := []) rfl rfl (oc_binZ rfl rfl rfl (by first | exact binW_add (by omega) (by omega) | rfl)) trivial ?_
        refine ch_v (R := []) rfl rfl (oc_assign (x := .val _) rfl rfl) trivial ?_
        refine ck_nil ?_
        refine aw_text rfl ?_
        refine ch_v (R := []) rfl rfl (oc_move (x := .val _) rfl rfl) trivial ?_
        refine ch_v (R := []) rfl rfl (oc_move (x := .val _) rfl rfl) trivial ?_
        refine ch_v (R := []) rfl rfl (oc_len_str rfl rfl (by kernel_rfl)) trivial ?_
        refine ch_v (R := []) rfl rfl (oc_binZ rfl rfl rfl (by first | exact binW_add (by omega) (by omega) | rfl)) trivial ?_
        refine ch_v (R := []) rfl rfl (oc_assign (x := .val _) rfl rfl) trivial ?_
        refine ck_nil ?_
        exact ⟨(q.1 + r.size, q.2 + 1), ⟨by show q.1 + r.size ≤ _; omega, by show _ ≤ q.2 + 1; omega, by show q.2 + 1 ≤ _ + ((q.1 + r.size : Nat) : Int); omega, by rw [hI.2.2.2, hfu]; show (if _ then _ else _) = _; rw [if_pos hin, if_pos hat]; exact cntF_more hr (by omega) (by show _ < _ + (q.1 + r.size); omega)⟩, by show (l.getD k ⟨#[]⟩).size - (q.1 + r.size) < _; omega, Le.sub (by repeat (first | trivial | refine ⟨.inr rfl, ?_⟩ | refine ⟨.inr (vi_eq (by show (q.1 : Int) + (r.size : Int) = ((q.1 + r.size : Nat) : Int); omega)), ?_⟩)) trivial⟩
      · have hat : ¬ (l.getD k ⟨#[]⟩).extract q.1 (q.1 + r.size) = r := by rw [str_eq] at hb; exact of_decide_eq_false hb
        refine aw_text rfl ?_
        refine ch_v (R := []) rfl rfl (oc_move (x := .val _) rfl rfl) trivial ?_
        refine ch_v (R := []) rfl rfl (oc_binZ rfl rfl rfl (by first | exact binW_add (by omega) (by omega) | rfl)) trivial ?_
        refine ch_v (R := []) rfl rfl (oc_assign (x := .val _) rfl rfl) trivial ?_
        refine ck_nil ?_
        exact ⟨(q.1 + 1, q.2), ⟨by show q.1 + 1 ≤ _; omega, hI.2.1, by show q.2 ≤ _ + ((q.1 + 1 : Nat) : Int); omega, by rw [hI.2.2.2, hfu]; show (if _ then _ else _) = _; rw [if_pos hin, if_neg hat]; exact cntF_more hr (by omega) (by show _ < _ + (q.1 + 1); omega)⟩, by show (l.getD k ⟨#[]⟩).size - (q.1 + 1) < _; omega, Le.sub (by repeat (first | trivial | refine ⟨.inr rfl, ?_⟩ | refine ⟨.inr (vi_eq (by show (q.1 : Int) + 1 = ((q.1 + 1 : Nat) : Int); omega)), ?_⟩)) trivial⟩
    · have hin : ¬ q.1 + r.size ≤ (l.getD k ⟨#[]⟩).size := by have h0 := of_decide_eq_false hb; omega
      have hfin : cntA l r (k + 1) = q.2 := by show cntF _ _ _ _ _ = _; rw [hI.2.2.2, cntF_over hin]
      refine aw_exit ?_
      refine aw_text rfl ?_
      refine ch_v (R := []) rfl rfl (oc_binZ rfl rfl rfl (by first | exact binW_add (by omega) (by omega) | rfl)) trivial ?_
      refine ch_v (R := []) rfl rfl (oc_move (x := .val _) rfl rfl) trivial ?_
      refine ck_nil ?_
      exact ⟨k + 1, by omega, by omega, Le.sub (by repeat (first | trivial | refine ⟨.inr rfl, ?_⟩ | refine ⟨.inr (vi_eq (by first | omega | (show q.2 = cntA l r (k + 1); exact hfin.symm))), ?_⟩)) trivial⟩
  · have hge : k = l.length := by have h0 := of_decide_eq_false hb; omega
    refine aw_exit ?_
    refine aw_seq ?_
    refine aw_text rfl ?_
    refine ch_v (R := []) rfl rfl (oc_move (x := .val _) rfl rfl) trivial ?_
    refine ch_v (R := []) rfl rfl (oc_assign (x := .val _) rfl rfl) trivial ?_
    refine ck_nil ?_
    refine aw_ret ?_
    exact ⟨.inl rfl, ResOk.tmp rfl (vi_eq (by rw [hge])), trivial⟩
set_option maxHeartbeats 800000 in
theorem pcost_pc (l : List PieceP) (hl : FewP l) (ab : List ByteArray) : PC Tryd.prog 17 [piecesAv l, slS ab] (vi (costP l l.length)) := by
  refine FC.body 3 26 Tryd.func17 rfl (by kernel_rfl) ?_
  refine aw_seq ?_
  refine aw_text rfl ?_
  refine ch_v (R := []) rfl rfl (oc_assign (x := .val _) rfl rfl) trivial ?_
  refine ck_nil ?_
  refine aw_seq ?_
  refine aw_text rfl ?_
  refine ch_v (R := []) rfl rfl (oc_assign (x := .val _) rfl rfl) trivial ?_
  refine ck_nil ?_
  refine aw_seq ?_
  refine aw_seq ?_
  refine aw_text rfl ?_
  refine ch_v (R := []) rfl rfl (oc_move (x := .sl _ _ _) rfl rfl) trivial ?_
  refine ch_v (R := []) rfl rfl (oc_len rfl rfl (by kernel_rfl)) trivial ?_
  refine ch_v (R := []) rfl rfl (oc_move (x := .val _) rfl rfl) trivial ?_
  refine ck_nil ?_
  refine aw_block ?_
  refine aw_loop (ι := Nat) (fun k => ⟨[(5, vi (costP l k)), (8, piecesAv l), (9, vi l.length), (10, vi k)], [(0, .unborn)]⟩) (fun k => k ≤ l.length) (fun k => l.length - k) 0 (Nat.zero_le _) (Le.sub (by repeat (first | trivial | refine ⟨.inr rfl, ?_⟩ | refine ⟨.inr (vi_eq (by omega)), ?_⟩)) (by repeat (first | trivial | refine ⟨rfl, ?_⟩))) ?_
  intro k hI
  refine aw_seq ?_
  refine aw_text rfl ?_
  refine ch_v (R := []) rfl rfl (oc_binZ rfl rfl rfl rfl) trivial ?_
  refine ck_nil ?_
  refine aw_seq ?_
  refine aw_cond rfl (fun hb => ?_) (fun hb => ?_)
  · have hlt : k < l.length := by have h0 := of_decide_eq_true hb; omega
    have hps := hl.size k
    have hll := hl.len
    have hca := costP_bd hl k
    have hpc := pcost_bd hps
    have hsu := costP_succ l k
    refine aw_skip ?_
    refine aw_seq ?_
    refine aw_block ?_
    refine aw_seq ?_
    refine aw_text rfl ?_
    refine ch_v (R := []) rfl rfl ((by first | exact oc_indexN rfl rfl rfl (by kernel_rfl) (by omega) | exact oc_index rfl rfl rfl (by kernel_rfl) (by omega) (by omega) rfl)) trivial ?_
    refine ch_v (R := []) rfl rfl (oc_load_row rfl rfl (by kernel_rfl) (by kernel_rfl) rfl) trivial ?_
    refine ch_u rfl rfl (oc_alloc (zs := [.string ⟨#[]⟩, .int .i64 0]) (cs := [.val _, .val _]) 0 rfl (by kernel_rfl) rfl rfl) ⟨rfl, trivial⟩ ?_
    refine ch_n rfl rfl (oc_store_row (x := .agg _) (cs' := [_, _]) rfl rfl rfl rfl (by kernel_rfl) (by first | decide | exact Nat.le_of_ble_eq_true rfl | simp) (by first | decide | exact Nat.le_of_ble_eq_true rfl | simp) rfl) ⟨rfl, trivial⟩ ?_
    refine ck_nil ?_
    refine aw_seq ?_
    refine aw_text rfl ?_
    refine ch_v (R := [(_, .live _ _)]) rfl rfl (oc_fieldAddr_own (off := 1) (sz := 1) (r := false) rfl rfl (by first | decide | simp) (by kernel_rfl) (by decide)) ⟨rfl, trivial⟩ ?_
    refine ch_v (R := [(_, .live _ _)]) rfl rfl (oc_load_own rfl rfl (by kernel_rfl) rfl) ⟨rfl, trivial⟩ ?_
    refine ch_v (R := []) rfl rfl (oc_binZ rfl rfl rfl rfl) trivial ?_
    refine ck_nil ?_
    refine aw_cond rfl (fun hb => ?_) (fun hb => ?_)
    · have hpo : pcost (l.getD k dPiece) = 2 := by unfold pcost; rw [if_pos (by simpa using hb)]
      have hst : costP l k + 2 = costP l (k + 1) := by rw [hsu, hpo]
      refine aw_text rfl ?_
      refine ch_v (R := []) rfl rfl (oc_move (x := .val _) rfl rfl) trivial ?_
      refine ch_v (R := []) rfl rfl (oc_binZ rfl rfl rfl (by first | exact binW_add (by omega) (by omega) | rfl)) trivial ?_
      refine ch_v (R := []) rfl rfl (oc_assign (x := .val _) rfl rfl) trivial ?_
      refine ck_nil ?_
      refine aw_text rfl ?_
      refine ch_v (R := []) rfl rfl (oc_binZ rfl rfl rfl (by first | exact binW_add (by omega) (by omega) | rfl)) trivial ?_
      refine ch_v (R := []) rfl rfl (oc_move (x := .val _) rfl rfl) trivial ?_
      refine ck_nil ?_
      exact ⟨k + 1, by omega, by omega, Le.reset [0] (by simp) (by repeat (first | trivial | refine ⟨.inr rfl, ?_⟩ | refine ⟨.inr (vi_eq (by first | omega | exact hst)), ?_⟩)) ⟨by simp [NoN], NoN.of_pure _ (pieces_pure l), by simp [NoN], by simp [NoN], trivial⟩ ⟨by rw [if_pos (by decide)], trivial⟩⟩
    · have hpo : pcost (l.getD k dPiece) = costS (l.getD k dPiece).1 := by unfold pcost; rw [if_neg (by simpa using hb)]
      have hst : costP l k + costS (l.getD k dPiece).1 = costP l (k + 1) := by rw [hsu, hpo]
      refine aw_text rfl ?_
      refine ch_v (R := []) rfl rfl (oc_move (x := .val _) rfl rfl) trivial ?_
      refine ch_v (R := [(_, .live _ _)]) rfl rfl (oc_fieldAddr_own (off := 0) (sz := 1) (r := false) rfl rfl (by first | decide | simp) (by kernel_rfl) (by decide)) ⟨rfl, trivial⟩ ?_
      refine ch_v (R := [(_, .live _ _)]) rfl rfl (oc_load_own rfl rfl (by kernel_rfl) rfl) ⟨rfl, trivial⟩ ?_
      refine ch_v (R := []) rfl rfl (oc_call rfl (by kernel_rfl) (cost_pc _ (by omega)) rfl (by simp only [PureL, Pure, and_self, pure_slI, pure_slS, rowAv, pieces_pure, implies_true]) (by simp only [PureL, Pure, and_self, pure_slI, pure_slS, rowAv, pieces_pure, implies_true])) trivial ?_
      refine ch_v (R := []) rfl rfl (oc_binZ rfl rfl rfl (by first | exact binW_add (by omega) (by omega) | rfl)) trivial ?_
      refine ch_v (R := []) rfl rfl (oc_assign (x := .val _) rfl rfl) trivial ?_
      refine ck_nil ?_
      refine aw_text rfl ?_
      refine ch_v (R := []) rfl rfl (oc_binZ rfl rfl rfl (by first | exact binW_add (by omega) (by omega) | rfl)) trivial ?_
      refine ch_v (R := []) rfl rfl (oc_move (x := .val _) rfl rfl) trivial ?_
      refine ck_nil ?_
      exact ⟨k + 1, by omega, by omega, Le.reset [0] (by simp) (by repeat (first | trivial | refine ⟨.inr rfl, ?_⟩ | refine ⟨.inr (vi_eq (by first | omega | exact hst)), ?_⟩)) ⟨by simp [NoN], NoN.of_pure _ (pieces_pure l), by simp [NoN], by simp [NoN], trivial⟩ ⟨by rw [if_pos (by decide)], trivial⟩⟩
  · have hge : k = l.length := by have h0 := of_decide_eq_false hb; omega
    refine aw_exit ?_
    refine aw_seq ?_
    refine aw_text rfl ?_
    refine ch_v (R := []) rfl rfl (oc_move (x := .val _) rfl rfl) trivial ?_
    refine ch_v (R := []) rfl rfl (oc_assign (x := .val _) rfl rfl) trivial ?_
    refine ck_nil ?_
    refine aw_ret ?_
    exact ⟨.inl rfl, ResOk.tmp rfl (vi_eq (by rw [hge])), trivial⟩
set_option maxHeartbeats 800000 in
theorem rpcost_pc (l : List PieceP) (hl : FewP l) (ab : List ByteArray) : PC Tryd.prog 18 [piecesAv l, slS ab] (vi (costP l l.length)) := by
  refine FC.body 3 26 Tryd.func18 rfl (by kernel_rfl) ?_
  refine aw_seq ?_
  refine aw_text rfl ?_
  refine ch_v (R := []) rfl rfl (oc_assign (x := .val _) rfl rfl) trivial ?_
  refine ck_nil ?_
  refine aw_seq ?_
  refine aw_text rfl ?_
  refine ch_v (R := []) rfl rfl (oc_assign (x := .val _) rfl rfl) trivial ?_
  refine ck_nil ?_
  refine aw_seq ?_
  refine aw_seq ?_
  refine aw_text rfl ?_
  refine ch_v (R := []) rfl rfl (oc_move (x := .sl _ _ _) rfl rfl) trivial ?_
  refine ch_v (R := []) rfl rfl (oc_len rfl rfl (by kernel_rfl)) trivial ?_
  refine ch_v (R := []) rfl rfl (oc_move (x := .val _) rfl rfl) trivial ?_
  refine ck_nil ?_
  refine aw_block ?_
  refine aw_loop (ι := Nat) (fun k => ⟨[(5, vi (costP l k)), (8, piecesAv l), (9, vi l.length), (10, vi k)], [(0, .unborn)]⟩) (fun k => k ≤ l.length) (fun k => l.length - k) 0 (Nat.zero_le _) (Le.sub (by repeat (first | trivial | refine ⟨.inr rfl, ?_⟩ | refine ⟨.inr (vi_eq (by omega)), ?_⟩)) (by repeat (first | trivial | refine ⟨rfl, ?_⟩))) ?_
  intro k hI
  refine aw_seq ?_
  refine aw_text rfl ?_
  refine ch_v (R := []) rfl rfl (oc_binZ rfl rfl rfl rfl) trivial ?_
  refine ck_nil ?_
  refine aw_seq ?_
  refine aw_cond rfl (fun hb => ?_) (fun hb => ?_)
  · have hlt : k < l.length := by have h0 := of_decide_eq_true hb; omega
    have hps := hl.size k
    have hll := hl.len
    have hca := costP_bd hl k
    have hpc := pcost_bd hps
    have hsu := costP_succ l k
    refine aw_skip ?_
    refine aw_seq ?_
    refine aw_block ?_
    refine aw_seq ?_
    refine aw_text rfl ?_
    refine ch_v (R := []) rfl rfl ((by first | exact oc_indexN rfl rfl rfl (by kernel_rfl) (by omega) | exact oc_index rfl rfl rfl (by kernel_rfl) (by omega) (by omega) rfl)) trivial ?_
    refine ch_v (R := []) rfl rfl (oc_load_row rfl rfl (by kernel_rfl) (by kernel_rfl) rfl) trivial ?_
    refine ch_u rfl rfl (oc_alloc (zs := [.string ⟨#[]⟩, .int .i64 0]) (cs := [.val _, .val _]) 0 rfl (by kernel_rfl) rfl rfl) ⟨rfl, trivial⟩ ?_
    refine ch_n rfl rfl (oc_store_row (x := .agg _) (cs' := [_, _]) rfl rfl rfl rfl (by kernel_rfl) (by first | decide | exact Nat.le_of_ble_eq_true rfl | simp) (by first | decide | exact Nat.le_of_ble_eq_true rfl | simp) rfl) ⟨rfl, trivial⟩ ?_
    refine ck_nil ?_
    refine aw_seq ?_
    refine aw_text rfl ?_
    refine ch_v (R := [(_, .live _ _)]) rfl rfl (oc_fieldAddr_own (off := 1) (sz := 1) (r := false) rfl rfl (by first | decide | simp) (by kernel_rfl) (by decide)) ⟨rfl, trivial⟩ ?_
    refine ch_v (R := [(_, .live _ _)]) rfl rfl (oc_load_own rfl rfl (by kernel_rfl) rfl) ⟨rfl, trivial⟩ ?_
    refine ch_v (R := []) rfl rfl (oc_binZ rfl rfl rfl rfl) trivial ?_
    refine ck_nil ?_
    refine aw_cond rfl (fun hb => ?_) (fun hb => ?_)
    · have hpo : pcost (l.getD k dPiece) = 2 := by unfold pcost; rw [if_pos (by simpa using hb)]
      have hst : costP l k + 2 = costP l (k + 1) := by rw [hsu, hpo]
      refine aw_text rfl ?_
      refine ch_v (R := []) rfl rfl (oc_move (x := .val _) rfl rfl) trivial ?_
      refine ch_v (R := []) rfl rfl (oc_binZ rfl rfl rfl (by first | exact binW_add (by omega) (by omega) | rfl)) trivial ?_
      refine ch_v (R := []) rfl rfl (oc_assign (x := .val _) rfl rfl) trivial ?_
      refine ck_nil ?_
      refine aw_text rfl ?_
      refine ch_v (R := []) rfl rfl (oc_binZ rfl rfl rfl (by first | exact binW_add (by omega) (by omega) | rfl)) trivial ?_
      refine ch_v (R := []) rfl rfl (oc_move (x := .val _) rfl rfl) trivial ?_
      refine ck_nil ?_
      exact ⟨k + 1, by omega, by omega, Le.reset [0] (by simp) (by repeat (first | trivial | refine ⟨.inr rfl, ?_⟩ | refine ⟨.inr (vi_eq (by first | omega | exact hst)), ?_⟩)) ⟨by simp [NoN], NoN.of_pure _ (pieces_pure l), by simp [NoN], by simp [NoN], trivial⟩ ⟨by rw [if_pos (by decide)], trivial⟩⟩
    · have hpo : pcost (l.getD k dPiece) = costS (l.getD k dPiece).1 := by unfold pcost; rw [if_neg (by simpa using hb)]
      have hst : costP l k + costS (l.getD k dPiece).1 = costP l (k + 1) := by rw [hsu, hpo]
      refine aw_text rfl ?_
      refine ch_v (R := []) rfl rfl (oc_move (x := .val _) rfl rfl) trivial ?_
      refine ch_v (R := [(_, .live _ _)]) rfl rfl (oc_fieldAddr_own (off := 0) (sz := 1) (r := false) rfl rfl (by first | decide | simp) (by kernel_rfl) (by decide)) ⟨rfl, trivial⟩ ?_
      refine ch_v (R := [(_, .live _ _)]) rfl rfl (oc_load_own rfl rfl (by kernel_rfl) rfl) ⟨rfl, trivial⟩ ?_
      refine ch_v (R := []) rfl rfl (oc_call rfl (by kernel_rfl) (rcost_pc _ (by omega)) rfl (by simp only [PureL, Pure, and_self, pure_slI, pure_slS, rowAv, pieces_pure, implies_true]) (by simp only [PureL, Pure, and_self, pure_slI, pure_slS, rowAv, pieces_pure, implies_true])) trivial ?_
      refine ch_v (R := []) rfl rfl (oc_binZ rfl rfl rfl (by first | exact binW_add (by omega) (by omega) | rfl)) trivial ?_
      refine ch_v (R := []) rfl rfl (oc_assign (x := .val _) rfl rfl) trivial ?_
      refine ck_nil ?_
      refine aw_text rfl ?_
      refine ch_v (R := []) rfl rfl (oc_binZ rfl rfl rfl (by first | exact binW_add (by omega) (by omega) | rfl)) trivial ?_
      refine ch_v (R := []) rfl rfl (oc_move (x := .val _) rfl rfl) trivial ?_
      refine ck_nil ?_
      exact ⟨k + 1, by omega, by omega, Le.reset [0] (by simp) (by repeat (first | trivial | refine ⟨.inr rfl, ?_⟩ | refine ⟨.inr (vi_eq (by first | omega | exact hst)), ?_⟩)) ⟨by simp [NoN], NoN.of_pure _ (pieces_pure l), by simp [NoN], by simp [NoN], trivial⟩ ⟨by rw [if_pos (by decide)], trivial⟩⟩
  · have hge : k = l.length := by have h0 := of_decide_eq_false hb; omega
    refine aw_exit ?_
    refine aw_seq ?_
    refine aw_text rfl ?_
    refine ch_v (R := []) rfl rfl (oc_move (x := .val _) rfl rfl) trivial ?_
    refine ch_v (R := []) rfl rfl (oc_assign (x := .val _) rfl rfl) trivial ?_
    refine ck_nil ?_
    refine aw_ret ?_
    exact ⟨.inl rfl, ResOk.tmp rfl (vi_eq (by rw [hge])), trivial⟩
end Go.Proofs.YtfbpbpapfkimfaaDoor
