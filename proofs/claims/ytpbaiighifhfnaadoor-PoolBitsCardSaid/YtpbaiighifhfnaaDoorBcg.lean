/- Rows of pieces: their cells; a named row of pieces, read only from here on. No program is walked in this text. Chapter 7: the document's Cut, walked. Chapter 7: abbrev.Cut, plain facts; the closure that it calls. Chapter 7: abbrev.Cut, walked. Package strings: the Builder: copyCheck, WriteString, String, walked; name 0 is the builder, 1 its bytes, 2 the new bytes. Chapter 7: the examples, walked. Chapter 7 as plain data: what the chosen abbreviations save. No program is walked in this text. Chapter 7: the laws AbbrevChooses, AbbrevCuts, walked. -/
import Derived.Test.YtpbaiighifhfnaaDoorBx
import Derived.Test.YtpbaiighifhfnaaDoorProg
import Derived.KernelRfl
import Derived.Test.YtpbaiighifhfnaaDoorBc
namespace Go.Proofs.YtpbaiighifhfnaaDoor
open Go.RowKit
set_option linter.unusedVariables false
set_option linter.unusedSimpArgs false
def pcs (l : List PieceP) : List Av := l.flatMap fun p => [vs p.1, vi p.2]
theorem pcs_len (l : List PieceP) : (pcs l).length = l.length * 2 := by
  induction l with
  | nil => rfl
  | cons p l ih =>
    show ([vs p.1, vi p.2] ++ pcs l).length = _
    rw [List.length_append, ih]
    simp
    omega
theorem pcs_app (a b : List PieceP) : pcs (a ++ b) = pcs a ++ pcs b := by unfold pcs; simp
theorem pcs_text {l : List PieceP} : ∀ {j : Nat}, j < l.length → (pcs l)[j * 2]? = some (vs (l.getD j dPiece).1) := by
  induction l with
  | nil => intro j h; simp at h
  | cons p l ih =>
    intro j h
    cases j with
    | zero => rfl
    | succ j =>
      show (vs p.1 :: vi p.2 :: pcs l)[(j + 1) * 2]? = _
      rw [show (j + 1) * 2 = j * 2 + 1 + 1 from by omega, List.getElem?_cons_succ, List.getElem?_cons_succ, ih (by simpa using h)]
      rfl
theorem pcs_abbr {l : List PieceP} : ∀ {j : Nat}, j < l.length → (pcs l)[j * 2 + 1]? = some (vi (l.getD j dPiece).2) := by
  induction l with
  | nil => intro j h; simp at h
  | cons p l ih =>
    intro j h
    cases j with
    | zero => rfl
    | succ j =>
      show (vs p.1 :: vi p.2 :: pcs l)[(j + 1) * 2 + 1]? = _
      rw [show (j + 1) * 2 + 1 = j * 2 + 1 + 1 + 1 from by omega, List.getElem?_cons_succ, List.getElem?_cons_succ, ih (by simpa using h)]
      rfl
theorem pcs_set {l : List PieceP} {x : ByteArray} : ∀ {j : Nat}, j < l.length → (pcs l).set (j * 2) (vs x) = pcs (l.set j (x, (l.getD j dPiece).2)) := by
  induction l with
  | nil => intro j h; simp at h
  | cons p l ih =>
    intro j h
    cases j with
    | zero => rfl
    | succ j =>
      show (vs p.1 :: vi p.2 :: pcs l).set ((j + 1) * 2) (vs x) = _
      rw [show (j + 1) * 2 = j * 2 + 1 + 1 from by omega, List.set_cons_succ, List.set_cons_succ, ih (by simpa using h)]
      rfl
theorem app_piece (p : PieceP) : ∀ j, j < 1 → szB (rowL [pieceAv p] j) 2 = true ∧ ∀ i y, i < 2 → [vs p.1, vi p.2][j * 2 + i]? = some y → (flatA (rowL [pieceAv p] j))[i]? = some y := fun j hj => by
  have : j = 0 := by omega
  subst this
  refine ⟨rfl, fun i y hi hy => ?_⟩
  rw [Nat.zero_mul, Nat.zero_add] at hy
  exact hy
/-- A named row of pieces, read only from here on. -/
theorem Le.freezeP {N : Nat} {D : List Nat} {s : List (Nat × Av)} {h : List (Nat × Hs)} (t n : Nat) {ty : TypeId} (l : List PieceP) (hs : lkS s t = .osl 2 n l.length) (hn : lkH h n = some (.live ty (pcs l))) : Le N D ⟨s, h⟩ ⟨(t, piecesAv l) :: s, (n, .dead) :: h⟩ := Le.step fun E a hF => by
  have hv := hF.holds.1 t
  rw [hs] at hv
  have hH := hF.holds.2 n _ hn
  have hn0 : E.loc n ≠ .unborn := by unfold Rep at hv; exact hv.1.1
  have hS := Step.kill E n hn0
  refine ⟨E.re n .dead, [n], rfl, hS, hF.good.re (by simp), fun u => ?_, fun m y hy => ?_⟩
  · by_cases e : t = u
    · subst e
      rw [lkS_eq]
      refine freeze_rep hF.good hv hH (pcs_len l) (fun j hj => ⟨rfl, fun i y hy => ?_⟩) (fun j hj us hus h1 => ?_)
      · have hy' : [vs (l.getD j dPiece).1, vi (l.getD j dPiece).2][i]? = some y := hy
        rcases i with _ | _ | i
        · simp at hy'; subst hy'; rw [Nat.add_zero, pcs_text hj]; simp
        · simp at hy'; subst hy'; rw [pcs_abbr hj]; simp
        · simp at hy'
      · refine ⟨.agg us.toArray, ?_, ?_⟩
        · unfold pieceAv Rep
          exact ⟨us, rfl, hus, h1⟩
        · have hus' : RepL (E.re n .dead) [vs (l.getD j dPiece).1, vi (l.getD j dPiece).2] us := hus
          unfold RepL RepL RepL at hus'
          obtain ⟨u, us', rfl, h3, u', us'', rfl, h4, rfl⟩ := hus'
          unfold Rep at h3 h4
          subst h3
          subst h4
          rfl
    · rw [lkS_ne _ _ e]
      exact Rep.step hS _ _ (hF.holds.1 u)
  · by_cases e : n = m
    · subst e
      simp [lkH] at hy
      subst hy
      show (E.re n .dead).loc n = .dead
      simp [Env.re]
    · simp only [lkH, beqF e, cond_false] at hy
      exact HAt.step hS (by simp [Ne.symm e]) (hF.holds.2 m y hy)
theorem ren_pcs (π : Nat → Nat) (l : List PieceP) : (pcs l).map (Av.ren π) = pcs l := by
  induction l with
  | nil => rfl
  | cons p l ih =>
    show ([vs p.1, vi p.2] ++ pcs l).map (Av.ren π) = [vs p.1, vi p.2] ++ pcs l
    rw [List.map_append, ih]
    simp [Av.ren]
theorem non_pcs {Z : List Nat} (l : List PieceP) : ∀ z ∈ pcs l, NoN Z z := fun z hz => by
  obtain ⟨p, _, hp⟩ := List.mem_flatMap.1 hz
  simp at hp
  rcases hp with rfl | rfl <;> simp [NoN]
end Go.Proofs.YtpbaiighifhfnaaDoor
namespace Go.Proofs.YtpbaiighifhfnaaDoor
open Go.RowKit
set_option maxRecDepth 100000
set_option linter.unusedVariables false
set_option linter.unusedSimpArgs false
theorem empE : ByteArray.empty = (⟨#[]⟩ : ByteArray) := rfl
theorem lsL_len (s : ByteArray) (ab : List ByteArray) : (lsL s ab).length = s.size + 1 := lsA_len s ab s.size
theorem lsL_bd (s : ByteArray) (ab : List ByteArray) (j : Nat) : 0 ≤ (lsL s ab).getD j 0 ∧ (lsL s ab).getD j 0 ≤ 3 * (s.size : Int) := lsA_bd s ab s.size (Nat.le_refl _) j
/-- A piece for text at the end. -/
def baseC (out : List PieceP) : List PieceP := if ((out.length : Int) == 0 || decide ((out.getD (out.length - 1) dPiece).2 > 0)) = true then out ++ [dPiece] else out
theorem baseC_pos (out : List PieceP) : 0 < (baseC out).length := by
  unfold baseC
  split
  · simp
  · rename_i h
    rcases Nat.eq_zero_or_pos out.length with e | e
    · exact absurd (by simp [e]) h
    · exact e
theorem baseC_len (out : List PieceP) : (baseC out).length ≤ out.length + 1 := by
  unfold baseC
  split
  · simp
  · omega
theorem getD_last (l : List PieceP) (p : PieceP) : (l ++ [p]).getD ((l ++ [p]).length - 1) dPiece = p := by simp [List.getD]
theorem set_last (l : List PieceP) (p x : PieceP) : (l ++ [p]).set ((l ++ [p]).length - 1) x = l ++ [x] := by
  rw [List.length_append]
  simp
theorem addC_base (out : List PieceP) (c : ByteArray) : addC out c = (baseC out).set ((baseC out).length - 1) (((baseC out).getD ((baseC out).length - 1) dPiece).1 ++ c, ((baseC out).getD ((baseC out).length - 1) dPiece).2) := by
  rcases List.eq_nil_or_concat out with rfl | ⟨l, p, rfl⟩
  · rfl
  · simp only [List.concat_eq_append]
    have e1 : (l ++ [p]).getLast? = some p := by simp
    have e2 := getD_last l p
    unfold addC
    rw [e1]
    by_cases hp : p.2 > 0
    · have eb : baseC (l ++ [p]) = (l ++ [p]) ++ [dPiece] := by unfold baseC; rw [e2, if_pos (by simp [hp])]
      rw [eb, getD_last, set_last]
      simp only []
      rw [if_pos hp]
      rfl
    · have eb : baseC (l ++ [p]) = l ++ [p] := by unfold baseC; rw [e2, if_neg (by simp [hp]; omega)]
      rw [eb, getD_last, set_last]
      simp only []
      rw [if_neg hp, List.dropLast_concat]
theorem addC_len (out : List PieceP) (c : ByteArray) : (addC out c).length = (baseC out).length := by rw [addC_base, List.length_set]
def SzP (n : Nat) (l : List PieceP) : Prop := ∀ k, (l.getD k dPiece).1.size ≤ n
theorem SzP.more {n m : Nat} {l : List PieceP} (h : SzP n l) (hm : n ≤ m) : SzP m l := fun k => Nat.le_trans (h k) hm
theorem SzP.nil (n : Nat) : SzP n [] := fun k => Nat.zero_le _
theorem SzP.app {n : Nat} {l : List PieceP} {p : PieceP} (h : SzP n l) (hp : p.1.size ≤ n) : SzP n (l ++ [p]) := fun k => by
  rw [List.getD, List.getElem?_append]
  split
  · have := h k
    rwa [List.getD] at this
  · rcases Nat.eq_zero_or_pos (k - l.length) with e | e
    · rw [e]; exact hp
    · rw [List.getElem?_eq_none (by simp; omega)]; exact Nat.zero_le _
theorem SzP.set {n k : Nat} {l : List PieceP} {p : PieceP} (h : SzP n l) (hp : p.1.size ≤ n) : SzP n (l.set k p) := fun j => by
  rw [List.getD, List.getElem?_set]
  by_cases e : k = j
  · rw [if_pos e]
    split
    · exact hp
    · exact Nat.zero_le _
  · rw [if_neg e]
    have := h j
    rwa [List.getD] at this
theorem SzP.base {n : Nat} {l : List PieceP} (h : SzP n l) : SzP n (baseC l) := by
  unfold baseC
  split
  · exact h.app (Nat.zero_le _)
  · exact h
theorem SzP.add {n : Nat} {l : List PieceP} {c : ByteArray} (h : SzP n l) (hc : c.size = 1) : SzP (n + 1) (addC l c) := by
  rw [addC_base]
  refine (h.base.more (Nat.le_succ n)).set ?_
  have := h.base ((baseC l).length - 1)
  show (_ ++ c).size ≤ _
  rw [ByteArray.size_append]
  omega
theorem rcutF_over {s : ByteArray} {ab : List ByteArray} {f i : Nat} {out : List PieceP} (h : ¬ i < s.size) : rcutF s ab f i out = out := by
  cases f with
  | zero => rfl
  | succ f => unfold rcutF; rw [if_neg h]
abbrev RcSt := Nat × List PieceP
set_option maxHeartbeats 800000 in
theorem rcut_pc (s : ByteArray) (ab : List ByteArray) (hs : s.size ≤ 1000000) (hb2 : ∀ k, (ab.getD k ByteArray.empty).size ≤ 1000000) (hbl : ab.length ≤ 1000000) : PC Tryd.prog 33 [vs s, slS ab] (piecesAv (rcutP s ab)) := by
  refine FC.body 2 107 Tryd.func33 rfl (by kernel_rfl) ?_
  refine aw_seq ?_
  refine aw_text rfl ?_
  refine ch_v (R := []) rfl rfl (oc_assign (x := .val _) rfl rfl) trivial ?_
  refine ck_nil ?_
  refine aw_seq ?_
  refine aw_text rfl ?_
  refine ch_v (R := []) rfl rfl (oc_move (x := .val _) rfl rfl) trivial ?_
  refine ch_v (R := []) rfl rfl (oc_move (x := .sl _ _ _) rfl rfl) trivial ?_
  refine ch_v (R := []) rfl rfl (oc_call rfl (by kernel_rfl) ((show PC _ _ [vs s, slS ab] (slI (lsL s ab)) from least_pc s ab hs hb2 hbl)) rfl (by simp only [PureL, Pure, and_self, pure_slI, pure_slS, rowAv, pieces_pure, implies_true]) (by simp only [PureL, Pure, and_self, pure_slI, pure_slS, rowAv, pieces_pure, implies_true])) trivial ?_
  refine ch_v (R := []) rfl rfl (oc_assign (x := .sl _ _ _) rfl rfl) trivial ?_
  refine ck_nil ?_
  refine aw_seq ?_
  refine aw_text rfl ?_
  refine ch_v (R := []) rfl rfl (oc_assign (x := .val _) rfl rfl) trivial ?_
  refine ck_nil ?_
  refine aw_seq ?_
  refine aw_seq ?_
  refine aw_text rfl ?_
  refine ch_v (R := []) rfl rfl (oc_assign (x := .val _) rfl rfl) trivial ?_
  refine ck_nil ?_
  refine aw_block ?_
  have hll := lsL_len s ab
  refine aw_le (Le.nameNil 6 0 2 58 rfl rfl) ?_
  refine aw_loop (ι := RcSt) (fun q => ⟨[(0, vs s), (1, slS ab), (5, slI (lsL s ab)), (6, .osl 2 0 q.2.length), (7, vi q.1)], [(0, .live 58 (pcs q.2)), (1, .unborn)]⟩) (fun q => q.1 ≤ s.size ∧ q.2.length ≤ q.1 ∧ SzP q.1 q.2 ∧ ∃ f, s.size < f + q.1 ∧ rcutP s ab = rcutF s ab f q.1 q.2) (fun q => s.size - q.1) (0, []) (⟨Nat.zero_le _, Nat.le_refl _, SzP.nil _, s.size + 1, by omega, rfl⟩) (Le.sub (by repeat (first | trivial | refine ⟨.inr rfl, ?_⟩ | refine ⟨.inr (vi_eq (by omega)), ?_⟩)) (by repeat (first | trivial | refine ⟨rfl, ?_⟩))) ?_
  intro q hI
  obtain ⟨hi1, hi2, hi3, f, hf, hcut⟩ := hI
  refine aw_seq ?_
  refine aw_seq ?_
  refine aw_text rfl ?_
  refine ch_v (R := []) rfl rfl (oc_move (x := .val _) rfl rfl) trivial ?_
  refine ch_v (R := []) rfl rfl (oc_move (x := .val _) rfl rfl) trivial ?_
  refine ch_v (R := []) rfl rfl (oc_len_str rfl rfl (by kernel_rfl)) trivial ?_
  refine ch_v (R := []) rfl rfl (oc_binZ rfl rfl rfl rfl) trivial ?_
  refine ck_nil ?_
  refine aw_cond rfl (fun hb => ?_) (fun hb => ?_)
  · have hlt : q.1 < s.size := by have h0 := of_decide_eq_true hb; omega
    have h1 := one_cost hlt
    have hbd := lsL_bd s ab
    have hb1 := hbd (q.1 + 1)
    have hb0 := hbd q.1
    obtain ⟨f, rfl⟩ : ∃ g, f = g + 1 := ⟨f - 1, by omega⟩
    refine aw_skip ?_
    refine aw_block ?_
    refine aw_seq ?_
    refine aw_seq ?_
    refine aw_draw mixed ?_
    refine ch_v (R := []) rfl rfl (oc_move (x := .val _) rfl rfl) trivial ?_
    refine ch_v (R := []) rfl rfl (oc_move (x := .val _) rfl rfl) trivial ?_
    refine ch_v (R := []) rfl rfl (oc_move (x := .val _) rfl rfl) trivial ?_
    refine ch_v (R := []) rfl rfl (oc_binZ rfl rfl rfl (by first | exact binW_add (by omega) (by omega) | rfl)) trivial ?_
    refine ch_v (R := []) rfl rfl (OC.cast (oc_substr rfl rfl rfl rfl (by kernel_rfl) (by omega) (by omega) (by omega)) (show Av.val (.string (s.extract (q.1 : Int).toNat ((q.1 : Int) + 1).toNat)) = vs (s.extract q.1 (q.1 + 1)) from by have := ex_nat s q.1 1; rw [← this]; rfl)) trivial ?_
    refine ch_v (R := []) rfl rfl (oc_call rfl (by kernel_rfl) (rcost_pc _ (by rw [h1.1]; omega)) rfl (by simp only [PureL, Pure, and_self, pure_slI, pure_slS, rowAv, pieces_pure, implies_true]) (by simp only [PureL, Pure, and_self, pure_slI, pure_slS, rowAv, pieces_pure, implies_true])) trivial ?_
    refine ch_v (R := []) rfl rfl (oc_move (x := .sl _ _ _) rfl rfl) trivial ?_
    refine ch_v (R := []) rfl rfl (oc_move (x := .val _) rfl rfl) trivial ?_
    refine ch_v (R := []) rfl rfl (oc_binZ rfl rfl rfl (by first | exact binW_add (by omega) (by omega) | rfl)) trivial ?_
    refine ch_v (R := []) rfl rfl (oc_index (j := q.1 + 1) rfl rfl rfl (by kernel_rfl) (by omega) (by omega) (by omega)) trivial ?_
    refine ch_v (R := []) rfl rfl (oc_load rfl rfl (by kernel_rfl) cells_int) trivial ?_
    refine ch_v (R := []) rfl rfl (oc_binZ rfl rfl rfl (by first | exact binW_add (by omega) (by omega) | rfl)) trivial ?_
    refine ch_v (R := []) rfl rfl (oc_move (x := .sl _ _ _) rfl rfl) trivial ?_
    refine ch_v (R := []) rfl rfl (oc_move (x := .val _) rfl rfl) trivial ?_
    refine ch_v (R := []) rfl rfl (oc_indexN (j := q.1) rfl rfl rfl (by kernel_rfl) (by omega)) trivial ?_
    refine ch_v (R := []) rfl rfl (oc_load rfl rfl (by kernel_rfl) cells_int) trivial ?_
    refine ch_v (R := []) rfl rfl (oc_binZ rfl rfl rfl rfl) trivial ?_
    refine ck_nil ⟨by kernel_rfl, ?_⟩
    refine aw_cond rfl (fun hb => ?_) (fun hb => ?_)
    · have hz : costS (s.extract q.1 (q.1 + 1)) + (lsL s ab).getD (q.1 + 1) 0 = (lsL s ab).getD q.1 0 := by simpa using hb
      refine aw_seq ?_
      refine aw_seq ?_
      refine aw_text rfl ?_
      refine ch_v (R := []) rfl rfl (oc_move (x := .osl _ _ _) rfl rfl) trivial ?_
      refine ch_v (R := [(_, .live _ _)]) rfl rfl (oc_len_own (t := 58) (cs := pcs q.2) rfl rfl (by kernel_rfl)) ⟨rfl, trivial⟩ ?_
      refine ch_v (R := []) rfl rfl (oc_binZ rfl rfl rfl rfl) trivial ?_
      refine ch_v (R := []) rfl rfl (oc_move (x := .val _) rfl rfl) trivial ?_
      refine ch_g (R := []) rfl rfl rfl gate_f (fun hC => oc_move (x := .osl _ _ _) rfl rfl) (fun hC => ⟨(by first | rfl | exact hC | (simp only [Bool.and_eq_true] at hC; first | exact hC.1 | exact hC.1.1 | exact hC.2) | simp_all), trivial⟩) trivial ?_
      refine ch_g (R := []) rfl rfl rfl gate_f (fun hC => oc_move (x := .osl _ _ _) rfl rfl) (fun hC => ⟨(by first | rfl | exact hC | (simp only [Bool.and_eq_true] at hC; first | exact hC.1 | exact hC.1.1 | exact hC.2) | simp_all), trivial⟩) trivial ?_
      refine ch_g (R := [(_, .live _ _)]) rfl rfl rfl gate_f (fun hC => oc_len_own (t := 58) (cs := pcs q.2) rfl rfl (by kernel_rfl)) (fun hC => ⟨(by first | rfl | exact hC | (simp only [Bool.and_eq_true] at hC; first | exact hC.1 | exact hC.1.1 | exact hC.2) | simp_all), trivial⟩) ⟨rfl, trivial⟩ ?_
      refine ch_g (R := []) rfl rfl rfl gate_f (fun hC => oc_binZ rfl rfl rfl (by first | exact binW_sub (by omega) (by omega) | rfl)) (fun hC => ⟨(by first | rfl | exact hC | (simp only [Bool.and_eq_true] at hC; first | exact hC.1 | exact hC.1.1 | exact hC.2) | simp_all), (by first | rfl | exact hC | (simp only [Bool.and_eq_true] at hC; first | exact hC.1 | exact hC.1.1 | exact hC.2) | simp_all), trivial⟩) trivial ?_
      refine ch_g (R := [(_, .live _ _)]) rfl rfl rfl gate_f (fun hC => by
            have hne : q.2.length ≠ 0 := fun h => by rw [h] at hC; exact absurd hC (by decide)
            exact oc_index_own (k := 2) (t := 58) (cs := pcs q.2) (j := (q.2.length - 1) * 2) rfl rfl rfl (by kernel_rfl) (by omega) (by omega) (by omega)) (fun hC => ⟨(by first | rfl | exact hC | (simp only [Bool.and_eq_true] at hC; first | exact hC.1 | exact hC.1.1 | exact hC.2) | simp_all), (by first | rfl | exact hC | (simp only [Bool.and_eq_true] at hC; first | exact hC.1 | exact hC.1.1 | exact hC.2) | simp_all), trivial⟩) ⟨rfl, trivial⟩ ?_
      refine ch_g (R := [(_, .live _ _)]) rfl rfl rfl gate_f (fun hC => by
            have hne : q.2.length ≠ 0 := fun h => by rw [h] at hC; exact absurd hC (by decide)
            exact oc_fieldAddr_own (off := 1) (sz := 1) (r := false) (t := 58) (cs := pcs q.2) rfl rfl (by rw [pcs_len]; omega) (by kernel_rfl) (by decide)) (fun hC => ⟨(by first | rfl | exact hC | (simp only [Bool.and_eq_true] at hC; first | exact hC.1 | exact hC.1.1 | exact hC.2) | simp_all), trivial⟩) ⟨rfl, trivial⟩ ?_
      refine ch_g (R := [(_, .live _ _)]) rfl rfl rfl gate_f (fun hC => by
            have hne : q.2.length ≠ 0 := fun h => by rw [h] at hC; exact absurd hC (by decide)
            exact oc_load_own (t := 58) (cs := pcs q.2) (y := vi (q.2.getD (q.2.length - 1) dPiece).2) rfl rfl (by kernel_rfl) (pcs_abbr (by omega))) (fun hC => ⟨(by first | rfl | exact hC | (simp only [Bool.and_eq_true] at hC; first | exact hC.1 | exact hC.1.1 | exact hC.2) | simp_all), trivial⟩) ⟨rfl, trivial⟩ ?_
      refine ch_g (R := []) rfl rfl rfl gate_f (fun hC => oc_binZ rfl rfl rfl rfl) (fun hC => ⟨(by first | rfl | exact hC | (simp only [Bool.and_eq_true] at hC; first | exact hC.1 | exact hC.1.1 | exact hC.2) | simp_all), (by first | rfl | exact hC | (simp only [Bool.and_eq_true] at hC; first | exact hC.1 | exact hC.1.1 | exact hC.2) | simp_all), trivial⟩) trivial ?_
      refine ch_v (R := []) rfl rfl (oc_or rfl rfl rfl (by first | exact fun h => h | simp_all)) trivial ?_
      refine ck_nil ?_
      refine aw_joinQ (τ := ⟨[(0, vs s), (1, slS ab), (5, slI (lsL s ab)), (6, .osl 2 0 (baseC q.2).length), (7, vi q.1)], [(0, .live 58 (pcs (baseC q.2))), (1, .unborn)]⟩) ?_ ?_
      · refine aw_cond rfl (fun hb => ?_) (fun hb => ?_)
        · have ho : (baseC q.2) = q.2 ++ [dPiece] := if_pos hb
          refine aw_text rfl ?_
          refine ch_v (R := []) rfl rfl (oc_move (x := .osl _ _ _) rfl rfl) trivial ?_
          refine ch_v (R := []) rfl rfl (oc_build (pl := [(0, 1), (1, 1)]) (zs := [.string ⟨#[]⟩, .int .i64 0]) (ds := [.val _, .val _]) rfl (by kernel_rfl) rfl (by kernel_rfl) (by first | rfl | decide) rfl) trivial ?_
          refine ch_v (R := []) rfl rfl (oc_buildSlice (ps := [.tmp 47]) (xs := [.agg _]) (e := 58) (k := 2) (by_ := 24) (zs := [.string ⟨#[]⟩, .int .i64 0]) rfl (by kernel_rfl) (by kernel_rfl) rfl rfl rfl (by decide) (by decide)) trivial ?_
          refine ch_u rfl rfl (oc_append (e := 58) (k := 2) (by_ := 24) (zs := [.string ⟨#[]⟩, .int .i64 0]) (cs := pcs q.2) (ds := [vs dPiece.1, vi dPiece.2]) 1 rfl rfl rfl (by kernel_rfl) (by kernel_rfl) rfl (by decide) (by decide) (pcs_len _) rfl (app_piece dPiece) (by omega) (by omega)) ⟨rfl, rfl, trivial⟩ ?_
          refine ch_v (R := []) rfl rfl (oc_assign (x := .osl _ _ _) rfl rfl) trivial ?_
          refine ck_nil ?_
          refine Le.trans (Le.trans (Le.swap (τ := ⟨[(0, vs s), (1, slS ab), (5, slI (lsL s ab)), (6, .osl 2 0 (q.2 ++ [dPiece]).length), (7, vi q.1)], [(0, .live 58 (pcs (q.2 ++ [dPiece]))), (1, .dead)]⟩) 0 1 (by simp) (by simp) ⟨rfl, (ren_pure _ _ (pure_slS _)).symm, (ren_pure _ _ (pure_slI _)).symm, by rw [List.length_append]; rfl, rfl,  trivial⟩ ⟨by show lkH _ 1 = some (Hs.live _ ((pcs (q.2 ++ [dPiece])).map _)); rw [ren_pcs, pcs_app]; rfl, rfl, trivial⟩) (Le.reset (τ := ⟨[(0, vs s), (1, slS ab), (5, slI (lsL s ab)), (6, .osl 2 0 (q.2 ++ [dPiece]).length), (7, vi q.1)], [(0, .live 58 (pcs (q.2 ++ [dPiece]))), (1, .unborn)]⟩) [1] (by simp) ⟨.inr rfl, .inr rfl, .inr rfl, .inr rfl, .inr rfl, trivial⟩ ⟨by simp [NoN], NoN.of_pure _ (pure_slS _), NoN.of_pure _ (pure_slI _), by simp [NoN], by simp [NoN],  trivial⟩ ⟨by rw [if_neg (by decide)]; exact ⟨rfl, non_pcs _⟩, by rw [if_pos (by decide)], trivial⟩)) ?_
          exact (Le.sub ⟨.inr rfl, .inr rfl, .inr rfl, .inr (by rw [ho]; rfl), .inr rfl, trivial⟩ ⟨by rw [ho]; rfl, rfl, trivial⟩)
        · have ho : (baseC q.2) = q.2 := if_neg (by rw [hb]; decide)
          refine aw_skip ?_
          exact (Le.sub ⟨.inr rfl, .inr rfl, .inr rfl, .inr (by rw [ho]; rfl), .inr rfl, trivial⟩ ⟨by rw [ho]; rfl, rfl, trivial⟩)
      · refine aw_seq ?_
        have hop := baseC_pos q.2
        have hol := baseC_len q.2
        have hsz := hi3.base ((baseC q.2).length - 1)
        refine aw_draw mixed ?_
        refine ch_v (R := []) rfl rfl (oc_move (x := .osl _ _ _) rfl rfl) trivial ?_
        refine ch_v (R := []) rfl rfl (oc_move (x := .osl _ _ _) rfl rfl) trivial ?_
        refine ch_v (R := [(_, .live _ _)]) rfl rfl (oc_len_own (t := 58) (cs := pcs (baseC q.2)) rfl rfl (by kernel_rfl)) ⟨rfl, trivial⟩ ?_
        refine ch_v (R := []) rfl rfl (oc_binZ rfl rfl rfl (by first | exact binW_sub (by omega) (by omega) | rfl)) trivial ?_
        refine ch_v (R := [(_, .live _ _)]) rfl rfl (oc_index_own (k := 2) (t := 58) (cs := pcs (baseC q.2)) (j := ((baseC q.2).length - 1) * 2) rfl rfl rfl (by kernel_rfl) (by omega) (by omega) (by omega)) ⟨rfl, trivial⟩ ?_
        refine ch_v (R := [(_, .live _ _)]) rfl rfl (oc_fieldAddr_own (off := 0) (sz := 1) (r := false) (t := 58) (cs := pcs (baseC q.2)) rfl rfl (by rw [pcs_len]; omega) (by kernel_rfl) (by decide)) ⟨rfl, trivial⟩ ?_
        refine ch_v (R := [(_, .live _ _)]) rfl rfl (oc_load_own (t := 58) (cs := pcs (baseC q.2)) (y := vs ((baseC q.2).getD ((baseC q.2).length - 1) dPiece).1) rfl rfl (by kernel_rfl) (pcs_text (by omega))) ⟨rfl, trivial⟩ ?_
        refine ch_v (R := []) rfl rfl (oc_move (x := .val _) rfl rfl) trivial ?_
        refine ch_v (R := []) rfl rfl (oc_move (x := .val _) rfl rfl) trivial ?_
        refine ch_v (R := []) rfl rfl (oc_move (x := .val _) rfl rfl) trivial ?_
        refine ch_v (R := []) rfl rfl (oc_binZ rfl rfl rfl (by first | exact binW_add (by omega) (by omega) | rfl)) trivial ?_
        refine ch_v (R := []) rfl rfl (OC.cast (oc_substr rfl rfl rfl rfl (by kernel_rfl) (by omega) (by omega) (by omega)) (show Av.val (.string (s.extract (q.1 : Int).toNat ((q.1 : Int) + 1).toNat)) = vs (s.extract q.1 (q.1 + 1)) from by have := ex_nat s q.1 1; rw [← this]; rfl)) trivial ?_
        refine ch_v (R := []) rfl rfl (oc_str_add rfl rfl rfl (by rw [h1.1]; omega)) trivial ?_
        refine ch_v (R := [(_, .live _ _)]) rfl rfl (oc_index_own (k := 2) (t := 58) (cs := pcs (baseC q.2)) (j := ((baseC q.2).length - 1) * 2) rfl rfl rfl (by kernel_rfl) (by omega) (by omega) (by omega)) ⟨rfl, trivial⟩ ?_
        refine ch_v (R := [(_, .live _ _)]) rfl rfl (oc_fieldAddr_own (off := 0) (sz := 1) (r := false) (t := 58) (cs := pcs (baseC q.2)) rfl rfl (by rw [pcs_len]; omega) (by kernel_rfl) (by decide)) ⟨rfl, trivial⟩ ?_
        refine ch_n rfl rfl (oc_store (t := 58) (y := vs (((baseC q.2).getD ((baseC q.2).length - 1) dPiece).1 ++ (s.extract q.1 (q.1 + 1)))) (cs := pcs (baseC q.2)) (cs' := pcs (addC q.2 (s.extract q.1 (q.1 + 1)))) rfl rfl rfl (by kernel_rfl) (by kernel_rfl) cells_str (by rw [pcs_len]; omega) (by rw [addC_base]; exact pcs_set (by omega))) ⟨rfl, trivial⟩ ?_
        refine ck_nil ⟨by kernel_rfl, ?_⟩
        refine aw_seq ?_
        refine aw_text rfl ?_
        refine ch_v (R := []) rfl rfl (oc_move (x := .val _) rfl rfl) trivial ?_
        refine ch_v (R := []) rfl rfl (oc_binZ rfl rfl rfl (by first | exact binW_add (by omega) (by omega) | rfl)) trivial ?_
        refine ch_v (R := []) rfl rfl (oc_assign (x := .val _) rfl rfl) trivial ?_
        refine ck_nil ?_
        refine aw_exit ?_
        exact ⟨(q.1 + 1, addC q.2 (s.extract q.1 (q.1 + 1))), ⟨by show q.1 + 1 ≤ _; omega, by show (addC q.2 _).length ≤ q.1 + 1; rw [addC_len]; omega, hi3.add h1.1, f, by show _ < f + (q.1 + 1); omega, by rw [hcut]; show (if _ then _ else _) = _; rw [if_pos hlt, if_pos hz]⟩, by show s.size - (q.1 + 1) < _; omega, Le.sub ⟨.inr rfl, .inr rfl, .inr rfl, .inr (by show lkS _ 6 = Av.osl 2 0 (addC q.2 _).length; rw [addC_len]; rfl), .inr rfl, trivial⟩ ⟨rfl, rfl, trivial⟩⟩
    · have hz : ¬ costS (s.extract q.1 (q.1 + 1)) + (lsL s ab).getD (q.1 + 1) 0 = (lsL s ab).getD q.1 0 := by simpa using hb
      have ht : tkL s ab q.1 ≠ 0 := fun hc => hz ((tk_zero hlt).1 hc)
      obtain ⟨g1, g2, hfst⟩ := tk_first hlt ht
      obtain ⟨_, _, k3, k4⟩ := tkK_first s ab q.1 (lsL s ab) ab.length ht
      have k3' : 2 + (lsL s ab).getD (q.1 + (ab.getD (tkL s ab q.1 - 1) ByteArray.empty).size) 0 = (lsL s ab).getD q.1 0 := by rw [lsL_at hlt]; exact k3
      have k4' : ∀ j, j < tkL s ab q.1 - 1 → fitsB s q.1 ab j = true → 2 + (lsL s ab).getD (q.1 + (ab.getD j ByteArray.empty).size) 0 ≠ (lsL s ab).getD q.1 0 := by rw [lsL_at hlt]; exact k4
      obtain ⟨m, hm⟩ : ∃ m, m = tkL s ab q.1 - 1 := ⟨_, rfl⟩
      rw [← hm] at g1 hfst k3' k4'
      have hml : m < ab.length := by omega
      refine aw_skip ?_
      refine aw_seq ?_
      refine aw_text rfl ?_
      refine ch_v (R := []) rfl rfl (oc_assign (x := .val _) rfl rfl) trivial ?_
      refine ck_nil ?_
      refine aw_seq ?_
      refine aw_block ?_
      refine aw_loop (ι := Nat) (fun k => ⟨[(0, vs s), (1, slS ab), (5, slI (lsL s ab)), (6, .osl 2 0 q.2.length), (7, vi q.1), (8, vi k)], [(0, .live 58 (pcs q.2)), (1, .unborn)]⟩) (fun k => k ≤ m) (fun k => m - k) 0 (Nat.zero_le _) (Le.sub ⟨.inr rfl, .inr rfl, .inr rfl, .inr rfl, .inr rfl, .inr rfl, trivial⟩ ⟨rfl, rfl, trivial⟩) ?_
      intro k hI
      have hbk := hb2 k
      refine aw_seq ?_
      refine aw_seq ?_
      refine aw_draw mixed ?_
      refine ch_v (R := []) rfl rfl (oc_move (x := .val _) rfl rfl) trivial ?_
      refine ch_v (R := []) rfl rfl (oc_move (x := .val _) rfl rfl) trivial ?_
      refine ch_v (R := []) rfl rfl (oc_move (x := .sl _ _ _) rfl rfl) trivial ?_
      refine ch_v (R := []) rfl rfl (oc_move (x := .val _) rfl rfl) trivial ?_
      refine ch_v (R := []) rfl rfl (oc_call rfl (by kernel_rfl) (fits_pc s q.1 ab k hs (by omega) (by omega) (hb2 k)) rfl (by simp only [PureL, Pure, and_self, pure_slI, pure_slS, rowAv, pieces_pure, implies_true]) (by simp only [PureL, Pure, and_self, pure_slI, pure_slS, rowAv, pieces_pure, implies_true])) trivial ?_
      refine ch_v (R := []) rfl rfl (oc_not rfl rfl) trivial ?_
      refine ch_v (R := []) rfl rfl (oc_move (x := .val _) rfl rfl) trivial ?_
      refine ch_g (R := []) rfl rfl rfl gate_f (fun hC => oc_move (x := .sl _ _ _) rfl rfl) (fun hC => ⟨(by first | rfl | exact hC | (simp only [Bool.and_eq_true] at hC; first | exact hC.1 | exact hC.1.1 | exact hC.2) | simp_all), trivial⟩) trivial ?_
      refine ch_g (R := []) rfl rfl rfl gate_f (fun hC => oc_move (x := .val _) rfl rfl) (fun hC => ⟨(by first | rfl | exact hC | (simp only [Bool.and_eq_true] at hC; first | exact hC.1 | exact hC.1.1 | exact hC.2) | simp_all), trivial⟩) trivial ?_
      refine ch_g (R := []) rfl rfl rfl gate_f (fun hC => oc_move (x := .sl _ _ _) rfl rfl) (fun hC => ⟨(by first | rfl | exact hC | (simp only [Bool.and_eq_true] at hC; first | exact hC.1 | exact hC.1.1 | exact hC.2) | simp_all), trivial⟩) trivial ?_
      refine ch_g (R := []) rfl rfl rfl gate_f (fun hC => oc_move (x := .val _) rfl rfl) (fun hC => ⟨(by first | rfl | exact hC | (simp only [Bool.and_eq_true] at hC; first | exact hC.1 | exact hC.1.1 | exact hC.2) | simp_all), trivial⟩) trivial ?_
      refine ch_g (R := []) rfl rfl rfl gate_f (fun hC => (by first | exact oc_indexN rfl rfl rfl (by kernel_rfl) (by omega) | exact oc_index rfl rfl rfl (by kernel_rfl) (by omega) (by omega) rfl)) (fun hC => ⟨(by first | rfl | exact hC | (simp only [Bool.and_eq_true] at hC; first | exact hC.1 | exact hC.1.1 | exact hC.2) | simp_all), (by first | rfl | exact hC | (simp only [Bool.and_eq_true] at hC; first | exact hC.1 | exact hC.1.1 | exact hC.2) | simp_all), trivial⟩) trivial ?_
      refine ch_g (R := []) rfl rfl rfl gate_f (fun hC => oc_load rfl rfl (by kernel_rfl) cells_str) (fun hC => ⟨(by first | rfl | exact hC | (simp only [Bool.and_eq_true] at hC; first | exact hC.1 | exact hC.1.1 | exact hC.2) | simp_all), trivial⟩) trivial ?_
      refine ch_g (R := []) rfl rfl rfl gate_f (fun hC => oc_len_str rfl rfl (by kernel_rfl)) (fun hC => ⟨(by first | rfl | exact hC | (simp only [Bool.and_eq_true] at hC; first | exact hC.1 | exact hC.1.1 | exact hC.2) | simp_all), trivial⟩) trivial ?_
      refine ch_g (R := []) rfl rfl rfl gate_f (fun hC => oc_binZ rfl rfl rfl (by first | exact binW_add (by omega) (by omega) | rfl)) (fun hC => ⟨(by first | rfl | exact hC | (simp only [Bool.and_eq_true] at hC; first | exact hC.1 | exact hC.1.1 | exact hC.2) | simp_all), (by first | rfl | exact hC | (simp only [Bool.and_eq_true] at hC; first | exact hC.1 | exact hC.1.1 | exact hC.2) | simp_all), trivial⟩) trivial ?_
      refine ch_g (R := []) rfl rfl rfl gate_f (fun hC => by
            have hq : fitsB s q.1 ab k = true := by simpa using hC
            have hft := fits_in hq
            exact oc_index (j := q.1 + (ab.getD k ByteArray.empty).size) rfl rfl rfl (by kernel_rfl) (by omega) (by omega) (by omega)) (fun hC => ⟨(by first | rfl | exact hC | (simp only [Bool.and_eq_true] at hC; first | exact hC.1 | exact hC.1.1 | exact hC.2) | simp_all), (by first | rfl | exact hC | (simp only [Bool.and_eq_true] at hC; first | exact hC.1 | exact hC.1.1 | exact hC.2) | simp_all), trivial⟩) trivial ?_
      refine ch_g (R := []) rfl rfl rfl gate_f (fun hC => oc_load rfl rfl (by kernel_rfl) cells_int) (fun hC => ⟨(by first | rfl | exact hC | (simp only [Bool.and_eq_true] at hC; first | exact hC.1 | exact hC.1.1 | exact hC.2) | simp_all), trivial⟩) trivial ?_
      refine ch_g (R := []) rfl rfl rfl gate_f (fun hC => by
            have hbj := hbd (q.1 + (ab.getD k ByteArray.empty).size)
            exact oc_binZ rfl rfl rfl (by first | exact binW_add (by omega) (by omega) | rfl)) (fun hC => ⟨(by first | rfl | exact hC | (simp only [Bool.and_eq_true] at hC; first | exact hC.1 | exact hC.1.1 | exact hC.2) | simp_all), (by first | rfl | exact hC | (simp only [Bool.and_eq_true] at hC; first | exact hC.1 | exact hC.1.1 | exact hC.2) | simp_all), trivial⟩) trivial ?_
      refine ch_g (R := []) rfl rfl rfl gate_f (fun hC => oc_move (x := .sl _ _ _) rfl rfl) (fun hC => ⟨(by first | rfl | exact hC | (simp only [Bool.and_eq_true] at hC; first | exact hC.1 | exact hC.1.1 | exact hC.2) | simp_all), trivial⟩) trivial ?_
      refine ch_g (R := []) rfl rfl rfl gate_f (fun hC => oc_move (x := .val _) rfl rfl) (fun hC => ⟨(by first | rfl | exact hC | (simp only [Bool.and_eq_true] at hC; first | exact hC.1 | exact hC.1.1 | exact hC.2) | simp_all), trivial⟩) trivial ?_
      refine ch_g (R := []) rfl rfl rfl gate_f (fun hC => oc_indexN (j := q.1) rfl rfl rfl (by kernel_rfl) (by omega)) (fun hC => ⟨(by first | rfl | exact hC | (simp only [Bool.and_eq_true] at hC; first | exact hC.1 | exact hC.1.1 | exact hC.2) | simp_all), (by first | rfl | exact hC | (simp only [Bool.and_eq_true] at hC; first | exact hC.1 | exact hC.1.1 | exact hC.2) | simp_all), trivial⟩) trivial ?_
      refine ch_g (R := []) rfl rfl rfl gate_f (fun hC => oc_load rfl rfl (by kernel_rfl) cells_int) (fun hC => ⟨(by first | rfl | exact hC | (simp only [Bool.and_eq_true] at hC; first | exact hC.1 | exact hC.1.1 | exact hC.2) | simp_all), trivial⟩) trivial ?_
      refine ch_g (R := []) rfl rfl rfl gate_f (fun hC => oc_binZ rfl rfl rfl rfl) (fun hC => ⟨(by first | rfl | exact hC | (simp only [Bool.and_eq_true] at hC; first | exact hC.1 | exact hC.1.1 | exact hC.2) | simp_all), (by first | rfl | exact hC | (simp only [Bool.and_eq_true] at hC; first | exact hC.1 | exact hC.1.1 | exact hC.2) | simp_all), trivial⟩) trivial ?_
      refine ch_v (R := []) rfl rfl (oc_or rfl rfl rfl (by first | exact fun h => h | simp_all)) trivial ?_
      refine ck_nil ⟨by kernel_rfl, ?_⟩
      refine aw_cond rfl (fun hb => ?_) (fun hb => ?_)
      · have hkm : k ≠ m := by
          intro e
          rw [e, g1] at hb
          rw [k3'] at hb
          simp at hb
        refine aw_skip ?_
        refine aw_block ?_
        refine aw_text rfl ?_
        refine ch_v (R := []) rfl rfl (oc_move (x := .val _) rfl rfl) trivial ?_
        refine ch_v (R := []) rfl rfl (oc_binZ rfl rfl rfl (by first | exact binW_add (by omega) (by omega) | rfl)) trivial ?_
        refine ch_v (R := []) rfl rfl (oc_assign (x := .val _) rfl rfl) trivial ?_
        refine ck_nil ?_
        exact ⟨k + 1, by omega, by omega, Le.sub ⟨.inr rfl, .inr rfl, .inr rfl, .inr rfl, .inr rfl, .inr (vi_eq (by omega)), trivial⟩ ⟨rfl, rfl, trivial⟩⟩
      · rw [Bool.or_eq_false_iff] at hb
        have hft0 : fitsB s q.1 ab k = true := by simpa using hb.1
        have hft := fits_in hft0
        have heq : 2 + (lsL s ab).getD (q.1 + (ab.getD k ByteArray.empty).size) 0 = (lsL s ab).getD q.1 0 := by simpa using hb.2
        have hkm : k = m := by
          rcases Nat.lt_or_ge k m with h9 | h9
          · exact absurd heq (k4' k h9 hft0)
          · omega
        refine aw_exit ?_
        refine aw_seq ?_
        refine aw_text rfl ?_
        refine ch_v (R := []) rfl rfl (oc_move (x := .osl _ _ _) rfl rfl) trivial ?_
        refine ch_v (R := []) rfl rfl (oc_move (x := .val _) rfl rfl) trivial ?_
        refine ch_v (R := []) rfl rfl (oc_binZ rfl rfl rfl (by first | exact binW_add (by omega) (by omega) | rfl)) trivial ?_
        refine ch_v (R := []) rfl rfl (oc_build (pl := [(0, 1), (1, 1)]) (zs := [.string ⟨#[]⟩, .int .i64 0]) (ds := [.val _, .val _]) rfl (by kernel_rfl) rfl (by kernel_rfl) (by first | rfl | decide) rfl) trivial ?_
        refine ch_v (R := []) rfl rfl (oc_buildSlice (ps := [.tmp 96]) (xs := [.agg _]) (e := 58) (k := 2) (by_ := 24) (zs := [.string ⟨#[]⟩, .int .i64 0]) rfl (by kernel_rfl) (by kernel_rfl) rfl rfl rfl (by decide) (by decide)) trivial ?_
        refine ch_u rfl rfl (oc_append (e := 58) (k := 2) (by_ := 24) (zs := [.string ⟨#[]⟩, .int .i64 0]) (cs := pcs q.2) (ds := [vs ((⟨#[]⟩ : ByteArray), (k : Int) + 1).1, vi ((⟨#[]⟩ : ByteArray), (k : Int) + 1).2]) 1 rfl rfl rfl (by kernel_rfl) (by kernel_rfl) rfl (by decide) (by decide) (pcs_len _) rfl (app_piece ((⟨#[]⟩ : ByteArray), (k : Int) + 1)) (by omega) (by omega)) ⟨rfl, rfl, trivial⟩ ?_
        refine ch_v (R := []) rfl rfl (oc_assign (x := .osl _ _ _) rfl rfl) trivial ?_
        refine ck_nil ?_
        refine aw_le (Le.trans (Le.swap (τ := ⟨[(0, vs s), (1, slS ab), (5, slI (lsL s ab)), (6, .osl 2 0 (q.2 ++ [((⟨#[]⟩ : ByteArray), (k : Int) + 1)]).length), (7, vi q.1), (8, vi k)], [(0, .live 58 (pcs (q.2 ++ [((⟨#[]⟩ : ByteArray), (k : Int) + 1)]))), (1, .dead)]⟩) 0 1 (by simp) (by simp) ⟨rfl, (ren_pure _ _ (pure_slS _)).symm, (ren_pure _ _ (pure_slI _)).symm, by rw [List.length_append]; rfl, rfl, rfl, trivial⟩ ⟨by show lkH _ 1 = some (Hs.live _ ((pcs (q.2 ++ [((⟨#[]⟩ : ByteArray), (k : Int) + 1)])).map _)); rw [ren_pcs, pcs_app]; rfl, rfl, trivial⟩) (Le.reset (τ := ⟨[(0, vs s), (1, slS ab), (5, slI (lsL s ab)), (6, .osl 2 0 (q.2 ++ [((⟨#[]⟩ : ByteArray), (k : Int) + 1)]).length), (7, vi q.1), (8, vi k)], [(0, .live 58 (pcs (q.2 ++ [((⟨#[]⟩ : ByteArray), (k : Int) + 1)]))), (1, .unborn)]⟩) [1] (by simp) ⟨.inr rfl, .inr rfl, .inr rfl, .inr rfl, .inr rfl, .inr rfl, trivial⟩ ⟨by simp [NoN], NoN.of_pure _ (pure_slS _), NoN.of_pure _ (pure_slI _), by simp [NoN], by simp [NoN], by simp [NoN], trivial⟩ ⟨by rw [if_neg (by decide)]; exact ⟨rfl, non_pcs _⟩, by rw [if_pos (by decide)], trivial⟩)) ?_
        refine aw_text rfl ?_
        refine ch_v (R := []) rfl rfl (oc_move (x := .val _) rfl rfl) trivial ?_
        refine ch_v (R := []) rfl rfl (oc_move (x := .sl _ _ _) rfl rfl) trivial ?_
        refine ch_v (R := []) rfl rfl (oc_move (x := .val _) rfl rfl) trivial ?_
        refine ch_v (R := []) rfl rfl ((by first | exact oc_indexN rfl rfl rfl (by kernel_rfl) (by omega) | exact oc_index rfl rfl rfl (by kernel_rfl) (by omega) (by omega) rfl)) trivial ?_
        refine ch_v (R := []) rfl rfl (oc_load rfl rfl (by kernel_rfl) cells_str) trivial ?_
        refine ch_v (R := []) rfl rfl (oc_len_str rfl rfl (by kernel_rfl)) trivial ?_
        refine ch_v (R := []) rfl rfl (oc_binZ rfl rfl rfl (by first | exact binW_add (by omega) (by omega) | rfl)) trivial ?_
        refine ch_v (R := []) rfl rfl (oc_assign (x := .val _) rfl rfl) trivial ?_
        refine ck_nil ?_
        exact ⟨(q.1 + (ab.getD k ByteArray.empty).size, q.2 ++ [((⟨#[]⟩ : ByteArray), (k : Int) + 1)]), ⟨by show q.1 + (ab.getD k ByteArray.empty).size ≤ _; omega, by show (q.2 ++ [_]).length ≤ q.1 + (ab.getD k ByteArray.empty).size; rw [List.length_append]; show q.2.length + 1 ≤ _; omega, (hi3.more (by omega)).app (Nat.zero_le _), f, by show _ < f + (q.1 + (ab.getD k ByteArray.empty).size); omega, by rw [hcut]; show (if _ then _ else _) = _; rw [if_pos hlt, if_neg hz, hfst, ← hkm, empE]⟩, by show s.size - (q.1 + (ab.getD k ByteArray.empty).size) < _; omega, Le.sub ⟨.inr rfl, .inr rfl, .inr rfl, .inr rfl, .inr (vi_eq (by first | omega | (show (q.1 : Int) + ((ab.getD k ByteArray.empty).size : Int) = ((q.1 + (ab.getD k ByteArray.empty).size : Nat) : Int); omega))), trivial⟩ ⟨rfl, rfl, trivial⟩⟩
  · have hge : q.1 = s.size := by have h0 := of_decide_eq_false hb; omega
    have hfin : rcutP s ab = q.2 := by rw [hcut, rcutF_over (by omega)]
    refine aw_exit ?_
    refine aw_seq ?_
    refine aw_le (Le.freezeP 6 0 q.2 rfl rfl) ?_
    refine aw_text rfl ?_
    refine ch_v (R := []) rfl rfl (oc_move (x := .sl _ _ _) rfl rfl) trivial ?_
    refine ch_v (R := []) rfl rfl (oc_assign (x := .sl _ _ _) rfl rfl) trivial ?_
    refine ck_nil ?_
    refine aw_ret ?_
    exact ⟨.inl rfl, ResOk.tmp rfl (by rw [hfin]; rfl), trivial⟩
end Go.Proofs.YtpbaiighifhfnaaDoor
namespace Go.Proofs.YtpbaiighifhfnaaDoor
open Go.RowKit
set_option maxRecDepth 100000
set_option linter.unusedVariables false
set_option linter.unusedSimpArgs false
theorem res_none {P : Program} {fn : Func} {Γ : Ctx} (h : fn.results = #[]) : ResOk P fn Γ .any := fun E a _ _ => ⟨_, results_none h _ _ _, by unfold Rep; trivial⟩
/-- Only 32 abbreviations count. -/
theorem lsK_cut {s : ByteArray} {ab : List ByteArray} {i m : Nat} {A : List Int} (hm : m = min ab.length 32) : ∀ d, lsK s ab i A (m + d) = lsK s ab i A m ∨ ab.length < m + d
  | 0 => .inl rfl
  | d + 1 => by
    rcases lsK_cut (s := s) (i := i) (A := A) hm d with h | h
    · by_cases h9 : ab.length < m + (d + 1)
      · exact .inr h9
      · refine .inl ?_
        rw [← h]
        have ea : lsK s ab i A (m + d + 1) = if fitsB s i ab (m + d) = true ∧ 2 + A.getD (i + (ab.getD (m + d) ByteArray.empty).size) 0 < lsK s ab i A (m + d) then 2 + A.getD (i + (ab.getD (m + d) ByteArray.empty).size) 0 else lsK s ab i A (m + d) := rfl
        rw [← Nat.add_assoc, ea, if_neg (fun hc => by have := (fits_in hc.1).1; omega)]
    · exact .inr (by omega)
theorem tkK_cut {s : ByteArray} {ab : List ByteArray} {i m : Nat} {A : List Int} (hm : m = min ab.length 32) : ∀ d, tkK s ab i A (m + d) = tkK s ab i A m ∨ ab.length < m + d
  | 0 => .inl rfl
  | d + 1 => by
    rcases tkK_cut (s := s) (i := i) (A := A) hm d with h | h
    · by_cases h9 : ab.length < m + (d + 1)
      · exact .inr h9
      · refine .inl ?_
        rw [← h]
        have ea : tkK s ab i A (m + d + 1) = if fitsB s i ab (m + d) = true ∧ 2 + A.getD (i + (ab.getD (m + d) ByteArray.empty).size) 0 < lsK s ab i A (m + d) then m + d + 1 else tkK s ab i A (m + d) := rfl
        rw [← Nat.add_assoc, ea, if_neg (fun hc => by have := (fits_in hc.1).1; omega)]
    · exact .inr (by omega)
theorem lsK_m {s : ByteArray} {ab : List ByteArray} {i m : Nat} {A : List Int} (hm : m = min ab.length 32) : lsK s ab i A m = lsK s ab i A ab.length := by
  rcases lsK_cut (s := s) (i := i) (A := A) hm (ab.length - m) with h | h
  · rw [show m + (ab.length - m) = ab.length from by omega] at h; exact h.symm
  · omega
theorem tkK_m {s : ByteArray} {ab : List ByteArray} {i m : Nat} {A : List Int} (hm : m = min ab.length 32) : tkK s ab i A m = tkK s ab i A ab.length := by
  rcases tkK_cut (s := s) (i := i) (A := A) hm (ab.length - m) with h | h
  · rw [show m + (ab.length - m) = ab.length from by omega] at h; exact h.symm
  · omega
/-- Which abbreviation each place takes, for the last d places. -/
def byA (s : ByteArray) (ab : List ByteArray) : Nat → List Int
  | 0 => List.replicate s.size 0
  | d + 1 => (byA s ab d).set (s.size - 1 - d) (tkK s ab (s.size - 1 - d) (lsA s ab d) ab.length)
theorem byA_len (s : ByteArray) (ab : List ByteArray) : ∀ d, (byA s ab d).length = s.size
  | 0 => by simp [byA]
  | d + 1 => by unfold byA; rw [List.length_set, byA_len s ab d]
theorem byA_zero (s : ByteArray) (ab : List ByteArray) : ∀ d, ∀ j, j < s.size - d → (byA s ab d).getD j 0 = 0
  | 0, j, hj => by
    show (List.replicate s.size (0 : Int)).getD j 0 = 0
    rw [List.getD, List.getElem?_replicate]
    split <;> rfl
  | d + 1, j, hj => by
    show ((byA s ab d).set _ _).getD j 0 = 0
    rw [getD_put, if_neg (by omega)]
    exact byA_zero s ab d j (by omega)
def byW (s : ByteArray) (ab : List ByteArray) (i : Nat) (A B : List Int) (k : Nat) : List Int := B.set i (tkK s ab i A k : Int)
theorem byW_len (s : ByteArray) (ab : List ByteArray) (i k : Nat) (A B : List Int) : (byW s ab i A B k).length = B.length := by unfold byW; rw [List.length_set]
theorem byW_zero {s : ByteArray} {ab : List ByteArray} {i : Nat} {A B : List Int} (h : B.getD i 0 = 0) : byW s ab i A B 0 = B := by
  show B.set i (0 : Int) = B
  by_cases hi : i < B.length
  · have e : B[i] = 0 := by rw [List.getD, List.getElem?_eq_getElem hi] at h; exact h
    rw [← e, List.set_getElem_self]
  · exact List.set_eq_of_length_le (by omega)
theorem byW_put {s : ByteArray} {ab : List ByteArray} {i k : Nat} {A B : List Int} : (byW s ab i A B k).set i (tkK s ab i A (k + 1) : Int) = byW s ab i A B (k + 1) := by
  unfold byW
  rw [List.set_set]
theorem byA_step {s : ByteArray} {ab : List ByteArray} {i : Nat} (h : i < s.size) : byA s ab (s.size - i) = byW s ab i (lsA s ab (s.size - (i + 1))) (byA s ab (s.size - (i + 1))) ab.length := by
  have e : s.size - i = (s.size - (i + 1)) + 1 := by omega
  have e2 : s.size - 1 - (s.size - (i + 1)) = i := by omega
  rw [e]
  show (byA s ab (s.size - (i + 1))).set (s.size - 1 - (s.size - (i + 1))) _ = _
  rw [e2]
  rfl
theorem byA_at {s : ByteArray} {ab : List ByteArray} : ∀ d, d ≤ s.size → ∀ j, s.size - d ≤ j → j < s.size → (byA s ab d).getD j 0 = (tkL s ab j : Int)
  | 0, _, j, h1, h2 => by omega
  | d + 1, hd, j, h1, h2 => by
    show ((byA s ab d).set _ _).getD j 0 = _
    rw [getD_put, byA_len]
    by_cases e : s.size - 1 - d = j
    · rw [if_pos ⟨e, by omega⟩, e]
      unfold tkL
      congr 1
      exact tkK_congr (fun k hk => (lsL_from (by omega) (by omega)).symm) _
    · rw [if_neg (fun hc => e hc.1)]
      exact byA_at d (by omega) j (by omega) h2
theorem row_by (s : ByteArray) (ab : List ByteArray) (j : Nat) (hj : j < s.size) : ((byA s ab s.size).map vi)[j]? = some (vi (tkL s ab j : Int)) ∧ oneA (vi (tkL s ab j : Int)) = true := by
  refine ⟨?_, rfl⟩
  have h := byA_at (s := s) (ab := ab) s.size (Nat.le_refl _) j (by omega) hj
  rw [← h]
  exact (row_vi (byA s ab s.size) j (by rw [byA_len]; exact hj)).1
/-- What the test asks is whether it fits. -/
theorem cut_fit {s : ByteArray} {ab : List ByteArray} {i k : Nat} (hi : i ≤ s.size) (hk : k < 32) : (((ab.getD k ByteArray.empty).toList != (⟨#[]⟩ : ByteArray).toList) && (decide ((ab.getD k ByteArray.empty).size ≤ (s.extract i s.size).size) && decide ((s.extract i s.size).extract 0 (ab.getD k ByteArray.empty).size = ab.getD k ByteArray.empty))) = fitsB s i ab k := by
  rw [pref_at hi]
  unfold fitsB
  rw [show decide (k < 32) = true from decide_eq_true hk, Bool.true_and, Bool.and_assoc]
  congr 1
  have h1 : ((ab.getD k ByteArray.empty).toList == (⟨#[]⟩ : ByteArray).toList) = decide (ab.getD k ByteArray.empty = ⟨#[]⟩) := str_eq _ _
  have h2 : ((ab.getD k ByteArray.empty).toList != (⟨#[]⟩ : ByteArray).toList) = !((ab.getD k ByteArray.empty).toList == (⟨#[]⟩ : ByteArray).toList) := rfl
  rw [h2, h1]
  by_cases e : ab.getD k ByteArray.empty = ⟨#[]⟩
  · rw [e]; rfl
  · rw [show decide (ab.getD k ByteArray.empty = ⟨#[]⟩) = false from decide_eq_false e]
    symm
    refine decide_eq_true ?_
    rcases Nat.eq_zero_or_pos (ab.getD k ByteArray.empty).size with h | h
    · refine absurd (tB_inj ?_) e
      have : (tB (ab.getD k ByteArray.empty)).length = 0 := by rw [tB_len]; exact h
      rw [List.eq_nil_of_length_eq_zero this]
      rfl
    · exact h
theorem flush_len (s : ByteArray) (fr i : Nat) (out : List PieceP) : (flushP s fr i out).length ≤ out.length + 1 := by
  unfold flushP
  split
  · simp
  · omega
theorem cutF_over {s : ByteArray} {ab : List ByteArray} {f i fr : Nat} {out : List PieceP} (h : ¬ i < s.size) : cutF s ab f i fr out = flushP s fr s.size out := by
  cases f with
  | zero => rfl
  | succ f => unfold cutF; rw [if_neg h]
abbrev CtSt := Nat × Nat × List PieceP
set_option maxHeartbeats 800000 in
theorem cut1_fcm (s : ByteArray) (fr tt : Nat) (out : List PieceP) (hs : s.size ≤ 1000000) (h1 : fr ≤ tt) (h2 : tt ≤ s.size) (h3 : out.length ≤ 3000000) : FCM Tryd.prog 38 [vi tt, .own 3 0, .own 2 0, .ptr (vs s)] [(2, .live 39 [.osl 2 4 out.length]), (3, .live 3 [vi (fr : Int)])] [(4, .live 58 (pcs out))] .any [(2, .live 39 [.osl 2 5 (flushP s fr tt out).length]), (3, .live 3 [vi (fr : Int)]), (5, .live 58 (pcs (flushP s fr tt out)))] := by
  refine FCM.body 6 16 Tryd.func38 rfl (by kernel_rfl) ?_
  refine aw_seq ?_
  refine aw_text rfl ?_
  refine ch_v (R := [(_, .live _ _)]) rfl rfl (oc_load_own rfl rfl (by kernel_rfl) rfl) ⟨rfl, trivial⟩ ?_
  refine ch_v (R := []) rfl rfl (oc_move (x := .val _) rfl rfl) trivial ?_
  refine ch_v (R := []) rfl rfl (oc_binZ rfl rfl rfl rfl) trivial ?_
  refine ck_nil ?_
  refine aw_cond rfl (fun hb => ?_) (fun hb => ?_)
  · have hlt : fr < tt := by have h0 := of_decide_eq_true hb; omega
    have hfl : flushP s fr tt out = out ++ [((s.extract fr tt), (0 : Int))] := if_pos hlt
    refine aw_draw mixed ?_
    refine ch_v (R := [(_, .live _ _)]) rfl rfl (oc_load_own rfl rfl (by kernel_rfl) rfl) ⟨rfl, trivial⟩ ?_
    refine ch_v (R := []) rfl rfl (oc_load rfl rfl (by kernel_rfl) cells_str) trivial ?_
    refine ch_v (R := [(_, .live _ _)]) rfl rfl (oc_load_own rfl rfl (by kernel_rfl) rfl) ⟨rfl, trivial⟩ ?_
    refine ch_v (R := []) rfl rfl (oc_move (x := .val _) rfl rfl) trivial ?_
    refine ch_v (R := []) rfl rfl (OC.cast (oc_substr rfl rfl rfl rfl (by kernel_rfl) (by omega) (by omega) (by omega)) (show Av.val (.string (s.extract (fr : Int).toNat (tt : Int).toNat)) = vs (s.extract fr tt) from by rw [Int.toNat_natCast, Int.toNat_natCast])) trivial ?_
    refine ch_v (R := []) rfl rfl (oc_build (pl := [(0, 1), (1, 1)]) (zs := [.string ⟨#[]⟩, .int .i64 0]) (ds := [.val _, .val _]) rfl (by kernel_rfl) rfl (by kernel_rfl) (by first | rfl | decide) rfl) trivial ?_
    refine ch_v (R := []) rfl rfl (oc_buildSlice (ps := [.tmp 13]) (xs := [.agg _]) (e := 58) (k := 2) (by_ := 24) (zs := [.string ⟨#[]⟩, .int .i64 0]) rfl (by kernel_rfl) (by kernel_rfl) rfl rfl rfl (by decide) (by decide)) trivial ?_
    refine ch_u rfl rfl (oc_append (e := 58) (k := 2) (by_ := 24) (zs := [.string ⟨#[]⟩, .int .i64 0]) (cs := pcs out) (ds := [vs ((s.extract fr tt), (0 : Int)).1, vi ((s.extract fr tt), (0 : Int)).2]) 5 rfl rfl rfl (by kernel_rfl) (by kernel_rfl) rfl (by decide) (by decide) (pcs_len _) rfl (app_piece ((s.extract fr tt), (0 : Int))) (by omega) (by omega)) ⟨rfl, rfl, trivial⟩ ?_
    refine ch_n rfl rfl (oc_store (y := .osl _ _ _) (cs' := [_]) rfl rfl rfl (by kernel_rfl) (by kernel_rfl) cells_osl (by first | decide | (simp; done) | (simp; omega)) rfl) ⟨rfl, trivial⟩ ?_
    refine ck_nil ⟨by kernel_rfl, ?_⟩
    refine ⟨.inr rfl, res_none rfl, ?_⟩
    rw [hfl]
    exact ⟨by first | rfl | (rw [List.length_append]; rfl), rfl, by first | rfl | (rw [pcs_app]; rfl), trivial⟩
  · have hlt : ¬ fr < tt := by have h0 := of_decide_eq_false hb; omega
    have hfl : flushP s fr tt out = out := if_neg hlt
    refine aw_le (Le.swap (τ := ⟨[], [(2, .live 39 [.osl 2 5 out.length]), (3, .live 3 [vi (fr : Int)]), (5, .live 58 (pcs out))]⟩) 4 5 (by simp) (by simp) trivial ⟨rfl, rfl, by show lkH _ 4 = some (Hs.live _ ((pcs out).map _)); rw [ren_pcs]; rfl, trivial⟩) ?_
    refine aw_skip ?_
    refine ⟨.inr rfl, res_none rfl, ?_⟩
    rw [hfl]
    exact ⟨by first | rfl | (rw [List.length_append]; rfl), rfl, by first | rfl | (rw [pcs_app]; rfl), trivial⟩
end Go.Proofs.YtpbaiighifhfnaaDoor
namespace Go.Proofs.YtpbaiighifhfnaaDoor
open Go.RowKit
set_option maxRecDepth 100000
set_option linter.unusedVariables false
set_option linter.unusedSimpArgs false
theorem pure_row (ab : List ByteArray) (m : Nat) : Pure (.sl 1 m (fun j => vs (ab.getD j ByteArray.empty))) := by unfold Pure; intro j; simp [Pure]
theorem pure_tk (s : ByteArray) (ab : List ByteArray) : Pure (.sl 1 s.size (fun j => vi (tkL s ab j : Int))) := by unfold Pure; intro j; simp [Pure]
theorem inNL_pcs {Z : Nat → Prop} (l : List PieceP) : InNL Z (pcs l) := by
  induction l with
  | nil => unfold pcs InNL; trivial
  | cons p l ih =>
    show InNL Z (vs p.1 :: vi p.2 :: pcs l)
    unfold InNL InNL
    exact ⟨by simp [InN], by simp [InN], ih⟩
set_option maxHeartbeats 800000 in
theorem cut_pc (s : ByteArray) (ab : List ByteArray) (hs : s.size ≤ 1000000) (hb2 : ∀ k, (ab.getD k ByteArray.empty).size ≤ 1000000) (hbl : ab.length ≤ 1000000) : PC Tryd.prog 16 [vs s, slS ab] (piecesAv (cutP s ab)) := by
  obtain ⟨m, hm⟩ : ∃ m : Nat, m = min ab.length 32 := ⟨_, rfl⟩
  have hmi : min (ab.length : Int) 32 = (m : Int) := by omega
  have hml : m ≤ ab.length := by omega
  have hm32 : m ≤ 32 := by omega
  refine FC.body 6 136 Tryd.func16 rfl (by kernel_rfl) ?_
  refine aw_seq ?_
  refine aw_text rfl ?_
  refine ch_v (R := []) rfl rfl (oc_box (x := .val _) rfl rfl) trivial ?_
  refine ch_v (R := []) rfl rfl (oc_assign (x := .val _) rfl rfl) trivial ?_
  refine ck_nil ?_
  refine aw_seq ?_
  refine aw_text rfl ?_
  refine ch_v (R := []) rfl rfl (oc_move (x := .sl _ _ _) rfl rfl) trivial ?_
  refine ch_v (R := []) rfl rfl (oc_move (x := .sl _ _ _) rfl rfl) trivial ?_
  refine ch_v (R := []) rfl rfl (oc_len rfl rfl (by kernel_rfl)) trivial ?_
  refine ch_v (R := []) rfl rfl (OC.cast (oc_min rfl rfl rfl) (show vi (min (ab.length : Int) 32) = vi (m : Int) from by rw [hmi])) trivial ?_
  refine ch_v (R := []) rfl rfl (oc_slice_h (e := 9) (by_ := 16) (zs := [.string ⟨#[]⟩]) m rfl rfl rfl (by kernel_rfl) (by kernel_rfl) (by omega)) trivial ?_
  refine ch_v (R := []) rfl rfl (oc_assign (x := .sl _ _ _) rfl rfl) trivial ?_
  refine ck_nil ?_
  refine aw_seq ?_
  refine aw_text rfl ?_
  refine ch_v (R := []) rfl rfl (oc_load rfl rfl (by kernel_rfl) cells_str) trivial ?_
  refine ch_v (R := []) rfl rfl (oc_len_str rfl rfl (by kernel_rfl)) trivial ?_
  refine ch_v (R := []) rfl rfl (oc_binZ rfl rfl rfl (by first | exact binW_add (by omega) (by omega) | rfl)) trivial ?_
  refine ch_u rfl rfl (oc_makeSlice (e := 3) (by_ := 8) (z := .int .i64 0) (m := s.size + 1) 0 rfl rfl rfl rfl (by kernel_rfl) (by kernel_rfl) rfl (by omega) (by omega)) ⟨rfl, trivial⟩ ?_
  refine ch_v (R := []) rfl rfl (oc_assign (x := .osl _ _ _) rfl rfl) trivial ?_
  refine ck_nil ?_
  refine aw_seq ?_
  refine aw_text rfl ?_
  refine ch_v (R := []) rfl rfl (oc_load rfl rfl (by kernel_rfl) cells_str) trivial ?_
  refine ch_v (R := []) rfl rfl (oc_len_str rfl rfl (by kernel_rfl)) trivial ?_
  refine ch_u rfl rfl (oc_makeSlice (e := 3) (by_ := 8) (z := .int .i64 0) (m := s.size) 1 rfl rfl rfl rfl (by kernel_rfl) (by kernel_rfl) rfl (by omega) (by omega)) ⟨rfl, trivial⟩ ?_
  refine ch_v (R := []) rfl rfl (oc_assign (x := .osl _ _ _) rfl rfl) trivial ?_
  refine ck_nil ?_
  refine aw_seq ?_
  refine aw_seq ?_
  refine aw_text rfl ?_
  refine ch_v (R := []) rfl rfl (oc_load rfl rfl (by kernel_rfl) cells_str) trivial ?_
  refine ch_v (R := []) rfl rfl (oc_len_str rfl rfl (by kernel_rfl)) trivial ?_
  refine ch_v (R := []) rfl rfl (oc_binZ rfl rfl rfl (by first | exact binW_sub (by omega) (by omega) | rfl)) trivial ?_
  refine ch_v (R := []) rfl rfl (oc_assign (x := .val _) rfl rfl) trivial ?_
  refine ck_nil ?_
  refine aw_block ?_
  refine aw_loop (ι := Nat) (fun d => ⟨[(1, .sl 1 m (fun j => vs (ab.getD j ByteArray.empty))), (2, .ptr (vs s)), (5, .osl 1 0 (s.size + 1)), (6, .osl 1 1 s.size), (7, vi ((d : Int) - 1))], [(0, .live 3 ((lsA s ab (s.size - d)).map vi)), (1, .live 3 ((byA s ab (s.size - d)).map vi)), (2, .unborn), (3, .unborn), (4, .unborn), (5, .unborn)]⟩) (fun d => d ≤ s.size) (fun d => d) s.size (Nat.le_refl _) (Le.sub ⟨.inr rfl, .inr rfl, .inr rfl, .inr rfl, .inr rfl, trivial⟩ ⟨by rw [Nat.sub_self]; show _ = some (Hs.live _ ((List.replicate (s.size + 1) (0 : Int)).map vi)); rw [List.map_replicate]; rfl, by rw [Nat.sub_self]; show _ = some (Hs.live _ ((List.replicate s.size (0 : Int)).map vi)); rw [List.map_replicate]; rfl, rfl, rfl, rfl, rfl, trivial⟩) ?_
  intro d hI
  refine aw_seq ?_
  refine aw_seq ?_
  refine aw_text rfl ?_
  refine ch_v (R := []) rfl rfl (oc_move (x := .val _) rfl rfl) trivial ?_
  refine ch_v (R := []) rfl rfl (oc_binZ rfl rfl rfl rfl) trivial ?_
  refine ck_nil ?_
  refine aw_cond rfl (fun hb => ?_) (fun hb => ?_)
  · obtain ⟨i, rfl⟩ : ∃ i, d = i + 1 := ⟨d - 1, by have h0 := of_decide_eq_true hb; omega⟩
    have h1 := one_cost (s := s) (i := i) (by omega)
    have hbd := lsA_bd s ab (s.size - (i + 1)) (by omega)
    have hal := lsA_len s ab (s.size - (i + 1))
    have hbl2 := byA_len s ab (s.size - (i + 1))
    have hbz : (byA s ab (s.size - (i + 1))).getD i 0 = 0 := byA_zero s ab _ i (by omega)
    refine aw_le (Le.sub (τ := ⟨[(1, .sl 1 m (fun j => vs (ab.getD j ByteArray.empty))), (2, .ptr (vs s)), (5, .osl 1 0 (s.size + 1)), (6, .osl 1 1 s.size), (7, vi (i : Int))], [(0, .live 3 ((lsA s ab (s.size - (i + 1))).map vi)), (1, .live 3 ((byA s ab (s.size - (i + 1))).map vi)), (2, .unborn), (3, .unborn), (4, .unborn), (5, .unborn)]⟩) ⟨.inr rfl, .inr rfl, .inr rfl, .inr rfl, .inr (vi_eq (by omega)), trivial⟩ ⟨rfl, rfl, rfl, rfl, rfl, rfl, trivial⟩) ?_
    have hb1 := hbd (i + 1)
    refine aw_skip ?_
    refine aw_seq ?_
    refine aw_block ?_
    refine aw_seq ?_
    refine aw_draw mixed ?_
    refine ch_v (R := []) rfl rfl (oc_move (x := .osl _ _ _) rfl rfl) trivial ?_
    refine ch_v (R := []) rfl rfl (oc_move (x := .val _) rfl rfl) trivial ?_
    refine ch_v (R := []) rfl rfl (oc_load rfl rfl (by kernel_rfl) cells_str) trivial ?_
    refine ch_v (R := []) rfl rfl (oc_move (x := .val _) rfl rfl) trivial ?_
    refine ch_v (R := []) rfl rfl (oc_move (x := .val _) rfl rfl) trivial ?_
    refine ch_v (R := []) rfl rfl (oc_binZ rfl rfl rfl (by first | exact binW_add (by omega) (by omega) | rfl)) trivial ?_
    refine ch_v (R := []) rfl rfl (OC.cast (oc_substr rfl rfl rfl rfl (by kernel_rfl) (by omega) (by omega) (by omega)) (show Av.val (.string (s.extract (i : Int).toNat ((i : Int) + 1).toNat)) = vs (s.extract i (i + 1)) from by have := ex_nat s i 1; rw [← this]; rfl)) trivial ?_
    refine ch_v (R := []) rfl rfl (oc_call rfl (by kernel_rfl) (cost_pc _ (by rw [h1.1]; omega)) rfl (by simp only [PureL, Pure, and_self, pure_slI, pure_slS, rowAv, pieces_pure, implies_true]) (by simp only [PureL, Pure, and_self, pure_slI, pure_slS, rowAv, pieces_pure, implies_true])) trivial ?_
    refine ch_v (R := []) rfl rfl (oc_move (x := .osl _ _ _) rfl rfl) trivial ?_
    refine ch_v (R := []) rfl rfl (oc_move (x := .val _) rfl rfl) trivial ?_
    refine ch_v (R := []) rfl rfl (oc_binZ rfl rfl rfl (by first | exact binW_add (by omega) (by omega) | rfl)) trivial ?_
    refine ch_v (R := [(_, .live _ _)]) rfl rfl (oc_index_own (j := i + 1) rfl rfl rfl (by kernel_rfl) (by omega) (by omega) (by omega)) ⟨rfl, trivial⟩ ?_
    refine ch_v (R := [(_, .live _ _)]) rfl rfl (oc_load_own (y := vi ((lsA s ab (s.size - (i + 1))).getD (i + 1) 0)) rfl rfl (by kernel_rfl) (vi_at (by rw [hal]; omega))) ⟨rfl, trivial⟩ ?_
    refine ch_v (R := []) rfl rfl (oc_binZ rfl rfl rfl (by first | exact binW_add (by omega) (by omega) | rfl)) trivial ?_
    refine ch_v (R := [(_, .live _ _)]) rfl rfl (oc_index_ownN rfl rfl rfl (by kernel_rfl) (by omega)) ⟨rfl, trivial⟩ ?_
    refine ch_n rfl rfl (oc_store (y := vi (costS (s.extract i (i + 1)) + (lsA s ab (s.size - (i + 1))).getD (i + 1) 0)) (cs' := (lsW s ab i (lsA s ab (s.size - (i + 1))) 0).map vi) rfl rfl rfl (by kernel_rfl) (by kernel_rfl) cells_int (by rw [List.length_map, hal]; omega) (vi_put _ _ _)) ⟨rfl, trivial⟩ ?_
    refine ck_nil ⟨by kernel_rfl, ?_⟩
    refine aw_seq ?_
    refine aw_text rfl ?_
    refine ch_v (R := []) rfl rfl (oc_move (x := .sl _ _ _) rfl rfl) trivial ?_
    refine ch_v (R := []) rfl rfl (oc_len rfl rfl (by kernel_rfl)) trivial ?_
    refine ch_v (R := []) rfl rfl (oc_move (x := .val _) rfl rfl) trivial ?_
    refine ck_nil ?_
    refine aw_block ?_
    refine aw_loop (ι := Nat) (fun k => ⟨[(1, .sl 1 m (fun j => vs (ab.getD j ByteArray.empty))), (2, .ptr (vs s)), (5, .osl 1 0 (s.size + 1)), (6, .osl 1 1 s.size), (7, vi (i : Int)), (48, .sl 1 m (fun j => vs (ab.getD j ByteArray.empty))), (49, vi m), (50, vi k)], [(0, .live 3 ((lsW s ab i (lsA s ab (s.size - (i + 1))) k).map vi)), (1, .live 3 ((byW s ab i (lsA s ab (s.size - (i + 1))) (byA s ab (s.size - (i + 1))) k).map vi)), (2, .unborn), (3, .unborn), (4, .unborn), (5, .unborn)]⟩) (fun k => k ≤ m) (fun k => m - k) 0 (Nat.zero_le _) (Le.sub ⟨.inr rfl, .inr rfl, .inr rfl, .inr rfl, .inr rfl, .inr rfl, .inr rfl, .inr rfl, trivial⟩ ⟨rfl, by rw [byW_zero hbz]; rfl, rfl, rfl, rfl, rfl, trivial⟩) ?_
    intro k hI
    refine aw_seq ?_
    refine aw_text rfl ?_
    refine ch_v (R := []) rfl rfl (oc_binZ rfl rfl rfl rfl) trivial ?_
    refine ck_nil ?_
    refine aw_seq ?_
    refine aw_cond rfl (fun hb => ?_) (fun hb => ?_)
    · have hlt : k < m := by have h0 := of_decide_eq_true hb; omega
      have hk32 : k < 32 := by omega
      have hkb := lsK_bd (s := s) (ab := ab) (i := i) (A := (lsA s ab (s.size - (i + 1)))) (by omega) hbd k
      have hbk := hb2 k
      refine aw_skip ?_
      refine aw_seq ?_
      refine aw_block ?_
      refine aw_seq ?_
      refine aw_text rfl ?_
      refine ch_v (R := []) rfl rfl (oc_move (x := .val _) rfl rfl) trivial ?_
      refine ch_v (R := []) rfl rfl ((by first | exact oc_indexN rfl rfl rfl (by kernel_rfl) (by omega) | exact oc_index rfl rfl rfl (by kernel_rfl) (by omega) (by omega) rfl)) trivial ?_
      refine ch_v (R := []) rfl rfl (oc_load rfl rfl (by kernel_rfl) cells_str) trivial ?_
      refine ch_v (R := []) rfl rfl (oc_assign (x := .val _) rfl rfl) trivial ?_
      refine ch_v (R := []) rfl rfl (oc_assign (x := .val _) rfl rfl) trivial ?_
      refine ck_nil ?_
      refine aw_seq ?_
      refine aw_draw mixed ?_
      refine ch_v (R := []) rfl rfl (oc_move (x := .val _) rfl rfl) trivial ?_
      refine ch_v (R := []) rfl rfl (oc_str_ne rfl rfl rfl) trivial ?_
      refine ch_v (R := []) rfl rfl (oc_move (x := .val _) rfl rfl) trivial ?_
      refine ch_g (R := []) rfl rfl rfl gate_t (fun hC => oc_load rfl rfl (by kernel_rfl) cells_str) (fun hC => ⟨(by first | rfl | exact hC | (simp only [Bool.and_eq_true] at hC; first | exact hC.1 | exact hC.1.1 | exact hC.2) | simp_all), trivial⟩) trivial ?_
      refine ch_g (R := []) rfl rfl rfl gate_t (fun hC => oc_move (x := .val _) rfl rfl) (fun hC => ⟨(by first | rfl | exact hC | (simp only [Bool.and_eq_true] at hC; first | exact hC.1 | exact hC.1.1 | exact hC.2) | simp_all), trivial⟩) trivial ?_
      refine ch_g (R := []) rfl rfl rfl gate_t (fun hC => OC.cast (oc_substr_l rfl rfl rfl (by kernel_rfl) (by omega) (by omega)) (show Av.val (.string (s.extract (i : Int).toNat s.size)) = vs (s.extract i s.size) from by rw [Int.toNat_natCast])) (fun hC => ⟨(by first | rfl | exact hC | (simp only [Bool.and_eq_true] at hC; first | exact hC.1 | exact hC.1.1 | exact hC.2) | simp_all), (by first | rfl | exact hC | (simp only [Bool.and_eq_true] at hC; first | exact hC.1 | exact hC.1.1 | exact hC.2) | simp_all), trivial⟩) trivial ?_
      refine ch_g (R := []) rfl rfl rfl gate_t (fun hC => oc_move (x := .val _) rfl rfl) (fun hC => ⟨(by first | rfl | exact hC | (simp only [Bool.and_eq_true] at hC; first | exact hC.1 | exact hC.1.1 | exact hC.2) | simp_all), trivial⟩) trivial ?_
      refine ch_g (R := []) rfl rfl rfl gate_t (fun hC => oc_call rfl (by kernel_rfl) (hasPrefix_pc (s.extract i s.size) (ab.getD k ByteArray.empty)) rfl (by simp only [PureL, Pure, and_self, pure_slI, pure_slS, rowAv, pieces_pure, implies_true]) (by simp only [PureL, Pure, and_self, pure_slI, pure_slS, rowAv, pieces_pure, implies_true])) (fun hC => ⟨(by first | rfl | exact hC | (simp only [Bool.and_eq_true] at hC; first | exact hC.1 | exact hC.1.1 | exact hC.2) | simp_all), (by first | rfl | exact hC | (simp only [Bool.and_eq_true] at hC; first | exact hC.1 | exact hC.1.1 | exact hC.2) | simp_all), (by first | rfl | exact hC | (simp only [Bool.and_eq_true] at hC; first | exact hC.1 | exact hC.1.1 | exact hC.2) | simp_all), trivial⟩) trivial ?_
      refine ch_v (R := []) rfl rfl (oc_and rfl rfl rfl rfl (by first | exact fun h => h | simp_all)) trivial ?_
      refine ch_v (R := []) rfl rfl (oc_move (x := .val _) rfl rfl) trivial ?_
      refine ch_g (R := []) rfl rfl rfl gate_t (fun hC => oc_move (x := .osl _ _ _) rfl rfl) (fun hC => ⟨(by first | rfl | exact hC | (simp only [Bool.and_eq_true] at hC; first | exact hC.1 | exact hC.1.1 | exact hC.2) | simp_all), trivial⟩) trivial ?_
      refine ch_g (R := []) rfl rfl rfl gate_t (fun hC => oc_move (x := .val _) rfl rfl) (fun hC => ⟨(by first | rfl | exact hC | (simp only [Bool.and_eq_true] at hC; first | exact hC.1 | exact hC.1.1 | exact hC.2) | simp_all), trivial⟩) trivial ?_
      refine ch_g (R := []) rfl rfl rfl gate_t (fun hC => oc_move (x := .val _) rfl rfl) (fun hC => ⟨(by first | rfl | exact hC | (simp only [Bool.and_eq_true] at hC; first | exact hC.1 | exact hC.1.1 | exact hC.2) | simp_all), trivial⟩) trivial ?_
      refine ch_g (R := []) rfl rfl rfl gate_t (fun hC => oc_len_str rfl rfl (by kernel_rfl)) (fun hC => ⟨(by first | rfl | exact hC | (simp only [Bool.and_eq_true] at hC; first | exact hC.1 | exact hC.1.1 | exact hC.2) | simp_all), trivial⟩) trivial ?_
      refine ch_g (R := []) rfl rfl rfl gate_t (fun hC => oc_binZ rfl rfl rfl (by first | exact binW_add (by omega) (by omega) | rfl)) (fun hC => ⟨(by first | rfl | exact hC | (simp only [Bool.and_eq_true] at hC; first | exact hC.1 | exact hC.1.1 | exact hC.2) | simp_all), (by first | rfl | exact hC | (simp only [Bool.and_eq_true] at hC; first | exact hC.1 | exact hC.1.1 | exact hC.2) | simp_all), trivial⟩) trivial ?_
      refine ch_g (R := [(_, .live _ _)]) rfl rfl rfl gate_t (fun hC => by
            have hfit : fitsB s i ab k = true := by rw [← cut_fit (by omega) hk32]; exact hC
            have hf := fits_in hfit
            exact oc_index_own (t := 3) (cs := (lsW s ab i (lsA s ab (s.size - (i + 1))) k).map vi) (j := i + (ab.getD k ByteArray.empty).size) rfl rfl rfl (by kernel_rfl) (by omega) (by omega) (by omega)) (fun hC => ⟨(by first | rfl | exact hC | (simp only [Bool.and_eq_true] at hC; first | exact hC.1 | exact hC.1.1 | exact hC.2) | simp_all), (by first | rfl | exact hC | (simp only [Bool.and_eq_true] at hC; first | exact hC.1 | exact hC.1.1 | exact hC.2) | simp_all), trivial⟩) ⟨rfl, trivial⟩ ?_
      refine ch_g (R := [(_, .live _ _)]) rfl rfl rfl gate_t (fun hC => by
            have hfit : fitsB s i ab k = true := by rw [← cut_fit (by omega) hk32]; exact hC
            have hf := fits_in hfit
            have hat : (lsW s ab i (lsA s ab (s.size - (i + 1))) k).getD (i + (ab.getD k ByteArray.empty).size) 0 = (lsA s ab (s.size - (i + 1))).getD (i + (ab.getD k ByteArray.empty).size) 0 := by rw [lsW_at (by omega), if_neg (by omega)]
            exact oc_load_own (t := 3) (cs := (lsW s ab i (lsA s ab (s.size - (i + 1))) k).map vi) (y := vi ((lsA s ab (s.size - (i + 1))).getD (i + (ab.getD k ByteArray.empty).size) 0)) rfl rfl (by kernel_rfl) (by rw [← hat]; exact vi_at (by rw [lsW_len, lsA_len]; omega))) (fun hC => ⟨(by first | rfl | exact hC | (simp only [Bool.and_eq_true] at hC; first | exact hC.1 | exact hC.1.1 | exact hC.2) | simp_all), trivial⟩) ⟨rfl, trivial⟩ ?_
      refine ch_g (R := []) rfl rfl rfl gate_t (fun hC => by
            have hbj := hbd (i + (ab.getD k ByteArray.empty).size)
            exact oc_binZ rfl rfl rfl (by first | exact binW_add (by omega) (by omega) | rfl)) (fun hC => ⟨(by first | rfl | exact hC | (simp only [Bool.and_eq_true] at hC; first | exact hC.1 | exact hC.1.1 | exact hC.2) | simp_all), (by first | rfl | exact hC | (simp only [Bool.and_eq_true] at hC; first | exact hC.1 | exact hC.1.1 | exact hC.2) | simp_all), trivial⟩) trivial ?_
      refine ch_g (R := []) rfl rfl rfl gate_t (fun hC => oc_move (x := .osl _ _ _) rfl rfl) (fun hC => ⟨(by first | rfl | exact hC | (simp only [Bool.and_eq_true] at hC; first | exact hC.1 | exact hC.1.1 | exact hC.2) | simp_all), trivial⟩) trivial ?_
      refine ch_g (R := []) rfl rfl rfl gate_t (fun hC => oc_move (x := .val _) rfl rfl) (fun hC => ⟨(by first | rfl | exact hC | (simp only [Bool.and_eq_true] at hC; first | exact hC.1 | exact hC.1.1 | exact hC.2) | simp_all), trivial⟩) trivial ?_
      refine ch_g (R := [(_, .live _ _)]) rfl rfl rfl gate_t (fun hC => oc_index_ownN rfl rfl rfl (by kernel_rfl) (by omega)) (fun hC => ⟨(by first | rfl | exact hC | (simp only [Bool.and_eq_true] at hC; first | exact hC.1 | exact hC.1.1 | exact hC.2) | simp_all), (by first | rfl | exact hC | (simp only [Bool.and_eq_true] at hC; first | exact hC.1 | exact hC.1.1 | exact hC.2) | simp_all), trivial⟩) ⟨rfl, trivial⟩ ?_
      refine ch_g (R := [(_, .live _ _)]) rfl rfl rfl gate_t (fun hC => by
            have hat : (lsW s ab i (lsA s ab (s.size - (i + 1))) k).getD i 0 = lsK s ab i (lsA s ab (s.size - (i + 1))) k := by rw [lsW_at (by omega), if_pos rfl]
            exact oc_load_own (t := 3) (cs := (lsW s ab i (lsA s ab (s.size - (i + 1))) k).map vi) (y := vi (lsK s ab i (lsA s ab (s.size - (i + 1))) k)) rfl rfl (by kernel_rfl) (by rw [← hat]; exact vi_at (by rw [lsW_len, lsA_len]; omega))) (fun hC => ⟨(by first | rfl | exact hC | (simp only [Bool.and_eq_true] at hC; first | exact hC.1 | exact hC.1.1 | exact hC.2) | simp_all), trivial⟩) ⟨rfl, trivial⟩ ?_
      refine ch_g (R := []) rfl rfl rfl gate_t (fun hC => oc_binZ rfl rfl rfl rfl) (fun hC => ⟨(by first | rfl | exact hC | (simp only [Bool.and_eq_true] at hC; first | exact hC.1 | exact hC.1.1 | exact hC.2) | simp_all), (by first | rfl | exact hC | (simp only [Bool.and_eq_true] at hC; first | exact hC.1 | exact hC.1.1 | exact hC.2) | simp_all), trivial⟩) trivial ?_
      refine ch_v (R := []) rfl rfl (oc_and rfl rfl rfl rfl (by first | exact fun h => h | simp_all)) trivial ?_
      refine ck_nil ⟨by kernel_rfl, ?_⟩
      refine aw_cond rfl (fun hb => ?_) (fun hb => ?_)
      · rw [cut_fit (by omega) hk32] at hb
        have hq := hb
        simp only [Bool.and_eq_true, decide_eq_true_eq] at hq
        have hf := fits_in hq.1
        have hbj := hbd (i + (ab.getD k ByteArray.empty).size)
        have hat : (lsW s ab i (lsA s ab (s.size - (i + 1))) k).getD (i + (ab.getD k ByteArray.empty).size) 0 = (lsA s ab (s.size - (i + 1))).getD (i + (ab.getD k ByteArray.empty).size) 0 := by rw [lsW_at (by omega), if_neg (by omega)]
        have hsk : lsK s ab i (lsA s ab (s.size - (i + 1))) (k + 1) = 2 + (lsA s ab (s.size - (i + 1))).getD (i + (ab.getD k ByteArray.empty).size) 0 := by show (if _ then _ else _) = _; rw [if_pos ⟨hq.1, hq.2⟩]
        have hst : lsW s ab i (lsA s ab (s.size - (i + 1))) (k + 1) = (lsW s ab i (lsA s ab (s.size - (i + 1))) k).set i (2 + (lsA s ab (s.size - (i + 1))).getD (i + (ab.getD k ByteArray.empty).size) 0) := by rw [← hsk, lsW_put]
        have hsv : byW s ab i (lsA s ab (s.size - (i + 1))) (byA s ab (s.size - (i + 1))) (k + 1) = (byW s ab i (lsA s ab (s.size - (i + 1))) (byA s ab (s.size - (i + 1))) k).set i ((k : Int) + 1) := by
          rw [← byW_put]
          congr 1
          show ((if _ then k + 1 else _ : Nat) : Int) = _
          rw [if_pos ⟨hq.1, hq.2⟩]
          rfl
        refine aw_text rfl ?_
        refine ch_v (R := []) rfl rfl (oc_move (x := .osl _ _ _) rfl rfl) trivial ?_
        refine ch_v (R := []) rfl rfl (oc_move (x := .val _) rfl rfl) trivial ?_
        refine ch_v (R := []) rfl rfl (oc_move (x := .osl _ _ _) rfl rfl) trivial ?_
        refine ch_v (R := []) rfl rfl (oc_move (x := .val _) rfl rfl) trivial ?_
        refine ch_v (R := []) rfl rfl (oc_move (x := .osl _ _ _) rfl rfl) trivial ?_
        refine ch_v (R := []) rfl rfl (oc_move (x := .val _) rfl rfl) trivial ?_
        refine ch_v (R := []) rfl rfl (oc_move (x := .val _) rfl rfl) trivial ?_
        refine ch_v (R := []) rfl rfl (oc_len_str rfl rfl (by kernel_rfl)) trivial ?_
        refine ch_v (R := []) rfl rfl (oc_binZ rfl rfl rfl (by first | exact binW_add (by omega) (by omega) | rfl)) trivial ?_
        refine ch_v (R := [(_, .live _ _)]) rfl rfl (oc_index_own (j := i + (ab.getD k ByteArray.empty).size) rfl rfl rfl (by kernel_rfl) (by omega) (by omega) (by omega)) ⟨rfl, trivial⟩ ?_
        refine ch_v (R := [(_, .live _ _)]) rfl rfl (oc_load_own (t := 3) (cs := (lsW s ab i (lsA s ab (s.size - (i + 1))) k).map vi) (y := vi ((lsA s ab (s.size - (i + 1))).getD (i + (ab.getD k ByteArray.empty).size) 0)) rfl rfl (by kernel_rfl) (by rw [← hat]; exact vi_at (by rw [lsW_len, lsA_len]; omega))) ⟨rfl, trivial⟩ ?_
        refine ch_v (R := []) rfl rfl (oc_binZ rfl rfl rfl (by first | exact binW_add (by omega) (by omega) | rfl)) trivial ?_
        refine ch_v (R := []) rfl rfl (oc_move (x := .val _) rfl rfl) trivial ?_
        refine ch_v (R := []) rfl rfl (oc_binZ rfl rfl rfl (by first | exact binW_add (by omega) (by omega) | rfl)) trivial ?_
        refine ch_v (R := [(_, .live _ _)]) rfl rfl (oc_index_ownN rfl rfl rfl (by kernel_rfl) (by omega)) ⟨rfl, trivial⟩ ?_
        refine ch_n rfl rfl (oc_store (y := vi (2 + (lsA s ab (s.size - (i + 1))).getD (i + (ab.getD k ByteArray.empty).size) 0)) (cs' := ((lsW s ab i (lsA s ab (s.size - (i + 1))) k).set i (2 + (lsA s ab (s.size - (i + 1))).getD (i + (ab.getD k ByteArray.empty).size) 0)).map vi) rfl rfl rfl (by kernel_rfl) (by kernel_rfl) cells_int (by rw [List.length_map, lsW_len, hal]; omega) (vi_put _ _ _)) ⟨rfl, trivial⟩ ?_
        refine ch_v (R := [(_, .live _ _)]) rfl rfl (oc_index_ownN rfl rfl rfl (by kernel_rfl) (by omega)) ⟨rfl, trivial⟩ ?_
        refine ch_n rfl rfl (oc_store (y := vi ((k : Int) + 1)) (cs' := ((byW s ab i (lsA s ab (s.size - (i + 1))) (byA s ab (s.size - (i + 1))) k).set i ((k : Int) + 1)).map vi) rfl rfl rfl (by kernel_rfl) (by kernel_rfl) cells_int (by rw [List.length_map, byW_len, hbl2]; omega) (vi_put _ _ _)) ⟨rfl, trivial⟩ ?_
        refine ck_nil ?_
        refine aw_text rfl ?_
        refine ch_v (R := []) rfl rfl (oc_binZ rfl rfl rfl (by first | exact binW_add (by omega) (by omega) | rfl)) trivial ?_
        refine ch_v (R := []) rfl rfl (oc_move (x := .val _) rfl rfl) trivial ?_
        refine ck_nil ?_
        exact ⟨k + 1, by omega, by omega, Le.sub ⟨.inr rfl, .inr rfl, .inr rfl, .inr rfl, .inr rfl, .inr rfl, .inr rfl, .inr (vi_eq (by omega)), trivial⟩ ⟨by rw [← hst]; rfl, by rw [← hsv]; rfl, rfl, rfl, rfl, rfl, trivial⟩⟩
      · rw [cut_fit (by omega) hk32] at hb
        have hnb : ¬ (fitsB s i ab k = true ∧ 2 + (lsA s ab (s.size - (i + 1))).getD (i + (ab.getD k ByteArray.empty).size) 0 < lsK s ab i (lsA s ab (s.size - (i + 1))) k) := fun hc => by rw [Bool.and_eq_false_iff, decide_eq_false_iff_not] at hb; rcases hb with hb | hb; (rw [hc.1] at hb; cases hb); exact hb hc.2
        have hst : lsW s ab i (lsA s ab (s.size - (i + 1))) (k + 1) = lsW s ab i (lsA s ab (s.size - (i + 1))) k := by
          have hsk : lsK s ab i (lsA s ab (s.size - (i + 1))) (k + 1) = lsK s ab i (lsA s ab (s.size - (i + 1))) k := by
            show (if _ then _ else _) = _
            rw [if_neg hnb]
          unfold lsW
          rw [hsk]
        have hsv : byW s ab i (lsA s ab (s.size - (i + 1))) (byA s ab (s.size - (i + 1))) (k + 1) = (byW s ab i (lsA s ab (s.size - (i + 1))) (byA s ab (s.size - (i + 1))) k) := by
          have hsk : tkK s ab i (lsA s ab (s.size - (i + 1))) (k + 1) = tkK s ab i (lsA s ab (s.size - (i + 1))) k := by
            show (if _ then _ else _) = _
            rw [if_neg hnb]
          unfold byW
          rw [hsk]
        refine aw_skip ?_
        refine aw_text rfl ?_
        refine ch_v (R := []) rfl rfl (oc_binZ rfl rfl rfl (by first | exact binW_add (by omega) (by omega) | rfl)) trivial ?_
        refine ch_v (R := []) rfl rfl (oc_move (x := .val _) rfl rfl) trivial ?_
        refine ck_nil ?_
        exact ⟨k + 1, by omega, by omega, Le.sub ⟨.inr rfl, .inr rfl, .inr rfl, .inr rfl, .inr rfl, .inr rfl, .inr rfl, .inr (vi_eq (by omega)), trivial⟩ ⟨by rw [← hst]; rfl, by rw [← hsv]; rfl, rfl, rfl, rfl, rfl, trivial⟩⟩
    · have hke : k = m := by have h0 := of_decide_eq_false hb; omega
      have hfin1 : lsA s ab (s.size - i) = lsW s ab i (lsA s ab (s.size - (i + 1))) m := by rw [lsA_step (by omega)]; unfold lsW; rw [lsK_m hm]
      have hfin2 : byA s ab (s.size - i) = byW s ab i (lsA s ab (s.size - (i + 1))) (byA s ab (s.size - (i + 1))) m := by rw [byA_step (by omega)]; unfold byW; rw [tkK_m hm]
      refine aw_exit ?_
      refine aw_text rfl ?_
      refine ch_v (R := []) rfl rfl (oc_move (x := .val _) rfl rfl) trivial ?_
      refine ch_v (R := []) rfl rfl (oc_binZ rfl rfl rfl (by first | exact binW_sub (by omega) (by omega) | rfl)) trivial ?_
      refine ch_v (R := []) rfl rfl (oc_assign (x := .val _) rfl rfl) trivial ?_
      refine ck_nil ?_
      exact ⟨i, by omega, by omega, Le.sub ⟨.inr rfl, .inr rfl, .inr rfl, .inr rfl, .inr (vi_eq (by omega)), trivial⟩ ⟨by rw [hfin1, ← hke]; rfl, by rw [hfin2, ← hke]; rfl, rfl, rfl, rfl, rfl, trivial⟩⟩
  · have hd0 : d = 0 := by have h0 := of_decide_eq_false hb; omega
    subst hd0
    refine aw_exit ?_
    refine aw_seq ?_
    refine aw_le (Le.freeze 6 1 (fun j => vi (tkL s ab j : Int)) rfl rfl (by rw [List.length_map, byA_len]) (fun j hj => row_by s ab j hj)) ?_
    refine aw_text rfl ?_
    refine ch_u rfl rfl (oc_alloc (zs := [.slice none 0 0]) (cs := [.val _]) 2 rfl (by kernel_rfl) rfl rfl) ⟨rfl, trivial⟩ ?_
    refine ck_nil ?_
    refine aw_seq ?_
    refine aw_text rfl ?_
    refine ch_u rfl rfl (oc_alloc (zs := [.int .i64 0]) (cs := [.val _]) 3 rfl (by kernel_rfl) rfl rfl) ⟨rfl, trivial⟩ ?_
    refine ch_n rfl rfl (oc_store (y := .val _) (cs' := [_]) rfl rfl rfl (by kernel_rfl) (by kernel_rfl) (fun E v h => by unfold Rep at h; subst h; rfl) (by first | decide | (simp; done) | (simp; omega)) rfl) ⟨rfl, trivial⟩ ?_
    refine ck_nil ?_
    refine aw_seq ?_
    refine aw_text rfl ?_
    refine ch_v (R := []) rfl rfl (oc_makeFunc (cs := [.own _ _, .own _ _, .ptr _]) rfl rfl) trivial ?_
    refine ch_v (R := []) rfl rfl (oc_assign (x := .clo _ _) rfl rfl) trivial ?_
    refine ck_nil ?_
    refine aw_seq ?_
    refine aw_seq ?_
    refine aw_text rfl ?_
    refine ch_v (R := []) rfl rfl (oc_assign (x := .val _) rfl rfl) trivial ?_
    refine ck_nil ?_
    refine aw_block ?_
    refine aw_le (Le.nameNilCell 2 0 4 2 58 rfl rfl rfl (by decide)) ?_
    refine aw_loop (ι := CtSt) (fun q => ⟨[(1, .sl 1 m (fun j => vs (ab.getD j ByteArray.empty))), (2, .ptr (vs s)), (6, .sl 1 s.size (fun j => vi (tkL s ab j : Int))), (10, .own 2 0), (11, .own 3 0), (12, .clo 38 [.own 3 0, .own 2 0, .ptr (vs s)]), (13, vi q.1)], [(2, .live 39 [.osl 2 4 (q.2.2).length]), (3, .live 3 [vi (q.2.1 : Int)]), (4, .live 58 (pcs (q.2.2))), (5, .unborn)]⟩) (fun q => q.1 ≤ s.size ∧ q.2.1 ≤ q.1 ∧ q.2.2.length ≤ 2 * q.1 ∧ ∃ f, s.size < f + q.1 ∧ cutP s ab = cutF s ab f q.1 q.2.1 q.2.2) (fun q => s.size - q.1) (0, 0, []) (⟨Nat.zero_le _, Nat.le_refl _, Nat.zero_le _, s.size + 1, by omega, rfl⟩) (Le.sub ⟨.inr rfl, .inr rfl, .inr rfl, .inr rfl, .inr rfl, .inr rfl, .inr rfl, trivial⟩ ⟨rfl, rfl, rfl, rfl, trivial⟩) ?_
    intro q hI
    obtain ⟨hi1, hi2, hi3, f, hf, hcut⟩ := hI
    refine aw_seq ?_
    refine aw_seq ?_
    refine aw_text rfl ?_
    refine ch_v (R := []) rfl rfl (oc_move (x := .val _) rfl rfl) trivial ?_
    refine ch_v (R := []) rfl rfl (oc_load rfl rfl (by kernel_rfl) cells_str) trivial ?_
    refine ch_v (R := []) rfl rfl (oc_len_str rfl rfl (by kernel_rfl)) trivial ?_
    refine ch_v (R := []) rfl rfl (oc_binZ rfl rfl rfl rfl) trivial ?_
    refine ck_nil ?_
    refine aw_cond rfl (fun hb => ?_) (fun hb => ?_)
    · have hlt : q.1 < s.size := by have h0 := of_decide_eq_true hb; omega
      obtain ⟨f, rfl⟩ : ∃ g, f = g + 1 := ⟨f - 1, by omega⟩
      refine aw_skip ?_
      refine aw_block ?_
      refine aw_seq ?_
      refine aw_seq ?_
      refine aw_text rfl ?_
      refine ch_v (R := []) rfl rfl (oc_move (x := .sl _ _ _) rfl rfl) trivial ?_
      refine ch_v (R := []) rfl rfl (oc_move (x := .val _) rfl rfl) trivial ?_
      refine ch_v (R := []) rfl rfl (oc_indexN (j := q.1) rfl rfl rfl (by kernel_rfl) (by omega)) trivial ?_
      refine ch_v (R := []) rfl rfl (oc_load rfl rfl (by kernel_rfl) cells_int) trivial ?_
      refine ch_v (R := []) rfl rfl (oc_binZ rfl rfl rfl rfl) trivial ?_
      refine ck_nil ?_
      refine aw_cond rfl (fun hb => ?_) (fun hb => ?_)
      · have htk : tkL s ab q.1 = 0 := by (have h0 : (tkL s ab q.1 : Int) = 0 := by simpa using hb); omega
        refine aw_seq ?_
        refine aw_text rfl ?_
        refine ch_v (R := []) rfl rfl (oc_move (x := .val _) rfl rfl) trivial ?_
        refine ch_v (R := []) rfl rfl (oc_binZ rfl rfl rfl (by first | exact binW_add (by omega) (by omega) | rfl)) trivial ?_
        refine ch_v (R := []) rfl rfl (oc_assign (x := .val _) rfl rfl) trivial ?_
        refine ck_nil ?_
        refine aw_exit ?_
        exact ⟨(q.1 + 1, q.2.1, q.2.2), ⟨by show q.1 + 1 ≤ _; omega, by show q.2.1 ≤ q.1 + 1; omega, by show q.2.2.length ≤ 2 * (q.1 + 1); omega, f, by show _ < f + (q.1 + 1); omega, by rw [hcut]; show (if _ then _ else _) = _; rw [if_pos hlt, if_pos htk]⟩, by show s.size - (q.1 + 1) < _; omega, Le.sub ⟨.inr rfl, .inr rfl, .inr rfl, .inr rfl, .inr rfl, .inr rfl, .inr (vi_eq (by show (q.1 : Int) + 1 = ((q.1 + 1 : Nat) : Int); omega)), trivial⟩ ⟨rfl, rfl, rfl, rfl, trivial⟩⟩
      · have htk : ¬ tkL s ab q.1 = 0 := by (have h0 : ¬ (tkL s ab q.1 : Int) = 0 := by simpa using hb); omega
        obtain ⟨g1, g2, _⟩ := tk_first hlt htk
        have hft := fits_in g1
        have hfl := flush_len s q.2.1 q.1 q.2.2
        refine aw_skip ?_
        refine aw_seq ?_
        refine aw_text rfl ?_
        refine ch_v (R := []) rfl rfl (oc_move (x := .clo _ _) rfl rfl) trivial ?_
        refine ch_v (R := []) rfl rfl (oc_move (x := .val _) rfl rfl) trivial ?_
        refine ch_u rfl rfl (oc_callCloFC [5] rfl rfl (by kernel_rfl) (cut1_fcm s q.2.1 q.1 q.2.2 hs hi2 hi1 (by omega)) rfl (by simp) (by simp [bornH]) (by simp) (by simp) (by simp [InNL, InN]) ⟨by simp [InH, InNL, InN], by simp [InH, InNL, InN], inNL_pcs _, trivial⟩ (by simp [InN, InNL]) ⟨by simp [InH, InNL, InN], by simp [InH, InNL, InN], inNL_pcs _, trivial⟩) ⟨rfl, rfl, rfl, rfl, trivial⟩ ?_
        refine ck_nil ?_
        refine aw_le (Le.trans (Le.swap (τ := ⟨[(1, .sl 1 m (fun j => vs (ab.getD j ByteArray.empty))), (2, .ptr (vs s)), (6, .sl 1 s.size (fun j => vi (tkL s ab j : Int))), (10, .own 2 0), (11, .own 3 0), (12, .clo 38 [.own 3 0, .own 2 0, .ptr (vs s)]), (13, vi q.1)], [(2, .live 39 [.osl 2 4 ((flushP s q.2.1 q.1 q.2.2)).length]), (3, .live 3 [vi (q.2.1 : Int)]), (4, .live 58 (pcs ((flushP s q.2.1 q.1 q.2.2)))), (5, .dead)]⟩) 4 5 (by simp) (by simp) ⟨(ren_pure _ _ (pure_row ab m)).symm, rfl, (ren_pure _ _ (pure_tk s ab)).symm, rfl, rfl, rfl, rfl, trivial⟩ ⟨rfl, rfl, by show lkH _ 5 = some (Hs.live _ ((pcs ((flushP s q.2.1 q.1 q.2.2))).map _)); rw [ren_pcs]; rfl, rfl, trivial⟩) (Le.reset (τ := ⟨[(1, .sl 1 m (fun j => vs (ab.getD j ByteArray.empty))), (2, .ptr (vs s)), (6, .sl 1 s.size (fun j => vi (tkL s ab j : Int))), (10, .own 2 0), (11, .own 3 0), (12, .clo 38 [.own 3 0, .own 2 0, .ptr (vs s)]), (13, vi q.1)], [(2, .live 39 [.osl 2 4 ((flushP s q.2.1 q.1 q.2.2)).length]), (3, .live 3 [vi (q.2.1 : Int)]), (4, .live 58 (pcs ((flushP s q.2.1 q.1 q.2.2)))), (5, .unborn)]⟩) [5] (by simp) ⟨.inr rfl, .inr rfl, .inr rfl, .inr rfl, .inr rfl, .inr rfl, .inr rfl, trivial⟩ ⟨NoN.of_pure _ (pure_row ab m), by simp [NoN], NoN.of_pure _ (pure_tk s ab), by simp [NoN], by simp [NoN], by simp [NoN, NoNL], by simp [NoN], trivial⟩ ⟨by rw [if_neg (by decide)]; exact ⟨rfl, by simp [NoN]⟩, by rw [if_neg (by decide)]; exact ⟨rfl, by simp [NoN]⟩, by rw [if_neg (by decide)]; exact ⟨rfl, non_pcs _⟩, by rw [if_pos (by decide)], trivial⟩)) ?_
        refine aw_seq ?_
        refine aw_draw mixed ?_
        refine ch_v (R := [(_, .live _ _)]) rfl rfl (oc_load_own rfl rfl (by kernel_rfl) rfl) ⟨rfl, trivial⟩ ?_
        refine ch_v (R := []) rfl rfl (oc_move (x := .sl _ _ _) rfl rfl) trivial ?_
        refine ch_v (R := []) rfl rfl (oc_move (x := .val _) rfl rfl) trivial ?_
        refine ch_v (R := []) rfl rfl (oc_indexN (j := q.1) rfl rfl rfl (by kernel_rfl) (by omega)) trivial ?_
        refine ch_v (R := []) rfl rfl (oc_load rfl rfl (by kernel_rfl) cells_int) trivial ?_
        refine ch_v (R := []) rfl rfl (oc_build (pl := [(0, 1), (1, 1)]) (zs := [.string ⟨#[]⟩, .int .i64 0]) (ds := [.val _, .val _]) rfl (by kernel_rfl) rfl (by kernel_rfl) (by first | rfl | decide) rfl) trivial ?_
        refine ch_v (R := []) rfl rfl (oc_buildSlice (ps := [.tmp 116]) (xs := [.agg _]) (e := 58) (k := 2) (by_ := 24) (zs := [.string ⟨#[]⟩, .int .i64 0]) rfl (by kernel_rfl) (by kernel_rfl) rfl rfl rfl (by decide) (by decide)) trivial ?_
        refine ch_u rfl rfl (oc_append (e := 58) (k := 2) (by_ := 24) (zs := [.string ⟨#[]⟩, .int .i64 0]) (cs := pcs (flushP s q.2.1 q.1 q.2.2)) (ds := [vs ((⟨#[]⟩ : ByteArray), (tkL s ab q.1 : Int)).1, vi ((⟨#[]⟩ : ByteArray), (tkL s ab q.1 : Int)).2]) 5 rfl rfl rfl (by kernel_rfl) (by kernel_rfl) rfl (by decide) (by decide) (pcs_len _) rfl (app_piece ((⟨#[]⟩ : ByteArray), (tkL s ab q.1 : Int))) (by omega) (by omega)) ⟨rfl, rfl, trivial⟩ ?_
        refine ch_n rfl rfl (oc_store (y := .osl _ _ _) (cs' := [_]) rfl rfl rfl (by kernel_rfl) (by kernel_rfl) cells_osl (by first | decide | (simp; done) | (simp; omega)) rfl) ⟨rfl, trivial⟩ ?_
        refine ck_nil ⟨by kernel_rfl, ?_⟩
        refine aw_le (Le.trans (Le.swap (τ := ⟨[(1, .sl 1 m (fun j => vs (ab.getD j ByteArray.empty))), (2, .ptr (vs s)), (6, .sl 1 s.size (fun j => vi (tkL s ab j : Int))), (10, .own 2 0), (11, .own 3 0), (12, .clo 38 [.own 3 0, .own 2 0, .ptr (vs s)]), (13, vi q.1)], [(2, .live 39 [.osl 2 4 ((flushP s q.2.1 q.1 q.2.2) ++ [((⟨#[]⟩ : ByteArray), (tkL s ab q.1 : Int))]).length]), (3, .live 3 [vi (q.2.1 : Int)]), (4, .live 58 (pcs ((flushP s q.2.1 q.1 q.2.2) ++ [((⟨#[]⟩ : ByteArray), (tkL s ab q.1 : Int))]))), (5, .dead)]⟩) 4 5 (by simp) (by simp) ⟨(ren_pure _ _ (pure_row ab m)).symm, rfl, (ren_pure _ _ (pure_tk s ab)).symm, rfl, rfl, rfl, rfl, trivial⟩ ⟨by rw [List.length_append]; rfl, rfl, by show lkH _ 5 = some (Hs.live _ ((pcs ((flushP s q.2.1 q.1 q.2.2) ++ [((⟨#[]⟩ : ByteArray), (tkL s ab q.1 : Int))])).map _)); rw [ren_pcs, pcs_app]; rfl, rfl, trivial⟩) (Le.reset (τ := ⟨[(1, .sl 1 m (fun j => vs (ab.getD j ByteArray.empty))), (2, .ptr (vs s)), (6, .sl 1 s.size (fun j => vi (tkL s ab j : Int))), (10, .own 2 0), (11, .own 3 0), (12, .clo 38 [.own 3 0, .own 2 0, .ptr (vs s)]), (13, vi q.1)], [(2, .live 39 [.osl 2 4 ((flushP s q.2.1 q.1 q.2.2) ++ [((⟨#[]⟩ : ByteArray), (tkL s ab q.1 : Int))]).length]), (3, .live 3 [vi (q.2.1 : Int)]), (4, .live 58 (pcs ((flushP s q.2.1 q.1 q.2.2) ++ [((⟨#[]⟩ : ByteArray), (tkL s ab q.1 : Int))]))), (5, .unborn)]⟩) [5] (by simp) ⟨.inr rfl, .inr rfl, .inr rfl, .inr rfl, .inr rfl, .inr rfl, .inr rfl, trivial⟩ ⟨NoN.of_pure _ (pure_row ab m), by simp [NoN], NoN.of_pure _ (pure_tk s ab), by simp [NoN], by simp [NoN], by simp [NoN, NoNL], by simp [NoN], trivial⟩ ⟨by rw [if_neg (by decide)]; exact ⟨rfl, by simp [NoN]⟩, by rw [if_neg (by decide)]; exact ⟨rfl, by simp [NoN]⟩, by rw [if_neg (by decide)]; exact ⟨rfl, non_pcs _⟩, by rw [if_pos (by decide)], trivial⟩)) ?_
        refine aw_seq ?_
        refine aw_text rfl ?_
        refine ch_v (R := []) rfl rfl (oc_move (x := .val _) rfl rfl) trivial ?_
        refine ch_v (R := []) rfl rfl (oc_move (x := .sl _ _ _) rfl rfl) trivial ?_
        refine ch_v (R := []) rfl rfl (oc_move (x := .sl _ _ _) rfl rfl) trivial ?_
        refine ch_v (R := []) rfl rfl (oc_move (x := .val _) rfl rfl) trivial ?_
        refine ch_v (R := []) rfl rfl (oc_indexN (j := q.1) rfl rfl rfl (by kernel_rfl) (by omega)) trivial ?_
        refine ch_v (R := []) rfl rfl (oc_load rfl rfl (by kernel_rfl) cells_int) trivial ?_
        refine ch_v (R := []) rfl rfl (oc_binZ rfl rfl rfl (by first | exact binW_sub (by omega) (by omega) | rfl)) trivial ?_
        refine ch_v (R := []) rfl rfl (oc_index (j := tkL s ab q.1 - 1) rfl rfl rfl (by kernel_rfl) (by omega) (by omega) (by omega)) trivial ?_
        refine ch_v (R := []) rfl rfl (oc_load rfl rfl (by kernel_rfl) cells_str) trivial ?_
        refine ch_v (R := []) rfl rfl (oc_len_str rfl rfl (by kernel_rfl)) trivial ?_
        refine ch_v (R := []) rfl rfl (oc_binZ rfl rfl rfl (by first | exact binW_add (by omega) (by omega) | rfl)) trivial ?_
        refine ch_v (R := []) rfl rfl (oc_assign (x := .val _) rfl rfl) trivial ?_
        refine ck_nil ?_
        refine aw_text rfl ?_
        refine ch_v (R := []) rfl rfl (oc_move (x := .val _) rfl rfl) trivial ?_
        refine ch_n rfl rfl (oc_store (y := .val _) (cs' := [_]) rfl rfl rfl (by kernel_rfl) (by kernel_rfl) (by first | exact cells_int | exact cells_any) (by first | decide | (simp; done) | (simp; omega)) rfl) ⟨rfl, trivial⟩ ?_
        refine ck_nil ?_
        exact ⟨(q.1 + (ab.getD (tkL s ab q.1 - 1) ByteArray.empty).size, q.1 + (ab.getD (tkL s ab q.1 - 1) ByteArray.empty).size, (flushP s q.2.1 q.1 q.2.2) ++ [((⟨#[]⟩ : ByteArray), (tkL s ab q.1 : Int))]), ⟨by show q.1 + (ab.getD (tkL s ab q.1 - 1) ByteArray.empty).size ≤ _; omega, Nat.le_refl _, by show ((flushP s q.2.1 q.1 q.2.2) ++ [_]).length ≤ 2 * (q.1 + (ab.getD (tkL s ab q.1 - 1) ByteArray.empty).size); rw [List.length_append]; show (flushP s q.2.1 q.1 q.2.2).length + 1 ≤ _; omega, f, by show _ < f + (q.1 + (ab.getD (tkL s ab q.1 - 1) ByteArray.empty).size); omega, by rw [hcut]; show (if _ then _ else _) = _; rw [if_pos hlt, if_neg htk, empE]⟩, by show s.size - (q.1 + (ab.getD (tkL s ab q.1 - 1) ByteArray.empty).size) < _; omega, Le.sub ⟨.inr rfl, .inr rfl, .inr rfl, .inr rfl, .inr rfl, .inr rfl, .inr (vi_eq (by show (q.1 : Int) + ((ab.getD (tkL s ab q.1 - 1) ByteArray.empty).size : Int) = ((q.1 + (ab.getD (tkL s ab q.1 - 1) ByteArray.empty).size : Nat) : Int); omega)), trivial⟩ ⟨rfl, by show _ = some (Hs.live _ [vi ((q.1 + (ab.getD (tkL s ab q.1 - 1) ByteArray.empty).size : Nat) : Int)]); rw [Int.natCast_add]; rfl, rfl, rfl, trivial⟩⟩
    · have hge : q.1 = s.size := by have h0 := of_decide_eq_false hb; omega
      have hfin : cutP s ab = flushP s q.2.1 s.size q.2.2 := by rw [hcut, cutF_over (by omega)]
      refine aw_exit ?_
      refine aw_seq ?_
      refine aw_text rfl ?_
      refine ch_v (R := []) rfl rfl (oc_move (x := .clo _ _) rfl rfl) trivial ?_
      refine ch_v (R := []) rfl rfl (oc_load rfl rfl (by kernel_rfl) cells_str) trivial ?_
      refine ch_v (R := []) rfl rfl (oc_len_str rfl rfl (by kernel_rfl)) trivial ?_
      refine ch_u rfl rfl (oc_callCloFC [5] rfl rfl (by kernel_rfl) (cut1_fcm s q.2.1 s.size q.2.2 hs (by omega) (Nat.le_refl _) (by omega)) rfl (by simp) (by simp [bornH]) (by simp) (by simp) (by simp [InNL, InN]) ⟨by simp [InH, InNL, InN], by simp [InH, InNL, InN], inNL_pcs _, trivial⟩ (by simp [InN, InNL]) ⟨by simp [InH, InNL, InN], by simp [InH, InNL, InN], inNL_pcs _, trivial⟩) ⟨rfl, rfl, rfl, rfl, trivial⟩ ?_
      refine ck_nil ?_
      refine aw_seq ?_
      refine aw_text rfl ?_
      refine ch_v (R := [(_, .live _ _)]) rfl rfl (oc_load_own rfl rfl (by kernel_rfl) rfl) ⟨rfl, trivial⟩ ?_
      refine ch_v (R := []) rfl rfl (oc_assign (x := .osl _ _ _) rfl rfl) trivial ?_
      refine ck_nil ?_
      refine aw_le (Le.freezeP 4 5 (flushP s q.2.1 s.size q.2.2) rfl rfl) ?_
      refine aw_ret ?_
      exact ⟨.inl rfl, ResOk.tmp rfl (by rw [hfin]; rfl), trivial⟩
end Go.Proofs.YtpbaiighifhfnaaDoor
namespace Go.Proofs.YtpbaiighifhfnaaDoor
open Go.RowKit
set_option maxRecDepth 100000
set_option linter.unusedVariables false
set_option linter.unusedSimpArgs false
theorem res_noneB {P : Program} {fn : Func} {Γ : Ctx} (h : fn.results = #[]) : ResOk P fn Γ .any := fun E a _ _ => ⟨_, results_none h _ _ _, by unfold Rep; trivial⟩
/-- What the builder's first cell holds. -/
def bldX (u : Bool) : Av := bif u then .own 0 0 else .val (.pointer none)
theorem inNL_byt {Z : Nat → Prop} (s : ByteArray) : InNL Z (bytA s) := InNL.of_pure _ (by
  unfold bytA
  induction s.data.toList with
  | nil => simp [PureL]
  | cons c l ih => rw [List.map_cons]; exact ⟨by simp [Pure], ih⟩)
theorem ren_byt (π : Nat → Nat) (s : ByteArray) : (bytA s).map (Av.ren π) = bytA s := by
  unfold bytA
  rw [List.map_map]
  rfl
theorem non_byt {Z : List Nat} (s : ByteArray) : ∀ z ∈ bytA s, NoN Z z := fun z hz => by
  obtain ⟨c, _, rfl⟩ := List.mem_map.1 hz
  simp [NoN]
set_option maxHeartbeats 800000 in
theorem copyCheck_new (len : Nat) (cs : List Av) : FC Tryd.prog 73 [.own 0 0] [(0, .live 77 [.val (.pointer none), .osl 1 1 len]), (1, .live 5 cs)] .any [(0, .live 77 [.own 0 0, .osl 1 1 len]), (1, .live 5 cs)] := by
  refine FC.body 2 20 Tryd.func73 rfl (by kernel_rfl) ?_
  refine aw_seq ?_
  refine aw_text rfl ?_
  refine ch_v (R := []) rfl rfl (oc_move (x := .own _ _) rfl rfl) trivial ?_
  refine ch_v (R := [(_, .live _ _)]) rfl rfl (oc_nilCheck_own rfl rfl (by first | decide | simp)) ⟨rfl, trivial⟩ ?_
  refine ch_v (R := [(_, .live _ _)]) rfl rfl (oc_fieldAddr_own (off := 0) (sz := 1) (r := false) rfl rfl (by first | decide | simp) (by kernel_rfl) (by decide)) ⟨rfl, trivial⟩ ?_
  refine ch_v (R := [(_, .live _ _)]) rfl rfl (oc_load_own rfl rfl (by kernel_rfl) rfl) ⟨rfl, trivial⟩ ?_
  refine ch_v (R := []) rfl rfl (oc_ptr_nil rfl rfl (by kernel_rfl)) trivial ?_
  refine ck_nil ?_
  refine aw_cond rfl (fun hb => ?_) (fun hb => ?_)
  · refine aw_text rfl ?_
    refine ch_v (R := []) rfl rfl (oc_move (x := .own _ _) rfl rfl) trivial ?_
    refine ch_v (R := []) rfl rfl (oc_move (x := .own _ _) rfl rfl) trivial ?_
    refine ch_v (R := [(_, .live _ _)]) rfl rfl (oc_toU (t := 77) (e := 77) (y := .val (.pointer none)) (cs := [.osl 1 1 len]) rfl rfl (by kernel_rfl) (by kernel_rfl) (by kernel_rfl)) ⟨rfl, trivial⟩ ?_
    refine ch_v (R := []) rfl rfl (oc_noEscape rfl rfl Tryd.func82 (by kernel_rfl) (by kernel_rfl) (by kernel_rfl) (by kernel_rfl)) trivial ?_
    refine ch_v (R := [(_, .live _ _)]) rfl rfl (oc_fromU (t := 77) (y := .val (.pointer none)) (cs := [.osl 1 1 len]) rfl rfl (by kernel_rfl) (by kernel_rfl) (by kernel_rfl) (by kernel_rfl) (by decide)) ⟨rfl, trivial⟩ ?_
    refine ch_v (R := [(_, .live _ _)]) rfl rfl (oc_nilCheck_own rfl rfl (by first | decide | simp)) ⟨rfl, trivial⟩ ?_
    refine ch_v (R := [(_, .live _ _)]) rfl rfl (oc_fieldAddr_own (off := 0) (sz := 1) (r := false) rfl rfl (by first | decide | simp) (by kernel_rfl) (by decide)) ⟨rfl, trivial⟩ ?_
    refine ch_n rfl rfl (oc_store (y := .own _ _) (cs' := [_, _]) rfl rfl rfl (by kernel_rfl) (by kernel_rfl) cells_own (by first | decide | (simp; done) | (simp; omega)) rfl) ⟨rfl, trivial⟩ ?_
    refine ck_nil ?_
    exact ⟨.inr rfl, res_noneB rfl, ⟨rfl, rfl, trivial⟩⟩
  · exact absurd hb (by decide)
set_option maxHeartbeats 800000 in
theorem copyCheck_used (len : Nat) (cs : List Av) : FC Tryd.prog 73 [.own 0 0] [(0, .live 77 [.own 0 0, .osl 1 1 len]), (1, .live 5 cs)] .any [(0, .live 77 [.own 0 0, .osl 1 1 len]), (1, .live 5 cs)] := by
  refine FC.body 2 20 Tryd.func73 rfl (by kernel_rfl) ?_
  refine aw_seq ?_
  refine aw_text rfl ?_
  refine ch_v (R := []) rfl rfl (oc_move (x := .own _ _) rfl rfl) trivial ?_
  refine ch_v (R := [(_, .live _ _)]) rfl rfl (oc_nilCheck_own rfl rfl (by first | decide | simp)) ⟨rfl, trivial⟩ ?_
  refine ch_v (R := [(_, .live _ _)]) rfl rfl (oc_fieldAddr_own (off := 0) (sz := 1) (r := false) rfl rfl (by first | decide | simp) (by kernel_rfl) (by decide)) ⟨rfl, trivial⟩ ?_
  refine ch_v (R := [(_, .live _ _)]) rfl rfl (oc_load_own rfl rfl (by kernel_rfl) rfl) ⟨rfl, trivial⟩ ?_
  refine ch_v (R := [(_, .live _ _)]) rfl rfl (oc_ptr_own (t := 77) (y := .own 0 0) (cs := [.osl 1 1 len]) rfl rfl (by kernel_rfl)) ⟨rfl, trivial⟩ ?_
  refine ck_nil ?_
  refine aw_cond rfl (fun hb => ?_) (fun hb => ?_)
  · exact absurd hb (by decide)
  · refine aw_seq ?_
    refine aw_text rfl ?_
    refine ch_v (R := []) rfl rfl (oc_move (x := .own _ _) rfl rfl) trivial ?_
    refine ch_v (R := [(_, .live _ _)]) rfl rfl (oc_nilCheck_own rfl rfl (by first | decide | simp)) ⟨rfl, trivial⟩ ?_
    refine ch_v (R := [(_, .live _ _)]) rfl rfl (oc_fieldAddr_own (off := 0) (sz := 1) (r := false) rfl rfl (by first | decide | simp) (by kernel_rfl) (by decide)) ⟨rfl, trivial⟩ ?_
    refine ch_v (R := [(_, .live _ _)]) rfl rfl (oc_load_own rfl rfl (by kernel_rfl) rfl) ⟨rfl, trivial⟩ ?_
    refine ch_v (R := []) rfl rfl (oc_move (x := .own _ _) rfl rfl) trivial ?_
    refine ch_v (R := [(_, .live _ _)]) rfl rfl (oc_ptr_same (t := 77) (e := 77) (y := .own 0 0) (cs := [.osl 1 1 len]) rfl rfl rfl (by kernel_rfl) (by kernel_rfl)) ⟨rfl, trivial⟩ ?_
    refine ck_nil ?_
    refine aw_cond rfl (fun hb => ?_) (fun hb => ?_)
    · exact absurd hb (by decide)
    · refine aw_skip ?_
      exact ⟨.inr rfl, res_noneB rfl, ⟨rfl, rfl, trivial⟩⟩
theorem copyCheck_fc (u : Bool) (len : Nat) (cs : List Av) : FC Tryd.prog 73 [.own 0 0] [(0, .live 77 [bldX u, .osl 1 1 len]), (1, .live 5 cs)] .any [(0, .live 77 [.own 0 0, .osl 1 1 len]), (1, .live 5 cs)] := by
  cases u
  · exact copyCheck_new len cs
  · exact copyCheck_used len cs
set_option maxHeartbeats 800000 in
theorem writeString_fcm (u : Bool) (a s : ByteArray) (hs : a.size + s.size ≤ 140737488355328) : FCM Tryd.prog 61 [.own 0 0, vs s] [(0, .live 77 [bldX u, .osl 1 1 a.size])] [(1, .live 5 (bytA a))] (.tup [vi s.size, .val .nilIface]) [(0, .live 77 [.own 0 0, .osl 1 2 (a ++ s).size]), (2, .live 5 (bytA (a ++ s)))] := by
  refine FCM.body 3 19 Tryd.func61 rfl (by kernel_rfl) ?_
  refine aw_seq ?_
  refine aw_text rfl ?_
  refine ch_v (R := []) rfl rfl (oc_assign (x := .val _) rfl rfl) trivial ?_
  refine ch_v (R := []) rfl rfl (oc_assign (x := .val _) rfl rfl) trivial ?_
  refine ck_nil ?_
  refine aw_seq ?_
  refine aw_text rfl ?_
  refine ch_v (R := []) rfl rfl (oc_move (x := .own _ _) rfl rfl) trivial ?_
  refine ch_u rfl rfl (oc_callFC [] rfl (by kernel_rfl) (FC.m (copyCheck_fc u a.size (bytA a))) rfl (by simp) (by simp [bornH]) (by simp) (by simp) (by simp [InNL, InN]) ⟨by cases u <;> simp [bldX, InH, InNL, InN], inNL_byt a, trivial⟩ (by simp [InN, InNL]) ⟨by simp [InH, InNL, InN], inNL_byt a, trivial⟩) ⟨rfl, rfl, trivial⟩ ?_
  refine ck_nil ?_
  refine aw_seq ?_
  refine aw_text rfl ?_
  refine ch_v (R := []) rfl rfl (oc_move (x := .own _ _) rfl rfl) trivial ?_
  refine ch_v (R := []) rfl rfl (oc_move (x := .own _ _) rfl rfl) trivial ?_
  refine ch_v (R := [(_, .live _ _)]) rfl rfl (oc_nilCheck_own rfl rfl (by first | decide | simp)) ⟨rfl, trivial⟩ ?_
  refine ch_v (R := [(_, .live _ _)]) rfl rfl (oc_fieldAddr_own (off := 1) (sz := 1) (r := false) rfl rfl (by first | decide | simp) (by kernel_rfl) (by decide)) ⟨rfl, trivial⟩ ?_
  refine ch_v (R := [(_, .live _ _)]) rfl rfl (oc_load_own rfl rfl (by kernel_rfl) rfl) ⟨rfl, trivial⟩ ?_
  refine ch_v (R := []) rfl rfl (oc_move (x := .val _) rfl rfl) trivial ?_
  refine ch_u rfl rfl (oc_appendS (e := 5) (cs := bytA a) (s := s) 2 rfl rfl rfl (by kernel_rfl) (by kernel_rfl) (by kernel_rfl) (by kernel_rfl) (by decide) (bytA_len a) hs) ⟨rfl, rfl, trivial⟩ ?_
  refine ch_v (R := [(_, .live _ _)]) rfl rfl (oc_nilCheck_own rfl rfl (by first | decide | simp)) ⟨rfl, trivial⟩ ?_
  refine ch_v (R := [(_, .live _ _)]) rfl rfl (oc_fieldAddr_own (off := 1) (sz := 1) (r := false) rfl rfl (by first | decide | simp) (by kernel_rfl) (by decide)) ⟨rfl, trivial⟩ ?_
  refine ch_n rfl rfl (oc_store (y := .osl _ _ _) (cs' := [_, _]) rfl rfl rfl (by kernel_rfl) (by kernel_rfl) cells_osl (by first | decide | (simp; done) | (simp; omega)) rfl) ⟨rfl, trivial⟩ ?_
  refine ck_nil ?_
  refine aw_seq ?_
  refine aw_text rfl ?_
  refine ch_v (R := []) rfl rfl (oc_move (x := .val _) rfl rfl) trivial ?_
  refine ch_v (R := []) rfl rfl (oc_len_str rfl rfl (by kernel_rfl)) trivial ?_
  refine ch_v (R := []) rfl rfl (oc_assign (x := .val _) rfl rfl) trivial ?_
  refine ch_v (R := []) rfl rfl (oc_assign (x := .val _) rfl rfl) trivial ?_
  refine ck_nil ?_
  refine aw_ret ?_
  exact ⟨.inl rfl, ResOk.two rfl (ResC.tmp rfl) (ResC.tmp rfl), ⟨by rw [ByteArray.size_append]; rfl, by rw [bytA_app]; rfl, trivial⟩⟩
end Go.Proofs.YtpbaiighifhfnaaDoor
namespace Go.Proofs.YtpbaiighifhfnaaDoor
open Go.RowKit
set_option maxRecDepth 100000
set_option linter.unusedVariables false
set_option linter.unusedSimpArgs false
theorem grows_mono' {P : Program} {o : Oper} {a : Act} {w : World} {K K' : Value → World → Prop} (h : grows P o a w K) (hk : ∀ v w', K v w' → K' v w') : grows P o a w K' := by
  unfold grows at h ⊢
  generalize (execOp a.eval o).run P w = r at *
  cases r with
  | ok n w' =>
    cases n <;> simp only [growUpon] at h ⊢
    case value u => exact hk _ _ h
    case skip => exact hk _ _ h
    case enter f args => exact h.mono fun e w'' ⟨v, he, hh⟩ => ⟨v, he, hk _ _ hh⟩
  | halt x w' => simp only [growUpon] at h
theorem OC.to {P : Program} {o : Oper} {ρ : Operand → Av} {R U : List (Nat × Hs)} {x y : Av} (h : OC P o ρ R x U) (hxy : ∀ E v, Rep E x v → Rep E y v) : OC P o ρ R y U := fun E a hG hp hR => grows_mono' (h E a hG hp hR) fun v w' ⟨E', h1, h2, h3, h4, h5⟩ => ⟨E', h1, h2, h3, hxy _ _ h4, h5⟩
theorem slS_of (l : List ByteArray) (E : Env) (v : Value) (h : Rep E (.sl 1 l.length (rowL (l.map vs))) v) : Rep E (slS l) v := rep_rows (fun E j hj v hv => by
  have e : rowL (l.map vs) j = vs (l.getD j ByteArray.empty) := by
    show (l.map vs).getD j .any = _
    rw [List.getD, List.getElem?_map, List.getD, List.getElem?_eq_getElem hj]
    rfl
  rwa [e] at hv) E v h
end Go.Proofs.YtpbaiighifhfnaaDoor
namespace Go.Proofs.YtpbaiighifhfnaaDoor
open Go.RowKit
set_option linter.unusedVariables false
/-- The document's best row saves. -/
theorem rb_saves {l : List ByteArray} (h : rbL l ≠ ⟨#[]⟩) : 0 < savesOf l (rbL l) ∧ 2 ≤ (rbL l).size ∧ (rbL l).size ≤ 8 := by
  rcases best_all_in (l := l) l.length with ⟨h1, _⟩ | ⟨h1, h2, h3, _⟩
  · exact absurd (show (rbAll l l.length).1 = _ from by rw [h1]) h
  · exact ⟨by show 0 < savesOf l (rbAll l l.length).1; rw [← h2]; exact h3, h1.1.1, h1.1.2⟩
theorem rcF_len (most : Int) : ∀ (f : Nat) (out parts : List ByteArray), (out.length : Int) ≤ max most 0 → out.length ≤ 32 → ((rcF most f out parts).length : Int) ≤ max most 0 ∧ (rcF most f out parts).length ≤ 32
  | 0, out, parts, h1, h2 => ⟨h1, h2⟩
  | f + 1, out, parts, h1, h2 => by
    unfold rcF
    split
    · rename_i hc
      split
      · exact ⟨h1, h2⟩
      · exact rcF_len most f _ _ (by rw [List.length_append, List.length_singleton]; omega) (by rw [List.length_append, List.length_singleton]; omega)
    · exact ⟨h1, h2⟩
theorem rcF_ok (most : Int) : ∀ (f : Nat) (out parts : List ByteArray), (∀ a ∈ out, 2 ≤ a.size ∧ a.size ≤ 8) → ∀ a ∈ rcF most f out parts, 2 ≤ a.size ∧ a.size ≤ 8
  | 0, out, parts, h => h
  | f + 1, out, parts, h => by
    unfold rcF
    split
    · split
      · exact h
      · rename_i hc
        refine rcF_ok most f _ _ fun a ha => ?_
        rcases List.mem_append.1 ha with ha | ha
        · exact h a ha
        · rw [List.mem_singleton] at ha
          rw [ha]
          exact (rb_saves hc).2
    · exact h
theorem choose_len {l : List ByteArray} (h : wt l ≤ 10000) (most : Int) : ((chooseP l most).length : Int) ≤ max most 0 ∧ (chooseP l most).length ≤ 32 := by
  rw [choose_alike h]
  exact rcF_len most 33 [] l (by show ((0 : Nat) : Int) ≤ _; omega) (Nat.zero_le _)
theorem choose_ok {l : List ByteArray} (h : wt l ≤ 10000) (most : Int) : ∀ a ∈ chooseP l most, 2 ≤ a.size ∧ a.size ≤ 8 := by
  rw [choose_alike h]
  exact rcF_ok most 33 [] l fun a ha => by simp at ha
end Go.Proofs.YtpbaiighifhfnaaDoor
namespace Go.Proofs.YtpbaiighifhfnaaDoor
open Go.RowKit
set_option maxRecDepth 100000
set_option linter.unusedVariables false
set_option linter.unusedSimpArgs false
theorem cutF_few {s : ByteArray} {ab : List ByteArray} : ∀ (f i fr : Nat) (out : List PieceP), SzP s.size out → SzP s.size (cutF s ab f i fr out) ∧ (cutF s ab f i fr out).length ≤ out.length + 2 * f + 1
  | 0, i, fr, out, h => by
    have hf : SzP s.size (flushP s fr s.size out) := by
      unfold flushP
      split
      · exact h.app (by show (s.extract fr s.size).size ≤ _; rw [ByteArray.size_extract]; omega)
      · exact h
    exact ⟨hf, by have := flush_len s fr s.size out; show (flushP s fr s.size out).length ≤ _; omega⟩
  | f + 1, i, fr, out, h => by
    have hf : ∀ j, SzP s.size (flushP s fr j out) := fun j => by
      unfold flushP
      split
      · exact h.app (by show (s.extract fr j).size ≤ _; rw [ByteArray.size_extract]; omega)
      · exact h
    unfold cutF
    split
    · split
      · have := cutF_few (s := s) (ab := ab) f (i + 1) fr out h
        exact ⟨this.1, by omega⟩
      · have h2 := flush_len s fr i out
        have := cutF_few (s := s) (ab := ab) f (i + (ab.getD (tkL s ab i - 1) ByteArray.empty).size) (i + (ab.getD (tkL s ab i - 1) ByteArray.empty).size) (flushP s fr i out ++ [(ByteArray.empty, (tkL s ab i : Int))]) ((hf i).app (Nat.zero_le _))
        refine ⟨this.1, ?_⟩
        have h3 := this.2
        rw [List.length_append, List.length_singleton] at h3
        omega
    · exact ⟨hf s.size, by have := flush_len s fr s.size out; omega⟩
theorem cut_few {s : ByteArray} (ab : List ByteArray) (h : s.size ≤ 10000) : FewP (cutP s ab) := by
  have := cutF_few (s := s) (ab := ab) (s.size + 1) 0 0 [] (SzP.nil _)
  refine ⟨?_, fun k => Nat.le_trans (this.1 k) (by omega)⟩
  have h2 := this.2
  show (cutF s ab (s.size + 1) 0 0 []).length ≤ _
  simp only [List.length_nil] at h2
  omega
theorem PC.last {P : Program} {f : Nat} {a x y z : Av} (h : PC P f [a, x] z) (hxy : ∀ E v, Rep E y v → Rep E x v) : PC P f [a, y] z := fun E vs hG hA hR hB hU => h E vs hG (by
  unfold RepL RepL at hA ⊢
  obtain ⟨v, us, h1, h2, v', us', h3, h4, h5⟩ := hA
  exact ⟨v, us, h1, h2, v', us', h3, hxy E v' h4, h5⟩) hR hB hU
end Go.Proofs.YtpbaiighifhfnaaDoor
