/- Chapter 7: counting rows, walked. -/
import Derived.Test.YtfbpbpapfkimfaaDoorBa
import Derived.Test.YtfbpbpapfkimfaaDoorProg
import Derived.KernelRfl
namespace Go.Proofs.YtfbpbpapfkimfaaDoor
open Go.RowKit
set_option maxRecDepth 100000
set_option linter.unusedVariables false
set_option linter.unusedSimpArgs false
/-- Few texts, of few bytes. -/
structure FewT (l : List ByteArray) : Prop where
  len : l.length ≤ 10000
  size : ∀ k, (l.getD k ⟨#[]⟩).size ≤ 10000
theorem Sane.all {l : List ByteArray} (h : FewT l) : ∀ k, MI (cAll l k) ∧ Maps.size (cAll l k) ≤ 70000 * k ∧ ∀ t, 0 ≤ getM (cAll l k) t ∧ getM (cAll l k) t ≤ ((70000 * k : Nat) : Int)
  | 0 => ⟨mi_empty, Nat.zero_le _, fun t => by show 0 ≤ getM (.map []) t ∧ getM (.map []) t ≤ _; rw [get_empty]; omega⟩
  | k + 1 => by
    obtain ⟨h1, h2, h3⟩ := Sane.all h k
    have hs := h.size k
    have := Sane.part h1 h2 h3 (p := l.getD k ⟨#[]⟩) (by omega) (l.getD k ⟨#[]⟩).size
    have := this.more (c := 70000 * (k + 1)) (by omega)
    exact ⟨this.m1, this.s1, this.g1⟩
theorem cRow_stop {p : ByteArray} {i : Nat} {s : MM} {j : Nat} (hj : j ≤ 7) (h : ¬ (j + 2 ≤ 8 ∧ i + (j + 2) ≤ p.size)) : cRow p i s 7 = cRow p i s j := by
  have key : ∀ d, j + d ≤ 7 → cRow p i s (j + d) = cRow p i s j := by
    intro d
    induction d with
    | zero => intro _; rfl
    | succ d ih =>
      intro hd
      rw [← Nat.add_assoc]
      show (if j + d + 2 ≤ 8 ∧ i + (j + d + 2) ≤ p.size then _ else _) = _
      rw [if_neg (by omega)]
      exact ih (by omega)
  have := key (7 - j) (by omega)
  rwa [show j + (7 - j) = 7 from by omega] at this
theorem wf_num {c : Int} (h : -9223372036854775808 ≤ c ∧ c < 9223372036854775808) : (Lit.int .i64 c).wf = true := by
  have h2 : IntKind.i64.min = -9223372036854775808 := rfl
  have h3 : IntKind.i64.max = 9223372036854775807 := rfl
  simp [Lit.wf, h2, h3]
  omega
theorem ex_nat (p : ByteArray) (i n : Nat) : p.extract (i : Int).toNat ((i : Int) + (n : Int)).toNat = p.extract i (i + n) := by
  have e1 : (i : Int).toNat = i := by omega
  have e2 : ((i : Int) + (n : Int)).toNat = i + n := by omega
  rw [e1, e2]
theorem ex_size (p : ByteArray) (i n : Nat) (h : i + n ≤ p.size) : (p.extract i (i + n)).size = n := by
  rw [← tB_len, tB_extract, List.length_drop, List.length_take, tB_len]
  omega
set_option maxHeartbeats 800000 in
theorem count_pc (l : List ByteArray) (hl : FewT l) : PC Tryd.prog 37 [slS l] (.fm Tryd.prog 9 3 (cAll l l.length)) := by
  refine FC.body 4 58 Tryd.func37 rfl (by kernel_rfl) ?_
  refine aw_seq ?_
  refine aw_text rfl ?_
  refine ch_v (R := []) rfl rfl (oc_assign (x := .val _) rfl rfl) trivial ?_
  refine ck_nil ?_
  refine aw_seq ?_
  refine aw_text rfl ?_
  refine ch_u rfl rfl (oc_makeMap (k := 9) (e := 3) 0 rfl (by kernel_rfl)) ⟨rfl, trivial⟩ ?_
  refine ch_v (R := []) rfl rfl (oc_assign (x := .mp _) rfl rfl) trivial ?_
  refine ck_nil ?_
  refine aw_seq ?_
  refine aw_seq ?_
  refine aw_text rfl ?_
  refine ch_v (R := []) rfl rfl (oc_move (x := .sl _ _ _) rfl rfl) trivial ?_
  refine ch_v (R := []) rfl rfl (oc_len rfl rfl (by kernel_rfl)) trivial ?_
  refine ch_v (R := []) rfl rfl (oc_move (x := .val _) rfl rfl) trivial ?_
  refine ck_nil ?_
  refine aw_block ?_
  refine aw_loop (ι := Nat) (fun k => ⟨[(3, .mp 0), (11, slS l), (12, vi l.length), (13, vi k)], [(0, .map Tryd.prog 9 3 (cAll l k)), (1, .unborn)]⟩) (fun k => k ≤ l.length) (fun k => l.length - k) 0 (Nat.zero_le _) (Le.sub (by repeat (first | trivial | refine ⟨.inr rfl, ?_⟩ | refine ⟨.inr (vi_eq (by omega)), ?_⟩)) (by repeat (first | trivial | refine ⟨rfl, ?_⟩))) ?_
  intro k hI
  refine aw_seq ?_
  refine aw_text rfl ?_
  refine ch_v (R := []) rfl rfl (oc_binZ rfl rfl rfl rfl) trivial ?_
  refine ck_nil ?_
  refine aw_seq ?_
  refine aw_cond rfl (fun hb => ?_) (fun hb => ?_)
  · have hlt : k < l.length := by have h0 := of_decide_eq_true hb; omega
    have hk0 := Sane.all hl k
    have hps := hl.size k
    have hll := hl.len
    have hp1 : (l.getD k ⟨#[]⟩).size ≤ 1000000000 := by omega
    refine aw_skip ?_
    refine aw_seq ?_
    refine aw_block ?_
    refine aw_seq ?_
    refine aw_text rfl ?_
    refine ch_v (R := []) rfl rfl ((by first | exact oc_indexN rfl rfl rfl (by kernel_rfl) (by omega) | exact oc_index rfl rfl rfl (by kernel_rfl) (by omega) (by omega) rfl)) trivial ?_
    refine ch_v (R := []) rfl rfl (oc_load rfl rfl (by kernel_rfl) cells_str) trivial ?_
    refine ch_v (R := []) rfl rfl (oc_assign (x := .val _) rfl rfl) trivial ?_
    refine ck_nil ?_
    refine aw_seq ?_
    refine aw_text rfl ?_
    refine ch_u rfl rfl (oc_makeMap (k := 9) (e := 3) 1 rfl (by kernel_rfl)) ⟨rfl, trivial⟩ ?_
    refine ch_v (R := []) rfl rfl (oc_assign (x := .mp _) rfl rfl) trivial ?_
    refine ck_nil ?_
    refine aw_seq ?_
    refine aw_text rfl ?_
    refine ch_v (R := []) rfl rfl (oc_move (x := .val _) rfl rfl) trivial ?_
    refine ch_v (R := []) rfl rfl (oc_len_str rfl rfl (by kernel_rfl)) trivial ?_
    refine ch_v (R := []) rfl rfl (oc_move (x := .val _) rfl rfl) trivial ?_
    refine ck_nil ?_
    refine aw_block ?_
    refine aw_loop (ι := Nat) (fun i => ⟨[(3, .mp 0), (11, slS l), (12, vi l.length), (13, vi k), (5, vs (l.getD k ⟨#[]⟩)), (6, .mp 1), (19, vi (l.getD k ⟨#[]⟩).size), (20, vi i)], [(0, .map Tryd.prog 9 3 ((cPart (l.getD k ⟨#[]⟩) (cAll l k) i).1)), (1, .map Tryd.prog 9 3 ((cPart (l.getD k ⟨#[]⟩) (cAll l k) i).2))]⟩) (fun i => i ≤ (l.getD k ⟨#[]⟩).size) (fun i => (l.getD k ⟨#[]⟩).size - i) 0 (Nat.zero_le _) (Le.sub (by repeat (first | trivial | refine ⟨.inr rfl, ?_⟩ | refine ⟨.inr (vi_eq (by omega)), ?_⟩)) (by repeat (first | trivial | refine ⟨rfl, ?_⟩))) ?_
    intro i hI
    refine aw_seq ?_
    refine aw_text rfl ?_
    refine ch_v (R := []) rfl rfl (oc_binZ rfl rfl rfl rfl) trivial ?_
    refine ck_nil ?_
    refine aw_seq ?_
    refine aw_cond rfl (fun hb => ?_) (fun hb => ?_)
    · have hli : i < (l.getD k ⟨#[]⟩).size := by have h0 := of_decide_eq_true hb; omega
      have hP := (Sane.part hk0.1 hk0.2.1 hk0.2.2 (p := (l.getD k ⟨#[]⟩)) hp1 i).more (c := 999999993) (by omega)
      refine aw_skip ?_
      refine aw_seq ?_
      refine aw_block ?_
      refine aw_seq ?_
      refine aw_text rfl ?_
      refine ch_v (R := []) rfl rfl (oc_move (x := .val _) rfl rfl) trivial ?_
      refine ch_v (R := []) rfl rfl (oc_assign (x := .val _) rfl rfl) trivial ?_
      refine ck_nil ?_
      refine aw_seq ?_
      refine aw_text rfl ?_
      refine ch_v (R := []) rfl rfl (oc_assign (x := .val _) rfl rfl) trivial ?_
      refine ck_nil ?_
      refine aw_block ?_
      refine aw_loop (ι := Nat) (fun j => ⟨[(3, .mp 0), (11, slS l), (12, vi l.length), (13, vi k), (5, vs (l.getD k ⟨#[]⟩)), (6, .mp 1), (19, vi (l.getD k ⟨#[]⟩).size), (20, vi i), (7, vi i), (8, vi ((j + 2 : Nat) : Int))], [(0, .map Tryd.prog 9 3 ((cRow (l.getD k ⟨#[]⟩) i (cPart (l.getD k ⟨#[]⟩) (cAll l k) i) j).1)), (1, .map Tryd.prog 9 3 ((cRow (l.getD k ⟨#[]⟩) i (cPart (l.getD k ⟨#[]⟩) (cAll l k) i) j).2))]⟩) (fun j => j ≤ 7) (fun j => 7 - j) 0 (Nat.zero_le _) (Le.sub (by repeat (first | trivial | refine ⟨.inr rfl, ?_⟩ | refine ⟨.inr (vi_eq (by omega)), ?_⟩)) (by repeat (first | trivial | refine ⟨rfl, ?_⟩))) ?_
      intro j hI
      have hS := (hP.row (p := (l.getD k ⟨#[]⟩)) (i := i) hp1 j).more (c := 1000000000) (by omega)
      refine aw_seq ?_
      refine aw_seq ?_
      refine aw_text rfl ?_
      refine ch_v (R := []) rfl rfl (oc_move (x := .val _) rfl rfl) trivial ?_
      refine ch_v (R := []) rfl rfl (oc_binZ rfl rfl rfl rfl) trivial ?_
      refine ch_v (R := []) rfl rfl (oc_move (x := .val _) rfl rfl) trivial ?_
      refine ch_g (R := []) rfl rfl rfl gate_t (fun hC => oc_move (x := .val _) rfl rfl) (fun hC => ⟨(by first | rfl | exact hC | (simp only [Bool.and_eq_true] at hC; first | exact hC.1 | exact hC.1.1 | exact hC.2) | simp_all), trivial⟩) trivial ?_
      refine ch_g (R := []) rfl rfl rfl gate_t (fun hC => oc_move (x := .val _) rfl rfl) (fun hC => ⟨(by first | rfl | exact hC | (simp only [Bool.and_eq_true] at hC; first | exact hC.1 | exact hC.1.1 | exact hC.2) | simp_all), trivial⟩) trivial ?_
      refine ch_g (R := []) rfl rfl rfl gate_t (fun hC => oc_binZ rfl rfl rfl (by first | exact binW_add (by omega) (by omega) | rfl)) (fun hC => ⟨(by first | rfl | exact hC | (simp only [Bool.and_eq_true] at hC; first | exact hC.1 | exact hC.1.1 | exact hC.2) | simp_all), (by first | rfl | exact hC | (simp only [Bool.and_eq_true] at hC; first | exact hC.1 | exact hC.1.1 | exact hC.2) | simp_all), trivial⟩) trivial ?_
      refine ch_g (R := []) rfl rfl rfl gate_t (fun hC => oc_move (x := .val _) rfl rfl) (fun hC => ⟨(by first | rfl | exact hC | (simp only [Bool.and_eq_true] at hC; first | exact hC.1 | exact hC.1.1 | exact hC.2) | simp_all), trivial⟩) trivial ?_
      refine ch_g (R := []) rfl rfl rfl gate_t (fun hC => oc_len_str rfl rfl (by kernel_rfl)) (fun hC => ⟨(by first | rfl | exact hC | (simp only [Bool.and_eq_true] at hC; first | exact hC.1 | exact hC.1.1 | exact hC.2) | simp_all), trivial⟩) trivial ?_
      refine ch_g (R := []) rfl rfl rfl gate_t (fun hC => oc_binZ rfl rfl rfl rfl) (fun hC => ⟨(by first | rfl | exact hC | (simp only [Bool.and_eq_true] at hC; first | exact hC.1 | exact hC.1.1 | exact hC.2) | simp_all), (by first | rfl | exact hC | (simp only [Bool.and_eq_true] at hC; first | exact hC.1 | exact hC.1.1 | exact hC.2) | simp_all), trivial⟩) trivial ?_
      refine ch_v (R := []) rfl rfl (oc_and rfl rfl rfl rfl (by first | exact fun h => h | simp_all)) trivial ?_
      refine ck_nil ?_
      refine aw_cond rfl (fun hb => ?_) (fun hb => ?_)
      · have hn : j + 2 ≤ 8 ∧ i + (j + 2) ≤ (l.getD k ⟨#[]⟩).size := by simp only [Bool.and_eq_true, decide_eq_true_eq] at hb; omega
        have hx := ex_nat (l.getD k ⟨#[]⟩) i (j + 2)
        have hsz : ((l.getD k ⟨#[]⟩).extract i (i + (j + 2))).size ≤ maxLen := by rw [ex_size _ _ _ hn.2]; have : maxLen = 9223372036854775807 := rfl; omega
        have hg1 := hS.g1 ((l.getD k ⟨#[]⟩).extract i (i + (j + 2)))
        have hg2 := hS.g2 ((l.getD k ⟨#[]⟩).extract i (i + (j + 2)))
        have hs1 := hS.s1
        have hs2 := hS.s2
        have hml : maxLen = 9223372036854775807 := rfl
        refine aw_skip ?_
        refine aw_seq ?_
        refine aw_block ?_
        refine aw_seq ?_
        refine aw_text rfl ?_
        refine ch_v (R := []) rfl rfl (oc_move (x := .val _) rfl rfl) trivial ?_
        refine ch_v (R := []) rfl rfl (oc_move (x := .val _) rfl rfl) trivial ?_
        refine ch_v (R := []) rfl rfl (oc_move (x := .val _) rfl rfl) trivial ?_
        refine ch_v (R := []) rfl rfl (oc_move (x := .val _) rfl rfl) trivial ?_
        refine ch_v (R := []) rfl rfl (oc_binZ rfl rfl rfl (by first | exact binW_add (by omega) (by omega) | rfl)) trivial ?_
        refine ch_v (R := []) rfl rfl (OC.cast (oc_substr rfl rfl rfl rfl (by kernel_rfl) (by omega) (by omega) (by omega)) (show Av.val (.string ((l.getD k ⟨#[]⟩).extract (i : Int).toNat ((i : Int) + ((j + 2 : Nat) : Int)).toNat)) = vs ((l.getD k ⟨#[]⟩).extract i (i + (j + 2))) from by rw [hx])) trivial ?_
        refine ch_v (R := []) rfl rfl (oc_assign (x := .val _) rfl rfl) trivial ?_
        refine ck_nil ?_
        refine aw_seq ?_
        refine aw_text rfl ?_
        refine ch_v (R := []) rfl rfl (oc_move (x := .val _) rfl rfl) trivial ?_
        refine ch_v (R := []) rfl rfl (oc_move (x := .mp _) rfl rfl) trivial ?_
        refine ch_v (R := []) rfl rfl (oc_move (x := .val _) rfl rfl) trivial ?_
        refine ch_v (R := [(_, .map _ _ _ _)]) rfl rfl (oc_lookup (k := 9) (e := 3) (Go.Maps.string_keyed Tryd.underlying9) rfl rfl rfl (by kernel_rfl) (by kernel_rfl) (by kernel_rfl) (key_str Tryd.underlying9 hsz) (hS.m2.2 _)) ⟨rfl, trivial⟩ ?_
        refine ch_v (R := []) rfl rfl (oc_binZ rfl rfl rfl rfl) trivial ?_
        refine ck_nil ?_
        refine aw_cond rfl (fun hb => ?_) (fun hb => ?_)
        · have hge : getM (cRow (l.getD k ⟨#[]⟩) i (cPart (l.getD k ⟨#[]⟩) (cAll l k) i) j).2 ((l.getD k ⟨#[]⟩).extract i (i + (j + 2))) ≤ i := by have h0 := of_decide_eq_true hb; omega
          have e1 : cRow (l.getD k ⟨#[]⟩) i (cPart (l.getD k ⟨#[]⟩) (cAll l k) i) (j + 1) = ((cRow (l.getD k ⟨#[]⟩) i (cPart (l.getD k ⟨#[]⟩) (cAll l k) i) j).1.put (kS ((l.getD k ⟨#[]⟩).extract i (i + (j + 2)))) (iv (getM (cRow (l.getD k ⟨#[]⟩) i (cPart (l.getD k ⟨#[]⟩) (cAll l k) i) j).1 ((l.getD k ⟨#[]⟩).extract i (i + (j + 2))) + 1)), (cRow (l.getD k ⟨#[]⟩) i (cPart (l.getD k ⟨#[]⟩) (cAll l k) i) j).2.put (kS ((l.getD k ⟨#[]⟩).extract i (i + (j + 2)))) (iv ((i + (j + 2) : Nat) : Int))) := by
            show (if _ then cStep _ _ _ _ else _) = _
            rw [if_pos hn]
            unfold cStep
            rw [if_pos hge]
          refine aw_seq ?_
          refine aw_text rfl ?_
          refine ch_v (R := []) rfl rfl (oc_move (x := .mp _) rfl rfl) trivial ?_
          refine ch_v (R := []) rfl rfl (oc_move (x := .val _) rfl rfl) trivial ?_
          refine ch_v (R := [(_, .map _ _ _ _)]) rfl rfl (oc_lookup (k := 9) (e := 3) (Go.Maps.string_keyed Tryd.underlying9) rfl rfl rfl (by kernel_rfl) (by kernel_rfl) (by kernel_rfl) (key_str Tryd.underlying9 hsz) (hS.m1.2 _)) ⟨rfl, trivial⟩ ?_
          refine ch_v (R := []) rfl rfl (oc_binZ rfl rfl rfl (by first | exact binW_add (by omega) (by omega) | rfl)) trivial ?_
          refine ch_n rfl rfl (oc_mapUpdate (k := 9) (e := 3) (Go.Maps.string_keyed Tryd.underlying9) rfl rfl rfl rfl (by kernel_rfl) (by kernel_rfl) (key_str Tryd.underlying9 hsz) (wf_num (by omega)) (by omega)) ⟨rfl, trivial⟩ ?_
          refine ck_nil ?_
          refine aw_text rfl ?_
          refine ch_v (R := []) rfl rfl (oc_move (x := .mp _) rfl rfl) trivial ?_
          refine ch_v (R := []) rfl rfl (oc_move (x := .val _) rfl rfl) trivial ?_
          refine ch_v (R := []) rfl rfl (oc_move (x := .val _) rfl rfl) trivial ?_
          refine ch_v (R := []) rfl rfl (oc_move (x := .val _) rfl rfl) trivial ?_
          refine ch_v (R := []) rfl rfl (oc_binZ rfl rfl rfl (by first | exact binW_add (by omega) (by omega) | rfl)) trivial ?_
          refine ch_n rfl rfl (oc_mapUpdate (k := 9) (e := 3) (Go.Maps.string_keyed Tryd.underlying9) rfl rfl rfl rfl (by kernel_rfl) (by kernel_rfl) (key_str Tryd.underlying9 hsz) (wf_num (by omega)) (by omega)) ⟨rfl, trivial⟩ ?_
          refine ck_nil ?_
          refine aw_text rfl ?_
          refine ch_v (R := []) rfl rfl (oc_move (x := .val _) rfl rfl) trivial ?_
          refine ch_v (R := []) rfl rfl (oc_binZ rfl rfl rfl (by first | exact binW_add (by omega) (by omega) | rfl)) trivial ?_
          refine ch_v (R := []) rfl rfl (oc_assign (x := .val _) rfl rfl) trivial ?_
          refine ck_nil ?_
          exact ⟨j + 1, by omega, by omega, Le.sub (by repeat (first | trivial | refine ⟨.inr rfl, ?_⟩ | refine ⟨.inr (vi_eq (by omega)), ?_⟩)) ⟨by rw [e1]; rfl, by rw [e1]; rfl, trivial⟩⟩
        · have hge : ¬ getM (cRow (l.getD k ⟨#[]⟩) i (cPart (l.getD k ⟨#[]⟩) (cAll l k) i) j).2 ((l.getD k ⟨#[]⟩).extract i (i + (j + 2))) ≤ i := by have h0 := of_decide_eq_false hb; omega
          have e1 : cRow (l.getD k ⟨#[]⟩) i (cPart (l.getD k ⟨#[]⟩) (cAll l k) i) (j + 1) = cRow (l.getD k ⟨#[]⟩) i (cPart (l.getD k ⟨#[]⟩) (cAll l k) i) j := by
            show (if _ then cStep _ _ _ _ else _) = _
            rw [if_pos hn]
            unfold cStep
            rw [if_neg hge]
          refine aw_skip ?_
          refine aw_text rfl ?_
          refine ch_v (R := []) rfl rfl (oc_move (x := .val _) rfl rfl) trivial ?_
          refine ch_v (R := []) rfl rfl (oc_binZ rfl rfl rfl (by first | exact binW_add (by omega) (by omega) | rfl)) trivial ?_
          refine ch_v (R := []) rfl rfl (oc_assign (x := .val _) rfl rfl) trivial ?_
          refine ck_nil ?_
          exact ⟨j + 1, by omega, by omega, Le.sub (by repeat (first | trivial | refine ⟨.inr rfl, ?_⟩ | refine ⟨.inr (vi_eq (by omega)), ?_⟩)) ⟨by rw [e1]; rfl, by rw [e1]; rfl, trivial⟩⟩
      · have hn : ¬ (j + 2 ≤ 8 ∧ i + (j + 2) ≤ (l.getD k ⟨#[]⟩).size) := by intro hc; simp only [Bool.and_eq_false_iff, decide_eq_false_iff_not] at hb; omega
        have hend : cPart (l.getD k ⟨#[]⟩) (cAll l k) (i + 1) = cRow (l.getD k ⟨#[]⟩) i (cPart (l.getD k ⟨#[]⟩) (cAll l k) i) j := cRow_stop hI hn
        refine aw_exit ?_
        refine aw_text rfl ?_
        refine ch_v (R := []) rfl rfl (oc_binZ rfl rfl rfl (by first | exact binW_add (by omega) (by omega) | rfl)) trivial ?_
        refine ch_v (R := []) rfl rfl (oc_move (x := .val _) rfl rfl) trivial ?_
        refine ck_nil ?_
        exact ⟨i + 1, by omega, by omega, Le.sub (by repeat (first | trivial | refine ⟨.inr rfl, ?_⟩)) ⟨by rw [hend]; rfl, by rw [hend]; rfl, trivial⟩⟩
    · have hie : i = (l.getD k ⟨#[]⟩).size := by have h0 := of_decide_eq_false hb; omega
      refine aw_exit ?_
      refine aw_text rfl ?_
      refine ch_v (R := []) rfl rfl (oc_binZ rfl rfl rfl (by first | exact binW_add (by omega) (by omega) | rfl)) trivial ?_
      refine ch_v (R := []) rfl rfl (oc_move (x := .val _) rfl rfl) trivial ?_
      refine ck_nil ?_
      exact ⟨k + 1, by omega, by omega, Le.reset [1] (by simp) (by repeat (first | trivial | refine ⟨.inr rfl, ?_⟩)) ⟨by simp [NoN], NoN.of_pure _ (pure_slS l), trivial, trivial, trivial⟩ ⟨by rw [if_neg (by decide), hie]; exact ⟨rfl, trivial⟩, by rw [if_pos (by decide)], trivial⟩⟩
  · have hge : k = l.length := by have h0 := of_decide_eq_false hb; omega
    refine aw_exit ?_
    refine aw_seq ?_
    rw [hge]
    refine aw_le (Le.freezeMap 3 0 rfl rfl) ?_
    refine aw_text rfl ?_
    refine ch_v (R := []) rfl rfl (oc_move (x := .fm _ _ _ _) rfl rfl) trivial ?_
    refine ch_v (R := []) rfl rfl (oc_assign (x := .fm _ _ _ _) rfl rfl) trivial ?_
    refine ck_nil ?_
    refine aw_ret ?_
    exact ⟨.inl rfl, ResOk.tmp rfl rfl, trivial⟩
end Go.Proofs.YtfbpbpapfkimfaaDoor
