/- Chapter 8: what is packed comes back. No program stands in this text. Chapter 8: Make, walked. Chapter 8: a made pool has its texts. No program stands in this text. Chapter 8: Right, few, small, walked. -/
import Derived.Test.YtpbaiighifhfnaaDoorPi
import Derived.Test.YtpbaiighifhfnaaDoorProg
import Derived.KernelRfl
namespace Go.Proofs.YtpbaiighifhfnaaDoor
set_option linter.unusedSimpArgs false
set_option linter.unusedVariables false
theorem aCodes_app2 (l m : List Int) : aCodes (l ++ m) = aCodes l ++ aCodes m := by simp [aCodes]
theorem cut_join (s : ByteArray) (ab : List ByteArray) : joinB ab (cutP s ab) = tB s := by
  unfold cutP
  rw [cutF_join _ _ _ _ (by omega) (Nat.le_refl _) (Nat.zero_le _)]
  rfl
theorem cut_good (s : ByteArray) (ab : List ByteArray) : ∀ p ∈ cutP s ab, badP ab p = false := cutF_ok (s := s) (ab := ab) (s.size + 1) 0 0 [] (fun p hp => by simp at hp)
theorem isText_iff (l : List Int) : isTextB l = true ↔ l.length ≤ 1024 ∧ ∀ c ∈ l, tOkB c = true := by
  unfold isTextB
  simp only [Bool.and_eq_true, List.all_eq_true, decide_eq_true_eq]
theorem isText_sub {l m : List Int} (h : isTextB m = true) (hs : ∀ c ∈ l, c ∈ m) (hl : l.length ≤ m.length) : isTextB l = true := by
  rw [isText_iff] at h ⊢
  exact ⟨by omega, fun c hc => h.2 c (hs c hc)⟩
theorem cut_text {s : ByteArray} {ab : List ByteArray} (h : isTextB (tB s) = true) {p : PieceP} (hp : p ∈ cutP s ab) (h0 : ¬ p.2 > 0) : isTextB (tB p.1) = true := by
  have hj := cut_join s ab
  have ht : textP ab p = p.1 := by unfold textP; rw [if_neg h0]
  refine isText_sub h (fun c hc => ?_) ?_
  · rw [← hj]
    unfold joinB
    exact List.mem_flatMap.2 ⟨p, hp, by rw [ht]; exact hc⟩
  · rw [← hj]
    unfold joinB
    obtain ⟨a, b, e⟩ := List.append_of_mem hp
    rw [e, List.flatMap_append, List.flatMap_cons, List.length_append, List.length_append, ht]
    omega
theorem piecesC_eq (l : List PieceP) : ∀ k, k ≤ l.length → piecesC l k = (l.take k).flatMap pieceC
  | 0, _ => by simp [piecesC]
  | k + 1, hk => by
    rw [codes_step, piecesC_eq l k (by omega), List.take_succ_eq_append_getElem (by omega), List.flatMap_append]
    simp [List.getD, List.getElem?_eq_getElem (show k < l.length by omega)]
theorem packed_eq (s : ByteArray) (ab : List ByteArray) : packedP s ab = (cutP s ab).flatMap pieceC := by
  unfold packedP
  rw [piecesC_eq _ _ (Nat.le_refl _), List.take_length]
theorem pieceC_text {p : PieceP} (h0 : ¬ p.2 > 0) (h : isTextB (tB p.1) = true) : pieceC p = aCodes (tB p.1) := by
  unfold pieceC aTextCodes
  rw [if_neg h0, if_pos h]
theorem aCodes_cost : ∀ l : List Int, ((aCodes l).length : Int) = costB l
  | [] => rfl
  | c :: l => by
    have h := aCodes_cost l
    show ((aSort c ++ aCodes l).length : Int) = _
    rw [List.length_append]
    unfold costB at h ⊢
    rw [List.map_cons, List.sum_cons, ← h]
    omega
theorem pieceC_cost {s : ByteArray} {ab : List ByteArray} (h : isTextB (tB s) = true) {p : PieceP} (hp : p ∈ cutP s ab) : ((pieceC p).length : Int) = pcost p := by
  by_cases h0 : p.2 > 0
  · unfold pieceC pcost
    rw [if_pos h0, if_pos h0]
    rfl
  · rw [pieceC_text h0 (cut_text h hp h0), aCodes_cost]
    unfold pcost
    rw [if_neg h0, costS_tB]
theorem flat_cost {l : List PieceP} (h : ∀ p ∈ l, ((pieceC p).length : Int) = pcost p) : ((l.flatMap pieceC).length : Int) = sumP l := by
  induction l with
  | nil => rfl
  | cons p l ih =>
    have h1 := h p (List.mem_cons_self ..)
    have h2 := ih fun q hq => h q (List.mem_cons_of_mem _ hq)
    rw [List.flatMap_cons, List.length_append]
    unfold sumP at h2 ⊢
    rw [List.map_cons, List.sum_cons, ← h1, ← h2]
    omega
theorem packed_len {s : ByteArray} (ab : List ByteArray) (h : isTextB (tB s) = true) : ((packedP s ab).length : Int) = costP (cutP s ab) (cutP s ab).length ∧ ((packedP s ab).length : Int) ≤ costS s := by
  have e : ((packedP s ab).length : Int) = costP (cutP s ab) (cutP s ab).length := by
    rw [packed_eq, flat_cost fun p hp => pieceC_cost h hp, costP_all]
  refine ⟨e, ?_⟩
  rw [e, cut_cost]
  exact least_le s ab
theorem aSort_bd (c : Int) (h : tOkB c = true) : ∀ x ∈ aSort c, 0 ≤ x ∧ x < 31 := by
  have hs : ∀ k, aSign c = some k → k < 31 := fun k hk => by
    unfold aSign at hk
    have := List.findIdx?_eq_some_iff_getElem.1 hk
    obtain ⟨h1, _⟩ := this
    exact h1
  have hc : 10 ≤ c ∧ c ≤ 126 := by
    unfold tOkB at h
    simp only [Bool.or_eq_true, Bool.and_eq_true, decide_eq_true_eq, beq_iff_eq] at h
    omega
  intro x hx
  unfold aSort at hx
  split at hx
  · simp at hx; omega
  · split at hx
    · simp at hx; omega
    · split at hx
      · simp at hx; omega
      · split at hx
        · rename_i k hk
          have := hs k hk
          simp at hx
          omega
        · split at hx
          · simp at hx
          · simp at hx; omega
theorem aCodes_bd {l : List Int} (h : ∀ c ∈ l, tOkB c = true) : ∀ x ∈ aCodes l, 0 ≤ x ∧ x < 31 := fun x hx => by
  obtain ⟨c, hc, hm⟩ := List.mem_flatMap.1 hx
  exact aSort_bd c (h c hc) x hm
theorem packed_bd {s : ByteArray} {ab : List ByteArray} (h : isTextB (tB s) = true) (ha : ab.length ≤ 31) : ∀ x ∈ packedP s ab, 0 ≤ x ∧ x < 31 := by
  rw [packed_eq]
  intro x hx
  obtain ⟨p, hp, hm⟩ := List.mem_flatMap.1 hx
  have hg := cut_good s ab p hp
  unfold badP at hg
  simp only [Bool.or_eq_false_iff, decide_eq_false_iff_not] at hg
  by_cases h0 : p.2 > 0
  · unfold pieceC at hm
    rw [if_pos h0] at hm
    simp at hm
    omega
  · rw [pieceC_text h0 (cut_text h hp h0)] at hm
    exact aCodes_bd (isText_ok (cut_text h hp h0)) x hm
/-! ### Said back -/
theorem aSort_head (c : Int) (h : tOkB c = true) : (aSort c).getD 0 0 ≠ 30 ∧ wideC ((aSort c).getD 0 0) = (aSort c).length := by
  have hc : 10 ≤ c ∧ c ≤ 126 := by
    unfold tOkB at h
    simp only [Bool.or_eq_true, Bool.and_eq_true, decide_eq_true_eq, beq_iff_eq] at h
    omega
  unfold aSort
  split
  · decide
  · split
    · rename_i h1
      refine ⟨by simp; omega, ?_⟩
      unfold wideC
      simp
      rw [if_neg (by omega), if_neg (by omega)]
    · split
      · exact ⟨by simp, rfl⟩
      · split
        · exact ⟨by simp, rfl⟩
        · split
          · rename_i hn h1
            have hc2 : c = 10 := by unfold tOkB at h; simp only [decide_eq_true_eq] at h; omega
            subst hc2
            exact absurd hn (by decide)
          · exact ⟨by simp, rfl⟩
/-- The run over codes of a text. -/
theorem runF_codes (rest : List Int) : ∀ (t : List Int) (pre : List Int) (f : Nat), (∀ c ∈ t, tOkB c = true) → (aCodes t).length < f → runF (pre ++ (aCodes t ++ rest)) f pre.length = runF (pre ++ (aCodes t ++ rest)) (f - t.length) (pre.length + (aCodes t).length)
  | [], pre, f, _, _ => by simp [aCodes]
  | c :: t, pre, f, h, hf => by
    have hc := h c (List.mem_cons_self ..)
    obtain ⟨h1, h2⟩ := aSort_head c hc
    have h3 := aSort_pos c hc
    have e : aCodes (c :: t) = aSort c ++ aCodes t := rfl
    rw [e, List.length_append] at hf
    obtain ⟨f, rfl⟩ : ∃ g, f = g + 1 := ⟨f - 1, by omega⟩
    have hg : (pre ++ (aCodes (c :: t) ++ rest)).getD pre.length 0 = (aSort c).getD 0 0 := by
      rw [e, List.getD, List.getD, List.getElem?_append_right (Nat.le_refl _), Nat.sub_self, List.append_assoc, List.getElem?_append_left h3]
    have hn : pre.length < (pre ++ (aCodes (c :: t) ++ rest)).length := by rw [e]; simp only [List.length_append]; omega
    have ih := runF_codes rest t (pre ++ aSort c) f (fun x hx => h x (List.mem_cons_of_mem _ hx)) (by omega)
    have e2 : pre ++ aSort c ++ (aCodes t ++ rest) = pre ++ (aCodes (c :: t) ++ rest) := by rw [e]; simp only [List.append_assoc]
    rw [e2, List.length_append] at ih
    show (if _ then _ else _) = _
    rw [if_pos ⟨hn, by rw [hg]; exact h1⟩, hg, h2, ih, e, List.length_append, List.length_cons, Nat.add_sub_add_right]
    congr 1
    omega
theorem aCodes_ge' {t : List Int} (h : ∀ c ∈ t, tOkB c = true) : t.length ≤ (aCodes t).length := aCodes_ge t h
theorem runN_codes {t rest : List Int} (h : ∀ c ∈ t, tOkB c = true) (hr : rest.length = 0 ∨ rest.getD 0 0 = 30) : runN (aCodes t ++ rest) = (aCodes t).length := by
  have h1 := runF_codes rest t [] ((aCodes t ++ rest).length + 1) h (by rw [List.length_append]; omega)
  simp only [List.nil_append, List.length_nil, Nat.zero_add] at h1
  refine runN_stop h1 ?_
  rintro ⟨h2, h3⟩
  rcases hr with hr | hr
  · rw [List.length_append] at h2; omega
  · refine h3 ?_
    rw [List.getD, List.getElem?_append_right (Nat.le_refl _), Nat.sub_self]
    exact hr
theorem said_text {ab : List ByteArray} {g : Nat} {t rest : List Int} {out : ByteArray} (h : isTextB t = true) (h0 : t ≠ []) (hr : rest.length = 0 ∨ rest.getD 0 0 = 30) : saidF ab (g + 1) (aCodes t ++ rest) out = saidF ab g rest (out ++ strOfNums t) := by
  have hok := isText_ok h
  have hpos : 0 < (aCodes t).length := by
    have := aCodes_ge' hok
    have := List.length_pos_iff.2 h0
    omega
  obtain ⟨c, t', rfl⟩ : ∃ c t', t = c :: t' := by
    cases t with
    | nil => exact absurd rfl h0
    | cons c t' => exact ⟨c, t', rfl⟩
  have hh := aSort_head c (hok c (List.mem_cons_self ..))
  have hg : (aCodes (c :: t') ++ rest).getD 0 0 ≠ 30 := by
    have h3 := aSort_pos c (hok c (List.mem_cons_self ..))
    rw [show aCodes (c :: t') = aSort c ++ aCodes t' from rfl, List.append_assoc, List.getD, List.getElem?_append_left h3]
    exact hh.1
  have hn := runN_codes hok hr
  rw [said_step (by rw [List.length_append]; omega), if_neg hg, hn, if_neg (by rw [List.length_append]; omega), List.take_left, List.drop_left, aText_yes h rfl, if_neg (fun hc => hc rfl)]
theorem said_pieces {ab : List ByteArray} (hab : ab.length ≤ 32) : ∀ (l : List PieceP) (t : List Int) (g : Nat) (out : ByteArray), (∀ p ∈ l, badP ab p = false) → (∀ p ∈ l, ¬ p.2 > 0 → isTextB (tB p.1) = true) → t.length + (l.flatMap fun p => if p.2 > 0 then [] else tB p.1).length ≤ 1024 → (∀ c ∈ t, tOkB c = true) → (aCodes t ++ l.flatMap pieceC).length < g → saidF ab g (aCodes t ++ l.flatMap pieceC) out = (out ++ strOfNums t ++ strOfNums (joinB ab l), 0)
  | [], t, g, out, _, _, hl, ht, hg => by
    simp only [List.flatMap_nil, List.append_nil, List.length_nil, Nat.add_zero] at hl hg ⊢
    rw [show joinB ab [] = [] from rfl, app_emp]
    by_cases h0 : t = []
    · subst h0
      rw [show aCodes [] = [] from rfl, said_end (by simp) (by omega), app_emp]
    · obtain ⟨g, rfl⟩ : ∃ g', g = g' + 1 := ⟨g - 1, by omega⟩
      have := said_text (ab := ab) (g := g) (t := t) (rest := []) (out := out) (by rw [isText_iff]; exact ⟨hl, ht⟩) h0 (.inl rfl)
      rw [List.append_nil] at this
      have h3 := aCodes_ge' ht
      have h4 := List.length_pos_iff.2 h0
      rw [this, said_end (by simp) (by omega)]
  | p :: l, t, g, out, hb, hx, hl, ht, hg => by
    have hb' : ∀ q ∈ l, badP ab q = false := fun q hq => hb q (List.mem_cons_of_mem _ hq)
    have hx' : ∀ q ∈ l, ¬ q.2 > 0 → isTextB (tB q.1) = true := fun q hq => hx q (List.mem_cons_of_mem _ hq)
    have hj : joinB ab (p :: l) = tB (textP ab p) ++ joinB ab l := rfl
    rw [List.flatMap_cons] at hl hg ⊢
    by_cases h0 : p.2 > 0
    · have hpb := hb p (List.mem_cons_self ..)
      unfold badP at hpb
      simp only [Bool.or_eq_false_iff, decide_eq_false_iff_not] at hpb
      have hpc : pieceC p = [30, p.2 - 1] := by unfold pieceC; rw [if_pos h0]
      have htx : textP ab p = ab.getD (p.2 - 1).toNat ByteArray.empty := by unfold textP; rw [if_pos h0]
      rw [if_pos h0, List.nil_append] at hl
      rw [hpc] at hg ⊢
      have two : ∀ (g : Nat) (o : ByteArray), (l.flatMap pieceC).length + 2 < g → saidF ab g ([30, p.2 - 1] ++ l.flatMap pieceC) o = (o ++ strOfNums (joinB ab (p :: l)), 0) := fun g o hg2 => by
        obtain ⟨g, rfl⟩ : ∃ g', g = g' + 1 := ⟨g - 1, by omega⟩
        have ih := said_pieces hab l [] g (o ++ ab.getD (p.2 - 1).toNat ByteArray.empty) hb' hx' (by simpa using (by omega : (l.flatMap fun p => if p.2 > 0 then [] else tB p.1).length ≤ 1024)) (fun c hc => by cases hc) (by rw [show aCodes [] = [] from rfl, List.nil_append]; omega)
        rw [show aCodes [] = [] from rfl, List.nil_append, app_emp] at ih
        rw [said_step (by simp), if_pos (by rfl), if_neg (by simp), show ([30, p.2 - 1] ++ l.flatMap pieceC).getD 1 0 = p.2 - 1 from rfl, if_neg (by omega), show ([30, p.2 - 1] ++ l.flatMap pieceC).drop 2 = l.flatMap pieceC from rfl, ih, hj, htx]
        refine Prod.ext (tB_inj ?_) rfl
        simp only [tB_append]
        rw [List.append_assoc]
        congr 1
        rw [← str_tB (ab.getD (p.2 - 1).toNat ByteArray.empty)]
        have hbt : Bts (joinB ab l) := fun c hc => by
          obtain ⟨q, _, hq⟩ := List.mem_flatMap.1 hc
          exact tB_bts _ c hq
        rw [tB_str hbt, str_tB, tB_str ((tB_bts _).append hbt)]
      by_cases ht0 : t = []
      · subst ht0
        rw [show aCodes [] = [] from rfl, List.nil_append] at hg ⊢
        rw [two g out (by simp only [List.length_append, List.length_cons, List.length_nil] at hg; omega), app_emp]
      · obtain ⟨g, rfl⟩ : ∃ g', g = g' + 1 := ⟨g - 1, by omega⟩
        have h3 := aCodes_ge' ht
        have h4 := List.length_pos_iff.2 ht0
        rw [said_text (by rw [isText_iff]; exact ⟨by omega, ht⟩) ht0 (.inr rfl), two g _ (by simp only [List.length_append, List.length_cons, List.length_nil] at hg; omega)]
    · have hpt := hx p (List.mem_cons_self ..) h0
      have htx : textP ab p = p.1 := by unfold textP; rw [if_neg h0]
      rw [if_neg h0, List.length_append] at hl
      rw [pieceC_text h0 hpt] at hg ⊢
      rw [← List.append_assoc, ← aCodes_app2] at hg ⊢
      have hok : ∀ c ∈ t ++ tB p.1, tOkB c = true := fun c hc => by
        rcases List.mem_append.1 hc with h | h
        · exact ht c h
        · exact isText_ok hpt c h
      rw [said_pieces hab l (t ++ tB p.1) g out hb' hx' (by rw [List.length_append]; omega) hok hg, hj, htx]
      refine Prod.ext (tB_inj ?_) rfl
      have hbt : Bts (joinB ab l) := fun c hc => by
        obtain ⟨q, _, hq⟩ := List.mem_flatMap.1 hc
        exact tB_bts _ c hq
      have htb : Bts t := tOk_bts ht
      simp only [tB_append]
      rw [tB_str (htb.append (tB_bts _)), tB_str hbt, tB_str htb, tB_str ((tB_bts _).append hbt)]
      simp only [List.append_assoc]
theorem flat_le {ab : List ByteArray} (l : List PieceP) : (l.flatMap fun p => if p.2 > 0 then [] else tB p.1).length ≤ (joinB ab l).length := by
  induction l with
  | nil => exact Nat.le_refl _
  | cons p l ih =>
    rw [List.flatMap_cons, show joinB ab (p :: l) = tB (textP ab p) ++ joinB ab l from rfl, List.length_append, List.length_append]
    by_cases h0 : p.2 > 0
    · rw [if_pos h0, List.length_nil]; omega
    · rw [if_neg h0, show textP ab p = p.1 from by unfold textP; rw [if_neg h0]]; omega
/-- **What is packed is read back.** -/
theorem packed_back {s : ByteArray} {ab : List ByteArray} (h : isTextB (tB s) = true) (ha : ab.length ≤ 31) : unpackedP (packedP s ab) ab = (s, 0) := by
  have hj := cut_join s ab
  have hfl := flat_le (ab := ab) (cutP s ab)
  rw [hj] at hfl
  have hlen := ((isText_iff _).1 h).1
  have := said_pieces (ab := ab) (by omega) (cutP s ab) [] ((packedP s ab).length + 1) ByteArray.empty (cut_good s ab) (fun p hp h0 => cut_text h hp h0) (by simp only [List.length_nil]; omega) (fun c hc => by cases hc) (by rw [show aCodes [] = [] from rfl, List.nil_append, ← packed_eq]; omega)
  rw [show aCodes [] = [] from rfl, List.nil_append, ← packed_eq, app_emp, hj, str_tB] at this
  have he : ByteArray.empty ++ s = s := tB_inj (by rw [tB_append]; rfl)
  rw [he] at this
  rw [unpacked_said]
  unfold saidP finP
  rw [this, if_neg (fun hc => hc rfl), if_pos h]
end Go.Proofs.YtpbaiighifhfnaaDoor
namespace Go.Proofs.YtpbaiighifhfnaaDoor
open Go.RowKit
set_option maxRecDepth 100000
set_option linter.unusedVariables false
set_option linter.unusedSimpArgs false
/-- The places, the bytes of texts. -/
def mkK (ab l : List ByteArray) : Nat → List Int × List Int
  | 0 => ([], [])
  | k + 1 => ((mkK ab l k).1 ++ [((mkK ab l k).2.length : Int)], (mkK ab l k).2 ++ aPack (packedP (l.getD k ByteArray.empty) ab))
def allText (l : List ByteArray) : Bool := (List.range l.length).all fun k => isTextB (tB (l.getD k ByteArray.empty))
noncomputable def makeP (l : List ByteArray) : PoolP × Int :=
  if (l.length : Int) > 4096 then (noPool, 7) else if allText l = true then (⟨chooseP l 31, (mkK (chooseP l 31) l l.length).1, (mkK (chooseP l 31) l l.length).2⟩, 0) else (noPool, 13)
theorem make_many {l : List ByteArray} (h : (l.length : Int) > 4096) : makeP l = (noPool, 7) := by unfold makeP; rw [if_pos h]
theorem make_text {l : List ByteArray} {k : Nat} (h : ¬ (l.length : Int) > 4096) (hk : k < l.length) (ht : ¬ isTextB (tB (l.getD k ByteArray.empty)) = true) : makeP l = (noPool, 13) := by
  unfold makeP
  rw [if_neg h, if_neg]
  intro ha
  unfold allText at ha
  rw [rall_false (p := fun k => isTextB (tB (l.getD k ByteArray.empty))) hk (by simpa using ht)] at ha
  cases ha
theorem make_ok {l : List ByteArray} (h : ¬ (l.length : Int) > 4096) (ht : ∀ j, j < l.length → isTextB (tB (l.getD j ByteArray.empty)) = true) : makeP l = (⟨chooseP l 31, (mkK (chooseP l 31) l l.length).1, (mkK (chooseP l 31) l l.length).2⟩, 0) := by
  unfold makeP
  rw [if_neg h, if_pos (show allText l = true from rall_true (p := fun k => isTextB (tB (l.getD k ByteArray.empty))) ht)]
theorem pair_pool {p q : PoolP × Int} (h : p = q) : Av.tup [poolAv p.1, vi p.2] = .tup [poolAv q.1, vi q.2] := by rw [h]
theorem nil_pool (E : Env) (v : Value) (h : Rep E (.agg [.val (.slice none 0 0), .val (.slice none 0 0), .val (.slice none 0 0)]) v) : Rep E (poolAv noPool) v := rep_agg (ys := [slS [], slI [], bs []]) h rfl fun E i x y hx hy v h => by
  rcases i with _ | _ | _ | i <;> simp at hx hy <;> subst hx <;> subst hy <;> exact rep_nil (by decide) E v h
def bw (n : Int) : Av := .val (.int .u8 n)
theorem app_bw (l : List Int) : ∀ j, j < l.length → szB (bv l j) 1 = true ∧ ∀ i y, i < 1 → (l.map bw)[j * 1 + i]? = some y → (flatA (bv l j))[i]? = some y := row_one (fun j y hy => by
  rw [List.getElem?_map] at hy
  cases h : l[j]? with
  | none => rw [h] at hy; cases hy
  | some z => rw [h] at hy; simp at hy; subst hy; simp [bv, bw, List.getD, h]) (fun j hj => ⟨rfl, rfl⟩)
theorem row_bw (l : List Int) : ∀ j, j < l.length → (l.map bw)[j]? = some (bv l j) ∧ oneA (bv l j) = true := fun j hj => ⟨by simp [hj, bw, bv], rfl⟩
theorem ren_mapbw (π : Nat → Nat) (l : List Int) : (l.map bw).map (Av.ren π) = l.map bw := by rw [List.map_map]; rfl
theorem non_bw {Z : List Nat} (l : List Int) : ∀ z ∈ l.map bw, NoN Z z := fun z hz => by
  obtain ⟨x, _, rfl⟩ := List.mem_map.1 hz
  exact NoN.of_pure _ (by simp [Pure, bw])
theorem pack_small {s : ByteArray} (ab : List ByteArray) (h : isTextB (tB s) = true) : s.size ≤ 1024 ∧ (packedP s ab).length ≤ 3072 ∧ (aPack (packedP s ab)).length ≤ 1922 := by
  have h1 := ((isText_iff _).1 h).1
  rw [tB_len] at h1
  have h2 := (packed_len ab h).2
  have h3 : costS s ≤ 3 * (s.size : Int) := (cst_bd s s.size).2
  have h4 := aPack_len (packedP s ab)
  omega
theorem mk_len {ab l : List ByteArray} : ∀ k, (∀ j, j < k → isTextB (tB (l.getD j ByteArray.empty)) = true) → (mkK ab l k).1.length = k ∧ (mkK ab l k).2.length ≤ 1922 * k
  | 0, _ => ⟨rfl, Nat.zero_le _⟩
  | k + 1, h => by
    have h1 := mk_len (ab := ab) (l := l) k fun j hj => h j (by omega)
    have h2 := (pack_small ab (h k (by omega))).2.2
    show ((mkK ab l k).1 ++ _).length = _ ∧ ((mkK ab l k).2 ++ _).length ≤ _
    rw [List.length_append, List.length_append]
    simp only [List.length_cons, List.length_nil]
    omega
theorem choose_sz {l : List ByteArray} (h : wt l ≤ 10000) : (∀ k, ((chooseP l 31).getD k ByteArray.empty).size ≤ 8) ∧ (chooseP l 31).length ≤ 31 := by
  refine ⟨fun k => ?_, ?_⟩
  · rcases Nat.lt_or_ge k (chooseP l 31).length with h1 | h1
    · exact (choose_ok h 31 _ (by rw [List.getD, List.getElem?_eq_getElem h1]; exact List.getElem_mem h1)).2
    · rw [List.getD, List.getElem?_eq_none h1]; exact Nat.zero_le _
  · have := (choose_len h 31).1
    omega
noncomputable def rightP (p : PoolP) : Bool := decide ((allP p).2 = 0) && (decide ((makeP (allP p).1).2 = 0) && samePl p (makeP (allP p).1).1)
set_option maxHeartbeats 1600000 in
theorem make_pl_pc (l : List ByteArray) (hl : wt l ≤ 10000) : PC Tryd.prog 10 [slS l] (.tup [poolAv (makeP l).1, vi (makeP l).2]) := by
  obtain ⟨hcs, hcn⟩ := choose_sz hl
  have hll := wt_len l
  have hls := wt_size l
  refine FC.body 6 52 Tryd.func10 rfl (by kernel_rfl) ?_
  refine aw_seq ?_
  refine aw_text rfl ?_
  refine ch_u rfl rfl (oc_alloc (zs := [.slice none 0 0, .slice none 0 0, .slice none 0 0]) (cs := [.val _, .val _, .val _]) 0 rfl (by kernel_rfl) rfl rfl) ⟨rfl, trivial⟩ ?_
  refine ch_v (R := []) rfl rfl (oc_assign (x := .val _) rfl rfl) trivial ?_
  refine ck_nil ?_
  refine aw_seq ?_
  refine aw_seq ?_
  refine aw_text rfl ?_
  refine ch_v (R := []) rfl rfl (oc_move (x := .sl _ _ _) rfl rfl) trivial ?_
  refine ch_v (R := []) rfl rfl (oc_len rfl rfl (by kernel_rfl)) trivial ?_
  refine ch_v (R := []) rfl rfl (oc_binZ rfl rfl rfl rfl) trivial ?_
  refine ck_nil ?_
  refine aw_cond rfl (fun hb => ?_) (fun hb => ?_)
  · have hmany : (l.length : Int) > 4096 := of_decide_eq_true hb
    refine aw_seq ?_
    refine aw_text rfl ?_
    refine ch_v (R := []) rfl rfl (oc_build (pl := [(0, 1), (1, 1), (2, 1)]) (zs := [.slice none 0 0, .slice none 0 0, .slice none 0 0]) (ds := [.val _, .val _, .val _]) rfl (by kernel_rfl) rfl (by kernel_rfl) (by first | rfl | decide) rfl) trivial ?_
    refine ch_n rfl rfl (oc_store_row (x := .agg _) (cs' := [_, _, _]) rfl rfl rfl rfl (by kernel_rfl) (by first | decide | exact Nat.le_of_ble_eq_true rfl | simp) (by first | decide | exact Nat.le_of_ble_eq_true rfl | simp) rfl) ⟨rfl, trivial⟩ ?_
    refine ch_v (R := []) rfl rfl (oc_assign (x := .val _) rfl rfl) trivial ?_
    refine ck_nil ?_
    refine aw_ret ?_
    exact ⟨.inl rfl, by rw [pair_pool (make_many hmany)]; exact ResOk.two rfl ((ResC.row rfl rfl (by kernel_rfl) (by kernel_rfl) (Nat.le_of_ble_eq_true rfl)).to nil_pool) (ResC.tmp rfl), trivial⟩
  · have hmany : ¬ (l.length : Int) > 4096 := of_decide_eq_false hb
    refine aw_skip ?_
    refine aw_seq ?_
    refine aw_seq ?_
    refine aw_text rfl ?_
    refine ch_v (R := []) rfl rfl (oc_move (x := .sl _ _ _) rfl rfl) trivial ?_
    refine ch_v (R := []) rfl rfl (oc_len rfl rfl (by kernel_rfl)) trivial ?_
    refine ch_v (R := []) rfl rfl (oc_move (x := .val _) rfl rfl) trivial ?_
    refine ck_nil ?_
    refine aw_block ?_
    refine aw_loop (ι := Nat) (fun k => ⟨[(0, slS l), (2, .own 0 0), (13, slS l), (14, vi (l.length : Int)), (15, vi k)], [(0, .live 28 [.val (.slice none 0 0), .val (.slice none 0 0), .val (.slice none 0 0)]), (1, .unborn), (2, .unborn), (3, .unborn), (4, .unborn), (5, .unborn)]⟩) (fun k => k ≤ l.length ∧ ∀ j, j < k → isTextB (tB (l.getD j ByteArray.empty)) = true) (fun k => l.length - k) 0 (⟨Nat.zero_le _, fun j hj => absurd hj (by omega)⟩) (Le.sub (by repeat (first | exact trivial | refine ⟨.inr rfl, ?_⟩ | refine ⟨.inr (vi_eq (by omega)), ?_⟩)) (by repeat (first | exact trivial | refine ⟨rfl, ?_⟩))) ?_
    intro k hI
    refine aw_seq ?_
    refine aw_text rfl ?_
    refine ch_v (R := []) rfl rfl (oc_binZ rfl rfl rfl rfl) trivial ?_
    refine ck_nil ?_
    refine aw_seq ?_
    refine aw_cond rfl (fun hb => ?_) (fun hb => ?_)
    · have hlt : k < l.length := by have h0 := of_decide_eq_true hb; omega
      have hsz : (l.getD k ByteArray.empty).size ≤ 1000000 := by have : (l.getD k ByteArray.empty).size ≤ wt l := hls k; omega
      refine aw_skip ?_
      refine aw_seq ?_
      refine aw_block ?_
      refine aw_seq ?_
      refine aw_text rfl ?_
      refine ch_v (R := []) rfl rfl ((by first | exact oc_indexN rfl rfl rfl (by kernel_rfl) (by omega) | exact oc_index rfl rfl rfl (by kernel_rfl) (by omega) (by omega) rfl)) trivial ?_
      refine ch_v (R := []) rfl rfl (oc_load rfl rfl (by kernel_rfl) cells_str) trivial ?_
      refine ch_v (R := []) rfl rfl (oc_assign (x := .val _) rfl rfl) trivial ?_
      refine ck_nil ?_
      refine aw_seq ?_
      refine aw_text rfl ?_
      refine ch_v (R := []) rfl rfl (oc_move (x := .val _) rfl rfl) trivial ?_
      refine ch_v (R := []) rfl rfl (oc_call rfl (by kernel_rfl) (istext_pc (l.getD k ByteArray.empty) (by omega)) rfl (by simp only [PureL, Pure, and_self, pure_slI, pure_slS, rowAv, pieces_pure, pool_pure, bs_pure, implies_true]) (by simp only [PureL, Pure, and_self, pure_slI, pure_slS, rowAv, pieces_pure, pool_pure, bs_pure, implies_true])) trivial ?_
      refine ch_v (R := []) rfl rfl (oc_not rfl rfl) trivial ?_
      refine ck_nil ?_
      refine aw_cond rfl (fun hb => ?_) (fun hb => ?_)
      · have htk : ¬ isTextB (tB (l.getD k ByteArray.empty)) = true := by simpa using hb
        refine aw_seq ?_
        refine aw_text rfl ?_
        refine ch_v (R := []) rfl rfl (oc_build (pl := [(0, 1), (1, 1), (2, 1)]) (zs := [.slice none 0 0, .slice none 0 0, .slice none 0 0]) (ds := [.val _, .val _, .val _]) rfl (by kernel_rfl) rfl (by kernel_rfl) (by first | rfl | decide) rfl) trivial ?_
        refine ch_n rfl rfl (oc_store_row (x := .agg _) (cs' := [_, _, _]) rfl rfl rfl rfl (by kernel_rfl) (by first | decide | exact Nat.le_of_ble_eq_true rfl | simp) (by first | decide | exact Nat.le_of_ble_eq_true rfl | simp) rfl) ⟨rfl, trivial⟩ ?_
        refine ch_v (R := []) rfl rfl (oc_assign (x := .val _) rfl rfl) trivial ?_
        refine ck_nil ?_
        refine aw_ret ?_
        exact ⟨.inl rfl, by rw [pair_pool (make_text hmany hlt htk)]; exact ResOk.two rfl ((ResC.row rfl rfl (by kernel_rfl) (by kernel_rfl) (Nat.le_of_ble_eq_true rfl)).to nil_pool) (ResC.tmp rfl), trivial⟩
      · have htk : isTextB (tB (l.getD k ByteArray.empty)) = true := by simpa using hb
        refine aw_skip ?_
        refine aw_text rfl ?_
        refine ch_v (R := []) rfl rfl (oc_binZ rfl rfl rfl (by first | exact binW_add (by omega) (by omega) | rfl)) trivial ?_
        refine ch_v (R := []) rfl rfl (oc_move (x := .val _) rfl rfl) trivial ?_
        refine ck_nil ?_
        exact ⟨k + 1, ⟨by omega, all_step (p := fun j => isTextB (tB (l.getD j ByteArray.empty)) = true) hI.2 htk⟩, by omega, Le.sub (by repeat (first | exact trivial | refine ⟨.inr rfl, ?_⟩ | refine ⟨.inr (vi_eq (by omega)), ?_⟩)) (by repeat (first | exact trivial | refine ⟨rfl, ?_⟩))⟩
    · have hge : k = l.length := by have h0 := of_decide_eq_false hb; omega
      have hat : ∀ j, j < l.length → isTextB (tB (l.getD j ByteArray.empty)) = true := by rw [← hge]; exact hI.2
      clear hI
      clear hge
      refine aw_exit ?_
      refine aw_seq ?_
      refine aw_text rfl ?_
      refine ch_v (R := []) rfl rfl (oc_move (x := .sl _ _ _) rfl rfl) trivial ?_
      refine ch_v (R := []) rfl rfl (oc_call rfl (by kernel_rfl) (choose_pc l hl 31) rfl (by simp only [PureL, Pure, and_self, pure_slI, pure_slS, rowAv, pieces_pure, pool_pure, bs_pure, implies_true]) (by simp only [PureL, Pure, and_self, pure_slI, pure_slS, rowAv, pieces_pure, pool_pure, bs_pure, implies_true])) trivial ?_
      refine ch_v (R := []) rfl rfl (oc_build (pl := [(0, 1), (1, 1), (2, 1)]) (zs := [.slice none 0 0, .slice none 0 0, .slice none 0 0]) (ds := [.sl _ _ _, .val _, .val _]) rfl (by kernel_rfl) rfl (by kernel_rfl) (by first | rfl | decide) rfl) trivial ?_
      refine ch_u rfl rfl (oc_alloc (zs := [.slice none 0 0, .slice none 0 0, .slice none 0 0]) (cs := [.val _, .val _, .val _]) 1 rfl (by kernel_rfl) rfl rfl) ⟨rfl, trivial⟩ ?_
      refine ch_n rfl rfl (oc_store_row (x := .agg _) (cs' := [_, _, _]) rfl rfl rfl rfl (by kernel_rfl) (by first | decide | exact Nat.le_of_ble_eq_true rfl | simp) (by first | decide | exact Nat.le_of_ble_eq_true rfl | simp) rfl) ⟨rfl, trivial⟩ ?_
      refine ck_nil ?_
      refine aw_seq ?_
      refine aw_seq ?_
      refine aw_text rfl ?_
      refine ch_v (R := []) rfl rfl (oc_move (x := .sl _ _ _) rfl rfl) trivial ?_
      refine ch_v (R := []) rfl rfl (oc_len rfl rfl (by kernel_rfl)) trivial ?_
      refine ch_v (R := []) rfl rfl (oc_move (x := .val _) rfl rfl) trivial ?_
      refine ck_nil ?_
      refine aw_block ?_
      refine aw_le (Le.nameNilCell 1 1 2 1 3 rfl rfl rfl (by decide)) ?_
      refine aw_le (Le.nameNilCell 1 2 3 1 5 rfl rfl rfl (by decide)) ?_
      refine aw_loop (ι := Nat) (fun k => ⟨[(0, slS l), (2, .own 0 0), (6, .own 1 0), (27, slS l), (28, vi (l.length : Int)), (29, vi k)], [(0, .live 28 [.val (.slice none 0 0), .val (.slice none 0 0), .val (.slice none 0 0)]), (1, .live 28 [slS (chooseP l 31), .osl 1 2 ((mkK (chooseP l 31) l k).1.length), .osl 1 3 ((mkK (chooseP l 31) l k).2.length)]), (2, .live 3 ((mkK (chooseP l 31) l k).1.map vi)), (3, .live 5 ((mkK (chooseP l 31) l k).2.map bw)), (4, .unborn), (5, .unborn)]⟩) (fun k => k ≤ l.length) (fun k => l.length - k) 0 (Nat.zero_le _) (Le.sub (by repeat (first | exact trivial | refine ⟨.inr rfl, ?_⟩)) ⟨rfl, rfl, rfl, rfl, rfl, rfl, trivial⟩) ?_
      intro k hI
      refine aw_seq ?_
      refine aw_text rfl ?_
      refine ch_v (R := []) rfl rfl (oc_binZ rfl rfl rfl rfl) trivial ?_
      refine ck_nil ?_
      refine aw_seq ?_
      refine aw_cond rfl (fun hb => ?_) (fun hb => ?_)
      · have hlt : k < l.length := by have h0 := of_decide_eq_true hb; omega
        have htk := hat k hlt
        obtain ⟨hp1, hp2, hp3⟩ := pack_small (chooseP l 31) htk
        have hmk := mk_len (ab := (chooseP l 31)) (l := l) k fun j hj => hat j (by omega)
        refine aw_skip ?_
        refine aw_seq ?_
        refine aw_block ?_
        refine aw_seq ?_
        refine aw_text rfl ?_
        refine ch_v (R := []) rfl rfl ((by first | exact oc_indexN rfl rfl rfl (by kernel_rfl) (by omega) | exact oc_index rfl rfl rfl (by kernel_rfl) (by omega) (by omega) rfl)) trivial ?_
        refine ch_v (R := []) rfl rfl (oc_load rfl rfl (by kernel_rfl) cells_str) trivial ?_
        refine ch_v (R := []) rfl rfl (oc_assign (x := .val _) rfl rfl) trivial ?_
        refine ck_nil ?_
        refine aw_seq ?_
        refine aw_text rfl ?_
        refine ch_v (R := [(_, .live _ _)]) rfl rfl (oc_fieldAddr_own (off := 1) (sz := 1) (r := false) rfl rfl (by first | decide | simp) (by kernel_rfl) (by decide)) ⟨rfl, trivial⟩ ?_
        refine ch_v (R := [(_, .live _ _)]) rfl rfl (oc_load_own rfl rfl (by kernel_rfl) rfl) ⟨rfl, trivial⟩ ?_
        refine ch_v (R := [(_, .live _ _)]) rfl rfl (oc_fieldAddr_own (off := 2) (sz := 1) (r := false) rfl rfl (by first | decide | simp) (by kernel_rfl) (by decide)) ⟨rfl, trivial⟩ ?_
        refine ch_v (R := [(_, .live _ _)]) rfl rfl (oc_load_own rfl rfl (by kernel_rfl) rfl) ⟨rfl, trivial⟩ ?_
        refine ch_v (R := [(_, .live _ _)]) rfl rfl (oc_len_own rfl rfl (by kernel_rfl)) ⟨rfl, trivial⟩ ?_
        refine ch_v (R := []) rfl rfl (oc_buildSlice (ps := [.tmp 37]) (xs := [.val _]) (e := 3) (k := 1) (by_ := 8) (zs := [.int .i64 0]) rfl (by kernel_rfl) (by kernel_rfl) rfl rfl rfl (by decide) (by decide)) trivial ?_
        refine ch_u rfl rfl (oc_append (e := 3) (k := 1) (by_ := 8) (zs := [.int .i64 0]) (cs := (mkK (chooseP l 31) l k).1.map vi) (ds := [vi ((mkK (chooseP l 31) l k).2.length : Int)]) 4 rfl rfl rfl (by kernel_rfl) (by kernel_rfl) rfl (by decide) (by decide) (by simp) rfl (app_one1 _) (by omega) (by omega)) ⟨rfl, rfl, trivial⟩ ?_
        refine ch_v (R := [(_, .live _ _)]) rfl rfl (oc_fieldAddr_own (off := 1) (sz := 1) (r := false) rfl rfl (by first | decide | simp) (by kernel_rfl) (by decide)) ⟨rfl, trivial⟩ ?_
        refine ch_n rfl rfl (oc_store (y := .osl _ _ _) (cs' := [_, _, _]) rfl rfl rfl (by kernel_rfl) (by kernel_rfl) cells_osl (by first | decide | (simp; done) | (simp; omega)) rfl) ⟨rfl, trivial⟩ ?_
        refine ck_nil ?_
        refine aw_draw mixed ?_
        refine ch_v (R := [(_, .live _ _)]) rfl rfl (oc_fieldAddr_own (off := 2) (sz := 1) (r := false) rfl rfl (by first | decide | simp) (by kernel_rfl) (by decide)) ⟨rfl, trivial⟩ ?_
        refine ch_v (R := [(_, .live _ _)]) rfl rfl (oc_load_own rfl rfl (by kernel_rfl) rfl) ⟨rfl, trivial⟩ ?_
        refine ch_v (R := []) rfl rfl (oc_move (x := .val _) rfl rfl) trivial ?_
        refine ch_v (R := [(_, .live _ _)]) rfl rfl (oc_fieldAddr_own (off := 0) (sz := 1) (r := false) rfl rfl (by first | decide | simp) (by kernel_rfl) (by decide)) ⟨rfl, trivial⟩ ?_
        refine ch_v (R := [(_, .live _ _)]) rfl rfl (oc_load_own rfl rfl (by kernel_rfl) rfl) ⟨rfl, trivial⟩ ?_
        refine ch_v (R := []) rfl rfl (oc_call rfl (by kernel_rfl) (packed_pc (l.getD k ByteArray.empty) (chooseP l 31) (by omega) (fun k => Nat.le_trans (hcs k) (by omega)) (by omega)) rfl (by simp only [PureL, Pure, and_self, pure_slI, pure_slS, rowAv, pieces_pure, pool_pure, bs_pure, implies_true]) (by simp only [PureL, Pure, and_self, pure_slI, pure_slS, rowAv, pieces_pure, pool_pure, bs_pure, implies_true])) trivial ?_
        refine ch_v (R := []) rfl rfl (oc_call rfl (by kernel_rfl) (pack_pc (packedP (l.getD k ByteArray.empty) (chooseP l 31)) (by omega)) rfl (by simp only [PureL, Pure, and_self, pure_slI, pure_slS, rowAv, pieces_pure, pool_pure, bs_pure, implies_true]) (by simp only [PureL, Pure, and_self, pure_slI, pure_slS, rowAv, pieces_pure, pool_pure, bs_pure, implies_true])) trivial ?_
        refine ch_u rfl rfl (oc_append (e := 5) (k := 1) (by_ := 1) (zs := [.int .u8 0]) (cs := (mkK (chooseP l 31) l k).2.map bw) (ds := (aPack (packedP (l.getD k ByteArray.empty) (chooseP l 31))).map bw) 5 rfl rfl rfl (by kernel_rfl) (by kernel_rfl) rfl (by decide) (by decide) (by simp) (by simp) (app_bw _) (by omega) (by omega)) ⟨rfl, rfl, trivial⟩ ?_
        refine ch_v (R := [(_, .live _ _)]) rfl rfl (oc_fieldAddr_own (off := 2) (sz := 1) (r := false) rfl rfl (by first | decide | simp) (by kernel_rfl) (by decide)) ⟨rfl, trivial⟩ ?_
        refine ch_n rfl rfl (oc_store (y := .osl _ _ _) (cs' := [_, _, _]) rfl rfl rfl (by kernel_rfl) (by kernel_rfl) cells_osl (by first | decide | (simp; done) | (simp; omega)) rfl) ⟨rfl, trivial⟩ ?_
        refine ck_nil ⟨by kernel_rfl, ?_⟩
        refine aw_text rfl ?_
        refine ch_v (R := []) rfl rfl (oc_binZ rfl rfl rfl (by first | exact binW_add (by omega) (by omega) | rfl)) trivial ?_
        refine ch_v (R := []) rfl rfl (oc_move (x := .val _) rfl rfl) trivial ?_
        refine ck_nil ?_
        exact ⟨k + 1, by omega, by omega, Le.trans (Le.swap (τ := ⟨[(0, slS l), (2, .own 0 0), (6, .own 1 0), (27, slS l), (28, vi (l.length : Int)), (29, vi ((k : Int) + 1))], [(0, .live 28 [.val (.slice none 0 0), .val (.slice none 0 0), .val (.slice none 0 0)]), (1, .live 28 [slS (chooseP l 31), .osl 1 2 ((mkK (chooseP l 31) l k).1.length + 1), .osl 1 5 ((mkK (chooseP l 31) l k).2.length + (aPack (packedP (l.getD k ByteArray.empty) (chooseP l 31))).length)]), (2, .live 3 (((mkK (chooseP l 31) l k).1 ++ [((mkK (chooseP l 31) l k).2.length : Int)]).map vi)), (3, .dead), (4, .dead), (5, .live 5 (((mkK (chooseP l 31) l k).2 ++ (aPack (packedP (l.getD k ByteArray.empty) (chooseP l 31)))).map bw))]⟩) 2 4 (by simp) (by simp) ⟨(ren_pure _ _ (pure_slS _)).symm, rfl, rfl, (ren_pure _ _ (pure_slS _)).symm, rfl, rfl, trivial⟩ ⟨rfl, by show lkH _ 1 = some (Hs.live _ [(slS (chooseP l 31)).ren _, Av.osl 1 4 _, Av.osl 1 5 _]); rw [ren_pure _ _ (pure_slS _)]; rfl, by show lkH _ 4 = some (Hs.live _ ((((mkK (chooseP l 31) l k).1 ++ [((mkK (chooseP l 31) l k).2.length : Int)]).map vi).map _)); rw [ren_mapvi]; simp only [List.map_append]; rfl, rfl, rfl, by show lkH _ 5 = some (Hs.live _ ((((mkK (chooseP l 31) l k).2 ++ (aPack (packedP (l.getD k ByteArray.empty) (chooseP l 31)))).map bw).map _)); rw [ren_mapbw]; simp only [List.map_append]; rfl, trivial⟩) (Le.trans (Le.swap (τ := ⟨[(0, slS l), (2, .own 0 0), (6, .own 1 0), (27, slS l), (28, vi (l.length : Int)), (29, vi ((k : Int) + 1))], [(0, .live 28 [.val (.slice none 0 0), .val (.slice none 0 0), .val (.slice none 0 0)]), (1, .live 28 [slS (chooseP l 31), .osl 1 2 ((mkK (chooseP l 31) l k).1.length + 1), .osl 1 3 ((mkK (chooseP l 31) l k).2.length + (aPack (packedP (l.getD k ByteArray.empty) (chooseP l 31))).length)]), (2, .live 3 (((mkK (chooseP l 31) l k).1 ++ [((mkK (chooseP l 31) l k).2.length : Int)]).map vi)), (3, .live 5 (((mkK (chooseP l 31) l k).2 ++ (aPack (packedP (l.getD k ByteArray.empty) (chooseP l 31)))).map bw)), (4, .dead), (5, .dead)]⟩) 3 5 (by simp) (by simp) ⟨(ren_pure _ _ (pure_slS _)).symm, rfl, rfl, (ren_pure _ _ (pure_slS _)).symm, rfl, rfl, trivial⟩ ⟨rfl, by show lkH _ 1 = some (Hs.live _ [(slS (chooseP l 31)).ren _, Av.osl 1 2 _, Av.osl 1 5 _]); rw [ren_pure _ _ (pure_slS _)]; rfl, by show lkH _ 2 = some (Hs.live _ ((((mkK (chooseP l 31) l k).1 ++ [((mkK (chooseP l 31) l k).2.length : Int)]).map vi).map _)); rw [ren_mapvi]; simp only [List.map_append]; rfl, by show lkH _ 5 = some (Hs.live _ ((((mkK (chooseP l 31) l k).2 ++ (aPack (packedP (l.getD k ByteArray.empty) (chooseP l 31)))).map bw).map _)); rw [ren_mapbw]; simp only [List.map_append]; rfl, rfl, rfl, trivial⟩) (Le.trans (Le.reset (τ := ⟨[(0, slS l), (2, .own 0 0), (6, .own 1 0), (27, slS l), (28, vi (l.length : Int)), (29, vi ((k : Int) + 1))], [(0, .live 28 [.val (.slice none 0 0), .val (.slice none 0 0), .val (.slice none 0 0)]), (1, .live 28 [slS (chooseP l 31), .osl 1 2 ((mkK (chooseP l 31) l k).1.length + 1), .osl 1 3 ((mkK (chooseP l 31) l k).2.length + (aPack (packedP (l.getD k ByteArray.empty) (chooseP l 31))).length)]), (2, .live 3 (((mkK (chooseP l 31) l k).1 ++ [((mkK (chooseP l 31) l k).2.length : Int)]).map vi)), (3, .live 5 (((mkK (chooseP l 31) l k).2 ++ (aPack (packedP (l.getD k ByteArray.empty) (chooseP l 31)))).map bw)), (4, .unborn), (5, .unborn)]⟩) [4, 5] (by simp) ⟨.inr rfl, .inr rfl, .inr rfl, .inr rfl, .inr rfl, .inr rfl, trivial⟩ ⟨NoN.of_pure _ (pure_slS _), by simp [NoN], by simp [NoN], NoN.of_pure _ (pure_slS _), by simp [NoN], by simp [NoN], trivial⟩ ⟨by rw [if_neg (by decide)]; exact ⟨rfl, by simp [NoN]⟩, by rw [if_neg (by decide)]; exact ⟨rfl, by intro z hz; simp only [List.mem_cons, List.not_mem_nil, or_false] at hz; rcases hz with rfl | rfl | rfl; exact NoN.of_pure _ (pure_slS _); simp [NoN]; simp [NoN]⟩, by rw [if_neg (by decide)]; exact ⟨rfl, non_vi _⟩, by rw [if_neg (by decide)]; exact ⟨rfl, non_bw _⟩, by rw [if_pos (by decide)], by rw [if_pos (by decide)], trivial⟩) (Le.sub ⟨.inr rfl, .inr rfl, .inr rfl, .inr rfl, .inr rfl, .inr (vi_eq (by show (k : Int) + 1 = ((k + 1 : Nat) : Int); omega)), trivial⟩ ⟨rfl, by show _ = some (Hs.live _ [slS (chooseP l 31), Av.osl 1 2 ((mkK (chooseP l 31) l k).1 ++ [((mkK (chooseP l 31) l k).2.length : Int)]).length, Av.osl 1 3 ((mkK (chooseP l 31) l k).2 ++ (aPack (packedP (l.getD k ByteArray.empty) (chooseP l 31)))).length]); rw [List.length_append, List.length_append]; rfl, rfl, rfl, rfl, rfl, trivial⟩)))⟩
      · have hge : k = l.length := by have h0 := of_decide_eq_false hb; omega
        subst hge
        have hmk := mk_len (ab := (chooseP l 31)) (l := l) l.length hat
        refine aw_exit ?_
        refine aw_seq ?_
        refine aw_le (Le.freezeCell 1 1 2 (fun j => vi ((mkK (chooseP l 31) l l.length).1.getD j 0)) rfl rfl rfl (by decide) (by simp) (row_vi _)) ?_
        refine aw_le (Le.freezeCell 1 2 3 (bv (mkK (chooseP l 31) l l.length).2) rfl rfl rfl (by decide) (by simp) (row_bw _)) ?_
        refine aw_text rfl ?_
        refine ch_v (R := [(_, .live _ _)]) rfl rfl (oc_load_own_row (k := 3) (ds := [_, _, _]) rfl rfl (by kernel_rfl) (by kernel_rfl) rfl rfl (by decide)) ⟨rfl, trivial⟩ ?_
        refine ch_n rfl rfl (oc_store_row (x := .agg _) (cs' := [_, _, _]) rfl rfl rfl rfl (by kernel_rfl) (by first | decide | exact Nat.le_of_ble_eq_true rfl | simp) (by first | decide | exact Nat.le_of_ble_eq_true rfl | simp) rfl) ⟨rfl, trivial⟩ ?_
        refine ch_v (R := []) rfl rfl (oc_assign (x := .val _) rfl rfl) trivial ?_
        refine ck_nil ?_
        refine aw_ret ?_
        exact ⟨.inl rfl, by rw [pair_pool (make_ok hmany hat)]; exact ResOk.two rfl (ResC.row rfl rfl (by kernel_rfl) (by kernel_rfl) (Nat.le_of_ble_eq_true rfl)) (ResC.tmp rfl), trivial⟩
set_option maxHeartbeats 1600000 in
theorem rmake_pl_pc (l : List ByteArray) (hl : wt l ≤ 10000) : PC Tryd.prog 11 [slS l] (.tup [poolAv (makeP l).1, vi (makeP l).2]) := by
  obtain ⟨hcs, hcn⟩ := choose_sz hl
  have hll := wt_len l
  have hls := wt_size l
  refine FC.body 6 55 Tryd.func11 rfl (by kernel_rfl) ?_
  refine aw_seq ?_
  refine aw_text rfl ?_
  refine ch_u rfl rfl (oc_alloc (zs := [.slice none 0 0, .slice none 0 0, .slice none 0 0]) (cs := [.val _, .val _, .val _]) 0 rfl (by kernel_rfl) rfl rfl) ⟨rfl, trivial⟩ ?_
  refine ch_v (R := []) rfl rfl (oc_assign (x := .val _) rfl rfl) trivial ?_
  refine ck_nil ?_
  refine aw_seq ?_
  refine aw_seq ?_
  refine aw_text rfl ?_
  refine ch_v (R := []) rfl rfl (oc_move (x := .sl _ _ _) rfl rfl) trivial ?_
  refine ch_v (R := []) rfl rfl (oc_len rfl rfl (by kernel_rfl)) trivial ?_
  refine ch_v (R := []) rfl rfl (oc_binZ rfl rfl rfl rfl) trivial ?_
  refine ck_nil ?_
  refine aw_cond rfl (fun hb => ?_) (fun hb => ?_)
  · have hmany : (l.length : Int) > 4096 := of_decide_eq_true hb
    refine aw_seq ?_
    refine aw_text rfl ?_
    refine ch_v (R := []) rfl rfl (oc_build (pl := [(0, 1), (1, 1), (2, 1)]) (zs := [.slice none 0 0, .slice none 0 0, .slice none 0 0]) (ds := [.val _, .val _, .val _]) rfl (by kernel_rfl) rfl (by kernel_rfl) (by first | rfl | decide) rfl) trivial ?_
    refine ch_n rfl rfl (oc_store_row (x := .agg _) (cs' := [_, _, _]) rfl rfl rfl rfl (by kernel_rfl) (by first | decide | exact Nat.le_of_ble_eq_true rfl | simp) (by first | decide | exact Nat.le_of_ble_eq_true rfl | simp) rfl) ⟨rfl, trivial⟩ ?_
    refine ch_v (R := []) rfl rfl (oc_assign (x := .val _) rfl rfl) trivial ?_
    refine ck_nil ?_
    refine aw_ret ?_
    exact ⟨.inl rfl, by rw [pair_pool (make_many hmany)]; exact ResOk.two rfl ((ResC.row rfl rfl (by kernel_rfl) (by kernel_rfl) (Nat.le_of_ble_eq_true rfl)).to nil_pool) (ResC.tmp rfl), trivial⟩
  · have hmany : ¬ (l.length : Int) > 4096 := of_decide_eq_false hb
    refine aw_skip ?_
    refine aw_seq ?_
    refine aw_seq ?_
    refine aw_text rfl ?_
    refine ch_v (R := []) rfl rfl (oc_assign (x := .val _) rfl rfl) trivial ?_
    refine ck_nil ?_
    refine aw_block ?_
    refine aw_loop (ι := Nat) (fun k => ⟨[(0, slS l), (2, .own 0 0), (4, vi k)], [(0, .live 28 [.val (.slice none 0 0), .val (.slice none 0 0), .val (.slice none 0 0)]), (1, .unborn), (2, .unborn), (3, .unborn), (4, .unborn), (5, .unborn)]⟩) (fun k => k ≤ l.length ∧ ∀ j, j < k → isTextB (tB (l.getD j ByteArray.empty)) = true) (fun k => l.length - k) 0 (⟨Nat.zero_le _, fun j hj => absurd hj (by omega)⟩) (Le.sub (by repeat (first | exact trivial | refine ⟨.inr rfl, ?_⟩ | refine ⟨.inr (vi_eq (by omega)), ?_⟩)) (by repeat (first | exact trivial | refine ⟨rfl, ?_⟩))) ?_
    intro k hI
    refine aw_seq ?_
    refine aw_seq ?_
    refine aw_text rfl ?_
    refine ch_v (R := []) rfl rfl (oc_move (x := .val _) rfl rfl) trivial ?_
    refine ch_v (R := []) rfl rfl (oc_move (x := .sl _ _ _) rfl rfl) trivial ?_
    refine ch_v (R := []) rfl rfl (oc_len rfl rfl (by kernel_rfl)) trivial ?_
    refine ch_v (R := []) rfl rfl (oc_binZ rfl rfl rfl rfl) trivial ?_
    refine ck_nil ?_
    refine aw_cond rfl (fun hb => ?_) (fun hb => ?_)
    · have hlt : k < l.length := by have h0 := of_decide_eq_true hb; omega
      have hsz : (l.getD k ByteArray.empty).size ≤ 1000000 := by have : (l.getD k ByteArray.empty).size ≤ wt l := hls k; omega
      refine aw_skip ?_
      refine aw_seq ?_
      refine aw_block ?_
      refine aw_seq ?_
      refine aw_text rfl ?_
      refine ch_v (R := []) rfl rfl (oc_move (x := .sl _ _ _) rfl rfl) trivial ?_
      refine ch_v (R := []) rfl rfl (oc_move (x := .val _) rfl rfl) trivial ?_
      refine ch_v (R := []) rfl rfl ((by first | exact oc_indexN rfl rfl rfl (by kernel_rfl) (by omega) | exact oc_index rfl rfl rfl (by kernel_rfl) (by omega) (by omega) rfl)) trivial ?_
      refine ch_v (R := []) rfl rfl (oc_load rfl rfl (by kernel_rfl) cells_str) trivial ?_
      refine ch_v (R := []) rfl rfl (oc_call rfl (by kernel_rfl) (ristext_pc (l.getD k ByteArray.empty) (by omega)) rfl (by simp only [PureL, Pure, and_self, pure_slI, pure_slS, rowAv, pieces_pure, pool_pure, bs_pure, implies_true]) (by simp only [PureL, Pure, and_self, pure_slI, pure_slS, rowAv, pieces_pure, pool_pure, bs_pure, implies_true])) trivial ?_
      refine ch_v (R := []) rfl rfl (oc_not rfl rfl) trivial ?_
      refine ck_nil ?_
      refine aw_cond rfl (fun hb => ?_) (fun hb => ?_)
      · have htk : ¬ isTextB (tB (l.getD k ByteArray.empty)) = true := by simpa using hb
        refine aw_seq ?_
        refine aw_text rfl ?_
        refine ch_v (R := []) rfl rfl (oc_build (pl := [(0, 1), (1, 1), (2, 1)]) (zs := [.slice none 0 0, .slice none 0 0, .slice none 0 0]) (ds := [.val _, .val _, .val _]) rfl (by kernel_rfl) rfl (by kernel_rfl) (by first | rfl | decide) rfl) trivial ?_
        refine ch_n rfl rfl (oc_store_row (x := .agg _) (cs' := [_, _, _]) rfl rfl rfl rfl (by kernel_rfl) (by first | decide | exact Nat.le_of_ble_eq_true rfl | simp) (by first | decide | exact Nat.le_of_ble_eq_true rfl | simp) rfl) ⟨rfl, trivial⟩ ?_
        refine ch_v (R := []) rfl rfl (oc_assign (x := .val _) rfl rfl) trivial ?_
        refine ck_nil ?_
        refine aw_ret ?_
        exact ⟨.inl rfl, by rw [pair_pool (make_text hmany hlt htk)]; exact ResOk.two rfl ((ResC.row rfl rfl (by kernel_rfl) (by kernel_rfl) (Nat.le_of_ble_eq_true rfl)).to nil_pool) (ResC.tmp rfl), trivial⟩
      · have htk : isTextB (tB (l.getD k ByteArray.empty)) = true := by simpa using hb
        refine aw_skip ?_
        refine aw_text rfl ?_
        refine ch_v (R := []) rfl rfl (oc_move (x := .val _) rfl rfl) trivial ?_
        refine ch_v (R := []) rfl rfl (oc_binZ rfl rfl rfl (by first | exact binW_add (by omega) (by omega) | rfl)) trivial ?_
        refine ch_v (R := []) rfl rfl (oc_assign (x := .val _) rfl rfl) trivial ?_
        refine ck_nil ?_
        exact ⟨k + 1, ⟨by omega, all_step (p := fun j => isTextB (tB (l.getD j ByteArray.empty)) = true) hI.2 htk⟩, by omega, Le.sub (by repeat (first | exact trivial | refine ⟨.inr rfl, ?_⟩ | refine ⟨.inr (vi_eq (by omega)), ?_⟩)) (by repeat (first | exact trivial | refine ⟨rfl, ?_⟩))⟩
    · have hge : k = l.length := by have h0 := of_decide_eq_false hb; omega
      have hat : ∀ j, j < l.length → isTextB (tB (l.getD j ByteArray.empty)) = true := by rw [← hge]; exact hI.2
      clear hI
      clear hge
      refine aw_exit ?_
      refine aw_seq ?_
      refine aw_text rfl ?_
      refine ch_v (R := []) rfl rfl (oc_move (x := .sl _ _ _) rfl rfl) trivial ?_
      refine ch_v (R := []) rfl rfl (oc_call rfl (by kernel_rfl) ((show PC _ _ [slS l, vi 31] (slS (chooseP l 31)) from choose_alike hl 31 ▸ rchoose_pc l hl 31)) rfl (by simp only [PureL, Pure, and_self, pure_slI, pure_slS, rowAv, pieces_pure, pool_pure, bs_pure, implies_true]) (by simp only [PureL, Pure, and_self, pure_slI, pure_slS, rowAv, pieces_pure, pool_pure, bs_pure, implies_true])) trivial ?_
      refine ch_v (R := []) rfl rfl (oc_build (pl := [(0, 1), (1, 1), (2, 1)]) (zs := [.slice none 0 0, .slice none 0 0, .slice none 0 0]) (ds := [.sl _ _ _, .val _, .val _]) rfl (by kernel_rfl) rfl (by kernel_rfl) (by first | rfl | decide) rfl) trivial ?_
      refine ch_u rfl rfl (oc_alloc (zs := [.slice none 0 0, .slice none 0 0, .slice none 0 0]) (cs := [.val _, .val _, .val _]) 1 rfl (by kernel_rfl) rfl rfl) ⟨rfl, trivial⟩ ?_
      refine ch_n rfl rfl (oc_store_row (x := .agg _) (cs' := [_, _, _]) rfl rfl rfl rfl (by kernel_rfl) (by first | decide | exact Nat.le_of_ble_eq_true rfl | simp) (by first | decide | exact Nat.le_of_ble_eq_true rfl | simp) rfl) ⟨rfl, trivial⟩ ?_
      refine ck_nil ?_
      refine aw_seq ?_
      refine aw_seq ?_
      refine aw_text rfl ?_
      refine ch_v (R := []) rfl rfl (oc_assign (x := .val _) rfl rfl) trivial ?_
      refine ck_nil ?_
      refine aw_block ?_
      refine aw_le (Le.nameNilCell 1 1 2 1 3 rfl rfl rfl (by decide)) ?_
      refine aw_le (Le.nameNilCell 1 2 3 1 5 rfl rfl rfl (by decide)) ?_
      refine aw_loop (ι := Nat) (fun k => ⟨[(0, slS l), (2, .own 0 0), (5, .own 1 0), (6, vi k)], [(0, .live 28 [.val (.slice none 0 0), .val (.slice none 0 0), .val (.slice none 0 0)]), (1, .live 28 [slS (chooseP l 31), .osl 1 2 ((mkK (chooseP l 31) l k).1.length), .osl 1 3 ((mkK (chooseP l 31) l k).2.length)]), (2, .live 3 ((mkK (chooseP l 31) l k).1.map vi)), (3, .live 5 ((mkK (chooseP l 31) l k).2.map bw)), (4, .unborn), (5, .unborn)]⟩) (fun k => k ≤ l.length) (fun k => l.length - k) 0 (Nat.zero_le _) (Le.sub (by repeat (first | exact trivial | refine ⟨.inr rfl, ?_⟩)) ⟨rfl, rfl, rfl, rfl, rfl, rfl, trivial⟩) ?_
      intro k hI
      refine aw_seq ?_
      refine aw_seq ?_
      refine aw_text rfl ?_
      refine ch_v (R := []) rfl rfl (oc_move (x := .val _) rfl rfl) trivial ?_
      refine ch_v (R := []) rfl rfl (oc_move (x := .sl _ _ _) rfl rfl) trivial ?_
      refine ch_v (R := []) rfl rfl (oc_len rfl rfl (by kernel_rfl)) trivial ?_
      refine ch_v (R := []) rfl rfl (oc_binZ rfl rfl rfl rfl) trivial ?_
      refine ck_nil ?_
      refine aw_cond rfl (fun hb => ?_) (fun hb => ?_)
      · have hlt : k < l.length := by have h0 := of_decide_eq_true hb; omega
        have htk := hat k hlt
        obtain ⟨hp1, hp2, hp3⟩ := pack_small (chooseP l 31) htk
        have hmk := mk_len (ab := (chooseP l 31)) (l := l) k fun j hj => hat j (by omega)
        refine aw_skip ?_
        refine aw_seq ?_
        refine aw_block ?_
        refine aw_seq ?_
        refine aw_text rfl ?_
        refine ch_v (R := [(_, .live _ _)]) rfl rfl (oc_fieldAddr_own (off := 1) (sz := 1) (r := false) rfl rfl (by first | decide | simp) (by kernel_rfl) (by decide)) ⟨rfl, trivial⟩ ?_
        refine ch_v (R := [(_, .live _ _)]) rfl rfl (oc_load_own rfl rfl (by kernel_rfl) rfl) ⟨rfl, trivial⟩ ?_
        refine ch_v (R := [(_, .live _ _)]) rfl rfl (oc_fieldAddr_own (off := 2) (sz := 1) (r := false) rfl rfl (by first | decide | simp) (by kernel_rfl) (by decide)) ⟨rfl, trivial⟩ ?_
        refine ch_v (R := [(_, .live _ _)]) rfl rfl (oc_load_own rfl rfl (by kernel_rfl) rfl) ⟨rfl, trivial⟩ ?_
        refine ch_v (R := [(_, .live _ _)]) rfl rfl (oc_len_own rfl rfl (by kernel_rfl)) ⟨rfl, trivial⟩ ?_
        refine ch_v (R := []) rfl rfl (oc_buildSlice (ps := [.tmp 37]) (xs := [.val _]) (e := 3) (k := 1) (by_ := 8) (zs := [.int .i64 0]) rfl (by kernel_rfl) (by kernel_rfl) rfl rfl rfl (by decide) (by decide)) trivial ?_
        refine ch_u rfl rfl (oc_append (e := 3) (k := 1) (by_ := 8) (zs := [.int .i64 0]) (cs := (mkK (chooseP l 31) l k).1.map vi) (ds := [vi ((mkK (chooseP l 31) l k).2.length : Int)]) 4 rfl rfl rfl (by kernel_rfl) (by kernel_rfl) rfl (by decide) (by decide) (by simp) rfl (app_one1 _) (by omega) (by omega)) ⟨rfl, rfl, trivial⟩ ?_
        refine ch_v (R := [(_, .live _ _)]) rfl rfl (oc_fieldAddr_own (off := 1) (sz := 1) (r := false) rfl rfl (by first | decide | simp) (by kernel_rfl) (by decide)) ⟨rfl, trivial⟩ ?_
        refine ch_n rfl rfl (oc_store (y := .osl _ _ _) (cs' := [_, _, _]) rfl rfl rfl (by kernel_rfl) (by kernel_rfl) cells_osl (by first | decide | (simp; done) | (simp; omega)) rfl) ⟨rfl, trivial⟩ ?_
        refine ck_nil ?_
        refine aw_draw mixed ?_
        refine ch_v (R := [(_, .live _ _)]) rfl rfl (oc_fieldAddr_own (off := 2) (sz := 1) (r := false) rfl rfl (by first | decide | simp) (by kernel_rfl) (by decide)) ⟨rfl, trivial⟩ ?_
        refine ch_v (R := [(_, .live _ _)]) rfl rfl (oc_load_own rfl rfl (by kernel_rfl) rfl) ⟨rfl, trivial⟩ ?_
        refine ch_v (R := []) rfl rfl (oc_move (x := .sl _ _ _) rfl rfl) trivial ?_
        refine ch_v (R := []) rfl rfl (oc_move (x := .val _) rfl rfl) trivial ?_
        refine ch_v (R := []) rfl rfl ((by first | exact oc_indexN rfl rfl rfl (by kernel_rfl) (by omega) | exact oc_index rfl rfl rfl (by kernel_rfl) (by omega) (by omega) rfl)) trivial ?_
        refine ch_v (R := []) rfl rfl (oc_load rfl rfl (by kernel_rfl) cells_str) trivial ?_
        refine ch_v (R := [(_, .live _ _)]) rfl rfl (oc_fieldAddr_own (off := 0) (sz := 1) (r := false) rfl rfl (by first | decide | simp) (by kernel_rfl) (by decide)) ⟨rfl, trivial⟩ ?_
        refine ch_v (R := [(_, .live _ _)]) rfl rfl (oc_load_own rfl rfl (by kernel_rfl) rfl) ⟨rfl, trivial⟩ ?_
        refine ch_v (R := []) rfl rfl (oc_call rfl (by kernel_rfl) ((show PC _ _ [vs (l.getD k ByteArray.empty), slS (chooseP l 31)] (piecesAv (cutP (l.getD k ByteArray.empty) (chooseP l 31))) from cut_alike (l.getD k ByteArray.empty) (chooseP l 31) ▸ rcut_pc (l.getD k ByteArray.empty) (chooseP l 31) (by omega) (fun k => Nat.le_trans (hcs k) (by omega)) (by omega))) rfl (by simp only [PureL, Pure, and_self, pure_slI, pure_slS, rowAv, pieces_pure, pool_pure, bs_pure, implies_true]) (by simp only [PureL, Pure, and_self, pure_slI, pure_slS, rowAv, pieces_pure, pool_pure, bs_pure, implies_true])) trivial ?_
        refine ch_v (R := []) rfl rfl (oc_call rfl (by kernel_rfl) (rcodesP_pc (cutP (l.getD k ByteArray.empty) (chooseP l 31)) (l.getD k ByteArray.empty).size (by omega) (cut_szp (chooseP l 31)).1 (cut_abbr (chooseP l 31)) (by have := (cut_szp (s := (l.getD k ByteArray.empty)) (chooseP l 31)).2; omega)) rfl (by simp only [PureL, Pure, and_self, pure_slI, pure_slS, rowAv, pieces_pure, pool_pure, bs_pure, implies_true]) (by simp only [PureL, Pure, and_self, pure_slI, pure_slS, rowAv, pieces_pure, pool_pure, bs_pure, implies_true])) trivial ?_
        refine ch_v (R := []) rfl rfl (oc_call rfl (by kernel_rfl) ((show PC _ _ [slI (piecesC (cutP (l.getD k ByteArray.empty) (chooseP l 31)) (cutP (l.getD k ByteArray.empty) (chooseP l 31)).length)] (bs (aPack (packedP (l.getD k ByteArray.empty) (chooseP l 31)))) from rpack_pc (packedP (l.getD k ByteArray.empty) (chooseP l 31)) (by omega))) rfl (by simp only [PureL, Pure, and_self, pure_slI, pure_slS, rowAv, pieces_pure, pool_pure, bs_pure, implies_true]) (by simp only [PureL, Pure, and_self, pure_slI, pure_slS, rowAv, pieces_pure, pool_pure, bs_pure, implies_true])) trivial ?_
        refine ch_u rfl rfl (oc_append (e := 5) (k := 1) (by_ := 1) (zs := [.int .u8 0]) (cs := (mkK (chooseP l 31) l k).2.map bw) (ds := (aPack (packedP (l.getD k ByteArray.empty) (chooseP l 31))).map bw) 5 rfl rfl rfl (by kernel_rfl) (by kernel_rfl) rfl (by decide) (by decide) (by simp) (by simp) (app_bw _) (by omega) (by omega)) ⟨rfl, rfl, trivial⟩ ?_
        refine ch_v (R := [(_, .live _ _)]) rfl rfl (oc_fieldAddr_own (off := 2) (sz := 1) (r := false) rfl rfl (by first | decide | simp) (by kernel_rfl) (by decide)) ⟨rfl, trivial⟩ ?_
        refine ch_n rfl rfl (oc_store (y := .osl _ _ _) (cs' := [_, _, _]) rfl rfl rfl (by kernel_rfl) (by kernel_rfl) cells_osl (by first | decide | (simp; done) | (simp; omega)) rfl) ⟨rfl, trivial⟩ ?_
        refine ck_nil ⟨by kernel_rfl, ?_⟩
        refine aw_text rfl ?_
        refine ch_v (R := []) rfl rfl (oc_move (x := .val _) rfl rfl) trivial ?_
        refine ch_v (R := []) rfl rfl (oc_binZ rfl rfl rfl (by first | exact binW_add (by omega) (by omega) | rfl)) trivial ?_
        refine ch_v (R := []) rfl rfl (oc_assign (x := .val _) rfl rfl) trivial ?_
        refine ck_nil ?_
        exact ⟨k + 1, by omega, by omega, Le.trans (Le.swap (τ := ⟨[(0, slS l), (2, .own 0 0), (5, .own 1 0), (6, vi ((k : Int) + 1))], [(0, .live 28 [.val (.slice none 0 0), .val (.slice none 0 0), .val (.slice none 0 0)]), (1, .live 28 [slS (chooseP l 31), .osl 1 2 ((mkK (chooseP l 31) l k).1.length + 1), .osl 1 5 ((mkK (chooseP l 31) l k).2.length + (aPack (packedP (l.getD k ByteArray.empty) (chooseP l 31))).length)]), (2, .live 3 (((mkK (chooseP l 31) l k).1 ++ [((mkK (chooseP l 31) l k).2.length : Int)]).map vi)), (3, .dead), (4, .dead), (5, .live 5 (((mkK (chooseP l 31) l k).2 ++ (aPack (packedP (l.getD k ByteArray.empty) (chooseP l 31)))).map bw))]⟩) 2 4 (by simp) (by simp) ⟨(ren_pure _ _ (pure_slS _)).symm, rfl, rfl, rfl, trivial⟩ ⟨rfl, by show lkH _ 1 = some (Hs.live _ [(slS (chooseP l 31)).ren _, Av.osl 1 4 _, Av.osl 1 5 _]); rw [ren_pure _ _ (pure_slS _)]; rfl, by show lkH _ 4 = some (Hs.live _ ((((mkK (chooseP l 31) l k).1 ++ [((mkK (chooseP l 31) l k).2.length : Int)]).map vi).map _)); rw [ren_mapvi]; simp only [List.map_append]; rfl, rfl, rfl, by show lkH _ 5 = some (Hs.live _ ((((mkK (chooseP l 31) l k).2 ++ (aPack (packedP (l.getD k ByteArray.empty) (chooseP l 31)))).map bw).map _)); rw [ren_mapbw]; simp only [List.map_append]; rfl, trivial⟩) (Le.trans (Le.swap (τ := ⟨[(0, slS l), (2, .own 0 0), (5, .own 1 0), (6, vi ((k : Int) + 1))], [(0, .live 28 [.val (.slice none 0 0), .val (.slice none 0 0), .val (.slice none 0 0)]), (1, .live 28 [slS (chooseP l 31), .osl 1 2 ((mkK (chooseP l 31) l k).1.length + 1), .osl 1 3 ((mkK (chooseP l 31) l k).2.length + (aPack (packedP (l.getD k ByteArray.empty) (chooseP l 31))).length)]), (2, .live 3 (((mkK (chooseP l 31) l k).1 ++ [((mkK (chooseP l 31) l k).2.length : Int)]).map vi)), (3, .live 5 (((mkK (chooseP l 31) l k).2 ++ (aPack (packedP (l.getD k ByteArray.empty) (chooseP l 31)))).map bw)), (4, .dead), (5, .dead)]⟩) 3 5 (by simp) (by simp) ⟨(ren_pure _ _ (pure_slS _)).symm, rfl, rfl, rfl, trivial⟩ ⟨rfl, by show lkH _ 1 = some (Hs.live _ [(slS (chooseP l 31)).ren _, Av.osl 1 2 _, Av.osl 1 5 _]); rw [ren_pure _ _ (pure_slS _)]; rfl, by show lkH _ 2 = some (Hs.live _ ((((mkK (chooseP l 31) l k).1 ++ [((mkK (chooseP l 31) l k).2.length : Int)]).map vi).map _)); rw [ren_mapvi]; simp only [List.map_append]; rfl, by show lkH _ 5 = some (Hs.live _ ((((mkK (chooseP l 31) l k).2 ++ (aPack (packedP (l.getD k ByteArray.empty) (chooseP l 31)))).map bw).map _)); rw [ren_mapbw]; simp only [List.map_append]; rfl, rfl, rfl, trivial⟩) (Le.trans (Le.reset (τ := ⟨[(0, slS l), (2, .own 0 0), (5, .own 1 0), (6, vi ((k : Int) + 1))], [(0, .live 28 [.val (.slice none 0 0), .val (.slice none 0 0), .val (.slice none 0 0)]), (1, .live 28 [slS (chooseP l 31), .osl 1 2 ((mkK (chooseP l 31) l k).1.length + 1), .osl 1 3 ((mkK (chooseP l 31) l k).2.length + (aPack (packedP (l.getD k ByteArray.empty) (chooseP l 31))).length)]), (2, .live 3 (((mkK (chooseP l 31) l k).1 ++ [((mkK (chooseP l 31) l k).2.length : Int)]).map vi)), (3, .live 5 (((mkK (chooseP l 31) l k).2 ++ (aPack (packedP (l.getD k ByteArray.empty) (chooseP l 31)))).map bw)), (4, .unborn), (5, .unborn)]⟩) [4, 5] (by simp) ⟨.inr rfl, .inr rfl, .inr rfl, .inr rfl, trivial⟩ ⟨NoN.of_pure _ (pure_slS _), by simp [NoN], by simp [NoN], by simp [NoN], trivial⟩ ⟨by rw [if_neg (by decide)]; exact ⟨rfl, by simp [NoN]⟩, by rw [if_neg (by decide)]; exact ⟨rfl, by intro z hz; simp only [List.mem_cons, List.not_mem_nil, or_false] at hz; rcases hz with rfl | rfl | rfl; exact NoN.of_pure _ (pure_slS _); simp [NoN]; simp [NoN]⟩, by rw [if_neg (by decide)]; exact ⟨rfl, non_vi _⟩, by rw [if_neg (by decide)]; exact ⟨rfl, non_bw _⟩, by rw [if_pos (by decide)], by rw [if_pos (by decide)], trivial⟩) (Le.sub ⟨.inr rfl, .inr rfl, .inr rfl, .inr (vi_eq (by show (k : Int) + 1 = ((k + 1 : Nat) : Int); omega)), trivial⟩ ⟨rfl, by show _ = some (Hs.live _ [slS (chooseP l 31), Av.osl 1 2 ((mkK (chooseP l 31) l k).1 ++ [((mkK (chooseP l 31) l k).2.length : Int)]).length, Av.osl 1 3 ((mkK (chooseP l 31) l k).2 ++ (aPack (packedP (l.getD k ByteArray.empty) (chooseP l 31)))).length]); rw [List.length_append, List.length_append]; rfl, rfl, rfl, rfl, rfl, trivial⟩)))⟩
      · have hge : k = l.length := by have h0 := of_decide_eq_false hb; omega
        subst hge
        have hmk := mk_len (ab := (chooseP l 31)) (l := l) l.length hat
        refine aw_exit ?_
        refine aw_seq ?_
        refine aw_le (Le.freezeCell 1 1 2 (fun j => vi ((mkK (chooseP l 31) l l.length).1.getD j 0)) rfl rfl rfl (by decide) (by simp) (row_vi _)) ?_
        refine aw_le (Le.freezeCell 1 2 3 (bv (mkK (chooseP l 31) l l.length).2) rfl rfl rfl (by decide) (by simp) (row_bw _)) ?_
        refine aw_text rfl ?_
        refine ch_v (R := [(_, .live _ _)]) rfl rfl (oc_load_own_row (k := 3) (ds := [_, _, _]) rfl rfl (by kernel_rfl) (by kernel_rfl) rfl rfl (by decide)) ⟨rfl, trivial⟩ ?_
        refine ch_n rfl rfl (oc_store_row (x := .agg _) (cs' := [_, _, _]) rfl rfl rfl rfl (by kernel_rfl) (by first | decide | exact Nat.le_of_ble_eq_true rfl | simp) (by first | decide | exact Nat.le_of_ble_eq_true rfl | simp) rfl) ⟨rfl, trivial⟩ ?_
        refine ch_v (R := []) rfl rfl (oc_assign (x := .val _) rfl rfl) trivial ?_
        refine ck_nil ?_
        refine aw_ret ?_
        exact ⟨.inl rfl, by rw [pair_pool (make_ok hmany hat)]; exact ResOk.two rfl (ResC.row rfl rfl (by kernel_rfl) (by kernel_rfl) (Nat.le_of_ble_eq_true rfl)) (ResC.tmp rfl), trivial⟩
end Go.Proofs.YtpbaiighifhfnaaDoor
namespace Go.Proofs.YtpbaiighifhfnaaDoor
set_option linter.unusedSimpArgs false
set_option linter.unusedVariables false
theorem mk_at {ab l : List ByteArray} : ∀ (n k : Nat), k < n → (mkK ab l n).1.getD k 0 = ((mkK ab l k).2.length : Int) ∧ (mkK ab l n).1.length = n
  | 0, k, h => by omega
  | n + 1, k, h => by
    have hln : (mkK ab l n).1.length = n := by
      cases n with
      | zero => rfl
      | succ n => exact (mk_at (n + 1) 0 (by omega)).2
    refine ⟨?_, by show ((mkK ab l n).1 ++ _).length = _; rw [List.length_append, hln]; rfl⟩
    show ((mkK ab l n).1 ++ [((mkK ab l n).2.length : Int)]).getD k 0 = _
    rcases Nat.lt_or_ge k n with h1 | h1
    · rw [List.getD, List.getElem?_append_left (by omega)]
      exact (mk_at n k h1).1
    · have : k = n := by omega
      subst this
      rw [List.getD, List.getElem?_append_right (by omega), hln, Nat.sub_self]
      rfl
theorem mk_pre {ab l : List ByteArray} (k : Nat) : ∀ n, k ≤ n → ∃ X, (mkK ab l n).2 = (mkK ab l k).2 ++ X
  | 0, h => by
    have : k = 0 := by omega
    subst this
    exact ⟨[], by rw [List.append_nil]⟩
  | n + 1, h => by
    rcases Nat.lt_or_ge k (n + 1) with h1 | h1
    · obtain ⟨X, e⟩ := mk_pre (ab := ab) (l := l) k n (by omega)
      exact ⟨X ++ aPack (packedP (l.getD n ByteArray.empty) ab), by show (mkK ab l n).2 ++ _ = _; rw [e, List.append_assoc]⟩
    · have : k = n + 1 := by omega
      subst this
      exact ⟨[], by rw [List.append_nil]⟩
theorem mk_bts {ab l : List ByteArray} : ∀ n, Bts (mkK ab l n).2
  | 0 => fun c hc => by cases hc
  | n + 1 => (mk_bts n).append (aPack_bts _)
theorem make_bts (l : List ByteArray) : Bts (makeP l).1.bytes := by
  unfold makeP
  repeat' split
  · exact fun c hc => by cases hc
  · exact mk_bts _
  · exact fun c hc => by cases hc
/-- All is well with the texts. -/
structure Good8 (l : List ByteArray) : Prop where
  wt : wt l ≤ 10000
  few : ¬ (l.length : Int) > 4096
  txt : ∀ j, j < l.length → isTextB (tB (l.getD j ByteArray.empty)) = true
theorem make_or {l : List ByteArray} (h : wt l ≤ 10000) : Good8 l ∨ ((l.length : Int) > 4096 ∧ makeP l = (noPool, 7)) ∨ (¬ (l.length : Int) > 4096 ∧ makeP l = (noPool, 13) ∧ ∃ j, j < l.length ∧ ¬ isTextB (tB (l.getD j ByteArray.empty)) = true) := by
  by_cases h1 : (l.length : Int) > 4096
  · exact .inr (.inl ⟨h1, make_many h1⟩)
  · by_cases h2 : ∀ j, j < l.length → isTextB (tB (l.getD j ByteArray.empty)) = true
    · exact .inl ⟨h, h1, h2⟩
    · obtain ⟨j, hj⟩ := Classical.not_forall.1 h2
      have h3 : j < l.length := Classical.byContradiction fun h => hj fun h' => absurd h' h
      have h4 : ¬ isTextB (tB (l.getD j ByteArray.empty)) = true := fun h => hj fun _ => h
      exact .inr (.inr ⟨h1, make_text h1 h3 h4, j, h3, h4⟩)
section
variable {l : List ByteArray} (h : Good8 l)
include h
theorem g_eq : makeP l = (⟨chooseP l 31, (mkK (chooseP l 31) l l.length).1, (mkK (chooseP l 31) l l.length).2⟩, 0) := make_ok h.few h.txt
theorem g_abb : (makeP l).1.abbrevs = chooseP l 31 := by rw [g_eq h]
theorem g_at : (makeP l).1.at_ = (mkK (chooseP l 31) l l.length).1 := by rw [g_eq h]
theorem g_by : (makeP l).1.bytes = (mkK (chooseP l 31) l l.length).2 := by rw [g_eq h]
theorem g_err : (makeP l).2 = 0 := by rw [g_eq h]
theorem g_len : (makeP l).1.at_.length = l.length ∧ (makeP l).1.bytes.length ≤ 1922 * l.length := by
  rw [g_at h, g_by h]
  exact mk_len _ h.txt
theorem g_sz : (∀ k, ((makeP l).1.abbrevs.getD k ByteArray.empty).size ≤ 8) ∧ (makeP l).1.abbrevs.length ≤ 31 := by
  rw [g_abb h]
  exact choose_sz h.wt
theorem g_from {k : Nat} (hk : k < l.length) : fromP (makeP l).1 k = ((mkK (chooseP l 31) l k).2.length : Int) := by
  unfold fromP
  rw [g_at h]
  exact (mk_at _ k hk).1
theorem g_to {k : Nat} (hk : k < l.length) : toP (makeP l).1 k = ((mkK (chooseP l 31) l (k + 1)).2.length : Int) := by
  unfold toP
  rw [(g_len h).1, g_at h, g_by h]
  split
  · rename_i h1
    exact (mk_at _ (k + 1) h1).1
  · have : k + 1 = l.length := by omega
    rw [this]
theorem g_part {k : Nat} (hk : k < l.length) : bytesP (makeP l).1 (k : Int) = (aPack (packedP (l.getD k ByteArray.empty) (chooseP l 31)), 0) := by
  have h1 := g_from h hk
  have h2 := g_to h hk
  obtain ⟨X, e⟩ := mk_pre (ab := chooseP l 31) (l := l) (k + 1) l.length hk
  have e2 : (mkK (chooseP l 31) l (k + 1)).2 = (mkK (chooseP l 31) l k).2 ++ aPack (packedP (l.getD k ByteArray.empty) (chooseP l 31)) := rfl
  have hlen : (makeP l).1.bytes.length = (mkK (chooseP l 31) l (k + 1)).2.length + X.length := by rw [g_by h, e, List.length_append]
  have hl2 : (mkK (chooseP l 31) l (k + 1)).2.length = (mkK (chooseP l 31) l k).2.length + (aPack (packedP (l.getD k ByteArray.empty) (chooseP l 31))).length := by rw [e2, List.length_append]
  have hno : ¬ ((k : Int) < 0 ∨ (k : Int) ≥ ((makeP l).1.at_.length : Int)) := by rw [(g_len h).1]; omega
  have hrg : ¬ (fromP (makeP l).1 (k : Int).toNat < 0 ∨ toP (makeP l).1 (k : Int).toNat < fromP (makeP l).1 (k : Int).toNat ∨ toP (makeP l).1 (k : Int).toNat > ((makeP l).1.bytes.length : Int)) := by
    rw [Int.toNat_natCast, h1, h2]
    omega
  rw [bytesP_ok hno hrg, Int.toNat_natCast]
  refine Prod.ext ?_ rfl
  show partP (makeP l).1 k = _
  unfold partP
  rw [h1, h2, Int.toNat_natCast, Int.toNat_natCast, g_by h, e, e2, List.append_assoc, List.drop_left, List.length_append, Nat.add_sub_cancel_left, List.take_left]
/-- **The text at any place is the one that was packed.** -/
theorem g_text {k : Nat} (hk : k < l.length) : poolTx (makeP l).1 (k : Int) = (l.getD k ByteArray.empty, 0) := by
  have ht := h.txt k hk
  have hab := (choose_sz h.wt).2
  have hu := unpack_pack (packedP (l.getD k ByteArray.empty) (chooseP l 31)) (packed_bd ht hab)
  have hp := g_part h hk
  rw [tx_ok (by rw [hp]) (by rw [hp]; show (aUnpack _).2 = 0; rw [hu]), hp]
  show unpackedP (aUnpack _).1 _ = _
  rw [hu, g_abb h]
  exact packed_back ht hab
theorem g_over (i : Int) : (bytesP (makeP l).1 i).1.length ≤ 1922 := by
  by_cases hno : i < 0 ∨ i ≥ ((makeP l).1.at_.length : Int)
  · rw [bytesP_none hno]; exact Nat.zero_le _
  · have hl := (g_len h).1
    have e : i = (i.toNat : Int) := by omega
    have hk : i.toNat < l.length := by omega
    rw [e, g_part h hk]
    exact (pack_small _ (h.txt _ hk)).2.2
theorem g_all : allP (makeP l).1 = (l, 0) := by
  have key : ∀ (n k : Nat) (out : List ByteArray), k + n = l.length → allF (poolTx (makeP l).1) n k out = (out ++ l.drop k, 0) := by
    intro n
    induction n with
    | zero =>
      intro k out hk
      rw [List.drop_of_length_le (by omega), List.append_nil]
      rfl
    | succ n ih =>
      intro k out hk
      have ht := g_text h (k := k) (by omega)
      rw [all_more (by rw [ht]), ih (k + 1) _ (by omega), ht]
      refine Prod.ext ?_ rfl
      show out ++ [l.getD k ByteArray.empty] ++ l.drop (k + 1) = out ++ l.drop k
      rw [List.append_assoc]
      congr 1
      rw [List.drop_eq_getElem_cons (show k < l.length by omega)]
      simp [List.getD, List.getElem?_eq_getElem (show k < l.length by omega)]
  unfold allP
  rw [(g_len h).1, key l.length 0 [] (by omega)]
  rfl
omit h in
theorem same_refl' (p : PoolP) : samePl p p = true := by unfold samePl; simp
theorem g_right : rightP (makeP l).1 = true := by
  unfold rightP
  rw [g_all h, g_err h, same_refl']
  rfl
end
theorem make_sz (l : List ByteArray) (h : wt l ≤ 10000) : (makeP l).1.abbrevs.length ≤ 31 ∧ (makeP l).1.at_.length ≤ 4096 ∧ (makeP l).1.bytes.length ≤ 1922 * 4096 := by
  rcases make_or h with hg | ⟨_, h1⟩ | ⟨_, h1, _⟩
  · have h1 := g_len hg
    have h2 := (g_sz hg).2
    have h3 := hg.few
    refine ⟨h2, by omega, by omega⟩
  · rw [h1]; exact ⟨Nat.zero_le _, Nat.zero_le _, Nat.zero_le _⟩
  · rw [h1]; exact ⟨Nat.zero_le _, Nat.zero_le _, Nat.zero_le _⟩
theorem right_is {p : PoolP} (he : (allP p).2 = 0) : (((((makeP (allP p).1).2 == 0) && decide (p.abbrevs = (makeP (allP p).1).1.abbrevs)) && decide (p.at_ = (makeP (allP p).1).1.at_)) && decide (p.bytes = (makeP (allP p).1).1.bytes)) = rightP p := by
  unfold rightP samePl
  rw [decide_eq_true he, show ((makeP (allP p).1).2 == 0) = decide ((makeP (allP p).1).2 = 0) from rfl]
  simp only [Bool.true_and, Bool.and_assoc]
theorem rright_is {p : PoolP} (he : (allP p).2 = 0) : (((makeP (allP p).1).2 == 0) && samePl p (makeP (allP p).1).1) = rightP p := by
  unfold rightP
  rw [decide_eq_true he, show ((makeP (allP p).1).2 == 0) = decide ((makeP (allP p).1).2 = 0) from rfl, Bool.true_and]
theorem right_no {p : PoolP} (he : ¬ (allP p).2 = 0) : rightP p = false := by
  unfold rightP
  rw [decide_eq_false he, Bool.false_and]
def fewL (l : List ByteArray) (n m : Int) : Bool := decide ((l.length : Int) ≤ n) && (List.range l.length).all fun k => decide (((l.getD k ByteArray.empty).size : Int) ≤ m)
theorem fewL_in {l : List ByteArray} {n m : Nat} (h : fewL l n m = true) : l.length ≤ n ∧ ∀ k, (l.getD k ByteArray.empty).size ≤ m := by
  unfold fewL at h
  simp only [Bool.and_eq_true, decide_eq_true_eq, List.all_eq_true, List.mem_range] at h
  refine ⟨by omega, fun k => ?_⟩
  rcases Nat.lt_or_ge k l.length with h1 | h1
  · have := h.2 k h1; omega
  · rw [List.getD, List.getElem?_eq_none h1]; exact Nat.zero_le _
theorem wt_few : ∀ {l : List ByteArray} {m : Nat}, (∀ a ∈ l, a.size ≤ m) → wt l ≤ (m + 1) * l.length
  | [], m, _ => Nat.zero_le _
  | a :: l, m, h => by
    have h1 := wt_few (l := l) fun b hb => h b (List.mem_cons_of_mem _ hb)
    have h2 := h a (List.mem_cons_self ..)
    have h3 : wt (a :: l) = wt [a] + wt l := by rw [← wt_append]; rfl
    have h4 : wt [a] ≤ a.size + 1 := Nat.le_refl _
    rw [h3, List.length_cons, Nat.mul_succ]
    omega
theorem fewL_wt {l : List ByteArray} (h : fewL l 24 60 = true) : wt l ≤ 10000 ∧ l.length ≤ 24 := by
  obtain ⟨h1, h2⟩ := fewL_in (n := 24) (m := 60) h
  have h3 : wt l ≤ (60 + 1) * l.length := wt_few fun a ha => by
    obtain ⟨k, hk, e⟩ := List.mem_iff_getElem.1 ha
    have := h2 k
    rw [List.getD, List.getElem?_eq_getElem hk] at this
    rw [← e]
    exact this
  have h4 : (60 + 1) * l.length ≤ 61 * 24 := Nat.mul_le_mul_left _ h1
  omega
end Go.Proofs.YtpbaiighifhfnaaDoor
namespace Go.Proofs.YtpbaiighifhfnaaDoor
open Go.RowKit
set_option maxRecDepth 100000
set_option linter.unusedVariables false
set_option linter.unusedSimpArgs false
set_option maxHeartbeats 800000 in
theorem right_pl_pc (p : PoolP) (hal : p.at_.length ≤ 1000000) (hbl : p.bytes.length ≤ 100000000) (hBt : Bts p.bytes) (hl : ∀ i, (bytesP p i).1.length ≤ 5000) (hab : ∀ k, (p.abbrevs.getD k ByteArray.empty).size ≤ 1000) (habl : p.abbrevs.length ≤ 1000000) (hw : wt (allP p).1 ≤ 10000) : PC Tryd.prog 25 [poolAv p] (vb (rightP p)) := by
  refine FC.body 3 41 Tryd.func25 rfl (by kernel_rfl) ?_
  refine aw_seq ?_
  refine aw_text rfl ?_
  refine ch_v (R := []) rfl rfl (oc_box (x := .agg _) rfl rfl) trivial ?_
  refine ch_v (R := []) rfl rfl (oc_assign (x := .val _) rfl rfl) trivial ?_
  refine ck_nil ?_
  refine aw_seq ?_
  refine aw_text rfl ?_
  refine ch_v (R := []) rfl rfl (oc_load_row rfl rfl (by kernel_rfl) (by kernel_rfl) rfl) trivial ?_
  refine ch_v (R := []) rfl rfl (oc_call rfl (by kernel_rfl) (all_pc p hal hbl hBt hl hab habl) rfl (by simp only [PureL, Pure, and_self, pure_slI, pure_slS, rowAv, pieces_pure, pool_pure, bs_pure, implies_true]) (by simp only [PureL, Pure, and_self, pure_slI, pure_slS, rowAv, pieces_pure, pool_pure, bs_pure, implies_true])) trivial ?_
  refine ch_v (R := []) rfl rfl (oc_move (x := .tup _) rfl rfl) trivial ?_
  refine ch_v (R := []) rfl rfl (oc_extract rfl rfl rfl) trivial ?_
  refine ch_v (R := []) rfl rfl (oc_extract rfl rfl rfl) trivial ?_
  refine ch_v (R := []) rfl rfl (oc_assign (x := .sl _ _ _) rfl rfl) trivial ?_
  refine ch_v (R := []) rfl rfl (oc_assign (x := .val _) rfl rfl) trivial ?_
  refine ck_nil ?_
  refine aw_seq ?_
  refine aw_seq ?_
  refine aw_text rfl ?_
  refine ch_v (R := []) rfl rfl (oc_move (x := .val _) rfl rfl) trivial ?_
  refine ch_v (R := []) rfl rfl (oc_binZ rfl rfl rfl rfl) trivial ?_
  refine ck_nil ?_
  refine aw_cond rfl (fun hb => ?_) (fun hb => ?_)
  · have he : ¬ (allP p).2 = 0 := by simpa using hb
    refine aw_seq ?_
    refine aw_text rfl ?_
    refine ch_v (R := []) rfl rfl (oc_assign (x := .val _) rfl rfl) trivial ?_
    refine ck_nil ?_
    refine aw_ret ?_
    exact ⟨.inl rfl, ResOk.tmp rfl (by rw [right_no he]; rfl), trivial⟩
  · have he : (allP p).2 = 0 := by simpa using hb
    have hms := make_sz (allP p).1 hw
    refine aw_skip ?_
    refine aw_seq ?_
    refine aw_text rfl ?_
    refine ch_v (R := []) rfl rfl (oc_move (x := .sl _ _ _) rfl rfl) trivial ?_
    refine ch_v (R := []) rfl rfl (oc_call rfl (by kernel_rfl) (make_pl_pc (allP p).1 hw) rfl (by simp only [PureL, Pure, and_self, pure_slI, pure_slS, rowAv, pieces_pure, pool_pure, bs_pure, implies_true]) (by simp only [PureL, Pure, and_self, pure_slI, pure_slS, rowAv, pieces_pure, pool_pure, bs_pure, implies_true])) trivial ?_
    refine ch_v (R := []) rfl rfl (oc_move (x := .tup _) rfl rfl) trivial ?_
    refine ch_v (R := []) rfl rfl (oc_extract rfl rfl rfl) trivial ?_
    refine ch_v (R := []) rfl rfl (oc_extract rfl rfl rfl) trivial ?_
    refine ch_u rfl rfl (oc_alloc (zs := [.slice none 0 0, .slice none 0 0, .slice none 0 0]) (cs := [.val _, .val _, .val _]) 0 rfl (by kernel_rfl) rfl rfl) ⟨rfl, trivial⟩ ?_
    refine ch_n rfl rfl (oc_store_row (x := .agg _) (cs' := [_, _, _]) rfl rfl rfl rfl (by kernel_rfl) (by first | decide | exact Nat.le_of_ble_eq_true rfl | simp) (by first | decide | exact Nat.le_of_ble_eq_true rfl | simp) rfl) ⟨rfl, trivial⟩ ?_
    refine ch_v (R := []) rfl rfl (oc_assign (x := .val _) rfl rfl) trivial ?_
    refine ck_nil ?_
    refine aw_seq ?_
    refine aw_text rfl ?_
    refine ch_v (R := []) rfl rfl (oc_move (x := .val _) rfl rfl) trivial ?_
    refine ch_v (R := []) rfl rfl (oc_binZ rfl rfl rfl rfl) trivial ?_
    refine ch_v (R := []) rfl rfl (oc_move (x := .val _) rfl rfl) trivial ?_
    refine ch_g (R := []) rfl rfl rfl gate_t (fun hC => oc_fieldAddr (off := 0) rfl rfl rfl (by kernel_rfl) rfl) (fun hC => ⟨(by first | rfl | exact hC | (simp only [Bool.and_eq_true] at hC; first | exact hC.1 | exact hC.1.1 | exact hC.2) | simp_all), trivial⟩) trivial ?_
    refine ch_g (R := []) rfl rfl rfl gate_t (fun hC => oc_load rfl rfl (by kernel_rfl) cells_sl) (fun hC => ⟨(by first | rfl | exact hC | (simp only [Bool.and_eq_true] at hC; first | exact hC.1 | exact hC.1.1 | exact hC.2) | simp_all), trivial⟩) trivial ?_
    refine ch_g (R := [(_, .live _ _)]) rfl rfl rfl gate_t (fun hC => oc_fieldAddr_own (off := 0) (sz := 1) (r := false) rfl rfl (by first | decide | simp) (by kernel_rfl) (by decide)) (fun hC => ⟨(by first | rfl | exact hC | (simp only [Bool.and_eq_true] at hC; first | exact hC.1 | exact hC.1.1 | exact hC.2) | simp_all), trivial⟩) ⟨rfl, trivial⟩ ?_
    refine ch_g (R := [(_, .live _ _)]) rfl rfl rfl gate_t (fun hC => oc_load_own rfl rfl (by kernel_rfl) rfl) (fun hC => ⟨(by first | rfl | exact hC | (simp only [Bool.and_eq_true] at hC; first | exact hC.1 | exact hC.1.1 | exact hC.2) | simp_all), trivial⟩) ⟨rfl, trivial⟩ ?_
    refine ch_g (R := []) rfl rfl rfl gate_t (fun hC => oc_call rfl (by kernel_rfl) (equalS_pc p.abbrevs (makeP (allP p).1).1.abbrevs (by omega)) rfl (by simp only [PureL, Pure, and_self, pure_slI, pure_slS, rowAv, pieces_pure, pool_pure, bs_pure, implies_true]) (by simp only [PureL, Pure, and_self, pure_slI, pure_slS, rowAv, pieces_pure, pool_pure, bs_pure, implies_true])) (fun hC => ⟨(by first | rfl | exact hC | (simp only [Bool.and_eq_true] at hC; first | exact hC.1 | exact hC.1.1 | exact hC.2) | simp_all), (by first | rfl | exact hC | (simp only [Bool.and_eq_true] at hC; first | exact hC.1 | exact hC.1.1 | exact hC.2) | simp_all), (by first | rfl | exact hC | (simp only [Bool.and_eq_true] at hC; first | exact hC.1 | exact hC.1.1 | exact hC.2) | simp_all), trivial⟩) trivial ?_
    refine ch_v (R := []) rfl rfl (oc_and rfl rfl rfl rfl (by first | exact fun h => h | simp_all)) trivial ?_
    refine ch_v (R := []) rfl rfl (oc_move (x := .val _) rfl rfl) trivial ?_
    refine ch_g (R := []) rfl rfl rfl gate_t (fun hC => oc_fieldAddr (off := 1) rfl rfl rfl (by kernel_rfl) rfl) (fun hC => ⟨(by first | rfl | exact hC | (simp only [Bool.and_eq_true] at hC; first | exact hC.1 | exact hC.1.1 | exact hC.2) | simp_all), trivial⟩) trivial ?_
    refine ch_g (R := []) rfl rfl rfl gate_t (fun hC => oc_load rfl rfl (by kernel_rfl) cells_sl) (fun hC => ⟨(by first | rfl | exact hC | (simp only [Bool.and_eq_true] at hC; first | exact hC.1 | exact hC.1.1 | exact hC.2) | simp_all), trivial⟩) trivial ?_
    refine ch_g (R := [(_, .live _ _)]) rfl rfl rfl gate_t (fun hC => oc_fieldAddr_own (off := 1) (sz := 1) (r := false) rfl rfl (by first | decide | simp) (by kernel_rfl) (by decide)) (fun hC => ⟨(by first | rfl | exact hC | (simp only [Bool.and_eq_true] at hC; first | exact hC.1 | exact hC.1.1 | exact hC.2) | simp_all), trivial⟩) ⟨rfl, trivial⟩ ?_
    refine ch_g (R := [(_, .live _ _)]) rfl rfl rfl gate_t (fun hC => oc_load_own rfl rfl (by kernel_rfl) rfl) (fun hC => ⟨(by first | rfl | exact hC | (simp only [Bool.and_eq_true] at hC; first | exact hC.1 | exact hC.1.1 | exact hC.2) | simp_all), trivial⟩) ⟨rfl, trivial⟩ ?_
    refine ch_g (R := []) rfl rfl rfl gate_t (fun hC => oc_call rfl (by kernel_rfl) (equalI_pc p.at_ (makeP (allP p).1).1.at_ (by omega)) rfl (by simp only [PureL, Pure, and_self, pure_slI, pure_slS, rowAv, pieces_pure, pool_pure, bs_pure, implies_true]) (by simp only [PureL, Pure, and_self, pure_slI, pure_slS, rowAv, pieces_pure, pool_pure, bs_pure, implies_true])) (fun hC => ⟨(by first | rfl | exact hC | (simp only [Bool.and_eq_true] at hC; first | exact hC.1 | exact hC.1.1 | exact hC.2) | simp_all), (by first | rfl | exact hC | (simp only [Bool.and_eq_true] at hC; first | exact hC.1 | exact hC.1.1 | exact hC.2) | simp_all), (by first | rfl | exact hC | (simp only [Bool.and_eq_true] at hC; first | exact hC.1 | exact hC.1.1 | exact hC.2) | simp_all), trivial⟩) trivial ?_
    refine ch_v (R := []) rfl rfl (oc_and rfl rfl rfl rfl (by first | exact fun h => h | simp_all)) trivial ?_
    refine ch_v (R := []) rfl rfl (oc_move (x := .val _) rfl rfl) trivial ?_
    refine ch_g (R := []) rfl rfl rfl gate_t (fun hC => oc_fieldAddr (off := 2) rfl rfl rfl (by kernel_rfl) rfl) (fun hC => ⟨(by first | rfl | exact hC | (simp only [Bool.and_eq_true] at hC; first | exact hC.1 | exact hC.1.1 | exact hC.2) | simp_all), trivial⟩) trivial ?_
    refine ch_g (R := []) rfl rfl rfl gate_t (fun hC => oc_load rfl rfl (by kernel_rfl) cells_sl) (fun hC => ⟨(by first | rfl | exact hC | (simp only [Bool.and_eq_true] at hC; first | exact hC.1 | exact hC.1.1 | exact hC.2) | simp_all), trivial⟩) trivial ?_
    refine ch_g (R := [(_, .live _ _)]) rfl rfl rfl gate_t (fun hC => oc_fieldAddr_own (off := 2) (sz := 1) (r := false) rfl rfl (by first | decide | simp) (by kernel_rfl) (by decide)) (fun hC => ⟨(by first | rfl | exact hC | (simp only [Bool.and_eq_true] at hC; first | exact hC.1 | exact hC.1.1 | exact hC.2) | simp_all), trivial⟩) ⟨rfl, trivial⟩ ?_
    refine ch_g (R := [(_, .live _ _)]) rfl rfl rfl gate_t (fun hC => oc_load_own rfl rfl (by kernel_rfl) rfl) (fun hC => ⟨(by first | rfl | exact hC | (simp only [Bool.and_eq_true] at hC; first | exact hC.1 | exact hC.1.1 | exact hC.2) | simp_all), trivial⟩) ⟨rfl, trivial⟩ ?_
    refine ch_g (R := []) rfl rfl rfl gate_t (fun hC => oc_call rfl (by kernel_rfl) (equalB_pc p.bytes (makeP (allP p).1).1.bytes (by omega)) rfl (by simp only [PureL, Pure, and_self, pure_slI, pure_slS, rowAv, pieces_pure, pool_pure, bs_pure, implies_true]) (by simp only [PureL, Pure, and_self, pure_slI, pure_slS, rowAv, pieces_pure, pool_pure, bs_pure, implies_true])) (fun hC => ⟨(by first | rfl | exact hC | (simp only [Bool.and_eq_true] at hC; first | exact hC.1 | exact hC.1.1 | exact hC.2) | simp_all), (by first | rfl | exact hC | (simp only [Bool.and_eq_true] at hC; first | exact hC.1 | exact hC.1.1 | exact hC.2) | simp_all), (by first | rfl | exact hC | (simp only [Bool.and_eq_true] at hC; first | exact hC.1 | exact hC.1.1 | exact hC.2) | simp_all), trivial⟩) trivial ?_
    refine ch_v (R := []) rfl rfl (oc_and rfl rfl rfl rfl (by first | exact fun h => h | simp_all)) trivial ?_
    refine ch_v (R := []) rfl rfl (oc_assign (x := .val _) rfl rfl) trivial ?_
    refine ck_nil ?_
    refine aw_ret ?_
    exact ⟨.inl rfl, ResOk.tmp rfl (vb_eq (right_is he)), trivial⟩
set_option maxHeartbeats 800000 in
theorem rright_pl_pc (p : PoolP) (hal : p.at_.length ≤ 1000000) (hbl : p.bytes.length ≤ 100000000) (hBt : Bts p.bytes) (hl : ∀ i, (bytesP p i).1.length ≤ 5000) (hab : ∀ k, (p.abbrevs.getD k ByteArray.empty).size ≤ 1000) (habl : p.abbrevs.length ≤ 1000000) (hw : wt (allP p).1 ≤ 10000) : PC Tryd.prog 26 [poolAv p] (vb (rightP p)) := by
  refine FC.body 3 26 Tryd.func26 rfl (by kernel_rfl) ?_
  refine aw_seq ?_
  refine aw_text rfl ?_
  refine ch_v (R := []) rfl rfl (oc_box (x := .agg _) rfl rfl) trivial ?_
  refine ch_v (R := []) rfl rfl (oc_assign (x := .val _) rfl rfl) trivial ?_
  refine ck_nil ?_
  refine aw_seq ?_
  refine aw_text rfl ?_
  refine ch_v (R := []) rfl rfl (oc_load_row rfl rfl (by kernel_rfl) (by kernel_rfl) rfl) trivial ?_
  refine ch_v (R := []) rfl rfl (oc_call rfl (by kernel_rfl) (rall_pc p hal hbl hBt hl hab habl) rfl (by simp only [PureL, Pure, and_self, pure_slI, pure_slS, rowAv, pieces_pure, pool_pure, bs_pure, implies_true]) (by simp only [PureL, Pure, and_self, pure_slI, pure_slS, rowAv, pieces_pure, pool_pure, bs_pure, implies_true])) trivial ?_
  refine ch_v (R := []) rfl rfl (oc_move (x := .tup _) rfl rfl) trivial ?_
  refine ch_v (R := []) rfl rfl (oc_extract rfl rfl rfl) trivial ?_
  refine ch_v (R := []) rfl rfl (oc_extract rfl rfl rfl) trivial ?_
  refine ch_v (R := []) rfl rfl (oc_assign (x := .sl _ _ _) rfl rfl) trivial ?_
  refine ch_v (R := []) rfl rfl (oc_assign (x := .val _) rfl rfl) trivial ?_
  refine ck_nil ?_
  refine aw_seq ?_
  refine aw_seq ?_
  refine aw_text rfl ?_
  refine ch_v (R := []) rfl rfl (oc_move (x := .val _) rfl rfl) trivial ?_
  refine ch_v (R := []) rfl rfl (oc_binZ rfl rfl rfl rfl) trivial ?_
  refine ck_nil ?_
  refine aw_cond rfl (fun hb => ?_) (fun hb => ?_)
  · have he : ¬ (allP p).2 = 0 := by simpa using hb
    refine aw_seq ?_
    refine aw_text rfl ?_
    refine ch_v (R := []) rfl rfl (oc_assign (x := .val _) rfl rfl) trivial ?_
    refine ck_nil ?_
    refine aw_ret ?_
    exact ⟨.inl rfl, ResOk.tmp rfl (by rw [right_no he]; rfl), trivial⟩
  · have he : (allP p).2 = 0 := by simpa using hb
    have hms := make_sz (allP p).1 hw
    refine aw_skip ?_
    refine aw_seq ?_
    refine aw_text rfl ?_
    refine ch_v (R := []) rfl rfl (oc_move (x := .sl _ _ _) rfl rfl) trivial ?_
    refine ch_v (R := []) rfl rfl (oc_call rfl (by kernel_rfl) (rmake_pl_pc (allP p).1 hw) rfl (by simp only [PureL, Pure, and_self, pure_slI, pure_slS, rowAv, pieces_pure, pool_pure, bs_pure, implies_true]) (by simp only [PureL, Pure, and_self, pure_slI, pure_slS, rowAv, pieces_pure, pool_pure, bs_pure, implies_true])) trivial ?_
    refine ch_v (R := []) rfl rfl (oc_move (x := .tup _) rfl rfl) trivial ?_
    refine ch_v (R := []) rfl rfl (oc_extract rfl rfl rfl) trivial ?_
    refine ch_v (R := []) rfl rfl (oc_extract rfl rfl rfl) trivial ?_
    refine ch_u rfl rfl (oc_alloc (zs := [.slice none 0 0, .slice none 0 0, .slice none 0 0]) (cs := [.val _, .val _, .val _]) 0 rfl (by kernel_rfl) rfl rfl) ⟨rfl, trivial⟩ ?_
    refine ch_n rfl rfl (oc_store_row (x := .agg _) (cs' := [_, _, _]) rfl rfl rfl rfl (by kernel_rfl) (by first | decide | exact Nat.le_of_ble_eq_true rfl | simp) (by first | decide | exact Nat.le_of_ble_eq_true rfl | simp) rfl) ⟨rfl, trivial⟩ ?_
    refine ch_v (R := []) rfl rfl (oc_assign (x := .val _) rfl rfl) trivial ?_
    refine ck_nil ?_
    refine aw_seq ?_
    refine aw_text rfl ?_
    refine ch_v (R := []) rfl rfl (oc_move (x := .val _) rfl rfl) trivial ?_
    refine ch_v (R := []) rfl rfl (oc_binZ rfl rfl rfl rfl) trivial ?_
    refine ch_v (R := []) rfl rfl (oc_move (x := .val _) rfl rfl) trivial ?_
    refine ch_g (R := []) rfl rfl rfl gate_t (fun hC => oc_load_row rfl rfl (by kernel_rfl) (by kernel_rfl) rfl) (fun hC => ⟨(by first | rfl | exact hC | (simp only [Bool.and_eq_true] at hC; first | exact hC.1 | exact hC.1.1 | exact hC.2) | simp_all), trivial⟩) trivial ?_
    refine ch_g (R := [(_, .live _ _)]) rfl rfl rfl gate_t (fun hC => oc_load_own_row (k := 3) (ds := [_, _, _]) rfl rfl (by kernel_rfl) (by kernel_rfl) rfl rfl (by decide)) (fun hC => ⟨(by first | rfl | exact hC | (simp only [Bool.and_eq_true] at hC; first | exact hC.1 | exact hC.1.1 | exact hC.2) | simp_all), trivial⟩) ⟨rfl, trivial⟩ ?_
    refine ch_g (R := []) rfl rfl rfl gate_t (fun hC => oc_call rfl (by kernel_rfl) (same_pl_pc p (makeP (allP p).1).1 (by omega) (by omega) hBt (make_bts _)) rfl (by simp only [PureL, Pure, and_self, pure_slI, pure_slS, rowAv, pieces_pure, pool_pure, bs_pure, implies_true]) (by simp only [PureL, Pure, and_self, pure_slI, pure_slS, rowAv, pieces_pure, pool_pure, bs_pure, implies_true])) (fun hC => ⟨(by first | rfl | exact hC | (simp only [Bool.and_eq_true] at hC; first | exact hC.1 | exact hC.1.1 | exact hC.2) | simp_all), (by first | rfl | exact hC | (simp only [Bool.and_eq_true] at hC; first | exact hC.1 | exact hC.1.1 | exact hC.2) | simp_all), (by first | rfl | exact hC | (simp only [Bool.and_eq_true] at hC; first | exact hC.1 | exact hC.1.1 | exact hC.2) | simp_all), trivial⟩) trivial ?_
    refine ch_v (R := []) rfl rfl (oc_and rfl rfl rfl rfl (by first | exact fun h => h | simp_all)) trivial ?_
    refine ch_v (R := []) rfl rfl (oc_assign (x := .val _) rfl rfl) trivial ?_
    refine ck_nil ?_
    refine aw_ret ?_
    exact ⟨.inl rfl, ResOk.tmp rfl (vb_eq (rright_is he)), trivial⟩
set_option maxHeartbeats 800000 in
theorem few8_pc (l : List ByteArray) (n m : Int) (hn : n ≤ 1000) (hn0 : 0 ≤ n) : PC Tryd.prog 8 [slS l, vi n, vi m] (vb (fewL l n m)) := by
  refine FC.body 3 30 Tryd.func8 rfl (by kernel_rfl) ?_
  refine aw_seq ?_
  refine aw_text rfl ?_
  refine ch_v (R := []) rfl rfl (oc_assign (x := .val _) rfl rfl) trivial ?_
  refine ck_nil ?_
  refine aw_seq ?_
  refine aw_seq ?_
  refine aw_text rfl ?_
  refine ch_v (R := []) rfl rfl (oc_assign (x := .val _) rfl rfl) trivial ?_
  refine ck_nil ?_
  refine aw_block ?_
  refine aw_loop (ι := Nat) (fun k => ⟨[(0, slS l), (1, vi n), (2, vi m), (7, vi k)], []⟩) (fun k => k ≤ l.length ∧ (k : Int) ≤ n + 1 ∧ ∀ j, j < k → decide (((l.getD j ByteArray.empty).size : Int) ≤ m) = true) (fun k => l.length - k) 0 (⟨Nat.zero_le _, by omega, rall_zero⟩) (Le.sub (by repeat (first | trivial | refine ⟨.inr rfl, ?_⟩ | refine ⟨.inr (vi_eq (by omega)), ?_⟩)) (by repeat (first | trivial | refine ⟨rfl, ?_⟩))) ?_
  intro k hI
  refine aw_seq ?_
  refine aw_seq ?_
  refine aw_text rfl ?_
  refine ch_v (R := []) rfl rfl (oc_move (x := .val _) rfl rfl) trivial ?_
  refine ch_v (R := []) rfl rfl (oc_move (x := .sl _ _ _) rfl rfl) trivial ?_
  refine ch_v (R := []) rfl rfl (oc_len rfl rfl (by kernel_rfl)) trivial ?_
  refine ch_v (R := []) rfl rfl (oc_binZ rfl rfl rfl rfl) trivial ?_
  refine ch_v (R := []) rfl rfl (oc_move (x := .val _) rfl rfl) trivial ?_
  refine ch_g (R := []) rfl rfl rfl gate_t (fun hC => oc_move (x := .val _) rfl rfl) (fun hC => ⟨(by first | rfl | exact hC | (simp only [Bool.and_eq_true] at hC; first | exact hC.1 | exact hC.1.1 | exact hC.2) | simp_all), trivial⟩) trivial ?_
  refine ch_g (R := []) rfl rfl rfl gate_t (fun hC => oc_move (x := .val _) rfl rfl) (fun hC => ⟨(by first | rfl | exact hC | (simp only [Bool.and_eq_true] at hC; first | exact hC.1 | exact hC.1.1 | exact hC.2) | simp_all), trivial⟩) trivial ?_
  refine ch_g (R := []) rfl rfl rfl gate_t (fun hC => oc_binZ rfl rfl rfl rfl) (fun hC => ⟨(by first | rfl | exact hC | (simp only [Bool.and_eq_true] at hC; first | exact hC.1 | exact hC.1.1 | exact hC.2) | simp_all), (by first | rfl | exact hC | (simp only [Bool.and_eq_true] at hC; first | exact hC.1 | exact hC.1.1 | exact hC.2) | simp_all), trivial⟩) trivial ?_
  refine ch_v (R := []) rfl rfl (oc_and rfl rfl rfl rfl (by first | exact fun h => h | simp_all)) trivial ?_
  refine ck_nil ?_
  refine aw_cond rfl (fun hb => ?_) (fun hb => ?_)
  · have hlt : k < l.length ∧ (k : Int) ≤ n := by simp only [Bool.and_eq_true, decide_eq_true_eq] at hb; omega
    refine aw_skip ?_
    refine aw_seq ?_
    refine aw_block ?_
    refine aw_seq ?_
    refine aw_text rfl ?_
    refine ch_v (R := []) rfl rfl (oc_move (x := .sl _ _ _) rfl rfl) trivial ?_
    refine ch_v (R := []) rfl rfl (oc_move (x := .val _) rfl rfl) trivial ?_
    refine ch_v (R := []) rfl rfl ((by first | exact oc_indexN rfl rfl rfl (by kernel_rfl) (by omega) | exact oc_index rfl rfl rfl (by kernel_rfl) (by omega) (by omega) rfl)) trivial ?_
    refine ch_v (R := []) rfl rfl (oc_load rfl rfl (by kernel_rfl) cells_str) trivial ?_
    refine ch_v (R := []) rfl rfl (oc_len_str rfl rfl (by kernel_rfl)) trivial ?_
    refine ch_v (R := []) rfl rfl (oc_move (x := .val _) rfl rfl) trivial ?_
    refine ch_v (R := []) rfl rfl (oc_binZ rfl rfl rfl rfl) trivial ?_
    refine ck_nil ?_
    refine aw_cond rfl (fun hb => ?_) (fun hb => ?_)
    · have hsz : ¬ ((l.getD k ByteArray.empty).size : Int) ≤ m := by have h0 := of_decide_eq_true hb; omega
      refine aw_seq ?_
      refine aw_text rfl ?_
      refine ch_v (R := []) rfl rfl (oc_assign (x := .val _) rfl rfl) trivial ?_
      refine ck_nil ?_
      refine aw_ret ?_
      exact ⟨.inl rfl, ResOk.tmp rfl (vb_eq (by unfold fewL; rw [rall_false (p := fun k => decide (((l.getD k ByteArray.empty).size : Int) ≤ m)) hlt.1 (by simpa using hsz), Bool.and_false])), trivial⟩
    · have hsz : ((l.getD k ByteArray.empty).size : Int) ≤ m := by have h0 := of_decide_eq_false hb; omega
      refine aw_skip ?_
      refine aw_text rfl ?_
      refine ch_v (R := []) rfl rfl (oc_move (x := .val _) rfl rfl) trivial ?_
      refine ch_v (R := []) rfl rfl (oc_binZ rfl rfl rfl (by first | exact binW_add (by omega) (by omega) | rfl)) trivial ?_
      refine ch_v (R := []) rfl rfl (oc_assign (x := .val _) rfl rfl) trivial ?_
      refine ck_nil ?_
      exact ⟨k + 1, ⟨by omega, by omega, rall_step (p := fun j => decide (((l.getD j ByteArray.empty).size : Int) ≤ m)) hI.2.2 (by simpa using hsz)⟩, by omega, Le.sub (by repeat (first | exact trivial | refine ⟨.inr rfl, ?_⟩ | refine ⟨.inr (vi_eq (by omega)), ?_⟩)) trivial⟩
  · have hge : ¬ (k < l.length ∧ (k : Int) ≤ n) := by intro hc; simp only [Bool.and_eq_false_iff, decide_eq_false_iff_not] at hb; omega
    refine aw_exit ?_
    refine aw_seq ?_
    refine aw_text rfl ?_
    refine ch_v (R := []) rfl rfl (oc_move (x := .sl _ _ _) rfl rfl) trivial ?_
    refine ch_v (R := []) rfl rfl (oc_len rfl rfl (by kernel_rfl)) trivial ?_
    refine ch_v (R := []) rfl rfl (oc_move (x := .val _) rfl rfl) trivial ?_
    refine ch_v (R := []) rfl rfl (oc_binZ rfl rfl rfl rfl) trivial ?_
    refine ch_v (R := []) rfl rfl (oc_assign (x := .val _) rfl rfl) trivial ?_
    refine ck_nil ?_
    refine aw_ret ?_
    exact ⟨.inl rfl, ResOk.tmp rfl (vb_eq (by
      unfold fewL
      by_cases hln : (l.length : Int) ≤ n
      · rw [rall_true (p := fun k => decide (((l.getD k ByteArray.empty).size : Int) ≤ m)) (fun j hj => hI.2.2 j (by omega)), Bool.and_true]
      · rw [decide_eq_false hln, Bool.false_and])), trivial⟩
def smallB (p : PoolP) : Bool := (decide ((p.at_.length : Int) ≤ 30) && decide ((p.bytes.length : Int) ≤ 400)) && fewL p.abbrevs 40 40
set_option maxHeartbeats 800000 in
theorem small_pc (p : PoolP) : PC Tryd.prog 19 [poolAv p] (vb (smallB p)) := by
  refine FC.body 2 18 Tryd.func19 rfl (by kernel_rfl) ?_
  refine aw_seq ?_
  refine aw_text rfl ?_
  refine ch_v (R := []) rfl rfl (oc_box (x := .agg _) rfl rfl) trivial ?_
  refine ch_v (R := []) rfl rfl (oc_assign (x := .val _) rfl rfl) trivial ?_
  refine ck_nil ?_
  refine aw_seq ?_
  refine aw_text rfl ?_
  refine ch_v (R := []) rfl rfl (oc_fieldAddr (off := 1) rfl rfl rfl (by kernel_rfl) rfl) trivial ?_
  refine ch_v (R := []) rfl rfl (oc_load rfl rfl (by kernel_rfl) cells_sl) trivial ?_
  refine ch_v (R := []) rfl rfl (oc_len rfl rfl (by kernel_rfl)) trivial ?_
  refine ch_v (R := []) rfl rfl (oc_binZ rfl rfl rfl rfl) trivial ?_
  refine ch_v (R := []) rfl rfl (oc_move (x := .val _) rfl rfl) trivial ?_
  refine ch_g (R := []) rfl rfl rfl gate_t (fun hC => oc_fieldAddr (off := 2) rfl rfl rfl (by kernel_rfl) rfl) (fun hC => ⟨(by first | rfl | exact hC | (simp only [Bool.and_eq_true] at hC; first | exact hC.1 | exact hC.1.1 | exact hC.2) | simp_all), trivial⟩) trivial ?_
  refine ch_g (R := []) rfl rfl rfl gate_t (fun hC => oc_load rfl rfl (by kernel_rfl) cells_sl) (fun hC => ⟨(by first | rfl | exact hC | (simp only [Bool.and_eq_true] at hC; first | exact hC.1 | exact hC.1.1 | exact hC.2) | simp_all), trivial⟩) trivial ?_
  refine ch_g (R := []) rfl rfl rfl gate_t (fun hC => oc_len rfl rfl (by kernel_rfl)) (fun hC => ⟨(by first | rfl | exact hC | (simp only [Bool.and_eq_true] at hC; first | exact hC.1 | exact hC.1.1 | exact hC.2) | simp_all), trivial⟩) trivial ?_
  refine ch_g (R := []) rfl rfl rfl gate_t (fun hC => oc_binZ rfl rfl rfl rfl) (fun hC => ⟨(by first | rfl | exact hC | (simp only [Bool.and_eq_true] at hC; first | exact hC.1 | exact hC.1.1 | exact hC.2) | simp_all), (by first | rfl | exact hC | (simp only [Bool.and_eq_true] at hC; first | exact hC.1 | exact hC.1.1 | exact hC.2) | simp_all), trivial⟩) trivial ?_
  refine ch_v (R := []) rfl rfl (oc_and rfl rfl rfl rfl (by first | exact fun h => h | simp_all)) trivial ?_
  refine ch_v (R := []) rfl rfl (oc_move (x := .val _) rfl rfl) trivial ?_
  refine ch_g (R := []) rfl rfl rfl gate_t (fun hC => oc_fieldAddr (off := 0) rfl rfl rfl (by kernel_rfl) rfl) (fun hC => ⟨(by first | rfl | exact hC | (simp only [Bool.and_eq_true] at hC; first | exact hC.1 | exact hC.1.1 | exact hC.2) | simp_all), trivial⟩) trivial ?_
  refine ch_g (R := []) rfl rfl rfl gate_t (fun hC => oc_load rfl rfl (by kernel_rfl) cells_sl) (fun hC => ⟨(by first | rfl | exact hC | (simp only [Bool.and_eq_true] at hC; first | exact hC.1 | exact hC.1.1 | exact hC.2) | simp_all), trivial⟩) trivial ?_
  refine ch_g (R := []) rfl rfl rfl gate_t (fun hC => oc_call rfl (by kernel_rfl) (few8_pc p.abbrevs 40 40 (by omega) (by omega)) rfl (by simp only [PureL, Pure, and_self, pure_slI, pure_slS, rowAv, pieces_pure, pool_pure, bs_pure, implies_true]) (by simp only [PureL, Pure, and_self, pure_slI, pure_slS, rowAv, pieces_pure, pool_pure, bs_pure, implies_true])) (fun hC => ⟨(by first | rfl | exact hC | (simp only [Bool.and_eq_true] at hC; first | exact hC.1 | exact hC.1.1 | exact hC.2) | simp_all), (by first | rfl | exact hC | (simp only [Bool.and_eq_true] at hC; first | exact hC.1 | exact hC.1.1 | exact hC.2) | simp_all), (by first | rfl | exact hC | (simp only [Bool.and_eq_true] at hC; first | exact hC.1 | exact hC.1.1 | exact hC.2) | simp_all), (by first | rfl | exact hC | (simp only [Bool.and_eq_true] at hC; first | exact hC.1 | exact hC.1.1 | exact hC.2) | simp_all), trivial⟩) trivial ?_
  refine ch_v (R := []) rfl rfl (oc_and rfl rfl rfl rfl (by first | exact fun h => h | simp_all)) trivial ?_
  refine ch_v (R := []) rfl rfl (oc_assign (x := .val _) rfl rfl) trivial ?_
  refine ck_nil ?_
  refine aw_ret ?_
  exact ⟨.inl rfl, ResOk.tmp rfl rfl, trivial⟩
end Go.Proofs.YtpbaiighifhfnaaDoor
