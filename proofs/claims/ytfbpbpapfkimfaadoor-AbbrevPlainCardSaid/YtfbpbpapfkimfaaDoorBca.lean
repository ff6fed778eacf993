/- Chapter 7: abbrev.Cut, plain facts; the closure that it calls. -/
import Derived.Test.YtfbpbpapfkimfaaDoorBz
import Derived.Test.YtfbpbpapfkimfaaDoorProg
import Derived.KernelRfl
namespace Go.Proofs.YtfbpbpapfkimfaaDoor
open Go.RowKit
set_option maxRecDepth 100000
set_option linter.unusedVariables false
set_option linter.unusedSimpArgs false
theorem res_none {P : Program} {fn : Func} {Γ : Ctx} (h : fn.results = #[]) : ResOk P fn Γ .any := fun E a _ _ => ⟨_, results_none h _ _ _, by unfold Rep; trivial⟩
/-- Only 32 abbreviations count. -/
theorem lsK_cut {s : ByteArray} {ab : List ByteArray} {i m : Nat} {A : List Int} (hm : m = min ab.length 32) : ∀ d, lsK s ab i A (m + d) = lsK s ab i A m ∨ ab.length < m + d
  | 0 => .inl rfl
  | d + 1 => by
    rcases lsK_cut (s := s) (i := i) (A := A) hm d with h | h
    · by_cases h9 : ab.length < m + (d + 1)
      · exact .inr h9
      · refine .inl ?_
        rw [← h]
        have ea : lsK s ab i A (m + d + 1) = if fitsB s i ab (m + d) = true ∧ 2 + A.getD (i + (ab.getD (m + d) ByteArray.empty).size) 0 < lsK s ab i A (m + d) then 2 + A.getD (i + (ab.getD (m + d) ByteArray.empty).size) 0 else lsK s ab i A (m + d) := rfl
        rw [← Nat.add_assoc, ea, if_neg (fun hc => by have := (fits_in hc.1).1; omega)]
    · exact .inr (by omega)
theorem tkK_cut {s : ByteArray} {ab : List ByteArray} {i m : Nat} {A : List Int} (hm : m = min ab.length 32) : ∀ d, tkK s ab i A (m + d) = tkK s ab i A m ∨ ab.length < m + d
  | 0 => .inl rfl
  | d + 1 => by
    rcases tkK_cut (s := s) (i := i) (A := A) hm d with h | h
    · by_cases h9 : ab.length < m + (d + 1)
      · exact .inr h9
      · refine .inl ?_
        rw [← h]
        have ea : tkK s ab i A (m + d + 1) = if fitsB s i ab (m + d) = true ∧ 2 + A.getD (i + (ab.getD (m + d) ByteArray.empty).size) 0 < lsK s ab i A (m + d) then m + d + 1 else tkK s ab i A (m + d) := rfl
        rw [← Nat.add_assoc, ea, if_neg (fun hc => by have := (fits_in hc.1).1; omega)]
    · exact .inr (by omega)
theorem lsK_m {s : ByteArray} {ab : List ByteArray} {i m : Nat} {A : List Int} (hm : m = min ab.length 32) : lsK s ab i A m = lsK s ab i A ab.length := by
  rcases lsK_cut (s := s) (i := i) (A := A) hm (ab.length - m) with h | h
  · rw [show m + (ab.length - m) = ab.length from by omega] at h; exact h.symm
  · omega
theorem tkK_m {s : ByteArray} {ab : List ByteArray} {i m : Nat} {A : List Int} (hm : m = min ab.length 32) : tkK s ab i A m = tkK s ab i A ab.length := by
  rcases tkK_cut (s := s) (i := i) (A := A) hm (ab.length - m) with h | h
  · rw [show m + (ab.length - m) = ab.length from by omega] at h; exact h.symm
  · omega
/-- Which abbreviation each place takes, for the last d places. -/
def byA (s : ByteArray) (ab : List ByteArray) : Nat → List Int
  | 0 => List.replicate s.size 0
  | d + 1 => (byA s ab d).set (s.size - 1 - d) (tkK s ab (s.size - 1 - d) (lsA s ab d) ab.length)
theorem byA_len (s : ByteArray) (ab : List ByteArray) : ∀ d, (byA s ab d).length = s.size
  | 0 => by simp [byA]
  | d + 1 => by unfold byA; rw [List.length_set, byA_len s ab d]
theorem byA_zero (s : ByteArray) (ab : List ByteArray) : ∀ d, ∀ j, j < s.size - d → (byA s ab d).getD j 0 = 0
  | 0, j, hj => by
    show (List.replicate s.size (0 : Int)).getD j 0 = 0
    rw [List.getD, List.getElem?_replicate]
    split <;> rfl
  | d + 1, j, hj => by
    show ((byA s ab d).set _ _).getD j 0 = 0
    rw [getD_put, if_neg (by omega)]
    exact byA_zero s ab d j (by omega)
def byW (s : ByteArray) (ab : List ByteArray) (i : Nat) (A B : List Int) (k : Nat) : List Int := B.set i (tkK s ab i A k : Int)
theorem byW_len (s : ByteArray) (ab : List ByteArray) (i k : Nat) (A B : List Int) : (byW s ab i A B k).length = B.length := by unfold byW; rw [List.length_set]
theorem byW_zero {s : ByteArray} {ab : List ByteArray} {i : Nat} {A B : List Int} (h : B.getD i 0 = 0) : byW s ab i A B 0 = B := by
  show B.set i (0 : Int) = B
  by_cases hi : i < B.length
  · have e : B[i] = 0 := by rw [List.getD, List.getElem?_eq_getElem hi] at h; exact h
    rw [← e, List.set_getElem_self]
  · exact List.set_eq_of_length_le (by omega)
theorem byW_put {s : ByteArray} {ab : List ByteArray} {i k : Nat} {A B : List Int} : (byW s ab i A B k).set i (tkK s ab i A (k + 1) : Int) = byW s ab i A B (k + 1) := by
  unfold byW
  rw [List.set_set]
theorem byA_step {s : ByteArray} {ab : List ByteArray} {i : Nat} (h : i < s.size) : byA s ab (s.size - i) = byW s ab i (lsA s ab (s.size - (i + 1))) (byA s ab (s.size - (i + 1))) ab.length := by
  have e : s.size - i = (s.size - (i + 1)) + 1 := by omega
  have e2 : s.size - 1 - (s.size - (i + 1)) = i := by omega
  rw [e]
  show (byA s ab (s.size - (i + 1))).set (s.size - 1 - (s.size - (i + 1))) _ = _
  rw [e2]
  rfl
theorem byA_at {s : ByteArray} {ab : List ByteArray} : ∀ d, d ≤ s.size → ∀ j, s.size - d ≤ j → j < s.size → (byA s ab d).getD j 0 = (tkL s ab j : Int)
  | 0, _, j, h1, h2 => by omega
  | d + 1, hd, j, h1, h2 => by
    show ((byA s ab d).set _ _).getD j 0 = _
    rw [getD_put, byA_len]
    by_cases e : s.size - 1 - d = j
    · rw [if_pos ⟨e, by omega⟩, e]
      unfold tkL
      congr 1
      exact tkK_congr (fun k hk => (lsL_from (by omega) (by omega)).symm) _
    · rw [if_neg (fun hc => e hc.1)]
      exact byA_at d (by omega) j (by omega) h2
theorem row_by (s : ByteArray) (ab : List ByteArray) (j : Nat) (hj : j < s.size) : ((byA s ab s.size).map vi)[j]? = some (vi (tkL s ab j : Int)) ∧ oneA (vi (tkL s ab j : Int)) = true := by
  refine ⟨?_, rfl⟩
  have h := byA_at (s := s) (ab := ab) s.size (Nat.le_refl _) j (by omega) hj
  rw [← h]
  exact (row_vi (byA s ab s.size) j (by rw [byA_len]; exact hj)).1
/-- What the test asks is whether it fits. -/
theorem cut_fit {s : ByteArray} {ab : List ByteArray} {i k : Nat} (hi : i ≤ s.size) (hk : k < 32) : (((ab.getD k ByteArray.empty).toList != (⟨#[]⟩ : ByteArray).toList) && (decide ((ab.getD k ByteArray.empty).size ≤ (s.extract i s.size).size) && decide ((s.extract i s.size).extract 0 (ab.getD k ByteArray.empty).size = ab.getD k ByteArray.empty))) = fitsB s i ab k := by
  rw [pref_at hi]
  unfold fitsB
  rw [show decide (k < 32) = true from decide_eq_true hk, Bool.true_and, Bool.and_assoc]
  congr 1
  have h1 : ((ab.getD k ByteArray.empty).toList == (⟨#[]⟩ : ByteArray).toList) = decide (ab.getD k ByteArray.empty = ⟨#[]⟩) := str_eq _ _
  have h2 : ((ab.getD k ByteArray.empty).toList != (⟨#[]⟩ : ByteArray).toList) = !((ab.getD k ByteArray.empty).toList == (⟨#[]⟩ : ByteArray).toList) := rfl
  rw [h2, h1]
  by_cases e : ab.getD k ByteArray.empty = ⟨#[]⟩
  · rw [e]; rfl
  · rw [show decide (ab.getD k ByteArray.empty = ⟨#[]⟩) = false from decide_eq_false e]
    symm
    refine decide_eq_true ?_
    rcases Nat.eq_zero_or_pos (ab.getD k ByteArray.empty).size with h | h
    · refine absurd (tB_inj ?_) e
      have : (tB (ab.getD k ByteArray.empty)).length = 0 := by rw [tB_len]; exact h
      rw [List.eq_nil_of_length_eq_zero this]
      rfl
    · exact h
theorem flush_len (s : ByteArray) (fr i : Nat) (out : List PieceP) : (flushP s fr i out).length ≤ out.length + 1 := by
  unfold flushP
  split
  · simp
  · omega
theorem cutF_over {s : ByteArray} {ab : List ByteArray} {f i fr : Nat} {out : List PieceP} (h : ¬ i < s.size) : cutF s ab f i fr out = flushP s fr s.size out := by
  cases f with
  | zero => rfl
  | succ f => unfold cutF; rw [if_neg h]
abbrev CtSt := Nat × Nat × List PieceP
set_option maxHeartbeats 800000 in
theorem cut1_fcm (s : ByteArray) (fr tt : Nat) (out : List PieceP) (hs : s.size ≤ 1000000) (h1 : fr ≤ tt) (h2 : tt ≤ s.size) (h3 : out.length ≤ 3000000) : FCM Tryd.prog 28 [vi tt, .own 3 0, .own 2 0, .ptr (vs s)] [(2, .live 28 [.osl 2 4 out.length]), (3, .live 3 [vi (fr : Int)])] [(4, .live 39 (pcs out))] .any [(2, .live 28 [.osl 2 5 (flushP s fr tt out).length]), (3, .live 3 [vi (fr : Int)]), (5, .live 39 (pcs (flushP s fr tt out)))] := by
  refine FCM.body 6 16 Tryd.func28 rfl (by kernel_rfl) ?_
  refine aw_seq ?_
  refine aw_text rfl ?_
  refine ch_v (R := [(_, .live _ _)]) rfl rfl (oc_load_own rfl rfl (by kernel_rfl) rfl) ⟨rfl, trivial⟩ ?_
  refine ch_v (R := []) rfl rfl (oc_move (x := .val _) rfl rfl) trivial ?_
  refine ch_v (R := []) rfl rfl (oc_binZ rfl rfl rfl rfl) trivial ?_
  refine ck_nil ?_
  refine aw_cond rfl (fun hb => ?_) (fun hb => ?_)
  · have hlt : fr < tt := by have h0 := of_decide_eq_true hb; omega
    have hfl : flushP s fr tt out = out ++ [((s.extract fr tt), (0 : Int))] := if_pos hlt
    refine aw_draw mixed ?_
    refine ch_v (R := [(_, .live _ _)]) rfl rfl (oc_load_own rfl rfl (by kernel_rfl) rfl) ⟨rfl, trivial⟩ ?_
    refine ch_v (R := []) rfl rfl (oc_load rfl rfl (by kernel_rfl) cells_str) trivial ?_
    refine ch_v (R := [(_, .live _ _)]) rfl rfl (oc_load_own rfl rfl (by kernel_rfl) rfl) ⟨rfl, trivial⟩ ?_
    refine ch_v (R := []) rfl rfl (oc_move (x := .val _) rfl rfl) trivial ?_
    refine ch_v (R := []) rfl rfl (OC.cast (oc_substr rfl rfl rfl rfl (by kernel_rfl) (by omega) (by omega) (by omega)) (show Av.val (.string (s.extract (fr : Int).toNat (tt : Int).toNat)) = vs (s.extract fr tt) from by rw [Int.toNat_natCast, Int.toNat_natCast])) trivial ?_
    refine ch_v (R := []) rfl rfl (oc_build (pl := [(0, 1), (1, 1)]) (zs := [.string ⟨#[]⟩, .int .i64 0]) (ds := [.val _, .val _]) rfl (by kernel_rfl) rfl (by kernel_rfl) (by first | rfl | decide) rfl) trivial ?_
    refine ch_v (R := []) rfl rfl (oc_buildSlice (ps := [.tmp 13]) (xs := [.agg _]) (e := 39) (k := 2) (by_ := 24) (zs := [.string ⟨#[]⟩, .int .i64 0]) rfl (by kernel_rfl) (by kernel_rfl) rfl rfl rfl (by decide) (by decide)) trivial ?_
    refine ch_u rfl rfl (oc_append (e := 39) (k := 2) (by_ := 24) (zs := [.string ⟨#[]⟩, .int .i64 0]) (cs := pcs out) (ds := [vs ((s.extract fr tt), (0 : Int)).1, vi ((s.extract fr tt), (0 : Int)).2]) 5 rfl rfl rfl (by kernel_rfl) (by kernel_rfl) rfl (by decide) (by decide) (pcs_len _) rfl (app_piece ((s.extract fr tt), (0 : Int))) (by omega) (by omega)) ⟨rfl, rfl, trivial⟩ ?_
    refine ch_n rfl rfl (oc_store (y := .osl _ _ _) (cs' := [_]) rfl rfl rfl (by kernel_rfl) (by kernel_rfl) cells_osl (by first | decide | (simp; done) | (simp; omega)) rfl) ⟨rfl, trivial⟩ ?_
    refine ck_nil ⟨by kernel_rfl, ?_⟩
    refine ⟨.inr rfl, res_none rfl, ?_⟩
    rw [hfl]
    exact ⟨by first | rfl | (rw [List.length_append]; rfl), rfl, by first | rfl | (rw [pcs_app]; rfl), trivial⟩
  · have hlt : ¬ fr < tt := by have h0 := of_decide_eq_false hb; omega
    have hfl : flushP s fr tt out = out := if_neg hlt
    refine aw_le (Le.swap (τ := ⟨[], [(2, .live 28 [.osl 2 5 out.length]), (3, .live 3 [vi (fr : Int)]), (5, .live 39 (pcs out))]⟩) 4 5 (by simp) (by simp) trivial ⟨rfl, rfl, by show lkH _ 4 = some (Hs.live _ ((pcs out).map _)); rw [ren_pcs]; rfl, trivial⟩) ?_
    refine aw_skip ?_
    refine ⟨.inr rfl, res_none rfl, ?_⟩
    rw [hfl]
    exact ⟨by first | rfl | (rw [List.length_append]; rfl), rfl, by first | rfl | (rw [pcs_app]; rfl), trivial⟩
end Go.Proofs.YtfbpbpapfkimfaaDoor
