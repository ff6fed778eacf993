/- Chapter 8: unpacked and said alike. No program stands in this text. Chapter 8: a pool's bytes, a pool's text, the document's text, walked. Chapter 8: rows that are alike, Same, Count, All, walked. -/
import Derived.Test.YtpbaiighifhfnaaDoorPf
import Derived.Test.YtpbaiighifhfnaaDoorProg
import Derived.KernelRfl
namespace Go.Proofs.YtpbaiighifhfnaaDoor
set_option linter.unusedSimpArgs false
set_option linter.unusedVariables false
/-- What is told of what is said. -/
def finP (p : ByteArray × Int) : ByteArray × Int := if p.2 ≠ 0 then (ByteArray.empty, p.2) else if isTextB (tB p.1) = true then (p.1, 0) else (ByteArray.empty, 13)
theorem finP_err {e : Int} (h : e ≠ 0) : finP (ByteArray.empty, e) = (ByteArray.empty, e) := by unfold finP; rw [if_pos h]
theorem aText_nil : aText [] = ([], 0) := aText_yes (by decide) rfl
theorem app_emp (s : ByteArray) : s ++ strOfNums [] = s := by
  apply ByteArray.ext
  rw [ByteArray.data_append]
  show s.data ++ #[] = s.data
  simp
theorem app_assocB (a b c : ByteArray) : a ++ b ++ c = a ++ (b ++ c) := by
  apply ByteArray.ext
  simp only [ByteArray.data_append, Array.append_assoc]
theorem runN_stop {r : List Int} {n g : Nat} (h : runN r = runF r g n) (hs : ¬ (n < r.length ∧ r.getD n 0 ≠ 30)) : runN r = n := by
  rw [h]
  cases g with
  | zero => rfl
  | succ g => show (if _ then _ else _) = _; rw [if_neg hs]
theorem segL_take (l : List Int) (row n : Nat) : segL l row (row + n) = (l.drop row).take n := by
  unfold segL
  rw [Nat.add_sub_cancel_left]
theorem un_said (l : List Int) (ab : List ByteArray) : ∀ (f row n g k : Nat) (out : ByteArray), row + n ≤ l.length → l.length < f + (row + n) → l.length - row < g → (l.drop row).length < k + n → runN (l.drop row) = runF (l.drop row) k n → (0 < n → (l.drop row).getD 0 0 ≠ 30) → unF l ab f row (row + n) out = finP (saidF ab g (l.drop row) out)
  | 0, row, n, g, k, out, h1, h2, _, _, _, _ => by omega
  | f + 1, row, n, g, k, out, h1, h2, h3, h4, h5, h6 => by
    have hrl : (l.drop row).length = l.length - row := List.length_drop ..
    have hget : ∀ j, (l.drop row).getD j 0 = l.getD (row + j) 0 := fun j => by rw [getD_drop0, Nat.add_comm]
    obtain ⟨g, rfl⟩ : ∃ g', g = g' + 1 := ⟨g - 1, by omega⟩
    have hwb := wideC_bd (l.getD (row + n) 0)
    have key : ¬ (n < (l.drop row).length ∧ (l.drop row).getD n 0 ≠ 30) → 0 < n → saidF ab (g + 1) (l.drop row) out = if (aText ((l.drop row).take n)).2 ≠ 0 then (ByteArray.empty, 16) else saidF ab g ((l.drop row).drop n) (out ++ strOfNums (aText ((l.drop row).take n)).1) := fun hs hn => by
      have hr := runN_stop h5 hs
      rw [said_step (by omega), if_neg (h6 hn), hr, if_neg (by omega)]
    by_cases hlt : row + n < l.length
    · rw [un_step hlt]
      by_cases hw : l.length - (row + n) < wideC (l.getD (row + n) 0)
      · rw [if_pos hw]
        have e16 : (if segE l row l.length = 0 then (16 : Int) else segE l row l.length) = 16 := by
          rcases segE_or l row l.length with h | h <;> rw [h] <;> decide
        rw [e16]
        by_cases hc : l.getD (row + n) 0 = 30
        · rw [hc] at hw
          have hw2 : wideC 30 = 2 := rfl
          rcases Nat.eq_zero_or_pos n with hn | hn
          · subst hn
            rw [said_step (by omega), if_pos (by rw [hget]; exact hc), if_pos (by omega), finP_err (by decide)]
          · rw [key (fun hx => hx.2 (by rw [hget]; exact hc)) hn]
            by_cases he : (aText ((l.drop row).take n)).2 ≠ 0
            · rw [if_pos he, finP_err (by decide)]
            · rw [if_neg he]
              obtain ⟨g, rfl⟩ : ∃ g', g = g' + 1 := ⟨g - 1, by omega⟩
              rw [said_step (by rw [List.length_drop]; omega), if_pos (by rw [getD_drop0, Nat.zero_add, hget]; exact hc), if_pos (by rw [List.length_drop]; omega), finP_err (by decide)]
        · obtain ⟨k, rfl⟩ : ∃ k', k = k' + 1 := ⟨k - 1, by omega⟩
          have hq : n < (l.drop row).length ∧ (l.drop row).getD n 0 ≠ 30 := ⟨by omega, by rw [hget]; exact hc⟩
          have h7 : runN (l.drop row) = runF (l.drop row) k (n + wideC (l.getD (row + n) 0)) := by
            rw [h5]
            show (if _ then _ else _) = _
            rw [if_pos hq, hget]
          have hr := runN_stop h7 (fun hx => by omega)
          have h0 : (l.drop row).getD 0 0 ≠ 30 := by
            rcases Nat.eq_zero_or_pos n with hn | hn
            · subst hn; exact hq.2
            · exact h6 hn
          rw [said_step (by omega), if_neg h0, hr, if_pos (by omega), finP_err (by decide)]
      · rw [if_neg hw]
        by_cases hc : l.getD (row + n) 0 = 30
        · rw [if_neg (fun hx => hx hc)]
          rw [hc] at hw
          have hw2 : wideC 30 = 2 := rfl
          have hd2 : ∀ m, row + m + 2 ≤ l.length → (l.drop row).drop (m + 2) = l.drop (row + m + 2) := fun m _ => by rw [List.drop_drop]; congr 1
          have fin : ∀ (g : Nat) (o : ByteArray), l.length - (row + n + 2) < g → unF l ab f (row + n + 2) (row + n + 2) o = finP (saidF ab g (l.drop (row + n + 2)) o) := fun g o hg => un_said l ab f (row + n + 2) 0 g ((l.drop (row + n + 2)).length + 1) o (by omega) (by omega) hg (by omega) rfl (fun hx => absurd hx (by omega))
          rcases Nat.eq_zero_or_pos n with hn | hn
          · subst hn
            have e1 : segL l row (row + 0) = [] := by rw [segL_take]; rfl
            have e2 : segE l row (row + 0) = 0 := by unfold segE; rw [e1, aText_nil]
            have e3 : segT l row (row + 0) = strOfNums [] := by unfold segT; rw [e1, aText_nil]
            rw [e2, if_neg (by decide), e3, app_emp, said_step (by omega), if_pos (show (l.drop row).getD 0 0 = 30 from by rw [hget]; exact hc), if_neg (show ¬ (l.drop row).length < 2 from by omega), hget 1]
            by_cases ha : l.getD (row + 0 + 1) 0 ≥ (ab.length : Int)
            · rw [if_pos ha, if_pos ha, finP_err (by decide)]
            · rw [if_neg ha, if_neg ha, fin g _ (by omega)]
              have := hd2 0 (by omega)
              rw [show (0 : Nat) + 2 = 2 from rfl] at this
              rw [this]
          · rw [key (fun hx => hx.2 (by rw [hget]; exact hc)) hn]
            have e2 : segE l row (row + n) = (aText ((l.drop row).take n)).2 := by unfold segE; rw [segL_take]
            have e3 : segT l row (row + n) = strOfNums (aText ((l.drop row).take n)).1 := by unfold segT; rw [segL_take]
            have e4 := segE_or l row (row + n)
            rw [e2, e3]
            rw [e2] at e4
            by_cases he : (aText ((l.drop row).take n)).2 ≠ 0
            · rw [if_pos he, if_pos he, finP_err (by decide)]
              rcases e4 with e4 | e4
              · exact absurd e4 he
              · rw [e4]
            · rw [if_neg he, if_neg he]
              obtain ⟨g, rfl⟩ : ∃ g', g = g' + 1 := ⟨g - 1, by omega⟩
              have hdd : (l.drop row).drop n = l.drop (row + n) := by rw [List.drop_drop]
              have hdl : (l.drop (row + n)).length = l.length - (row + n) := List.length_drop ..
              rw [hdd, said_step (by omega), if_pos (show (l.drop (row + n)).getD 0 0 = 30 from by rw [getD_drop0, Nat.zero_add]; exact hc), if_neg (show ¬ (l.drop (row + n)).length < 2 from by omega), getD_drop0, show 1 + (row + n) = row + n + 1 from by omega]
              by_cases ha : l.getD (row + n + 1) 0 ≥ (ab.length : Int)
              · rw [if_pos ha, if_pos ha, finP_err (by decide)]
              · rw [if_neg ha, if_neg ha, fin g _ (by omega), List.drop_drop]
        · rw [if_pos hc]
          obtain ⟨k, rfl⟩ : ∃ k', k = k' + 1 := ⟨k - 1, by omega⟩
          have hq : n < (l.drop row).length ∧ (l.drop row).getD n 0 ≠ 30 := ⟨by omega, by rw [hget]; exact hc⟩
          have h7 : runN (l.drop row) = runF (l.drop row) k (n + wideC (l.getD (row + n) 0)) := by
            rw [h5]
            show (if _ then _ else _) = _
            rw [if_pos hq, hget]
          have h0 : (l.drop row).getD 0 0 ≠ 30 := by
            rcases Nat.eq_zero_or_pos n with hn | hn
            · subst hn; exact hq.2
            · exact h6 hn
          rw [Nat.add_assoc]
          exact un_said l ab f row (n + wideC (l.getD (row + n) 0)) (g + 1) k out (by omega) (by omega) h3 (by omega) h7 (fun _ => h0)
    · have hen : row + n = l.length := by omega
      rw [unF_end hlt (by omega), ← hen]
      rcases Nat.eq_zero_or_pos n with hn | hn
      · subst hn
        have e1 : segL l row (row + 0) = [] := by rw [segL_take]; rfl
        have e2 : segE l row (row + 0) = 0 := by unfold segE; rw [e1, aText_nil]
        have e3 : segT l row (row + 0) = strOfNums [] := by unfold segT; rw [e1, aText_nil]
        rw [e2, e3, said_end (by omega) (by omega)]
        unfold unEnd finP
        rw [if_neg (by decide), if_neg (show ¬ ((out, (0 : Int)).2 ≠ 0) from fun h => h rfl), app_emp]
      · rw [key (fun hx => by omega) hn]
        have e2 : segE l row (row + n) = (aText ((l.drop row).take n)).2 := by unfold segE; rw [segL_take]
        have e3 : segT l row (row + n) = strOfNums (aText ((l.drop row).take n)).1 := by unfold segT; rw [segL_take]
        have e4 := segE_or l row (row + n)
        rw [e2, e3]
        rw [e2] at e4
        by_cases he : (aText ((l.drop row).take n)).2 ≠ 0
        · rw [if_pos he, finP_err (by decide)]
          unfold unEnd
          rw [if_pos he]
          rcases e4 with e4 | e4
          · exact absurd e4 he
          · rw [e4]
        · rw [if_neg he, said_end (by rw [List.length_drop]; omega) (by omega)]
          unfold unEnd finP
          rw [if_neg he, if_neg (show ¬ ((out ++ strOfNums (aText (List.take n (List.drop row l))).1, (0 : Int)).2 ≠ 0) from fun h => h rfl)]
theorem unpacked_said (l : List Int) (ab : List ByteArray) : unpackedP l ab = finP (saidP l ab) :=
  un_said l ab (l.length + 1) 0 0 (l.length + 1) (l.length + 1) ByteArray.empty (by omega) (by omega) (by omega) (by simp) rfl (fun h => absurd h (by omega))
/-! ### The bytes, the text of a pool -/
def fromP (p : PoolP) (i : Nat) : Int := p.at_.getD i 0
def toP (p : PoolP) (i : Nat) : Int := if i + 1 < p.at_.length then p.at_.getD (i + 1) 0 else (p.bytes.length : Int)
def partP (p : PoolP) (i : Nat) : List Int := (p.bytes.drop (fromP p i).toNat).take ((toP p i).toNat - (fromP p i).toNat)
def bytesP (p : PoolP) (i : Int) : List Int × Int :=
  if i < 0 ∨ i ≥ (p.at_.length : Int) then ([], 11) else if fromP p i.toNat < 0 ∨ toP p i.toNat < fromP p i.toNat ∨ toP p i.toNat > (p.bytes.length : Int) then ([], 5) else (partP p i.toNat, 0)
noncomputable def poolTx (p : PoolP) (i : Int) : ByteArray × Int :=
  if (bytesP p i).2 ≠ 0 then (ByteArray.empty, (bytesP p i).2) else if (aUnpack (bytesP p i).1).2 ≠ 0 then (ByteArray.empty, (aUnpack (bytesP p i).1).2) else unpackedP (aUnpack (bytesP p i).1).1 p.abbrevs
theorem bytesP_len (p : PoolP) (i : Int) : (bytesP p i).1.length ≤ p.bytes.length := by
  unfold bytesP
  repeat' split
  · exact Nat.zero_le _
  · exact Nat.zero_le _
  · show (partP p i.toNat).length ≤ _
    unfold partP
    rw [List.length_take, List.length_drop]
    omega
theorem bytesP_bts {p : PoolP} (h : Bts p.bytes) (i : Int) : Bts (bytesP p i).1 := by
  unfold bytesP
  repeat' split
  · intro c hc; cases hc
  · intro c hc; cases hc
  · intro c hc
    exact h c (List.mem_of_mem_drop (List.mem_of_mem_take hc))
theorem aUnpack_bd (bs : List Int) : (aUnpack bs).1.length ≤ 8 * bs.length / 5 ∧ ∀ k, 0 ≤ (aUnpack bs).1.getD k 0 := by
  have hnil : ([] : List Int).length ≤ 8 * bs.length / 5 ∧ ∀ k, 0 ≤ ([] : List Int).getD k 0 := ⟨Nat.zero_le _, fun k => by simp⟩
  unfold aUnpack
  split
  · exact hnil
  · rename_i j hj
    have hjm := List.mem_range.1 (List.mem_of_find?_eq_some hj)
    unfold aEnd
    split
    · exact hnil
    · split
      · exact hnil
      · refine ⟨by show (aOut bs j).length ≤ _; rw [aOut_len]; omega, fun k => ?_⟩
        show 0 ≤ (aOut bs j).getD k 0
        unfold aOut
        rcases Nat.lt_or_ge k j with h | h
        · simp [List.getD, List.getElem?_map, List.getElem?_range h]
          exact (code5_bd bs (5 * k)).1
        · rw [List.getD, List.getElem?_eq_none (by simpa using h)]
          simp
/-- The texts of a pool. -/
def allF (t : Int → ByteArray × Int) : Nat → Nat → List ByteArray → List ByteArray × Int
  | 0, k, out => (out, 0)
  | n + 1, k, out => if (t k).2 ≠ 0 then ([], (t k).2) else allF t n (k + 1) (out ++ [(t k).1])
noncomputable def allP (p : PoolP) : List ByteArray × Int := allF (poolTx p) p.at_.length 0 []
theorem tx_size {p : PoolP} {i : Int} {n : Nat} (h : p.bytes.length ≤ n) (hab : ∀ k, (p.abbrevs.getD k ByteArray.empty).size ≤ 1000) : (poolTx p i).1.size ≤ 1001 * (2 * n) + 1 := by
  have hb := bytesP_len p i
  have hu := (aUnpack_bd (bytesP p i).1).1
  unfold poolTx
  split
  · exact Nat.zero_le _
  · split
    · exact Nat.zero_le _
    · rw [unpacked_said]
      unfold finP
      split
      · exact Nat.zero_le _
      · split
        · have : ∀ (f : Nat) (r : List Int) (s : ByteArray), (saidF p.abbrevs f r s).1.size ≤ s.size + 1001 * r.length := by
            intro f
            induction f with
            | zero => exact fun r s => Nat.zero_le _
            | succ f ih =>
              intro r s
              by_cases hl : 0 < r.length
              · rw [said_step hl]
                repeat' split
                · exact Nat.zero_le _
                · exact Nat.zero_le _
                · rename_i h2 h3
                  have := ih (r.drop 2) (s ++ p.abbrevs.getD (r.getD 1 0).toNat ByteArray.empty)
                  rw [List.length_drop, ByteArray.size_append] at this
                  have := hab (r.getD 1 0).toNat
                  omega
                · exact Nat.zero_le _
                · exact Nat.zero_le _
                · rename_i h1 h2 h3
                  have := ih (r.drop (runN r)) (s ++ strOfNums (aText (r.take (runN r))).1)
                  have h4 := textL_size (r.take (runN r))
                  rw [List.length_take] at h4
                  rw [List.length_drop, ByteArray.size_append] at this
                  omega
              · rw [said_end hl (by omega)]
                exact Nat.le_add_right _ _
          have := this ((aUnpack (bytesP p i).1).1.length + 1) (aUnpack (bytesP p i).1).1 ByteArray.empty
          have h0 : ByteArray.empty.size = 0 := rfl
          refine Nat.le_trans this ?_
          omega
        · exact Nat.zero_le _
end Go.Proofs.YtpbaiighifhfnaaDoor
namespace Go.Proofs.YtpbaiighifhfnaaDoor
open Go.RowKit
set_option maxRecDepth 100000
set_option linter.unusedVariables false
set_option linter.unusedSimpArgs false
theorem part_row {p : PoolP} {n : Nat} (h : 0 ≤ fromP p n) (h' : fromP p n ≤ toP p n) (h2 : toP p n ≤ (p.bytes.length : Int)) (E : Env) (v : Value) (hr : Rep E (.sl 1 ((toP p n).toNat - (fromP p n).toNat) (fun j => bv p.bytes (j + (fromP p n).toNat))) v) : Rep E (bs (partP p n)) v := by
  have hl : (partP p n).length = (toP p n).toNat - (fromP p n).toNat := by unfold partP; rw [List.length_take, List.length_drop]; omega
  unfold bs
  rw [hl]
  refine rep_rows (fun E k hk v hv => ?_) E v hr
  have e : (partP p n).getD k 0 = p.bytes.getD (k + (fromP p n).toNat) 0 := by
    unfold partP
    rw [List.getD, List.getD, List.getElem?_take, if_pos hk, List.getElem?_drop]
    congr 2
    omega
  unfold bv
  rw [e]
  exact hv
theorem bytesP_none {p : PoolP} {i : Int} (h : i < 0 ∨ i ≥ (p.at_.length : Int)) : bytesP p i = ([], 11) := by unfold bytesP; rw [if_pos h]
theorem bytesP_range {p : PoolP} {i : Int} (h : ¬ (i < 0 ∨ i ≥ (p.at_.length : Int))) (h' : fromP p i.toNat < 0 ∨ toP p i.toNat < fromP p i.toNat ∨ toP p i.toNat > (p.bytes.length : Int)) : bytesP p i = ([], 5) := by unfold bytesP; rw [if_neg h, if_pos h']
theorem bytesP_ok {p : PoolP} {i : Int} (h : ¬ (i < 0 ∨ i ≥ (p.at_.length : Int))) (h' : ¬ (fromP p i.toNat < 0 ∨ toP p i.toNat < fromP p i.toNat ∨ toP p i.toNat > (p.bytes.length : Int))) : bytesP p i = (partP p i.toNat, 0) := by unfold bytesP; rw [if_neg h, if_neg h']
theorem tx_e1 {p : PoolP} {i : Int} (h : (bytesP p i).2 ≠ 0) : poolTx p i = (ByteArray.empty, (bytesP p i).2) := by unfold poolTx; rw [if_pos h]
theorem tx_e2 {p : PoolP} {i : Int} (h : (bytesP p i).2 = 0) (h' : (aUnpack (bytesP p i).1).2 ≠ 0) : poolTx p i = (ByteArray.empty, (aUnpack (bytesP p i).1).2) := by unfold poolTx; rw [if_neg (fun hc => hc h), if_pos h']
theorem tx_ok {p : PoolP} {i : Int} (h : (bytesP p i).2 = 0) (h' : (aUnpack (bytesP p i).1).2 = 0) : poolTx p i = unpackedP (aUnpack (bytesP p i).1).1 p.abbrevs := by unfold poolTx; rw [if_neg (fun hc => hc h), if_neg (fun hc => hc h')]
theorem pair_tup {p q : ByteArray × Int} (h : p = q) : Av.tup [vs p.1, vi p.2] = .tup [vs q.1, vi q.2] := by rw [h]
theorem Bts.hid {l : List Int} (h : Bts l) : Bts l := h
set_option maxHeartbeats 800000 in
theorem bytes_pc (p : PoolP) (i : Int) (hal : p.at_.length ≤ 1000000) (hbl : p.bytes.length ≤ 100000000) : PC Tryd.prog 34 [poolAv p, vi i] (.tup [bs (bytesP p i).1, vi (bytesP p i).2]) := by
  refine FC.body 4 56 Tryd.func34 rfl (by kernel_rfl) ?_
  refine aw_seq ?_
  refine aw_text rfl ?_
  refine ch_v (R := []) rfl rfl (oc_box (x := .agg _) rfl rfl) trivial ?_
  refine ch_v (R := []) rfl rfl (oc_assign (x := .val _) rfl rfl) trivial ?_
  refine ch_v (R := []) rfl rfl (oc_assign (x := .val _) rfl rfl) trivial ?_
  refine ck_nil ?_
  refine aw_seq ?_
  refine aw_seq ?_
  refine aw_text rfl ?_
  refine ch_v (R := []) rfl rfl (oc_move (x := .val _) rfl rfl) trivial ?_
  refine ch_v (R := []) rfl rfl (oc_binZ rfl rfl rfl rfl) trivial ?_
  refine ch_v (R := []) rfl rfl (oc_move (x := .val _) rfl rfl) trivial ?_
  refine ch_g (R := []) rfl rfl rfl gate_f (fun hC => oc_move (x := .val _) rfl rfl) (fun hC => ⟨(by first | rfl | exact hC | (simp only [Bool.and_eq_true] at hC; first | exact hC.1 | exact hC.1.1 | exact hC.2) | simp_all), trivial⟩) trivial ?_
  refine ch_g (R := []) rfl rfl rfl gate_f (fun hC => oc_fieldAddr (off := 1) rfl rfl rfl (by kernel_rfl) rfl) (fun hC => ⟨(by first | rfl | exact hC | (simp only [Bool.and_eq_true] at hC; first | exact hC.1 | exact hC.1.1 | exact hC.2) | simp_all), trivial⟩) trivial ?_
  refine ch_g (R := []) rfl rfl rfl gate_f (fun hC => oc_load rfl rfl (by kernel_rfl) cells_sl) (fun hC => ⟨(by first | rfl | exact hC | (simp only [Bool.and_eq_true] at hC; first | exact hC.1 | exact hC.1.1 | exact hC.2) | simp_all), trivial⟩) trivial ?_
  refine ch_g (R := []) rfl rfl rfl gate_f (fun hC => oc_len rfl rfl (by kernel_rfl)) (fun hC => ⟨(by first | rfl | exact hC | (simp only [Bool.and_eq_true] at hC; first | exact hC.1 | exact hC.1.1 | exact hC.2) | simp_all), trivial⟩) trivial ?_
  refine ch_g (R := []) rfl rfl rfl gate_f (fun hC => oc_binZ rfl rfl rfl rfl) (fun hC => ⟨(by first | rfl | exact hC | (simp only [Bool.and_eq_true] at hC; first | exact hC.1 | exact hC.1.1 | exact hC.2) | simp_all), (by first | rfl | exact hC | (simp only [Bool.and_eq_true] at hC; first | exact hC.1 | exact hC.1.1 | exact hC.2) | simp_all), trivial⟩) trivial ?_
  refine ch_v (R := []) rfl rfl (oc_or rfl rfl rfl (by first | exact fun h => h | simp_all)) trivial ?_
  refine ck_nil ?_
  refine aw_cond rfl (fun hb => ?_) (fun hb => ?_)
  · have hno : i < 0 ∨ i ≥ (p.at_.length : Int) := by simpa only [Bool.or_eq_true, decide_eq_true_eq] using hb
    refine aw_seq ?_
    refine aw_text rfl ?_
    refine ch_v (R := []) rfl rfl (oc_assign (x := .val _) rfl rfl) trivial ?_
    refine ch_v (R := []) rfl rfl (oc_assign (x := .val _) rfl rfl) trivial ?_
    refine ck_nil ?_
    refine aw_ret ?_
    exact ⟨.inl rfl, by rw [bytesP_none hno]; exact ResOk.two rfl ((ResC.tmp rfl).to fun E v h => rep_nil (by decide) E v h) (ResC.tmp rfl), trivial⟩
  · have hno : ¬ (i < 0 ∨ i ≥ (p.at_.length : Int)) := by simpa only [Bool.or_eq_false_iff, decide_eq_false_iff_not, not_or] using hb
    refine aw_skip ?_
    refine aw_seq ?_
    refine aw_draw mixed ?_
    refine ch_v (R := []) rfl rfl (oc_fieldAddr (off := 1) rfl rfl rfl (by kernel_rfl) rfl) trivial ?_
    refine ch_v (R := []) rfl rfl (oc_load rfl rfl (by kernel_rfl) cells_sl) trivial ?_
    refine ch_v (R := []) rfl rfl (oc_move (x := .val _) rfl rfl) trivial ?_
    refine ch_v (R := []) rfl rfl (oc_index (j := i.toNat) rfl rfl rfl (by kernel_rfl) (by omega) (by omega) rfl) trivial ?_
    refine ch_v (R := []) rfl rfl (oc_load rfl rfl (by kernel_rfl) cells_int) trivial ?_
    refine ch_v (R := []) rfl rfl (oc_fieldAddr (off := 2) rfl rfl rfl (by kernel_rfl) rfl) trivial ?_
    refine ch_v (R := []) rfl rfl (oc_load rfl rfl (by kernel_rfl) cells_sl) trivial ?_
    refine ch_v (R := []) rfl rfl (oc_len rfl rfl (by kernel_rfl)) trivial ?_
    refine ch_v (R := []) rfl rfl (oc_assign (x := .val _) rfl rfl) trivial ?_
    refine ch_v (R := []) rfl rfl (oc_assign (x := .val _) rfl rfl) trivial ?_
    refine ck_nil ⟨by kernel_rfl, ?_⟩
    refine aw_seq ?_
    refine aw_seq ?_
    refine aw_text rfl ?_
    refine ch_v (R := []) rfl rfl (oc_move (x := .val _) rfl rfl) trivial ?_
    refine ch_v (R := []) rfl rfl (oc_binZ rfl rfl rfl (by first | exact binW_add (by omega) (by omega) | rfl)) trivial ?_
    refine ch_v (R := []) rfl rfl (oc_fieldAddr (off := 1) rfl rfl rfl (by kernel_rfl) rfl) trivial ?_
    refine ch_v (R := []) rfl rfl (oc_load rfl rfl (by kernel_rfl) cells_sl) trivial ?_
    refine ch_v (R := []) rfl rfl (oc_len rfl rfl (by kernel_rfl)) trivial ?_
    refine ch_v (R := []) rfl rfl (oc_binZ rfl rfl rfl rfl) trivial ?_
    refine ck_nil ?_
    refine aw_joinQ (τ := ⟨[(1, vi i), (2, .ptr (poolAv p)), (6, vi (fromP p i.toNat)), (7, vi (toP p i.toNat))], []⟩) ?_ ?_
    · refine aw_cond rfl (fun hb => ?_) (fun hb => ?_)
      · have h30 : i.toNat + 1 < p.at_.length := by have h0 := of_decide_eq_true hb; omega
        refine aw_text rfl ?_
        refine ch_v (R := []) rfl rfl (oc_fieldAddr (off := 1) rfl rfl rfl (by kernel_rfl) rfl) trivial ?_
        refine ch_v (R := []) rfl rfl (oc_load rfl rfl (by kernel_rfl) cells_sl) trivial ?_
        refine ch_v (R := []) rfl rfl (oc_move (x := .val _) rfl rfl) trivial ?_
        refine ch_v (R := []) rfl rfl (oc_binZ rfl rfl rfl (by first | exact binW_add (by omega) (by omega) | rfl)) trivial ?_
        refine ch_v (R := []) rfl rfl (oc_index (j := i.toNat + 1) rfl rfl rfl (by kernel_rfl) (by omega) (by omega) (by omega)) trivial ?_
        refine ch_v (R := []) rfl rfl (oc_load rfl rfl (by kernel_rfl) cells_int) trivial ?_
        refine ch_v (R := []) rfl rfl (oc_assign (x := .val _) rfl rfl) trivial ?_
        refine ck_nil ?_
        exact Le.sub ⟨.inr rfl, .inr rfl, .inr rfl, .inr (vi_eq (by unfold toP; first | rw [if_pos h30] | rw [if_neg h30])), trivial⟩ trivial
      · have h30 : ¬ i.toNat + 1 < p.at_.length := by have h0 := of_decide_eq_false hb; omega
        refine aw_skip ?_
        exact Le.sub ⟨.inr rfl, .inr rfl, .inr rfl, .inr (vi_eq (by unfold toP; first | rw [if_pos h30] | rw [if_neg h30])), trivial⟩ trivial
    · refine aw_seq ?_
      refine aw_seq ?_
      refine aw_text rfl ?_
      refine ch_v (R := []) rfl rfl (oc_move (x := .val _) rfl rfl) trivial ?_
      refine ch_v (R := []) rfl rfl (oc_binZ rfl rfl rfl rfl) trivial ?_
      refine ch_v (R := []) rfl rfl (oc_move (x := .val _) rfl rfl) trivial ?_
      refine ch_g (R := []) rfl rfl rfl gate_f (fun hC => oc_move (x := .val _) rfl rfl) (fun hC => ⟨(by first | rfl | exact hC | (simp only [Bool.and_eq_true] at hC; first | exact hC.1 | exact hC.1.1 | exact hC.2) | simp_all), trivial⟩) trivial ?_
      refine ch_g (R := []) rfl rfl rfl gate_f (fun hC => oc_move (x := .val _) rfl rfl) (fun hC => ⟨(by first | rfl | exact hC | (simp only [Bool.and_eq_true] at hC; first | exact hC.1 | exact hC.1.1 | exact hC.2) | simp_all), trivial⟩) trivial ?_
      refine ch_g (R := []) rfl rfl rfl gate_f (fun hC => oc_binZ rfl rfl rfl rfl) (fun hC => ⟨(by first | rfl | exact hC | (simp only [Bool.and_eq_true] at hC; first | exact hC.1 | exact hC.1.1 | exact hC.2) | simp_all), (by first | rfl | exact hC | (simp only [Bool.and_eq_true] at hC; first | exact hC.1 | exact hC.1.1 | exact hC.2) | simp_all), trivial⟩) trivial ?_
      refine ch_v (R := []) rfl rfl (oc_or rfl rfl rfl (by first | exact fun h => h | simp_all)) trivial ?_
      refine ch_v (R := []) rfl rfl (oc_move (x := .val _) rfl rfl) trivial ?_
      refine ch_g (R := []) rfl rfl rfl gate_f (fun hC => oc_move (x := .val _) rfl rfl) (fun hC => ⟨(by first | rfl | exact hC | (simp only [Bool.and_eq_true] at hC; first | exact hC.1 | exact hC.1.1 | exact hC.2) | simp_all), trivial⟩) trivial ?_
      refine ch_g (R := []) rfl rfl rfl gate_f (fun hC => oc_fieldAddr (off := 2) rfl rfl rfl (by kernel_rfl) rfl) (fun hC => ⟨(by first | rfl | exact hC | (simp only [Bool.and_eq_true] at hC; first | exact hC.1 | exact hC.1.1 | exact hC.2) | simp_all), trivial⟩) trivial ?_
      refine ch_g (R := []) rfl rfl rfl gate_f (fun hC => oc_load rfl rfl (by kernel_rfl) cells_sl) (fun hC => ⟨(by first | rfl | exact hC | (simp only [Bool.and_eq_true] at hC; first | exact hC.1 | exact hC.1.1 | exact hC.2) | simp_all), trivial⟩) trivial ?_
      refine ch_g (R := []) rfl rfl rfl gate_f (fun hC => oc_len rfl rfl (by kernel_rfl)) (fun hC => ⟨(by first | rfl | exact hC | (simp only [Bool.and_eq_true] at hC; first | exact hC.1 | exact hC.1.1 | exact hC.2) | simp_all), trivial⟩) trivial ?_
      refine ch_g (R := []) rfl rfl rfl gate_f (fun hC => oc_binZ rfl rfl rfl rfl) (fun hC => ⟨(by first | rfl | exact hC | (simp only [Bool.and_eq_true] at hC; first | exact hC.1 | exact hC.1.1 | exact hC.2) | simp_all), (by first | rfl | exact hC | (simp only [Bool.and_eq_true] at hC; first | exact hC.1 | exact hC.1.1 | exact hC.2) | simp_all), trivial⟩) trivial ?_
      refine ch_v (R := []) rfl rfl (oc_or rfl rfl rfl (by first | exact fun h => h | simp_all)) trivial ?_
      refine ck_nil ?_
      refine aw_cond rfl (fun hb => ?_) (fun hb => ?_)
      · have hrg : fromP p i.toNat < 0 ∨ toP p i.toNat < fromP p i.toNat ∨ toP p i.toNat > (p.bytes.length : Int) := by
          simp only [Bool.or_eq_true, decide_eq_true_eq] at hb
          rcases hb with (h | h) | h
          · exact .inl h
          · exact .inr (.inl h)
          · exact .inr (.inr h)
        refine aw_seq ?_
        refine aw_text rfl ?_
        refine ch_v (R := []) rfl rfl (oc_assign (x := .val _) rfl rfl) trivial ?_
        refine ch_v (R := []) rfl rfl (oc_assign (x := .val _) rfl rfl) trivial ?_
        refine ck_nil ?_
        refine aw_ret ?_
        exact ⟨.inl rfl, by rw [bytesP_range hno hrg]; exact ResOk.two rfl ((ResC.tmp rfl).to fun E v h => rep_nil (by decide) E v h) (ResC.tmp rfl), trivial⟩
      · have hrg : ¬ (fromP p i.toNat < 0 ∨ toP p i.toNat < fromP p i.toNat ∨ toP p i.toNat > (p.bytes.length : Int)) := by
          simp only [Bool.or_eq_false_iff, decide_eq_false_iff_not] at hb
          rintro (h | h | h)
          · exact hb.1.1 h
          · exact hb.1.2 h
          · exact hb.2 h
        refine aw_skip ?_
        refine aw_seq ?_
        refine aw_text rfl ?_
        refine ch_v (R := []) rfl rfl (oc_fieldAddr (off := 2) rfl rfl rfl (by kernel_rfl) rfl) trivial ?_
        refine ch_v (R := []) rfl rfl (oc_load rfl rfl (by kernel_rfl) cells_sl) trivial ?_
        refine ch_v (R := []) rfl rfl (oc_move (x := .val _) rfl rfl) trivial ?_
        refine ch_v (R := []) rfl rfl (oc_move (x := .val _) rfl rfl) trivial ?_
        refine ch_v (R := []) rfl rfl (OC.to (oc_slice_lh (e := 5) (by_ := 1) (zs := [.int .u8 0]) (fromP p i.toNat).toNat (toP p i.toNat).toNat rfl rfl (vi_eq (by omega)) (vi_eq (by omega)) (by kernel_rfl) (by kernel_rfl) (by omega) (by omega)) (part_row (by omega) (by omega) (by omega))) trivial ?_
        refine ch_v (R := []) rfl rfl (oc_assign (x := .sl _ _ _) rfl rfl) trivial ?_
        refine ch_v (R := []) rfl rfl (oc_assign (x := .val _) rfl rfl) trivial ?_
        refine ck_nil ?_
        refine aw_ret ?_
        exact ⟨.inl rfl, by rw [bytesP_ok hno hrg]; exact ResOk.two rfl (ResC.tmp rfl) (ResC.tmp rfl), trivial⟩
set_option maxHeartbeats 800000 in
theorem ptext_pc (p : PoolP) (i : Int) (hal : p.at_.length ≤ 1000000) (hbl : p.bytes.length ≤ 100000000) (hBt : Bts p.bytes) (hl : (bytesP p i).1.length ≤ 5000) (hab : ∀ k, (p.abbrevs.getD k ByteArray.empty).size ≤ 1000) (habl : p.abbrevs.length ≤ 1000000) : PC Tryd.prog 14 [poolAv p, vi i] (.tup [vs (poolTx p i).1, vi (poolTx p i).2]) := by
  have hub := aUnpack_bd (bytesP p i).1
  refine FC.body 4 32 Tryd.func14 rfl (by kernel_rfl) ?_
  refine aw_seq ?_
  refine aw_text rfl ?_
  refine ch_v (R := []) rfl rfl (oc_box (x := .agg _) rfl rfl) trivial ?_
  refine ch_v (R := []) rfl rfl (oc_assign (x := .val _) rfl rfl) trivial ?_
  refine ch_v (R := []) rfl rfl (oc_assign (x := .val _) rfl rfl) trivial ?_
  refine ck_nil ?_
  refine aw_seq ?_
  refine aw_text rfl ?_
  refine ch_v (R := []) rfl rfl (oc_load_row rfl rfl (by kernel_rfl) (by kernel_rfl) rfl) trivial ?_
  refine ch_v (R := []) rfl rfl (oc_move (x := .val _) rfl rfl) trivial ?_
  refine ch_v (R := []) rfl rfl (oc_call rfl (by kernel_rfl) (bytes_pc p i hal hbl) rfl (by simp only [PureL, Pure, and_self, pure_slI, pure_slS, rowAv, pieces_pure, pool_pure, bs_pure, implies_true]) (by simp only [PureL, Pure, and_self, pure_slI, pure_slS, rowAv, pieces_pure, pool_pure, bs_pure, implies_true])) trivial ?_
  refine ch_v (R := []) rfl rfl (oc_move (x := .tup _) rfl rfl) trivial ?_
  refine ch_v (R := []) rfl rfl (oc_extract rfl rfl rfl) trivial ?_
  refine ch_v (R := []) rfl rfl (oc_extract rfl rfl rfl) trivial ?_
  refine ch_v (R := []) rfl rfl (oc_assign (x := .sl _ _ _) rfl rfl) trivial ?_
  refine ch_v (R := []) rfl rfl (oc_assign (x := .val _) rfl rfl) trivial ?_
  refine ck_nil ?_
  refine aw_seq ?_
  refine aw_seq ?_
  refine aw_text rfl ?_
  refine ch_v (R := []) rfl rfl (oc_move (x := .val _) rfl rfl) trivial ?_
  refine ch_v (R := []) rfl rfl (oc_binZ rfl rfl rfl rfl) trivial ?_
  refine ck_nil ?_
  refine aw_cond rfl (fun hb => ?_) (fun hb => ?_)
  · have he16 : (bytesP p i).2 ≠ 0 := by simpa using hb
    refine aw_seq ?_
    refine aw_text rfl ?_
    refine ch_v (R := []) rfl rfl (oc_move (x := .val _) rfl rfl) trivial ?_
    refine ch_v (R := []) rfl rfl (oc_assign (x := .val _) rfl rfl) trivial ?_
    refine ch_v (R := []) rfl rfl (oc_assign (x := .val _) rfl rfl) trivial ?_
    refine ck_nil ?_
    refine aw_ret ?_
    exact ⟨.inl rfl, by rw [pair_tup (tx_e1 he16)]; exact ResOk.two rfl (ResC.tmp rfl) (ResC.tmp rfl), trivial⟩
  · have he16 : (bytesP p i).2 = 0 := by simpa using hb
    refine aw_skip ?_
    refine aw_seq ?_
    refine aw_text rfl ?_
    refine ch_v (R := []) rfl rfl (oc_move (x := .sl _ _ _) rfl rfl) trivial ?_
    refine ch_v (R := []) rfl rfl (oc_call rfl (by kernel_rfl) (unpack_pc (bytesP p i).1 (by omega) (bytesP_bts hBt i)) rfl (by simp only [PureL, Pure, and_self, pure_slI, pure_slS, rowAv, pieces_pure, pool_pure, bs_pure, implies_true]) (by simp only [PureL, Pure, and_self, pure_slI, pure_slS, rowAv, pieces_pure, pool_pure, bs_pure, implies_true])) trivial ?_
    refine ch_v (R := []) rfl rfl (oc_move (x := .tup _) rfl rfl) trivial ?_
    refine ch_v (R := []) rfl rfl (oc_extract rfl rfl rfl) trivial ?_
    refine ch_v (R := []) rfl rfl (oc_extract rfl rfl rfl) trivial ?_
    refine ch_v (R := []) rfl rfl (oc_assign (x := .sl _ _ _) rfl rfl) trivial ?_
    refine ch_v (R := []) rfl rfl (oc_assign (x := .val _) rfl rfl) trivial ?_
    refine ck_nil ?_
    refine aw_seq ?_
    refine aw_seq ?_
    refine aw_text rfl ?_
    refine ch_v (R := []) rfl rfl (oc_move (x := .val _) rfl rfl) trivial ?_
    refine ch_v (R := []) rfl rfl (oc_binZ rfl rfl rfl rfl) trivial ?_
    refine ck_nil ?_
    refine aw_cond rfl (fun hb => ?_) (fun hb => ?_)
    · have he24 : (aUnpack (bytesP p i).1).2 ≠ 0 := by simpa using hb
      refine aw_seq ?_
      refine aw_text rfl ?_
      refine ch_v (R := []) rfl rfl (oc_move (x := .val _) rfl rfl) trivial ?_
      refine ch_v (R := []) rfl rfl (oc_assign (x := .val _) rfl rfl) trivial ?_
      refine ch_v (R := []) rfl rfl (oc_assign (x := .val _) rfl rfl) trivial ?_
      refine ck_nil ?_
      refine aw_ret ?_
      exact ⟨.inl rfl, by rw [pair_tup (tx_e2 he16 he24)]; exact ResOk.two rfl (ResC.tmp rfl) (ResC.tmp rfl), trivial⟩
    · have he24 : (aUnpack (bytesP p i).1).2 = 0 := by simpa using hb
      refine aw_skip ?_
      refine aw_seq ?_
      refine aw_text rfl ?_
      refine ch_v (R := []) rfl rfl (oc_move (x := .sl _ _ _) rfl rfl) trivial ?_
      refine ch_v (R := []) rfl rfl (oc_fieldAddr (off := 0) rfl rfl rfl (by kernel_rfl) rfl) trivial ?_
      refine ch_v (R := []) rfl rfl (oc_load rfl rfl (by kernel_rfl) cells_sl) trivial ?_
      refine ch_v (R := []) rfl rfl (oc_call rfl (by kernel_rfl) (unpacked_pc (aUnpack (bytesP p i).1).1 (by omega) hub.2 p.abbrevs hab habl) rfl (by simp only [PureL, Pure, and_self, pure_slI, pure_slS, rowAv, pieces_pure, pool_pure, bs_pure, implies_true]) (by simp only [PureL, Pure, and_self, pure_slI, pure_slS, rowAv, pieces_pure, pool_pure, bs_pure, implies_true])) trivial ?_
      refine ch_v (R := []) rfl rfl (oc_extract rfl rfl rfl) trivial ?_
      refine ch_v (R := []) rfl rfl (oc_extract rfl rfl rfl) trivial ?_
      refine ch_v (R := []) rfl rfl (oc_assign (x := .val _) rfl rfl) trivial ?_
      refine ch_v (R := []) rfl rfl (oc_assign (x := .val _) rfl rfl) trivial ?_
      refine ck_nil ?_
      refine aw_ret ?_
      exact ⟨.inl rfl, by rw [pair_tup (tx_ok he16 he24)]; exact ResOk.two rfl (ResC.tmp rfl) (ResC.tmp rfl), trivial⟩
theorem tx_r {p : PoolP} {i : Int} (hno : ¬ (i < 0 ∨ i ≥ (p.at_.length : Int))) (hrg : ¬ (fromP p i.toNat < 0 ∨ toP p i.toNat < fromP p i.toNat ∨ toP p i.toNat > (p.bytes.length : Int))) : poolTx p i = if (aUnpack (partP p i.toNat)).2 ≠ 0 then (ByteArray.empty, (aUnpack (partP p i.toNat)).2) else finP (saidP (aUnpack (partP p i.toNat)).1 p.abbrevs) := by
  unfold poolTx
  rw [bytesP_ok hno hrg, if_neg (fun hc => hc rfl), unpacked_said]
theorem said_size (l : List Int) (ab : List ByteArray) (hab : ∀ k, (ab.getD k ByteArray.empty).size ≤ 1000) : (saidP l ab).1.size ≤ 1001 * l.length := by
  have : ∀ (f : Nat) (r : List Int) (s : ByteArray), (saidF ab f r s).1.size ≤ s.size + 1001 * r.length := by
    intro f
    induction f with
    | zero => exact fun r s => Nat.zero_le _
    | succ f ih =>
      intro r s
      by_cases hl : 0 < r.length
      · rw [said_step hl]
        repeat' split
        · exact Nat.zero_le _
        · exact Nat.zero_le _
        · rename_i h2 h3
          have := ih (r.drop 2) (s ++ ab.getD (r.getD 1 0).toNat ByteArray.empty)
          rw [List.length_drop, ByteArray.size_append] at this
          have := hab (r.getD 1 0).toNat
          omega
        · exact Nat.zero_le _
        · exact Nat.zero_le _
        · rename_i h1 h2 h3
          have := ih (r.drop (runN r)) (s ++ strOfNums (aText (r.take (runN r))).1)
          have h4 := textL_size (r.take (runN r))
          rw [List.length_take] at h4
          rw [List.length_drop, ByteArray.size_append] at this
          omega
      · rw [said_end hl (by omega)]
        exact Nat.le_add_right _ _
  have := this (l.length + 1) l ByteArray.empty
  have h0 : ByteArray.empty.size = 0 := rfl
  unfold saidP
  omega
set_option maxHeartbeats 800000 in
theorem rptext_pc (p : PoolP) (i : Int) (hal : p.at_.length ≤ 1000000) (hbl : p.bytes.length ≤ 100000000) (hBt : Bts p.bytes) (hl : (bytesP p i).1.length ≤ 5000) (hab : ∀ k, (p.abbrevs.getD k ByteArray.empty).size ≤ 1000) (habl : p.abbrevs.length ≤ 1000000) : PC Tryd.prog 20 [poolAv p, vi i] (.tup [vs (poolTx p i).1, vi (poolTx p i).2]) := by
  refine FC.body 4 81 Tryd.func20 rfl (by kernel_rfl) ?_
  refine aw_seq ?_
  refine aw_text rfl ?_
  refine ch_v (R := []) rfl rfl (oc_box (x := .agg _) rfl rfl) trivial ?_
  refine ch_v (R := []) rfl rfl (oc_assign (x := .val _) rfl rfl) trivial ?_
  refine ch_v (R := []) rfl rfl (oc_assign (x := .val _) rfl rfl) trivial ?_
  refine ck_nil ?_
  refine aw_seq ?_
  refine aw_seq ?_
  refine aw_text rfl ?_
  refine ch_v (R := []) rfl rfl (oc_move (x := .val _) rfl rfl) trivial ?_
  refine ch_v (R := []) rfl rfl (oc_binZ rfl rfl rfl rfl) trivial ?_
  refine ch_v (R := []) rfl rfl (oc_move (x := .val _) rfl rfl) trivial ?_
  refine ch_g (R := []) rfl rfl rfl gate_f (fun hC => oc_move (x := .val _) rfl rfl) (fun hC => ⟨(by first | rfl | exact hC | (simp only [Bool.and_eq_true] at hC; first | exact hC.1 | exact hC.1.1 | exact hC.2) | simp_all), trivial⟩) trivial ?_
  refine ch_g (R := []) rfl rfl rfl gate_f (fun hC => oc_fieldAddr (off := 1) rfl rfl rfl (by kernel_rfl) rfl) (fun hC => ⟨(by first | rfl | exact hC | (simp only [Bool.and_eq_true] at hC; first | exact hC.1 | exact hC.1.1 | exact hC.2) | simp_all), trivial⟩) trivial ?_
  refine ch_g (R := []) rfl rfl rfl gate_f (fun hC => oc_load rfl rfl (by kernel_rfl) cells_sl) (fun hC => ⟨(by first | rfl | exact hC | (simp only [Bool.and_eq_true] at hC; first | exact hC.1 | exact hC.1.1 | exact hC.2) | simp_all), trivial⟩) trivial ?_
  refine ch_g (R := []) rfl rfl rfl gate_f (fun hC => oc_len rfl rfl (by kernel_rfl)) (fun hC => ⟨(by first | rfl | exact hC | (simp only [Bool.and_eq_true] at hC; first | exact hC.1 | exact hC.1.1 | exact hC.2) | simp_all), trivial⟩) trivial ?_
  refine ch_g (R := []) rfl rfl rfl gate_f (fun hC => oc_binZ rfl rfl rfl rfl) (fun hC => ⟨(by first | rfl | exact hC | (simp only [Bool.and_eq_true] at hC; first | exact hC.1 | exact hC.1.1 | exact hC.2) | simp_all), (by first | rfl | exact hC | (simp only [Bool.and_eq_true] at hC; first | exact hC.1 | exact hC.1.1 | exact hC.2) | simp_all), trivial⟩) trivial ?_
  refine ch_v (R := []) rfl rfl (oc_or rfl rfl rfl (by first | exact fun h => h | simp_all)) trivial ?_
  refine ck_nil ?_
  refine aw_cond rfl (fun hb => ?_) (fun hb => ?_)
  · have hno : i < 0 ∨ i ≥ (p.at_.length : Int) := by simpa only [Bool.or_eq_true, decide_eq_true_eq] using hb
    refine aw_seq ?_
    refine aw_text rfl ?_
    refine ch_v (R := []) rfl rfl (oc_assign (x := .val _) rfl rfl) trivial ?_
    refine ch_v (R := []) rfl rfl (oc_assign (x := .val _) rfl rfl) trivial ?_
    refine ck_nil ?_
    refine aw_ret ?_
    exact ⟨.inl rfl, by rw [pair_tup (tx_e1 (by rw [bytesP_none hno]; decide)), bytesP_none hno, empE]; exact ResOk.two rfl (ResC.tmp rfl) (ResC.tmp rfl), trivial⟩
  · have hno : ¬ (i < 0 ∨ i ≥ (p.at_.length : Int)) := by simpa only [Bool.or_eq_false_iff, decide_eq_false_iff_not, not_or] using hb
    refine aw_skip ?_
    refine aw_seq ?_
    refine aw_draw mixed ?_
    refine ch_v (R := []) rfl rfl (oc_fieldAddr (off := 1) rfl rfl rfl (by kernel_rfl) rfl) trivial ?_
    refine ch_v (R := []) rfl rfl (oc_load rfl rfl (by kernel_rfl) cells_sl) trivial ?_
    refine ch_v (R := []) rfl rfl (oc_move (x := .val _) rfl rfl) trivial ?_
    refine ch_v (R := []) rfl rfl (oc_index (j := i.toNat) rfl rfl rfl (by kernel_rfl) (by omega) (by omega) rfl) trivial ?_
    refine ch_v (R := []) rfl rfl (oc_load rfl rfl (by kernel_rfl) cells_int) trivial ?_
    refine ch_v (R := []) rfl rfl (oc_fieldAddr (off := 2) rfl rfl rfl (by kernel_rfl) rfl) trivial ?_
    refine ch_v (R := []) rfl rfl (oc_load rfl rfl (by kernel_rfl) cells_sl) trivial ?_
    refine ch_v (R := []) rfl rfl (oc_len rfl rfl (by kernel_rfl)) trivial ?_
    refine ch_v (R := []) rfl rfl (oc_assign (x := .val _) rfl rfl) trivial ?_
    refine ch_v (R := []) rfl rfl (oc_assign (x := .val _) rfl rfl) trivial ?_
    refine ck_nil ⟨by kernel_rfl, ?_⟩
    refine aw_seq ?_
    refine aw_seq ?_
    refine aw_text rfl ?_
    refine ch_v (R := []) rfl rfl (oc_move (x := .val _) rfl rfl) trivial ?_
    refine ch_v (R := []) rfl rfl (oc_binZ rfl rfl rfl (by first | exact binW_add (by omega) (by omega) | rfl)) trivial ?_
    refine ch_v (R := []) rfl rfl (oc_fieldAddr (off := 1) rfl rfl rfl (by kernel_rfl) rfl) trivial ?_
    refine ch_v (R := []) rfl rfl (oc_load rfl rfl (by kernel_rfl) cells_sl) trivial ?_
    refine ch_v (R := []) rfl rfl (oc_len rfl rfl (by kernel_rfl)) trivial ?_
    refine ch_v (R := []) rfl rfl (oc_binZ rfl rfl rfl rfl) trivial ?_
    refine ck_nil ?_
    refine aw_joinQ (τ := ⟨[(1, vi i), (2, .ptr (poolAv p)), (6, vi (fromP p i.toNat)), (7, vi (toP p i.toNat))], []⟩) ?_ ?_
    · refine aw_cond rfl (fun hb => ?_) (fun hb => ?_)
      · have h30 : i.toNat + 1 < p.at_.length := by have h0 := of_decide_eq_true hb; omega
        refine aw_text rfl ?_
        refine ch_v (R := []) rfl rfl (oc_fieldAddr (off := 1) rfl rfl rfl (by kernel_rfl) rfl) trivial ?_
        refine ch_v (R := []) rfl rfl (oc_load rfl rfl (by kernel_rfl) cells_sl) trivial ?_
        refine ch_v (R := []) rfl rfl (oc_move (x := .val _) rfl rfl) trivial ?_
        refine ch_v (R := []) rfl rfl (oc_binZ rfl rfl rfl (by first | exact binW_add (by omega) (by omega) | rfl)) trivial ?_
        refine ch_v (R := []) rfl rfl (oc_index (j := i.toNat + 1) rfl rfl rfl (by kernel_rfl) (by omega) (by omega) (by omega)) trivial ?_
        refine ch_v (R := []) rfl rfl (oc_load rfl rfl (by kernel_rfl) cells_int) trivial ?_
        refine ch_v (R := []) rfl rfl (oc_assign (x := .val _) rfl rfl) trivial ?_
        refine ck_nil ?_
        exact Le.sub ⟨.inr rfl, .inr rfl, .inr rfl, .inr (vi_eq (by unfold toP; first | rw [if_pos h30] | rw [if_neg h30])), trivial⟩ trivial
      · have h30 : ¬ i.toNat + 1 < p.at_.length := by have h0 := of_decide_eq_false hb; omega
        refine aw_skip ?_
        exact Le.sub ⟨.inr rfl, .inr rfl, .inr rfl, .inr (vi_eq (by unfold toP; first | rw [if_pos h30] | rw [if_neg h30])), trivial⟩ trivial
    · refine aw_seq ?_
      refine aw_seq ?_
      refine aw_text rfl ?_
      refine ch_v (R := []) rfl rfl (oc_move (x := .val _) rfl rfl) trivial ?_
      refine ch_v (R := []) rfl rfl (oc_binZ rfl rfl rfl rfl) trivial ?_
      refine ch_v (R := []) rfl rfl (oc_move (x := .val _) rfl rfl) trivial ?_
      refine ch_g (R := []) rfl rfl rfl gate_f (fun hC => oc_move (x := .val _) rfl rfl) (fun hC => ⟨(by first | rfl | exact hC | (simp only [Bool.and_eq_true] at hC; first | exact hC.1 | exact hC.1.1 | exact hC.2) | simp_all), trivial⟩) trivial ?_
      refine ch_g (R := []) rfl rfl rfl gate_f (fun hC => oc_fieldAddr (off := 2) rfl rfl rfl (by kernel_rfl) rfl) (fun hC => ⟨(by first | rfl | exact hC | (simp only [Bool.and_eq_true] at hC; first | exact hC.1 | exact hC.1.1 | exact hC.2) | simp_all), trivial⟩) trivial ?_
      refine ch_g (R := []) rfl rfl rfl gate_f (fun hC => oc_load rfl rfl (by kernel_rfl) cells_sl) (fun hC => ⟨(by first | rfl | exact hC | (simp only [Bool.and_eq_true] at hC; first | exact hC.1 | exact hC.1.1 | exact hC.2) | simp_all), trivial⟩) trivial ?_
      refine ch_g (R := []) rfl rfl rfl gate_f (fun hC => oc_len rfl rfl (by kernel_rfl)) (fun hC => ⟨(by first | rfl | exact hC | (simp only [Bool.and_eq_true] at hC; first | exact hC.1 | exact hC.1.1 | exact hC.2) | simp_all), trivial⟩) trivial ?_
      refine ch_g (R := []) rfl rfl rfl gate_f (fun hC => oc_binZ rfl rfl rfl rfl) (fun hC => ⟨(by first | rfl | exact hC | (simp only [Bool.and_eq_true] at hC; first | exact hC.1 | exact hC.1.1 | exact hC.2) | simp_all), (by first | rfl | exact hC | (simp only [Bool.and_eq_true] at hC; first | exact hC.1 | exact hC.1.1 | exact hC.2) | simp_all), trivial⟩) trivial ?_
      refine ch_v (R := []) rfl rfl (oc_or rfl rfl rfl (by first | exact fun h => h | simp_all)) trivial ?_
      refine ch_v (R := []) rfl rfl (oc_move (x := .val _) rfl rfl) trivial ?_
      refine ch_g (R := []) rfl rfl rfl gate_f (fun hC => oc_move (x := .val _) rfl rfl) (fun hC => ⟨(by first | rfl | exact hC | (simp only [Bool.and_eq_true] at hC; first | exact hC.1 | exact hC.1.1 | exact hC.2) | simp_all), trivial⟩) trivial ?_
      refine ch_g (R := []) rfl rfl rfl gate_f (fun hC => oc_move (x := .val _) rfl rfl) (fun hC => ⟨(by first | rfl | exact hC | (simp only [Bool.and_eq_true] at hC; first | exact hC.1 | exact hC.1.1 | exact hC.2) | simp_all), trivial⟩) trivial ?_
      refine ch_g (R := []) rfl rfl rfl gate_f (fun hC => oc_binZ rfl rfl rfl rfl) (fun hC => ⟨(by first | rfl | exact hC | (simp only [Bool.and_eq_true] at hC; first | exact hC.1 | exact hC.1.1 | exact hC.2) | simp_all), (by first | rfl | exact hC | (simp only [Bool.and_eq_true] at hC; first | exact hC.1 | exact hC.1.1 | exact hC.2) | simp_all), trivial⟩) trivial ?_
      refine ch_v (R := []) rfl rfl (oc_or rfl rfl rfl (by first | exact fun h => h | simp_all)) trivial ?_
      refine ck_nil ?_
      refine aw_cond rfl (fun hb => ?_) (fun hb => ?_)
      · have hrg : fromP p i.toNat < 0 ∨ toP p i.toNat < fromP p i.toNat ∨ toP p i.toNat > (p.bytes.length : Int) := by
          simp only [Bool.or_eq_true, decide_eq_true_eq] at hb
          rcases hb with (h | h) | h
          · exact .inl h
          · exact .inr (.inr h)
          · exact .inr (.inl h)
        refine aw_seq ?_
        refine aw_text rfl ?_
        refine ch_v (R := []) rfl rfl (oc_assign (x := .val _) rfl rfl) trivial ?_
        refine ch_v (R := []) rfl rfl (oc_assign (x := .val _) rfl rfl) trivial ?_
        refine ck_nil ?_
        refine aw_ret ?_
        exact ⟨.inl rfl, by rw [pair_tup (tx_e1 (by rw [bytesP_range hno hrg]; decide)), bytesP_range hno hrg, empE]; exact ResOk.two rfl (ResC.tmp rfl) (ResC.tmp rfl), trivial⟩
      · have hrg : ¬ (fromP p i.toNat < 0 ∨ toP p i.toNat < fromP p i.toNat ∨ toP p i.toNat > (p.bytes.length : Int)) := by
          simp only [Bool.or_eq_false_iff, decide_eq_false_iff_not] at hb
          rintro (h | h | h)
          · exact hb.1.1 h
          · exact hb.2 h
          · exact hb.1.2 h
        have hbp : Bts (partP p i.toNat) := by have h0 := bytesP_bts hBt i; rw [bytesP_ok hno hrg] at h0; exact h0
        rw [bytesP_ok hno hrg] at hl
        have hl2 : (partP p i.toNat).length ≤ 5000 := hl
        have hub := aUnpack_bd (partP p i.toNat)
        have hss := said_size (aUnpack (partP p i.toNat)).1 p.abbrevs hab
        refine aw_skip ?_
        refine aw_seq ?_
        refine aw_text rfl ?_
        refine ch_v (R := []) rfl rfl (oc_fieldAddr (off := 2) rfl rfl rfl (by kernel_rfl) rfl) trivial ?_
        refine ch_v (R := []) rfl rfl (oc_load rfl rfl (by kernel_rfl) cells_sl) trivial ?_
        refine ch_v (R := []) rfl rfl (oc_move (x := .val _) rfl rfl) trivial ?_
        refine ch_v (R := []) rfl rfl (oc_move (x := .val _) rfl rfl) trivial ?_
        refine ch_v (R := []) rfl rfl (OC.to (oc_slice_lh (e := 5) (by_ := 1) (zs := [.int .u8 0]) (fromP p i.toNat).toNat (toP p i.toNat).toNat rfl rfl (vi_eq (by omega)) (vi_eq (by omega)) (by kernel_rfl) (by kernel_rfl) (by omega) (by omega)) (part_row (by omega) (by omega) (by omega))) trivial ?_
        refine ch_v (R := []) rfl rfl (oc_call rfl (by kernel_rfl) (runpack_pc (partP p i.toNat) (by omega) hbp) rfl (by simp only [PureL, Pure, and_self, pure_slI, pure_slS, rowAv, pieces_pure, pool_pure, bs_pure, implies_true]) (by simp only [PureL, Pure, and_self, pure_slI, pure_slS, rowAv, pieces_pure, pool_pure, bs_pure, implies_true])) trivial ?_
        refine ch_v (R := []) rfl rfl (oc_move (x := .tup _) rfl rfl) trivial ?_
        refine ch_v (R := []) rfl rfl (oc_extract rfl rfl rfl) trivial ?_
        refine ch_v (R := []) rfl rfl (oc_extract rfl rfl rfl) trivial ?_
        refine ch_v (R := []) rfl rfl (oc_assign (x := .sl _ _ _) rfl rfl) trivial ?_
        refine ch_v (R := []) rfl rfl (oc_assign (x := .val _) rfl rfl) trivial ?_
        refine ck_nil ?_
        refine aw_seq ?_
        refine aw_seq ?_
        refine aw_text rfl ?_
        refine ch_v (R := []) rfl rfl (oc_move (x := .val _) rfl rfl) trivial ?_
        refine ch_v (R := []) rfl rfl (oc_binZ rfl rfl rfl rfl) trivial ?_
        refine ck_nil ?_
        refine aw_cond rfl (fun hb => ?_) (fun hb => ?_)
        · have he65 : (aUnpack (partP p i.toNat)).2 ≠ 0 := by simpa using hb
          refine aw_seq ?_
          refine aw_text rfl ?_
          refine ch_v (R := []) rfl rfl (oc_move (x := .val _) rfl rfl) trivial ?_
          refine ch_v (R := []) rfl rfl (oc_assign (x := .val _) rfl rfl) trivial ?_
          refine ch_v (R := []) rfl rfl (oc_assign (x := .val _) rfl rfl) trivial ?_
          refine ck_nil ?_
          refine aw_ret ?_
          exact ⟨.inl rfl, by rw [pair_tup ((tx_r hno hrg).trans (if_pos he65)), empE]; exact ResOk.two rfl (ResC.tmp rfl) (ResC.tmp rfl), trivial⟩
        · have he65 : (aUnpack (partP p i.toNat)).2 = 0 := by simpa using hb
          refine aw_skip ?_
          refine aw_seq ?_
          refine aw_text rfl ?_
          refine ch_v (R := []) rfl rfl (oc_move (x := .sl _ _ _) rfl rfl) trivial ?_
          refine ch_v (R := []) rfl rfl (oc_fieldAddr (off := 0) rfl rfl rfl (by kernel_rfl) rfl) trivial ?_
          refine ch_v (R := []) rfl rfl (oc_load rfl rfl (by kernel_rfl) cells_sl) trivial ?_
          refine ch_v (R := []) rfl rfl (oc_call rfl (by kernel_rfl) (said_pc (aUnpack (partP p i.toNat)).1 (by omega) hub.2 p.abbrevs hab habl) rfl (by simp only [PureL, Pure, and_self, pure_slI, pure_slS, rowAv, pieces_pure, pool_pure, bs_pure, implies_true]) (by simp only [PureL, Pure, and_self, pure_slI, pure_slS, rowAv, pieces_pure, pool_pure, bs_pure, implies_true])) trivial ?_
          refine ch_v (R := []) rfl rfl (oc_move (x := .tup _) rfl rfl) trivial ?_
          refine ch_v (R := []) rfl rfl (oc_extract rfl rfl rfl) trivial ?_
          refine ch_v (R := []) rfl rfl (oc_extract rfl rfl rfl) trivial ?_
          refine ch_v (R := []) rfl rfl (oc_assign (x := .val _) rfl rfl) trivial ?_
          refine ch_v (R := []) rfl rfl (oc_assign (x := .val _) rfl rfl) trivial ?_
          refine ck_nil ?_
          refine aw_seq ?_
          refine aw_seq ?_
          refine aw_text rfl ?_
          refine ch_v (R := []) rfl rfl (oc_move (x := .val _) rfl rfl) trivial ?_
          refine ch_v (R := []) rfl rfl (oc_binZ rfl rfl rfl rfl) trivial ?_
          refine ck_nil ?_
          refine aw_cond rfl (fun hb => ?_) (fun hb => ?_)
          · have he75 : (saidP (aUnpack (partP p i.toNat)).1 p.abbrevs).2 ≠ 0 := by simpa using hb
            refine aw_seq ?_
            refine aw_text rfl ?_
            refine ch_v (R := []) rfl rfl (oc_move (x := .val _) rfl rfl) trivial ?_
            refine ch_v (R := []) rfl rfl (oc_assign (x := .val _) rfl rfl) trivial ?_
            refine ch_v (R := []) rfl rfl (oc_assign (x := .val _) rfl rfl) trivial ?_
            refine ck_nil ?_
            refine aw_ret ?_
            exact ⟨.inl rfl, by rw [pair_tup (((tx_r hno hrg).trans (if_neg (fun hc => hc he65))).trans (by unfold finP; rw [if_pos he75])), empE]; exact ResOk.two rfl (ResC.tmp rfl) (ResC.tmp rfl), trivial⟩
          · have he75 : (saidP (aUnpack (partP p i.toNat)).1 p.abbrevs).2 = 0 := by simpa using hb
            refine aw_skip ?_
            refine aw_seq ?_
            refine aw_seq ?_
            refine aw_text rfl ?_
            refine ch_v (R := []) rfl rfl (oc_move (x := .val _) rfl rfl) trivial ?_
            refine ch_v (R := []) rfl rfl (oc_call rfl (by kernel_rfl) (ristext_pc (saidP (aUnpack (partP p i.toNat)).1 p.abbrevs).1 (by omega)) rfl (by simp only [PureL, Pure, and_self, pure_slI, pure_slS, rowAv, pieces_pure, pool_pure, bs_pure, implies_true]) (by simp only [PureL, Pure, and_self, pure_slI, pure_slS, rowAv, pieces_pure, pool_pure, bs_pure, implies_true])) trivial ?_
            refine ch_v (R := []) rfl rfl (oc_not rfl rfl) trivial ?_
            refine ck_nil ?_
            refine aw_cond rfl (fun hb => ?_) (fun hb => ?_)
            · have hit : ¬ isTextB (tB (saidP (aUnpack (partP p i.toNat)).1 p.abbrevs).1) = true := by simpa using hb
              refine aw_seq ?_
              refine aw_text rfl ?_
              refine ch_v (R := []) rfl rfl (oc_assign (x := .val _) rfl rfl) trivial ?_
              refine ch_v (R := []) rfl rfl (oc_assign (x := .val _) rfl rfl) trivial ?_
              refine ck_nil ?_
              refine aw_ret ?_
              exact ⟨.inl rfl, by rw [pair_tup (((tx_r hno hrg).trans (if_neg (fun hc => hc he65))).trans (by unfold finP; rw [if_neg (fun hc => hc he75), if_neg hit])), empE]; exact ResOk.two rfl (ResC.tmp rfl) (ResC.tmp rfl), trivial⟩
            · have hit : isTextB (tB (saidP (aUnpack (partP p i.toNat)).1 p.abbrevs).1) = true := by simpa using hb
              refine aw_skip ?_
              refine aw_seq ?_
              refine aw_text rfl ?_
              refine ch_v (R := []) rfl rfl (oc_move (x := .val _) rfl rfl) trivial ?_
              refine ch_v (R := []) rfl rfl (oc_assign (x := .val _) rfl rfl) trivial ?_
              refine ch_v (R := []) rfl rfl (oc_assign (x := .val _) rfl rfl) trivial ?_
              refine ck_nil ?_
              refine aw_ret ?_
              exact ⟨.inl rfl, by rw [pair_tup (((tx_r hno hrg).trans (if_neg (fun hc => hc he65))).trans (by unfold finP; rw [if_neg (fun hc => hc he75), if_pos hit]))]; exact ResOk.two rfl (ResC.tmp rfl) (ResC.tmp rfl), trivial⟩
end Go.Proofs.YtpbaiighifhfnaaDoor
namespace Go.Proofs.YtpbaiighifhfnaaDoor
open Go.RowKit
set_option maxRecDepth 100000
set_option linter.unusedVariables false
set_option linter.unusedSimpArgs false
theorem list_eq {α : Type} {d : α} {a b : List α} (hl : a.length = b.length) (h : ∀ j, j < a.length → a.getD j d = b.getD j d) : a = b := List.ext_getElem hl fun k h1 h2 => by
  have := h k h1
  rwa [List.getD, List.getD, List.getElem?_eq_getElem h1, List.getElem?_eq_getElem h2] at this
theorem eq_len {α : Type} [DecidableEq α] {a b : List α} (h : ¬ (a.length : Int) = b.length) : decide (a = b) = false := decide_eq_false fun e => h (by rw [e])
theorem eq_at {α : Type} [DecidableEq α] {d : α} {a b : List α} {k : Nat} (h : ¬ a.getD k d = b.getD k d) : decide (a = b) = false := decide_eq_false fun e => h (by rw [e])
theorem eq_all {α : Type} [DecidableEq α] {d : α} {a b : List α} {k : Nat} (hl : (a.length : Int) = b.length) (hk : k = a.length) (h : ∀ j, j < k → a.getD j d = b.getD j d) : decide (a = b) = true := decide_eq_true (list_eq (d := d) (by omega) (by rw [← hk]; exact h))
theorem all_step {k : Nat} {p : Nat → Prop} (h : ∀ j, j < k → p j) (hp : p k) : ∀ j, j < k + 1 → p j := fun j hj => by
  rcases Nat.lt_or_ge j k with h1 | h1
  · exact h j h1
  · have : j = k := by omega
    subst this
    exact hp
/-- Pools alike. -/
def samePl (p q : PoolP) : Bool := decide (p.abbrevs = q.abbrevs) && decide (p.at_ = q.at_) && decide (p.bytes = q.bytes)
theorem str_bytes {a b : List Int} (ha : Bts a) (hb : Bts b) : ((strOfNums a).toList == (strOfNums b).toList) = decide (a = b) := by
  rw [str_eq]
  by_cases e : a = b
  · subst e; simp
  · rw [decide_eq_false e, decide_eq_false]
    intro h
    have := congrArg tB h
    rw [tB_str ha, tB_str hb] at this
    exact e this
theorem bw_ok {a b : Int} : (Av.val (.int .u8 a)) = .val (.int .u8 b) ↔ a = b := ⟨fun h => by injection h with h; injection h, fun h => by rw [h]⟩
theorem all_stop {t : Int → ByteArray × Int} {n k : Nat} {out : List ByteArray} (h : (t k).2 ≠ 0) : allF t (n + 1) k out = ([], (t k).2) := by unfold allF; rw [if_pos h]
theorem all_more {t : Int → ByteArray × Int} {n k : Nat} {out : List ByteArray} (h : (t k).2 = 0) : allF t (n + 1) k out = allF t n (k + 1) (out ++ [(t k).1]) := by
  conv => lhs; unfold allF
  rw [if_neg (fun hc => hc h)]
theorem pair_all {p q : List ByteArray × Int} (h : p = q) : Av.tup [slS p.1, vi p.2] = .tup [slS q.1, vi q.2] := by rw [h]
set_option maxHeartbeats 800000 in
theorem equalS_pc (a b : List ByteArray) (ha : a.length ≤ 100000000) : PC Tryd.prog 44 [slS a, slS b] (vb (decide (a = b))) := by
  refine FC.body 3 26 Tryd.func44 rfl (by kernel_rfl) ?_
  refine aw_seq ?_
  refine aw_text rfl ?_
  refine ch_v (R := []) rfl rfl (oc_assign (x := .val _) rfl rfl) trivial ?_
  refine ck_nil ?_
  refine aw_seq ?_
  refine aw_seq ?_
  refine aw_text rfl ?_
  refine ch_v (R := []) rfl rfl (oc_move (x := .sl _ _ _) rfl rfl) trivial ?_
  refine ch_v (R := []) rfl rfl (oc_len rfl rfl (by kernel_rfl)) trivial ?_
  refine ch_v (R := []) rfl rfl (oc_move (x := .sl _ _ _) rfl rfl) trivial ?_
  refine ch_v (R := []) rfl rfl (oc_len rfl rfl (by kernel_rfl)) trivial ?_
  refine ch_v (R := []) rfl rfl (oc_binZ rfl rfl rfl rfl) trivial ?_
  refine ck_nil ?_
  refine aw_cond rfl (fun hb => ?_) (fun hb => ?_)
  · have hne : ¬ (a.length : Int) = b.length := by simpa using hb
    refine aw_seq ?_
    refine aw_text rfl ?_
    refine ch_v (R := []) rfl rfl (oc_assign (x := .val _) rfl rfl) trivial ?_
    refine ck_nil ?_
    refine aw_ret ?_
    exact ⟨.inl rfl, ResOk.tmp rfl (by rw [eq_len hne]; rfl), trivial⟩
  · have hll : (a.length : Int) = b.length := by simpa using hb
    refine aw_skip ?_
    refine aw_seq ?_
    refine aw_seq ?_
    refine aw_text rfl ?_
    refine ch_v (R := []) rfl rfl (oc_move (x := .sl _ _ _) rfl rfl) trivial ?_
    refine ch_v (R := []) rfl rfl (oc_len rfl rfl (by kernel_rfl)) trivial ?_
    refine ch_v (R := []) rfl rfl (oc_move (x := .val _) rfl rfl) trivial ?_
    refine ck_nil ?_
    refine aw_block ?_
    refine aw_loop (ι := Nat) (fun k => ⟨[(0, slS a), (1, slS b), (12, vi (a.length : Int)), (13, vi k)], []⟩) (fun k => k ≤ a.length ∧ ∀ j, j < k → a.getD j ByteArray.empty = b.getD j ByteArray.empty) (fun k => a.length - k) 0 (⟨Nat.zero_le _, fun j hj => absurd hj (by omega)⟩) (Le.sub (by repeat (first | trivial | refine ⟨.inr rfl, ?_⟩ | refine ⟨.inr (vi_eq (by omega)), ?_⟩)) (by repeat (first | trivial | refine ⟨rfl, ?_⟩))) ?_
    intro k hI
    refine aw_seq ?_
    refine aw_text rfl ?_
    refine ch_v (R := []) rfl rfl (oc_binZ rfl rfl rfl rfl) trivial ?_
    refine ck_nil ?_
    refine aw_seq ?_
    refine aw_cond rfl (fun hb => ?_) (fun hb => ?_)
    · have hlt : k < a.length := by have h0 := of_decide_eq_true hb; omega
      refine aw_skip ?_
      refine aw_seq ?_
      refine aw_block ?_
      refine aw_seq ?_
      refine aw_text rfl ?_
      refine ch_v (R := []) rfl rfl (oc_move (x := .val _) rfl rfl) trivial ?_
      refine ch_v (R := []) rfl rfl (oc_assign (x := .val _) rfl rfl) trivial ?_
      refine ck_nil ?_
      refine aw_seq ?_
      refine aw_draw mixed ?_
      refine ch_v (R := []) rfl rfl (oc_move (x := .sl _ _ _) rfl rfl) trivial ?_
      refine ch_v (R := []) rfl rfl (oc_move (x := .val _) rfl rfl) trivial ?_
      refine ch_v (R := []) rfl rfl ((by first | exact oc_indexN rfl rfl rfl (by kernel_rfl) (by omega) | exact oc_index rfl rfl rfl (by kernel_rfl) (by omega) (by omega) rfl)) trivial ?_
      refine ch_v (R := []) rfl rfl (oc_load rfl rfl (by kernel_rfl) cells_str) trivial ?_
      refine ch_v (R := []) rfl rfl (oc_move (x := .sl _ _ _) rfl rfl) trivial ?_
      refine ch_v (R := []) rfl rfl (oc_move (x := .val _) rfl rfl) trivial ?_
      refine ch_v (R := []) rfl rfl ((by first | exact oc_indexN rfl rfl rfl (by kernel_rfl) (by omega) | exact oc_index rfl rfl rfl (by kernel_rfl) (by omega) (by omega) rfl)) trivial ?_
      refine ch_v (R := []) rfl rfl (oc_load rfl rfl (by kernel_rfl) cells_str) trivial ?_
      refine ch_v (R := []) rfl rfl (oc_str_ne rfl rfl rfl) trivial ?_
      refine ck_nil ⟨by kernel_rfl, ?_⟩
      refine aw_cond rfl (fun hb => ?_) (fun hb => ?_)
      · have heq : ¬ (a.getD k ByteArray.empty) = (b.getD k ByteArray.empty) := by rw [show ((a.getD k ByteArray.empty).toList != (b.getD k ByteArray.empty).toList) = !((a.getD k ByteArray.empty).toList == (b.getD k ByteArray.empty).toList) from rfl, str_eq] at hb; simpa using hb
        refine aw_seq ?_
        refine aw_text rfl ?_
        refine ch_v (R := []) rfl rfl (oc_assign (x := .val _) rfl rfl) trivial ?_
        refine ck_nil ?_
        refine aw_ret ?_
        exact ⟨.inl rfl, ResOk.tmp rfl (by rw [eq_at heq]; rfl), trivial⟩
      · have heq : (a.getD k ByteArray.empty) = (b.getD k ByteArray.empty) := by rw [show ((a.getD k ByteArray.empty).toList != (b.getD k ByteArray.empty).toList) = !((a.getD k ByteArray.empty).toList == (b.getD k ByteArray.empty).toList) from rfl, str_eq] at hb; simpa using hb
        refine aw_skip ?_
        refine aw_text rfl ?_
        refine ch_v (R := []) rfl rfl (oc_binZ rfl rfl rfl (by first | exact binW_add (by omega) (by omega) | rfl)) trivial ?_
        refine ch_v (R := []) rfl rfl (oc_move (x := .val _) rfl rfl) trivial ?_
        refine ck_nil ?_
        exact ⟨k + 1, ⟨by omega, all_step (p := fun j => a.getD j ByteArray.empty = b.getD j ByteArray.empty) hI.2 heq⟩, by omega, Le.sub (by repeat (first | trivial | refine ⟨.inr rfl, ?_⟩ | refine ⟨.inr (vi_eq (by omega)), ?_⟩)) trivial⟩
    · have hge : k = a.length := by have h0 := of_decide_eq_false hb; omega
      refine aw_exit ?_
      refine aw_seq ?_
      refine aw_text rfl ?_
      refine ch_v (R := []) rfl rfl (oc_assign (x := .val _) rfl rfl) trivial ?_
      refine ck_nil ?_
      refine aw_ret ?_
      exact ⟨.inl rfl, ResOk.tmp rfl (by rw [eq_all hll hge hI.2]; rfl), trivial⟩
set_option maxHeartbeats 800000 in
theorem equalI_pc (a b : List Int) (ha : a.length ≤ 100000000) : PC Tryd.prog 45 [slI a, slI b] (vb (decide (a = b))) := by
  refine FC.body 3 26 Tryd.func45 rfl (by kernel_rfl) ?_
  refine aw_seq ?_
  refine aw_text rfl ?_
  refine ch_v (R := []) rfl rfl (oc_assign (x := .val _) rfl rfl) trivial ?_
  refine ck_nil ?_
  refine aw_seq ?_
  refine aw_seq ?_
  refine aw_text rfl ?_
  refine ch_v (R := []) rfl rfl (oc_move (x := .sl _ _ _) rfl rfl) trivial ?_
  refine ch_v (R := []) rfl rfl (oc_len rfl rfl (by kernel_rfl)) trivial ?_
  refine ch_v (R := []) rfl rfl (oc_move (x := .sl _ _ _) rfl rfl) trivial ?_
  refine ch_v (R := []) rfl rfl (oc_len rfl rfl (by kernel_rfl)) trivial ?_
  refine ch_v (R := []) rfl rfl (oc_binZ rfl rfl rfl rfl) trivial ?_
  refine ck_nil ?_
  refine aw_cond rfl (fun hb => ?_) (fun hb => ?_)
  · have hne : ¬ (a.length : Int) = b.length := by simpa using hb
    refine aw_seq ?_
    refine aw_text rfl ?_
    refine ch_v (R := []) rfl rfl (oc_assign (x := .val _) rfl rfl) trivial ?_
    refine ck_nil ?_
    refine aw_ret ?_
    exact ⟨.inl rfl, ResOk.tmp rfl (by rw [eq_len hne]; rfl), trivial⟩
  · have hll : (a.length : Int) = b.length := by simpa using hb
    refine aw_skip ?_
    refine aw_seq ?_
    refine aw_seq ?_
    refine aw_text rfl ?_
    refine ch_v (R := []) rfl rfl (oc_move (x := .sl _ _ _) rfl rfl) trivial ?_
    refine ch_v (R := []) rfl rfl (oc_len rfl rfl (by kernel_rfl)) trivial ?_
    refine ch_v (R := []) rfl rfl (oc_move (x := .val _) rfl rfl) trivial ?_
    refine ck_nil ?_
    refine aw_block ?_
    refine aw_loop (ι := Nat) (fun k => ⟨[(0, slI a), (1, slI b), (12, vi (a.length : Int)), (13, vi k)], []⟩) (fun k => k ≤ a.length ∧ ∀ j, j < k → a.getD j 0 = b.getD j 0) (fun k => a.length - k) 0 (⟨Nat.zero_le _, fun j hj => absurd hj (by omega)⟩) (Le.sub (by repeat (first | trivial | refine ⟨.inr rfl, ?_⟩ | refine ⟨.inr (vi_eq (by omega)), ?_⟩)) (by repeat (first | trivial | refine ⟨rfl, ?_⟩))) ?_
    intro k hI
    refine aw_seq ?_
    refine aw_text rfl ?_
    refine ch_v (R := []) rfl rfl (oc_binZ rfl rfl rfl rfl) trivial ?_
    refine ck_nil ?_
    refine aw_seq ?_
    refine aw_cond rfl (fun hb => ?_) (fun hb => ?_)
    · have hlt : k < a.length := by have h0 := of_decide_eq_true hb; omega
      refine aw_skip ?_
      refine aw_seq ?_
      refine aw_block ?_
      refine aw_seq ?_
      refine aw_text rfl ?_
      refine ch_v (R := []) rfl rfl (oc_move (x := .val _) rfl rfl) trivial ?_
      refine ch_v (R := []) rfl rfl (oc_assign (x := .val _) rfl rfl) trivial ?_
      refine ck_nil ?_
      refine aw_seq ?_
      refine aw_draw mixed ?_
      refine ch_v (R := []) rfl rfl (oc_move (x := .sl _ _ _) rfl rfl) trivial ?_
      refine ch_v (R := []) rfl rfl (oc_move (x := .val _) rfl rfl) trivial ?_
      refine ch_v (R := []) rfl rfl ((by first | exact oc_indexN rfl rfl rfl (by kernel_rfl) (by omega) | exact oc_index rfl rfl rfl (by kernel_rfl) (by omega) (by omega) rfl)) trivial ?_
      refine ch_v (R := []) rfl rfl (oc_load rfl rfl (by kernel_rfl) cells_int) trivial ?_
      refine ch_v (R := []) rfl rfl (oc_move (x := .sl _ _ _) rfl rfl) trivial ?_
      refine ch_v (R := []) rfl rfl (oc_move (x := .val _) rfl rfl) trivial ?_
      refine ch_v (R := []) rfl rfl ((by first | exact oc_indexN rfl rfl rfl (by kernel_rfl) (by omega) | exact oc_index rfl rfl rfl (by kernel_rfl) (by omega) (by omega) rfl)) trivial ?_
      refine ch_v (R := []) rfl rfl (oc_load rfl rfl (by kernel_rfl) cells_int) trivial ?_
      refine ch_v (R := []) rfl rfl (oc_binZ rfl rfl rfl rfl) trivial ?_
      refine ck_nil ⟨by kernel_rfl, ?_⟩
      refine aw_cond rfl (fun hb => ?_) (fun hb => ?_)
      · have heq : ¬ (a.getD k 0) = (b.getD k 0) := by simpa using hb
        refine aw_seq ?_
        refine aw_text rfl ?_
        refine ch_v (R := []) rfl rfl (oc_assign (x := .val _) rfl rfl) trivial ?_
        refine ck_nil ?_
        refine aw_ret ?_
        exact ⟨.inl rfl, ResOk.tmp rfl (by rw [eq_at heq]; rfl), trivial⟩
      · have heq : (a.getD k 0) = (b.getD k 0) := by simpa using hb
        refine aw_skip ?_
        refine aw_text rfl ?_
        refine ch_v (R := []) rfl rfl (oc_binZ rfl rfl rfl (by first | exact binW_add (by omega) (by omega) | rfl)) trivial ?_
        refine ch_v (R := []) rfl rfl (oc_move (x := .val _) rfl rfl) trivial ?_
        refine ck_nil ?_
        exact ⟨k + 1, ⟨by omega, all_step (p := fun j => a.getD j 0 = b.getD j 0) hI.2 heq⟩, by omega, Le.sub (by repeat (first | trivial | refine ⟨.inr rfl, ?_⟩ | refine ⟨.inr (vi_eq (by omega)), ?_⟩)) trivial⟩
    · have hge : k = a.length := by have h0 := of_decide_eq_false hb; omega
      refine aw_exit ?_
      refine aw_seq ?_
      refine aw_text rfl ?_
      refine ch_v (R := []) rfl rfl (oc_assign (x := .val _) rfl rfl) trivial ?_
      refine ck_nil ?_
      refine aw_ret ?_
      exact ⟨.inl rfl, ResOk.tmp rfl (by rw [eq_all hll hge hI.2]; rfl), trivial⟩
set_option maxHeartbeats 800000 in
theorem equalB_pc (a b : List Int) (ha : a.length ≤ 100000000) : PC Tryd.prog 46 [bs a, bs b] (vb (decide (a = b))) := by
  refine FC.body 3 26 Tryd.func46 rfl (by kernel_rfl) ?_
  refine aw_seq ?_
  refine aw_text rfl ?_
  refine ch_v (R := []) rfl rfl (oc_assign (x := .val _) rfl rfl) trivial ?_
  refine ck_nil ?_
  refine aw_seq ?_
  refine aw_seq ?_
  refine aw_text rfl ?_
  refine ch_v (R := []) rfl rfl (oc_move (x := .sl _ _ _) rfl rfl) trivial ?_
  refine ch_v (R := []) rfl rfl (oc_len rfl rfl (by kernel_rfl)) trivial ?_
  refine ch_v (R := []) rfl rfl (oc_move (x := .sl _ _ _) rfl rfl) trivial ?_
  refine ch_v (R := []) rfl rfl (oc_len rfl rfl (by kernel_rfl)) trivial ?_
  refine ch_v (R := []) rfl rfl (oc_binZ rfl rfl rfl rfl) trivial ?_
  refine ck_nil ?_
  refine aw_cond rfl (fun hb => ?_) (fun hb => ?_)
  · have hne : ¬ (a.length : Int) = b.length := by simpa using hb
    refine aw_seq ?_
    refine aw_text rfl ?_
    refine ch_v (R := []) rfl rfl (oc_assign (x := .val _) rfl rfl) trivial ?_
    refine ck_nil ?_
    refine aw_ret ?_
    exact ⟨.inl rfl, ResOk.tmp rfl (by rw [eq_len hne]; rfl), trivial⟩
  · have hll : (a.length : Int) = b.length := by simpa using hb
    refine aw_skip ?_
    refine aw_seq ?_
    refine aw_seq ?_
    refine aw_text rfl ?_
    refine ch_v (R := []) rfl rfl (oc_move (x := .sl _ _ _) rfl rfl) trivial ?_
    refine ch_v (R := []) rfl rfl (oc_len rfl rfl (by kernel_rfl)) trivial ?_
    refine ch_v (R := []) rfl rfl (oc_move (x := .val _) rfl rfl) trivial ?_
    refine ck_nil ?_
    refine aw_block ?_
    refine aw_loop (ι := Nat) (fun k => ⟨[(0, bs a), (1, bs b), (12, vi (a.length : Int)), (13, vi k)], []⟩) (fun k => k ≤ a.length ∧ ∀ j, j < k → a.getD j 0 = b.getD j 0) (fun k => a.length - k) 0 (⟨Nat.zero_le _, fun j hj => absurd hj (by omega)⟩) (Le.sub (by repeat (first | trivial | refine ⟨.inr rfl, ?_⟩ | refine ⟨.inr (vi_eq (by omega)), ?_⟩)) (by repeat (first | trivial | refine ⟨rfl, ?_⟩))) ?_
    intro k hI
    refine aw_seq ?_
    refine aw_text rfl ?_
    refine ch_v (R := []) rfl rfl (oc_binZ rfl rfl rfl rfl) trivial ?_
    refine ck_nil ?_
    refine aw_seq ?_
    refine aw_cond rfl (fun hb => ?_) (fun hb => ?_)
    · have hlt : k < a.length := by have h0 := of_decide_eq_true hb; omega
      refine aw_skip ?_
      refine aw_seq ?_
      refine aw_block ?_
      refine aw_seq ?_
      refine aw_text rfl ?_
      refine ch_v (R := []) rfl rfl (oc_move (x := .val _) rfl rfl) trivial ?_
      refine ch_v (R := []) rfl rfl (oc_assign (x := .val _) rfl rfl) trivial ?_
      refine ck_nil ?_
      refine aw_seq ?_
      refine aw_draw mixed ?_
      refine ch_v (R := []) rfl rfl (oc_move (x := .sl _ _ _) rfl rfl) trivial ?_
      refine ch_v (R := []) rfl rfl (oc_move (x := .val _) rfl rfl) trivial ?_
      refine ch_v (R := []) rfl rfl ((by first | exact oc_indexN rfl rfl rfl (by kernel_rfl) (by omega) | exact oc_index rfl rfl rfl (by kernel_rfl) (by omega) (by omega) rfl)) trivial ?_
      refine ch_v (R := []) rfl rfl (oc_load rfl rfl (by kernel_rfl) cells_int) trivial ?_
      refine ch_v (R := []) rfl rfl (oc_move (x := .sl _ _ _) rfl rfl) trivial ?_
      refine ch_v (R := []) rfl rfl (oc_move (x := .val _) rfl rfl) trivial ?_
      refine ch_v (R := []) rfl rfl ((by first | exact oc_indexN rfl rfl rfl (by kernel_rfl) (by omega) | exact oc_index rfl rfl rfl (by kernel_rfl) (by omega) (by omega) rfl)) trivial ?_
      refine ch_v (R := []) rfl rfl (oc_load rfl rfl (by kernel_rfl) cells_int) trivial ?_
      refine ch_v (R := []) rfl rfl (oc_binZ rfl rfl rfl rfl) trivial ?_
      refine ck_nil ⟨by kernel_rfl, ?_⟩
      refine aw_cond rfl (fun hb => ?_) (fun hb => ?_)
      · have heq : ¬ (a.getD k 0) = (b.getD k 0) := by simpa using hb
        refine aw_seq ?_
        refine aw_text rfl ?_
        refine ch_v (R := []) rfl rfl (oc_assign (x := .val _) rfl rfl) trivial ?_
        refine ck_nil ?_
        refine aw_ret ?_
        exact ⟨.inl rfl, ResOk.tmp rfl (by rw [eq_at heq]; rfl), trivial⟩
      · have heq : (a.getD k 0) = (b.getD k 0) := by simpa using hb
        refine aw_skip ?_
        refine aw_text rfl ?_
        refine ch_v (R := []) rfl rfl (oc_binZ rfl rfl rfl (by first | exact binW_add (by omega) (by omega) | rfl)) trivial ?_
        refine ch_v (R := []) rfl rfl (oc_move (x := .val _) rfl rfl) trivial ?_
        refine ck_nil ?_
        exact ⟨k + 1, ⟨by omega, all_step (p := fun j => a.getD j 0 = b.getD j 0) hI.2 heq⟩, by omega, Le.sub (by repeat (first | trivial | refine ⟨.inr rfl, ?_⟩ | refine ⟨.inr (vi_eq (by omega)), ?_⟩)) trivial⟩
    · have hge : k = a.length := by have h0 := of_decide_eq_false hb; omega
      refine aw_exit ?_
      refine aw_seq ?_
      refine aw_text rfl ?_
      refine ch_v (R := []) rfl rfl (oc_assign (x := .val _) rfl rfl) trivial ?_
      refine ck_nil ?_
      refine aw_ret ?_
      exact ⟨.inl rfl, ResOk.tmp rfl (by rw [eq_all hll hge hI.2]; rfl), trivial⟩
set_option maxHeartbeats 800000 in
theorem texts_pc (a b : List ByteArray) (ha : a.length ≤ 100000000) : PC Tryd.prog 23 [slS a, slS b] (vb (decide (a = b))) := by
  refine FC.body 3 26 Tryd.func23 rfl (by kernel_rfl) ?_
  refine aw_seq ?_
  refine aw_text rfl ?_
  refine ch_v (R := []) rfl rfl (oc_assign (x := .val _) rfl rfl) trivial ?_
  refine ck_nil ?_
  refine aw_seq ?_
  refine aw_seq ?_
  refine aw_text rfl ?_
  refine ch_v (R := []) rfl rfl (oc_move (x := .sl _ _ _) rfl rfl) trivial ?_
  refine ch_v (R := []) rfl rfl (oc_len rfl rfl (by kernel_rfl)) trivial ?_
  refine ch_v (R := []) rfl rfl (oc_move (x := .sl _ _ _) rfl rfl) trivial ?_
  refine ch_v (R := []) rfl rfl (oc_len rfl rfl (by kernel_rfl)) trivial ?_
  refine ch_v (R := []) rfl rfl (oc_binZ rfl rfl rfl rfl) trivial ?_
  refine ck_nil ?_
  refine aw_cond rfl (fun hb => ?_) (fun hb => ?_)
  · have hne : ¬ (a.length : Int) = b.length := by simpa using hb
    refine aw_seq ?_
    refine aw_text rfl ?_
    refine ch_v (R := []) rfl rfl (oc_assign (x := .val _) rfl rfl) trivial ?_
    refine ck_nil ?_
    refine aw_ret ?_
    exact ⟨.inl rfl, ResOk.tmp rfl (by rw [eq_len hne]; rfl), trivial⟩
  · have hll : (a.length : Int) = b.length := by simpa using hb
    refine aw_skip ?_
    refine aw_seq ?_
    refine aw_seq ?_
    refine aw_text rfl ?_
    refine ch_v (R := []) rfl rfl (oc_assign (x := .val _) rfl rfl) trivial ?_
    refine ck_nil ?_
    refine aw_block ?_
    refine aw_loop (ι := Nat) (fun k => ⟨[(0, slS a), (1, slS b), (5, vi k)], []⟩) (fun k => k ≤ a.length ∧ ∀ j, j < k → a.getD j ByteArray.empty = b.getD j ByteArray.empty) (fun k => a.length - k) 0 (⟨Nat.zero_le _, fun j hj => absurd hj (by omega)⟩) (Le.sub (by repeat (first | trivial | refine ⟨.inr rfl, ?_⟩ | refine ⟨.inr (vi_eq (by omega)), ?_⟩)) (by repeat (first | trivial | refine ⟨rfl, ?_⟩))) ?_
    intro k hI
    refine aw_seq ?_
    refine aw_seq ?_
    refine aw_text rfl ?_
    refine ch_v (R := []) rfl rfl (oc_move (x := .val _) rfl rfl) trivial ?_
    refine ch_v (R := []) rfl rfl (oc_move (x := .sl _ _ _) rfl rfl) trivial ?_
    refine ch_v (R := []) rfl rfl (oc_len rfl rfl (by kernel_rfl)) trivial ?_
    refine ch_v (R := []) rfl rfl (oc_binZ rfl rfl rfl rfl) trivial ?_
    refine ck_nil ?_
    refine aw_cond rfl (fun hb => ?_) (fun hb => ?_)
    · have hlt : k < a.length := by have h0 := of_decide_eq_true hb; omega
      refine aw_skip ?_
      refine aw_seq ?_
      refine aw_block ?_
      refine aw_seq ?_
      refine aw_draw mixed ?_
      refine ch_v (R := []) rfl rfl (oc_move (x := .sl _ _ _) rfl rfl) trivial ?_
      refine ch_v (R := []) rfl rfl (oc_move (x := .val _) rfl rfl) trivial ?_
      refine ch_v (R := []) rfl rfl ((by first | exact oc_indexN rfl rfl rfl (by kernel_rfl) (by omega) | exact oc_index rfl rfl rfl (by kernel_rfl) (by omega) (by omega) rfl)) trivial ?_
      refine ch_v (R := []) rfl rfl (oc_load rfl rfl (by kernel_rfl) cells_str) trivial ?_
      refine ch_v (R := []) rfl rfl (oc_move (x := .sl _ _ _) rfl rfl) trivial ?_
      refine ch_v (R := []) rfl rfl (oc_move (x := .val _) rfl rfl) trivial ?_
      refine ch_v (R := []) rfl rfl ((by first | exact oc_indexN rfl rfl rfl (by kernel_rfl) (by omega) | exact oc_index rfl rfl rfl (by kernel_rfl) (by omega) (by omega) rfl)) trivial ?_
      refine ch_v (R := []) rfl rfl (oc_load rfl rfl (by kernel_rfl) cells_str) trivial ?_
      refine ch_v (R := []) rfl rfl (oc_str_ne rfl rfl rfl) trivial ?_
      refine ck_nil ⟨by kernel_rfl, ?_⟩
      refine aw_cond rfl (fun hb => ?_) (fun hb => ?_)
      · have heq : ¬ (a.getD k ByteArray.empty) = (b.getD k ByteArray.empty) := by rw [show ((a.getD k ByteArray.empty).toList != (b.getD k ByteArray.empty).toList) = !((a.getD k ByteArray.empty).toList == (b.getD k ByteArray.empty).toList) from rfl, str_eq] at hb; simpa using hb
        refine aw_seq ?_
        refine aw_text rfl ?_
        refine ch_v (R := []) rfl rfl (oc_assign (x := .val _) rfl rfl) trivial ?_
        refine ck_nil ?_
        refine aw_ret ?_
        exact ⟨.inl rfl, ResOk.tmp rfl (by rw [eq_at heq]; rfl), trivial⟩
      · have heq : (a.getD k ByteArray.empty) = (b.getD k ByteArray.empty) := by rw [show ((a.getD k ByteArray.empty).toList != (b.getD k ByteArray.empty).toList) = !((a.getD k ByteArray.empty).toList == (b.getD k ByteArray.empty).toList) from rfl, str_eq] at hb; simpa using hb
        refine aw_skip ?_
        refine aw_text rfl ?_
        refine ch_v (R := []) rfl rfl (oc_move (x := .val _) rfl rfl) trivial ?_
        refine ch_v (R := []) rfl rfl (oc_binZ rfl rfl rfl (by first | exact binW_add (by omega) (by omega) | rfl)) trivial ?_
        refine ch_v (R := []) rfl rfl (oc_assign (x := .val _) rfl rfl) trivial ?_
        refine ck_nil ?_
        exact ⟨k + 1, ⟨by omega, all_step (p := fun j => a.getD j ByteArray.empty = b.getD j ByteArray.empty) hI.2 heq⟩, by omega, Le.sub (by repeat (first | trivial | refine ⟨.inr rfl, ?_⟩ | refine ⟨.inr (vi_eq (by omega)), ?_⟩)) trivial⟩
    · have hge : k = a.length := by have h0 := of_decide_eq_false hb; omega
      refine aw_exit ?_
      refine aw_seq ?_
      refine aw_text rfl ?_
      refine ch_v (R := []) rfl rfl (oc_assign (x := .val _) rfl rfl) trivial ?_
      refine ck_nil ?_
      refine aw_ret ?_
      exact ⟨.inl rfl, ResOk.tmp rfl (by rw [eq_all hll hge hI.2]; rfl), trivial⟩
set_option maxHeartbeats 800000 in
theorem count_pl_pc (p : PoolP) : PC Tryd.prog 24 [poolAv p] (vi (p.at_.length : Int)) := by
  refine FC.body 2 6 Tryd.func24 rfl (by kernel_rfl) ?_
  refine aw_seq ?_
  refine aw_text rfl ?_
  refine ch_v (R := []) rfl rfl (oc_box (x := .agg _) rfl rfl) trivial ?_
  refine ch_v (R := []) rfl rfl (oc_assign (x := .val _) rfl rfl) trivial ?_
  refine ck_nil ?_
  refine aw_seq ?_
  refine aw_text rfl ?_
  refine ch_v (R := []) rfl rfl (oc_fieldAddr (off := 1) rfl rfl rfl (by kernel_rfl) rfl) trivial ?_
  refine ch_v (R := []) rfl rfl (oc_load rfl rfl (by kernel_rfl) cells_sl) trivial ?_
  refine ch_v (R := []) rfl rfl (oc_len rfl rfl (by kernel_rfl)) trivial ?_
  refine ch_v (R := []) rfl rfl (oc_assign (x := .val _) rfl rfl) trivial ?_
  refine ck_nil ?_
  refine aw_ret ?_
  exact ⟨.inl rfl, ResOk.tmp rfl rfl, trivial⟩
set_option maxHeartbeats 800000 in
theorem same_pl_pc (p q : PoolP) (ha : p.abbrevs.length ≤ 100000000) (hal : p.at_.length ≤ 100000000) (hbp : Bts p.bytes) (hbq : Bts q.bytes) : PC Tryd.prog 12 [poolAv p, poolAv q] (vb (samePl p q)) := by
  refine FC.body 3 48 Tryd.func12 rfl (by kernel_rfl) ?_
  refine aw_seq ?_
  refine aw_text rfl ?_
  refine ch_v (R := []) rfl rfl (oc_box (x := .agg _) rfl rfl) trivial ?_
  refine ch_v (R := []) rfl rfl (oc_box (x := .agg _) rfl rfl) trivial ?_
  refine ch_v (R := []) rfl rfl (oc_assign (x := .val _) rfl rfl) trivial ?_
  refine ck_nil ?_
  refine aw_seq ?_
  refine aw_seq ?_
  refine aw_text rfl ?_
  refine ch_v (R := []) rfl rfl (oc_fieldAddr (off := 0) rfl rfl rfl (by kernel_rfl) rfl) trivial ?_
  refine ch_v (R := []) rfl rfl (oc_load rfl rfl (by kernel_rfl) cells_sl) trivial ?_
  refine ch_v (R := []) rfl rfl (oc_fieldAddr (off := 0) rfl rfl rfl (by kernel_rfl) rfl) trivial ?_
  refine ch_v (R := []) rfl rfl (oc_load rfl rfl (by kernel_rfl) cells_sl) trivial ?_
  refine ch_v (R := []) rfl rfl (oc_call rfl (by kernel_rfl) (texts_pc p.abbrevs q.abbrevs ha) rfl (by simp only [PureL, Pure, and_self, pure_slI, pure_slS, rowAv, pieces_pure, pool_pure, bs_pure, implies_true]) (by simp only [PureL, Pure, and_self, pure_slI, pure_slS, rowAv, pieces_pure, pool_pure, bs_pure, implies_true])) trivial ?_
  refine ch_v (R := []) rfl rfl (oc_not rfl rfl) trivial ?_
  refine ch_v (R := []) rfl rfl (oc_move (x := .val _) rfl rfl) trivial ?_
  refine ch_g (R := []) rfl rfl rfl gate_f (fun hC => oc_fieldAddr (off := 1) rfl rfl rfl (by kernel_rfl) rfl) (fun hC => ⟨(by first | rfl | exact hC | (simp only [Bool.and_eq_true] at hC; first | exact hC.1 | exact hC.1.1 | exact hC.2) | simp_all), trivial⟩) trivial ?_
  refine ch_g (R := []) rfl rfl rfl gate_f (fun hC => oc_load rfl rfl (by kernel_rfl) cells_sl) (fun hC => ⟨(by first | rfl | exact hC | (simp only [Bool.and_eq_true] at hC; first | exact hC.1 | exact hC.1.1 | exact hC.2) | simp_all), trivial⟩) trivial ?_
  refine ch_g (R := []) rfl rfl rfl gate_f (fun hC => oc_len rfl rfl (by kernel_rfl)) (fun hC => ⟨(by first | rfl | exact hC | (simp only [Bool.and_eq_true] at hC; first | exact hC.1 | exact hC.1.1 | exact hC.2) | simp_all), trivial⟩) trivial ?_
  refine ch_g (R := []) rfl rfl rfl gate_f (fun hC => oc_fieldAddr (off := 1) rfl rfl rfl (by kernel_rfl) rfl) (fun hC => ⟨(by first | rfl | exact hC | (simp only [Bool.and_eq_true] at hC; first | exact hC.1 | exact hC.1.1 | exact hC.2) | simp_all), trivial⟩) trivial ?_
  refine ch_g (R := []) rfl rfl rfl gate_f (fun hC => oc_load rfl rfl (by kernel_rfl) cells_sl) (fun hC => ⟨(by first | rfl | exact hC | (simp only [Bool.and_eq_true] at hC; first | exact hC.1 | exact hC.1.1 | exact hC.2) | simp_all), trivial⟩) trivial ?_
  refine ch_g (R := []) rfl rfl rfl gate_f (fun hC => oc_len rfl rfl (by kernel_rfl)) (fun hC => ⟨(by first | rfl | exact hC | (simp only [Bool.and_eq_true] at hC; first | exact hC.1 | exact hC.1.1 | exact hC.2) | simp_all), trivial⟩) trivial ?_
  refine ch_g (R := []) rfl rfl rfl gate_f (fun hC => oc_binZ rfl rfl rfl rfl) (fun hC => ⟨(by first | rfl | exact hC | (simp only [Bool.and_eq_true] at hC; first | exact hC.1 | exact hC.1.1 | exact hC.2) | simp_all), (by first | rfl | exact hC | (simp only [Bool.and_eq_true] at hC; first | exact hC.1 | exact hC.1.1 | exact hC.2) | simp_all), trivial⟩) trivial ?_
  refine ch_v (R := []) rfl rfl (oc_or rfl rfl rfl (by first | exact fun h => h | simp_all)) trivial ?_
  refine ch_v (R := []) rfl rfl (oc_move (x := .val _) rfl rfl) trivial ?_
  refine ch_g (R := []) rfl rfl rfl gate_f (fun hC => oc_fieldAddr (off := 2) rfl rfl rfl (by kernel_rfl) rfl) (fun hC => ⟨(by first | rfl | exact hC | (simp only [Bool.and_eq_true] at hC; first | exact hC.1 | exact hC.1.1 | exact hC.2) | simp_all), trivial⟩) trivial ?_
  refine ch_g (R := []) rfl rfl rfl gate_f (fun hC => oc_load rfl rfl (by kernel_rfl) cells_sl) (fun hC => ⟨(by first | rfl | exact hC | (simp only [Bool.and_eq_true] at hC; first | exact hC.1 | exact hC.1.1 | exact hC.2) | simp_all), trivial⟩) trivial ?_
  refine ch_g (R := []) rfl rfl rfl gate_f (fun hC => oc_str _ rfl rfl (by kernel_rfl)) (fun hC => ⟨(by first | rfl | exact hC | (simp only [Bool.and_eq_true] at hC; first | exact hC.1 | exact hC.1.1 | exact hC.2) | simp_all), trivial⟩) trivial ?_
  refine ch_g (R := []) rfl rfl rfl gate_f (fun hC => oc_fieldAddr (off := 2) rfl rfl rfl (by kernel_rfl) rfl) (fun hC => ⟨(by first | rfl | exact hC | (simp only [Bool.and_eq_true] at hC; first | exact hC.1 | exact hC.1.1 | exact hC.2) | simp_all), trivial⟩) trivial ?_
  refine ch_g (R := []) rfl rfl rfl gate_f (fun hC => oc_load rfl rfl (by kernel_rfl) cells_sl) (fun hC => ⟨(by first | rfl | exact hC | (simp only [Bool.and_eq_true] at hC; first | exact hC.1 | exact hC.1.1 | exact hC.2) | simp_all), trivial⟩) trivial ?_
  refine ch_g (R := []) rfl rfl rfl gate_f (fun hC => oc_str _ rfl rfl (by kernel_rfl)) (fun hC => ⟨(by first | rfl | exact hC | (simp only [Bool.and_eq_true] at hC; first | exact hC.1 | exact hC.1.1 | exact hC.2) | simp_all), trivial⟩) trivial ?_
  refine ch_g (R := []) rfl rfl rfl gate_f (fun hC => oc_str_ne rfl rfl rfl) (fun hC => ⟨(by first | rfl | exact hC | (simp only [Bool.and_eq_true] at hC; first | exact hC.1 | exact hC.1.1 | exact hC.2) | simp_all), (by first | rfl | exact hC | (simp only [Bool.and_eq_true] at hC; first | exact hC.1 | exact hC.1.1 | exact hC.2) | simp_all), trivial⟩) trivial ?_
  refine ch_v (R := []) rfl rfl (oc_or rfl rfl rfl (by first | exact fun h => h | simp_all)) trivial ?_
  refine ck_nil ?_
  refine aw_cond rfl (fun hb => ?_) (fun hb => ?_)
  · have hbad : samePl p q = false := by
      have e1 : ((strOfNums p.bytes).toList != (strOfNums q.bytes).toList) = !decide (p.bytes = q.bytes) := by rw [show ((strOfNums p.bytes).toList != (strOfNums q.bytes).toList) = !((strOfNums p.bytes).toList == (strOfNums q.bytes).toList) from rfl, str_bytes hbp hbq]
      rw [e1] at hb
      unfold samePl
      simp only [Bool.or_eq_true, Bool.not_eq_true', bne_iff_ne, ne_eq, decide_eq_false_iff_not, Bool.not_eq_eq_eq_not, Bool.not_true, Bool.not_false] at hb
      rcases hb with (h | h) | h
      · simp [h]
      · rw [eq_len h]; simp
      · simp [h]
    refine aw_seq ?_
    refine aw_text rfl ?_
    refine ch_v (R := []) rfl rfl (oc_assign (x := .val _) rfl rfl) trivial ?_
    refine ck_nil ?_
    refine aw_ret ?_
    exact ⟨.inl rfl, ResOk.tmp rfl (by rw [hbad]; rfl), trivial⟩
  · have e1 : ((strOfNums p.bytes).toList != (strOfNums q.bytes).toList) = !decide (p.bytes = q.bytes) := by rw [show ((strOfNums p.bytes).toList != (strOfNums q.bytes).toList) = !((strOfNums p.bytes).toList == (strOfNums q.bytes).toList) from rfl, str_bytes hbp hbq]
    rw [e1] at hb
    obtain ⟨⟨hs1, hs2⟩, hs3⟩ : (p.abbrevs = q.abbrevs ∧ (p.at_.length : Int) = q.at_.length) ∧ p.bytes = q.bytes := by simpa using hb
    refine aw_skip ?_
    refine aw_seq ?_
    refine aw_seq ?_
    refine aw_text rfl ?_
    refine ch_v (R := []) rfl rfl (oc_assign (x := .val _) rfl rfl) trivial ?_
    refine ck_nil ?_
    refine aw_block ?_
    refine aw_loop (ι := Nat) (fun k => ⟨[(2, .ptr (poolAv p)), (3, .ptr (poolAv q)), (5, vi k)], []⟩) (fun k => k ≤ p.at_.length ∧ ∀ j, j < k → p.at_.getD j 0 = q.at_.getD j 0) (fun k => p.at_.length - k) 0 (⟨Nat.zero_le _, fun j hj => absurd hj (by omega)⟩) (Le.sub (by repeat (first | trivial | refine ⟨.inr rfl, ?_⟩ | refine ⟨.inr (vi_eq (by omega)), ?_⟩)) (by repeat (first | trivial | refine ⟨rfl, ?_⟩))) ?_
    intro k hI
    refine aw_seq ?_
    refine aw_seq ?_
    refine aw_text rfl ?_
    refine ch_v (R := []) rfl rfl (oc_move (x := .val _) rfl rfl) trivial ?_
    refine ch_v (R := []) rfl rfl (oc_fieldAddr (off := 1) rfl rfl rfl (by kernel_rfl) rfl) trivial ?_
    refine ch_v (R := []) rfl rfl (oc_load rfl rfl (by kernel_rfl) cells_sl) trivial ?_
    refine ch_v (R := []) rfl rfl (oc_len rfl rfl (by kernel_rfl)) trivial ?_
    refine ch_v (R := []) rfl rfl (oc_binZ rfl rfl rfl rfl) trivial ?_
    refine ck_nil ?_
    refine aw_cond rfl (fun hb => ?_) (fun hb => ?_)
    · have hlt : k < p.at_.length := by have h0 := of_decide_eq_true hb; omega
      refine aw_skip ?_
      refine aw_seq ?_
      refine aw_block ?_
      refine aw_seq ?_
      refine aw_draw mixed ?_
      refine ch_v (R := []) rfl rfl (oc_fieldAddr (off := 1) rfl rfl rfl (by kernel_rfl) rfl) trivial ?_
      refine ch_v (R := []) rfl rfl (oc_load rfl rfl (by kernel_rfl) cells_sl) trivial ?_
      refine ch_v (R := []) rfl rfl (oc_move (x := .val _) rfl rfl) trivial ?_
      refine ch_v (R := []) rfl rfl ((by first | exact oc_indexN rfl rfl rfl (by kernel_rfl) (by omega) | exact oc_index rfl rfl rfl (by kernel_rfl) (by omega) (by omega) rfl)) trivial ?_
      refine ch_v (R := []) rfl rfl (oc_load rfl rfl (by kernel_rfl) cells_int) trivial ?_
      refine ch_v (R := []) rfl rfl (oc_fieldAddr (off := 1) rfl rfl rfl (by kernel_rfl) rfl) trivial ?_
      refine ch_v (R := []) rfl rfl (oc_load rfl rfl (by kernel_rfl) cells_sl) trivial ?_
      refine ch_v (R := []) rfl rfl (oc_move (x := .val _) rfl rfl) trivial ?_
      refine ch_v (R := []) rfl rfl ((by first | exact oc_indexN rfl rfl rfl (by kernel_rfl) (by omega) | exact oc_index rfl rfl rfl (by kernel_rfl) (by omega) (by omega) rfl)) trivial ?_
      refine ch_v (R := []) rfl rfl (oc_load rfl rfl (by kernel_rfl) cells_int) trivial ?_
      refine ch_v (R := []) rfl rfl (oc_binZ rfl rfl rfl rfl) trivial ?_
      refine ck_nil ⟨by kernel_rfl, ?_⟩
      refine aw_cond rfl (fun hb => ?_) (fun hb => ?_)
      · have heq : ¬ p.at_.getD k 0 = q.at_.getD k 0 := by simpa using hb
        refine aw_seq ?_
        refine aw_text rfl ?_
        refine ch_v (R := []) rfl rfl (oc_assign (x := .val _) rfl rfl) trivial ?_
        refine ck_nil ?_
        refine aw_ret ?_
        exact ⟨.inl rfl, ResOk.tmp rfl (by unfold samePl; rw [eq_at heq, Bool.and_false, Bool.false_and]; rfl), trivial⟩
      · have heq : p.at_.getD k 0 = q.at_.getD k 0 := by simpa using hb
        refine aw_skip ?_
        refine aw_text rfl ?_
        refine ch_v (R := []) rfl rfl (oc_move (x := .val _) rfl rfl) trivial ?_
        refine ch_v (R := []) rfl rfl (oc_binZ rfl rfl rfl (by first | exact binW_add (by omega) (by omega) | rfl)) trivial ?_
        refine ch_v (R := []) rfl rfl (oc_assign (x := .val _) rfl rfl) trivial ?_
        refine ck_nil ?_
        exact ⟨k + 1, ⟨by omega, all_step (p := fun j => p.at_.getD j 0 = q.at_.getD j 0) hI.2 heq⟩, by omega, Le.sub (by repeat (first | trivial | refine ⟨.inr rfl, ?_⟩ | refine ⟨.inr (vi_eq (by omega)), ?_⟩)) trivial⟩
    · have hge : k = p.at_.length := by have h0 := of_decide_eq_false hb; omega
      refine aw_exit ?_
      refine aw_seq ?_
      refine aw_text rfl ?_
      refine ch_v (R := []) rfl rfl (oc_assign (x := .val _) rfl rfl) trivial ?_
      refine ck_nil ?_
      refine aw_ret ?_
      exact ⟨.inl rfl, ResOk.tmp rfl (by unfold samePl; rw [eq_all hs2 hge hI.2, decide_eq_true hs1, decide_eq_true hs3]; rfl), trivial⟩
set_option maxHeartbeats 800000 in
theorem all_pc (p : PoolP) (hal : p.at_.length ≤ 1000000) (hbl : p.bytes.length ≤ 100000000) (hBt : Bts p.bytes) (hl : ∀ i, (bytesP p i).1.length ≤ 5000) (hab : ∀ k, (p.abbrevs.getD k ByteArray.empty).size ≤ 1000) (habl : p.abbrevs.length ≤ 1000000) : PC Tryd.prog 21 [poolAv p] (.tup [slS (allP p).1, vi (allP p).2]) := by
  refine FC.body 2 29 Tryd.func21 rfl (by kernel_rfl) ?_
  refine aw_seq ?_
  refine aw_text rfl ?_
  refine ch_v (R := []) rfl rfl (oc_box (x := .agg _) rfl rfl) trivial ?_
  refine ch_v (R := []) rfl rfl (oc_assign (x := .val _) rfl rfl) trivial ?_
  refine ch_v (R := []) rfl rfl (oc_assign (x := .val _) rfl rfl) trivial ?_
  refine ck_nil ?_
  refine aw_seq ?_
  refine aw_text rfl ?_
  refine ch_v (R := []) rfl rfl (oc_assign (x := .val _) rfl rfl) trivial ?_
  refine ck_nil ?_
  refine aw_seq ?_
  refine aw_seq ?_
  refine aw_text rfl ?_
  refine ch_v (R := []) rfl rfl (oc_fieldAddr (off := 1) rfl rfl rfl (by kernel_rfl) rfl) trivial ?_
  refine ch_v (R := []) rfl rfl (oc_load rfl rfl (by kernel_rfl) cells_sl) trivial ?_
  refine ch_v (R := []) rfl rfl (oc_len rfl rfl (by kernel_rfl)) trivial ?_
  refine ch_v (R := []) rfl rfl (oc_move (x := .val _) rfl rfl) trivial ?_
  refine ck_nil ?_
  refine aw_block ?_
  refine aw_le (Le.nameNil 4 0 1 9 rfl rfl) ?_
  refine aw_loop (ι := (Nat × List ByteArray)) (fun q => ⟨[(1, .ptr (poolAv p)), (4, .osl 1 0 q.2.length), (10, vi (p.at_.length : Int)), (11, vi q.1)], [(0, .live 9 (q.2.map vs)), (1, .unborn)]⟩) (fun q => q.1 ≤ p.at_.length ∧ q.2.length = q.1 ∧ allP p = allF (poolTx p) (p.at_.length - q.1) q.1 q.2) (fun q => p.at_.length - q.1) (0, []) (⟨Nat.zero_le _, rfl, rfl⟩) (Le.sub (by repeat (first | trivial | refine ⟨.inr rfl, ?_⟩)) ⟨rfl, rfl, trivial⟩) ?_
  intro q hI
  obtain ⟨g1, g2, g3⟩ := hI
  refine aw_seq ?_
  refine aw_text rfl ?_
  refine ch_v (R := []) rfl rfl (oc_binZ rfl rfl rfl rfl) trivial ?_
  refine ck_nil ?_
  refine aw_seq ?_
  refine aw_cond rfl (fun hb => ?_) (fun hb => ?_)
  · have hlt : q.1 < p.at_.length := by have h0 := of_decide_eq_true hb; omega
    refine aw_skip ?_
    refine aw_seq ?_
    refine aw_block ?_
    refine aw_seq ?_
    refine aw_text rfl ?_
    refine ch_v (R := []) rfl rfl (oc_move (x := .val _) rfl rfl) trivial ?_
    refine ch_v (R := []) rfl rfl (oc_assign (x := .val _) rfl rfl) trivial ?_
    refine ck_nil ?_
    refine aw_seq ?_
    refine aw_text rfl ?_
    refine ch_v (R := []) rfl rfl (oc_load_row rfl rfl (by kernel_rfl) (by kernel_rfl) rfl) trivial ?_
    refine ch_v (R := []) rfl rfl (oc_move (x := .val _) rfl rfl) trivial ?_
    refine ch_v (R := []) rfl rfl (oc_call rfl (by kernel_rfl) (ptext_pc p (q.1 : Int) hal hbl hBt (hl _) hab habl) rfl (by simp only [PureL, Pure, and_self, pure_slI, pure_slS, rowAv, pieces_pure, pool_pure, bs_pure, implies_true]) (by simp only [PureL, Pure, and_self, pure_slI, pure_slS, rowAv, pieces_pure, pool_pure, bs_pure, implies_true])) trivial ?_
    refine ch_v (R := []) rfl rfl (oc_move (x := .tup _) rfl rfl) trivial ?_
    refine ch_v (R := []) rfl rfl (oc_extract rfl rfl rfl) trivial ?_
    refine ch_v (R := []) rfl rfl (oc_extract rfl rfl rfl) trivial ?_
    refine ch_v (R := []) rfl rfl (oc_assign (x := .val _) rfl rfl) trivial ?_
    refine ch_v (R := []) rfl rfl (oc_assign (x := .val _) rfl rfl) trivial ?_
    refine ck_nil ?_
    refine aw_seq ?_
    refine aw_seq ?_
    refine aw_text rfl ?_
    refine ch_v (R := []) rfl rfl (oc_move (x := .val _) rfl rfl) trivial ?_
    refine ch_v (R := []) rfl rfl (oc_binZ rfl rfl rfl rfl) trivial ?_
    refine ck_nil ?_
    refine aw_cond rfl (fun hb => ?_) (fun hb => ?_)
    · have he0 : (poolTx p (q.1 : Int)).2 ≠ 0 := by simpa using hb
      refine aw_seq ?_
      refine aw_text rfl ?_
      refine ch_v (R := []) rfl rfl (oc_move (x := .val _) rfl rfl) trivial ?_
      refine ch_v (R := []) rfl rfl (oc_assign (x := .val _) rfl rfl) trivial ?_
      refine ch_v (R := []) rfl rfl (oc_assign (x := .val _) rfl rfl) trivial ?_
      refine ck_nil ?_
      refine aw_ret ?_
      exact ⟨.inl rfl, by rw [pair_all (show allP p = ([], (poolTx p (q.1 : Int)).2) from by rw [g3, show p.at_.length - q.1 = (p.at_.length - (q.1 + 1)) + 1 from by omega]; exact all_stop he0)]; exact ResOk.two rfl ((ResC.tmp rfl).to fun E v h => rep_nil (by decide) E v h) (ResC.tmp rfl), trivial⟩
    · have he0 : (poolTx p (q.1 : Int)).2 = 0 := by simpa using hb
      refine aw_skip ?_
      refine aw_text rfl ?_
      refine ch_v (R := []) rfl rfl (oc_move (x := .osl _ _ _) rfl rfl) trivial ?_
      refine ch_v (R := []) rfl rfl (oc_move (x := .val _) rfl rfl) trivial ?_
      refine ch_v (R := []) rfl rfl (oc_buildSlice (ps := [.tmp 24]) (xs := [.val _]) (e := 9) (k := 1) (by_ := 16) (zs := [.string ⟨#[]⟩]) rfl (by kernel_rfl) (by kernel_rfl) rfl rfl rfl (by decide) (by decide)) trivial ?_
      refine ch_u rfl rfl (oc_append (e := 9) (k := 1) (by_ := 16) (zs := [.string ⟨#[]⟩]) (cs := q.2.map vs) (ds := [vs (poolTx p (q.1 : Int)).1]) 1 rfl rfl rfl (by kernel_rfl) (by kernel_rfl) rfl (by decide) (by decide) (by simp) rfl (app_vs1 _) (by omega) (by omega)) ⟨rfl, rfl, trivial⟩ ?_
      refine ch_v (R := []) rfl rfl (oc_assign (x := .osl _ _ _) rfl rfl) trivial ?_
      refine ck_nil ?_
      refine aw_le (Le.trans (Le.swap (τ := ⟨[(1, .ptr (poolAv p)), (4, .osl 1 0 (q.2.length + 1)), (10, vi (p.at_.length : Int)), (11, vi q.1)], [(0, .live 9 ((q.2 ++ [(poolTx p (q.1 : Int)).1]).map vs)), (1, .dead)]⟩) 0 1 (by simp) (by simp) ⟨(ren_pure _ _ (by unfold Pure; exact pool_pure p)).symm, rfl, rfl, rfl, trivial⟩ ⟨by show lkH _ 1 = some (Hs.live _ (((q.2 ++ [(poolTx p (q.1 : Int)).1]).map vs).map _)); rw [ren_vs, show ((q.2 ++ [(poolTx p (q.1 : Int)).1]).map vs) = q.2.map vs ++ [vs (poolTx p (q.1 : Int)).1] from List.map_append]; rfl, rfl, trivial⟩) (Le.reset (τ := ⟨[(1, .ptr (poolAv p)), (4, .osl 1 0 (q.2.length + 1)), (10, vi (p.at_.length : Int)), (11, vi q.1)], [(0, .live 9 ((q.2 ++ [(poolTx p (q.1 : Int)).1]).map vs)), (1, .unborn)]⟩) [1] (by simp) ⟨.inr rfl, .inr rfl, .inr rfl, .inr rfl, trivial⟩ ⟨NoN.of_pure _ (by unfold Pure; exact pool_pure p), by simp [NoN], by simp [NoN], by simp [NoN], trivial⟩ ⟨by rw [if_neg (by decide)]; exact ⟨rfl, non_vs _⟩, by rw [if_pos (by decide)], trivial⟩)) ?_
      refine aw_text rfl ?_
      refine ch_v (R := []) rfl rfl (oc_binZ rfl rfl rfl (by first | exact binW_add (by omega) (by omega) | rfl)) trivial ?_
      refine ch_v (R := []) rfl rfl (oc_move (x := .val _) rfl rfl) trivial ?_
      refine ck_nil ?_
      exact ⟨(q.1 + 1, (q.2 ++ [(poolTx p (q.1 : Int)).1])), ⟨by show q.1 + 1 ≤ _; omega, by show (q.2 ++ [_]).length = q.1 + 1; rw [List.length_append, g2]; rfl, by rw [g3, show p.at_.length - q.1 = (p.at_.length - (q.1 + 1)) + 1 from by omega]; exact all_more he0⟩, by show _ - (q.1 + 1) < _; omega, Le.sub (by repeat (first | trivial | refine ⟨.inr rfl, ?_⟩ | refine ⟨.inr (vi_eq (by show (q.1 : Int) + 1 = ((q.1 + 1 : Nat) : Int); omega)), ?_⟩ | refine ⟨.inr (by show lkS _ 4 = Av.osl 1 0 (q.2 ++ [(poolTx p (q.1 : Int)).1]).length; rw [List.length_append]; rfl), ?_⟩)) ⟨rfl, rfl, trivial⟩⟩
  · have hge : q.1 = p.at_.length := by have h0 := of_decide_eq_false hb; omega
    have hfin : allP p = (q.2, 0) := by rw [g3, hge, Nat.sub_self]; rfl
    refine aw_exit ?_
    refine aw_seq ?_
    refine aw_le (Le.freeze 4 0 (fun j => vs (q.2.getD j ByteArray.empty)) rfl rfl (by simp) (row_vs _)) ?_
    refine aw_text rfl ?_
    refine ch_v (R := []) rfl rfl (oc_move (x := .sl _ _ _) rfl rfl) trivial ?_
    refine ch_v (R := []) rfl rfl (oc_assign (x := .sl _ _ _) rfl rfl) trivial ?_
    refine ch_v (R := []) rfl rfl (oc_assign (x := .val _) rfl rfl) trivial ?_
    refine ck_nil ?_
    refine aw_ret ?_
    exact ⟨.inl rfl, by rw [pair_all hfin]; exact ResOk.two rfl (ResC.tmp rfl) (ResC.tmp rfl), trivial⟩
set_option maxHeartbeats 800000 in
theorem rall_pc (p : PoolP) (hal : p.at_.length ≤ 1000000) (hbl : p.bytes.length ≤ 100000000) (hBt : Bts p.bytes) (hl : ∀ i, (bytesP p i).1.length ≤ 5000) (hab : ∀ k, (p.abbrevs.getD k ByteArray.empty).size ≤ 1000) (habl : p.abbrevs.length ≤ 1000000) : PC Tryd.prog 22 [poolAv p] (.tup [slS (allP p).1, vi (allP p).2]) := by
  refine FC.body 2 29 Tryd.func22 rfl (by kernel_rfl) ?_
  refine aw_seq ?_
  refine aw_text rfl ?_
  refine ch_v (R := []) rfl rfl (oc_box (x := .agg _) rfl rfl) trivial ?_
  refine ch_v (R := []) rfl rfl (oc_assign (x := .val _) rfl rfl) trivial ?_
  refine ch_v (R := []) rfl rfl (oc_assign (x := .val _) rfl rfl) trivial ?_
  refine ck_nil ?_
  refine aw_seq ?_
  refine aw_text rfl ?_
  refine ch_v (R := []) rfl rfl (oc_assign (x := .val _) rfl rfl) trivial ?_
  refine ck_nil ?_
  refine aw_seq ?_
  refine aw_seq ?_
  refine aw_text rfl ?_
  refine ch_v (R := []) rfl rfl (oc_assign (x := .val _) rfl rfl) trivial ?_
  refine ck_nil ?_
  refine aw_block ?_
  refine aw_le (Le.nameNil 4 0 1 9 rfl rfl) ?_
  refine aw_loop (ι := (Nat × List ByteArray)) (fun q => ⟨[(1, .ptr (poolAv p)), (4, .osl 1 0 q.2.length), (5, vi q.1)], [(0, .live 9 (q.2.map vs)), (1, .unborn)]⟩) (fun q => q.1 ≤ p.at_.length ∧ q.2.length = q.1 ∧ allP p = allF (poolTx p) (p.at_.length - q.1) q.1 q.2) (fun q => p.at_.length - q.1) (0, []) (⟨Nat.zero_le _, rfl, rfl⟩) (Le.sub (by repeat (first | trivial | refine ⟨.inr rfl, ?_⟩)) ⟨rfl, rfl, trivial⟩) ?_
  intro q hI
  obtain ⟨g1, g2, g3⟩ := hI
  refine aw_seq ?_
  refine aw_seq ?_
  refine aw_text rfl ?_
  refine ch_v (R := []) rfl rfl (oc_move (x := .val _) rfl rfl) trivial ?_
  refine ch_v (R := []) rfl rfl (oc_fieldAddr (off := 1) rfl rfl rfl (by kernel_rfl) rfl) trivial ?_
  refine ch_v (R := []) rfl rfl (oc_load rfl rfl (by kernel_rfl) cells_sl) trivial ?_
  refine ch_v (R := []) rfl rfl (oc_len rfl rfl (by kernel_rfl)) trivial ?_
  refine ch_v (R := []) rfl rfl (oc_binZ rfl rfl rfl rfl) trivial ?_
  refine ck_nil ?_
  refine aw_cond rfl (fun hb => ?_) (fun hb => ?_)
  · have hlt : q.1 < p.at_.length := by have h0 := of_decide_eq_true hb; omega
    refine aw_skip ?_
    refine aw_seq ?_
    refine aw_block ?_
    refine aw_seq ?_
    refine aw_text rfl ?_
    refine ch_v (R := []) rfl rfl (oc_load_row rfl rfl (by kernel_rfl) (by kernel_rfl) rfl) trivial ?_
    refine ch_v (R := []) rfl rfl (oc_move (x := .val _) rfl rfl) trivial ?_
    refine ch_v (R := []) rfl rfl (oc_call rfl (by kernel_rfl) (rptext_pc p (q.1 : Int) hal hbl hBt (hl _) hab habl) rfl (by simp only [PureL, Pure, and_self, pure_slI, pure_slS, rowAv, pieces_pure, pool_pure, bs_pure, implies_true]) (by simp only [PureL, Pure, and_self, pure_slI, pure_slS, rowAv, pieces_pure, pool_pure, bs_pure, implies_true])) trivial ?_
    refine ch_v (R := []) rfl rfl (oc_move (x := .tup _) rfl rfl) trivial ?_
    refine ch_v (R := []) rfl rfl (oc_extract rfl rfl rfl) trivial ?_
    refine ch_v (R := []) rfl rfl (oc_extract rfl rfl rfl) trivial ?_
    refine ch_v (R := []) rfl rfl (oc_assign (x := .val _) rfl rfl) trivial ?_
    refine ch_v (R := []) rfl rfl (oc_assign (x := .val _) rfl rfl) trivial ?_
    refine ck_nil ?_
    refine aw_seq ?_
    refine aw_seq ?_
    refine aw_text rfl ?_
    refine ch_v (R := []) rfl rfl (oc_move (x := .val _) rfl rfl) trivial ?_
    refine ch_v (R := []) rfl rfl (oc_binZ rfl rfl rfl rfl) trivial ?_
    refine ck_nil ?_
    refine aw_cond rfl (fun hb => ?_) (fun hb => ?_)
    · have he0 : (poolTx p (q.1 : Int)).2 ≠ 0 := by simpa using hb
      refine aw_seq ?_
      refine aw_text rfl ?_
      refine ch_v (R := []) rfl rfl (oc_move (x := .val _) rfl rfl) trivial ?_
      refine ch_v (R := []) rfl rfl (oc_assign (x := .val _) rfl rfl) trivial ?_
      refine ch_v (R := []) rfl rfl (oc_assign (x := .val _) rfl rfl) trivial ?_
      refine ck_nil ?_
      refine aw_ret ?_
      exact ⟨.inl rfl, by rw [pair_all (show allP p = ([], (poolTx p (q.1 : Int)).2) from by rw [g3, show p.at_.length - q.1 = (p.at_.length - (q.1 + 1)) + 1 from by omega]; exact all_stop he0)]; exact ResOk.two rfl ((ResC.tmp rfl).to fun E v h => rep_nil (by decide) E v h) (ResC.tmp rfl), trivial⟩
    · have he0 : (poolTx p (q.1 : Int)).2 = 0 := by simpa using hb
      refine aw_skip ?_
      refine aw_text rfl ?_
      refine ch_v (R := []) rfl rfl (oc_move (x := .osl _ _ _) rfl rfl) trivial ?_
      refine ch_v (R := []) rfl rfl (oc_move (x := .val _) rfl rfl) trivial ?_
      refine ch_v (R := []) rfl rfl (oc_buildSlice (ps := [.tmp 25]) (xs := [.val _]) (e := 9) (k := 1) (by_ := 16) (zs := [.string ⟨#[]⟩]) rfl (by kernel_rfl) (by kernel_rfl) rfl rfl rfl (by decide) (by decide)) trivial ?_
      refine ch_u rfl rfl (oc_append (e := 9) (k := 1) (by_ := 16) (zs := [.string ⟨#[]⟩]) (cs := q.2.map vs) (ds := [vs (poolTx p (q.1 : Int)).1]) 1 rfl rfl rfl (by kernel_rfl) (by kernel_rfl) rfl (by decide) (by decide) (by simp) rfl (app_vs1 _) (by omega) (by omega)) ⟨rfl, rfl, trivial⟩ ?_
      refine ch_v (R := []) rfl rfl (oc_assign (x := .osl _ _ _) rfl rfl) trivial ?_
      refine ck_nil ?_
      refine aw_le (Le.trans (Le.swap (τ := ⟨[(1, .ptr (poolAv p)), (4, .osl 1 0 (q.2.length + 1)), (5, vi q.1)], [(0, .live 9 ((q.2 ++ [(poolTx p (q.1 : Int)).1]).map vs)), (1, .dead)]⟩) 0 1 (by simp) (by simp) ⟨(ren_pure _ _ (by unfold Pure; exact pool_pure p)).symm, rfl, rfl, trivial⟩ ⟨by show lkH _ 1 = some (Hs.live _ (((q.2 ++ [(poolTx p (q.1 : Int)).1]).map vs).map _)); rw [ren_vs, show ((q.2 ++ [(poolTx p (q.1 : Int)).1]).map vs) = q.2.map vs ++ [vs (poolTx p (q.1 : Int)).1] from List.map_append]; rfl, rfl, trivial⟩) (Le.reset (τ := ⟨[(1, .ptr (poolAv p)), (4, .osl 1 0 (q.2.length + 1)), (5, vi q.1)], [(0, .live 9 ((q.2 ++ [(poolTx p (q.1 : Int)).1]).map vs)), (1, .unborn)]⟩) [1] (by simp) ⟨.inr rfl, .inr rfl, .inr rfl, trivial⟩ ⟨NoN.of_pure _ (by unfold Pure; exact pool_pure p), by simp [NoN], by simp [NoN], trivial⟩ ⟨by rw [if_neg (by decide)]; exact ⟨rfl, non_vs _⟩, by rw [if_pos (by decide)], trivial⟩)) ?_
      refine aw_text rfl ?_
      refine ch_v (R := []) rfl rfl (oc_move (x := .val _) rfl rfl) trivial ?_
      refine ch_v (R := []) rfl rfl (oc_binZ rfl rfl rfl (by first | exact binW_add (by omega) (by omega) | rfl)) trivial ?_
      refine ch_v (R := []) rfl rfl (oc_assign (x := .val _) rfl rfl) trivial ?_
      refine ck_nil ?_
      exact ⟨(q.1 + 1, (q.2 ++ [(poolTx p (q.1 : Int)).1])), ⟨by show q.1 + 1 ≤ _; omega, by show (q.2 ++ [_]).length = q.1 + 1; rw [List.length_append, g2]; rfl, by rw [g3, show p.at_.length - q.1 = (p.at_.length - (q.1 + 1)) + 1 from by omega]; exact all_more he0⟩, by show _ - (q.1 + 1) < _; omega, Le.sub (by repeat (first | trivial | refine ⟨.inr rfl, ?_⟩ | refine ⟨.inr (vi_eq (by show (q.1 : Int) + 1 = ((q.1 + 1 : Nat) : Int); omega)), ?_⟩ | refine ⟨.inr (by show lkS _ 4 = Av.osl 1 0 (q.2 ++ [(poolTx p (q.1 : Int)).1]).length; rw [List.length_append]; rfl), ?_⟩)) ⟨rfl, rfl, trivial⟩⟩
  · have hge : q.1 = p.at_.length := by have h0 := of_decide_eq_false hb; omega
    have hfin : allP p = (q.2, 0) := by rw [g3, hge, Nat.sub_self]; rfl
    refine aw_exit ?_
    refine aw_seq ?_
    refine aw_le (Le.freeze 4 0 (fun j => vs (q.2.getD j ByteArray.empty)) rfl rfl (by simp) (row_vs _)) ?_
    refine aw_text rfl ?_
    refine ch_v (R := []) rfl rfl (oc_move (x := .sl _ _ _) rfl rfl) trivial ?_
    refine ch_v (R := []) rfl rfl (oc_assign (x := .sl _ _ _) rfl rfl) trivial ?_
    refine ch_v (R := []) rfl rfl (oc_assign (x := .val _) rfl rfl) trivial ?_
    refine ck_nil ?_
    refine aw_ret ?_
    exact ⟨.inl rfl, by rw [pair_all hfin]; exact ResOk.two rfl (ResC.tmp rfl) (ResC.tmp rfl), trivial⟩
end Go.Proofs.YtpbaiighifhfnaaDoor
