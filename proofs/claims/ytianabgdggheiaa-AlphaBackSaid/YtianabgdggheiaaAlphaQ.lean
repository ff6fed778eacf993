/- The contract of the reference's Text. -/
import Derived.Test.YtianabgdggheiaaAlphaP
import Derived.Test.YtianabgdggheiaaAlphaI
namespace Go.Proofs.Ytianabgdggheiaa
open Go.RowKit Go.IntWalk
set_option maxRecDepth 100000
set_option linter.unusedVariables false

theorem begB_len {l cs : List Int} (h : l.length < cs.length) : begB l cs = false := by
  unfold begB
  rw [beq_eq_false_iff_ne]
  intro he
  have := congrArg List.length he
  rw [List.length_take] at this
  omega
theorem begB_all {l cs : List Int} (hl : cs.length ≤ l.length) (h : ∀ i, i < cs.length → l.getD i 0 = cs.getD i 0) : begB l cs = true := by
  unfold begB
  rw [beq_iff_eq]
  refine List.ext_getElem (by rw [List.length_take]; omega) fun i h1 h2 => ?_
  have := h i h2
  simpa [List.getD, List.getElem?_eq_getElem h2, List.getElem?_eq_getElem (show i < l.length by omega)] using this
theorem begB_not {l cs : List Int} {i : Nat} (hi : i < cs.length) (hl : cs.length ≤ l.length) (h : l.getD i 0 ≠ cs.getD i 0) : begB l cs = false := by
  unfold begB
  rw [beq_eq_false_iff_ne]
  intro he
  apply h
  rw [← he]
  simp [List.getD, hi]

set_option maxHeartbeats 800000 in
theorem begins_any (A A' : Option Addr) (n n' c c' j : Nat) (ls cs : List Int) (w : World) (hr : Rd w w.heap.size A (cb .i64 ls)) (hr' : Rd w w.heap.size A' (cb .i64 cs)) (hx : n = ls.length) (hy : n' = cs.length) (hm : ls.length ≤ 1000000000) (hm' : cs.length ≤ 1000000000) (hj : j ≤ ls.length) :
    Calls Try.prog 30 #[.slice A n c, .int .i64 j, .slice A' n' c'] w fun e w' => e = .returned (.bool (begB (ls.drop j) cs)) ∧ Below w.heap.size w w' := by
  subst hx
  subst hy
  by_cases hl : cs.length ≤ ls.length - j
  · have hdl : cs.length ≤ (ls.drop j).length := by rw [List.length_drop]; omega
    have hgd : ∀ k, (ls.drop j).getD k 0 = ls.getD (j + k) 0 := fun k => by simp [List.getD]
    have HGD := Lib.hid hgd
    clear hgd
    have g0 : decide ((ls.length : Int) - (j : Int) < (cs.length : Int)) = false := by simp; omega
    go_enter Try.func30, Try.ntmps30
    go_wp2
    go_loopw [7] (fun i w2 => ∃ k : Nat, k ≤ cs.length ∧ i = .int .i64 k ∧ Hid (∀ q, q < k → (ls.drop j).getD q 0 = cs.getD q 0) ∧ Hid (∃ m, w2 = w.drewN m)) (fun i _ => cs.length - (intOf i).toNat)
    case atStart => exact ⟨0, by omega, rfl, by unfold Hid; intro q hq; omega, by unfold Hid; exact ⟨0, rfl⟩⟩
    case round =>
      obtain ⟨k, hk, rfl, hq, hw⟩ := hrel
      obtain ⟨m, rfl⟩ := hw.out
      by_cases hlt : k < cs.length
      · have hjk : j + k < ls.length := by omega
        obtain ⟨b, o, rfl, _, hc1⟩ := hr.num hjk
        obtain ⟨b', o', rfl, _, hc2⟩ := hr'.num hlt
        have hx0 : (ls.drop j).getD k 0 = ls[j + k] := by rw [HGD.out]; simp [List.getD, List.getElem?_eq_getElem hjk]
        have hy0 : cs.getD k 0 = cs[k] := by simp [List.getD, List.getElem?_eq_getElem hlt]
        have g1 : (j : Int) + (k : Int) < (ls.length : Int) := by omega
        have g2 : (k : Int) < (cs.length : Int) := by omega
        have g3 : (0 : Int) ≤ (j : Int) + (k : Int) := by omega
        by_cases he : ls[j + k] = cs[k]
        · have e1 : (ls[j + k] != cs[k]) = false := by simpa using he
          have hq2 : Hid (∀ q, q < k + 1 → (ls.drop j).getD q 0 = cs.getD q 0) := by
            unfold Hid
            intro q hqk
            rcases Nat.lt_or_ge q k with h | h
            · exact hq.out q h
            · obtain rfl : q = k := by omega
              rw [hx0, hy0, he]
          clear hx0 hy0 he
          go_wp2_with fail
          go_quiet (fail)
          go_wp2
          go_roundw
          case rel => exact ⟨k + 1, by omega, by go_num, hq2, by unfold Hid; exact ⟨m + nq, rfl⟩⟩
          case measure => simp [intOf]; omega
        · have e1 : (ls[j + k] != cs[k]) = true := by simpa using he
          have hfin := Lib.hid (begB_not hlt hdl (by rw [hx0, hy0]; exact he))
          clear hx0 hy0 he
          go_wp2_with fail
          go_quiet (fail)
          go_wp2
          go_ret
          exact ⟨by rw [hfin.out]; rfl, by rw [World.drewN_drewN]; exact below_drewN (Below.refl _ _) _⟩
      · obtain rfl : k = cs.length := by omega
        have hfin := Lib.hid (begB_all hdl hq.out)
        go_wp2
        go_ret
        exact ⟨by rw [hfin.out]; rfl, below_drewN (Below.refl _ _) _⟩
  · have hfin := Lib.hid (begB_len (l := ls.drop j) (cs := cs) (by rw [List.length_drop]; omega))
    have g0 : decide ((ls.length : Int) - (j : Int) < (cs.length : Int)) = true := by simp; omega
    go_enter Try.func30, Try.ntmps30
    go_wp2
    go_ret
    exact ⟨by rw [hfin.out]; rfl, Below.refl _ _⟩

/-- The byte found among those below k. -/
def upTo (v k : Int) : Int := if v < k then v else -1
/-- What holds at the head of the outer loop. -/
def RtIn (w w2 : World) (ls : List Int) (s i : Value) : Prop :=
  ∃ (t0 : List Int) (j : Nat), RMid ls t0 j ∧ t0.length ≤ j ∧ s = .string (strOfNums t0) ∧ i = .int .i64 j ∧ Below w.heap.size w w2
/-- What holds at the head of the inner one. -/
def RtOne (w w2 : World) (v : Int) (x c : Value) : Prop :=
  ∃ k : Int, 10 ≤ k ∧ k ≤ 127 ∧ c = .int .i64 k ∧ x = .int .i64 (upTo v k) ∧ Below w.heap.size w w2

theorem conv_one (x : Int) (b : Nat) (w : World) (h0 : w.cell? ⟨b, 0, none⟩ = some (.int .u8 x)) : (convert 30 9 (.slice (some ⟨b, 0, none⟩) 1 1)).run Try.prog w = .ok (.string (strOfNums [x])) w := by
  refine conv_str (P := Try.prog) (B := b + 1) Try.underlying30 Try.underlying5 Try.underlying9 (fun _ => ⟨b, 0, rfl, by omega, fun j u hu => ?_⟩) rfl
  match j, hu with
  | 0, hu => rw [← hu]; exact h0
theorem str_app {xs ys : List Int} (h : Bts xs) (k : Bts ys) : strOfNums xs ++ strOfNums ys = strOfNums (xs ++ ys) :=
  tB_inj (by rw [tB_append, tB_str h, tB_str k, tB_str (h.append k)])
theorem one_sort (c : Int) (h : tOkB c = true) (w : World) : Calls Try.prog 24 #[.int .u8 c] w (RetOwn w 3 (cb .i64 (aSort c))) := by
  have hb : 0 ≤ c ∧ c < 256 := by simp [tOkB] at h; omega
  have := one_any c w hb.1 hb.2
  rwa [aOne_sort c h] at this
theorem rmid_bts {l t0 : List Int} {j : Nat} (h : RMid l t0 j) : Bts t0 := tOk_bts h.1
theorem upTo_step (v k : Int) (h : v ≠ k) : upTo v (k + 1) = upTo v k := by
  unfold upTo
  by_cases h1 : v < k
  · rw [if_pos h1, if_pos (by omega)]
  · rw [if_neg h1, if_neg (by omega)]
theorem upTo_at (v k : Int) (h : v = k) : upTo v (k + 1) = k := by unfold upTo; rw [if_pos (by omega), h]
theorem upTo_all (v k : Int) (h : v < k) : upTo v k = v := by unfold upTo; rw [if_pos h]
theorem upTo_none (v k : Int) (h : v = -1 ∨ k ≤ v) : upTo v k = -1 := by
  unfold upTo
  split
  · omega
  · rfl

set_option maxHeartbeats 6400000 in
theorem rtext_any (A : Option Addr) (n c : Nat) (ls : List Int) (w : World) (hr : Rd w w.heap.size A (cb .i64 ls)) (hn : n = ls.length) (hl : n ≤ 10000000) :
    Calls Try.prog 21 #[.slice A n c] w fun e w' => e = .returned (.tuple #[.string (strOfNums (aText ls).1), .int .i64 (aText ls).2]) ∧ Below w.heap.size w w' := by
  have HN := Lib.hid hn
  clear hn
  go_enter Try.func21, Try.ntmps21
  go_wp2_with fail
  go_loopw [4, 5, 6, 7] (fun s i _ _ w2 => RtIn w w2 ls s i) (fun _ i _ _ _ => n - (intOf i).toNat)
  case atStart => unfold RtIn; exact ⟨[], 0, RMid.start ls, by simp, rfl, rfl, Below.refl _ _⟩
  case round =>
    obtain ⟨t0, j, hmid, htj, rfl, rfl, hbel⟩ := hrel
    have hb := hbel.size
    obtain ⟨wo, rfl⟩ : ∃ wo : World, wo = wr := ⟨_, rfl⟩
    have hjl := hmid.2.2
    have hjn : j ≤ n := by have := HN.out; omega
    by_cases hlt : j < n
    · have hjl' : j < ls.length := by have := HN.out; omega
      have hv := nx_bd (ls.drop j)
      have hbeg := Lib.hid (fun c (hc : tOkB c = true) => nx_beg (l := ls.drop j) hc)
      have hst := Lib.hid (fun c h1 (h2 : tOkB c = true) => hmid.step (c := c) h1 h2)
      have hsp := Lib.hid (fun h => hmid.stop hjl' h)
      have hbt := rmid_bts hmid
      generalize nx (ls.drop j) = v at *
      have hv1 : -1 ≤ v ∧ v ≤ 126 := by rcases hv with h | h <;> omega
      obtain ⟨hv1, hv2⟩ := hv1
      have HV := Lib.hid hv
      clear hv
      go_wp2_with fail
      go_loopw [6, 7] (fun x c w2 => RtOne w w2 v x c) (fun _ c _ => (127 - intOf c).toNat)
      case atStart => unfold RtOne; exact ⟨10, by omega, by omega, rfl, by rw [upTo_none v 10 (by have := HV.out; omega)], hbel⟩
      case round =>
        obtain ⟨k, hk1, hk2, rfl, rfl, hbel2⟩ := hrel
        have hb2 := hbel2.size
        by_cases hk3 : k < 127
        · by_cases hok : tOkB k = true
          · have hkk : k = 10 ∨ 32 ≤ k := by simp [tOkB] at hok; omega
            have hbg := hbeg.out k hok
            have h1s := Lib.hid (fun w => one_sort k hok w)
            have hl3 := aSort_len k
            cases hbb : begB (ls.drop j) (aSort k) with
            | true =>
              have hvk := hbg.1 hbb
              have hup := Lib.hid (upTo_at v k hvk)
              have HBB := Lib.hid hbb
              clear hbb hbg hvk hok
              rcases hkk with hk4 | hk4
              · have e1 : (k == 10) = true := by simpa using hk4
                clear hk4
                go_wp2_with fail
                refine (h1s.out _).mono ?_
                rintro e w3 ⟨A3, n3, c3, rfl, hown3, hb3⟩
                have hz3 : Hid (n3 = (aSort k).length) := by unfold Hid; rw [hown3.rd.1]; simp
                have hbel3 := hbel2.trans (hb3.mono hb2)
                go_wp2_with fail
                refine (begins_any A A3 n n3 c c3 j ls (aSort k) _ (rd_at' hr hbel3) hown3.rd.2.2 HN.out hz3.out (by have := HN.out; omega) (by omega) hjl).mono ?_
                rw [HBB.out]
                rintro e w4 ⟨rfl, hb4⟩
                have hbel4 := hbel3.trans (hb4.mono hbel3.size)
                go_wp2_with fail
                go_roundw
                case rel => unfold RtOne; exact ⟨k + 1, by omega, by omega, rfl, by rw [hup.out], hbel4⟩
                case measure => simp [intOf]; omega
              · have e1 : (k == 10) = false := by simp; omega
                go_wp2_with fail
                refine (h1s.out _).mono ?_
                rintro e w3 ⟨A3, n3, c3, rfl, hown3, hb3⟩
                have hz3 : Hid (n3 = (aSort k).length) := by unfold Hid; rw [hown3.rd.1]; simp
                have hbel3 := hbel2.trans (hb3.mono hb2)
                go_wp2_with fail
                refine (begins_any A A3 n n3 c c3 j ls (aSort k) _ (rd_at' hr hbel3) hown3.rd.2.2 HN.out hz3.out (by have := HN.out; omega) (by omega) hjl).mono ?_
                rw [HBB.out]
                rintro e w4 ⟨rfl, hb4⟩
                have hbel4 := hbel3.trans (hb4.mono hbel3.size)
                go_wp2_with fail
                go_roundw
                case rel => unfold RtOne; exact ⟨k + 1, by omega, by omega, rfl, by rw [hup.out], hbel4⟩
                case measure => simp [intOf]; omega
            | false =>
              have hvk : v ≠ k := fun h => by rw [hbg.2 h] at hbb; cases hbb
              have hup := Lib.hid (upTo_step v k hvk)
              have HBB := Lib.hid hbb
              clear hbb hbg hvk hok
              rcases hkk with hk4 | hk4
              · have e1 : (k == 10) = true := by simpa using hk4
                clear hk4
                go_wp2_with fail
                refine (h1s.out _).mono ?_
                rintro e w3 ⟨A3, n3, c3, rfl, hown3, hb3⟩
                have hz3 : Hid (n3 = (aSort k).length) := by unfold Hid; rw [hown3.rd.1]; simp
                have hbel3 := hbel2.trans (hb3.mono hb2)
                go_wp2_with fail
                refine (begins_any A A3 n n3 c c3 j ls (aSort k) _ (rd_at' hr hbel3) hown3.rd.2.2 HN.out hz3.out (by have := HN.out; omega) (by omega) hjl).mono ?_
                rw [HBB.out]
                rintro e w4 ⟨rfl, hb4⟩
                have hbel4 := hbel3.trans (hb4.mono hbel3.size)
                go_wp2_with fail
                go_roundw
                case rel => unfold RtOne; exact ⟨k + 1, by omega, by omega, rfl, by rw [hup.out], hbel4⟩
                case measure => simp [intOf]; omega
              · have e1 : (k == 10) = false := by simp; omega
                go_wp2_with fail
                refine (h1s.out _).mono ?_
                rintro e w3 ⟨A3, n3, c3, rfl, hown3, hb3⟩
                have hz3 : Hid (n3 = (aSort k).length) := by unfold Hid; rw [hown3.rd.1]; simp
                have hbel3 := hbel2.trans (hb3.mono hb2)
                go_wp2_with fail
                refine (begins_any A A3 n n3 c c3 j ls (aSort k) _ (rd_at' hr hbel3) hown3.rd.2.2 HN.out hz3.out (by have := HN.out; omega) (by omega) hjl).mono ?_
                rw [HBB.out]
                rintro e w4 ⟨rfl, hb4⟩
                have hbel4 := hbel3.trans (hb4.mono hbel3.size)
                go_wp2_with fail
                go_roundw
                case rel => unfold RtOne; exact ⟨k + 1, by omega, by omega, rfl, by rw [hup.out], hbel4⟩
                case measure => simp [intOf]; omega
          · have hvk : v ≠ k := by
              rcases HV.out with h | h
              · omega
              · rintro rfl; exact hok h.1
            have hup := Lib.hid (upTo_step v k hvk)
            have hk4 : 10 < k ∧ k < 32 := by simp [tOkB] at hok; omega
            obtain ⟨hk5, hk6⟩ := hk4
            have e1 : (k == 10) = false := by simp; omega
            clear hvk hok
            go_wp2_with fail
            go_roundw
            case rel => unfold RtOne; exact ⟨k + 1, by omega, by omega, rfl, by rw [hup.out], hbel2⟩
            case measure => simp [intOf]; omega
        · obtain rfl : k = 127 := by omega
          have hup := upTo_all v 127 (by omega)
          rw [hup]
          clear hup
          by_cases hneg : v = -1
          · have hfin := Lib.hid (hsp.out hneg)
            have hv3 : v < 0 := by omega
            clear hneg
            go_wp2_with fail
            go_ret2
            exact ⟨by rw [hfin.out]; rfl, hbel2⟩
          · have hvo : tOkB v = true ∧ 10 ≤ v := by
              rcases HV.out with h | h
              · exact absurd h hneg
              · exact ⟨h.1, h.2.2.1⟩
            have hst2 := hst.out v rfl hvo.1
            have hbt2 : Bts [v] := by intro x hx; rw [List.mem_singleton] at hx; subst hx; omega
            have hsa := Lib.hid (str_app hbt hbt2)
            have h1s := Lib.hid (fun w => one_sort v hvo.1 w)
            have hv3 : 10 ≤ v := hvo.2
            have hl3 := aSort_len v
            have hp := aSort_pos v hvo.1
            have hst3 := hst2.2.2
            have hlit := fun b w h0 => conv_one v b w h0
            have hs1 : (strOfNums t0).size ≤ 10000000 := by rw [← tB_len, tB_str hbt]; omega
            have hs2 : (strOfNums [v]).size ≤ 1 := by rw [← tB_len, tB_str hbt2]; simp
            clear hvo hneg
            go_wp2_with fail
            rw [hsa.out]
            refine (h1s.out _).mono ?_
            rintro e w3 ⟨A3, n3, c3, rfl, hown3, hb3⟩
            have hz3 : Hid (n3 = (aSort v).length) := by unfold Hid; rw [hown3.rd.1]; simp
            have hbel3 := (hbel2.alloc hb2 (.cells #[.int .u8 v] 5)).trans (hb3.mono (by simp; omega))
            have hn3 : n3 ≤ 3 ∧ 0 < n3 := by have := hz3.out; omega
            obtain ⟨hn31, hn32⟩ := hn3
            go_wp2_with fail
            go_roundw
            case rel => unfold RtIn; exact ⟨t0 ++ [v], j + n3, by rw [hz3.out]; exact hst2, by simp; omega, rfl, by go_num, hbel3⟩
            case measure => simp [intOf]; omega
    · obtain rfl : j = n := by omega
      have hdn : RMid ls t0 ls.length := by rw [HN.out] at hmid; exact hmid
      have hbt := rmid_bts hmid
      have hd1 := Lib.hid hdn.done.1
      have hd2 := Lib.hid hdn.done.2
      have htB : Hid (tB (strOfNums t0) = t0) := tB_str hbt
      have hsz : (strOfNums t0).size ≤ 100000000 := by rw [← tB_len, tB_str hbt]; omega
      cases hok : isTextB t0 with
      | true =>
        have hfin := Lib.hid (hd1.out hok)
        have HOK := Lib.hid hok
        clear hok
        go_wp2_with fail
        refine (risText_any (strOfNums t0) _ (by omega)).mono ?_
        rw [htB.out, HOK.out]
        rintro e w' ⟨rfl, rfl⟩
        go_wp2_with fail
        go_ret2
        exact ⟨by rw [hfin.out]; rfl, hbel⟩
      | false =>
        have hfin := Lib.hid (hd2.out hok)
        have HOK := Lib.hid hok
        clear hok
        go_wp2_with fail
        refine (risText_any (strOfNums t0) _ (by omega)).mono ?_
        rw [htB.out, HOK.out]
        rintro e w' ⟨rfl, rfl⟩
        go_wp2_with fail
        go_ret2
        exact ⟨by rw [hfin.out]; rfl, hbel⟩
end Go.Proofs.Ytianabgdggheiaa
