/- The contract of the document's Make. -/
import Derived.Test.YtjjgdjcapfenpaaDelB
namespace Go.Proofs.Ytjjgdjcapfenpaa
open Go.RowKit Go.IntWalk
set_option maxRecDepth 100000
set_option linter.unusedVariables false
set_option linter.unusedSimpArgs false

set_option maxHeartbeats 6400000 in
theorem rmake_any (A A' : Option Addr) (n c n' c' : Nat) (xs ys : List Int) (w : World) (hx : Rd w w.heap.size A (cb .u8 xs)) (hn : n = xs.length) (hy : Rd w w.heap.size A' (cb .u8 ys)) (hn' : n' = ys.length) (hl : n ≤ 1000000) (hl' : n' ≤ 1000000) (hc' : n' ≤ c') :
    Calls Try.prog 25 #[.slice A n c, .slice A' n' c'] w (RetOwn w 5 (cb .u8 (dMake xs ys))) := by
  have HN := Lib.hid hn
  have HN' := Lib.hid hn'
  have HML : Hid ((dMake xs ys).length ≤ 20000009) := by
    unfold Hid
    have := dMake_len xs ys (by omega)
    omega
  clear hn hn'
  go_enter Try.func25, Try.ntmps25
  go_wp2_with fail
  refine (rsize_any none 0 0 [] n' _ (Rd.nil _ _ _) rfl (by simp) (by omega)).mono ?_
  rintro e w1 ⟨A1, n1, c1, rfl, ho1, hB1⟩
  go_wp2_with fail
  go_loopw [5, 6, 7, 8] (fun o iv _ _ wr => ∃ (i fu : Nat) (done : List Int) (A2 : Option Addr) (n2 c2 : Nat), o = .slice A2 n2 c2 ∧ i ≤ n' ∧ iv = .int .i64 i ∧ n' < i + fu ∧ Hid (done ++ dBody xs ys fu i = dMake xs ys) ∧ Own wr w.heap.size 5 (.slice A2 n2 c2) (cb .u8 done) ∧ Below w.heap.size w wr) (fun _ iv _ _ _ => n' - (intOf iv).toNat)
  case atStart => exact ⟨0, n' + 1, _, A1, n1, c1, rfl, by omega, rfl, by omega, by unfold Hid dMake; rw [HN'.out]; rfl, ho1, hB1⟩
  case round =>
    clear ho1 hB1
    obtain ⟨i, fu, done, A2, n2, c2, rfl, hin, rfl, hfu, hdone, ho2, hB2⟩ := hrel
    by_cases hlt : i < n'
    · have hlti : (i : Int) < (n' : Int) := by omega
      go_wp2_with fail
      obtain ⟨wo, rfl⟩ : ∃ wo : World, wo = wr := ⟨_, rfl⟩
      go_loopw [7] (fun jv wr => ∃ nn : Nat, i + nn ≤ n' ∧ jv = .int .i64 nn ∧ Hid (nS xs ys i = nn + nS xs ys (i + nn)) ∧ Below wo.heap.size wo wr) (fun jv _ => n' - (intOf jv).toNat)
      case atStart => exact ⟨0, by omega, rfl, by unfold Hid; simp, Below.refl _ _⟩
      case round =>
        obtain ⟨nn, hij, rfl, hnS, hB3⟩ := hrel
        have hBr := below_call hB2 hB3
        obtain ⟨j1, hj1⟩ : ∃ j1, i + nn = j1 := ⟨_, rfl⟩
        have hi1 : (i : Int) + (nn : Int) = (j1 : Int) := by omega
        rw [hj1] at hnS hij
        cases hs_ : smB xs ys j1
        · have HNS : Hid (nS xs ys i = nn) := by unfold Hid; rw [hnS.out, nS_no hs_, Nat.add_zero]
          have HJ := Lib.hid hj1
          clear hj1
          go_wp2_with fail
          refine (rsame_any A A' n c n' c' xs ys j1 _ (rd_at hx hBr) HN.out (rd_at hy hBr) HN'.out (by omega) (by omega) (by omega)).mono ?_
          rw [hs_]
          rintro e w3 ⟨rfl, hb3⟩
          have hBr3 := below_call hBr hb3
          have ho3 : Own w3 w.heap.size 5 (.slice A2 n2 c2) (cb .u8 done) := (ho2.below hB3).below hb3
          clear hs_ hnS ho2 hB3 hb3 hBr
          go_wp2_with fail
          obtain ⟨wp, rfl⟩ : ∃ wp : World, wp = w3 := ⟨_, rfl⟩
          have hj1 := HJ.out
          go_loopw [8] (fun jv wr => ∃ k : Nat, j1 + k ≤ n' ∧ jv = .int .i64 k ∧ Hid (nD xs ys j1 = k + nD xs ys (j1 + k)) ∧ Below wp.heap.size wp wr) (fun jv _ => n' - (intOf jv).toNat)
          case atStart => exact ⟨0, by omega, rfl, by unfold Hid; simp, Below.refl _ _⟩
          case round =>
            obtain ⟨k, hik, rfl, hnD, hB5⟩ := hrel
            have hBr := below_call hBr3 hB5
            have ho5 := ho3.below hB5
            obtain ⟨j2, hj2⟩ : ∃ j2, j1 + k = j2 := ⟨_, rfl⟩
            have hi2 : (j1 : Int) + (k : Int) = (j2 : Int) := by omega
            rw [hj2] at hnD hik
            by_cases hjn : j2 < n'
            · have hjni : (j2 : Int) < (n' : Int) := by omega
              cases hs1 : smB xs ys j2
              · have hst : stB xs ys j2 = true := by unfold stB; rw [hs1]; have := HN'.out; simp; omega
                have HD : Hid (nD xs ys j1 = (k + 1) + nD xs ys (j1 + (k + 1))) := by unfold Hid; rw [hnD.out, nD_yes hst, show j1 + (k + 1) = j2 + 1 from by omega]; omega
                clear hst hj1 hj2
                go_wp2_with fail
                refine (rsame_any A A' n c n' c' xs ys j2 _ (rd_at hx hBr) HN.out (rd_at hy hBr) HN'.out (by omega) (by omega) (by omega)).mono ?_
                rw [hs1]
                rintro e w6 ⟨rfl, hb6⟩
                clear hs1
                go_wp2
                go_roundw
                case rel => exact ⟨k + 1, by omega, by go_num, HD, hB5.trans (hb6.mono hB5.size)⟩
                case measure => simp [intOf]; omega
              · cases hs2 : smB xs ys (j2 + 1)
                · have hst : stB xs ys j2 = true := by unfold stB; rw [hs1, hs2]; have := HN'.out; simp; omega
                  have HD : Hid (nD xs ys j1 = (k + 1) + nD xs ys (j1 + (k + 1))) := by unfold Hid; rw [hnD.out, nD_yes hst, show j1 + (k + 1) = j2 + 1 from by omega]; omega
                  clear hst hj1 hj2
                  go_wp2_with fail
                  refine (rsame_any A A' n c n' c' xs ys j2 _ (rd_at hx hBr) HN.out (rd_at hy hBr) HN'.out (by omega) (by omega) (by omega)).mono ?_
                  rw [hs1]
                  rintro e w6 ⟨rfl, hb6⟩
                  have hBr6 := below_call hBr hb6
                  go_wp2_with fail
                  refine (rsame_any A A' n c n' c' xs ys (j2 + 1) _ (rd_at hx hBr6) HN.out (rd_at hy hBr6) HN'.out (by omega) (by omega) (by omega)).mono ?_
                  rw [hs2]
                  rintro e w7 ⟨rfl, hb7⟩
                  clear hs1 hs2
                  go_wp2
                  go_roundw
                  case rel => exact ⟨k + 1, by omega, by go_num, HD, (hB5.trans (hb6.mono hB5.size)).trans (hb7.mono (Nat.le_trans hB5.size hb6.size))⟩
                  case measure => simp [intOf]; omega
                · have hst : stB xs ys j2 = false := by unfold stB; rw [hs1, hs2]; simp
                  have HND : Hid (nD xs ys j1 = k) := by unfold Hid; rw [hnD.out, nD_no hst, Nat.add_zero]
                  have HJ2 := Lib.hid hj2
                  clear hst hj1 hj2
                  go_wp2_with fail
                  refine (rsame_any A A' n c n' c' xs ys j2 _ (rd_at hx hBr) HN.out (rd_at hy hBr) HN'.out (by omega) (by omega) (by omega)).mono ?_
                  rw [hs1]
                  rintro e w6 ⟨rfl, hb6⟩
                  have hBr6 := below_call hBr hb6
                  go_wp2_with fail
                  refine (rsame_any A A' n c n' c' xs ys (j2 + 1) _ (rd_at hx hBr6) HN.out (rd_at hy hBr6) HN'.out (by omega) (by omega) (by omega)).mono ?_
                  rw [hs2]
                  rintro e w7 ⟨rfl, hb7⟩
                  have hBe := below_call hBr6 hb7
                  have hoe := (ho5.below hb6).below hb7
                  have hj1 := HJ.out
                  have hj2 := HJ2.out
                  have hs_ := hs1
                  clear hnD ho5 ho3 hBr hBr6 hB5 hs1 hs2 hBr3 HJ2 HJ
                  clear hs_
                  obtain ⟨w4, rfl⟩ : ∃ W0 : World, W0 = w7 := ⟨_, rfl⟩
                  obtain ⟨fu1, rfl⟩ : ∃ m, fu = m + 1 := ⟨fu - 1, by omega⟩
                  have hBc := hBe
                  have hoc := hoe
                  have hprog : i < j2 := by
                    have := progress xs ys i (by rw [← HN'.out]; exact hlt)
                    rw [HNS.out, hj1, HND.out] at this
                    omega
                  have HFIN : Hid ((done ++ sSize nn ++ sSize k ++ (ys.drop j1).take k) ++ dBody xs ys fu1 j2 = dMake xs ys) := by
                    unfold Hid
                    rw [← hdone.out, dBody_round xs ys fu1 i (by rw [← HN'.out]; exact hlt) nn k HNS.out (by rw [hj1]; exact HND.out), hj1, hj2]
                    simp
                  have HB2 : Hid (done.length ≤ 20000009) := Nat.le_trans (done_len hdone.out) HML.out
                  have hs9 := sSize_le9 nn (by omega)
                  have hk9 := sSize_le9 k (by omega)
                  have HB3 : Hid ((done ++ sSize nn).length ≤ 20000100) := by unfold Hid; rw [List.length_append]; have := HB2.out; omega
                  have HB4 : Hid ((done ++ sSize nn ++ sSize k).length ≤ 20000200) := by unfold Hid; rw [List.length_append]; have := HB3.out; omega
                  have HLJ : Hid (k = ((ys.drop j1).take k).length) := by unfold Hid; rw [List.length_take, List.length_drop, ← HN'.out]; omega
                  have hj1c : j1 ≤ c' := by omega
                  have hj2c : j2 ≤ c' := by omega
                  have hkk : j2 - j1 = k := by omega
                  obtain ⟨Aj, hAj⟩ : ∃ Aj, (if c' = j1 then A' else A'.map (·.add j1)) = Aj := ⟨_, rfl⟩
                  have HAj := Lib.hid hAj
                  have hL2 : n2 = done.length := by rw [hoc.rd.1, cb_length]
                  have HL2 := Lib.hid hL2
                  have HJ1 := Lib.hid hj1
                  have HJ2 := Lib.hid hj2
                  clear hAj hs9 hk9 hL2 hj1 hj2 hBe hoe
                  go_wp2_with fail
                  refine (rsize_any A2 n2 c2 done nn _ hoc.rd.2.2 HL2.out (by have := HB2.out; omega) (by omega)).mono ?_
                  rintro e w5 ⟨A3, n3, c3, rfl, ho5, hb5⟩
                  have hL3 : n3 = (done ++ sSize nn).length := by rw [ho5.rd.1, cb_length]
                  have HL3 := Lib.hid hL3
                  clear hL3
                  go_wp2_with fail
                  refine (rsize_any A3 n3 c3 (done ++ sSize nn) k _ ho5.rd.2.2 HL3.out (by have := HB3.out; omega) (by omega)).mono ?_
                  rintro e w6 ⟨A4, n4, c4, rfl, ho6, hb6⟩
                  have hB6 := below_call (below_call hBc hb5) hb6
                  have hrj : Rd w6 w6.heap.size Aj (cb .u8 ((ys.drop j1).take k)) := by
                    have := (slice_at_drop (rd_at hy hB6) HN'.out j1 (by omega) hc').take k
                    rwa [cb_take, HAj.out] at this
                  have hBs := hB6.size
                  have hB5z : w.heap.size ≤ w5.heap.size := (below_call hBc hb5).size
                  have hB5s : w5.heap.size ≤ w6.heap.size := hb6.size
                  clear hkk hb5 hb6 ho5 hBc
                  have hkk : j2 - j1 = k := by omega
                  have hA2 : (if c' = j1 then A' else Option.map (fun x => x.add j1) A') = Aj := HAj.out
                  have hlj : k = (cb IntKind.u8 ((ys.drop j1).take k)).length := by rw [cb_length]; exact HLJ.out
                  have HLJ2 := Lib.hid hlj
                  clear hlj
                  go_wp2_with (at_builtin; refine wp_app (P := Try.prog) elemU8 rfl (.tmp 58) (.tmp 64) (by rfl) (by rfl) ho6 (c := c' - j1) (m := k) (by rfl) hrj HLJ2.out (cb_one _ _) (by rw [cb_length, ← HLJ2.out]; have := HB4.out; omega) (by rw [cb_length, ← HLJ2.out]; have := HB4.out; omega) hB5s ?_; intro A5 n5 c5 w7 ho7 hg7)
                  have ho8 := ho7.cast (cb_append _ _ _).symm
                  have hB8 : Below w.heap.size w w7 := below_own hB6 hg7 ho6 hB5z hBs
                  clear ho7 hg7 ho6 hA2 hrj
                  go_wp2
                  go_roundw
                  case rel => exact ⟨j2, fu1, _, A5, n5, c5, rfl, by omega, by rfl, by omega, HFIN.out, ho8.less hB5z, hB8⟩
                  case measure => simp [intOf]; omega
            · have hjge : (n' : Int) ≤ (j2 : Int) := by omega
              have hst : stB xs ys j2 = false := by unfold stB; have := HN'.out; simp; omega
              have HND : Hid (nD xs ys j1 = k) := by unfold Hid; rw [hnD.out, nD_no hst, Nat.add_zero]
              have hBe := hBr
              have hoe := ho5
              have hs_ := hst
              clear hst hnD ho3 hBr hB5 ho5 hBr3 HJ
              clear hs_
              obtain ⟨w4, rfl⟩ : ∃ W0 : World, W0 = wr := ⟨_, rfl⟩
              obtain ⟨fu1, rfl⟩ : ∃ m, fu = m + 1 := ⟨fu - 1, by omega⟩
              have hBc := hBe
              have hoc := hoe
              have hprog : i < j2 := by
                have := progress xs ys i (by rw [← HN'.out]; exact hlt)
                rw [HNS.out, hj1, HND.out] at this
                omega
              have HFIN : Hid ((done ++ sSize nn ++ sSize k ++ (ys.drop j1).take k) ++ dBody xs ys fu1 j2 = dMake xs ys) := by
                unfold Hid
                rw [← hdone.out, dBody_round xs ys fu1 i (by rw [← HN'.out]; exact hlt) nn k HNS.out (by rw [hj1]; exact HND.out), hj1, hj2]
                simp
              have HB2 : Hid (done.length ≤ 20000009) := Nat.le_trans (done_len hdone.out) HML.out
              have hs9 := sSize_le9 nn (by omega)
              have hk9 := sSize_le9 k (by omega)
              have HB3 : Hid ((done ++ sSize nn).length ≤ 20000100) := by unfold Hid; rw [List.length_append]; have := HB2.out; omega
              have HB4 : Hid ((done ++ sSize nn ++ sSize k).length ≤ 20000200) := by unfold Hid; rw [List.length_append]; have := HB3.out; omega
              have HLJ : Hid (k = ((ys.drop j1).take k).length) := by unfold Hid; rw [List.length_take, List.length_drop, ← HN'.out]; omega
              have hj1c : j1 ≤ c' := by omega
              have hj2c : j2 ≤ c' := by omega
              have hkk : j2 - j1 = k := by omega
              obtain ⟨Aj, hAj⟩ : ∃ Aj, (if c' = j1 then A' else A'.map (·.add j1)) = Aj := ⟨_, rfl⟩
              have HAj := Lib.hid hAj
              have hL2 : n2 = done.length := by rw [hoc.rd.1, cb_length]
              have HL2 := Lib.hid hL2
              have HJ1 := Lib.hid hj1
              have HJ2 := Lib.hid hj2
              clear hAj hs9 hk9 hL2 hj1 hj2 hBe hoe
              go_wp2_with fail
              refine (rsize_any A2 n2 c2 done nn _ hoc.rd.2.2 HL2.out (by have := HB2.out; omega) (by omega)).mono ?_
              rintro e w5 ⟨A3, n3, c3, rfl, ho5, hb5⟩
              have hL3 : n3 = (done ++ sSize nn).length := by rw [ho5.rd.1, cb_length]
              have HL3 := Lib.hid hL3
              clear hL3
              go_wp2_with fail
              refine (rsize_any A3 n3 c3 (done ++ sSize nn) k _ ho5.rd.2.2 HL3.out (by have := HB3.out; omega) (by omega)).mono ?_
              rintro e w6 ⟨A4, n4, c4, rfl, ho6, hb6⟩
              have hB6 := below_call (below_call hBc hb5) hb6
              have hrj : Rd w6 w6.heap.size Aj (cb .u8 ((ys.drop j1).take k)) := by
                have := (slice_at_drop (rd_at hy hB6) HN'.out j1 (by omega) hc').take k
                rwa [cb_take, HAj.out] at this
              have hBs := hB6.size
              have hB5z : w.heap.size ≤ w5.heap.size := (below_call hBc hb5).size
              have hB5s : w5.heap.size ≤ w6.heap.size := hb6.size
              clear hkk hb5 hb6 ho5 hBc
              have hkk : j2 - j1 = k := by omega
              have hA2 : (if c' = j1 then A' else Option.map (fun x => x.add j1) A') = Aj := HAj.out
              have hlj : k = (cb IntKind.u8 ((ys.drop j1).take k)).length := by rw [cb_length]; exact HLJ.out
              have HLJ2 := Lib.hid hlj
              clear hlj
              go_wp2_with (at_builtin; refine wp_app (P := Try.prog) elemU8 rfl (.tmp 58) (.tmp 64) (by rfl) (by rfl) ho6 (c := c' - j1) (m := k) (by rfl) hrj HLJ2.out (cb_one _ _) (by rw [cb_length, ← HLJ2.out]; have := HB4.out; omega) (by rw [cb_length, ← HLJ2.out]; have := HB4.out; omega) hB5s ?_; intro A5 n5 c5 w7 ho7 hg7)
              have ho8 := ho7.cast (cb_append _ _ _).symm
              have hB8 : Below w.heap.size w w7 := below_own hB6 hg7 ho6 hB5z hBs
              clear ho7 hg7 ho6 hA2 hrj
              go_wp2
              go_roundw
              case rel => exact ⟨j2, fu1, _, A5, n5, c5, rfl, by omega, by rfl, by omega, HFIN.out, ho8.less hB5z, hB8⟩
              case measure => simp [intOf]; omega
        · have hjl : j1 < n' := by have := (smB_lt hs_).2.1; have := HN'.out; omega
          have HNS : Hid (nS xs ys i = (nn + 1) + nS xs ys (i + (nn + 1))) := by unfold Hid; rw [hnS.out, nS_yes hs_, show i + (nn + 1) = j1 + 1 from by omega]; omega
          have HJ := Lib.hid hj1
          clear hj1
          go_wp2_with fail
          refine (rsame_any A A' n c n' c' xs ys j1 _ (rd_at hx hBr) HN.out (rd_at hy hBr) HN'.out (by omega) (by omega) (by omega)).mono ?_
          rw [hs_]
          rintro e w3 ⟨rfl, hb3⟩
          have hj1 := HJ.out
          clear hs_
          go_wp2
          go_roundw
          case rel => exact ⟨nn + 1, by omega, by go_num, HNS, hB3.trans (hb3.mono hB3.size)⟩
          case measure => simp [intOf]; omega
    · have hend : Hid (done = dMake xs ys) := by
        unfold Hid
        rw [← hdone.out, dBody_end xs ys fu i (by have := HN'.out; omega), List.append_nil]
      have hge : (n' : Int) ≤ (i : Int) := by omega
      go_wp2
      go_ret
      exact ⟨A2, n2, c2, rfl, by rw [← hend.out]; exact ho2, hB2⟩
end Go.Proofs.Ytjjgdjcapfenpaa
