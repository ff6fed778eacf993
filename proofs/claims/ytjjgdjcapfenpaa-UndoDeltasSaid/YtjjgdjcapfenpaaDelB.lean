/- The contract of delta.Make. -/
import Derived.Test.YtjjgdjcapfenpaaDelA
namespace Go.Proofs.Ytjjgdjcapfenpaa
open Go.RowKit Go.IntWalk
set_option maxRecDepth 100000
set_option linter.unusedVariables false
set_option linter.unusedSimpArgs false

theorem below_call {w w1 w2 : World} (h : Below w.heap.size w w1) (h' : Below w1.heap.size w1 w2) : Below w.heap.size w w2 := h.trans (h'.mono h.size)
theorem rd_at {w W : World} {A : Option Addr} {xs : List Value} (h : Rd w w.heap.size A xs) (hb : Below w.heap.size w W) : Rd W W.heap.size A xs := (h.below hb).more hb.size
theorem blk_at {g : Nat} (w : World) (t : TypeId) (cs : List Value) (h : g = w.heap.size) : Blk (w.alloc (.cells cs.toArray t)) g t cs := by subst h; exact Blk.new w t cs
theorem slice_at_drop {w : World} {B : Nat} {A : Option Addr} {n c : Nat} {zs : List Int} (hr : Rd w B A (cb .u8 zs)) (hn : n = zs.length) (k : Nat) (hk : k ≤ n) (hc : n ≤ c) : Rd w B (if c = k then A else A.map (·.add k)) (cb .u8 (zs.drop k)) := by
  have := hr.drop k c (by simpa using by omega) (by simpa using by omega)
  rwa [cb_drop] at this
theorem own_cap {w : World} {base : Nat} {e : TypeId} {A : Option Addr} {n c : Nat} {xs : List Value} (h : Own w base e (.slice A n c) xs) : c ≤ 9223372036854775807 := by
  obtain ⟨A', c', hv, _, hm, _⟩ := h.form
  injection hv with _ _ h3
  subst h3
  simpa [maxLen] using hm
theorem done_len {done tl all : List Int} (h : done ++ tl = all) : done.length ≤ all.length := by rw [← h]; simp
/-- What a round of Make adds. -/
theorem dBody_round (a b : List Int) (fu i : Nat) (h : i < b.length) (nn k : Nat) (hn : nS a b i = nn) (hk : nD a b (i + nn) = k) :
    dBody a b (fu + 1) i = sSize nn ++ (sSize k ++ ((b.drop (i + nn)).take k ++ dBody a b fu (i + nn + k))) := by
  rw [dBody, if_pos h, hn, hk]
set_option maxHeartbeats 6400000 in
theorem make_any (A A' : Option Addr) (n c n' c' : Nat) (xs ys : List Int) (w : World) (hx : Rd w w.heap.size A (cb .u8 xs)) (hn : n = xs.length) (hy : Rd w w.heap.size A' (cb .u8 ys)) (hn' : n' = ys.length) (hl : n ≤ 1000000) (hl' : n' ≤ 1000000) (hc' : n' ≤ c') :
    Calls Try.prog 21 #[.slice A n c, .slice A' n' c'] w (RetOwn w 5 (cb .u8 (dMake xs ys))) := by
  have HN := Lib.hid hn
  have HN' := Lib.hid hn'
  have HML : Hid ((dMake xs ys).length ≤ 20000009) := by
    unfold Hid
    have := dMake_len xs ys (by omega)
    omega
  clear hn hn'
  have hb0 := ((Below.refl w.heap.size w).alloc (Nat.le_refl _) (.cells #[.slice A n c] 22)).alloc (by simp) (.cells #[.slice A' n' c'] 22)
  have KA0 := (Blk.new w 22 [.slice A n c]).alloc (.cells #[.slice A' n' c'] 22)
  have KB0 := blk_at (g := w.heap.size + 1) (w.alloc (.cells #[.slice A n c] 22)) 22 [.slice A' n' c'] (by simp)
  go_enter Try.func21, Try.ntmps21
  go_wp2_with fail
  refine (size_any none 0 0 [] n' _ (Rd.nil _ _ _) rfl (by simp) (by omega)).mono ?_
  rintro e w1 ⟨A1, n1, c1, rfl, ho1, hb1⟩
  have hB1 := below_call hb0 hb1
  have KA1 := KA0.below hb1 KA0.lt
  have KB1 := KB0.below hb1 KB0.lt
  replace ho1 := ho1.less hb0.size
  clear KA0 KB0 hb0 hb1
  go_wp2_with fail
  go_loopw [6, 7, 8] (fun o iv _ wr => ∃ (i fu : Nat) (done : List Int) (A2 : Option Addr) (n2 c2 : Nat), o = .slice A2 n2 c2 ∧ i ≤ n' ∧ iv = .int .i64 i ∧ n' < i + fu ∧ Hid (done ++ dBody xs ys fu i = dMake xs ys) ∧ Own wr w.heap.size 5 (.slice A2 n2 c2) (cb .u8 done) ∧ Below w.heap.size w wr ∧ Blk wr w.heap.size 22 [.slice A n c] ∧ Blk wr (w.heap.size + 1) 22 [.slice A' n' c']) (fun _ iv _ _ => n' - (intOf iv).toNat)
  case atStart => exact ⟨0, n' + 1, _, A1, n1, c1, rfl, by omega, rfl, by omega, by unfold Hid dMake; rw [HN'.out]; rfl, ho1, hB1, KA1, KB1⟩
  case round =>
    clear ho1 hB1 KA1 KB1
    obtain ⟨i, fu, done, A2, n2, c2, rfl, hin, rfl, hfu, hdone, ho2, hB2, KA2, KB2⟩ := hrel
    obtain ⟨ka, _⟩ := KA2.one
    obtain ⟨kb, _⟩ := KB2.one
    have lta := KA2.lt
    have ltb := KB2.lt
    by_cases hlt : i < n'
    · have hlti : (i : Int) < (n' : Int) := by omega
      go_wp2_with fail
      obtain ⟨wo, rfl⟩ : ∃ wo : World, wo = wr := ⟨_, rfl⟩
      go_loopw [7] (fun jv wr => ∃ j : Nat, i ≤ j ∧ j ≤ n' ∧ jv = .int .i64 j ∧ Hid (nS xs ys i = (j - i) + nS xs ys j) ∧ Below wo.heap.size wo wr) (fun jv _ => n' - (intOf jv).toNat)
      case atStart => exact ⟨i, Nat.le_refl _, by omega, rfl, by unfold Hid; omega, Below.refl _ _⟩
      case round =>
        obtain ⟨j1, hij, hj1, rfl, hnS, hB3⟩ := hrel
        have KA3 := KA2.below hB3 lta
        have KB3 := KB2.below hB3 ltb
        clear ka kb
        obtain ⟨ka, _⟩ := KA3.one
        obtain ⟨kb, _⟩ := KB3.one
        have hBr := below_call hB2 hB3
        cases hs : smB xs ys j1
        · go_wp2_with fail
          refine (same_any A A' n c n' c' xs ys j1 w.heap.size (w.heap.size + 1) _ KA3.lt KB3.lt ka kb (rd_at hx hBr) HN.out (rd_at hy hBr) HN'.out (by omega) (by omega) (by omega)).mono ?_
          rw [hs]
          rintro e w3 ⟨rfl, hb3⟩
          have HNS : Hid (nS xs ys i = j1 - i) := by unfold Hid; rw [hnS.out, nS_no hs, Nat.add_zero]
          have hBr3 := below_call hBr hb3
          have KA3' := KA3.below hb3 KA3.lt
          have KB3' := KB3.below hb3 KB3.lt
          have ho3 : Own w3 w.heap.size 5 (.slice A2 n2 c2) (cb .u8 done) := (ho2.below hB3).below hb3
          clear ka kb hs hnS ho2 KA2 KB2 KA3 KB3
          have hn3 : n2 = done.length := by rw [ho3.rd.1, cb_length]
          have HN3 := Lib.hid hn3
          have HB2 : Hid (done.length ≤ 20000009) := Nat.le_trans (done_len hdone.out) HML.out
          obtain ⟨nn, hnn⟩ : ∃ nn, j1 - i = nn := ⟨_, rfl⟩
          have hji : (j1 : Int) - (i : Int) = (nn : Int) := by omega
          have HNN := Lib.hid hnn
          have HJI := Lib.hid hji
          clear hnn hn3
          go_wp2_with fail
          refine (size_any A2 n2 c2 done nn _ (ho3.rd.2.2) HN3.out (by have := HB2.out; omega) (by omega)).mono ?_
          rintro e w4 ⟨A3, n3, c3, rfl, ho4, hb4⟩
          have hB4 := below_call hBr3 hb4
          have KA4 := KA3'.below hb4 KA3'.lt
          have KB4 := KB3'.below hb4 KB3'.lt
          replace ho4 := ho4.less hBr3.size
          clear ho3 KA3' KB3' hBr3 hBr hB3 hb3 hb4
          go_wp2_with fail
          obtain ⟨wp, rfl⟩ : ∃ wp : World, wp = w4 := ⟨_, rfl⟩
          go_loopw [7] (fun jv wr => ∃ j : Nat, j1 ≤ j ∧ j ≤ n' ∧ jv = .int .i64 j ∧ Hid (nD xs ys j1 = (j - j1) + nD xs ys j) ∧ Below wp.heap.size wp wr) (fun jv _ => n' - (intOf jv).toNat)
          case atStart => exact ⟨j1, Nat.le_refl _, by omega, rfl, by unfold Hid; omega, Below.refl _ _⟩
          case round =>
            obtain ⟨j2, hij2, hj2, rfl, hnD, hB5⟩ := hrel
            have KA5 := KA4.below hB5 KA4.lt
            have KB5 := KB4.below hB5 KB4.lt
            obtain ⟨ka, _⟩ := KA5.one
            obtain ⟨kb, _⟩ := KB5.one
            have lta5 := KA5.lt
            have ltb5 := KB5.lt
            have hBr := below_call hB4 hB5
            have ho5 := ho4.below hB5
            by_cases hjn : j2 < n'
            · have hjni : (j2 : Int) < (n' : Int) := by omega
              cases hs1 : smB xs ys j2
              · have hst : stB xs ys j2 = true := by unfold stB; rw [hs1]; have := HN'.out; simp; omega
                have HD : Hid (nD xs ys j1 = (j2 + 1 - j1) + nD xs ys (j2 + 1)) := by unfold Hid; rw [hnD.out, nD_yes hst]; omega
                clear hst
                go_wp2_with fail
                refine (same_any A A' n c n' c' xs ys j2 w.heap.size (w.heap.size + 1) _ KA5.lt KB5.lt ka kb (rd_at hx hBr) HN.out (rd_at hy hBr) HN'.out (by omega) (by omega) (by omega)).mono ?_
                rw [hs1]
                rintro e w6 ⟨rfl, hb6⟩
                clear ka kb hs1
                go_wp2
                go_roundw
                case rel => exact ⟨j2 + 1, by omega, by omega, by go_num, HD, hB5.trans (hb6.mono hB5.size)⟩
                case measure => simp [intOf]; omega
              · cases hs2 : smB xs ys (j2 + 1)
                · have hst : stB xs ys j2 = true := by unfold stB; rw [hs1, hs2]; have := HN'.out; simp; omega
                  have HD : Hid (nD xs ys j1 = (j2 + 1 - j1) + nD xs ys (j2 + 1)) := by unfold Hid; rw [hnD.out, nD_yes hst]; omega
                  clear hst
                  go_wp2_with fail
                  refine (same_any A A' n c n' c' xs ys j2 w.heap.size (w.heap.size + 1) _ KA5.lt KB5.lt ka kb (rd_at hx hBr) HN.out (rd_at hy hBr) HN'.out (by omega) (by omega) (by omega)).mono ?_
                  rw [hs1]
                  rintro e w6 ⟨rfl, hb6⟩
                  have KA6 := KA5.below hb6 KA5.lt
                  have KB6 := KB5.below hb6 KB5.lt
                  obtain ⟨ka6, _⟩ := KA6.one
                  obtain ⟨kb6, _⟩ := KB6.one
                  have hBr6 := below_call hBr hb6
                  go_wp2_with fail
                  refine (same_any A A' n c n' c' xs ys (j2 + 1) w.heap.size (w.heap.size + 1) _ KA6.lt KB6.lt ka6 kb6 (rd_at hx hBr6) HN.out (rd_at hy hBr6) HN'.out (by omega) (by omega) (by omega)).mono ?_
                  rw [hs2]
                  rintro e w7 ⟨rfl, hb7⟩
                  clear KA6 KB6 hBr6
                  clear ka kb ka6 kb6 hs1 hs2
                  go_wp2
                  go_roundw
                  case rel => exact ⟨j2 + 1, by omega, by omega, by go_num, HD, (hB5.trans (hb6.mono hB5.size)).trans (hb7.mono (Nat.le_trans hB5.size hb6.size))⟩
                  case measure => simp [intOf]; omega
                · have hst : stB xs ys j2 = false := by unfold stB; rw [hs1, hs2]; simp
                  have HD : Hid (nD xs ys j1 = j2 - j1) := by unfold Hid; rw [hnD.out, nD_no hst, Nat.add_zero]
                  clear hst
                  go_wp2_with fail
                  refine (same_any A A' n c n' c' xs ys j2 w.heap.size (w.heap.size + 1) _ KA5.lt KB5.lt ka kb (rd_at hx hBr) HN.out (rd_at hy hBr) HN'.out (by omega) (by omega) (by omega)).mono ?_
                  rw [hs1]
                  rintro e w6 ⟨rfl, hb6⟩
                  have KA6 := KA5.below hb6 KA5.lt
                  have KB6 := KB5.below hb6 KB5.lt
                  obtain ⟨ka6, _⟩ := KA6.one
                  obtain ⟨kb6, _⟩ := KB6.one
                  have hBr6 := below_call hBr hb6
                  go_wp2_with fail
                  refine (same_any A A' n c n' c' xs ys (j2 + 1) w.heap.size (w.heap.size + 1) _ KA6.lt KB6.lt ka6 kb6 (rd_at hx hBr6) HN.out (rd_at hy hBr6) HN'.out (by omega) (by omega) (by omega)).mono ?_
                  rw [hs2]
                  rintro e w7 ⟨rfl, hb7⟩
                  clear KA6 KB6 hBr6
                  clear ka6 kb6 hs1 hs2
                  have hBe := (hBr.trans (hb6.mono hBr.size)).trans (hb7.mono (Nat.le_trans hBr.size hb6.size))
                  have hoe := (ho5.below hb6).below hb7
                  have KAe := (KA5.below hb6 KA5.lt).below hb7 (Nat.lt_of_lt_of_le KA5.lt hb6.size)
                  have KBe := (KB5.below hb6 KB5.lt).below hb7 (Nat.lt_of_lt_of_le KB5.lt hb6.size)
                  clear hnD ho5 ho4 KA4 KB4 KA5 KB5 hB4 hBr hB5
                  go_wp2_with fail
                  clear ka kb lta5 ltb5
                  obtain ⟨w4, rfl⟩ : ∃ W0 : World, W0 = w7 := ⟨_, rfl⟩
                  obtain ⟨fu1, rfl⟩ : ∃ m, fu = m + 1 := ⟨fu - 1, by omega⟩
                  have hB4 := hBe
                  have KA4 := KAe
                  have KB4 := KBe
                  have ho3 := hoe
                  clear hBe KAe KBe hoe
                  obtain ⟨k, hk⟩ : ∃ k, j2 - j1 = k := ⟨_, rfl⟩
                  have hjk : (j2 : Int) - (j1 : Int) = (k : Int) := by omega
                  have HKK := Lib.hid hk
                  have hwk : IntKind.i64.wrap (k : Int) = k := i64_in _ (by omega)
                  have HND : Hid (nD xs ys j1 = k) := by unfold Hid; rw [HD.out, hk]
                  have HNS2 : Hid (nS xs ys i = nn) := by unfold Hid; rw [HNS.out, HNN.out]
                  have hij1 : i + nn = j1 := by have := HNN.out; omega
                  have hprog : i < j2 := by
                    have := progress xs ys i (by rw [← HN'.out]; exact hlt)
                    rw [HNS2.out, hij1, HND.out] at this
                    omega
                  have HFIN : Hid ((done ++ sSize nn ++ sSize k ++ (ys.drop j1).take k) ++ dBody xs ys fu1 j2 = dMake xs ys) := by
                    unfold Hid
                    rw [← hdone.out, dBody_round xs ys fu1 i (by rw [← HN'.out]; exact hlt) nn k HNS2.out (by rw [hij1]; exact HND.out), hij1, show j1 + k = j2 from by omega]
                    simp
                  have HL3 : Hid (n3 = (done ++ sSize nn).length) := by unfold Hid; rw [ho3.rd.1, cb_length]
                  have hs9 := sSize_le9 nn (by omega)
                  have hk9 := sSize_le9 k (by omega)
                  have HB3 : Hid ((done ++ sSize nn).length ≤ 20000100) := by unfold Hid; rw [List.length_append]; have := HB2.out; omega
                  have HB4 : Hid ((done ++ sSize nn ++ sSize k).length ≤ 20000200) := by unfold Hid; rw [List.length_append]; have := HB3.out; omega
                  obtain ⟨Aj, hAj⟩ : ∃ Aj, (if c' = j1 then A' else A'.map (·.add j1)) = Aj := ⟨_, rfl⟩
                  have hrj : Rd w4 w4.heap.size Aj (cb .u8 ((ys.drop j1).take k)) := by
                    have := (slice_at_drop (rd_at hy hB4) HN'.out j1 (by omega) hc').take k
                    rwa [cb_take, hAj] at this
                  have HAj := Lib.hid hAj
                  have HLJ : Hid (k = ((ys.drop j1).take k).length) := by unfold Hid; rw [List.length_take, List.length_drop, ← HN'.out]; omega
                  have hj1c : j1 ≤ c' := by omega
                  have hj2c : j2 ≤ c' := by omega
                  clear hAj hk hij1 hs9 hk9 hji
                  have hst : StabL2 (w4.heap.size) (w4) [sV 11 (.slice A3 n3 c3) 0, sV 11 (.int .i64 j2) 1, sV 11 (.int .i64 j1) 2, sV 11 (.int .i64 (k : Nat)) 3, sOwn 9 w4.heap.size 5 (cb .u8 (done ++ sSize nn ++ sSize k)) 4, sV 11 (.slice A' n' c') 5, sV 11 (.int .i64 j1) 6, sV 11 (.int .i64 j2) 7, sV 11 (.slice Aj k (c' - j1)) 8, sOwn 11 w4.heap.size 5 (cb .u8 (done ++ sSize nn ++ sSize k ++ (ys.drop j1).take k)) 9, ⟨9, 11, fun x v _ => v = x⟩] := by
                    repeat (first | exact trivial | refine ⟨stab2_v _ _ _, ?_⟩ | refine ⟨fun _ _ _ _ _ _ _ h => h, ?_⟩ | refine ⟨fun _ _ _ _ _ _ hb h => Blk.below h hb (Blk.lt h), ?_⟩ | refine ⟨stab2_own _ _ _ _ _, ?_⟩ | refine ⟨stab2_any _ _, ?_⟩ | refine ⟨stab2_blk _ _ _ _ _, ?_⟩ | refine ⟨stab2_set _ _ _ _ _, ?_⟩)
                  refine wp_region_lay (A := ?A1) [sV 11 (.slice A3 n3 c3) 0, sV 11 (.int .i64 j2) 1, sV 11 (.int .i64 j1) 2, sV 11 (.int .i64 (k : Nat)) 3, sOwn 9 w4.heap.size 5 (cb .u8 (done ++ sSize nn ++ sSize k)) 4, sV 11 (.slice A' n' c') 5, sV 11 (.int .i64 j1) 6, sV 11 (.int .i64 j2) 7, sV 11 (.slice Aj k (c' - j1)) 8, sOwn 11 w4.heap.size 5 (cb .u8 (done ++ sSize nn ++ sSize k ++ (ys.drop j1).take k)) 9, ⟨9, 11, fun x v _ => v = x⟩] 11 (w4.heap.size) (w4) (fun _ => True) (by kernel_rfl) (by kernel_rfl) (by rfl) (by rfl) rfl (fun f => ?hA1) (Below.refl _ _) trivial (fun f => trivial) ?hops1 ?hend1
                  case hA1 =>
                    simp only [fillFrom, Nat.zero_add, Nat.reduceAdd]
                    go_frame
                    with_reducible rfl
                  case hops1 =>
                    refine LOps.grow_ hst (Nat.le_refl _) (fun _ _ _ _ _ _ => trivial) (fun f w' K hW hJw hd hu hx hK => ?_) ?_
                    · simp only [depsOf, depsL, Region.binds, depsHold2, spHold, spAt, List.getD_cons_zero, List.getD_cons_succ, sV, sAny, sOwn, sBlk, sSet, if_true, and_true, true_and, Nat.reduceLeDiff, Nat.reduceEqDiff, Nat.reduceAdd, Nat.zero_add, Nat.le_refl, or_true, true_or, or_false, false_or, if_false, reduceIte] at hd
                      have hkb := (KB4.below hW KB4.lt).cell 0
                      have e10 : f 10 = .slice A3 n3 c3 := hu 10 (by rfl)
                      go_simp
                      refine hK _ _ (Below.refl _ _) ?_
                      exact rfl
                    refine LOps.grow_ hst (Nat.le_refl _) (fun _ _ _ _ _ _ => trivial) (fun f w' K hW hJw hd hu hx hK => ?_) ?_
                    · simp only [depsOf, depsL, Region.binds, depsHold2, spHold, spAt, List.getD_cons_zero, List.getD_cons_succ, sV, sAny, sOwn, sBlk, sSet, if_true, and_true, true_and, Nat.reduceLeDiff, Nat.reduceEqDiff, Nat.reduceAdd, Nat.zero_add, Nat.le_refl, or_true, true_or, or_false, false_or, if_false, reduceIte] at hd
                      have hkb := (KB4.below hW KB4.lt).cell 0
                      go_simp
                      refine hK _ _ (Below.refl _ _) ?_
                      exact rfl
                    refine LOps.grow_ hst (Nat.le_refl _) (fun _ _ _ _ _ _ => trivial) (fun f w' K hW hJw hd hu hx hK => ?_) ?_
                    · simp only [depsOf, depsL, Region.binds, depsHold2, spHold, spAt, List.getD_cons_zero, List.getD_cons_succ, sV, sAny, sOwn, sBlk, sSet, if_true, and_true, true_and, Nat.reduceLeDiff, Nat.reduceEqDiff, Nat.reduceAdd, Nat.zero_add, Nat.le_refl, or_true, true_or, or_false, false_or, if_false, reduceIte] at hd
                      have hkb := (KB4.below hW KB4.lt).cell 0
                      go_simp
                      refine hK _ _ (Below.refl _ _) ?_
                      exact rfl
                    refine LOps.grow_ hst (Nat.le_refl _) (fun _ _ _ _ _ _ => trivial) (fun f w' K hW hJw hd hu hx hK => ?_) ?_
                    · simp only [depsOf, depsL, Region.binds, depsHold2, spHold, spAt, List.getD_cons_zero, List.getD_cons_succ, sV, sAny, sOwn, sBlk, sSet, if_true, and_true, true_and, Nat.reduceLeDiff, Nat.reduceEqDiff, Nat.reduceAdd, Nat.zero_add, Nat.le_refl, or_true, true_or, or_false, false_or, if_false, reduceIte] at hd
                      have hkb := (KB4.below hW KB4.lt).cell 0
                      go_simp
                      refine hK _ _ (Below.refl _ _) ?_
                      exact rfl
                    refine LOps.grow_ hst (Nat.le_refl _) (fun _ _ _ _ _ _ => trivial) (fun f w' K hW hJw hd hu hx hK => ?_) ?_
                    · simp only [depsOf, depsL, Region.binds, depsHold2, spHold, spAt, List.getD_cons_zero, List.getD_cons_succ, sV, sAny, sOwn, sBlk, sSet, if_true, and_true, true_and, Nat.reduceLeDiff, Nat.reduceEqDiff, Nat.reduceAdd, Nat.zero_add, Nat.le_refl, or_true, true_or, or_false, false_or, if_false, reduceIte] at hd
                      have hkb := (KB4.below hW KB4.lt).cell 0
                      go_simp
                      refine (size_any A3 n3 c3 (done ++ sSize nn) k _ ((ho3.rd.2.2.below hW).more hW.size) HL3.out (by have := HB3.out; omega) (by omega)).mono ?_
                      rintro e w5 ⟨A4, n4, c4, rfl, ho4, hb5⟩
                      exact ⟨_, rfl, hK _ _ hb5 ⟨A4, n4, c4, rfl, ho4.less hW.size⟩⟩
                    refine LOps.grow_ hst (Nat.le_refl _) (fun _ _ _ _ _ _ => trivial) (fun f w' K hW hJw hd hu hx hK => ?_) ?_
                    · simp only [depsOf, depsL, Region.binds, depsHold2, spHold, spAt, List.getD_cons_zero, List.getD_cons_succ, sV, sAny, sOwn, sBlk, sSet, if_true, and_true, true_and, Nat.reduceLeDiff, Nat.reduceEqDiff, Nat.reduceAdd, Nat.zero_add, Nat.le_refl, or_true, true_or, or_false, false_or, if_false, reduceIte] at hd
                      have hkb := (KB4.below hW KB4.lt).cell 0
                      go_simp
                      refine hK _ _ (Below.refl _ _) ?_
                      exact rfl
                    refine LOps.grow_ hst (Nat.le_refl _) (fun _ _ _ _ _ _ => trivial) (fun f w' K hW hJw hd hu hx hK => ?_) ?_
                    · simp only [depsOf, depsL, Region.binds, depsHold2, spHold, spAt, List.getD_cons_zero, List.getD_cons_succ, sV, sAny, sOwn, sBlk, sSet, if_true, and_true, true_and, Nat.reduceLeDiff, Nat.reduceEqDiff, Nat.reduceAdd, Nat.zero_add, Nat.le_refl, or_true, true_or, or_false, false_or, if_false, reduceIte] at hd
                      have hkb := (KB4.below hW KB4.lt).cell 0
                      go_simp
                      refine hK _ _ (Below.refl _ _) ?_
                      exact rfl
                    refine LOps.grow_ hst (Nat.le_refl _) (fun _ _ _ _ _ _ => trivial) (fun f w' K hW hJw hd hu hx hK => ?_) ?_
                    · simp only [depsOf, depsL, Region.binds, depsHold2, spHold, spAt, List.getD_cons_zero, List.getD_cons_succ, sV, sAny, sOwn, sBlk, sSet, if_true, and_true, true_and, Nat.reduceLeDiff, Nat.reduceEqDiff, Nat.reduceAdd, Nat.zero_add, Nat.le_refl, or_true, true_or, or_false, false_or, if_false, reduceIte] at hd
                      have hkb := (KB4.below hW KB4.lt).cell 0
                      go_simp
                      refine hK _ _ (Below.refl _ _) ?_
                      exact rfl
                    refine LOps.grow_ hst (Nat.le_refl _) (fun _ _ _ _ _ _ => trivial) (fun f w' K hW hJw hd hu hx hK => ?_) ?_
                    · simp only [depsOf, depsL, Region.binds, depsHold2, spHold, spAt, List.getD_cons_zero, List.getD_cons_succ, sV, sAny, sOwn, sBlk, sSet, if_true, and_true, true_and, Nat.reduceLeDiff, Nat.reduceEqDiff, Nat.reduceAdd, Nat.zero_add, Nat.le_refl, or_true, true_or, or_false, false_or, if_false, reduceIte] at hd
                      have hkb := (KB4.below hW KB4.lt).cell 0
                      go_simp
                      refine hK _ _ (Below.refl _ _) ?_
                      show Value.slice _ _ _ = Value.slice _ _ _
                      rw [← HAj.out, ← HKK.out]
                    refine LOps.put_ [0, 1, 2, 3, 5, 6, 7, 8] (by rfl) (fun f w' K hW hJw hd hu hx hK => ?_) ?_
                    · simp only [depsOf, depsL, Region.binds, depsHold2, spHold, spAt, List.getD_cons_zero, List.getD_cons_succ, sV, sAny, sOwn, sBlk, sSet, if_true, and_true, true_and, Nat.reduceLeDiff, Nat.reduceEqDiff, Nat.reduceAdd, Nat.zero_add, Nat.le_refl, or_true, true_or, or_false, false_or, if_false, reduceIte] at hd
                      have hkb := (KB4.below hW KB4.lt).cell 0
                      obtain ⟨⟨A4, n4, c4, e4, ho4⟩, e8, _⟩ := hd
                      refine want_pos rfl ?_
                      refine grows_app (P := Try.prog) elemU8 ho4 (c := c' - j1) (m := k) (hrj.below hW) (by rw [cb_length]; exact HLJ.out) (cb_one _ _) (by rw [cb_length, cb_length]; have := HB4.out; have := HLJ.out; omega) (by rw [cb_length, cb_length]; have := HB4.out; have := HLJ.out; omega) hW.size _ _ rfl e4 e8 ?_
                      intro A5 n5 c5 w5 h2 h3
                      rw [← cb_append] at h2
                      refine hK _ _ (below_own (Below.refl _ _) h3 ho4 (Nat.le_refl _) hW.size) trivial ?_ ⟨A5, _, c5, rfl, h2⟩
                      repeat (first | exact trivial | refine ⟨fun x y h => h, ?_⟩)
                    refine LOps.grow_ hst (Nat.le_refl _) (fun _ _ _ _ _ _ => trivial) (fun f w' K hW hJw hd hu hx hK => ?_) ?_
                    · simp only [depsOf, depsL, Region.binds, depsHold2, spHold, spAt, List.getD_cons_zero, List.getD_cons_succ, sV, sAny, sOwn, sBlk, sSet, if_true, and_true, true_and, Nat.reduceLeDiff, Nat.reduceEqDiff, Nat.reduceAdd, Nat.zero_add, Nat.le_refl, or_true, true_or, or_false, false_or, if_false, reduceIte] at hd
                      have hkb := (KB4.below hW KB4.lt).cell 0
                      obtain ⟨⟨A5, n5, c5, e5, ho5⟩, _⟩ := hd
                      go_simp
                      refine hK _ _ (Below.refl _ _) ?_
                      exact e5.symm
                    exact LOps.nil_
                  case hend1 =>
                    intro f w' hW hJw hd
                    simp only [List.range, List.range.loop, endHold, spHold, spAt, List.getD_cons_zero, List.getD_cons_succ, sV, sAny, sOwn, sBlk, sSet, true_and, and_true, Nat.reduceLeDiff, Nat.le_refl, if_true, if_false, reduceIte] at hd
                    clear hst
                    obtain ⟨e0, e1, e2, e3, e5, e6, e7, e8, ⟨A5, n5, c5, e9, ho5⟩, e10⟩ := hd
                    have h10 : f 10 = .slice A5 n5 c5 := e10.trans e9
                    rw [h10]
                    go_wp2
                    go_roundw
                    case rel =>
                      refine ⟨j2, fu1, _, A5, n5, c5, rfl, by omega, by rfl, by omega, HFIN.out, ho5.less hB4.size, hB4.trans (hW.mono hB4.size), KA4.below hW KA4.lt, KB4.below hW KB4.lt⟩
                    case measure => simp [intOf]; omega
            · have hjge : (n' : Int) ≤ (j2 : Int) := by omega
              have hst : stB xs ys j2 = false := by unfold stB; have := HN'.out; simp; omega
              have HD : Hid (nD xs ys j1 = j2 - j1) := by unfold Hid; rw [hnD.out, nD_no hst, Nat.add_zero]
              clear hst
              have hBe := hBr
              have hoe := ho5
              have KAe := KA5
              have KBe := KB5
              clear hnD ho4 KA4 KB4 hB4 hBr hB5 KA5 KB5 ho5
              go_wp2_with fail
              clear ka kb lta5 ltb5
              obtain ⟨w4, rfl⟩ : ∃ W0 : World, W0 = wr := ⟨_, rfl⟩
              obtain ⟨fu1, rfl⟩ : ∃ m, fu = m + 1 := ⟨fu - 1, by omega⟩
              have hB4 := hBe
              have KA4 := KAe
              have KB4 := KBe
              have ho3 := hoe
              clear hBe KAe KBe hoe
              obtain ⟨k, hk⟩ : ∃ k, j2 - j1 = k := ⟨_, rfl⟩
              have hjk : (j2 : Int) - (j1 : Int) = (k : Int) := by omega
              have HKK := Lib.hid hk
              have hwk : IntKind.i64.wrap (k : Int) = k := i64_in _ (by omega)
              have HND : Hid (nD xs ys j1 = k) := by unfold Hid; rw [HD.out, hk]
              have HNS2 : Hid (nS xs ys i = nn) := by unfold Hid; rw [HNS.out, HNN.out]
              have hij1 : i + nn = j1 := by have := HNN.out; omega
              have hprog : i < j2 := by
                have := progress xs ys i (by rw [← HN'.out]; exact hlt)
                rw [HNS2.out, hij1, HND.out] at this
                omega
              have HFIN : Hid ((done ++ sSize nn ++ sSize k ++ (ys.drop j1).take k) ++ dBody xs ys fu1 j2 = dMake xs ys) := by
                unfold Hid
                rw [← hdone.out, dBody_round xs ys fu1 i (by rw [← HN'.out]; exact hlt) nn k HNS2.out (by rw [hij1]; exact HND.out), hij1, show j1 + k = j2 from by omega]
                simp
              have HL3 : Hid (n3 = (done ++ sSize nn).length) := by unfold Hid; rw [ho3.rd.1, cb_length]
              have hs9 := sSize_le9 nn (by omega)
              have hk9 := sSize_le9 k (by omega)
              have HB3 : Hid ((done ++ sSize nn).length ≤ 20000100) := by unfold Hid; rw [List.length_append]; have := HB2.out; omega
              have HB4 : Hid ((done ++ sSize nn ++ sSize k).length ≤ 20000200) := by unfold Hid; rw [List.length_append]; have := HB3.out; omega
              obtain ⟨Aj, hAj⟩ : ∃ Aj, (if c' = j1 then A' else A'.map (·.add j1)) = Aj := ⟨_, rfl⟩
              have hrj : Rd w4 w4.heap.size Aj (cb .u8 ((ys.drop j1).take k)) := by
                have := (slice_at_drop (rd_at hy hB4) HN'.out j1 (by omega) hc').take k
                rwa [cb_take, hAj] at this
              have HAj := Lib.hid hAj
              have HLJ : Hid (k = ((ys.drop j1).take k).length) := by unfold Hid; rw [List.length_take, List.length_drop, ← HN'.out]; omega
              have hj1c : j1 ≤ c' := by omega
              have hj2c : j2 ≤ c' := by omega
              clear hAj hk hij1 hs9 hk9 hji
              have hst : StabL2 (w4.heap.size) (w4) [sV 11 (.slice A3 n3 c3) 0, sV 11 (.int .i64 j2) 1, sV 11 (.int .i64 j1) 2, sV 11 (.int .i64 (k : Nat)) 3, sOwn 9 w4.heap.size 5 (cb .u8 (done ++ sSize nn ++ sSize k)) 4, sV 11 (.slice A' n' c') 5, sV 11 (.int .i64 j1) 6, sV 11 (.int .i64 j2) 7, sV 11 (.slice Aj k (c' - j1)) 8, sOwn 11 w4.heap.size 5 (cb .u8 (done ++ sSize nn ++ sSize k ++ (ys.drop j1).take k)) 9, ⟨9, 11, fun x v _ => v = x⟩] := by
                repeat (first | exact trivial | refine ⟨stab2_v _ _ _, ?_⟩ | refine ⟨fun _ _ _ _ _ _ _ h => h, ?_⟩ | refine ⟨fun _ _ _ _ _ _ hb h => Blk.below h hb (Blk.lt h), ?_⟩ | refine ⟨stab2_own _ _ _ _ _, ?_⟩ | refine ⟨stab2_any _ _, ?_⟩ | refine ⟨stab2_blk _ _ _ _ _, ?_⟩ | refine ⟨stab2_set _ _ _ _ _, ?_⟩)
              refine wp_region_lay (A := ?A2) [sV 11 (.slice A3 n3 c3) 0, sV 11 (.int .i64 j2) 1, sV 11 (.int .i64 j1) 2, sV 11 (.int .i64 (k : Nat)) 3, sOwn 9 w4.heap.size 5 (cb .u8 (done ++ sSize nn ++ sSize k)) 4, sV 11 (.slice A' n' c') 5, sV 11 (.int .i64 j1) 6, sV 11 (.int .i64 j2) 7, sV 11 (.slice Aj k (c' - j1)) 8, sOwn 11 w4.heap.size 5 (cb .u8 (done ++ sSize nn ++ sSize k ++ (ys.drop j1).take k)) 9, ⟨9, 11, fun x v _ => v = x⟩] 11 (w4.heap.size) (w4) (fun _ => True) (by kernel_rfl) (by kernel_rfl) (by rfl) (by rfl) rfl (fun f => ?hA2) (Below.refl _ _) trivial (fun f => trivial) ?hops2 ?hend2
              case hA2 =>
                simp only [fillFrom, Nat.zero_add, Nat.reduceAdd]
                go_frame
                with_reducible rfl
              case hops2 =>
                refine LOps.grow_ hst (Nat.le_refl _) (fun _ _ _ _ _ _ => trivial) (fun f w' K hW hJw hd hu hx hK => ?_) ?_
                · simp only [depsOf, depsL, Region.binds, depsHold2, spHold, spAt, List.getD_cons_zero, List.getD_cons_succ, sV, sAny, sOwn, sBlk, sSet, if_true, and_true, true_and, Nat.reduceLeDiff, Nat.reduceEqDiff, Nat.reduceAdd, Nat.zero_add, Nat.le_refl, or_true, true_or, or_false, false_or, if_false, reduceIte] at hd
                  have hkb := (KB4.below hW KB4.lt).cell 0
                  have e10 : f 10 = .slice A3 n3 c3 := hu 10 (by rfl)
                  go_simp
                  refine hK _ _ (Below.refl _ _) ?_
                  exact rfl
                refine LOps.grow_ hst (Nat.le_refl _) (fun _ _ _ _ _ _ => trivial) (fun f w' K hW hJw hd hu hx hK => ?_) ?_
                · simp only [depsOf, depsL, Region.binds, depsHold2, spHold, spAt, List.getD_cons_zero, List.getD_cons_succ, sV, sAny, sOwn, sBlk, sSet, if_true, and_true, true_and, Nat.reduceLeDiff, Nat.reduceEqDiff, Nat.reduceAdd, Nat.zero_add, Nat.le_refl, or_true, true_or, or_false, false_or, if_false, reduceIte] at hd
                  have hkb := (KB4.below hW KB4.lt).cell 0
                  go_simp
                  refine hK _ _ (Below.refl _ _) ?_
                  exact rfl
                refine LOps.grow_ hst (Nat.le_refl _) (fun _ _ _ _ _ _ => trivial) (fun f w' K hW hJw hd hu hx hK => ?_) ?_
                · simp only [depsOf, depsL, Region.binds, depsHold2, spHold, spAt, List.getD_cons_zero, List.getD_cons_succ, sV, sAny, sOwn, sBlk, sSet, if_true, and_true, true_and, Nat.reduceLeDiff, Nat.reduceEqDiff, Nat.reduceAdd, Nat.zero_add, Nat.le_refl, or_true, true_or, or_false, false_or, if_false, reduceIte] at hd
                  have hkb := (KB4.below hW KB4.lt).cell 0
                  go_simp
                  refine hK _ _ (Below.refl _ _) ?_
                  exact rfl
                refine LOps.grow_ hst (Nat.le_refl _) (fun _ _ _ _ _ _ => trivial) (fun f w' K hW hJw hd hu hx hK => ?_) ?_
                · simp only [depsOf, depsL, Region.binds, depsHold2, spHold, spAt, List.getD_cons_zero, List.getD_cons_succ, sV, sAny, sOwn, sBlk, sSet, if_true, and_true, true_and, Nat.reduceLeDiff, Nat.reduceEqDiff, Nat.reduceAdd, Nat.zero_add, Nat.le_refl, or_true, true_or, or_false, false_or, if_false, reduceIte] at hd
                  have hkb := (KB4.below hW KB4.lt).cell 0
                  go_simp
                  refine hK _ _ (Below.refl _ _) ?_
                  exact rfl
                refine LOps.grow_ hst (Nat.le_refl _) (fun _ _ _ _ _ _ => trivial) (fun f w' K hW hJw hd hu hx hK => ?_) ?_
                · simp only [depsOf, depsL, Region.binds, depsHold2, spHold, spAt, List.getD_cons_zero, List.getD_cons_succ, sV, sAny, sOwn, sBlk, sSet, if_true, and_true, true_and, Nat.reduceLeDiff, Nat.reduceEqDiff, Nat.reduceAdd, Nat.zero_add, Nat.le_refl, or_true, true_or, or_false, false_or, if_false, reduceIte] at hd
                  have hkb := (KB4.below hW KB4.lt).cell 0
                  go_simp
                  refine (size_any A3 n3 c3 (done ++ sSize nn) k _ ((ho3.rd.2.2.below hW).more hW.size) HL3.out (by have := HB3.out; omega) (by omega)).mono ?_
                  rintro e w5 ⟨A4, n4, c4, rfl, ho4, hb5⟩
                  exact ⟨_, rfl, hK _ _ hb5 ⟨A4, n4, c4, rfl, ho4.less hW.size⟩⟩
                refine LOps.grow_ hst (Nat.le_refl _) (fun _ _ _ _ _ _ => trivial) (fun f w' K hW hJw hd hu hx hK => ?_) ?_
                · simp only [depsOf, depsL, Region.binds, depsHold2, spHold, spAt, List.getD_cons_zero, List.getD_cons_succ, sV, sAny, sOwn, sBlk, sSet, if_true, and_true, true_and, Nat.reduceLeDiff, Nat.reduceEqDiff, Nat.reduceAdd, Nat.zero_add, Nat.le_refl, or_true, true_or, or_false, false_or, if_false, reduceIte] at hd
                  have hkb := (KB4.below hW KB4.lt).cell 0
                  go_simp
                  refine hK _ _ (Below.refl _ _) ?_
                  exact rfl
                refine LOps.grow_ hst (Nat.le_refl _) (fun _ _ _ _ _ _ => trivial) (fun f w' K hW hJw hd hu hx hK => ?_) ?_
                · simp only [depsOf, depsL, Region.binds, depsHold2, spHold, spAt, List.getD_cons_zero, List.getD_cons_succ, sV, sAny, sOwn, sBlk, sSet, if_true, and_true, true_and, Nat.reduceLeDiff, Nat.reduceEqDiff, Nat.reduceAdd, Nat.zero_add, Nat.le_refl, or_true, true_or, or_false, false_or, if_false, reduceIte] at hd
                  have hkb := (KB4.below hW KB4.lt).cell 0
                  go_simp
                  refine hK _ _ (Below.refl _ _) ?_
                  exact rfl
                refine LOps.grow_ hst (Nat.le_refl _) (fun _ _ _ _ _ _ => trivial) (fun f w' K hW hJw hd hu hx hK => ?_) ?_
                · simp only [depsOf, depsL, Region.binds, depsHold2, spHold, spAt, List.getD_cons_zero, List.getD_cons_succ, sV, sAny, sOwn, sBlk, sSet, if_true, and_true, true_and, Nat.reduceLeDiff, Nat.reduceEqDiff, Nat.reduceAdd, Nat.zero_add, Nat.le_refl, or_true, true_or, or_false, false_or, if_false, reduceIte] at hd
                  have hkb := (KB4.below hW KB4.lt).cell 0
                  go_simp
                  refine hK _ _ (Below.refl _ _) ?_
                  exact rfl
                refine LOps.grow_ hst (Nat.le_refl _) (fun _ _ _ _ _ _ => trivial) (fun f w' K hW hJw hd hu hx hK => ?_) ?_
                · simp only [depsOf, depsL, Region.binds, depsHold2, spHold, spAt, List.getD_cons_zero, List.getD_cons_succ, sV, sAny, sOwn, sBlk, sSet, if_true, and_true, true_and, Nat.reduceLeDiff, Nat.reduceEqDiff, Nat.reduceAdd, Nat.zero_add, Nat.le_refl, or_true, true_or, or_false, false_or, if_false, reduceIte] at hd
                  have hkb := (KB4.below hW KB4.lt).cell 0
                  go_simp
                  refine hK _ _ (Below.refl _ _) ?_
                  show Value.slice _ _ _ = Value.slice _ _ _
                  rw [← HAj.out, ← HKK.out]
                refine LOps.put_ [0, 1, 2, 3, 5, 6, 7, 8] (by rfl) (fun f w' K hW hJw hd hu hx hK => ?_) ?_
                · simp only [depsOf, depsL, Region.binds, depsHold2, spHold, spAt, List.getD_cons_zero, List.getD_cons_succ, sV, sAny, sOwn, sBlk, sSet, if_true, and_true, true_and, Nat.reduceLeDiff, Nat.reduceEqDiff, Nat.reduceAdd, Nat.zero_add, Nat.le_refl, or_true, true_or, or_false, false_or, if_false, reduceIte] at hd
                  have hkb := (KB4.below hW KB4.lt).cell 0
                  obtain ⟨⟨A4, n4, c4, e4, ho4⟩, e8, _⟩ := hd
                  refine want_pos rfl ?_
                  refine grows_app (P := Try.prog) elemU8 ho4 (c := c' - j1) (m := k) (hrj.below hW) (by rw [cb_length]; exact HLJ.out) (cb_one _ _) (by rw [cb_length, cb_length]; have := HB4.out; have := HLJ.out; omega) (by rw [cb_length, cb_length]; have := HB4.out; have := HLJ.out; omega) hW.size _ _ rfl e4 e8 ?_
                  intro A5 n5 c5 w5 h2 h3
                  rw [← cb_append] at h2
                  refine hK _ _ (below_own (Below.refl _ _) h3 ho4 (Nat.le_refl _) hW.size) trivial ?_ ⟨A5, _, c5, rfl, h2⟩
                  repeat (first | exact trivial | refine ⟨fun x y h => h, ?_⟩)
                refine LOps.grow_ hst (Nat.le_refl _) (fun _ _ _ _ _ _ => trivial) (fun f w' K hW hJw hd hu hx hK => ?_) ?_
                · simp only [depsOf, depsL, Region.binds, depsHold2, spHold, spAt, List.getD_cons_zero, List.getD_cons_succ, sV, sAny, sOwn, sBlk, sSet, if_true, and_true, true_and, Nat.reduceLeDiff, Nat.reduceEqDiff, Nat.reduceAdd, Nat.zero_add, Nat.le_refl, or_true, true_or, or_false, false_or, if_false, reduceIte] at hd
                  have hkb := (KB4.below hW KB4.lt).cell 0
                  obtain ⟨⟨A5, n5, c5, e5, ho5⟩, _⟩ := hd
                  go_simp
                  refine hK _ _ (Below.refl _ _) ?_
                  exact e5.symm
                exact LOps.nil_
              case hend2 =>
                intro f w' hW hJw hd
                simp only [List.range, List.range.loop, endHold, spHold, spAt, List.getD_cons_zero, List.getD_cons_succ, sV, sAny, sOwn, sBlk, sSet, true_and, and_true, Nat.reduceLeDiff, Nat.le_refl, if_true, if_false, reduceIte] at hd
                clear hst
                obtain ⟨e0, e1, e2, e3, e5, e6, e7, e8, ⟨A5, n5, c5, e9, ho5⟩, e10⟩ := hd
                have h10 : f 10 = .slice A5 n5 c5 := e10.trans e9
                rw [h10]
                go_wp2
                go_roundw
                case rel =>
                  refine ⟨j2, fu1, _, A5, n5, c5, rfl, by omega, by rfl, by omega, HFIN.out, ho5.less hB4.size, hB4.trans (hW.mono hB4.size), KA4.below hW KA4.lt, KB4.below hW KB4.lt⟩
                case measure => simp [intOf]; omega
        · go_wp2_with fail
          refine (same_any A A' n c n' c' xs ys j1 w.heap.size (w.heap.size + 1) _ KA3.lt KB3.lt ka kb (rd_at hx hBr) HN.out (rd_at hy hBr) HN'.out (by omega) (by omega) (by omega)).mono ?_
          rw [hs]
          rintro e w3 ⟨rfl, hb3⟩
          have hjl : j1 < n' := by have := (smB_lt hs).2.1; have := HN'.out; omega
          have HNS : Hid (nS xs ys i = (j1 + 1 - i) + nS xs ys (j1 + 1)) := by unfold Hid; rw [hnS.out, nS_yes hs]; omega
          clear ka kb hs
          go_wp2
          go_roundw
          case rel => exact ⟨j1 + 1, by omega, by omega, by go_num, HNS, hB3.trans (hb3.mono hB3.size)⟩
          case measure => simp [intOf]; omega
    · have hend : Hid (done = dMake xs ys) := by
        unfold Hid
        rw [← hdone.out, dBody_end xs ys fu i (by have := HN'.out; omega), List.append_nil]
      have hge : (n' : Int) ≤ (i : Int) := by omega
      go_wp2
      go_ret
      exact ⟨A2, n2, c2, rfl, by rw [← hend.out]; exact ho2, hB2⟩
end Go.Proofs.Ytjjgdjcapfenpaa
