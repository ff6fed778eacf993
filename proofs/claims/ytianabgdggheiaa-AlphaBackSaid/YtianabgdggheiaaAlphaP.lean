/- The contract of alpha.Text. -/
import Derived.Test.YtianabgdggheiaaAlphaN
import Derived.Test.YtianabgdggheiaaAlphaO
import Derived.Test.YtianabgdggheiaaAlphaC
import Derived.Test.YtianabgdggheiaaAlphaD
import Derived.Test.YtianabgdggheiaaGuards
namespace Go.Proofs.Ytianabgdggheiaa
open Go.RowKit Go.IntWalk
set_option maxRecDepth 100000
set_option linter.unusedVariables false

set_option maxHeartbeats 800000 in
theorem equal_any (A A' : Option Addr) (n n' c c' : Nat) (xs ys : List Int) (b : Bool) (w : World) (hr : Rd w w.heap.size A (cb .i64 xs)) (hr' : Rd w w.heap.size A' (cb .i64 ys)) (hx : n = xs.length) (hy : n' = ys.length) (hm : xs.length ≤ 1000000000) (hb : (xs == ys) = b) :
    Calls Try.prog 29 #[.slice A n c, .slice A' n' c'] w fun e w' => e = .returned (.bool b) ∧ Below w.heap.size w w' := by
  have HBB := Lib.hid hb
  clear hb
  rw [← HBB.out]
  subst hx
  by_cases hl : xs.length = n'
  · have hb0 : ((xs.length : Int) != (n' : Int)) = false := by simp; omega
    have HY := Lib.hid hy
    have HL := Lib.hid hl
    clear hy hl
    go_enter Try.func29, Try.ntmps29
    go_wp2
    go_loopw [13] (fun i w2 => ∃ k : Nat, k ≤ xs.length ∧ i = .int .i64 k ∧ Hid (∀ j, j < k → xs.getD j 0 = ys.getD j 0) ∧ Hid (∃ m, w2 = w.drewN m)) (fun i _ => xs.length - (intOf i).toNat)
    case atStart => exact ⟨0, by omega, rfl, by unfold Hid; intro j hj; omega, by unfold Hid; exact ⟨0, rfl⟩⟩
    case round =>
      obtain ⟨k, hk, rfl, hq, hw⟩ := hrel
      obtain ⟨m, rfl⟩ := hw.out
      by_cases hlt : k < xs.length
      · have hly : k < ys.length := by have := HY.out; have := HL.out; omega
        have hln : k < n' := by have := HL.out; omega
        obtain ⟨b, o, rfl, _, hc1⟩ := hr.num hlt
        obtain ⟨b', o', rfl, _, hc2⟩ := hr'.num hly
        have hx0 : xs.getD k 0 = xs[k] := by simp [List.getD, List.getElem?_eq_getElem hlt]
        have hy0 : ys.getD k 0 = ys[k] := by simp [List.getD, List.getElem?_eq_getElem hly]
        have g1 : (k : Int) < (xs.length : Int) := by omega
        have g2 : (k : Int) < (n' : Int) := by omega
        by_cases he : xs[k] = ys[k]
        · have e1 : (xs[k] != ys[k]) = false := by simpa using he
          have hq2 : Hid (∀ j, j < k + 1 → xs.getD j 0 = ys.getD j 0) := by
            unfold Hid
            intro j hj
            rcases Nat.lt_or_ge j k with h | h
            · exact hq.out j h
            · obtain rfl : j = k := by omega
              rw [hx0, hy0, he]
          clear hx0 hy0 he
          go_wp2_with fail
          go_quiet (fail)
          go_wp2
          go_roundw
          case rel => exact ⟨k + 1, by omega, by go_num, hq2, by unfold Hid; exact ⟨m + nq, rfl⟩⟩
          case measure => simp [intOf]; omega
        · have e1 : (xs[k] != ys[k]) = true := by simpa using he
          have hfin : Hid ((xs == ys) = false) := by
            unfold Hid
            rw [beq_eq_false_iff_ne]
            rintro rfl
            exact he rfl
          clear hx0 hy0 he
          go_wp2_with fail
          go_quiet (fail)
          go_wp2
          go_ret
          exact ⟨by rw [hfin.out]; rfl, by rw [World.drewN_drewN]; exact below_drewN (Below.refl _ _) _⟩
      · obtain rfl : k = xs.length := by omega
        have hfin : Hid ((xs == ys) = true) := by
          unfold Hid
          rw [beq_iff_eq]
          refine List.ext_getElem (by have := HY.out; have := HL.out; omega) fun j h1 h2 => ?_
          have := hq.out j h1
          simpa [List.getD, List.getElem?_eq_getElem h1, List.getElem?_eq_getElem h2] using this
        go_wp2
        go_ret
        exact ⟨by rw [hfin.out]; rfl, below_drewN (Below.refl _ _) _⟩
  · have hb0 : ((xs.length : Int) != (n' : Int)) = true := by simp; omega
    have hfin : Hid ((xs == ys) = false) := by
      unfold Hid
      rw [beq_eq_false_iff_ne]
      rintro rfl
      exact hl hy.symm
    clear hy hl
    go_enter Try.func29, Try.ntmps29
    go_wp2
    go_ret
    exact ⟨by rw [hfin.out]; rfl, Below.refl _ _⟩

theorem rd_at' {w W : World} {A : Option Addr} {xs : List Value} (h : Rd w w.heap.size A xs) (hb : Below w.heap.size w W) : Rd W W.heap.size A xs := (h.below hb).more hb.size
/-- What holds at the head of the loop over the codes. -/
def TxIn (w w2 : World) (ls : List Int) (o r : Value) : Prop :=
  ∃ (t0 rest : List Int) (A2 A3 : Option Addr) (n2 c2 n3 c3 : Nat), Mid ls t0 rest ∧ Bts t0 ∧ t0.length + rest.length ≤ ls.length ∧ o = .slice A2 n2 c2 ∧ Own w2 w.heap.size 5 (.slice A2 n2 c2) (cb .u8 t0) ∧ r = .slice A3 n3 c3 ∧ Rd w w.heap.size A3 (cb .i64 rest) ∧ n3 = rest.length ∧ n3 ≤ c3 ∧ c3 ≤ 9223372036854775807 ∧ Below w.heap.size w w2

set_option maxHeartbeats 3200000 in
theorem text_any (A : Option Addr) (n c : Nat) (ls : List Int) (w : World) (hr : Rd w w.heap.size A (cb .i64 ls)) (hn : n = ls.length) (hnc : n ≤ c) (hc : c ≤ 9223372036854775807) (hl : n ≤ 10000000) :
    Calls Try.prog 20 #[.slice A n c] w fun e w' => e = .returned (.tuple #[.string (strOfNums (aText ls).1), .int .i64 (aText ls).2]) ∧ Below w.heap.size w w' := by
  have HN := Lib.hid hn
  clear hn
  go_enter Try.func20, Try.ntmps20
  go_wp2_with fail
  go_loopw [4, 5, 6, 7] (fun o r _ _ w2 => TxIn w w2 ls o r) (fun _ r _ _ _ => lenOf r)
  case atStart => unfold TxIn; exact ⟨[], ls, none, A, 0, 0, n, c, Mid.start ls, Bts.nil, by simp, rfl, Own.nil _ _ _, rfl, hr, HN.out, hnc, hc, Below.refl _ _⟩
  case round =>
    obtain ⟨t0, rest, A2, A3, n2, c2, n3, c3, hmid, hbt, hlen, rfl, hown, rfl, hrd, hn3, hnc3, hc3, hbel⟩ := hrel
    have hb := hbel.size
    have HN3 := Lib.hid hn3
    have hmb : n3 ≤ n := by have := HN.out; omega
    by_cases h0 : 0 < n3
    · have hr0 : 0 < rest.length := by omega
      have hfl := aFirst_le rest hr0
      obtain ⟨hf1, hf2, hf3⟩ := hfl
      have hf1' : (aFirst rest).2 ≤ n3 := by omega
      by_cases hz : (aFirst rest).2 = 0
      · have hfin := Lib.hid (hmid.stop hr0 hz)
        have HZ := Lib.hid hz
        clear hz hn3
        go_wp2_with fail
        refine (first_any A3 n3 c3 rest wr (rd_at' hrd hbel) HN3.out (by omega)).mono ?_
        rintro e w3 ⟨rfl, hb3⟩
        rw [HZ.out]
        go_wp2
        go_ret2
        exact ⟨by rw [hfin.out]; rfl, hbel.trans (hb3.mono hb)⟩
      · have e0 : (((aFirst rest).2 : Int) == 0) = false := by simp; omega
        have hst := hmid.step hr0
        have hbt2 : Bts (t0 ++ [(aFirst rest).1]) := hbt.append (by intro x hx; rw [List.mem_singleton] at hx; subst hx; exact ⟨hf2, hf3⟩)
        have hp : 0 < (aFirst rest).2 := by omega
        have hdl : Hid ((rest.drop (aFirst rest).2).length = n3 - (aFirst rest).2) := by unfold Hid; rw [List.length_drop, HN3.out]
        have hdr := hrd.drop (aFirst rest).2 c3 (by simp; omega) (by simp; omega)
        rw [cb_drop] at hdr
        have htl : t0.length ≤ 10000000 := by have := HN.out; omega
        clear hz hn3
        go_wp2_with fail
        refine (first_any A3 n3 c3 rest wr (rd_at' hrd hbel) HN3.out (by omega)).mono ?_
        rintro e w3 ⟨rfl, hb3⟩
        have hbel3 := hbel.trans (hb3.mono hb)
        have hb3s := hbel3.size
        have hown3 := hown.below hb3
        generalize aFirst rest = F at *
        obtain ⟨F1, F2⟩ := F
        simp only at *
        obtain ⟨A5, hA5⟩ : ∃ A5, (if c3 = F2 then A3 else Option.map (fun x => x.add F2) A3) = A5 := ⟨_, rfl⟩
        rw [hA5] at hdr
        go_wp2_with fail
        go_region_law (refine step_app elemU8 rfl _ _ rfl rfl (hown3.drew.alloc _) rfl (Rd.new _ [_] _) rfl (one1 _ _) (by simp; omega) (by simp; omega) (by simp; omega) ?_; intro A4 n4 c4 w4 hown4 hg4 _)
        have hg5 : (w3.alloc (.cells #[.int .u8 F1] 5)).drew.grownBy w4 (Value.slice A2 n2 c2).ownBlock := hg4
        have hown5 : Own w4 w.heap.size 5 (.slice A4 n4 c4) (cb .u8 (t0 ++ [F1])) := by rw [cb_append]; exact hown4
        have hbel5 := below_own (hbel3.alloc hb3s (.cells #[.int .u8 F1] 5)).drew hg5 (hown3.drew.alloc _) (Nat.le_refl _) (by simp; omega)
        clear hown4 hg4 hg5
        simp only [List.getElem_toArray, List.getElem_cons_succ, List.getElem_cons_zero]
        go_frame
        go_roundw
        case rel => (repeat apply Exists.intro); refine ⟨?_, rfl⟩; unfold TxIn; exact ⟨t0 ++ [F1], rest.drop F2, A4, _, n4, c4, n3 - F2, c3 - F2, hst, hbt2, by rw [List.length_append, List.length_drop]; simp only [List.length_singleton]; omega, rfl, hown5, rfl, hdr, hdl.out.symm, by omega, by omega, hbel5⟩
        case measure => simp [lenOf]; omega
    · have hrest : rest = [] := List.eq_nil_of_length_eq_zero (by omega)
      subst hrest
      have hdn := hmid.done
      have hcv := fun e => conv_str (P := Try.prog) Try.underlying30 Try.underlying5 Try.underlying9 hown.rd.2.2 (c := c2) (n := n2) e
      have hcv1 := hcv (by rw [hown.rd.1]; simp)
      have htB : Hid (tB (strOfNums t0) = t0) := tB_str hbt
      have hsz : (strOfNums t0).size ≤ 100000000 := by rw [← tB_len, tB_str hbt]; have := HN.out; simp at hlen; omega
      have hlt : t0.length ≤ 10000000 := by have := HN.out; simp at hlen; omega
      have hdn1 := Lib.hid hdn.1
      have hdn2 := Lib.hid hdn.2
      clear hdn hcv hn3
      cases hok : isTextB t0 with
      | false =>
        have hfin := Lib.hid (hdn2.out (fun h => by rw [hok] at h; cases h.1))
        have hco : Hid (aTextCodes t0 = ([], 13)) := by unfold Hid aTextCodes; rw [hok]; rfl
        clear hok
        go_wp2_with fail
        refine (codes_any (strOfNums t0) _ hsz).mono ?_
        rw [htB.out, hco.out]
        rintro e w3 ⟨A5, n5, c5, rfl, hown5, hb3⟩
        go_wp2_with fail
        go_ret2
        exact ⟨by rw [hfin.out]; rfl, hbel.trans (hb3.mono hb)⟩
      | true =>
        have hco : Hid (aTextCodes t0 = (aCodes t0, 0)) := by unfold Hid aTextCodes; rw [hok]; rfl
        cases heq : (aCodes t0 == ls) with
        | false =>
          have hfin := Lib.hid (hdn2.out (fun h => by rw [h.2] at heq; simp at heq))
          have HE := Lib.hid heq
          clear hok heq
          go_wp2_with fail
          refine (codes_any (strOfNums t0) _ hsz).mono ?_
          rw [htB.out, hco.out]
          rintro e w3 ⟨A5, n5, c5, rfl, hown5, hb3⟩
          have hbel3 := hbel.trans (hb3.mono hb)
          have hz5 : Hid (n5 = (aCodes t0).length) := by unfold Hid; rw [hown5.rd.1]; simp
          have hle5 : (aCodes t0).length ≤ 1000000000 := by have := aCodes_len t0; omega
          go_wp2_with fail
          refine (equal_any A5 A n5 n c5 c (aCodes t0) ls false _ hown5.rd.2.2 (rd_at' hr hbel3) hz5.out HN.out hle5 HE.out).mono ?_
          rintro e w4 ⟨rfl, hb4⟩
          go_wp2_with fail
          go_ret2
          exact ⟨by rw [hfin.out]; rfl, hbel3.trans (hb4.mono hbel3.size)⟩
        | true =>
          have hfin := Lib.hid (hdn1.out ⟨hok, by simpa using heq⟩)
          have HE := Lib.hid heq
          clear hok heq
          go_wp2_with fail
          refine (codes_any (strOfNums t0) _ hsz).mono ?_
          rw [htB.out, hco.out]
          rintro e w3 ⟨A5, n5, c5, rfl, hown5, hb3⟩
          have hbel3 := hbel.trans (hb3.mono hb)
          have hz5 : Hid (n5 = (aCodes t0).length) := by unfold Hid; rw [hown5.rd.1]; simp
          have hle5 : (aCodes t0).length ≤ 1000000000 := by have := aCodes_len t0; omega
          go_wp2_with fail
          refine (equal_any A5 A n5 n c5 c (aCodes t0) ls true _ hown5.rd.2.2 (rd_at' hr hbel3) hz5.out HN.out hle5 HE.out).mono ?_
          rintro e w4 ⟨rfl, hb4⟩
          have hcv2 := conv_str (P := Try.prog) Try.underlying30 Try.underlying5 Try.underlying9 ((hown.below hb3).below hb4).rd.2.2 (c := c2) (n := n2) (by rw [hown.rd.1]; simp)
          go_wp2_with fail
          go_ret2
          exact ⟨by rw [hfin.out]; rfl, hbel3.trans (hb4.mono hbel3.size)⟩
end Go.Proofs.Ytianabgdggheiaa
