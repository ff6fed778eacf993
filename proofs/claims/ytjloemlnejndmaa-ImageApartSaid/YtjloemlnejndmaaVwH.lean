/- The contracts of clewref02.TakeText and TakeInts. Printed by gen_rlists.py. -/
import Derived.Test.YtjloemlnejndmaaVwG
import Derived.Test.YtjloemlnejndmaaVwV
import Derived.Test.YtjloemlnejndmaaVwW
namespace Go.Proofs.Ytjloemlnejndmaa
open Go.RowKit Go.IntWalk
set_option maxRecDepth 100000
set_option linter.unusedVariables false

theorem sOf_bad {xs : List Int} {at_ err most at1 er sz : Int} {e : Nat} (hS : sTS xs at_ err most = (sz, at1, er)) (he : er ≠ 0) : sOf xs at_ err most e = ([], at_, er) := by
  unfold sOf
  rw [hS]
  simp only [sTk, if_pos he, if_neg he]
theorem sOf_lack {xs : List Int} {at_ err most at1 : Int} {L e : Nat} (hS : sTS xs at_ err most = ((L : Int), at1, 0)) (h : sLacks xs.length at1 ((L * e : Nat) : Int)) : sOf xs at_ err most e = ([], at_, 2) := by
  unfold sOf
  rw [hS]
  simp only [Int.toNat_natCast, sTk_lack _ _ _ h]
  simp
theorem sOf_ok {xs : List Int} {at_ err most : Int} {L t e : Nat} (hS : sTS xs at_ err most = ((L : Int), (t : Int), 0)) (h : ¬ sLacks xs.length (t : Int) ((L * e : Nat) : Int)) : sOf xs at_ err most e = ((xs.drop t).take (L * e), ((t + L * e : Nat) : Int), 0) := by
  unfold sOf
  rw [hS]
  have : sTk xs t 0 (L * e) = ((xs.drop t).take (L * e), ((t + L * e : Nat) : Int), 0) := by simp only [sTk, if_neg h]; simp
  simp only [Int.toNat_natCast, this]
  simp
set_option maxHeartbeats 1600000 in
theorem rtakeInts_any (A : Option Addr) (n c : Nat) (at_ err most : Int) (xs : List Int) (w : World) (hr : Rd w w.heap.size A (cb .u8 xs)) (hx : n = xs.length) (hc : n ≤ c) (hn : n ≤ 1000000) (hb : Byt xs) :
    Calls Try.prog 18 #[.agg #[.slice A n c, .int .i64 at_, .int .i64 err], .int .i64 most] w fun en w' => ∃ A' m' c', en = .returned (.tuple #[.slice A' m' c', .agg #[.slice A n c, .int .i64 (sOf xs at_ err most 2).2.1, .int .i64 (sOf xs at_ err most 2).2.2]]) ∧ Own w' w.heap.size 3 (.slice A' m' c') (cb .i64 (sPairs (sOf xs at_ err most 2).1)) ∧ Below w.heap.size w w' := by
  have HX := Lib.hid hx
  clear hx
  have hb0 : Below w.heap.size w ((w.alloc (.cells #[.slice A n c, .int .i64 at_, .int .i64 err] 48)).alloc (.cells #[.slice none 0 0, .int .i64 0, .int .i64 0] 48)) := ((Below.refl _ _).alloc (Nat.le_refl _) _).alloc (by simp) _
  have k0 : Blk ((w.alloc (.cells #[.slice A n c, .int .i64 at_, .int .i64 err] 48)).alloc (.cells #[.slice none 0 0, .int .i64 0, .int .i64 0] 48)) w.heap.size 48 [.slice A n c, .int .i64 at_, .int .i64 err] := (Blk.new _ _ _).alloc _
  have k1 : Blk ((w.alloc (.cells #[.slice A n c, .int .i64 at_, .int .i64 err] 48)).alloc (.cells #[.slice none 0 0, .int .i64 0, .int .i64 0] 48)) (w.heap.size + 1) 48 [.slice none 0 0, .int .i64 0, .int .i64 0] := by simpa using Blk.new (w.alloc (.cells #[.slice A n c, .int .i64 at_, .int .i64 err] 48)) 48 [.slice none 0 0, .int .i64 0, .int .i64 0]
  obtain ⟨hm0, hm1⟩ := sTS_bound xs hb at_ err most
  obtain ⟨⟨sz, at1, er⟩, hS⟩ : ∃ S, sTS xs at_ err most = S := ⟨_, rfl⟩
  rw [hS] at hm0 hm1
  simp only at hm0 hm1
  obtain ⟨L, rfl⟩ := Int.eq_ofNat_of_zero_le hm0
  clear hm0
  go_enter Try.func18, Try.ntmps18
  go_wp2_with fail
  refine (rtakeSize_any A n c at_ err most xs _ (((hr.more (Nat.le_refl _)).below hb0).more (by simp; omega)) HX.out (by omega) hb).mono ?_
  rw [hS]
  have HS := Lib.hid hS
  clear hS
  rintro en w1 ⟨rfl, hb1⟩
  have j0 := (k0.below hb1 (by simp; omega)).alloc (.cells #[.slice A n c, .int .i64 at1, .int .i64 er] 48)
  have j1 := (k1.below hb1 (by simp)).alloc (.cells #[.slice A n c, .int .i64 at1, .int .i64 er] 48)
  have j2 : Blk (w1.alloc (.cells #[.slice A n c, .int .i64 at1, .int .i64 er] 48)) w1.heap.size 48 [.slice A n c, .int .i64 at1, .int .i64 er] := Blk.new _ _ _
  have hbV := hb0.trans (hb1.mono (by simp; omega))
  have hbW := hbV.alloc hbV.size (.cells #[.slice A n c, .int .i64 at1, .int .i64 er] 48)
  have hlt1 := Lib.hid k1.lt
  have hsz1 := Lib.hid hb1.size
  have hne0 : w1.heap.size ≠ w.heap.size := by have := hlt1.out; have := hsz1.out; simp at *; omega
  have hne1 : w1.heap.size ≠ w.heap.size + 1 := by have := hlt1.out; have := hsz1.out; simp at *; omega
  have hne0' := hne0.symm
  have hne1' := hne1.symm
  have hlt7 := Lib.hid j2.lt
  clear k0 k1 hb0 hb1
  obtain ⟨c00, c01, c02, f00, f01, f02⟩ := j0.three
  obtain ⟨c10, c11, c12, f10, f11, f12⟩ := j1.three
  obtain ⟨c20, c21, c22, f20, f21, f22⟩ := j2.three
  by_cases he : er ≠ 0
  · have HT := Lib.hid (sOf_bad (e := 2) HS.out he)
    have he' : (er != 0) = true := by simpa using he
    clear he
    go_wp2_with fail
    refine (rfail_any A n c at_ err er _).mono ?_
    rintro en w2 ⟨rfl, hb2⟩
    have l1 := j1.below hb2 j1.lt
    obtain ⟨d10, d11, d12, e10, e11, e12⟩ := l1.three
    go_wp2
    refine bodyPost_ret (v := .tuple #[.slice none 0 0, .agg #[.slice A n c, .int .i64 at_, .int .i64 er]]) (by simp [results, Try.results18, go_sem, d10, d11, d12]) rfl ⟨none, 0, 0, by rw [HT.out], by rw [HT.out]; exact Own.nil _ _ _, ?_⟩
    exact below_set3 (hbW.trans (hb2.mono hbW.size)) (Nat.le_succ _) _ _ _
  · obtain rfl : er = 0 := by omega
    clear he
    by_cases hl : sLacks xs.length at1 ((L * 2 : Nat) : Int)
    · have HT := Lib.hid (sOf_lack HS.out hl)
      rw [← HX.out] at hl
      have HL := Lib.hid hl
      clear hl
      go_wp2_with fail
      have hmul : (2 : Int) * (L : Int) = ((L * 2 : Nat) : Int) := by omega
      rw [hmul]
      refine (rlacks_yes A n c at1 0 ((L * 2 : Nat) : Int) _ (by omega) (by omega) (by omega) HL.out).mono ?_
      rintro en w2 ⟨rfl, hb2⟩
      have l0 := j0.below hb2 j0.lt
      have l1 := j1.below hb2 j1.lt
      have hbX := hbW.trans (hb2.mono hbW.size)
      clear c00 c01 c02 f00 f01 f02 c10 c11 c12 f10 f11 f12 c20 c21 c22 f20 f21 f22
      obtain ⟨c00, c01, c02, f00, f01, f02⟩ := l0.three
      go_wp2_with fail
      refine (rfail_any A n c at_ err 2 _).mono ?_
      rintro en w3 ⟨rfl, hb3⟩
      have m1 := l1.below hb3 l1.lt
      obtain ⟨d10, d11, d12, e10, e11, e12⟩ := m1.three
      go_wp2
      refine bodyPost_ret (v := .tuple #[.slice none 0 0, .agg #[.slice A n c, .int .i64 at_, .int .i64 2]]) (by simp [results, Try.results18, go_sem, d10, d11, d12]) rfl ⟨none, 0, 0, by rw [HT.out], by rw [HT.out]; exact Own.nil _ _ _, ?_⟩
      exact below_set3 (hbX.trans (hb3.mono hbX.size)) (Nat.le_succ _) _ _ _
    · have hl' := hl
      unfold sLacks at hl'
      obtain ⟨t, rfl⟩ := Int.eq_ofNat_of_zero_le (show 0 ≤ at1 by omega)
      have HT := Lib.hid (sOf_ok HS.out hl)
      rw [← HX.out] at hl hl'
      have HL := Lib.hid hl
      have htl : t + L * 2 ≤ n := by omega
      clear hl hl'
      go_wp2_with fail
      have hmul : (2 : Int) * (L : Int) = ((L * 2 : Nat) : Int) := by omega
      rw [hmul]
      refine (rlacks_no A n c (t : Int) 0 ((L * 2 : Nat) : Int) _ (by omega) (by omega) HL.out).mono ?_
      rintro en w2 ⟨rfl, hb2⟩
      have l0 := j0.below hb2 j0.lt
      have l1 := j1.below hb2 j1.lt
      have l2 := j2.below hb2 j2.lt
      have hbX := hbW.trans (hb2.mono hbW.size)
      clear c00 c01 c02 f00 f01 f02 c10 c11 c12 f10 f11 f12 c20 c21 c22 f20 f21 f22
      generalize hW : w1.heap.size = g at *
      have HW := Lib.hid hW
      clear hW j0 j1 j2 l0 hbW
      go_wp2_with fail
      have hl1 := l1.lt
      have hl2 := l2.lt
      have hlL : ((xs.drop t).take (L * 2)).length = L * 2 := by rw [List.length_take, List.length_drop]; have := HX.out; omega
      have HG : Hid (∀ j (h : j < ((xs.drop t).take (L * 2)).length) (h2 : t + j < xs.length), ((xs.drop t).take (L * 2))[j] = xs[t + j]) := fun j h h2 => by rw [List.getElem_take, List.getElem_drop]
      generalize (xs.drop t).take (L * 2) = bs at *
      have hgw : w.heap.size ≤ g := by have := HW.out; have := hbV.size; omega
      go_loopw [8, 9] (fun s i w3 => ∃ (k : Nat) (A2 : Option Addr) (n2 c2 : Nat), k ≤ L ∧ i = .int .i64 (k : Int) ∧ s = .slice A2 n2 c2 ∧ Own w3 w2.heap.size 3 (.slice A2 n2 c2) (cb .i64 (sPairs (bs.take (2 * k)))) ∧ Below w.heap.size w w3 ∧ w2.heap.size ≤ w3.heap.size ∧ Blk w3 (w.heap.size + 1) 48 [.slice none 0 0, .int .i64 0, .int .i64 0] ∧ Blk w3 g 48 [.slice A n c, .int .i64 ((t : Int) + 2 * (k : Int)), .int .i64 0]) (fun _ i _ => L - (intOf i).toNat)
      case atStart => exact ⟨0, none, 0, 0, by omega, rfl, rfl, by simpa [sPairs, cb] using Own.nil _ _ _, hbX, Nat.le_refl _, l1, by simpa using l2⟩
      case round =>
        obtain ⟨k, A2, n2, c2, hk, rfl, rfl, hown2, hbel, hsz, k1, k2⟩ := hrel
        have hbs := hbel.size
        obtain ⟨c20, c21, c22, f20, f21, f22⟩ := k2.three
        by_cases hlt : k < L
        · have hkk := sPairs_snoc k bs (by omega)
          have hpl := sPairs_len k bs (by omega)
          have hin : t + 2 * k + 1 < xs.length := by have := HX.out; omega
          have htwo : sTk xs ((t : Int) + 2 * (k : Int)) 0 2 = ([xs[t + 2 * k], xs[t + 2 * k + 1]], (t : Int) + 2 * (k : Int) + 2, 0) := by rw [show (t : Int) + 2 * (k : Int) = ((t + 2 * k : Nat) : Int) by omega]; exact sTk_two xs (t + 2 * k) hin
          have hg1 : bs[2 * k] = xs[t + 2 * k] := HG.out _ _ _
          have hg2 : bs[2 * k + 1] = xs[t + 2 * k + 1] := HG.out _ _ _
          rw [hg1, hg2] at hkk
          clear hg1 hg2
          have hTW := rtakeWord_any A n c ((t : Int) + 2 * (k : Int)) 0 xs wr ((hr.below hbel).more hbs) HX.out (by omega) hb
          rw [htwo] at hTW
          simp only at hTW
          clear htwo
          generalize hv : wrap16 (sNum [xs[t + 2 * k], xs[t + 2 * k + 1]]) = v at *
          have HKK := Lib.hid hkk
          clear hv hin hkk
          go_wp2_with fail
          refine hTW.mono ?_
          clear hTW
          rintro en w4 ⟨rfl, hb4⟩
          have hown4 := (hown2.below hb4).alloc (.cells #[.slice A n c, .int .i64 (((t : Int) + 2 * (k : Int)) + 2), .int .i64 0] 48)
          have p1 := (k1.below hb4 k1.lt).alloc (.cells #[.slice A n c, .int .i64 (((t : Int) + 2 * (k : Int)) + 2), .int .i64 0] 48)
          have p2 := (k2.below hb4 k2.lt).alloc (.cells #[.slice A n c, .int .i64 (((t : Int) + 2 * (k : Int)) + 2), .int .i64 0] 48)
          have p3 : Blk (w4.alloc (.cells #[.slice A n c, .int .i64 (((t : Int) + 2 * (k : Int)) + 2), .int .i64 0] 48)) w4.heap.size 48 [.slice A n c, .int .i64 (((t : Int) + 2 * (k : Int)) + 2), .int .i64 0] := Blk.new _ _ _
          have hb5 := (hbel.trans (hb4.mono hbs)).alloc (hbel.trans (hb4.mono hbs)).size (.cells #[.slice A n c, .int .i64 (((t : Int) + 2 * (k : Int)) + 2), .int .i64 0] 48)
          have hsz4 : w2.heap.size ≤ w4.heap.size := by have := hb4.size; omega
          have hfr : (Value.slice A2 n2 c2).ownBlock ≠ some w4.heap.size := (hown2.below hb4).fresh (Nat.le_refl _)
          have hf1 := hown2.under hl1
          have hf2 := hown2.under hl2
          clear k1 k2 hb4 c20 c21 c22 f20 f21 f22
          go_wp2_with ((at_builtin; refine wp_app elemI64 rfl _ _ rfl rfl (hown4.alloc _) rfl (Rd.new1 _ _ [_] _) rfl (one1 _ _) (by simp [hpl]; omega) (by simp [hpl]; omega) (by simp; omega) ?_; intro A3 n3 c3 w5 hown5 hg5; have q1 := (p1.alloc _).grown1 hg5 hf1; obtain ⟨c10, c11, c12, f10, f11, f12⟩ := q1.three; have q2 := (p2.alloc _).grown1 hg5 hf2; obtain ⟨c20, c21, c22, f20, f21, f22⟩ := q2.three; obtain ⟨c30, c31, c32, f30, f31, f32⟩ := ((p3.alloc _).grown1 hg5 hfr).three))
          go_roundw
          case rel =>
            refine ⟨k + 1, A3, n3, c3, by omega, by go_num, rfl, by rw [show 2 * (k + 1) = 2 * k + 2 by omega, HKK.out, cb_append]; exact hown5.set3 hl2 _ _ _, ?_, ?_, ?_, ?_⟩
            · exact below_set3 (below_own (hb5.alloc hb5.size _) hg5 (hown4.alloc _) (by omega) (by simp; omega)) hgw _ _ _
            · have := hg5.size; simp at this ⊢; omega
            · exact ((q1.far (p := ⟨g, 0, none⟩) hne1' _).far (p := ⟨g, 1, none⟩) hne1' _).far (p := ⟨g, 2, none⟩) hne1' _
            · refine (((q2.set_ 0 _).set_ 1 _).set_ 2 _).cast ?_
              simp; omega
          case measure => simp [intOf]; omega
        · obtain rfl : k = L := by omega
          have e1 : bs.take (2 * k) = bs := List.take_of_length_le (by omega)
          rw [e1] at hown2
          obtain ⟨c10, c11, c12, f10, f11, f12⟩ := k1.three
          go_wp2_with fail
          go_region
          go_wp2
          refine bodyPost_ret (v := .tuple #[.slice A2 n2 c2, .agg #[.slice A n c, .int .i64 ((t : Int) + 2 * (k : Int)), .int .i64 0]]) (by simp [results, Try.results18, go_sem, c10, c11, c12]; omega) rfl ⟨A2, n2, c2, by rw [HT.out]; simp; omega, ?_, ?_⟩
          · rw [HT.out]; exact (hown2.set3 hl1 _ _ _).less hbX.size
          · exact (below_set3 hbel (Nat.le_succ _) _ _ _).drew
end Go.Proofs.Ytjloemlnejndmaa
