/- The contract of the document's Apply. -/
import Derived.Test.YtjjgdjcapfenpaaDelF
namespace Go.Proofs.Ytjjgdjcapfenpaa
open Go.RowKit Go.IntWalk
set_option maxRecDepth 100000
set_option linter.unusedVariables false
set_option linter.unusedSimpArgs false

set_option maxHeartbeats 12800000 in
theorem rapply_any (A D : Option Addr) (na ca nd cd : Nat) (xs ds : List Int) (w : World) (hx : Rd w w.heap.size A (cb .u8 xs)) (hna : na = xs.length) (hca : na ≤ ca) (hbx : Byt xs) (hd0 : Rd w w.heap.size D (cb .u8 ds)) (hnd : nd = ds.length) (hcd : nd ≤ cd) (hbd : Byt ds) (hl : na ≤ 1000000) (hl' : nd ≤ 1000000) :
    Calls Try.prog 27 #[.slice A na ca, .slice D nd cd] w (AppP w (dApp xs ds)) := by
  have HNA := Lib.hid hna
  have HND := Lib.hid hnd
  clear hna hnd
  obtain ⟨N0, p0, E0, hS⟩ : ∃ s p E, sTS ds 0 0 65536 = (s, p, E) := ⟨_, _, _, rfl⟩
  have HS0 := Lib.hid hS
  by_cases hE0 : E0 = 0
  · subst hE0
    have hok := sTS_ok ds hbd 0 65536 (Int.le_refl _) (by rw [hS])
    rw [hS] at hok
    simp only at hok
    obtain ⟨hp0, hpn, hn0, hnm⟩ := hok
    rw [← HND.out] at hpn
    obtain ⟨N, rfl⟩ := Int.eq_ofNat_of_zero_le hn0
    clear hS
    go_enter Try.func27, Try.ntmps27
    go_wp2_with fail
    refine (rtakeSize_any D nd cd 0 0 65536 ds _ hd0 HND.out (by omega) hbd).mono ?_
    rw [HS0.out]
    rintro e w1 ⟨rfl, hb1⟩
    have hB1 : Below w.heap.size w (w1.alloc (.cells #[.slice D nd cd, .int .i64 p0, .int .i64 0] 53)) := hb1.alloc hb1.size _
    have K70 := Blk.new w1 53 [.slice D nd cd, .int .i64 p0, .int .i64 0]
    go_wp2_with fail
    generalize w1.alloc (.cells #[.slice D nd cd, .int .i64 p0, .int .i64 0] 53) = W0 at *
    have hg7w : w.heap.size ≤ w1.heap.size := hb1.size
    generalize w1.heap.size = g7 at *
    clear hb1
    obtain ⟨RES, hRES⟩ : ∃ Q, dLoop xs ds N (ds.length + 1) p0 [] = Q := ⟨_, rfl⟩
    have HRES := Lib.hid hRES
    go_loopg [8, 9, 10] (nd + 1) (fun k ov _ _ wr => ∃ (p : Int) (done : List Int) (Ao : Option Addr) (no co : Nat), ov = .slice Ao no co ∧ done.length ≤ N ∧ Own wr w.heap.size 5 (.slice Ao no co) (cb .u8 done) ∧ Below w.heap.size w wr ∧ Blk wr g7 53 [.slice D nd cd, .int .i64 p, .int .i64 0] ∧ Hid (dLoop xs ds N k p done = RES) ∧ 0 ≤ p ∧ p ≤ nd ∧ (nd : Int) < p + k)
    case atStart => exact ⟨p0, [], none, 0, 0, rfl, by simp, Own.nil _ _ _, hB1, K70, by unfold Hid; rw [HND.out]; exact hRES, by omega, by omega, by omega⟩
    case round =>
      clear hB1 K70 hRES
      obtain ⟨p, done, Ao, no, co, rfl, hdN, ho, hB, K7, hdl, hp1, hp2, hfu⟩ := hrel
      obtain ⟨q0, q1, q2, f0, f1, f2⟩ := K7.three
      have lt7 := K7.lt
      have hno : no = done.length := by rw [ho.rd.1, cb_length]
      obtain ⟨k, rfl⟩ : ∃ k, gk = k + 1 := ⟨gk - 1, by omega⟩
      by_cases hlt : done.length < N
      · have hlti : (no : Int) < (N : Int) := by omega
        have HNO := Lib.hid hno
        clear hno
        obtain ⟨s1, p1, e1, hS1⟩ : ∃ s q F, sTS ds p 0 65536 = (s, q, F) := ⟨_, _, _, rfl⟩
        have HDL := hdl.out
        rw [dLoop, if_pos hlt, hS1] at HDL
        simp only at HDL
        have HS1 := Lib.hid hS1
        clear hS1
        go_wp2_with fail
        refine (rtakeSize_any D nd cd p 0 65536 ds _ (rd_at hd0 hB) HND.out (by omega) hbd).mono ?_
        rw [HS1.out]
        rintro e w2 ⟨rfl, hb2⟩
        have hB2 := below_call hB hb2
        have K2 := K7.below hb2 K7.lt
        have ho2 := ho.below hb2
        clear q0 q1 q2 f0 f1 f2 K7 ho lt7
        obtain ⟨q0, q1, q2, f0, f1, f2⟩ := K2.three
        have lt2 := K2.lt
        have hB3 := ((hB2.setCell (p := ⟨g7, 0, none⟩) hg7w (.slice D nd cd)).setCell (p := ⟨g7, 1, none⟩) hg7w (.int .i64 p1)).setCell (p := ⟨g7, 2, none⟩) hg7w (.int .i64 e1)
        have K3 : Blk _ g7 53 [.slice D nd cd, .int .i64 p1, .int .i64 e1] := ((K2.set_ 0 (.slice D nd cd)).set_ 1 (.int .i64 p1)).set_ 2 (.int .i64 e1)
        have hoa := ho2.far (p := ⟨g7, 0, none⟩) (own_blk ho2 K2 (by decide)) (.slice D nd cd)
        have hob := hoa.far (p := ⟨g7, 1, none⟩) (own_blk hoa (K2.set_ 0 (.slice D nd cd)) (by decide)) (.int .i64 p1)
        have ho3 := hob.far (p := ⟨g7, 2, none⟩) (own_blk hob ((K2.set_ 0 (.slice D nd cd)).set_ 1 (.int .i64 p1)) (by decide)) (.int .i64 e1)
        clear hoa hob
        by_cases he1 : e1 = 0
        · subst he1
          rw [if_neg (by simp)] at HDL
          have hok1 := sTS_ok ds hbd p 65536 hp1 (by rw [HS1.out])
          rw [HS1.out, ← HND.out] at hok1
          simp only at hok1
          obtain ⟨hq1, hq2, hs0, _⟩ := hok1
          obtain ⟨s, rfl⟩ := Int.eq_ofNat_of_zero_le hs0
          obtain ⟨t1, rfl⟩ := Int.eq_ofNat_of_zero_le (show (0 : Int) ≤ p1 by omega)
          obtain ⟨MI, hMI⟩ : ∃ MI, min ((N : Int) - done.length) (max 0 ((xs.length : Int) - done.length)) = MI := ⟨_, rfl⟩
          rw [hMI] at HDL
          have HMI : Hid (MI = min ((N : Int) - done.length) (max 0 ((xs.length : Int) - done.length))) := hMI.symm
          have hMI2 := hMI
          rw [← HNA.out] at hMI2
          have hnoI := HNO.out
          by_cases hsM : MI < (s : Int)
          · have HRE : Hid (dApp xs ds = ([], 5)) := by
              rw [if_pos hsM] at HDL
              exact dApp_errL HS0.out (HRES.out.trans HDL.symm) rfl (by omega)
            clear HDL hMI
            by_cases hc1 : (N : Int) - (no : Int) < (s : Int)
            · clear hMI2 hnoI hsM
              go_wp2
              go_ret2
              exact ⟨none, 0, 0, by rw [HRE.out]; rfl, by rw [HRE.out]; exact Own.nil _ _ _, hB3⟩
            · have hc2 : (na : Int) - (no : Int) < (s : Int) := by omega
              have hc3 : 0 < s := by omega
              have hc3' : (0 : Int) < (s : Int) := by omega
              clear hMI2 hnoI hsM
              go_wp2
              go_ret2
              exact ⟨none, 0, 0, by rw [HRE.out]; rfl, by rw [HRE.out]; exact Own.nil _ _ _, hB3⟩
          · rw [if_neg hsM] at HDL
            have hc1 : ¬ (N : Int) - (no : Int) < (s : Int) := by omega
            have hnoN : no = done.length := HNO.out
            by_cases hc3 : 0 < s
            · have hc2 : ¬ (na : Int) - (no : Int) < (s : Int) := by omega
              have hc3' : (0 : Int) < (s : Int) := by omega
              clear hMI hMI2 hnoI hnoN
              have hMN := HMI.out
              rw [← HNA.out] at hMN
              generalize hi : done.length = i at *
              have hiN : i + s ≤ N := by omega
              have hia : s = 0 ∨ i + s ≤ na := by omega
              obtain ⟨i2, hi2⟩ : ∃ i2, i + s = i2 := ⟨_, rfl⟩
              obtain ⟨mj, hmj⟩ : ∃ mj : Nat, (if (na : Int) < (i : Int) then (na : Int) else (i : Int)) = (mj : Int) := ⟨min i na, by omega⟩
              obtain ⟨mk, hmk⟩ : ∃ mk, mj + s = mk := ⟨_, rfl⟩
              have hmks : (mj : Int) + (s : Int) = (mk : Int) := by omega
              have hwmk : IntKind.i64.wrap (mk : Int) = (mk : Int) := i64_in _ (by omega)
              have hmjk : mj ≤ mk := by omega
              have hmkc : mk ≤ ca := by omega
              have hmkd : mk - mj = s := by omega
              have hmjc : mj ≤ na := by omega
              have hmjca : mj ≤ ca := by omega
              have hmjd : s = 0 ∨ mj = i := by omega
              have hmi : ∀ (ts : Array TypeId) (t : TypeId) (w : World), (Builtin.min_ ts t #[.int .i64 (i : Int), .int .i64 (na : Int)]).run Try.prog w = .ok (.int .i64 mj) w := fun ts t w => by rw [run_min_int2, hmj]
              obtain ⟨X, hX⟩ : ∃ X, (xs.drop i).take s = X := ⟨_, rfl⟩
              have hXl : X.length = s := by rw [← hX, List.length_take, List.length_drop, ← HNA.out]; omega
              obtain ⟨Am, hAm⟩ : ∃ Am, (if ca = mj then A else A.map (·.add mj)) = Am := ⟨_, rfl⟩
              have hrm0 : Rd w w.heap.size Am (cb .u8 X) := by
                rcases hmjd with h0 | h0
                · have : X = [] := List.eq_nil_of_length_eq_zero (by omega)
                  rw [this]; exact Rd.nil _ _ _
                · have := (slice_at_drop hx HNA.out mj hmjc hca).take s
                  rw [cb_take, hAm, h0, hX] at this
                  exact this
              have hl2 : (done ++ X).length = i2 := by rw [List.length_append, hXl]; omega
              obtain ⟨s2, p2, e2, hS2⟩ : ∃ s q F, sTS ds (t1 : Int) 0 65536 = (s, q, F) := ⟨_, _, _, rfl⟩
              have HD2 : Hid ((if e2 ≠ 0 then (done, (0 : Int), e2) else if (N : Int) - (i2 : Int) < s2 then (done, 0, 5) else if (nd : Int) - p2 < s2 then (done, 0, 2) else dLoop xs ds N k (p2 + s2) ((done ++ X) ++ (ds.drop p2.toNat).take s2.toNat)) = RES) := by
                unfold Hid
                rw [← HDL]
                simp only [Int.toNat_natCast, hX, hS2, hl2, HND.out]
              have HS2 := Lib.hid hS2
              have HL2 := Lib.hid hl2
              have HAM := Lib.hid hAm
              have HXL : Hid (s = (cb IntKind.u8 X).length) := by unfold Hid; rw [cb_length, hXl]
              have HI := Lib.hid hi
              have HI2 := Lib.hid hi2
              have hno : no = i := by rw [ho3.rd.1, cb_length, hi]
              have hi2N : i2 ≤ N := by omega
              subst hno
              clear hX hXl hAm hi hi2 hMN hmj hmjd hia hsM HDL hS2 hl2 hmk
              have hAm2 : Option.map (fun x => x.add mj) A = Am := by rw [← HAM.out, if_neg (by omega)]
              have hB3s := hB3.size
              go_wp2_with (at_builtin; refine wp_app (P := Try.prog) elemU8 rfl (.tmp 55) (.tmp 69) (by rfl) (by rfl) ho3 (c := ca - mj) (m := s) (by rfl) (rd_old hrm0 hB3 (Below.refl _ _)) HXL.out (cb_one _ _) (by rw [cb_length, ← HXL.out, HI.out]; omega) (by rw [cb_length, ← HXL.out, HI.out]; omega) hB3s ?_; intro A5 n5 c5 w5 ho5 hg5; (have ho5' := ho5.cast (cb_append _ _ _).symm); (have hB5 : Below w.heap.size w w5 := below_own hB3 hg5 ho3 (Nat.le_refl _) hB3s); (have K5 := K3.grown hg5 (own_blk ho3 K3 (by decide))); (have hn5 : n5 = i2 := by rw [ho5'.rd.1, cb_length]; exact HL2.out); (subst hn5); (obtain ⟨r0, r1, r2, g0, g1, g2⟩ := K5.three); (have lt5 := K5.lt); (clear q0 q1 q2 f0 f1 f2 ho3 ho5 hAm2 hrm0 hmi K3 hB3 hB3s hg5))
              refine (rtakeSize_any D nd cd t1 0 65536 ds _ (rd_at hd0 hB5) HND.out (by omega) hbd).mono ?_
              rw [HS2.out]
              rintro e w6 ⟨rfl, hb6⟩
              have hB6 := below_call hB5 hb6
              have K6 := K5.below hb6 K5.lt
              have ho6 := ho5'.below hb6
              clear r0 r1 r2 g0 g1 g2 K5 ho5' lt5
              obtain ⟨q0, q1, q2, f0, f1, f2⟩ := K6.three
              have lt6 := K6.lt
              have hB7 := ((hB6.setCell (p := ⟨g7, 0, none⟩) hg7w (.slice D nd cd)).setCell (p := ⟨g7, 1, none⟩) hg7w (.int .i64 p2)).setCell (p := ⟨g7, 2, none⟩) hg7w (.int .i64 e2)
              have K7 : Blk _ g7 53 [.slice D nd cd, .int .i64 p2, .int .i64 e2] := ((K6.set_ 0 (.slice D nd cd)).set_ 1 (.int .i64 p2)).set_ 2 (.int .i64 e2)
              have ho7 := ((ho6.far (p := ⟨g7, 0, none⟩) (own_blk ho6 K6 (by decide)) (.slice D nd cd)).far (p := ⟨g7, 1, none⟩) (own_blk (ho6.far (p := ⟨g7, 0, none⟩) (own_blk ho6 K6 (by decide)) (.slice D nd cd)) (K6.set_ 0 (.slice D nd cd)) (by decide)) (.int .i64 p2))
              have ho8 := ho7.far (p := ⟨g7, 2, none⟩) (own_blk ho7 ((K6.set_ 0 (.slice D nd cd)).set_ 1 (.int .i64 p2)) (by decide)) (.int .i64 e2)
              clear ho7
              by_cases he2 : e2 = 0
              · subst he2
                have HD3 := HD2.out
                rw [if_neg (by simp)] at HD3
                have hok2 := sTS_ok ds hbd t1 65536 (by omega) (by rw [HS2.out])
                rw [HS2.out, ← HND.out] at hok2
                simp only at hok2
                obtain ⟨hr1, hr2, hs20, _⟩ := hok2
                obtain ⟨k2, rfl⟩ := Int.eq_ofNat_of_zero_le hs20
                obtain ⟨t2, rfl⟩ := Int.eq_ofNat_of_zero_le (show (0 : Int) ≤ p2 by omega)
                by_cases hc5 : (N : Int) - (n5 : Int) < (k2 : Int)
                · rw [if_pos hc5] at HD3
                  have HRE : Hid (dApp xs ds = ([], 5)) := dApp_errL HS0.out (HRES.out.trans HD3.symm) rfl (by omega)
                  clear HD3 HD2
                  go_wp2
                  go_ret2
                  exact ⟨none, 0, 0, by rw [HRE.out]; rfl, by rw [HRE.out]; exact Own.nil _ _ _, hB7⟩
                · rw [if_neg hc5] at HD3
                  by_cases hsh : (nd : Int) - (t2 : Int) < (k2 : Int)
                  · rw [if_pos hsh] at HD3
                    have HRE : Hid (dApp xs ds = ([], 2)) := dApp_errL HS0.out (HRES.out.trans HD3.symm) rfl (by omega)
                    clear HD3 HD2
                    go_wp2
                    go_ret2
                    exact ⟨none, 0, 0, by rw [HRE.out]; rfl, by rw [HRE.out]; exact Own.nil _ _ _, hB7⟩
                  · rw [if_neg hsh] at HD3
                    obtain ⟨Y, hY⟩ : ∃ Y, (ds.drop t2).take k2 = Y := ⟨_, rfl⟩
                    have hYl : Y.length = k2 := by rw [← hY, List.length_take, List.length_drop, ← HND.out]; omega
                    have HD4 : Hid (dLoop xs ds N k ((t2 : Int) + (k2 : Int)) (done ++ X ++ Y) = RES) := by
                      unfold Hid
                      rw [← hY, ← HD3]
                      simp only [Int.toNat_natCast]
                    obtain ⟨t3, ht3⟩ : ∃ t3, t2 + k2 = t3 := ⟨_, rfl⟩
                    have ht3s : (t2 : Int) + (k2 : Int) = (t3 : Int) := by omega
                    have hwt3 : IntKind.i64.wrap (t3 : Int) = (t3 : Int) := i64_in _ (by omega)
                    have ht3c : t3 ≤ cd := by omega
                    have ht23 : t2 ≤ t3 := by omega
                    have ht2c : t2 ≤ cd := by omega
                    have ht3d : t3 - t2 = k2 := by omega
                    have ht3n : t3 ≤ nd := by omega
                    have hki : n5 + k2 ≤ N := by omega
                    rw [ht3s] at HD4
                    obtain ⟨Dm, hDm⟩ : ∃ Dm, (if cd = t2 then D else D.map (·.add t2)) = Dm := ⟨_, rfl⟩
                    have hrd0 : Rd w w.heap.size Dm (cb .u8 Y) := by
                      have := (slice_at_drop hd0 HND.out t2 (by omega) hcd).take k2
                      rw [cb_take, hDm, hY] at this
                      exact this
                    have HDM := Lib.hid hDm
                    have HYL : Hid (k2 = (cb IntKind.u8 Y).length) := by unfold Hid; rw [cb_length, hYl]
                    have HL3 : Hid ((done ++ X ++ Y).length = n5 + k2) := by unfold Hid; rw [List.length_append, HL2.out, hYl]
                    clear hY hYl HD3 HD2 hDm ht3 hsh hc5
                    have hsh : ¬ (nd : Int) - (t2 : Int) < (k2 : Int) := by omega
                    have hc5 : ¬ (N : Int) - (n5 : Int) < (k2 : Int) := by omega
                    have hDm2 : (if cd = t2 then D else Option.map (fun x => x.add t2) D) = Dm := HDM.out
                    have hB7s := hB7.size
                    go_wp2_with (at_builtin; refine wp_app (P := Try.prog) elemU8 rfl (.tmp 94) (.tmp 102) (by rfl) (by rfl) ho8 (c := cd - t2) (m := k2) (by rfl) (rd_old hrd0 hB7 (Below.refl _ _)) HYL.out (cb_one _ _) (by rw [cb_length, cb_length, HL2.out]; have := HYL.out; rw [cb_length] at this; omega) (by rw [cb_length, cb_length, HL2.out]; have := HYL.out; rw [cb_length] at this; omega) hB7s ?_; intro A9 n9 c9 w9 ho9 hg9; (have ho9' := ho9.cast (cb_append _ _ _).symm); (have hB9 : Below w.heap.size w w9 := below_own hB7 hg9 ho8 (Nat.le_refl _) hB7s); (have K9 := K7.grown hg9 (own_blk ho8 K7 (by decide))); (obtain ⟨r0, r1, r2, g0, g1, g2⟩ := K9.three); (have lt9 := K9.lt); (clear q0 q1 q2 f0 f1 f2 ho8 ho9 hDm2 hrd0 hB7 hB7s hg9 K7))
                    go_roundg k
                    case measure => omega
                    case rel => exact ⟨(t3 : Int), done ++ X ++ Y, A9, n9, c9, rfl, by rw [HL3.out]; omega, ho9'.far (own_blk ho9' K9 (by decide)) _, hB9.setCell hg7w _, K9.set_ 1 _, HD4, by omega, by omega, by omega⟩
              · have HRE : Hid (dApp xs ds = ([], e2)) := dApp_errL HS0.out (HRES.out.trans HD2.out.symm) (by rw [if_pos he2]) he2
                have e0 : (e2 != 0) = true := by rw [bne_iff_ne]; exact he2
                clear HD2
                go_wp2_with fail
                refine wp_region_grow (A := ?A1) [isV (.pointer (some ⟨g7, 2, none⟩)), isV (.int .i64 e2), isV (.slice none 0 0), isV (.int .i64 e2)] (((w6.setCell ⟨g7, 0, none⟩ (.slice D nd cd)).setCell ⟨g7, 1, none⟩ (.int .i64 p2)).setCell ⟨g7, 2, none⟩ (.int .i64 e2)) (by kernel_rfl) (by kernel_rfl) (fun f => ?hA1) (Below.refl _ _) ?hst1 ?hops1 ?hend1
                case hA1 =>
                  simp only [fillFrom, Nat.zero_add, Nat.reduceAdd]
                  go_frame
                  with_reducible rfl
                case hst1 => repeat (first | exact trivial | refine ⟨stab_is _ _, ?_⟩ | refine ⟨stab_own _ _ _ _, ?_⟩ | refine ⟨stab_any _, ?_⟩ | refine ⟨stab_rd _ _ _, ?_⟩)
                case hops1 =>
                  refine GOps.cons_ (fun f w' K hW hd hK => ?_) ?_
                  · try simp only [depsOf, depsL, Region.binds, depsHold, nthS, List.getD_cons_zero, List.getD_cons_succ, isV, ownV, anyV, if_true, and_true, true_and] at hd
                    have kk2 : w'.cell? ⟨g7, 2, none⟩ = some (.int .i64 e2) := (Blk.below K7 hW (Blk.lt K7)).cell 2
                    go_simp
                    refine hK _ _ (Below.refl _ _) ?_
                    exact rfl
                  refine GOps.cons_ (fun f w' K hW hd hK => ?_) ?_
                  · try simp only [depsOf, depsL, Region.binds, depsHold, nthS, List.getD_cons_zero, List.getD_cons_succ, isV, ownV, anyV, if_true, and_true, true_and] at hd
                    have kk2 : w'.cell? ⟨g7, 2, none⟩ = some (.int .i64 e2) := (Blk.below K7 hW (Blk.lt K7)).cell 2
                    go_simp
                    refine hK _ _ (Below.refl _ _) ?_
                    exact rfl
                  refine GOps.cons_ (fun f w' K hW hd hK => ?_) ?_
                  · try simp only [depsOf, depsL, Region.binds, depsHold, nthS, List.getD_cons_zero, List.getD_cons_succ, isV, ownV, anyV, if_true, and_true, true_and] at hd
                    have kk2 : w'.cell? ⟨g7, 2, none⟩ = some (.int .i64 e2) := (Blk.below K7 hW (Blk.lt K7)).cell 2
                    go_simp
                    refine hK _ _ (Below.refl _ _) ?_
                    exact rfl
                  refine GOps.cons_ (fun f w' K hW hd hK => ?_) ?_
                  · try simp only [depsOf, depsL, Region.binds, depsHold, nthS, List.getD_cons_zero, List.getD_cons_succ, isV, ownV, anyV, if_true, and_true, true_and] at hd
                    have kk2 : w'.cell? ⟨g7, 2, none⟩ = some (.int .i64 e2) := (Blk.below K7 hW (Blk.lt K7)).cell 2
                    go_simp
                    refine hK _ _ (Below.refl _ _) ?_
                    exact rfl
                  exact GOps.nil_
                case hend1 =>
                  intro f w' hW hd
                  simp only [List.length_cons, List.length_nil, Nat.reduceAdd, List.range, List.range.loop, depsHold, nthS, List.getD_cons_zero, List.getD_cons_succ, isV, ownV, anyV, true_and, and_true] at hd
                  have h2 : f 2 = .slice none 0 0 := by simp only [hd]
                  have h3 : f 3 = .int .i64 e2 := by simp only [hd]
                  rw [h2, h3]
                  go_wp2
                  go_ret2
                  exact ⟨none, 0, 0, by rw [HRE.out]; rfl, by rw [HRE.out]; exact Own.nil _ _ _, hB7.trans (hW.mono hB7.size)⟩
            · clear hMI hMI2 hnoI hnoN
              have hMN := HMI.out
              rw [← HNA.out] at hMN
              generalize hi : done.length = i at *
              have hiN : i + s ≤ N := by omega
              have hia : s = 0 ∨ i + s ≤ na := by omega
              obtain ⟨i2, hi2⟩ : ∃ i2, i + s = i2 := ⟨_, rfl⟩
              obtain ⟨mj, hmj⟩ : ∃ mj : Nat, (if (na : Int) < (i : Int) then (na : Int) else (i : Int)) = (mj : Int) := ⟨min i na, by omega⟩
              obtain ⟨mk, hmk⟩ : ∃ mk, mj + s = mk := ⟨_, rfl⟩
              have hmks : (mj : Int) + (s : Int) = (mk : Int) := by omega
              have hwmk : IntKind.i64.wrap (mk : Int) = (mk : Int) := i64_in _ (by omega)
              have hmjk : mj ≤ mk := by omega
              have hmkc : mk ≤ ca := by omega
              have hmkd : mk - mj = s := by omega
              have hmjc : mj ≤ na := by omega
              have hmjca : mj ≤ ca := by omega
              have hmjd : s = 0 ∨ mj = i := by omega
              have hmi : ∀ (ts : Array TypeId) (t : TypeId) (w : World), (Builtin.min_ ts t #[.int .i64 (i : Int), .int .i64 (na : Int)]).run Try.prog w = .ok (.int .i64 mj) w := fun ts t w => by rw [run_min_int2, hmj]
              obtain ⟨X, hX⟩ : ∃ X, (xs.drop i).take s = X := ⟨_, rfl⟩
              have hXl : X.length = s := by rw [← hX, List.length_take, List.length_drop, ← HNA.out]; omega
              obtain ⟨Am, hAm⟩ : ∃ Am, (if ca = mj then A else A.map (·.add mj)) = Am := ⟨_, rfl⟩
              have hrm0 : Rd w w.heap.size Am (cb .u8 X) := by
                rcases hmjd with h0 | h0
                · have : X = [] := List.eq_nil_of_length_eq_zero (by omega)
                  rw [this]; exact Rd.nil _ _ _
                · have := (slice_at_drop hx HNA.out mj hmjc hca).take s
                  rw [cb_take, hAm, h0, hX] at this
                  exact this
              have hl2 : (done ++ X).length = i2 := by rw [List.length_append, hXl]; omega
              obtain ⟨s2, p2, e2, hS2⟩ : ∃ s q F, sTS ds (t1 : Int) 0 65536 = (s, q, F) := ⟨_, _, _, rfl⟩
              have HD2 : Hid ((if e2 ≠ 0 then (done, (0 : Int), e2) else if (N : Int) - (i2 : Int) < s2 then (done, 0, 5) else if (nd : Int) - p2 < s2 then (done, 0, 2) else dLoop xs ds N k (p2 + s2) ((done ++ X) ++ (ds.drop p2.toNat).take s2.toNat)) = RES) := by
                unfold Hid
                rw [← HDL]
                simp only [Int.toNat_natCast, hX, hS2, hl2, HND.out]
              have HS2 := Lib.hid hS2
              have HL2 := Lib.hid hl2
              have HAM := Lib.hid hAm
              have HXL : Hid (s = (cb IntKind.u8 X).length) := by unfold Hid; rw [cb_length, hXl]
              have HI := Lib.hid hi
              have HI2 := Lib.hid hi2
              have hno : no = i := by rw [ho3.rd.1, cb_length, hi]
              have hi2N : i2 ≤ N := by omega
              subst hno
              clear hX hXl hAm hi hi2 hMN hmj hmjd hia hsM HDL hS2 hl2 hmk
              have hAm2 : (if ca = mj then A else Option.map (fun x => x.add mj) A) = Am := HAM.out
              have hB3s := hB3.size
              go_wp2_with (at_builtin; refine wp_app (P := Try.prog) elemU8 rfl (.tmp 55) (.tmp 69) (by rfl) (by rfl) ho3 (c := ca - mj) (m := s) (by rfl) (rd_old hrm0 hB3 (Below.refl _ _)) HXL.out (cb_one _ _) (by rw [cb_length, ← HXL.out, HI.out]; omega) (by rw [cb_length, ← HXL.out, HI.out]; omega) hB3s ?_; intro A5 n5 c5 w5 ho5 hg5; (have ho5' := ho5.cast (cb_append _ _ _).symm); (have hB5 : Below w.heap.size w w5 := below_own hB3 hg5 ho3 (Nat.le_refl _) hB3s); (have K5 := K3.grown hg5 (own_blk ho3 K3 (by decide))); (have hn5 : n5 = i2 := by rw [ho5'.rd.1, cb_length]; exact HL2.out); (subst hn5); (obtain ⟨r0, r1, r2, g0, g1, g2⟩ := K5.three); (have lt5 := K5.lt); (clear q0 q1 q2 f0 f1 f2 ho3 ho5 hAm2 hrm0 hmi K3 hB3 hB3s hg5))
              refine (rtakeSize_any D nd cd t1 0 65536 ds _ (rd_at hd0 hB5) HND.out (by omega) hbd).mono ?_
              rw [HS2.out]
              rintro e w6 ⟨rfl, hb6⟩
              have hB6 := below_call hB5 hb6
              have K6 := K5.below hb6 K5.lt
              have ho6 := ho5'.below hb6
              clear r0 r1 r2 g0 g1 g2 K5 ho5' lt5
              obtain ⟨q0, q1, q2, f0, f1, f2⟩ := K6.three
              have lt6 := K6.lt
              have hB7 := ((hB6.setCell (p := ⟨g7, 0, none⟩) hg7w (.slice D nd cd)).setCell (p := ⟨g7, 1, none⟩) hg7w (.int .i64 p2)).setCell (p := ⟨g7, 2, none⟩) hg7w (.int .i64 e2)
              have K7 : Blk _ g7 53 [.slice D nd cd, .int .i64 p2, .int .i64 e2] := ((K6.set_ 0 (.slice D nd cd)).set_ 1 (.int .i64 p2)).set_ 2 (.int .i64 e2)
              have ho7 := ((ho6.far (p := ⟨g7, 0, none⟩) (own_blk ho6 K6 (by decide)) (.slice D nd cd)).far (p := ⟨g7, 1, none⟩) (own_blk (ho6.far (p := ⟨g7, 0, none⟩) (own_blk ho6 K6 (by decide)) (.slice D nd cd)) (K6.set_ 0 (.slice D nd cd)) (by decide)) (.int .i64 p2))
              have ho8 := ho7.far (p := ⟨g7, 2, none⟩) (own_blk ho7 ((K6.set_ 0 (.slice D nd cd)).set_ 1 (.int .i64 p2)) (by decide)) (.int .i64 e2)
              clear ho7
              by_cases he2 : e2 = 0
              · subst he2
                have HD3 := HD2.out
                rw [if_neg (by simp)] at HD3
                have hok2 := sTS_ok ds hbd t1 65536 (by omega) (by rw [HS2.out])
                rw [HS2.out, ← HND.out] at hok2
                simp only at hok2
                obtain ⟨hr1, hr2, hs20, _⟩ := hok2
                obtain ⟨k2, rfl⟩ := Int.eq_ofNat_of_zero_le hs20
                obtain ⟨t2, rfl⟩ := Int.eq_ofNat_of_zero_le (show (0 : Int) ≤ p2 by omega)
                by_cases hc5 : (N : Int) - (n5 : Int) < (k2 : Int)
                · rw [if_pos hc5] at HD3
                  have HRE : Hid (dApp xs ds = ([], 5)) := dApp_errL HS0.out (HRES.out.trans HD3.symm) rfl (by omega)
                  clear HD3 HD2
                  go_wp2
                  go_ret2
                  exact ⟨none, 0, 0, by rw [HRE.out]; rfl, by rw [HRE.out]; exact Own.nil _ _ _, hB7⟩
                · rw [if_neg hc5] at HD3
                  by_cases hsh : (nd : Int) - (t2 : Int) < (k2 : Int)
                  · rw [if_pos hsh] at HD3
                    have HRE : Hid (dApp xs ds = ([], 2)) := dApp_errL HS0.out (HRES.out.trans HD3.symm) rfl (by omega)
                    clear HD3 HD2
                    go_wp2
                    go_ret2
                    exact ⟨none, 0, 0, by rw [HRE.out]; rfl, by rw [HRE.out]; exact Own.nil _ _ _, hB7⟩
                  · rw [if_neg hsh] at HD3
                    obtain ⟨Y, hY⟩ : ∃ Y, (ds.drop t2).take k2 = Y := ⟨_, rfl⟩
                    have hYl : Y.length = k2 := by rw [← hY, List.length_take, List.length_drop, ← HND.out]; omega
                    have HD4 : Hid (dLoop xs ds N k ((t2 : Int) + (k2 : Int)) (done ++ X ++ Y) = RES) := by
                      unfold Hid
                      rw [← hY, ← HD3]
                      simp only [Int.toNat_natCast]
                    obtain ⟨t3, ht3⟩ : ∃ t3, t2 + k2 = t3 := ⟨_, rfl⟩
                    have ht3s : (t2 : Int) + (k2 : Int) = (t3 : Int) := by omega
                    have hwt3 : IntKind.i64.wrap (t3 : Int) = (t3 : Int) := i64_in _ (by omega)
                    have ht3c : t3 ≤ cd := by omega
                    have ht23 : t2 ≤ t3 := by omega
                    have ht2c : t2 ≤ cd := by omega
                    have ht3d : t3 - t2 = k2 := by omega
                    have ht3n : t3 ≤ nd := by omega
                    have hki : n5 + k2 ≤ N := by omega
                    rw [ht3s] at HD4
                    obtain ⟨Dm, hDm⟩ : ∃ Dm, (if cd = t2 then D else D.map (·.add t2)) = Dm := ⟨_, rfl⟩
                    have hrd0 : Rd w w.heap.size Dm (cb .u8 Y) := by
                      have := (slice_at_drop hd0 HND.out t2 (by omega) hcd).take k2
                      rw [cb_take, hDm, hY] at this
                      exact this
                    have HDM := Lib.hid hDm
                    have HYL : Hid (k2 = (cb IntKind.u8 Y).length) := by unfold Hid; rw [cb_length, hYl]
                    have HL3 : Hid ((done ++ X ++ Y).length = n5 + k2) := by unfold Hid; rw [List.length_append, HL2.out, hYl]
                    clear hY hYl HD3 HD2 hDm ht3 hsh hc5
                    have hsh : ¬ (nd : Int) - (t2 : Int) < (k2 : Int) := by omega
                    have hc5 : ¬ (N : Int) - (n5 : Int) < (k2 : Int) := by omega
                    have hDm2 : (if cd = t2 then D else Option.map (fun x => x.add t2) D) = Dm := HDM.out
                    have hB7s := hB7.size
                    go_wp2_with (at_builtin; refine wp_app (P := Try.prog) elemU8 rfl (.tmp 94) (.tmp 102) (by rfl) (by rfl) ho8 (c := cd - t2) (m := k2) (by rfl) (rd_old hrd0 hB7 (Below.refl _ _)) HYL.out (cb_one _ _) (by rw [cb_length, cb_length, HL2.out]; have := HYL.out; rw [cb_length] at this; omega) (by rw [cb_length, cb_length, HL2.out]; have := HYL.out; rw [cb_length] at this; omega) hB7s ?_; intro A9 n9 c9 w9 ho9 hg9; (have ho9' := ho9.cast (cb_append _ _ _).symm); (have hB9 : Below w.heap.size w w9 := below_own hB7 hg9 ho8 (Nat.le_refl _) hB7s); (have K9 := K7.grown hg9 (own_blk ho8 K7 (by decide))); (obtain ⟨r0, r1, r2, g0, g1, g2⟩ := K9.three); (have lt9 := K9.lt); (clear q0 q1 q2 f0 f1 f2 ho8 ho9 hDm2 hrd0 hB7 hB7s hg9 K7))
                    go_roundg k
                    case measure => omega
                    case rel => exact ⟨(t3 : Int), done ++ X ++ Y, A9, n9, c9, rfl, by rw [HL3.out]; omega, ho9'.far (own_blk ho9' K9 (by decide)) _, hB9.setCell hg7w _, K9.set_ 1 _, HD4, by omega, by omega, by omega⟩
              · have HRE : Hid (dApp xs ds = ([], e2)) := dApp_errL HS0.out (HRES.out.trans HD2.out.symm) (by rw [if_pos he2]) he2
                have e0 : (e2 != 0) = true := by rw [bne_iff_ne]; exact he2
                clear HD2
                go_wp2_with fail
                refine wp_region_grow (A := ?A104) [isV (.pointer (some ⟨g7, 2, none⟩)), isV (.int .i64 e2), isV (.slice none 0 0), isV (.int .i64 e2)] (((w6.setCell ⟨g7, 0, none⟩ (.slice D nd cd)).setCell ⟨g7, 1, none⟩ (.int .i64 p2)).setCell ⟨g7, 2, none⟩ (.int .i64 e2)) (by kernel_rfl) (by kernel_rfl) (fun f => ?hA104) (Below.refl _ _) ?hst104 ?hops104 ?hend104
                case hA104 =>
                  simp only [fillFrom, Nat.zero_add, Nat.reduceAdd]
                  go_frame
                  with_reducible rfl
                case hst104 => repeat (first | exact trivial | refine ⟨stab_is _ _, ?_⟩ | refine ⟨stab_own _ _ _ _, ?_⟩ | refine ⟨stab_any _, ?_⟩ | refine ⟨stab_rd _ _ _, ?_⟩)
                case hops104 =>
                  refine GOps.cons_ (fun f w' K hW hd hK => ?_) ?_
                  · try simp only [depsOf, depsL, Region.binds, depsHold, nthS, List.getD_cons_zero, List.getD_cons_succ, isV, ownV, anyV, if_true, and_true, true_and] at hd
                    have kk2 : w'.cell? ⟨g7, 2, none⟩ = some (.int .i64 e2) := (Blk.below K7 hW (Blk.lt K7)).cell 2
                    go_simp
                    refine hK _ _ (Below.refl _ _) ?_
                    exact rfl
                  refine GOps.cons_ (fun f w' K hW hd hK => ?_) ?_
                  · try simp only [depsOf, depsL, Region.binds, depsHold, nthS, List.getD_cons_zero, List.getD_cons_succ, isV, ownV, anyV, if_true, and_true, true_and] at hd
                    have kk2 : w'.cell? ⟨g7, 2, none⟩ = some (.int .i64 e2) := (Blk.below K7 hW (Blk.lt K7)).cell 2
                    go_simp
                    refine hK _ _ (Below.refl _ _) ?_
                    exact rfl
                  refine GOps.cons_ (fun f w' K hW hd hK => ?_) ?_
                  · try simp only [depsOf, depsL, Region.binds, depsHold, nthS, List.getD_cons_zero, List.getD_cons_succ, isV, ownV, anyV, if_true, and_true, true_and] at hd
                    have kk2 : w'.cell? ⟨g7, 2, none⟩ = some (.int .i64 e2) := (Blk.below K7 hW (Blk.lt K7)).cell 2
                    go_simp
                    refine hK _ _ (Below.refl _ _) ?_
                    exact rfl
                  refine GOps.cons_ (fun f w' K hW hd hK => ?_) ?_
                  · try simp only [depsOf, depsL, Region.binds, depsHold, nthS, List.getD_cons_zero, List.getD_cons_succ, isV, ownV, anyV, if_true, and_true, true_and] at hd
                    have kk2 : w'.cell? ⟨g7, 2, none⟩ = some (.int .i64 e2) := (Blk.below K7 hW (Blk.lt K7)).cell 2
                    go_simp
                    refine hK _ _ (Below.refl _ _) ?_
                    exact rfl
                  exact GOps.nil_
                case hend104 =>
                  intro f w' hW hd
                  simp only [List.length_cons, List.length_nil, Nat.reduceAdd, List.range, List.range.loop, depsHold, nthS, List.getD_cons_zero, List.getD_cons_succ, isV, ownV, anyV, true_and, and_true] at hd
                  have h2 : f 2 = .slice none 0 0 := by simp only [hd]
                  have h3 : f 3 = .int .i64 e2 := by simp only [hd]
                  rw [h2, h3]
                  go_wp2
                  go_ret2
                  exact ⟨none, 0, 0, by rw [HRE.out]; rfl, by rw [HRE.out]; exact Own.nil _ _ _, hB7.trans (hW.mono hB7.size)⟩
        · have HRE : Hid (dApp xs ds = ([], e1)) := dApp_errL HS0.out (HRES.out.trans HDL.symm) (by rw [if_pos he1]) he1
          have e0 : (e1 != 0) = true := by rw [bne_iff_ne]; exact he1
          clear HDL
          go_wp2_with fail
          refine wp_region_grow (A := ?A2) [isV (.pointer (some ⟨g7, 2, none⟩)), isV (.int .i64 e1), isV (.slice none 0 0), isV (.int .i64 e1)] (((w2.setCell ⟨g7, 0, none⟩ (.slice D nd cd)).setCell ⟨g7, 1, none⟩ (.int .i64 p1)).setCell ⟨g7, 2, none⟩ (.int .i64 e1)) (by kernel_rfl) (by kernel_rfl) (fun f => ?hA2) (Below.refl _ _) ?hst2 ?hops2 ?hend2
          case hA2 =>
            simp only [fillFrom, Nat.zero_add, Nat.reduceAdd]
            go_frame
            with_reducible rfl
          case hst2 => repeat (first | exact trivial | refine ⟨stab_is _ _, ?_⟩ | refine ⟨stab_own _ _ _ _, ?_⟩ | refine ⟨stab_any _, ?_⟩ | refine ⟨stab_rd _ _ _, ?_⟩)
          case hops2 =>
            refine GOps.cons_ (fun f w' K hW hd hK => ?_) ?_
            · try simp only [depsOf, depsL, Region.binds, depsHold, nthS, List.getD_cons_zero, List.getD_cons_succ, isV, ownV, anyV, if_true, and_true, true_and] at hd
              have kk2 : w'.cell? ⟨g7, 2, none⟩ = some (.int .i64 e1) := (Blk.below K3 hW (Blk.lt K3)).cell 2
              go_simp
              refine hK _ _ (Below.refl _ _) ?_
              exact rfl
            refine GOps.cons_ (fun f w' K hW hd hK => ?_) ?_
            · try simp only [depsOf, depsL, Region.binds, depsHold, nthS, List.getD_cons_zero, List.getD_cons_succ, isV, ownV, anyV, if_true, and_true, true_and] at hd
              have kk2 : w'.cell? ⟨g7, 2, none⟩ = some (.int .i64 e1) := (Blk.below K3 hW (Blk.lt K3)).cell 2
              go_simp
              refine hK _ _ (Below.refl _ _) ?_
              exact rfl
            refine GOps.cons_ (fun f w' K hW hd hK => ?_) ?_
            · try simp only [depsOf, depsL, Region.binds, depsHold, nthS, List.getD_cons_zero, List.getD_cons_succ, isV, ownV, anyV, if_true, and_true, true_and] at hd
              have kk2 : w'.cell? ⟨g7, 2, none⟩ = some (.int .i64 e1) := (Blk.below K3 hW (Blk.lt K3)).cell 2
              go_simp
              refine hK _ _ (Below.refl _ _) ?_
              exact rfl
            refine GOps.cons_ (fun f w' K hW hd hK => ?_) ?_
            · try simp only [depsOf, depsL, Region.binds, depsHold, nthS, List.getD_cons_zero, List.getD_cons_succ, isV, ownV, anyV, if_true, and_true, true_and] at hd
              have kk2 : w'.cell? ⟨g7, 2, none⟩ = some (.int .i64 e1) := (Blk.below K3 hW (Blk.lt K3)).cell 2
              go_simp
              refine hK _ _ (Below.refl _ _) ?_
              exact rfl
            exact GOps.nil_
          case hend2 =>
            intro f w' hW hd
            simp only [List.length_cons, List.length_nil, Nat.reduceAdd, List.range, List.range.loop, depsHold, nthS, List.getD_cons_zero, List.getD_cons_succ, isV, ownV, anyV, true_and, and_true] at hd
            have h2 : f 2 = .slice none 0 0 := by simp only [hd]
            have h3 : f 3 = .int .i64 e1 := by simp only [hd]
            rw [h2, h3]
            go_wp2
            go_ret2
            exact ⟨none, 0, 0, by rw [HRE.out]; rfl, by rw [HRE.out]; exact Own.nil _ _ _, hB3.trans (hW.mono hB3.size)⟩
      · have hN : no = N := by omega
        have HDL := hdl.out
        rw [dLoop, if_neg hlt] at HDL
        have HAP := Lib.hid (dApp_done HS0.out (HRES.out.trans HDL.symm))
        have HNd := Lib.hid hno
        subst hN
        clear HDL hdl hno hlt
        by_cases hlong : p < (nd : Int)
        · have HRE : Hid (dApp xs ds = ([], 3)) := by unfold Hid; rw [HAP.out, ← HND.out, if_pos hlong]
          go_wp2
          go_ret2
          exact ⟨none, 0, 0, by rw [HRE.out]; rfl, by rw [HRE.out]; exact Own.nil _ _ _, hB⟩
        · have HR4 : Hid (dApp xs ds = if dMake xs done = ds then (done, 0) else ([], 4)) := by unfold Hid; rw [HAP.out, ← HND.out, if_neg hlong]
          go_wp2_with fail
          refine (rmake_any A Ao na ca no co xs done _ (rd_at hx hB) HNA.out ho.rd.2.2 HNd.out (by omega) (by omega) ho.rd.2.1).mono ?_
          rintro e w10 ⟨A4, n4, c4, rfl, ho4, hb10⟩
          have hB10 := below_call hB hb10
          have hML := dMake_len xs done (by have := HNd.out; omega)
          have hL4 : n4 = (dMake xs done).length := by rw [ho4.rd.1, cb_length]
          have HL4 := Lib.hid hL4
          have hl4 : n4 ≤ 1000000000 := by have := HNd.out; omega
          clear hL4 hML q0 q1 q2 f0 f1 f2
          go_wp2_with fail
          refine (requal_any A4 D n4 c4 nd cd (dMake xs done) ds _ ho4.rd.2.2 HL4.out (rd_at hd0 hB10) HND.out hl4 (by omega)).mono ?_
          cases hq : eqB (dMake xs done) ds
          · have HR5 : Hid (dApp xs ds = ([], 4)) := by
              unfold Hid
              rw [HR4.out, if_neg (fun h => by rw [h] at hq; simp [eqB] at hq)]
            clear hq
            rintro e w11 ⟨rfl, hb11⟩
            go_wp2
            go_ret2
            exact ⟨none, 0, 0, by rw [HR5.out]; rfl, by rw [HR5.out]; exact Own.nil _ _ _, below_call hB10 hb11⟩
          · have HR5 : Hid (dApp xs ds = (done, 0)) := by
              unfold Hid
              rw [HR4.out, if_pos (by simpa [eqB] using hq)]
            clear hq
            rintro e w11 ⟨rfl, hb11⟩
            go_wp2
            go_ret2
            exact ⟨Ao, no, co, by rw [HR5.out]; rfl, by rw [HR5.out]; exact (ho.below hb10).below hb11, below_call hB10 hb11⟩
  · have HRE : Hid (dApp xs ds = ([], E0)) := dApp_err0 (by rw [hS]) hE0
    have e0 : (E0 != 0) = true := by rw [bne_iff_ne]; exact hE0
    have e1 : (E0 == 0) = false := by rw [beq_eq_false_iff_ne]; exact hE0
    clear hS hE0
    go_enter Try.func27, Try.ntmps27
    go_wp2_with fail
    refine (rtakeSize_any D nd cd 0 0 65536 ds _ hd0 HND.out (by omega) hbd).mono ?_
    rw [HS0.out]
    rintro e w1 ⟨rfl, hb1⟩
    have hB1 : Below w.heap.size w (w1.alloc (.cells #[.slice D nd cd, .int .i64 p0, .int .i64 E0] 53)) := hb1.alloc hb1.size _
    have K70 := Blk.new w1 53 [.slice D nd cd, .int .i64 p0, .int .i64 E0]
    go_wp2_with fail
    generalize w1.alloc (.cells #[.slice D nd cd, .int .i64 p0, .int .i64 E0] 53) = W0 at *
    generalize w1.heap.size = g7 at *
    go_loopg [8, 9, 10] 1 (fun _ ov _ _ wr => ov = .slice none 0 0 ∧ Below w.heap.size w wr ∧ Blk wr g7 53 [.slice D nd cd, .int .i64 p0, .int .i64 E0])
    case atStart => exact ⟨rfl, hB1, K70⟩
    case round =>
      clear hB1 K70 hb1
      obtain ⟨rfl, hB, K7⟩ := hrel
      obtain ⟨q0, q1, q2, f0, f1, f2⟩ := K7.three
      have lt7 := K7.lt
      go_wp2_with fail
      refine wp_region_grow (A := ?A3) [isV (.pointer (some ⟨g7, 2, none⟩)), isV (.int .i64 E0), isV (.slice none 0 0), isV (.int .i64 E0)] (wr) (by kernel_rfl) (by kernel_rfl) (fun f => ?hA3) (Below.refl _ _) ?hst3 ?hops3 ?hend3
      case hA3 =>
        simp only [fillFrom, Nat.zero_add, Nat.reduceAdd]
        go_frame
        with_reducible rfl
      case hst3 => repeat (first | exact trivial | refine ⟨stab_is _ _, ?_⟩ | refine ⟨stab_own _ _ _ _, ?_⟩ | refine ⟨stab_any _, ?_⟩ | refine ⟨stab_rd _ _ _, ?_⟩)
      case hops3 =>
        refine GOps.cons_ (fun f w' K hW hd hK => ?_) ?_
        · try simp only [depsOf, depsL, Region.binds, depsHold, nthS, List.getD_cons_zero, List.getD_cons_succ, isV, ownV, anyV, if_true, and_true, true_and] at hd
          have kk2 : w'.cell? ⟨g7, 2, none⟩ = some (.int .i64 E0) := (Blk.below K7 hW (Blk.lt K7)).cell 2
          go_simp
          refine hK _ _ (Below.refl _ _) ?_
          exact rfl
        refine GOps.cons_ (fun f w' K hW hd hK => ?_) ?_
        · try simp only [depsOf, depsL, Region.binds, depsHold, nthS, List.getD_cons_zero, List.getD_cons_succ, isV, ownV, anyV, if_true, and_true, true_and] at hd
          have kk2 : w'.cell? ⟨g7, 2, none⟩ = some (.int .i64 E0) := (Blk.below K7 hW (Blk.lt K7)).cell 2
          go_simp
          refine hK _ _ (Below.refl _ _) ?_
          exact rfl
        refine GOps.cons_ (fun f w' K hW hd hK => ?_) ?_
        · try simp only [depsOf, depsL, Region.binds, depsHold, nthS, List.getD_cons_zero, List.getD_cons_succ, isV, ownV, anyV, if_true, and_true, true_and] at hd
          have kk2 : w'.cell? ⟨g7, 2, none⟩ = some (.int .i64 E0) := (Blk.below K7 hW (Blk.lt K7)).cell 2
          go_simp
          refine hK _ _ (Below.refl _ _) ?_
          exact rfl
        refine GOps.cons_ (fun f w' K hW hd hK => ?_) ?_
        · try simp only [depsOf, depsL, Region.binds, depsHold, nthS, List.getD_cons_zero, List.getD_cons_succ, isV, ownV, anyV, if_true, and_true, true_and] at hd
          have kk2 : w'.cell? ⟨g7, 2, none⟩ = some (.int .i64 E0) := (Blk.below K7 hW (Blk.lt K7)).cell 2
          go_simp
          refine hK _ _ (Below.refl _ _) ?_
          exact rfl
        exact GOps.nil_
      case hend3 =>
        intro f w' hW hd
        simp only [List.length_cons, List.length_nil, Nat.reduceAdd, List.range, List.range.loop, depsHold, nthS, List.getD_cons_zero, List.getD_cons_succ, isV, ownV, anyV, true_and, and_true] at hd
        have h2 : f 2 = .slice none 0 0 := by simp only [hd]
        have h3 : f 3 = .int .i64 E0 := by simp only [hd]
        rw [h2, h3]
        go_wp2
        go_ret2
        exact ⟨none, 0, 0, by rw [HRE.out]; rfl, by rw [HRE.out]; exact Own.nil _ _ _, hB.trans (hW.mono hB.size)⟩
end Go.Proofs.Ytjjgdjcapfenpaa
