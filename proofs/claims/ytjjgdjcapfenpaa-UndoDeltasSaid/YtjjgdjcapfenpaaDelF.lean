/- The contract of delta.Apply. -/
import Derived.Test.YtjjgdjcapfenpaaDelE
namespace Go.Proofs.Ytjjgdjcapfenpaa
open Go.RowKit Go.IntWalk
set_option maxRecDepth 100000
set_option linter.unusedVariables false
set_option linter.unusedSimpArgs false

theorem dApp_err0 {a d : List Int} {e : Int} (h : (sTS d 0 0 65536).2.2 = e) (he : e ≠ 0) : dApp a d = ([], e) := by unfold dApp; rw [h, if_pos he]
theorem dApp_errL {a d : List Int} {N : Nat} {p0 e : Int} {R : List Int × Int × Int} (h : sTS d 0 0 65536 = ((N : Int), p0, 0)) (hR : dLoop a d N (d.length + 1) p0 [] = R) (he : R.2.2 = e) (h0 : e ≠ 0) : dApp a d = ([], e) := by
  unfold dApp
  simp only [h, ne_eq, not_true_eq_false, if_false, Int.toNat_natCast, hR, he]
  rw [if_pos h0]
theorem dApp_done {a d : List Int} {N : Nat} {p0 p : Int} {out : List Int} (h : sTS d 0 0 65536 = ((N : Int), p0, 0)) (hR : dLoop a d N (d.length + 1) p0 [] = (out, p, 0)) :
    dApp a d = if p < d.length then ([], 3) else if dMake a out = d then (out, 0) else ([], 4) := by
  unfold dApp
  simp only [h, ne_eq, not_true_eq_false, if_false, Int.toNat_natCast, hR]
theorem splice_done (done X : List Int) (r : Nat) (h : X.length ≤ r) : splice (cb .u8 (done ++ List.replicate r 0)) done.length (cb .u8 X) = cb .u8 ((done ++ X) ++ List.replicate (r - X.length) 0) := by
  unfold splice
  have e1 : (cb .u8 (done ++ List.replicate r 0)).take done.length = cb .u8 done := by rw [cb_take, List.take_left]
  have e2 : (cb .u8 (done ++ List.replicate r 0)).drop (done.length + (cb IntKind.u8 X).length) = cb .u8 (List.replicate (r - X.length) 0) := by
    rw [cb_drop, cb_length, List.drop_append, List.drop_of_length_le (by omega), List.nil_append, List.drop_replicate]
    congr 2
    omega
  rw [e1, e2, ← cb_append, ← cb_append, List.append_assoc]
theorem own_of_blk {w : World} {g base : Nat} {e : TypeId} {xs : List Value} (h : Blk w g e xs) (hb : base ≤ g) (hm : xs.length ≤ 9223372036854775807) : Own w base e (.slice (some ⟨g, 0, none⟩) xs.length xs.length) xs :=
  ⟨by simp, .inr ⟨g, xs.length, xs.toArray, rfl, hb, h, Nat.le_refl _, by simpa [maxLen] using hm, by simp, by simp⟩⟩
theorem made_zeros (n : Nat) : madeCells #[.int .u8 0] n = (cb .u8 (List.replicate n 0)).toArray := by
  apply Array.ext'
  simp [madeCells, cb, Nat.mod_one, List.map_const']
theorem sGrp_err0 (xs : List Int) (at0 most : Int) : ∀ (f k : Nat) (n s p e : Int), sGrp xs at0 most f k n = (s, p, e) → e ≠ 0 → s = 0
  | 0, _, _, _, _, _, h, _ => by simp [sGrp] at h; exact h.1.symm
  | f + 1, k, n, s, p, e, h, he => by
    unfold sGrp at h
    split at h
    · simp at h; exact h.1.symm
    · split at h
      · simp at h; exact h.1.symm
      · split at h
        · split at h
          · simp at h; exact h.1.symm
          · simp at h; exact absurd h.2.2.symm he
        · exact sGrp_err0 xs at0 most f (k + 1) _ s p e h he
theorem sTS_err0 (xs : List Int) (p most s q e : Int) (h : sTS xs p 0 most = (s, q, e)) (he : e ≠ 0) : s = 0 := by
  unfold sTS at h
  rw [if_neg (by simp)] at h
  exact sGrp_err0 xs p most 6 0 0 s q e h he
theorem rd_old {w W w' : World} {A : Option Addr} {xs : List Value} (h : Rd w w.heap.size A xs) (hb : Below w.heap.size w W) (hc : Below w.heap.size W w') : Rd w' w.heap.size A xs := (h.below hb).below hc
def AppP (w : World) (r : List Int × Int) (e : Ending) (w' : World) : Prop := ∃ A n c, e = .returned (.tuple #[.slice A n c, .int .i64 r.2]) ∧ Own w' w.heap.size 5 (.slice A n c) (cb .u8 r.1) ∧ Below w.heap.size w w'
set_option maxHeartbeats 12800000 in
theorem apply_any (A D : Option Addr) (na ca nd cd : Nat) (xs ds : List Int) (w : World) (hx : Rd w w.heap.size A (cb .u8 xs)) (hna : na = xs.length) (hca : na ≤ ca) (hbx : Byt xs) (hd0 : Rd w w.heap.size D (cb .u8 ds)) (hnd : nd = ds.length) (hcd : nd ≤ cd) (hbd : Byt ds) (hl : na ≤ 1000000) (hl' : nd ≤ 1000000) :
    Calls Try.prog 26 #[.slice A na ca, .slice D nd cd] w (AppP w (dApp xs ds)) := by
  have HNA := Lib.hid hna
  have HND := Lib.hid hnd
  clear hna hnd
  obtain ⟨N0, p0, E0, hS⟩ : ∃ s p E, sTS ds 0 0 65536 = (s, p, E) := ⟨_, _, _, rfl⟩
  have HS0 := Lib.hid hS
  by_cases hE0 : E0 = 0
  · subst hE0
    have hok := sTS_ok ds hbd 0 65536 (Int.le_refl _) (by rw [hS])
    rw [hS] at hok
    simp only at hok
    obtain ⟨hp0, hpn, hn0, hnm⟩ := hok
    rw [← HND.out] at hpn
    obtain ⟨N, rfl⟩ := Int.eq_ofNat_of_zero_le hn0
    clear hS
    go_enter Try.func26, Try.ntmps26
    go_wp2_with fail
    refine (takeSize_any D nd cd 0 0 65536 ds _ hd0 HND.out hcd (by omega) hbd).mono ?_
    rw [HS0.out]
    rintro e w1 ⟨rfl, hb1⟩
    obtain ⟨i0, hi, hz, hsz, hby⟩ := info_parts infoU8
    have hmk := run_make (P := Try.prog) (w1.alloc (.cells #[.slice D nd cd, .int .i64 p0, .int .i64 0] 53)) 22 _ i0 _ Try.underlying22 hi hz .i64 .i64 N N (by omega) (Int.le_refl _) (by rw [hby]; omega) (by omega)
    rw [hsz] at hmk
    simp only [Int.toNat_natCast, Nat.mul_one] at hmk
    have hz1 : (Value.int IntKind.u8 0).cells = #[.int .u8 0] := rfl
    rw [hz1, made_zeros] at hmk
    clear hi hz hsz hby hz1
    go_wp2_with fail
    have hB1 : Below w.heap.size w ((w1.alloc (.cells #[.slice D nd cd, .int .i64 p0, .int .i64 0] 53)).alloc (.cells (cb .u8 (List.replicate N 0)).toArray 5)) := (hb1.alloc hb1.size _).alloc (Nat.le_trans hb1.size (by simp)) _
    have K70 : Blk _ w1.heap.size _ _ := (Blk.new w1 53 [.slice D nd cd, .int .i64 p0, .int .i64 0]).alloc (.cells (cb .u8 (List.replicate N 0)).toArray 5)
    have KO0 := blk_at (g := w1.heap.size + 1) (w1.alloc (.cells #[.slice D nd cd, .int .i64 p0, .int .i64 0] 53)) 5 (cb .u8 (List.replicate N 0)) (by simp)
    generalize (w1.alloc (.cells #[.slice D nd cd, .int .i64 p0, .int .i64 0] 53)).alloc (.cells (cb .u8 (List.replicate N 0)).toArray 5) = W0 at *
    obtain ⟨g7, hg7⟩ : ∃ g, w1.heap.size = g := ⟨_, rfl⟩
    have hg7w : w.heap.size ≤ g7 := by rw [← hg7]; exact hb1.size
    have hgo : (w1.alloc (.cells #[.slice D nd cd, .int .i64 p0, .int .i64 0] 53)).heap.size = g7 + 1 := by simp [hg7]
    rw [hg7] at K70 KO0
    try rw [hgo]
    try rw [hg7]
    clear hmk hg7 hb1 hgo
    obtain ⟨RES, hRES⟩ : ∃ Q, dLoop xs ds N (ds.length + 1) p0 [] = Q := ⟨_, rfl⟩
    have HRES := Lib.hid hRES
    go_loopg [9, 10, 11] (nd + 1) (fun k iv _ _ wr => ∃ (m p E : Int) (done : List Int), iv = .int .i64 m ∧ 0 ≤ m ∧ m ≤ N ∧ Below w.heap.size w wr ∧ Blk wr g7 53 [.slice D nd cd, .int .i64 p, .int .i64 E] ∧
      ((E = 0 ∧ m = done.length ∧ Blk wr (g7 + 1) 5 (cb .u8 (done ++ List.replicate (N - done.length) 0)) ∧ Hid (dLoop xs ds N k p done = RES) ∧ 0 ≤ p ∧ p ≤ nd ∧ (nd : Int) < p + k) ∨ (E ≠ 0 ∧ Hid (dApp xs ds = ([], E)))))
    case atStart => exact ⟨0, p0, 0, [], rfl, by omega, by omega, hB1, K70, .inl ⟨rfl, rfl, (by simpa using KO0), by unfold Hid; rw [HND.out]; exact hRES, by omega, by omega, by omega⟩⟩
    case round =>
      clear hB1 K70 KO0 hRES
      obtain ⟨m, p, E, done, rfl, hm0, hmN, hB, K7, hmode⟩ := hrel
      obtain ⟨q0, q1, q2, f0, f1, f2⟩ := K7.three
      have lt7 := K7.lt
      rcases hmode with ⟨rfl, rfl, KO, hdl, hp1, hp2, hfu⟩ | ⟨hE, hRE⟩
      · by_cases hlt : done.length < N
        · have hlti : (done.length : Int) < (N : Int) := by omega
          obtain ⟨MX, hMX⟩ : ∃ MX, (if (na : Int) - (done.length : Int) > 0 then (na : Int) - (done.length : Int) else 0) = MX := ⟨_, rfl⟩
          obtain ⟨MI, hMI⟩ : ∃ MI, (if MX < (N : Int) - (done.length : Int) then MX else (N : Int) - (done.length : Int)) = MI := ⟨_, rfl⟩
          have hmx : ∀ (ts : Array TypeId) (t : TypeId) (w : World), (Builtin.max_ ts t #[.int .i64 0, .int .i64 ((na : Int) - (done.length : Int))]).run Try.prog w = .ok (.int .i64 MX) w := fun ts t w => by rw [run_max_int2, hMX]
          have hmi : ∀ (ts : Array TypeId) (t : TypeId) (w : World), (Builtin.min_ ts t #[.int .i64 ((N : Int) - (done.length : Int)), .int .i64 MX]).run Try.prog w = .ok (.int .i64 MI) w := fun ts t w => by rw [run_min_int2, hMI]
          have HMI : Hid (MI = min ((N : Int) - done.length) (max 0 ((xs.length : Int) - done.length))) := by
            unfold Hid
            rw [← HNA.out, ← hMI, ← hMX]
            omega
          clear hMX hMI
          go_wp2_with fail
          obtain ⟨s1, p1, e1, hS1⟩ : ∃ s q F, sTS ds p 0 65536 = (s, q, F) := ⟨_, _, _, rfl⟩
          refine (count_any D nd cd p 0 MI ds _ (rd_at hd0 hB) HND.out hcd (by omega) hbd).mono ?_
          rw [hS1]
          rintro e w2 ⟨rfl, hb2⟩
          have HS1 := Lib.hid hS1
          obtain ⟨k, rfl⟩ : ∃ k, gk = k + 1 := ⟨gk - 1, by omega⟩
          have HDL := hdl.out
          rw [dLoop, if_pos hlt, hS1, ← HMI.out] at HDL
          simp only at HDL
          have hB2 := below_call hB hb2
          have K72 := K7.below hb2 K7.lt
          have KO2 := KO.below hb2 KO.lt
          clear q0 q1 q2 f0 f1 f2
          obtain ⟨q0, q1, q2, f0, f1, f2⟩ := K72.three
          have lt72 := K72.lt
          clear K7 KO hS1 hmx hmi lt7
          by_cases hce : cntE e1 s1 MI = 0
          · have he1 : e1 = 0 := by
              by_cases h : e1 = 0
              · exact h
              · unfold cntE at hce; rw [if_neg (fun hh => h hh.1)] at hce; exact hce
            subst he1
            have hsM : ¬ MI < s1 := by
              intro h
              unfold cntE at hce
              rw [if_pos ⟨rfl, h⟩] at hce
              omega
            have hok1 := sTS_ok ds hbd p 65536 hp1 (by rw [HS1.out])
            rw [HS1.out, ← HND.out] at hok1
            simp only at hok1
            obtain ⟨hq1, hq2, hs0, _⟩ := hok1
            obtain ⟨s, rfl⟩ := Int.eq_ofNat_of_zero_le hs0
            obtain ⟨t1, rfl⟩ := Int.eq_ofNat_of_zero_le (show (0 : Int) ≤ p1 by omega)
            rw [if_neg (by simp), if_neg hsM] at HDL
            rw [hce]
            have hB3 := ((hB2.setCell (p := ⟨g7, 0, none⟩) hg7w (.slice D nd cd)).setCell (p := ⟨g7, 1, none⟩) hg7w (.int .i64 t1)).setCell (p := ⟨g7, 2, none⟩) hg7w (.int .i64 0)
            have K73 : Blk _ g7 53 [.slice D nd cd, .int .i64 t1, .int .i64 0] := ((K72.set_ 0 (.slice D nd cd)).set_ 1 (.int .i64 t1)).set_ 2 (.int .i64 0)
            have KO3 := ((KO2.far (p := ⟨g7, 0, none⟩) (by simp) (.slice D nd cd)).far (p := ⟨g7, 1, none⟩) (by simp) (.int .i64 t1)).far (p := ⟨g7, 2, none⟩) (by simp) (.int .i64 0)
            go_wp2_with fail
            generalize ((w2.setCell ⟨g7, 0, none⟩ (.slice D nd cd)).setCell ⟨g7, 1, none⟩ (.int .i64 t1)).setCell ⟨g7, 2, none⟩ (.int .i64 0) = W3 at *
            clear q0 q1 q2 f0 f1 f2 lt72 K72 KO2 hB2 hb2 hB hce
            have hMN := HMI.out
            rw [← HNA.out] at hMN
            generalize hi : done.length = i at *
            have hiN : i + s ≤ N := by omega
            have hia : s = 0 ∨ i + s ≤ na := by omega
            obtain ⟨i2, hi2⟩ : ∃ i2, i + s = i2 := ⟨_, rfl⟩
            have his : (i : Int) + (s : Int) = (i2 : Int) := by omega
            have hwk : IntKind.i64.wrap (i2 : Int) = (i2 : Int) := i64_in _ (by omega)
            obtain ⟨mj, hmj⟩ : ∃ mj : Nat, (if (na : Int) < (i : Int) then (na : Int) else (i : Int)) = (mj : Int) := ⟨min i na, by omega⟩
            have hmjc : mj ≤ na := by omega
            have hmjd : s = 0 ∨ mj = i := by omega
            have hmi : ∀ (ts : Array TypeId) (t : TypeId) (w : World), (Builtin.min_ ts t #[.int .i64 (i : Int), .int .i64 (na : Int)]).run Try.prog w = .ok (.int .i64 mj) w := fun ts t w => by rw [run_min_int2, hmj]
            obtain ⟨X, hX⟩ : ∃ X, (xs.drop i).take s = X := ⟨_, rfl⟩
            have hXl : X.length = s := by rw [← hX, List.length_take, List.length_drop, ← HNA.out]; omega
            obtain ⟨Am, hAm⟩ : ∃ Am, (if ca = mj then A else A.map (·.add mj)) = Am := ⟨_, rfl⟩
            have hrm0 : Rd w w.heap.size Am (cb .u8 X) := by
              rcases hmjd with h0 | h0
              · have : X = [] := List.eq_nil_of_length_eq_zero (by omega)
                rw [this]; exact Rd.nil _ _ _
              · have := (slice_at_drop hx HNA.out mj hmjc hca).take s
                rw [cb_take, hAm, h0, hX] at this
                exact this
            have HAM := Lib.hid hAm
            have HXL := Lib.hid hXl
            have HX := Lib.hid hX
            have hsp := splice_done done X (N - i) (by omega)
            rw [hi, hXl] at hsp
            have HSP := Lib.hid hsp
            have HI := Lib.hid hi
            have HI2 := Lib.hid hi2
            have HCX : Hid ((cb IntKind.u8 X).length = Nat.min (na - mj) s) := by unfold Hid; rw [cb_length, hXl]; exact (Nat.min_eq_right (by omega)).symm
            have HFT : Hid (i + (cb IntKind.u8 X).length ≤ (cb IntKind.u8 (done ++ List.replicate (N - i) 0)).length) := by unfold Hid; rw [cb_length, cb_length, hXl, List.length_append, hi, List.length_replicate]; omega
            have HBX : Hid (i2 ≤ N ∧ i ≤ N ∧ mj ≤ ca ∧ s ≤ N) := ⟨by omega, by omega, by omega, by omega⟩
            obtain ⟨hb1, hb2, hb3, hb4⟩ := HBX.out
            have hniN : ¬ N = i := by omega
            have hniN' : ¬ i = N := by omega
            have hii2 : i ≤ i2 := by omega
            have hi2s : i2 - i = s := by omega
            have hlto := KO3.lt
            have hlt7 := K73.lt
            obtain ⟨s2, p2, e2, hS2⟩ : ∃ s q F, sTS ds (t1 : Int) 0 65536 = (s, q, F) := ⟨_, _, _, rfl⟩
            have hl2 : (done ++ X).length = i2 := by rw [List.length_append, hXl]; omega
            have HD2 : Hid ((if e2 ≠ 0 then (done, (0 : Int), e2) else if (N : Int) - (i2 : Int) < s2 then (done, 0, 5) else if (nd : Int) - p2 < s2 then (done, 0, 2) else dLoop xs ds N k (p2 + s2) ((done ++ X) ++ (ds.drop p2.toNat).take s2.toNat)) = RES) := by
              unfold Hid
              rw [← HDL]
              simp only [Int.toNat_natCast, hX, hS2, hl2, HND.out]
            have HS2 := Lib.hid hS2
            have HL2 := Lib.hid hl2
            clear hX hXl hAm hsp hi hi2 hMN hmj hmjd hia hsM HDL hS2 hl2
            have hst : StabL2 (w.heap.size) (W3) [sV 16 (.int .i64 i) 0, sV 16 (.slice (some ⟨g7 + 1, 0, none⟩) N N) 1, sV 16 (.int .i64 i) 2, sV 16 (.int .i64 i) 3, sV 16 (.int .i64 s) 4, sV 16 (.int .i64 i2) 5, sV 16 (.slice (some ⟨g7 + 1, i, none⟩) s (N - i)) 6, sV 16 (.slice A na ca) 7, sV 16 (.int .i64 i) 8, sV 16 (.slice A na ca) 9, sV 16 (.int .i64 na) 10, sV 16 (.int .i64 mj) 11, sV 16 (.slice Am (na - mj) (ca - mj)) 12, ⟨13, 16, fun _ v w' => v = .int .i64 s ∧ Blk w' (g7 + 1) 5 (cb .u8 ((done ++ X) ++ List.replicate (N - i - s) 0))⟩, sV 16 (.int .i64 i2) 14, sV 16 (.int .i64 i2) 15, ⟨16, 13, fun _ _ w' => Blk w' (g7 + 1) 5 (cb .u8 (done ++ List.replicate (N - i) 0))⟩] := by
              repeat (first | exact trivial | refine ⟨stab2_v _ _ _, ?_⟩ | refine ⟨fun _ _ _ _ _ _ _ h => h, ?_⟩ | refine ⟨fun _ _ _ _ _ _ hb h => Blk.below h hb (Blk.lt h), ?_⟩ | refine ⟨fun _ _ _ _ _ _ hb h => ⟨h.1, Blk.below h.2 hb (Blk.lt h.2)⟩, ?_⟩ | refine ⟨stab2_own _ _ _ _ _, ?_⟩ | refine ⟨stab2_any _ _, ?_⟩ | refine ⟨stab2_blk _ _ _ _ _, ?_⟩ | refine ⟨stab2_set _ _ _ _ _, ?_⟩)
            refine wp_region_lay (A := ?A1) [sV 16 (.int .i64 i) 0, sV 16 (.slice (some ⟨g7 + 1, 0, none⟩) N N) 1, sV 16 (.int .i64 i) 2, sV 16 (.int .i64 i) 3, sV 16 (.int .i64 s) 4, sV 16 (.int .i64 i2) 5, sV 16 (.slice (some ⟨g7 + 1, i, none⟩) s (N - i)) 6, sV 16 (.slice A na ca) 7, sV 16 (.int .i64 i) 8, sV 16 (.slice A na ca) 9, sV 16 (.int .i64 na) 10, sV 16 (.int .i64 mj) 11, sV 16 (.slice Am (na - mj) (ca - mj)) 12, ⟨13, 16, fun _ v w' => v = .int .i64 s ∧ Blk w' (g7 + 1) 5 (cb .u8 ((done ++ X) ++ List.replicate (N - i - s) 0))⟩, sV 16 (.int .i64 i2) 14, sV 16 (.int .i64 i2) 15, ⟨16, 13, fun _ _ w' => Blk w' (g7 + 1) 5 (cb .u8 (done ++ List.replicate (N - i) 0))⟩] 16 (w.heap.size) (W3) (fun w' => Blk w' g7 53 [.slice D nd cd, .int .i64 t1, .int .i64 0]) (by kernel_rfl) (by kernel_rfl) (by rfl) (by rfl) rfl (fun f => ?hA1) (Below.refl _ _) K73 (fun f => ⟨KO3, trivial⟩) ?hops1 ?hend1
            case hA1 =>
              simp only [fillFrom, Nat.zero_add, Nat.reduceAdd]
              go_frame
              with_reducible rfl
            case hops1 =>
              refine LOps.grow_ hst hB3.size (fun _ _ _ _ hb h => h.below hb h.lt) (fun f w' K hW hJw hd hu hx_ hK => ?_) ?_
              · simp only [depsOf, depsL, Region.binds, depsHold2, spHold, spAt, List.getD_cons_zero, List.getD_cons_succ, sV, sAny, sOwn, sBlk, sSet, if_true, and_true, true_and, Nat.reduceLeDiff, Nat.reduceEqDiff, Nat.reduceAdd, Nat.zero_add, Nat.le_refl, or_true, true_or, or_false, false_or, if_false, reduceIte] at hd
                have e15 : f 15 = .int .i64 i := hu 15 (by kernel_rfl)
                go_simp
                refine hK _ _ (Below.refl _ _) ?_
                exact rfl
              refine LOps.grow_ hst hB3.size (fun _ _ _ _ hb h => h.below hb h.lt) (fun f w' K hW hJw hd hu hx_ hK => ?_) ?_
              · simp only [depsOf, depsL, Region.binds, depsHold2, spHold, spAt, List.getD_cons_zero, List.getD_cons_succ, sV, sAny, sOwn, sBlk, sSet, if_true, and_true, true_and, Nat.reduceLeDiff, Nat.reduceEqDiff, Nat.reduceAdd, Nat.zero_add, Nat.le_refl, or_true, true_or, or_false, false_or, if_false, reduceIte] at hd
                go_simp
                refine hK _ _ (Below.refl _ _) ?_
                exact rfl
              refine LOps.grow_ hst hB3.size (fun _ _ _ _ hb h => h.below hb h.lt) (fun f w' K hW hJw hd hu hx_ hK => ?_) ?_
              · simp only [depsOf, depsL, Region.binds, depsHold2, spHold, spAt, List.getD_cons_zero, List.getD_cons_succ, sV, sAny, sOwn, sBlk, sSet, if_true, and_true, true_and, Nat.reduceLeDiff, Nat.reduceEqDiff, Nat.reduceAdd, Nat.zero_add, Nat.le_refl, or_true, true_or, or_false, false_or, if_false, reduceIte] at hd
                have e15 : f 15 = .int .i64 i := hu 15 (by kernel_rfl)
                go_simp
                refine hK _ _ (Below.refl _ _) ?_
                exact rfl
              refine LOps.grow_ hst hB3.size (fun _ _ _ _ hb h => h.below hb h.lt) (fun f w' K hW hJw hd hu hx_ hK => ?_) ?_
              · simp only [depsOf, depsL, Region.binds, depsHold2, spHold, spAt, List.getD_cons_zero, List.getD_cons_succ, sV, sAny, sOwn, sBlk, sSet, if_true, and_true, true_and, Nat.reduceLeDiff, Nat.reduceEqDiff, Nat.reduceAdd, Nat.zero_add, Nat.le_refl, or_true, true_or, or_false, false_or, if_false, reduceIte] at hd
                have e15 : f 15 = .int .i64 i := hu 15 (by kernel_rfl)
                go_simp
                refine hK _ _ (Below.refl _ _) ?_
                exact rfl
              refine LOps.grow_ hst hB3.size (fun _ _ _ _ hb h => h.below hb h.lt) (fun f w' K hW hJw hd hu hx_ hK => ?_) ?_
              · simp only [depsOf, depsL, Region.binds, depsHold2, spHold, spAt, List.getD_cons_zero, List.getD_cons_succ, sV, sAny, sOwn, sBlk, sSet, if_true, and_true, true_and, Nat.reduceLeDiff, Nat.reduceEqDiff, Nat.reduceAdd, Nat.zero_add, Nat.le_refl, or_true, true_or, or_false, false_or, if_false, reduceIte] at hd
                go_simp
                refine hK _ _ (Below.refl _ _) ?_
                exact rfl
              refine LOps.grow_ hst hB3.size (fun _ _ _ _ hb h => h.below hb h.lt) (fun f w' K hW hJw hd hu hx_ hK => ?_) ?_
              · simp only [depsOf, depsL, Region.binds, depsHold2, spHold, spAt, List.getD_cons_zero, List.getD_cons_succ, sV, sAny, sOwn, sBlk, sSet, if_true, and_true, true_and, Nat.reduceLeDiff, Nat.reduceEqDiff, Nat.reduceAdd, Nat.zero_add, Nat.le_refl, or_true, true_or, or_false, false_or, if_false, reduceIte] at hd
                go_simp
                refine hK _ _ (Below.refl _ _) ?_
                exact rfl
              refine LOps.grow_ hst hB3.size (fun _ _ _ _ hb h => h.below hb h.lt) (fun f w' K hW hJw hd hu hx_ hK => ?_) ?_
              · simp only [depsOf, depsL, Region.binds, depsHold2, spHold, spAt, List.getD_cons_zero, List.getD_cons_succ, sV, sAny, sOwn, sBlk, sSet, if_true, and_true, true_and, Nat.reduceLeDiff, Nat.reduceEqDiff, Nat.reduceAdd, Nat.zero_add, Nat.le_refl, or_true, true_or, or_false, false_or, if_false, reduceIte] at hd
                go_simp
                refine hK _ _ (Below.refl _ _) ?_
                exact rfl
              refine LOps.grow_ hst hB3.size (fun _ _ _ _ hb h => h.below hb h.lt) (fun f w' K hW hJw hd hu hx_ hK => ?_) ?_
              · simp only [depsOf, depsL, Region.binds, depsHold2, spHold, spAt, List.getD_cons_zero, List.getD_cons_succ, sV, sAny, sOwn, sBlk, sSet, if_true, and_true, true_and, Nat.reduceLeDiff, Nat.reduceEqDiff, Nat.reduceAdd, Nat.zero_add, Nat.le_refl, or_true, true_or, or_false, false_or, if_false, reduceIte] at hd
                go_simp
                refine hK _ _ (Below.refl _ _) ?_
                exact rfl
              refine LOps.grow_ hst hB3.size (fun _ _ _ _ hb h => h.below hb h.lt) (fun f w' K hW hJw hd hu hx_ hK => ?_) ?_
              · simp only [depsOf, depsL, Region.binds, depsHold2, spHold, spAt, List.getD_cons_zero, List.getD_cons_succ, sV, sAny, sOwn, sBlk, sSet, if_true, and_true, true_and, Nat.reduceLeDiff, Nat.reduceEqDiff, Nat.reduceAdd, Nat.zero_add, Nat.le_refl, or_true, true_or, or_false, false_or, if_false, reduceIte] at hd
                have e15 : f 15 = .int .i64 i := hu 15 (by kernel_rfl)
                go_simp
                refine hK _ _ (Below.refl _ _) ?_
                exact rfl
              refine LOps.grow_ hst hB3.size (fun _ _ _ _ hb h => h.below hb h.lt) (fun f w' K hW hJw hd hu hx_ hK => ?_) ?_
              · simp only [depsOf, depsL, Region.binds, depsHold2, spHold, spAt, List.getD_cons_zero, List.getD_cons_succ, sV, sAny, sOwn, sBlk, sSet, if_true, and_true, true_and, Nat.reduceLeDiff, Nat.reduceEqDiff, Nat.reduceAdd, Nat.zero_add, Nat.le_refl, or_true, true_or, or_false, false_or, if_false, reduceIte] at hd
                go_simp
                refine hK _ _ (Below.refl _ _) ?_
                exact rfl
              refine LOps.grow_ hst hB3.size (fun _ _ _ _ hb h => h.below hb h.lt) (fun f w' K hW hJw hd hu hx_ hK => ?_) ?_
              · simp only [depsOf, depsL, Region.binds, depsHold2, spHold, spAt, List.getD_cons_zero, List.getD_cons_succ, sV, sAny, sOwn, sBlk, sSet, if_true, and_true, true_and, Nat.reduceLeDiff, Nat.reduceEqDiff, Nat.reduceAdd, Nat.zero_add, Nat.le_refl, or_true, true_or, or_false, false_or, if_false, reduceIte] at hd
                go_simp
                refine hK _ _ (Below.refl _ _) ?_
                exact rfl
              refine LOps.grow_ hst hB3.size (fun _ _ _ _ hb h => h.below hb h.lt) (fun f w' K hW hJw hd hu hx_ hK => ?_) ?_
              · simp only [depsOf, depsL, Region.binds, depsHold2, spHold, spAt, List.getD_cons_zero, List.getD_cons_succ, sV, sAny, sOwn, sBlk, sSet, if_true, and_true, true_and, Nat.reduceLeDiff, Nat.reduceEqDiff, Nat.reduceAdd, Nat.zero_add, Nat.le_refl, or_true, true_or, or_false, false_or, if_false, reduceIte] at hd
                go_simp
                refine hK _ _ (Below.refl _ _) ?_
                exact rfl
              refine LOps.grow_ hst hB3.size (fun _ _ _ _ hb h => h.below hb h.lt) (fun f w' K hW hJw hd hu hx_ hK => ?_) ?_
              · simp only [depsOf, depsL, Region.binds, depsHold2, spHold, spAt, List.getD_cons_zero, List.getD_cons_succ, sV, sAny, sOwn, sBlk, sSet, if_true, and_true, true_and, Nat.reduceLeDiff, Nat.reduceEqDiff, Nat.reduceAdd, Nat.zero_add, Nat.le_refl, or_true, true_or, or_false, false_or, if_false, reduceIte] at hd
                go_simp
                refine hK _ _ (Below.refl _ _) ?_
                show Value.slice _ _ _ = Value.slice _ _ _
                rw [← HAM.out]
              refine LOps.put_ [0, 1, 2, 3, 4, 5, 6, 7, 8, 9, 10, 11, 12] (by rfl) (fun f w' K hW hJw hd hu hx_ hK => ?_) ?_
              · simp only [depsOf, depsL, Region.binds, depsHold2, spHold, spAt, List.getD_cons_zero, List.getD_cons_succ, sV, sAny, sOwn, sBlk, sSet, if_true, and_true, true_and, Nat.reduceLeDiff, Nat.reduceEqDiff, Nat.reduceAdd, Nat.zero_add, Nat.le_refl, or_true, true_or, or_false, false_or, if_false, reduceIte] at hd
                obtain ⟨e6, e12⟩ := hd
                have KG : Blk w' (g7 + 1) 5 (cb .u8 (done ++ List.replicate (N - i) 0)) := hx_ 16 (by omega) (by kernel_rfl)
                refine want_pos rfl ?_
                refine grows_cpy (P := Try.prog) Try.underlying22 hszU8 KG (rd_old hrm0 hB3 hW) HCX.out (fun _ => rfl) HFT.out (cb_one _ _) _ _ rfl e6 e12 ?_
                intro w5 KG5 hb5
                rw [HSP.out] at KG5
                rw [cb_length, HXL.out]
                refine hK _ _ (hb5.below (by omega) (Nat.le_trans hB3.size hW.size)) (hb5.blk hJw (by omega)) ?_ ⟨rfl, KG5⟩
                repeat (first | exact trivial | refine ⟨fun x y h => h, ?_⟩)
              refine LOps.grow_ hst hB3.size (fun _ _ _ _ hb h => h.below hb h.lt) (fun f w' K hW hJw hd hu hx_ hK => ?_) ?_
              · simp only [depsOf, depsL, Region.binds, depsHold2, spHold, spAt, List.getD_cons_zero, List.getD_cons_succ, sV, sAny, sOwn, sBlk, sSet, if_true, and_true, true_and, Nat.reduceLeDiff, Nat.reduceEqDiff, Nat.reduceAdd, Nat.zero_add, Nat.le_refl, or_true, true_or, or_false, false_or, if_false, reduceIte] at hd
                go_simp
                refine hK _ _ (Below.refl _ _) ?_
                exact rfl
              refine LOps.grow_ hst hB3.size (fun _ _ _ _ hb h => h.below hb h.lt) (fun f w' K hW hJw hd hu hx_ hK => ?_) ?_
              · simp only [depsOf, depsL, Region.binds, depsHold2, spHold, spAt, List.getD_cons_zero, List.getD_cons_succ, sV, sAny, sOwn, sBlk, sSet, if_true, and_true, true_and, Nat.reduceLeDiff, Nat.reduceEqDiff, Nat.reduceAdd, Nat.zero_add, Nat.le_refl, or_true, true_or, or_false, false_or, if_false, reduceIte] at hd
                go_simp
                refine hK _ _ (Below.refl _ _) ?_
                exact rfl
              exact LOps.nil_
            case hend1 =>
              intro f w' hW hJw hd
              simp only [List.range, List.range.loop, endHold, spHold, spAt, List.getD_cons_zero, List.getD_cons_succ, sV, sAny, sOwn, sBlk, sSet, true_and, and_true, Nat.reduceLeDiff, Nat.le_refl, if_true, if_false, reduceIte] at hd
              clear hst
              have h15 : f 15 = .int .i64 i2 := by simp only [hd]
              have KO4 : Blk w' (g7 + 1) 5 (cb .u8 ((done ++ X) ++ List.replicate (N - i - s) 0)) := by
                have : f 13 = .int .i64 s ∧ Blk w' (g7 + 1) 5 (cb .u8 ((done ++ X) ++ List.replicate (N - i - s) 0)) := ⟨by simp only [hd], by simp only [hd]⟩
                exact this.2
              rw [h15]
              clear hd h15 KO3 K73 hrm0 hmi hb1 hb2 hb3
              have hB4 := hB3.trans hW
              have K74 : Blk w' g7 53 [.slice D nd cd, .int .i64 t1, .int .i64 0] := hJw
              obtain ⟨q0, q1, q2, f0, f1, f2⟩ := K74.three
              have lt74 := K74.lt
              go_wp2_with fail
              refine (count_any D nd cd t1 0 ((N : Int) - (i2 : Int)) ds _ (rd_at hd0 hB4) HND.out hcd (by omega) hbd).mono ?_
              rw [HS2.out]
              rintro e w5 ⟨rfl, hb5⟩
              have hB2 := below_call hB4 hb5
              have K75 := K74.below hb5 K74.lt
              have KO5 := KO4.below hb5 KO4.lt
              clear q0 q1 q2 f0 f1 f2 K74 KO4 lt74
              obtain ⟨q0, q1, q2, f0, f1, f2⟩ := K75.three
              have lt75 := K75.lt
              by_cases hce : cntE e2 s2 ((N : Int) - (i2 : Int)) = 0
              · have he2 : e2 = 0 := by
                  by_cases h : e2 = 0
                  · exact h
                  · unfold cntE at hce; rw [if_neg (fun hh => h hh.1)] at hce; exact hce
                subst he2
                have hsM : ¬ (N : Int) - (i2 : Int) < s2 := by
                  intro h
                  unfold cntE at hce
                  rw [if_pos ⟨rfl, h⟩] at hce
                  omega
                have hok2 := sTS_ok ds hbd t1 65536 (by omega) (by rw [HS2.out])
                rw [HS2.out, ← HND.out] at hok2
                simp only at hok2
                obtain ⟨hr1, hr2, hs20, _⟩ := hok2
                obtain ⟨k2, rfl⟩ := Int.eq_ofNat_of_zero_le hs20
                obtain ⟨t2, rfl⟩ := Int.eq_ofNat_of_zero_le (show (0 : Int) ≤ p2 by omega)
                have HD3 := HD2.out
                rw [if_neg (by simp), if_neg hsM] at HD3
                rw [hce]
                have hB6 := ((hB2.setCell (p := ⟨g7, 0, none⟩) hg7w (.slice D nd cd)).setCell (p := ⟨g7, 1, none⟩) hg7w (.int .i64 t2)).setCell (p := ⟨g7, 2, none⟩) hg7w (.int .i64 0)
                have K76 : Blk _ g7 53 [.slice D nd cd, .int .i64 t2, .int .i64 0] := ((K75.set_ 0 (.slice D nd cd)).set_ 1 (.int .i64 t2)).set_ 2 (.int .i64 0)
                have KO6 := ((KO5.far (p := ⟨g7, 0, none⟩) (by simp) (.slice D nd cd)).far (p := ⟨g7, 1, none⟩) (by simp) (.int .i64 t2)).far (p := ⟨g7, 2, none⟩) (by simp) (.int .i64 0)
                go_wp2_with fail
                generalize ((w5.setCell ⟨g7, 0, none⟩ (.slice D nd cd)).setCell ⟨g7, 1, none⟩ (.int .i64 t2)).setCell ⟨g7, 2, none⟩ (.int .i64 0) = W6 at *
                clear q0 q1 q2 f0 f1 f2 lt75 K75 KO5 hB2 hb5 hB4 hce HD2
                have h23 : i2 + k2 ≤ N := by omega
                obtain ⟨i3, hi3⟩ : ∃ i3, i2 + k2 = i3 := ⟨_, rfl⟩
                have his3 : (i2 : Int) + (k2 : Int) = (i3 : Int) := by omega
                have hwk3 : IntKind.i64.wrap (i3 : Int) = (i3 : Int) := i64_in _ (by omega)
                have h32 : i3 - i2 = k2 := by omega
                have hi3N : i3 ≤ N := by omega
                have hii3 : i2 ≤ i3 := by omega
                obtain ⟨Ao, hAo⟩ : ∃ Ao, (if N = i2 then (some ⟨g7 + 1, 0, none⟩ : Option Addr) else some ⟨g7 + 1, i2, none⟩) = Ao := ⟨_, rfl⟩
                have hAo1 : 0 < k2 → Ao = some ⟨g7 + 1, i2, none⟩ := fun h => by rw [← hAo, if_neg (by omega)]
                have HAO := Lib.hid hAo
                have HAO1 := Lib.hid hAo1
                clear hAo hAo1 hi3
                by_cases hsh : (nd : Int) - (t2 : Int) < (k2 : Int)
                · rw [if_pos hsh] at HD3
                  have HRE : Hid (dApp xs ds = ([], 2)) := dApp_errL HS0.out (HRES.out.trans HD3.symm) rfl (by omega)
                  clear HD3
                  have hst : StabL2 (w.heap.size) (W6) [sV 9 (.agg #[.slice D nd cd, .int .i64 t2, .int .i64 0]) 0, sV 9 (.slice (some ⟨g7 + 1, 0, none⟩) N N) 1, sV 9 (.int .i64 i2) 2, sV 9 (.int .i64 i2) 3, sV 9 (.int .i64 k2) 4, sV 9 (.int .i64 i3) 5, sV 9 (.slice Ao k2 (N - i2)) 6, sV 9 (.agg #[.slice D nd cd, .int .i64 t2, .int .i64 2]) 7, ⟨8, 9, fun _ _ w' => Blk w' g7 53 [.slice D nd cd, .int .i64 t2, .int .i64 2]⟩, ⟨9, 8, fun _ _ w' => Blk w' g7 53 [.slice D nd cd, .int .i64 t2, .int .i64 0]⟩] := by
                    repeat (first | exact trivial | refine ⟨stab2_v _ _ _, ?_⟩ | refine ⟨fun _ _ _ _ _ _ _ h => h, ?_⟩ | refine ⟨fun _ _ _ _ _ _ hb h => Blk.below h hb (Blk.lt h), ?_⟩ | refine ⟨stab2_own _ _ _ _ _, ?_⟩ | refine ⟨stab2_any _ _, ?_⟩ | refine ⟨stab2_blk _ _ _ _ _, ?_⟩ | refine ⟨stab2_set _ _ _ _ _, ?_⟩)
                  refine wp_region_lay (A := ?A2) [sV 9 (.agg #[.slice D nd cd, .int .i64 t2, .int .i64 0]) 0, sV 9 (.slice (some ⟨g7 + 1, 0, none⟩) N N) 1, sV 9 (.int .i64 i2) 2, sV 9 (.int .i64 i2) 3, sV 9 (.int .i64 k2) 4, sV 9 (.int .i64 i3) 5, sV 9 (.slice Ao k2 (N - i2)) 6, sV 9 (.agg #[.slice D nd cd, .int .i64 t2, .int .i64 2]) 7, ⟨8, 9, fun _ _ w' => Blk w' g7 53 [.slice D nd cd, .int .i64 t2, .int .i64 2]⟩, ⟨9, 8, fun _ _ w' => Blk w' g7 53 [.slice D nd cd, .int .i64 t2, .int .i64 0]⟩] 9 (w.heap.size) (W6) (fun _ => True) (by kernel_rfl) (by kernel_rfl) (by rfl) (by rfl) rfl (fun f => ?hA2) (Below.refl _ _) trivial (fun f => ⟨K76, trivial⟩) ?hops2 ?hend2
                  case hA2 =>
                    simp only [fillFrom, Nat.zero_add, Nat.reduceAdd]
                    go_frame
                    with_reducible rfl
                  case hops2 =>
                    refine LOps.grow_ hst hB6.size (fun _ _ _ _ _ _ => trivial) (fun f w' K hW hJw hd hu hx_ hK => ?_) ?_
                    · simp only [depsOf, depsL, Region.binds, depsHold2, spHold, spAt, List.getD_cons_zero, List.getD_cons_succ, sV, sAny, sOwn, sBlk, sSet, if_true, and_true, true_and, Nat.reduceLeDiff, Nat.reduceEqDiff, Nat.reduceAdd, Nat.zero_add, Nat.le_refl, or_true, true_or, or_false, false_or, if_false, reduceIte] at hd
                      have K7' : Blk w' g7 53 [.slice D nd cd, .int .i64 t2, .int .i64 0] := hx_ 9 (by omega) (by kernel_rfl)
                      obtain ⟨q0, q1, q2, p0, p1, p2⟩ := K7'.three
                      go_simp
                      refine hK _ _ (Below.refl _ _) ?_
                      exact rfl
                    refine LOps.grow_ hst hB6.size (fun _ _ _ _ _ _ => trivial) (fun f w' K hW hJw hd hu hx_ hK => ?_) ?_
                    · simp only [depsOf, depsL, Region.binds, depsHold2, spHold, spAt, List.getD_cons_zero, List.getD_cons_succ, sV, sAny, sOwn, sBlk, sSet, if_true, and_true, true_and, Nat.reduceLeDiff, Nat.reduceEqDiff, Nat.reduceAdd, Nat.zero_add, Nat.le_refl, or_true, true_or, or_false, false_or, if_false, reduceIte] at hd
                      go_simp
                      refine hK _ _ (Below.refl _ _) ?_
                      exact rfl
                    refine LOps.grow_ hst hB6.size (fun _ _ _ _ _ _ => trivial) (fun f w' K hW hJw hd hu hx_ hK => ?_) ?_
                    · simp only [depsOf, depsL, Region.binds, depsHold2, spHold, spAt, List.getD_cons_zero, List.getD_cons_succ, sV, sAny, sOwn, sBlk, sSet, if_true, and_true, true_and, Nat.reduceLeDiff, Nat.reduceEqDiff, Nat.reduceAdd, Nat.zero_add, Nat.le_refl, or_true, true_or, or_false, false_or, if_false, reduceIte] at hd
                      go_simp
                      refine hK _ _ (Below.refl _ _) ?_
                      exact rfl
                    refine LOps.grow_ hst hB6.size (fun _ _ _ _ _ _ => trivial) (fun f w' K hW hJw hd hu hx_ hK => ?_) ?_
                    · simp only [depsOf, depsL, Region.binds, depsHold2, spHold, spAt, List.getD_cons_zero, List.getD_cons_succ, sV, sAny, sOwn, sBlk, sSet, if_true, and_true, true_and, Nat.reduceLeDiff, Nat.reduceEqDiff, Nat.reduceAdd, Nat.zero_add, Nat.le_refl, or_true, true_or, or_false, false_or, if_false, reduceIte] at hd
                      go_simp
                      refine hK _ _ (Below.refl _ _) ?_
                      exact rfl
                    refine LOps.grow_ hst hB6.size (fun _ _ _ _ _ _ => trivial) (fun f w' K hW hJw hd hu hx_ hK => ?_) ?_
                    · simp only [depsOf, depsL, Region.binds, depsHold2, spHold, spAt, List.getD_cons_zero, List.getD_cons_succ, sV, sAny, sOwn, sBlk, sSet, if_true, and_true, true_and, Nat.reduceLeDiff, Nat.reduceEqDiff, Nat.reduceAdd, Nat.zero_add, Nat.le_refl, or_true, true_or, or_false, false_or, if_false, reduceIte] at hd
                      go_simp
                      refine hK _ _ (Below.refl _ _) ?_
                      exact rfl
                    refine LOps.grow_ hst hB6.size (fun _ _ _ _ _ _ => trivial) (fun f w' K hW hJw hd hu hx_ hK => ?_) ?_
                    · simp only [depsOf, depsL, Region.binds, depsHold2, spHold, spAt, List.getD_cons_zero, List.getD_cons_succ, sV, sAny, sOwn, sBlk, sSet, if_true, and_true, true_and, Nat.reduceLeDiff, Nat.reduceEqDiff, Nat.reduceAdd, Nat.zero_add, Nat.le_refl, or_true, true_or, or_false, false_or, if_false, reduceIte] at hd
                      go_simp
                      refine hK _ _ (Below.refl _ _) ?_
                      exact rfl
                    refine LOps.grow_ hst hB6.size (fun _ _ _ _ _ _ => trivial) (fun f w' K hW hJw hd hu hx_ hK => ?_) ?_
                    · simp only [depsOf, depsL, Region.binds, depsHold2, spHold, spAt, List.getD_cons_zero, List.getD_cons_succ, sV, sAny, sOwn, sBlk, sSet, if_true, and_true, true_and, Nat.reduceLeDiff, Nat.reduceEqDiff, Nat.reduceAdd, Nat.zero_add, Nat.le_refl, or_true, true_or, or_false, false_or, if_false, reduceIte] at hd
                      go_simp
                      refine hK _ _ (Below.refl _ _) ?_
                      show Value.slice _ _ _ = Value.slice _ _ _
                      rw [← HAO.out]
                    refine LOps.grow_ hst hB6.size (fun _ _ _ _ _ _ => trivial) (fun f w' K hW hJw hd hu hx_ hK => ?_) ?_
                    · simp only [depsOf, depsL, Region.binds, depsHold2, spHold, spAt, List.getD_cons_zero, List.getD_cons_succ, sV, sAny, sOwn, sBlk, sSet, if_true, and_true, true_and, Nat.reduceLeDiff, Nat.reduceEqDiff, Nat.reduceAdd, Nat.zero_add, Nat.le_refl, or_true, true_or, or_false, false_or, if_false, reduceIte] at hd
                      go_simp
                      refine (dtake_short D nd cd t2 k2 Ao (N - i2) _ (by omega) (by omega) (by omega) (by omega)).mono ?_
                      rintro e w7 ⟨rfl, hb7⟩
                      exact ⟨_, rfl, hK _ _ hb7 rfl⟩
                    refine LOps.put_ [0, 1, 2, 3, 4, 5, 6, 7] (by rfl) (fun f w' K hW hJw hd hu hx_ hK => ?_) ?_
                    · simp only [depsOf, depsL, Region.binds, depsHold2, spHold, spAt, List.getD_cons_zero, List.getD_cons_succ, sV, sAny, sOwn, sBlk, sSet, if_true, and_true, true_and, Nat.reduceLeDiff, Nat.reduceEqDiff, Nat.reduceAdd, Nat.zero_add, Nat.le_refl, or_true, true_or, or_false, false_or, if_false, reduceIte] at hd
                      have e7 : f 7 = .agg #[.slice D nd cd, .int .i64 t2, .int .i64 2] := by simp only [hd]
                      clear hd
                      have K7' : Blk w' g7 53 [.slice D nd cd, .int .i64 t2, .int .i64 0] := hx_ 9 (by omega) (by kernel_rfl)
                      obtain ⟨q0, q1, q2, p0, p1, p2⟩ := K7'.three
                      go_simp
                      refine hK _ _ (((Below.refl _ _).setCell (p := ⟨g7, 0, none⟩) hg7w _).setCell (p := ⟨g7, 1, none⟩) hg7w _ |>.setCell (p := ⟨g7, 2, none⟩) hg7w _) trivial ?_ (((K7'.set_ 0 _).set_ 1 _).set_ 2 _)
                      repeat (first | exact trivial | refine ⟨fun x y h => h, ?_⟩ | refine ⟨fun x y h => ⟨h.1, ((h.2.far (p := ⟨g7, 0, none⟩) (by simp) _).far (p := ⟨g7, 1, none⟩) (by simp) _).far (p := ⟨g7, 2, none⟩) (by simp) _⟩, ?_⟩)
                    exact LOps.nil_
                  case hend2 =>
                    intro f w' hW hJw hd
                    simp only [List.range, List.range.loop, endHold, spHold, spAt, List.getD_cons_zero, List.getD_cons_succ, sV, sAny, sOwn, sBlk, sSet, true_and, and_true, Nat.reduceLeDiff, Nat.le_refl, if_true, if_false, reduceIte] at hd
                    clear hst
                    have K77 : Blk w' g7 53 [.slice D nd cd, .int .i64 t2, .int .i64 2] := by simp only [hd]
                    clear hd
                    have hB7 := hB6.trans hW
                    go_wp2
                    go_roundg k
                    case measure => omega
                    case rel => exact ⟨(i3 : Int), (t2 : Int), 2, done, rfl, by omega, by omega, hB7, K77, .inr ⟨by omega, HRE⟩⟩
                · rw [if_neg hsh] at HD3
                  obtain ⟨Y, hY⟩ : ∃ Y, (ds.drop t2).take k2 = Y := ⟨_, rfl⟩
                  have hYl : Y.length = k2 := by rw [← hY, List.length_take, List.length_drop, ← HND.out]; omega
                  have HD4 : Hid (dLoop xs ds N k ((t2 : Int) + (k2 : Int)) (done ++ X ++ Y) = RES) := by
                    unfold Hid
                    rw [← hY, ← HD3]
                    simp only [Int.toNat_natCast]
                  have hr3 : N - i - s = N - i2 := by have := HI2.out; omega
                  rw [hr3] at KO6
                  have hsp := splice_done (done ++ X) Y (N - i2) (by omega)
                  rw [HL2.out, hYl] at hsp
                  have HSP2 := Lib.hid hsp
                  have HY := Lib.hid hY
                  have HYL := Lib.hid hYl
                  have HL3 : Hid ((done ++ X ++ Y).length = i3) := by unfold Hid; rw [List.length_append, HL2.out, hYl]; omega
                  have HFT2 : Hid (i2 + k2 ≤ (cb IntKind.u8 (done ++ X ++ List.replicate (N - i2) 0)).length) := by unfold Hid; rw [cb_length, List.length_append, HL2.out, List.length_replicate]; omega
                  have HTK : Hid (t2 + k2 ≤ nd) := by unfold Hid; omega
                  have ht2k : t2 + k2 ≤ nd := HTK.out
                  clear HD3 hr3 hsp hY hYl hsh
                  have hst : StabL2 (w.heap.size) (W6) [sV 9 (.agg #[.slice D nd cd, .int .i64 t2, .int .i64 0]) 0, sV 9 (.slice (some ⟨g7 + 1, 0, none⟩) N N) 1, sV 9 (.int .i64 i2) 2, sV 9 (.int .i64 i2) 3, sV 9 (.int .i64 k2) 4, sV 9 (.int .i64 i3) 5, sV 9 (.slice Ao k2 (N - i2)) 6, ⟨7, 9, fun _ v w' => v = .agg #[.slice D nd cd, .int .i64 ((t2 : Int) + (k2 : Int)), .int .i64 0] ∧ Blk w' (g7 + 1) 5 (cb .u8 ((done ++ X ++ Y) ++ List.replicate (N - i2 - k2) 0))⟩, ⟨8, 9, fun _ _ w' => Blk w' g7 53 [.slice D nd cd, .int .i64 ((t2 : Int) + (k2 : Int)), .int .i64 0]⟩, ⟨9, 8, fun _ _ w' => Blk w' g7 53 [.slice D nd cd, .int .i64 t2, .int .i64 0]⟩, ⟨10, 7, fun _ _ w' => Blk w' (g7 + 1) 5 (cb .u8 (done ++ X ++ List.replicate (N - i2) 0))⟩] := by
                    repeat (first | exact trivial | refine ⟨stab2_v _ _ _, ?_⟩ | refine ⟨fun _ _ _ _ _ _ _ h => h, ?_⟩ | refine ⟨fun _ _ _ _ _ _ hb h => Blk.below h hb (Blk.lt h), ?_⟩ | refine ⟨fun _ _ _ _ _ _ hb h => ⟨h.1, Blk.below h.2 hb (Blk.lt h.2)⟩, ?_⟩ | refine ⟨stab2_own _ _ _ _ _, ?_⟩ | refine ⟨stab2_any _ _, ?_⟩ | refine ⟨stab2_blk _ _ _ _ _, ?_⟩ | refine ⟨stab2_set _ _ _ _ _, ?_⟩)
                  refine wp_region_lay (A := ?A3) [sV 9 (.agg #[.slice D nd cd, .int .i64 t2, .int .i64 0]) 0, sV 9 (.slice (some ⟨g7 + 1, 0, none⟩) N N) 1, sV 9 (.int .i64 i2) 2, sV 9 (.int .i64 i2) 3, sV 9 (.int .i64 k2) 4, sV 9 (.int .i64 i3) 5, sV 9 (.slice Ao k2 (N - i2)) 6, ⟨7, 9, fun _ v w' => v = .agg #[.slice D nd cd, .int .i64 ((t2 : Int) + (k2 : Int)), .int .i64 0] ∧ Blk w' (g7 + 1) 5 (cb .u8 ((done ++ X ++ Y) ++ List.replicate (N - i2 - k2) 0))⟩, ⟨8, 9, fun _ _ w' => Blk w' g7 53 [.slice D nd cd, .int .i64 ((t2 : Int) + (k2 : Int)), .int .i64 0]⟩, ⟨9, 8, fun _ _ w' => Blk w' g7 53 [.slice D nd cd, .int .i64 t2, .int .i64 0]⟩, ⟨10, 7, fun _ _ w' => Blk w' (g7 + 1) 5 (cb .u8 (done ++ X ++ List.replicate (N - i2) 0))⟩] 9 (w.heap.size) (W6) (fun _ => True) (by kernel_rfl) (by kernel_rfl) (by rfl) (by rfl) rfl (fun f => ?hA3) (Below.refl _ _) trivial (fun f => ⟨K76, KO6, trivial⟩) ?hops3 ?hend3
                  case hA3 =>
                    simp only [fillFrom, Nat.zero_add, Nat.reduceAdd]
                    go_frame
                    with_reducible rfl
                  case hops3 =>
                    refine LOps.grow_ hst hB6.size (fun _ _ _ _ _ _ => trivial) (fun f w' K hW hJw hd hu hx_ hK => ?_) ?_
                    · simp only [depsOf, depsL, Region.binds, depsHold2, spHold, spAt, List.getD_cons_zero, List.getD_cons_succ, sV, sAny, sOwn, sBlk, sSet, if_true, and_true, true_and, Nat.reduceLeDiff, Nat.reduceEqDiff, Nat.reduceAdd, Nat.zero_add, Nat.le_refl, or_true, true_or, or_false, false_or, if_false, reduceIte] at hd
                      have K7' : Blk w' g7 53 [.slice D nd cd, .int .i64 t2, .int .i64 0] := hx_ 9 (by omega) (by kernel_rfl)
                      obtain ⟨q0, q1, q2, p0, p1, p2⟩ := K7'.three
                      go_simp
                      refine hK _ _ (Below.refl _ _) ?_
                      exact rfl
                    refine LOps.grow_ hst hB6.size (fun _ _ _ _ _ _ => trivial) (fun f w' K hW hJw hd hu hx_ hK => ?_) ?_
                    · simp only [depsOf, depsL, Region.binds, depsHold2, spHold, spAt, List.getD_cons_zero, List.getD_cons_succ, sV, sAny, sOwn, sBlk, sSet, if_true, and_true, true_and, Nat.reduceLeDiff, Nat.reduceEqDiff, Nat.reduceAdd, Nat.zero_add, Nat.le_refl, or_true, true_or, or_false, false_or, if_false, reduceIte] at hd
                      go_simp
                      refine hK _ _ (Below.refl _ _) ?_
                      exact rfl
                    refine LOps.grow_ hst hB6.size (fun _ _ _ _ _ _ => trivial) (fun f w' K hW hJw hd hu hx_ hK => ?_) ?_
                    · simp only [depsOf, depsL, Region.binds, depsHold2, spHold, spAt, List.getD_cons_zero, List.getD_cons_succ, sV, sAny, sOwn, sBlk, sSet, if_true, and_true, true_and, Nat.reduceLeDiff, Nat.reduceEqDiff, Nat.reduceAdd, Nat.zero_add, Nat.le_refl, or_true, true_or, or_false, false_or, if_false, reduceIte] at hd
                      go_simp
                      refine hK _ _ (Below.refl _ _) ?_
                      exact rfl
                    refine LOps.grow_ hst hB6.size (fun _ _ _ _ _ _ => trivial) (fun f w' K hW hJw hd hu hx_ hK => ?_) ?_
                    · simp only [depsOf, depsL, Region.binds, depsHold2, spHold, spAt, List.getD_cons_zero, List.getD_cons_succ, sV, sAny, sOwn, sBlk, sSet, if_true, and_true, true_and, Nat.reduceLeDiff, Nat.reduceEqDiff, Nat.reduceAdd, Nat.zero_add, Nat.le_refl, or_true, true_or, or_false, false_or, if_false, reduceIte] at hd
                      go_simp
                      refine hK _ _ (Below.refl _ _) ?_
                      exact rfl
                    refine LOps.grow_ hst hB6.size (fun _ _ _ _ _ _ => trivial) (fun f w' K hW hJw hd hu hx_ hK => ?_) ?_
                    · simp only [depsOf, depsL, Region.binds, depsHold2, spHold, spAt, List.getD_cons_zero, List.getD_cons_succ, sV, sAny, sOwn, sBlk, sSet, if_true, and_true, true_and, Nat.reduceLeDiff, Nat.reduceEqDiff, Nat.reduceAdd, Nat.zero_add, Nat.le_refl, or_true, true_or, or_false, false_or, if_false, reduceIte] at hd
                      go_simp
                      refine hK _ _ (Below.refl _ _) ?_
                      exact rfl
                    refine LOps.grow_ hst hB6.size (fun _ _ _ _ _ _ => trivial) (fun f w' K hW hJw hd hu hx_ hK => ?_) ?_
                    · simp only [depsOf, depsL, Region.binds, depsHold2, spHold, spAt, List.getD_cons_zero, List.getD_cons_succ, sV, sAny, sOwn, sBlk, sSet, if_true, and_true, true_and, Nat.reduceLeDiff, Nat.reduceEqDiff, Nat.reduceAdd, Nat.zero_add, Nat.le_refl, or_true, true_or, or_false, false_or, if_false, reduceIte] at hd
                      go_simp
                      refine hK _ _ (Below.refl _ _) ?_
                      exact rfl
                    refine LOps.grow_ hst hB6.size (fun _ _ _ _ _ _ => trivial) (fun f w' K hW hJw hd hu hx_ hK => ?_) ?_
                    · simp only [depsOf, depsL, Region.binds, depsHold2, spHold, spAt, List.getD_cons_zero, List.getD_cons_succ, sV, sAny, sOwn, sBlk, sSet, if_true, and_true, true_and, Nat.reduceLeDiff, Nat.reduceEqDiff, Nat.reduceAdd, Nat.zero_add, Nat.le_refl, or_true, true_or, or_false, false_or, if_false, reduceIte] at hd
                      go_simp
                      refine hK _ _ (Below.refl _ _) ?_
                      show Value.slice _ _ _ = Value.slice _ _ _
                      rw [← HAO.out]
                    refine LOps.put_ [0, 1, 2, 3, 4, 5, 6, 9] (by rfl) (fun f w' K hW hJw hd hu hx_ hK => ?_) ?_
                    · simp only [depsOf, depsL, Region.binds, depsHold2, spHold, spAt, List.getD_cons_zero, List.getD_cons_succ, sV, sAny, sOwn, sBlk, sSet, if_true, and_true, true_and, Nat.reduceLeDiff, Nat.reduceEqDiff, Nat.reduceAdd, Nat.zero_add, Nat.le_refl, or_true, true_or, or_false, false_or, if_false, reduceIte] at hd
                      have KG : Blk w' (g7 + 1) 5 (cb .u8 (done ++ X ++ List.replicate (N - i2) 0)) := hx_ 10 (by omega) (by kernel_rfl)
                      go_simp
                      refine (dtake_ok D nd cd t2 k2 Ao (N - i2) ds (g7 + 1) i2 w.heap.size _ _ (rd_old hd0 hB6 hW) HND.out hcd (by omega) HTK.out KG (by omega) (Nat.le_trans hB6.size hW.size) HAO1.out HFT2.out).mono ?_
                      rw [HY.out]
                      rintro e w7 ⟨rfl, KG7, hb7⟩
                      rw [HSP2.out] at KG7
                      refine ⟨_, rfl, hK _ _ (hb7.below (by omega) (Nat.le_trans hB6.size hW.size)) trivial ?_ ⟨rfl, KG7⟩⟩
                      repeat (first | exact trivial | refine ⟨fun x y h => h, ?_⟩ | refine ⟨fun x y h => hb7.blk h (by omega), ?_⟩)
                    refine LOps.put_ [0, 1, 2, 3, 4, 5, 6, 7] (by rfl) (fun f w' K hW hJw hd hu hx_ hK => ?_) ?_
                    · simp only [depsOf, depsL, Region.binds, depsHold2, spHold, spAt, List.getD_cons_zero, List.getD_cons_succ, sV, sAny, sOwn, sBlk, sSet, if_true, and_true, true_and, Nat.reduceLeDiff, Nat.reduceEqDiff, Nat.reduceAdd, Nat.zero_add, Nat.le_refl, or_true, true_or, or_false, false_or, if_false, reduceIte] at hd
                      have e7 : f 7 = .agg #[.slice D nd cd, .int .i64 ((t2 : Int) + (k2 : Int)), .int .i64 0] := by simp only [hd]
                      clear hd
                      have K7' : Blk w' g7 53 [.slice D nd cd, .int .i64 t2, .int .i64 0] := hx_ 9 (by omega) (by kernel_rfl)
                      obtain ⟨q0, q1, q2, p0, p1, p2⟩ := K7'.three
                      go_simp
                      refine hK _ _ (((Below.refl _ _).setCell (p := ⟨g7, 0, none⟩) hg7w _).setCell (p := ⟨g7, 1, none⟩) hg7w _ |>.setCell (p := ⟨g7, 2, none⟩) hg7w _) trivial ?_ (((K7'.set_ 0 _).set_ 1 _).set_ 2 _)
                      repeat (first | exact trivial | refine ⟨fun x y h => h, ?_⟩ | refine ⟨fun x y h => ⟨h.1, ((h.2.far (p := ⟨g7, 0, none⟩) (by simp) _).far (p := ⟨g7, 1, none⟩) (by simp) _).far (p := ⟨g7, 2, none⟩) (by simp) _⟩, ?_⟩)
                    exact LOps.nil_
                  case hend3 =>
                    intro f w' hW hJw hd
                    simp only [List.range, List.range.loop, endHold, spHold, spAt, List.getD_cons_zero, List.getD_cons_succ, sV, sAny, sOwn, sBlk, sSet, true_and, and_true, Nat.reduceLeDiff, Nat.le_refl, if_true, if_false, reduceIte] at hd
                    clear hst
                    have K77 : Blk w' g7 53 [.slice D nd cd, .int .i64 ((t2 : Int) + (k2 : Int)), .int .i64 0] := by simp only [hd]
                    have KO7 : Blk w' (g7 + 1) 5 (cb .u8 ((done ++ X ++ Y) ++ List.replicate (N - i2 - k2) 0)) := by
                      have : f 7 = .agg #[.slice D nd cd, .int .i64 ((t2 : Int) + (k2 : Int)), .int .i64 0] ∧ Blk w' (g7 + 1) 5 (cb .u8 ((done ++ X ++ Y) ++ List.replicate (N - i2 - k2) 0)) := ⟨by simp only [hd], by simp only [hd]⟩
                      exact this.2
                    clear hd
                    have hB7 := hB6.trans hW
                    go_wp2
                    go_roundg k
                    case measure => omega
                    case rel =>
                      refine ⟨(i3 : Int), ((t2 : Int) + (k2 : Int)), 0, done ++ X ++ Y, rfl, by omega, by omega, hB7, K77, .inl ⟨rfl, by rw [HL3.out], ?_, HD4, by omega, by omega, by omega⟩⟩
                      rw [HL3.out, show N - i3 = N - i2 - k2 from by omega]
                      exact KO7
              · have HRE : Hid (dApp xs ds = ([], cntE e2 s2 ((N : Int) - (i2 : Int)))) := by
                  refine dApp_errL HS0.out (HRES.out.trans HD2.out.symm) ?_ hce
                  by_cases h : e2 = 0
                  · subst h
                    by_cases h2 : (N : Int) - (i2 : Int) < s2
                    · simp only [cntE, h2, and_self, if_true, ne_eq, not_true_eq_false, if_false]
                    · exfalso; apply hce; unfold cntE; rw [if_neg (fun hh => h2 hh.2)]
                  · have h' : cntE e2 s2 ((N : Int) - (i2 : Int)) = e2 := by unfold cntE; rw [if_neg (fun hh => h hh.1)]
                    rw [h', if_pos h]
                generalize cntE e2 s2 ((N : Int) - (i2 : Int)) = E at *
                have e0 : (E != 0) = true := by rw [bne_iff_ne]; exact hce
                clear HD2
                go_wp2_with fail
                have hB3 := ((hB2.setCell (p := ⟨g7, 0, none⟩) hg7w (.slice D nd cd)).setCell (p := ⟨g7, 1, none⟩) hg7w (.int .i64 p2)).setCell (p := ⟨g7, 2, none⟩) hg7w (.int .i64 E)
                refine (end_any D nd cd p2 E _).mono ?_
                have hse : sEnd nd p2 E = E := by unfold sEnd; rw [if_neg (fun h => absurd h.1 (by rw [bne_iff_ne] at e0; exact e0))]
                rw [hse]
                rintro e w9 ⟨rfl, hb9⟩
                go_wp2
                go_ret2
                exact ⟨none, 0, 0, by rw [HRE.out]; rfl, by rw [HRE.out]; exact Own.nil _ _ _, below_call hB3 hb9⟩
          · have HRE : Hid (dApp xs ds = ([], cntE e1 s1 MI)) := by
              refine dApp_errL HS0.out (HRES.out.trans HDL.symm) ?_ hce
              by_cases h : e1 = 0
              · subst h
                by_cases h2 : MI < s1
                · simp only [cntE, h2, and_self, if_true, ne_eq, not_true_eq_false, if_false]
                · exfalso; apply hce; unfold cntE; rw [if_neg (fun hh => h2 hh.2)]
              · have h' : cntE e1 s1 MI = e1 := by unfold cntE; rw [if_neg (fun hh => h hh.1)]
                rw [h', if_pos h]
            generalize cntE e1 s1 MI = E at *
            have e0 : (E != 0) = true := by rw [bne_iff_ne]; exact hce
            clear HDL
            go_wp2_with fail
            have hB3 := ((hB2.setCell (p := ⟨g7, 0, none⟩) hg7w (.slice D nd cd)).setCell (p := ⟨g7, 1, none⟩) hg7w (.int .i64 p1)).setCell (p := ⟨g7, 2, none⟩) hg7w (.int .i64 E)
            refine (end_any D nd cd p1 E _).mono ?_
            have hse : sEnd nd p1 E = E := by unfold sEnd; rw [if_neg (fun h => absurd h.1 (by rw [bne_iff_ne] at e0; exact e0))]
            rw [hse]
            rintro e w9 ⟨rfl, hb9⟩
            go_wp2
            go_ret2
            exact ⟨none, 0, 0, by rw [HRE.out]; rfl, by rw [HRE.out]; exact Own.nil _ _ _, below_call hB3 hb9⟩
        · have hN : done.length = N := by omega
          have HDL := hdl.out
          obtain ⟨k, rfl⟩ : ∃ k, gk = k + 1 := ⟨gk - 1, by omega⟩
          rw [dLoop, if_neg hlt] at HDL
          have HAP := Lib.hid (dApp_done HS0.out (HRES.out.trans HDL.symm))
          rw [hN, Nat.sub_self, List.replicate_zero, List.append_nil] at KO
          clear HDL hdl
          have HN := Lib.hid hN
          rw [hN]
          clear hN
          have lto := KO.lt
          go_wp2_with fail
          refine (end_any D nd cd p 0 _).mono ?_
          rintro e w9 ⟨rfl, hb9⟩
          have hB9 := below_call hB hb9
          by_cases hlong : p < (nd : Int)
          · have hse : sEnd nd p 0 = 3 := by unfold sEnd; rw [if_pos ⟨rfl, hlong⟩]
            have HR3 : Hid (dApp xs ds = ([], 3)) := by unfold Hid; rw [HAP.out, ← HND.out, if_pos hlong]
            rw [hse]
            go_wp2
            go_ret2
            exact ⟨none, 0, 0, by rw [HR3.out]; rfl, by rw [HR3.out]; exact Own.nil _ _ _, hB9⟩
          · have hse : sEnd nd p 0 = 0 := by unfold sEnd; rw [if_neg (fun h => hlong h.2)]
            have HR4 : Hid (dApp xs ds = if dMake xs done = ds then (done, 0) else ([], 4)) := by unfold Hid; rw [HAP.out, ← HND.out, if_neg hlong]
            rw [hse]
            have KO9 := KO.below hb9 KO.lt
            have hown := own_of_blk (base := w.heap.size) KO9 (by omega) (by simp; have := HN.out; omega)
            have hlc : (cb IntKind.u8 done).length = N := by rw [cb_length]; exact HN.out
            rw [hlc] at hown
            have HNd : Hid (N = done.length) := HN.out.symm
            clear hlc hlong
            go_wp2_with fail
            refine (make_any A (some ⟨g7 + 1, 0, none⟩) na ca N N xs done _ (rd_at hx hB9) HNA.out hown.rd.2.2 HNd.out (by omega) (by omega) (Nat.le_refl _)).mono ?_
            rintro e w10 ⟨A4, n4, c4, rfl, ho4, hb10⟩
            have hB10 := below_call hB9 hb10
            have hML := dMake_len xs done (by have := HN.out; omega)
            have hL4 : n4 = (dMake xs done).length := by rw [ho4.rd.1, cb_length]
            have HL4 := Lib.hid hL4
            have hl4 : n4 ≤ 1000000000 := by have := HN.out; omega
            clear hL4 hML
            go_wp2_with fail
            have hc1 := ho4.rd.2.2
            have hc2 := rd_at hd0 hB10
            have hc3 := HL4.out
            have hnd9 : nd ≤ 1000000000 := by omega
            have hcc := sEqual_any A4 D n4 c4 nd cd (dMake xs done) ds w10 hc1 hc3 hc2 HND.out hl4 hnd9
            clear hc1 hc2 hc3
            have HMARK : True := trivial
            refine hcc.mono ?_
            cases hq : eqB (dMake xs done) ds
            · have HR5 : Hid (dApp xs ds = ([], 4)) := by
                unfold Hid
                rw [HR4.out, if_neg (fun h => by rw [h] at hq; simp [eqB] at hq)]
              clear hq
              rintro e w11 ⟨rfl, hb11⟩
              go_wp2
              go_ret2
              exact ⟨none, 0, 0, by rw [HR5.out]; rfl, by rw [HR5.out]; exact Own.nil _ _ _, below_call hB10 hb11⟩
            · have HR5 : Hid (dApp xs ds = (done, 0)) := by
                unfold Hid
                rw [HR4.out, if_pos (by simpa [eqB] using hq)]
              clear hq
              rintro e w11 ⟨rfl, hb11⟩
              go_wp2
              go_ret2
              exact ⟨some ⟨g7 + 1, 0, none⟩, N, N, by rw [HR5.out]; rfl, by rw [HR5.out]; exact (hown.below hb10).below hb11, below_call hB10 hb11⟩
      · have hEb : (E == 0) = false := by rw [beq_eq_false_iff_ne]; exact hE
        have e0 : (E != 0) = true := by rw [bne_iff_ne]; exact hE
        have HRE := hRE
        by_cases hlt : m < (N : Int)
        · go_wp2_with fail
          refine (end_any D nd cd p E _).mono ?_
          have hse : sEnd nd p E = E := by unfold sEnd; rw [if_neg (fun h => absurd h.1 (by rw [bne_iff_ne] at e0; exact e0))]
          rw [hse]
          rintro e w9 ⟨rfl, hb9⟩
          go_wp2
          go_ret2
          exact ⟨none, 0, 0, by rw [HRE.out]; rfl, by rw [HRE.out]; exact Own.nil _ _ _, below_call hB hb9⟩
        · go_wp2_with fail
          refine (end_any D nd cd p E _).mono ?_
          have hse : sEnd nd p E = E := by unfold sEnd; rw [if_neg (fun h => absurd h.1 (by rw [bne_iff_ne] at e0; exact e0))]
          rw [hse]
          rintro e w9 ⟨rfl, hb9⟩
          go_wp2
          go_ret2
          exact ⟨none, 0, 0, by rw [HRE.out]; rfl, by rw [HRE.out]; exact Own.nil _ _ _, below_call hB hb9⟩
  · have HRE : Hid (dApp xs ds = ([], E0)) := dApp_err0 (by rw [hS]) hE0
    have hN0 : N0 = 0 := sTS_err0 ds 0 65536 N0 p0 E0 hS hE0
    subst hN0
    have e0 : (E0 != 0) = true := by rw [bne_iff_ne]; exact hE0
    have e1 : (E0 == 0) = false := by rw [beq_eq_false_iff_ne]; exact hE0
    clear hS hE0
    go_enter Try.func26, Try.ntmps26
    go_wp2_with fail
    refine (takeSize_any D nd cd 0 0 65536 ds _ hd0 HND.out hcd (by omega) hbd).mono ?_
    rw [HS0.out]
    rintro e w1 ⟨rfl, hb1⟩
    obtain ⟨i0, hi, hz, hsz, hby⟩ := info_parts infoU8
    have hmk := run_make (P := Try.prog) (w1.alloc (.cells #[.slice D nd cd, .int .i64 p0, .int .i64 E0] 53)) 22 _ i0 _ Try.underlying22 hi hz .i64 .i64 0 0 (by omega) (Int.le_refl _) (by omega) (by omega)
    simp only [Int.toNat_zero, Nat.zero_mul] at hmk
    clear hi hz hsz hby
    have hBz : Below w.heap.size w (w1.alloc (.cells #[.slice D nd cd, .int .i64 p0, .int .i64 E0] 53)) := hb1.alloc hb1.size _
    have K7z := Blk.new w1 53 [.slice D nd cd, .int .i64 p0, .int .i64 E0]
    go_wp2_with fail
    have hBy := hBz.alloc hBz.size (.cells (madeCells (Value.int IntKind.u8 0).cells 0) 5)
    have K7y := K7z.alloc (.cells (madeCells (Value.int IntKind.u8 0).cells 0) 5)
    go_loopg [9, 10, 11] 1 (fun _ iv _ _ wr => iv = .int .i64 0 ∧ Below w.heap.size w wr ∧ Blk wr w1.heap.size 53 [.slice D nd cd, .int .i64 p0, .int .i64 E0])
    case atStart => exact ⟨rfl, hBy, K7y⟩
    case round =>
      obtain ⟨rfl, hB, K7⟩ := hrel
      obtain ⟨q0, q1, q2, f0, f1, f2⟩ := K7.three
      have lt7 := K7.lt
      go_wp2_with fail
      refine (end_any D nd cd p0 E0 _).mono ?_
      have hse : sEnd nd p0 E0 = E0 := by unfold sEnd; rw [if_neg (fun h => absurd h.1 (by rw [bne_iff_ne] at e0; exact e0))]
      rw [hse]
      rintro e w9 ⟨rfl, hb9⟩
      go_wp2
      go_ret2
      exact ⟨none, 0, 0, by rw [HRE.out]; rfl, by rw [HRE.out]; exact Own.nil _ _ _, below_call hB hb9⟩
end Go.Proofs.Ytjjgdjcapfenpaa
