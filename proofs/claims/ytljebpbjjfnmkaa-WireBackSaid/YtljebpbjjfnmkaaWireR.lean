/- The contracts of the reference's encoding functions (clewref02), of clewref01.Wrap and of clewref02.Bytes. -/
import Derived.Test.YtljebpbjjfnmkaaSlices
import Derived.Test.YtljebpbjjfnmkaaWireSpec
namespace Go.Proofs.Ytljebpbjjfnmkaa
open Go.RowKit Go.IntWalk
set_option maxRecDepth 100000
set_option linter.unusedVariables false

theorem rwrap_any (n : Int) (w : World) : Calls Try.prog 42 #[.int .i64 n] w fun e w' => e = .returned (.int .i64 (wrap16 n)) ∧ w = w' := by
  rcases tmod_cases n 65536 with ⟨hs, he⟩ | ⟨hs, he⟩
  all_goals
    go_enter Try.func42, Try.ntmps42
    go_wp2
    all_goals
      go_ret
      exact ⟨ret_int (by unfold wrap16; omega), rfl⟩

theorem rbyte_any (A : Option Addr) (n c : Nat) (zs : List Int) (m : Int) (w : World) (hr : Rd w w.heap.size A (cb .u8 zs)) (hn : n = zs.length) (hl : zs.length ≤ 300000000) :
    Calls Try.prog 11 #[.slice A n c, .int .i64 m] w (RetOwn w 5 (cb .u8 (zs ++ sByte m))) := by
  subst hn
  have hb0 : Below w.heap.size w (w.alloc (.cells #[] 5)) := (Below.refl _ _).alloc (Nat.le_refl _) _
  rcases tmod_cases m 256 with ⟨hs, he⟩ | ⟨hs, he⟩
  all_goals
    go_enter Try.func11, Try.ntmps11
    go_wp2_with (first
      | (at_builtin; refine wp_app elemU8 rfl (.tmp 12) (.tmp 13) rfl rfl (Own.new w [] 5 0 rfl (Nat.le_refl _) (by omega)) rfl (hr.below hb0) (by simp) (cb_one _ _) (by simp; omega) (by simp; omega) (by simp) ?_; intro A2 n2 c2 w2 hown2 hg2; have hb2 := below_own hb0 hg2 (Own.new (base := w.heap.size) w [] 5 0 rfl (Nat.le_refl _) (by omega)) (Nat.le_refl _) (by simp); have hb := hb2.size)
      | (at_builtin; refine wp_app elemU8 rfl (.tmp 14) (.tmp 17) rfl rfl (hown2.alloc _) rfl (Rd.new _ [_] _) rfl (one1 _ _) (by simp; omega) (by simp; omega) (by simp; omega) ?_; intro A3 n3 c3 w3 hown3 hg3))
    all_goals
      go_ret
      exact ⟨A3, n3, c3, rfl, hown3.cast (by simp [cb, sByte]; try omega), below_own (hb2.alloc hb _) hg3 (hown2.alloc _) (Nat.le_refl _) (by simp; omega)⟩

theorem rword_any (A : Option Addr) (n c : Nat) (zs : List Int) (m : Int) (w : World) (hr : Rd w w.heap.size A (cb .u8 zs)) (hn : n = zs.length) (hl : zs.length ≤ 200000000) :
    Calls Try.prog 13 #[.slice A n c, .int .i64 m] w (RetOwn w 5 (cb .u8 (zs ++ sWord m))) := by
  have hw : -32768 ≤ wrap16 m ∧ wrap16 m ≤ 32767 := by unfold wrap16; omega
  have key : ∀ W : Int, 0 ≤ W → W ≤ 65535 → W = m % 65536 → [W / 256 % 256, W % 256 % 256] = sWord m := by
    intro W h0 h1 h2
    unfold sWord
    congr 1
    · omega
    · congr 1; omega
  have HK := Lib.hid key
  have HW : Hid (wrap16 m % 65536 = m % 65536) := wrap16_mod m
  have HC := Lib.hid (fun w => rwrap_any m w)
  clear key
  subst hn
  obtain ⟨h1, h2⟩ := hw
  generalize wrap16 m = W0 at *
  by_cases hneg : W0 < 0
  all_goals
    go_enter Try.func13, Try.ntmps13
    go_wp2_with fail
    refine (HC.out w).mono ?_
    rintro e w' ⟨rfl, rfl⟩
    go_wp2_with fail
    refine (rbyte_any A _ c zs _ w hr rfl (by omega)).mono ?_
    rintro e w1 ⟨A1, n1, c1, rfl, hown, hb1⟩
    have hz := Lib.hid hown.rd.1
    go_wp2_with fail
    refine (rbyte_any A1 _ c1 _ _ w1 hown.rd.2.2 (by rw [hz.out]; simp) (by simp [sByte]; omega)).mono ?_
    rintro e w2 ⟨A2, n2, c2, rfl, hown2, hb2⟩
    go_wp2
    go_ret
    refine ⟨A2, n2, c2, rfl, (hown2.less hb1.size).cast ?_, hb1.trans (hb2.mono hb1.size)⟩
    have hw := HW.out
    first
      | rw [← HK.out (W0 + 65536) (by omega) (by omega) (by omega)]; simp [sByte]
      | rw [← HK.out W0 (by omega) (by omega) (by omega)]; simp [sByte]

theorem rlong_any (A : Option Addr) (n c : Nat) (zs : List Int) (m : Int) (w : World) (hr : Rd w w.heap.size A (cb .u8 zs)) (hn : n = zs.length) (hl : zs.length ≤ 200000000) (h0 : 0 ≤ m) (hm : m ≤ 4294967295) :
    Calls Try.prog 15 #[.slice A n c, .int .u32 m] w (RetOwn w 5 (cb .u8 (zs ++ sLong m))) := by
  subst hn
  go_enter Try.func15, Try.ntmps15
  go_wp2_with fail
  refine (rbyte_any A _ c zs _ w hr rfl (by omega)).mono ?_
  rintro e w1 ⟨A1, n1, c1, rfl, hown, hb1⟩
  have hz := Lib.hid hown.rd.1
  go_wp2_with fail
  refine (rbyte_any A1 _ c1 _ _ w1 hown.rd.2.2 (by rw [hz.out]; simp) (by simp [sByte]; omega)).mono ?_
  rintro e w2 ⟨A2, n2, c2, rfl, hown2, hb2⟩
  have hz2 := Lib.hid hown2.rd.1
  go_wp2_with fail
  refine (rbyte_any A2 _ c2 _ _ w2 hown2.rd.2.2 (by rw [hz2.out]; simp) (by simp [sByte]; omega)).mono ?_
  rintro e w3 ⟨A3, n3, c3, rfl, hown3, hb3⟩
  have hz3 := Lib.hid hown3.rd.1
  go_wp2_with fail
  refine (rbyte_any A3 _ c3 _ _ w3 hown3.rd.2.2 (by rw [hz3.out]; simp) (by simp [sByte]; omega)).mono ?_
  rintro e w4 ⟨A4, n4, c4, rfl, hown4, hb4⟩
  go_wp2
  go_ret
  have b12 := hb1.trans (hb2.mono hb1.size)
  have b13 := b12.trans (hb3.mono b12.size)
  have b14 := b13.trans (hb4.mono b13.size)
  refine ⟨A4, n4, c4, rfl, (hown4.less b13.size).cast ?_, b14⟩
  simp [sByte, sLong]

theorem rhuge_any (A : Option Addr) (n c : Nat) (zs : List Int) (m : Int) (w : World) (hr : Rd w w.heap.size A (cb .u8 zs)) (hn : n = zs.length) (hl : zs.length ≤ 100000000) (h0 : 0 ≤ m) (hm : m ≤ 18446744073709551615) :
    Calls Try.prog 17 #[.slice A n c, .int .u64 m] w (RetOwn w 5 (cb .u8 (zs ++ sHuge m))) := by
  subst hn
  go_enter Try.func17, Try.ntmps17
  go_wp2_with fail
  refine (rlong_any A _ c zs (m / 4294967296) w hr rfl (by omega) (by omega) (by omega)).mono ?_
  rintro e w1 ⟨A1, n1, c1, rfl, hown, hb1⟩
  go_wp2_with fail
  have hz := Lib.hid hown.rd.1
  refine (rlong_any A1 _ c1 (zs ++ sLong (m / 4294967296)) (m % 4294967296) w1 hown.rd.2.2 (by rw [hz.out]; simp) (by simp [sLong]; omega) (by omega) (by omega)).mono ?_
  rintro e w2 ⟨A2, n2, c2, rfl, hown2, hb2⟩
  go_wp2
  go_ret
  exact ⟨A2, n2, c2, rfl, by rw [sHuge, ← List.append_assoc]; exact hown2.less hb1.size, hb1.trans (hb2.mono hb1.size)⟩

/-- The reference's Size calls itself. -/
theorem rsize_nat (k : Nat) : ∀ (A : Option Addr) (n c : Nat) (zs : List Int) (N : Nat) (w : World), Rd w w.heap.size A (cb .u8 zs) → n = zs.length → zs.length + k ≤ 100000100 → N < 128 ^ (k + 1) → N ≤ 9223372036854775807 →
    Calls Try.prog 19 #[.slice A n c, .int .i64 N] w (RetOwn w 5 (cb .u8 (zs ++ sSizeN N))) := by
  induction k with
  | zero =>
    intro A n c zs N w hr hn hl hN hm
    subst hn
    have hN' : N < 128 := by simpa using hN
    go_enter Try.func19, Try.ntmps19
    go_wp2_with fail
    refine (rbyte_any A _ c zs _ w hr rfl (by omega)).mono ?_
    rintro e w1 ⟨A1, n1, c1, rfl, hown, hb1⟩
    go_wp2
    go_ret
    exact ⟨A1, n1, c1, rfl, hown.cast (by rw [sSizeN_small hN', sByte, Int.emod_eq_of_lt (by omega) (by omega)]), hb1⟩
  | succ k ih =>
    intro A n c zs N w hr hn hl hN hm
    subst hn
    have HN := Lib.hid hN
    have IH := Lib.hid ih
    clear hN ih
    by_cases hN' : N < 128
    · go_enter Try.func19, Try.ntmps19
      go_wp2_with fail
      refine (rbyte_any A _ c zs _ w hr rfl (by omega)).mono ?_
      rintro e w1 ⟨A1, n1, c1, rfl, hown, hb1⟩
      go_wp2
      go_ret
      exact ⟨A1, n1, c1, rfl, hown.cast (by rw [sSizeN_small hN', sByte, Int.emod_eq_of_lt (by omega) (by omega)]), hb1⟩
    · go_enter Try.func19, Try.ntmps19
      go_wp2_with fail
      refine (rbyte_any A _ c zs _ w hr rfl (by omega)).mono ?_
      rintro e w1 ⟨A1, n1, c1, rfl, hown, hb1⟩
      go_wp2_with fail
      have hz := Lib.hid hown.rd.1
      rw [show ((N : Int) / 128) = ((N / 128 : Nat) : Int) from by omega]
      refine (IH.out A1 _ c1 _ (N / 128) w1 hown.rd.2.2 (by rw [hz.out]; simp) (by simp [sByte]; omega) (by have h := HN.out; rw [Nat.pow_succ] at h; omega) (by omega)).mono ?_
      rintro e w2 ⟨A2, n2, c2, rfl, hown2, hb2⟩
      go_wp2
      go_ret
      refine ⟨A2, n2, c2, rfl, (hown2.less hb1.size).cast ?_, hb1.trans (hb2.mono hb1.size)⟩
      rw [sSizeN_big hN']
      simp [sByte]
      congr 3
      omega

theorem rsize_any (A : Option Addr) (n c : Nat) (zs : List Int) (m : Int) (w : World) (hr : Rd w w.heap.size A (cb .u8 zs)) (hn : n = zs.length) (hl : zs.length ≤ 100000000) (hm : m ≤ 9223372036854775807) :
    Calls Try.prog 19 #[.slice A n c, .int .i64 m] w (RetOwn w 5 (cb .u8 (zs ++ sSize m))) := by
  by_cases h0 : m < 0
  · subst hn
    have hs : Hid (sSize m = [0]) := by
      unfold Hid sSize
      rw [show m.toNat = 0 from by omega, sSizeN_small (by omega)]
      rfl
    go_enter Try.func19, Try.ntmps19
    go_wp2_with fail
    refine (rbyte_any A _ c zs _ w hr rfl (by omega)).mono ?_
    rintro e w1 ⟨A1, n1, c1, rfl, hown, hb1⟩
    go_wp2
    go_ret
    exact ⟨A1, n1, c1, rfl, hown.cast (by rw [hs.out]; rfl), hb1⟩
  · obtain ⟨N, rfl⟩ := Int.eq_ofNat_of_zero_le (show 0 ≤ m by omega)
    refine rsize_nat 8 A n c zs N w hr hn (by omega) ?_ (by omega)
    have h2 : 128 ^ (8 + 1) = 9223372036854775808 := by decide
    omega
theorem rtext_any (A : Option Addr) (n c : Nat) (zs : List Int) (s : ByteArray) (w : World) (hr : Rd w w.heap.size A (cb .u8 zs)) (hn : n = zs.length) (hl : zs.length ≤ 100000000) (hs : s.size ≤ 100000000) :
    Calls Try.prog 21 #[.slice A n c, .string s] w (RetOwn w 5 (cb .u8 (zs ++ sText s))) := by
  subst hn
  go_enter Try.func21, Try.ntmps21
  go_wp2_with fail
  refine (rsize_any A _ c zs _ w hr rfl hl (by omega)).mono ?_
  rintro e w1 ⟨A1, n1, c1, rfl, hown, hb1⟩
  have hsl := sSize_len (s.size : Int) (by omega)
  go_wp2_with (first
    | (with_reducible refine wp_str_bytes Try.underlying9 Try.underlying22 Try.underlying5 rfl _ rfl rfl ?_; intro A2 c2 w2 hr2 hb2; have hb12 := hb1.trans (hb2.mono hb1.size); have hb := hb12.size)
    | (at_builtin; refine wp_app elemU8 rfl _ _ rfl rfl (hown.below hb2) rfl hr2 (by simp [Lib.strCells_length]) (Lib.strCells_oneCell _) (by simp [Lib.strCells_length]; omega) (by simp [Lib.strCells_length]; omega) hb ?_; intro A3 n3 c3 w3 hown3 hg3))
  go_ret
  exact ⟨A3, n3, c3, rfl, hown3.cast (by rw [sText, strCells_s, ← List.append_assoc, ← cb_append]), below_own hb12 hg3 (hown.below hb2) (Nat.le_refl _) hb⟩

theorem rints_any (A L : Option Addr) (n c m d : Nat) (zs ls : List Int) (w : World) (hr : Rd w w.heap.size A (cb .u8 zs)) (hn : n = zs.length) (hl : zs.length ≤ 1000000) (hL : Rd w w.heap.size L (cb .i64 ls)) (hm : m = ls.length) (hs : ls.length ≤ 1000000) :
    Calls Try.prog 23 #[.slice A n c, .slice L m d] w (RetOwn w 5 (cb .u8 (zs ++ sInts ls))) := by
  subst hn; subst hm
  go_enter Try.func23, Try.ntmps23
  go_wp2_with fail
  refine (rsize_any A _ c zs _ w hr rfl (by omega) (by omega)).mono ?_
  rintro e w1 ⟨A1, n1, c1, rfl, hown, hb1⟩
  have hsl := sSize_len (ls.length : Int) (by omega)
  go_wp2_with fail
  go_loopw [5, 6] (fun s i w2 => ∃ (k : Nat) (A2 : Option Addr) (n2 c2 : Nat), k ≤ ls.length ∧ i = .int .i64 k ∧ s = .slice A2 n2 c2 ∧ Own w2 w.heap.size 5 (.slice A2 n2 c2) (cb .u8 ((zs ++ sSize ls.length) ++ (ls.take k).flatMap sWord)) ∧ Below w.heap.size w w2) (fun _ i _ => ls.length - (intOf i).toNat)
  case atStart => exact ⟨0, A1, n1, c1, by omega, rfl, rfl, by simpa using hown, hb1⟩
  case round =>
    obtain ⟨k, A2, n2, c2, hk, rfl, rfl, hown2, hbel⟩ := hrel
    have hb := hbel.size
    by_cases hlt : k < ls.length
    · obtain ⟨b, o, rfl, _, hc⟩ := (hL.below hbel).num hlt
      have hlen : Hid (((ls.take k).flatMap sWord).length = 2 * k) := by unfold Hid; rw [words_len, List.length_take]; omega
      have hz := Lib.hid hown2.rd.1
      go_wp2_with (go_at_call 13; refine (rword_any A2 _ c2 _ _ wr hown2.rd.2.2 (by rw [hz.out]; simp) (by simp [hlen.out]; omega)).mono ?_; rintro e w3 ⟨A3, n3, c3, rfl, hown3, hb3⟩)
      go_roundw
      case rel => exact ⟨k + 1, A3, n3, c3, by omega, by go_num, rfl, by rw [words_snoc _ _ hlt, ← List.append_assoc]; exact hown3.less hb, hbel.trans (hb3.mono hb)⟩
      case measure => simp [intOf]; omega
    · obtain rfl : k = ls.length := by omega
      go_wp2
      go_ret
      exact ⟨A2, n2, c2, rfl, by rw [sInts, ← List.append_assoc]; rw [List.take_length] at hown2; exact hown2, hbel⟩

/-- clewref02.Bytes at two slices that hold the same. -/
theorem rbytes_same (A A' : Option Addr) (n n' c c' : Nat) (xs : List Int) (w : World) (B B' : Nat) (hx : Rd w B A (cb .u8 xs)) (hy : Rd w B' A' (cb .u8 xs)) (hn : n = xs.length) (hn' : n' = xs.length) :
    Calls Try.prog 9 #[.slice A n c, .slice A' n' c'] w fun e w' => e = .returned (.bool true) ∧ w = w' := by
  have h1 := conv_str (P := Try.prog) Try.underlying22 Try.underlying5 Try.underlying9 (c := c) hx hn
  have h2 := conv_str (P := Try.prog) Try.underlying22 Try.underlying5 Try.underlying9 (c := c') hy hn'
  clear hn hn'
  go_enter Try.func9, Try.ntmps9
  go_wp2
  go_ret
  exact ⟨rfl, rfl⟩
end Go.Proofs.Ytljebpbjjfnmkaa
