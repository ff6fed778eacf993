/- The contracts of the reference's Pack. -/
import Derived.Test.YtianabgdggheiaaAlphaD
namespace Go.Proofs.Ytianabgdggheiaa
open Go.RowKit Go.IntWalk
set_option maxRecDepth 100000
set_option linter.unusedVariables false

/-- The i-th code that is packed, the end code behind them. -/
def pkC (ls : List Int) (i : Nat) : Int := if i < ls.length then ls.getD i 0 % 32 else 31
/-- The bits of the first codes, the end code among them. -/
def pkF (ls : List Int) (k : Nat) : List Int := (List.range k).flatMap fun i => bits5 (pkC ls i)
theorem pkF_succ (ls : List Int) (k : Nat) : pkF ls (k + 1) = pkF ls k ++ bits5 (pkC ls k) := by simp [pkF, List.range_succ]
theorem pkF_len (ls : List Int) (k : Nat) : (pkF ls k).length = 5 * k := by
  induction k with
  | zero => rfl
  | succ k ih => rw [pkF_succ, List.length_append, ih]; simp [bits5]; omega
theorem pkF_take (ls : List Int) (k : Nat) (h : k ≤ ls.length) : pkF ls k = pBits (ls.take k) := by
  induction k with
  | zero => rfl
  | succ k ih =>
    rw [pkF_succ, ih (by omega), pBits_snoc ls k (by omega)]
    congr 2
    unfold pkC
    rw [if_pos (by omega)]
    simp [List.getD, List.getElem?_eq_getElem (show k < ls.length by omega)]
theorem pkF_all (ls : List Int) : pkF ls (ls.length + 1) = pBits ls ++ bits5 31 := by
  rw [pkF_succ, pkF_take _ _ (Nat.le_refl _), List.take_of_length_le (Nat.le_refl _)]
  congr 2
  unfold pkC
  rw [if_neg (by omega)]
theorem pkC_bd (ls : List Int) (k : Nat) : 0 ≤ pkC ls k ∧ pkC ls k < 32 := by unfold pkC; split <;> omega
/-- Bits and what fills the last byte. -/
def padTo (l : List Int) (n : Nat) : List Int := l ++ List.replicate n 0
theorem padTo_succ (l : List Int) (n : Nat) : padTo l (n + 1) = padTo l n ++ [0] := by
  simp [padTo, List.replicate_succ']
theorem padTo_get (l : List Int) (n i : Nat) : (padTo l n).getD i 0 = l.getD i 0 := by
  unfold padTo
  by_cases h : i < l.length
  · rw [getD_app_lt _ _ _ h]
  · rw [getD_ge l i (by omega)]
    simp only [List.getD, List.getElem?_append_right (Nat.le_of_not_lt h), List.getElem?_replicate]
    split <;> rfl
theorem byteAt_pad (l : List Int) (n i : Nat) : byteAt (padTo l n) i = byteAt l i := by simp only [byteAt, padTo_get]
/-- The number of the first bits of a byte. -/
def byteP (l : List Int) (i : Nat) : Nat → Int
  | 0 => 0
  | k + 1 => 2 * byteP l i k + l.getD (8 * i + k) 0
theorem byteP_all (l : List Int) (i : Nat) : byteP l i 8 = byteAt l i := by
  simp only [byteP, byteAt, Nat.add_zero]; omega
theorem byteP_bd (l : List Int) (hb : Bit l) (i k : Nat) : 0 ≤ byteP l i k ∧ byteP l i k < 2 ^ k := by
  induction k with
  | zero => simp [byteP]
  | succ k ih =>
    have := hb.getD (8 * i + k)
    rw [byteP, Int.pow_succ]
    omega
theorem byteP_256 (l : List Int) (hb : Bit l) (i k : Nat) (h : k ≤ 8) : byteP l i k < 256 := by
  have h1 := (byteP_bd l hb i k).2
  have h2 : (2 : Int) ^ k ≤ 2 ^ 8 := by exact_mod_cast Nat.pow_le_pow_right (by omega) h
  omega
theorem pkF_bit (ls : List Int) (k : Nat) : Bit (pkF ls k) := by
  intro x hx
  obtain ⟨n, _, h⟩ := List.mem_flatMap.1 hx
  exact bits5_bit _ x h
theorem padTo_bit (l : List Int) (h : Bit l) (n : Nat) : Bit (padTo l n) := h.append fun x hx => .inl (List.eq_of_mem_replicate hx)
theorem pow_div (k : Nat) (h : k < 5) : (2 : Int) ^ (4 - k) / 2 = if k = 4 then 0 else 2 ^ (4 - (k + 1)) := by
  match k, h with
  | 0, _ => decide
  | 1, _ => decide
  | 2, _ => decide
  | 3, _ => decide
  | 4, _ => decide
/-- 16, 8, 4, 2, 1, then 0. -/
def half (k : Nat) : Int := if k < 5 then 2 ^ (4 - k) else 0
theorem half_succ (k : Nat) (h : k < 5) : half k / 2 = half (k + 1) := by
  match k, h with
  | 0, _ => decide
  | 1, _ => decide
  | 2, _ => decide
  | 3, _ => decide
  | 4, _ => decide
theorem half_bd (k : Nat) : 0 ≤ half k ∧ half k ≤ 16 := by
  unfold half
  split
  · rename_i h
    match k, h with
    | 0, _ => decide
    | 1, _ => decide
    | 2, _ => decide
    | 3, _ => decide
    | 4, _ => decide
  · omega
theorem half_pos (k : Nat) (h : k < 5) : 0 < half k := by
  match k, h with
  | 0, _ => decide
  | 1, _ => decide
  | 2, _ => decide
  | 3, _ => decide
  | 4, _ => decide

/-- What holds at the head of the loop over a code's bits. -/
def RpIn (w w2 : World) (F : List Int) (x : Int) (o i : Value) : Prop :=
  ∃ (j : Nat) (A2 : Option Addr) (n2 c2 : Nat), j ≤ 5 ∧ i = .int .i64 (half j) ∧ o = .slice A2 n2 c2 ∧ Own w2 w.heap.size 3 (.slice A2 n2 c2) (cb .i64 (F ++ (bits5 x).take j)) ∧ Below w.heap.size w w2

/-- What holds at the head of the loop that fills the last byte. -/
def PadIn (w w2 : World) (F : List Int) (o : Value) : Prop :=
  ∃ (m : Nat) (A2 : Option Addr) (n2 c2 : Nat), m ≤ (8 - F.length % 8) % 8 ∧ o = .slice A2 n2 c2 ∧ Own w2 w.heap.size 3 (.slice A2 n2 c2) (cb .i64 (padTo F m)) ∧ Below w.heap.size w w2
/-- What holds at the head of the loop over the bytes. -/
def ByIn (w w2 : World) (G : List Int) (n3 c3 : Nat) (A3 : Option Addr) (o i : Value) : Prop :=
  ∃ (q : Nat) (A2 : Option Addr) (n2 c2 : Nat), 8 * q ≤ n3 ∧ i = .int .i64 ((8 * q : Nat) : Int) ∧ o = .slice A2 n2 c2 ∧ Own w2 w.heap.size 5 (.slice A2 n2 c2) (cb .u8 ((List.range q).map (byteAt G))) ∧ Own w2 w.heap.size 3 (.slice A3 n3 c3) (cb .i64 G) ∧ Below w.heap.size w w2

set_option maxHeartbeats 3200000 in
theorem rpack_any (A : Option Addr) (n c : Nat) (ls : List Int) (w : World) (hr : Rd w w.heap.size A (cb .i64 ls)) (hn : n = ls.length) (hl : n ≤ 1000000) :
    Calls Try.prog 18 #[.slice A n c] w (RetOwn w 5 (cb .u8 (aPack ls))) := by
  have HN := Lib.hid hn
  clear hn
  go_enter Try.func18, Try.ntmps18
  go_wp2_with fail
  go_loopw [3, 4] (fun o i w2 => ∃ (k : Nat) (A2 : Option Addr) (n2 c2 : Nat), k ≤ n + 1 ∧ i = .int .i64 k ∧ o = .slice A2 n2 c2 ∧ Own w2 w.heap.size 3 (.slice A2 n2 c2) (cb .i64 (pkF ls k)) ∧ Below w.heap.size w w2) (fun _ i _ => n + 1 - (intOf i).toNat)
  case atStart => exact ⟨0, none, 0, 0, by omega, rfl, rfl, Own.nil _ _ _, Below.refl _ _⟩
  case round =>
    obtain ⟨k, A2, n2, c2, hk, rfl, rfl, hown, hbel⟩ := hrel
    have hb := hbel.size
    have hpl := Lib.hid (pkF_len ls k)
    obtain ⟨hc0, hc1⟩ := pkC_bd ls k
    rcases Nat.lt_trichotomy k n with hlt | hlt | hlt
    · have hkl : k < ls.length := by have := HN.out; omega
      obtain ⟨b, o, rfl, _, hc⟩ := (hr.below hbel).num hkl
      have hC : Hid ((ls[k].tmod 32 + 32) % 32 = pkC ls k) := by
        unfold Hid pkC
        rw [if_pos hkl]
        simp only [List.getD, List.getElem?_eq_getElem hkl, Option.getD_some]
        rcases tmod_cases ls[k] 32 with ⟨_, h⟩ | ⟨_, h⟩ <;> omega
      have ht : -32 < ls[k].tmod 32 ∧ ls[k].tmod 32 < 32 := by
        rcases tmod_cases ls[k] 32 with ⟨_, h⟩ | ⟨_, h⟩ <;> omega
      obtain ⟨ht1, ht2⟩ := ht
      have e1 : decide (k ≤ n) = true := by simp; omega
      go_wp2_with fail
      rw [hC.out]
      clear hC
      go_loopw [3, 6] (fun o i w2 => RpIn w w2 (pkF ls k) (pkC ls k) o i) (fun _ i _ => (intOf i).toNat)
      case atStart => unfold RpIn; exact ⟨0, A2, n2, c2, by omega, rfl, rfl, by simpa using hown, hbel⟩
      case round =>
        obtain ⟨j, A3, n3, c3, hj, rfl, rfl, hown3, hbel3⟩ := hrel
        have hb3 := hbel3.size
        obtain ⟨h0, h16⟩ := half_bd j
        by_cases hj5 : j < 5
        · have hp := half_pos j hj5
          have hs := Lib.hid (half_succ j hj5)
          have hq0 : 0 ≤ pkC ls k / half j := Int.ediv_nonneg hc0 h0
          have hget : Hid ((bits5 (pkC ls k)).take (j + 1) = (bits5 (pkC ls k)).take j ++ [pkC ls k / half j % 2]) := by
            unfold Hid
            have hl : (bits5 (pkC ls k)).length = 5 := rfl
            rw [List.take_succ_eq_append_getElem (by omega), bits5_get _ hc0 hc1 j hj5]
            unfold half
            rw [if_pos hj5]
          have hlen3 : Hid ((pkF ls k ++ (bits5 (pkC ls k)).take j).length ≤ 5 * k + 5) := by
            unfold Hid
            rw [List.length_append, List.length_take, hpl.out]; omega
          have hhalf : half j / 2 < half j := by omega
          generalize half j = hh at *
          go_wp2_with (at_builtin; refine wp_app elemInt rfl _ _ rfl rfl (hown3.alloc _) rfl (Rd.new _ [_] _) rfl (one1 _ _) (by have := hlen3.out; rw [cb_length]; simp only [List.length_cons, List.length_nil]; omega) (by have := hlen3.out; rw [cb_length]; simp only [List.length_cons, List.length_nil]; omega) (by simp; omega) ?_; intro A4 n4 c4 w4 hown4 hg4)
          go_roundw
          case rel => unfold RpIn; exact ⟨j + 1, A4, n4, c4, by omega, by rw [hs.out], rfl, by rw [hget.out, ← List.append_assoc, cb_append]; exact hown4, below_own (hbel3.alloc hb3 _) hg4 (hown3.alloc _) (Nat.le_refl _) (by simp; omega)⟩
          case measure => simp [intOf]; try omega
        · obtain rfl : j = 5 := by omega
          have h5 : half 5 = 0 := rfl
          have hall : Hid (pkF ls k ++ (bits5 (pkC ls k)).take 5 = pkF ls (k + 1)) := (pkF_succ ls k).symm
          rw [h5]
          clear h5
          go_wp2_with fail
          go_roundw
          case rel => exact ⟨k + 1, A3, n3, c3, by omega, by go_num, rfl, by rw [← hall.out]; exact hown3, hbel3⟩
          case measure => simp [intOf]; try omega
    · obtain rfl : n = k := hlt.symm
      clear hlt
      have e1 : decide (n ≤ n) = true := by simp
      have hC : Hid (pkC ls n = 31) := by
        unfold Hid pkC
        rw [if_neg (by have := HN.out; omega)]
      go_wp2_with fail
      rw [← hC.out]
      go_loopw [3, 6] (fun o i w2 => RpIn w w2 (pkF ls n) (pkC ls n) o i) (fun _ i _ => (intOf i).toNat)
      case atStart => unfold RpIn; exact ⟨0, A2, n2, c2, by omega, rfl, rfl, by simpa using hown, hbel⟩
      case round =>
        obtain ⟨j, A3, n3, c3, hj, rfl, rfl, hown3, hbel3⟩ := hrel
        have hb3 := hbel3.size
        obtain ⟨h0, h16⟩ := half_bd j
        by_cases hj5 : j < 5
        · have hp := half_pos j hj5
          have hs := Lib.hid (half_succ j hj5)
          have hq0 : 0 ≤ pkC ls n / half j := Int.ediv_nonneg hc0 h0
          have hget : Hid ((bits5 (pkC ls n)).take (j + 1) = (bits5 (pkC ls n)).take j ++ [pkC ls n / half j % 2]) := by
            unfold Hid
            have hl : (bits5 (pkC ls n)).length = 5 := rfl
            rw [List.take_succ_eq_append_getElem (by omega), bits5_get _ hc0 hc1 j hj5]
            unfold half
            rw [if_pos hj5]
          have hlen3 : Hid ((pkF ls n ++ (bits5 (pkC ls n)).take j).length ≤ 5 * n + 5) := by
            unfold Hid
            rw [List.length_append, List.length_take, hpl.out]; omega
          have hhalf : half j / 2 < half j := by omega
          generalize half j = hh at *
          go_wp2_with (at_builtin; refine wp_app elemInt rfl _ _ rfl rfl (hown3.alloc _) rfl (Rd.new _ [_] _) rfl (one1 _ _) (by have := hlen3.out; rw [cb_length]; simp only [List.length_cons, List.length_nil]; omega) (by have := hlen3.out; rw [cb_length]; simp only [List.length_cons, List.length_nil]; omega) (by simp; omega) ?_; intro A4 n4 c4 w4 hown4 hg4)
          go_roundw
          case rel => unfold RpIn; exact ⟨j + 1, A4, n4, c4, by omega, by rw [hs.out], rfl, by rw [hget.out, ← List.append_assoc, cb_append]; exact hown4, below_own (hbel3.alloc hb3 _) hg4 (hown3.alloc _) (Nat.le_refl _) (by simp; omega)⟩
          case measure => simp [intOf]; try omega
        · obtain rfl : j = 5 := by omega
          have h5 : half 5 = 0 := rfl
          have hall : Hid (pkF ls n ++ (bits5 (pkC ls n)).take 5 = pkF ls (n + 1)) := (pkF_succ ls n).symm
          rw [h5]
          clear h5
          go_wp2_with fail
          go_roundw
          case rel => exact ⟨n + 1, A3, n3, c3, by omega, by go_num, rfl, by rw [← hall.out]; exact hown3, hbel3⟩
          case measure => simp [intOf]; try omega
    · have HK : Hid (k = n + 1) := by unfold Hid; omega
      rw [HK.out] at hown hpl
      have hbt := pkF_bit ls (n + 1)
      have hpk : Hid (pkB (pkF ls (n + 1)) = aPack ls) := by
        unfold Hid aPack
        rw [HN.out, pkF_all]
      clear hc0 hc1
      generalize pkF ls (n + 1) = F at *
      have e1 : decide (k ≤ n) = false := by simp; omega
      have hF : F.length = 5 * (n + 1) := hpl.out
      have HF := Lib.hid hF
      clear hF
      go_wp2_with fail
      go_loopw [3] (fun o w2 => PadIn w w2 F o) (fun o _ => (8 - lenOf o % 8) % 8)
      case atStart => unfold PadIn; exact ⟨0, A2, n2, c2, by omega, rfl, by simpa [padTo] using hown, hbel⟩
      case round =>
        obtain ⟨m, A3, n3, c3, hm, rfl, hown3, hbel3⟩ := hrel
        have hb3 := hbel3.size
        have hn3 : Hid (n3 = F.length + m) := by unfold Hid; rw [hown3.rd.1]; simp [padTo]
        by_cases h8 : n3 % 8 = 0
        · have e8 : (((n3 : Int) % 8) != 0) = false := by simp; omega
          have hbt3 : Bit (padTo F m) := padTo_bit F hbt m
          have hpk3 : Hid ((List.range (n3 / 8)).map (byteAt (padTo F m)) = aPack ls) := by
            unfold Hid
            rw [← hpk.out, pkB]
            have : n3 / 8 = (F.length + 7) / 8 := by have := hn3.out; omega
            rw [this]
            exact List.map_congr_left fun i _ => byteAt_pad F m i
          have hl3 : Hid ((padTo F m).length = n3) := by unfold Hid; rw [hn3.out]; simp [padTo]
          generalize padTo F m = G at *
          have hnb : n3 ≤ 6000000 := by have := hn3.out; have := HF.out; omega
          obtain ⟨w3, rfl⟩ : ∃ w3 : World, w3 = wr := ⟨_, rfl⟩
          go_wp2_with fail
          go_loopw [7, 8] (fun o i w2 => ByIn w w2 G n3 c3 A3 o i) (fun _ i _ => n3 - (intOf i).toNat)
          case atStart => unfold ByIn; exact ⟨0, none, 0, 0, by omega, rfl, rfl, (Own.nil _ _ _).cast rfl, hown3, hbel3⟩
          case round =>
            obtain ⟨q, A4, n4, c4, hq, rfl, rfl, hown4, hbits, hbel4⟩ := hrel
            have hb4 := hbel4.size
            obtain ⟨w4, rfl⟩ : ∃ w4 : World, w4 = wr := ⟨_, rfl⟩
            by_cases hql : 8 * q < n3
            · go_wp2_with fail
              go_loop [9, 10] (fun v i => ∃ j : Nat, j ≤ 8 ∧ i = .int .i64 j ∧ v = .int .i64 (byteP G q j)) (fun _ i => 8 - (intOf i).toNat)
              case atStart => exact ⟨0, by omega, rfl, rfl⟩
              case round =>
                obtain ⟨j, hj, rfl, rfl⟩ := hrel
                have hp0 := (byteP_bd G hbt3 q j).1
                have hp1 := byteP_256 G hbt3 q j hj
                by_cases hj8 : j < 8
                · have hix : 8 * q + j < G.length := by have := hl3.out; omega
                  obtain ⟨b, o, rfl, _, hc⟩ := hbits.rd.2.2.num hix
                  have g1 : ((8 * q + j : Nat) : Int) < (n3 : Int) := by omega
                  have hgd : Hid (byteP G q (j + 1) = 2 * byteP G q j + G[8 * q + j]) := by
                    unfold Hid
                    rw [byteP]
                    simp only [List.getD, List.getElem?_eq_getElem hix, Option.getD_some]
                  have hbx : G[8 * q + j] = 0 ∨ G[8 * q + j] = 1 := hbt3 _ (List.getElem_mem hix)
                  have hb0 : 0 ≤ G[8 * q + j] ∧ G[8 * q + j] ≤ 1 := by omega
                  obtain ⟨hb00, hb01⟩ := hb0
                  clear hbx
                  go_wp2
                  go_round
                  case rel => exact ⟨j + 1, by omega, by go_num, by rw [hgd.out]⟩
                  case measure => simp [intOf]; try omega
                · obtain rfl : j = 8 := by omega
                  have h8a := Lib.hid (byteP_all G q)
                  have hlen4 : Hid ((cb .u8 ((List.range q).map (byteAt G))).length = q) := by unfold Hid; simp
                  go_wp2_with (at_builtin; refine wp_app elemU8 rfl _ _ rfl rfl (hown4.alloc _) rfl (Rd.new _ [_] _) rfl (one1 _ _) (by rw [hlen4.out]; simp only [List.length_cons, List.length_nil]; omega) (by rw [hlen4.out]; simp only [List.length_cons, List.length_nil]; omega) (by simp; omega) ?_; intro A5 n5 c5 w5 hown5 hg5)
                  have hg6 : (w4.alloc (.cells #[.int .u8 (byteP G q 8)] 5)).grownBy w5 (Value.slice A4 n4 c4).ownBlock := hg5
                  go_roundw
                  case rel =>
                    unfold ByIn
                    exact ⟨q + 1, A5, n5, c5, by omega, by go_num, rfl, by rw [List.range_succ, List.map_append, cb_append, List.map_singleton, ← h8a.out]; exact hown5, (hbits.alloc _).grown hg6 (hbits.ne_own hown4 (by decide)), below_own (hbel4.alloc hb4 _) hg6 (hown4.alloc _) (Nat.le_refl _) (by simp; omega)⟩
                  case measure => simp [intOf]; try omega
            · go_wp2
              go_ret
              have hq8 : q = n3 / 8 := by omega
              exact ⟨A4, n4, c4, rfl, by rw [← hpk3.out, ← hq8]; exact hown4, hbel4⟩
        · have e8 : (((n3 : Int) % 8) != 0) = true := by simp; omega
          have hlm : Hid ((padTo F m).length ≤ 6000000) := by unfold Hid; have := HF.out; simp [padTo]; omega
          have hm2 : m < 8 := by omega
          go_wp2_with (at_builtin; refine wp_app elemInt rfl _ _ rfl rfl (hown3.alloc _) rfl (Rd.new _ [_] _) rfl (one1 _ _) (by have := hlm.out; rw [cb_length]; simp only [List.length_cons, List.length_nil]; omega) (by have := hlm.out; rw [cb_length]; simp only [List.length_cons, List.length_nil]; omega) (by simp; omega) ?_; intro A5 n5 c5 w5 hown5 hg5)
          have hn5 : n5 = n3 + 1 := by rw [hown5.rd.1, hn3.out]; simp [padTo]
          go_roundw
          case rel =>
            unfold PadIn
            exact ⟨m + 1, A5, n5, c5, by have := hn3.out; omega, rfl, by rw [padTo_succ, cb_append]; exact hown5, below_own (hbel3.alloc hb3 _) hg5 (hown3.alloc _) (Nat.le_refl _) (by simp; omega)⟩
          case measure => simp [lenOf]; omega
end Go.Proofs.Ytianabgdggheiaa
