/- The contract of the reference's Unpack. -/
import Derived.Test.YtianabgdggheiaaAlphaF
namespace Go.Proofs.Ytianabgdggheiaa
open Go.RowKit Go.IntWalk
set_option maxRecDepth 100000
set_option linter.unusedVariables false

/-- Behind a place in the last byte nothing but 0. -/
theorem tail_byte (x : Int) (h0 : 0 ≤ x) (h1 : x < 256) (s : Nat) (hs : s ≤ 8) : x * 2 ^ s % 256 = 0 ↔ ∀ j, s ≤ j → j < 8 → x / 2 ^ (7 - j) % 2 = 0 := by
  have key : ∀ (y : Fin 256) (s : Fin 9), (y.val : Int) * 2 ^ s.val % 256 = 0 ↔ ∀ j : Fin 8, s.val ≤ j.val → (y.val : Int) / 2 ^ (7 - j.val) % 2 = 0 := by decide +kernel
  have := key ⟨x.toNat, by omega⟩ ⟨s, by omega⟩
  simp only [Int.toNat_of_nonneg h0] at this
  rw [this]
  exact ⟨fun h j h1 h2 => h ⟨j, h2⟩ h1, fun h j h1 => h j.val h1 j.2⟩
theorem aEnd_bits (bs : List Int) (hb : Bts bs) (k : Nat) (hk : 5 * k + 5 ≤ 8 * bs.length) (hn : ¬ (5 * k + 12) / 8 < bs.length) (out : List Int) :
    ((∀ j, 5 * k + 5 ≤ j → j < 8 * bs.length → bitAt bs j = 0) → aEnd bs (5 * k + 5) out = (out, 0)) ∧ (∀ j, 5 * k + 5 ≤ j → j < 8 * bs.length → bitAt bs j = 1 → aEnd bs (5 * k + 5) out = ([], 4)) := by
  have hl : (5 * k + 4) / 8 < bs.length := by omega
  have hx := hb.get hl
  have hg : bs.getD ((5 * k + 4) / 8) 0 = bs[(5 * k + 4) / 8] := by simp only [List.getD, List.getElem?_eq_getElem hl, Option.getD_some]
  have hq : (5 * k + 4) / 8 + 1 = bs.length := by omega
  have ht := tail_byte _ hx.1 hx.2 (5 * k + 5 - 8 * ((5 * k + 4) / 8)) (by omega)
  unfold aEnd
  rw [show 5 * k + 5 - 1 = 5 * k + 4 from rfl, if_neg (by omega), hg]
  have e : (∀ j, 5 * k + 5 ≤ j → j < 8 * bs.length → bitAt bs j = 0) ↔ bs[(5 * k + 4) / 8] * 2 ^ (5 * k + 5 - 8 * ((5 * k + 4) / 8)) % 256 = 0 := by
    rw [ht]
    constructor
    · intro h j h1 h2
      have := h (8 * ((5 * k + 4) / 8) + j) (by omega) (by omega)
      unfold bitAt at this
      rw [show (8 * ((5 * k + 4) / 8) + j) / 8 = (5 * k + 4) / 8 by omega, show (8 * ((5 * k + 4) / 8) + j) % 8 = j by omega, hg] at this
      exact this
    · intro h j h1 h2
      have := h (j - 8 * ((5 * k + 4) / 8)) (by omega) (by omega)
      unfold bitAt
      rw [show j / 8 = (5 * k + 4) / 8 by omega, show j % 8 = j - 8 * ((5 * k + 4) / 8) by omega, hg]
      exact this
  refine ⟨fun h => by rw [if_neg (by simpa using e.1 h)], fun j h1 h2 h3 => ?_⟩
  rw [if_pos]
  intro hz
  have := e.2 hz j h1 h2
  omega
theorem bit_int (A : Option Addr) (n c : Nat) (bs : List Int) (t : Int) (w : World) (B : Nat) (hr : Rd w B A (cb .u8 bs)) (hn : n = bs.length) (hb : Bts bs) (h0 : 0 ≤ t) (ht : t < 8 * n) (hl : n ≤ 100000000) :
    Calls Try.prog 26 #[.slice A n c, .int .i64 t] w fun e w' => e = .returned (.int .i64 (bitAt bs t.toNat)) ∧ w = w' := by
  obtain ⟨q, rfl⟩ := Int.eq_ofNat_of_zero_le h0
  exact bit_any A n c bs q w B hr hn hb (by omega) hl

/-- What holds at the head of the loop over the codes. -/
def RuIn (w w2 : World) (bs : List Int) (n : Nat) (o i : Value) : Prop :=
  ∃ (k : Nat) (A2 : Option Addr) (n2 c2 : Nat), 5 * k ≤ 8 * n ∧ i = .int .i64 (5 * (k : Int)) ∧ o = .slice A2 n2 c2 ∧ Own w2 w.heap.size 3 (.slice A2 n2 c2) (cb .i64 (aOut bs k)) ∧ Below w.heap.size w w2 ∧ Hid (∀ j, j < k → code5 bs (5 * j) ≠ 31)

set_option maxHeartbeats 1600000 in
theorem runpack_any (A : Option Addr) (n c : Nat) (bs : List Int) (w : World) (hr : Rd w w.heap.size A (cb .u8 bs)) (hn : n = bs.length) (hb : Bts bs) (hl : n ≤ 10000000) :
    Calls Try.prog 16 #[.slice A n c] w fun e w' => ∃ A' n' c', e = .returned (.tuple #[.slice A' n' c', .int .i64 (aUnpack bs).2]) ∧ Own w' w.heap.size 3 (.slice A' n' c') (cb .i64 (aUnpack bs).1) ∧ Below w.heap.size w w' := by
  have HN := Lib.hid hn
  clear hn
  go_enter Try.func16, Try.ntmps16
  go_wp2_with fail
  go_loopw [4, 5] (fun o i w2 => RuIn w w2 bs n o i) (fun _ i _ => 8 * n - (intOf i).toNat)
  case atStart => unfold RuIn; exact ⟨0, none, 0, 0, by omega, rfl, rfl, Own.nil _ _ _, Below.refl _ _, by unfold Hid; intro j hj; omega⟩
  case round =>
    obtain ⟨k, A2, n2, c2, hk, rfl, rfl, hown, hbel, hq⟩ := hrel
    have hbs := hbel.size
    have hol := Lib.hid (aOut_len bs k)
    obtain ⟨w2, rfl⟩ : ∃ w2 : World, w2 = wr := ⟨_, rfl⟩
    by_cases hlt : 5 * k + 5 ≤ 8 * n
    · have g0 : decide ((5 * (k : Int)) + 5 ≤ 8 * (n : Int)) = true := by simp; omega
      go_wp2_with fail
      go_loop [6, 7] (fun v i => ∃ j : Nat, j ≤ 5 ∧ i = .int .i64 j ∧ v = .int .i64 (codeP bs (5 * k) j)) (fun _ i => 5 - (intOf i).toNat)
      case atStart => exact ⟨0, by omega, rfl, rfl⟩
      case round =>
        obtain ⟨j, hj, rfl, rfl⟩ := hrel
        have hx0 := (codeP_bd bs (5 * k) j).1
        have hx2 := codeP_32 bs (5 * k) j hj
        by_cases hj5 : j < 5
        · have h01 : 0 ≤ bitAt bs (5 * k + j) ∧ bitAt bs (5 * k + j) ≤ 1 := by have := bitAt_01 bs (5 * k + j); omega
          obtain ⟨h010, h011⟩ := h01
          have hnx : Hid (codeP bs (5 * k) (j + 1) = 2 * codeP bs (5 * k) j + bitAt bs (5 * k + j)) := rfl
          go_wp2_with fail
          refine (bit_int A n c bs (5 * (k : Int) + j) w2 w.heap.size (hr.below hbel) HN.out hb (by omega) (by omega) (by omega)).mono ?_
          rw [show (5 * (k : Int) + j).toNat = 5 * k + j from by omega]
          rintro e w' ⟨rfl, rfl⟩
          go_wp2
          go_round
          case rel => exact ⟨j + 1, by omega, by go_num, by rw [hnx.out]⟩
          case measure => simp [intOf]; omega
        · obtain rfl : j = 5 := by omega
          have h5 : codeP bs (5 * k) 5 = code5 bs (5 * k) := codeP_five bs (5 * k)
          rw [h5]
          rw [h5] at hx0 hx2
          clear h5
          by_cases h31 : code5 bs (5 * k) = 31
          · have hk5 : k < 8 * bs.length / 5 := by have := HN.out; omega
            have hsm := Lib.hid (aUnpack_some bs k hk5 hq.out h31)
            have H31 := Lib.hid h31
            rw [h31]
            clear h31 hx0 hx2
            by_cases hn1 : (5 * k + 12) / 8 < n
            · have hfin : Hid (aUnpack bs = ([], 3)) := by
                unfold Hid; rw [hsm.out]; unfold aEnd; rw [if_pos (by have := HN.out; omega)]
              have g1 : (5 * (k : Int) + 12) / 8 < (n : Int) := by omega
              go_wp2
              go_ret2
              exact ⟨none, 0, 0, by rw [hfin.out]; rfl, by rw [hfin.out]; exact Own.nil _ _ _, hbel⟩
            · have g1 : ¬ ((5 * (k : Int) + 12) / 8 < (n : Int)) := by omega
              have hE := aEnd_bits bs hb k (by have := HN.out; omega) (by have := HN.out; omega) (aOut bs k)
              have hE1 := Lib.hid hE.1
              have hE2 := Lib.hid hE.2
              clear hE
              go_wp2_with fail
              go_loop [8] (fun i => ∃ q : Nat, 5 * k + 5 ≤ q ∧ q ≤ 8 * n ∧ i = .int .i64 q ∧ Hid (∀ j, 5 * k + 5 ≤ j → j < q → bitAt bs j = 0)) (fun i => 8 * n - (intOf i).toNat)
              case atStart => exact ⟨5 * k + 5, by omega, by omega, by go_num, by unfold Hid; intro j h1 h2; omega⟩
              case round =>
                obtain ⟨q, hq1, hq2, rfl, hz⟩ := hrel
                by_cases hq3 : q < 8 * n
                · rcases bitAt_01 bs q with hb0 | hb1
                  · have hz2 : Hid (∀ j, 5 * k + 5 ≤ j → j < q + 1 → bitAt bs j = 0) := by
                      unfold Hid
                      intro j h1 h2
                      rcases Nat.lt_or_ge j q with h | h
                      · exact hz.out j h1 h
                      · obtain rfl : j = q := by omega
                        exact hb0
                    have HB := Lib.hid hb0
                    clear hb0
                    go_wp2_with fail
                    refine (bit_any A n c bs q w2 w.heap.size (hr.below hbel) HN.out hb hq3 (by omega)).mono ?_
                    rw [HB.out]
                    rintro e w' ⟨rfl, rfl⟩
                    go_wp2_with fail
                    go_round
                    case rel => exact ⟨q + 1, by omega, by omega, by go_num, hz2⟩
                    case measure => simp [intOf]; omega
                  · have hfin : Hid (aUnpack bs = ([], 4)) := by
                      unfold Hid
                      rw [hsm.out]
                      exact hE2.out q hq1 (by have := HN.out; omega) hb1
                    have HB := Lib.hid hb1
                    clear hb1
                    go_wp2_with fail
                    refine (bit_any A n c bs q w2 w.heap.size (hr.below hbel) HN.out hb hq3 (by omega)).mono ?_
                    rw [HB.out]
                    rintro e w' ⟨rfl, rfl⟩
                    go_wp2_with fail
                    go_ret2
                    exact ⟨none, 0, 0, by rw [hfin.out]; rfl, by rw [hfin.out]; exact Own.nil _ _ _, hbel⟩
                · have hfin : Hid (aUnpack bs = (aOut bs k, 0)) := by
                    unfold Hid
                    rw [hsm.out]
                    exact hE1.out fun j h1 h2 => hz.out j h1 (by have := HN.out; omega)
                  go_wp2_with fail
                  go_ret2
                  exact ⟨A2, n2, c2, by rw [hfin.out]; rfl, by rw [hfin.out]; exact hown, hbel⟩
          · have e31 : (code5 bs (5 * k) != 31) = true := by simpa using h31
            have hq2 : Hid (∀ j, j < k + 1 → code5 bs (5 * j) ≠ 31) := by
              unfold Hid
              intro j hj
              rcases Nat.lt_or_ge j k with h | h
              · exact hq.out j h
              · obtain rfl : j = k := by omega
                exact h31
            have hsu := Lib.hid (aOut_succ bs k)
            clear h31
            go_wp2_with (at_builtin; refine wp_app elemInt rfl _ _ rfl rfl (hown.alloc _) rfl (Rd.new _ [_] _) rfl (one1 _ _) (by simp [hol.out]; omega) (by simp [hol.out]; omega) (by simp; omega) ?_; intro A3 n3 c3 w3 hown3 hg3)
            go_roundw
            case rel => unfold RuIn; exact ⟨k + 1, A3, n3, c3, by omega, by go_num, rfl, by rw [hsu.out, cb_append]; exact hown3, below_own (hbel.alloc hbs _) hg3 (hown.alloc _) (Nat.le_refl _) (by simp; omega), hq2⟩
            case measure => simp [intOf]; omega
    · have hfin : Hid (aUnpack bs = ([], 2)) := aUnpack_none bs fun j hj => hq.out j (by have := HN.out; omega)
      have g0 : decide ((5 * (k : Int)) + 5 ≤ 8 * (n : Int)) = false := by simp; omega
      go_wp2
      go_ret2
      exact ⟨none, 0, 0, by rw [hfin.out]; rfl, by rw [hfin.out]; exact Own.nil _ _ _, hbel⟩
end Go.Proofs.Ytianabgdggheiaa
