/- The contracts of the bits: clewref06.bit, alpha.code, alpha.Pack's closure. -/
import Derived.Test.YtianabgdggheiaaAlphaB
import Derived.Test.YtianabgdggheiaaMore
import Derived.Outline
import Derived.Test.YtianabgdggheiaaAlphaBits
namespace Go.Proofs.Ytianabgdggheiaa
open Go.RowKit Go.IntWalk
set_option maxRecDepth 100000
set_option linter.unusedVariables false

theorem infoU8 : (Try.prog.info? 5).map (fun i => (i.zero, i.size, i.bytes)) = some (some (.int .u8 0), 1, 1) := by kernel_rfl
theorem elemU8 : Elem Try.prog 30 5 (.int .u8 0) 1 := ⟨Try.underlying30, info_parts infoU8, rfl⟩

theorem pow_pos_int (k : Nat) : (0 : Int) < 2 ^ k := by
  have : 0 < 2 ^ k := Nat.two_pow_pos k
  have h : ((2 ^ k : Nat) : Int) = 2 ^ k := by rw [Int.natCast_pow]; rfl
  omega
theorem div_pow_bd (x : Int) (h0 : 0 ≤ x) (h1 : x < 256) (k : Nat) : 0 ≤ x / 2 ^ k ∧ x / 2 ^ k < 256 := by
  have := Int.ediv_le_self (2 ^ k) h0
  exact ⟨Int.ediv_nonneg h0 (by have := pow_pos_int k; omega), by omega⟩
theorem bit_fin (x : Int) (h0 : 0 ≤ x) (h1 : x < 256) (k : Nat) : (wrap64 (x / 2 ^ k)).tmod 2 = x / 2 ^ k % 2 := by
  obtain ⟨a, b⟩ := div_pow_bd x h0 h1 k
  rw [wrap64_in _ ⟨by omega, by omega⟩, Int.tmod_eq_emod_of_nonneg a]

set_option maxHeartbeats 400000 in
theorem bit_any (A : Option Addr) (n c : Nat) (bs : List Int) (t : Nat) (w : World) (B : Nat) (hr : Rd w B A (cb .u8 bs)) (hn : n = bs.length) (hb : Bts bs) (ht : t < 8 * n) (hl : n ≤ 100000000) :
    Calls Try.prog 26 #[.slice A n c, .int .i64 t] w fun e w' => e = .returned (.int .i64 (bitAt bs t)) ∧ w = w' := by
  subst hn
  obtain ⟨b, o, rfl, _, hc⟩ := hr.num (i := t / 8) (by omega)
  have g1 : (t : Int) / 8 < (bs.length : Int) := by omega
  have hx := hb.get (i := t / 8) (by omega)
  have hfin : Hid (bitAt bs t = bs[t / 8] / 2 ^ (7 - t % 8) % 2) := by
    unfold Hid bitAt
    simp only [List.getD, List.getElem?_eq_getElem (show t / 8 < bs.length by omega), Option.getD_some]
  have HX := Lib.hid hx
  go_enter Try.func26, Try.ntmps26
  go_wp2
  go_ret
  exact ⟨ret_int (by rw [hfin.out, bit_fin _ HX.out.1 HX.out.2]), rfl⟩

set_option maxHeartbeats 400000 in
theorem code_any (A : Option Addr) (n c : Nat) (bs : List Int) (t : Nat) (w : World) (B : Nat) (hr : Rd w B A (cb .u8 bs)) (hn : n = bs.length) (hb : Bts bs) (ht : t + 5 ≤ 8 * n) (hl : n ≤ 100000000) :
    Calls Try.prog 25 #[.slice A n c, .int .i64 t] w fun e w' => e = .returned (.int .i64 (code5 bs t)) ∧ w = w' := by
  subst hn
  go_enter Try.func25, Try.ntmps25
  go_wp2
  go_loop [5, 6] (fun v i => ∃ k : Nat, k ≤ 5 ∧ i = .int .i64 ((t + k : Nat) : Int) ∧ v = .int .i64 (codeP bs t k)) (fun _ i => t + 5 - (intOf i).toNat)
  case atStart => exact ⟨0, by omega, rfl, rfl⟩
  case round =>
    obtain ⟨k, hk, rfl, rfl⟩ := hrel
    have hx0 := (codeP_bd bs t k).1
    have hx2 := codeP_32 bs t k hk
    by_cases hlt : k < 5
    · obtain ⟨b, o, rfl, _, hc⟩ := hr.num (i := (t + k) / 8) (by omega)
      have g1 : ((t + k : Nat) : Int) / 8 < (bs.length : Int) := by omega
      have hy := Lib.hid (hb.get (i := (t + k) / 8) (by omega))
      have hfin : Hid (bitAt bs (t + k) = bs[(t + k) / 8] / 2 ^ (7 - (t + k) % 8) % 2) := by
        unfold Hid bitAt
        simp only [List.getD, List.getElem?_eq_getElem (show (t + k) / 8 < bs.length by omega), Option.getD_some]
      have hand : Hid (wrap64 (2 * codeP bs t k + wrap64 (bits .and .u8 (bs[(t + k) / 8] / 2 ^ (7 - (t + k) % 8)) 1)) = codeP bs t (k + 1)) := by
        unfold Hid
        obtain ⟨a, b⟩ := div_pow_bd _ hy.out.1 hy.out.2 (7 - (t + k) % 8)
        have h01 := bitAt_01 bs (t + k)
        rw [and1_u8 _ a b, ← hfin.out, wrap64_in (bitAt bs (t + k)) ⟨by omega, by omega⟩, wrap64_in _ ⟨by omega, by omega⟩]
        rfl
      go_wp2
      go_round
      case rel => exact ⟨k + 1, by omega, by go_num, by rw [hand.out]⟩
      case measure => simp [intOf]; omega
    · obtain rfl : k = 5 := by omega
      have h5 : Hid (codeP bs t 5 = code5 bs t) := codeP_five bs t
      go_wp2
      go_ret
      exact ⟨by rw [h5.out]; rfl, rfl⟩

/-- The closure's own: the bytes so far in block Bo, how many bits in block Bb. -/
structure Put (w : World) (base Bo Bb : Nat) (l : List Int) : Prop where
  out : ∃ A n c, Blk w Bo 30 [.slice A n c] ∧ Own w base 5 (.slice A n c) (cb .u8 (pkB l))
  num : Blk w Bb 3 [.int .i64 (l.length : Int)]
  bit : Bit l
  lo : base ≤ Bo ∧ base ≤ Bb
  len : l.length ≤ 100000000

theorem put_close {w3 : World} {base g m3 c3 Bo Bb : Nat} {L : List Int} {b z : Int} {x : Value} (hown : Own w3 base 5 (.slice (some ⟨g, 0, none⟩) m3 c3) (cb .u8 (pkX L))) (ho : Blk w3 Bo 30 [.slice (some ⟨g, 0, none⟩) m3 c3]) (hn : Blk w3 Bb 3 [x])
    (hm : m3 - 1 = L.length / 8) (hz : z = byteAt L (L.length / 8) + b * 2 ^ (7 - L.length % 8)) (hbit : Bit (L ++ [b])) (hlo : base ≤ Bo ∧ base ≤ Bb) (hlen : L.length < 100000000) :
    Put ((w3.setCell ⟨g, m3 - 1, none⟩ (.int .u8 z)).setCell ⟨Bb, 0, none⟩ (.int .i64 ((L.length : Int) + 1))).drew base Bo Bb (L ++ [b]) := by
  have n1 := own_blk hown ho (by decide)
  have n2 := own_blk hown hn (by decide)
  have n3 : Bo ≠ Bb := ho.ne_ hn (by decide)
  have e1 : g ≠ Bo := fun h => n1 (by rw [h]; rfl)
  have e2 : g ≠ Bb := fun h => n2 (by rw [h]; rfl)
  refine ⟨⟨_, m3, c3, Blk.drew ((ho.far (p := ⟨g, m3 - 1, none⟩) e1.symm _).far (p := ⟨Bb, 0, none⟩) n3 _), ?_⟩, ?_, hbit, hlo, by simp; omega⟩
  · rw [pk_step, ← cb_set, ← hz, ← hm]
    exact Own.drew ((hown.set_ (m3 - 1) (.int .u8 z)).far (p := ⟨Bb, 0, none⟩) n2 _)
  · have := ((hn.far (p := ⟨g, m3 - 1, none⟩) e2.symm (.int .u8 z)).set_ 0 (.int .i64 ((L.length : Int) + 1))).drew
    simpa using this
theorem put_byte (L : List Int) (hb : Bit L) (n k : Nat) : bits .or .u8 (byteAt L (L.length / 8)) (bits .and .i64 ((n : Int) / 2 ^ (4 - k)) 1 % 256 * 2 ^ (7 - L.length % 8) % 256) = byteAt L (L.length / 8) + ((n : Int) / 2 ^ (4 - k) % 2) * 2 ^ (7 - L.length % 8) := by
  obtain ⟨h0, h1, h2⟩ := byteAt_low L hb
  rw [and1]
  exact or_bit _ h0 h1 _ (Nat.mod_lt _ (by omega)) h2 _ (by omega)
theorem bits5_take (l : List Int) (n : Nat) (hn : n < 32) (k : Nat) (hk : k < 5) : l ++ (bits5 (n : Int)).take (k + 1) = (l ++ (bits5 (n : Int)).take k) ++ [(n : Int) / 2 ^ (4 - k) % 2] := by
  have hl : (bits5 (n : Int)).length = 5 := rfl
  rw [List.take_succ_eq_append_getElem (by omega), bits5_get _ (by omega) (by omega) k hk, List.append_assoc]

set_option maxHeartbeats 1600000 in
theorem put_any (n : Nat) (hn : n < 32) (w : World) (base Bo Bb : Nat) (l : List Int) (hP : Put w base Bo Bb l) (hbw : base ≤ w.heap.size) (hl : l.length ≤ 90000000) :
    Calls Try.prog 27 #[.int .i64 n, .pointer (some ⟨Bb, 0, none⟩), .pointer (some ⟨Bo, 0, none⟩)] w fun e w' => e = .returned (.tuple #[]) ∧ Put w' base Bo Bb (l ++ bits5 n) ∧ Below base w w' := by
  go_enter Try.func27, Try.ntmps27
  go_wp2
  go_loopw [4] (fun i w2 => ∃ k : Nat, k ≤ 5 ∧ i = .int .i64 (4 - (k : Int)) ∧ Put w2 base Bo Bb (l ++ (bits5 n).take k) ∧ Below base w w2) (fun i _ => (intOf i + 1).toNat)
  case atStart => exact ⟨0, by omega, rfl, by simpa using hP, Below.refl _ _⟩
  case round =>
    obtain ⟨k, hk, rfl, hP2, hbel⟩ := hrel
    by_cases hlt : k < 5
    · obtain ⟨⟨A, m, c, ho, hown⟩, hnum, hbit, hlo, hlen⟩ := hP2
      obtain ⟨cn, fn⟩ := hnum.one
      obtain ⟨co, fo⟩ := ho.one
      generalize hL : l ++ (bits5 n).take k = L at *
      have HL := Lib.hid hL
      clear hL
      by_cases h8 : L.length % 8 = 0
      · have e8 : (((L.length : Int) % 8) == 0) = true := by simp; omega
        have HM := Lib.hid hown.rd.1
        have hpl := Lib.hid (pkB_len L)
        have n1 := own_blk hown ho (by decide)
        have n2 := own_blk hown hnum (by decide)
        have n3 : Bo ≠ Bb := ho.ne_ hnum (by decide)
        have n3' := n3.symm
        have hbo := ho.alloc (.cells #[.int .u8 0] 5)
        have hbn := hnum.alloc (.cells #[.int .u8 0] 5)
        have hlt1 := hbo.lt
        go_wp2_with (at_builtin; refine wp_app elemU8 rfl _ _ rfl rfl (hown.alloc _) rfl (Rd.new _ [_] _) rfl (one1 _ _) (by rw [cb_length, hpl.out]; simp; omega) (by rw [cb_length, hpl.out]; simp; omega) (by have := hbel.size; simp; omega) ?_; intro A3 m3 c3 w3 hown3 hg3; have hg4 : (wr.alloc (.cells #[.int .u8 0] 5)).grownBy w3 (Value.slice A m c).ownBlock := hg3; have hbo3 := hbo.grown hg4 n1; have hbn3 := hbn.grown hg4 n2; have HM3 := Lib.hid hown3.rd.1; have hm3 : 0 < m3 := (by rw [HM3.out]; simp); obtain ⟨g, rfl, hg0, hg1⟩ := hown3.addr hm3; obtain ⟨q0, q1⟩ := hbo3.one; have q2 := hbn3.one; have n4 : g ≠ Bo := (fun h => own_blk hown3 hbo3 (by decide) (by rw [← h]; rfl)); have n5 : g ≠ Bb := (fun h => own_blk hown3 hbn3 (by decide) (by rw [← h]; rfl)); have n4' := n4.symm; have n5' := n5.symm; obtain ⟨q3, q4⟩ := q2; have q5 : w3.cell? ⟨g, m3 - 1, none⟩ = some (.int .u8 0) := (by have hl := HM3.out; rw [hown3.cellAt (m3 - 1) (by omega)]; congr 1; rw [List.getElem_append_right (by rw [hl]; simp)]; simp [hl]); have q6 := hown3.free (m3 - 1); have hmb : m3 ≤ 20000000 := (by rw [HM3.out, List.length_append, cb_length, hpl.out]; simp; omega))
        go_region
        go_wp2
        have hX : pkX L = pkB L ++ [0] := by unfold pkX; rw [if_pos h8]
        have hbt : byteAt L (L.length / 8) = 0 := byteAt_ge L _ (by omega)
        have hpb := put_byte L hbit n k
        rw [hbt, h8] at hpb
        have hlen8 : L.length < 100000000 := by
          rw [← HL.out, List.length_append, List.length_take]; omega
        go_roundw
        case rel =>
          refine ⟨k + 1, by omega, by go_num, ?_, ?_⟩
          · rw [bits5_take l n hn k hlt, HL.out]
            refine put_close (c3 := c3) (x := .int .i64 L.length) (hown := ?_) (ho := ?_) (hn := hbn3.far (p := ⟨Bo, 0, none⟩) n3' _) (by rw [HM3.out]; simp [hpl.out]; omega) (by rw [hbt, h8]; exact hpb) (hbit.append (by intro x hx; simp at hx; omega)) hlo hlen8
            · rw [hX, cb_append]
              exact hown3.far (p := ⟨Bo, 0, none⟩) (own_blk hown3 hbo3 (by decide)) _
            · exact (hbo3.set_ 0 _)
          · exact ((((below_own (hbel.alloc (Nat.le_trans hbw hbel.size) _) hg4 (hown.alloc _) (Nat.le_refl _) (by have := hbel.size; simp; omega)).setCell (p := ⟨Bo, 0, none⟩) hlo.1 _).setCell (p := ⟨g, m3 - 1, none⟩) hg0 _).setCell (p := ⟨Bb, 0, none⟩) hlo.2 _).drew
        case measure => simp [intOf]; omega
      · have e8 : (((L.length : Int) % 8) == 0) = false := by simp; omega
        have HM := Lib.hid hown.rd.1
        have hpl := Lib.hid (pkB_len L)
        have hm0 : 0 < m := by rw [HM.out, cb_length, hpl.out]; omega
        have hmb : m ≤ 20000000 := by rw [HM.out, cb_length, hpl.out]; omega
        obtain ⟨g, rfl, hg0, hg1⟩ := hown.addr hm0
        have n1 := own_blk hown ho (by decide)
        have n2 := own_blk hown hnum (by decide)
        have n3 : Bo ≠ Bb := ho.ne_ hnum (by decide)
        have n3' := n3.symm
        have n4 : g ≠ Bo := fun h => n1 (by rw [← h]; rfl)
        have n5 : g ≠ Bb := fun h => n2 (by rw [← h]; rfl)
        have n4' := n4.symm
        have n5' := n5.symm
        have hX : Hid (pkX L = pkB L) := by unfold Hid pkX; rw [if_neg h8]
        have hml : Hid (m - 1 = L.length / 8) := by unfold Hid; rw [HM.out, cb_length, hpl.out]; omega
        have q5 : wr.cell? ⟨g, m - 1, none⟩ = some (.int .u8 (byteAt L (L.length / 8))) := by
          have hl : m - 1 < (cb .u8 (pkB L)).length := by rw [← HM.out]; omega
          rw [hown.cellAt (m - 1) hl, cb_get, pkB_get, hml.out]
        have q6 := hown.free (m - 1)
        have hpb := Lib.hid (put_byte L hbit n k)
        have hlen8 : L.length < 100000000 := by
          rw [← HL.out, List.length_append, List.length_take]; omega
        go_wp2_with fail
        go_region
        go_wp2
        go_roundw
        case rel =>
          refine ⟨k + 1, by omega, by go_num, ?_, ?_⟩
          · rw [bits5_take l n hn k hlt, HL.out]
            exact put_close (x := .int .i64 L.length) (by rw [hX.out]; exact hown) ho hnum hml.out hpb.out (hbit.append (by intro x hx; simp at hx; omega)) hlo hlen8
          · exact ((hbel.setCell (p := ⟨g, m - 1, none⟩) hg0 _).setCell (p := ⟨Bb, 0, none⟩) hlo.2 _).drew
        case measure => simp [intOf]; omega
    · obtain rfl : k = 5 := by omega
      have hall : (bits5 (n : Int)).take 5 = bits5 (n : Int) := rfl
      rw [hall] at hP2
      go_wp2
      go_end0
      exact ⟨rfl, hP2, hbel⟩
end Go.Proofs.Ytianabgdggheiaa
