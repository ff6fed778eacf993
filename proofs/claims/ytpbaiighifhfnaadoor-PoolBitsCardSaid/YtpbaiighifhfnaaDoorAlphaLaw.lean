/- The packing of chapter 6 as plain lists of bits and bytes. No program stands in this text. The contracts of the bits: clewref06.bit, alpha.code, alpha.Pack's closure. The contracts of Pack, the program's and the reference's. The contracts of Unpack, the program's and the reference's. The contracts of the reference's Pack. The contract of the reference's Unpack. The contracts of letter.IsText, clewref04.IsText and of a byte's codes. The contracts of Codes and Cost, the program's and the reference's, and of sameInts. The contracts of Codes and Cost of the reference. Chapter 6 in plain lists: what is packed is unpacked; a text is told by its codes. No program stands in this text. -/
import Derived.Test.YtpbaiighifhfnaaDoorBc
import Derived.Test.YtpbaiighifhfnaaDoorTexts
import Derived.Outline
import Derived.Test.YtpbaiighifhfnaaDoorProg
import Derived.KernelRfl
import Derived.Laws.RangeAny
import Derived.Laws.RangeString
namespace Go.Proofs.YtpbaiighifhfnaaDoor
open Go.RowKit
set_option linter.unusedVariables false

/-- A bit of bytes, the greatest of each first. -/
def bitAt (bs : List Int) (i : Nat) : Int := bs.getD (i / 8) 0 / 2 ^ (7 - i % 8) % 2
/-- The five bits of a code. -/
def bits5 (n : Int) : List Int := [n / 16 % 2, n / 8 % 2, n / 4 % 2, n / 2 % 2, n % 2]
/-- The byte of eight bits from a place on; what lacks is 0. -/
def byteAt (l : List Int) (i : Nat) : Int :=
  128 * l.getD (8 * i) 0 + 64 * l.getD (8 * i + 1) 0 + 32 * l.getD (8 * i + 2) 0 + 16 * l.getD (8 * i + 3) 0 + 8 * l.getD (8 * i + 4) 0 + 4 * l.getD (8 * i + 5) 0 + 2 * l.getD (8 * i + 6) 0 + l.getD (8 * i + 7) 0
/-- Bits as bytes. -/
def pkB (l : List Int) : List Int := (List.range ((l.length + 7) / 8)).map (byteAt l)
/-- The bits of codes. -/
def pBits (l : List Int) : List Int := l.flatMap fun n => bits5 (n % 32)
def aPack (l : List Int) : List Int := pkB (pBits l ++ bits5 31)
/-- The code of five bits from a bit on. -/
def code5 (bs : List Int) (t : Nat) : Int := 16 * bitAt bs t + 8 * bitAt bs (t + 1) + 4 * bitAt bs (t + 2) + 2 * bitAt bs (t + 3) + bitAt bs (t + 4)
/-- What is told behind the end code, whose bits end at t. -/
def aEnd (bs : List Int) (t : Nat) (out : List Int) : List Int × Int :=
  if (t - 1) / 8 + 1 < bs.length then ([], 3) else if bs.getD ((t - 1) / 8) 0 * 2 ^ (t - 8 * ((t - 1) / 8)) % 256 ≠ 0 then ([], 4) else (out, 0)
def aOut (bs : List Int) (k : Nat) : List Int := (List.range k).map fun i => code5 bs (5 * i)
def aUnpack (bs : List Int) : List Int × Int :=
  match (List.range (8 * bs.length / 5)).find? (fun j => code5 bs (5 * j) == 31) with
  | none => ([], 2)
  | some j => aEnd bs (5 * j + 5) (aOut bs j)
/-- All are bits. -/
def Bit (l : List Int) : Prop := ∀ x ∈ l, x = 0 ∨ x = 1
theorem Bit.getD {l : List Int} (h : Bit l) (i : Nat) : l.getD i 0 = 0 ∨ l.getD i 0 = 1 := by
  by_cases hi : i < l.length
  · simp only [List.getD, List.getElem?_eq_getElem hi, Option.getD_some]
    exact h _ (List.getElem_mem hi)
  · simp [List.getD, List.getElem?_eq_none (Nat.le_of_not_lt hi)]
theorem Bit.append {l m : List Int} (h : Bit l) (k : Bit m) : Bit (l ++ m) := fun x hx => by
  rcases List.mem_append.1 hx with hx | hx
  · exact h x hx
  · exact k x hx
theorem Bit.take {l : List Int} (h : Bit l) (n : Nat) : Bit (l.take n) := fun x hx => h x (List.mem_of_mem_take hx)
theorem bits5_bit (n : Int) : Bit (bits5 n) := by
  intro x hx
  simp only [bits5, List.mem_cons, List.not_mem_nil, or_false] at hx
  omega
theorem pBits_bit (l : List Int) : Bit (pBits l) := by
  intro x hx
  obtain ⟨n, _, h⟩ := List.mem_flatMap.1 hx
  exact bits5_bit _ x h
theorem pBits_len (l : List Int) : (pBits l).length = 5 * l.length := by
  induction l with
  | nil => rfl
  | cons a l ih =>
    rw [pBits, List.flatMap_cons, List.length_append]
    have : (l.flatMap fun n => bits5 (n % 32)).length = 5 * l.length := ih
    rw [this, List.length_cons]
    simp [bits5]; omega
theorem pBits_snoc (l : List Int) (k : Nat) (h : k < l.length) : pBits (l.take (k + 1)) = pBits (l.take k) ++ bits5 (l[k] % 32) := by
  rw [List.take_succ_eq_append_getElem h, pBits, pBits, List.flatMap_append]
  simp
theorem bits5_get (n : Int) (h0 : 0 ≤ n) (h1 : n < 32) (k : Nat) (h : k < 5) (h' : k < (bits5 n).length) : (bits5 n)[k] = n / 2 ^ (4 - k) % 2 := by
  match k, h with
  | 0, _ => rfl
  | 1, _ => rfl
  | 2, _ => rfl
  | 3, _ => simp [bits5]
  | 4, _ => simp [bits5]
theorem getD_app_lt (l m : List Int) (i : Nat) (h : i < l.length) : (l ++ m).getD i 0 = l.getD i 0 := by
  simp [List.getD, List.getElem?_append_left h]
theorem getD_app_at (l : List Int) (b : Int) : (l ++ [b]).getD l.length 0 = b := by simp [List.getD]
theorem getD_ge (l : List Int) (i : Nat) (h : l.length ≤ i) : l.getD i 0 = 0 := by simp [List.getD, List.getElem?_eq_none h]
theorem getD_app_gt (l : List Int) (b : Int) (i : Nat) (h : l.length < i) : (l ++ [b]).getD i 0 = 0 := getD_ge _ _ (by simp; omega)
theorem byteAt_lt (l m : List Int) (i : Nat) (h : 8 * i + 7 < l.length) : byteAt (l ++ m) i = byteAt l i := by
  simp only [byteAt, getD_app_lt _ _ _ (show 8 * i < l.length by omega), getD_app_lt _ _ _ (show 8 * i + 1 < l.length by omega), getD_app_lt _ _ _ (show 8 * i + 2 < l.length by omega), getD_app_lt _ _ _ (show 8 * i + 3 < l.length by omega),
    getD_app_lt _ _ _ (show 8 * i + 4 < l.length by omega), getD_app_lt _ _ _ (show 8 * i + 5 < l.length by omega), getD_app_lt _ _ _ (show 8 * i + 6 < l.length by omega), getD_app_lt _ _ _ (show 8 * i + 7 < l.length by omega)]
theorem getD_app_1 (l : List Int) (b : Int) (i : Nat) : (l ++ [b]).getD i 0 = l.getD i 0 + (if i = l.length then b else 0) := by
  rcases Nat.lt_trichotomy i l.length with h | h | h
  · rw [getD_app_lt _ _ _ h, if_neg (by omega)]; omega
  · subst h; rw [getD_app_at, getD_ge _ _ (Nat.le_refl _), if_pos rfl]; omega
  · rw [getD_app_gt _ _ _ h, getD_ge _ _ (by omega), if_neg (by omega)]; rfl
theorem byteAt_at (l : List Int) (b : Int) : byteAt (l ++ [b]) (l.length / 8) = byteAt l (l.length / 8) + b * 2 ^ (7 - l.length % 8) := by
  simp only [byteAt, getD_app_1]
  have h : l.length % 8 < 8 := Nat.mod_lt _ (by omega)
  have e : l.length = 8 * (l.length / 8) + l.length % 8 := by omega
  generalize l.length / 8 = q at *
  generalize l.length % 8 = r at *
  generalize hL : l.length = L at *
  subst e
  match r, h with
  | 0, _ => simp; omega
  | 1, _ => simp; omega
  | 2, _ => simp; omega
  | 3, _ => simp; omega
  | 4, _ => simp; omega
  | 5, _ => simp; omega
  | 6, _ => simp; omega
  | 7, _ => simp; omega
/-- The last byte, before a bit is put: a new one, or the one begun. -/
def pkX (l : List Int) : List Int := if l.length % 8 = 0 then pkB l ++ [0] else pkB l
theorem pkB_len (l : List Int) : (pkB l).length = (l.length + 7) / 8 := by simp [pkB]
theorem pkX_len (l : List Int) : (pkX l).length = l.length / 8 + 1 := by
  unfold pkX
  split
  · rw [List.length_append, pkB_len]; simp; omega
  · rw [pkB_len]; omega
theorem pkB_get (l : List Int) (i : Nat) (h : i < (pkB l).length) : (pkB l)[i] = byteAt l i := by simp [pkB]
theorem byteAt_ge (l : List Int) (i : Nat) (h : l.length ≤ 8 * i) : byteAt l i = 0 := by
  simp only [byteAt, getD_ge _ _ (show l.length ≤ 8 * i by omega), getD_ge _ _ (show l.length ≤ 8 * i + 1 by omega), getD_ge _ _ (show l.length ≤ 8 * i + 2 by omega), getD_ge _ _ (show l.length ≤ 8 * i + 3 by omega), getD_ge _ _ (show l.length ≤ 8 * i + 4 by omega), getD_ge _ _ (show l.length ≤ 8 * i + 5 by omega), getD_ge _ _ (show l.length ≤ 8 * i + 6 by omega), getD_ge _ _ (show l.length ≤ 8 * i + 7 by omega)]
  rfl
theorem pkX_get (l : List Int) (i : Nat) (h : i < (pkX l).length) : (pkX l)[i] = byteAt l i := by
  have hl := pkX_len l
  by_cases h8 : l.length % 8 = 0
  · simp only [pkX, if_pos h8] at h ⊢
    rw [List.getElem_append]
    split
    · exact pkB_get l i _
    · rw [pkB_len] at *
      rw [byteAt_ge l i (by omega)]
      simp
  · simp only [pkX, if_neg h8] at h ⊢
    exact pkB_get l i _
theorem pk_step (l : List Int) (b : Int) : pkB (l ++ [b]) = (pkX l).set (l.length / 8) (byteAt l (l.length / 8) + b * 2 ^ (7 - l.length % 8)) := by
  refine List.ext_getElem (by rw [List.length_set, pkX_len, pkB_len]; simp; omega) fun i h1 h2 => ?_
  rw [pkB_get, List.getElem_set]
  rw [List.length_set, pkX_len] at h2
  split
  · rename_i h
    rw [← h, byteAt_at]
  · rw [pkX_get, byteAt_lt _ _ _ (by omega)]
theorem byteAt_low (l : List Int) (hb : Bit l) : 0 ≤ byteAt l (l.length / 8) ∧ byteAt l (l.length / 8) < 256 ∧ byteAt l (l.length / 8) % 2 ^ (8 - l.length % 8) = 0 := by
  have g := hb.getD
  have h : l.length % 8 < 8 := Nat.mod_lt _ (by omega)
  have hge := getD_ge l
  have e : l.length = 8 * (l.length / 8) + l.length % 8 := by omega
  simp only [byteAt]
  generalize l.length / 8 = q at *
  generalize l.length % 8 = r at *
  have g0 := g (8 * q); have g1 := g (8 * q + 1); have g2 := g (8 * q + 2); have g3 := g (8 * q + 3); have g4 := g (8 * q + 4); have g5 := g (8 * q + 5); have g6 := g (8 * q + 6); have g7 := g (8 * q + 7)
  have z : ∀ i, r ≤ i → l.getD (8 * q + i) 0 = 0 := fun i hi => hge _ (by omega)
  have z0 := z 0; have z1 := z 1; have z2 := z 2; have z3 := z 3; have z4 := z 4; have z5 := z 5; have z6 := z 6; have z7 := z 7
  rw [Nat.add_zero] at z0
  generalize l.getD (8 * q) 0 = a0 at *
  generalize l.getD (8 * q + 1) 0 = a1 at *
  generalize l.getD (8 * q + 2) 0 = a2 at *
  generalize l.getD (8 * q + 3) 0 = a3 at *
  generalize l.getD (8 * q + 4) 0 = a4 at *
  generalize l.getD (8 * q + 5) 0 = a5 at *
  generalize l.getD (8 * q + 6) 0 = a6 at *
  generalize l.getD (8 * q + 7) 0 = a7 at *
  clear z g hge hb e
  match r, h with
  | 0, _ => simp at *; omega
  | 1, _ => simp at *; omega
  | 2, _ => simp at *; omega
  | 3, _ => simp at *; omega
  | 4, _ => simp at *; omega
  | 5, _ => simp at *; omega
  | 6, _ => simp at *; omega
  | 7, _ => simp at *; omega
theorem bitAt_01 (bs : List Int) (i : Nat) : bitAt bs i = 0 ∨ bitAt bs i = 1 := by unfold bitAt; omega
/-- The number of the first bits from a place on. -/
def codeP (bs : List Int) (t : Nat) : Nat → Int
  | 0 => 0
  | k + 1 => 2 * codeP bs t k + bitAt bs (t + k)
theorem codeP_five (bs : List Int) (t : Nat) : codeP bs t 5 = code5 bs t := by
  simp only [codeP, code5, Nat.add_zero]; omega
theorem codeP_bd (bs : List Int) (t k : Nat) : 0 ≤ codeP bs t k ∧ codeP bs t k < 2 ^ k := by
  induction k with
  | zero => simp [codeP]
  | succ k ih =>
    have := bitAt_01 bs (t + k)
    rw [codeP, Int.pow_succ]
    omega
theorem codeP_32 (bs : List Int) (t k : Nat) (h : k ≤ 5) : codeP bs t k < 32 := by
  have h1 := (codeP_bd bs t k).2
  have h2 : (2 : Int) ^ k ≤ 2 ^ 5 := by exact_mod_cast Nat.pow_le_pow_right (by omega) h
  omega
theorem code5_bd (bs : List Int) (t : Nat) : 0 ≤ code5 bs t ∧ code5 bs t < 32 := by
  rw [← codeP_five]
  exact ⟨(codeP_bd bs t 5).1, codeP_32 bs t 5 (by omega)⟩

/-! ### bits of numbers -/
theorem and_low (n : Int) (k : Nat) (hk : k ≤ 60) (h : n % 18446744073709551616 = n % 18446744073709551616) : bits .and .i64 n ((2 ^ k - 1 : Nat) : Int) = n % 2 ^ k := by
  have hp : 2 ^ k ≤ 2 ^ 60 := Nat.pow_le_pow_right (by omega) hk
  have hp1 : 1 ≤ 2 ^ k := Nat.one_le_two_pow
  have h60 : 2 ^ 60 = 1152921504606846976 := by decide
  show IntKind.i64.wrap ((BitVec.ofInt 64 n &&& BitVec.ofInt 64 ((2 ^ k - 1 : Nat) : Int)).toNat : Int) = _
  rw [BitVec.toNat_and, ofInt_i64' (2 ^ k - 1) (by omega), Nat.and_two_pow_sub_one_eq_mod, BitVec.toNat_ofInt, IntKind.wrap_i64]
  have h64 : ((2 ^ 64 : Nat) : Int) = 18446744073709551616 := by decide
  rw [h64]
  have hd : (2 ^ k) ∣ 18446744073709551616 := by
    have e : (18446744073709551616 : Nat) = 2 ^ 64 := by decide
    rw [e]
    exact Nat.pow_dvd_pow 2 (by omega)
  have hN : ((n % 18446744073709551616).toNat % 2 ^ k : Nat) = (((n % 18446744073709551616) % ((2 ^ k : Nat) : Int)) : Int) := by
    rw [Int.natCast_emod, Int.toNat_of_nonneg (by omega)]
  have hlt : (n % 18446744073709551616).toNat % 2 ^ k < 2 ^ k := Nat.mod_lt _ (by omega)
  have hm : n % 18446744073709551616 % ((2 ^ k : Nat) : Int) = n % ((2 ^ k : Nat) : Int) := Int.emod_emod_of_dvd _ (Int.natCast_dvd_natCast.2 hd : ((2 ^ k : Nat) : Int) ∣ ((18446744073709551616 : Nat) : Int))
  rw [hm] at hN
  have hc : ((2 ^ k : Nat) : Int) = 2 ^ k := by rw [Int.natCast_pow]; rfl
  rw [hc] at hN
  omega
theorem and31 (n : Int) : bits .and .i64 n 31 = n % 32 := and_low n 5 (by omega) rfl
theorem and1 (n : Int) : bits .and .i64 n 1 = n % 2 := and_low n 1 (by omega) rfl
theorem and1_u8 (m : Int) (h0 : 0 ≤ m) (h1 : m < 256) : bits .and .u8 m 1 = m % 2 := byte_all (P := fun m => bits .and .u8 m 1 = m % 2) (by decide +kernel) m h0 h1
theorem or_bit (x : Int) (h0 : 0 ≤ x) (h1 : x < 256) (r : Nat) (hr : r < 8) (hx : x % 2 ^ (8 - r) = 0) (b : Int) (hb : b = 0 ∨ b = 1) : bits .or .u8 x (b % 256 * 2 ^ (7 - r) % 256) = x + b * 2 ^ (7 - r) := by
  have key : ∀ (y : Fin 256) (s : Fin 8), (y.val : Int) % 2 ^ (8 - s.val) = 0 → (bits .or .u8 (y.val : Int) (0 % 256 * 2 ^ (7 - s.val) % 256) = (y.val : Int) + 0 * 2 ^ (7 - s.val)) ∧ (bits .or .u8 (y.val : Int) (1 % 256 * 2 ^ (7 - s.val) % 256) = (y.val : Int) + 1 * 2 ^ (7 - s.val)) := by decide +kernel
  have := key ⟨x.toNat, by omega⟩ ⟨r, hr⟩ (by simpa [Int.toNat_of_nonneg h0] using hx)
  simp only [Int.toNat_of_nonneg h0] at this
  rcases hb with rfl | rfl
  · exact this.1
  · exact this.2
end Go.Proofs.YtpbaiighifhfnaaDoor
namespace Go.Proofs.YtpbaiighifhfnaaDoor
open Go.RowKit Go.IntWalk
set_option maxRecDepth 100000
set_option linter.unusedVariables false

theorem infoU8 : (Tryd.prog.info? 5).map (fun i => (i.zero, i.size, i.bytes)) = some (some (.int .u8 0), 1, 1) := by kernel_rfl
theorem elemU8 : Elem Tryd.prog 26 5 (.int .u8 0) 1 := ⟨Tryd.underlying26, info_parts infoU8, rfl⟩
theorem pow_pos_int (k : Nat) : (0 : Int) < 2 ^ k := by
  have : 0 < 2 ^ k := Nat.two_pow_pos k
  have h : ((2 ^ k : Nat) : Int) = 2 ^ k := by rw [Int.natCast_pow]; rfl
  omega
theorem div_pow_bd (x : Int) (h0 : 0 ≤ x) (h1 : x < 256) (k : Nat) : 0 ≤ x / 2 ^ k ∧ x / 2 ^ k < 256 := by
  have := Int.ediv_le_self (2 ^ k) h0
  exact ⟨Int.ediv_nonneg h0 (by have := pow_pos_int k; omega), by omega⟩
theorem bit_fin (x : Int) (h0 : 0 ≤ x) (h1 : x < 256) (k : Nat) : (wrap64 (x / 2 ^ k)).tmod 2 = x / 2 ^ k % 2 := by
  obtain ⟨a, b⟩ := div_pow_bd x h0 h1 k
  rw [wrap64_in _ ⟨by omega, by omega⟩, Int.tmod_eq_emod_of_nonneg a]
set_option maxHeartbeats 400000 in
theorem bit_any (A : Option Addr) (n c : Nat) (bs : List Int) (t : Nat) (w : World) (B : Nat) (hr : Rd w B A (cb .u8 bs)) (hn : n = bs.length) (hb : Bts bs) (ht : t < 8 * n) (hl : n ≤ 100000000) :
    Calls Tryd.prog 67 #[.slice A n c, .int .i64 t] w fun e w' => e = .returned (.int .i64 (bitAt bs t)) ∧ w = w' := by
  subst hn
  obtain ⟨b, o, rfl, _, hc⟩ := hr.num (i := t / 8) (by omega)
  have g1 : (t : Int) / 8 < (bs.length : Int) := by omega
  have hx := hb.get (i := t / 8) (by omega)
  have hfin : Hid (bitAt bs t = bs[t / 8] / 2 ^ (7 - t % 8) % 2) := by
    unfold Hid bitAt
    simp only [List.getD, List.getElem?_eq_getElem (show t / 8 < bs.length by omega), Option.getD_some]
  have HX := Lib.hid hx
  go_enter Tryd.func67, Tryd.ntmps67
  go_wp2
  go_ret
  exact ⟨ret_int (by rw [hfin.out, bit_fin _ HX.out.1 HX.out.2]), rfl⟩
set_option maxHeartbeats 400000 in
theorem code_any (A : Option Addr) (n c : Nat) (bs : List Int) (t : Nat) (w : World) (B : Nat) (hr : Rd w B A (cb .u8 bs)) (hn : n = bs.length) (hb : Bts bs) (ht : t + 5 ≤ 8 * n) (hl : n ≤ 100000000) :
    Calls Tryd.prog 57 #[.slice A n c, .int .i64 t] w fun e w' => e = .returned (.int .i64 (code5 bs t)) ∧ w = w' := by
  subst hn
  go_enter Tryd.func57, Tryd.ntmps57
  go_wp2
  go_loop [5, 6] (fun v i => ∃ k : Nat, k ≤ 5 ∧ i = .int .i64 ((t + k : Nat) : Int) ∧ v = .int .i64 (codeP bs t k)) (fun _ i => t + 5 - (intOf i).toNat)
  case atStart => exact ⟨0, by omega, rfl, rfl⟩
  case round =>
    obtain ⟨k, hk, rfl, rfl⟩ := hrel
    have hx0 := (codeP_bd bs t k).1
    have hx2 := codeP_32 bs t k hk
    by_cases hlt : k < 5
    · obtain ⟨b, o, rfl, _, hc⟩ := hr.num (i := (t + k) / 8) (by omega)
      have g1 : ((t + k : Nat) : Int) / 8 < (bs.length : Int) := by omega
      have hy := Lib.hid (hb.get (i := (t + k) / 8) (by omega))
      have hfin : Hid (bitAt bs (t + k) = bs[(t + k) / 8] / 2 ^ (7 - (t + k) % 8) % 2) := by
        unfold Hid bitAt
        simp only [List.getD, List.getElem?_eq_getElem (show (t + k) / 8 < bs.length by omega), Option.getD_some]
      have hand : Hid (wrap64 (2 * codeP bs t k + wrap64 (bits .and .u8 (bs[(t + k) / 8] / 2 ^ (7 - (t + k) % 8)) 1)) = codeP bs t (k + 1)) := by
        unfold Hid
        obtain ⟨a, b⟩ := div_pow_bd _ hy.out.1 hy.out.2 (7 - (t + k) % 8)
        have h01 := bitAt_01 bs (t + k)
        rw [and1_u8 _ a b, ← hfin.out, wrap64_in (bitAt bs (t + k)) ⟨by omega, by omega⟩, wrap64_in _ ⟨by omega, by omega⟩]
        rfl
      go_wp2
      go_round
      case rel => exact ⟨k + 1, by omega, by go_num, by rw [hand.out]⟩
      case measure => simp [intOf]; omega
    · obtain rfl : k = 5 := by omega
      have h5 : Hid (codeP bs t 5 = code5 bs t) := codeP_five bs t
      go_wp2
      go_ret
      exact ⟨by rw [h5.out]; rfl, rfl⟩
/-- The closure's own: the bytes so far in block Bo, how many bits in block Bb. -/
structure Put (w : World) (base Bo Bb : Nat) (l : List Int) : Prop where
  out : ∃ A n c, Blk w Bo 26 [.slice A n c] ∧ Own w base 5 (.slice A n c) (cb .u8 (pkB l))
  num : Blk w Bb 3 [.int .i64 (l.length : Int)]
  bit : Bit l
  lo : base ≤ Bo ∧ base ≤ Bb
  len : l.length ≤ 100000000
theorem put_close {w3 : World} {base g m3 c3 Bo Bb : Nat} {L : List Int} {b z : Int} {x : Value} (hown : Own w3 base 5 (.slice (some ⟨g, 0, none⟩) m3 c3) (cb .u8 (pkX L))) (ho : Blk w3 Bo 26 [.slice (some ⟨g, 0, none⟩) m3 c3]) (hn : Blk w3 Bb 3 [x])
    (hm : m3 - 1 = L.length / 8) (hz : z = byteAt L (L.length / 8) + b * 2 ^ (7 - L.length % 8)) (hbit : Bit (L ++ [b])) (hlo : base ≤ Bo ∧ base ≤ Bb) (hlen : L.length < 100000000) :
    Put ((w3.setCell ⟨g, m3 - 1, none⟩ (.int .u8 z)).setCell ⟨Bb, 0, none⟩ (.int .i64 ((L.length : Int) + 1))).drew base Bo Bb (L ++ [b]) := by
  have n1 := own_blk hown ho (by decide)
  have n2 := own_blk hown hn (by decide)
  have n3 : Bo ≠ Bb := ho.ne_ hn (by decide)
  have e1 : g ≠ Bo := fun h => n1 (by rw [h]; rfl)
  have e2 : g ≠ Bb := fun h => n2 (by rw [h]; rfl)
  refine ⟨⟨_, m3, c3, Blk.drew ((ho.far (p := ⟨g, m3 - 1, none⟩) e1.symm _).far (p := ⟨Bb, 0, none⟩) n3 _), ?_⟩, ?_, hbit, hlo, by simp; omega⟩
  · rw [pk_step, ← cb_set, ← hz, ← hm]
    exact Own.drew ((hown.set_ (m3 - 1) (.int .u8 z)).far (p := ⟨Bb, 0, none⟩) n2 _)
  · have := ((hn.far (p := ⟨g, m3 - 1, none⟩) e2.symm (.int .u8 z)).set_ 0 (.int .i64 ((L.length : Int) + 1))).drew
    simpa using this
theorem put_byte (L : List Int) (hb : Bit L) (n k : Nat) : bits .or .u8 (byteAt L (L.length / 8)) (bits .and .i64 ((n : Int) / 2 ^ (4 - k)) 1 % 256 * 2 ^ (7 - L.length % 8) % 256) = byteAt L (L.length / 8) + ((n : Int) / 2 ^ (4 - k) % 2) * 2 ^ (7 - L.length % 8) := by
  obtain ⟨h0, h1, h2⟩ := byteAt_low L hb
  rw [and1]
  exact or_bit _ h0 h1 _ (Nat.mod_lt _ (by omega)) h2 _ (by omega)
theorem bits5_take (l : List Int) (n : Nat) (hn : n < 32) (k : Nat) (hk : k < 5) : l ++ (bits5 (n : Int)).take (k + 1) = (l ++ (bits5 (n : Int)).take k) ++ [(n : Int) / 2 ^ (4 - k) % 2] := by
  have hl : (bits5 (n : Int)).length = 5 := rfl
  rw [List.take_succ_eq_append_getElem (by omega), bits5_get _ (by omega) (by omega) k hk, List.append_assoc]
set_option maxHeartbeats 1600000 in
theorem put_any (n : Nat) (hn : n < 32) (w : World) (base Bo Bb : Nat) (l : List Int) (hP : Put w base Bo Bb l) (hbw : base ≤ w.heap.size) (hl : l.length ≤ 90000000) :
    Calls Tryd.prog 49 #[.int .i64 n, .pointer (some ⟨Bb, 0, none⟩), .pointer (some ⟨Bo, 0, none⟩)] w fun e w' => e = .returned (.tuple #[]) ∧ Put w' base Bo Bb (l ++ bits5 n) ∧ Below base w w' := by
  go_enter Tryd.func49, Tryd.ntmps49
  go_wp2
  go_loopw [4] (fun i w2 => ∃ k : Nat, k ≤ 5 ∧ i = .int .i64 (4 - (k : Int)) ∧ Put w2 base Bo Bb (l ++ (bits5 n).take k) ∧ Below base w w2) (fun i _ => (intOf i + 1).toNat)
  case atStart => exact ⟨0, by omega, rfl, by simpa using hP, Below.refl _ _⟩
  case round =>
    obtain ⟨k, hk, rfl, hP2, hbel⟩ := hrel
    by_cases hlt : k < 5
    · obtain ⟨⟨A, m, c, ho, hown⟩, hnum, hbit, hlo, hlen⟩ := hP2
      obtain ⟨cn, fn⟩ := hnum.one
      obtain ⟨co, fo⟩ := ho.one
      generalize hL : l ++ (bits5 n).take k = L at *
      have HL := Lib.hid hL
      clear hL
      by_cases h8 : L.length % 8 = 0
      · have e8 : (((L.length : Int) % 8) == 0) = true := by simp; omega
        have HM := Lib.hid hown.rd.1
        have hpl := Lib.hid (pkB_len L)
        have n1 := own_blk hown ho (by decide)
        have n2 := own_blk hown hnum (by decide)
        have n3 : Bo ≠ Bb := ho.ne_ hnum (by decide)
        have n3' := n3.symm
        have hbo := ho.alloc (.cells #[.int .u8 0] 5)
        have hbn := hnum.alloc (.cells #[.int .u8 0] 5)
        have hlt1 := hbo.lt
        go_wp2_with (at_builtin; refine wp_app elemU8 rfl _ _ rfl rfl (hown.alloc _) rfl (Rd.new _ [_] _) rfl (one1 _ _) (by rw [cb_length, hpl.out]; simp; omega) (by rw [cb_length, hpl.out]; simp; omega) (by have := hbel.size; simp; omega) ?_; intro A3 m3 c3 w3 hown3 hg3; have hg4 : (wr.alloc (.cells #[.int .u8 0] 5)).grownBy w3 (Value.slice A m c).ownBlock := hg3; have hbo3 := hbo.grown hg4 n1; have hbn3 := hbn.grown hg4 n2; have HM3 := Lib.hid hown3.rd.1; have hm3 : 0 < m3 := (by rw [HM3.out]; simp); obtain ⟨g, rfl, hg0, hg1⟩ := hown3.addr hm3; obtain ⟨q0, q1⟩ := hbo3.one; have q2 := hbn3.one; have n4 : g ≠ Bo := (fun h => own_blk hown3 hbo3 (by decide) (by rw [← h]; rfl)); have n5 : g ≠ Bb := (fun h => own_blk hown3 hbn3 (by decide) (by rw [← h]; rfl)); have n4' := n4.symm; have n5' := n5.symm; obtain ⟨q3, q4⟩ := q2; have q5 : w3.cell? ⟨g, m3 - 1, none⟩ = some (.int .u8 0) := (by have hl := HM3.out; rw [hown3.cellAt (m3 - 1) (by omega)]; congr 1; rw [List.getElem_append_right (by rw [hl]; simp)]; simp [hl]); have q6 := hown3.free (m3 - 1); have hmb : m3 ≤ 20000000 := (by rw [HM3.out, List.length_append, cb_length, hpl.out]; simp; omega))
        go_region
        go_wp2
        have hX : pkX L = pkB L ++ [0] := by unfold pkX; rw [if_pos h8]
        have hbt : byteAt L (L.length / 8) = 0 := byteAt_ge L _ (by omega)
        have hpb := put_byte L hbit n k
        rw [hbt, h8] at hpb
        have hlen8 : L.length < 100000000 := by
          rw [← HL.out, List.length_append, List.length_take]; omega
        go_roundw
        case rel =>
          refine ⟨k + 1, by omega, by go_num, ?_, ?_⟩
          · rw [bits5_take l n hn k hlt, HL.out]
            refine put_close (c3 := c3) (x := .int .i64 L.length) (hown := ?_) (ho := ?_) (hn := hbn3.far (p := ⟨Bo, 0, none⟩) n3' _) (by rw [HM3.out]; simp [hpl.out]; omega) (by rw [hbt, h8]; exact hpb) (hbit.append (by intro x hx; simp at hx; omega)) hlo hlen8
            · rw [hX, cb_append]
              exact hown3.far (p := ⟨Bo, 0, none⟩) (own_blk hown3 hbo3 (by decide)) _
            · exact (hbo3.set_ 0 _)
          · exact ((((below_own (hbel.alloc (Nat.le_trans hbw hbel.size) _) hg4 (hown.alloc _) (Nat.le_refl _) (by have := hbel.size; simp; omega)).setCell (p := ⟨Bo, 0, none⟩) hlo.1 _).setCell (p := ⟨g, m3 - 1, none⟩) hg0 _).setCell (p := ⟨Bb, 0, none⟩) hlo.2 _).drew
        case measure => simp [intOf]; omega
      · have e8 : (((L.length : Int) % 8) == 0) = false := by simp; omega
        have HM := Lib.hid hown.rd.1
        have hpl := Lib.hid (pkB_len L)
        have hm0 : 0 < m := by rw [HM.out, cb_length, hpl.out]; omega
        have hmb : m ≤ 20000000 := by rw [HM.out, cb_length, hpl.out]; omega
        obtain ⟨g, rfl, hg0, hg1⟩ := hown.addr hm0
        have n1 := own_blk hown ho (by decide)
        have n2 := own_blk hown hnum (by decide)
        have n3 : Bo ≠ Bb := ho.ne_ hnum (by decide)
        have n3' := n3.symm
        have n4 : g ≠ Bo := fun h => n1 (by rw [← h]; rfl)
        have n5 : g ≠ Bb := fun h => n2 (by rw [← h]; rfl)
        have n4' := n4.symm
        have n5' := n5.symm
        have hX : Hid (pkX L = pkB L) := by unfold Hid pkX; rw [if_neg h8]
        have hml : Hid (m - 1 = L.length / 8) := by unfold Hid; rw [HM.out, cb_length, hpl.out]; omega
        have q5 : wr.cell? ⟨g, m - 1, none⟩ = some (.int .u8 (byteAt L (L.length / 8))) := by
          have hl : m - 1 < (cb .u8 (pkB L)).length := by rw [← HM.out]; omega
          rw [hown.cellAt (m - 1) hl, cb_get, pkB_get, hml.out]
        have q6 := hown.free (m - 1)
        have hpb := Lib.hid (put_byte L hbit n k)
        have hlen8 : L.length < 100000000 := by
          rw [← HL.out, List.length_append, List.length_take]; omega
        go_wp2_with fail
        go_region
        go_wp2
        go_roundw
        case rel =>
          refine ⟨k + 1, by omega, by go_num, ?_, ?_⟩
          · rw [bits5_take l n hn k hlt, HL.out]
            exact put_close (x := .int .i64 L.length) (by rw [hX.out]; exact hown) ho hnum hml.out hpb.out (hbit.append (by intro x hx; simp at hx; omega)) hlo hlen8
          · exact ((hbel.setCell (p := ⟨g, m - 1, none⟩) hg0 _).setCell (p := ⟨Bb, 0, none⟩) hlo.2 _).drew
        case measure => simp [intOf]; omega
    · obtain rfl : k = 5 := by omega
      have hall : (bits5 (n : Int)).take 5 = bits5 (n : Int) := rfl
      rw [hall] at hP2
      go_wp2
      go_end0
      exact ⟨rfl, hP2, hbel⟩
end Go.Proofs.YtpbaiighifhfnaaDoor
namespace Go.Proofs.YtpbaiighifhfnaaDoor
open Go.RowKit Go.IntWalk
set_option maxRecDepth 100000
set_option linter.unusedVariables false

theorem put_int (x : Int) (h0 : 0 ≤ x) (h1 : x < 32) (w : World) (base Bo Bb : Nat) (l : List Int) (hP : Put w base Bo Bb l) (hbw : base ≤ w.heap.size) (hl : l.length ≤ 90000000) :
    Calls Tryd.prog 49 #[.int .i64 x, .pointer (some ⟨Bb, 0, none⟩), .pointer (some ⟨Bo, 0, none⟩)] w fun e w' => e = .returned (.tuple #[]) ∧ Put w' base Bo Bb (l ++ bits5 x) ∧ Below base w w' := by
  obtain ⟨n, rfl⟩ := Int.eq_ofNat_of_zero_le h0
  exact put_any n (by omega) w base Bo Bb l hP hbw hl
set_option maxHeartbeats 1600000 in
theorem pack_any (A : Option Addr) (n c : Nat) (ls : List Int) (w : World) (hr : Rd w w.heap.size A (cb .i64 ls)) (hn : n = ls.length) (hl : n ≤ 10000000) :
    Calls Tryd.prog 28 #[.slice A n c] w (RetOwn w 5 (cb .u8 (aPack ls))) := by
  have HN := Lib.hid hn
  clear hn
  go_enter Tryd.func28, Tryd.ntmps28
  go_wp2_with fail
  go_loopw [11] (fun i w2 => ∃ k : Nat, k ≤ n ∧ i = .int .i64 k ∧ Put w2 w.heap.size w.heap.size (w.heap.size + 1) (pBits (ls.take k)) ∧ Below w.heap.size w w2) (fun i _ => n - (intOf i).toNat)
  case atStart =>
    have h0 : Blk (w.alloc (.cells #[.slice none 0 0] 26)) w.heap.size 26 [.slice none 0 0] := Blk.new _ _ _
    have h1 : Blk ((w.alloc (.cells #[.slice none 0 0] 26)).alloc (.cells #[.int .i64 0] 3)) (w.heap.size + 1) 3 [.int .i64 0] := by
      simpa using Blk.new (w.alloc (.cells #[.slice none 0 0] 26)) 3 [.int .i64 0]
    exact ⟨0, by omega, rfl, ⟨⟨none, 0, 0, h0.alloc _, (Own.nil _ _ _).cast (by simp [pBits, pkB, cb])⟩, h1, (fun x hx => absurd hx (by simp [pBits])), ⟨Nat.le_refl _, by omega⟩, by simp [pBits]⟩, ((Below.refl _ _).alloc (Nat.le_refl _) _).alloc (by simp) _⟩
  case round =>
    obtain ⟨k, hk, rfl, hP, hbel⟩ := hrel
    have hb := hbel.size
    have hbl := Lib.hid (pBits_len (ls.take k))
    by_cases hlt : k < n
    · have hkl : k < ls.length := by have := HN.out; omega
      have hs := Lib.hid (pBits_snoc ls k hkl)
      obtain ⟨b, o, rfl, _, hc⟩ := (hr.below hbel).num (i := k) hkl
      go_wp2_with fail
      rw [and31]
      refine (put_int (ls[k] % 32) (by omega) (by omega) wr w.heap.size _ _ _ hP hb (by rw [hbl.out, List.length_take]; omega)).mono ?_
      rw [← hs.out]
      rintro e w3 ⟨rfl, hP3, hb3⟩
      go_wp2_with fail
      go_roundw
      case rel => exact ⟨k + 1, by omega, by go_num, hP3, hbel.trans hb3⟩
      case measure => simp [intOf]; omega
    · obtain rfl : k = n := by omega
      have hall : ls.take k = ls := List.take_of_length_le (by have := HN.out; omega)
      rw [hall] at hP hbl
      clear hall
      go_wp2_with fail
      refine (put_int 31 (by omega) (by omega) wr w.heap.size _ _ _ hP hb (by rw [hbl.out, ← HN.out]; omega)).mono ?_
      rintro e w3 ⟨rfl, hP3, hb3⟩
      obtain ⟨⟨A3, n3, c3, ho3, hown3⟩, _, _, _, _⟩ := hP3
      obtain ⟨q1, q2⟩ := ho3.one
      go_wp2
      go_ret
      exact ⟨A3, n3, c3, rfl, hown3, hbel.trans hb3⟩
end Go.Proofs.YtpbaiighifhfnaaDoor
namespace Go.Proofs.YtpbaiighifhfnaaDoor
open Go.RowKit Go.IntWalk
set_option maxRecDepth 100000
set_option linter.unusedVariables false

theorem aOut_succ (bs : List Int) (k : Nat) : aOut bs (k + 1) = aOut bs k ++ [code5 bs (5 * k)] := by
  simp [aOut, List.range_succ]
theorem aOut_len (bs : List Int) (k : Nat) : (aOut bs k).length = k := by simp [aOut]
theorem aUnpack_none (bs : List Int) (h : ∀ j, j < 8 * bs.length / 5 → code5 bs (5 * j) ≠ 31) : aUnpack bs = ([], 2) := by
  unfold aUnpack
  have : (List.range (8 * bs.length / 5)).find? (fun j => code5 bs (5 * j) == 31) = none := by
    rw [List.find?_eq_none]
    intro x hx
    have := h x (List.mem_range.1 hx)
    simpa using this
  rw [this]
theorem aUnpack_some (bs : List Int) (k : Nat) (hk : k < 8 * bs.length / 5) (h : ∀ j, j < k → code5 bs (5 * j) ≠ 31) (he : code5 bs (5 * k) = 31) : aUnpack bs = aEnd bs (5 * k + 5) (aOut bs k) := by
  unfold aUnpack
  have : (List.range (8 * bs.length / 5)).find? (fun j => code5 bs (5 * j) == 31) = some k := by
    rw [List.find?_range_eq_some]
    refine ⟨by simpa using he, List.mem_range.2 hk, fun j hj => ?_⟩
    simpa using h j hj
  rw [this]
set_option maxHeartbeats 1600000 in
theorem unpack_any (A : Option Addr) (n c : Nat) (bs : List Int) (w : World) (hr : Rd w w.heap.size A (cb .u8 bs)) (hn : n = bs.length) (hb : Bts bs) (hl : n ≤ 10000000) :
    Calls Tryd.prog 35 #[.slice A n c] w fun e w' => ∃ A' n' c', e = .returned (.tuple #[.slice A' n' c', .int .i64 (aUnpack bs).2]) ∧ Own w' w.heap.size 3 (.slice A' n' c') (cb .i64 (aUnpack bs).1) ∧ Below w.heap.size w w' := by
  have HN := Lib.hid hn
  clear hn
  go_enter Tryd.func35, Tryd.ntmps35
  go_wp2_with fail
  go_loopw [4, 5, 6] (fun o i _ w2 => ∃ (k : Nat) (A2 : Option Addr) (n2 c2 : Nat), 5 * k ≤ 8 * n ∧ i = .int .i64 ((5 * k : Nat) : Int) ∧ o = .slice A2 n2 c2 ∧ Own w2 w.heap.size 3 (.slice A2 n2 c2) (cb .i64 (aOut bs k)) ∧ Below w.heap.size w w2 ∧ Hid (∀ j, j < k → code5 bs (5 * j) ≠ 31)) (fun _ i _ _ => 8 * n - (intOf i).toNat)
  case atStart => exact ⟨0, none, 0, 0, by omega, rfl, rfl, Own.nil _ _ _, Below.refl _ _, by unfold Hid; intro j hj; omega⟩
  case round =>
    obtain ⟨k, A2, n2, c2, hk, rfl, rfl, hown, hbel, hq⟩ := hrel
    have hbs := hbel.size
    have hol := Lib.hid (aOut_len bs k)
    by_cases hlt : 5 * k + 5 ≤ 8 * n
    · have hcd := code5_bd bs (5 * k)
      by_cases h31 : code5 bs (5 * k) = 31
      · have hk5 : k < 8 * bs.length / 5 := by have := HN.out; omega
        have hsm := Lib.hid (aUnpack_some bs k hk5 hq.out h31)
        have H31 := Lib.hid h31
        have hlast : (5 * k + 4) / 8 < bs.length := by have := HN.out; omega
        obtain ⟨b, o, rfl, _, hc⟩ := (hr.below hbel).num (i := (5 * k + 4) / 8) hlast
        have hgd : Hid (bs.getD ((5 * k + 4) / 8) 0 = bs[(5 * k + 4) / 8]) := by
          unfold Hid
          simp only [List.getD, List.getElem?_eq_getElem hlast, Option.getD_some]
        have g1 : (5 * (k : Int) + 5 - 1) / 8 < (n : Int) := by have := HN.out; omega
        clear h31
        by_cases hn1 : (5 * k + 4) / 8 + 1 < n
        · have hfin : Hid (aUnpack bs = ([], 3)) := by
            unfold Hid; rw [hsm.out]; unfold aEnd; rw [if_pos (by have := HN.out; omega)]
          go_wp2_with fail
          refine (code_any _ n c bs (5 * k) wr w.heap.size (hr.below hbel) HN.out hb hlt (by omega)).mono ?_
          rw [H31.out]
          rintro e w' ⟨rfl, rfl⟩
          go_wp2
          go_ret2
          exact ⟨none, 0, 0, by rw [hfin.out]; rfl, by rw [hfin.out]; exact Own.nil _ _ _, hbel⟩
        · have g2 : ¬ ((5 * (k : Int) + 5 - 1) / 8 + 1 < (n : Int)) := by omega
          have HE : Hid (aUnpack bs = if bs[(5 * k + 4) / 8] * 2 ^ (5 * k + 5 - 8 * ((5 * k + 4) / 8)) % 256 ≠ 0 then ([], 4) else (aOut bs k, 0)) := by
            unfold Hid
            rw [hsm.out]
            unfold aEnd
            rw [if_neg (by have := HN.out; omega), show 5 * k + 5 - 1 = 5 * k + 4 from rfl, hgd.out]
          go_wp2_with fail
          refine (code_any _ n c bs (5 * k) wr w.heap.size (hr.below hbel) HN.out hb hlt (by omega)).mono ?_
          rw [H31.out]
          rintro e w' ⟨rfl, rfl⟩
          go_wp2
          · have hh : (bs[(5 * k + 4) / 8] * 2 ^ (5 * k + 5 - 8 * ((5 * k + 4) / 8)) % 256 != 0) = true := by assumption
            have hfin : aUnpack bs = ([], 4) := by rw [HE.out, if_pos (by simpa using hh)]
            go_ret2
            exact ⟨none, 0, 0, by rw [hfin]; rfl, by rw [hfin]; exact Own.nil _ _ _, hbel⟩
          · have hh : (bs[(5 * k + 4) / 8] * 2 ^ (5 * k + 5 - 8 * ((5 * k + 4) / 8)) % 256 != 0) = false := by assumption
            have hfin : aUnpack bs = (aOut bs k, 0) := by rw [HE.out, if_neg (by simpa using hh)]
            go_ret2
            exact ⟨A2, n2, c2, by rw [hfin]; rfl, by rw [hfin]; exact hown, hbel⟩
      · have e31 : (code5 bs (5 * k) == 31) = false := by simpa using h31
        have hq2 : Hid (∀ j, j < k + 1 → code5 bs (5 * j) ≠ 31) := by
          unfold Hid
          intro j hj
          rcases Nat.lt_or_ge j k with h | h
          · exact hq.out j h
          · obtain rfl : j = k := by omega
            exact h31
        have hsu := Lib.hid (aOut_succ bs k)
        clear h31
        go_wp2_with fail
        refine (code_any A n c bs (5 * k) wr w.heap.size (hr.below hbel) HN.out hb hlt (by omega)).mono ?_
        rintro e w' ⟨rfl, rfl⟩
        go_wp2_with (at_builtin; refine wp_app elemInt rfl _ _ rfl rfl (hown.alloc _) rfl (Rd.new _ [_] _) rfl (one1 _ _) (by simp [hol.out]; omega) (by simp [hol.out]; omega) (by simp; omega) ?_; intro A3 n3 c3 w3 hown3 hg3)
        go_roundw
        case rel => exact ⟨k + 1, A3, n3, c3, by omega, by go_num, rfl, by rw [hsu.out, cb_append]; exact hown3, below_own (hbel.alloc hbs _) hg3 (hown.alloc _) (Nat.le_refl _) (by simp; omega), hq2⟩
        case measure => simp [intOf]; omega
    · have hfin : Hid (aUnpack bs = ([], 2)) := aUnpack_none bs fun j hj => hq.out j (by have := HN.out; omega)
      go_wp2
      go_ret2
      exact ⟨none, 0, 0, by rw [hfin.out]; rfl, by rw [hfin.out]; exact Own.nil _ _ _, hbel⟩
end Go.Proofs.YtpbaiighifhfnaaDoor
namespace Go.Proofs.YtpbaiighifhfnaaDoor
open Go.RowKit Go.IntWalk
set_option maxRecDepth 100000
set_option linter.unusedVariables false

/-- The i-th code that is packed, the end code behind them. -/
def pkC (ls : List Int) (i : Nat) : Int := if i < ls.length then ls.getD i 0 % 32 else 31
/-- The bits of the first codes, the end code among them. -/
def pkF (ls : List Int) (k : Nat) : List Int := (List.range k).flatMap fun i => bits5 (pkC ls i)
theorem pkF_succ (ls : List Int) (k : Nat) : pkF ls (k + 1) = pkF ls k ++ bits5 (pkC ls k) := by simp [pkF, List.range_succ]
theorem pkF_len (ls : List Int) (k : Nat) : (pkF ls k).length = 5 * k := by
  induction k with
  | zero => rfl
  | succ k ih => rw [pkF_succ, List.length_append, ih]; simp [bits5]; omega
theorem pkF_take (ls : List Int) (k : Nat) (h : k ≤ ls.length) : pkF ls k = pBits (ls.take k) := by
  induction k with
  | zero => rfl
  | succ k ih =>
    rw [pkF_succ, ih (by omega), pBits_snoc ls k (by omega)]
    congr 2
    unfold pkC
    rw [if_pos (by omega)]
    simp [List.getD, List.getElem?_eq_getElem (show k < ls.length by omega)]
theorem pkF_all (ls : List Int) : pkF ls (ls.length + 1) = pBits ls ++ bits5 31 := by
  rw [pkF_succ, pkF_take _ _ (Nat.le_refl _), List.take_of_length_le (Nat.le_refl _)]
  congr 2
  unfold pkC
  rw [if_neg (by omega)]
theorem pkC_bd (ls : List Int) (k : Nat) : 0 ≤ pkC ls k ∧ pkC ls k < 32 := by unfold pkC; split <;> omega
/-- Bits and what fills the last byte. -/
def padTo (l : List Int) (n : Nat) : List Int := l ++ List.replicate n 0
theorem padTo_succ (l : List Int) (n : Nat) : padTo l (n + 1) = padTo l n ++ [0] := by
  simp [padTo, List.replicate_succ']
theorem padTo_get (l : List Int) (n i : Nat) : (padTo l n).getD i 0 = l.getD i 0 := by
  unfold padTo
  by_cases h : i < l.length
  · rw [getD_app_lt _ _ _ h]
  · rw [getD_ge l i (by omega)]
    simp only [List.getD, List.getElem?_append_right (Nat.le_of_not_lt h), List.getElem?_replicate]
    split <;> rfl
theorem byteAt_pad (l : List Int) (n i : Nat) : byteAt (padTo l n) i = byteAt l i := by simp only [byteAt, padTo_get]
/-- The number of the first bits of a byte. -/
def byteP (l : List Int) (i : Nat) : Nat → Int
  | 0 => 0
  | k + 1 => 2 * byteP l i k + l.getD (8 * i + k) 0
theorem byteP_all (l : List Int) (i : Nat) : byteP l i 8 = byteAt l i := by
  simp only [byteP, byteAt, Nat.add_zero]; omega
theorem byteP_bd (l : List Int) (hb : Bit l) (i k : Nat) : 0 ≤ byteP l i k ∧ byteP l i k < 2 ^ k := by
  induction k with
  | zero => simp [byteP]
  | succ k ih =>
    have := hb.getD (8 * i + k)
    rw [byteP, Int.pow_succ]
    omega
theorem byteP_256 (l : List Int) (hb : Bit l) (i k : Nat) (h : k ≤ 8) : byteP l i k < 256 := by
  have h1 := (byteP_bd l hb i k).2
  have h2 : (2 : Int) ^ k ≤ 2 ^ 8 := by exact_mod_cast Nat.pow_le_pow_right (by omega) h
  omega
theorem pkF_bit (ls : List Int) (k : Nat) : Bit (pkF ls k) := by
  intro x hx
  obtain ⟨n, _, h⟩ := List.mem_flatMap.1 hx
  exact bits5_bit _ x h
theorem padTo_bit (l : List Int) (h : Bit l) (n : Nat) : Bit (padTo l n) := h.append fun x hx => .inl (List.eq_of_mem_replicate hx)
/-- 16, 8, 4, 2, 1, then 0. -/
def half (k : Nat) : Int := if k < 5 then 2 ^ (4 - k) else 0
theorem half_succ (k : Nat) (h : k < 5) : half k / 2 = half (k + 1) := by
  match k, h with
  | 0, _ => decide
  | 1, _ => decide
  | 2, _ => decide
  | 3, _ => decide
  | 4, _ => decide
theorem half_bd (k : Nat) : 0 ≤ half k ∧ half k ≤ 16 := by
  unfold half
  split
  · rename_i h
    match k, h with
    | 0, _ => decide
    | 1, _ => decide
    | 2, _ => decide
    | 3, _ => decide
    | 4, _ => decide
  · omega
theorem half_pos (k : Nat) (h : k < 5) : 0 < half k := by
  match k, h with
  | 0, _ => decide
  | 1, _ => decide
  | 2, _ => decide
  | 3, _ => decide
  | 4, _ => decide
/-- What holds at the head of the loop over a code's bits. -/
def RpIn (w w2 : World) (F : List Int) (x : Int) (o i : Value) : Prop :=
  ∃ (j : Nat) (A2 : Option Addr) (n2 c2 : Nat), j ≤ 5 ∧ i = .int .i64 (half j) ∧ o = .slice A2 n2 c2 ∧ Own w2 w.heap.size 3 (.slice A2 n2 c2) (cb .i64 (F ++ (bits5 x).take j)) ∧ Below w.heap.size w w2
/-- What holds at the head of the loop that fills the last byte. -/
def PadIn (w w2 : World) (F : List Int) (o : Value) : Prop :=
  ∃ (m : Nat) (A2 : Option Addr) (n2 c2 : Nat), m ≤ (8 - F.length % 8) % 8 ∧ o = .slice A2 n2 c2 ∧ Own w2 w.heap.size 3 (.slice A2 n2 c2) (cb .i64 (padTo F m)) ∧ Below w.heap.size w w2
/-- What holds at the head of the loop over the bytes. -/
def ByIn (w w2 : World) (G : List Int) (n3 c3 : Nat) (A3 : Option Addr) (o i : Value) : Prop :=
  ∃ (q : Nat) (A2 : Option Addr) (n2 c2 : Nat), 8 * q ≤ n3 ∧ i = .int .i64 ((8 * q : Nat) : Int) ∧ o = .slice A2 n2 c2 ∧ Own w2 w.heap.size 5 (.slice A2 n2 c2) (cb .u8 ((List.range q).map (byteAt G))) ∧ Own w2 w.heap.size 3 (.slice A3 n3 c3) (cb .i64 G) ∧ Below w.heap.size w w2
set_option maxHeartbeats 3200000 in
theorem rpack_any (A : Option Addr) (n c : Nat) (ls : List Int) (w : World) (hr : Rd w w.heap.size A (cb .i64 ls)) (hn : n = ls.length) (hl : n ≤ 1000000) :
    Calls Tryd.prog 31 #[.slice A n c] w (RetOwn w 5 (cb .u8 (aPack ls))) := by
  have HN := Lib.hid hn
  clear hn
  go_enter Tryd.func31, Tryd.ntmps31
  go_wp2_with fail
  go_loopw [3, 4] (fun o i w2 => ∃ (k : Nat) (A2 : Option Addr) (n2 c2 : Nat), k ≤ n + 1 ∧ i = .int .i64 k ∧ o = .slice A2 n2 c2 ∧ Own w2 w.heap.size 3 (.slice A2 n2 c2) (cb .i64 (pkF ls k)) ∧ Below w.heap.size w w2) (fun _ i _ => n + 1 - (intOf i).toNat)
  case atStart => exact ⟨0, none, 0, 0, by omega, rfl, rfl, Own.nil _ _ _, Below.refl _ _⟩
  case round =>
    obtain ⟨k, A2, n2, c2, hk, rfl, rfl, hown, hbel⟩ := hrel
    have hb := hbel.size
    have hpl := Lib.hid (pkF_len ls k)
    obtain ⟨hc0, hc1⟩ := pkC_bd ls k
    rcases Nat.lt_trichotomy k n with hlt | hlt | hlt
    · have hkl : k < ls.length := by have := HN.out; omega
      obtain ⟨b, o, rfl, _, hc⟩ := (hr.below hbel).num hkl
      have hC : Hid ((ls[k].tmod 32 + 32) % 32 = pkC ls k) := by
        unfold Hid pkC
        rw [if_pos hkl]
        simp only [List.getD, List.getElem?_eq_getElem hkl, Option.getD_some]
        rcases tmod_cases ls[k] 32 with ⟨_, h⟩ | ⟨_, h⟩ <;> omega
      have ht : -32 < ls[k].tmod 32 ∧ ls[k].tmod 32 < 32 := by
        rcases tmod_cases ls[k] 32 with ⟨_, h⟩ | ⟨_, h⟩ <;> omega
      obtain ⟨ht1, ht2⟩ := ht
      have e1 : decide (k ≤ n) = true := by simp; omega
      go_wp2_with fail
      rw [hC.out]
      clear hC
      go_loopw [3, 6] (fun o i w2 => RpIn w w2 (pkF ls k) (pkC ls k) o i) (fun _ i _ => (intOf i).toNat)
      case atStart => unfold RpIn; exact ⟨0, A2, n2, c2, by omega, rfl, rfl, by simpa using hown, hbel⟩
      case round =>
        obtain ⟨j, A3, n3, c3, hj, rfl, rfl, hown3, hbel3⟩ := hrel
        have hb3 := hbel3.size
        obtain ⟨h0, h16⟩ := half_bd j
        by_cases hj5 : j < 5
        · have hp := half_pos j hj5
          have hs := Lib.hid (half_succ j hj5)
          have hq0 : 0 ≤ pkC ls k / half j := Int.ediv_nonneg hc0 h0
          have hget : Hid ((bits5 (pkC ls k)).take (j + 1) = (bits5 (pkC ls k)).take j ++ [pkC ls k / half j % 2]) := by
            unfold Hid
            have hl : (bits5 (pkC ls k)).length = 5 := rfl
            rw [List.take_succ_eq_append_getElem (by omega), bits5_get _ hc0 hc1 j hj5]
            unfold half
            rw [if_pos hj5]
          have hlen3 : Hid ((pkF ls k ++ (bits5 (pkC ls k)).take j).length ≤ 5 * k + 5) := by
            unfold Hid
            rw [List.length_append, List.length_take, hpl.out]; omega
          have hhalf : half j / 2 < half j := by omega
          generalize half j = hh at *
          go_wp2_with (at_builtin; refine wp_app elemInt rfl _ _ rfl rfl (hown3.alloc _) rfl (Rd.new _ [_] _) rfl (one1 _ _) (by have := hlen3.out; rw [cb_length]; simp only [List.length_cons, List.length_nil]; omega) (by have := hlen3.out; rw [cb_length]; simp only [List.length_cons, List.length_nil]; omega) (by simp; omega) ?_; intro A4 n4 c4 w4 hown4 hg4)
          go_roundw
          case rel => unfold RpIn; exact ⟨j + 1, A4, n4, c4, by omega, by rw [hs.out], rfl, by rw [hget.out, ← List.append_assoc, cb_append]; exact hown4, below_own (hbel3.alloc hb3 _) hg4 (hown3.alloc _) (Nat.le_refl _) (by simp; omega)⟩
          case measure => simp [intOf]; try omega
        · obtain rfl : j = 5 := by omega
          have h5 : half 5 = 0 := rfl
          have hall : Hid (pkF ls k ++ (bits5 (pkC ls k)).take 5 = pkF ls (k + 1)) := (pkF_succ ls k).symm
          rw [h5]
          clear h5
          go_wp2_with fail
          go_roundw
          case rel => exact ⟨k + 1, A3, n3, c3, by omega, by go_num, rfl, by rw [← hall.out]; exact hown3, hbel3⟩
          case measure => simp [intOf]; try omega
    · obtain rfl : n = k := hlt.symm
      clear hlt
      have e1 : decide (n ≤ n) = true := by simp
      have hC : Hid (pkC ls n = 31) := by
        unfold Hid pkC
        rw [if_neg (by have := HN.out; omega)]
      go_wp2_with fail
      rw [← hC.out]
      go_loopw [3, 6] (fun o i w2 => RpIn w w2 (pkF ls n) (pkC ls n) o i) (fun _ i _ => (intOf i).toNat)
      case atStart => unfold RpIn; exact ⟨0, A2, n2, c2, by omega, rfl, rfl, by simpa using hown, hbel⟩
      case round =>
        obtain ⟨j, A3, n3, c3, hj, rfl, rfl, hown3, hbel3⟩ := hrel
        have hb3 := hbel3.size
        obtain ⟨h0, h16⟩ := half_bd j
        by_cases hj5 : j < 5
        · have hp := half_pos j hj5
          have hs := Lib.hid (half_succ j hj5)
          have hq0 : 0 ≤ pkC ls n / half j := Int.ediv_nonneg hc0 h0
          have hget : Hid ((bits5 (pkC ls n)).take (j + 1) = (bits5 (pkC ls n)).take j ++ [pkC ls n / half j % 2]) := by
            unfold Hid
            have hl : (bits5 (pkC ls n)).length = 5 := rfl
            rw [List.take_succ_eq_append_getElem (by omega), bits5_get _ hc0 hc1 j hj5]
            unfold half
            rw [if_pos hj5]
          have hlen3 : Hid ((pkF ls n ++ (bits5 (pkC ls n)).take j).length ≤ 5 * n + 5) := by
            unfold Hid
            rw [List.length_append, List.length_take, hpl.out]; omega
          have hhalf : half j / 2 < half j := by omega
          generalize half j = hh at *
          go_wp2_with (at_builtin; refine wp_app elemInt rfl _ _ rfl rfl (hown3.alloc _) rfl (Rd.new _ [_] _) rfl (one1 _ _) (by have := hlen3.out; rw [cb_length]; simp only [List.length_cons, List.length_nil]; omega) (by have := hlen3.out; rw [cb_length]; simp only [List.length_cons, List.length_nil]; omega) (by simp; omega) ?_; intro A4 n4 c4 w4 hown4 hg4)
          go_roundw
          case rel => unfold RpIn; exact ⟨j + 1, A4, n4, c4, by omega, by rw [hs.out], rfl, by rw [hget.out, ← List.append_assoc, cb_append]; exact hown4, below_own (hbel3.alloc hb3 _) hg4 (hown3.alloc _) (Nat.le_refl _) (by simp; omega)⟩
          case measure => simp [intOf]; try omega
        · obtain rfl : j = 5 := by omega
          have h5 : half 5 = 0 := rfl
          have hall : Hid (pkF ls n ++ (bits5 (pkC ls n)).take 5 = pkF ls (n + 1)) := (pkF_succ ls n).symm
          rw [h5]
          clear h5
          go_wp2_with fail
          go_roundw
          case rel => exact ⟨n + 1, A3, n3, c3, by omega, by go_num, rfl, by rw [← hall.out]; exact hown3, hbel3⟩
          case measure => simp [intOf]; try omega
    · have HK : Hid (k = n + 1) := by unfold Hid; omega
      rw [HK.out] at hown hpl
      have hbt := pkF_bit ls (n + 1)
      have hpk : Hid (pkB (pkF ls (n + 1)) = aPack ls) := by
        unfold Hid aPack
        rw [HN.out, pkF_all]
      clear hc0 hc1
      generalize pkF ls (n + 1) = F at *
      have e1 : decide (k ≤ n) = false := by simp; omega
      have hF : F.length = 5 * (n + 1) := hpl.out
      have HF := Lib.hid hF
      clear hF
      go_wp2_with fail
      go_loopw [3] (fun o w2 => PadIn w w2 F o) (fun o _ => (8 - lenOf o % 8) % 8)
      case atStart => unfold PadIn; exact ⟨0, A2, n2, c2, by omega, rfl, by simpa [padTo] using hown, hbel⟩
      case round =>
        obtain ⟨m, A3, n3, c3, hm, rfl, hown3, hbel3⟩ := hrel
        have hb3 := hbel3.size
        have hn3 : Hid (n3 = F.length + m) := by unfold Hid; rw [hown3.rd.1]; simp [padTo]
        by_cases h8 : n3 % 8 = 0
        · have e8 : (((n3 : Int) % 8) != 0) = false := by simp; omega
          have hbt3 : Bit (padTo F m) := padTo_bit F hbt m
          have hpk3 : Hid ((List.range (n3 / 8)).map (byteAt (padTo F m)) = aPack ls) := by
            unfold Hid
            rw [← hpk.out, pkB]
            have : n3 / 8 = (F.length + 7) / 8 := by have := hn3.out; omega
            rw [this]
            exact List.map_congr_left fun i _ => byteAt_pad F m i
          have hl3 : Hid ((padTo F m).length = n3) := by unfold Hid; rw [hn3.out]; simp [padTo]
          generalize padTo F m = G at *
          have hnb : n3 ≤ 6000000 := by have := hn3.out; have := HF.out; omega
          obtain ⟨w3, rfl⟩ : ∃ w3 : World, w3 = wr := ⟨_, rfl⟩
          go_wp2_with fail
          go_loopw [7, 8] (fun o i w2 => ByIn w w2 G n3 c3 A3 o i) (fun _ i _ => n3 - (intOf i).toNat)
          case atStart => unfold ByIn; exact ⟨0, none, 0, 0, by omega, rfl, rfl, (Own.nil _ _ _).cast rfl, hown3, hbel3⟩
          case round =>
            obtain ⟨q, A4, n4, c4, hq, rfl, rfl, hown4, hbits, hbel4⟩ := hrel
            have hb4 := hbel4.size
            obtain ⟨w4, rfl⟩ : ∃ w4 : World, w4 = wr := ⟨_, rfl⟩
            by_cases hql : 8 * q < n3
            · go_wp2_with fail
              go_loop [9, 10] (fun v i => ∃ j : Nat, j ≤ 8 ∧ i = .int .i64 j ∧ v = .int .i64 (byteP G q j)) (fun _ i => 8 - (intOf i).toNat)
              case atStart => exact ⟨0, by omega, rfl, rfl⟩
              case round =>
                obtain ⟨j, hj, rfl, rfl⟩ := hrel
                have hp0 := (byteP_bd G hbt3 q j).1
                have hp1 := byteP_256 G hbt3 q j hj
                by_cases hj8 : j < 8
                · have hix : 8 * q + j < G.length := by have := hl3.out; omega
                  obtain ⟨b, o, rfl, _, hc⟩ := hbits.rd.2.2.num hix
                  have g1 : ((8 * q + j : Nat) : Int) < (n3 : Int) := by omega
                  have hgd : Hid (byteP G q (j + 1) = 2 * byteP G q j + G[8 * q + j]) := by
                    unfold Hid
                    rw [byteP]
                    simp only [List.getD, List.getElem?_eq_getElem hix, Option.getD_some]
                  have hbx : G[8 * q + j] = 0 ∨ G[8 * q + j] = 1 := hbt3 _ (List.getElem_mem hix)
                  have hb0 : 0 ≤ G[8 * q + j] ∧ G[8 * q + j] ≤ 1 := by omega
                  obtain ⟨hb00, hb01⟩ := hb0
                  clear hbx
                  go_wp2
                  go_round
                  case rel => exact ⟨j + 1, by omega, by go_num, by rw [hgd.out]⟩
                  case measure => simp [intOf]; try omega
                · obtain rfl : j = 8 := by omega
                  have h8a := Lib.hid (byteP_all G q)
                  have hlen4 : Hid ((cb .u8 ((List.range q).map (byteAt G))).length = q) := by unfold Hid; simp
                  go_wp2_with (at_builtin; refine wp_app elemU8 rfl _ _ rfl rfl (hown4.alloc _) rfl (Rd.new _ [_] _) rfl (one1 _ _) (by rw [hlen4.out]; simp only [List.length_cons, List.length_nil]; omega) (by rw [hlen4.out]; simp only [List.length_cons, List.length_nil]; omega) (by simp; omega) ?_; intro A5 n5 c5 w5 hown5 hg5)
                  have hg6 : (w4.alloc (.cells #[.int .u8 (byteP G q 8)] 5)).grownBy w5 (Value.slice A4 n4 c4).ownBlock := hg5
                  go_roundw
                  case rel =>
                    unfold ByIn
                    exact ⟨q + 1, A5, n5, c5, by omega, by go_num, rfl, by rw [List.range_succ, List.map_append, cb_append, List.map_singleton, ← h8a.out]; exact hown5, (hbits.alloc _).grown hg6 (hbits.ne_own hown4 (by decide)), below_own (hbel4.alloc hb4 _) hg6 (hown4.alloc _) (Nat.le_refl _) (by simp; omega)⟩
                  case measure => simp [intOf]; try omega
            · go_wp2
              go_ret
              have hq8 : q = n3 / 8 := by omega
              exact ⟨A4, n4, c4, rfl, by rw [← hpk3.out, ← hq8]; exact hown4, hbel4⟩
        · have e8 : (((n3 : Int) % 8) != 0) = true := by simp; omega
          have hlm : Hid ((padTo F m).length ≤ 6000000) := by unfold Hid; have := HF.out; simp [padTo]; omega
          have hm2 : m < 8 := by omega
          go_wp2_with (at_builtin; refine wp_app elemInt rfl _ _ rfl rfl (hown3.alloc _) rfl (Rd.new _ [_] _) rfl (one1 _ _) (by have := hlm.out; rw [cb_length]; simp only [List.length_cons, List.length_nil]; omega) (by have := hlm.out; rw [cb_length]; simp only [List.length_cons, List.length_nil]; omega) (by simp; omega) ?_; intro A5 n5 c5 w5 hown5 hg5)
          have hn5 : n5 = n3 + 1 := by rw [hown5.rd.1, hn3.out]; simp [padTo]
          go_roundw
          case rel =>
            unfold PadIn
            exact ⟨m + 1, A5, n5, c5, by have := hn3.out; omega, rfl, by rw [padTo_succ, cb_append]; exact hown5, below_own (hbel3.alloc hb3 _) hg5 (hown3.alloc _) (Nat.le_refl _) (by simp; omega)⟩
          case measure => simp [lenOf]; omega
end Go.Proofs.YtpbaiighifhfnaaDoor
namespace Go.Proofs.YtpbaiighifhfnaaDoor
open Go.RowKit Go.IntWalk
set_option maxRecDepth 100000
set_option linter.unusedVariables false

/-- Behind a place in the last byte nothing but 0. -/
theorem tail_byte (x : Int) (h0 : 0 ≤ x) (h1 : x < 256) (s : Nat) (hs : s ≤ 8) : x * 2 ^ s % 256 = 0 ↔ ∀ j, s ≤ j → j < 8 → x / 2 ^ (7 - j) % 2 = 0 := by
  have key : ∀ (y : Fin 256) (s : Fin 9), (y.val : Int) * 2 ^ s.val % 256 = 0 ↔ ∀ j : Fin 8, s.val ≤ j.val → (y.val : Int) / 2 ^ (7 - j.val) % 2 = 0 := by decide +kernel
  have := key ⟨x.toNat, by omega⟩ ⟨s, by omega⟩
  simp only [Int.toNat_of_nonneg h0] at this
  rw [this]
  exact ⟨fun h j h1 h2 => h ⟨j, h2⟩ h1, fun h j h1 => h j.val h1 j.2⟩
theorem aEnd_bits (bs : List Int) (hb : Bts bs) (k : Nat) (hk : 5 * k + 5 ≤ 8 * bs.length) (hn : ¬ (5 * k + 12) / 8 < bs.length) (out : List Int) :
    ((∀ j, 5 * k + 5 ≤ j → j < 8 * bs.length → bitAt bs j = 0) → aEnd bs (5 * k + 5) out = (out, 0)) ∧ (∀ j, 5 * k + 5 ≤ j → j < 8 * bs.length → bitAt bs j = 1 → aEnd bs (5 * k + 5) out = ([], 4)) := by
  have hl : (5 * k + 4) / 8 < bs.length := by omega
  have hx := hb.get hl
  have hg : bs.getD ((5 * k + 4) / 8) 0 = bs[(5 * k + 4) / 8] := by simp only [List.getD, List.getElem?_eq_getElem hl, Option.getD_some]
  have hq : (5 * k + 4) / 8 + 1 = bs.length := by omega
  have ht := tail_byte _ hx.1 hx.2 (5 * k + 5 - 8 * ((5 * k + 4) / 8)) (by omega)
  unfold aEnd
  rw [show 5 * k + 5 - 1 = 5 * k + 4 from rfl, if_neg (by omega), hg]
  have e : (∀ j, 5 * k + 5 ≤ j → j < 8 * bs.length → bitAt bs j = 0) ↔ bs[(5 * k + 4) / 8] * 2 ^ (5 * k + 5 - 8 * ((5 * k + 4) / 8)) % 256 = 0 := by
    rw [ht]
    constructor
    · intro h j h1 h2
      have := h (8 * ((5 * k + 4) / 8) + j) (by omega) (by omega)
      unfold bitAt at this
      rw [show (8 * ((5 * k + 4) / 8) + j) / 8 = (5 * k + 4) / 8 by omega, show (8 * ((5 * k + 4) / 8) + j) % 8 = j by omega, hg] at this
      exact this
    · intro h j h1 h2
      have := h (j - 8 * ((5 * k + 4) / 8)) (by omega) (by omega)
      unfold bitAt
      rw [show j / 8 = (5 * k + 4) / 8 by omega, show j % 8 = j - 8 * ((5 * k + 4) / 8) by omega, hg]
      exact this
  refine ⟨fun h => by rw [if_neg (by simpa using e.1 h)], fun j h1 h2 h3 => ?_⟩
  rw [if_pos]
  intro hz
  have := e.2 hz j h1 h2
  omega
theorem bit_int (A : Option Addr) (n c : Nat) (bs : List Int) (t : Int) (w : World) (B : Nat) (hr : Rd w B A (cb .u8 bs)) (hn : n = bs.length) (hb : Bts bs) (h0 : 0 ≤ t) (ht : t < 8 * n) (hl : n ≤ 100000000) :
    Calls Tryd.prog 67 #[.slice A n c, .int .i64 t] w fun e w' => e = .returned (.int .i64 (bitAt bs t.toNat)) ∧ w = w' := by
  obtain ⟨q, rfl⟩ := Int.eq_ofNat_of_zero_le h0
  exact bit_any A n c bs q w B hr hn hb (by omega) hl
/-- What holds at the head of the loop over the codes. -/
def RuIn (w w2 : World) (bs : List Int) (n : Nat) (o i : Value) : Prop :=
  ∃ (k : Nat) (A2 : Option Addr) (n2 c2 : Nat), 5 * k ≤ 8 * n ∧ i = .int .i64 (5 * (k : Int)) ∧ o = .slice A2 n2 c2 ∧ Own w2 w.heap.size 3 (.slice A2 n2 c2) (cb .i64 (aOut bs k)) ∧ Below w.heap.size w w2 ∧ Hid (∀ j, j < k → code5 bs (5 * j) ≠ 31)
set_option maxHeartbeats 1600000 in
theorem runpack_any (A : Option Addr) (n c : Nat) (bs : List Int) (w : World) (hr : Rd w w.heap.size A (cb .u8 bs)) (hn : n = bs.length) (hb : Bts bs) (hl : n ≤ 10000000) :
    Calls Tryd.prog 42 #[.slice A n c] w fun e w' => ∃ A' n' c', e = .returned (.tuple #[.slice A' n' c', .int .i64 (aUnpack bs).2]) ∧ Own w' w.heap.size 3 (.slice A' n' c') (cb .i64 (aUnpack bs).1) ∧ Below w.heap.size w w' := by
  have HN := Lib.hid hn
  clear hn
  go_enter Tryd.func42, Tryd.ntmps42
  go_wp2_with fail
  go_loopw [4, 5] (fun o i w2 => RuIn w w2 bs n o i) (fun _ i _ => 8 * n - (intOf i).toNat)
  case atStart => unfold RuIn; exact ⟨0, none, 0, 0, by omega, rfl, rfl, Own.nil _ _ _, Below.refl _ _, by unfold Hid; intro j hj; omega⟩
  case round =>
    obtain ⟨k, A2, n2, c2, hk, rfl, rfl, hown, hbel, hq⟩ := hrel
    have hbs := hbel.size
    have hol := Lib.hid (aOut_len bs k)
    obtain ⟨w2, rfl⟩ : ∃ w2 : World, w2 = wr := ⟨_, rfl⟩
    by_cases hlt : 5 * k + 5 ≤ 8 * n
    · have g0 : decide ((5 * (k : Int)) + 5 ≤ 8 * (n : Int)) = true := by simp; omega
      go_wp2_with fail
      go_loop [6, 7] (fun v i => ∃ j : Nat, j ≤ 5 ∧ i = .int .i64 j ∧ v = .int .i64 (codeP bs (5 * k) j)) (fun _ i => 5 - (intOf i).toNat)
      case atStart => exact ⟨0, by omega, rfl, rfl⟩
      case round =>
        obtain ⟨j, hj, rfl, rfl⟩ := hrel
        have hx0 := (codeP_bd bs (5 * k) j).1
        have hx2 := codeP_32 bs (5 * k) j hj
        by_cases hj5 : j < 5
        · have h01 : 0 ≤ bitAt bs (5 * k + j) ∧ bitAt bs (5 * k + j) ≤ 1 := by have := bitAt_01 bs (5 * k + j); omega
          obtain ⟨h010, h011⟩ := h01
          have hnx : Hid (codeP bs (5 * k) (j + 1) = 2 * codeP bs (5 * k) j + bitAt bs (5 * k + j)) := rfl
          go_wp2_with fail
          refine (bit_int A n c bs (5 * (k : Int) + j) w2 w.heap.size (hr.below hbel) HN.out hb (by omega) (by omega) (by omega)).mono ?_
          rw [show (5 * (k : Int) + j).toNat = 5 * k + j from by omega]
          rintro e w' ⟨rfl, rfl⟩
          go_wp2
          go_round
          case rel => exact ⟨j + 1, by omega, by go_num, by rw [hnx.out]⟩
          case measure => simp [intOf]; omega
        · obtain rfl : j = 5 := by omega
          have h5 : codeP bs (5 * k) 5 = code5 bs (5 * k) := codeP_five bs (5 * k)
          rw [h5]
          rw [h5] at hx0 hx2
          clear h5
          by_cases h31 : code5 bs (5 * k) = 31
          · have hk5 : k < 8 * bs.length / 5 := by have := HN.out; omega
            have hsm := Lib.hid (aUnpack_some bs k hk5 hq.out h31)
            have H31 := Lib.hid h31
            rw [h31]
            clear h31 hx0 hx2
            by_cases hn1 : (5 * k + 12) / 8 < n
            · have hfin : Hid (aUnpack bs = ([], 3)) := by
                unfold Hid; rw [hsm.out]; unfold aEnd; rw [if_pos (by have := HN.out; omega)]
              have g1 : (5 * (k : Int) + 12) / 8 < (n : Int) := by omega
              go_wp2
              go_ret2
              exact ⟨none, 0, 0, by rw [hfin.out]; rfl, by rw [hfin.out]; exact Own.nil _ _ _, hbel⟩
            · have g1 : ¬ ((5 * (k : Int) + 12) / 8 < (n : Int)) := by omega
              have hE := aEnd_bits bs hb k (by have := HN.out; omega) (by have := HN.out; omega) (aOut bs k)
              have hE1 := Lib.hid hE.1
              have hE2 := Lib.hid hE.2
              clear hE
              go_wp2_with fail
              go_loop [8] (fun i => ∃ q : Nat, 5 * k + 5 ≤ q ∧ q ≤ 8 * n ∧ i = .int .i64 q ∧ Hid (∀ j, 5 * k + 5 ≤ j → j < q → bitAt bs j = 0)) (fun i => 8 * n - (intOf i).toNat)
              case atStart => exact ⟨5 * k + 5, by omega, by omega, by go_num, by unfold Hid; intro j h1 h2; omega⟩
              case round =>
                obtain ⟨q, hq1, hq2, rfl, hz⟩ := hrel
                by_cases hq3 : q < 8 * n
                · rcases bitAt_01 bs q with hb0 | hb1
                  · have hz2 : Hid (∀ j, 5 * k + 5 ≤ j → j < q + 1 → bitAt bs j = 0) := by
                      unfold Hid
                      intro j h1 h2
                      rcases Nat.lt_or_ge j q with h | h
                      · exact hz.out j h1 h
                      · obtain rfl : j = q := by omega
                        exact hb0
                    have HB := Lib.hid hb0
                    clear hb0
                    go_wp2_with fail
                    refine (bit_any A n c bs q w2 w.heap.size (hr.below hbel) HN.out hb hq3 (by omega)).mono ?_
                    rw [HB.out]
                    rintro e w' ⟨rfl, rfl⟩
                    go_wp2_with fail
                    go_round
                    case rel => exact ⟨q + 1, by omega, by omega, by go_num, hz2⟩
                    case measure => simp [intOf]; omega
                  · have hfin : Hid (aUnpack bs = ([], 4)) := by
                      unfold Hid
                      rw [hsm.out]
                      exact hE2.out q hq1 (by have := HN.out; omega) hb1
                    have HB := Lib.hid hb1
                    clear hb1
                    go_wp2_with fail
                    refine (bit_any A n c bs q w2 w.heap.size (hr.below hbel) HN.out hb hq3 (by omega)).mono ?_
                    rw [HB.out]
                    rintro e w' ⟨rfl, rfl⟩
                    go_wp2_with fail
                    go_ret2
                    exact ⟨none, 0, 0, by rw [hfin.out]; rfl, by rw [hfin.out]; exact Own.nil _ _ _, hbel⟩
                · have hfin : Hid (aUnpack bs = (aOut bs k, 0)) := by
                    unfold Hid
                    rw [hsm.out]
                    exact hE1.out fun j h1 h2 => hz.out j h1 (by have := HN.out; omega)
                  go_wp2_with fail
                  go_ret2
                  exact ⟨A2, n2, c2, by rw [hfin.out]; rfl, by rw [hfin.out]; exact hown, hbel⟩
          · have e31 : (code5 bs (5 * k) != 31) = true := by simpa using h31
            have hq2 : Hid (∀ j, j < k + 1 → code5 bs (5 * j) ≠ 31) := by
              unfold Hid
              intro j hj
              rcases Nat.lt_or_ge j k with h | h
              · exact hq.out j h
              · obtain rfl : j = k := by omega
                exact h31
            have hsu := Lib.hid (aOut_succ bs k)
            clear h31
            go_wp2_with (at_builtin; refine wp_app elemInt rfl _ _ rfl rfl (hown.alloc _) rfl (Rd.new _ [_] _) rfl (one1 _ _) (by simp [hol.out]; omega) (by simp [hol.out]; omega) (by simp; omega) ?_; intro A3 n3 c3 w3 hown3 hg3)
            go_roundw
            case rel => unfold RuIn; exact ⟨k + 1, A3, n3, c3, by omega, by go_num, rfl, by rw [hsu.out, cb_append]; exact hown3, below_own (hbel.alloc hbs _) hg3 (hown.alloc _) (Nat.le_refl _) (by simp; omega), hq2⟩
            case measure => simp [intOf]; omega
    · have hfin : Hid (aUnpack bs = ([], 2)) := aUnpack_none bs fun j hj => hq.out j (by have := HN.out; omega)
      have g0 : decide ((5 * (k : Int)) + 5 ≤ 8 * (n : Int)) = false := by simp; omega
      go_wp2
      go_ret2
      exact ⟨none, 0, 0, by rw [hfin.out]; rfl, by rw [hfin.out]; exact Own.nil _ _ _, hbel⟩
end Go.Proofs.YtpbaiighifhfnaaDoor
namespace Go.Proofs.YtpbaiighifhfnaaDoor
open Go.RowKit Go.IntWalk
set_option maxRecDepth 100000
set_option linter.unusedVariables false

set_option maxHeartbeats 400000 in
theorem anyByte_any (m : Int) (w : World) (h0 : 0 ≤ m) (h1 : m < 256) : Calls Tryd.prog 47 #[.int .u8 m] w fun e w' => e = .returned (.bool (tOkB m)) ∧ w = w' := by
  have key : Hid (tOkB m = (decide (32 ≤ m) && decide (m ≤ 126) || m == 10)) := by
    unfold Hid tOkB
    rw [Bool.eq_iff_iff]; simp
  go_enter Tryd.func47, Tryd.ntmps47
  go_wp2
  all_goals
    go_ret
    refine ⟨congrArg Ending.returned (congrArg Value.bool ?_ : Value.bool _ = Value.bool _), rfl⟩
    rw [key.out, Bool.eq_iff_iff]
    simp
    omega
set_option maxHeartbeats 400000 in
theorem risText_any (s : ByteArray) (w : World) (hs : s.size ≤ 1000000000) : Calls Tryd.prog 13 #[.string s] w fun e w' => e = .returned (.bool (isTextB (tB s))) ∧ w = w' := by
  go_enter Tryd.func13, Tryd.ntmps13
  go_wp2
  go_loop [3] (fun i => ∃ k : Nat, k ≤ s.size ∧ i = .int .i64 k ∧ Hid (((tB s).take k).all tOkB = true)) (fun i => s.size - (intOf i).toNat)
  case atStart => exact ⟨0, by omega, rfl, by unfold Hid; rfl⟩
  case round =>
    obtain ⟨k, hk, rfl, hq⟩ := hrel
    by_cases hlt : k < s.size
    · have hts := Lib.hid (tB_take s k hlt)
      have hall : Hid (tOkB s[k].toNat = true → ((tB s).take (k + 1)).all tOkB = true) := fun h => by
        rw [hts.out, List.all_append, hq.out]; simpa using h
      have hno : Hid (tOkB s[k].toNat = false → isTextB (tB s) = false) := fun h => by
        cases hb : isTextB (tB s) with
        | false => rfl
        | true =>
          have := isText_take hb (k := k) (by rw [tB_len]; exact hlt)
          rw [tB_get s k hlt] at this
          rw [this] at h; cases h
      have hbd : (s[k].toNat : Int) < 256 := by have := s[k].toNat_lt; omega
      rcases (show ((s[k].toNat : Int) < 32 ∧ (s[k].toNat : Int) ≠ 10) ∨ (s[k].toNat : Int) = 10 ∨ 126 < (s[k].toNat : Int) ∨ (32 ≤ (s[k].toNat : Int) ∧ (s[k].toNat : Int) ≤ 126) by omega) with ⟨h1, h2⟩ | h2 | h1 | ⟨h1, h2⟩
      · have e1 : ((s[k].toNat : Int) != 10) = true := by simpa using h2
        have e2 : Hid (tOkB s[k].toNat = false) := by unfold Hid tOkB; simp; omega
        clear h2
        go_wp2
        go_ret
        exact ⟨by rw [hno.out e2.out]; rfl, rfl⟩
      · have e1 : ((s[k].toNat : Int) != 10) = false := by simpa using h2
        have e2 : Hid (tOkB s[k].toNat = true) := by unfold Hid tOkB; simp; omega
        have h3 : (s[k].toNat : Int) < 32 := by omega
        clear h2
        go_wp2
        go_round
        case rel => exact ⟨k + 1, by omega, by go_num, hall.out e2.out⟩
        case measure => simp [intOf]; omega
      · have e1 : ((s[k].toNat : Int) != 10) = true := by simp; omega
        have e2 : Hid (tOkB s[k].toNat = false) := by unfold Hid tOkB; simp; omega
        have h3 : 32 ≤ (s[k].toNat : Int) := by omega
        go_wp2
        go_ret
        exact ⟨by rw [hno.out e2.out]; rfl, rfl⟩
      · have e2 : Hid (tOkB s[k].toNat = true) := by unfold Hid tOkB; simp; omega
        go_wp2
        go_round
        case rel => exact ⟨k + 1, by omega, by go_num, hall.out e2.out⟩
        case measure => simp [intOf]; omega
    · obtain rfl : k = s.size := by omega
      have hq2 : Hid (isTextB (tB s) = decide (s.size ≤ 1024)) := by
        have := hq.out
        rw [List.take_of_length_le (by rw [tB_len]; omega)] at this
        unfold Hid isTextB
        rw [this, tB_len, Bool.and_true]
      clear hq
      go_wp2
      go_ret
      exact ⟨by rw [hq2.out]; simp; omega, rfl⟩
set_option maxHeartbeats 800000 in
/-- letter.all with one sort of bytes, told by a function value's contract. -/
theorem all_any (K : Nat) (P : Int → Bool) (hcall : ∀ (args : Array Value) (w : World), Sem.run Tryd.prog (callFunc K args) w = .ok (.enter K args) w) (hK : ∀ (m : Int) (w : World), 0 ≤ m → m < 256 → Calls Tryd.prog K #[.int .u8 m] w fun e w' => e = .returned (.bool (P m)) ∧ w = w') (s : ByteArray) (most : Int) (w : World) (hs : s.size ≤ 1000000000) (h1 : 1 ≤ s.size) :
    Calls Tryd.prog 48 #[.string s, .int .i64 most, .func (.func K) #[] #[], .func (.func K) #[] #[]] w fun e w' => e = .returned (.bool (decide ((s.size : Int) ≤ most) && (tB s).all P)) ∧ w = w' := by
  have HK := Lib.hid hK
  clear hK
  by_cases hm : most < s.size
  · go_enter Tryd.func48, Tryd.ntmps48
    go_wp2
    go_ret
    exact ⟨by simp; omega, rfl⟩
  · have hts0 := tB_get s 0 (by omega) (by rw [tB_len]; omega)
    have hb0 : (s[0].toNat : Int) < 256 := by have := s[0].toNat_lt; omega
    have hb00 : (0 : Int) ≤ s[0].toNat := by omega
    cases hp0 : P s[0].toNat with
    | false =>
      have hfin : Hid ((tB s).all P = false) := by
        unfold Hid
        rw [List.all_eq_false]
        exact ⟨_, List.getElem_mem (n := 0) (by rw [tB_len]; omega), by rw [hts0, hp0]; simp⟩
      have HP := Lib.hid hp0
      clear hts0 hp0
      go_enter Tryd.func48, Tryd.ntmps48
      go_wp2_with fail
      refine (HK.out (s[0].toNat : Int) w hb00 hb0).mono ?_
      rw [HP.out]
      rintro e w' ⟨rfl, rfl⟩
      go_wp2
      go_ret
      exact ⟨by rw [hfin.out]; simp, rfl⟩
    | true =>
      have HP := Lib.hid hp0
      clear hts0 hp0
      go_enter Tryd.func48, Tryd.ntmps48
      go_wp2_with fail
      refine (HK.out (s[0].toNat : Int) w hb00 hb0).mono ?_
      rw [HP.out]
      rintro e w' ⟨rfl, rfl⟩
      go_wp2_with fail
      go_loop [28] (fun i => ∃ k : Nat, k ≤ s.size ∧ i = .int .i64 k ∧ Hid (((tB s).take k).all P = true)) (fun i => s.size - (intOf i).toNat)
      case atStart => exact ⟨0, by omega, rfl, by unfold Hid; rfl⟩
      case round =>
        obtain ⟨k, hk, rfl, hq⟩ := hrel
        by_cases hlt : k < s.size
        · have hts := Lib.hid (tB_take s k hlt)
          have hgt := Lib.hid (tB_get s k hlt (by rw [tB_len]; omega))
          have hb1 : (s[k].toNat : Int) < 256 := by have := s[k].toNat_lt; omega
          have hb10 : (0 : Int) ≤ s[k].toNat := by omega
          cases hp1 : P s[k].toNat with
          | false =>
            have hfin : Hid ((tB s).all P = false) := by
              unfold Hid
              rw [List.all_eq_false]
              exact ⟨_, List.getElem_mem (n := k) (by rw [tB_len]; omega), by rw [hgt.out, hp1]; simp⟩
            have HP1 := Lib.hid hp1
            clear hp1
            go_wp2_with fail
            refine (HK.out (s[k].toNat : Int) w hb10 hb1).mono ?_
            rw [HP1.out]
            rintro e w' ⟨rfl, rfl⟩
            go_wp2
            go_ret
            exact ⟨by rw [hfin.out]; simp, rfl⟩
          | true =>
            have HP1 := Lib.hid hp1
            clear hp1
            go_wp2_with fail
            refine (HK.out (s[k].toNat : Int) w hb10 hb1).mono ?_
            rw [HP1.out]
            rintro e w' ⟨rfl, rfl⟩
            go_wp2_with fail
            go_round
            case rel => exact ⟨k + 1, by omega, by go_num, by unfold Hid; rw [hts.out, List.all_append, hq.out]; simpa using HP1.out⟩
            case measure => simp [intOf]; omega
        · obtain rfl : k = s.size := by omega
          have hfin : Hid ((tB s).all P = true) := by
            have := hq.out
            rwa [List.take_of_length_le (by rw [tB_len]; omega)] at this
          go_wp2
          go_ret
          exact ⟨by rw [hfin.out]; simp, rfl⟩
theorem callAny (args : Array Value) (w : World) : Sem.run Tryd.prog (callFunc 47 args) w = .ok (.enter 47 args) w := rfl
set_option maxHeartbeats 400000 in
theorem isText_any (s : ByteArray) (w : World) (hs : s.size ≤ 1000000000) : Calls Tryd.prog 27 #[.string s] w fun e w' => e = .returned (.bool (isTextB (tB s))) ∧ w = w' := by
  have hsl := toList_len s
  by_cases h0 : s.toList = []
  · have hfin : Hid (isTextB (tB s) = true) := by
      unfold Hid
      rw [toList_nil.1 h0]; decide
    go_enter Tryd.func27, Tryd.ntmps27
    go_wp2_with fail
    go_ret
    exact ⟨by rw [hfin.out]; rfl, rfl⟩
  · have h1 : 1 ≤ s.size := by
      have := List.length_pos_iff.2 h0
      omega
    have hie : s.toList.isEmpty = false := by simpa using h0
    have hfin : Hid (isTextB (tB s) = (decide ((s.size : Int) ≤ 1024) && (tB s).all tOkB)) := by
      unfold Hid isTextB
      rw [tB_len]
      congr 1
      simp; omega
    clear hsl
    go_enter Tryd.func27, Tryd.ntmps27
    go_wp2_with fail
    refine (all_any 47 tOkB callAny anyByte_any s 1024 w hs h1).mono ?_
    rintro e w' ⟨rfl, rfl⟩
    go_wp2
    go_ret
    exact ⟨by rw [hfin.out]; rfl, rfl⟩
end Go.Proofs.YtpbaiighifhfnaaDoor
namespace Go.Proofs.YtpbaiighifhfnaaDoor
open Go.RowKit Go.IntWalk
set_option maxRecDepth 100000
set_option linter.unusedVariables false

theorem aCodes_take (s : ByteArray) (k : Nat) (h : k < s.size) : aCodes ((tB s).take (k + 1)) = aCodes ((tB s).take k) ++ aSort s[k].toNat := by
  rw [tB_take s k h, aCodes_snoc]
theorem aCodes_take_len (s : ByteArray) (k : Nat) : (aCodes ((tB s).take k)).length ≤ 3 * k := by
  have := aCodes_len ((tB s).take k)
  rw [List.length_take] at this
  omega
set_option maxHeartbeats 800000 in
theorem codes_any (s : ByteArray) (w : World) (hs : s.size ≤ 100000000) :
    Calls Tryd.prog 50 #[.string s] w fun e w' => ∃ A n c, e = .returned (.tuple #[.slice A n c, .int .i64 (aTextCodes (tB s)).2]) ∧ Own w' w.heap.size 3 (.slice A n c) (cb .i64 (aTextCodes (tB s)).1) ∧ Below w.heap.size w w' := by
  cases ht : isTextB (tB s) with
  | false =>
    have hfin : Hid (aTextCodes (tB s) = ([], 13)) := by unfold Hid aTextCodes; rw [ht]; rfl
    have hT := Lib.hid ht
    clear ht
    go_enter Tryd.func50, Tryd.ntmps50
    go_wp2_with fail
    refine (isText_any s w (by omega)).mono ?_
    rw [hT.out]
    rintro e w' ⟨rfl, rfl⟩
    go_wp2
    go_ret2
    exact ⟨none, 0, 0, by rw [hfin.out]; rfl, by rw [hfin.out]; exact Own.nil _ _ _, Below.refl _ _⟩
  | true =>
    have hfin : Hid (aTextCodes (tB s) = (aCodes (tB s), 0)) := by unfold Hid aTextCodes; rw [ht]; rfl
    have hT := Lib.hid ht
    clear ht
    go_enter Tryd.func50, Tryd.ntmps50
    go_wp2_with fail
    refine (isText_any s w (by omega)).mono ?_
    rw [hT.out]
    rintro e w' ⟨rfl, rfl⟩
    go_wp2_with fail
    go_loopw [4, 11] (fun o i w2 => ∃ (k : Nat) (A : Option Addr) (n c : Nat), k ≤ s.size ∧ i = .int .i64 k ∧ o = .slice A n c ∧ Own w2 w.heap.size 3 (.slice A n c) (cb .i64 (aCodes ((tB s).take k))) ∧ Below w.heap.size w w2) (fun _ i _ => s.size - (intOf i).toNat)
    case atStart => exact ⟨0, none, 0, 0, by omega, rfl, rfl, Own.nil _ _ _, Below.refl _ _⟩
    case round =>
      obtain ⟨k, A, n, c, hk, rfl, rfl, hown, hbel⟩ := hrel
      have hb := hbel.size
      by_cases hlt : k < s.size
      · have hts := Lib.hid (aCodes_take s k hlt)
        have hln := aCodes_take_len s k
        have hl3 := aSort_len (s[k].toNat : Int)
        have hb1 : (s[k].toNat : Int) < 256 := by have := s[k].toNat_lt; omega
        have hb10 : (0 : Int) ≤ s[k].toNat := by omega
        go_wp2_with fail
        refine (sort_any (s[k].toNat : Int) _ hb10 hb1).mono ?_
        rintro e w3 ⟨A3, n3, c3, rfl, hown3, hb3⟩
        have hz := Lib.hid hown3.rd.1
        have hb4 := hb3.size
        go_wp2_with (at_builtin; refine wp_app elemInt rfl _ _ rfl rfl (hown.below hb3) rfl hown3.rd.2.2 hz.out (cb_one _ _) (by simp; omega) (by simp; omega) (by omega) ?_; intro A4 n4 c4 w4 hown4 hg4)
        go_roundw
        case rel => exact ⟨k + 1, A4, n4, c4, by omega, by go_num, rfl, by rw [hts.out, cb_append]; exact hown4, below_own (hbel.trans (hb3.mono hb)) hg4 (hown.below hb3) (Nat.le_refl _) (by omega)⟩
        case measure => simp [intOf]; omega
      · obtain rfl : k = s.size := by omega
        have hall : Hid ((tB s).take s.size = tB s) := List.take_of_length_le (by rw [tB_len]; omega)
        go_wp2
        go_ret2
        exact ⟨A, n, c, by rw [hfin.out]; rfl, by rw [hfin.out]; rw [hall.out] at hown; exact hown, hbel⟩
end Go.Proofs.YtpbaiighifhfnaaDoor
namespace Go.Proofs.YtpbaiighifhfnaaDoor
open Go.RowKit Go.IntWalk
set_option maxRecDepth 100000
set_option linter.unusedVariables false

theorem aOnes (l : List Int) (h : ∀ c ∈ l, tOkB c = true) : l.flatMap aOne = aCodes l := by
  induction l with
  | nil => rfl
  | cons a l ih =>
    rw [aCodes, List.flatMap_cons, List.flatMap_cons, ih fun c hc => h c (List.mem_cons_of_mem _ hc), aOne_sort a (h a List.mem_cons_self)]
    rfl
theorem isText_mem {l : List Int} (h : isTextB l = true) : ∀ c ∈ l, tOkB c = true := by
  simp only [isTextB, Bool.and_eq_true, List.all_eq_true] at h
  exact h.2
theorem getElem_take_succ (l : List Int) (k : Nat) (h : k < l.length) : l.take (k + 1) = l.take k ++ [l[k]] := List.take_succ_eq_append_getElem h
/-- What holds at the head of the loop over the bytes. -/
def RcIn (w w2 : World) (s : ByteArray) (o i : Value) : Prop :=
  ∃ (k : Nat) (A2 : Option Addr) (n2 c2 : Nat), k ≤ s.size ∧ i = .int .i64 k ∧ o = .slice A2 n2 c2 ∧ Own w2 w.heap.size 3 (.slice A2 n2 c2) (cb .i64 (((tB s).take k).flatMap aOne)) ∧ Below w.heap.size w w2
/-- What holds at the head of the loop over a byte's codes. -/
def RcOne (w w2 : World) (s : ByteArray) (wo : World) (k : Nat) (L : List Int) (A3 : Option Addr) (n3 c3 : Nat) (o j : Value) : Prop :=
  ∃ (q : Nat) (A2 : Option Addr) (n2 c2 : Nat), q ≤ n3 ∧ j = .int .i64 q ∧ o = .slice A2 n2 c2 ∧ Own w2 w.heap.size 3 (.slice A2 n2 c2) (cb .i64 (((tB s).take k).flatMap aOne ++ L.take q)) ∧ Own w2 wo.heap.size 3 (.slice A3 n3 c3) (cb .i64 L) ∧ Apart (.slice A2 n2 c2) (.slice A3 n3 c3) ∧ Below w.heap.size w w2
theorem aOne_flat_len (l : List Int) : (l.flatMap aOne).length ≤ 3 * l.length := by
  induction l with
  | nil => simp
  | cons a l ih =>
    have := aOne_len a
    simp only [List.flatMap_cons, List.length_append, List.length_cons] at *
    omega
set_option maxHeartbeats 800000 in
theorem rcodes_any (s : ByteArray) (w : World) (hs : s.size ≤ 100000000) :
    Calls Tryd.prog 53 #[.string s] w fun e w' => ∃ A n c, e = .returned (.tuple #[.slice A n c, .int .i64 (aTextCodes (tB s)).2]) ∧ Own w' w.heap.size 3 (.slice A n c) (cb .i64 (aTextCodes (tB s)).1) ∧ Below w.heap.size w w' := by
  cases ht : isTextB (tB s) with
  | false =>
    have hfin : Hid (aTextCodes (tB s) = ([], 13)) := by unfold Hid aTextCodes; rw [ht]; rfl
    have hT := Lib.hid ht
    clear ht
    go_enter Tryd.func53, Tryd.ntmps53
    go_wp2_with fail
    refine (risText_any s w (by omega)).mono ?_
    rw [hT.out]
    rintro e w' ⟨rfl, rfl⟩
    go_wp2
    go_ret2
    exact ⟨none, 0, 0, by rw [hfin.out]; rfl, by rw [hfin.out]; exact Own.nil _ _ _, Below.refl _ _⟩
  | true =>
    have hfin : Hid (aTextCodes (tB s) = ((tB s).flatMap aOne, 0)) := by unfold Hid aTextCodes; rw [ht, aOnes _ (isText_mem ht)]; rfl
    have hT := Lib.hid ht
    clear ht
    go_enter Tryd.func53, Tryd.ntmps53
    go_wp2_with fail
    refine (risText_any s w (by omega)).mono ?_
    rw [hT.out]
    rintro e w' ⟨rfl, rfl⟩
    go_wp2_with fail
    go_loopw [4, 5, 6, 7] (fun o i _ _ w2 => RcIn w w2 s o i) (fun _ i _ _ _ => s.size - (intOf i).toNat)
    case atStart => unfold RcIn; exact ⟨0, none, 0, 0, by omega, rfl, rfl, Own.nil _ _ _, Below.refl _ _⟩
    case round =>
      obtain ⟨k, A, n, c, hk, rfl, rfl, hown, hbel⟩ := hrel
      have hb := hbel.size
      obtain ⟨wo, rfl⟩ : ∃ wo : World, wo = wr := ⟨_, rfl⟩
      by_cases hlt : k < s.size
      · have hts : Hid (((tB s).take (k + 1)).flatMap aOne = ((tB s).take k).flatMap aOne ++ aOne s[k].toNat) := by
          unfold Hid; rw [tB_take s k hlt, List.flatMap_append]; simp
        have hln : (((tB s).take k).flatMap aOne).length ≤ 3 * k := by
          have := aOne_flat_len ((tB s).take k)
          rw [List.length_take] at this
          omega
        have hl3 := aOne_len (s[k].toNat : Int)
        have hb1 : (s[k].toNat : Int) < 256 := by have := s[k].toNat_lt; omega
        have hb10 : (0 : Int) ≤ s[k].toNat := by omega
        go_wp2_with fail
        refine (one_any (s[k].toNat : Int) _ hb10 hb1).mono ?_
        rintro e w3 ⟨A3, n3, c3, rfl, hown3, hb3⟩
        have hz0 := hown3.rd.1
        rw [cb_length] at hz0
        have hz1 : n3 ≤ 3 := by omega
        have hz := Lib.hid hz0
        clear hz0
        have hb4 := hb3.size
        have hbel3 := hbel.trans (hb3.mono hb)
        generalize aOne (s[k].toNat : Int) = L at *
        go_wp2_with fail
        go_loopw [4, 7] (fun o j w2 => RcOne w w2 s wo k L A3 n3 c3 o j) (fun _ j _ => n3 - (intOf j).toNat)
        case atStart => unfold RcOne; exact ⟨0, A, n, c, by omega, rfl, rfl, by simpa using hown.below hb3, hown3, Apart.older hown hown3 (Nat.le_refl _), hbel3⟩
        case round =>
          obtain ⟨q, A4, n4, c4, hq, rfl, rfl, hown4, hrd4, hap4, hbel4⟩ := hrel
          have hb5 := hbel4.size
          by_cases hql : q < n3
          · have hqL : q < L.length := by have := hz.out; omega
            obtain ⟨b, o, rfl, _, hc⟩ := hrd4.rd.2.2.num hqL
            have hst : Hid (L.take (q + 1) = L.take q ++ [L[q]]) := getElem_take_succ L q hqL
            have hlen4 : Hid ((((tB s).take k).flatMap aOne ++ L.take q).length ≤ 3 * k + 3) := by
              unfold Hid; rw [List.length_append, List.length_take]; omega
            go_wp2_with (at_builtin; refine wp_app_at elemInt rfl _ _ rfl rfl (hown4.alloc _) rfl (Rd.new _ [_] _) rfl (one1 _ _) (by have := hlen4.out; rw [cb_length]; simp only [List.length_cons, List.length_nil]; omega) (by have := hlen4.out; rw [cb_length]; simp only [List.length_cons, List.length_nil]; omega) (by simp; omega) ?_; intro A6 n6 c6 w6 hown6 hg6 he6)
            have hg7 : (wr.alloc (.cells #[.int .i64 L[q]] 3)).grownBy w6 (Value.slice A4 n4 c4).ownBlock := hg6
            have hbel6 := below_own (hbel4.alloc hb5 _) hg7 (hown4.alloc _) (Nat.le_refl _) (by simp; omega)
            go_roundw
            case rel =>
              unfold RcOne
              refine ⟨q + 1, A6, n6, c6, by omega, by go_num, rfl, by rw [hst.out, ← List.append_assoc, cb_append]; exact hown6, (hrd4.alloc _).grown hg7 hap4.symm, hap4.grown he6 hrd4 (by simp), hbel6⟩
            case measure => simp [intOf]; omega
          · obtain rfl : q = n3 := by omega
            have hall : Hid (L.take q = L) := by unfold Hid; rw [hz.out]; simp
            go_wp2_with fail
            go_roundw
            case rel => unfold RcIn; exact ⟨k + 1, A4, n4, c4, by omega, by go_num, rfl, by rw [hts.out]; rw [hall.out] at hown4; exact hown4, hbel4⟩
            case measure => simp [intOf]; omega
      · obtain rfl : k = s.size := by omega
        have hall : Hid ((tB s).take s.size = tB s) := List.take_of_length_le (by rw [tB_len]; omega)
        go_wp2
        go_ret2
        exact ⟨A, n, c, by rw [hfin.out]; rfl, by rw [hfin.out]; rw [hall.out] at hown; exact hown, hbel⟩
end Go.Proofs.YtpbaiighifhfnaaDoor
namespace Go.Proofs.YtpbaiighifhfnaaDoor
open Go.RowKit
set_option linter.unusedVariables false

/-! ### packing -/
theorem Bit.bd {l : List Int} (h : Bit l) (i : Nat) : 0 ≤ l.getD i 0 ∧ l.getD i 0 ≤ 1 := by have := h.getD i; omega
theorem byteAt_bit (l : List Int) (h : Bit l) (q r : Nat) (hr : r < 8) : byteAt l q / 2 ^ (7 - r) % 2 = l.getD (8 * q + r) 0 := by
  have g0 := h.bd (8 * q); have g1 := h.bd (8 * q + 1); have g2 := h.bd (8 * q + 2); have g3 := h.bd (8 * q + 3); have g4 := h.bd (8 * q + 4); have g5 := h.bd (8 * q + 5); have g6 := h.bd (8 * q + 6); have g7 := h.bd (8 * q + 7)
  unfold byteAt
  match r, hr with
  | 0, _ => simp only [Nat.add_zero]; omega
  | 1, _ => simp only [show (7 - 1 : Nat) = 6 from rfl]; omega
  | 2, _ => simp only [show (7 - 2 : Nat) = 5 from rfl]; omega
  | 3, _ => simp only [show (7 - 3 : Nat) = 4 from rfl]; omega
  | 4, _ => simp only [show (7 - 4 : Nat) = 3 from rfl]; omega
  | 5, _ => simp only [show (7 - 5 : Nat) = 2 from rfl]; omega
  | 6, _ => simp only [show (7 - 6 : Nat) = 1 from rfl]; omega
  | 7, _ => simp only [show (7 - 7 : Nat) = 0 from rfl]; omega
theorem byteAt_u8 (l : List Int) (h : Bit l) (q : Nat) : 0 ≤ byteAt l q ∧ byteAt l q < 256 := by
  have g0 := h.bd (8 * q); have g1 := h.bd (8 * q + 1); have g2 := h.bd (8 * q + 2); have g3 := h.bd (8 * q + 3); have g4 := h.bd (8 * q + 4); have g5 := h.bd (8 * q + 5); have g6 := h.bd (8 * q + 6); have g7 := h.bd (8 * q + 7)
  unfold byteAt
  omega
theorem pkB_bts (l : List Int) (h : Bit l) : Bts (pkB l) := by
  intro x hx
  obtain ⟨q, _, rfl⟩ := List.mem_map.1 hx
  exact byteAt_u8 l h q
theorem bitAt_pk (l : List Int) (h : Bit l) (i : Nat) : bitAt (pkB l) i = l.getD i 0 := by
  unfold bitAt
  by_cases hi : i / 8 < (pkB l).length
  · simp only [List.getD, List.getElem?_eq_getElem hi, Option.getD_some]
    rw [pkB_get, byteAt_bit l h _ _ (Nat.mod_lt _ (by omega)), show 8 * (i / 8) + i % 8 = i from by omega]
    rfl
  · rw [pkB_len] at hi
    rw [getD_ge (pkB l) _ (by rw [pkB_len]; omega), getD_ge l i (by omega)]
    simp
theorem bits5_getD (n : Int) (h0 : 0 ≤ n) (h1 : n < 32) : (bits5 n).getD 0 0 * 16 + (bits5 n).getD 1 0 * 8 + (bits5 n).getD 2 0 * 4 + (bits5 n).getD 3 0 * 2 + (bits5 n).getD 4 0 = n := by
  simp [bits5]; omega
theorem pBits_cons (a : Int) (l : List Int) : pBits (a :: l) = bits5 (a % 32) ++ pBits l := by simp [pBits]
theorem getD_app_ge (l m : List Int) (i : Nat) (h : l.length ≤ i) : (l ++ m).getD i 0 = m.getD (i - l.length) 0 := by
  simp [List.getD, List.getElem?_append_right h]
theorem pBits_getD (l m : List Int) (j t : Nat) (hj : j < l.length) (ht : t < 5) : (pBits l ++ m).getD (5 * j + t) 0 = (bits5 (l[j] % 32)).getD t 0 := by
  induction l generalizing j with
  | nil => simp at hj
  | cons a l ih =>
    rw [pBits_cons, List.append_assoc]
    match j, hj with
    | 0, _ => rw [getD_app_lt _ _ _ (by simp [bits5]; omega)]; simp
    | j + 1, hj =>
      rw [getD_app_ge _ _ _ (by simp [bits5]; omega)]
      have := ih j (by simpa using hj)
      simp only [List.getElem_cons_succ]
      rw [← this]
      congr 1
      simp [bits5]; omega
/-- The bits of codes and the end code. -/
def pAll (l : List Int) : List Int := pBits l ++ bits5 31
theorem pAll_bit (l : List Int) : Bit (pAll l) := (pBits_bit l).append (bits5_bit 31)
theorem pAll_len (l : List Int) : (pAll l).length = 5 * l.length + 5 := by
  rw [pAll, List.length_append, pBits_len]; rfl
theorem aPack_len (l : List Int) : (aPack l).length = (5 * l.length + 12) / 8 := by
  have := pAll_len l
  rw [aPack, pkB_len]
  unfold pAll at this
  omega
theorem aPack_bts (l : List Int) : Bts (aPack l) := pkB_bts _ (pAll_bit l)
theorem code5_pack (l : List Int) (j : Nat) (hj : j < l.length) : code5 (aPack l) (5 * j) = l[j] % 32 := by
  have hp : ∀ i, bitAt (aPack l) i = (pAll l).getD i 0 := bitAt_pk _ (pAll_bit l)
  unfold code5
  simp only [hp]
  have e := fun t ht => pBits_getD l (bits5 31) j t hj ht
  have e0 := e 0 (by omega); have e1 := e 1 (by omega); have e2 := e 2 (by omega); have e3 := e 3 (by omega); have e4 := e 4 (by omega)
  rw [Nat.add_zero] at e0
  unfold pAll
  rw [e0, e1, e2, e3, e4]
  have := bits5_getD (l[j] % 32) (by omega) (by omega)
  omega
theorem code5_end (l : List Int) : code5 (aPack l) (5 * l.length) = 31 := by
  have hp : ∀ i, bitAt (aPack l) i = (pAll l).getD i 0 := bitAt_pk _ (pAll_bit l)
  unfold code5
  simp only [hp]
  unfold pAll
  have hl := pBits_len l
  rw [getD_app_ge _ _ _ (by omega), getD_app_ge _ _ _ (by omega), getD_app_ge _ _ _ (by omega), getD_app_ge _ _ _ (by omega), getD_app_ge _ _ _ (by omega), hl]
  simp only [Nat.sub_self, show 5 * l.length + 1 - 5 * l.length = 1 from by omega, show 5 * l.length + 2 - 5 * l.length = 2 from by omega, show 5 * l.length + 3 - 5 * l.length = 3 from by omega, show 5 * l.length + 4 - 5 * l.length = 4 from by omega]
  decide
theorem tail_byte' (x : Int) (h0 : 0 ≤ x) (h1 : x < 256) (s : Nat) (hs : s ≤ 8) : x * 2 ^ s % 256 = 0 ↔ ∀ j, s ≤ j → j < 8 → x / 2 ^ (7 - j) % 2 = 0 := by
  have key : ∀ (y : Fin 256) (s : Fin 9), (y.val : Int) * 2 ^ s.val % 256 = 0 ↔ ∀ j : Fin 8, s.val ≤ j.val → (y.val : Int) / 2 ^ (7 - j.val) % 2 = 0 := by decide +kernel
  have := key ⟨x.toNat, by omega⟩ ⟨s, by omega⟩
  simp only [Int.toNat_of_nonneg h0] at this
  rw [this]
  exact ⟨fun h j h1 h2 => h ⟨j, h2⟩ h1, fun h j h1 => h j.val h1 j.2⟩
/-- The end is well formed where nothing stands behind it. -/
theorem aEnd_iff (bs : List Int) (hb : Bts bs) (t : Nat) (ht : 0 < t) (hl : t ≤ 8 * bs.length) (out : List Int) :
    (bs.length = (t - 1) / 8 + 1 ∧ (∀ j, t ≤ j → bitAt bs j = 0) → aEnd bs t out = (out, 0)) ∧ ((aEnd bs t out).2 = 0 → bs.length = (t - 1) / 8 + 1 ∧ (∀ j, t ≤ j → bitAt bs j = 0) ∧ (aEnd bs t out).1 = out) := by
  have hq : (t - 1) / 8 < bs.length := by omega
  have hx := hb.get hq
  have hg : bs.getD ((t - 1) / 8) 0 = bs[(t - 1) / 8] := by simp only [List.getD, List.getElem?_eq_getElem hq, Option.getD_some]
  have htb := tail_byte' _ hx.1 hx.2 (t - 8 * ((t - 1) / 8)) (by omega)
  have key : bs.length = (t - 1) / 8 + 1 → ((∀ j, t ≤ j → bitAt bs j = 0) ↔ bs[(t - 1) / 8] * 2 ^ (t - 8 * ((t - 1) / 8)) % 256 = 0) := by
    intro hL
    rw [htb]
    constructor
    · intro h j h1 h2
      have := h (8 * ((t - 1) / 8) + j) (by omega)
      unfold bitAt at this
      rw [show (8 * ((t - 1) / 8) + j) / 8 = (t - 1) / 8 by omega, show (8 * ((t - 1) / 8) + j) % 8 = j by omega, hg] at this
      exact this
    · intro h j h1
      by_cases h3 : j < 8 * bs.length
      · have := h (j - 8 * ((t - 1) / 8)) (by omega) (by omega)
        unfold bitAt
        rw [show j / 8 = (t - 1) / 8 by omega, show j % 8 = j - 8 * ((t - 1) / 8) by omega, hg]
        exact this
      · unfold bitAt
        rw [getD_ge bs _ (by omega)]
        simp
  unfold aEnd
  rw [hg]
  constructor
  · rintro ⟨hL, h0⟩
    rw [if_neg (by omega), if_neg (by simpa using (key hL).1 h0)]
  · intro he
    by_cases c1 : (t - 1) / 8 + 1 < bs.length
    · rw [if_pos c1] at he; simp at he
    · rw [if_neg c1] at he ⊢
      have hL : bs.length = (t - 1) / 8 + 1 := by omega
      by_cases c2 : bs[(t - 1) / 8] * 2 ^ (t - 8 * ((t - 1) / 8)) % 256 = 0
      · rw [if_neg (by simpa using c2)] at he ⊢
        exact ⟨hL, (key hL).2 c2, rfl⟩
      · rw [if_pos c2] at he; simp at he
/-- What was packed is unpacked. -/
theorem unpack_pack (l : List Int) (h : ∀ x ∈ l, 0 ≤ x ∧ x < 31) : aUnpack (aPack l) = (l, 0) := by
  have hl := aPack_len l
  have hf : (List.range (8 * (aPack l).length / 5)).find? (fun j => code5 (aPack l) (5 * j) == 31) = some l.length := by
    rw [List.find?_range_eq_some]
    refine ⟨by simpa using code5_end l, List.mem_range.2 (by omega), fun j hj => ?_⟩
    have h1 := h l[j] (List.getElem_mem hj)
    rw [code5_pack l j hj]
    simp; omega
  unfold aUnpack
  rw [hf]
  have ho : aOut (aPack l) l.length = l := by
    refine List.ext_getElem (by simp [aOut]) fun j h1 h2 => ?_
    have h3 := h l[j] (List.getElem_mem h2)
    simp only [aOut, List.getElem_map, List.getElem_range]
    rw [code5_pack l j h2]
    omega
  simp only [ho]
  refine (aEnd_iff (aPack l) (aPack_bts l) (5 * l.length + 5) (by omega) (by omega) l).1 ⟨by omega, fun j hj => ?_⟩
  have hp : bitAt (aPack l) j = (pAll l).getD j 0 := bitAt_pk _ (pAll_bit l) j
  rw [hp, getD_ge _ _ (by rw [pAll_len]; omega)]
/-- The byte with which codes begin, and how many codes it has; 0: none. -/
def aFirst3 (a b c : Int) : Int × Nat :=
  if a = 0 then (32, 1) else if 1 ≤ a ∧ a ≤ 26 then (96 + a, 1) else if a = 27 ∧ 1 ≤ b ∧ b ≤ 26 then (64 + b, 2) else
  if a = 28 ∧ 0 ≤ b ∧ b ≤ 30 then (aSigns.getD b.toNat 0, 2) else if a = 29 ∧ (0 ≤ b ∧ b ≤ 7) ∧ 0 ≤ c ∧ c ≤ 15 then (16 * b + c, 3) else (0, 0)
def aFirst (l : List Int) : Int × Nat := aFirst3 (l.getD 0 (-1)) (l.getD 1 (-1)) (l.getD 2 (-1))
theorem aSign_get (c : Int) (k : Nat) (h : aSign c = some k) : k < 31 ∧ aSigns.getD k 0 = c := by
  unfold aSign at h
  rw [List.idxOf?_eq_some_iff] at h
  obtain ⟨hk, he, _⟩ := h
  refine ⟨hk, ?_⟩
  simp only [List.getD, List.getElem?_eq_getElem hk, Option.getD_some]
  simpa using he
theorem aFirst_sort (c : Int) (rest : List Int) (h : tOkB c = true) : aFirst (aSort c ++ rest) = (c, (aSort c).length) := by
  have hc : 32 ≤ c ∧ c ≤ 126 ∨ c = 10 := by simpa [tOkB] using h
  by_cases c0 : c = 32
  · subst c0; rfl
  · by_cases c1 : 97 ≤ c ∧ c ≤ 122
    · rw [aSort_small c c1.1 c1.2]
      simp only [aFirst, aFirst3, List.cons_append, List.getD_cons_zero, List.length_cons, List.length_nil]
      rw [if_neg (by omega), if_pos (by omega)]
      congr 1; omega
    · by_cases c2 : 65 ≤ c ∧ c ≤ 90
      · rw [aSort_great c c2.1 c2.2]
        simp only [aFirst, aFirst3, List.cons_append, List.getD_cons_zero, List.getD_cons_succ, List.length_cons, List.length_nil]
        rw [if_neg (by omega), if_neg (by omega), if_pos (by refine ⟨by first | trivial | rfl, ?_, ?_⟩ <;> omega)]
        congr 1; omega
      · cases hs : aSign c with
        | some k =>
          obtain ⟨hk, hg⟩ := aSign_get c k hs
          rw [aSort_sign c c0 c1 c2 k hs]
          simp only [aFirst, aFirst3, List.cons_append, List.getD_cons_zero, List.getD_cons_succ, List.length_cons, List.length_nil]
          rw [if_neg (by omega), if_neg (by omega), if_neg (fun h => absurd h.1 (by decide)), if_pos (by refine ⟨by first | trivial | rfl, ?_, ?_⟩ <;> omega), Int.toNat_natCast, hg]
        | none =>
          have h10 : c ≠ 10 := by rintro rfl; revert hs; decide
          rw [aSort_whole c c0 c1 c2 hs (by omega)]
          simp only [aFirst, aFirst3, List.cons_append, List.getD_cons_zero, List.getD_cons_succ, List.length_cons, List.length_nil]
          rw [if_neg (by omega), if_neg (by omega), if_neg (fun h => absurd h.1 (by decide)), if_neg (fun h => absurd h.1 (by decide)), if_pos (by refine ⟨by first | trivial | rfl, ?_, ?_⟩ <;> omega)]
          congr 1; omega
theorem aSort_pos (c : Int) (h : tOkB c = true) : 0 < (aSort c).length := by
  rcases Nat.eq_zero_or_pos (aSort c).length with h0 | h0
  · have h1 := aFirst_sort c [] h
    rw [List.eq_nil_of_length_eq_zero h0] at h1
    have : c = 0 := by
      have := congrArg Prod.fst h1
      simpa [aFirst, aFirst3] using this.symm
    subst this
    revert h; decide
  · exact h0
/-- Texts have their codes alone. -/
theorem aCodes_inj (l m : List Int) (hl : ∀ c ∈ l, tOkB c = true) (hm : ∀ c ∈ m, tOkB c = true) (h : aCodes l = aCodes m) : l = m := by
  induction l generalizing m with
  | nil =>
    cases m with
    | nil => rfl
    | cons b m =>
      have := aSort_pos b (hm b List.mem_cons_self)
      have e := congrArg List.length h
      simp only [aCodes, List.flatMap_nil, List.flatMap_cons, List.length_append, List.length_nil] at e
      omega
  | cons a l ih =>
    cases m with
    | nil =>
      have := aSort_pos a (hl a List.mem_cons_self)
      have e := congrArg List.length h
      simp only [aCodes, List.flatMap_nil, List.flatMap_cons, List.length_append, List.length_nil] at e
      omega
    | cons b m =>
      have h' : aSort a ++ aCodes l = aSort b ++ aCodes m := h
      have e1 := aFirst_sort a (aCodes l) (hl a List.mem_cons_self)
      have e2 := aFirst_sort b (aCodes m) (hm b List.mem_cons_self)
      rw [h', e2] at e1
      obtain rfl : b = a := congrArg Prod.fst e1
      rw [ih m (fun c hc => hl c (List.mem_cons_of_mem _ hc)) (fun c hc => hm c (List.mem_cons_of_mem _ hc)) (List.append_cancel_left h')]
end Go.Proofs.YtpbaiighifhfnaaDoor
