/- The contract of alpha.first. The texts of codes in plain lists. No program stands in this text. An append behind a guard. No program stands in this text. The contract of alpha.Text. The contract of the reference's Text. Chapter 8: contracts of chapter 6 over abstract values; pools as plain data; the codes of pieces. Chapter 8: pool.packed, the document's codes, walked. A text made of a row of bytes, the row frozen and known from then on: unsafe.String for a first and for a second time. No program stands in this text. -/
import Derived.Test.YtpbaiighifhfnaaDoorBc
import Derived.Test.YtpbaiighifhfnaaDoorAlphaLaw
import Derived.Outline
import Derived.Test.YtpbaiighifhfnaaDoorTexts
import Derived.BigFrame
import Derived.Test.YtpbaiighifhfnaaDoorBcg
import Derived.Test.YtpbaiighifhfnaaDoorProg
import Derived.KernelRfl
namespace Go.Proofs.YtpbaiighifhfnaaDoor
open Go.RowKit Go.IntWalk
set_option maxRecDepth 100000
set_option linter.unusedVariables false

/-- A number is from one on, up to another one. -/
def amB (n lo hi : Int) : Bool := decide (lo ≤ n ∧ n ≤ hi)
theorem amB_t {n lo hi : Int} (h : lo ≤ n ∧ n ≤ hi) : amB n lo hi = true := by unfold amB; simpa using h
theorem amB_f {n lo hi : Int} (h : ¬ (lo ≤ n ∧ n ≤ hi)) : amB n lo hi = false := by unfold amB; simpa using h
set_option maxHeartbeats 400000 in
theorem among_any (n lo hi : Int) (w : World) : Calls Tryd.prog 81 #[.int .i64 n, .int .i64 lo, .int .i64 hi] w fun e w' => e = .returned (.bool (amB n lo hi)) ∧ w = w' := by
  by_cases h1 : lo ≤ n
  · by_cases h2 : n ≤ hi
    · have key := Lib.hid (amB_t ⟨h1, h2⟩)
      go_enter Tryd.func81, Tryd.ntmps81
      go_wp2
      go_ret
      exact ⟨by rw [key.out]; rfl, rfl⟩
    · have key := Lib.hid (amB_f (n := n) (lo := lo) (hi := hi) (fun h => h2 h.2))
      have h3 : hi < n := by omega
      go_enter Tryd.func81, Tryd.ntmps81
      go_wp2
      go_ret
      exact ⟨by rw [key.out]; rfl, rfl⟩
  · have key := Lib.hid (amB_f (n := n) (lo := lo) (hi := hi) (fun h => h1 h.1))
    have h3 : n < lo := by omega
    go_enter Tryd.func81, Tryd.ntmps81
    go_wp2
    go_ret
    exact ⟨by rw [key.out]; rfl, rfl⟩
set_option maxHeartbeats 400000 in
theorem at_any (i : Nat) (v : Int) (b : Nat) (A : Option Addr) (n c : Nat) (ls : List Int) (w : World) (hb : Blk w b 25 [.slice A n c]) {B : Nat} (hr : Rd w B A (cb .i64 ls)) (hn : n = ls.length) (hi : i ≤ 2) (hl : n ≤ 1000000000) (hv : ls.getD i (-1) = v) :
    Calls Tryd.prog 80 #[.int .i64 i, .pointer (some ⟨b, 0, none⟩)] w fun e w' => e = .returned (.int .i64 v) ∧ w = w' := by
  have HN := Lib.hid hn
  have HV := Lib.hid hv
  clear hn hv
  obtain ⟨q1, q2⟩ := hb.one
  by_cases h : i < n
  · have hil : i < ls.length := by have := HN.out; omega
    obtain ⟨b', o, rfl, _, hc⟩ := hr.num hil
    have hfin : Hid (ls[i] = v) := by
      unfold Hid
      rw [← HV.out]
      simp only [List.getD, List.getElem?_eq_getElem hil, Option.getD_some]
    go_enter Tryd.func80, Tryd.ntmps80
    go_wp2
    go_ret
    exact ⟨ret_int hfin.out, rfl⟩
  · have hfin : Hid (-1 = v) := by
      unfold Hid
      rw [← HV.out]
      simp [List.getD, List.getElem?_eq_none (show ls.length ≤ i by have := HN.out; omega)]
    go_enter Tryd.func80, Tryd.ntmps80
    go_wp2
    go_ret
    exact ⟨ret_int hfin.out, rfl⟩
theorem at_lit (i : Nat) (k v : Int) (b : Nat) (A : Option Addr) (n c : Nat) (ls : List Int) (w : World) (hb : Blk w b 25 [.slice A n c]) {B : Nat} (hr : Rd w B A (cb .i64 ls)) (hn : n = ls.length) (hi : i ≤ 2) (hl : n ≤ 1000000000) (hv : ls.getD i (-1) = v) (hk : k = i) :
    Calls Tryd.prog 80 #[.int .i64 k, .pointer (some ⟨b, 0, none⟩)] w fun e w' => e = .returned (.int .i64 v) ∧ w = w' := by
  subst hk; exact at_any i v b A n c ls w hb hr hn hi hl hv
/-- What 'first' gives back. -/
def RetFirst (w : World) (r : Int × Nat) (e : Ending) (w' : World) : Prop := e = .returned (.tuple #[.int .u8 r.1, .int .i64 r.2]) ∧ Below w.heap.size w w'
set_option maxHeartbeats 12800000 in
theorem first_any (A : Option Addr) (n c : Nat) (ls : List Int) (w : World) (hr : Rd w w.heap.size A (cb .i64 ls)) (hn : n = ls.length) (hl : n ≤ 1000000000) :
    Calls Tryd.prog 72 #[.slice A n c] w (RetFirst w (aFirst ls)) := by
  obtain ⟨x, hx⟩ : ∃ x, ls.getD 0 (-1) = x := ⟨_, rfl⟩
  obtain ⟨y, hy⟩ : ∃ y, ls.getD 1 (-1) = y := ⟨_, rfl⟩
  obtain ⟨z, hz⟩ : ∃ z, ls.getD 2 (-1) = z := ⟨_, rfl⟩
  have hF : Hid (aFirst ls = aFirst3 x y z) := by unfold Hid aFirst; rw [hx, hy, hz]
  have hblk : Blk (w.alloc (.cells #[.slice A n c] 25)) w.heap.size 25 [.slice A n c] := Blk.new _ _ _
  have hrd := hr.alloc (Nat.le_refl _) (.cells #[.slice A n c] 25)
  have HX := Lib.hid hx
  have HY := Lib.hid hy
  have HZ := Lib.hid hz
  have HN := Lib.hid hn
  have hbel : Below w.heap.size w (w.alloc (.cells #[.slice A n c] 25)) := (Below.refl _ _).alloc (Nat.le_refl _) _
  clear hx hy hz hn
  by_cases c0 : x = 0
  · have hfin : Hid (aFirst3 x y z = (32, 1)) := by unfold Hid aFirst3; rw [if_pos c0]
    have e0 : (x == 0) = true := by simpa using c0
    have C0 := Lib.hid c0
    clear c0
    go_enter Tryd.func72, Tryd.ntmps72
    go_wp2_with fail
    refine (at_lit 0 0 x _ A n c ls _ hblk hrd HN.out (by omega) hl HX.out rfl).mono ?_
    rintro e w' ⟨rfl, rfl⟩
    go_wp2_with fail
    refine (at_lit 1 1 y _ A n c ls _ hblk hrd HN.out (by omega) hl HY.out rfl).mono ?_
    rintro e w' ⟨rfl, rfl⟩
    go_wp2_with fail
    go_ret2
    exact ⟨by rw [hF.out, hfin.out]; rfl, hbel⟩
  · by_cases c1 : 1 ≤ x ∧ x ≤ 26
    · have hfin : Hid (aFirst3 x y z = (96 + x, 1)) := by unfold Hid aFirst3; rw [if_neg (by omega), if_pos c1]
      have e0 : (x == 0) = false := by simp; omega
      go_enter Tryd.func72, Tryd.ntmps72
      go_wp2_with fail
      refine (at_lit 0 0 x _ A n c ls _ hblk hrd HN.out (by omega) hl HX.out rfl).mono ?_
      rintro e w' ⟨rfl, rfl⟩
      go_wp2_with fail
      refine (at_lit 1 1 y _ A n c ls _ hblk hrd HN.out (by omega) hl HY.out rfl).mono ?_
      rintro e w' ⟨rfl, rfl⟩
      go_wp2_with fail
      refine (among_any x 1 26 _).mono ?_
      rw [show amB x 1 26 = true from amB_t (by omega)]
      rintro e w' ⟨rfl, rfl⟩
      go_wp2_with fail
      go_ret2
      exact ⟨by rw [hF.out, hfin.out]; show _ = Ending.returned (.tuple #[.int .u8 (96 + x), .int .i64 1]); rw [show 96 + x = 97 + x - 1 from by omega]; rfl, hbel⟩
    · by_cases c2 : x = 27 ∧ 1 ≤ y ∧ y ≤ 26
      · have hfin : Hid (aFirst3 x y z = (64 + y, 2)) := by unfold Hid aFirst3; rw [if_neg (by omega), if_neg (by omega), if_pos c2]
        have e0 : (x == 0) = false := by simp; omega
        have e27 : (x == 27) = true := by simp; omega
        have g1 : 1 ≤ y := c2.2.1
        have g2 : y ≤ 26 := c2.2.2
        have G := Lib.hid c2
        clear c2 c0 c1
        go_enter Tryd.func72, Tryd.ntmps72
        go_wp2_with fail
        refine (at_lit 0 0 x _ A n c ls _ hblk hrd HN.out (by omega) hl HX.out rfl).mono ?_
        rintro e w' ⟨rfl, rfl⟩
        go_wp2_with fail
        refine (at_lit 1 1 y _ A n c ls _ hblk hrd HN.out (by omega) hl HY.out rfl).mono ?_
        rintro e w' ⟨rfl, rfl⟩
        go_wp2_with fail
        refine (among_any x 1 26 _).mono ?_
        rw [show amB x 1 26 = false from amB_f (by have := G.out; omega)]
        rintro e w' ⟨rfl, rfl⟩
        go_wp2_with fail
        refine (among_any y 1 26 _).mono ?_
        rw [show amB y 1 26 = true from amB_t (by omega)]
        rintro e w' ⟨rfl, rfl⟩
        go_wp2_with fail
        go_ret2
        exact ⟨by rw [hF.out, hfin.out]; show _ = Ending.returned (.tuple #[.int .u8 (64 + y), .int .i64 2]); rw [show 64 + y = 65 + y - 1 from by omega]; rfl, hbel⟩
      · by_cases c3 : x = 28 ∧ 0 ≤ y ∧ y ≤ 30
        · obtain ⟨c31, c32, c33⟩ := c3
          obtain ⟨q, rfl⟩ := Int.eq_ofNat_of_zero_le c32
          have hq : q < 31 := by omega
          have hsg := Lib.hid (aSigns_at q hq).1
          have G := Lib.hid c31
          have hfin : Hid (aFirst3 x (q : Int) z = (aSigns.getD q 0, 2)) := by unfold Hid aFirst3; rw [if_neg (by omega), if_neg (by omega), if_neg (by omega), if_pos ⟨c31, by omega, by omega⟩, Int.toNat_natCast]
          have e0 : (x == 0) = false := by simp; omega
          have e27 : (x == 27) = false := by simp; omega
          have e28 : (x == 28) = true := by simp; omega
          clear c31 c0 c1 c2
          go_enter Tryd.func72, Tryd.ntmps72
          go_wp2_with fail
          refine (at_lit 0 0 x _ A n c ls _ hblk hrd HN.out (by omega) hl HX.out rfl).mono ?_
          rintro e w' ⟨rfl, rfl⟩
          go_wp2_with fail
          refine (at_lit 1 1 (q : Int) _ A n c ls _ hblk hrd HN.out (by omega) hl HY.out rfl).mono ?_
          rintro e w' ⟨rfl, rfl⟩
          go_wp2_with fail
          refine (among_any x 1 26 _).mono ?_
          rw [show amB x 1 26 = false from amB_f (by have := G.out; omega)]
          rintro e w' ⟨rfl, rfl⟩
          go_wp2_with fail
          refine (among_any (q : Int) 0 30 _).mono ?_
          rw [show amB (q : Int) 0 30 = true from amB_t (by omega)]
          rintro e w' ⟨rfl, rfl⟩
          go_wp2_with fail
          go_ret2
          exact ⟨by rw [hF.out, hfin.out]; rw [← hsg.out]; rfl, hbel⟩
        · by_cases c4 : x = 29 ∧ (0 ≤ y ∧ y ≤ 7) ∧ 0 ≤ z ∧ z ≤ 15
          · have g0 : 0 ≤ y := c4.2.1.1
            have g1 : y ≤ 7 := c4.2.1.2
            have g2 : 0 ≤ z := c4.2.2.1
            have g3 : z ≤ 15 := c4.2.2.2
            have G := Lib.hid c4.1
            have hfin : Hid (aFirst3 x y z = (16 * y + z, 3)) := by unfold Hid aFirst3; rw [if_neg (by omega), if_neg (by omega), if_neg (by omega), if_neg (by omega), if_pos c4]
            have e0 : (x == 0) = false := by simp; omega
            have e27 : (x == 27) = false := by simp; omega
            have e28 : (x == 28) = false := by simp; omega
            have e29 : (x == 29) = true := by simp; omega
            clear c4 c0 c1 c2 c3
            go_enter Tryd.func72, Tryd.ntmps72
            go_wp2_with fail
            refine (at_lit 0 0 x _ A n c ls _ hblk hrd HN.out (by omega) hl HX.out rfl).mono ?_
            rintro e w' ⟨rfl, rfl⟩
            go_wp2_with fail
            refine (at_lit 1 1 y _ A n c ls _ hblk hrd HN.out (by omega) hl HY.out rfl).mono ?_
            rintro e w' ⟨rfl, rfl⟩
            go_wp2_with fail
            refine (among_any x 1 26 _).mono ?_
            rw [show amB x 1 26 = false from amB_f (by have := G.out; omega)]
            rintro e w' ⟨rfl, rfl⟩
            go_wp2_with fail
            refine (among_any y 0 7 _).mono ?_
            rw [show amB y 0 7 = true from amB_t (by omega)]
            rintro e w' ⟨rfl, rfl⟩
            go_wp2_with fail
            refine (at_lit 2 2 z _ A n c ls _ hblk hrd HN.out (by omega) hl HZ.out rfl).mono ?_
            rintro e w' ⟨rfl, rfl⟩
            go_wp2_with fail
            refine (among_any z 0 15 _).mono ?_
            rw [show amB z 0 15 = true from amB_t (by omega)]
            rintro e w' ⟨rfl, rfl⟩
            go_wp2_with fail
            refine (at_lit 2 2 z _ A n c ls _ hblk hrd HN.out (by omega) hl HZ.out rfl).mono ?_
            rintro e w' ⟨rfl, rfl⟩
            go_wp2_with fail
            go_ret2
            exact ⟨by rw [hF.out, hfin.out]; rfl, hbel⟩
          · rcases (show (x = 27) ∨ (x = 28) ∨ (x = 29 ∧ 0 ≤ y ∧ y ≤ 7) ∨ (x = 29 ∧ ¬ (0 ≤ y ∧ y ≤ 7)) ∨ (x ≠ 27 ∧ x ≠ 28 ∧ x ≠ 29) by omega) with d | d | d | d | d
            · have hfin : Hid (aFirst3 x y z = (0, 0)) := by unfold Hid aFirst3; rw [if_neg c0, if_neg c1, if_neg c2, if_neg c3, if_neg c4]
              have e0 : (x == 0) = false := by simp; omega
              have e27 : (x == 27) = true := by simp; omega
              have e28 : (x == 28) = false := by simp; omega
              have e29 : (x == 29) = false := by simp; omega
              have G := Lib.hid d
              have G1 := Lib.hid c1
              have G2 := Lib.hid c2
              have G3 := Lib.hid c3
              have G4 := Lib.hid c4
              clear d c0 c1 c2 c3 c4
              go_enter Tryd.func72, Tryd.ntmps72
              go_wp2_with fail
              refine (at_lit 0 0 x _ A n c ls _ hblk hrd HN.out (by omega) hl HX.out rfl).mono ?_
              rintro e w' ⟨rfl, rfl⟩
              go_wp2_with fail
              refine (at_lit 1 1 y _ A n c ls _ hblk hrd HN.out (by omega) hl HY.out rfl).mono ?_
              rintro e w' ⟨rfl, rfl⟩
              go_wp2_with fail
              refine (among_any x 1 26 _).mono ?_
              rw [show amB x 1 26 = false from amB_f (by have := G.out; have := G1.out; have := G2.out; have := G3.out; have := G4.out; omega)]
              rintro e w' ⟨rfl, rfl⟩
              go_wp2_with fail
              refine (among_any y 1 26 _).mono ?_
              rw [show amB y 1 26 = false from amB_f (by have := G.out; have := G1.out; have := G2.out; have := G3.out; have := G4.out; omega)]
              rintro e w' ⟨rfl, rfl⟩
              go_wp2_with fail
              go_ret2
              exact ⟨by rw [hF.out, hfin.out]; rfl, hbel⟩
            · have hfin : Hid (aFirst3 x y z = (0, 0)) := by unfold Hid aFirst3; rw [if_neg c0, if_neg c1, if_neg c2, if_neg c3, if_neg c4]
              have e0 : (x == 0) = false := by simp; omega
              have e27 : (x == 27) = false := by simp; omega
              have e28 : (x == 28) = true := by simp; omega
              have e29 : (x == 29) = false := by simp; omega
              have G := Lib.hid d
              have G1 := Lib.hid c1
              have G2 := Lib.hid c2
              have G3 := Lib.hid c3
              have G4 := Lib.hid c4
              clear d c0 c1 c2 c3 c4
              go_enter Tryd.func72, Tryd.ntmps72
              go_wp2_with fail
              refine (at_lit 0 0 x _ A n c ls _ hblk hrd HN.out (by omega) hl HX.out rfl).mono ?_
              rintro e w' ⟨rfl, rfl⟩
              go_wp2_with fail
              refine (at_lit 1 1 y _ A n c ls _ hblk hrd HN.out (by omega) hl HY.out rfl).mono ?_
              rintro e w' ⟨rfl, rfl⟩
              go_wp2_with fail
              refine (among_any x 1 26 _).mono ?_
              rw [show amB x 1 26 = false from amB_f (by have := G.out; have := G1.out; have := G2.out; have := G3.out; have := G4.out; omega)]
              rintro e w' ⟨rfl, rfl⟩
              go_wp2_with fail
              refine (among_any y 0 30 _).mono ?_
              rw [show amB y 0 30 = false from amB_f (by have := G.out; have := G1.out; have := G2.out; have := G3.out; have := G4.out; omega)]
              rintro e w' ⟨rfl, rfl⟩
              go_wp2_with fail
              go_ret2
              exact ⟨by rw [hF.out, hfin.out]; rfl, hbel⟩
            · have hfin : Hid (aFirst3 x y z = (0, 0)) := by unfold Hid aFirst3; rw [if_neg c0, if_neg c1, if_neg c2, if_neg c3, if_neg c4]
              have e0 : (x == 0) = false := by simp; omega
              have e27 : (x == 27) = false := by simp; omega
              have e28 : (x == 28) = false := by simp; omega
              have e29 : (x == 29) = true := by simp; omega
              have G := Lib.hid d
              have G1 := Lib.hid c1
              have G2 := Lib.hid c2
              have G3 := Lib.hid c3
              have G4 := Lib.hid c4
              clear d c0 c1 c2 c3 c4
              go_enter Tryd.func72, Tryd.ntmps72
              go_wp2_with fail
              refine (at_lit 0 0 x _ A n c ls _ hblk hrd HN.out (by omega) hl HX.out rfl).mono ?_
              rintro e w' ⟨rfl, rfl⟩
              go_wp2_with fail
              refine (at_lit 1 1 y _ A n c ls _ hblk hrd HN.out (by omega) hl HY.out rfl).mono ?_
              rintro e w' ⟨rfl, rfl⟩
              go_wp2_with fail
              refine (among_any x 1 26 _).mono ?_
              rw [show amB x 1 26 = false from amB_f (by have := G.out; have := G1.out; have := G2.out; have := G3.out; have := G4.out; omega)]
              rintro e w' ⟨rfl, rfl⟩
              go_wp2_with fail
              refine (among_any y 0 7 _).mono ?_
              rw [show amB y 0 7 = true from amB_t (by have := G.out; have := G1.out; have := G2.out; have := G3.out; have := G4.out; omega)]
              rintro e w' ⟨rfl, rfl⟩
              go_wp2_with fail
              refine (at_lit 2 2 z _ A n c ls _ hblk hrd HN.out (by have := G.out; have := G1.out; have := G2.out; have := G3.out; have := G4.out; omega) hl HZ.out rfl).mono ?_
              rintro e w' ⟨rfl, rfl⟩
              go_wp2_with fail
              refine (among_any z 0 15 _).mono ?_
              rw [show amB z 0 15 = false from amB_f (by have := G.out; have := G1.out; have := G2.out; have := G3.out; have := G4.out; omega)]
              rintro e w' ⟨rfl, rfl⟩
              go_wp2_with fail
              go_ret2
              exact ⟨by rw [hF.out, hfin.out]; rfl, hbel⟩
            · have hfin : Hid (aFirst3 x y z = (0, 0)) := by unfold Hid aFirst3; rw [if_neg c0, if_neg c1, if_neg c2, if_neg c3, if_neg c4]
              have e0 : (x == 0) = false := by simp; omega
              have e27 : (x == 27) = false := by simp; omega
              have e28 : (x == 28) = false := by simp; omega
              have e29 : (x == 29) = true := by simp; omega
              have G := Lib.hid d
              have G1 := Lib.hid c1
              have G2 := Lib.hid c2
              have G3 := Lib.hid c3
              have G4 := Lib.hid c4
              clear d c0 c1 c2 c3 c4
              go_enter Tryd.func72, Tryd.ntmps72
              go_wp2_with fail
              refine (at_lit 0 0 x _ A n c ls _ hblk hrd HN.out (by omega) hl HX.out rfl).mono ?_
              rintro e w' ⟨rfl, rfl⟩
              go_wp2_with fail
              refine (at_lit 1 1 y _ A n c ls _ hblk hrd HN.out (by omega) hl HY.out rfl).mono ?_
              rintro e w' ⟨rfl, rfl⟩
              go_wp2_with fail
              refine (among_any x 1 26 _).mono ?_
              rw [show amB x 1 26 = false from amB_f (by have := G.out; have := G1.out; have := G2.out; have := G3.out; have := G4.out; omega)]
              rintro e w' ⟨rfl, rfl⟩
              go_wp2_with fail
              refine (among_any y 0 7 _).mono ?_
              rw [show amB y 0 7 = false from amB_f (by have := G.out; have := G1.out; have := G2.out; have := G3.out; have := G4.out; omega)]
              rintro e w' ⟨rfl, rfl⟩
              go_wp2_with fail
              go_ret2
              exact ⟨by rw [hF.out, hfin.out]; rfl, hbel⟩
            · have hfin : Hid (aFirst3 x y z = (0, 0)) := by unfold Hid aFirst3; rw [if_neg c0, if_neg c1, if_neg c2, if_neg c3, if_neg c4]
              have e0 : (x == 0) = false := by simp; omega
              have e27 : (x == 27) = false := by simp; omega
              have e28 : (x == 28) = false := by simp; omega
              have e29 : (x == 29) = false := by simp; omega
              have G := Lib.hid d
              have G1 := Lib.hid c1
              have G2 := Lib.hid c2
              have G3 := Lib.hid c3
              have G4 := Lib.hid c4
              clear d c0 c1 c2 c3 c4
              go_enter Tryd.func72, Tryd.ntmps72
              go_wp2_with fail
              refine (at_lit 0 0 x _ A n c ls _ hblk hrd HN.out (by omega) hl HX.out rfl).mono ?_
              rintro e w' ⟨rfl, rfl⟩
              go_wp2_with fail
              refine (at_lit 1 1 y _ A n c ls _ hblk hrd HN.out (by omega) hl HY.out rfl).mono ?_
              rintro e w' ⟨rfl, rfl⟩
              go_wp2_with fail
              refine (among_any x 1 26 _).mono ?_
              rw [show amB x 1 26 = false from amB_f (by have := G.out; have := G1.out; have := G2.out; have := G3.out; have := G4.out; omega)]
              rintro e w' ⟨rfl, rfl⟩
              go_wp2_with fail
              go_ret2
              exact ⟨by rw [hF.out, hfin.out]; rfl, hbel⟩
end Go.Proofs.YtpbaiighifhfnaaDoor
namespace Go.Proofs.YtpbaiighifhfnaaDoor
open Go.RowKit
set_option linter.unusedVariables false

/-- The text whose codes these are. -/
def IsOf (l t : List Int) : Prop := isTextB t = true ∧ aCodes t = l
open Classical in
noncomputable def aText (l : List Int) : List Int × Int := if h : ∃ t, IsOf l t then (Classical.choose h, 0) else ([], 16)
theorem isText_ok {l : List Int} (h : isTextB l = true) : ∀ c ∈ l, tOkB c = true := by
  simp only [isTextB, Bool.and_eq_true, List.all_eq_true] at h
  exact h.2
theorem aText_yes {l t : List Int} (h : isTextB t = true) (h' : aCodes t = l) : aText l = (t, 0) := by
  have hex : ∃ t, IsOf l t := ⟨t, h, h'⟩
  have hc := Classical.choose_spec hex
  have := aCodes_inj _ _ (isText_ok hc.1) (isText_ok h) (hc.2.trans h'.symm)
  unfold aText
  rw [dif_pos hex, this]
theorem aText_no {l : List Int} (h : ∀ t, isTextB t = true → aCodes t ≠ l) : aText l = ([], 16) := by
  unfold aText
  rw [dif_neg]
  rintro ⟨t, h1, h2⟩
  exact h t h1 h2
theorem aText_or (l : List Int) : (∃ t, isTextB t = true ∧ aCodes t = l ∧ aText l = (t, 0)) ∨ aText l = ([], 16) := by
  by_cases h : ∃ t, IsOf l t
  · obtain ⟨t, h1, h2⟩ := h
    exact .inl ⟨t, h1, h2, aText_yes h1 h2⟩
  · exact .inr (by unfold aText; rw [dif_neg h])
theorem tOk_bts {l : List Int} (h : ∀ c ∈ l, tOkB c = true) : Bts l := fun c hc => by
  have := h c hc
  simp [tOkB] at this
  omega
/-- What holds as a text is read off: what was read, what is left. -/
def Mid (l t0 rest : List Int) : Prop := ∀ t, (∀ c ∈ t, tOkB c = true) → aCodes t = l → ∃ t', t = t0 ++ t' ∧ rest = aCodes t'
theorem Mid.start (l : List Int) : Mid l [] l := fun t _ h => ⟨t, rfl, h.symm⟩
theorem aFirst_le (l : List Int) (hl : 0 < l.length) : (aFirst l).2 ≤ l.length ∧ 0 ≤ (aFirst l).1 ∧ (aFirst l).1 < 256 := by
  have g : ∀ k, 0 ≤ l.getD k (-1) → k < l.length := by
    intro k hk
    rcases Nat.lt_or_ge k l.length with h | h
    · exact h
    · simp [List.getD, List.getElem?_eq_none h] at hk
  have g1 := g 1; have g2 := g 2
  unfold aFirst aFirst3
  generalize l.getD 0 (-1) = x at *
  generalize l.getD 1 (-1) = y at *
  generalize l.getD 2 (-1) = z at *
  split
  · simp; omega
  · split
    · simp; omega
    · split
      · simp; omega
      · split
        · rename_i h
          have hs : ∀ r : Fin 31, 0 ≤ aSigns.getD r.val 0 ∧ aSigns.getD r.val 0 < 256 := by decide
          have := hs ⟨y.toNat, by omega⟩
          simp only at this ⊢
          omega
        · split
          · simp; omega
          · simp
theorem Mid.stop {l t0 rest : List Int} (h : Mid l t0 rest) (hr : 0 < rest.length) (h0 : (aFirst rest).2 = 0) : aText l = ([], 16) := by
  refine aText_no fun t h1 h2 => ?_
  obtain ⟨t', rfl, rfl⟩ := h t (isText_ok h1) h2
  cases t' with
  | nil => simp [aCodes] at hr
  | cons c t' =>
    have hc := isText_ok h1 c (by simp)
    have := aFirst_sort c (aCodes t') hc
    have e : aCodes (c :: t') = aSort c ++ aCodes t' := rfl
    rw [e, this] at h0
    have := aSort_pos c hc
    simp only at h0
    omega
theorem Mid.step {l t0 rest : List Int} (h : Mid l t0 rest) (hr : 0 < rest.length) : Mid l (t0 ++ [(aFirst rest).1]) (rest.drop (aFirst rest).2) := by
  intro t h1 h2
  obtain ⟨t', rfl, rfl⟩ := h t h1 h2
  cases t' with
  | nil => simp [aCodes] at hr
  | cons c t' =>
    have hc := h1 c (by simp)
    have := aFirst_sort c (aCodes t') hc
    have e : aCodes (c :: t') = aSort c ++ aCodes t' := rfl
    rw [e, this]
    exact ⟨t', by simp, by simp⟩
theorem Mid.done {l t0 : List Int} (h : Mid l t0 []) : (isTextB t0 = true ∧ aCodes t0 = l → aText l = (t0, 0)) ∧ (¬ (isTextB t0 = true ∧ aCodes t0 = l) → aText l = ([], 16)) := by
  refine ⟨fun ⟨h1, h2⟩ => aText_yes h1 h2, fun hn => aText_no fun t h1 h2 => ?_⟩
  obtain ⟨t', rfl, ht⟩ := h t (isText_ok h1) h2
  cases t' with
  | nil => rw [List.append_nil] at h1 h2; exact hn ⟨h1, h2⟩
  | cons c t' =>
    have := aSort_pos c (isText_ok h1 c (by simp))
    have e := congrArg List.length ht
    have e2 : aCodes (c :: t') = aSort c ++ aCodes t' := rfl
    rw [e2, List.length_append] at e
    simp at e
    omega

/-! ### as the reference reads -/
/-- The codes of a byte stand at the beginning. -/
def begB (l cs : List Int) : Bool := l.take cs.length == cs
theorem begB_iff (l cs : List Int) : begB l cs = true ↔ ∃ r, l = cs ++ r := by
  unfold begB
  rw [beq_iff_eq]
  constructor
  · intro h; exact ⟨l.drop cs.length, by conv => lhs; rw [← List.take_append_drop cs.length l, h]⟩
  · rintro ⟨r, rfl⟩; simp
/-- The byte that has the next codes; -1: none. -/
def nx (l : List Int) : Int := if tOkB (aFirst l).1 && begB l (aSort (aFirst l).1) && decide (0 < (aFirst l).2) then (aFirst l).1 else -1
theorem nx_beg {l : List Int} {c : Int} (hc : tOkB c = true) : begB l (aSort c) = true ↔ nx l = c := by
  constructor
  · intro h
    obtain ⟨r, rfl⟩ := (begB_iff _ _).1 h
    have h1 := aFirst_sort c r hc
    have h2 := aSort_pos c hc
    unfold nx
    rw [h1]
    simp only [hc, h, Bool.true_and, decide_eq_true_eq, h2, if_true]
  · intro h
    unfold nx at h
    split at h
    · rename_i h1
      rw [h] at h1
      simp only [Bool.and_eq_true] at h1
      exact h1.1.2
    · rw [← h] at hc
      exact absurd hc (by decide)
theorem nx_bd (l : List Int) : nx l = -1 ∨ (tOkB (nx l) = true ∧ begB l (aSort (nx l)) = true ∧ 10 ≤ nx l ∧ nx l ≤ 126) := by
  unfold nx
  split
  · rename_i h1
    simp only [Bool.and_eq_true] at h1
    refine .inr ⟨h1.1.1, h1.1.2, ?_⟩
    have := h1.1.1
    simp [tOkB] at this
    omega
  · exact .inl rfl
/-- What the reference has read. -/
def RMid (l t0 : List Int) (j : Nat) : Prop := (∀ c ∈ t0, tOkB c = true) ∧ aCodes t0 = l.take j ∧ j ≤ l.length
theorem cancel (t0 t r : List Int) (h0 : ∀ c ∈ t0, tOkB c = true) (h : ∀ c ∈ t, tOkB c = true) (he : aCodes t = aCodes t0 ++ r) : ∃ t', t = t0 ++ t' ∧ r = aCodes t' := by
  induction t0 generalizing t with
  | nil => exact ⟨t, rfl, by simpa [aCodes] using he.symm⟩
  | cons a t0 ih =>
    have ha := h0 a List.mem_cons_self
    have e0 : aCodes (a :: t0) = aSort a ++ aCodes t0 := rfl
    rw [e0, List.append_assoc] at he
    cases t with
    | nil =>
      have := aSort_pos a ha
      have e := congrArg List.length he
      simp only [aCodes, List.flatMap_nil, List.length_nil, List.length_append] at e
      omega
    | cons b t =>
      have hb := h b List.mem_cons_self
      have e1 : aCodes (b :: t) = aSort b ++ aCodes t := rfl
      rw [e1] at he
      have f1 := aFirst_sort b (aCodes t) hb
      have f2 := aFirst_sort a (aCodes t0 ++ r) ha
      rw [he, f2] at f1
      obtain rfl : a = b := congrArg Prod.fst f1
      obtain ⟨t', rfl, hr⟩ := ih t (fun c hc => h0 c (List.mem_cons_of_mem _ hc)) (fun c hc => h c (List.mem_cons_of_mem _ hc)) (List.append_cancel_left he)
      exact ⟨t', rfl, hr⟩
theorem RMid.start (l : List Int) : RMid l [] 0 := ⟨(fun c hc => by cases hc), by simp [aCodes], by omega⟩
theorem RMid.stop {l t0 : List Int} {j : Nat} (h : RMid l t0 j) (hj : j < l.length) (hn : nx (l.drop j) = -1) : aText l = ([], 16) := by
  refine aText_no fun t h1 h2 => ?_
  have h3 : aCodes t = aCodes t0 ++ l.drop j := by rw [h.2.1, List.take_append_drop, h2]
  obtain ⟨t', rfl, hr⟩ := cancel t0 t _ h.1 (isText_ok h1) h3
  cases t' with
  | nil =>
    have e := congrArg List.length hr
    rw [List.length_drop] at e
    simp [aCodes] at e
    omega
  | cons c t' =>
    have hc := isText_ok h1 c (by simp)
    have : begB (l.drop j) (aSort c) = true := (begB_iff _ _).2 ⟨aCodes t', hr⟩
    rw [nx_beg hc, hn] at this
    rw [← this] at hc
    revert hc; decide
theorem RMid.step {l t0 : List Int} {j : Nat} (h : RMid l t0 j) {c : Int} (hn : nx (l.drop j) = c) (hc : tOkB c = true) : RMid l (t0 ++ [c]) (j + (aSort c).length) := by
  have hb := (nx_beg hc).2 hn
  obtain ⟨r, hr⟩ := (begB_iff _ _).1 hb
  have hl := congrArg List.length hr
  rw [List.length_drop, List.length_append] at hl
  have hp := aSort_pos c hc
  refine ⟨fun x hx => ?_, ?_, by omega⟩
  · rcases List.mem_append.1 hx with hx | hx
    · exact h.1 x hx
    · rw [List.mem_singleton] at hx; rw [hx]; exact hc
  · rw [aCodes_snoc, h.2.1, List.take_add, hr]
    simp
theorem RMid.done {l t0 : List Int} (h : RMid l t0 l.length) : (isTextB t0 = true → aText l = (t0, 0)) ∧ (isTextB t0 = false → aText l = ([], 16)) := by
  have h2 : aCodes t0 = l := by rw [h.2.1, List.take_length]
  refine ⟨fun h1 => aText_yes h1 h2, fun h1 => aText_no fun t h3 h4 => ?_⟩
  have := aCodes_inj t t0 (isText_ok h3) h.1 (h4.trans h2.symm)
  rw [this, h1] at h3
  cases h3
end Go.Proofs.YtpbaiighifhfnaaDoor
namespace Go.Proofs.YtpbaiighifhfnaaDoor
open Go.RowKit Go.BigFrame
section
variable {P : Program} {w : World} {ops : Array Oper} {rest : List Oper} {o : Oper} {a : Act} {Q : Exit → Act → World → Prop}
/-- 'append' in a region that draws its order: for 'go_region_law'. -/
theorem step_app {t e : TypeId} {z : Value} {bytes : Nat} (E : Elem P t e z bytes) {K : Act → World → Prop} {X : Prop} (hgd : Region.wanted o (yielded ops a.tmps) = true) (s x : Operand)
    (ho : o.op = .call { callee := .builtin .append, args := #[s, x], argTypes := #[t, t] }) {base : Nat} {v : Value} {xs : List Value} (hs : a.eval s = v) (hown : Own w base e v xs) {B : Nat} {A : Option Addr} {m c : Nat} {news : List Value}
    (hx : a.eval x = .slice A m c) (hr : Rd w B A news) (hm : m = news.length) (h1 : ∀ u ∈ news, u.oneCell' = true) (hb : (xs.length + news.length) * bytes ≤ 140737488355328) (h63 : xs.length + news.length ≤ 9223372036854775807) (hbase : base ≤ w.heap.size)
    (h : ∀ A' n' c' w', Own w' base e (.slice A' n' c') (xs ++ news) → w.grownBy w' v.ownBlock → ((Value.slice A' n' c').ownBlock = v.ownBlock ∨ (Value.slice A' n' c').ownBlock = some w.heap.size) → K (a.put o.dst (.slice A' n' c')) w') :
    if Region.wanted o (yielded ops a.tmps) = true then Oper.wp P o a w K Q else X := by
  obtain ⟨v', w', hrun, h2, h3, h4⟩ := run_app (ty := o.type) E hown (c := c) hr hm h1 hb h63 hbase
  rw [if_pos hgd]
  unfold Oper.wp execOp
  simp only [ho, resolve, invoke, builtin, Sem.run_bind, Sem.run_pure, Result.andThen_ok, List.map_toArray, List.map_cons, List.map_nil, hs, hx, hrun]
  obtain ⟨A', c', rfl, _⟩ := h2.form
  exact h A' _ c' w' h2 h3 h4
end
end Go.Proofs.YtpbaiighifhfnaaDoor
namespace Go.Proofs.YtpbaiighifhfnaaDoor
open Go.RowKit Go.IntWalk
set_option maxRecDepth 100000
set_option linter.unusedVariables false

set_option maxHeartbeats 800000 in
theorem equal_any (A A' : Option Addr) (n n' c c' : Nat) (xs ys : List Int) (b : Bool) (w : World) (hr : Rd w w.heap.size A (cb .i64 xs)) (hr' : Rd w w.heap.size A' (cb .i64 ys)) (hx : n = xs.length) (hy : n' = ys.length) (hm : xs.length ≤ 1000000000) (hb : (xs == ys) = b) :
    Calls Tryd.prog 45 #[.slice A n c, .slice A' n' c'] w fun e w' => e = .returned (.bool b) ∧ Below w.heap.size w w' := by
  have HBB := Lib.hid hb
  clear hb
  rw [← HBB.out]
  subst hx
  by_cases hl : xs.length = n'
  · have hb0 : ((xs.length : Int) != (n' : Int)) = false := by simp; omega
    have HY := Lib.hid hy
    have HL := Lib.hid hl
    clear hy hl
    go_enter Tryd.func45, Tryd.ntmps45
    go_wp2
    go_loopw [13] (fun i w2 => ∃ k : Nat, k ≤ xs.length ∧ i = .int .i64 k ∧ Hid (∀ j, j < k → xs.getD j 0 = ys.getD j 0) ∧ Hid (∃ m, w2 = w.drewN m)) (fun i _ => xs.length - (intOf i).toNat)
    case atStart => exact ⟨0, by omega, rfl, by unfold Hid; intro j hj; omega, by unfold Hid; exact ⟨0, rfl⟩⟩
    case round =>
      obtain ⟨k, hk, rfl, hq, hw⟩ := hrel
      obtain ⟨m, rfl⟩ := hw.out
      by_cases hlt : k < xs.length
      · have hly : k < ys.length := by have := HY.out; have := HL.out; omega
        have hln : k < n' := by have := HL.out; omega
        obtain ⟨b, o, rfl, _, hc1⟩ := hr.num hlt
        obtain ⟨b', o', rfl, _, hc2⟩ := hr'.num hly
        have hx0 : xs.getD k 0 = xs[k] := by simp [List.getD, List.getElem?_eq_getElem hlt]
        have hy0 : ys.getD k 0 = ys[k] := by simp [List.getD, List.getElem?_eq_getElem hly]
        have g1 : (k : Int) < (xs.length : Int) := by omega
        have g2 : (k : Int) < (n' : Int) := by omega
        by_cases he : xs[k] = ys[k]
        · have e1 : (xs[k] != ys[k]) = false := by simpa using he
          have hq2 : Hid (∀ j, j < k + 1 → xs.getD j 0 = ys.getD j 0) := by
            unfold Hid
            intro j hj
            rcases Nat.lt_or_ge j k with h | h
            · exact hq.out j h
            · obtain rfl : j = k := by omega
              rw [hx0, hy0, he]
          clear hx0 hy0 he
          go_wp2_with fail
          go_quiet (fail)
          go_wp2
          go_roundw
          case rel => exact ⟨k + 1, by omega, by go_num, hq2, by unfold Hid; exact ⟨m + nq, rfl⟩⟩
          case measure => simp [intOf]; omega
        · have e1 : (xs[k] != ys[k]) = true := by simpa using he
          have hfin : Hid ((xs == ys) = false) := by
            unfold Hid
            rw [beq_eq_false_iff_ne]
            rintro rfl
            exact he rfl
          clear hx0 hy0 he
          go_wp2_with fail
          go_quiet (fail)
          go_wp2
          go_ret
          exact ⟨by rw [hfin.out]; rfl, by rw [World.drewN_drewN]; exact below_drewN (Below.refl _ _) _⟩
      · obtain rfl : k = xs.length := by omega
        have hfin : Hid ((xs == ys) = true) := by
          unfold Hid
          rw [beq_iff_eq]
          refine List.ext_getElem (by have := HY.out; have := HL.out; omega) fun j h1 h2 => ?_
          have := hq.out j h1
          simpa [List.getD, List.getElem?_eq_getElem h1, List.getElem?_eq_getElem h2] using this
        go_wp2
        go_ret
        exact ⟨by rw [hfin.out]; rfl, below_drewN (Below.refl _ _) _⟩
  · have hb0 : ((xs.length : Int) != (n' : Int)) = true := by simp; omega
    have hfin : Hid ((xs == ys) = false) := by
      unfold Hid
      rw [beq_eq_false_iff_ne]
      rintro rfl
      exact hl hy.symm
    clear hy hl
    go_enter Tryd.func45, Tryd.ntmps45
    go_wp2
    go_ret
    exact ⟨by rw [hfin.out]; rfl, Below.refl _ _⟩
theorem rd_at' {w W : World} {A : Option Addr} {xs : List Value} (h : Rd w w.heap.size A xs) (hb : Below w.heap.size w W) : Rd W W.heap.size A xs := (h.below hb).more hb.size
/-- What holds at the head of the loop over the codes. -/
def TxIn (w w2 : World) (ls : List Int) (o r : Value) : Prop :=
  ∃ (t0 rest : List Int) (A2 A3 : Option Addr) (n2 c2 n3 c3 : Nat), Mid ls t0 rest ∧ Bts t0 ∧ t0.length + rest.length ≤ ls.length ∧ o = .slice A2 n2 c2 ∧ Own w2 w.heap.size 5 (.slice A2 n2 c2) (cb .u8 t0) ∧ r = .slice A3 n3 c3 ∧ Rd w w.heap.size A3 (cb .i64 rest) ∧ n3 = rest.length ∧ n3 ≤ c3 ∧ c3 ≤ 9223372036854775807 ∧ Below w.heap.size w w2
set_option maxHeartbeats 3200000 in
theorem text_any (A : Option Addr) (n c : Nat) (ls : List Int) (w : World) (hr : Rd w w.heap.size A (cb .i64 ls)) (hn : n = ls.length) (hnc : n ≤ c) (hc : c ≤ 9223372036854775807) (hl : n ≤ 10000000) :
    Calls Tryd.prog 60 #[.slice A n c] w fun e w' => e = .returned (.tuple #[.string (strOfNums (aText ls).1), .int .i64 (aText ls).2]) ∧ Below w.heap.size w w' := by
  have HN := Lib.hid hn
  clear hn
  go_enter Tryd.func60, Tryd.ntmps60
  go_wp2_with fail
  go_loopw [4, 5, 6, 7] (fun o r _ _ w2 => TxIn w w2 ls o r) (fun _ r _ _ _ => lenOf r)
  case atStart => unfold TxIn; exact ⟨[], ls, none, A, 0, 0, n, c, Mid.start ls, Bts.nil, by simp, rfl, Own.nil _ _ _, rfl, hr, HN.out, hnc, hc, Below.refl _ _⟩
  case round =>
    obtain ⟨t0, rest, A2, A3, n2, c2, n3, c3, hmid, hbt, hlen, rfl, hown, rfl, hrd, hn3, hnc3, hc3, hbel⟩ := hrel
    have hb := hbel.size
    have HN3 := Lib.hid hn3
    have hmb : n3 ≤ n := by have := HN.out; omega
    by_cases h0 : 0 < n3
    · have hr0 : 0 < rest.length := by omega
      have hfl := aFirst_le rest hr0
      obtain ⟨hf1, hf2, hf3⟩ := hfl
      have hf1' : (aFirst rest).2 ≤ n3 := by omega
      by_cases hz : (aFirst rest).2 = 0
      · have hfin := Lib.hid (hmid.stop hr0 hz)
        have HZ := Lib.hid hz
        clear hz hn3
        go_wp2_with fail
        refine (first_any A3 n3 c3 rest wr (rd_at' hrd hbel) HN3.out (by omega)).mono ?_
        rintro e w3 ⟨rfl, hb3⟩
        rw [HZ.out]
        go_wp2
        go_ret2
        exact ⟨by rw [hfin.out]; rfl, hbel.trans (hb3.mono hb)⟩
      · have e0 : (((aFirst rest).2 : Int) == 0) = false := by simp; omega
        have hst := hmid.step hr0
        have hbt2 : Bts (t0 ++ [(aFirst rest).1]) := hbt.append (by intro x hx; rw [List.mem_singleton] at hx; subst hx; exact ⟨hf2, hf3⟩)
        have hp : 0 < (aFirst rest).2 := by omega
        have hdl : Hid ((rest.drop (aFirst rest).2).length = n3 - (aFirst rest).2) := by unfold Hid; rw [List.length_drop, HN3.out]
        have hdr := hrd.drop (aFirst rest).2 c3 (by simp; omega) (by simp; omega)
        rw [cb_drop] at hdr
        have htl : t0.length ≤ 10000000 := by have := HN.out; omega
        clear hz hn3
        go_wp2_with fail
        refine (first_any A3 n3 c3 rest wr (rd_at' hrd hbel) HN3.out (by omega)).mono ?_
        rintro e w3 ⟨rfl, hb3⟩
        have hbel3 := hbel.trans (hb3.mono hb)
        have hb3s := hbel3.size
        have hown3 := hown.below hb3
        generalize aFirst rest = F at *
        obtain ⟨F1, F2⟩ := F
        simp only at *
        obtain ⟨A5, hA5⟩ : ∃ A5, (if c3 = F2 then A3 else Option.map (fun x => x.add F2) A3) = A5 := ⟨_, rfl⟩
        rw [hA5] at hdr
        go_wp2_with fail
        go_region_law (refine step_app elemU8 rfl _ _ rfl rfl (hown3.drew.alloc _) rfl (Rd.new _ [_] _) rfl (one1 _ _) (by simp; omega) (by simp; omega) (by simp; omega) ?_; intro A4 n4 c4 w4 hown4 hg4 _)
        have hg5 : (w3.alloc (.cells #[.int .u8 F1] 5)).drew.grownBy w4 (Value.slice A2 n2 c2).ownBlock := hg4
        have hown5 : Own w4 w.heap.size 5 (.slice A4 n4 c4) (cb .u8 (t0 ++ [F1])) := by rw [cb_append]; exact hown4
        have hbel5 := below_own (hbel3.alloc hb3s (.cells #[.int .u8 F1] 5)).drew hg5 (hown3.drew.alloc _) (Nat.le_refl _) (by simp; omega)
        clear hown4 hg4 hg5
        simp only [List.getElem_toArray, List.getElem_cons_succ, List.getElem_cons_zero]
        go_frame
        go_roundw
        case rel => (repeat apply Exists.intro); refine ⟨?_, rfl⟩; unfold TxIn; exact ⟨t0 ++ [F1], rest.drop F2, A4, _, n4, c4, n3 - F2, c3 - F2, hst, hbt2, by rw [List.length_append, List.length_drop]; simp only [List.length_singleton]; omega, rfl, hown5, rfl, hdr, hdl.out.symm, by omega, by omega, hbel5⟩
        case measure => simp [lenOf]; omega
    · have hrest : rest = [] := List.eq_nil_of_length_eq_zero (by omega)
      subst hrest
      have hdn := hmid.done
      have hcv := fun e => conv_str (P := Tryd.prog) Tryd.underlying26 Tryd.underlying5 Tryd.underlying9 hown.rd.2.2 (c := c2) (n := n2) e
      have hcv1 := hcv (by rw [hown.rd.1]; simp)
      have htB : Hid (tB (strOfNums t0) = t0) := tB_str hbt
      have hsz : (strOfNums t0).size ≤ 100000000 := by rw [← tB_len, tB_str hbt]; have := HN.out; simp at hlen; omega
      have hlt : t0.length ≤ 10000000 := by have := HN.out; simp at hlen; omega
      have hdn1 := Lib.hid hdn.1
      have hdn2 := Lib.hid hdn.2
      clear hdn hcv hn3
      cases hok : isTextB t0 with
      | false =>
        have hfin := Lib.hid (hdn2.out (fun h => by rw [hok] at h; cases h.1))
        have hco : Hid (aTextCodes t0 = ([], 13)) := by unfold Hid aTextCodes; rw [hok]; rfl
        clear hok
        go_wp2_with fail
        refine (codes_any (strOfNums t0) _ hsz).mono ?_
        rw [htB.out, hco.out]
        rintro e w3 ⟨A5, n5, c5, rfl, hown5, hb3⟩
        go_wp2_with fail
        go_ret2
        exact ⟨by rw [hfin.out]; rfl, hbel.trans (hb3.mono hb)⟩
      | true =>
        have hco : Hid (aTextCodes t0 = (aCodes t0, 0)) := by unfold Hid aTextCodes; rw [hok]; rfl
        cases heq : (aCodes t0 == ls) with
        | false =>
          have hfin := Lib.hid (hdn2.out (fun h => by rw [h.2] at heq; simp at heq))
          have HE := Lib.hid heq
          clear hok heq
          go_wp2_with fail
          refine (codes_any (strOfNums t0) _ hsz).mono ?_
          rw [htB.out, hco.out]
          rintro e w3 ⟨A5, n5, c5, rfl, hown5, hb3⟩
          have hbel3 := hbel.trans (hb3.mono hb)
          have hz5 : Hid (n5 = (aCodes t0).length) := by unfold Hid; rw [hown5.rd.1]; simp
          have hle5 : (aCodes t0).length ≤ 1000000000 := by have := aCodes_len t0; omega
          go_wp2_with fail
          refine (equal_any A5 A n5 n c5 c (aCodes t0) ls false _ hown5.rd.2.2 (rd_at' hr hbel3) hz5.out HN.out hle5 HE.out).mono ?_
          rintro e w4 ⟨rfl, hb4⟩
          go_wp2_with fail
          go_ret2
          exact ⟨by rw [hfin.out]; rfl, hbel3.trans (hb4.mono hbel3.size)⟩
        | true =>
          have hfin := Lib.hid (hdn1.out ⟨hok, by simpa using heq⟩)
          have HE := Lib.hid heq
          clear hok heq
          go_wp2_with fail
          refine (codes_any (strOfNums t0) _ hsz).mono ?_
          rw [htB.out, hco.out]
          rintro e w3 ⟨A5, n5, c5, rfl, hown5, hb3⟩
          have hbel3 := hbel.trans (hb3.mono hb)
          have hz5 : Hid (n5 = (aCodes t0).length) := by unfold Hid; rw [hown5.rd.1]; simp
          have hle5 : (aCodes t0).length ≤ 1000000000 := by have := aCodes_len t0; omega
          go_wp2_with fail
          refine (equal_any A5 A n5 n c5 c (aCodes t0) ls true _ hown5.rd.2.2 (rd_at' hr hbel3) hz5.out HN.out hle5 HE.out).mono ?_
          rintro e w4 ⟨rfl, hb4⟩
          have hcv2 := conv_str (P := Tryd.prog) Tryd.underlying26 Tryd.underlying5 Tryd.underlying9 ((hown.below hb3).below hb4).rd.2.2 (c := c2) (n := n2) (by rw [hown.rd.1]; simp)
          go_wp2_with fail
          go_ret2
          exact ⟨by rw [hfin.out]; rfl, hbel3.trans (hb4.mono hbel3.size)⟩
end Go.Proofs.YtpbaiighifhfnaaDoor
namespace Go.Proofs.YtpbaiighifhfnaaDoor
open Go.RowKit Go.IntWalk
set_option maxRecDepth 100000
set_option linter.unusedVariables false

theorem begB_len {l cs : List Int} (h : l.length < cs.length) : begB l cs = false := by
  unfold begB
  rw [beq_eq_false_iff_ne]
  intro he
  have := congrArg List.length he
  rw [List.length_take] at this
  omega
theorem begB_all {l cs : List Int} (hl : cs.length ≤ l.length) (h : ∀ i, i < cs.length → l.getD i 0 = cs.getD i 0) : begB l cs = true := by
  unfold begB
  rw [beq_iff_eq]
  refine List.ext_getElem (by rw [List.length_take]; omega) fun i h1 h2 => ?_
  have := h i h2
  simpa [List.getD, List.getElem?_eq_getElem h2, List.getElem?_eq_getElem (show i < l.length by omega)] using this
theorem begB_not {l cs : List Int} {i : Nat} (hi : i < cs.length) (hl : cs.length ≤ l.length) (h : l.getD i 0 ≠ cs.getD i 0) : begB l cs = false := by
  unfold begB
  rw [beq_eq_false_iff_ne]
  intro he
  apply h
  rw [← he]
  simp [List.getD, hi]
set_option maxHeartbeats 800000 in
theorem begins_any (A A' : Option Addr) (n n' c c' j : Nat) (ls cs : List Int) (w : World) (hr : Rd w w.heap.size A (cb .i64 ls)) (hr' : Rd w w.heap.size A' (cb .i64 cs)) (hx : n = ls.length) (hy : n' = cs.length) (hm : ls.length ≤ 1000000000) (hm' : cs.length ≤ 1000000000) (hj : j ≤ ls.length) :
    Calls Tryd.prog 77 #[.slice A n c, .int .i64 j, .slice A' n' c'] w fun e w' => e = .returned (.bool (begB (ls.drop j) cs)) ∧ Below w.heap.size w w' := by
  subst hx
  subst hy
  by_cases hl : cs.length ≤ ls.length - j
  · have hdl : cs.length ≤ (ls.drop j).length := by rw [List.length_drop]; omega
    have hgd : ∀ k, (ls.drop j).getD k 0 = ls.getD (j + k) 0 := fun k => by simp [List.getD]
    have HGD := Lib.hid hgd
    clear hgd
    have g0 : decide ((ls.length : Int) - (j : Int) < (cs.length : Int)) = false := by simp; omega
    go_enter Tryd.func77, Tryd.ntmps77
    go_wp2
    go_loopw [7] (fun i w2 => ∃ k : Nat, k ≤ cs.length ∧ i = .int .i64 k ∧ Hid (∀ q, q < k → (ls.drop j).getD q 0 = cs.getD q 0) ∧ Hid (∃ m, w2 = w.drewN m)) (fun i _ => cs.length - (intOf i).toNat)
    case atStart => exact ⟨0, by omega, rfl, by unfold Hid; intro q hq; omega, by unfold Hid; exact ⟨0, rfl⟩⟩
    case round =>
      obtain ⟨k, hk, rfl, hq, hw⟩ := hrel
      obtain ⟨m, rfl⟩ := hw.out
      by_cases hlt : k < cs.length
      · have hjk : j + k < ls.length := by omega
        obtain ⟨b, o, rfl, _, hc1⟩ := hr.num hjk
        obtain ⟨b', o', rfl, _, hc2⟩ := hr'.num hlt
        have hx0 : (ls.drop j).getD k 0 = ls[j + k] := by rw [HGD.out]; simp [List.getD, List.getElem?_eq_getElem hjk]
        have hy0 : cs.getD k 0 = cs[k] := by simp [List.getD, List.getElem?_eq_getElem hlt]
        have g1 : (j : Int) + (k : Int) < (ls.length : Int) := by omega
        have g2 : (k : Int) < (cs.length : Int) := by omega
        have g3 : (0 : Int) ≤ (j : Int) + (k : Int) := by omega
        by_cases he : ls[j + k] = cs[k]
        · have e1 : (ls[j + k] != cs[k]) = false := by simpa using he
          have hq2 : Hid (∀ q, q < k + 1 → (ls.drop j).getD q 0 = cs.getD q 0) := by
            unfold Hid
            intro q hqk
            rcases Nat.lt_or_ge q k with h | h
            · exact hq.out q h
            · obtain rfl : q = k := by omega
              rw [hx0, hy0, he]
          clear hx0 hy0 he
          go_wp2_with fail
          go_quiet (fail)
          go_wp2
          go_roundw
          case rel => exact ⟨k + 1, by omega, by go_num, hq2, by unfold Hid; exact ⟨m + nq, rfl⟩⟩
          case measure => simp [intOf]; omega
        · have e1 : (ls[j + k] != cs[k]) = true := by simpa using he
          have hfin := Lib.hid (begB_not hlt hdl (by rw [hx0, hy0]; exact he))
          clear hx0 hy0 he
          go_wp2_with fail
          go_quiet (fail)
          go_wp2
          go_ret
          exact ⟨by rw [hfin.out]; rfl, by rw [World.drewN_drewN]; exact below_drewN (Below.refl _ _) _⟩
      · obtain rfl : k = cs.length := by omega
        have hfin := Lib.hid (begB_all hdl hq.out)
        go_wp2
        go_ret
        exact ⟨by rw [hfin.out]; rfl, below_drewN (Below.refl _ _) _⟩
  · have hfin := Lib.hid (begB_len (l := ls.drop j) (cs := cs) (by rw [List.length_drop]; omega))
    have g0 : decide ((ls.length : Int) - (j : Int) < (cs.length : Int)) = true := by simp; omega
    go_enter Tryd.func77, Tryd.ntmps77
    go_wp2
    go_ret
    exact ⟨by rw [hfin.out]; rfl, Below.refl _ _⟩
/-- The byte found among those below k. -/
def upTo (v k : Int) : Int := if v < k then v else -1
/-- What holds at the head of the outer loop. -/
def RtIn (w w2 : World) (ls : List Int) (s i : Value) : Prop :=
  ∃ (t0 : List Int) (j : Nat), RMid ls t0 j ∧ t0.length ≤ j ∧ s = .string (strOfNums t0) ∧ i = .int .i64 j ∧ Below w.heap.size w w2
/-- What holds at the head of the inner one. -/
def RtOne (w w2 : World) (v : Int) (x c : Value) : Prop :=
  ∃ k : Int, 10 ≤ k ∧ k ≤ 127 ∧ c = .int .i64 k ∧ x = .int .i64 (upTo v k) ∧ Below w.heap.size w w2
theorem conv_one (x : Int) (b : Nat) (w : World) (h0 : w.cell? ⟨b, 0, none⟩ = some (.int .u8 x)) : (convert 26 9 (.slice (some ⟨b, 0, none⟩) 1 1)).run Tryd.prog w = .ok (.string (strOfNums [x])) w := by
  refine conv_str (P := Tryd.prog) (B := b + 1) Tryd.underlying26 Tryd.underlying5 Tryd.underlying9 (fun _ => ⟨b, 0, rfl, by omega, fun j u hu => ?_⟩) rfl
  match j, hu with
  | 0, hu => rw [← hu]; exact h0
theorem str_app {xs ys : List Int} (h : Bts xs) (k : Bts ys) : strOfNums xs ++ strOfNums ys = strOfNums (xs ++ ys) :=
  tB_inj (by rw [tB_append, tB_str h, tB_str k, tB_str (h.append k)])
theorem one_sort (c : Int) (h : tOkB c = true) (w : World) : Calls Tryd.prog 71 #[.int .u8 c] w (RetOwn w 3 (cb .i64 (aSort c))) := by
  have hb : 0 ≤ c ∧ c < 256 := by simp [tOkB] at h; omega
  have := one_any c w hb.1 hb.2
  rwa [aOne_sort c h] at this
theorem rmid_bts {l t0 : List Int} {j : Nat} (h : RMid l t0 j) : Bts t0 := tOk_bts h.1
theorem upTo_step (v k : Int) (h : v ≠ k) : upTo v (k + 1) = upTo v k := by
  unfold upTo
  by_cases h1 : v < k
  · rw [if_pos h1, if_pos (by omega)]
  · rw [if_neg h1, if_neg (by omega)]
theorem upTo_at (v k : Int) (h : v = k) : upTo v (k + 1) = k := by unfold upTo; rw [if_pos (by omega), h]
theorem upTo_all (v k : Int) (h : v < k) : upTo v k = v := by unfold upTo; rw [if_pos h]
theorem upTo_none (v k : Int) (h : v = -1 ∨ k ≤ v) : upTo v k = -1 := by
  unfold upTo
  split
  · omega
  · rfl
set_option maxHeartbeats 6400000 in
theorem rtext_any (A : Option Addr) (n c : Nat) (ls : List Int) (w : World) (hr : Rd w w.heap.size A (cb .i64 ls)) (hn : n = ls.length) (hl : n ≤ 10000000) :
    Calls Tryd.prog 69 #[.slice A n c] w fun e w' => e = .returned (.tuple #[.string (strOfNums (aText ls).1), .int .i64 (aText ls).2]) ∧ Below w.heap.size w w' := by
  have HN := Lib.hid hn
  clear hn
  go_enter Tryd.func69, Tryd.ntmps69
  go_wp2_with fail
  go_loopw [4, 5, 6, 7] (fun s i _ _ w2 => RtIn w w2 ls s i) (fun _ i _ _ _ => n - (intOf i).toNat)
  case atStart => unfold RtIn; exact ⟨[], 0, RMid.start ls, by simp, rfl, rfl, Below.refl _ _⟩
  case round =>
    obtain ⟨t0, j, hmid, htj, rfl, rfl, hbel⟩ := hrel
    have hb := hbel.size
    obtain ⟨wo, rfl⟩ : ∃ wo : World, wo = wr := ⟨_, rfl⟩
    have hjl := hmid.2.2
    have hjn : j ≤ n := by have := HN.out; omega
    by_cases hlt : j < n
    · have hjl' : j < ls.length := by have := HN.out; omega
      have hv := nx_bd (ls.drop j)
      have hbeg := Lib.hid (fun c (hc : tOkB c = true) => nx_beg (l := ls.drop j) hc)
      have hst := Lib.hid (fun c h1 (h2 : tOkB c = true) => hmid.step (c := c) h1 h2)
      have hsp := Lib.hid (fun h => hmid.stop hjl' h)
      have hbt := rmid_bts hmid
      generalize nx (ls.drop j) = v at *
      have hv1 : -1 ≤ v ∧ v ≤ 126 := by rcases hv with h | h <;> omega
      obtain ⟨hv1, hv2⟩ := hv1
      have HV := Lib.hid hv
      clear hv
      go_wp2_with fail
      go_loopw [6, 7] (fun x c w2 => RtOne w w2 v x c) (fun _ c _ => (127 - intOf c).toNat)
      case atStart => unfold RtOne; exact ⟨10, by omega, by omega, rfl, by rw [upTo_none v 10 (by have := HV.out; omega)], hbel⟩
      case round =>
        obtain ⟨k, hk1, hk2, rfl, rfl, hbel2⟩ := hrel
        have hb2 := hbel2.size
        by_cases hk3 : k < 127
        · by_cases hok : tOkB k = true
          · have hkk : k = 10 ∨ 32 ≤ k := by simp [tOkB] at hok; omega
            have hbg := hbeg.out k hok
            have h1s := Lib.hid (fun w => one_sort k hok w)
            have hl3 := aSort_len k
            cases hbb : begB (ls.drop j) (aSort k) with
            | true =>
              have hvk := hbg.1 hbb
              have hup := Lib.hid (upTo_at v k hvk)
              have HBB := Lib.hid hbb
              clear hbb hbg hvk hok
              rcases hkk with hk4 | hk4
              · have e1 : (k == 10) = true := by simpa using hk4
                clear hk4
                go_wp2_with fail
                refine (h1s.out _).mono ?_
                rintro e w3 ⟨A3, n3, c3, rfl, hown3, hb3⟩
                have hz3 : Hid (n3 = (aSort k).length) := by unfold Hid; rw [hown3.rd.1]; simp
                have hbel3 := hbel2.trans (hb3.mono hb2)
                go_wp2_with fail
                refine (begins_any A A3 n n3 c c3 j ls (aSort k) _ (rd_at' hr hbel3) hown3.rd.2.2 HN.out hz3.out (by have := HN.out; omega) (by omega) hjl).mono ?_
                rw [HBB.out]
                rintro e w4 ⟨rfl, hb4⟩
                have hbel4 := hbel3.trans (hb4.mono hbel3.size)
                go_wp2_with fail
                go_roundw
                case rel => unfold RtOne; exact ⟨k + 1, by omega, by omega, rfl, by rw [hup.out], hbel4⟩
                case measure => simp [intOf]; omega
              · have e1 : (k == 10) = false := by simp; omega
                go_wp2_with fail
                refine (h1s.out _).mono ?_
                rintro e w3 ⟨A3, n3, c3, rfl, hown3, hb3⟩
                have hz3 : Hid (n3 = (aSort k).length) := by unfold Hid; rw [hown3.rd.1]; simp
                have hbel3 := hbel2.trans (hb3.mono hb2)
                go_wp2_with fail
                refine (begins_any A A3 n n3 c c3 j ls (aSort k) _ (rd_at' hr hbel3) hown3.rd.2.2 HN.out hz3.out (by have := HN.out; omega) (by omega) hjl).mono ?_
                rw [HBB.out]
                rintro e w4 ⟨rfl, hb4⟩
                have hbel4 := hbel3.trans (hb4.mono hbel3.size)
                go_wp2_with fail
                go_roundw
                case rel => unfold RtOne; exact ⟨k + 1, by omega, by omega, rfl, by rw [hup.out], hbel4⟩
                case measure => simp [intOf]; omega
            | false =>
              have hvk : v ≠ k := fun h => by rw [hbg.2 h] at hbb; cases hbb
              have hup := Lib.hid (upTo_step v k hvk)
              have HBB := Lib.hid hbb
              clear hbb hbg hvk hok
              rcases hkk with hk4 | hk4
              · have e1 : (k == 10) = true := by simpa using hk4
                clear hk4
                go_wp2_with fail
                refine (h1s.out _).mono ?_
                rintro e w3 ⟨A3, n3, c3, rfl, hown3, hb3⟩
                have hz3 : Hid (n3 = (aSort k).length) := by unfold Hid; rw [hown3.rd.1]; simp
                have hbel3 := hbel2.trans (hb3.mono hb2)
                go_wp2_with fail
                refine (begins_any A A3 n n3 c c3 j ls (aSort k) _ (rd_at' hr hbel3) hown3.rd.2.2 HN.out hz3.out (by have := HN.out; omega) (by omega) hjl).mono ?_
                rw [HBB.out]
                rintro e w4 ⟨rfl, hb4⟩
                have hbel4 := hbel3.trans (hb4.mono hbel3.size)
                go_wp2_with fail
                go_roundw
                case rel => unfold RtOne; exact ⟨k + 1, by omega, by omega, rfl, by rw [hup.out], hbel4⟩
                case measure => simp [intOf]; omega
              · have e1 : (k == 10) = false := by simp; omega
                go_wp2_with fail
                refine (h1s.out _).mono ?_
                rintro e w3 ⟨A3, n3, c3, rfl, hown3, hb3⟩
                have hz3 : Hid (n3 = (aSort k).length) := by unfold Hid; rw [hown3.rd.1]; simp
                have hbel3 := hbel2.trans (hb3.mono hb2)
                go_wp2_with fail
                refine (begins_any A A3 n n3 c c3 j ls (aSort k) _ (rd_at' hr hbel3) hown3.rd.2.2 HN.out hz3.out (by have := HN.out; omega) (by omega) hjl).mono ?_
                rw [HBB.out]
                rintro e w4 ⟨rfl, hb4⟩
                have hbel4 := hbel3.trans (hb4.mono hbel3.size)
                go_wp2_with fail
                go_roundw
                case rel => unfold RtOne; exact ⟨k + 1, by omega, by omega, rfl, by rw [hup.out], hbel4⟩
                case measure => simp [intOf]; omega
          · have hvk : v ≠ k := by
              rcases HV.out with h | h
              · omega
              · rintro rfl; exact hok h.1
            have hup := Lib.hid (upTo_step v k hvk)
            have hk4 : 10 < k ∧ k < 32 := by simp [tOkB] at hok; omega
            obtain ⟨hk5, hk6⟩ := hk4
            have e1 : (k == 10) = false := by simp; omega
            clear hvk hok
            go_wp2_with fail
            go_roundw
            case rel => unfold RtOne; exact ⟨k + 1, by omega, by omega, rfl, by rw [hup.out], hbel2⟩
            case measure => simp [intOf]; omega
        · obtain rfl : k = 127 := by omega
          have hup := upTo_all v 127 (by omega)
          rw [hup]
          clear hup
          by_cases hneg : v = -1
          · have hfin := Lib.hid (hsp.out hneg)
            have hv3 : v < 0 := by omega
            clear hneg
            go_wp2_with fail
            go_ret2
            exact ⟨by rw [hfin.out]; rfl, hbel2⟩
          · have hvo : tOkB v = true ∧ 10 ≤ v := by
              rcases HV.out with h | h
              · exact absurd h hneg
              · exact ⟨h.1, h.2.2.1⟩
            have hst2 := hst.out v rfl hvo.1
            have hbt2 : Bts [v] := by intro x hx; rw [List.mem_singleton] at hx; subst hx; omega
            have hsa := Lib.hid (str_app hbt hbt2)
            have h1s := Lib.hid (fun w => one_sort v hvo.1 w)
            have hv3 : 10 ≤ v := hvo.2
            have hl3 := aSort_len v
            have hp := aSort_pos v hvo.1
            have hst3 := hst2.2.2
            have hlit := fun b w h0 => conv_one v b w h0
            have hs1 : (strOfNums t0).size ≤ 10000000 := by rw [← tB_len, tB_str hbt]; omega
            have hs2 : (strOfNums [v]).size ≤ 1 := by rw [← tB_len, tB_str hbt2]; simp
            clear hvo hneg
            go_wp2_with fail
            rw [hsa.out]
            refine (h1s.out _).mono ?_
            rintro e w3 ⟨A3, n3, c3, rfl, hown3, hb3⟩
            have hz3 : Hid (n3 = (aSort v).length) := by unfold Hid; rw [hown3.rd.1]; simp
            have hbel3 := (hbel2.alloc hb2 (.cells #[.int .u8 v] 5)).trans (hb3.mono (by simp; omega))
            have hn3 : n3 ≤ 3 ∧ 0 < n3 := by have := hz3.out; omega
            obtain ⟨hn31, hn32⟩ := hn3
            go_wp2_with fail
            go_roundw
            case rel => unfold RtIn; exact ⟨t0 ++ [v], j + n3, by rw [hz3.out]; exact hst2, by simp; omega, rfl, by go_num, hbel3⟩
            case measure => simp [intOf]; omega
    · obtain rfl : j = n := by omega
      have hdn : RMid ls t0 ls.length := by rw [HN.out] at hmid; exact hmid
      have hbt := rmid_bts hmid
      have hd1 := Lib.hid hdn.done.1
      have hd2 := Lib.hid hdn.done.2
      have htB : Hid (tB (strOfNums t0) = t0) := tB_str hbt
      have hsz : (strOfNums t0).size ≤ 100000000 := by rw [← tB_len, tB_str hbt]; omega
      cases hok : isTextB t0 with
      | true =>
        have hfin := Lib.hid (hd1.out hok)
        have HOK := Lib.hid hok
        clear hok
        go_wp2_with fail
        refine (risText_any (strOfNums t0) _ (by omega)).mono ?_
        rw [htB.out, HOK.out]
        rintro e w' ⟨rfl, rfl⟩
        go_wp2_with fail
        go_ret2
        exact ⟨by rw [hfin.out]; rfl, hbel⟩
      | false =>
        have hfin := Lib.hid (hd2.out hok)
        have HOK := Lib.hid hok
        clear hok
        go_wp2_with fail
        refine (risText_any (strOfNums t0) _ (by omega)).mono ?_
        rw [htB.out, HOK.out]
        rintro e w' ⟨rfl, rfl⟩
        go_wp2_with fail
        go_ret2
        exact ⟨by rw [hfin.out]; rfl, hbel⟩
end Go.Proofs.YtpbaiighifhfnaaDoor
namespace Go.Proofs.YtpbaiighifhfnaaDoor
open Go.RowKit
set_option maxRecDepth 100000
set_option linter.unusedVariables false
set_option linter.unusedSimpArgs false
theorem textC_tOk (c : Int) : textC c = tOkB c := by
  unfold textC tOkB
  rw [Bool.eq_iff_iff]
  simp only [Bool.or_eq_true, Bool.and_eq_true, decide_eq_true_eq, beq_iff_eq]
theorem isTextS_B (s : ByteArray) : isTextS s = isTextB (tB s) := by
  unfold isTextS isTextB
  rw [tB_len, Bool.and_comm, show textC = tOkB from funext textC_tOk]
  congr 1
  rw [decide_eq_decide]
  omega
theorem ristext_pc (s : ByteArray) (hs : s.size ≤ 1000000000) : PC Tryd.prog 13 [vs s] (vb (isTextB (tB s))) := by
  rw [← isTextS_B]
  exact rIsText_pc s (by omega)
theorem istext_pc (s : ByteArray) (hs : s.size ≤ 1000000000) : PC Tryd.prog 27 [vs s] (vb (isTextB (tB s))) := by
  intro E vs' hG hA _ _ _
  unfold RepL RepL at hA
  obtain ⟨v, us, rfl, hv, rfl⟩ := hA
  unfold Rep at hv
  subst hv
  refine (isText_any s E.w hs).mono ?_
  rintro en w' ⟨rfl, rfl⟩
  exact ⟨E, _, rfl, rfl, hG, (Step.refl E).kept (by simp), by unfold Rep; rfl, fun n y hn => by simp [lkH] at hn⟩
theorem pc_rowB {f : FuncId} {e : TypeId} {ls zs : List Int} {P : Program} (h : ∀ A c w, Rd w w.heap.size A (cb .i64 ls) → ls.length ≤ c → Calls P f #[.slice A ls.length c] w (RetOwn w e (cb .u8 zs))) : PC P f [slI ls] (bs zs) := by
  intro E vs hG hA _ _ _
  unfold RepL RepL at hA
  obtain ⟨v, us, rfl, hv, rfl⟩ := hA
  obtain ⟨A, c, rfl, h1, _, h2⟩ := rd_of_slI hv
  refine (h A c E.w h2 h1).mono ?_
  rintro en w' ⟨B, n, cc, rfl, hown, hb⟩
  exact ⟨{ E with w := w' }, _, rfl, rfl, hG.grow hb, (Step.grow hG hb).kept (by simp), bs_of_own hG hown hb, fun n y hn => by simp [lkH] at hn⟩
theorem tup_int {E : Env} {zs : List Int} {k : Int} {v : Value} (h : Rep E (slI zs) v) : Rep E (.tup [slI zs, vi k]) (.tuple #[v, .int .i64 k]) := by
  unfold Rep
  refine ⟨[_, _], rfl, ?_⟩
  unfold RepL RepL RepL
  exact ⟨_, _, rfl, h, _, _, rfl, by unfold Rep; rfl, rfl⟩
theorem pc_textI {f : FuncId} {e : TypeId} {s : ByteArray} {zs : List Int} {k : Int} {P : Program} (h : ∀ w, Calls P f #[.string s] w fun en w' => ∃ A n c, en = .returned (.tuple #[.slice A n c, .int .i64 k]) ∧ Own w' w.heap.size e (.slice A n c) (cb .i64 zs) ∧ Below w.heap.size w w') : PC P f [vs s] (.tup [slI zs, vi k]) := by
  intro E us hG hA _ _ _
  unfold RepL RepL at hA
  obtain ⟨v, us, rfl, hv, rfl⟩ := hA
  unfold Rep at hv
  subst hv
  refine (h E.w).mono ?_
  rintro en w' ⟨A, n, c, rfl, hown, hb⟩
  exact ⟨{ E with w := w' }, _, rfl, rfl, hG.grow hb, (Step.grow hG hb).kept (by simp), tup_int (slI_of_own hG hown hb), fun n y hn => by simp [lkH] at hn⟩
theorem pc_rowI {f : FuncId} {e : TypeId} {xs zs : List Int} {k : Int} {P : Program} (h : ∀ A c w, Rd w w.heap.size A (cb .u8 xs) → xs.length ≤ c → Calls P f #[.slice A xs.length c] w fun en w' => ∃ A n c, en = .returned (.tuple #[.slice A n c, .int .i64 k]) ∧ Own w' w.heap.size e (.slice A n c) (cb .i64 zs) ∧ Below w.heap.size w w') : PC P f [bs xs] (.tup [slI zs, vi k]) := by
  intro E us hG hA _ _ _
  unfold RepL RepL at hA
  obtain ⟨v, us, rfl, hv, rfl⟩ := hA
  obtain ⟨A, c, rfl, h1, _, h2⟩ := rd_of_bs hv
  refine (h A c E.w h2 h1).mono ?_
  rintro en w' ⟨A', n, c', rfl, hown, hb⟩
  exact ⟨{ E with w := w' }, _, rfl, rfl, hG.grow hb, (Step.grow hG hb).kept (by simp), tup_int (slI_of_own hG hown hb), fun n y hn => by simp [lkH] at hn⟩
theorem pc_rowT {f : FuncId} {ls : List Int} {s : ByteArray} {k : Int} {P : Program} (h : ∀ A c w, Rd w w.heap.size A (cb .i64 ls) → ls.length ≤ c → c ≤ 9223372036854775807 → Calls P f #[.slice A ls.length c] w fun en w' => en = .returned (.tuple #[.string s, .int .i64 k]) ∧ Below w.heap.size w w') : PC P f [slI ls] (.tup [vs s, vi k]) := by
  intro E us hG hA _ _ _
  unfold RepL RepL at hA
  obtain ⟨v, us, rfl, hv, rfl⟩ := hA
  obtain ⟨A, c, rfl, h1, h3, h2⟩ := rd_of_slI hv
  refine (h A c E.w h2 h1 h3).mono ?_
  rintro en w' ⟨rfl, hb⟩
  refine ⟨{ E with w := w' }, _, rfl, rfl, hG.grow hb, (Step.grow hG hb).kept (by simp), ?_, fun n y hn => by simp [lkH] at hn⟩
  unfold Rep
  refine ⟨[_, _], rfl, ?_⟩
  unfold RepL RepL RepL
  exact ⟨_, _, rfl, by unfold Rep; rfl, _, _, rfl, by unfold Rep; rfl, rfl⟩
theorem pack_pc (ls : List Int) (hl : ls.length ≤ 1000000) : PC Tryd.prog 28 [slI ls] (bs (aPack ls)) := pc_rowB (e := 5) fun A c w h1 h2 => pack_any A _ c ls w h1 rfl (by omega)
theorem rpack_pc (ls : List Int) (hl : ls.length ≤ 1000000) : PC Tryd.prog 31 [slI ls] (bs (aPack ls)) := pc_rowB (e := 5) fun A c w h1 h2 => rpack_any A _ c ls w h1 rfl hl
theorem codes_pc (s : ByteArray) (hs : s.size ≤ 100000000) : PC Tryd.prog 50 [vs s] (.tup [slI (aTextCodes (tB s)).1, vi (aTextCodes (tB s)).2]) := pc_textI (e := 3) fun w => codes_any s w hs
theorem rcodes_pc (s : ByteArray) (hs : s.size ≤ 100000000) : PC Tryd.prog 53 [vs s] (.tup [slI (aTextCodes (tB s)).1, vi (aTextCodes (tB s)).2]) := pc_textI (e := 3) fun w => rcodes_any s w hs
theorem unpack_pc (xs : List Int) (hl : xs.length ≤ 1000000) (hb : Bts xs) : PC Tryd.prog 35 [bs xs] (.tup [slI (aUnpack xs).1, vi (aUnpack xs).2]) := pc_rowI (e := 3) fun A c w h1 h2 => unpack_any A _ c xs w h1 rfl hb (by omega)
theorem runpack_pc (xs : List Int) (hl : xs.length ≤ 1000000) (hb : Bts xs) : PC Tryd.prog 42 [bs xs] (.tup [slI (aUnpack xs).1, vi (aUnpack xs).2]) := pc_rowI (e := 3) fun A c w h1 h2 => runpack_any A _ c xs w h1 rfl hb (by omega)
theorem text_pc (ls : List Int) (hl : ls.length ≤ 1000000) : PC Tryd.prog 60 [slI ls] (.tup [vs (strOfNums (aText ls).1), vi (aText ls).2]) := pc_rowT fun A c w h1 h2 h3 => text_any A _ c ls w h1 rfl h2 h3 (by omega)
theorem rtext_pc (ls : List Int) (hl : ls.length ≤ 1000000) : PC Tryd.prog 69 [slI ls] (.tup [vs (strOfNums (aText ls).1), vi (aText ls).2]) := pc_rowT fun A c w h1 h2 h3 => rtext_any A _ c ls w h1 rfl (by omega)
/-! ### Pools -/
structure PoolP where
  abbrevs : List ByteArray
  at_ : List Int
  bytes : List Int
def noPool : PoolP := ⟨[], [], []⟩
def poolAv (p : PoolP) : Av := .agg [slS p.abbrevs, slI p.at_, bs p.bytes]
theorem pool_pure (p : PoolP) : Pure (poolAv p) := by unfold poolAv Pure; simp [PureL, pure_slS, pure_slI, bs_pure]
/-- The codes of pieces. -/
def pieceC (p : PieceP) : List Int := if p.2 > 0 then [30, p.2 - 1] else (aTextCodes (tB p.1)).1
def piecesC (l : List PieceP) : Nat → List Int
  | 0 => []
  | k + 1 => piecesC l k ++ pieceC (l.getD k dPiece)
def packedP (s : ByteArray) (ab : List ByteArray) : List Int := piecesC (cutP s ab) (cutP s ab).length
theorem aSort_len3 (c : Int) : (aSort c).length ≤ 3 := by
  unfold aSort
  repeat' split
  all_goals first | (simp; done) | (simp; omega)
theorem aCodes_len3 : ∀ l : List Int, (aCodes l).length ≤ 3 * l.length
  | [] => by simp [aCodes]
  | c :: l => by
    have := aCodes_len3 l
    have h := aSort_len3 c
    show (aSort c ++ aCodes l).length ≤ _
    rw [List.length_append, List.length_cons]
    omega
theorem pieceC_len (p : PieceP) (n : Nat) (h : p.1.size ≤ n) : (pieceC p).length ≤ 3 * n + 2 := by
  unfold pieceC aTextCodes
  split
  · simp
  · split
    · have := aCodes_len3 (tB p.1)
      rw [tB_len] at this
      show (aCodes (tB p.1)).length ≤ _
      omega
    · simp
theorem piecesC_len {l : List PieceP} {n : Nat} (h : SzP n l) : ∀ k, (piecesC l k).length ≤ (3 * n + 2) * k
  | 0 => Nat.zero_le _
  | k + 1 => by
    have h1 := piecesC_len h k
    have h2 := pieceC_len (l.getD k dPiece) n (h k)
    show (piecesC l k ++ pieceC (l.getD k dPiece)).length ≤ _
    rw [List.length_append, Nat.mul_succ]
    omega
theorem cut_szp {s : ByteArray} (ab : List ByteArray) : SzP s.size (cutP s ab) ∧ (cutP s ab).length ≤ 2 * s.size + 3 := by
  have := cutF_few (s := s) (ab := ab) (s.size + 1) 0 0 [] (SzP.nil _)
  refine ⟨this.1, ?_⟩
  have h2 := this.2
  show (cutF s ab (s.size + 1) 0 0 []).length ≤ _
  simp only [List.length_nil] at h2
  omega
theorem cut_abbr {s : ByteArray} (ab : List ByteArray) : ∀ k, 0 ≤ ((cutP s ab).getD k dPiece).2 ∧ ((cutP s ab).getD k dPiece).2 ≤ 32 := fun k => by
  rcases Nat.lt_or_ge k (cutP s ab).length with h | h
  · have hm : (cutP s ab).getD k dPiece ∈ cutP s ab := by rw [List.getD, List.getElem?_eq_getElem h]; exact List.getElem_mem h
    have := cutF_ok (s := s) (ab := ab) (s.size + 1) 0 0 [] (fun p hp => by simp at hp) _ hm
    unfold badP at this
    simp only [Bool.or_eq_false_iff, decide_eq_false_iff_not] at this
    omega
  · rw [List.getD, List.getElem?_eq_none h]
    decide
theorem mul_le_of {a b c d : Nat} (h : a ≤ c) (h' : b ≤ d) : a * b ≤ c * d := Nat.mul_le_mul h h'
theorem app_two (a b : Int) : ∀ j, j < 2 → szB (rowL [vi a, vi b] j) 1 = true ∧ ∀ i y, i < 1 → [vi a, vi b][j * 1 + i]? = some y → (flatA (rowL [vi a, vi b] j))[i]? = some y := fun j hj => by
  rcases j with _ | _ | j
  · refine ⟨rfl, fun i y hi hy => ?_⟩
    have : i = 0 := by omega
    subst this
    exact hy
  · refine ⟨rfl, fun i y hi hy => ?_⟩
    have : i = 0 := by omega
    subst this
    exact hy
  · omega
theorem app_one1 (c : Int) : ∀ j, j < 1 → szB (rowL [vi c] j) 1 = true ∧ ∀ i y, i < 1 → [vi c][j * 1 + i]? = some y → (flatA (rowL [vi c] j))[i]? = some y := fun j hj => by
  have : j = 0 := by omega
  subst this
  refine ⟨rfl, fun i y hi hy => ?_⟩
  have : i = 0 := by omega
  subst this
  exact hy
end Go.Proofs.YtpbaiighifhfnaaDoor
namespace Go.Proofs.YtpbaiighifhfnaaDoor
open Go.RowKit
set_option maxRecDepth 100000
set_option linter.unusedVariables false
set_option linter.unusedSimpArgs false
theorem ren_mapvi (π : Nat → Nat) (l : List Int) : (l.map vi).map (Av.ren π) = l.map vi := by rw [List.map_map]; rfl
theorem codes_step {l : List PieceP} {k : Nat} : piecesC l (k + 1) = piecesC l k ++ pieceC (l.getD k dPiece) := rfl
set_option maxHeartbeats 800000 in
theorem packed_pc (s : ByteArray) (ab : List ByteArray) (hs : s.size ≤ 2000) (hb2 : ∀ k, (ab.getD k ByteArray.empty).size ≤ 1000000) (hbl : ab.length ≤ 1000000) : PC Tryd.prog 29 [vs s, slS ab] (slI (packedP s ab)) := by
  obtain ⟨hz, hzl⟩ := cut_szp (s := s) ab
  have hca := cut_abbr (s := s) ab
  refine FC.body 3 38 Tryd.func29 rfl (by kernel_rfl) ?_
  refine aw_seq ?_
  refine aw_text rfl ?_
  refine ch_v (R := []) rfl rfl (oc_assign (x := .val _) rfl rfl) trivial ?_
  refine ck_nil ?_
  refine aw_seq ?_
  refine aw_text rfl ?_
  refine ch_v (R := []) rfl rfl (oc_assign (x := .val _) rfl rfl) trivial ?_
  refine ck_nil ?_
  refine aw_seq ?_
  refine aw_seq ?_
  refine aw_text rfl ?_
  refine ch_v (R := []) rfl rfl (oc_move (x := .val _) rfl rfl) trivial ?_
  refine ch_v (R := []) rfl rfl (oc_move (x := .sl _ _ _) rfl rfl) trivial ?_
  refine ch_v (R := []) rfl rfl (oc_call rfl (by kernel_rfl) (cut_pc s ab (by omega) hb2 hbl) rfl (by simp only [PureL, Pure, and_self, pure_slI, pure_slS, rowAv, pieces_pure, pool_pure, bs_pure, implies_true]) (by simp only [PureL, Pure, and_self, pure_slI, pure_slS, rowAv, pieces_pure, pool_pure, bs_pure, implies_true])) trivial ?_
  refine ch_v (R := []) rfl rfl (oc_len rfl rfl (by kernel_rfl)) trivial ?_
  refine ch_v (R := []) rfl rfl (oc_move (x := .val _) rfl rfl) trivial ?_
  refine ck_nil ?_
  refine aw_block ?_
  refine aw_le (Le.nameNil 5 0 1 3 rfl rfl) ?_
  refine aw_loop (ι := Nat) (fun k => ⟨[(5, .osl 1 0 (piecesC (cutP s ab) k).length), (12, piecesAv (cutP s ab)), (13, vi ((cutP s ab).length : Int)), (14, vi k)], [(0, .live 3 ((piecesC (cutP s ab) k).map vi)), (1, .unborn), (2, .unborn)]⟩) (fun k => k ≤ (cutP s ab).length) (fun k => (cutP s ab).length - k) 0 (Nat.zero_le _) (Le.sub ⟨.inr rfl, .inr rfl, .inr rfl, .inr rfl, trivial⟩ ⟨rfl, rfl, rfl, trivial⟩) ?_
  intro k hI
  refine aw_seq ?_
  refine aw_text rfl ?_
  refine ch_v (R := []) rfl rfl (oc_binZ rfl rfl rfl rfl) trivial ?_
  refine ck_nil ?_
  refine aw_seq ?_
  refine aw_cond rfl (fun hb => ?_) (fun hb => ?_)
  · have hlt : k < (cutP s ab).length := by have h0 := of_decide_eq_true hb; omega
    have hps := hz k
    have hka := hca k
    have hcl := piecesC_len hz k
    have hcb : (piecesC (cutP s ab) k).length ≤ 100000000 := by have := mul_le_of (a := 3 * s.size + 2) (b := k) (c := 6002) (d := 4003) (by omega) (by omega); omega
    have hpl := pieceC_len ((cutP s ab).getD k dPiece) s.size (hz k)
    refine aw_skip ?_
    refine aw_seq ?_
    refine aw_block ?_
    refine aw_seq ?_
    refine aw_text rfl ?_
    refine ch_v (R := []) rfl rfl ((by first | exact oc_indexN rfl rfl rfl (by kernel_rfl) (by omega) | exact oc_index rfl rfl rfl (by kernel_rfl) (by omega) (by omega) rfl)) trivial ?_
    refine ch_v (R := []) rfl rfl (oc_load_row rfl rfl (by kernel_rfl) (by kernel_rfl) rfl) trivial ?_
    refine ch_u rfl rfl (oc_alloc (zs := [.string ⟨#[]⟩, .int .i64 0]) (cs := [.val _, .val _]) 2 rfl (by kernel_rfl) rfl rfl) ⟨rfl, trivial⟩ ?_
    refine ch_n rfl rfl (oc_store_row (x := .agg _) (cs' := [_, _]) rfl rfl rfl rfl (by kernel_rfl) (by first | decide | exact Nat.le_of_ble_eq_true rfl | simp) (by first | decide | exact Nat.le_of_ble_eq_true rfl | simp) rfl) ⟨rfl, trivial⟩ ?_
    refine ck_nil ?_
    refine aw_seq ?_
    refine aw_seq ?_
    refine aw_text rfl ?_
    refine ch_v (R := [(_, .live _ _)]) rfl rfl (oc_fieldAddr_own (off := 1) (sz := 1) (r := false) rfl rfl (by first | decide | simp) (by kernel_rfl) (by decide)) ⟨rfl, trivial⟩ ?_
    refine ch_v (R := [(_, .live _ _)]) rfl rfl (oc_load_own rfl rfl (by kernel_rfl) rfl) ⟨rfl, trivial⟩ ?_
    refine ch_v (R := []) rfl rfl (oc_binZ rfl rfl rfl rfl) trivial ?_
    refine ck_nil ?_
    refine aw_cond rfl (fun hb => ?_) (fun hb => ?_)
    · have hpos : ((cutP s ab).getD k dPiece).2 > 0 := of_decide_eq_true hb
      have hst : piecesC (cutP s ab) (k + 1) = (piecesC (cutP s ab) k) ++ [30, ((cutP s ab).getD k dPiece).2 - 1] := by rw [codes_step]; unfold pieceC; rw [if_pos hpos]
      refine aw_seq ?_
      refine aw_text rfl ?_
      refine ch_v (R := []) rfl rfl (oc_move (x := .osl _ _ _) rfl rfl) trivial ?_
      refine ch_v (R := [(_, .live _ _)]) rfl rfl (oc_fieldAddr_own (off := 1) (sz := 1) (r := false) rfl rfl (by first | decide | simp) (by kernel_rfl) (by decide)) ⟨rfl, trivial⟩ ?_
      refine ch_v (R := [(_, .live _ _)]) rfl rfl (oc_load_own rfl rfl (by kernel_rfl) rfl) ⟨rfl, trivial⟩ ?_
      refine ch_v (R := []) rfl rfl (oc_binZ rfl rfl rfl (by first | exact binW_sub (by omega) (by omega) | rfl)) trivial ?_
      refine ch_v (R := []) rfl rfl (oc_buildSlice (ps := [_, .tmp 24]) (xs := [.val _, .val _]) (e := 3) (k := 1) (by_ := 8) (zs := [.int .i64 0]) rfl (by kernel_rfl) (by kernel_rfl) rfl rfl rfl (by decide) (by decide)) trivial ?_
      refine ch_u rfl rfl (oc_append (e := 3) (k := 1) (by_ := 8) (zs := [.int .i64 0]) (cs := (piecesC (cutP s ab) k).map vi) (ds := [vi 30, vi (((cutP s ab).getD k dPiece).2 - 1)]) 1 rfl rfl rfl (by kernel_rfl) (by kernel_rfl) rfl (by decide) (by decide) (by simp) rfl (app_two _ _) (by omega) (by omega)) ⟨rfl, rfl, trivial⟩ ?_
      refine ch_v (R := []) rfl rfl (oc_assign (x := .osl _ _ _) rfl rfl) trivial ?_
      refine ck_nil ?_
      refine aw_le (Le.trans (Le.swap (τ := ⟨[(5, .osl 1 0 ((piecesC (cutP s ab) k) ++ [30, ((cutP s ab).getD k dPiece).2 - 1]).length), (12, piecesAv (cutP s ab)), (13, vi ((cutP s ab).length : Int)), (14, vi k)], [(0, .live 3 (((piecesC (cutP s ab) k) ++ [30, ((cutP s ab).getD k dPiece).2 - 1]).map vi))]⟩) 0 1 (by simp) (by simp) ⟨by rw [List.length_append]; rfl, (ren_pure _ _ (pieces_pure _)).symm, rfl, rfl, trivial⟩ ⟨by show lkH _ 1 = some (Hs.live _ ((((piecesC (cutP s ab) k) ++ [30, ((cutP s ab).getD k dPiece).2 - 1]).map vi).map _)); rw [ren_mapvi]; simp only [List.map_append]; rfl, trivial⟩) (Le.reset (τ := ⟨[(5, .osl 1 0 ((piecesC (cutP s ab) k) ++ [30, ((cutP s ab).getD k dPiece).2 - 1]).length), (12, piecesAv (cutP s ab)), (13, vi ((cutP s ab).length : Int)), (14, vi k)], [(0, .live 3 (((piecesC (cutP s ab) k) ++ [30, ((cutP s ab).getD k dPiece).2 - 1]).map vi)), (1, .unborn), (2, .unborn)]⟩) [1, 2] (by simp) ⟨.inr rfl, .inr rfl, .inr rfl, .inr rfl, trivial⟩ ⟨by simp [NoN], NoN.of_pure _ (pieces_pure _), by simp [NoN], by simp [NoN], trivial⟩ ⟨by rw [if_neg (by decide)]; exact ⟨rfl, non_vi _⟩, by rw [if_pos (by decide)], by rw [if_pos (by decide)], trivial⟩)) ?_
      refine aw_exit ?_
      refine aw_text rfl ?_
      refine ch_v (R := []) rfl rfl (oc_binZ rfl rfl rfl (by first | exact binW_add (by omega) (by omega) | rfl)) trivial ?_
      refine ch_v (R := []) rfl rfl (oc_move (x := .val _) rfl rfl) trivial ?_
      refine ck_nil ?_
      exact ⟨k + 1, by omega, by omega, Le.sub ⟨.inr (by show lkS _ 5 = Av.osl 1 0 (piecesC (cutP s ab) (k + 1)).length; rw [hst]; rfl), .inr rfl, .inr rfl, .inr (vi_eq (by omega)), trivial⟩ ⟨by rw [hst]; rfl, rfl, rfl, trivial⟩⟩
    · have hpos : ¬ ((cutP s ab).getD k dPiece).2 > 0 := of_decide_eq_false hb
      have hpc : pieceC ((cutP s ab).getD k dPiece) = (aTextCodes (tB ((cutP s ab).getD k dPiece).1)).1 := by unfold pieceC; rw [if_neg hpos]
      rw [hpc] at hpl
      have hst : piecesC (cutP s ab) (k + 1) = (piecesC (cutP s ab) k) ++ (aTextCodes (tB ((cutP s ab).getD k dPiece).1)).1 := by rw [codes_step, hpc]
      refine aw_skip ?_
      refine aw_seq ?_
      refine aw_text rfl ?_
      refine ch_v (R := [(_, .live _ _)]) rfl rfl (oc_fieldAddr_own (off := 0) (sz := 1) (r := false) rfl rfl (by first | decide | simp) (by kernel_rfl) (by decide)) ⟨rfl, trivial⟩ ?_
      refine ch_v (R := [(_, .live _ _)]) rfl rfl (oc_load_own rfl rfl (by kernel_rfl) rfl) ⟨rfl, trivial⟩ ?_
      refine ch_v (R := []) rfl rfl (oc_call rfl (by kernel_rfl) (codes_pc ((cutP s ab).getD k dPiece).1 (by omega)) rfl (by simp only [PureL, Pure, and_self, pure_slI, pure_slS, rowAv, pieces_pure, pool_pure, bs_pure, implies_true]) (by simp only [PureL, Pure, and_self, pure_slI, pure_slS, rowAv, pieces_pure, pool_pure, bs_pure, implies_true])) trivial ?_
      refine ch_v (R := []) rfl rfl (oc_move (x := .tup _) rfl rfl) trivial ?_
      refine ch_v (R := []) rfl rfl (oc_extract rfl rfl rfl) trivial ?_
      refine ch_v (R := []) rfl rfl (oc_extract rfl rfl rfl) trivial ?_
      refine ch_v (R := []) rfl rfl (oc_assign (x := .sl _ _ _) rfl rfl) trivial ?_
      refine ch_v (R := []) rfl rfl (oc_assign (x := .val _) rfl rfl) trivial ?_
      refine ck_nil ?_
      refine aw_text rfl ?_
      refine ch_v (R := []) rfl rfl (oc_move (x := .osl _ _ _) rfl rfl) trivial ?_
      refine ch_v (R := []) rfl rfl (oc_move (x := .sl _ _ _) rfl rfl) trivial ?_
      refine ch_u rfl rfl (oc_append (e := 3) (k := 1) (by_ := 8) (zs := [.int .i64 0]) (cs := (piecesC (cutP s ab) k).map vi) (ds := ((aTextCodes (tB ((cutP s ab).getD k dPiece).1)).1).map vi) 1 rfl rfl rfl (by kernel_rfl) (by kernel_rfl) rfl (by decide) (by decide) (by simp) (by simp) (app_vi _) (by omega) (by omega)) ⟨rfl, rfl, trivial⟩ ?_
      refine ch_v (R := []) rfl rfl (oc_assign (x := .osl _ _ _) rfl rfl) trivial ?_
      refine ck_nil ?_
      refine aw_le (Le.trans (Le.swap (τ := ⟨[(5, .osl 1 0 ((piecesC (cutP s ab) k) ++ (aTextCodes (tB ((cutP s ab).getD k dPiece).1)).1).length), (12, piecesAv (cutP s ab)), (13, vi ((cutP s ab).length : Int)), (14, vi k)], [(0, .live 3 (((piecesC (cutP s ab) k) ++ (aTextCodes (tB ((cutP s ab).getD k dPiece).1)).1).map vi))]⟩) 0 1 (by simp) (by simp) ⟨by rw [List.length_append]; rfl, (ren_pure _ _ (pieces_pure _)).symm, rfl, rfl, trivial⟩ ⟨by show lkH _ 1 = some (Hs.live _ ((((piecesC (cutP s ab) k) ++ (aTextCodes (tB ((cutP s ab).getD k dPiece).1)).1).map vi).map _)); rw [ren_mapvi]; simp only [List.map_append]; rfl, trivial⟩) (Le.reset (τ := ⟨[(5, .osl 1 0 ((piecesC (cutP s ab) k) ++ (aTextCodes (tB ((cutP s ab).getD k dPiece).1)).1).length), (12, piecesAv (cutP s ab)), (13, vi ((cutP s ab).length : Int)), (14, vi k)], [(0, .live 3 (((piecesC (cutP s ab) k) ++ (aTextCodes (tB ((cutP s ab).getD k dPiece).1)).1).map vi)), (1, .unborn), (2, .unborn)]⟩) [1, 2] (by simp) ⟨.inr rfl, .inr rfl, .inr rfl, .inr rfl, trivial⟩ ⟨by simp [NoN], NoN.of_pure _ (pieces_pure _), by simp [NoN], by simp [NoN], trivial⟩ ⟨by rw [if_neg (by decide)]; exact ⟨rfl, non_vi _⟩, by rw [if_pos (by decide)], by rw [if_pos (by decide)], trivial⟩)) ?_
      refine aw_text rfl ?_
      refine ch_v (R := []) rfl rfl (oc_binZ rfl rfl rfl (by first | exact binW_add (by omega) (by omega) | rfl)) trivial ?_
      refine ch_v (R := []) rfl rfl (oc_move (x := .val _) rfl rfl) trivial ?_
      refine ck_nil ?_
      exact ⟨k + 1, by omega, by omega, Le.sub ⟨.inr (by show lkS _ 5 = Av.osl 1 0 (piecesC (cutP s ab) (k + 1)).length; rw [hst]; rfl), .inr rfl, .inr rfl, .inr (vi_eq (by omega)), trivial⟩ ⟨by rw [hst]; rfl, rfl, rfl, trivial⟩⟩
  · have hge : k = (cutP s ab).length := by have h0 := of_decide_eq_false hb; omega
    refine aw_exit ?_
    refine aw_seq ?_
    refine aw_le (Le.freeze 5 0 (fun j => vi ((piecesC (cutP s ab) k).getD j 0)) rfl rfl (by simp) (row_vi _)) ?_
    refine aw_text rfl ?_
    refine ch_v (R := []) rfl rfl (oc_move (x := .sl _ _ _) rfl rfl) trivial ?_
    refine ch_v (R := []) rfl rfl (oc_assign (x := .sl _ _ _) rfl rfl) trivial ?_
    refine ck_nil ?_
    refine aw_ret ?_
    exact ⟨.inl rfl, ResOk.tmp rfl (by rw [hge]; rfl), trivial⟩
set_option maxHeartbeats 800000 in
theorem rcodesP_pc (l : List PieceP) (n : Nat) (hn : n ≤ 2000) (hz : SzP n l) (hca : ∀ k, 0 ≤ (l.getD k dPiece).2 ∧ (l.getD k dPiece).2 ≤ 32) (hl : l.length ≤ 10000) : PC Tryd.prog 32 [piecesAv l] (slI (piecesC l l.length)) := by
  refine FC.body 2 44 Tryd.func32 rfl (by kernel_rfl) ?_
  refine aw_seq ?_
  refine aw_text rfl ?_
  refine ch_v (R := []) rfl rfl (oc_assign (x := .val _) rfl rfl) trivial ?_
  refine ck_nil ?_
  refine aw_seq ?_
  refine aw_text rfl ?_
  refine ch_v (R := []) rfl rfl (oc_assign (x := .val _) rfl rfl) trivial ?_
  refine ck_nil ?_
  refine aw_seq ?_
  refine aw_seq ?_
  refine aw_text rfl ?_
  refine ch_v (R := []) rfl rfl (oc_assign (x := .val _) rfl rfl) trivial ?_
  refine ck_nil ?_
  refine aw_block ?_
  refine aw_le (Le.nameNil 3 0 1 3 rfl rfl) ?_
  refine aw_loop (ι := Nat) (fun k => ⟨[(0, piecesAv l), (3, .osl 1 0 (piecesC l k).length), (4, vi k)], [(0, .live 3 ((piecesC l k).map vi)), (1, .unborn)]⟩) (fun k => k ≤ l.length) (fun k => l.length - k) 0 (Nat.zero_le _) (Le.sub ⟨.inr rfl, .inr rfl, .inr rfl, trivial⟩ ⟨rfl, rfl, trivial⟩) ?_
  intro k hI
  refine aw_seq ?_
  refine aw_seq ?_
  refine aw_text rfl ?_
  refine ch_v (R := []) rfl rfl (oc_move (x := .val _) rfl rfl) trivial ?_
  refine ch_v (R := []) rfl rfl (oc_move (x := .sl _ _ _) rfl rfl) trivial ?_
  refine ch_v (R := []) rfl rfl (oc_len rfl rfl (by kernel_rfl)) trivial ?_
  refine ch_v (R := []) rfl rfl (oc_binZ rfl rfl rfl rfl) trivial ?_
  refine ck_nil ?_
  refine aw_cond rfl (fun hb => ?_) (fun hb => ?_)
  · have hlt : k < l.length := by have h0 := of_decide_eq_true hb; omega
    have hps := hz k
    have hka := hca k
    have hcl := piecesC_len hz k
    have hcb : (piecesC l k).length ≤ 100000000 := by have := mul_le_of (a := 3 * n + 2) (b := k) (c := 6002) (d := 10000) (by omega) (by omega); omega
    have hpl := pieceC_len (l.getD k dPiece) n (hz k)
    refine aw_skip ?_
    refine aw_seq ?_
    refine aw_block ?_
    refine aw_seq ?_
    refine aw_seq ?_
    refine aw_text rfl ?_
    refine ch_v (R := []) rfl rfl (oc_move (x := .sl _ _ _) rfl rfl) trivial ?_
    refine ch_v (R := []) rfl rfl (oc_move (x := .val _) rfl rfl) trivial ?_
    refine ch_v (R := []) rfl rfl ((by first | exact oc_indexN rfl rfl rfl (by kernel_rfl) (by omega) | exact oc_index rfl rfl rfl (by kernel_rfl) (by omega) (by omega) rfl)) trivial ?_
    refine ch_v (R := []) rfl rfl (oc_fieldAddr (off := 1) rfl rfl rfl (by kernel_rfl) rfl) trivial ?_
    refine ch_v (R := []) rfl rfl (oc_load rfl rfl (by kernel_rfl) cells_int) trivial ?_
    refine ch_v (R := []) rfl rfl (oc_binZ rfl rfl rfl rfl) trivial ?_
    refine ck_nil ?_
    refine aw_cond rfl (fun hb => ?_) (fun hb => ?_)
    · have hpos : (l.getD k dPiece).2 > 0 := of_decide_eq_true hb
      have hst : piecesC l (k + 1) = ((piecesC l k) ++ [30]) ++ [(l.getD k dPiece).2 - 1] := by rw [codes_step]; unfold pieceC; rw [if_pos hpos, List.append_assoc]; rfl
      refine aw_seq ?_
      refine aw_text rfl ?_
      refine ch_v (R := []) rfl rfl (oc_move (x := .osl _ _ _) rfl rfl) trivial ?_
      refine ch_v (R := []) rfl rfl (oc_buildSlice (ps := [_]) (xs := [.val _]) (e := 3) (k := 1) (by_ := 8) (zs := [.int .i64 0]) rfl (by kernel_rfl) (by kernel_rfl) rfl rfl rfl (by decide) (by decide)) trivial ?_
      refine ch_u rfl rfl (oc_append (e := 3) (k := 1) (by_ := 8) (zs := [.int .i64 0]) (cs := (piecesC l k).map vi) (ds := [vi 30]) 1 rfl rfl rfl (by kernel_rfl) (by kernel_rfl) rfl (by decide) (by decide) (by simp) rfl (app_one1 _) (by omega) (by omega)) ⟨rfl, rfl, trivial⟩ ?_
      refine ch_v (R := []) rfl rfl (oc_assign (x := .osl _ _ _) rfl rfl) trivial ?_
      refine ck_nil ?_
      refine aw_le (Le.trans (Le.swap (τ := ⟨[(0, piecesAv l), (3, .osl 1 0 ((piecesC l k) ++ [30]).length), (4, vi k)], [(0, .live 3 (((piecesC l k) ++ [30]).map vi))]⟩) 0 1 (by simp) (by simp) ⟨(ren_pure _ _ (pieces_pure _)).symm, by first | (rw [List.length_append]; rfl) | (simp only [List.length_append]; rfl), rfl, trivial⟩ ⟨by show lkH _ 1 = some (Hs.live _ ((((piecesC l k) ++ [30]).map vi).map _)); rw [ren_mapvi]; simp only [List.map_append]; rfl, trivial⟩) (Le.reset (τ := ⟨[(0, piecesAv l), (3, .osl 1 0 ((piecesC l k) ++ [30]).length), (4, vi k)], [(0, .live 3 (((piecesC l k) ++ [30]).map vi)), (1, .unborn)]⟩) [1] (by simp) ⟨.inr rfl, .inr rfl, .inr rfl, trivial⟩ ⟨NoN.of_pure _ (pieces_pure _), by simp [NoN], by simp [NoN], trivial⟩ ⟨by rw [if_neg (by decide)]; exact ⟨rfl, non_vi _⟩, by rw [if_pos (by decide)], trivial⟩)) ?_
      refine aw_seq ?_
      refine aw_text rfl ?_
      refine ch_v (R := []) rfl rfl (oc_move (x := .osl _ _ _) rfl rfl) trivial ?_
      refine ch_v (R := []) rfl rfl (oc_move (x := .sl _ _ _) rfl rfl) trivial ?_
      refine ch_v (R := []) rfl rfl (oc_move (x := .val _) rfl rfl) trivial ?_
      refine ch_v (R := []) rfl rfl ((by first | exact oc_indexN rfl rfl rfl (by kernel_rfl) (by omega) | exact oc_index rfl rfl rfl (by kernel_rfl) (by omega) (by omega) rfl)) trivial ?_
      refine ch_v (R := []) rfl rfl (oc_fieldAddr (off := 1) rfl rfl rfl (by kernel_rfl) rfl) trivial ?_
      refine ch_v (R := []) rfl rfl (oc_load rfl rfl (by kernel_rfl) cells_int) trivial ?_
      refine ch_v (R := []) rfl rfl (oc_binZ rfl rfl rfl (by first | exact binW_sub (by omega) (by omega) | rfl)) trivial ?_
      refine ch_v (R := []) rfl rfl (oc_buildSlice (ps := [.tmp 28]) (xs := [.val _]) (e := 3) (k := 1) (by_ := 8) (zs := [.int .i64 0]) rfl (by kernel_rfl) (by kernel_rfl) rfl rfl rfl (by decide) (by decide)) trivial ?_
      refine ch_u rfl rfl (oc_append (e := 3) (k := 1) (by_ := 8) (zs := [.int .i64 0]) (cs := ((piecesC l k) ++ [30]).map vi) (ds := [vi ((l.getD k dPiece).2 - 1)]) 1 rfl rfl rfl (by kernel_rfl) (by kernel_rfl) rfl (by decide) (by decide) (by simp) rfl (app_one1 _) (by simp; omega) (by simp; omega)) ⟨rfl, rfl, trivial⟩ ?_
      refine ch_v (R := []) rfl rfl (oc_assign (x := .osl _ _ _) rfl rfl) trivial ?_
      refine ck_nil ?_
      refine aw_le (Le.trans (Le.swap (τ := ⟨[(0, piecesAv l), (3, .osl 1 0 (((piecesC l k) ++ [30]) ++ [(l.getD k dPiece).2 - 1]).length), (4, vi k)], [(0, .live 3 ((((piecesC l k) ++ [30]) ++ [(l.getD k dPiece).2 - 1]).map vi))]⟩) 0 1 (by simp) (by simp) ⟨(ren_pure _ _ (pieces_pure _)).symm, by first | (rw [List.length_append]; rfl) | (simp only [List.length_append]; rfl), rfl, trivial⟩ ⟨by show lkH _ 1 = some (Hs.live _ (((((piecesC l k) ++ [30]) ++ [(l.getD k dPiece).2 - 1]).map vi).map _)); rw [ren_mapvi]; simp only [List.map_append]; rfl, trivial⟩) (Le.reset (τ := ⟨[(0, piecesAv l), (3, .osl 1 0 (((piecesC l k) ++ [30]) ++ [(l.getD k dPiece).2 - 1]).length), (4, vi k)], [(0, .live 3 ((((piecesC l k) ++ [30]) ++ [(l.getD k dPiece).2 - 1]).map vi)), (1, .unborn)]⟩) [1] (by simp) ⟨.inr rfl, .inr rfl, .inr rfl, trivial⟩ ⟨NoN.of_pure _ (pieces_pure _), by simp [NoN], by simp [NoN], trivial⟩ ⟨by rw [if_neg (by decide)]; exact ⟨rfl, non_vi _⟩, by rw [if_pos (by decide)], trivial⟩)) ?_
      refine aw_exit ?_
      refine aw_text rfl ?_
      refine ch_v (R := []) rfl rfl (oc_move (x := .val _) rfl rfl) trivial ?_
      refine ch_v (R := []) rfl rfl (oc_binZ rfl rfl rfl (by first | exact binW_add (by omega) (by omega) | rfl)) trivial ?_
      refine ch_v (R := []) rfl rfl (oc_assign (x := .val _) rfl rfl) trivial ?_
      refine ck_nil ?_
      exact ⟨k + 1, by omega, by omega, Le.sub ⟨.inr rfl, .inr (by show lkS _ 3 = Av.osl 1 0 (piecesC l (k + 1)).length; rw [hst]; rfl), .inr (vi_eq (by omega)), trivial⟩ ⟨by rw [hst]; rfl, rfl, trivial⟩⟩
    · have hpos : ¬ (l.getD k dPiece).2 > 0 := of_decide_eq_false hb
      have hpc : pieceC (l.getD k dPiece) = (aTextCodes (tB (l.getD k dPiece).1)).1 := by unfold pieceC; rw [if_neg hpos]
      rw [hpc] at hpl
      have hst : piecesC l (k + 1) = (piecesC l k) ++ (aTextCodes (tB (l.getD k dPiece).1)).1 := by rw [codes_step, hpc]
      refine aw_skip ?_
      refine aw_seq ?_
      refine aw_text rfl ?_
      refine ch_v (R := []) rfl rfl (oc_move (x := .sl _ _ _) rfl rfl) trivial ?_
      refine ch_v (R := []) rfl rfl (oc_move (x := .val _) rfl rfl) trivial ?_
      refine ch_v (R := []) rfl rfl ((by first | exact oc_indexN rfl rfl rfl (by kernel_rfl) (by omega) | exact oc_index rfl rfl rfl (by kernel_rfl) (by omega) (by omega) rfl)) trivial ?_
      refine ch_v (R := []) rfl rfl (oc_fieldAddr (off := 0) rfl rfl rfl (by kernel_rfl) rfl) trivial ?_
      refine ch_v (R := []) rfl rfl (oc_load rfl rfl (by kernel_rfl) cells_str) trivial ?_
      refine ch_v (R := []) rfl rfl (oc_call rfl (by kernel_rfl) (rcodes_pc (l.getD k dPiece).1 (by omega)) rfl (by simp only [PureL, Pure, and_self, pure_slI, pure_slS, rowAv, pieces_pure, pool_pure, bs_pure, implies_true]) (by simp only [PureL, Pure, and_self, pure_slI, pure_slS, rowAv, pieces_pure, pool_pure, bs_pure, implies_true])) trivial ?_
      refine ch_v (R := []) rfl rfl (oc_move (x := .tup _) rfl rfl) trivial ?_
      refine ch_v (R := []) rfl rfl (oc_extract rfl rfl rfl) trivial ?_
      refine ch_v (R := []) rfl rfl (oc_extract rfl rfl rfl) trivial ?_
      refine ch_v (R := []) rfl rfl (oc_assign (x := .sl _ _ _) rfl rfl) trivial ?_
      refine ch_v (R := []) rfl rfl (oc_assign (x := .val _) rfl rfl) trivial ?_
      refine ck_nil ?_
      refine aw_text rfl ?_
      refine ch_v (R := []) rfl rfl (oc_move (x := .osl _ _ _) rfl rfl) trivial ?_
      refine ch_v (R := []) rfl rfl (oc_move (x := .sl _ _ _) rfl rfl) trivial ?_
      refine ch_u rfl rfl (oc_append (e := 3) (k := 1) (by_ := 8) (zs := [.int .i64 0]) (cs := (piecesC l k).map vi) (ds := ((aTextCodes (tB (l.getD k dPiece).1)).1).map vi) 1 rfl rfl rfl (by kernel_rfl) (by kernel_rfl) rfl (by decide) (by decide) (by simp) (by simp) (app_vi _) (by omega) (by omega)) ⟨rfl, rfl, trivial⟩ ?_
      refine ch_v (R := []) rfl rfl (oc_assign (x := .osl _ _ _) rfl rfl) trivial ?_
      refine ck_nil ?_
      refine aw_le (Le.trans (Le.swap (τ := ⟨[(0, piecesAv l), (3, .osl 1 0 ((piecesC l k) ++ (aTextCodes (tB (l.getD k dPiece).1)).1).length), (4, vi k)], [(0, .live 3 (((piecesC l k) ++ (aTextCodes (tB (l.getD k dPiece).1)).1).map vi))]⟩) 0 1 (by simp) (by simp) ⟨(ren_pure _ _ (pieces_pure _)).symm, by first | (rw [List.length_append]; rfl) | (simp only [List.length_append]; rfl), rfl, trivial⟩ ⟨by show lkH _ 1 = some (Hs.live _ ((((piecesC l k) ++ (aTextCodes (tB (l.getD k dPiece).1)).1).map vi).map _)); rw [ren_mapvi]; simp only [List.map_append]; rfl, trivial⟩) (Le.reset (τ := ⟨[(0, piecesAv l), (3, .osl 1 0 ((piecesC l k) ++ (aTextCodes (tB (l.getD k dPiece).1)).1).length), (4, vi k)], [(0, .live 3 (((piecesC l k) ++ (aTextCodes (tB (l.getD k dPiece).1)).1).map vi)), (1, .unborn)]⟩) [1] (by simp) ⟨.inr rfl, .inr rfl, .inr rfl, trivial⟩ ⟨NoN.of_pure _ (pieces_pure _), by simp [NoN], by simp [NoN], trivial⟩ ⟨by rw [if_neg (by decide)]; exact ⟨rfl, non_vi _⟩, by rw [if_pos (by decide)], trivial⟩)) ?_
      refine aw_text rfl ?_
      refine ch_v (R := []) rfl rfl (oc_move (x := .val _) rfl rfl) trivial ?_
      refine ch_v (R := []) rfl rfl (oc_binZ rfl rfl rfl (by first | exact binW_add (by omega) (by omega) | rfl)) trivial ?_
      refine ch_v (R := []) rfl rfl (oc_assign (x := .val _) rfl rfl) trivial ?_
      refine ck_nil ?_
      exact ⟨k + 1, by omega, by omega, Le.sub ⟨.inr rfl, .inr (by show lkS _ 3 = Av.osl 1 0 (piecesC l (k + 1)).length; rw [hst]; rfl), .inr (vi_eq (by omega)), trivial⟩ ⟨by rw [hst]; rfl, rfl, trivial⟩⟩
  · have hge : k = l.length := by have h0 := of_decide_eq_false hb; omega
    refine aw_exit ?_
    refine aw_seq ?_
    refine aw_le (Le.freeze 3 0 (fun j => vi ((piecesC l k).getD j 0)) rfl rfl (by simp) (row_vi _)) ?_
    refine aw_text rfl ?_
    refine ch_v (R := []) rfl rfl (oc_move (x := .sl _ _ _) rfl rfl) trivial ?_
    refine ch_v (R := []) rfl rfl (oc_assign (x := .sl _ _ _) rfl rfl) trivial ?_
    refine ck_nil ?_
    refine aw_ret ?_
    exact ⟨.inl rfl, ResOk.tmp rfl (by rw [hge]; rfl), trivial⟩
end Go.Proofs.YtpbaiighifhfnaaDoor
namespace Go.Proofs.YtpbaiighifhfnaaDoor
open Go.RowKit
set_option linter.unusedVariables false
set_option linter.unusedSimpArgs false
section
variable {P : Program} {o : Oper} {ρ : Operand → Av} {p q : Operand} {T : TypeId}
theorem freeze_at {w : World} {g n : Nat} {cur : Array Value} {t : TypeId} {z : Nat × Nat} (h : w.heap[g]? = some (.cells cur t z)) (hn : n ≠ 0) (hz : z = (0, 0) ∨ z = (0, n)) : (w.freeze ⟨g, 0, none⟩ n).heap[g]? = some (.cells cur t (0, n)) := by
  unfold World.freeze
  rw [if_neg hn]
  show (w.heap.modify g _)[g]? = _
  rw [Array.getElem?_modify, if_pos rfl, h]
  rcases hz with rfl | rfl
  · simp
  · have : (0 == n) = false := by simp; omega
    simp [this]
theorem run_us {E : Env} {a : Act} {e T2 ty : TypeId} {b : Nat} {s : ByteArray} {cur : Array Value} {z : Nat × Nat} (hT : ptrB P T = some e) (hc : P.cellsOf e = 1) (h0 : 0 < s.size) (h63 : s.size ≤ 9223372036854775807) (hb : E.w.heap[b]? = some (.cells cur e z)) (hcell : ∀ (j : Nat) (u : Value), (Lib.strCells s)[j]? = some u → cur[j]? = some u) :
    (Builtin.unsafeString_ #[T, T2] ty #[.pointer (some ⟨b, 0, none⟩), .int .i64 s.size]).run P E.w = .ok (.string s) (E.w.freeze ⟨b, 0, none⟩ s.size) := by
  have hls : s.data.toList.length = s.size := by rw [Array.length_toList]; rfl
  have hcell' : ∀ (j : Nat) (x : UInt8), s.data.toList[j]? = some x → cur[j]? = some (Value.int .u8 x.toNat) := fun j x hx => hcell j _ (by unfold Lib.strCells; rw [List.getElem?_map, hx]; rfl)
  have hsz : s.size ≤ cur.size := by
    have hlt : s.size - 1 < s.data.toList.length := by omega
    have := (Array.getElem?_eq_some_iff.1 (hcell' (s.size - 1) _ (List.getElem?_eq_getElem hlt))).1
    omega
  have := Lib.run_unsafeString_row (P := P) E.w T T2 ty e (ptrB_some hT) hc b cur.size (by simp [World.shape?, hb]) s.data.toList (fun hz => by rw [hz] at hls; simp at hls; omega) (by omega) (by omega) fun j x hx => by
    rw [Addr.add_lit]
    show E.w.cell? ⟨b, 0 + j, none⟩ = _
    simp only [World.cell?, hb, Nat.zero_add]
    rw [hcell' j x hx]
    rfl
  rwa [hls] at this
theorem cells_of_byt {E : Env} {s : ByteArray} {cur : Array Value} (h : ∀ (i : Nat) (y : Av), (bytA s)[i]? = some y → ∃ u : Value, cur[i]? = some u ∧ u.oneCell' = true ∧ Rep E y u) : ∀ (j : Nat) (u : Value), (Lib.strCells s)[j]? = some u → cur[j]? = some u := fun j u hu => by
  unfold Lib.strCells at hu
  rw [List.getElem?_map] at hu
  cases hx : s.data.toList[j]? with
  | none => rw [hx] at hu; cases hu
  | some x =>
    rw [hx] at hu
    simp only [Option.map_some, Option.some.injEq] at hu
    obtain ⟨u', h1, _, h2⟩ := h j (.val (.int .u8 x.toNat)) (by unfold bytA; rw [List.getElem?_map, hx]; rfl)
    unfold Rep at h2
    rw [h1, h2, ← hu]
/-- The first time: the row is given away; what the builder holds of it is frozen. -/
theorem oc_unsafeStringK {T2 e T0 : TypeId} {m n0 n : Nat} {x : Av} {s : ByteArray} (ho : o.op = .call { callee := .builtin .unsafeString, args := #[p, q], argTypes := #[T, T2] }) (hp : ρ p = .own m 0) (hq : ρ q = vi (n : Int)) (hT : ptrB P T = some e) (hc : P.cellsOf e = 1) (hn : n = s.size) (h0 : 0 < s.size) (h63 : s.size ≤ 9223372036854775807) (hnm : n0 ≠ m) : OC P o ρ [(m, .live e (bytA s)), (n0, .live T0 [x, .osl 1 m s.size])] (vs s) [(m, .dead), (n0, .live T0 [x, .frz false e (Lib.strCells s)])] := by
  intro E a hG hr hH
  have h1 := hr p (by simp [ho, Op.operands, Call.operands])
  have h2 := hr q (by simp [ho, Op.operands, Call.operands])
  rw [hp] at h1
  rw [hq] at h2
  have h2' : a.eval q = .int .i64 (n : Int) := by unfold Rep at h2; exact h2
  unfold Rep at h1
  rcases hH m (.live e (bytA s)) (by simp) with ⟨_, h3⟩ | ⟨b, cur, h3, h4, h5⟩
  · have := bytA_len s
    rw [h3] at this
    simp at this
    omega
  rcases hH n0 (.live T0 [x, .osl 1 m s.size]) (by simp) with ⟨_, k3⟩ | ⟨b0, cur0, k3, k4, k5⟩
  · cases k3
  have h6 := h1.2 b h3
  have hcell := cells_of_byt h5
  have hrun := run_us (P := P) (E := E) (a := a) (T := T) (T2 := T2) (ty := o.type) hT hc h0 h63 h4 hcell
  have hls : (Lib.strCells s).length = s.size := Lib.strCells_length s
  unfold grows
  rw [exec_us ho (by rw [h6, h2', hn]; exact hrun)]
  obtain ⟨f1, f2, f3, f4⟩ := freeze_same (w := E.w) (g := b) (n := s.size)
  let E' : Env := { w := E.w.freeze ⟨b, 0, none⟩ s.size, loc := fun i => if i = m then .dead else E.loc i, bad := E.bad }
  have hne : ∀ i c, E'.loc i = .at c → i ≠ m ∧ E.loc i = .at c := fun i c hi => by
    by_cases e : i = m
    · simp [E', e] at hi
    · simp [E', e] at hi; exact ⟨e, hi⟩
  have hob : ∀ i c, i ≠ m → E.loc i = .at c → c ≠ b := fun i c hi hc e => hi (hG.inj i m b (by rw [← e]; exact hc) h3)
  have hS : Step E E' [m] := by
    refine ⟨f2, f3, f4, by rw [show E'.w.heap.size = E.w.heap.size from f1]; exact Nat.le_refl _, rfl, fun c hlt hno => freeze_other (fun e => hno m (by rw [e]; exact h3)), fun i hi => ?_, fun i hi => ?_, fun i c hi => .inl (hne i c hi).2, fun i hi => ?_, fun i c cur' t' hi hi' hcc => ?_⟩
    · have hi : i ≠ m := by simpa using hi
      exact ⟨by simp [E', hi], fun c hc => freeze_other (hob i c hi hc)⟩
    · by_cases e : i = m
      · simp [E', e]
      · simpa [E', e] using hi
    · by_cases e : i = m
      · simp [E', e] at hi
      · simp [E', e] at hi; exact .inl hi
    · exact ⟨cur', (freeze_other (hob i c (hne i c hi).1 hi')).trans hcc, rfl⟩
  refine ⟨E', rfl, hS.more (by simp), ⟨fun c hc => by rw [show E'.w.heap.size = E.w.heap.size from f1]; exact hG.old c hc, fun i j c hi hj => hG.inj i j c (hne i c hi).2 (hne j c hj).2, fun i c hi => ?_, hG.shp.same fun c hc => ⟨⟨?_, hc.2.1, fun i hi => hc.2.2 i (hne i c hi).2⟩, ?_⟩⟩, ?_, fun i y hi => ?_⟩
  · have := hG.lt i c (hne i c hi).2
    exact ⟨by rw [show E'.w.heap.size = E.w.heap.size from f1]; exact this.1, this.2⟩
  · rw [show E'.w.heap.size = E.w.heap.size from f1]; exact hc.1
  · exact freeze_other (fun e => hc.2.2 m (by rw [e]; exact h3))
  · unfold Rep; rfl
  · simp only [lkH] at hi
    by_cases e1 : m = i
    · subst e1
      simp at hi
      subst hi
      show E'.loc m = .dead
      simp [E']
    · simp only [beqF e1, cond_false] at hi
      by_cases e2 : n0 = i
      · subst e2
        simp at hi
        subst hi
        refine .inr ⟨b0, cur0, by simp [E', hnm, k3], (freeze_other (hob n0 b0 hnm k3)).trans k4, fun j y hy => ?_⟩
        rcases j with _ | _ | j
        · obtain ⟨u, g1, g2, g3⟩ := k5 0 x rfl
          simp at hy
          subst hy
          exact ⟨u, g1, g2, Rep.step hS _ _ g3⟩
        · obtain ⟨u, g1, g2, g3⟩ := k5 1 _ rfl
          simp at hy
          subst hy
          refine ⟨u, g1, g2, ?_⟩
          unfold Rep at g3
          obtain ⟨c, cur', t', g4, g5, g6, g7, g8⟩ := g3.2 b h3
          unfold Rep
          refine ⟨c, b, cur, by rw [hls]; exact g4, by rw [hls]; exact g5, ⟨by rw [show E'.w.heap.size = E.w.heap.size from f1]; exact (hG.lt m b h3).1, (hG.lt m b h3).2, fun i hi => ?_⟩, ?_, hcell⟩
          · obtain ⟨q1, q2⟩ := hne i b hi
            exact q1 (hG.inj i m b q2 h3)
          · rw [hls]
            exact freeze_at h4 (by omega) (.inl rfl)
        · simp at hy
      · simp [beqF e2] at hi
theorem oc_sliceDataZ {e : TypeId} {xs : List Value} (ho : o.op = .call { callee := .builtin .unsafeSliceData, args := #[p], argTypes := #[T] }) (hp : ρ p = .frz false e xs) (h0 : 0 < xs.length) : OC P o ρ [] (.frz true e xs) [] := oc_read fun E a hG hr _ => by
  have h1 := hr p (by simp [ho, Op.operands, Call.operands])
  rw [hp] at h1
  unfold Rep at h1
  obtain ⟨c, g, cur, h2, h3, h4, h5, h6⟩ := h1
  simp only [cond_false] at h2
  refine ⟨.pointer (some ⟨g, 0, none⟩), exec_sd ho ?_, ?_⟩
  · rw [h2]; exact Lib.run_unsafeSliceData_row _ _ _ _ _ _ (by omega)
  · unfold Rep
    exact ⟨c, g, cur, by simp, h3, h4, h5, h6⟩
theorem oc_len_frz {e : TypeId} {xs : List Value} {n : Nat} (ho : o.op = .call { callee := .builtin .len, args := #[p], argTypes := #[T] }) (hp : ρ p = .frz false e xs) (hn : xs.length = n) (hT : lenB P T = true) : OC P o ρ [] (.val (.int .i64 n)) [] := oc_read fun E a hG hr _ => by
  have h1 := hr p (by simp [ho, Op.operands, Call.operands])
  rw [hp] at h1
  unfold Rep at h1
  obtain ⟨c, g, cur, h2, _⟩ := h1
  simp only [cond_false] at h2
  obtain ⟨e', he⟩ := lenB_some hT
  refine ⟨.int .i64 n, ?_, by unfold Rep; rfl⟩
  simp [execOp, ho, resolve, invoke, builtin, Builtin.len_, Sem.run_bind, run_underlying he, h2, goInt, hn]
/-- A second time: nothing turns. -/
theorem oc_unsafeStringZ {T2 e : TypeId} {n : Nat} {s : ByteArray} (ho : o.op = .call { callee := .builtin .unsafeString, args := #[p, q], argTypes := #[T, T2] }) (hp : ρ p = .frz true e (Lib.strCells s)) (hq : ρ q = vi (n : Int)) (hT : ptrB P T = some e) (hc : P.cellsOf e = 1) (hn : n = s.size) (h0 : 0 < s.size) (h63 : s.size ≤ 9223372036854775807) : OC P o ρ [] (vs s) [] := oc_grow fun E a hG hr => by
  have h1 := hr p (by simp [ho, Op.operands, Call.operands])
  have h2 := hr q (by simp [ho, Op.operands, Call.operands])
  rw [hp] at h1
  rw [hq] at h2
  have h2' : a.eval q = .int .i64 (n : Int) := by unfold Rep at h2; exact h2
  unfold Rep at h1
  obtain ⟨c, g, cur, h3, h4, h5, h6, h7⟩ := h1
  simp only [cond_true] at h3
  have hls : (Lib.strCells s).length = s.size := Lib.strCells_length s
  rw [hls] at h6
  obtain ⟨f1, f2, f3, f4⟩ := freeze_same (w := E.w) (g := g) (n := s.size)
  refine ⟨.string s, E.w.freeze ⟨g, 0, none⟩ s.size, exec_us ho (by rw [h3, h2', hn]; exact run_us (a := a) hT hc h0 h63 h6 h7), ⟨f2, f3, f4, by rw [f1]; exact Nat.le_refl _, fun k hk => ?_⟩, by unfold Rep; rfl⟩
  by_cases e : k = g
  · subst e
    rw [freeze_at h6 (by omega) (.inr rfl), h6]
  · exact freeze_other e
theorem Step.dead_name {E : Env} {n : Nat} (hn : E.loc n = .unborn) : Step E (E.re n .dead) [n] := by
  refine ⟨rfl, rfl, rfl, Nat.le_refl _, rfl, fun _ _ _ => rfl, fun m hm => ?_, fun m hm => ?_, fun m b hb => ?_, fun m hm => ?_, fun m b cur t hb hb' hc => ⟨cur, hc, rfl⟩⟩
  · have hm : m ≠ n := by simpa using hm
    exact ⟨by simp [Env.re, hm], fun _ _ => rfl⟩
  · by_cases e : m = n
    · simp [Env.re, e]
    · simpa [Env.re, e] using hm
  · by_cases e : m = n
    · simp [Env.re, e] at hb
    · simp [Env.re, e] at hb; exact .inl hb
  · by_cases e : m = n
    · subst e; exact .inr hn
    · simp [Env.re, e] at hm; exact .inl hm
/-- Of an empty row: some pointer (a name that stands for nothing), the row stays. -/
theorem oc_sliceData0K {t e : TypeId} {m : Nat} (k : Nat) (ho : o.op = .call { callee := .builtin .unsafeSliceData, args := #[p], argTypes := #[T] }) (hp : ρ p = .osl 1 m 0) (ht : ptrB P o.type = some e) : OC P o ρ [(m, .live t []), (k, .unborn)] (.own k 0) [(k, .dead)] := by
  intro E a hG hr hH
  have h1 := hr p (by simp [ho, Op.operands, Call.operands])
  rw [hp] at h1
  unfold Rep at h1
  have hu : E.loc k = .unborn := hH k .unborn (by simp)
  have fin : ∀ (v : Value) (w' : World), (execOp a.eval o).run P E.w = .ok (.value v) w' → Below E.w.heap.size E.w w' → (∃ x, v = .pointer x) → grows P o a E.w (Post E (.own k 0) [(k, .dead)]) := fun v w' hr hb hv => by
    unfold grows
    rw [hr]
    have hg := Step.grow hG hb
    have hS := hg.trans (Step.dead_name (E := { E with w := w' }) hu)
    refine ⟨_, rfl, hS, (hG.grow hb).re (by simp), ?_, fun n y hn => ?_⟩
    · unfold Rep
      refine ⟨⟨by simp [Env.re], hv⟩, fun b hb => ?_⟩
      simp [Env.re] at hb
    · simp only [lkH] at hn
      by_cases e : k = n
      · subst e
        simp at hn
        subst hn
        show (Env.re _ k .dead).loc k = .dead
        simp [Env.re]
      · simp [beqF e] at hn
  rcases hH m (.live t []) (by simp) with ⟨h2, _⟩ | ⟨b, cur, h2, h3, _⟩
  · obtain ⟨hv, _⟩ := h1.1.2.2 h2
    exact fin _ _ (exec_sd ho (by rw [hv]; exact Lib.run_unsafeSliceData_nil _ _ _ _ _)) (Below.refl _ _) ⟨_, rfl⟩
  · obtain ⟨c, cur', t', h6, h7, _⟩ := h1.2 b h2
    by_cases hc : c = 0
    · subst hc
      exact fin _ _ (exec_sd ho (by rw [h6]; exact Lib.run_unsafeSliceData_zero _ _ _ e (ptrB_some ht) _ _ (t, cur.size) (by simp [World.shape?, h3]))) ((Below.refl _ _).alloc (Nat.le_refl _) _) ⟨_, rfl⟩
    · exact fin _ _ (exec_sd ho (by rw [h6]; exact Lib.run_unsafeSliceData_row _ _ _ _ _ _ hc)) (Below.refl _ _) ⟨_, rfl⟩
end
end Go.Proofs.YtpbaiighifhfnaaDoor
