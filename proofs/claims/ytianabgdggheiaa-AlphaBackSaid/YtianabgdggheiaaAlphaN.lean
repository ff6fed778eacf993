/- The contract of alpha.first. -/
import Derived.Test.YtianabgdggheiaaAlphaB
import Derived.Test.YtianabgdggheiaaAlphaLaw
import Derived.Outline
namespace Go.Proofs.Ytianabgdggheiaa
open Go.RowKit Go.IntWalk
set_option maxRecDepth 100000
set_option linter.unusedVariables false

/-- A number is from one on, up to another one. -/
def amB (n lo hi : Int) : Bool := decide (lo ≤ n ∧ n ≤ hi)
theorem amB_t {n lo hi : Int} (h : lo ≤ n ∧ n ≤ hi) : amB n lo hi = true := by unfold amB; simpa using h
theorem amB_f {n lo hi : Int} (h : ¬ (lo ≤ n ∧ n ≤ hi)) : amB n lo hi = false := by unfold amB; simpa using h
set_option maxHeartbeats 400000 in
theorem among_any (n lo hi : Int) (w : World) : Calls Try.prog 35 #[.int .i64 n, .int .i64 lo, .int .i64 hi] w fun e w' => e = .returned (.bool (amB n lo hi)) ∧ w = w' := by
  by_cases h1 : lo ≤ n
  · by_cases h2 : n ≤ hi
    · have key := Lib.hid (amB_t ⟨h1, h2⟩)
      go_enter Try.func35, Try.ntmps35
      go_wp2
      go_ret
      exact ⟨by rw [key.out]; rfl, rfl⟩
    · have key := Lib.hid (amB_f (n := n) (lo := lo) (hi := hi) (fun h => h2 h.2))
      have h3 : hi < n := by omega
      go_enter Try.func35, Try.ntmps35
      go_wp2
      go_ret
      exact ⟨by rw [key.out]; rfl, rfl⟩
  · have key := Lib.hid (amB_f (n := n) (lo := lo) (hi := hi) (fun h => h1 h.1))
    have h3 : n < lo := by omega
    go_enter Try.func35, Try.ntmps35
    go_wp2
    go_ret
    exact ⟨by rw [key.out]; rfl, rfl⟩
set_option maxHeartbeats 400000 in
theorem at_any (i : Nat) (v : Int) (b : Nat) (A : Option Addr) (n c : Nat) (ls : List Int) (w : World) (hb : Blk w b 23 [.slice A n c]) {B : Nat} (hr : Rd w B A (cb .i64 ls)) (hn : n = ls.length) (hi : i ≤ 2) (hl : n ≤ 1000000000) (hv : ls.getD i (-1) = v) :
    Calls Try.prog 34 #[.int .i64 i, .pointer (some ⟨b, 0, none⟩)] w fun e w' => e = .returned (.int .i64 v) ∧ w = w' := by
  have HN := Lib.hid hn
  have HV := Lib.hid hv
  clear hn hv
  obtain ⟨q1, q2⟩ := hb.one
  by_cases h : i < n
  · have hil : i < ls.length := by have := HN.out; omega
    obtain ⟨b', o, rfl, _, hc⟩ := hr.num hil
    have hfin : Hid (ls[i] = v) := by
      unfold Hid
      rw [← HV.out]
      simp only [List.getD, List.getElem?_eq_getElem hil, Option.getD_some]
    go_enter Try.func34, Try.ntmps34
    go_wp2
    go_ret
    exact ⟨ret_int hfin.out, rfl⟩
  · have hfin : Hid (-1 = v) := by
      unfold Hid
      rw [← HV.out]
      simp [List.getD, List.getElem?_eq_none (show ls.length ≤ i by have := HN.out; omega)]
    go_enter Try.func34, Try.ntmps34
    go_wp2
    go_ret
    exact ⟨ret_int hfin.out, rfl⟩
theorem at_lit (i : Nat) (k v : Int) (b : Nat) (A : Option Addr) (n c : Nat) (ls : List Int) (w : World) (hb : Blk w b 23 [.slice A n c]) {B : Nat} (hr : Rd w B A (cb .i64 ls)) (hn : n = ls.length) (hi : i ≤ 2) (hl : n ≤ 1000000000) (hv : ls.getD i (-1) = v) (hk : k = i) :
    Calls Try.prog 34 #[.int .i64 k, .pointer (some ⟨b, 0, none⟩)] w fun e w' => e = .returned (.int .i64 v) ∧ w = w' := by
  subst hk; exact at_any i v b A n c ls w hb hr hn hi hl hv
theorem callAt (w : World) (args : Array Value) (C : Array Value) : Sem.run Try.prog (callFunc 34 args) w = .ok (.enter 34 args) w := rfl

/-- What 'first' gives back. -/
def RetFirst (w : World) (r : Int × Nat) (e : Ending) (w' : World) : Prop := e = .returned (.tuple #[.int .u8 r.1, .int .i64 r.2]) ∧ Below w.heap.size w w'

set_option maxHeartbeats 12800000 in
theorem first_any (A : Option Addr) (n c : Nat) (ls : List Int) (w : World) (hr : Rd w w.heap.size A (cb .i64 ls)) (hn : n = ls.length) (hl : n ≤ 1000000000) :
    Calls Try.prog 28 #[.slice A n c] w (RetFirst w (aFirst ls)) := by
  obtain ⟨x, hx⟩ : ∃ x, ls.getD 0 (-1) = x := ⟨_, rfl⟩
  obtain ⟨y, hy⟩ : ∃ y, ls.getD 1 (-1) = y := ⟨_, rfl⟩
  obtain ⟨z, hz⟩ : ∃ z, ls.getD 2 (-1) = z := ⟨_, rfl⟩
  have hF : Hid (aFirst ls = aFirst3 x y z) := by unfold Hid aFirst; rw [hx, hy, hz]
  have hblk : Blk (w.alloc (.cells #[.slice A n c] 23)) w.heap.size 23 [.slice A n c] := Blk.new _ _ _
  have hrd := hr.alloc (Nat.le_refl _) (.cells #[.slice A n c] 23)
  have HX := Lib.hid hx
  have HY := Lib.hid hy
  have HZ := Lib.hid hz
  have HN := Lib.hid hn
  have hbel : Below w.heap.size w (w.alloc (.cells #[.slice A n c] 23)) := (Below.refl _ _).alloc (Nat.le_refl _) _
  clear hx hy hz hn
  by_cases c0 : x = 0
  · have hfin : Hid (aFirst3 x y z = (32, 1)) := by unfold Hid aFirst3; rw [if_pos c0]
    have e0 : (x == 0) = true := by simpa using c0
    have C0 := Lib.hid c0
    clear c0
    go_enter Try.func28, Try.ntmps28
    go_wp2_with fail
    refine (at_lit 0 0 x _ A n c ls _ hblk hrd HN.out (by omega) hl HX.out rfl).mono ?_
    rintro e w' ⟨rfl, rfl⟩
    go_wp2_with fail
    refine (at_lit 1 1 y _ A n c ls _ hblk hrd HN.out (by omega) hl HY.out rfl).mono ?_
    rintro e w' ⟨rfl, rfl⟩
    go_wp2_with fail
    go_ret2
    exact ⟨by rw [hF.out, hfin.out]; rfl, hbel⟩
  · by_cases c1 : 1 ≤ x ∧ x ≤ 26
    · have hfin : Hid (aFirst3 x y z = (96 + x, 1)) := by unfold Hid aFirst3; rw [if_neg (by omega), if_pos c1]
      have e0 : (x == 0) = false := by simp; omega
      go_enter Try.func28, Try.ntmps28
      go_wp2_with fail
      refine (at_lit 0 0 x _ A n c ls _ hblk hrd HN.out (by omega) hl HX.out rfl).mono ?_
      rintro e w' ⟨rfl, rfl⟩
      go_wp2_with fail
      refine (at_lit 1 1 y _ A n c ls _ hblk hrd HN.out (by omega) hl HY.out rfl).mono ?_
      rintro e w' ⟨rfl, rfl⟩
      go_wp2_with fail
      refine (among_any x 1 26 _).mono ?_
      rw [show amB x 1 26 = true from amB_t (by omega)]
      rintro e w' ⟨rfl, rfl⟩
      go_wp2_with fail
      go_ret2
      exact ⟨by rw [hF.out, hfin.out]; show _ = Ending.returned (.tuple #[.int .u8 (96 + x), .int .i64 1]); rw [show 96 + x = 97 + x - 1 from by omega]; rfl, hbel⟩
    · by_cases c2 : x = 27 ∧ 1 ≤ y ∧ y ≤ 26
      · have hfin : Hid (aFirst3 x y z = (64 + y, 2)) := by unfold Hid aFirst3; rw [if_neg (by omega), if_neg (by omega), if_pos c2]
        have e0 : (x == 0) = false := by simp; omega
        have e27 : (x == 27) = true := by simp; omega
        have g1 : 1 ≤ y := c2.2.1
        have g2 : y ≤ 26 := c2.2.2
        have G := Lib.hid c2
        clear c2 c0 c1
        go_enter Try.func28, Try.ntmps28
        go_wp2_with fail
        refine (at_lit 0 0 x _ A n c ls _ hblk hrd HN.out (by omega) hl HX.out rfl).mono ?_
        rintro e w' ⟨rfl, rfl⟩
        go_wp2_with fail
        refine (at_lit 1 1 y _ A n c ls _ hblk hrd HN.out (by omega) hl HY.out rfl).mono ?_
        rintro e w' ⟨rfl, rfl⟩
        go_wp2_with fail
        refine (among_any x 1 26 _).mono ?_
        rw [show amB x 1 26 = false from amB_f (by have := G.out; omega)]
        rintro e w' ⟨rfl, rfl⟩
        go_wp2_with fail
        refine (among_any y 1 26 _).mono ?_
        rw [show amB y 1 26 = true from amB_t (by omega)]
        rintro e w' ⟨rfl, rfl⟩
        go_wp2_with fail
        go_ret2
        exact ⟨by rw [hF.out, hfin.out]; show _ = Ending.returned (.tuple #[.int .u8 (64 + y), .int .i64 2]); rw [show 64 + y = 65 + y - 1 from by omega]; rfl, hbel⟩
      · by_cases c3 : x = 28 ∧ 0 ≤ y ∧ y ≤ 30
        · obtain ⟨c31, c32, c33⟩ := c3
          obtain ⟨q, rfl⟩ := Int.eq_ofNat_of_zero_le c32
          have hq : q < 31 := by omega
          have hsg := Lib.hid (aSigns_at q hq).1
          have G := Lib.hid c31
          have hfin : Hid (aFirst3 x (q : Int) z = (aSigns.getD q 0, 2)) := by unfold Hid aFirst3; rw [if_neg (by omega), if_neg (by omega), if_neg (by omega), if_pos ⟨c31, by omega, by omega⟩, Int.toNat_natCast]
          have e0 : (x == 0) = false := by simp; omega
          have e27 : (x == 27) = false := by simp; omega
          have e28 : (x == 28) = true := by simp; omega
          clear c31 c0 c1 c2
          go_enter Try.func28, Try.ntmps28
          go_wp2_with fail
          refine (at_lit 0 0 x _ A n c ls _ hblk hrd HN.out (by omega) hl HX.out rfl).mono ?_
          rintro e w' ⟨rfl, rfl⟩
          go_wp2_with fail
          refine (at_lit 1 1 (q : Int) _ A n c ls _ hblk hrd HN.out (by omega) hl HY.out rfl).mono ?_
          rintro e w' ⟨rfl, rfl⟩
          go_wp2_with fail
          refine (among_any x 1 26 _).mono ?_
          rw [show amB x 1 26 = false from amB_f (by have := G.out; omega)]
          rintro e w' ⟨rfl, rfl⟩
          go_wp2_with fail
          refine (among_any (q : Int) 0 30 _).mono ?_
          rw [show amB (q : Int) 0 30 = true from amB_t (by omega)]
          rintro e w' ⟨rfl, rfl⟩
          go_wp2_with fail
          go_ret2
          exact ⟨by rw [hF.out, hfin.out]; rw [← hsg.out]; rfl, hbel⟩
        · by_cases c4 : x = 29 ∧ (0 ≤ y ∧ y ≤ 7) ∧ 0 ≤ z ∧ z ≤ 15
          · have g0 : 0 ≤ y := c4.2.1.1
            have g1 : y ≤ 7 := c4.2.1.2
            have g2 : 0 ≤ z := c4.2.2.1
            have g3 : z ≤ 15 := c4.2.2.2
            have G := Lib.hid c4.1
            have hfin : Hid (aFirst3 x y z = (16 * y + z, 3)) := by unfold Hid aFirst3; rw [if_neg (by omega), if_neg (by omega), if_neg (by omega), if_neg (by omega), if_pos c4]
            have e0 : (x == 0) = false := by simp; omega
            have e27 : (x == 27) = false := by simp; omega
            have e28 : (x == 28) = false := by simp; omega
            have e29 : (x == 29) = true := by simp; omega
            clear c4 c0 c1 c2 c3
            go_enter Try.func28, Try.ntmps28
            go_wp2_with fail
            refine (at_lit 0 0 x _ A n c ls _ hblk hrd HN.out (by omega) hl HX.out rfl).mono ?_
            rintro e w' ⟨rfl, rfl⟩
            go_wp2_with fail
            refine (at_lit 1 1 y _ A n c ls _ hblk hrd HN.out (by omega) hl HY.out rfl).mono ?_
            rintro e w' ⟨rfl, rfl⟩
            go_wp2_with fail
            refine (among_any x 1 26 _).mono ?_
            rw [show amB x 1 26 = false from amB_f (by have := G.out; omega)]
            rintro e w' ⟨rfl, rfl⟩
            go_wp2_with fail
            refine (among_any y 0 7 _).mono ?_
            rw [show amB y 0 7 = true from amB_t (by omega)]
            rintro e w' ⟨rfl, rfl⟩
            go_wp2_with fail
            refine (at_lit 2 2 z _ A n c ls _ hblk hrd HN.out (by omega) hl HZ.out rfl).mono ?_
            rintro e w' ⟨rfl, rfl⟩
            go_wp2_with fail
            refine (among_any z 0 15 _).mono ?_
            rw [show amB z 0 15 = true from amB_t (by omega)]
            rintro e w' ⟨rfl, rfl⟩
            go_wp2_with fail
            refine (at_lit 2 2 z _ A n c ls _ hblk hrd HN.out (by omega) hl HZ.out rfl).mono ?_
            rintro e w' ⟨rfl, rfl⟩
            go_wp2_with fail
            go_ret2
            exact ⟨by rw [hF.out, hfin.out]; rfl, hbel⟩
          · rcases (show (x = 27) ∨ (x = 28) ∨ (x = 29 ∧ 0 ≤ y ∧ y ≤ 7) ∨ (x = 29 ∧ ¬ (0 ≤ y ∧ y ≤ 7)) ∨ (x ≠ 27 ∧ x ≠ 28 ∧ x ≠ 29) by omega) with d | d | d | d | d
            · have hfin : Hid (aFirst3 x y z = (0, 0)) := by unfold Hid aFirst3; rw [if_neg c0, if_neg c1, if_neg c2, if_neg c3, if_neg c4]
              have e0 : (x == 0) = false := by simp; omega
              have e27 : (x == 27) = true := by simp; omega
              have e28 : (x == 28) = false := by simp; omega
              have e29 : (x == 29) = false := by simp; omega
              have G := Lib.hid d
              have G1 := Lib.hid c1
              have G2 := Lib.hid c2
              have G3 := Lib.hid c3
              have G4 := Lib.hid c4
              clear d c0 c1 c2 c3 c4
              go_enter Try.func28, Try.ntmps28
              go_wp2_with fail
              refine (at_lit 0 0 x _ A n c ls _ hblk hrd HN.out (by omega) hl HX.out rfl).mono ?_
              rintro e w' ⟨rfl, rfl⟩
              go_wp2_with fail
              refine (at_lit 1 1 y _ A n c ls _ hblk hrd HN.out (by omega) hl HY.out rfl).mono ?_
              rintro e w' ⟨rfl, rfl⟩
              go_wp2_with fail
              refine (among_any x 1 26 _).mono ?_
              rw [show amB x 1 26 = false from amB_f (by have := G.out; have := G1.out; have := G2.out; have := G3.out; have := G4.out; omega)]
              rintro e w' ⟨rfl, rfl⟩
              go_wp2_with fail
              refine (among_any y 1 26 _).mono ?_
              rw [show amB y 1 26 = false from amB_f (by have := G.out; have := G1.out; have := G2.out; have := G3.out; have := G4.out; omega)]
              rintro e w' ⟨rfl, rfl⟩
              go_wp2_with fail
              go_ret2
              exact ⟨by rw [hF.out, hfin.out]; rfl, hbel⟩
            · have hfin : Hid (aFirst3 x y z = (0, 0)) := by unfold Hid aFirst3; rw [if_neg c0, if_neg c1, if_neg c2, if_neg c3, if_neg c4]
              have e0 : (x == 0) = false := by simp; omega
              have e27 : (x == 27) = false := by simp; omega
              have e28 : (x == 28) = true := by simp; omega
              have e29 : (x == 29) = false := by simp; omega
              have G := Lib.hid d
              have G1 := Lib.hid c1
              have G2 := Lib.hid c2
              have G3 := Lib.hid c3
              have G4 := Lib.hid c4
              clear d c0 c1 c2 c3 c4
              go_enter Try.func28, Try.ntmps28
              go_wp2_with fail
              refine (at_lit 0 0 x _ A n c ls _ hblk hrd HN.out (by omega) hl HX.out rfl).mono ?_
              rintro e w' ⟨rfl, rfl⟩
              go_wp2_with fail
              refine (at_lit 1 1 y _ A n c ls _ hblk hrd HN.out (by omega) hl HY.out rfl).mono ?_
              rintro e w' ⟨rfl, rfl⟩
              go_wp2_with fail
              refine (among_any x 1 26 _).mono ?_
              rw [show amB x 1 26 = false from amB_f (by have := G.out; have := G1.out; have := G2.out; have := G3.out; have := G4.out; omega)]
              rintro e w' ⟨rfl, rfl⟩
              go_wp2_with fail
              refine (among_any y 0 30 _).mono ?_
              rw [show amB y 0 30 = false from amB_f (by have := G.out; have := G1.out; have := G2.out; have := G3.out; have := G4.out; omega)]
              rintro e w' ⟨rfl, rfl⟩
              go_wp2_with fail
              go_ret2
              exact ⟨by rw [hF.out, hfin.out]; rfl, hbel⟩
            · have hfin : Hid (aFirst3 x y z = (0, 0)) := by unfold Hid aFirst3; rw [if_neg c0, if_neg c1, if_neg c2, if_neg c3, if_neg c4]
              have e0 : (x == 0) = false := by simp; omega
              have e27 : (x == 27) = false := by simp; omega
              have e28 : (x == 28) = false := by simp; omega
              have e29 : (x == 29) = true := by simp; omega
              have G := Lib.hid d
              have G1 := Lib.hid c1
              have G2 := Lib.hid c2
              have G3 := Lib.hid c3
              have G4 := Lib.hid c4
              clear d c0 c1 c2 c3 c4
              go_enter Try.func28, Try.ntmps28
              go_wp2_with fail
              refine (at_lit 0 0 x _ A n c ls _ hblk hrd HN.out (by omega) hl HX.out rfl).mono ?_
              rintro e w' ⟨rfl, rfl⟩
              go_wp2_with fail
              refine (at_lit 1 1 y _ A n c ls _ hblk hrd HN.out (by omega) hl HY.out rfl).mono ?_
              rintro e w' ⟨rfl, rfl⟩
              go_wp2_with fail
              refine (among_any x 1 26 _).mono ?_
              rw [show amB x 1 26 = false from amB_f (by have := G.out; have := G1.out; have := G2.out; have := G3.out; have := G4.out; omega)]
              rintro e w' ⟨rfl, rfl⟩
              go_wp2_with fail
              refine (among_any y 0 7 _).mono ?_
              rw [show amB y 0 7 = true from amB_t (by have := G.out; have := G1.out; have := G2.out; have := G3.out; have := G4.out; omega)]
              rintro e w' ⟨rfl, rfl⟩
              go_wp2_with fail
              refine (at_lit 2 2 z _ A n c ls _ hblk hrd HN.out (by have := G.out; have := G1.out; have := G2.out; have := G3.out; have := G4.out; omega) hl HZ.out rfl).mono ?_
              rintro e w' ⟨rfl, rfl⟩
              go_wp2_with fail
              refine (among_any z 0 15 _).mono ?_
              rw [show amB z 0 15 = false from amB_f (by have := G.out; have := G1.out; have := G2.out; have := G3.out; have := G4.out; omega)]
              rintro e w' ⟨rfl, rfl⟩
              go_wp2_with fail
              go_ret2
              exact ⟨by rw [hF.out, hfin.out]; rfl, hbel⟩
            · have hfin : Hid (aFirst3 x y z = (0, 0)) := by unfold Hid aFirst3; rw [if_neg c0, if_neg c1, if_neg c2, if_neg c3, if_neg c4]
              have e0 : (x == 0) = false := by simp; omega
              have e27 : (x == 27) = false := by simp; omega
              have e28 : (x == 28) = false := by simp; omega
              have e29 : (x == 29) = true := by simp; omega
              have G := Lib.hid d
              have G1 := Lib.hid c1
              have G2 := Lib.hid c2
              have G3 := Lib.hid c3
              have G4 := Lib.hid c4
              clear d c0 c1 c2 c3 c4
              go_enter Try.func28, Try.ntmps28
              go_wp2_with fail
              refine (at_lit 0 0 x _ A n c ls _ hblk hrd HN.out (by omega) hl HX.out rfl).mono ?_
              rintro e w' ⟨rfl, rfl⟩
              go_wp2_with fail
              refine (at_lit 1 1 y _ A n c ls _ hblk hrd HN.out (by omega) hl HY.out rfl).mono ?_
              rintro e w' ⟨rfl, rfl⟩
              go_wp2_with fail
              refine (among_any x 1 26 _).mono ?_
              rw [show amB x 1 26 = false from amB_f (by have := G.out; have := G1.out; have := G2.out; have := G3.out; have := G4.out; omega)]
              rintro e w' ⟨rfl, rfl⟩
              go_wp2_with fail
              refine (among_any y 0 7 _).mono ?_
              rw [show amB y 0 7 = false from amB_f (by have := G.out; have := G1.out; have := G2.out; have := G3.out; have := G4.out; omega)]
              rintro e w' ⟨rfl, rfl⟩
              go_wp2_with fail
              go_ret2
              exact ⟨by rw [hF.out, hfin.out]; rfl, hbel⟩
            · have hfin : Hid (aFirst3 x y z = (0, 0)) := by unfold Hid aFirst3; rw [if_neg c0, if_neg c1, if_neg c2, if_neg c3, if_neg c4]
              have e0 : (x == 0) = false := by simp; omega
              have e27 : (x == 27) = false := by simp; omega
              have e28 : (x == 28) = false := by simp; omega
              have e29 : (x == 29) = false := by simp; omega
              have G := Lib.hid d
              have G1 := Lib.hid c1
              have G2 := Lib.hid c2
              have G3 := Lib.hid c3
              have G4 := Lib.hid c4
              clear d c0 c1 c2 c3 c4
              go_enter Try.func28, Try.ntmps28
              go_wp2_with fail
              refine (at_lit 0 0 x _ A n c ls _ hblk hrd HN.out (by omega) hl HX.out rfl).mono ?_
              rintro e w' ⟨rfl, rfl⟩
              go_wp2_with fail
              refine (at_lit 1 1 y _ A n c ls _ hblk hrd HN.out (by omega) hl HY.out rfl).mono ?_
              rintro e w' ⟨rfl, rfl⟩
              go_wp2_with fail
              refine (among_any x 1 26 _).mono ?_
              rw [show amB x 1 26 = false from amB_f (by have := G.out; have := G1.out; have := G2.out; have := G3.out; have := G4.out; omega)]
              rintro e w' ⟨rfl, rfl⟩
              go_wp2_with fail
              go_ret2
              exact ⟨by rw [hF.out, hfin.out]; rfl, hbel⟩
end Go.Proofs.Ytianabgdggheiaa
