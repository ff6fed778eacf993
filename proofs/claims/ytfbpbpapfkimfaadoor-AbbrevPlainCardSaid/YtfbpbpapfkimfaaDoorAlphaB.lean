/- The contracts of a byte's codes: alpha.sort, clewref06.sign, clewref06.one. -/
import Derived.Test.YtfbpbpapfkimfaaDoorBsp
import Derived.Test.YtfbpbpapfkimfaaDoorProg
import Derived.KernelRfl
import Derived.Outline
import Derived.Laws.RangeAny
import Derived.Laws.RangeString
namespace Go.Proofs.YtfbpbpapfkimfaaDoor
open Go.RowKit Go.IntWalk
set_option maxRecDepth 100000
set_option linter.unusedVariables false

theorem infoInt : (Tryd.prog.info? 3).map (fun i => (i.zero, i.size, i.bytes)) = some (some (.int .i64 0), 1, 8) := by kernel_rfl
theorem elemInt : Elem Tryd.prog 47 3 (.int .i64 0) 8 := ⟨Tryd.underlying47, info_parts infoInt, rfl⟩

/-- The place of a sign as a number; -1: it is none. -/
def aPlace (c : Int) : Int := match aSign c with | some i => i | none => -1

set_option maxHeartbeats 400000 in
theorem rsign_any (m : Int) (w : World) (h0 : 0 ≤ m) (h1 : m < 256) : Calls Tryd.prog 42 #[.int .u8 m] w fun e w' => e = .returned (.int .i64 (aPlace m)) ∧ w = w' := by
  go_enter Tryd.func42, Tryd.ntmps42
  go_wp2
  go_loop [3] (fun i => ∃ k : Nat, k ≤ 31 ∧ i = .int .i64 k ∧ Hid (∀ j, j < k → aSigns.getD j 0 ≠ m)) (fun i => 31 - (intOf i).toNat)
  case atStart => exact ⟨0, by omega, rfl, by unfold Hid; intro j hj; omega⟩
  case round =>
    obtain ⟨k, hk, rfl, hq⟩ := hrel
    by_cases hlt : k < 31
    · have hat := Lib.hid (aSigns_at k hlt)
      have hbd := (aSigns_at k hlt).2
      by_cases he : aSigns.getD k 0 = m
      · have hb : (((aSignsB[k]'hlt).toNat : Int) == m) = true := by rw [beq_iff_eq, (aSigns_at k hlt).1, he]
        have hfin : Hid (aPlace m = (k : Int)) := by unfold Hid aPlace; rw [← he, aSign_some k hlt]
        clear he
        go_wp2
        go_ret
        exact ⟨by rw [hfin.out]; rfl, rfl⟩
      · have hb : (((aSignsB[k]'hlt).toNat : Int) == m) = false := by rw [beq_eq_false_iff_ne, (aSigns_at k hlt).1]; exact he
        have hq2 : Hid (∀ j, j < k + 1 → aSigns.getD j 0 ≠ m) := by
          unfold Hid
          intro j hj
          rcases Nat.lt_or_ge j k with h | h
          · exact hq.out j h
          · obtain rfl : j = k := by omega
            exact he
        clear he
        go_wp2
        go_round
        case rel => exact ⟨k + 1, by omega, by go_num, hq2⟩
        case measure => simp [intOf]; omega
    · obtain rfl : k = 31 := by omega
      have hfin : Hid (aPlace m = -1) := by unfold Hid aPlace; rw [aSign_none m hq.out]
      go_wp2
      go_ret
      exact ⟨by rw [hfin.out]; rfl, rfl⟩

/-- A list literal of the call's own, handed back. -/
theorem ret_lit {w : World} {e : TypeId} (cs : List Value) (n : Nat) (xs : List Value) (hn : n = cs.length) (hx : cs = xs) (hm : n ≤ 9223372036854775807) : RetOwn w e xs (.returned (.slice (some ⟨w.heap.size, 0, none⟩) n n)) (w.alloc (.cells cs.toArray e)) := by
  subst hx
  exact ⟨_, _, _, rfl, Own.new w cs e n hn (Nat.le_refl _) hm, (Below.refl _ _).alloc (Nat.le_refl _) _⟩
theorem ret_lit_on {w W : World} {e : TypeId} (hb : Below w.heap.size w W) (cs : List Value) (n : Nat) (xs : List Value) (hn : n = cs.length) (hx : cs = xs) (hm : n ≤ 9223372036854775807) : RetOwn w e xs (.returned (.slice (some ⟨W.heap.size, 0, none⟩) n n)) (W.alloc (.cells cs.toArray e)) := by
  subst hx
  exact ⟨_, _, _, rfl, Own.new W cs e n hn hb.size hm, hb.alloc hb.size _⟩
theorem ret_nil_on {w W : World} {e : TypeId} (hb : Below w.heap.size w W) (xs : List Value) (hx : [] = xs) : RetOwn w e xs (.returned (.slice none 0 0)) W := by
  subst hx
  exact ⟨_, _, _, rfl, Own.nil _ _ _, hb⟩
theorem below_iter (w : World) (s : ByteArray) (k : Nat) : Below w.heap.size w (w.iter s k) := (Below.refl _ _).alloc (Nat.le_refl _) _
theorem ret_nil {w : World} {e : TypeId} (xs : List Value) (hx : [] = xs) : RetOwn w e xs (.returned (.slice none 0 0)) w := by
  subst hx
  exact ⟨_, _, _, rfl, Own.nil _ _ _, Below.refl _ _⟩

set_option maxHeartbeats 800000 in
theorem one_any (m : Int) (w : World) (h0 : 0 ≤ m) (h1 : m < 256) : Calls Tryd.prog 34 #[.int .u8 m] w (RetOwn w 3 (cb .i64 (aOne m))) := by
  by_cases c0 : m = 32
  · subst c0
    go_enter Tryd.func34, Tryd.ntmps34
    go_wp2
    go_ret
    exact ret_lit [.int .i64 0] 1 _ rfl rfl (by omega)
  · have e0 : (m == 32) = false := by simpa using c0
    by_cases c1 : 97 ≤ m ∧ m ≤ 122
    · have hfin : Hid (aOne m = [m - 96]) := by unfold Hid aOne; rw [if_neg c0, if_pos c1]
      obtain ⟨a1, a2⟩ := c1
      clear c0
      go_enter Tryd.func34, Tryd.ntmps34
      go_wp2
      go_ret
      exact ret_lit [.int .i64 (m - 97 + 1)] 1 _ rfl (by rw [hfin.out]; simp [cb]; omega) (by omega)
    · by_cases c2 : 65 ≤ m ∧ m ≤ 90
      · have hfin : Hid (aOne m = [27, m - 64]) := by unfold Hid aOne; rw [if_neg c0, if_neg c1, if_pos c2]
        obtain ⟨a1, a2⟩ := c2
        clear c0 c1
        go_enter Tryd.func34, Tryd.ntmps34
        go_wp2
        go_ret
        exact ret_lit [.int .i64 27, .int .i64 (m - 65 + 1)] 2 _ rfl (by rw [hfin.out]; simp [cb]; omega) (by omega)
      · cases hs : aSign m with
        | some k =>
          have hp : Hid (aPlace m = (k : Int)) := by unfold Hid aPlace; rw [hs]
          have hfin : Hid (aOne m = [28, (k : Int)]) := by unfold Hid aOne; rw [if_neg c0, if_neg c1, if_neg c2, hs]
          have hC := Lib.hid (fun w => rsign_any m w h0 h1)
          have hk : (0 : Int) ≤ (k : Int) := by omega
          have q : (32 < m ∧ m < 65) ∨ (90 < m ∧ m < 97) ∨ (122 < m) ∨ m < 32 := by omega
          clear hs c0 c1 c2
          rcases q with ⟨q1, q2⟩ | ⟨q1, q2⟩ | q1 | q1
          all_goals
            go_enter Tryd.func34, Tryd.ntmps34
            go_wp2_with fail
            refine (hC.out w).mono ?_
            rw [hp.out]
            rintro e w' ⟨rfl, rfl⟩
            go_wp2_with fail
            refine (hC.out w).mono ?_
            rw [hp.out]
            rintro e w' ⟨rfl, rfl⟩
            go_wp2
            go_ret
            exact ret_lit [.int .i64 28, .int .i64 k] 2 _ rfl (by rw [hfin.out]; simp [cb]) (by omega)
        | none =>
          have hp : Hid (aPlace m = -1) := by unfold Hid aPlace; rw [hs]
          have hfin : Hid (aOne m = [29, m / 16, m % 16]) := by unfold Hid aOne; rw [if_neg c0, if_neg c1, if_neg c2, hs]
          have hC := Lib.hid (fun w => rsign_any m w h0 h1)
          have q : (32 < m ∧ m < 65) ∨ (90 < m ∧ m < 97) ∨ (122 < m) ∨ m < 32 := by omega
          clear hs c0 c1 c2
          rcases q with ⟨q1, q2⟩ | ⟨q1, q2⟩ | q1 | q1
          all_goals
            go_enter Tryd.func34, Tryd.ntmps34
            go_wp2_with fail
            refine (hC.out w).mono ?_
            rw [hp.out]
            rintro e w' ⟨rfl, rfl⟩
            go_wp2
            go_ret
            exact ret_lit [.int .i64 29, .int .i64 (m / 16), .int .i64 (m % 16)] 3 _ rfl (by rw [hfin.out]; simp [cb]) (by omega)

set_option maxHeartbeats 800000 in
theorem sort_any (m : Int) (w : World) (h0 : 0 ≤ m) (h1 : m < 256) : Calls Tryd.prog 35 #[.int .u8 m] w (RetOwn w 3 (cb .i64 (aSort m))) := by
  by_cases c0 : m = 32
  · subst c0
    go_enter Tryd.func35, Tryd.ntmps35
    go_wp2
    go_ret
    exact ret_lit [.int .i64 0] 1 _ rfl rfl (by omega)
  · have e0 : (m == 32) = false := by simpa using c0
    by_cases c1 : 97 ≤ m ∧ m ≤ 122
    · have hfin : Hid (aSort m = [m - 96]) := aSort_small m c1.1 c1.2
      obtain ⟨a1, a2⟩ := c1
      clear c0
      go_enter Tryd.func35, Tryd.ntmps35
      go_wp2
      go_ret
      exact ret_lit [.int .i64 (m - 97 + 1)] 1 _ rfl (by rw [hfin.out]; simp [cb]; omega) (by omega)
    · by_cases c2 : 65 ≤ m ∧ m ≤ 90
      · have hfin : Hid (aSort m = [27, m - 64]) := aSort_great m c2.1 c2.2
        obtain ⟨a1, a2⟩ := c2
        clear c0 c1
        go_enter Tryd.func35, Tryd.ntmps35
        go_wp2
        go_ret
        exact ret_lit [.int .i64 27, .int .i64 (m - 65 + 1)] 2 _ rfl (by rw [hfin.out]; simp [cb]; omega) (by omega)
      · have HS := Lib.hid (aSort_sign m c0 c1 c2)
        have HN := Lib.hid (aSort_none m c0 c1 c2)
        have HW := Lib.hid (aSort_whole m c0 c1 c2)
        have q : (32 < m ∧ m < 65) ∨ (90 < m ∧ m < 97) ∨ (122 < m) ∨ m < 32 := by omega
        clear c0 c1 c2
        rcases q with ⟨q1, q2⟩ | ⟨q1, q2⟩ | q1 | q1
        all_goals
          go_enter Tryd.func35, Tryd.ntmps35
          go_wp2_with fail
          go_loopw [3] (fun _ w' => ∃ k : Nat, k ≤ 31 ∧ w' = w.iter aSignsB k ∧ Hid (∀ j, j < k → aSigns.getD j 0 ≠ m)) (fun _ w' => 31 - w'.iterPos w.heap.size)
          case atStart => exact ⟨0, by omega, rfl, by unfold Hid; intro j hj; omega⟩
          case round =>
            obtain ⟨k, hk, rfl, hq⟩ := hrel
            by_cases hlt : k < 31
            · have hat := Lib.hid (aSigns_at k hlt)
              have hbd := (aSigns_at k hlt).2
              have hnx : ∀ ty, (Instr.next (.pointer (some ⟨w.heap.size, 0, none⟩)) true ty).run Tryd.prog (w.iter aSignsB k) = _ := fun ty => run_next_ascii w aSignsB k ty hlt hbd
              by_cases he : aSigns.getD k 0 = m
              · have hb : (((aSignsB[k]'hlt).toNat : Int) == m) = true := by rw [beq_iff_eq, (aSigns_at k hlt).1, he]
                have hfin : Hid (aSort m = [28, (k : Int)]) := HS.out k (by rw [← he]; exact aSign_some k hlt)
                clear he
                go_wp2
                go_ret
                exact ret_lit_on (below_iter w aSignsB (k + 1)) [.int .i64 28, .int .i64 k] 2 _ rfl (by rw [hfin.out]; simp [cb]) (by omega)
              · have hb : (((aSignsB[k]'hlt).toNat : Int) == m) = false := by rw [beq_eq_false_iff_ne, (aSigns_at k hlt).1]; exact he
                have hq2 : Hid (∀ j, j < k + 1 → aSigns.getD j 0 ≠ m) := by
                  unfold Hid
                  intro j hj
                  rcases Nat.lt_or_ge j k with h | h
                  · exact hq.out j h
                  · obtain rfl : j = k := by omega
                    exact he
                clear he
                go_wp2
                go_roundw
                case rel => exact ⟨k + 1, by omega, rfl, hq2⟩
                case measure => simp; omega
            · obtain rfl : k = 31 := by omega
              have hnx : ∀ ty, (Instr.next (.pointer (some ⟨w.heap.size, 0, none⟩)) true ty).run Tryd.prog (w.iter aSignsB 31) = _ := fun ty => run_next_end w aSignsB 31 ty (by decide)
              have hno := Lib.hid (aSign_none m hq.out)
              first
                | (have hfin := Lib.hid (HN.out hno.out (by omega))
                   go_wp2
                   go_ret
                   exact ret_nil_on (below_iter w aSignsB 31) _ (by rw [hfin.out]; rfl))
                | (have hfin := Lib.hid (HW.out hno.out (by omega))
                   go_wp2
                   go_ret
                   exact ret_lit_on (below_iter w aSignsB 31) [.int .i64 29, .int .i64 (m / 16), .int .i64 (m % 16)] 3 _ rfl (by rw [hfin.out]; simp [cb]) (by omega))
                | (by_cases c4 : 126 < m
                   · have hfin := Lib.hid (HN.out hno.out (by omega))
                     go_wp2
                     go_ret
                     exact ret_nil_on (below_iter w aSignsB 31) _ (by rw [hfin.out]; rfl)
                   · have hfin := Lib.hid (HW.out hno.out (by omega))
                     go_wp2
                     go_ret
                     exact ret_lit_on (below_iter w aSignsB 31) [.int .i64 29, .int .i64 (m / 16), .int .i64 (m % 16)] 3 _ rfl (by rw [hfin.out]; simp [cb]) (by omega))
end Go.Proofs.YtfbpbpapfkimfaaDoor
