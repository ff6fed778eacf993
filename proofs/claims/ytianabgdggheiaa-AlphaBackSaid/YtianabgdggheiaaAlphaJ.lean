/- The example of chapter 6. -/
import Derived.Test.YtianabgdggheiaaAlphaI
import Derived.Test.YtianabgdggheiaaAlphaE
import Derived.Test.YtianabgdggheiaaAlphaG
import Derived.Test.YtianabgdggheiaaAlphaH
namespace Go.Proofs.Ytianabgdggheiaa
open Go.RowKit Go.IntWalk
set_option maxRecDepth 100000
set_option linter.unusedVariables false

theorem ex_codes : aTextCodes (tB ⟨#[97, 32, 66, 60]⟩) = ([1, 0, 27, 2, 28, 30], 0) := by decide
theorem ex_cost : (aCodes (tB ⟨#[126]⟩)).length = 3 := by decide
theorem ex_unpack : aUnpack [] = ([], 2) := by decide
theorem ex_pack : aPack [1] = [15, 192] := by decide
theorem sameInts_eq (A A' : Option Addr) (n n' c c' : Nat) (xs ys : List Int) (b : Bool) (w : World) (B B' : Nat) (hr : Rd w B A (cb .i64 xs)) (hr' : Rd w B' A' (cb .i64 ys)) (hx : n = xs.length) (hy : n' = ys.length) (hm : xs.length ≤ 1000000000) (hb : (xs == ys) = b) :
    Calls Try.prog 12 #[.slice A n c, .slice A' n' c'] w fun e w' => e = .returned (.bool b) ∧ Below w.heap.size w w' :=
  hb ▸ sameInts_any A A' n n' c c' xs ys w B B' hr hr' hx hy hm

theorem below_call {w w1 w2 : World} (h : Below w.heap.size w w1) (h' : Below w1.heap.size w1 w2) : Below w.heap.size w w2 := h.trans (h'.mono h.size)
theorem pack_one (b : Nat) (w : World) (hc : w.cell? ⟨b, 0, none⟩ = some (.int .i64 1)) (hb : b < w.heap.size) :
    Calls Try.prog 17 #[.slice (some ⟨b, 0, none⟩) 1 1] w fun e w' => ∃ A n c, e = .returned (.slice A n c) ∧ (convert 30 9 (.slice A n c)).run Try.prog w' = .ok (.string ⟨#[15, 192]⟩) w' ∧ (∀ o, (convert 30 9 (.slice A n c)).run Try.prog (w'.alloc o) = .ok (.string ⟨#[15, 192]⟩) (w'.alloc o)) ∧ Below w.heap.size w w' := by
  have hr : Rd w w.heap.size (some ⟨b, 0, none⟩) (cb .i64 [1]) := fun _ => ⟨b, 0, rfl, hb, fun j u hu => by
    match j, hu with
    | 0, hu => rw [← hu]; exact hc⟩
  refine (pack_any _ 1 1 [1] w hr rfl (by omega)).mono ?_
  rw [ex_pack]
  rintro e w4 ⟨A4, n4, c4, rfl, hown4, hb4⟩
  exact ⟨A4, n4, c4, rfl, conv_str (P := Try.prog) Try.underlying30 Try.underlying5 Try.underlying9 hown4.rd.2.2 hown4.rd.1, fun o => conv_str (P := Try.prog) Try.underlying30 Try.underlying5 Try.underlying9 (hown4.rd.2.2.alloc (Nat.le_refl _) o) hown4.rd.1, hb4⟩
theorem new_cell (w : World) (cs : Array Value) (t : TypeId) (b i : Nat) (u : Value) (hb : b = w.heap.size) (hu : cs[i]? = some u) : (w.alloc (.cells cs t)).cell? ⟨b, i, none⟩ = some u := by
  subst hb
  rw [cell_of_row (w.alloc (.cells cs t)) w.heap.size i cs t (0, 0) (heap_alloc_new w _), hu]
theorem conv_two (x y : Int) (b : Nat) (w : World) (h0 : w.cell? ⟨b, 0, none⟩ = some (.int .u8 x)) (h1 : w.cell? ⟨b, 1, none⟩ = some (.int .u8 y)) : (convert 30 9 (.slice (some ⟨b, 0, none⟩) 2 2)).run Try.prog w = .ok (.string (strOfNums [x, y])) w := by
  refine conv_str (P := Try.prog) (B := b + 1) Try.underlying30 Try.underlying5 Try.underlying9 (fun _ => ⟨b, 0, rfl, by omega, fun j u hu => ?_⟩) rfl
  match j, hu with
  | 0, hu => rw [← hu]; exact h0
  | 1, hu => rw [← hu]; exact h1
set_option maxHeartbeats 6400000 in
theorem awake_any (w : World) : Calls Try.prog 9 #[] w fun e w' => e = .returned (.bool true) ∧ Below w.heap.size w w' := by
  go_enter Try.func9, Try.ntmps9
  go_wp2_with fail
  refine (codes_any _ _ (by decide)).mono ?_
  rw [ex_codes]
  rintro e w1 ⟨A1, n1, c1, rfl, hown1, hb1⟩
  go_wp2_with fail
  refine (unpack_any none 0 0 [] _ (Rd.nil _ _ _) rfl Bts.nil (by omega)).mono ?_
  rw [ex_unpack]
  rintro e w2 ⟨A2, n2, c2, rfl, _, hb2⟩
  have hb12 := hb1.trans (hb2.mono hb1.size)
  have hown := hown1.below (hb2.mono (Nat.le_refl _))
  have hn1 := Lib.hid hown.rd.1
  go_wp2_with fail
  have hlit := fun b w h0 h1 => conv_two 15 192 b w h0 h1
  rw [show strOfNums [15, 192] = ⟨#[15, 192]⟩ from by decide] at hlit
  go_region_with (first
    | (go_at_call 12; refine (sameInts_eq A1 _ n1 6 c1 6 [1, 0, 27, 2, 28, 30] [1, 0, 27, 2, 28, 30] true _ _ _ (hown.rd.2.2.alloc (Nat.le_refl _) _).drew (Rd.new _ [.int .i64 1, .int .i64 0, .int .i64 27, .int .i64 2, .int .i64 28, .int .i64 30] _).drew hn1.out rfl (by decide) (by decide)).mono ?_; rintro e w3 ⟨rfl, hb3⟩; have hb13 := below_call (hb12.alloc hb12.size _).drew hb3; clear hb3)
    | (go_at_call 17; go_loud (refine (pack_one _ _ (by first | (simp; done) | (go_simp; done)) (by first | (simp; done) | (simp; omega))).mono ?_; rintro e w4 ⟨A4, n4, c4, rfl, cv1, cv2, hb4⟩; (try (refine (have q0 : w4.cell? ⟨w3.heap.size, 0, none⟩ = some (.int .u8 15) := ?_; ?_); focus (refine (hb4.cell ?_).trans ?_; all_goals (first | (simp; done) | (go_simp; done) | (refine new_cell _ _ _ _ _ _ ?_ rfl; simp; done))))); (try (refine (have q1 : w4.cell? ⟨w3.heap.size, 1, none⟩ = some (.int .u8 192) := ?_; ?_); focus (refine (hb4.cell ?_).trans ?_; all_goals (first | (simp; done) | (go_simp; done) | (refine new_cell _ _ _ _ _ _ ?_ rfl; simp; done))))); (try (refine (have q2 : w4.cell? ⟨w3.heap.size + 1, 0, none⟩ = some (.int .u8 15) := ?_; ?_); focus (refine (hb4.cell ?_).trans ?_; all_goals (first | (simp; done) | (go_simp; done) | (refine new_cell _ _ _ _ _ _ ?_ rfl; simp; done))))); (try (refine (have q3 : w4.cell? ⟨w3.heap.size + 1, 1, none⟩ = some (.int .u8 192) := ?_; ?_); focus (refine (hb4.cell ?_).trans ?_; all_goals (first | (simp; done) | (go_simp; done) | (refine new_cell _ _ _ _ _ _ ?_ rfl; simp; done))))); have hb14 := below_call (by first | exact hb13.alloc hb13.size _ | exact (hb13.alloc hb13.size _).alloc (by have := hb13.size; simp; omega) _) hb4; clear hb4))
    | (go_at_call 13; refine (cost_any _ _ (by decide)).mono ?_; rw [ex_cost]; rintro e w5 ⟨rfl, hb5⟩; have hb15 := below_call (by first | exact hb14 | exact hb14.alloc hb14.size _) hb5; clear hb5))
  all_goals
    go_wp2
    go_ret
    exact ⟨rfl, hb15⟩
end Go.Proofs.Ytianabgdggheiaa
