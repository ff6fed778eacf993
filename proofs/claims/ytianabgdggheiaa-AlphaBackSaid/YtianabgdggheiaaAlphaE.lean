/- The contracts of Pack, the program's and the reference's. -/
import Derived.Test.YtianabgdggheiaaAlphaD
namespace Go.Proofs.Ytianabgdggheiaa
open Go.RowKit Go.IntWalk
set_option maxRecDepth 100000
set_option linter.unusedVariables false

theorem pBits_app (l : List Int) (x : Int) : pBits (l ++ [x]) = pBits l ++ bits5 (x % 32) := by simp [pBits]

theorem put_int (x : Int) (h0 : 0 ≤ x) (h1 : x < 32) (w : World) (base Bo Bb : Nat) (l : List Int) (hP : Put w base Bo Bb l) (hbw : base ≤ w.heap.size) (hl : l.length ≤ 90000000) :
    Calls Try.prog 27 #[.int .i64 x, .pointer (some ⟨Bb, 0, none⟩), .pointer (some ⟨Bo, 0, none⟩)] w fun e w' => e = .returned (.tuple #[]) ∧ Put w' base Bo Bb (l ++ bits5 x) ∧ Below base w w' := by
  obtain ⟨n, rfl⟩ := Int.eq_ofNat_of_zero_le h0
  exact put_any n (by omega) w base Bo Bb l hP hbw hl

set_option maxHeartbeats 1600000 in
theorem pack_any (A : Option Addr) (n c : Nat) (ls : List Int) (w : World) (hr : Rd w w.heap.size A (cb .i64 ls)) (hn : n = ls.length) (hl : n ≤ 10000000) :
    Calls Try.prog 17 #[.slice A n c] w (RetOwn w 5 (cb .u8 (aPack ls))) := by
  have HN := Lib.hid hn
  clear hn
  go_enter Try.func17, Try.ntmps17
  go_wp2_with fail
  go_loopw [11] (fun i w2 => ∃ k : Nat, k ≤ n ∧ i = .int .i64 k ∧ Put w2 w.heap.size w.heap.size (w.heap.size + 1) (pBits (ls.take k)) ∧ Below w.heap.size w w2) (fun i _ => n - (intOf i).toNat)
  case atStart =>
    have h0 : Blk (w.alloc (.cells #[.slice none 0 0] 30)) w.heap.size 30 [.slice none 0 0] := Blk.new _ _ _
    have h1 : Blk ((w.alloc (.cells #[.slice none 0 0] 30)).alloc (.cells #[.int .i64 0] 3)) (w.heap.size + 1) 3 [.int .i64 0] := by
      simpa using Blk.new (w.alloc (.cells #[.slice none 0 0] 30)) 3 [.int .i64 0]
    exact ⟨0, by omega, rfl, ⟨⟨none, 0, 0, h0.alloc _, (Own.nil _ _ _).cast (by simp [pBits, pkB, cb])⟩, h1, (fun x hx => absurd hx (by simp [pBits])), ⟨Nat.le_refl _, by omega⟩, by simp [pBits]⟩, ((Below.refl _ _).alloc (Nat.le_refl _) _).alloc (by simp) _⟩
  case round =>
    obtain ⟨k, hk, rfl, hP, hbel⟩ := hrel
    have hb := hbel.size
    have hbl := Lib.hid (pBits_len (ls.take k))
    by_cases hlt : k < n
    · have hkl : k < ls.length := by have := HN.out; omega
      have hs := Lib.hid (pBits_snoc ls k hkl)
      obtain ⟨b, o, rfl, _, hc⟩ := (hr.below hbel).num (i := k) hkl
      go_wp2_with fail
      rw [and31]
      refine (put_int (ls[k] % 32) (by omega) (by omega) wr w.heap.size _ _ _ hP hb (by rw [hbl.out, List.length_take]; omega)).mono ?_
      rw [← hs.out]
      rintro e w3 ⟨rfl, hP3, hb3⟩
      go_wp2_with fail
      go_roundw
      case rel => exact ⟨k + 1, by omega, by go_num, hP3, hbel.trans hb3⟩
      case measure => simp [intOf]; omega
    · obtain rfl : k = n := by omega
      have hall : ls.take k = ls := List.take_of_length_le (by have := HN.out; omega)
      rw [hall] at hP hbl
      clear hall
      go_wp2_with fail
      refine (put_int 31 (by omega) (by omega) wr w.heap.size _ _ _ hP hb (by rw [hbl.out, ← HN.out]; omega)).mono ?_
      rintro e w3 ⟨rfl, hP3, hb3⟩
      obtain ⟨⟨A3, n3, c3, ho3, hown3⟩, _, _, _, _⟩ := hP3
      obtain ⟨q1, q2⟩ := ho3.one
      go_wp2
      go_ret
      exact ⟨A3, n3, c3, rfl, hown3, hbel.trans hb3⟩
end Go.Proofs.Ytianabgdggheiaa
