/- The contracts of package wire's encoding functions. -/
import Derived.Test.YtljebpbjjfnmkaaSlices
import Derived.Test.YtljebpbjjfnmkaaWireSpec
namespace Go.Proofs.Ytljebpbjjfnmkaa
open Go.RowKit Go.IntWalk
set_option maxRecDepth 100000
set_option linter.unusedVariables false

theorem wrap_any (n : Int) (w : World) : Calls Try.prog 44 #[.int .i64 n] w fun e w' => e = .returned (.int .i64 (wrap16 n)) ∧ w = w' := by
  go_enter Try.func44, Try.ntmps44
  go_wp2
  go_ret
  exact ⟨ret_int (by rw [w_i16, wrap64_in _ (by omega)]; rfl), rfl⟩

theorem byte_any (A : Option Addr) (n c : Nat) (zs : List Int) (m : Int) (w : World) (hr : Rd w w.heap.size A (cb .u8 zs)) (hn : n = zs.length) (hl : zs.length ≤ 200000000) :
    Calls Try.prog 10 #[.slice A n c, .int .i64 m] w (RetOwn w 5 (cb .u8 (zs ++ sByte m))) := by
  subst hn
  go_enter Try.func10, Try.ntmps10
  go_wp2_with (go_at_call 43; refine (behind_new A c zs (sByte m) _ 1 w hr rfl rfl (by simp [sByte]; omega)).mono ?_; rintro e w1 ⟨A1, n1, c1, rfl, hown, hb1⟩)
  go_ret
  exact ⟨A1, n1, c1, rfl, hown, hb1⟩
theorem word_any (A : Option Addr) (n c : Nat) (zs : List Int) (m : Int) (w : World) (hr : Rd w w.heap.size A (cb .u8 zs)) (hn : n = zs.length) (hl : zs.length ≤ 200000000) :
    Calls Try.prog 12 #[.slice A n c, .int .i64 m] w (RetOwn w 5 (cb .u8 (zs ++ sWord m))) := by
  subst hn
  go_enter Try.func12, Try.ntmps12
  go_wp2_with (first | (go_at_call 44; refine (wrap_any _ _).mono ?_; rintro e w' ⟨rfl, rfl⟩) | (go_at_call 43; refine (behind_new A c zs (sWord m) _ 2 w hr (word_cells m) rfl (by simp [sWord]; omega)).mono ?_; rintro e w1 ⟨A1, n1, c1, rfl, hown, hb1⟩))
  go_ret
  exact ⟨A1, n1, c1, rfl, hown, hb1⟩
theorem long_any (A : Option Addr) (n c : Nat) (zs : List Int) (m : Int) (w : World) (hr : Rd w w.heap.size A (cb .u8 zs)) (hn : n = zs.length) (hl : zs.length ≤ 200000000) (h0 : 0 ≤ m) (hm : m ≤ 4294967295) :
    Calls Try.prog 14 #[.slice A n c, .int .u32 m] w (RetOwn w 5 (cb .u8 (zs ++ sLong m))) := by
  subst hn
  go_enter Try.func14, Try.ntmps14
  go_wp2_with (go_at_call 43; refine (behind_new A c zs (sLong m) _ 4 w hr (long_cells m h0 hm) rfl (by simp [sLong]; omega)).mono ?_; rintro e w1 ⟨A1, n1, c1, rfl, hown, hb1⟩)
  go_ret
  exact ⟨A1, n1, c1, rfl, hown, hb1⟩
theorem huge_any (A : Option Addr) (n c : Nat) (zs : List Int) (m : Int) (w : World) (hr : Rd w w.heap.size A (cb .u8 zs)) (hn : n = zs.length) (hl : zs.length ≤ 100000000) (h0 : 0 ≤ m) (hm : m ≤ 18446744073709551615) :
    Calls Try.prog 16 #[.slice A n c, .int .u64 m] w (RetOwn w 5 (cb .u8 (zs ++ sHuge m))) := by
  subst hn
  go_enter Try.func16, Try.ntmps16
  go_wp2_with fail
  refine (long_any A _ c zs (m / 4294967296) w hr rfl (by omega) (by omega) (by omega)).mono ?_
  rintro e w1 ⟨A1, n1, c1, rfl, hown, hb1⟩
  go_wp2_with fail
  have hz := Lib.hid hown.rd.1
  refine (long_any A1 _ c1 (zs ++ sLong (m / 4294967296)) (m % 4294967296) w1 hown.rd.2.2 (by rw [hz.out]; simp) (by simp [sLong]; omega) (by omega) (by omega)).mono ?_
  rintro e w2 ⟨A2, n2, c2, rfl, hown2, hb2⟩
  go_wp2
  go_ret
  exact ⟨A2, n2, c2, rfl, by rw [sHuge, ← List.append_assoc]; exact hown2.less hb1.size, hb1.trans (hb2.mono hb1.size)⟩

theorem or128 (q : Nat) : bits .or .u8 ((q : Int) % 256) 128 = ((128 + q % 128 : Nat) : Int) := by
  have h : ∀ r : Fin 256, bits .or .u8 (r.val : Int) 128 = ((128 + r.val % 128 : Nat) : Int) := by decide +kernel
  have := h ⟨q % 256, by omega⟩
  simp only [Int.natCast_emod, Int.cast_ofNat_Int] at this
  rw [this]
  congr 2
  omega
set_option maxHeartbeats 400000 in
theorem size_nat (A : Option Addr) (n c : Nat) (zs : List Int) (m : Int) (N : Nat) (hN : m = N ∨ (m < 0 ∧ N = 0)) (w : World) (hr : Rd w w.heap.size A (cb .u8 zs)) (hn : n = zs.length) (hl : zs.length ≤ 100000000) (hm : N ≤ 9223372036854775807) :
    Calls Try.prog 18 #[.slice A n c, .int .i64 m] w (RetOwn w 5 (cb .u8 (zs ++ sSizeN N))) := by
  subst hn
  rcases hN with rfl | ⟨h0, hN0⟩
  all_goals
    first | have HN := Lib.hid hN0; clear hN0 | skip
    go_enter Try.func18, Try.ntmps18
    go_wp2_with fail
    refine (behind_any A none _ _ c _ (cb .u8 zs) [] w hr (Rd.nil _ _ _) (by simp) rfl (cb_one _ _) (by simp) (by simp; omega)).mono ?_
    rw [List.append_nil]
    rintro e w1 ⟨A1, n1, c1, rfl, hown, hb1⟩
    go_wp2_with fail
    have HM := Lib.hid hm
    clear hm
    go_loopw [5, 6] (fun u s w2 => ∃ (q : Nat) (ys : List Int) (A2 : Option Addr) (n2 c2 : Nat), u = .int .u64 q ∧ s = .slice A2 n2 c2 ∧ Own w2 w.heap.size 5 (.slice A2 n2 c2) (cb .u8 (zs ++ ys)) ∧ Below w.heap.size w w2 ∧ Hid (ys ++ sSizeN q = sSizeN N) ∧ Hid (q ≤ 9223372036854775807)) (fun u _ _ => (intOf u).toNat)
    case atStart => first | exact ⟨N, [], A1, n1, c1, rfl, rfl, by simpa using hown, hb1, rfl, HM⟩ | exact ⟨0, [], A1, n1, c1, rfl, rfl, by simpa using hown, hb1, by rw [HN.out]; exact rfl, by unfold Hid; omega⟩
    case round =>
      obtain ⟨q, ys, A2, n2, c2, rfl, rfl, hown2, hbel, hsz, hq⟩ := hrel
      have hyl : ys.length ≤ 9 := by
        have h1 := sSizeN_len N 8 (by have h2 : 128 ^ (8 + 1) = 9223372036854775808 := by decide
                                      have h3 := HM.out
                                      omega)
        rw [← hsz.out, List.length_append] at h1
        omega
      have hb := hbel.size
      by_cases hlt : 128 ≤ q
      · go_wp2_with (at_builtin; refine wp_app elemU8 rfl _ _ rfl rfl (hown2.alloc _) rfl (Rd.new _ [_] _) rfl (one1 _ _) (by simp; omega) (by simp; omega) (by simp; omega) ?_; intro A3 n3 c3 w3 hown3 hg3)
        rw [or128] at hown3
        go_roundw
        case rel => exact ⟨q / 128, ys ++ [((128 + q % 128 : Nat) : Int)], A3, n3, c3, by go_num, rfl, by simpa [cb] using hown3, below_own (hbel.alloc hb _) hg3 (hown2.alloc _) (Nat.le_refl _) (by simp; omega), by
          unfold Hid
          rw [← hsz.out, sSizeN_big (n := q) (by omega)]
          simp, by have := hq.out; unfold Hid; omega⟩
        case measure => simp [intOf]; omega
      · go_wp2_with (at_builtin; refine wp_app elemU8 rfl _ _ rfl rfl (hown2.alloc _) rfl (Rd.new _ [_] _) rfl (one1 _ _) (by simp; omega) (by simp; omega) (by simp; omega) ?_; intro A3 n3 c3 w3 hown3 hg3)
        go_ret
        exact ⟨A3, n3, c3, rfl, by rw [← hsz.out, sSizeN_small (by omega)]; simpa [cb] using hown3, below_own (hbel.alloc hb _) hg3 (hown2.alloc _) (Nat.le_refl _) (by simp; omega)⟩

theorem size_any (A : Option Addr) (n c : Nat) (zs : List Int) (m : Int) (w : World) (hr : Rd w w.heap.size A (cb .u8 zs)) (hn : n = zs.length) (hl : zs.length ≤ 100000000) (hm : m ≤ 9223372036854775807) :
    Calls Try.prog 18 #[.slice A n c, .int .i64 m] w (RetOwn w 5 (cb .u8 (zs ++ sSize m))) :=
  size_nat A n c zs m m.toNat (by omega) w hr hn hl (by omega)

theorem text_any (A : Option Addr) (n c : Nat) (zs : List Int) (s : ByteArray) (w : World) (hr : Rd w w.heap.size A (cb .u8 zs)) (hn : n = zs.length) (hl : zs.length ≤ 100000000) (hs : s.size ≤ 100000000) :
    Calls Try.prog 20 #[.slice A n c, .string s] w (RetOwn w 5 (cb .u8 (zs ++ sText s))) := by
  subst hn
  go_enter Try.func20, Try.ntmps20
  go_wp2_with fail
  refine (size_any A _ c zs _ w hr rfl hl (by omega)).mono ?_
  rintro e w1 ⟨A1, n1, c1, rfl, hown, hb1⟩
  have hsl := sSize_len (s.size : Int) (by omega)
  have hb := hb1.size
  go_wp2_with (at_builtin; refine wp_app_str elemU8 Try.underlying9 rfl _ _ rfl rfl hown rfl (by simp; omega) hb ?_; intro A3 n3 c3 w3 hown3 hg3)
  go_ret
  exact ⟨A3, n3, c3, rfl, by rw [sText, ← List.append_assoc, cb_append, ← strCells_s]; exact hown3, below_own hb1 hg3 hown (Nat.le_refl _) hb⟩

theorem ints_any (A L : Option Addr) (n c m d : Nat) (zs ls : List Int) (w : World) (hr : Rd w w.heap.size A (cb .u8 zs)) (hn : n = zs.length) (hl : zs.length ≤ 100000000) (hL : Rd w w.heap.size L (cb .i64 ls)) (hm : m = ls.length) (hs : ls.length ≤ 100000000) :
    Calls Try.prog 22 #[.slice A n c, .slice L m d] w (RetOwn w 5 (cb .u8 (zs ++ sInts ls))) := by
  subst hn; subst hm
  go_enter Try.func22, Try.ntmps22
  go_wp2_with fail
  refine (size_any A _ c zs _ w hr rfl hl (by omega)).mono ?_
  rintro e w1 ⟨A1, n1, c1, rfl, hown, hb1⟩
  have hsl := sSize_len (ls.length : Int) (by omega)
  go_wp2_with fail
  go_loopw [5, 15] (fun s i w2 => ∃ (k : Nat) (A2 : Option Addr) (n2 c2 : Nat), k ≤ ls.length ∧ i = .int .i64 k ∧ s = .slice A2 n2 c2 ∧ Own w2 w.heap.size 5 (.slice A2 n2 c2) (cb .u8 ((zs ++ sSize ls.length) ++ (ls.take k).flatMap sWord)) ∧ Below w.heap.size w w2) (fun _ i _ => ls.length - (intOf i).toNat)
  case atStart => exact ⟨0, A1, n1, c1, by omega, rfl, rfl, by simpa using hown, hb1⟩
  case round =>
    obtain ⟨k, A2, n2, c2, hk, rfl, rfl, hown2, hbel⟩ := hrel
    have hb := hbel.size
    by_cases hlt : k < ls.length
    · obtain ⟨b, o, rfl, _, hc⟩ := (hL.below hbel).num hlt
      have hlen : ((ls.take k).flatMap sWord).length = 2 * k := by rw [words_len, List.length_take]; omega
      go_wp2_with (first | (go_at_call 44; refine (wrap_any _ _).mono ?_; rintro e w' ⟨rfl, rfl⟩) | (at_builtin; refine wp_app elemU8 rfl _ _ rfl rfl (hown2.alloc _) rfl (Rd.new _ [_, _] _) rfl (one2 _ _ _) (by simp [hlen]; omega) (by simp [hlen]; omega) (by simp; omega) ?_; intro A3 n3 c3 w3 hown3 hg3))
      rw [word_cells] at hown3
      go_roundw
      case rel => exact ⟨k + 1, A3, n3, c3, by omega, by go_num, rfl, by rw [words_snoc _ _ hlt, ← List.append_assoc, cb_append]; exact hown3, below_own (hbel.alloc hb _) hg3 (hown2.alloc _) (Nat.le_refl _) (by simp; omega)⟩
      case measure => simp [intOf]; omega
    · obtain rfl : k = ls.length := by omega
      go_wp2
      go_ret
      exact ⟨A2, n2, c2, rfl, by rw [sInts, ← List.append_assoc]; rw [List.take_length] at hown2; exact hown2, hbel⟩
end Go.Proofs.Ytljebpbjjfnmkaa
