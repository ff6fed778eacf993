/- Chapter 22: the contracts of package wire over abstract values; low. -/
import Derived.Test.YtjloemlnejndmaaIsp
import Derived.Test.YtjloemlnejndmaaVwG
import Derived.Test.YtjloemlnejndmaaVwU
import Derived.Test.YtjloemlnejndmaaYa
import Derived.Test.YtjloemlnejndmaaProg
import Derived.KernelRfl
namespace Go.Proofs.Ytjloemlnejndmaa
open Go.RowKit
set_option maxRecDepth 100000
set_option linter.unusedVariables false
set_option linter.unusedSimpArgs false
theorem ints_pc (zs ls : List Int) (h1 : zs.length ≤ 100000000) (h2 : ls.length ≤ 100000000) : PC Try.prog 34 [bs zs, slI ls] (bs (zs ++ sInts ls)) := pc_puts (e := 5) fun A c L d w k1 k2 k3 k4 => ints_any A L _ c _ d zs ls w k1 rfl h1 k3 rfl h2
theorem byte_pc (zs : List Int) (m : Int) (h1 : zs.length ≤ 100000000) : PC Try.prog 39 [bs zs, vi m] (bs (zs ++ sByte m)) := pc_put (e := 5) fun A c w k1 k2 => byte_any A _ c zs m w k1 rfl (by omega)
theorem word_pc (zs : List Int) (m : Int) (h1 : zs.length ≤ 100000000) : PC Try.prog 35 [bs zs, vi m] (bs (zs ++ sWord m)) := pc_put (e := 5) fun A c w k1 k2 => word_any A _ c zs m w k1 rfl (by omega)
theorem long_pc (zs : List Int) (m : Int) (h1 : zs.length ≤ 100000000) (h0 : 0 ≤ m) (hm : m ≤ 4294967295) : PC Try.prog 37 [bs zs, .val (.int .u32 m)] (bs (zs ++ sLong m)) := pc_put (e := 5) fun A c w k1 k2 => long_any A _ c zs m w k1 rfl (by omega) h0 hm
theorem huge_pc (zs : List Int) (m : Int) (h1 : zs.length ≤ 100000000) (h0 : 0 ≤ m) (hm : m ≤ 18446744073709551615) : PC Try.prog 36 [bs zs, vu m] (bs (zs ++ sHuge m)) := pc_put (e := 5) fun A c w k1 k2 => huge_any A _ c zs m w k1 rfl h1 h0 hm
theorem takeInts_pc (xs : List Int) (s : Int × Int) (hl : xs.length ≤ 1000000) (hb : Byt xs) : PC Try.prog 50 [rdAv xs s, vi 32767] (.tup [slI (tI xs s).1, rdAv xs (tI xs s).2]) := pc_takes (e := 3) fun A c w k1 k2 => takeInts_any A _ c s.1 s.2 32767 xs w k1 rfl k2 hl hb
theorem takeHuge_pc (xs : List Int) (s : Int × Int) (hl : xs.length ≤ 1000000) (hb : Byt xs) : PC Try.prog 51 [rdAv xs s] (.tup [vu (tN xs 8 s).1, rdAv xs (tN xs 8 s).2]) := pc_take fun A c w k1 k2 => takeHuge_any A _ c s.1 s.2 xs w k1 rfl k2 (by omega) hb
theorem takeWord_pc (xs : List Int) (s : Int × Int) (hl : xs.length ≤ 1000000) (hb : Byt xs) : PC Try.prog 52 [rdAv xs s] (.tup [vi (wrap16 (tN xs 2 s).1), rdAv xs (tN xs 2 s).2]) := pc_take fun A c w k1 k2 => takeWord_any A _ c s.1 s.2 xs w k1 rfl k2 (by omega) hb
theorem takeLong_pc (xs : List Int) (s : Int × Int) (hl : xs.length ≤ 1000000) (hb : Byt xs) : PC Try.prog 53 [rdAv xs s] (.tup [.val (.int .u32 (tN xs 4 s).1), rdAv xs (tN xs 4 s).2]) := pc_take fun A c w k1 k2 => takeLong_any A _ c s.1 s.2 xs w k1 rfl k2 (by omega) hb
theorem takeByte_pc (xs : List Int) (s : Int × Int) (hl : xs.length ≤ 1000000) (hb : Byt xs) : PC Try.prog 54 [rdAv xs s] (.tup [vi (tN xs 1 s).1, rdAv xs (tN xs 1 s).2]) := pc_take fun A c w k1 k2 => takeByte_any A _ c s.1 s.2 xs w k1 rfl k2 (by omega) hb
theorem end_pc (xs : List Int) (s : Int × Int) : PC Try.prog 57 [rdAv xs s] (vi (sEnd xs.length s.1 s.2)) := pc_end fun A c w => end_any A _ c s.1 s.2 w
set_option maxHeartbeats 800000 in
theorem low32_pc (n : Int) : PC Try.prog 38 [vi n] (vi (n % 4294967296)) := by
  refine FC.body 6 6 Try.func38 rfl (by kernel_rfl) ?_
  refine aw_seq ?_
  refine aw_text rfl ?_
  refine ch_v (R := []) rfl rfl (oc_assign (x := .val _) rfl rfl) trivial ?_
  refine ck_nil ?_
  refine aw_seq ?_
  refine aw_text rfl ?_
  refine ch_v (R := []) rfl rfl (oc_move (x := .val _) rfl rfl) trivial ?_
  refine ch_v (R := []) rfl rfl (oc_conv (k := .i64) .u32 rfl rfl (by kernel_rfl) (by kernel_rfl)) trivial ?_
  refine ch_v (R := []) rfl rfl (oc_conv (k := .u32) .i64 rfl rfl (by kernel_rfl) (by kernel_rfl)) trivial ?_
  refine ch_v (R := []) rfl rfl (oc_assign (x := .val _) rfl rfl) trivial ?_
  refine ck_nil ?_
  refine aw_ret ?_
  exact ⟨.inl rfl, ResOk.tmp rfl (vi_eq (by rw [u32_is, i64_in _ (by omega) (by omega)])), trivial⟩
set_option maxHeartbeats 800000 in
theorem low16_pc (n : Int) : PC Try.prog 56 [vi n] (vi (n % 65536)) := by
  refine FC.body 6 6 Try.func56 rfl (by kernel_rfl) ?_
  refine aw_seq ?_
  refine aw_text rfl ?_
  refine ch_v (R := []) rfl rfl (oc_assign (x := .val _) rfl rfl) trivial ?_
  refine ck_nil ?_
  refine aw_seq ?_
  refine aw_text rfl ?_
  refine ch_v (R := []) rfl rfl (oc_move (x := .val _) rfl rfl) trivial ?_
  refine ch_v (R := []) rfl rfl (oc_conv (k := .i64) .u16 rfl rfl (by kernel_rfl) (by kernel_rfl)) trivial ?_
  refine ch_v (R := []) rfl rfl (oc_conv (k := .u16) .i64 rfl rfl (by kernel_rfl) (by kernel_rfl)) trivial ?_
  refine ch_v (R := []) rfl rfl (oc_assign (x := .val _) rfl rfl) trivial ?_
  refine ck_nil ?_
  refine aw_ret ?_
  exact ⟨.inl rfl, ResOk.tmp rfl (vi_eq (by rw [u16_is, i64_in _ (by omega) (by omega)])), trivial⟩
end Go.Proofs.Ytjloemlnejndmaa
