/- Package strings: the Builder: copyCheck, WriteString, String, walked; name 0 is the builder, 1 its bytes, 2 the new bytes. -/
import Derived.Test.YtfbpbpapfkimfaaDoorBld
import Derived.Test.YtfbpbpapfkimfaaDoorBcb
import Derived.Test.YtfbpbpapfkimfaaDoorProg
import Derived.KernelRfl
namespace Go.Proofs.YtfbpbpapfkimfaaDoor
open Go.RowKit
set_option maxRecDepth 100000
set_option linter.unusedVariables false
set_option linter.unusedSimpArgs false
theorem res_noneB {P : Program} {fn : Func} {Γ : Ctx} (h : fn.results = #[]) : ResOk P fn Γ .any := fun E a _ _ => ⟨_, results_none h _ _ _, by unfold Rep; trivial⟩
/-- What the builder's first cell holds. -/
def bldX (u : Bool) : Av := bif u then .own 0 0 else .val (.pointer none)
theorem inNL_byt {Z : Nat → Prop} (s : ByteArray) : InNL Z (bytA s) := InNL.of_pure _ (by
  unfold bytA
  induction s.data.toList with
  | nil => simp [PureL]
  | cons c l ih => rw [List.map_cons]; exact ⟨by simp [Pure], ih⟩)
theorem ren_byt (π : Nat → Nat) (s : ByteArray) : (bytA s).map (Av.ren π) = bytA s := by
  unfold bytA
  rw [List.map_map]
  rfl
theorem non_byt {Z : List Nat} (s : ByteArray) : ∀ z ∈ bytA s, NoN Z z := fun z hz => by
  obtain ⟨c, _, rfl⟩ := List.mem_map.1 hz
  simp [NoN]
set_option maxHeartbeats 800000 in
theorem copyCheck_new (len : Nat) (cs : List Av) : FC Tryd.prog 41 [.own 0 0] [(0, .live 55 [.val (.pointer none), .osl 1 1 len]), (1, .live 5 cs)] .any [(0, .live 55 [.own 0 0, .osl 1 1 len]), (1, .live 5 cs)] := by
  refine FC.body 2 20 Tryd.func41 rfl (by kernel_rfl) ?_
  refine aw_seq ?_
  refine aw_text rfl ?_
  refine ch_v (R := []) rfl rfl (oc_move (x := .own _ _) rfl rfl) trivial ?_
  refine ch_v (R := [(_, .live _ _)]) rfl rfl (oc_nilCheck_own rfl rfl (by first | decide | simp)) ⟨rfl, trivial⟩ ?_
  refine ch_v (R := [(_, .live _ _)]) rfl rfl (oc_fieldAddr_own (off := 0) (sz := 1) (r := false) rfl rfl (by first | decide | simp) (by kernel_rfl) (by decide)) ⟨rfl, trivial⟩ ?_
  refine ch_v (R := [(_, .live _ _)]) rfl rfl (oc_load_own rfl rfl (by kernel_rfl) rfl) ⟨rfl, trivial⟩ ?_
  refine ch_v (R := []) rfl rfl (oc_ptr_nil rfl rfl (by kernel_rfl)) trivial ?_
  refine ck_nil ?_
  refine aw_cond rfl (fun hb => ?_) (fun hb => ?_)
  · refine aw_text rfl ?_
    refine ch_v (R := []) rfl rfl (oc_move (x := .own _ _) rfl rfl) trivial ?_
    refine ch_v (R := []) rfl rfl (oc_move (x := .own _ _) rfl rfl) trivial ?_
    refine ch_v (R := [(_, .live _ _)]) rfl rfl (oc_toU (t := 55) (e := 55) (y := .val (.pointer none)) (cs := [.osl 1 1 len]) rfl rfl (by kernel_rfl) (by kernel_rfl) (by kernel_rfl)) ⟨rfl, trivial⟩ ?_
    refine ch_v (R := []) rfl rfl (oc_noEscape rfl rfl Tryd.func47 (by kernel_rfl) (by kernel_rfl) (by kernel_rfl) (by kernel_rfl)) trivial ?_
    refine ch_v (R := [(_, .live _ _)]) rfl rfl (oc_fromU (t := 55) (y := .val (.pointer none)) (cs := [.osl 1 1 len]) rfl rfl (by kernel_rfl) (by kernel_rfl) (by kernel_rfl) (by kernel_rfl) (by decide)) ⟨rfl, trivial⟩ ?_
    refine ch_v (R := [(_, .live _ _)]) rfl rfl (oc_nilCheck_own rfl rfl (by first | decide | simp)) ⟨rfl, trivial⟩ ?_
    refine ch_v (R := [(_, .live _ _)]) rfl rfl (oc_fieldAddr_own (off := 0) (sz := 1) (r := false) rfl rfl (by first | decide | simp) (by kernel_rfl) (by decide)) ⟨rfl, trivial⟩ ?_
    refine ch_n rfl rfl (oc_store (y := .own _ _) (cs' := [_, _]) rfl rfl rfl (by kernel_rfl) (by kernel_rfl) cells_own (by first | decide | (simp; done) | (simp; omega)) rfl) ⟨rfl, trivial⟩ ?_
    refine ck_nil ?_
    exact ⟨.inr rfl, res_noneB rfl, ⟨rfl, rfl, trivial⟩⟩
  · exact absurd hb (by decide)
set_option maxHeartbeats 800000 in
theorem copyCheck_used (len : Nat) (cs : List Av) : FC Tryd.prog 41 [.own 0 0] [(0, .live 55 [.own 0 0, .osl 1 1 len]), (1, .live 5 cs)] .any [(0, .live 55 [.own 0 0, .osl 1 1 len]), (1, .live 5 cs)] := by
  refine FC.body 2 20 Tryd.func41 rfl (by kernel_rfl) ?_
  refine aw_seq ?_
  refine aw_text rfl ?_
  refine ch_v (R := []) rfl rfl (oc_move (x := .own _ _) rfl rfl) trivial ?_
  refine ch_v (R := [(_, .live _ _)]) rfl rfl (oc_nilCheck_own rfl rfl (by first | decide | simp)) ⟨rfl, trivial⟩ ?_
  refine ch_v (R := [(_, .live _ _)]) rfl rfl (oc_fieldAddr_own (off := 0) (sz := 1) (r := false) rfl rfl (by first | decide | simp) (by kernel_rfl) (by decide)) ⟨rfl, trivial⟩ ?_
  refine ch_v (R := [(_, .live _ _)]) rfl rfl (oc_load_own rfl rfl (by kernel_rfl) rfl) ⟨rfl, trivial⟩ ?_
  refine ch_v (R := [(_, .live _ _)]) rfl rfl (oc_ptr_own (t := 55) (y := .own 0 0) (cs := [.osl 1 1 len]) rfl rfl (by kernel_rfl)) ⟨rfl, trivial⟩ ?_
  refine ck_nil ?_
  refine aw_cond rfl (fun hb => ?_) (fun hb => ?_)
  · exact absurd hb (by decide)
  · refine aw_seq ?_
    refine aw_text rfl ?_
    refine ch_v (R := []) rfl rfl (oc_move (x := .own _ _) rfl rfl) trivial ?_
    refine ch_v (R := [(_, .live _ _)]) rfl rfl (oc_nilCheck_own rfl rfl (by first | decide | simp)) ⟨rfl, trivial⟩ ?_
    refine ch_v (R := [(_, .live _ _)]) rfl rfl (oc_fieldAddr_own (off := 0) (sz := 1) (r := false) rfl rfl (by first | decide | simp) (by kernel_rfl) (by decide)) ⟨rfl, trivial⟩ ?_
    refine ch_v (R := [(_, .live _ _)]) rfl rfl (oc_load_own rfl rfl (by kernel_rfl) rfl) ⟨rfl, trivial⟩ ?_
    refine ch_v (R := []) rfl rfl (oc_move (x := .own _ _) rfl rfl) trivial ?_
    refine ch_v (R := [(_, .live _ _)]) rfl rfl (oc_ptr_same (t := 55) (e := 55) (y := .own 0 0) (cs := [.osl 1 1 len]) rfl rfl rfl (by kernel_rfl) (by kernel_rfl)) ⟨rfl, trivial⟩ ?_
    refine ck_nil ?_
    refine aw_cond rfl (fun hb => ?_) (fun hb => ?_)
    · exact absurd hb (by decide)
    · refine aw_skip ?_
      exact ⟨.inr rfl, res_noneB rfl, ⟨rfl, rfl, trivial⟩⟩
theorem copyCheck_fc (u : Bool) (len : Nat) (cs : List Av) : FC Tryd.prog 41 [.own 0 0] [(0, .live 55 [bldX u, .osl 1 1 len]), (1, .live 5 cs)] .any [(0, .live 55 [.own 0 0, .osl 1 1 len]), (1, .live 5 cs)] := by
  cases u
  · exact copyCheck_new len cs
  · exact copyCheck_used len cs
set_option maxHeartbeats 800000 in
theorem writeString_fcm (u : Bool) (a s : ByteArray) (hs : a.size + s.size ≤ 140737488355328) : FCM Tryd.prog 31 [.own 0 0, vs s] [(0, .live 55 [bldX u, .osl 1 1 a.size])] [(1, .live 5 (bytA a))] (.tup [vi s.size, .val .nilIface]) [(0, .live 55 [.own 0 0, .osl 1 2 (a ++ s).size]), (2, .live 5 (bytA (a ++ s)))] := by
  refine FCM.body 3 19 Tryd.func31 rfl (by kernel_rfl) ?_
  refine aw_seq ?_
  refine aw_text rfl ?_
  refine ch_v (R := []) rfl rfl (oc_assign (x := .val _) rfl rfl) trivial ?_
  refine ch_v (R := []) rfl rfl (oc_assign (x := .val _) rfl rfl) trivial ?_
  refine ck_nil ?_
  refine aw_seq ?_
  refine aw_text rfl ?_
  refine ch_v (R := []) rfl rfl (oc_move (x := .own _ _) rfl rfl) trivial ?_
  refine ch_u rfl rfl (oc_callFC [] rfl (by kernel_rfl) (FC.m (copyCheck_fc u a.size (bytA a))) rfl (by simp) (by simp [bornH]) (by simp) (by simp) (by simp [InNL, InN]) ⟨by cases u <;> simp [bldX, InH, InNL, InN], inNL_byt a, trivial⟩ (by simp [InN, InNL]) ⟨by simp [InH, InNL, InN], inNL_byt a, trivial⟩) ⟨rfl, rfl, trivial⟩ ?_
  refine ck_nil ?_
  refine aw_seq ?_
  refine aw_text rfl ?_
  refine ch_v (R := []) rfl rfl (oc_move (x := .own _ _) rfl rfl) trivial ?_
  refine ch_v (R := []) rfl rfl (oc_move (x := .own _ _) rfl rfl) trivial ?_
  refine ch_v (R := [(_, .live _ _)]) rfl rfl (oc_nilCheck_own rfl rfl (by first | decide | simp)) ⟨rfl, trivial⟩ ?_
  refine ch_v (R := [(_, .live _ _)]) rfl rfl (oc_fieldAddr_own (off := 1) (sz := 1) (r := false) rfl rfl (by first | decide | simp) (by kernel_rfl) (by decide)) ⟨rfl, trivial⟩ ?_
  refine ch_v (R := [(_, .live _ _)]) rfl rfl (oc_load_own rfl rfl (by kernel_rfl) rfl) ⟨rfl, trivial⟩ ?_
  refine ch_v (R := []) rfl rfl (oc_move (x := .val _) rfl rfl) trivial ?_
  refine ch_u rfl rfl (oc_appendS (e := 5) (cs := bytA a) (s := s) 2 rfl rfl rfl (by kernel_rfl) (by kernel_rfl) (by kernel_rfl) (by kernel_rfl) (by decide) (bytA_len a) hs) ⟨rfl, rfl, trivial⟩ ?_
  refine ch_v (R := [(_, .live _ _)]) rfl rfl (oc_nilCheck_own rfl rfl (by first | decide | simp)) ⟨rfl, trivial⟩ ?_
  refine ch_v (R := [(_, .live _ _)]) rfl rfl (oc_fieldAddr_own (off := 1) (sz := 1) (r := false) rfl rfl (by first | decide | simp) (by kernel_rfl) (by decide)) ⟨rfl, trivial⟩ ?_
  refine ch_n rfl rfl (oc_store (y := .osl _ _ _) (cs' := [_, _]) rfl rfl rfl (by kernel_rfl) (by kernel_rfl) cells_osl (by first | decide | (simp; done) | (simp; omega)) rfl) ⟨rfl, trivial⟩ ?_
  refine ck_nil ?_
  refine aw_seq ?_
  refine aw_text rfl ?_
  refine ch_v (R := []) rfl rfl (oc_move (x := .val _) rfl rfl) trivial ?_
  refine ch_v (R := []) rfl rfl (oc_len_str rfl rfl (by kernel_rfl)) trivial ?_
  refine ch_v (R := []) rfl rfl (oc_assign (x := .val _) rfl rfl) trivial ?_
  refine ch_v (R := []) rfl rfl (oc_assign (x := .val _) rfl rfl) trivial ?_
  refine ck_nil ?_
  refine aw_ret ?_
  exact ⟨.inl rfl, ResOk.two rfl (ResC.tmp rfl) (ResC.tmp rfl), ⟨by rw [ByteArray.size_append]; rfl, by rw [bytA_app]; rfl, trivial⟩⟩
set_option maxHeartbeats 800000 in
theorem string_some (x : Av) (s : ByteArray) (h0 : 0 < s.size) (h63 : s.size ≤ 9223372036854775807) : FCM Tryd.prog 32 [.own 0 0] [] [(0, .live 55 [x, .osl 1 1 s.size]), (1, .live 5 (bytA s))] (vs s) [] := by
  refine FCM.body 2 14 Tryd.func32 rfl (by kernel_rfl) ?_
  refine aw_seq ?_
  refine aw_text rfl ?_
  refine ch_v (R := []) rfl rfl (oc_assign (x := .val _) rfl rfl) trivial ?_
  refine ck_nil ?_
  refine aw_seq ?_
  refine aw_draw mixed ?_
  refine ch_v (R := []) rfl rfl (oc_move (x := .own _ _) rfl rfl) trivial ?_
  refine ch_v (R := [(_, .live _ _)]) rfl rfl (oc_nilCheck_own rfl rfl (by first | decide | simp)) ⟨rfl, trivial⟩ ?_
  refine ch_v (R := [(_, .live _ _)]) rfl rfl (oc_fieldAddr_own (off := 1) (sz := 1) (r := false) rfl rfl (by first | decide | simp) (by kernel_rfl) (by decide)) ⟨rfl, trivial⟩ ?_
  refine ch_v (R := [(_, .live _ _)]) rfl rfl (oc_load_own rfl rfl (by kernel_rfl) rfl) ⟨rfl, trivial⟩ ?_
  refine ch_v (R := [(_, .live _ _)]) rfl rfl (oc_sliceData (t := 5) (cs := bytA s) rfl rfl (by rw [bytA_len]; exact h0) h0) ⟨rfl, trivial⟩ ?_
  refine ch_v (R := []) rfl rfl (oc_move (x := .own _ _) rfl rfl) trivial ?_
  refine ch_v (R := [(_, .live _ _)]) rfl rfl (oc_nilCheck_own rfl rfl (by first | decide | simp)) ⟨rfl, trivial⟩ ?_
  refine ch_v (R := [(_, .live _ _)]) rfl rfl (oc_fieldAddr_own (off := 1) (sz := 1) (r := false) rfl rfl (by first | decide | simp) (by kernel_rfl) (by decide)) ⟨rfl, trivial⟩ ?_
  refine ch_v (R := [(_, .live _ _)]) rfl rfl (oc_load_own rfl rfl (by kernel_rfl) rfl) ⟨rfl, trivial⟩ ?_
  refine ch_v (R := []) rfl rfl (oc_len_osl rfl rfl (by kernel_rfl)) trivial ?_
  refine ch_u rfl rfl (oc_unsafeString (e := 5) (n := s.size) rfl rfl rfl (by kernel_rfl) (by kernel_rfl) rfl h0 h63) ⟨rfl, trivial⟩ ?_
  refine ch_v (R := []) rfl rfl (oc_assign (x := .val _) rfl rfl) trivial ?_
  refine ck_nil ⟨by kernel_rfl, ?_⟩
  refine aw_ret ?_
  exact ⟨.inl rfl, ResOk.tmp rfl rfl, trivial⟩
set_option maxHeartbeats 800000 in
theorem string_none (x : Av)  : FCM Tryd.prog 32 [.own 0 0] [] [(0, .live 55 [x, .osl 1 1 ByteArray.empty.size]), (1, .live 5 (bytA ByteArray.empty))] (vs ByteArray.empty) [] := by
  refine FCM.body 2 14 Tryd.func32 rfl (by kernel_rfl) ?_
  refine aw_seq ?_
  refine aw_text rfl ?_
  refine ch_v (R := []) rfl rfl (oc_assign (x := .val _) rfl rfl) trivial ?_
  refine ck_nil ?_
  refine aw_seq ?_
  refine aw_draw mixed ?_
  refine ch_v (R := []) rfl rfl (oc_move (x := .own _ _) rfl rfl) trivial ?_
  refine ch_v (R := [(_, .live _ _)]) rfl rfl (oc_nilCheck_own rfl rfl (by first | decide | simp)) ⟨rfl, trivial⟩ ?_
  refine ch_v (R := [(_, .live _ _)]) rfl rfl (oc_fieldAddr_own (off := 1) (sz := 1) (r := false) rfl rfl (by first | decide | simp) (by kernel_rfl) (by decide)) ⟨rfl, trivial⟩ ?_
  refine ch_v (R := [(_, .live _ _)]) rfl rfl (oc_load_own rfl rfl (by kernel_rfl) rfl) ⟨rfl, trivial⟩ ?_
  refine ch_u rfl rfl (oc_sliceData0 (t := 5) (e := 5) rfl rfl (by kernel_rfl)) ⟨rfl, trivial⟩ ?_
  refine ch_v (R := []) rfl rfl (oc_move (x := .own _ _) rfl rfl) trivial ?_
  refine ch_v (R := [(_, .live _ _)]) rfl rfl (oc_nilCheck_own rfl rfl (by first | decide | simp)) ⟨rfl, trivial⟩ ?_
  refine ch_v (R := [(_, .live _ _)]) rfl rfl (oc_fieldAddr_own (off := 1) (sz := 1) (r := false) rfl rfl (by first | decide | simp) (by kernel_rfl) (by decide)) ⟨rfl, trivial⟩ ?_
  refine ch_v (R := [(_, .live _ _)]) rfl rfl (oc_load_own rfl rfl (by kernel_rfl) rfl) ⟨rfl, trivial⟩ ?_
  refine ch_v (R := []) rfl rfl (oc_len_osl rfl rfl (by kernel_rfl)) trivial ?_
  refine ch_v (R := []) rfl rfl (oc_unsafeString0 rfl rfl rfl) trivial ?_
  refine ch_v (R := []) rfl rfl (oc_assign (x := .val _) rfl rfl) trivial ?_
  refine ck_nil ⟨by kernel_rfl, ?_⟩
  refine aw_ret ?_
  exact ⟨.inl rfl, ResOk.tmp rfl rfl, trivial⟩
theorem string_fcm (x : Av) (s : ByteArray) (h63 : s.size ≤ 9223372036854775807) : FCM Tryd.prog 32 [.own 0 0] [] [(0, .live 55 [x, .osl 1 1 s.size]), (1, .live 5 (bytA s))] (vs s) [] := by
  rcases Nat.eq_zero_or_pos s.size with h | h
  · have e : s = ByteArray.empty := by
      have hl : s.data.toList.length = 0 := by rw [Array.length_toList]; exact h
      have := List.eq_nil_of_length_eq_zero hl
      refine ByteArray.ext (Array.toList_inj.1 this)
    subst e
    exact string_none x
  · exact string_some x s h h63
end Go.Proofs.YtfbpbpapfkimfaaDoor
