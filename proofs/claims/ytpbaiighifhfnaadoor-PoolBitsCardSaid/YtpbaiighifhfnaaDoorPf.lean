/- Package strings: the Builder: String that may be called again, walked; name 0 is the builder, 1 its bytes. Chapter 8: unpacked, said: plain; the closures of unpacked, walked. Chapter 8: pool.unpacked, walked. Chapter 8: the document's said, walked. -/
import Derived.Test.YtpbaiighifhfnaaDoorBcg
import Derived.Test.YtpbaiighifhfnaaDoorBlf
import Derived.Test.YtpbaiighifhfnaaDoorProg
import Derived.KernelRfl
import Derived.Test.YtpbaiighifhfnaaDoorPk
namespace Go.Proofs.YtpbaiighifhfnaaDoor
open Go.RowKit
set_option maxRecDepth 100000
set_option linter.unusedVariables false
set_option linter.unusedSimpArgs false
set_option maxHeartbeats 800000 in
theorem string_first1 (x : Av) (s : ByteArray) (h0 : 0 < s.size) (h63 : s.size ≤ 9223372036854775807) : FCM Tryd.prog 62 [.own 0 0] [(0, .live 77 [x, .osl 1 1 s.size])] [(1, .live 5 (bytA s))] (vs s) [(0, .live 77 [x, .frz false 5 (Lib.strCells s)])] := by
  refine FCM.body 4 14 Tryd.func62 rfl (by kernel_rfl) ?_
  refine aw_seq ?_
  refine aw_text rfl ?_
  refine ch_v (R := []) rfl rfl (oc_assign (x := .val _) rfl rfl) trivial ?_
  refine ck_nil ?_
  refine aw_seq ?_
  refine aw_draw mixed ?_
  refine ch_v (R := []) rfl rfl (oc_move (x := .own _ _) rfl rfl) trivial ?_
  refine ch_v (R := [(_, .live _ _)]) rfl rfl (oc_nilCheck_own rfl rfl (by first | decide | simp)) ⟨rfl, trivial⟩ ?_
  refine ch_v (R := [(_, .live _ _)]) rfl rfl (oc_fieldAddr_own (off := 1) (sz := 1) (r := false) rfl rfl (by first | decide | simp) (by kernel_rfl) (by decide)) ⟨rfl, trivial⟩ ?_
  refine ch_v (R := [(_, .live _ _)]) rfl rfl (oc_load_own rfl rfl (by kernel_rfl) rfl) ⟨rfl, trivial⟩ ?_
  refine ch_v (R := [(_, .live _ _)]) rfl rfl (oc_sliceData (t := 5) (cs := bytA s) rfl rfl (by rw [bytA_len]; exact h0) h0) ⟨rfl, trivial⟩ ?_
  refine ch_v (R := []) rfl rfl (oc_move (x := .own _ _) rfl rfl) trivial ?_
  refine ch_v (R := [(_, .live _ _)]) rfl rfl (oc_nilCheck_own rfl rfl (by first | decide | simp)) ⟨rfl, trivial⟩ ?_
  refine ch_v (R := [(_, .live _ _)]) rfl rfl (oc_fieldAddr_own (off := 1) (sz := 1) (r := false) rfl rfl (by first | decide | simp) (by kernel_rfl) (by decide)) ⟨rfl, trivial⟩ ?_
  refine ch_v (R := [(_, .live _ _)]) rfl rfl (oc_load_own rfl rfl (by kernel_rfl) rfl) ⟨rfl, trivial⟩ ?_
  refine ch_v (R := []) rfl rfl (oc_len_osl rfl rfl (by kernel_rfl)) trivial ?_
  refine ch_u rfl rfl (oc_unsafeStringK (e := 5) (T0 := 77) (n0 := 0) (n := s.size) (x := x) rfl rfl rfl (by kernel_rfl) (by kernel_rfl) rfl h0 h63 (by decide)) ⟨rfl, rfl, trivial⟩ ?_
  refine ch_v (R := []) rfl rfl (oc_assign (x := .val _) rfl rfl) trivial ?_
  refine ck_nil ⟨by kernel_rfl, ?_⟩
  refine aw_ret ?_
  exact ⟨.inl rfl, ResOk.tmp rfl rfl, ⟨rfl, trivial⟩⟩
set_option maxHeartbeats 800000 in
theorem string_again (x : Av) (s : ByteArray) (h0 : 0 < s.size) (h63 : s.size ≤ 9223372036854775807) : FCM Tryd.prog 62 [.own 0 0] [(0, .live 77 [x, .frz false 5 (Lib.strCells s)])] [] (vs s) [(0, .live 77 [x, .frz false 5 (Lib.strCells s)])] := by
  refine FCM.body 4 14 Tryd.func62 rfl (by kernel_rfl) ?_
  refine aw_seq ?_
  refine aw_text rfl ?_
  refine ch_v (R := []) rfl rfl (oc_assign (x := .val _) rfl rfl) trivial ?_
  refine ck_nil ?_
  refine aw_seq ?_
  refine aw_draw mixed ?_
  refine ch_v (R := []) rfl rfl (oc_move (x := .own _ _) rfl rfl) trivial ?_
  refine ch_v (R := [(_, .live _ _)]) rfl rfl (oc_nilCheck_own rfl rfl (by first | decide | simp)) ⟨rfl, trivial⟩ ?_
  refine ch_v (R := [(_, .live _ _)]) rfl rfl (oc_fieldAddr_own (off := 1) (sz := 1) (r := false) rfl rfl (by first | decide | simp) (by kernel_rfl) (by decide)) ⟨rfl, trivial⟩ ?_
  refine ch_v (R := [(_, .live _ _)]) rfl rfl (oc_load_own rfl rfl (by kernel_rfl) rfl) ⟨rfl, trivial⟩ ?_
  refine ch_v (R := []) rfl rfl (oc_sliceDataZ rfl rfl (by rw [Lib.strCells_length]; exact h0)) trivial ?_
  refine ch_v (R := []) rfl rfl (oc_move (x := .own _ _) rfl rfl) trivial ?_
  refine ch_v (R := [(_, .live _ _)]) rfl rfl (oc_nilCheck_own rfl rfl (by first | decide | simp)) ⟨rfl, trivial⟩ ?_
  refine ch_v (R := [(_, .live _ _)]) rfl rfl (oc_fieldAddr_own (off := 1) (sz := 1) (r := false) rfl rfl (by first | decide | simp) (by kernel_rfl) (by decide)) ⟨rfl, trivial⟩ ?_
  refine ch_v (R := [(_, .live _ _)]) rfl rfl (oc_load_own rfl rfl (by kernel_rfl) rfl) ⟨rfl, trivial⟩ ?_
  refine ch_v (R := []) rfl rfl (oc_len_frz (n := s.size) rfl rfl (Lib.strCells_length s) (by kernel_rfl)) trivial ?_
  refine ch_v (R := []) rfl rfl (oc_unsafeStringZ (e := 5) (n := s.size) rfl rfl rfl (by kernel_rfl) (by kernel_rfl) rfl h0 h63) trivial ?_
  refine ch_v (R := []) rfl rfl (oc_assign (x := .val _) rfl rfl) trivial ?_
  refine ck_nil ⟨by kernel_rfl, ?_⟩
  refine aw_ret ?_
  exact ⟨.inl rfl, ResOk.tmp rfl rfl, ⟨rfl, trivial⟩⟩
set_option maxHeartbeats 800000 in
theorem string_empty1 (x : Av)  : FCM Tryd.prog 62 [.own 0 0] [(0, .live 77 [x, .osl 1 1 ByteArray.empty.size]), (1, .live 5 (bytA ByteArray.empty))] [] (vs ByteArray.empty) [(0, .live 77 [x, .osl 1 1 ByteArray.empty.size]), (1, .live 5 (bytA ByteArray.empty))] := by
  refine FCM.body 4 14 Tryd.func62 rfl (by kernel_rfl) ?_
  refine aw_seq ?_
  refine aw_text rfl ?_
  refine ch_v (R := []) rfl rfl (oc_assign (x := .val _) rfl rfl) trivial ?_
  refine ck_nil ?_
  refine aw_seq ?_
  refine aw_draw mixed ?_
  refine ch_v (R := []) rfl rfl (oc_move (x := .own _ _) rfl rfl) trivial ?_
  refine ch_v (R := [(_, .live _ _)]) rfl rfl (oc_nilCheck_own rfl rfl (by first | decide | simp)) ⟨rfl, trivial⟩ ?_
  refine ch_v (R := [(_, .live _ _)]) rfl rfl (oc_fieldAddr_own (off := 1) (sz := 1) (r := false) rfl rfl (by first | decide | simp) (by kernel_rfl) (by decide)) ⟨rfl, trivial⟩ ?_
  refine ch_v (R := [(_, .live _ _)]) rfl rfl (oc_load_own rfl rfl (by kernel_rfl) rfl) ⟨rfl, trivial⟩ ?_
  refine ch_u rfl rfl (oc_sliceData0K (t := 5) (e := 5) 3 rfl rfl (by kernel_rfl)) ⟨rfl, rfl, trivial⟩ ?_
  refine ch_v (R := []) rfl rfl (oc_move (x := .own _ _) rfl rfl) trivial ?_
  refine ch_v (R := [(_, .live _ _)]) rfl rfl (oc_nilCheck_own rfl rfl (by first | decide | simp)) ⟨rfl, trivial⟩ ?_
  refine ch_v (R := [(_, .live _ _)]) rfl rfl (oc_fieldAddr_own (off := 1) (sz := 1) (r := false) rfl rfl (by first | decide | simp) (by kernel_rfl) (by decide)) ⟨rfl, trivial⟩ ?_
  refine ch_v (R := [(_, .live _ _)]) rfl rfl (oc_load_own rfl rfl (by kernel_rfl) rfl) ⟨rfl, trivial⟩ ?_
  refine ch_v (R := []) rfl rfl (oc_len_osl rfl rfl (by kernel_rfl)) trivial ?_
  refine ch_v (R := []) rfl rfl (oc_unsafeString0 rfl rfl rfl) trivial ?_
  refine ch_v (R := []) rfl rfl (oc_assign (x := .val _) rfl rfl) trivial ?_
  refine ck_nil ⟨by kernel_rfl, ?_⟩
  refine aw_ret ?_
  exact ⟨.inl rfl, ResOk.tmp rfl rfl, ⟨rfl, rfl, trivial⟩⟩
set_option maxHeartbeats 800000 in
theorem string_first2 (x : Av) (s : ByteArray) (h0 : 0 < s.size) (h63 : s.size ≤ 9223372036854775807) : FCM Tryd.prog 62 [.own 0 0] [(0, .live 77 [x, .osl 1 2 s.size])] [(2, .live 5 (bytA s))] (vs s) [(0, .live 77 [x, .frz false 5 (Lib.strCells s)])] := by
  refine FCM.body 4 14 Tryd.func62 rfl (by kernel_rfl) ?_
  refine aw_seq ?_
  refine aw_text rfl ?_
  refine ch_v (R := []) rfl rfl (oc_assign (x := .val _) rfl rfl) trivial ?_
  refine ck_nil ?_
  refine aw_seq ?_
  refine aw_draw mixed ?_
  refine ch_v (R := []) rfl rfl (oc_move (x := .own _ _) rfl rfl) trivial ?_
  refine ch_v (R := [(_, .live _ _)]) rfl rfl (oc_nilCheck_own rfl rfl (by first | decide | simp)) ⟨rfl, trivial⟩ ?_
  refine ch_v (R := [(_, .live _ _)]) rfl rfl (oc_fieldAddr_own (off := 1) (sz := 1) (r := false) rfl rfl (by first | decide | simp) (by kernel_rfl) (by decide)) ⟨rfl, trivial⟩ ?_
  refine ch_v (R := [(_, .live _ _)]) rfl rfl (oc_load_own rfl rfl (by kernel_rfl) rfl) ⟨rfl, trivial⟩ ?_
  refine ch_v (R := [(_, .live _ _)]) rfl rfl (oc_sliceData (t := 5) (cs := bytA s) rfl rfl (by rw [bytA_len]; exact h0) h0) ⟨rfl, trivial⟩ ?_
  refine ch_v (R := []) rfl rfl (oc_move (x := .own _ _) rfl rfl) trivial ?_
  refine ch_v (R := [(_, .live _ _)]) rfl rfl (oc_nilCheck_own rfl rfl (by first | decide | simp)) ⟨rfl, trivial⟩ ?_
  refine ch_v (R := [(_, .live _ _)]) rfl rfl (oc_fieldAddr_own (off := 1) (sz := 1) (r := false) rfl rfl (by first | decide | simp) (by kernel_rfl) (by decide)) ⟨rfl, trivial⟩ ?_
  refine ch_v (R := [(_, .live _ _)]) rfl rfl (oc_load_own rfl rfl (by kernel_rfl) rfl) ⟨rfl, trivial⟩ ?_
  refine ch_v (R := []) rfl rfl (oc_len_osl rfl rfl (by kernel_rfl)) trivial ?_
  refine ch_u rfl rfl (oc_unsafeStringK (e := 5) (T0 := 77) (n0 := 0) (n := s.size) (x := x) rfl rfl rfl (by kernel_rfl) (by kernel_rfl) rfl h0 h63 (by decide)) ⟨rfl, rfl, trivial⟩ ?_
  refine ch_v (R := []) rfl rfl (oc_assign (x := .val _) rfl rfl) trivial ?_
  refine ck_nil ⟨by kernel_rfl, ?_⟩
  refine aw_ret ?_
  exact ⟨.inl rfl, ResOk.tmp rfl rfl, ⟨rfl, trivial⟩⟩
set_option maxHeartbeats 800000 in
theorem string_empty2 (x : Av)  : FCM Tryd.prog 62 [.own 0 0] [(0, .live 77 [x, .osl 1 2 ByteArray.empty.size]), (2, .live 5 (bytA ByteArray.empty))] [] (vs ByteArray.empty) [(0, .live 77 [x, .osl 1 2 ByteArray.empty.size]), (2, .live 5 (bytA ByteArray.empty))] := by
  refine FCM.body 4 14 Tryd.func62 rfl (by kernel_rfl) ?_
  refine aw_seq ?_
  refine aw_text rfl ?_
  refine ch_v (R := []) rfl rfl (oc_assign (x := .val _) rfl rfl) trivial ?_
  refine ck_nil ?_
  refine aw_seq ?_
  refine aw_draw mixed ?_
  refine ch_v (R := []) rfl rfl (oc_move (x := .own _ _) rfl rfl) trivial ?_
  refine ch_v (R := [(_, .live _ _)]) rfl rfl (oc_nilCheck_own rfl rfl (by first | decide | simp)) ⟨rfl, trivial⟩ ?_
  refine ch_v (R := [(_, .live _ _)]) rfl rfl (oc_fieldAddr_own (off := 1) (sz := 1) (r := false) rfl rfl (by first | decide | simp) (by kernel_rfl) (by decide)) ⟨rfl, trivial⟩ ?_
  refine ch_v (R := [(_, .live _ _)]) rfl rfl (oc_load_own rfl rfl (by kernel_rfl) rfl) ⟨rfl, trivial⟩ ?_
  refine ch_u rfl rfl (oc_sliceData0K (t := 5) (e := 5) 3 rfl rfl (by kernel_rfl)) ⟨rfl, rfl, trivial⟩ ?_
  refine ch_v (R := []) rfl rfl (oc_move (x := .own _ _) rfl rfl) trivial ?_
  refine ch_v (R := [(_, .live _ _)]) rfl rfl (oc_nilCheck_own rfl rfl (by first | decide | simp)) ⟨rfl, trivial⟩ ?_
  refine ch_v (R := [(_, .live _ _)]) rfl rfl (oc_fieldAddr_own (off := 1) (sz := 1) (r := false) rfl rfl (by first | decide | simp) (by kernel_rfl) (by decide)) ⟨rfl, trivial⟩ ?_
  refine ch_v (R := [(_, .live _ _)]) rfl rfl (oc_load_own rfl rfl (by kernel_rfl) rfl) ⟨rfl, trivial⟩ ?_
  refine ch_v (R := []) rfl rfl (oc_len_osl rfl rfl (by kernel_rfl)) trivial ?_
  refine ch_v (R := []) rfl rfl (oc_unsafeString0 rfl rfl rfl) trivial ?_
  refine ch_v (R := []) rfl rfl (oc_assign (x := .val _) rfl rfl) trivial ?_
  refine ck_nil ⟨by kernel_rfl, ?_⟩
  refine aw_ret ?_
  exact ⟨.inl rfl, ResOk.tmp rfl rfl, ⟨rfl, rfl, trivial⟩⟩
end Go.Proofs.YtpbaiighifhfnaaDoor
namespace Go.Proofs.YtpbaiighifhfnaaDoor
open Go.RowKit
set_option maxRecDepth 100000
set_option linter.unusedVariables false
set_option linter.unusedSimpArgs false
/-- How many codes belong together. -/
def wideC (c : Int) : Nat := if c = 27 ∨ c = 28 ∨ c = 30 then 2 else if c = 29 then 3 else 1
theorem wideC_bd (c : Int) : 1 ≤ wideC c ∧ wideC c ≤ 3 := by
  unfold wideC
  repeat' split
  all_goals omega
/-- The codes from a place to a place. -/
def segL (l : List Int) (i j : Nat) : List Int := (l.drop i).take (j - i)
noncomputable def segT (l : List Int) (i j : Nat) : ByteArray := strOfNums (aText (segL l i j)).1
noncomputable def segE (l : List Int) (i j : Nat) : Int := (aText (segL l i j)).2
theorem segL_len (l : List Int) {i j : Nat} (h : i ≤ j) (hj : j ≤ l.length) : (segL l i j).length = j - i := by
  unfold segL
  rw [List.length_take, List.length_drop]
  omega
theorem strOf_size (l : List Int) : (strOfNums l).size = l.length := by
  have : (strOfNums l).data.toList.length = (strOfNums l).size := by rw [Array.length_toList]; rfl
  rw [← this]
  unfold strOfNums
  simp
theorem aCodes_ge : ∀ l : List Int, (∀ c ∈ l, tOkB c = true) → l.length ≤ (aCodes l).length
  | [], _ => Nat.zero_le _
  | c :: l, h => by
    have h1 := aCodes_ge l fun x hx => h x (List.mem_cons_of_mem _ hx)
    have h2 := aSort_pos c (h c (List.mem_cons_self ..))
    show _ ≤ (aSort c ++ aCodes l).length
    rw [List.length_append, List.length_cons]
    omega
theorem segT_size (l : List Int) {i j : Nat} (h : i ≤ j) (hj : j ≤ l.length) : (segT l i j).size ≤ j - i := by
  unfold segT
  rw [strOf_size]
  rcases aText_or (segL l i j) with ⟨t, h1, h2, h3⟩ | h3
  · rw [h3]
    have h4 := aCodes_ge t (isText_ok h1)
    rw [h2, segL_len l h hj] at h4
    exact h4
  · rw [h3]; exact Nat.zero_le _
theorem segE_or (l : List Int) (i j : Nat) : segE l i j = 0 ∨ segE l i j = 16 := by
  unfold segE
  rcases aText_or (segL l i j) with ⟨t, _, _, h⟩ | h
  · rw [h]; exact .inl rfl
  · rw [h]; exact .inr rfl
/-- What is told at the end. -/
def unEnd (out t : ByteArray) (e : Int) : ByteArray × Int := if e ≠ 0 then (ByteArray.empty, e) else if isTextB (tB (out ++ t)) = true then (out ++ t, 0) else (ByteArray.empty, 13)
noncomputable def unF (l : List Int) (ab : List ByteArray) : Nat → Nat → Nat → ByteArray → ByteArray × Int
  | 0, row, at_, out => (ByteArray.empty, 0)
  | f + 1, row, at_, out => if at_ < l.length then
      (if l.length - at_ < wideC (l.getD at_ 0) then (ByteArray.empty, if segE l row l.length = 0 then 16 else segE l row l.length)
       else if l.getD at_ 0 ≠ 30 then unF l ab f row (at_ + wideC (l.getD at_ 0)) out
       else if segE l row at_ ≠ 0 then (ByteArray.empty, segE l row at_)
       else if l.getD (at_ + 1) 0 ≥ (ab.length : Int) then (ByteArray.empty, 11)
       else unF l ab f (at_ + 2) (at_ + 2) ((out ++ segT l row at_) ++ ab.getD (l.getD (at_ + 1) 0).toNat ByteArray.empty))
      else unEnd out (segT l row l.length) (segE l row l.length)
noncomputable def unpackedP (l : List Int) (ab : List ByteArray) : ByteArray × Int := unF l ab (l.length + 1) 0 0 ByteArray.empty
theorem seg_row {l : List Int} {i j : Nat} (h : i ≤ j) (hj : j ≤ l.length) (E : Env) (v : Value) (hr : Rep E (.sl 1 (j - i) (fun k => (fun n => vi (l.getD n 0)) (k + i))) v) : Rep E (slI (segL l i j)) v := by
  unfold slI
  rw [segL_len l h hj]
  refine rep_rows (fun E k hk v hv => ?_) E v hr
  have e : (segL l i j).getD k 0 = l.getD (k + i) 0 := by
    unfold segL
    rw [List.getD, List.getD, List.getElem?_take, if_pos hk, List.getElem?_drop]
    congr 2
    omega
  rw [e]
  exact hv
abbrev UnSt := Bool × Nat × Nat × ByteArray
abbrev UnJ := Bool × Nat × Nat × ByteArray × Int
set_option maxHeartbeats 800000 in
theorem together_pc (c : Int) : PC Tryd.prog 58 [vi c] (vi (wideC c : Int)) := by
  refine FC.body 6 10 Tryd.func58 rfl (by kernel_rfl) ?_
  refine aw_seq ?_
  refine aw_text rfl ?_
  refine ch_v (R := []) rfl rfl (oc_assign (x := .val _) rfl rfl) trivial ?_
  refine ck_nil ?_
  refine aw_seq ?_
  refine aw_seq ?_
  refine aw_text rfl ?_
  refine ch_v (R := []) rfl rfl (oc_move (x := .val _) rfl rfl) trivial ?_
  refine ck_nil ?_
  refine aw_block ?_
  refine aw_seq ?_
  refine aw_seq ?_
  refine aw_text rfl ?_
  refine ch_v (R := []) rfl rfl (oc_binZ rfl rfl rfl rfl) trivial ?_
  refine ch_v (R := []) rfl rfl (oc_assign (x := .val _) rfl rfl) trivial ?_
  refine ck_nil ?_
  refine aw_cond rfl (fun hb => ?_) (fun hb => ?_)
  · refine aw_skip ?_
    refine aw_cond rfl (fun hb => ?_) (fun hb => ?_)
    · refine aw_seq ?_
      refine aw_text rfl ?_
      refine ch_v (R := []) rfl rfl (oc_assign (x := .val _) rfl rfl) trivial ?_
      refine ck_nil ?_
      refine aw_ret ?_
      exact ⟨.inl rfl, ResOk.tmp rfl (vi_eq (by unfold wideC; (repeat (any_goals split)) <;> first | rfl | (exfalso; simp_all; done) | (exfalso; simp_all; omega))), trivial⟩
    · refine aw_seq ?_
      refine aw_text rfl ?_
      refine ch_v (R := []) rfl rfl (oc_binZ rfl rfl rfl rfl) trivial ?_
      refine ch_v (R := []) rfl rfl (oc_assign (x := .val _) rfl rfl) trivial ?_
      refine ck_nil ?_
      refine aw_cond rfl (fun hb => ?_) (fun hb => ?_)
      · refine aw_seq ?_
        refine aw_text rfl ?_
        refine ch_v (R := []) rfl rfl (oc_assign (x := .val _) rfl rfl) trivial ?_
        refine ck_nil ?_
        refine aw_ret ?_
        exact ⟨.inl rfl, ResOk.tmp rfl (vi_eq (by unfold wideC; (repeat (any_goals split)) <;> first | rfl | (exfalso; simp_all; done) | (exfalso; simp_all; omega))), trivial⟩
      · refine aw_skip ?_
        refine aw_seq ?_
        refine aw_text rfl ?_
        refine ch_v (R := []) rfl rfl (oc_assign (x := .val _) rfl rfl) trivial ?_
        refine ck_nil ?_
        refine aw_ret ?_
        exact ⟨.inl rfl, ResOk.tmp rfl (vi_eq (by unfold wideC; (repeat (any_goals split)) <;> first | rfl | (exfalso; simp_all; done) | (exfalso; simp_all; omega))), trivial⟩
  · refine aw_seq ?_
    refine aw_text rfl ?_
    refine ch_v (R := []) rfl rfl (oc_binZ rfl rfl rfl rfl) trivial ?_
    refine ch_v (R := []) rfl rfl (oc_assign (x := .val _) rfl rfl) trivial ?_
    refine ck_nil ?_
    refine aw_cond rfl (fun hb => ?_) (fun hb => ?_)
    · refine aw_skip ?_
      refine aw_cond rfl (fun hb => ?_) (fun hb => ?_)
      · refine aw_seq ?_
        refine aw_text rfl ?_
        refine ch_v (R := []) rfl rfl (oc_assign (x := .val _) rfl rfl) trivial ?_
        refine ck_nil ?_
        refine aw_ret ?_
        exact ⟨.inl rfl, ResOk.tmp rfl (vi_eq (by unfold wideC; (repeat (any_goals split)) <;> first | rfl | (exfalso; simp_all; done) | (exfalso; simp_all; omega))), trivial⟩
      · refine aw_seq ?_
        refine aw_text rfl ?_
        refine ch_v (R := []) rfl rfl (oc_binZ rfl rfl rfl rfl) trivial ?_
        refine ch_v (R := []) rfl rfl (oc_assign (x := .val _) rfl rfl) trivial ?_
        refine ck_nil ?_
        refine aw_cond rfl (fun hb => ?_) (fun hb => ?_)
        · refine aw_seq ?_
          refine aw_text rfl ?_
          refine ch_v (R := []) rfl rfl (oc_assign (x := .val _) rfl rfl) trivial ?_
          refine ck_nil ?_
          refine aw_ret ?_
          exact ⟨.inl rfl, ResOk.tmp rfl (vi_eq (by unfold wideC; (repeat (any_goals split)) <;> first | rfl | (exfalso; simp_all; done) | (exfalso; simp_all; omega))), trivial⟩
        · refine aw_skip ?_
          refine aw_seq ?_
          refine aw_text rfl ?_
          refine ch_v (R := []) rfl rfl (oc_assign (x := .val _) rfl rfl) trivial ?_
          refine ck_nil ?_
          refine aw_ret ?_
          exact ⟨.inl rfl, ResOk.tmp rfl (vi_eq (by unfold wideC; (repeat (any_goals split)) <;> first | rfl | (exfalso; simp_all; done) | (exfalso; simp_all; omega))), trivial⟩
    · refine aw_text rfl ?_
      refine ch_v (R := []) rfl rfl (oc_binZ rfl rfl rfl rfl) trivial ?_
      refine ch_v (R := []) rfl rfl (oc_assign (x := .val _) rfl rfl) trivial ?_
      refine ck_nil ?_
      refine aw_cond rfl (fun hb => ?_) (fun hb => ?_)
      · refine aw_seq ?_
        refine aw_text rfl ?_
        refine ch_v (R := []) rfl rfl (oc_assign (x := .val _) rfl rfl) trivial ?_
        refine ck_nil ?_
        refine aw_ret ?_
        exact ⟨.inl rfl, ResOk.tmp rfl (vi_eq (by unfold wideC; (repeat (any_goals split)) <;> first | rfl | (exfalso; simp_all; done) | (exfalso; simp_all; omega))), trivial⟩
      · refine aw_seq ?_
        refine aw_text rfl ?_
        refine ch_v (R := []) rfl rfl (oc_binZ rfl rfl rfl rfl) trivial ?_
        refine ch_v (R := []) rfl rfl (oc_assign (x := .val _) rfl rfl) trivial ?_
        refine ck_nil ?_
        refine aw_cond rfl (fun hb => ?_) (fun hb => ?_)
        · refine aw_seq ?_
          refine aw_text rfl ?_
          refine ch_v (R := []) rfl rfl (oc_assign (x := .val _) rfl rfl) trivial ?_
          refine ck_nil ?_
          refine aw_ret ?_
          exact ⟨.inl rfl, ResOk.tmp rfl (vi_eq (by unfold wideC; (repeat (any_goals split)) <;> first | rfl | (exfalso; simp_all; done) | (exfalso; simp_all; omega))), trivial⟩
        · refine aw_skip ?_
          refine aw_seq ?_
          refine aw_text rfl ?_
          refine ch_v (R := []) rfl rfl (oc_assign (x := .val _) rfl rfl) trivial ?_
          refine ck_nil ?_
          refine aw_ret ?_
          exact ⟨.inl rfl, ResOk.tmp rfl (vi_eq (by unfold wideC; (repeat (any_goals split)) <;> first | rfl | (exfalso; simp_all; done) | (exfalso; simp_all; omega))), trivial⟩
set_option maxHeartbeats 800000 in
theorem wide_pc (c : Int) : PC Tryd.prog 68 [vi c] (vi (wideC c : Int)) := by
  refine FC.body 6 15 Tryd.func68 rfl (by kernel_rfl) ?_
  refine aw_seq ?_
  refine aw_text rfl ?_
  refine ch_v (R := []) rfl rfl (oc_assign (x := .val _) rfl rfl) trivial ?_
  refine ck_nil ?_
  refine aw_seq ?_
  refine aw_seq ?_
  refine aw_text rfl ?_
  refine ch_v (R := []) rfl rfl (oc_move (x := .val _) rfl rfl) trivial ?_
  refine ch_v (R := []) rfl rfl (oc_binZ rfl rfl rfl rfl) trivial ?_
  refine ch_v (R := []) rfl rfl (oc_move (x := .val _) rfl rfl) trivial ?_
  refine ch_g (R := []) rfl rfl rfl gate_f (fun hC => oc_move (x := .val _) rfl rfl) (fun hC => ⟨(by first | rfl | exact hC | (simp only [Bool.and_eq_true] at hC; first | exact hC.1 | exact hC.1.1 | exact hC.2) | simp_all), trivial⟩) trivial ?_
  refine ch_g (R := []) rfl rfl rfl gate_f (fun hC => oc_binZ rfl rfl rfl rfl) (fun hC => ⟨(by first | rfl | exact hC | (simp only [Bool.and_eq_true] at hC; first | exact hC.1 | exact hC.1.1 | exact hC.2) | simp_all), (by first | rfl | exact hC | (simp only [Bool.and_eq_true] at hC; first | exact hC.1 | exact hC.1.1 | exact hC.2) | simp_all), trivial⟩) trivial ?_
  refine ch_v (R := []) rfl rfl (oc_or rfl rfl rfl (by first | exact fun h => h | simp_all)) trivial ?_
  refine ch_v (R := []) rfl rfl (oc_move (x := .val _) rfl rfl) trivial ?_
  refine ch_g (R := []) rfl rfl rfl gate_f (fun hC => oc_move (x := .val _) rfl rfl) (fun hC => ⟨(by first | rfl | exact hC | (simp only [Bool.and_eq_true] at hC; first | exact hC.1 | exact hC.1.1 | exact hC.2) | simp_all), trivial⟩) trivial ?_
  refine ch_g (R := []) rfl rfl rfl gate_f (fun hC => oc_binZ rfl rfl rfl rfl) (fun hC => ⟨(by first | rfl | exact hC | (simp only [Bool.and_eq_true] at hC; first | exact hC.1 | exact hC.1.1 | exact hC.2) | simp_all), (by first | rfl | exact hC | (simp only [Bool.and_eq_true] at hC; first | exact hC.1 | exact hC.1.1 | exact hC.2) | simp_all), trivial⟩) trivial ?_
  refine ch_v (R := []) rfl rfl (oc_or rfl rfl rfl (by first | exact fun h => h | simp_all)) trivial ?_
  refine ck_nil ?_
  refine aw_cond rfl (fun hb => ?_) (fun hb => ?_)
  · refine aw_seq ?_
    refine aw_text rfl ?_
    refine ch_v (R := []) rfl rfl (oc_assign (x := .val _) rfl rfl) trivial ?_
    refine ck_nil ?_
    refine aw_ret ?_
    exact ⟨.inl rfl, ResOk.tmp rfl (vi_eq (by unfold wideC; (repeat (any_goals split)) <;> first | rfl | (exfalso; simp_all; done) | (exfalso; simp_all; omega))), trivial⟩
  · refine aw_skip ?_
    refine aw_seq ?_
    refine aw_seq ?_
    refine aw_text rfl ?_
    refine ch_v (R := []) rfl rfl (oc_move (x := .val _) rfl rfl) trivial ?_
    refine ch_v (R := []) rfl rfl (oc_binZ rfl rfl rfl rfl) trivial ?_
    refine ck_nil ?_
    refine aw_cond rfl (fun hb => ?_) (fun hb => ?_)
    · refine aw_seq ?_
      refine aw_text rfl ?_
      refine ch_v (R := []) rfl rfl (oc_assign (x := .val _) rfl rfl) trivial ?_
      refine ck_nil ?_
      refine aw_ret ?_
      exact ⟨.inl rfl, ResOk.tmp rfl (vi_eq (by unfold wideC; (repeat (any_goals split)) <;> first | rfl | (exfalso; simp_all; done) | (exfalso; simp_all; omega))), trivial⟩
    · refine aw_skip ?_
      refine aw_seq ?_
      refine aw_text rfl ?_
      refine ch_v (R := []) rfl rfl (oc_assign (x := .val _) rfl rfl) trivial ?_
      refine ck_nil ?_
      refine aw_ret ?_
      exact ⟨.inl rfl, ResOk.tmp rfl (vi_eq (by unfold wideC; (repeat (any_goals split)) <;> first | rfl | (exfalso; simp_all; done) | (exfalso; simp_all; omega))), trivial⟩
set_option maxHeartbeats 800000 in
theorem flush_fcm (u : Bool) (l : List Int) (row at_ : Nat) (w : Int) (out : ByteArray) (hl : l.length ≤ 100000) (h1 : row ≤ at_) (h2 : at_ ≤ l.length) (ho : out.size ≤ 1000000000) : FCM Tryd.prog 59 [.ptr (slI l), .own 3 0, .own 4 0, .own 0 0, .own 5 0] [(0, .live 77 [bldX u, .osl 1 1 out.size]), (3, .live 3 [vi (row : Int)]), (4, .live 3 [vi (at_ : Int)]), (5, .live 29 [vi w])] [(1, .live 5 (bytA out))] (vb (segE l row at_ == 0)) [(0, .live 77 [.own 0 0, .osl 1 2 (out ++ segT l row at_).size]), (3, .live 3 [vi (row : Int)]), (4, .live 3 [vi (at_ : Int)]), (5, .live 29 [vi (segE l row at_)]), (2, .live 5 (bytA (out ++ segT l row at_)))] := by
  refine FCM.body 6 21 Tryd.func59 rfl (by kernel_rfl) ?_
  refine aw_seq ?_
  refine aw_text rfl ?_
  refine ch_v (R := []) rfl rfl (oc_assign (x := .val _) rfl rfl) trivial ?_
  refine ck_nil ?_
  refine aw_seq ?_
  refine aw_text rfl ?_
  refine ch_v (R := []) rfl rfl (oc_load rfl rfl (by kernel_rfl) cells_sl) trivial ?_
  refine ch_v (R := [(_, .live _ _)]) rfl rfl (oc_load_own rfl rfl (by kernel_rfl) rfl) ⟨rfl, trivial⟩ ?_
  refine ch_v (R := [(_, .live _ _)]) rfl rfl (oc_load_own rfl rfl (by kernel_rfl) rfl) ⟨rfl, trivial⟩ ?_
  refine ch_v (R := []) rfl rfl (OC.to (oc_slice_lh (e := 3) (by_ := 8) (zs := [.int .i64 0]) row at_ rfl rfl rfl rfl (by kernel_rfl) (by kernel_rfl) h1 h2) (seg_row h1 h2)) trivial ?_
  refine ch_v (R := []) rfl rfl (oc_call rfl (by kernel_rfl) (text_pc (segL l row at_) (by rw [segL_len l h1 h2]; omega)) rfl (by simp only [PureL, Pure, and_self, pure_slI, pure_slS, rowAv, pieces_pure, pool_pure, bs_pure, implies_true]) (by simp only [PureL, Pure, and_self, pure_slI, pure_slS, rowAv, pieces_pure, pool_pure, bs_pure, implies_true])) trivial ?_
  refine ch_v (R := []) rfl rfl (oc_move (x := .tup _) rfl rfl) trivial ?_
  refine ch_v (R := []) rfl rfl (oc_extract rfl rfl rfl) trivial ?_
  refine ch_v (R := []) rfl rfl (oc_extract rfl rfl rfl) trivial ?_
  refine ch_v (R := []) rfl rfl (oc_assign (x := .val _) rfl rfl) trivial ?_
  refine ch_v (R := []) rfl rfl (oc_assign (x := .val _) rfl rfl) trivial ?_
  refine ck_nil ?_
  refine aw_seq ?_
  refine aw_text rfl ?_
  refine ch_v (R := []) rfl rfl (oc_move (x := .val _) rfl rfl) trivial ?_
  refine ch_u rfl rfl (oc_callFC [2] rfl (by kernel_rfl) (writeString_fcm u out (segT l row at_) (by have := segT_size l h1 h2; omega)) rfl (by simp) (by simp [bornH]) (by simp) (by simp) (by simp [InNL, InN]) ⟨by unfold bldX; cases u <;> simp [InH, InNL, InN], inNL_byt _, trivial⟩ (by simp [InN, InNL]) ⟨by simp [InH, InNL, InN], inNL_byt _, trivial⟩) ⟨rfl, rfl, rfl, trivial⟩ ?_
  refine ck_nil ?_
  refine aw_seq ?_
  refine aw_text rfl ?_
  refine ch_v (R := []) rfl rfl (oc_move (x := .val _) rfl rfl) trivial ?_
  refine ch_n rfl rfl (oc_store (y := .val _) (cs' := [_]) rfl rfl rfl (by kernel_rfl) (by kernel_rfl) (by first | exact cells_int | exact cells_any) (by first | decide | (simp; done) | (simp; omega)) rfl) ⟨rfl, trivial⟩ ?_
  refine ck_nil ?_
  refine aw_seq ?_
  refine aw_text rfl ?_
  refine ch_v (R := []) rfl rfl (oc_move (x := .val _) rfl rfl) trivial ?_
  refine ch_v (R := []) rfl rfl (oc_binZ rfl rfl rfl rfl) trivial ?_
  refine ch_v (R := []) rfl rfl (oc_assign (x := .val _) rfl rfl) trivial ?_
  refine ck_nil ?_
  refine aw_ret ?_
  exact ⟨.inl rfl, ResOk.tmp rfl rfl, ⟨rfl, rfl, rfl, rfl, rfl, trivial⟩⟩
end Go.Proofs.YtpbaiighifhfnaaDoor
namespace Go.Proofs.YtpbaiighifhfnaaDoor
open Go.RowKit
set_option maxRecDepth 100000
set_option linter.unusedVariables false
set_option linter.unusedSimpArgs false
theorem flush_in {Z : Nat → Prop} (l : List Int) (h0 : Z 0) (h3 : Z 3) (h4 : Z 4) (h5 : Z 5) : InNL Z [.ptr (slI l), .own 3 0, .own 4 0, .own 0 0, .own 5 0] := by
  unfold InNL InNL InNL InNL InNL InNL
  exact ⟨InN.of_pure _ (by unfold Pure; exact pure_slI l), by unfold InN; exact h3, by unfold InN; exact h4, by unfold InN; exact h0, by unfold InN; exact h5, trivial⟩
theorem non_caps {Z : List Nat} (l : List Int) (h0 : 0 ∉ Z) (h3 : 3 ∉ Z) (h4 : 4 ∉ Z) (h5 : 5 ∉ Z) : NoN Z (.clo 59 [.ptr (slI l), .own 3 0, .own 4 0, .own 0 0, .own 5 0]) := by
  unfold NoN NoNL NoNL NoNL NoNL NoNL NoNL
  exact ⟨NoN.of_pure _ (by unfold Pure; exact pure_slI l), by unfold NoN; exact h3, by unfold NoN; exact h4, by unfold NoN; exact h0, by unfold NoN; exact h5, trivial⟩
theorem ren_caps (l : List Int) : (Av.clo 59 [.ptr (slI l), .own 3 0, .own 4 0, .own 0 0, .own 5 0]) = (Av.clo 59 [.ptr (slI l), .own 3 0, .own 4 0, .own 0 0, .own 5 0]).ren (swapN 1 2) := by
  simp only [Av.ren, renL]
  rw [ren_pure _ _ (pure_slI l)]
  rfl
theorem ren_pslI (l : List Int) : (Av.ptr (slI l)) = (Av.ptr (slI l)).ren (swapN 1 2) := (ren_pure _ _ (by unfold Pure; exact pure_slI l)).symm
theorem unF_end {l : List Int} {ab : List ByteArray} {f row at_ : Nat} {out : ByteArray} (h : ¬ at_ < l.length) (hf : f ≠ 0) : unF l ab f row at_ out = unEnd out (segT l row l.length) (segE l row l.length) := by
  obtain ⟨g, rfl⟩ : ∃ g, f = g + 1 := ⟨f - 1, by omega⟩
  unfold unF
  rw [if_neg h]
theorem un_step {l : List Int} {ab : List ByteArray} {f row at_ : Nat} {out : ByteArray} (h : at_ < l.length) : unF l ab (f + 1) row at_ out = (if l.length - at_ < wideC (l.getD at_ 0) then (ByteArray.empty, if segE l row l.length = 0 then 16 else segE l row l.length)
       else if l.getD at_ 0 ≠ 30 then unF l ab f row (at_ + wideC (l.getD at_ 0)) out
       else if segE l row at_ ≠ 0 then (ByteArray.empty, segE l row at_)
       else if l.getD (at_ + 1) 0 ≥ (ab.length : Int) then (ByteArray.empty, 11)
       else unF l ab f (at_ + 2) (at_ + 2) ((out ++ segT l row at_) ++ ab.getD (l.getD (at_ + 1) 0).toNat ByteArray.empty)) := by
  show (if _ then _ else _) = _
  rw [if_pos h]
theorem size0_empty {s : ByteArray} (h : s.size = 0) : s = ByteArray.empty := by
  have hl : s.data.toList.length = 0 := by rw [Array.length_toList]; exact h
  exact ByteArray.ext (Array.toList_inj.1 (List.eq_nil_of_length_eq_zero hl))
set_option maxHeartbeats 3200000 in
theorem unpacked_pc (l : List Int) (hl : l.length ≤ 10000) (hpos : ∀ k, 0 ≤ l.getD k 0) (ab : List ByteArray) (hab : ∀ k, (ab.getD k ByteArray.empty).size ≤ 1000) (habl : ab.length ≤ 1000000) : PC Tryd.prog 36 [slI l, slS ab] (.tup [vs (unpackedP l ab).1, vi (unpackedP l ab).2]) := by
  refine FC.body 6 85 Tryd.func36 rfl (by kernel_rfl) ?_
  refine aw_seq ?_
  refine aw_text rfl ?_
  refine ch_v (R := []) rfl rfl (oc_box (x := .sl _ _ _) rfl rfl) trivial ?_
  refine ch_v (R := []) rfl rfl (oc_assign (x := .val _) rfl rfl) trivial ?_
  refine ch_v (R := []) rfl rfl (oc_assign (x := .val _) rfl rfl) trivial ?_
  refine ck_nil ?_
  refine aw_scope ?_
  refine aw_seq ?_
  refine aw_text rfl ?_
  refine ch_u rfl rfl (oc_alloc (zs := [.pointer none, .slice none 0 0]) (cs := [.val _, .val _]) 0 rfl (by kernel_rfl) rfl rfl) ⟨rfl, trivial⟩ ?_
  refine ck_nil ?_
  refine aw_seq ?_
  refine aw_text rfl ?_
  refine ch_v (R := []) rfl rfl (oc_assign (x := .clo _ _) rfl rfl) trivial ?_
  refine ck_nil ?_
  refine aw_seq ?_
  refine aw_text rfl ?_
  refine ch_u rfl rfl (oc_alloc (zs := [.int .i64 0]) (cs := [.val _]) 3 rfl (by kernel_rfl) rfl rfl) ⟨rfl, trivial⟩ ?_
  refine ch_u rfl rfl (oc_alloc (zs := [.int .i64 0]) (cs := [.val _]) 4 rfl (by kernel_rfl) rfl rfl) ⟨rfl, trivial⟩ ?_
  refine ch_n rfl rfl (oc_store (y := .val _) (cs' := [_]) rfl rfl rfl (by kernel_rfl) (by kernel_rfl) (fun E v h => by unfold Rep at h; subst h; rfl) (by first | decide | (simp; done) | (simp; omega)) rfl) ⟨rfl, trivial⟩ ?_
  refine ch_n rfl rfl (oc_store (y := .val _) (cs' := [_]) rfl rfl rfl (by kernel_rfl) (by kernel_rfl) (fun E v h => by unfold Rep at h; subst h; rfl) (by first | decide | (simp; done) | (simp; omega)) rfl) ⟨rfl, trivial⟩ ?_
  refine ck_nil ?_
  refine aw_seq ?_
  refine aw_text rfl ?_
  refine ch_u rfl rfl (oc_alloc (zs := [.int .i64 0]) (cs := [.val _]) 5 rfl (by kernel_rfl) rfl rfl) ⟨rfl, trivial⟩ ?_
  refine ch_n rfl rfl (oc_store (y := .val _) (cs' := [_]) rfl rfl rfl (by kernel_rfl) (by kernel_rfl) (fun E v h => by unfold Rep at h; subst h; rfl) (by first | decide | (simp; done) | (simp; omega)) rfl) ⟨rfl, trivial⟩ ?_
  refine ck_nil ?_
  refine aw_seq ?_
  refine aw_text rfl ?_
  refine ch_v (R := []) rfl rfl (oc_makeFunc (cs := [.ptr _, .own _ _, .own _ _, .own _ _, .own _ _]) rfl rfl) trivial ?_
  refine ch_v (R := []) rfl rfl (oc_assign (x := .clo _ _) rfl rfl) trivial ?_
  refine ck_nil ?_
  refine aw_seq ?_
  refine aw_label ?_
  refine aw_seqJ (ι := UnJ) (fun q => ⟨[(6, .own 0 0), (10, .own 5 0), (11, .clo 59 [.ptr (slI l), .own 3 0, .own 4 0, .own 0 0, .own 5 0])], [(0, .live 77 [bldX q.1, .osl 1 1 q.2.2.2.1.size]), (1, .live 5 (bytA q.2.2.2.1)), (3, .live 3 [vi (q.2.1 : Int)]), (4, .live 3 [vi (q.2.2.1 : Int)]), (5, .live 29 [vi q.2.2.2.2]), (2, .unborn)]⟩) (fun q => (q.2.2.2.2 ≠ 0 ∧ unpackedP l ab = (ByteArray.empty, q.2.2.2.2)) ∨ (q.2.2.2.2 = 0 ∧ q.2.2.1 ≤ l.length ∧ q.2.1 ≤ q.2.2.1 ∧ q.2.2.2.1.size ≤ 1001 * q.2.1 ∧ unpackedP l ab = unEnd q.2.2.2.1 (segT l q.2.1 q.2.2.1) (segE l q.2.1 q.2.2.1))) ?_ (fun q hJ => ?_)
  · refine aw_block ?_
    refine aw_le (Le.nameNilCell 0 1 1 1 5 rfl rfl rfl (by decide)) ?_
    refine aw_loop (ι := UnSt) (fun q => ⟨[(1, slS ab), (2, .ptr (slI l)), (6, .own 0 0), (7, .clo 58 []), (8, .own 3 0), (9, .own 4 0), (10, .own 5 0), (11, .clo 59 [.ptr (slI l), .own 3 0, .own 4 0, .own 0 0, .own 5 0])], [(0, .live 77 [bldX q.1, .osl 1 1 q.2.2.2.size]), (1, .live 5 (bytA q.2.2.2)), (3, .live 3 [vi (q.2.1 : Int)]), (4, .live 3 [vi (q.2.2.1 : Int)]), (5, .live 29 [vi 0]), (2, .unborn)]⟩) (fun q => q.2.1 ≤ q.2.2.1 ∧ q.2.2.1 ≤ l.length ∧ q.2.2.2.size ≤ 1001 * q.2.1 ∧ ∃ f, l.length < f + q.2.2.1 ∧ unpackedP l ab = unF l ab f q.2.1 q.2.2.1 q.2.2.2) (fun q => l.length - q.2.2.1) (false, 0, 0, ByteArray.empty) (⟨Nat.le_refl _, Nat.zero_le _, Nat.zero_le _, l.length + 1, by show _ < _ + 0; omega, rfl⟩) (Le.sub ⟨.inr rfl, .inr rfl, .inr rfl, .inr rfl, .inr rfl, .inr rfl, .inr rfl, .inr rfl, trivial⟩ ⟨rfl, rfl, rfl, rfl, rfl, rfl, trivial⟩) ?_
    intro q hI
    obtain ⟨h1, h2, h3, f, hf, hun⟩ := hI
    refine aw_seq ?_
    refine aw_seq ?_
    refine aw_text rfl ?_
    refine ch_v (R := [(_, .live _ _)]) rfl rfl (oc_load_own rfl rfl (by kernel_rfl) rfl) ⟨rfl, trivial⟩ ?_
    refine ch_v (R := []) rfl rfl (oc_load rfl rfl (by kernel_rfl) cells_sl) trivial ?_
    refine ch_v (R := []) rfl rfl (oc_len rfl rfl (by kernel_rfl)) trivial ?_
    refine ch_v (R := []) rfl rfl (oc_binZ rfl rfl rfl rfl) trivial ?_
    refine ck_nil ?_
    refine aw_cond rfl (fun hb => ?_) (fun hb => ?_)
    · have hlt : q.2.2.1 < l.length := by have h0 := of_decide_eq_true hb; omega
      obtain ⟨f, rfl⟩ : ∃ g, f = g + 1 := ⟨f - 1, by omega⟩
      have hwb := wideC_bd (l.getD q.2.2.1 0)
      refine aw_skip ?_
      refine aw_block ?_
      refine aw_seq ?_
      refine aw_text rfl ?_
      refine ch_v (R := []) rfl rfl (oc_move (x := .clo _ _) rfl rfl) trivial ?_
      refine ch_v (R := []) rfl rfl (oc_load rfl rfl (by kernel_rfl) cells_sl) trivial ?_
      refine ch_v (R := [(_, .live _ _)]) rfl rfl (oc_load_own rfl rfl (by kernel_rfl) rfl) ⟨rfl, trivial⟩ ?_
      refine ch_v (R := []) rfl rfl ((by first | exact oc_indexN rfl rfl rfl (by kernel_rfl) (by omega) | exact oc_index rfl rfl rfl (by kernel_rfl) (by omega) (by omega) rfl)) trivial ?_
      refine ch_v (R := []) rfl rfl (oc_load rfl rfl (by kernel_rfl) cells_int) trivial ?_
      refine ch_v (R := []) rfl rfl (oc_callClo rfl rfl (by kernel_rfl) (together_pc (l.getD q.2.2.1 0)) rfl (by simp only [PureL, Pure, and_self, pure_slI, pure_slS, rowAv, pieces_pure, pool_pure, bs_pure, implies_true]) (by simp only [PureL, Pure, and_self, pure_slI, pure_slS, rowAv, pieces_pure, pool_pure, bs_pure, implies_true])) trivial ?_
      refine ch_v (R := []) rfl rfl (oc_assign (x := .val _) rfl rfl) trivial ?_
      refine ck_nil ?_
      refine aw_seq ?_
      refine aw_block ?_
      refine aw_seq ?_
      refine aw_text rfl ?_
      refine ch_v (R := []) rfl rfl (oc_move (x := .val _) rfl rfl) trivial ?_
      refine ch_v (R := []) rfl rfl (oc_load rfl rfl (by kernel_rfl) cells_sl) trivial ?_
      refine ch_v (R := []) rfl rfl (oc_len rfl rfl (by kernel_rfl)) trivial ?_
      refine ch_v (R := [(_, .live _ _)]) rfl rfl (oc_load_own rfl rfl (by kernel_rfl) rfl) ⟨rfl, trivial⟩ ?_
      refine ch_v (R := []) rfl rfl (oc_binZ rfl rfl rfl (by first | exact binW_sub (by omega) (by omega) | rfl)) trivial ?_
      refine ch_v (R := []) rfl rfl (oc_binZ rfl rfl rfl rfl) trivial ?_
      refine ch_v (R := []) rfl rfl (oc_assign (x := .val _) rfl rfl) trivial ?_
      refine ck_nil ?_
      refine aw_cond rfl (fun hb => ?_) (fun hb => ?_)
      · have hgt : l.length - q.2.2.1 < wideC (l.getD q.2.2.1 0) := by have h0 := of_decide_eq_true hb; omega
        have hts := segT_size l (i := q.2.1) (j := l.length) (by omega) (Nat.le_refl _)
        refine aw_seq ?_
        refine aw_text rfl ?_
        refine ch_v (R := []) rfl rfl (oc_load rfl rfl (by kernel_rfl) cells_sl) trivial ?_
        refine ch_v (R := []) rfl rfl (oc_len rfl rfl (by kernel_rfl)) trivial ?_
        refine ch_n rfl rfl (oc_store (y := .val _) (cs' := [_]) rfl rfl rfl (by kernel_rfl) (by kernel_rfl) (by first | exact cells_int | exact cells_any) (by first | decide | (simp; done) | (simp; omega)) rfl) ⟨rfl, trivial⟩ ?_
        refine ck_nil ?_
        refine aw_seq ?_
        refine aw_seq ?_
        refine aw_text rfl ?_
        refine ch_v (R := []) rfl rfl (oc_move (x := .clo _ _) rfl rfl) trivial ?_
        refine ch_u rfl rfl (oc_callCloFC [2] rfl rfl (by kernel_rfl) (flush_fcm q.1 l q.2.1 l.length 0 q.2.2.2 (by omega) (by omega) (Nat.le_refl _) (by omega)) rfl (by simp) (by simp [bornH]) (by simp) (by simp) (flush_in l (by simp) (by simp) (by simp) (by simp)) ⟨by unfold bldX; cases q.1 <;> simp [InH, InNL, InN], by simp [InH, InNL, InN], by simp [InH, InNL, InN], by simp [InH, InNL, InN], inNL_byt _, trivial⟩ (by simp [InN]) ⟨by simp [InH, InNL, InN], by simp [InH, InNL, InN], by simp [InH, InNL, InN], by simp [InH, InNL, InN], inNL_byt _, trivial⟩) ⟨rfl, rfl, rfl, rfl, rfl, rfl, trivial⟩ ?_
        refine ck_nil ?_
        refine aw_le (Le.trans (Le.swap (τ := ⟨[(1, slS ab), (2, .ptr (slI l)), (6, .own 0 0), (7, .clo 58 []), (8, .own 3 0), (9, .own 4 0), (10, .own 5 0), (11, .clo 59 [.ptr (slI l), .own 3 0, .own 4 0, .own 0 0, .own 5 0]), (34, vb ((segE l q.2.1 l.length) == 0))], [(0, .live 77 [.own 0 0, .osl 1 1 (q.2.2.2 ++ segT l q.2.1 l.length).size]), (1, .live 5 (bytA (q.2.2.2 ++ segT l q.2.1 l.length))), (3, .live 3 [vi (q.2.1 : Int)]), (4, .live 3 [vi (l.length : Int)]), (5, .live 29 [vi (segE l q.2.1 l.length)])]⟩) 1 2 (by simp) (by simp) ⟨(ren_pure _ _ (pure_slS _)).symm, ren_pslI l, rfl, rfl, rfl, rfl, rfl, ren_caps l, rfl, trivial⟩ ⟨rfl, by show lkH _ 2 = some (Hs.live _ ((bytA (q.2.2.2 ++ segT l q.2.1 l.length)).map _)); rw [ren_byt]; rfl, rfl, rfl, rfl, trivial⟩) (Le.reset (τ := ⟨[(1, slS ab), (2, .ptr (slI l)), (6, .own 0 0), (7, .clo 58 []), (8, .own 3 0), (9, .own 4 0), (10, .own 5 0), (11, .clo 59 [.ptr (slI l), .own 3 0, .own 4 0, .own 0 0, .own 5 0]), (34, vb ((segE l q.2.1 l.length) == 0))], [(0, .live 77 [.own 0 0, .osl 1 1 (q.2.2.2 ++ segT l q.2.1 l.length).size]), (1, .live 5 (bytA (q.2.2.2 ++ segT l q.2.1 l.length))), (3, .live 3 [vi (q.2.1 : Int)]), (4, .live 3 [vi (l.length : Int)]), (5, .live 29 [vi (segE l q.2.1 l.length)]), (2, .unborn)]⟩) [2] (by simp) ⟨.inr rfl, .inr rfl, .inr rfl, .inr rfl, .inr rfl, .inr rfl, .inr rfl, .inr rfl, .inr rfl, trivial⟩ ⟨NoN.of_pure _ (pure_slS _), NoN.of_pure _ (by unfold Pure; exact pure_slI l), by simp [NoN], by simp [NoN, NoNL], by simp [NoN], by simp [NoN], by simp [NoN], non_caps l (by simp) (by simp) (by simp) (by simp), by simp [NoN], trivial⟩ ⟨by rw [if_neg (by decide)]; exact ⟨rfl, by simp [NoN]⟩, by rw [if_neg (by decide)]; exact ⟨rfl, non_byt _⟩, by rw [if_neg (by decide)]; exact ⟨rfl, by simp [NoN]⟩, by rw [if_neg (by decide)]; exact ⟨rfl, by simp [NoN]⟩, by rw [if_neg (by decide)]; exact ⟨rfl, by simp [NoN]⟩, by rw [if_pos (by decide)], trivial⟩)) ?_
        refine aw_cond rfl (fun hb => ?_) (fun hb => ?_)
        · have he0 : (segE l q.2.1 l.length) = 0 := by simpa using hb
          refine aw_text rfl ?_
          refine ch_n rfl rfl (oc_store (y := .val _) (cs' := [_]) rfl rfl rfl (by kernel_rfl) (by kernel_rfl) (fun E v h => by unfold Rep at h; subst h; rfl) (by first | decide | (simp; done) | (simp; omega)) rfl) ⟨rfl, trivial⟩ ?_
          refine ck_nil ?_
          refine aw_exit ?_
          exact ⟨(true, q.2.1, l.length, q.2.2.2 ++ segT l q.2.1 l.length, 16), .inl ⟨by show (16 : Int) ≠ 0; decide, by rw [hun, un_step hlt, if_pos hgt, if_pos he0]⟩, Le.sub ⟨.inr rfl, .inr rfl, .inr rfl, trivial⟩ ⟨rfl, rfl, rfl, rfl, rfl, rfl, trivial⟩⟩
        · have he0 : (segE l q.2.1 l.length) ≠ 0 := by simpa using hb
          refine aw_skip ?_
          refine aw_exit ?_
          exact ⟨(true, q.2.1, l.length, q.2.2.2 ++ segT l q.2.1 l.length, (segE l q.2.1 l.length)), .inl ⟨he0, by rw [hun, un_step hlt, if_pos hgt, if_neg he0]⟩, Le.sub ⟨.inr rfl, .inr rfl, .inr rfl, trivial⟩ ⟨rfl, rfl, rfl, rfl, rfl, rfl, trivial⟩⟩
      · have hgt : ¬ l.length - q.2.2.1 < wideC (l.getD q.2.2.1 0) := by have h0 := of_decide_eq_false hb; omega
        refine aw_seq ?_
        refine aw_text rfl ?_
        refine ch_v (R := []) rfl rfl (oc_load rfl rfl (by kernel_rfl) cells_sl) trivial ?_
        refine ch_v (R := [(_, .live _ _)]) rfl rfl (oc_load_own rfl rfl (by kernel_rfl) rfl) ⟨rfl, trivial⟩ ?_
        refine ch_v (R := []) rfl rfl ((by first | exact oc_indexN rfl rfl rfl (by kernel_rfl) (by omega) | exact oc_index rfl rfl rfl (by kernel_rfl) (by omega) (by omega) rfl)) trivial ?_
        refine ch_v (R := []) rfl rfl (oc_load rfl rfl (by kernel_rfl) cells_int) trivial ?_
        refine ch_v (R := []) rfl rfl (oc_binZ rfl rfl rfl rfl) trivial ?_
        refine ch_v (R := []) rfl rfl (oc_assign (x := .val _) rfl rfl) trivial ?_
        refine ck_nil ?_
        refine aw_cond rfl (fun hb => ?_) (fun hb => ?_)
        · have h30 : (l.getD q.2.2.1 0) ≠ 30 := by simpa using hb
          refine aw_seq ?_
          refine aw_text rfl ?_
          refine ch_v (R := [(_, .live _ _)]) rfl rfl (oc_load_own rfl rfl (by kernel_rfl) rfl) ⟨rfl, trivial⟩ ?_
          refine ch_v (R := []) rfl rfl (oc_move (x := .val _) rfl rfl) trivial ?_
          refine ch_v (R := []) rfl rfl (oc_binZ rfl rfl rfl (by first | exact binW_add (by omega) (by omega) | rfl)) trivial ?_
          refine ch_n rfl rfl (oc_store (y := .val _) (cs' := [_]) rfl rfl rfl (by kernel_rfl) (by kernel_rfl) (by first | exact cells_int | exact cells_any) (by first | decide | (simp; done) | (simp; omega)) rfl) ⟨rfl, trivial⟩ ?_
          refine ck_nil ?_
          refine aw_exit ?_
          exact ⟨(q.1, q.2.1, q.2.2.1 + wideC (l.getD q.2.2.1 0), q.2.2.2), ⟨by show q.2.1 ≤ q.2.2.1 + _; omega, by show q.2.2.1 + _ ≤ _; omega, h3, f, by show _ < f + (q.2.2.1 + _); omega, by rw [hun, un_step hlt, if_neg hgt, if_pos h30]⟩, by show l.length - (q.2.2.1 + _) < _; omega, Le.sub ⟨.inr rfl, .inr rfl, .inr rfl, .inr rfl, .inr rfl, .inr rfl, .inr rfl, .inr rfl, trivial⟩ ⟨rfl, rfl, rfl, by show _ = some (Hs.live _ [vi ((q.2.2.1 + wideC (l.getD q.2.2.1 0) : Nat) : Int)]); rw [Int.natCast_add]; rfl, rfl, rfl, trivial⟩⟩
        · have h30 : (l.getD q.2.2.1 0) = 30 := by simpa using hb
          have hw2 : ((wideC (l.getD q.2.2.1 0) : Nat) : Int) = 2 := by rw [h30]; rfl
          have hw2n : wideC (l.getD q.2.2.1 0) = 2 := by rw [h30]; rfl
          have hat2 : (q.2.2.1 : Int) + (wideC (l.getD q.2.2.1 0) : Int) = ((q.2.2.1 + 2 : Nat) : Int) := by omega
          have hts := segT_size l (i := q.2.1) (j := q.2.2.1) h1 h2
          refine aw_seq ?_
          refine aw_text rfl ?_
          refine ch_v (R := []) rfl rfl (oc_move (x := .clo _ _) rfl rfl) trivial ?_
          refine ch_u rfl rfl (oc_callCloFC [2] rfl rfl (by kernel_rfl) (flush_fcm q.1 l q.2.1 q.2.2.1 0 q.2.2.2 (by omega) h1 h2 (by omega)) rfl (by simp) (by simp [bornH]) (by simp) (by simp) (flush_in l (by simp) (by simp) (by simp) (by simp)) ⟨by unfold bldX; cases q.1 <;> simp [InH, InNL, InN], by simp [InH, InNL, InN], by simp [InH, InNL, InN], by simp [InH, InNL, InN], inNL_byt _, trivial⟩ (by simp [InN]) ⟨by simp [InH, InNL, InN], by simp [InH, InNL, InN], by simp [InH, InNL, InN], by simp [InH, InNL, InN], inNL_byt _, trivial⟩) ⟨rfl, rfl, rfl, rfl, rfl, rfl, trivial⟩ ?_
          refine ch_v (R := []) rfl rfl (oc_not rfl rfl) trivial ?_
          refine ch_v (R := []) rfl rfl (oc_assign (x := .val _) rfl rfl) trivial ?_
          refine ck_nil ?_
          refine aw_le (Le.trans (Le.swap (τ := ⟨[(1, slS ab), (2, .ptr (slI l)), (6, .own 0 0), (7, .clo 58 []), (8, .own 3 0), (9, .own 4 0), (10, .own 5 0), (11, .clo 59 [.ptr (slI l), .own 3 0, .own 4 0, .own 0 0, .own 5 0]), (12, vi (wideC (l.getD q.2.2.1 0) : Int)), (44, vb (!((segE l q.2.1 q.2.2.1) == 0)))], [(0, .live 77 [.own 0 0, .osl 1 1 (q.2.2.2 ++ segT l q.2.1 q.2.2.1).size]), (1, .live 5 (bytA (q.2.2.2 ++ segT l q.2.1 q.2.2.1))), (3, .live 3 [vi (q.2.1 : Int)]), (4, .live 3 [vi (q.2.2.1 : Int)]), (5, .live 29 [vi (segE l q.2.1 q.2.2.1)])]⟩) 1 2 (by simp) (by simp) ⟨(ren_pure _ _ (pure_slS _)).symm, ren_pslI l, rfl, rfl, rfl, rfl, rfl, ren_caps l, rfl, rfl, trivial⟩ ⟨rfl, by show lkH _ 2 = some (Hs.live _ ((bytA (q.2.2.2 ++ segT l q.2.1 q.2.2.1)).map _)); rw [ren_byt]; rfl, rfl, rfl, rfl, trivial⟩) (Le.reset (τ := ⟨[(1, slS ab), (2, .ptr (slI l)), (6, .own 0 0), (7, .clo 58 []), (8, .own 3 0), (9, .own 4 0), (10, .own 5 0), (11, .clo 59 [.ptr (slI l), .own 3 0, .own 4 0, .own 0 0, .own 5 0]), (12, vi (wideC (l.getD q.2.2.1 0) : Int)), (44, vb (!((segE l q.2.1 q.2.2.1) == 0)))], [(0, .live 77 [.own 0 0, .osl 1 1 (q.2.2.2 ++ segT l q.2.1 q.2.2.1).size]), (1, .live 5 (bytA (q.2.2.2 ++ segT l q.2.1 q.2.2.1))), (3, .live 3 [vi (q.2.1 : Int)]), (4, .live 3 [vi (q.2.2.1 : Int)]), (5, .live 29 [vi (segE l q.2.1 q.2.2.1)]), (2, .unborn)]⟩) [2] (by simp) ⟨.inr rfl, .inr rfl, .inr rfl, .inr rfl, .inr rfl, .inr rfl, .inr rfl, .inr rfl, .inr rfl, .inr rfl, trivial⟩ ⟨NoN.of_pure _ (pure_slS _), NoN.of_pure _ (by unfold Pure; exact pure_slI l), by simp [NoN], by simp [NoN, NoNL], by simp [NoN], by simp [NoN], by simp [NoN], non_caps l (by simp) (by simp) (by simp) (by simp), by simp [NoN], by simp [NoN], trivial⟩ ⟨by rw [if_neg (by decide)]; exact ⟨rfl, by simp [NoN]⟩, by rw [if_neg (by decide)]; exact ⟨rfl, non_byt _⟩, by rw [if_neg (by decide)]; exact ⟨rfl, by simp [NoN]⟩, by rw [if_neg (by decide)]; exact ⟨rfl, by simp [NoN]⟩, by rw [if_neg (by decide)]; exact ⟨rfl, by simp [NoN]⟩, by rw [if_pos (by decide)], trivial⟩)) ?_
          refine aw_cond rfl (fun hb => ?_) (fun hb => ?_)
          · have he0 : (segE l q.2.1 q.2.2.1) ≠ 0 := by simpa using hb
            refine aw_exit ?_
            exact ⟨(true, q.2.1, q.2.2.1, q.2.2.2 ++ segT l q.2.1 q.2.2.1, (segE l q.2.1 q.2.2.1)), .inl ⟨he0, by rw [hun, un_step hlt, if_neg hgt, if_neg (fun hc => hc h30), if_pos he0]⟩, Le.sub ⟨.inr rfl, .inr rfl, .inr rfl, trivial⟩ ⟨rfl, rfl, rfl, rfl, rfl, rfl, trivial⟩⟩
          · have he0 : (segE l q.2.1 q.2.2.1) = 0 := by simpa using hb
            refine aw_seq ?_
            refine aw_text rfl ?_
            refine ch_v (R := []) rfl rfl (oc_load rfl rfl (by kernel_rfl) cells_sl) trivial ?_
            refine ch_v (R := [(_, .live _ _)]) rfl rfl (oc_load_own rfl rfl (by kernel_rfl) rfl) ⟨rfl, trivial⟩ ?_
            refine ch_v (R := []) rfl rfl (oc_binZ rfl rfl rfl (by first | exact binW_add (by omega) (by omega) | rfl)) trivial ?_
            refine ch_v (R := []) rfl rfl (oc_index (j := q.2.2.1 + 1) rfl rfl rfl (by kernel_rfl) (by omega) (by omega) (by omega)) trivial ?_
            refine ch_v (R := []) rfl rfl (oc_load rfl rfl (by kernel_rfl) cells_int) trivial ?_
            refine ch_v (R := []) rfl rfl (oc_move (x := .sl _ _ _) rfl rfl) trivial ?_
            refine ch_v (R := []) rfl rfl (oc_len rfl rfl (by kernel_rfl)) trivial ?_
            refine ch_v (R := []) rfl rfl (oc_binZ rfl rfl rfl rfl) trivial ?_
            refine ch_v (R := []) rfl rfl (oc_assign (x := .val _) rfl rfl) trivial ?_
            refine ck_nil ?_
            refine aw_cond rfl (fun hb => ?_) (fun hb => ?_)
            · have hab1 : (l.getD (q.2.2.1 + 1) 0) ≥ (ab.length : Int) := of_decide_eq_true hb
              refine aw_seq ?_
              refine aw_text rfl ?_
              refine ch_n rfl rfl (oc_store (y := .val _) (cs' := [_]) rfl rfl rfl (by kernel_rfl) (by kernel_rfl) (fun E v h => by unfold Rep at h; subst h; rfl) (by first | decide | (simp; done) | (simp; omega)) rfl) ⟨rfl, trivial⟩ ?_
              refine ck_nil ?_
              refine aw_exit ?_
              exact ⟨(true, q.2.1, q.2.2.1, q.2.2.2 ++ segT l q.2.1 q.2.2.1, 11), .inl ⟨by show (11 : Int) ≠ 0; decide, by rw [hun, un_step hlt, if_neg hgt, if_neg (fun hc => hc h30), if_neg (fun hc => hc he0), if_pos hab1]⟩, Le.sub ⟨.inr rfl, .inr rfl, .inr rfl, trivial⟩ ⟨rfl, rfl, rfl, rfl, rfl, rfl, trivial⟩⟩
            · have hab1 : ¬ (l.getD (q.2.2.1 + 1) 0) ≥ (ab.length : Int) := of_decide_eq_false hb
              have hp1 := hpos (q.2.2.1 + 1)
              have hasz := hab (l.getD (q.2.2.1 + 1) 0).toNat
              refine aw_skip ?_
              refine aw_seq ?_
              refine aw_text rfl ?_
              refine ch_v (R := []) rfl rfl (oc_move (x := .sl _ _ _) rfl rfl) trivial ?_
              refine ch_v (R := []) rfl rfl (oc_load rfl rfl (by kernel_rfl) cells_sl) trivial ?_
              refine ch_v (R := [(_, .live _ _)]) rfl rfl (oc_load_own rfl rfl (by kernel_rfl) rfl) ⟨rfl, trivial⟩ ?_
              refine ch_v (R := []) rfl rfl (oc_binZ rfl rfl rfl (by first | exact binW_add (by omega) (by omega) | rfl)) trivial ?_
              refine ch_v (R := []) rfl rfl (oc_index (j := q.2.2.1 + 1) rfl rfl rfl (by kernel_rfl) (by omega) (by omega) (by omega)) trivial ?_
              refine ch_v (R := []) rfl rfl (oc_load rfl rfl (by kernel_rfl) cells_int) trivial ?_
              refine ch_v (R := []) rfl rfl (oc_index (j := (l.getD (q.2.2.1 + 1) 0).toNat) rfl rfl rfl (by kernel_rfl) (by omega) (by omega) rfl) trivial ?_
              refine ch_v (R := []) rfl rfl (oc_load rfl rfl (by kernel_rfl) cells_str) trivial ?_
              refine ch_u rfl rfl (oc_callFC [2] rfl (by kernel_rfl) (writeString_fcm true (q.2.2.2 ++ segT l q.2.1 q.2.2.1) (ab.getD (l.getD (q.2.2.1 + 1) 0).toNat ByteArray.empty) (by rw [ByteArray.size_append]; omega)) rfl (by simp) (by simp [bornH]) (by simp) (by simp) (by simp [InNL, InN]) ⟨by simp [bldX, InH, InNL, InN], inNL_byt _, trivial⟩ (by simp [InN, InNL]) ⟨by simp [InH, InNL, InN], inNL_byt _, trivial⟩) ⟨rfl, rfl, rfl, trivial⟩ ?_
              refine ck_nil ?_
              refine aw_le (Le.trans (Le.swap (τ := ⟨[(1, slS ab), (2, .ptr (slI l)), (6, .own 0 0), (7, .clo 58 []), (8, .own 3 0), (9, .own 4 0), (10, .own 5 0), (11, .clo 59 [.ptr (slI l), .own 3 0, .own 4 0, .own 0 0, .own 5 0]), (12, vi (wideC (l.getD q.2.2.1 0) : Int))], [(0, .live 77 [.own 0 0, .osl 1 1 (((q.2.2.2 ++ segT l q.2.1 q.2.2.1) ++ ab.getD (l.getD (q.2.2.1 + 1) 0).toNat ByteArray.empty)).size]), (1, .live 5 (bytA (((q.2.2.2 ++ segT l q.2.1 q.2.2.1) ++ ab.getD (l.getD (q.2.2.1 + 1) 0).toNat ByteArray.empty)))), (3, .live 3 [vi (q.2.1 : Int)]), (4, .live 3 [vi (q.2.2.1 : Int)]), (5, .live 29 [vi (segE l q.2.1 q.2.2.1)])]⟩) 1 2 (by simp) (by simp) ⟨(ren_pure _ _ (pure_slS _)).symm, ren_pslI l, rfl, rfl, rfl, rfl, rfl, ren_caps l, rfl, trivial⟩ ⟨rfl, by show lkH _ 2 = some (Hs.live _ ((bytA (((q.2.2.2 ++ segT l q.2.1 q.2.2.1) ++ ab.getD (l.getD (q.2.2.1 + 1) 0).toNat ByteArray.empty))).map _)); rw [ren_byt]; rfl, rfl, rfl, rfl, trivial⟩) (Le.reset (τ := ⟨[(1, slS ab), (2, .ptr (slI l)), (6, .own 0 0), (7, .clo 58 []), (8, .own 3 0), (9, .own 4 0), (10, .own 5 0), (11, .clo 59 [.ptr (slI l), .own 3 0, .own 4 0, .own 0 0, .own 5 0]), (12, vi (wideC (l.getD q.2.2.1 0) : Int))], [(0, .live 77 [.own 0 0, .osl 1 1 (((q.2.2.2 ++ segT l q.2.1 q.2.2.1) ++ ab.getD (l.getD (q.2.2.1 + 1) 0).toNat ByteArray.empty)).size]), (1, .live 5 (bytA (((q.2.2.2 ++ segT l q.2.1 q.2.2.1) ++ ab.getD (l.getD (q.2.2.1 + 1) 0).toNat ByteArray.empty)))), (3, .live 3 [vi (q.2.1 : Int)]), (4, .live 3 [vi (q.2.2.1 : Int)]), (5, .live 29 [vi (segE l q.2.1 q.2.2.1)]), (2, .unborn)]⟩) [2] (by simp) ⟨.inr rfl, .inr rfl, .inr rfl, .inr rfl, .inr rfl, .inr rfl, .inr rfl, .inr rfl, .inr rfl, trivial⟩ ⟨NoN.of_pure _ (pure_slS _), NoN.of_pure _ (by unfold Pure; exact pure_slI l), by simp [NoN], by simp [NoN, NoNL], by simp [NoN], by simp [NoN], by simp [NoN], non_caps l (by simp) (by simp) (by simp) (by simp), by simp [NoN], trivial⟩ ⟨by rw [if_neg (by decide)]; exact ⟨rfl, by simp [NoN]⟩, by rw [if_neg (by decide)]; exact ⟨rfl, non_byt _⟩, by rw [if_neg (by decide)]; exact ⟨rfl, by simp [NoN]⟩, by rw [if_neg (by decide)]; exact ⟨rfl, by simp [NoN]⟩, by rw [if_neg (by decide)]; exact ⟨rfl, by simp [NoN]⟩, by rw [if_pos (by decide)], trivial⟩)) ?_
              refine aw_seq ?_
              refine aw_text rfl ?_
              refine ch_v (R := [(_, .live _ _)]) rfl rfl (oc_load_own rfl rfl (by kernel_rfl) rfl) ⟨rfl, trivial⟩ ?_
              refine ch_v (R := []) rfl rfl (oc_move (x := .val _) rfl rfl) trivial ?_
              refine ch_v (R := []) rfl rfl (oc_binZ rfl rfl rfl (by first | exact binW_add (by omega) (by omega) | rfl)) trivial ?_
              refine ch_n rfl rfl (oc_store (y := .val _) (cs' := [_]) rfl rfl rfl (by kernel_rfl) (by kernel_rfl) (by first | exact cells_int | exact cells_any) (by first | decide | (simp; done) | (simp; omega)) rfl) ⟨rfl, trivial⟩ ?_
              refine ck_nil ?_
              refine aw_text rfl ?_
              refine ch_v (R := [(_, .live _ _)]) rfl rfl (oc_load_own rfl rfl (by kernel_rfl) rfl) ⟨rfl, trivial⟩ ?_
              refine ch_n rfl rfl (oc_store (y := .val _) (cs' := [_]) rfl rfl rfl (by kernel_rfl) (by kernel_rfl) (by first | exact cells_int | exact cells_any) (by first | decide | (simp; done) | (simp; omega)) rfl) ⟨rfl, trivial⟩ ?_
              refine ck_nil ?_
              exact ⟨(true, q.2.2.1 + 2, q.2.2.1 + 2, ((q.2.2.2 ++ segT l q.2.1 q.2.2.1) ++ ab.getD (l.getD (q.2.2.1 + 1) 0).toNat ByteArray.empty)), ⟨Nat.le_refl _, by show q.2.2.1 + 2 ≤ _; omega, by show (((q.2.2.2 ++ segT l q.2.1 q.2.2.1) ++ ab.getD (l.getD (q.2.2.1 + 1) 0).toNat ByteArray.empty)).size ≤ 1001 * (q.2.2.1 + 2); rw [ByteArray.size_append, ByteArray.size_append]; omega, f, by show _ < f + (q.2.2.1 + 2); omega, by rw [hun, un_step hlt, if_neg hgt, if_neg (fun hc => hc h30), if_neg (fun hc => hc he0), if_neg hab1]⟩, by show l.length - (q.2.2.1 + 2) < _; omega, Le.sub ⟨.inr rfl, .inr rfl, .inr rfl, .inr rfl, .inr rfl, .inr rfl, .inr rfl, .inr rfl, trivial⟩ ⟨rfl, rfl, congrArg (fun z : Int => some (Hs.live 3 [vi z])) hat2, congrArg (fun z : Int => some (Hs.live 3 [vi z])) hat2, by rw [← he0]; rfl, rfl, trivial⟩⟩
    · have hge : q.2.2.1 = l.length := by have h0 := of_decide_eq_false hb; omega
      refine aw_exit ?_
      exact ⟨(q.1, q.2.1, q.2.2.1, q.2.2.2, 0), .inr ⟨rfl, h2, h1, h3, by rw [hun, unF_end (by omega) (by omega), hge]⟩, Le.sub ⟨.inr rfl, .inr rfl, .inr rfl, trivial⟩ ⟨rfl, rfl, rfl, rfl, rfl, rfl, trivial⟩⟩
  · refine aw_seq ?_
    refine aw_seq ?_
    have hJ4 : (q.2.2.2.2 ≠ 0 ∧ unpackedP l ab = (ByteArray.empty, q.2.2.2.2)) ∨ (q.2.2.2.2 = 0 ∧ (segE l q.2.1 q.2.2.1) ≠ 0 ∧ q.2.2.1 ≤ l.length ∧ q.2.1 ≤ q.2.2.1 ∧ q.2.2.2.1.size ≤ 1001 * q.2.1 ∧ unpackedP l ab = (ByteArray.empty, (segE l q.2.1 q.2.2.1))) ∨ (q.2.2.2.2 = 0 ∧ (segE l q.2.1 q.2.2.1) = 0 ∧ q.2.2.1 ≤ l.length ∧ q.2.1 ≤ q.2.2.1 ∧ q.2.2.2.1.size ≤ 1001 * q.2.1 ∧ (¬ isTextB (tB (q.2.2.2.1 ++ (segT l q.2.1 q.2.2.1))) = true → unpackedP l ab = (ByteArray.empty, 13)) ∧ (isTextB (tB (q.2.2.2.1 ++ (segT l q.2.1 q.2.2.1))) = true → unpackedP l ab = ((q.2.2.2.1 ++ (segT l q.2.1 q.2.2.1)), 0)) ∧ (q.2.2.2.1 ++ (segT l q.2.1 q.2.2.1)).size = 0) ∨ (q.2.2.2.2 = 0 ∧ (segE l q.2.1 q.2.2.1) = 0 ∧ q.2.2.1 ≤ l.length ∧ q.2.1 ≤ q.2.2.1 ∧ q.2.2.2.1.size ≤ 1001 * q.2.1 ∧ (¬ isTextB (tB (q.2.2.2.1 ++ (segT l q.2.1 q.2.2.1))) = true → unpackedP l ab = (ByteArray.empty, 13)) ∧ (isTextB (tB (q.2.2.2.1 ++ (segT l q.2.1 q.2.2.1))) = true → unpackedP l ab = ((q.2.2.2.1 ++ (segT l q.2.1 q.2.2.1)), 0)) ∧ 0 < (q.2.2.2.1 ++ (segT l q.2.1 q.2.2.1)).size) := by
      rcases hJ with h | ⟨g1, g2, g3, g4, g5⟩
      · exact .inl h
      · refine .inr ?_
        by_cases he : (segE l q.2.1 q.2.2.1) = 0
        · refine .inr ?_
          unfold unEnd at g5
          rw [if_neg (fun hc => hc he)] at g5
          rcases Nat.eq_zero_or_pos (q.2.2.2.1 ++ (segT l q.2.1 q.2.2.1)).size with hz | hz
          · exact .inl ⟨g1, he, g2, g3, g4, fun hn => by rw [g5, if_neg hn], fun hy => by rw [g5, if_pos hy], hz⟩
          · exact .inr ⟨g1, he, g2, g3, g4, fun hn => by rw [g5, if_neg hn], fun hy => by rw [g5, if_pos hy], hz⟩
        · exact .inl ⟨g1, he, g2, g3, g4, by rw [g5]; unfold unEnd; rw [if_pos he]⟩
    have hts : q.2.1 ≤ q.2.2.1 → q.2.2.1 ≤ l.length → (segT l q.2.1 q.2.2.1).size ≤ q.2.2.1 - q.2.1 := fun a b => segT_size l a b
    rcases hJ4 with ⟨hw, hres⟩ | ⟨hw, he, hat, hrow, hsz, hres⟩ | ⟨hw, he, hat, hrow, hsz, hres, hres2, hz0⟩ | ⟨hw, he, hat, hrow, hsz, hres, hres2, hz0⟩
    · refine aw_text rfl ?_
      refine ch_v (R := [(_, .live _ _)]) rfl rfl (oc_load_own rfl rfl (by kernel_rfl) rfl) ⟨rfl, trivial⟩ ?_
      refine ch_v (R := []) rfl rfl (OC.cast (oc_binZ rfl rfl rfl rfl) (show vb (q.2.2.2.2 == 0) = vb false from by simp [hw])) trivial ?_
      refine ch_v (R := []) rfl rfl (oc_move (x := .val _) rfl rfl) trivial ?_
      refine ch_kF rfl rfl rfl rfl ?_
      refine ch_kF rfl rfl rfl rfl ?_
      refine ch_v (R := []) rfl rfl (oc_pickF rfl rfl rfl) trivial ?_
      refine ch_v (R := []) rfl rfl (oc_move (x := .val _) rfl rfl) trivial ?_
      refine ch_kF rfl rfl rfl rfl ?_
      refine ch_kF rfl rfl rfl rfl ?_
      refine ch_kF rfl rfl rfl rfl ?_
      refine ch_v (R := []) rfl rfl (oc_pickF rfl rfl rfl) trivial ?_
      refine ck_nil ?_
      refine aw_cond rfl (fun hb => ?_) (fun hb => ?_)
      · exact absurd hb (by decide)
      · refine aw_skip ?_
        refine aw_seq ?_
        refine aw_seq ?_
        refine aw_text rfl ?_
        refine ch_v (R := [(_, .live _ _)]) rfl rfl (oc_load_own rfl rfl (by kernel_rfl) rfl) ⟨rfl, trivial⟩ ?_
        refine ch_v (R := []) rfl rfl (oc_binZ rfl rfl rfl rfl) trivial ?_
        refine ck_nil ?_
        refine aw_cond rfl (fun hb => ?_) (fun hb => ?_)
        · refine aw_seq ?_
          refine aw_draw mixed ?_
          refine ch_v (R := [(_, .live _ _)]) rfl rfl (oc_load_own rfl rfl (by kernel_rfl) rfl) ⟨rfl, trivial⟩ ?_
          refine ch_v (R := []) rfl rfl (oc_assign (x := .val _) rfl rfl) trivial ?_
          refine ch_v (R := []) rfl rfl (oc_assign (x := .val _) rfl rfl) trivial ?_
          refine ck_nil ⟨by kernel_rfl, ?_⟩
          refine aw_ret ?_
          exact ⟨.inl rfl, by rw [hres, empE]; exact ResOk.two rfl (ResC.tmp rfl) (ResC.tmp rfl), trivial⟩
        · exact absurd hb (by (simp [hw]))
    · refine aw_text rfl ?_
      refine ch_v (R := [(_, .live _ _)]) rfl rfl (oc_load_own rfl rfl (by kernel_rfl) rfl) ⟨rfl, trivial⟩ ?_
      refine ch_v (R := []) rfl rfl (OC.cast (oc_binZ rfl rfl rfl rfl) (show vb (q.2.2.2.2 == 0) = vb true from by simp [hw])) trivial ?_
      refine ch_v (R := []) rfl rfl (oc_move (x := .val _) rfl rfl) trivial ?_
      refine ch_kT (R := []) (U := []) rfl rfl rfl rfl (oc_move (x := .clo _ _) rfl rfl) trivial ?_
      refine ch_kT rfl rfl rfl rfl (OC.cast (oc_callCloFC [2] rfl rfl (by kernel_rfl) (flush_fcm q.1 l q.2.1 q.2.2.1 q.2.2.2.2 q.2.2.2.1 (by omega) hrow hat (by omega)) rfl (by simp) (by simp [bornH]) (by simp) (by simp) (flush_in l (by simp) (by simp) (by simp) (by simp)) ⟨by unfold bldX; cases q.1 <;> simp [InH, InNL, InN], by simp [InH, InNL, InN], by simp [InH, InNL, InN], by simp [InH, InNL, InN], inNL_byt _, trivial⟩ (by simp [InN]) ⟨by simp [InH, InNL, InN], by simp [InH, InNL, InN], by simp [InH, InNL, InN], by simp [InH, InNL, InN], inNL_byt _, trivial⟩) (show vb ((segE l q.2.1 q.2.2.1) == 0) = vb false from by simp [he])) ⟨rfl, rfl, rfl, rfl, rfl, rfl, trivial⟩ ?_
      refine ch_v (R := []) rfl rfl (oc_pickT rfl rfl rfl) trivial ?_
      refine ch_v (R := []) rfl rfl (oc_move (x := .val _) rfl rfl) trivial ?_
      refine ch_kF rfl rfl rfl rfl ?_
      refine ch_kF rfl rfl rfl rfl ?_
      refine ch_kF rfl rfl rfl rfl ?_
      refine ch_v (R := []) rfl rfl (oc_pickF rfl rfl rfl) trivial ?_
      refine ck_nil ?_
      refine aw_cond rfl (fun hb => ?_) (fun hb => ?_)
      · exact absurd hb (by decide)
      · refine aw_skip ?_
        refine aw_seq ?_
        refine aw_seq ?_
        refine aw_text rfl ?_
        refine ch_v (R := [(_, .live _ _)]) rfl rfl (oc_load_own rfl rfl (by kernel_rfl) rfl) ⟨rfl, trivial⟩ ?_
        refine ch_v (R := []) rfl rfl (oc_binZ rfl rfl rfl rfl) trivial ?_
        refine ck_nil ?_
        refine aw_cond rfl (fun hb => ?_) (fun hb => ?_)
        · refine aw_seq ?_
          refine aw_draw mixed ?_
          refine ch_v (R := [(_, .live _ _)]) rfl rfl (oc_load_own rfl rfl (by kernel_rfl) rfl) ⟨rfl, trivial⟩ ?_
          refine ch_v (R := []) rfl rfl (oc_assign (x := .val _) rfl rfl) trivial ?_
          refine ch_v (R := []) rfl rfl (oc_assign (x := .val _) rfl rfl) trivial ?_
          refine ck_nil ⟨by kernel_rfl, ?_⟩
          refine aw_ret ?_
          exact ⟨.inl rfl, by rw [hres, empE]; exact ResOk.two rfl (ResC.tmp rfl) (ResC.tmp rfl), trivial⟩
        · exact absurd hb (by (simp [he]))
    · have hts2 := hts hrow hat
      have hem1 : FC Tryd.prog 62 [.own 0 0] [(0, .live 77 [.own 0 0, .osl 1 2 (q.2.2.2.1 ++ (segT l q.2.1 q.2.2.1)).size]), (2, .live 5 (bytA (q.2.2.2.1 ++ (segT l q.2.1 q.2.2.1))))] (vs (q.2.2.2.1 ++ (segT l q.2.1 q.2.2.1))) [(0, .live 77 [.own 0 0, .osl 1 2 (q.2.2.2.1 ++ (segT l q.2.1 q.2.2.1)).size]), (2, .live 5 (bytA (q.2.2.2.1 ++ (segT l q.2.1 q.2.2.1))))] := by
        rw [size0_empty hz0]
        exact fun E vs hG hA hR hB hU => string_empty2 (.own 0 0) E vs hG hA (by simpa using hR) hB (by simpa using hU)
      refine aw_text rfl ?_
      refine ch_v (R := [(_, .live _ _)]) rfl rfl (oc_load_own rfl rfl (by kernel_rfl) rfl) ⟨rfl, trivial⟩ ?_
      refine ch_v (R := []) rfl rfl (OC.cast (oc_binZ rfl rfl rfl rfl) (show vb (q.2.2.2.2 == 0) = vb true from by simp [hw])) trivial ?_
      refine ch_v (R := []) rfl rfl (oc_move (x := .val _) rfl rfl) trivial ?_
      refine ch_kT (R := []) (U := []) rfl rfl rfl rfl (oc_move (x := .clo _ _) rfl rfl) trivial ?_
      refine ch_kT rfl rfl rfl rfl (OC.cast (oc_callCloFC [2] rfl rfl (by kernel_rfl) (flush_fcm q.1 l q.2.1 q.2.2.1 q.2.2.2.2 q.2.2.2.1 (by omega) hrow hat (by omega)) rfl (by simp) (by simp [bornH]) (by simp) (by simp) (flush_in l (by simp) (by simp) (by simp) (by simp)) ⟨by unfold bldX; cases q.1 <;> simp [InH, InNL, InN], by simp [InH, InNL, InN], by simp [InH, InNL, InN], by simp [InH, InNL, InN], inNL_byt _, trivial⟩ (by simp [InN]) ⟨by simp [InH, InNL, InN], by simp [InH, InNL, InN], by simp [InH, InNL, InN], by simp [InH, InNL, InN], inNL_byt _, trivial⟩) (show vb ((segE l q.2.1 q.2.2.1) == 0) = vb true from by simp [he])) ⟨rfl, rfl, rfl, rfl, rfl, rfl, trivial⟩ ?_
      refine ch_v (R := []) rfl rfl (oc_pickT rfl rfl rfl) trivial ?_
      refine ch_v (R := []) rfl rfl (oc_move (x := .val _) rfl rfl) trivial ?_
      refine ch_kT rfl rfl rfl rfl (oc_callFC [] rfl (by kernel_rfl) (FC.m hem1) rfl (by simp) (by simp [bornH]) (by simp) (by simp) (by simp [InNL, InN]) ⟨by simp [InH, InNL, InN], inNL_byt _, trivial⟩ (by simp [InN, InNL]) ⟨by simp [InH, InNL, InN], inNL_byt _, trivial⟩) ⟨rfl, rfl, trivial⟩ ?_
      refine ch_kT (R := []) (U := []) rfl rfl rfl rfl (oc_call rfl (by kernel_rfl) (istext_pc (q.2.2.2.1 ++ (segT l q.2.1 q.2.2.1)) (by rw [ByteArray.size_append]; omega)) rfl (by simp only [PureL, Pure, and_self, pure_slI, pure_slS, rowAv, pieces_pure, pool_pure, bs_pure, implies_true]) (by simp only [PureL, Pure, and_self, pure_slI, pure_slS, rowAv, pieces_pure, pool_pure, bs_pure, implies_true])) trivial ?_
      refine ch_kT (R := []) (U := []) rfl rfl rfl rfl (oc_not rfl rfl) trivial ?_
      refine ch_v (R := []) rfl rfl (oc_pickT rfl rfl rfl) trivial ?_
      refine ck_nil ?_
      refine aw_cond rfl (fun hb => ?_) (fun hb => ?_)
      · have hit : isTextB (tB (q.2.2.2.1 ++ (segT l q.2.1 q.2.2.1))) = false := by simpa using hb
        refine aw_text rfl ?_
        refine ch_n rfl rfl (oc_store (y := .val _) (cs' := [_]) rfl rfl rfl (by kernel_rfl) (by kernel_rfl) (fun E v h => by unfold Rep at h; subst h; rfl) (by first | decide | (simp; done) | (simp; omega)) rfl) ⟨rfl, trivial⟩ ?_
        refine ck_nil ?_
        refine aw_seq ?_
        refine aw_seq ?_
        refine aw_text rfl ?_
        refine ch_v (R := [(_, .live _ _)]) rfl rfl (oc_load_own rfl rfl (by kernel_rfl) rfl) ⟨rfl, trivial⟩ ?_
        refine ch_v (R := []) rfl rfl (oc_binZ rfl rfl rfl rfl) trivial ?_
        refine ck_nil ?_
        refine aw_cond rfl (fun hb => ?_) (fun hb => ?_)
        · refine aw_seq ?_
          refine aw_draw mixed ?_
          refine ch_v (R := [(_, .live _ _)]) rfl rfl (oc_load_own rfl rfl (by kernel_rfl) rfl) ⟨rfl, trivial⟩ ?_
          refine ch_v (R := []) rfl rfl (oc_assign (x := .val _) rfl rfl) trivial ?_
          refine ch_v (R := []) rfl rfl (oc_assign (x := .val _) rfl rfl) trivial ?_
          refine ck_nil ⟨by kernel_rfl, ?_⟩
          refine aw_ret ?_
          exact ⟨.inl rfl, by rw [hres (by rw [hit]; decide)]; rw [empE]; exact ResOk.two rfl (ResC.tmp rfl) (ResC.tmp rfl), trivial⟩
        · exact absurd hb (by decide)
      · have hit : isTextB (tB (q.2.2.2.1 ++ (segT l q.2.1 q.2.2.1))) = true := by simpa using hb
        refine aw_skip ?_
        refine aw_seq ?_
        refine aw_seq ?_
        refine aw_text rfl ?_
        refine ch_v (R := [(_, .live _ _)]) rfl rfl (oc_load_own rfl rfl (by kernel_rfl) rfl) ⟨rfl, trivial⟩ ?_
        refine ch_v (R := []) rfl rfl (oc_binZ rfl rfl rfl rfl) trivial ?_
        refine ck_nil ?_
        refine aw_cond rfl (fun hb => ?_) (fun hb => ?_)
        · exact absurd hb (by (simp [he]))
        · refine aw_skip ?_
          refine aw_seq ?_
          refine aw_text rfl ?_
          refine ch_u rfl rfl (oc_callFC [] rfl (by kernel_rfl) (FC.m hem1) rfl (by simp) (by simp [bornH]) (by simp) (by simp) (by simp [InNL, InN]) ⟨by simp [InH, InNL, InN], inNL_byt _, trivial⟩ (by simp [InN, InNL]) ⟨by simp [InH, InNL, InN], inNL_byt _, trivial⟩) ⟨rfl, rfl, trivial⟩ ?_
          refine ch_v (R := []) rfl rfl (oc_assign (x := .val _) rfl rfl) trivial ?_
          refine ch_v (R := []) rfl rfl (oc_assign (x := .val _) rfl rfl) trivial ?_
          refine ck_nil ?_
          refine aw_ret ?_
          exact ⟨.inl rfl, by rw [hres2 hit]; exact ResOk.two rfl (ResC.tmp rfl) (ResC.tmp rfl), trivial⟩
    · have hts2 := hts hrow hat
      have hpos63 : 0 < (q.2.2.2.1 ++ (segT l q.2.1 q.2.2.1)).size ∧ (q.2.2.2.1 ++ (segT l q.2.1 q.2.2.1)).size ≤ 9223372036854775807 := ⟨hz0, by rw [ByteArray.size_append]; omega⟩
      refine aw_text rfl ?_
      refine ch_v (R := [(_, .live _ _)]) rfl rfl (oc_load_own rfl rfl (by kernel_rfl) rfl) ⟨rfl, trivial⟩ ?_
      refine ch_v (R := []) rfl rfl (OC.cast (oc_binZ rfl rfl rfl rfl) (show vb (q.2.2.2.2 == 0) = vb true from by simp [hw])) trivial ?_
      refine ch_v (R := []) rfl rfl (oc_move (x := .val _) rfl rfl) trivial ?_
      refine ch_kT (R := []) (U := []) rfl rfl rfl rfl (oc_move (x := .clo _ _) rfl rfl) trivial ?_
      refine ch_kT rfl rfl rfl rfl (OC.cast (oc_callCloFC [2] rfl rfl (by kernel_rfl) (flush_fcm q.1 l q.2.1 q.2.2.1 q.2.2.2.2 q.2.2.2.1 (by omega) hrow hat (by omega)) rfl (by simp) (by simp [bornH]) (by simp) (by simp) (flush_in l (by simp) (by simp) (by simp) (by simp)) ⟨by unfold bldX; cases q.1 <;> simp [InH, InNL, InN], by simp [InH, InNL, InN], by simp [InH, InNL, InN], by simp [InH, InNL, InN], inNL_byt _, trivial⟩ (by simp [InN]) ⟨by simp [InH, InNL, InN], by simp [InH, InNL, InN], by simp [InH, InNL, InN], by simp [InH, InNL, InN], inNL_byt _, trivial⟩) (show vb ((segE l q.2.1 q.2.2.1) == 0) = vb true from by simp [he])) ⟨rfl, rfl, rfl, rfl, rfl, rfl, trivial⟩ ?_
      refine ch_v (R := []) rfl rfl (oc_pickT rfl rfl rfl) trivial ?_
      refine ch_v (R := []) rfl rfl (oc_move (x := .val _) rfl rfl) trivial ?_
      refine ch_kT rfl rfl rfl rfl (oc_callFC [] rfl (by kernel_rfl) (string_first2 (.own 0 0) (q.2.2.2.1 ++ (segT l q.2.1 q.2.2.1)) hpos63.1 hpos63.2) rfl (by simp) (by simp [bornH]) (by simp) (by simp) (by simp [InNL, InN]) ⟨by simp [InH, InNL, InN], inNL_byt _, trivial⟩ (by simp [InN, InNL]) ⟨by simp [InH, InNL, InN], trivial⟩) ⟨rfl, rfl, trivial⟩ ?_
      refine ch_kT (R := []) (U := []) rfl rfl rfl rfl (oc_call rfl (by kernel_rfl) (istext_pc (q.2.2.2.1 ++ (segT l q.2.1 q.2.2.1)) (by rw [ByteArray.size_append]; omega)) rfl (by simp only [PureL, Pure, and_self, pure_slI, pure_slS, rowAv, pieces_pure, pool_pure, bs_pure, implies_true]) (by simp only [PureL, Pure, and_self, pure_slI, pure_slS, rowAv, pieces_pure, pool_pure, bs_pure, implies_true])) trivial ?_
      refine ch_kT (R := []) (U := []) rfl rfl rfl rfl (oc_not rfl rfl) trivial ?_
      refine ch_v (R := []) rfl rfl (oc_pickT rfl rfl rfl) trivial ?_
      refine ck_nil ?_
      refine aw_cond rfl (fun hb => ?_) (fun hb => ?_)
      · have hit : isTextB (tB (q.2.2.2.1 ++ (segT l q.2.1 q.2.2.1))) = false := by simpa using hb
        refine aw_text rfl ?_
        refine ch_n rfl rfl (oc_store (y := .val _) (cs' := [_]) rfl rfl rfl (by kernel_rfl) (by kernel_rfl) (fun E v h => by unfold Rep at h; subst h; rfl) (by first | decide | (simp; done) | (simp; omega)) rfl) ⟨rfl, trivial⟩ ?_
        refine ck_nil ?_
        refine aw_seq ?_
        refine aw_seq ?_
        refine aw_text rfl ?_
        refine ch_v (R := [(_, .live _ _)]) rfl rfl (oc_load_own rfl rfl (by kernel_rfl) rfl) ⟨rfl, trivial⟩ ?_
        refine ch_v (R := []) rfl rfl (oc_binZ rfl rfl rfl rfl) trivial ?_
        refine ck_nil ?_
        refine aw_cond rfl (fun hb => ?_) (fun hb => ?_)
        · refine aw_seq ?_
          refine aw_draw mixed ?_
          refine ch_v (R := [(_, .live _ _)]) rfl rfl (oc_load_own rfl rfl (by kernel_rfl) rfl) ⟨rfl, trivial⟩ ?_
          refine ch_v (R := []) rfl rfl (oc_assign (x := .val _) rfl rfl) trivial ?_
          refine ch_v (R := []) rfl rfl (oc_assign (x := .val _) rfl rfl) trivial ?_
          refine ck_nil ⟨by kernel_rfl, ?_⟩
          refine aw_ret ?_
          exact ⟨.inl rfl, by rw [hres (by rw [hit]; decide)]; rw [empE]; exact ResOk.two rfl (ResC.tmp rfl) (ResC.tmp rfl), trivial⟩
        · exact absurd hb (by decide)
      · have hit : isTextB (tB (q.2.2.2.1 ++ (segT l q.2.1 q.2.2.1))) = true := by simpa using hb
        refine aw_skip ?_
        refine aw_seq ?_
        refine aw_seq ?_
        refine aw_text rfl ?_
        refine ch_v (R := [(_, .live _ _)]) rfl rfl (oc_load_own rfl rfl (by kernel_rfl) rfl) ⟨rfl, trivial⟩ ?_
        refine ch_v (R := []) rfl rfl (oc_binZ rfl rfl rfl rfl) trivial ?_
        refine ck_nil ?_
        refine aw_cond rfl (fun hb => ?_) (fun hb => ?_)
        · exact absurd hb (by (simp [he]))
        · refine aw_skip ?_
          refine aw_seq ?_
          refine aw_text rfl ?_
          refine ch_u rfl rfl (oc_callFC [] rfl (by kernel_rfl) (string_again (.own 0 0) (q.2.2.2.1 ++ (segT l q.2.1 q.2.2.1)) hpos63.1 hpos63.2) rfl (by simp) (by simp [bornH]) (by simp) (by simp) (by simp [InNL, InN]) ⟨by simp [InH, InNL, InN], trivial⟩ (by simp [InN, InNL]) ⟨by simp [InH, InNL, InN], trivial⟩) ⟨rfl, trivial⟩ ?_
          refine ch_v (R := []) rfl rfl (oc_assign (x := .val _) rfl rfl) trivial ?_
          refine ch_v (R := []) rfl rfl (oc_assign (x := .val _) rfl rfl) trivial ?_
          refine ck_nil ?_
          refine aw_ret ?_
          exact ⟨.inl rfl, by rw [hres2 hit]; exact ResOk.two rfl (ResC.tmp rfl) (ResC.tmp rfl), trivial⟩
end Go.Proofs.YtpbaiighifhfnaaDoor
namespace Go.Proofs.YtpbaiighifhfnaaDoor
open Go.RowKit
set_option maxRecDepth 100000
set_option linter.unusedVariables false
set_option linter.unusedSimpArgs false
def runF (r : List Int) : Nat → Nat → Nat
  | 0, n => n
  | f + 1, n => if n < r.length ∧ r.getD n 0 ≠ 30 then runF r f (n + wideC (r.getD n 0)) else n
def runN (r : List Int) : Nat := runF r (r.length + 1) 0
noncomputable def saidF (ab : List ByteArray) : Nat → List Int → ByteArray → ByteArray × Int
  | 0, r, s => (ByteArray.empty, 0)
  | f + 1, r, s => if 0 < r.length then
      (if r.getD 0 0 = 30 then (if r.length < 2 then (ByteArray.empty, 16) else if r.getD 1 0 ≥ (ab.length : Int) then (ByteArray.empty, 11) else saidF ab f (r.drop 2) (s ++ ab.getD (r.getD 1 0).toNat ByteArray.empty))
       else if r.length < runN r then (ByteArray.empty, 16)
       else if (aText (r.take (runN r))).2 ≠ 0 then (ByteArray.empty, 16)
       else saidF ab f (r.drop (runN r)) (s ++ strOfNums (aText (r.take (runN r))).1))
      else (s, 0)
noncomputable def saidP (l : List Int) (ab : List ByteArray) : ByteArray × Int := saidF ab (l.length + 1) l ByteArray.empty
theorem said_step {ab : List ByteArray} {f : Nat} {r : List Int} {s : ByteArray} (h : 0 < r.length) : saidF ab (f + 1) r s = (if r.getD 0 0 = 30 then (if r.length < 2 then (ByteArray.empty, 16) else if r.getD 1 0 ≥ (ab.length : Int) then (ByteArray.empty, 11) else saidF ab f (r.drop 2) (s ++ ab.getD (r.getD 1 0).toNat ByteArray.empty))
       else if r.length < runN r then (ByteArray.empty, 16)
       else if (aText (r.take (runN r))).2 ≠ 0 then (ByteArray.empty, 16)
       else saidF ab f (r.drop (runN r)) (s ++ strOfNums (aText (r.take (runN r))).1)) := by
  show (if _ then _ else _) = _
  rw [if_pos h]
theorem said_end {ab : List ByteArray} {f : Nat} {r : List Int} {s : ByteArray} (h : ¬ 0 < r.length) (hf : f ≠ 0) : saidF ab f r s = (s, 0) := by
  obtain ⟨g, rfl⟩ : ∃ g, f = g + 1 := ⟨f - 1, by omega⟩
  unfold saidF
  rw [if_neg h]
theorem drop_row {r : List Int} {n : Nat} (h : n ≤ r.length) (E : Env) (v : Value) (hr : Rep E (.sl 1 (r.length - n) (fun j => (fun j => vi (r.getD j 0)) (j + n))) v) : Rep E (slI (r.drop n)) v := by
  unfold slI
  rw [List.length_drop]
  refine rep_rows (fun E k hk v hv => ?_) E v hr
  have e : (r.drop n).getD k 0 = r.getD (k + n) 0 := by
    rw [List.getD, List.getD, List.getElem?_drop]
    congr 2
    omega
  rw [e]
  exact hv
theorem take_row {r : List Int} {n : Nat} (h : n ≤ r.length) (E : Env) (v : Value) (hr : Rep E (.sl 1 n (fun j => vi (r.getD j 0))) v) : Rep E (slI (r.take n)) v := by
  unfold slI
  rw [List.length_take, Nat.min_eq_left h]
  refine rep_rows (fun E k hk v hv => ?_) E v hr
  have e : (r.take n).getD k 0 = r.getD k 0 := by rw [List.getD, List.getD, List.getElem?_take, if_pos hk]
  rw [e]
  exact hv
theorem textL_size (r : List Int) : (strOfNums (aText r).1).size ≤ r.length := by
  rw [strOf_size]
  rcases aText_or r with ⟨t, h1, h2, h3⟩ | h3
  · rw [h3]
    have h4 := aCodes_ge t (isText_ok h1)
    rw [h2] at h4
    exact h4
  · rw [h3]; exact Nat.zero_le _
theorem getD_drop0 (r : List Int) (n k : Nat) : (r.drop n).getD k 0 = r.getD (k + n) 0 := by
  rw [List.getD, List.getD, List.getElem?_drop]
  congr 2
  omega
abbrev SdSt := List Int × ByteArray
set_option maxHeartbeats 1600000 in
theorem said_pc (l : List Int) (hl : l.length ≤ 10000) (hpos : ∀ k, 0 ≤ l.getD k 0) (ab : List ByteArray) (hab : ∀ k, (ab.getD k ByteArray.empty).size ≤ 1000) (habl : ab.length ≤ 1000000) : PC Tryd.prog 43 [slI l, slS ab] (.tup [vs (saidP l ab).1, vi (saidP l ab).2]) := by
  refine FC.body 6 74 Tryd.func43 rfl (by kernel_rfl) ?_
  refine aw_seq ?_
  refine aw_text rfl ?_
  refine ch_v (R := []) rfl rfl (oc_assign (x := .val _) rfl rfl) trivial ?_
  refine ch_v (R := []) rfl rfl (oc_assign (x := .val _) rfl rfl) trivial ?_
  refine ck_nil ?_
  refine aw_seq ?_
  refine aw_text rfl ?_
  refine ch_v (R := []) rfl rfl (oc_assign (x := .val _) rfl rfl) trivial ?_
  refine ck_nil ?_
  refine aw_seq ?_
  refine aw_block ?_
  refine aw_loop (ι := SdSt) (fun q => ⟨[(0, slI q.1), (1, slS ab), (6, vs q.2)], []⟩) (fun q => q.1.length ≤ l.length ∧ (∀ k, 0 ≤ q.1.getD k 0) ∧ q.2.size ≤ 1001 * (l.length - q.1.length) ∧ ∃ f, q.1.length < f ∧ saidP l ab = saidF ab f q.1 q.2) (fun q => q.1.length) (l, ByteArray.empty) (⟨Nat.le_refl _, hpos, Nat.zero_le _, l.length + 1, Nat.lt_succ_self _, rfl⟩) (Le.sub ⟨.inr rfl, .inr rfl, .inr rfl, trivial⟩ trivial) ?_
  intro q hI
  obtain ⟨h1, h2, h3, f, hf, hun⟩ := hI
  refine aw_seq ?_
  refine aw_seq ?_
  refine aw_text rfl ?_
  refine ch_v (R := []) rfl rfl (oc_move (x := .sl _ _ _) rfl rfl) trivial ?_
  refine ch_v (R := []) rfl rfl (oc_len rfl rfl (by kernel_rfl)) trivial ?_
  refine ch_v (R := []) rfl rfl (oc_binZ rfl rfl rfl rfl) trivial ?_
  refine ck_nil ?_
  refine aw_cond rfl (fun hb => ?_) (fun hb => ?_)
  · have hlt : 0 < q.1.length := by have h0 := of_decide_eq_true hb; omega
    obtain ⟨f, rfl⟩ : ∃ g, f = g + 1 := ⟨f - 1, by omega⟩
    refine aw_skip ?_
    refine aw_block ?_
    refine aw_seq ?_
    refine aw_seq ?_
    refine aw_text rfl ?_
    refine ch_v (R := []) rfl rfl (oc_move (x := .sl _ _ _) rfl rfl) trivial ?_
    refine ch_v (R := []) rfl rfl (oc_index (j := 0) rfl rfl rfl (by kernel_rfl) (by omega) (by omega) rfl) trivial ?_
    refine ch_v (R := []) rfl rfl (oc_load rfl rfl (by kernel_rfl) cells_int) trivial ?_
    refine ch_v (R := []) rfl rfl (oc_binZ rfl rfl rfl rfl) trivial ?_
    refine ck_nil ?_
    refine aw_cond rfl (fun hb => ?_) (fun hb => ?_)
    · have h30 : q.1.getD 0 0 = 30 := by simpa using hb
      refine aw_seq ?_
      refine aw_seq ?_
      refine aw_text rfl ?_
      refine ch_v (R := []) rfl rfl (oc_move (x := .sl _ _ _) rfl rfl) trivial ?_
      refine ch_v (R := []) rfl rfl (oc_len rfl rfl (by kernel_rfl)) trivial ?_
      refine ch_v (R := []) rfl rfl (oc_binZ rfl rfl rfl rfl) trivial ?_
      refine ck_nil ?_
      refine aw_cond rfl (fun hb => ?_) (fun hb => ?_)
      · have hl2 : q.1.length < 2 := by have h0 := of_decide_eq_true hb; omega
        refine aw_seq ?_
        refine aw_text rfl ?_
        refine ch_v (R := []) rfl rfl (oc_assign (x := .val _) rfl rfl) trivial ?_
        refine ch_v (R := []) rfl rfl (oc_assign (x := .val _) rfl rfl) trivial ?_
        refine ck_nil ?_
        refine aw_ret ?_
        exact ⟨.inl rfl, by rw [hun, said_step hlt, if_pos h30, if_pos hl2, empE]; exact ResOk.two rfl (ResC.tmp rfl) (ResC.tmp rfl), trivial⟩
      · have hl2 : ¬ q.1.length < 2 := by have h0 := of_decide_eq_false hb; omega
        refine aw_skip ?_
        refine aw_seq ?_
        refine aw_seq ?_
        refine aw_text rfl ?_
        refine ch_v (R := []) rfl rfl (oc_move (x := .sl _ _ _) rfl rfl) trivial ?_
        refine ch_v (R := []) rfl rfl (oc_index (j := 1) rfl rfl rfl (by kernel_rfl) (by omega) (by omega) rfl) trivial ?_
        refine ch_v (R := []) rfl rfl (oc_load rfl rfl (by kernel_rfl) cells_int) trivial ?_
        refine ch_v (R := []) rfl rfl (oc_move (x := .sl _ _ _) rfl rfl) trivial ?_
        refine ch_v (R := []) rfl rfl (oc_len rfl rfl (by kernel_rfl)) trivial ?_
        refine ch_v (R := []) rfl rfl (oc_binZ rfl rfl rfl rfl) trivial ?_
        refine ck_nil ?_
        refine aw_cond rfl (fun hb => ?_) (fun hb => ?_)
        · have hab1 : q.1.getD 1 0 ≥ (ab.length : Int) := of_decide_eq_true hb
          refine aw_seq ?_
          refine aw_text rfl ?_
          refine ch_v (R := []) rfl rfl (oc_assign (x := .val _) rfl rfl) trivial ?_
          refine ch_v (R := []) rfl rfl (oc_assign (x := .val _) rfl rfl) trivial ?_
          refine ck_nil ?_
          refine aw_ret ?_
          exact ⟨.inl rfl, by rw [hun, said_step hlt, if_pos h30, if_neg hl2, if_pos hab1, empE]; exact ResOk.two rfl (ResC.tmp rfl) (ResC.tmp rfl), trivial⟩
        · have hab1 : ¬ q.1.getD 1 0 ≥ (ab.length : Int) := of_decide_eq_false hb
          have hp1 := h2 1
          have hasz := hab (q.1.getD 1 0).toNat
          refine aw_skip ?_
          refine aw_seq ?_
          refine aw_text rfl ?_
          refine ch_v (R := []) rfl rfl (oc_move (x := .val _) rfl rfl) trivial ?_
          refine ch_v (R := []) rfl rfl (oc_move (x := .sl _ _ _) rfl rfl) trivial ?_
          refine ch_v (R := []) rfl rfl (oc_move (x := .sl _ _ _) rfl rfl) trivial ?_
          refine ch_v (R := []) rfl rfl (oc_index (j := 1) rfl rfl rfl (by kernel_rfl) (by omega) (by omega) rfl) trivial ?_
          refine ch_v (R := []) rfl rfl (oc_load rfl rfl (by kernel_rfl) cells_int) trivial ?_
          refine ch_v (R := []) rfl rfl (oc_index (j := (q.1.getD 1 0).toNat) rfl rfl rfl (by kernel_rfl) (by omega) (by omega) rfl) trivial ?_
          refine ch_v (R := []) rfl rfl (oc_load rfl rfl (by kernel_rfl) cells_str) trivial ?_
          refine ch_v (R := []) rfl rfl (oc_str_add rfl rfl rfl (by omega)) trivial ?_
          refine ch_v (R := []) rfl rfl (oc_assign (x := .val _) rfl rfl) trivial ?_
          refine ck_nil ?_
          refine aw_seq ?_
          refine aw_text rfl ?_
          refine ch_v (R := []) rfl rfl (oc_move (x := .sl _ _ _) rfl rfl) trivial ?_
          refine ch_v (R := []) rfl rfl (OC.to (oc_slice_l (e := 3) (by_ := 8) (zs := [.int .i64 0]) 2 rfl rfl rfl (by kernel_rfl) (by kernel_rfl) (by omega)) (drop_row (by omega))) trivial ?_
          refine ch_v (R := []) rfl rfl (oc_assign (x := .sl _ _ _) rfl rfl) trivial ?_
          refine ck_nil ?_
          refine aw_exit ?_
          exact ⟨(q.1.drop 2, q.2 ++ (ab.getD (q.1.getD 1 0).toNat ByteArray.empty)), ⟨by show (q.1.drop 2).length ≤ _; rw [List.length_drop]; omega, fun k => by show 0 ≤ (q.1.drop 2).getD k 0; rw [getD_drop0]; exact h2 _, by show (q.2 ++ (ab.getD (q.1.getD 1 0).toNat ByteArray.empty)).size ≤ 1001 * (l.length - (q.1.drop 2).length); rw [ByteArray.size_append, List.length_drop]; omega, f, by show (q.1.drop 2).length < f; rw [List.length_drop]; omega, by rw [hun, said_step hlt, if_pos h30, if_neg hl2, if_neg hab1]⟩, by show (q.1.drop 2).length < q.1.length; rw [List.length_drop]; omega, Le.sub ⟨.inr rfl, .inr rfl, .inr rfl, trivial⟩ trivial⟩
    · have h30 : ¬ q.1.getD 0 0 = 30 := by simpa using hb
      refine aw_skip ?_
      refine aw_seq ?_
      refine aw_text rfl ?_
      refine ch_v (R := []) rfl rfl (oc_assign (x := .val _) rfl rfl) trivial ?_
      refine ck_nil ?_
      refine aw_seq ?_
      refine aw_block ?_
      refine aw_loop (ι := Nat) (fun n => ⟨[(0, slI q.1), (1, slS ab), (6, vs q.2), (7, vi n)], []⟩) (fun n => n ≤ q.1.length + 2 ∧ (n = 0 → 0 < q.1.length ∧ q.1.getD 0 0 ≠ 30) ∧ ∃ g, q.1.length < g + n ∧ runN q.1 = runF q.1 g n) (fun n => q.1.length + 3 - n) 0 (⟨Nat.zero_le _, fun _ => ⟨hlt, h30⟩, q.1.length + 1, by omega, rfl⟩) (Le.sub ⟨.inr rfl, .inr rfl, .inr rfl, .inr rfl, trivial⟩ trivial) ?_
      intro n hI
      obtain ⟨k1, k2, g, hg, hrun⟩ := hI
      refine aw_seq ?_
      refine aw_seq ?_
      refine aw_text rfl ?_
      refine ch_v (R := []) rfl rfl (oc_move (x := .val _) rfl rfl) trivial ?_
      refine ch_v (R := []) rfl rfl (oc_move (x := .sl _ _ _) rfl rfl) trivial ?_
      refine ch_v (R := []) rfl rfl (oc_len rfl rfl (by kernel_rfl)) trivial ?_
      refine ch_v (R := []) rfl rfl (oc_binZ rfl rfl rfl rfl) trivial ?_
      refine ch_v (R := []) rfl rfl (oc_move (x := .val _) rfl rfl) trivial ?_
      refine ch_g (R := []) rfl rfl rfl gate_t (fun hC => oc_move (x := .sl _ _ _) rfl rfl) (fun hC => ⟨(by first | rfl | exact hC | (simp only [Bool.and_eq_true] at hC; first | exact hC.1 | exact hC.1.1 | exact hC.2) | simp_all), trivial⟩) trivial ?_
      refine ch_g (R := []) rfl rfl rfl gate_t (fun hC => oc_move (x := .val _) rfl rfl) (fun hC => ⟨(by first | rfl | exact hC | (simp only [Bool.and_eq_true] at hC; first | exact hC.1 | exact hC.1.1 | exact hC.2) | simp_all), trivial⟩) trivial ?_
      refine ch_g (R := []) rfl rfl rfl gate_t (fun hC => by
            have hnl := of_decide_eq_true hC
            exact oc_indexN (j := n) rfl rfl rfl (by kernel_rfl) (by omega)) (fun hC => ⟨(by first | rfl | exact hC | (simp only [Bool.and_eq_true] at hC; first | exact hC.1 | exact hC.1.1 | exact hC.2) | simp_all), (by first | rfl | exact hC | (simp only [Bool.and_eq_true] at hC; first | exact hC.1 | exact hC.1.1 | exact hC.2) | simp_all), trivial⟩) trivial ?_
      refine ch_g (R := []) rfl rfl rfl gate_t (fun hC => oc_load rfl rfl (by kernel_rfl) cells_int) (fun hC => ⟨(by first | rfl | exact hC | (simp only [Bool.and_eq_true] at hC; first | exact hC.1 | exact hC.1.1 | exact hC.2) | simp_all), trivial⟩) trivial ?_
      refine ch_g (R := []) rfl rfl rfl gate_t (fun hC => oc_binZ rfl rfl rfl rfl) (fun hC => ⟨(by first | rfl | exact hC | (simp only [Bool.and_eq_true] at hC; first | exact hC.1 | exact hC.1.1 | exact hC.2) | simp_all), (by first | rfl | exact hC | (simp only [Bool.and_eq_true] at hC; first | exact hC.1 | exact hC.1.1 | exact hC.2) | simp_all), trivial⟩) trivial ?_
      refine ch_v (R := []) rfl rfl (oc_and rfl rfl rfl rfl (by first | exact fun h => h | simp_all)) trivial ?_
      refine ck_nil ?_
      refine aw_cond rfl (fun hb => ?_) (fun hb => ?_)
      · obtain ⟨g, rfl⟩ : ∃ g2, g = g2 + 1 := ⟨g - 1, by simp only [Bool.and_eq_true, decide_eq_true_eq] at hb; omega⟩
        have hq : n < q.1.length ∧ q.1.getD n 0 ≠ 30 := by
          have h0 := hb
          rw [Bool.and_eq_true, decide_eq_true_eq] at h0
          exact ⟨by omega, by simpa using h0.2⟩
        have hwb := wideC_bd (q.1.getD n 0)
        refine aw_skip ?_
        refine aw_block ?_
        refine aw_text rfl ?_
        refine ch_v (R := []) rfl rfl (oc_move (x := .val _) rfl rfl) trivial ?_
        refine ch_v (R := []) rfl rfl (oc_move (x := .sl _ _ _) rfl rfl) trivial ?_
        refine ch_v (R := []) rfl rfl (oc_move (x := .val _) rfl rfl) trivial ?_
        refine ch_v (R := []) rfl rfl (oc_indexN (j := n) rfl rfl rfl (by kernel_rfl) (by omega)) trivial ?_
        refine ch_v (R := []) rfl rfl (oc_load rfl rfl (by kernel_rfl) cells_int) trivial ?_
        refine ch_v (R := []) rfl rfl (oc_call rfl (by kernel_rfl) (wide_pc (q.1.getD n 0)) rfl (by simp only [PureL, Pure, and_self, pure_slI, pure_slS, rowAv, pieces_pure, pool_pure, bs_pure, implies_true]) (by simp only [PureL, Pure, and_self, pure_slI, pure_slS, rowAv, pieces_pure, pool_pure, bs_pure, implies_true])) trivial ?_
        refine ch_v (R := []) rfl rfl (oc_binZ rfl rfl rfl (by first | exact binW_add (by omega) (by omega) | rfl)) trivial ?_
        refine ch_v (R := []) rfl rfl (oc_assign (x := .val _) rfl rfl) trivial ?_
        refine ck_nil ?_
        exact ⟨n + wideC (q.1.getD n 0), ⟨by omega, fun hz => by omega, g, by omega, by rw [hrun]; show (if _ then _ else _) = _; rw [if_pos hq]⟩, by omega, Le.sub ⟨.inr rfl, .inr rfl, .inr rfl, .inr (vi_eq (by omega)), trivial⟩ trivial⟩
      · have hq : ¬ (n < q.1.length ∧ q.1.getD n 0 ≠ 30) := fun hc => by
          rw [show decide ((n : Int) < (q.1.length : Int)) = true from decide_eq_true (by omega)] at hb
          simp at hb
          exact hc.2 hb
        have hrn : runN q.1 = n := by
          rw [hrun]
          cases g with
          | zero => rfl
          | succ g => show (if _ then _ else _) = _; rw [if_neg hq]
        have hn0 : 0 < n := by
          rcases Nat.eq_zero_or_pos n with hz | hz
          · subst hz; exact absurd (k2 rfl) hq
          · exact hz
        refine aw_exit ?_
        refine aw_seq ?_
        refine aw_seq ?_
        refine aw_text rfl ?_
        refine ch_v (R := []) rfl rfl (oc_move (x := .val _) rfl rfl) trivial ?_
        refine ch_v (R := []) rfl rfl (oc_move (x := .sl _ _ _) rfl rfl) trivial ?_
        refine ch_v (R := []) rfl rfl (oc_len rfl rfl (by kernel_rfl)) trivial ?_
        refine ch_v (R := []) rfl rfl (oc_binZ rfl rfl rfl rfl) trivial ?_
        refine ck_nil ?_
        refine aw_cond rfl (fun hb => ?_) (fun hb => ?_)
        · have hnl : q.1.length < n := by have h0 := of_decide_eq_true hb; omega
          refine aw_seq ?_
          refine aw_text rfl ?_
          refine ch_v (R := []) rfl rfl (oc_assign (x := .val _) rfl rfl) trivial ?_
          refine ch_v (R := []) rfl rfl (oc_assign (x := .val _) rfl rfl) trivial ?_
          refine ck_nil ?_
          refine aw_ret ?_
          exact ⟨.inl rfl, by rw [hun, said_step hlt, if_neg h30, hrn, if_pos hnl, empE]; exact ResOk.two rfl (ResC.tmp rfl) (ResC.tmp rfl), trivial⟩
        · have hnl : ¬ q.1.length < n := by have h0 := of_decide_eq_false hb; omega
          have hts := textL_size (q.1.take n)
          rw [List.length_take] at hts
          refine aw_skip ?_
          refine aw_seq ?_
          refine aw_text rfl ?_
          refine ch_v (R := []) rfl rfl (oc_move (x := .sl _ _ _) rfl rfl) trivial ?_
          refine ch_v (R := []) rfl rfl (oc_move (x := .val _) rfl rfl) trivial ?_
          refine ch_v (R := []) rfl rfl (OC.to (oc_slice_h (e := 3) (by_ := 8) (zs := [.int .i64 0]) n rfl rfl rfl (by kernel_rfl) (by kernel_rfl) (by omega)) (take_row (by omega))) trivial ?_
          refine ch_v (R := []) rfl rfl (oc_call rfl (by kernel_rfl) (rtext_pc (q.1.take n) (by rw [List.length_take]; omega)) rfl (by simp only [PureL, Pure, and_self, pure_slI, pure_slS, rowAv, pieces_pure, pool_pure, bs_pure, implies_true]) (by simp only [PureL, Pure, and_self, pure_slI, pure_slS, rowAv, pieces_pure, pool_pure, bs_pure, implies_true])) trivial ?_
          refine ch_v (R := []) rfl rfl (oc_move (x := .tup _) rfl rfl) trivial ?_
          refine ch_v (R := []) rfl rfl (oc_extract rfl rfl rfl) trivial ?_
          refine ch_v (R := []) rfl rfl (oc_extract rfl rfl rfl) trivial ?_
          refine ch_v (R := []) rfl rfl (oc_assign (x := .val _) rfl rfl) trivial ?_
          refine ch_v (R := []) rfl rfl (oc_assign (x := .val _) rfl rfl) trivial ?_
          refine ck_nil ?_
          refine aw_seq ?_
          refine aw_seq ?_
          refine aw_text rfl ?_
          refine ch_v (R := []) rfl rfl (oc_move (x := .val _) rfl rfl) trivial ?_
          refine ch_v (R := []) rfl rfl (oc_binZ rfl rfl rfl rfl) trivial ?_
          refine ck_nil ?_
          refine aw_cond rfl (fun hb => ?_) (fun hb => ?_)
          · have he0 : (aText (q.1.take n)).2 ≠ 0 := by simpa using hb
            refine aw_seq ?_
            refine aw_text rfl ?_
            refine ch_v (R := []) rfl rfl (oc_assign (x := .val _) rfl rfl) trivial ?_
            refine ch_v (R := []) rfl rfl (oc_assign (x := .val _) rfl rfl) trivial ?_
            refine ck_nil ?_
            refine aw_ret ?_
            exact ⟨.inl rfl, by rw [hun, said_step hlt, if_neg h30, hrn, if_neg hnl, if_pos he0, empE]; exact ResOk.two rfl (ResC.tmp rfl) (ResC.tmp rfl), trivial⟩
          · have he0 : (aText (q.1.take n)).2 = 0 := by simpa using hb
            refine aw_skip ?_
            refine aw_seq ?_
            refine aw_text rfl ?_
            refine ch_v (R := []) rfl rfl (oc_move (x := .val _) rfl rfl) trivial ?_
            refine ch_v (R := []) rfl rfl (oc_move (x := .val _) rfl rfl) trivial ?_
            refine ch_v (R := []) rfl rfl (oc_str_add rfl rfl rfl (by omega)) trivial ?_
            refine ch_v (R := []) rfl rfl (oc_assign (x := .val _) rfl rfl) trivial ?_
            refine ck_nil ?_
            refine aw_text rfl ?_
            refine ch_v (R := []) rfl rfl (oc_move (x := .sl _ _ _) rfl rfl) trivial ?_
            refine ch_v (R := []) rfl rfl (oc_move (x := .val _) rfl rfl) trivial ?_
            refine ch_v (R := []) rfl rfl (OC.to (oc_slice_l (e := 3) (by_ := 8) (zs := [.int .i64 0]) n rfl rfl rfl (by kernel_rfl) (by kernel_rfl) (by omega)) (drop_row (by omega))) trivial ?_
            refine ch_v (R := []) rfl rfl (oc_assign (x := .sl _ _ _) rfl rfl) trivial ?_
            refine ck_nil ?_
            exact ⟨(q.1.drop n, q.2 ++ strOfNums (aText (q.1.take n)).1), ⟨by show (q.1.drop n).length ≤ _; rw [List.length_drop]; omega, fun k => by show 0 ≤ (q.1.drop n).getD k 0; rw [getD_drop0]; exact h2 _, by show (q.2 ++ strOfNums (aText (q.1.take n)).1).size ≤ 1001 * (l.length - (q.1.drop n).length); rw [ByteArray.size_append, List.length_drop]; omega, f, by show (q.1.drop n).length < f; rw [List.length_drop]; omega, by rw [hun, said_step hlt, if_neg h30, hrn, if_neg hnl, if_neg (fun hc => hc he0)]⟩, by show (q.1.drop n).length < q.1.length; rw [List.length_drop]; omega, Le.sub ⟨.inr rfl, .inr rfl, .inr rfl, trivial⟩ trivial⟩
  · have hge : ¬ 0 < q.1.length := by have h0 := of_decide_eq_false hb; omega
    refine aw_exit ?_
    refine aw_seq ?_
    refine aw_text rfl ?_
    refine ch_v (R := []) rfl rfl (oc_move (x := .val _) rfl rfl) trivial ?_
    refine ch_v (R := []) rfl rfl (oc_assign (x := .val _) rfl rfl) trivial ?_
    refine ch_v (R := []) rfl rfl (oc_assign (x := .val _) rfl rfl) trivial ?_
    refine ck_nil ?_
    refine aw_ret ?_
    exact ⟨.inl rfl, by rw [hun, said_end hge (by omega)]; exact ResOk.two rfl (ResC.tmp rfl) (ResC.tmp rfl), trivial⟩
end Go.Proofs.YtpbaiighifhfnaaDoor
