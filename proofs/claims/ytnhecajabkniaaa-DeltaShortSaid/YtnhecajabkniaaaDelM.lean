/- The law DeltaShort, walked. -/
import Derived.Test.YtnhecajabkniaaaDelH
import Derived.Test.YtnhecajabkniaaaDelL
namespace Go.Proofs.Ytnhecajabkniaaa
open Go.RowKit Go.IntWalk
set_option maxRecDepth 100000
set_option linter.unusedVariables false
set_option linter.unusedSimpArgs false

theorem wf_u16 {x : Int} (h : (Lit.int .u16 x).wf = true) : 0 ≤ x ∧ x < 65536 := by
  simp [Lit.wf, IntKind.min, IntKind.max, IntKind.bits, IntKind.signed] at h
  omega
theorem wrap_i64 {x : Int} (h : -9223372036854775808 ≤ x) (h' : x < 9223372036854775808) : IntKind.i64.wrap x = x := by
  simp only [IntKind.wrap, IntKind.bits, IntKind.signed]
  simp
  omega
theorem tm_nat {x : Int} (h : 0 ≤ x) (n : Nat) : x.tmod (n : Int) = ((x.toNat % n : Nat) : Int) := by
  obtain ⟨m, rfl⟩ := Int.eq_ofNat_of_zero_le h
  rfl
theorem wrap_small {k n : Nat} (h : k < n) (h' : n ≤ 3000) : IntKind.i64.wrap (k : Int) = k := wrap_i64 (by omega) (by omega)
set_option maxHeartbeats 6400000 in
theorem deltaShort_walk (A : Option Addr) (n c : Nat) (xs : List Int) (at_ x : Int) (w : World) (hn0 : n = xs.length) (hr0 : Rd w w.heap.size A (cb .u8 xs)) (hw0 : ∀ x ∈ xs, (Lit.int .u8 x).wf = true) (hc0 : n ≤ c) (hm0 : c ≤ maxLen) (ha : (Lit.int .u16 at_).wf = true) (hx : (Lit.int .u8 x).wf = true) :
    Calls Try.prog 6 #[.slice A n c, .int .u16 at_, .int .u8 x] w fun e w' => e = .returned (.bool true) ∧ Below w.heap.size w w' := by
  unfold maxLen at hm0
  have hb0 : Byt xs := fun x hx => wf_u8 (hw0 x hx)
  have HN0 := Lib.hid hn0
  clear hw0 hn0
  have hat := wf_u16 ha
  clear ha
  obtain ⟨p, rfl⟩ := Int.eq_ofNat_of_zero_le hat.1
  have e2 : IntKind.i64.wrap (p : Int) = p := wrap_i64 (by omega) (by omega)
  by_cases h1 : 3000 < n
  · go_enter Try.func6, Try.ntmps6
    go_wp2_with (go_at_call 7; refine (awake_any _).mono ?_; rintro e w1 ⟨rfl, hb1⟩)
    go_ret
    exact ⟨rfl, hb1⟩
  · by_cases h2 : n = 0
    · have e0 : ((n : Int) == 0) = true := by rw [beq_iff_eq]; omega
      go_enter Try.func6, Try.ntmps6
      go_wp2_with (go_at_call 7; refine (awake_any _).mono ?_; rintro e w9 ⟨rfl, hb9⟩)
      go_ret
      exact ⟨rfl, hb9⟩
    · have e0 : ((n : Int) == 0) = false := by rw [beq_eq_false_iff_ne]; omega
      go_enter Try.func6, Try.ntmps6
      go_upto_region 5 with (at_builtin; refine wp_app (P := Try.prog) elemU8 rfl (.const (.slice none 0 0)) (.tmp 19) (by rfl) (by rfl) (Own.nil _ _ _) (c := c) (m := n) (by rfl) hr0 (by rw [cb_length]; exact HN0.out) (cb_one _ _) (by rw [cb_length, ← HN0.out]; simp; omega) (by rw [cb_length, ← HN0.out]; simp; omega) (Nat.le_refl _) ?_; intro A1 n1 c1 w1 ho1 hg1; (rw [List.nil_append] at ho1); (have hn1 : n1 = n := by rw [ho1.rd.1, cb_length]; exact HN0.out.symm); (subst hn1); (obtain ⟨g, rfl, hgb, hgl⟩ := ho1.addr (by omega)); (have hpn : p % n1 < n1 := Nat.mod_lt _ (by omega)); (generalize hq : p % n1 = q at hpn); (have e3 : ((p : Int).tmod (n1 : Int)) = (q : Int) := by rw [← hq]; rfl); (have e4 : IntKind.i64.wrap (q : Int) = (q : Int) := wrap_small hpn (by omega)); (have e5 : (p : Int) % (n1 : Int) = (q : Int) := by rw [← hq]; rfl); (have e6 : w1.frozen? ⟨g, q, none⟩ = false := ho1.free q); (have e7 : w1.cell? ⟨g, q, none⟩ = some _ := ho1.cellAt q (by rw [cb_length, ← HN0.out]; exact hpn)); (clear hq))
      have hB1 : Below w.heap.size w w1 := below_own (Below.refl _ _) hg1 (Own.nil _ _ 5) (Nat.le_refl _) (Nat.le_refl _)
      have hBs := hB1.setCell (p := ⟨g, q, none⟩) hgb (.int .u8 x)
      have hos : Own _ w.heap.size _ _ (cb .u8 (xs.set q x)) := (ho1.set_ q (.int .u8 x)).cast (by simp [cb, List.map_set])
      generalize w1.setCell ⟨g, q, none⟩ (.int .u8 x) = ws at hBs hos ⊢
      go_wp2_with (at_builtin; refine wp_app (P := Try.prog) elemU8 rfl (.const (.slice none 0 0)) (.tmp 30) (by rfl) (by rfl) (Own.nil _ ws.heap.size _) (c := c) (m := n1) (by rfl) (rd_at hr0 hBs) (by rw [cb_length]; exact HN0.out) (cb_one _ _) (by rw [cb_length, ← HN0.out]; simp; omega) (by rw [cb_length, ← HN0.out]; simp; omega) (Nat.le_refl _) ?_; intro A2 n2 c2 w2 ho2 hg2; (rw [List.nil_append] at ho2); (have hn2 : n2 = n1 := by rw [ho2.rd.1, cb_length]; exact HN0.out.symm); (subst hn2); (have hB2 : Below ws.heap.size ws w2 := below_own (Below.refl _ _) hg2 (Own.nil _ _ 5) (Nat.le_refl _) (Nat.le_refl _)); (have hBw := below_call hBs hB2))
      refine (make_any A A2 n2 c n2 c2 xs xs w2 (rd_at hr0 hBw) HN0.out ho2.rd.2.2 HN0.out (by omega) (by omega) ho2.rd.2.1).mono ?_
      rintro e w3 ⟨A3, n3, c3, rfl, ho3, hB3⟩
      have hBx := below_call hBw hB3
      have hn3 : n3 = (dMake xs xs).length := by rw [ho3.rd.1, cb_length]
      have hl3 := dMake_same_len xs (by rintro rfl; exact h2 HN0.out) (by rw [← HN0.out]; omega)
      rw [← hn3] at hl3
      clear hn3
      have hos2 := (hos.below hB2).below hB3
      have HNS : Hid (n2 = (xs.set q x).length) := by unfold Hid; rw [List.length_set]; exact HN0.out
      go_wp2_with fail
      refine (make_any A (some ⟨g, 0, none⟩) n2 c n2 c1 xs (xs.set q x) w3 (rd_at hr0 hBx) HN0.out hos2.rd.2.2 HNS.out (by omega) (by omega) hos2.rd.2.1).mono ?_
      rintro e w4 ⟨A4, n4, c4, rfl, ho4, hB4⟩
      have hBy := below_call hBx hB4
      have hn4 : n4 = (dMake xs (xs.set q x)).length := by rw [ho4.rd.1, cb_length]
      have hl4 := dMake_one_len xs q x (by rw [← HN0.out]; exact hpn) (by rw [← HN0.out]; omega)
      rw [← hn4] at hl4
      clear hn4
      obtain ⟨l1, l2⟩ := hl3
      obtain ⟨l3, l4⟩ := hl4
      have d1 : decide (3 ≤ (n3 : Int)) = true := by simp; omega
      have d2 : decide ((n3 : Int) ≤ 5) = true := by simp; omega
      have d3 : decide (3 ≤ (n4 : Int)) = true := by simp; omega
      have d4 : decide ((n4 : Int) ≤ 10) = true := by simp; omega
      go_wp2_with (go_at_call 7; refine (awake_any _).mono ?_; rintro e w9 ⟨rfl, hb9⟩)
      go_ret
      exact ⟨by simp_all, below_call hBy hb9⟩

end Go.Proofs.Ytnhecajabkniaaa
