/- The contracts of slices.Grow at nil and slices.Concat for []byte. -/
import Derived.Test.YtjloemlnejndmaaWords
import Derived.Test.YtjloemlnejndmaaProg
import Derived.Lib.AppendZeros
import Derived.KernelRfl
namespace Go.Proofs.Ytjloemlnejndmaa
open Go.RowKit

theorem infoU8 : (Try.prog.info? 5).map (fun i => (i.zero, i.size, i.bytes)) = some (some (.int .u8 0), 1, 1) := by kernel_rfl
theorem elemU8 : Elem Try.prog 29 5 (.int .u8 0) 1 := ⟨Try.underlying29, info_parts infoU8, rfl⟩

set_option maxHeartbeats 400000 in
theorem grow_nil (n : Nat) (w : World) (hn : n ≤ 1000000000) :
    Calls Try.prog 98 #[.slice none 0 0, .int .i64 n] w fun e w' => ∃ A c, e = .returned (.slice A 0 c) ∧ Own w' w.heap.size 5 (.slice A 0 c) [] ∧ Below w.heap.size w w' := by
  by_cases h0 : n = 0
  · subst h0
    go_enter Try.func98, Try.ntmps98
    go_wp2
    go_ret
    exact ⟨none, 0, rfl, Own.nil _ _ _, Below.refl _ _⟩
  · have hp : 0 < n := by omega
    go_enter Try.func98, Try.ntmps98
    go_wp2_with (at_builtin; refine wp_app_zeros elemU8 Try.underlying3 rfl _ _ rfl rfl rfl hp (by omega) (by omega) ?_; intro A c w1 hown hb)
    go_ret
    exact ⟨A, c, rfl, by simpa using hown.take 0 (by omega), hb⟩

/-- One part of what is put together: its address, its capacity, its cells. -/
structure Part where
  A : Option Addr
  c : Nat
  xs : List Value
def Part.val (p : Part) : Value := .slice p.A p.xs.length p.c
def sumLen (ps : List Part) : Nat := (ps.map fun p => p.xs.length).sum
theorem sumLen_take (ps : List Part) (k : Nat) (h : k < ps.length) : sumLen (ps.take (k + 1)) = sumLen (ps.take k) + ps[k].xs.length := by
  unfold sumLen
  rw [List.take_succ_eq_append_getElem h, List.map_append, List.sum_append]
  simp
theorem sumLen_le (ps : List Part) (k : Nat) : sumLen (ps.take k) ≤ sumLen ps := by
  unfold sumLen
  conv => rhs; rw [← List.take_append_drop k ps]
  rw [List.map_append, List.sum_append]
  omega
theorem flat_take (ps : List Part) (k : Nat) (h : k < ps.length) : (ps.take (k + 1)).flatMap Part.xs = (ps.take k).flatMap Part.xs ++ ps[k].xs := by
  rw [List.take_succ_eq_append_getElem h, List.flatMap_append]
  simp
theorem flat_len (ps : List Part) : (ps.flatMap Part.xs).length = sumLen ps := by
  unfold sumLen
  rw [List.length_flatMap]

set_option maxHeartbeats 400000 in
theorem concat_any (ps : List Part) (A : Option Addr) (m c : Nat) (w : World) (hm : m = ps.length) (hr : Rd w w.heap.size A (ps.map Part.val)) (hps : ∀ p ∈ ps, Rd w w.heap.size p.A p.xs) (h1 : ∀ p ∈ ps, ∀ u ∈ p.xs, u.oneCell' = true) (hl : sumLen ps ≤ 1000000000) (hml : m ≤ 1000000000) :
    Calls Try.prog 92 #[.slice A m c] w (RetOwn w 5 (ps.flatMap Part.xs)) := by
  subst hm
  go_enter Try.func92, Try.ntmps92
  go_wp2
  go_loop [3, 11] (fun s i => ∃ k : Nat, k ≤ ps.length ∧ i = .int .i64 k ∧ s = .int .i64 (sumLen (ps.take k))) (fun _ i => ps.length - (intOf i).toNat)
  case atStart => exact ⟨0, by omega, rfl, rfl⟩
  case round =>
    obtain ⟨k, hk, rfl, rfl⟩ := hrel
    have hle := sumLen_le ps k
    by_cases hlt : k < ps.length
    · obtain ⟨b, o, rfl, hb, hc⟩ := hr.get (k := k) (by simp; omega)
      have hst := Lib.hid (sumLen_take ps k (by omega))
      have hle' := sumLen_le ps (k + 1)
      simp only [List.getElem_map, Part.val] at hc
      rw [sumLen_take ps k (by omega)] at hle'
      go_wp2
      go_round
      case rel => exact ⟨k + 1, by omega, by go_num, by rw [hst.out]; go_num⟩
      case measure => simp [intOf]; omega
    · obtain rfl : k = ps.length := by omega
      rw [List.take_length] at *
      go_wp2_with (go_at_call 98; refine (grow_nil _ _ hl).mono ?_; rintro e w1 ⟨A1, c1, rfl, hown1, hb1⟩)
      have hr1 := hr.below hb1
      go_loopw [6, 27] (fun s i w2 => ∃ k A2 n2 c2, k ≤ ps.length ∧ i = .int .i64 (k : Nat) ∧ s = .slice A2 n2 c2 ∧ Own w2 w.heap.size 5 (.slice A2 n2 c2) ((ps.take k).flatMap Part.xs) ∧ Below w.heap.size w w2) (fun _ i _ => ps.length - (intOf i).toNat)
      case atStart => exact ⟨0, A1, 0, c1, by omega, rfl, rfl, hown1, hb1⟩
      case round =>
        obtain ⟨k, A2, n2, c2, hk, rfl, rfl, hown, hbel⟩ := hrel
        by_cases hlt : k < ps.length
        · have hr2 := hr.below hbel
          obtain ⟨b, o, rfl, hb, hc⟩ := hr2.get (k := k) (by simp; omega)
          have hrk := (hps ps[k] (List.getElem_mem hlt)).below hbel
          have hst := sumLen_take ps k hlt
          have hfl := Lib.hid (flat_len (ps.take k))
          have hft := Lib.hid (flat_take ps k hlt)
          have h1k := h1 ps[k] (List.getElem_mem hlt)
          have hle' := sumLen_le ps (k + 1)
          rw [hst] at hle'
          clear hst
          simp only [List.getElem_map, Part.val] at hc
          have hsz := hbel.size
          go_wp2_with (at_builtin; refine wp_app elemU8 rfl _ _ rfl rfl hown rfl hrk rfl h1k (by rw [hfl.out]; omega) (by rw [hfl.out]; omega) hsz ?_; intro A3 n3 c3 w3 hown3 hg3)
          go_roundw
          case rel => exact ⟨k + 1, A3, n3, c3, by omega, by go_num, rfl, by rw [hft.out]; exact hown3, below_own hbel hg3 hown (Nat.le_refl _) hsz⟩
          case measure => simp [intOf]; omega
        · obtain rfl : k = ps.length := by omega
          rw [List.take_length] at *
          go_wp2
          go_ret
          exact ⟨A2, n2, c2, rfl, hown, hbel⟩

set_option maxHeartbeats 400000 in
/-- wire.behind at bytes: both lists, one behind the other, in new memory. -/
theorem behind_any (A A' : Option Addr) (n n' c c' : Nat) (xs ys : List Value) (w : World) (hx : Rd w w.heap.size A xs) (hy : Rd w w.heap.size A' ys) (hn : n = xs.length) (hn' : n' = ys.length) (h1 : ∀ u ∈ xs, u.oneCell' = true) (h2 : ∀ u ∈ ys, u.oneCell' = true) (hl : xs.length + ys.length ≤ 1000000000) :
    Calls Try.prog 83 #[.slice A n c, .slice A' n' c'] w (RetOwn w 5 (xs ++ ys)) := by
  subst hn; subst hn'
  go_enter Try.func83, Try.ntmps83
  go_wp2_with fail
  have hb : Below w.heap.size w (w.alloc (.cells #[.slice A xs.length c, .slice A' ys.length c'] 29)) := (Below.refl _ _).alloc (Nat.le_refl _) _
  refine (concat_any [⟨A, c, xs⟩, ⟨A', c', ys⟩] _ 2 _ _ rfl (Rd.new w _ _) ?_ ?_ (by simp [sumLen]; omega) (by omega)).mono ?_
  · intro p hp
    simp only [List.mem_cons, List.not_mem_nil, or_false] at hp
    rcases hp with rfl | rfl
    · exact (hx.below hb).more (by simp)
    · exact (hy.below hb).more (by simp)
  · intro p hp
    simp only [List.mem_cons, List.not_mem_nil, or_false] at hp
    rcases hp with rfl | rfl
    · exact h1
    · exact h2
  rintro e w1 ⟨A1, n1, c1, rfl, hown, hb1⟩
  go_wp2
  go_ret
  exact ⟨A1, n1, c1, rfl, by simpa using hown.less (B := w.heap.size) (by simp), hb.trans (hb1.mono (by simp))⟩
/-- The same, where the second list is a literal of the caller's. -/
theorem behind_new (A : Option Addr) (c : Nat) (zs ys : List Int) (vs : List Value) (m : Nat) (w : World) (hr : Rd w w.heap.size A (cb .u8 zs)) (hv : vs = cb .u8 ys) (hm : m = ys.length) (hl : zs.length + ys.length ≤ 1000000000) :
    Calls Try.prog 83 #[.slice A zs.length c, .slice (some ⟨w.heap.size, 0, none⟩) m m] (w.alloc (.cells vs.toArray 5)) (RetOwn w 5 (cb .u8 (zs ++ ys))) := by
  subst hv; subst hm
  have hb : Below w.heap.size w (w.alloc (.cells (cb .u8 ys).toArray 5)) := (Below.refl _ _).alloc (Nat.le_refl _) _
  refine (behind_any A _ _ _ c ys.length (cb .u8 zs) (cb .u8 ys) _ ((hr.below hb).more (by simp)) (Rd.new w _ _) (by simp) (by simp) (cb_one _ _) (cb_one _ _) (by simpa using hl)).mono ?_
  rintro e w1 ⟨A1, n1, c1, rfl, hown, hb1⟩
  exact ⟨A1, n1, c1, rfl, by rw [cb_append]; exact hown.less (by simp), hb.trans (hb1.mono (by simp))⟩
end Go.Proofs.Ytjloemlnejndmaa
