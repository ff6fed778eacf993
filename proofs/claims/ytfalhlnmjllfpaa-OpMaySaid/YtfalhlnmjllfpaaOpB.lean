/- The names of chapter 27's operations: the contracts of Name and Of, the program's and the reference's. -/
import Derived.Test.YtfalhlnmjllfpaaOpA
import Derived.Deep.WholeRow
namespace Go.Proofs.Ytfalhlnmjllfpaa
open Go.RowKit Go.IntWalk
set_option maxRecDepth 100000
set_option linter.unusedVariables false

/-- The names, 0's first. -/
def opNames : List (List Int) := [[], [112, 117, 115, 104], [112, 111, 112], [103, 108, 111, 98, 97, 108], [112, 117, 116, 103, 108, 111, 98, 97, 108], [108, 111, 99, 97, 108], [112, 117, 116, 108, 111, 99, 97, 108], [115, 101, 108, 102], [98, 105, 110], [110, 101, 103], [110, 111, 116], [116, 101, 115, 116], [104, 97, 115], [112, 114, 111, 112], [112, 117, 116], [115, 101, 116], [117, 110, 115, 101, 116], [109, 111, 118, 101], [114, 101, 109, 111, 118, 101], [116, 114, 101, 101], [114, 97, 110, 100, 111, 109], [116, 101, 120, 116], [110, 117, 109], [116, 105, 116, 108, 101], [106, 117, 109, 112], [122, 101, 114, 111], [99, 97, 108, 108], [114, 101, 116, 117, 114, 110], [115, 116, 111, 112], [119, 105, 110], [108, 111, 115, 101], [97, 119, 97, 114, 100], [115, 116, 97, 114, 116], [104, 97, 108, 116], [116, 114, 97, 118, 101, 108], [108, 111, 111, 107], [108, 105, 115, 116], [116, 105, 99, 107], [108, 97, 98, 101, 108]]
def nmAt (k : Nat) : List Int := opNames.getD k []
def opName (n : Int) : List Int := if knB n = true then nmAt n.toNat else []
def namesV : Array Value := #[.string ⟨#[]⟩, .string ⟨#[112, 117, 115, 104]⟩, .string ⟨#[112, 111, 112]⟩, .string ⟨#[103, 108, 111, 98, 97, 108]⟩, .string ⟨#[112, 117, 116, 103, 108, 111, 98, 97, 108]⟩, .string ⟨#[108, 111, 99, 97, 108]⟩, .string ⟨#[112, 117, 116, 108, 111, 99, 97, 108]⟩, .string ⟨#[115, 101, 108, 102]⟩, .string ⟨#[98, 105, 110]⟩, .string ⟨#[110, 101, 103]⟩, .string ⟨#[110, 111, 116]⟩, .string ⟨#[116, 101, 115, 116]⟩, .string ⟨#[104, 97, 115]⟩, .string ⟨#[112, 114, 111, 112]⟩, .string ⟨#[112, 117, 116]⟩, .string ⟨#[115, 101, 116]⟩, .string ⟨#[117, 110, 115, 101, 116]⟩, .string ⟨#[109, 111, 118, 101]⟩, .string ⟨#[114, 101, 109, 111, 118, 101]⟩, .string ⟨#[116, 114, 101, 101]⟩, .string ⟨#[114, 97, 110, 100, 111, 109]⟩, .string ⟨#[116, 101, 120, 116]⟩, .string ⟨#[110, 117, 109]⟩, .string ⟨#[116, 105, 116, 108, 101]⟩, .string ⟨#[106, 117, 109, 112]⟩, .string ⟨#[122, 101, 114, 111]⟩, .string ⟨#[99, 97, 108, 108]⟩, .string ⟨#[114, 101, 116, 117, 114, 110]⟩, .string ⟨#[115, 116, 111, 112]⟩, .string ⟨#[119, 105, 110]⟩, .string ⟨#[108, 111, 115, 101]⟩, .string ⟨#[97, 119, 97, 114, 100]⟩, .string ⟨#[115, 116, 97, 114, 116]⟩, .string ⟨#[104, 97, 108, 116]⟩, .string ⟨#[116, 114, 97, 118, 101, 108]⟩, .string ⟨#[108, 111, 111, 107]⟩, .string ⟨#[108, 105, 115, 116]⟩, .string ⟨#[116, 105, 99, 107]⟩, .string ⟨#[108, 97, 98, 101, 108]⟩]
theorem namesV_eq : namesV = (opNames.map fun s => Value.string (strOfNums s)).toArray := by kernel_rfl
theorem namesV_at (q : Nat) (h : q < 39) : namesV[q]? = some (.string (strOfNums (nmAt q))) := by
  have hl : q < opNames.length := h
  rw [namesV_eq]
  unfold nmAt
  simp [List.getD, List.getElem?_eq_getElem hl]
theorem run_index_agg {P : Program} (w : World) (t e : TypeId) (n : Nat) (cs : Array Value) (k : IntKind) (i : Nat) (v : Value) (h : P.underlying t = some (.array n e)) (hs : (sizeOf e).run P w = .ok 1 w) (ha : (isAgg e).run P w = .ok false w) (hi : i < n) (hv : cs[i]? = some v) :
    (Instr.index t (.agg cs) (.int k i)).run P w = .ok v w := by
  have hn : (0 ≤ (i : Int) ∧ (i : Int) < (n : Int)) := by omega
  simp [Instr.index, run_underlying h, asIntOf, hs, ha, hi, go_sem]
  rw [hv]
  rfl
theorem index_names (q : Nat) (h : q < 39) (w : World) : (Instr.index 51 (.agg namesV) (.int .i64 q)).run Try.prog w = .ok (.string (strOfNums (nmAt q))) w :=
  run_index_agg w _ _ 39 namesV .i64 q _ Try.underlying51 (by kernel_rfl) (by kernel_rfl) h (namesV_at q h)
set_option maxHeartbeats 400000 in
theorem names_any (w : World) : Calls Try.prog 28 #[] w fun e w' => e = .returned (.agg namesV) ∧ Below w.heap.size w w' := by
  have hsz : (Try.prog.info? 51).map (·.size) = some namesV.size := by kernel_rfl
  have hall : namesV.all (·.oneCell') = true := by kernel_rfl
  have HSZ := Lib.hid hsz
  have HALL := Lib.hid hall
  clear hsz hall
  go_enter Try.func28, Try.ntmps28
  go_upto_region 1 with (fail)
  refine wp_region_lit ?_
  refine wpList_build rfl _ _ rfl (by kernel_rfl) ?_
  generalize hX : Option.getD (Program.built _ _ _) _ = X
  obtain rfl : X = namesV := by rw [← hX]; kernel_rfl
  clear hX
  refine wpList_store_row rfl _ _ _ rfl w.heap.size namesV rfl rfl _ _ (heap_alloc_last w _) HSZ.out (by kernel_rfl) HALL.out ?_
  rw [World.setRow_alloc_new]
  refine wpList_nil ?_
  go_frame
  go_wp2_with fail
  refine bodyPost_ret (v := .agg namesV) ?_ rfl ⟨rfl, (Below.refl _ _).alloc (Nat.le_refl _) _⟩
  have hl := run_loadVar_new (P := Try.prog) w 51 namesV 39 9 Try.underlying51 HSZ.out
  simp only [results, Try.results28]
  first
    | (simp [asAddr, hl]; done)
theorem str_nil : strOfNums [] = ⟨#[]⟩ := rfl
theorem strEq (a b : ByteArray) : (a.toList == b.toList) = (tB a == tB b) := toList_beq a b
theorem opNames_bts (q : Nat) : Bts (nmAt q) := by
  by_cases h : q < 39
  · have : ∀ r : Fin 39, ∀ x ∈ nmAt r.val, 0 ≤ x ∧ x < 256 := by decide +kernel
    exact this ⟨q, h⟩
  · unfold nmAt
    rw [List.getD, List.getElem?_eq_none (by simp [opNames]; omega)]
    exact Bts.nil
theorem opName_bts (n : Int) : Bts (opName n) := by
  unfold opName
  split
  · exact opNames_bts _
  · exact Bts.nil

set_option maxHeartbeats 400000 in
theorem name_any (n : Int) (w : World) : Calls Try.prog 9 #[.int .i64 n] w fun e w' => e = .returned (.string (strOfNums (opName n))) ∧ Below w.heap.size w w' := by
  cases hk : knB n with
  | false =>
    have hfin : Hid (opName n = []) := by unfold Hid opName; rw [hk]; rfl
    have HK := Lib.hid hk
    clear hk
    go_enter Try.func9, Try.ntmps9
    go_wp2_with fail
    refine (known_any n w).mono ?_
    rw [HK.out]
    rintro e w' ⟨rfl, rfl⟩
    go_wp2
    go_ret
    exact ⟨by rw [hfin.out]; rfl, Below.refl _ _⟩
  | true =>
    have hb : 1 ≤ n ∧ n ≤ 38 := by simpa [knB] using hk
    obtain ⟨q, rfl⟩ := Int.eq_ofNat_of_zero_le (show 0 ≤ n by omega)
    have hfin : Hid (opName (q : Int) = nmAt q) := by unfold Hid opName; rw [hk]; simp
    have HK := Lib.hid hk
    have hix := index_names q (by omega)
    clear hk hb
    go_enter Try.func9, Try.ntmps9
    go_wp2_with fail
    refine (known_any (q : Int) w).mono ?_
    rw [HK.out]
    rintro e w' ⟨rfl, rfl⟩
    go_wp2_with fail
    refine (names_any w).mono ?_
    rintro e w1 ⟨rfl, hb1⟩
    go_wp2_with fail
    go_ret
    exact ⟨by rw [hfin.out]; rfl, hb1⟩

/-- The operation of a name. -/
def opOf (s : List Int) : Int := match opNames.idxOf? s with | some k => k | none => 0
theorem opOf_at (s : List Int) (k : Nat) (hk : k < 39) (h : nmAt k = s) : opOf s = k := by
  have : ∀ r : Fin 39, opOf (nmAt r.val) = (r.val : Int) := by decide +kernel
  rw [← h]
  exact this ⟨k, hk⟩
theorem opOf_none (s : List Int) (h : ∀ k, 1 ≤ k → k < 39 → nmAt k ≠ s) : opOf s = 0 := by
  unfold opOf
  split
  · rename_i k hk
    rw [List.idxOf?_eq_some_iff] at hk
    obtain ⟨h1, h2, _⟩ := hk
    have h39 : k < 39 := h1
    rcases Nat.eq_zero_or_pos k with h0 | h0
    · rw [h0]; rfl
    · exact absurd (by unfold nmAt; simp only [List.getD, List.getElem?_eq_getElem h1, Option.getD_some]; simpa using h2) (h k h0 h39)
  · rfl

set_option maxHeartbeats 800000 in
theorem of_any (s : ByteArray) (w : World) : Calls Try.prog 11 #[.string s] w fun e w' => e = .returned (.int .i64 (opOf (tB s))) ∧ Below w.heap.size w w' := by
  go_enter Try.func11, Try.ntmps11
  go_wp2_with fail
  refine (names_any w).mono ?_
  rintro e w1 ⟨rfl, hb1⟩
  go_wp2_with fail
  go_loop [3, 4, 6] (fun _ _ i => ∃ k : Nat, k ≤ 39 ∧ i = .int .i64 k ∧ Hid (∀ j, j < k → nmAt j ≠ tB s)) (fun _ _ i => 39 - (intOf i).toNat)
  case atStart => exact ⟨0, by omega, rfl, by unfold Hid; intro j hj; omega⟩
  case round =>
    obtain ⟨k, hk, rfl, hq⟩ := hrel
    by_cases hlt : k < 39
    · have hix := index_names k hlt
      have hsq := strEq (strOfNums (nmAt k)) s
      rw [tB_str (opNames_bts k)] at hsq
      by_cases he : nmAt k = tB s
      · have e1 : ((strOfNums (nmAt k)).toList == s.toList) = true := by rw [hsq]; simpa using he
        have hfin := Lib.hid (opOf_at (tB s) k hlt he)
        clear he hsq
        go_wp2_with fail
        go_ret
        exact ⟨by rw [hfin.out]; rfl, hb1⟩
      · have e1 : ((strOfNums (nmAt k)).toList == s.toList) = false := by rw [hsq]; simpa using he
        have hq2 : Hid (∀ j, j < k + 1 → nmAt j ≠ tB s) := by
          unfold Hid
          intro j hj
          rcases Nat.lt_or_ge j k with h | h
          · exact hq.out j h
          · obtain rfl : j = k := by omega
            exact he
        clear he hsq
        go_wp2_with fail
        go_round
        case rel => exact ⟨k + 1, by omega, by go_num, hq2⟩
        case measure => simp [intOf]; omega
    · obtain rfl : k = 39 := by omega
      have hfin := Lib.hid (opOf_none (tB s) (fun k _ h => hq.out k h))
      go_wp2_with fail
      go_ret
      exact ⟨by rw [hfin.out]; rfl, hb1⟩

/-! ### the reference -/
def allL : List Int := [32, 112, 117, 115, 104, 32, 112, 111, 112, 32, 103, 108, 111, 98, 97, 108, 32, 112, 117, 116, 103, 108, 111, 98, 97, 108, 32, 108, 111, 99, 97, 108, 32, 112, 117, 116, 108, 111, 99, 97, 108, 32, 115, 101, 108, 102, 32, 98, 105, 110, 32, 110, 101, 103, 32, 110, 111, 116, 32, 116, 101, 115, 116, 32, 104, 97, 115, 32, 112, 114, 111, 112, 32, 112, 117, 116, 32, 115, 101, 116, 32, 117, 110, 115, 101, 116, 32, 109, 111, 118, 101, 32, 114, 101, 109, 111, 118, 101, 32, 116, 114, 101, 101, 32, 114, 97, 110, 100, 111, 109, 32, 116, 101, 120, 116, 32, 110, 117, 109, 32, 116, 105, 116, 108, 101, 32, 106, 117, 109, 112, 32, 122, 101, 114, 111, 32, 99, 97, 108, 108, 32, 114, 101, 116, 117, 114, 110, 32, 115, 116, 111, 112, 32, 119, 105, 110, 32, 108, 111, 115, 101, 32, 97, 119, 97, 114, 100, 32, 115, 116, 97, 114, 116, 32, 104, 97, 108, 116, 32, 116, 114, 97, 118, 101, 108, 32, 108, 111, 111, 107, 32, 108, 105, 115, 116, 32, 116, 105, 99, 107, 32, 108, 97, 98, 101, 108, 32]
abbrev allB : ByteArray := ⟨#[32, 112, 117, 115, 104, 32, 112, 111, 112, 32, 103, 108, 111, 98, 97, 108, 32, 112, 117, 116, 103, 108, 111, 98, 97, 108, 32, 108, 111, 99, 97, 108, 32, 112, 117, 116, 108, 111, 99, 97, 108, 32, 115, 101, 108, 102, 32, 98, 105, 110, 32, 110, 101, 103, 32, 110, 111, 116, 32, 116, 101, 115, 116, 32, 104, 97, 115, 32, 112, 114, 111, 112, 32, 112, 117, 116, 32, 115, 101, 116, 32, 117, 110, 115, 101, 116, 32, 109, 111, 118, 101, 32, 114, 101, 109, 111, 118, 101, 32, 116, 114, 101, 101, 32, 114, 97, 110, 100, 111, 109, 32, 116, 101, 120, 116, 32, 110, 117, 109, 32, 116, 105, 116, 108, 101, 32, 106, 117, 109, 112, 32, 122, 101, 114, 111, 32, 99, 97, 108, 108, 32, 114, 101, 116, 117, 114, 110, 32, 115, 116, 111, 112, 32, 119, 105, 110, 32, 108, 111, 115, 101, 32, 97, 119, 97, 114, 100, 32, 115, 116, 97, 114, 116, 32, 104, 97, 108, 116, 32, 116, 114, 97, 118, 101, 108, 32, 108, 111, 111, 107, 32, 108, 105, 115, 116, 32, 116, 105, 99, 107, 32, 108, 97, 98, 101, 108, 32]⟩
def stepA (p : Nat × List Int) (c : Int) : Nat × List Int := if c = 32 then (p.1 + 1, []) else (p.1, p.2 ++ [c])
def stA (k : Nat) : Nat × List Int := (allL.take k).foldl stepA (0, [])
theorem stA_succ (k : Nat) (h : k < 207) : stA (k + 1) = stepA (stA k) (allL.getD k 0) := by
  have hl : k < allL.length := h
  unfold stA
  rw [List.take_succ_eq_append_getElem hl, List.foldl_append]
  simp [List.getD, List.getElem?_eq_getElem hl]
theorem stA_hit (k : Nat) (h : k < 207) (hb : allL.getD k 0 = 32) : (stA k).1 ≤ 38 ∧ nmAt (stA k).1 = (stA k).2 := by
  have : ∀ r : Fin 207, allL.getD r.val 0 = 32 → (stA r.val).1 ≤ 38 ∧ nmAt (stA r.val).1 = (stA r.val).2 := by decide +kernel
  exact this ⟨k, h⟩ hb
theorem stA_all (q : Nat) (h0 : 1 ≤ q) (h : q ≤ 38) : ∃ k, k < 207 ∧ allL.getD k 0 = 32 ∧ (stA k).1 = q := by
  have : ∀ r : Fin 39, 1 ≤ r.val → ∃ k : Fin 207, allL.getD k.val 0 = 32 ∧ (stA k.val).1 = r.val := by decide +kernel
  obtain ⟨k, h1, h2⟩ := this ⟨q, by omega⟩ h0
  exact ⟨k.val, k.2, h1, h2⟩
theorem stA_bd (k : Nat) (h : k ≤ 207) : (stA k).1 ≤ 39 ∧ (stA k).2.length ≤ 20 ∧ ∀ x ∈ (stA k).2, 0 ≤ x ∧ x < 256 := by
  have : ∀ r : Fin 208, (stA r.val).1 ≤ 39 ∧ (stA r.val).2.length ≤ 20 ∧ ∀ x ∈ (stA r.val).2, 0 ≤ x ∧ x < 256 := by decide +kernel
  exact this ⟨k, by omega⟩
theorem allB_t : tB allB = allL := by decide +kernel
theorem allL_bd (k : Nat) (h : k < 207) : 0 ≤ allL.getD k 0 ∧ allL.getD k 0 < 256 := by
  have : ∀ r : Fin 207, 0 ≤ allL.getD r.val 0 ∧ allL.getD r.val 0 < 256 := by decide +kernel
  exact this ⟨k, h⟩
end Go.Proofs.Ytfalhlnmjllfpaa
