/- Chapter 22: the examples and the laws, walked. -/
import Derived.Test.YtjloemlnejndmaaIi
import Derived.Test.YtjloemlnejndmaaIq
import Derived.Test.YtjloemlnejndmaaProg
import Derived.KernelRfl
namespace Go.Proofs.Ytjloemlnejndmaa
open Go.RowKit
set_option maxRecDepth 100000
set_option linter.unusedVariables false
set_option linter.unusedSimpArgs false
section
variable {H : Type} {enc : TypeId × Value → H} {w : World} {base : Nat} {spare : Nat → Bool} {held : Bool}
theorem u8_wf {n : Int} (h : (Lit.int .u8 n).wf = true) : 0 ≤ n ∧ n < 256 := by
  have h1 : IntKind.u8.min ≤ n ∧ n ≤ IntKind.u8.max := by simpa [Lit.wf] using h
  have h2 : IntKind.u8.min = 0 := rfl
  have h3 : IntKind.u8.max = 255 := rfl
  omega
def BW (l : List Int) : Prop := Byt l ∧ l.length ≤ 140737488355328
theorem opn_bytes : Opn enc Try.prog w base spare held 29 (List Int) (fun l => [bs l]) BW :=
  (opn_slice (0 : Int) 1 1 (fun n => .val (.int .u8 n)) Try.underlying29 (by kernel_rfl) (by kernel_rfl) (by decide) (opn_int Try.underlying5) row_cell).map (fun l => l) _ _ (fun d => rfl) (fun l h => ⟨fun x hx => u8_wf (h.1 x hx), by have := h.2; omega⟩)
end
theorem PC.args {P : Program} {f : Nat} {a b x y z : Av} (h : PC P f [a, x] z) (hab : ∀ E v, Rep E b v → Rep E a v) (hxy : ∀ E v, Rep E y v → Rep E x v) : PC P f [b, y] z := fun E vs hG hA hR hB hU => h E vs hG (by
  unfold RepL RepL at hA ⊢
  obtain ⟨v, us, h1, h2, u, ws, h3, h4, h5⟩ := hA
  exact ⟨v, us, h1, hab E v h2, u, ws, h3, hxy E u h4, h5⟩) hR hB hU
def bw (n : Int) : Av := .val (.int .u8 n)
theorem bw_at {l : List Int} {i : Nat} (h : i < l.length) : (l.map bw)[i]? = some (bv l i) := by simp [h, bv, bw]
theorem app_bw (l : List Int) : ∀ j, j < l.length → szB (bv l j) 1 = true ∧ ∀ i y, i < 1 → (l.map bw)[j * 1 + i]? = some y → (flatA (bv l j))[i]? = some y := row_one (fun j y hy => by
  rw [List.getElem?_map] at hy
  cases h : l[j]? with
  | none => rw [h] at hy; cases hy
  | some z => rw [h] at hy; simp at hy; subst hy; simp [bv, bw, List.getD, h]) (fun j hj => ⟨rfl, rfl⟩)
theorem app_bw1 (c : Int) : ∀ j, j < 1 → szB (rowL [bw c] j) 1 = true ∧ ∀ i y, i < 1 → [bw c][j * 1 + i]? = some y → (flatA (rowL [bw c] j))[i]? = some y := fun j hj => by
  have : j = 0 := by omega
  subst this
  refine ⟨rfl, fun i y hi hy => ?_⟩
  have : i = 0 := by omega
  subst this
  exact hy
theorem grows_mono' {P : Program} {o : Oper} {a : Act} {w : World} {K K' : Value → World → Prop} (h : grows P o a w K) (hk : ∀ v w', K v w' → K' v w') : grows P o a w K' := by
  unfold grows at h ⊢
  generalize (execOp a.eval o).run P w = r at *
  cases r with
  | ok n w' =>
    cases n <;> simp only [growUpon] at h ⊢
    case value u => exact hk _ _ h
    case skip => exact hk _ _ h
    case enter f args => exact h.mono fun e w'' ⟨v, he, hh⟩ => ⟨v, he, hk _ _ hh⟩
  | halt x w' => simp only [growUpon] at h
theorem bv_pure (l : List Int) (j : Nat) : Pure (bv l j) := by unfold bv Pure; trivial
/-- What append leaves, read only from here on. -/
theorem oc_frz {P : Program} {o : Oper} {ρ : Operand → Av} {R : List (Nat × Hs)} {e : TypeId} {n m len : Nat} {cs : List Av} {ys : List Int} (h : OC P o ρ R (.osl 1 m len) [(n, .dead), (m, .live e cs)]) (hnm : n ≠ m) (hlen : len = ys.length) (hcs : cs = ys.map bw) : OC P o ρ R (bs ys) [(n, .dead), (m, .dead)] := fun E a hG hp hR => grows_mono' (h E a hG hp hR) fun v w' ⟨E', h1, h2, h3, h4, h5⟩ => by
  have hm := h5 m (.live e cs) (by simp only [lkH]; rw [beqF hnm, cond_false]; simp)
  have hn : E'.loc n = .dead := h5 n .dead (by simp [lkH])
  have hm0 : E'.loc m ≠ .unborn := by rcases hm with ⟨k, _⟩ | ⟨b, cur, k, _⟩ <;> rw [k] <;> simp
  refine ⟨E'.re m .dead, h1, (h2.trans (Step.kill E' m hm0)).more (by simp), h3.re (by simp), ?_, fun i y hy => ?_⟩
  · have := freeze_one h3 h4 hm (row := bv ys) (by rw [hcs, List.length_map, hlen]) (fun j hj => ⟨by rw [hcs]; exact bw_at (by omega), rfl⟩)
    rw [hlen] at this
    exact this
  · simp only [lkH] at hy
    by_cases h6 : n = i
    · subst h6
      simp at hy
      subst hy
      show (E'.re m .dead).loc n = .dead
      simp [Env.re, hnm, hn]
    · by_cases h7 : m = i
      · subst h7
        rw [beqF hnm, cond_false] at hy
        simp at hy
        subst hy
        show (E'.re m .dead).loc m = .dead
        simp [Env.re]
      · rw [beqF h6, cond_false, beqF h7, cond_false] at hy
        cases hy
theorem tB_nums {l : List Int} (h : Byt l) : tB (strOfNums l) = l := by
  unfold tB strOfNums
  simp only [List.map_map]
  rw [List.map_congr_left (g := id)]
  · simp
  · intro x hx
    have := h x hx
    show ((UInt8.ofNat x.toNat).toNat : Int) = x
    rw [UInt8.toNat_ofNat']
    omega
theorem nums_beq {a b : List Int} (ha : Byt a) (hb : Byt b) : ((strOfNums a).toList == (strOfNums b).toList) = (a == b) := by rw [toList_beq, tB_nums ha, tB_nums hb]
theorem wr_small {w : WorldP} (h : WR w) : w.small := fun k hk => by have := h.few k hk; omega
theorem num8 (l : List Int) (hb : Byt l) (hl : l.length ≤ 8) : 0 ≤ sNum l ∧ sNum l < 18446744073709551616 := by
  have := sNum_lt l hb 8 hl
  simpa using this
theorem unp_small (t : TabP) {xs : List Int} (h : xs.length ≤ 6000) : (unpP t xs).1.small := fun k hk => by
  have hz : (zeroP.row k).length ≤ 1000000 := by rcases k with _ | _ | _ | _ | _ | _ | _ | k <;> first | (show (0 : Nat) ≤ _; omega) | omega
  unfold unpP
  split
  · exact hz
  · split
    · exact hz
    · split
      · exact hz
      · have hl := fun i => li_len xs i
        show ((readW xs).row k).length ≤ _
        rcases k with _ | _ | _ | _ | _ | _ | _ | k
        · have := hl 0; show (liK xs 0).length ≤ _; omega
        · have := hl 1; show (liK xs 1).length ≤ _; omega
        · have := hl 2; show (liK xs 2).length ≤ _; omega
        · have := hl 3; show (liK xs 3).length ≤ _; omega
        · have := hl 4; show ((liK xs 4).map _).length ≤ _; rw [List.length_map]; omega
        · have := hl 5; show (liK xs 5).length ≤ _; omega
        · have := hl 6; show (liK xs 6).length ≤ _; omega
        · omega
theorem unp_seed (t : TabP) {xs : List Int} (hb : Byt xs) : 0 ≤ (unpP t xs).1.seed ∧ (unpP t xs).1.seed < 18446744073709551616 := by
  have hz : 0 ≤ zeroP.seed ∧ zeroP.seed < 18446744073709551616 := by decide
  unfold unpP
  split
  · exact hz
  · split
    · exact hz
    · split
      · exact hz
      · exact num8 _ (sTk_byt _ _ _ _ hb) (sTk_len _ _ _ _)
theorem unp_cases (t : TabP) (xs : List Int) : (unpP t xs).2 ≠ 0 ∨ (unpP t xs = (readW xs, 0) ∧ readE xs = 0 ∧ rightB t (readW xs) = true) := by
  unfold unpP
  split
  · rename_i h; exact .inl h
  · rename_i h
    split
    · exact .inl (by decide)
    · split
      · exact .inl (by decide)
      · rename_i h2
        exact .inr ⟨rfl, by omega, by simpa using h2⟩
theorem unp_of {t : TabP} {xs : List Int} {k : Int} (e : readE xs = k) (hk : k ≠ 0) : (unpP t xs).2 = k := by
  unfold unpP
  rw [if_pos (by rw [e]; exact hk)]
  exact e
theorem unp_long {t : TabP} {w : WorldP} (h : WR w) : (unpP t (packP w ++ [0])).2 = 3 := by
  have e := read_long w h.few 0
  generalize packP w ++ [0] = xs at *
  exact unp_of e (by decide)
theorem unp_short {t : TabP} {w : WorldP} (h : WR w) : (unpP t (packQ w)).2 = 2 := unp_of (read_short w h.few) (by decide)
theorem packP_len (w : WorldP) : (packP w).length = (packQ w).length + 1 := by rw [packP_Q, List.length_append]; rfl
theorem part_bytes (w : WorldP) (E : Env) (v : Value) (h : Rep E (.sl 1 (packQ w).length (bv (packP w))) v) : Rep E (bs (packQ w)) v := rep_rows (fun E j hj v hv => by
  have e : bv (packP w) j = bv (packQ w) j := by
    unfold bv
    rw [packP_Q, List.getD, List.getD, List.getElem?_append_left hj]
  rw [← e]
  exact hv) E v h
/-! ### The examples -/
def ovW : WorldP := { globals := [], parent := [], child := [], next := [], flags := [], props := [], timers := [], seed := 0, score := 0, turns := 0, over := 3, it := 0, go := 0 }
def awT : TabP := ⟨0, 0, 0, 0, [⟨#[97]⟩], 4, [], [], [⟨0, -1, 0, 0, false, [], [], [], []⟩, ⟨0, -1, 2, 0, false, [], [], [], []⟩, ⟨0, -1, 0, 0, true, [], [], [], []⟩], [], [], [], [], [], []⟩
theorem ov_small : ovW.small := fun k hk => by rcases k with _ | _ | _ | _ | _ | _ | _ | k <;> first | (show (0 : Nat) ≤ _; omega) | omega
theorem sInts_nil : sInts [] = [0] := by simp [sInts, sSize, sSizeN_small]
theorem ov_pack : packP ovW = [0, 0, 0, 0, 0, 0, 0, 0, 0, 0, 0, 0, 0, 0, 0, 0, 0, 0, 0, 0, 0, 3, 0, 0] := by
  simp [packP, packK, WorldP.row, ovW, sInts_nil, sHuge, sLong, sWord, sByte]
theorem nil_short : readE [] = 2 := by decide +kernel
theorem aw_short : (unpP awT []).2 = 2 := by
  rw [unp_err (by rw [nil_short]; decide)]
  exact nil_short
theorem ov_to (E : Env) (v : Value) (h : Rep E (.agg [.val (.slice none 0 0), .val (.slice none 0 0), .val (.slice none 0 0), .val (.slice none 0 0), .val (.slice none 0 0), .val (.slice none 0 0), .val (.slice none 0 0), vu 0, vi 0, vi 0, vi 3, vi 0, vi 0]) v) : Rep E (worldAv ovW) v := by
  refine rep_agg h rfl fun E i x y hx hy v h => ?_
  rcases i with _ | _ | _ | _ | _ | _ | _ | _ | _ | _ | _ | _ | _ | i <;> simp at hx hy <;> subst hx <;> subst hy <;> first | exact h | exact rep_nil0 E v h
theorem th_to (p : Int) (b : Bool) (E : Env) (v : Value) (h : Rep E (.agg [vi 0, vi (-1), vi p, vi 0, vb b, .val (.slice none 0 0), .val (.slice none 0 0), .val (.slice none 0 0), .val (.slice none 0 0)]) v) : Rep E (thAv ⟨0, -1, p, 0, b, [], [], [], []⟩) v := by
  refine rep_agg h rfl fun E i x y hx hy v h => ?_
  rcases i with _ | _ | _ | _ | _ | _ | _ | _ | _ | i <;> simp at hx hy <;> subst hx <;> subst hy <;> first | exact h | exact rep_nil0 E v h
theorem awT_to (E : Env) (v : Value) (h : Rep E (.agg [vi 0, vi 0, vi 0, vi 0, .sl 1 1 (rowL [vs ⟨#[97]⟩]), vi 4, .val (.slice none 0 0), .val (.slice none 0 0), .sl 9 3 (rowL [.agg [vi 0, vi (-1), vi 0, vi 0, vb false, .val (.slice none 0 0), .val (.slice none 0 0), .val (.slice none 0 0), .val (.slice none 0 0)], .agg [vi 0, vi (-1), vi 2, vi 0, vb false, .val (.slice none 0 0), .val (.slice none 0 0), .val (.slice none 0 0), .val (.slice none 0 0)], .agg [vi 0, vi (-1), vi 0, vi 0, vb true, .val (.slice none 0 0), .val (.slice none 0 0), .val (.slice none 0 0), .val (.slice none 0 0)]]), .val (.slice none 0 0), .val (.slice none 0 0), .val (.slice none 0 0), .val (.slice none 0 0), .val (.slice none 0 0), .val (.slice none 0 0)]) v) : Rep E (tabAv awT) v := by
  refine rep_agg h rfl fun E i x y hx hy v h => ?_
  rcases i with _ | _ | _ | _ | _ | _ | _ | _ | _ | _ | _ | _ | _ | _ | _ | i <;> simp at hx hy <;> subst hx <;> subst hy <;> first | exact h | exact rep_nil0 E v h | skip
  · exact rep_rows (fun E j hj v h => by
      rcases j with _ | j
      · exact h
      · exact absurd hj (by simp [awT])) E v h
  · exact rep_rows (fun E j hj v h => by
      rcases j with _ | _ | _ | j
      · exact th_to 0 false E v h
      · exact th_to 2 false E v h
      · exact th_to 0 true E v h
      · exact absurd hj (by simp [awT])) E v h
theorem nil_to (E : Env) (v : Value) (h : Rep E (.val (.slice none 0 0)) v) : Rep E (bs []) v := rep_nil0 E v h
theorem pure_rowL {l : List Av} (h : PureL l) : ∀ j, Pure (rowL l j) := by
  induction l with
  | nil => intro j; simp [rowL, Pure]
  | cons x l ih =>
    intro j
    unfold PureL at h
    cases j with
    | zero => exact h.1
    | succ j => exact ih h.2 j
theorem pure_awT : PureL [.agg [vi 0, vi 0, vi 0, vi 0, .sl 1 1 (rowL [vs ⟨#[97]⟩]), vi 4, .val (.slice none 0 0), .val (.slice none 0 0), .sl 9 3 (rowL [.agg [vi 0, vi (-1), vi 0, vi 0, vb false, .val (.slice none 0 0), .val (.slice none 0 0), .val (.slice none 0 0), .val (.slice none 0 0)], .agg [vi 0, vi (-1), vi 2, vi 0, vb false, .val (.slice none 0 0), .val (.slice none 0 0), .val (.slice none 0 0), .val (.slice none 0 0)], .agg [vi 0, vi (-1), vi 0, vi 0, vb true, .val (.slice none 0 0), .val (.slice none 0 0), .val (.slice none 0 0), .val (.slice none 0 0)]]), .val (.slice none 0 0), .val (.slice none 0 0), .val (.slice none 0 0), .val (.slice none 0 0), .val (.slice none 0 0), .val (.slice none 0 0)], .val (.slice none 0 0)] := by
  simp only [PureL, Pure, and_self, true_and, and_true]
  exact ⟨pure_rowL (by simp [PureL, Pure]), pure_rowL (by simp [PureL, Pure])⟩
/-! ### Walks -/
set_option maxHeartbeats 800000 in
theorem awake_pc  : PC Try.prog 7 [] (vb true) := by
  refine FC.body 4 35 Try.func7 rfl (by kernel_rfl) ?_
  have hlen : (packP ovW).length = 24 := by rw [ov_pack]; rfl
  refine aw_seq ?_
  refine aw_text rfl ?_
  refine ch_v (R := []) rfl rfl (oc_assign (x := .val _) rfl rfl) trivial ?_
  refine ck_nil ?_
  refine aw_seq ?_
  refine aw_text rfl ?_
  refine ch_v (R := []) rfl rfl (oc_build (pl := [(0, 1), (1, 1), (2, 1), (3, 1), (4, 1), (5, 1), (6, 1), (7, 1), (8, 1), (9, 1), (10, 1), (11, 1), (12, 1)]) (zs := [.slice none 0 0, .slice none 0 0, .slice none 0 0, .slice none 0 0, .slice none 0 0, .slice none 0 0, .slice none 0 0, .int .u64 0, .int .i64 0, .int .i64 0, .int .i64 0, .int .i64 0, .int .i64 0]) (ds := [.val _, .val _, .val _, .val _, .val _, .val _, .val _, .val _, .val _, .val _, .val _, .val _, .val _]) rfl (by kernel_rfl) rfl (by kernel_rfl) (by first | rfl | decide) rfl) trivial ?_
  refine ch_v (R := []) rfl rfl (oc_call rfl (by kernel_rfl) (PC.arg (pack_pc ovW ov_small (by decide)) ov_to) rfl (by first | exact pure_awT | (simp only [PureL, Pure, and_self, bs_pure, pure_slI, pure_world, pure_tab, vu, implies_true])) (by first | exact pure_awT | (simp only [PureL, Pure, and_self, bs_pure, pure_slI, pure_world, pure_tab, vu, implies_true]))) trivial ?_
  refine ch_v (R := []) rfl rfl (oc_assign (x := .sl _ _ _) rfl rfl) trivial ?_
  refine ck_nil ?_
  refine aw_seq ?_
  refine aw_text rfl ?_
  refine ch_v (R := []) rfl rfl (oc_buildSlice (ps := [_]) (xs := [.val _]) (e := 9) (k := 1) (by_ := 16) (zs := [.string ⟨#[]⟩]) rfl (by kernel_rfl) (by kernel_rfl) rfl rfl rfl (by decide) (by decide)) trivial ?_
  refine ch_v (R := []) rfl rfl (oc_build (pl := [(0, 1), (1, 1), (2, 1), (3, 1), (4, 1), (5, 1), (6, 1), (7, 1), (8, 1)]) (zs := [.int .i64 0, .int .i64 0, .int .i64 0, .int .i64 0, .bool false, .slice none 0 0, .slice none 0 0, .slice none 0 0, .slice none 0 0]) (ds := [.val _, .val _, .val _, .val _, .val _, .val _, .val _, .val _, .val _]) rfl (by kernel_rfl) rfl (by kernel_rfl) (by first | rfl | decide) rfl) trivial ?_
  refine ch_v (R := []) rfl rfl (oc_build (pl := [(0, 1), (1, 1), (2, 1), (3, 1), (4, 1), (5, 1), (6, 1), (7, 1), (8, 1)]) (zs := [.int .i64 0, .int .i64 0, .int .i64 0, .int .i64 0, .bool false, .slice none 0 0, .slice none 0 0, .slice none 0 0, .slice none 0 0]) (ds := [.val _, .val _, .val _, .val _, .val _, .val _, .val _, .val _, .val _]) rfl (by kernel_rfl) rfl (by kernel_rfl) (by first | rfl | decide) rfl) trivial ?_
  refine ch_v (R := []) rfl rfl (oc_build (pl := [(0, 1), (1, 1), (2, 1), (3, 1), (4, 1), (5, 1), (6, 1), (7, 1), (8, 1)]) (zs := [.int .i64 0, .int .i64 0, .int .i64 0, .int .i64 0, .bool false, .slice none 0 0, .slice none 0 0, .slice none 0 0, .slice none 0 0]) (ds := [.val _, .val _, .val _, .val _, .val _, .val _, .val _, .val _, .val _]) rfl (by kernel_rfl) rfl (by kernel_rfl) (by first | rfl | decide) rfl) trivial ?_
  refine ch_v (R := []) rfl rfl (oc_buildSlice (ps := [.tmp 8, .tmp 9, .tmp 10]) (xs := [.agg _, .agg _, .agg _]) (e := 45) (k := 9) (by_ := 136) (zs := [.int .i64 0, .int .i64 0, .int .i64 0, .int .i64 0, .bool false, .slice none 0 0, .slice none 0 0, .slice none 0 0, .slice none 0 0]) rfl (by kernel_rfl) (by kernel_rfl) rfl rfl rfl (by decide) (by decide)) trivial ?_
  refine ch_v (R := []) rfl rfl (oc_build (pl := [(0, 1), (1, 1), (2, 1), (3, 1), (4, 1), (5, 1), (6, 1), (7, 1), (8, 1), (9, 1), (10, 1), (11, 1), (12, 1), (13, 1), (14, 1)]) (zs := [.int .i64 0, .int .i64 0, .int .i64 0, .int .i64 0, .slice none 0 0, .int .i64 0, .slice none 0 0, .slice none 0 0, .slice none 0 0, .slice none 0 0, .slice none 0 0, .slice none 0 0, .slice none 0 0, .slice none 0 0, .slice none 0 0]) (ds := [.val _, .val _, .val _, .val _, .sl _ _ _, .val _, .val _, .val _, .sl _ _ _, .val _, .val _, .val _, .val _, .val _, .val _]) rfl (by kernel_rfl) rfl (by kernel_rfl) (by first | rfl | decide) rfl) trivial ?_
  refine ch_v (R := []) rfl rfl (oc_call rfl (by kernel_rfl) (PC.args (unpack_pc awT [] (by simp) Byt.nil (.inr (by rw [nil_short]; decide))) awT_to nil_to) rfl (by first | exact pure_awT | (simp only [PureL, Pure, and_self, bs_pure, pure_slI, pure_world, pure_tab, vu, implies_true])) (by first | exact pure_awT | (simp only [PureL, Pure, and_self, bs_pure, pure_slI, pure_world, pure_tab, vu, implies_true]))) trivial ?_
  refine ch_v (R := []) rfl rfl (oc_move (x := .tup _) rfl rfl) trivial ?_
  refine ch_v (R := []) rfl rfl (oc_extract rfl rfl rfl) trivial ?_
  refine ch_v (R := []) rfl rfl (oc_extract rfl rfl rfl) trivial ?_
  refine ch_u rfl rfl (oc_alloc (zs := [.slice none 0 0, .slice none 0 0, .slice none 0 0, .slice none 0 0, .slice none 0 0, .slice none 0 0, .slice none 0 0, .int .u64 0, .int .i64 0, .int .i64 0, .int .i64 0, .int .i64 0, .int .i64 0]) (cs := [.val _, .val _, .val _, .val _, .val _, .val _, .val _, .val _, .val _, .val _, .val _, .val _, .val _]) 0 rfl (by kernel_rfl) rfl rfl) ⟨rfl, trivial⟩ ?_
  refine ch_n rfl rfl (oc_store_row (x := .agg _) (cs' := [_, _, _, _, _, _, _, _, _, _, _, _, _]) rfl rfl rfl rfl (by kernel_rfl) (by first | decide | exact Nat.le_of_ble_eq_true rfl | simp) (by first | decide | exact Nat.le_of_ble_eq_true rfl | simp) rfl) ⟨rfl, trivial⟩ ?_
  refine ch_v (R := []) rfl rfl (oc_assign (x := .val _) rfl rfl) trivial ?_
  refine ck_nil ?_
  refine aw_seq ?_
  refine aw_text rfl ?_
  refine ch_v (R := []) rfl rfl (oc_move (x := .sl _ _ _) rfl rfl) trivial ?_
  refine ch_v (R := []) rfl rfl (oc_len rfl rfl (by kernel_rfl)) trivial ?_
  refine ch_v (R := []) rfl rfl (oc_binZ rfl rfl rfl rfl) trivial ?_
  refine ch_v (R := []) rfl rfl (oc_move (x := .val _) rfl rfl) trivial ?_
  refine ch_g (R := []) rfl rfl rfl gate_t (fun hC => oc_move (x := .sl _ _ _) rfl rfl) (fun hC => ⟨(by first | rfl | exact hC | (simp only [Bool.and_eq_true] at hC; first | exact hC.1 | exact hC.1.1 | exact hC.2) | simp_all), trivial⟩) trivial ?_
  refine ch_g (R := []) rfl rfl rfl gate_t (fun hC => oc_index rfl rfl rfl (by kernel_rfl) (by omega) (by omega) rfl) (fun hC => ⟨(by first | rfl | exact hC | (simp only [Bool.and_eq_true] at hC; first | exact hC.1 | exact hC.1.1 | exact hC.2) | simp_all), (by first | rfl | exact hC | (simp only [Bool.and_eq_true] at hC; first | exact hC.1 | exact hC.1.1 | exact hC.2) | simp_all), trivial⟩) trivial ?_
  refine ch_g (R := []) rfl rfl rfl gate_t (fun hC => oc_load rfl rfl (by kernel_rfl) cells_int) (fun hC => ⟨(by first | rfl | exact hC | (simp only [Bool.and_eq_true] at hC; first | exact hC.1 | exact hC.1.1 | exact hC.2) | simp_all), trivial⟩) trivial ?_
  refine ch_g (R := []) rfl rfl rfl gate_t (fun hC => oc_binZ rfl rfl rfl rfl) (fun hC => ⟨(by first | rfl | exact hC | (simp only [Bool.and_eq_true] at hC; first | exact hC.1 | exact hC.1.1 | exact hC.2) | simp_all), (by first | rfl | exact hC | (simp only [Bool.and_eq_true] at hC; first | exact hC.1 | exact hC.1.1 | exact hC.2) | simp_all), trivial⟩) trivial ?_
  refine ch_v (R := []) rfl rfl (oc_and rfl rfl rfl rfl (by first | exact fun h => h | simp_all)) trivial ?_
  refine ch_v (R := []) rfl rfl (oc_move (x := .val _) rfl rfl) trivial ?_
  refine ch_g (R := []) rfl rfl rfl gate_t (fun hC => oc_move (x := .sl _ _ _) rfl rfl) (fun hC => ⟨(by first | rfl | exact hC | (simp only [Bool.and_eq_true] at hC; first | exact hC.1 | exact hC.1.1 | exact hC.2) | simp_all), trivial⟩) trivial ?_
  refine ch_g (R := []) rfl rfl rfl gate_t (fun hC => oc_index rfl rfl rfl (by kernel_rfl) (by omega) (by omega) rfl) (fun hC => ⟨(by first | rfl | exact hC | (simp only [Bool.and_eq_true] at hC; first | exact hC.1 | exact hC.1.1 | exact hC.2) | simp_all), (by first | rfl | exact hC | (simp only [Bool.and_eq_true] at hC; first | exact hC.1 | exact hC.1.1 | exact hC.2) | simp_all), trivial⟩) trivial ?_
  refine ch_g (R := []) rfl rfl rfl gate_t (fun hC => oc_load rfl rfl (by kernel_rfl) cells_int) (fun hC => ⟨(by first | rfl | exact hC | (simp only [Bool.and_eq_true] at hC; first | exact hC.1 | exact hC.1.1 | exact hC.2) | simp_all), trivial⟩) trivial ?_
  refine ch_g (R := []) rfl rfl rfl gate_t (fun hC => oc_binZ rfl rfl rfl rfl) (fun hC => ⟨(by first | rfl | exact hC | (simp only [Bool.and_eq_true] at hC; first | exact hC.1 | exact hC.1.1 | exact hC.2) | simp_all), (by first | rfl | exact hC | (simp only [Bool.and_eq_true] at hC; first | exact hC.1 | exact hC.1.1 | exact hC.2) | simp_all), trivial⟩) trivial ?_
  refine ch_v (R := []) rfl rfl (oc_and rfl rfl rfl rfl (by first | exact fun h => h | simp_all)) trivial ?_
  refine ch_v (R := []) rfl rfl (oc_move (x := .val _) rfl rfl) trivial ?_
  refine ch_g (R := []) rfl rfl rfl gate_t (fun hC => oc_move (x := .val _) rfl rfl) (fun hC => ⟨(by first | rfl | exact hC | (simp only [Bool.and_eq_true] at hC; first | exact hC.1 | exact hC.1.1 | exact hC.2) | simp_all), trivial⟩) trivial ?_
  refine ch_g (R := []) rfl rfl rfl gate_t (fun hC => oc_binZ rfl rfl rfl rfl) (fun hC => ⟨(by first | rfl | exact hC | (simp only [Bool.and_eq_true] at hC; first | exact hC.1 | exact hC.1.1 | exact hC.2) | simp_all), (by first | rfl | exact hC | (simp only [Bool.and_eq_true] at hC; first | exact hC.1 | exact hC.1.1 | exact hC.2) | simp_all), trivial⟩) trivial ?_
  refine ch_v (R := []) rfl rfl (oc_and rfl rfl rfl rfl (by first | exact fun h => h | simp_all)) trivial ?_
  refine ch_v (R := []) rfl rfl (oc_assign (x := .val _) rfl rfl) trivial ?_
  refine ck_nil ?_
  refine aw_ret ?_
  exact ⟨.inl rfl, ResOk.tmp rfl (vb_eq (by rw [aw_short, ov_pack]; decide)), trivial⟩
set_option maxHeartbeats 800000 in
theorem imageUnpacks_pc (t : TabP) (ht : t.wf) (xs : List Int) (hB : BW xs) : PC Try.prog 3 [tabAv t, bs xs] (vb true) := by
  refine FC.body 4 57 Try.func3 rfl (by kernel_rfl) ?_
  refine aw_seq ?_
  refine aw_text rfl ?_
  refine ch_v (R := []) rfl rfl (oc_box (x := .agg _) rfl rfl) trivial ?_
  refine ch_v (R := []) rfl rfl (oc_assign (x := .val _) rfl rfl) trivial ?_
  refine ck_nil ?_
  refine aw_seq ?_
  refine aw_seq ?_
  refine aw_text rfl ?_
  refine ch_v (R := []) rfl rfl (oc_move (x := .sl _ _ _) rfl rfl) trivial ?_
  refine ch_v (R := []) rfl rfl (oc_len rfl rfl (by kernel_rfl)) trivial ?_
  refine ch_v (R := []) rfl rfl (oc_binZ rfl rfl rfl rfl) trivial ?_
  refine ch_v (R := []) rfl rfl (oc_move (x := .val _) rfl rfl) trivial ?_
  refine ch_g (R := []) rfl rfl rfl gate_f (fun hC => oc_load_row rfl rfl (by kernel_rfl) (by kernel_rfl) rfl) (fun hC => ⟨(by first | rfl | exact hC | (simp only [Bool.and_eq_true] at hC; first | exact hC.1 | exact hC.1.1 | exact hC.2) | simp_all), trivial⟩) trivial ?_
  refine ch_g (R := []) rfl rfl rfl gate_f (fun hC => oc_call rfl (by kernel_rfl) (rfits_pc t ht) rfl (by simp only [PureL, Pure, and_self, bs_pure, bv_pure, pure_slI, pure_world, pure_tab, vu, implies_true]) (by simp only [PureL, Pure, and_self, bs_pure, bv_pure, pure_slI, pure_world, pure_tab, vu, implies_true])) (fun hC => ⟨(by first | rfl | exact hC | (simp only [Bool.and_eq_true] at hC; first | exact hC.1 | exact hC.1.1 | exact hC.2) | simp_all), (by first | rfl | exact hC | (simp only [Bool.and_eq_true] at hC; first | exact hC.1 | exact hC.1.1 | exact hC.2) | simp_all), trivial⟩) trivial ?_
  refine ch_g (R := []) rfl rfl rfl gate_f (fun hC => oc_not rfl rfl) (fun hC => ⟨(by first | rfl | exact hC | (simp only [Bool.and_eq_true] at hC; first | exact hC.1 | exact hC.1.1 | exact hC.2) | simp_all), trivial⟩) trivial ?_
  refine ch_v (R := []) rfl rfl (oc_or rfl rfl rfl (by first | exact fun h => h | simp_all)) trivial ?_
  refine ck_nil ?_
  refine aw_cond rfl (fun hb => ?_) (fun hb => ?_)
  · refine aw_seq ?_
    refine aw_text rfl ?_
    refine ch_v (R := []) rfl rfl (oc_call rfl (by kernel_rfl) (awake_pc) rfl (by simp only [PureL, Pure, and_self, bs_pure, bv_pure, pure_slI, pure_world, pure_tab, vu, implies_true]) (by simp only [PureL, Pure, and_self, bs_pure, bv_pure, pure_slI, pure_world, pure_tab, vu, implies_true])) trivial ?_
    refine ch_v (R := []) rfl rfl (oc_assign (x := .val _) rfl rfl) trivial ?_
    refine ck_nil ?_
    refine aw_ret ?_
    exact ⟨.inl rfl, ResOk.tmp rfl rfl, trivial⟩
  · have hq := hb
    simp only [Bool.or_eq_false_iff, Bool.not_eq_false', decide_eq_false_iff_not] at hq
    have hxl : xs.length ≤ 6000 := by have := hq.1; omega
    have hF := fits_facts (t := t) (by rw [fits_eq]; exact hq.2)
    refine aw_skip ?_
    refine aw_seq ?_
    refine aw_text rfl ?_
    refine ch_v (R := []) rfl rfl (oc_load_row rfl rfl (by kernel_rfl) (by kernel_rfl) rfl) trivial ?_
    refine ch_v (R := []) rfl rfl (oc_move (x := .sl _ _ _) rfl rfl) trivial ?_
    refine ch_v (R := []) rfl rfl (oc_call rfl (by kernel_rfl) (unpack_pc t xs (by omega) hB.1 (.inl hF)) rfl (by simp only [PureL, Pure, and_self, bs_pure, bv_pure, pure_slI, pure_world, pure_tab, vu, implies_true]) (by simp only [PureL, Pure, and_self, bs_pure, bv_pure, pure_slI, pure_world, pure_tab, vu, implies_true])) trivial ?_
    refine ch_v (R := []) rfl rfl (oc_move (x := .tup _) rfl rfl) trivial ?_
    refine ch_v (R := []) rfl rfl (oc_extract rfl rfl rfl) trivial ?_
    refine ch_v (R := []) rfl rfl (oc_extract rfl rfl rfl) trivial ?_
    refine ch_u rfl rfl (oc_alloc (zs := [.slice none 0 0, .slice none 0 0, .slice none 0 0, .slice none 0 0, .slice none 0 0, .slice none 0 0, .slice none 0 0, .int .u64 0, .int .i64 0, .int .i64 0, .int .i64 0, .int .i64 0, .int .i64 0]) (cs := [.val _, .val _, .val _, .val _, .val _, .val _, .val _, .val _, .val _, .val _, .val _, .val _, .val _]) 0 rfl (by kernel_rfl) rfl rfl) ⟨rfl, trivial⟩ ?_
    refine ch_n rfl rfl (oc_store_row (x := .agg _) (cs' := [_, _, _, _, _, _, _, _, _, _, _, _, _]) rfl rfl rfl rfl (by kernel_rfl) (by first | decide | exact Nat.le_of_ble_eq_true rfl | simp) (by first | decide | exact Nat.le_of_ble_eq_true rfl | simp) rfl) ⟨rfl, trivial⟩ ?_
    refine ch_v (R := []) rfl rfl (oc_assign (x := .val _) rfl rfl) trivial ?_
    refine ck_nil ?_
    refine aw_seq ?_
    refine aw_text rfl ?_
    refine ch_v (R := []) rfl rfl (oc_load_row rfl rfl (by kernel_rfl) (by kernel_rfl) rfl) trivial ?_
    refine ch_v (R := []) rfl rfl (oc_move (x := .sl _ _ _) rfl rfl) trivial ?_
    refine ch_v (R := []) rfl rfl (oc_call rfl (by kernel_rfl) (runpack_pc t xs (by omega) hB.1 (.inl hF)) rfl (by simp only [PureL, Pure, and_self, bs_pure, bv_pure, pure_slI, pure_world, pure_tab, vu, implies_true]) (by simp only [PureL, Pure, and_self, bs_pure, bv_pure, pure_slI, pure_world, pure_tab, vu, implies_true])) trivial ?_
    refine ch_v (R := []) rfl rfl (oc_move (x := .tup _) rfl rfl) trivial ?_
    refine ch_v (R := []) rfl rfl (oc_extract rfl rfl rfl) trivial ?_
    refine ch_v (R := []) rfl rfl (oc_extract rfl rfl rfl) trivial ?_
    refine ch_u rfl rfl (oc_alloc (zs := [.slice none 0 0, .slice none 0 0, .slice none 0 0, .slice none 0 0, .slice none 0 0, .slice none 0 0, .slice none 0 0, .int .u64 0, .int .i64 0, .int .i64 0, .int .i64 0, .int .i64 0, .int .i64 0]) (cs := [.val _, .val _, .val _, .val _, .val _, .val _, .val _, .val _, .val _, .val _, .val _, .val _, .val _]) 1 rfl (by kernel_rfl) rfl rfl) ⟨rfl, trivial⟩ ?_
    refine ch_n rfl rfl (oc_store_row (x := .agg _) (cs' := [_, _, _, _, _, _, _, _, _, _, _, _, _]) rfl rfl rfl rfl (by kernel_rfl) (by first | decide | exact Nat.le_of_ble_eq_true rfl | simp) (by first | decide | exact Nat.le_of_ble_eq_true rfl | simp) rfl) ⟨rfl, trivial⟩ ?_
    refine ch_v (R := []) rfl rfl (oc_assign (x := .val _) rfl rfl) trivial ?_
    refine ck_nil ?_
    refine aw_seq ?_
    refine aw_seq ?_
    refine aw_text rfl ?_
    refine ch_v (R := []) rfl rfl (oc_move (x := .val _) rfl rfl) trivial ?_
    refine ch_v (R := []) rfl rfl (oc_move (x := .val _) rfl rfl) trivial ?_
    refine ch_v (R := []) rfl rfl (oc_binZ rfl rfl rfl rfl) trivial ?_
    refine ch_v (R := []) rfl rfl (oc_move (x := .val _) rfl rfl) trivial ?_
    refine ch_g (R := [(_, .live _ _)]) rfl rfl rfl gate_f (fun hC => oc_load_own_row (k := 13) (ds := [_, _, _, _, _, _, _, _, _, _, _, _, _]) rfl rfl (by kernel_rfl) (by kernel_rfl) rfl rfl (by decide)) (fun hC => ⟨(by first | rfl | exact hC | (simp only [Bool.and_eq_true] at hC; first | exact hC.1 | exact hC.1.1 | exact hC.2) | simp_all), trivial⟩) ⟨rfl, trivial⟩ ?_
    refine ch_g (R := [(_, .live _ _)]) rfl rfl rfl gate_f (fun hC => oc_load_own_row (k := 13) (ds := [_, _, _, _, _, _, _, _, _, _, _, _, _]) rfl rfl (by kernel_rfl) (by kernel_rfl) rfl rfl (by decide)) (fun hC => ⟨(by first | rfl | exact hC | (simp only [Bool.and_eq_true] at hC; first | exact hC.1 | exact hC.1.1 | exact hC.2) | simp_all), trivial⟩) ⟨rfl, trivial⟩ ?_
    refine ch_g (R := []) rfl rfl rfl gate_f (fun hC => oc_call rfl (by kernel_rfl) (rsame_pc _ _) rfl (by simp only [PureL, Pure, and_self, bs_pure, bv_pure, pure_slI, pure_world, pure_tab, vu, implies_true]) (by simp only [PureL, Pure, and_self, bs_pure, bv_pure, pure_slI, pure_world, pure_tab, vu, implies_true])) (fun hC => ⟨(by first | rfl | exact hC | (simp only [Bool.and_eq_true] at hC; first | exact hC.1 | exact hC.1.1 | exact hC.2) | simp_all), (by first | rfl | exact hC | (simp only [Bool.and_eq_true] at hC; first | exact hC.1 | exact hC.1.1 | exact hC.2) | simp_all), (by first | rfl | exact hC | (simp only [Bool.and_eq_true] at hC; first | exact hC.1 | exact hC.1.1 | exact hC.2) | simp_all), trivial⟩) trivial ?_
    refine ch_g (R := []) rfl rfl rfl gate_f (fun hC => oc_not rfl rfl) (fun hC => ⟨(by first | rfl | exact hC | (simp only [Bool.and_eq_true] at hC; first | exact hC.1 | exact hC.1.1 | exact hC.2) | simp_all), trivial⟩) trivial ?_
    refine ch_v (R := []) rfl rfl (oc_or rfl rfl rfl (by first | exact fun h => h | simp_all)) trivial ?_
    refine ck_nil ?_
    refine aw_cond rfl (fun hb => ?_) (fun hb => ?_)
    · exact absurd hb (by simp [sameW_refl])
    · refine aw_skip ?_
      refine aw_seq ?_
      refine aw_draw mixed ?_
      refine ch_v (R := []) rfl rfl (oc_move (x := .val _) rfl rfl) trivial ?_
      refine ch_v (R := []) rfl rfl (oc_binZ rfl rfl rfl rfl) trivial ?_
      refine ch_v (R := []) rfl rfl (oc_move (x := .val _) rfl rfl) trivial ?_
      refine ch_g (R := []) rfl rfl rfl gate_f (fun hC => oc_load_row rfl rfl (by kernel_rfl) (by kernel_rfl) rfl) (fun hC => ⟨(by first | rfl | exact hC | (simp only [Bool.and_eq_true] at hC; first | exact hC.1 | exact hC.1.1 | exact hC.2) | simp_all), trivial⟩) trivial ?_
      refine ch_g (R := [(_, .live _ _)]) rfl rfl rfl gate_f (fun hC => oc_load_own_row (k := 13) (ds := [_, _, _, _, _, _, _, _, _, _, _, _, _]) rfl rfl (by kernel_rfl) (by kernel_rfl) rfl rfl (by decide)) (fun hC => ⟨(by first | rfl | exact hC | (simp only [Bool.and_eq_true] at hC; first | exact hC.1 | exact hC.1.1 | exact hC.2) | simp_all), trivial⟩) ⟨rfl, trivial⟩ ?_
      refine ch_g (R := []) rfl rfl rfl gate_f (fun hC => oc_call rfl (by kernel_rfl) (rright_pc t hF _) rfl (by simp only [PureL, Pure, and_self, bs_pure, bv_pure, pure_slI, pure_world, pure_tab, vu, implies_true]) (by simp only [PureL, Pure, and_self, bs_pure, bv_pure, pure_slI, pure_world, pure_tab, vu, implies_true])) (fun hC => ⟨(by first | rfl | exact hC | (simp only [Bool.and_eq_true] at hC; first | exact hC.1 | exact hC.1.1 | exact hC.2) | simp_all), (by first | rfl | exact hC | (simp only [Bool.and_eq_true] at hC; first | exact hC.1 | exact hC.1.1 | exact hC.2) | simp_all), (by first | rfl | exact hC | (simp only [Bool.and_eq_true] at hC; first | exact hC.1 | exact hC.1.1 | exact hC.2) | simp_all), trivial⟩) trivial ?_
      refine ch_g (R := []) rfl rfl rfl gate_f (fun hC => oc_move (x := .val _) rfl rfl) (fun hC => ⟨(by first | rfl | exact hC | (simp only [Bool.and_eq_true] at hC; first | exact hC.1 | exact hC.1.1 | exact hC.2) | simp_all), trivial⟩) trivial ?_
      refine ch_g (R := [(_, .live _ _)]) rfl rfl rfl gate_gt (fun hC => oc_load_own_row (k := 13) (ds := [_, _, _, _, _, _, _, _, _, _, _, _, _]) rfl rfl (by kernel_rfl) (by kernel_rfl) rfl rfl (by decide)) (fun hC => ⟨(by first | rfl | exact hC | (simp only [Bool.and_eq_true] at hC; first | exact hC.1 | exact hC.1.1 | exact hC.2) | simp_all), trivial⟩) ⟨rfl, trivial⟩ ?_
      refine ch_g (R := []) rfl rfl rfl gate_gt (fun hC => oc_call rfl (by kernel_rfl) (pack_pc _ (unp_small t hxl) (unp_seed t hB.1)) rfl (by simp only [PureL, Pure, and_self, bs_pure, bv_pure, pure_slI, pure_world, pure_tab, vu, implies_true]) (by simp only [PureL, Pure, and_self, bs_pure, bv_pure, pure_slI, pure_world, pure_tab, vu, implies_true])) (fun hC => ⟨(by first | rfl | exact hC | (simp only [Bool.and_eq_true] at hC; first | exact hC.1 | exact hC.1.1 | exact hC.2) | simp_all), (by first | rfl | exact hC | (simp only [Bool.and_eq_true] at hC; first | exact hC.1 | exact hC.1.1 | exact hC.2) | simp_all), trivial⟩) trivial ?_
      refine ch_g (R := []) rfl rfl rfl gate_gt (fun hC => oc_str (packP (unpP t xs).1) rfl rfl (by kernel_rfl)) (fun hC => ⟨(by first | rfl | exact hC | (simp only [Bool.and_eq_true] at hC; first | exact hC.1 | exact hC.1.1 | exact hC.2) | simp_all), trivial⟩) trivial ?_
      refine ch_g (R := []) rfl rfl rfl gate_gt (fun hC => oc_move (x := .sl _ _ _) rfl rfl) (fun hC => ⟨(by first | rfl | exact hC | (simp only [Bool.and_eq_true] at hC; first | exact hC.1 | exact hC.1.1 | exact hC.2) | simp_all), trivial⟩) trivial ?_
      refine ch_g (R := []) rfl rfl rfl gate_gt (fun hC => oc_str xs rfl rfl (by kernel_rfl)) (fun hC => ⟨(by first | rfl | exact hC | (simp only [Bool.and_eq_true] at hC; first | exact hC.1 | exact hC.1.1 | exact hC.2) | simp_all), trivial⟩) trivial ?_
      refine ch_g (R := []) rfl rfl rfl gate_gt (fun hC => oc_str_eq rfl rfl rfl) (fun hC => ⟨(by first | rfl | exact hC | (simp only [Bool.and_eq_true] at hC; first | exact hC.1 | exact hC.1.1 | exact hC.2) | simp_all), (by first | rfl | exact hC | (simp only [Bool.and_eq_true] at hC; first | exact hC.1 | exact hC.1.1 | exact hC.2) | simp_all), trivial⟩) trivial ?_
      refine ch_gp rfl rfl rfl rfl gate_f (fun hC => (by first | rfl | exact hC | (simp only [Bool.and_eq_true] at hC; first | exact hC.1 | exact hC.1.1 | exact hC.2) | simp_all)) rfl (fun hC E a hp hq => pk_and rfl (by first | exact fun h => tt2 hC h | exact fun h => h | simp_all) hp) ?_
      refine ch_v (R := []) rfl rfl (oc_or rfl rfl rfl (by first | exact fun h => h | simp_all)) trivial ?_
      refine ch_v (R := []) rfl rfl (oc_move (x := .val _) rfl rfl) trivial ?_
      refine ch_g (R := []) rfl rfl rfl gate_t (fun hC => oc_call rfl (by kernel_rfl) (awake_pc) rfl (by simp only [PureL, Pure, and_self, bs_pure, bv_pure, pure_slI, pure_world, pure_tab, vu, implies_true]) (by simp only [PureL, Pure, and_self, bs_pure, bv_pure, pure_slI, pure_world, pure_tab, vu, implies_true])) (fun hC => ⟨(by first | rfl | exact hC | (simp only [Bool.and_eq_true] at hC; first | exact hC.1 | exact hC.1.1 | exact hC.2) | simp_all), trivial⟩) trivial ?_
      refine ch_v (R := []) rfl rfl (oc_and rfl rfl rfl rfl (by first | exact fun h => h | simp_all)) trivial ?_
      refine ch_v (R := []) rfl rfl (oc_assign (x := .val _) rfl rfl) trivial ?_
      refine ck_nil ⟨by kernel_rfl, ?_⟩
      refine aw_ret ?_
      exact ⟨.inl rfl, ResOk.tmp rfl (vb_eq (by
        rcases unp_cases t xs with h | ⟨h, h1, h2⟩
        · rw [show ((unpP t xs).2 != 0) = true from by simpa using h]
          rfl
        · rw [h, nums_beq (packP_byt _) hB.1, pack_read hB.1 h1, ← right_eq hF, h2]
          simp)), trivial⟩
set_option maxHeartbeats 800000 in
theorem imageBack_pc (t : TabP) (ht : t.wf) (w : WorldP) (hw : w.wf) : PC Try.prog 4 [tabAv t, worldAv w] (vb true) := by
  refine FC.body 6 71 Try.func4 rfl (by kernel_rfl) ?_
  refine aw_seq ?_
  refine aw_text rfl ?_
  refine ch_v (R := []) rfl rfl (oc_box (x := .agg _) rfl rfl) trivial ?_
  refine ch_v (R := []) rfl rfl (oc_box (x := .agg _) rfl rfl) trivial ?_
  refine ch_v (R := []) rfl rfl (oc_assign (x := .val _) rfl rfl) trivial ?_
  refine ck_nil ?_
  refine aw_seq ?_
  refine aw_seq ?_
  refine aw_text rfl ?_
  refine ch_v (R := []) rfl rfl (oc_load_row rfl rfl (by kernel_rfl) (by kernel_rfl) rfl) trivial ?_
  refine ch_v (R := []) rfl rfl (oc_call rfl (by kernel_rfl) (rfits_pc t ht) rfl (by simp only [PureL, Pure, and_self, bs_pure, bv_pure, pure_slI, pure_world, pure_tab, vu, implies_true]) (by simp only [PureL, Pure, and_self, bs_pure, bv_pure, pure_slI, pure_world, pure_tab, vu, implies_true])) trivial ?_
  refine ch_v (R := []) rfl rfl (oc_not rfl rfl) trivial ?_
  refine ch_v (R := []) rfl rfl (oc_move (x := .val _) rfl rfl) trivial ?_
  refine ch_g (R := []) rfl rfl rfl gate_f (fun hC => oc_load_row rfl rfl (by kernel_rfl) (by kernel_rfl) rfl) (fun hC => ⟨(by first | rfl | exact hC | (simp only [Bool.and_eq_true] at hC; first | exact hC.1 | exact hC.1.1 | exact hC.2) | simp_all), trivial⟩) trivial ?_
  refine ch_g (R := []) rfl rfl rfl gate_f (fun hC => oc_load_row rfl rfl (by kernel_rfl) (by kernel_rfl) rfl) (fun hC => ⟨(by first | rfl | exact hC | (simp only [Bool.and_eq_true] at hC; first | exact hC.1 | exact hC.1.1 | exact hC.2) | simp_all), trivial⟩) trivial ?_
  refine ch_g (R := []) rfl rfl rfl gate_f (fun hC => by
        have hF := fits_facts (t := t) (by rw [fits_eq]; simpa using hC)
        exact oc_call rfl (by kernel_rfl) (rright_pc t hF w) rfl (by simp only [PureL, Pure, and_self, bs_pure, bv_pure, pure_slI, pure_world, pure_tab, vu, implies_true]) (by simp only [PureL, Pure, and_self, bs_pure, bv_pure, pure_slI, pure_world, pure_tab, vu, implies_true])) (fun hC => ⟨(by first | rfl | exact hC | (simp only [Bool.and_eq_true] at hC; first | exact hC.1 | exact hC.1.1 | exact hC.2) | simp_all), (by first | rfl | exact hC | (simp only [Bool.and_eq_true] at hC; first | exact hC.1 | exact hC.1.1 | exact hC.2) | simp_all), (by first | rfl | exact hC | (simp only [Bool.and_eq_true] at hC; first | exact hC.1 | exact hC.1.1 | exact hC.2) | simp_all), trivial⟩) trivial ?_
  refine ch_g (R := []) rfl rfl rfl gate_f (fun hC => oc_not rfl rfl) (fun hC => ⟨(by first | rfl | exact hC | (simp only [Bool.and_eq_true] at hC; first | exact hC.1 | exact hC.1.1 | exact hC.2) | simp_all), trivial⟩) trivial ?_
  refine ch_v (R := []) rfl rfl (oc_or rfl rfl rfl (by first | exact fun h => h | simp_all)) trivial ?_
  refine ck_nil ?_
  refine aw_cond rfl (fun hb => ?_) (fun hb => ?_)
  · refine aw_seq ?_
    refine aw_text rfl ?_
    refine ch_v (R := []) rfl rfl (oc_call rfl (by kernel_rfl) (awake_pc) rfl (by simp only [PureL, Pure, and_self, bs_pure, bv_pure, pure_slI, pure_world, pure_tab, vu, implies_true]) (by simp only [PureL, Pure, and_self, bs_pure, bv_pure, pure_slI, pure_world, pure_tab, vu, implies_true])) trivial ?_
    refine ch_v (R := []) rfl rfl (oc_assign (x := .val _) rfl rfl) trivial ?_
    refine ck_nil ?_
    refine aw_ret ?_
    exact ⟨.inl rfl, ResOk.tmp rfl rfl, trivial⟩
  · have hq := hb
    simp only [Bool.or_eq_false_iff, Bool.not_eq_false'] at hq
    have hF := fits_facts (t := t) (by rw [fits_eq]; exact hq.1)
    have hr : rightB t w = true := by rw [right_eq hF]; exact hq.2
    have hW := right_wr hF hw.seed hr
    have hl1 := packP_len w
    have hl2 := packQ_len hW
    refine aw_skip ?_
    refine aw_seq ?_
    refine aw_text rfl ?_
    refine ch_v (R := []) rfl rfl (oc_load_row rfl rfl (by kernel_rfl) (by kernel_rfl) rfl) trivial ?_
    refine ch_v (R := []) rfl rfl (oc_call rfl (by kernel_rfl) (pack_pc w (wr_small hW) hw.seed) rfl (by simp only [PureL, Pure, and_self, bs_pure, bv_pure, pure_slI, pure_world, pure_tab, vu, implies_true]) (by simp only [PureL, Pure, and_self, bs_pure, bv_pure, pure_slI, pure_world, pure_tab, vu, implies_true])) trivial ?_
    refine ch_v (R := []) rfl rfl (oc_assign (x := .sl _ _ _) rfl rfl) trivial ?_
    refine ck_nil ?_
    refine aw_seq ?_
    refine aw_seq ?_
    refine aw_text rfl ?_
    refine ch_v (R := []) rfl rfl (oc_move (x := .sl _ _ _) rfl rfl) trivial ?_
    refine ch_v (R := []) rfl rfl (oc_len rfl rfl (by kernel_rfl)) trivial ?_
    refine ch_v (R := []) rfl rfl (oc_binZ rfl rfl rfl rfl) trivial ?_
    refine ck_nil ?_
    refine aw_cond rfl (fun hb => ?_) (fun hb => ?_)
    · exact absurd hb (by rw [hl1]; simp; omega)
    · refine aw_skip ?_
      refine aw_seq ?_
      refine aw_text rfl ?_
      refine ch_v (R := []) rfl rfl (oc_load_row rfl rfl (by kernel_rfl) (by kernel_rfl) rfl) trivial ?_
      refine ch_v (R := []) rfl rfl (oc_move (x := .sl _ _ _) rfl rfl) trivial ?_
      refine ch_v (R := []) rfl rfl (oc_call rfl (by kernel_rfl) (unpack_pc t (packP w) (by omega) (packP_byt w) (.inl hF)) rfl (by simp only [PureL, Pure, and_self, bs_pure, bv_pure, pure_slI, pure_world, pure_tab, vu, implies_true]) (by simp only [PureL, Pure, and_self, bs_pure, bv_pure, pure_slI, pure_world, pure_tab, vu, implies_true])) trivial ?_
      refine ch_v (R := []) rfl rfl (oc_move (x := .tup _) rfl rfl) trivial ?_
      refine ch_v (R := []) rfl rfl (oc_extract rfl rfl rfl) trivial ?_
      refine ch_v (R := []) rfl rfl (oc_extract rfl rfl rfl) trivial ?_
      refine ch_u rfl rfl (oc_alloc (zs := [.slice none 0 0, .slice none 0 0, .slice none 0 0, .slice none 0 0, .slice none 0 0, .slice none 0 0, .slice none 0 0, .int .u64 0, .int .i64 0, .int .i64 0, .int .i64 0, .int .i64 0, .int .i64 0]) (cs := [.val _, .val _, .val _, .val _, .val _, .val _, .val _, .val _, .val _, .val _, .val _, .val _, .val _]) 0 rfl (by kernel_rfl) rfl rfl) ⟨rfl, trivial⟩ ?_
      refine ch_n rfl rfl (oc_store_row (x := .agg _) (cs' := [_, _, _, _, _, _, _, _, _, _, _, _, _]) rfl rfl rfl rfl (by kernel_rfl) (by first | decide | exact Nat.le_of_ble_eq_true rfl | simp) (by first | decide | exact Nat.le_of_ble_eq_true rfl | simp) rfl) ⟨rfl, trivial⟩ ?_
      refine ch_v (R := []) rfl rfl (oc_assign (x := .val _) rfl rfl) trivial ?_
      refine ck_nil ?_
      refine aw_seq ?_
      refine aw_draw mixed ?_
      refine ch_v (R := []) rfl rfl (oc_load_row rfl rfl (by kernel_rfl) (by kernel_rfl) rfl) trivial ?_
      refine ch_v (R := []) rfl rfl (oc_move (x := .sl _ _ _) rfl rfl) trivial ?_
      refine ch_v (R := []) rfl rfl (oc_move (x := .sl _ _ _) rfl rfl) trivial ?_
      refine ch_v (R := []) rfl rfl (oc_len rfl rfl (by kernel_rfl)) trivial ?_
      refine ch_v (R := []) rfl rfl (OC.cast (oc_binZ rfl rfl rfl (by first | exact binW_sub (by omega) (by omega) | rfl)) (show vi (((packP w).length : Nat) - 1 : Int) = vi (((packQ w).length : Nat) : Int) from vi_eq (by omega))) trivial ?_
      refine ch_v (R := []) rfl rfl (oc_slice_h (e := 5) (by_ := 1) (zs := [.int .u8 0]) (packQ w).length rfl rfl rfl (by kernel_rfl) (by kernel_rfl) (by omega)) trivial ?_
      refine ch_v (R := []) rfl rfl (oc_call rfl (by kernel_rfl) (PC.args (unpack_pc t (packQ w) (by omega) (packQ_byt w) (.inl hF)) (fun E v h => h) (part_bytes w)) rfl (by simp only [PureL, Pure, and_self, bs_pure, bv_pure, pure_slI, pure_world, pure_tab, vu, implies_true]) (by simp only [PureL, Pure, and_self, bs_pure, bv_pure, pure_slI, pure_world, pure_tab, vu, implies_true])) trivial ?_
      refine ch_v (R := []) rfl rfl (oc_move (x := .tup _) rfl rfl) trivial ?_
      refine ch_v (R := []) rfl rfl (oc_extract rfl rfl rfl) trivial ?_
      refine ch_v (R := []) rfl rfl (oc_extract rfl rfl rfl) trivial ?_
      refine ch_u rfl rfl (oc_alloc (zs := [.slice none 0 0, .slice none 0 0, .slice none 0 0, .slice none 0 0, .slice none 0 0, .slice none 0 0, .slice none 0 0, .int .u64 0, .int .i64 0, .int .i64 0, .int .i64 0, .int .i64 0, .int .i64 0]) (cs := [.val _, .val _, .val _, .val _, .val _, .val _, .val _, .val _, .val _, .val _, .val _, .val _, .val _]) 1 rfl (by kernel_rfl) rfl rfl) ⟨rfl, trivial⟩ ?_
      refine ch_n rfl rfl (oc_store_row (x := .agg _) (cs' := [_, _, _, _, _, _, _, _, _, _, _, _, _]) rfl rfl rfl rfl (by kernel_rfl) (by first | decide | exact Nat.le_of_ble_eq_true rfl | simp) (by first | decide | exact Nat.le_of_ble_eq_true rfl | simp) rfl) ⟨rfl, trivial⟩ ?_
      refine ch_v (R := []) rfl rfl (oc_assign (x := .val _) rfl rfl) trivial ?_
      refine ck_nil ⟨by kernel_rfl, ?_⟩
      refine aw_seq ?_
      refine aw_draw mixed ?_
      refine ch_v (R := []) rfl rfl (oc_load_row rfl rfl (by kernel_rfl) (by kernel_rfl) rfl) trivial ?_
      refine ch_u rfl rfl (oc_buildSlice_own (ps := []) (xs := []) (e := 5) (by_ := 1) (zs := [.int .u8 0]) 2 rfl (by kernel_rfl) (by kernel_rfl) rfl rfl rfl rfl (by decide)) ⟨rfl, trivial⟩ ?_
      refine ch_v (R := []) rfl rfl (oc_move (x := .sl _ _ _) rfl rfl) trivial ?_
      refine ch_u rfl rfl (oc_append (e := 5) (k := 1) (by_ := 1) (zs := [.int .u8 0]) (cs := []) (ds := (packP w).map bw) 3 rfl rfl rfl (by kernel_rfl) (by kernel_rfl) rfl (by decide) (by decide) rfl (by simp) (app_bw _) (by omega) (by omega)) ⟨rfl, rfl, trivial⟩ ?_
      refine ch_v (R := []) rfl rfl (oc_buildSlice (ps := [_]) (xs := [.val _]) (e := 5) (k := 1) (by_ := 1) (zs := [.int .u8 0]) rfl (by kernel_rfl) (by kernel_rfl) rfl rfl rfl (by decide) (by decide)) trivial ?_
      refine ch_u rfl rfl (oc_frz (oc_append (e := 5) (k := 1) (by_ := 1) (zs := [.int .u8 0]) (cs := (packP w).map bw) (ds := [bw 0]) 4 rfl rfl rfl (by kernel_rfl) (by kernel_rfl) rfl (by decide) (by decide) (by simp) rfl (app_bw1 _) (by omega) (by omega)) (by decide) (ys := packP w ++ [0]) (by simp) (by simp)) ⟨rfl, rfl, trivial⟩ ?_
      refine ch_v (R := []) rfl rfl (oc_call rfl (by kernel_rfl) (unpack_pc t (packP w ++ [0]) (by simp; omega) ((packP_byt w).append (byte_byt 0)) (.inl hF)) rfl (by simp only [PureL, Pure, and_self, bs_pure, bv_pure, pure_slI, pure_world, pure_tab, vu, implies_true]) (by simp only [PureL, Pure, and_self, bs_pure, bv_pure, pure_slI, pure_world, pure_tab, vu, implies_true])) trivial ?_
      refine ch_v (R := []) rfl rfl (oc_move (x := .tup _) rfl rfl) trivial ?_
      refine ch_v (R := []) rfl rfl (oc_extract rfl rfl rfl) trivial ?_
      refine ch_v (R := []) rfl rfl (oc_extract rfl rfl rfl) trivial ?_
      refine ch_u rfl rfl (oc_alloc (zs := [.slice none 0 0, .slice none 0 0, .slice none 0 0, .slice none 0 0, .slice none 0 0, .slice none 0 0, .slice none 0 0, .int .u64 0, .int .i64 0, .int .i64 0, .int .i64 0, .int .i64 0, .int .i64 0]) (cs := [.val _, .val _, .val _, .val _, .val _, .val _, .val _, .val _, .val _, .val _, .val _, .val _, .val _]) 5 rfl (by kernel_rfl) rfl rfl) ⟨rfl, trivial⟩ ?_
      refine ch_n rfl rfl (oc_store_row (x := .agg _) (cs' := [_, _, _, _, _, _, _, _, _, _, _, _, _]) rfl rfl rfl rfl (by kernel_rfl) (by first | decide | exact Nat.le_of_ble_eq_true rfl | simp) (by first | decide | exact Nat.le_of_ble_eq_true rfl | simp) rfl) ⟨rfl, trivial⟩ ?_
      refine ch_v (R := []) rfl rfl (oc_assign (x := .val _) rfl rfl) trivial ?_
      refine ck_nil ⟨by kernel_rfl, ?_⟩
      refine aw_seq ?_
      refine aw_text rfl ?_
      refine ch_v (R := []) rfl rfl (oc_move (x := .val _) rfl rfl) trivial ?_
      refine ch_v (R := []) rfl rfl (oc_binZ rfl rfl rfl rfl) trivial ?_
      refine ch_v (R := []) rfl rfl (oc_move (x := .val _) rfl rfl) trivial ?_
      refine ch_g (R := [(_, .live _ _)]) rfl rfl rfl gate_t (fun hC => oc_load_own_row (k := 13) (ds := [_, _, _, _, _, _, _, _, _, _, _, _, _]) rfl rfl (by kernel_rfl) (by kernel_rfl) rfl rfl (by decide)) (fun hC => ⟨(by first | rfl | exact hC | (simp only [Bool.and_eq_true] at hC; first | exact hC.1 | exact hC.1.1 | exact hC.2) | simp_all), trivial⟩) ⟨rfl, trivial⟩ ?_
      refine ch_g (R := []) rfl rfl rfl gate_t (fun hC => oc_load_row rfl rfl (by kernel_rfl) (by kernel_rfl) rfl) (fun hC => ⟨(by first | rfl | exact hC | (simp only [Bool.and_eq_true] at hC; first | exact hC.1 | exact hC.1.1 | exact hC.2) | simp_all), trivial⟩) trivial ?_
      refine ch_g (R := []) rfl rfl rfl gate_t (fun hC => oc_call rfl (by kernel_rfl) (rsame_pc _ _) rfl (by simp only [PureL, Pure, and_self, bs_pure, bv_pure, pure_slI, pure_world, pure_tab, vu, implies_true]) (by simp only [PureL, Pure, and_self, bs_pure, bv_pure, pure_slI, pure_world, pure_tab, vu, implies_true])) (fun hC => ⟨(by first | rfl | exact hC | (simp only [Bool.and_eq_true] at hC; first | exact hC.1 | exact hC.1.1 | exact hC.2) | simp_all), (by first | rfl | exact hC | (simp only [Bool.and_eq_true] at hC; first | exact hC.1 | exact hC.1.1 | exact hC.2) | simp_all), (by first | rfl | exact hC | (simp only [Bool.and_eq_true] at hC; first | exact hC.1 | exact hC.1.1 | exact hC.2) | simp_all), trivial⟩) trivial ?_
      refine ch_v (R := []) rfl rfl (oc_and rfl rfl rfl rfl (by first | exact fun h => h | simp_all)) trivial ?_
      refine ch_v (R := []) rfl rfl (oc_move (x := .val _) rfl rfl) trivial ?_
      refine ch_g (R := []) rfl rfl rfl gate_t (fun hC => oc_move (x := .val _) rfl rfl) (fun hC => ⟨(by first | rfl | exact hC | (simp only [Bool.and_eq_true] at hC; first | exact hC.1 | exact hC.1.1 | exact hC.2) | simp_all), trivial⟩) trivial ?_
      refine ch_g (R := []) rfl rfl rfl gate_t (fun hC => oc_binZ rfl rfl rfl rfl) (fun hC => ⟨(by first | rfl | exact hC | (simp only [Bool.and_eq_true] at hC; first | exact hC.1 | exact hC.1.1 | exact hC.2) | simp_all), (by first | rfl | exact hC | (simp only [Bool.and_eq_true] at hC; first | exact hC.1 | exact hC.1.1 | exact hC.2) | simp_all), trivial⟩) trivial ?_
      refine ch_v (R := []) rfl rfl (oc_and rfl rfl rfl rfl (by first | exact fun h => h | simp_all)) trivial ?_
      refine ch_v (R := []) rfl rfl (oc_move (x := .val _) rfl rfl) trivial ?_
      refine ch_g (R := []) rfl rfl rfl gate_t (fun hC => oc_move (x := .val _) rfl rfl) (fun hC => ⟨(by first | rfl | exact hC | (simp only [Bool.and_eq_true] at hC; first | exact hC.1 | exact hC.1.1 | exact hC.2) | simp_all), trivial⟩) trivial ?_
      refine ch_g (R := []) rfl rfl rfl gate_t (fun hC => oc_binZ rfl rfl rfl rfl) (fun hC => ⟨(by first | rfl | exact hC | (simp only [Bool.and_eq_true] at hC; first | exact hC.1 | exact hC.1.1 | exact hC.2) | simp_all), (by first | rfl | exact hC | (simp only [Bool.and_eq_true] at hC; first | exact hC.1 | exact hC.1.1 | exact hC.2) | simp_all), trivial⟩) trivial ?_
      refine ch_v (R := []) rfl rfl (oc_and rfl rfl rfl rfl (by first | exact fun h => h | simp_all)) trivial ?_
      refine ch_v (R := []) rfl rfl (oc_move (x := .val _) rfl rfl) trivial ?_
      refine ch_g (R := []) rfl rfl rfl gate_t (fun hC => oc_call rfl (by kernel_rfl) (awake_pc) rfl (by simp only [PureL, Pure, and_self, bs_pure, bv_pure, pure_slI, pure_world, pure_tab, vu, implies_true]) (by simp only [PureL, Pure, and_self, bs_pure, bv_pure, pure_slI, pure_world, pure_tab, vu, implies_true])) (fun hC => ⟨(by first | rfl | exact hC | (simp only [Bool.and_eq_true] at hC; first | exact hC.1 | exact hC.1.1 | exact hC.2) | simp_all), trivial⟩) trivial ?_
      refine ch_v (R := []) rfl rfl (oc_and rfl rfl rfl rfl (by first | exact fun h => h | simp_all)) trivial ?_
      refine ch_v (R := []) rfl rfl (oc_assign (x := .val _) rfl rfl) trivial ?_
      refine ck_nil ?_
      refine aw_ret ?_
      exact ⟨.inl rfl, ResOk.tmp rfl (vb_eq (by
        rw [unp_back hW hr, unp_short hW, unp_long hW]
        simp [sameW_refl])), trivial⟩
set_option maxHeartbeats 800000 in
theorem imageApart_pc (t : TabP) (ht : t.wf) (v : WorldP) (hv : v.wf) (w : WorldP) (hw : w.wf) : PC Try.prog 5 [tabAv t, worldAv v, worldAv w] (vb true) := by
  refine FC.body 4 37 Try.func5 rfl (by kernel_rfl) ?_
  refine aw_seq ?_
  refine aw_text rfl ?_
  refine ch_v (R := []) rfl rfl (oc_box (x := .agg _) rfl rfl) trivial ?_
  refine ch_v (R := []) rfl rfl (oc_box (x := .agg _) rfl rfl) trivial ?_
  refine ch_v (R := []) rfl rfl (oc_box (x := .agg _) rfl rfl) trivial ?_
  refine ch_v (R := []) rfl rfl (oc_assign (x := .val _) rfl rfl) trivial ?_
  refine ck_nil ?_
  refine aw_seq ?_
  refine aw_seq ?_
  refine aw_text rfl ?_
  refine ch_v (R := []) rfl rfl (oc_load_row rfl rfl (by kernel_rfl) (by kernel_rfl) rfl) trivial ?_
  refine ch_v (R := []) rfl rfl (oc_call rfl (by kernel_rfl) (rfits_pc t ht) rfl (by simp only [PureL, Pure, and_self, bs_pure, bv_pure, pure_slI, pure_world, pure_tab, vu, implies_true]) (by simp only [PureL, Pure, and_self, bs_pure, bv_pure, pure_slI, pure_world, pure_tab, vu, implies_true])) trivial ?_
  refine ch_v (R := []) rfl rfl (oc_not rfl rfl) trivial ?_
  refine ch_v (R := []) rfl rfl (oc_move (x := .val _) rfl rfl) trivial ?_
  refine ch_g (R := []) rfl rfl rfl gate_f (fun hC => oc_load_row rfl rfl (by kernel_rfl) (by kernel_rfl) rfl) (fun hC => ⟨(by first | rfl | exact hC | (simp only [Bool.and_eq_true] at hC; first | exact hC.1 | exact hC.1.1 | exact hC.2) | simp_all), trivial⟩) trivial ?_
  refine ch_g (R := []) rfl rfl rfl gate_f (fun hC => oc_load_row rfl rfl (by kernel_rfl) (by kernel_rfl) rfl) (fun hC => ⟨(by first | rfl | exact hC | (simp only [Bool.and_eq_true] at hC; first | exact hC.1 | exact hC.1.1 | exact hC.2) | simp_all), trivial⟩) trivial ?_
  refine ch_g (R := []) rfl rfl rfl gate_f (fun hC => by
        have hF := fits_facts (t := t) (by rw [fits_eq]; simpa using hC)
        exact oc_call rfl (by kernel_rfl) (rright_pc t hF v) rfl (by simp only [PureL, Pure, and_self, bs_pure, bv_pure, pure_slI, pure_world, pure_tab, vu, implies_true]) (by simp only [PureL, Pure, and_self, bs_pure, bv_pure, pure_slI, pure_world, pure_tab, vu, implies_true])) (fun hC => ⟨(by first | rfl | exact hC | (simp only [Bool.and_eq_true] at hC; first | exact hC.1 | exact hC.1.1 | exact hC.2) | simp_all), (by first | rfl | exact hC | (simp only [Bool.and_eq_true] at hC; first | exact hC.1 | exact hC.1.1 | exact hC.2) | simp_all), (by first | rfl | exact hC | (simp only [Bool.and_eq_true] at hC; first | exact hC.1 | exact hC.1.1 | exact hC.2) | simp_all), trivial⟩) trivial ?_
  refine ch_g (R := []) rfl rfl rfl gate_f (fun hC => oc_not rfl rfl) (fun hC => ⟨(by first | rfl | exact hC | (simp only [Bool.and_eq_true] at hC; first | exact hC.1 | exact hC.1.1 | exact hC.2) | simp_all), trivial⟩) trivial ?_
  refine ch_v (R := []) rfl rfl (oc_or rfl rfl rfl (by first | exact fun h => h | simp_all)) trivial ?_
  refine ch_v (R := []) rfl rfl (oc_move (x := .val _) rfl rfl) trivial ?_
  refine ch_g (R := []) rfl rfl rfl gate_f (fun hC => oc_load_row rfl rfl (by kernel_rfl) (by kernel_rfl) rfl) (fun hC => ⟨(by first | rfl | exact hC | (simp only [Bool.and_eq_true] at hC; first | exact hC.1 | exact hC.1.1 | exact hC.2) | simp_all), trivial⟩) trivial ?_
  refine ch_g (R := []) rfl rfl rfl gate_f (fun hC => oc_load_row rfl rfl (by kernel_rfl) (by kernel_rfl) rfl) (fun hC => ⟨(by first | rfl | exact hC | (simp only [Bool.and_eq_true] at hC; first | exact hC.1 | exact hC.1.1 | exact hC.2) | simp_all), trivial⟩) trivial ?_
  refine ch_g (R := []) rfl rfl rfl gate_f (fun hC => by
        have hF := fits_facts (t := t) (by rw [fits_eq]; simp at hC; exact hC.1)
        exact oc_call rfl (by kernel_rfl) (rright_pc t hF w) rfl (by simp only [PureL, Pure, and_self, bs_pure, bv_pure, pure_slI, pure_world, pure_tab, vu, implies_true]) (by simp only [PureL, Pure, and_self, bs_pure, bv_pure, pure_slI, pure_world, pure_tab, vu, implies_true])) (fun hC => ⟨(by first | rfl | exact hC | (simp only [Bool.and_eq_true] at hC; first | exact hC.1 | exact hC.1.1 | exact hC.2) | simp_all), (by first | rfl | exact hC | (simp only [Bool.and_eq_true] at hC; first | exact hC.1 | exact hC.1.1 | exact hC.2) | simp_all), (by first | rfl | exact hC | (simp only [Bool.and_eq_true] at hC; first | exact hC.1 | exact hC.1.1 | exact hC.2) | simp_all), trivial⟩) trivial ?_
  refine ch_g (R := []) rfl rfl rfl gate_f (fun hC => oc_not rfl rfl) (fun hC => ⟨(by first | rfl | exact hC | (simp only [Bool.and_eq_true] at hC; first | exact hC.1 | exact hC.1.1 | exact hC.2) | simp_all), trivial⟩) trivial ?_
  refine ch_v (R := []) rfl rfl (oc_or rfl rfl rfl (by first | exact fun h => h | simp_all)) trivial ?_
  refine ck_nil ?_
  refine aw_cond rfl (fun hb => ?_) (fun hb => ?_)
  · refine aw_seq ?_
    refine aw_text rfl ?_
    refine ch_v (R := []) rfl rfl (oc_call rfl (by kernel_rfl) (awake_pc) rfl (by simp only [PureL, Pure, and_self, bs_pure, bv_pure, pure_slI, pure_world, pure_tab, vu, implies_true]) (by simp only [PureL, Pure, and_self, bs_pure, bv_pure, pure_slI, pure_world, pure_tab, vu, implies_true])) trivial ?_
    refine ch_v (R := []) rfl rfl (oc_assign (x := .val _) rfl rfl) trivial ?_
    refine ck_nil ?_
    refine aw_ret ?_
    exact ⟨.inl rfl, ResOk.tmp rfl rfl, trivial⟩
  · have hq := hb
    simp only [Bool.or_eq_false_iff, Bool.not_eq_false'] at hq
    have hF := fits_facts (t := t) (by rw [fits_eq]; exact hq.1.1)
    have hr1 : rightB t v = true := by rw [right_eq hF]; exact hq.1.2
    have hr2 : rightB t w = true := by rw [right_eq hF]; exact hq.2
    have hV := right_wr hF hv.seed hr1
    have hW := right_wr hF hw.seed hr2
    refine aw_skip ?_
    refine aw_seq ?_
    refine aw_draw mixed ?_
    refine ch_v (R := []) rfl rfl (oc_load_row rfl rfl (by kernel_rfl) (by kernel_rfl) rfl) trivial ?_
    refine ch_v (R := []) rfl rfl (oc_call rfl (by kernel_rfl) (pack_pc v (wr_small hV) hv.seed) rfl (by simp only [PureL, Pure, and_self, bs_pure, bv_pure, pure_slI, pure_world, pure_tab, vu, implies_true]) (by simp only [PureL, Pure, and_self, bs_pure, bv_pure, pure_slI, pure_world, pure_tab, vu, implies_true])) trivial ?_
    refine ch_v (R := []) rfl rfl (oc_str (packP v) rfl rfl (by kernel_rfl)) trivial ?_
    refine ch_v (R := []) rfl rfl (oc_load_row rfl rfl (by kernel_rfl) (by kernel_rfl) rfl) trivial ?_
    refine ch_v (R := []) rfl rfl (oc_call rfl (by kernel_rfl) (pack_pc w (wr_small hW) hw.seed) rfl (by simp only [PureL, Pure, and_self, bs_pure, bv_pure, pure_slI, pure_world, pure_tab, vu, implies_true]) (by simp only [PureL, Pure, and_self, bs_pure, bv_pure, pure_slI, pure_world, pure_tab, vu, implies_true])) trivial ?_
    refine ch_v (R := []) rfl rfl (oc_str (packP w) rfl rfl (by kernel_rfl)) trivial ?_
    refine ch_v (R := []) rfl rfl (oc_str_eq rfl rfl rfl) trivial ?_
    refine ch_v (R := []) rfl rfl (oc_load_row rfl rfl (by kernel_rfl) (by kernel_rfl) rfl) trivial ?_
    refine ch_v (R := []) rfl rfl (oc_load_row rfl rfl (by kernel_rfl) (by kernel_rfl) rfl) trivial ?_
    refine ch_v (R := []) rfl rfl (oc_call rfl (by kernel_rfl) (rsame_pc _ _) rfl (by simp only [PureL, Pure, and_self, bs_pure, bv_pure, pure_slI, pure_world, pure_tab, vu, implies_true]) (by simp only [PureL, Pure, and_self, bs_pure, bv_pure, pure_slI, pure_world, pure_tab, vu, implies_true])) trivial ?_
    refine ch_v (R := []) rfl rfl (oc_binB_eq rfl rfl rfl (by kernel_rfl)) trivial ?_
    refine ch_v (R := []) rfl rfl (oc_move (x := .val _) rfl rfl) trivial ?_
    refine ch_g (R := []) rfl rfl rfl gate_t (fun hC => oc_call rfl (by kernel_rfl) (awake_pc) rfl (by simp only [PureL, Pure, and_self, bs_pure, bv_pure, pure_slI, pure_world, pure_tab, vu, implies_true]) (by simp only [PureL, Pure, and_self, bs_pure, bv_pure, pure_slI, pure_world, pure_tab, vu, implies_true])) (fun hC => ⟨(by first | rfl | exact hC | (simp only [Bool.and_eq_true] at hC; first | exact hC.1 | exact hC.1.1 | exact hC.2) | simp_all), trivial⟩) trivial ?_
    refine ch_v (R := []) rfl rfl (oc_and rfl rfl rfl rfl (by first | exact fun h => h | simp_all)) trivial ?_
    refine ch_v (R := []) rfl rfl (oc_assign (x := .val _) rfl rfl) trivial ?_
    refine ck_nil ⟨by kernel_rfl, ?_⟩
    refine aw_ret ?_
    exact ⟨.inl rfl, ResOk.tmp rfl (vb_eq (by
      rw [nums_beq (packP_byt _) (packP_byt _), Bool.and_true, beq_iff_eq, Bool.eq_iff_iff, beq_iff_eq, sameW_iff]
      exact ⟨pack_inj hV hW, fun h => by rw [h]⟩)), trivial⟩
end Go.Proofs.Ytjloemlnejndmaa
