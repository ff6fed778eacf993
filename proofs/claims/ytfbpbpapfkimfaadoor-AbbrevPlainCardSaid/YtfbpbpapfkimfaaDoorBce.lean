/- Chapter 7: the examples, walked. -/
import Derived.Test.YtfbpbpapfkimfaaDoorBcd
import Derived.Test.YtfbpbpapfkimfaaDoorProg
import Derived.KernelRfl
namespace Go.Proofs.YtfbpbpapfkimfaaDoor
open Go.RowKit
set_option maxRecDepth 100000
set_option linter.unusedVariables false
set_option linter.unusedSimpArgs false
theorem grows_mono' {P : Program} {o : Oper} {a : Act} {w : World} {K K' : Value → World → Prop} (h : grows P o a w K) (hk : ∀ v w', K v w' → K' v w') : grows P o a w K' := by
  unfold grows at h ⊢
  generalize (execOp a.eval o).run P w = r at *
  cases r with
  | ok n w' =>
    cases n <;> simp only [growUpon] at h ⊢
    case value u => exact hk _ _ h
    case skip => exact hk _ _ h
    case enter f args => exact h.mono fun e w'' ⟨v, he, hh⟩ => ⟨v, he, hk _ _ hh⟩
  | halt x w' => simp only [growUpon] at h
theorem OC.to {P : Program} {o : Oper} {ρ : Operand → Av} {R U : List (Nat × Hs)} {x y : Av} (h : OC P o ρ R x U) (hxy : ∀ E v, Rep E x v → Rep E y v) : OC P o ρ R y U := fun E a hG hp hR => grows_mono' (h E a hG hp hR) fun v w' ⟨E', h1, h2, h3, h4, h5⟩ => ⟨E', h1, h2, h3, hxy _ _ h4, h5⟩
theorem slS_of (l : List ByteArray) (E : Env) (v : Value) (h : Rep E (.sl 1 l.length (rowL (l.map vs))) v) : Rep E (slS l) v := rep_rows (fun E j hj v hv => by
  have e : rowL (l.map vs) j = vs (l.getD j ByteArray.empty) := by
    show (l.map vs).getD j .any = _
    rw [List.getD, List.getElem?_map, List.getD, List.getElem?_eq_getElem hj]
    rfl
  rwa [e] at hv) E v h
theorem pieces_of (l : List PieceP) (E : Env) (v : Value) (h : Rep E (.sl 2 l.length (rowL (l.map pieceAv))) v) : Rep E (piecesAv l) v := rep_rows (fun E j hj v hv => by
  have e : rowL (l.map pieceAv) j = pieceAv (l.getD j dPiece) := by
    show (l.map pieceAv).getD j .any = _
    rw [List.getD, List.getElem?_map, List.getD, List.getElem?_eq_getElem hj]
    rfl
  rwa [e] at hv) E v h
def exA : List ByteArray := [(⟨#[116, 104, 101, 32, 108, 97, 109, 112]⟩ : ByteArray), (⟨#[116, 104, 101, 32, 98, 111, 120]⟩ : ByteArray), (⟨#[116, 104, 101, 32, 107, 101, 121]⟩ : ByteArray)]
def exB : List ByteArray := [(⟨#[116, 104, 101, 32, 108, 97, 109, 112]⟩ : ByteArray), (⟨#[116, 104, 101, 32, 98, 111, 120]⟩ : ByteArray)]
def exT : ByteArray := (⟨#[116, 104, 101, 32]⟩ : ByteArray)
def exH : ByteArray := (⟨#[116, 104, 101, 32, 104, 97, 116]⟩ : ByteArray)
def exC : List PieceP := [(⟨#[]⟩, 1), ((⟨#[104, 97, 116]⟩ : ByteArray), 0)]
theorem exA_is : rchooseP exA 1 = [exT] := by kernel_rfl
theorem exB_is : rchooseP exB 1 = [] := by kernel_rfl
theorem exC_is : cutP exH [exT] = exC := by kernel_rfl
theorem exJ_is : joinP [exT] [((⟨#[]⟩ : ByteArray), (2 : Int))] = (⟨#[]⟩, 11) := by kernel_rfl
theorem exS_is : sameL [exT] [exT] = true := by kernel_rfl
theorem exP_is : sameP exC exC = true := by kernel_rfl
theorem exK_is : costP exC exC.length = 5 := by kernel_rfl
theorem exT_sz : ∀ k, ([exT].getD k ByteArray.empty).size ≤ 1000000 := fun k => by
  rcases k with _ | k
  · show exT.size ≤ _; decide
  · show (ByteArray.empty).size ≤ _; decide
theorem exA_pc : PC Tryd.prog 12 [slS exA, vi 1] (slS [exT]) := by
  have h : wt exA ≤ 10000 := by decide
  have := choose_pc exA h 1
  rwa [choose_alike h, exA_is] at this
theorem exB_pc : PC Tryd.prog 12 [slS exB, vi 1] (slS []) := by
  have h : wt exB ≤ 10000 := by decide
  have := choose_pc exB h 1
  rwa [choose_alike h, exB_is] at this
theorem exC_few : FewP exC := ⟨by decide, fun k => by
  rcases k with _ | _ | k
  · decide
  · decide
  · show (dPiece).1.size ≤ _; decide⟩
theorem exD_few : FewP [((⟨#[]⟩ : ByteArray), (2 : Int))] := ⟨by decide, fun k => by
  rcases k with _ | k
  · decide
  · show (dPiece).1.size ≤ _; decide⟩
theorem exC_pc : PC Tryd.prog 14 [vs exH, slS [exT]] (piecesAv exC) := by
  have := cut_pc exH [exT] (by decide) exT_sz (by decide)
  rwa [exC_is] at this
theorem exJ_pc : PC Tryd.prog 19 [piecesAv [((⟨#[]⟩ : ByteArray), (2 : Int))], slS [exT]] (.tup [vs ⟨#[]⟩, vi 11]) := by
  have := join_pc [((⟨#[]⟩ : ByteArray), (2 : Int))] exD_few [exT] exT_sz (by decide)
  rwa [exJ_is] at this
theorem exK_pc : PC Tryd.prog 17 [piecesAv exC, slS [exT]] (vi 5) := by
  have := pcost_pc exC exC_few [exT]
  rwa [exK_is] at this
theorem exS_pc : PC Tryd.prog 11 [slS [exT], slS [exT]] (vb true) := by
  have := sameL_pc [exT] [exT] (by decide)
  rwa [exS_is] at this
theorem exP_pc : PC Tryd.prog 15 [piecesAv exC, piecesAv exC] (vb true) := by
  have := sameP_pc exC exC (by decide)
  rwa [exP_is] at this
set_option maxHeartbeats 800000 in
theorem awake_pc  : PC Tryd.prog 10 [] (vb true) := by
  refine FC.body 6 42 Tryd.func10 rfl (by kernel_rfl) ?_
  refine aw_seq ?_
  refine aw_text rfl ?_
  refine ch_v (R := []) rfl rfl (oc_assign (x := .val _) rfl rfl) trivial ?_
  refine ck_nil ?_
  refine aw_seq ?_
  refine aw_text rfl ?_
  refine ch_v (R := []) rfl rfl (OC.to (oc_buildSlice (ps := [_, _, _]) (xs := [.val _, .val _, .val _]) (e := 9) (k := 1) (by_ := 16) (zs := [.string ⟨#[]⟩]) rfl (by kernel_rfl) (by kernel_rfl) rfl rfl rfl (by decide) (by decide)) (slS_of exA)) trivial ?_
  refine ch_v (R := []) rfl rfl (oc_call rfl (by kernel_rfl) (exA_pc) rfl (by simp only [PureL, Pure, and_self, pure_slI, pure_slS, rowAv, pieces_pure, implies_true]) (by simp only [PureL, Pure, and_self, pure_slI, pure_slS, rowAv, pieces_pure, implies_true])) trivial ?_
  refine ch_v (R := []) rfl rfl (oc_assign (x := .sl _ _ _) rfl rfl) trivial ?_
  refine ck_nil ?_
  refine aw_seq ?_
  refine aw_text rfl ?_
  refine ch_v (R := []) rfl rfl (oc_move (x := .sl _ _ _) rfl rfl) trivial ?_
  refine ch_v (R := []) rfl rfl (oc_call rfl (by kernel_rfl) (exC_pc) rfl (by simp only [PureL, Pure, and_self, pure_slI, pure_slS, rowAv, pieces_pure, implies_true]) (by simp only [PureL, Pure, and_self, pure_slI, pure_slS, rowAv, pieces_pure, implies_true])) trivial ?_
  refine ch_v (R := []) rfl rfl (oc_assign (x := .sl _ _ _) rfl rfl) trivial ?_
  refine ck_nil ?_
  refine aw_seq ?_
  refine aw_text rfl ?_
  refine ch_v (R := []) rfl rfl (oc_build (pl := [(0, 1), (1, 1)]) (zs := [.string ⟨#[]⟩, .int .i64 0]) (ds := [.val _, .val _]) rfl (by kernel_rfl) rfl (by kernel_rfl) (by first | rfl | decide) rfl) trivial ?_
  refine ch_v (R := []) rfl rfl (OC.to (oc_buildSlice (ps := [.tmp 10]) (xs := [.agg _]) (e := 39) (k := 2) (by_ := 24) (zs := [.string ⟨#[]⟩, .int .i64 0]) rfl (by kernel_rfl) (by kernel_rfl) rfl rfl rfl (by decide) (by decide)) (pieces_of [((⟨#[]⟩ : ByteArray), (2 : Int))])) trivial ?_
  refine ch_v (R := []) rfl rfl (oc_move (x := .sl _ _ _) rfl rfl) trivial ?_
  refine ch_v (R := []) rfl rfl (oc_call rfl (by kernel_rfl) (exJ_pc) rfl (by simp only [PureL, Pure, and_self, pure_slI, pure_slS, rowAv, pieces_pure, implies_true]) (by simp only [PureL, Pure, and_self, pure_slI, pure_slS, rowAv, pieces_pure, implies_true])) trivial ?_
  refine ch_v (R := []) rfl rfl (oc_move (x := .tup _) rfl rfl) trivial ?_
  refine ch_v (R := []) rfl rfl (oc_extract rfl rfl rfl) trivial ?_
  refine ch_v (R := []) rfl rfl (oc_extract rfl rfl rfl) trivial ?_
  refine ch_v (R := []) rfl rfl (oc_assign (x := .val _) rfl rfl) trivial ?_
  refine ch_v (R := []) rfl rfl (oc_assign (x := .val _) rfl rfl) trivial ?_
  refine ck_nil ?_
  refine aw_seq ?_
  refine aw_text rfl ?_
  refine ch_v (R := []) rfl rfl (oc_move (x := .sl _ _ _) rfl rfl) trivial ?_
  refine ch_v (R := []) rfl rfl (OC.to (oc_buildSlice (ps := [_]) (xs := [.val _]) (e := 9) (k := 1) (by_ := 16) (zs := [.string ⟨#[]⟩]) rfl (by kernel_rfl) (by kernel_rfl) rfl rfl rfl (by decide) (by decide)) (slS_of [exT])) trivial ?_
  refine ch_v (R := []) rfl rfl (oc_call rfl (by kernel_rfl) (exS_pc) rfl (by simp only [PureL, Pure, and_self, pure_slI, pure_slS, rowAv, pieces_pure, implies_true]) (by simp only [PureL, Pure, and_self, pure_slI, pure_slS, rowAv, pieces_pure, implies_true])) trivial ?_
  refine ch_v (R := []) rfl rfl (oc_move (x := .val _) rfl rfl) trivial ?_
  refine ch_g (R := []) rfl rfl rfl gate_t (fun hC => oc_move (x := .sl _ _ _) rfl rfl) (fun hC => ⟨(by first | rfl | exact hC | (simp only [Bool.and_eq_true] at hC; first | exact hC.1 | exact hC.1.1 | exact hC.2) | simp_all), trivial⟩) trivial ?_
  refine ch_g (R := []) rfl rfl rfl gate_t (fun hC => oc_build (pl := [(0, 1), (1, 1)]) (zs := [.string ⟨#[]⟩, .int .i64 0]) (ds := [.val _, .val _]) rfl (by kernel_rfl) rfl (by kernel_rfl) (by first | rfl | decide) rfl) (fun hC => ⟨(by first | rfl | exact hC | (simp only [Bool.and_eq_true] at hC; first | exact hC.1 | exact hC.1.1 | exact hC.2) | simp_all), trivial⟩) trivial ?_
  refine ch_g (R := []) rfl rfl rfl gate_t (fun hC => oc_build (pl := [(0, 1), (1, 1)]) (zs := [.string ⟨#[]⟩, .int .i64 0]) (ds := [.val _, .val _]) rfl (by kernel_rfl) rfl (by kernel_rfl) (by first | rfl | decide) rfl) (fun hC => ⟨(by first | rfl | exact hC | (simp only [Bool.and_eq_true] at hC; first | exact hC.1 | exact hC.1.1 | exact hC.2) | simp_all), trivial⟩) trivial ?_
  refine ch_g (R := []) rfl rfl rfl gate_t (fun hC => OC.to (oc_buildSlice (ps := [.tmp 21, .tmp 22]) (xs := [.agg _, .agg _]) (e := 39) (k := 2) (by_ := 24) (zs := [.string ⟨#[]⟩, .int .i64 0]) rfl (by kernel_rfl) (by kernel_rfl) rfl rfl rfl (by decide) (by decide)) (pieces_of exC)) (fun hC => ⟨(by first | rfl | exact hC | (simp only [Bool.and_eq_true] at hC; first | exact hC.1 | exact hC.1.1 | exact hC.2) | simp_all), (by first | rfl | exact hC | (simp only [Bool.and_eq_true] at hC; first | exact hC.1 | exact hC.1.1 | exact hC.2) | simp_all), trivial⟩) trivial ?_
  refine ch_g (R := []) rfl rfl rfl gate_t (fun hC => oc_call rfl (by kernel_rfl) (exP_pc) rfl (by simp only [PureL, Pure, and_self, pure_slI, pure_slS, rowAv, pieces_pure, implies_true]) (by simp only [PureL, Pure, and_self, pure_slI, pure_slS, rowAv, pieces_pure, implies_true])) (fun hC => ⟨(by first | rfl | exact hC | (simp only [Bool.and_eq_true] at hC; first | exact hC.1 | exact hC.1.1 | exact hC.2) | simp_all), (by first | rfl | exact hC | (simp only [Bool.and_eq_true] at hC; first | exact hC.1 | exact hC.1.1 | exact hC.2) | simp_all), (by first | rfl | exact hC | (simp only [Bool.and_eq_true] at hC; first | exact hC.1 | exact hC.1.1 | exact hC.2) | simp_all), trivial⟩) trivial ?_
  refine ch_v (R := []) rfl rfl (oc_and rfl rfl rfl rfl (by first | exact fun h => h | simp_all)) trivial ?_
  refine ch_v (R := []) rfl rfl (oc_move (x := .val _) rfl rfl) trivial ?_
  refine ch_g (R := []) rfl rfl rfl gate_t (fun hC => oc_move (x := .sl _ _ _) rfl rfl) (fun hC => ⟨(by first | rfl | exact hC | (simp only [Bool.and_eq_true] at hC; first | exact hC.1 | exact hC.1.1 | exact hC.2) | simp_all), trivial⟩) trivial ?_
  refine ch_g (R := []) rfl rfl rfl gate_t (fun hC => oc_move (x := .sl _ _ _) rfl rfl) (fun hC => ⟨(by first | rfl | exact hC | (simp only [Bool.and_eq_true] at hC; first | exact hC.1 | exact hC.1.1 | exact hC.2) | simp_all), trivial⟩) trivial ?_
  refine ch_g (R := []) rfl rfl rfl gate_t (fun hC => oc_call rfl (by kernel_rfl) (exK_pc) rfl (by simp only [PureL, Pure, and_self, pure_slI, pure_slS, rowAv, pieces_pure, implies_true]) (by simp only [PureL, Pure, and_self, pure_slI, pure_slS, rowAv, pieces_pure, implies_true])) (fun hC => ⟨(by first | rfl | exact hC | (simp only [Bool.and_eq_true] at hC; first | exact hC.1 | exact hC.1.1 | exact hC.2) | simp_all), (by first | rfl | exact hC | (simp only [Bool.and_eq_true] at hC; first | exact hC.1 | exact hC.1.1 | exact hC.2) | simp_all), (by first | rfl | exact hC | (simp only [Bool.and_eq_true] at hC; first | exact hC.1 | exact hC.1.1 | exact hC.2) | simp_all), trivial⟩) trivial ?_
  refine ch_g (R := []) rfl rfl rfl gate_t (fun hC => oc_binZ rfl rfl rfl rfl) (fun hC => ⟨(by first | rfl | exact hC | (simp only [Bool.and_eq_true] at hC; first | exact hC.1 | exact hC.1.1 | exact hC.2) | simp_all), (by first | rfl | exact hC | (simp only [Bool.and_eq_true] at hC; first | exact hC.1 | exact hC.1.1 | exact hC.2) | simp_all), trivial⟩) trivial ?_
  refine ch_v (R := []) rfl rfl (oc_and rfl rfl rfl rfl (by first | exact fun h => h | simp_all)) trivial ?_
  refine ch_v (R := []) rfl rfl (oc_move (x := .val _) rfl rfl) trivial ?_
  refine ch_g (R := []) rfl rfl rfl gate_t (fun hC => oc_move (x := .val _) rfl rfl) (fun hC => ⟨(by first | rfl | exact hC | (simp only [Bool.and_eq_true] at hC; first | exact hC.1 | exact hC.1.1 | exact hC.2) | simp_all), trivial⟩) trivial ?_
  refine ch_g (R := []) rfl rfl rfl gate_t (fun hC => oc_binZ rfl rfl rfl rfl) (fun hC => ⟨(by first | rfl | exact hC | (simp only [Bool.and_eq_true] at hC; first | exact hC.1 | exact hC.1.1 | exact hC.2) | simp_all), (by first | rfl | exact hC | (simp only [Bool.and_eq_true] at hC; first | exact hC.1 | exact hC.1.1 | exact hC.2) | simp_all), trivial⟩) trivial ?_
  refine ch_v (R := []) rfl rfl (oc_and rfl rfl rfl rfl (by first | exact fun h => h | simp_all)) trivial ?_
  refine ch_v (R := []) rfl rfl (oc_move (x := .val _) rfl rfl) trivial ?_
  refine ch_g (R := []) rfl rfl rfl gate_t (fun hC => OC.to (oc_buildSlice (ps := [_, _]) (xs := [.val _, .val _]) (e := 9) (k := 1) (by_ := 16) (zs := [.string ⟨#[]⟩]) rfl (by kernel_rfl) (by kernel_rfl) rfl rfl rfl (by decide) (by decide)) (slS_of exB)) (fun hC => ⟨(by first | rfl | exact hC | (simp only [Bool.and_eq_true] at hC; first | exact hC.1 | exact hC.1.1 | exact hC.2) | simp_all), (by first | rfl | exact hC | (simp only [Bool.and_eq_true] at hC; first | exact hC.1 | exact hC.1.1 | exact hC.2) | simp_all), trivial⟩) trivial ?_
  refine ch_g (R := []) rfl rfl rfl gate_t (fun hC => oc_call rfl (by kernel_rfl) (exB_pc) rfl (by simp only [PureL, Pure, and_self, pure_slI, pure_slS, rowAv, pieces_pure, implies_true]) (by simp only [PureL, Pure, and_self, pure_slI, pure_slS, rowAv, pieces_pure, implies_true])) (fun hC => ⟨(by first | rfl | exact hC | (simp only [Bool.and_eq_true] at hC; first | exact hC.1 | exact hC.1.1 | exact hC.2) | simp_all), (by first | rfl | exact hC | (simp only [Bool.and_eq_true] at hC; first | exact hC.1 | exact hC.1.1 | exact hC.2) | simp_all), (by first | rfl | exact hC | (simp only [Bool.and_eq_true] at hC; first | exact hC.1 | exact hC.1.1 | exact hC.2) | simp_all), trivial⟩) trivial ?_
  refine ch_g (R := []) rfl rfl rfl gate_t (fun hC => oc_len rfl rfl (by kernel_rfl)) (fun hC => ⟨(by first | rfl | exact hC | (simp only [Bool.and_eq_true] at hC; first | exact hC.1 | exact hC.1.1 | exact hC.2) | simp_all), trivial⟩) trivial ?_
  refine ch_g (R := []) rfl rfl rfl gate_t (fun hC => oc_binZ rfl rfl rfl rfl) (fun hC => ⟨(by first | rfl | exact hC | (simp only [Bool.and_eq_true] at hC; first | exact hC.1 | exact hC.1.1 | exact hC.2) | simp_all), (by first | rfl | exact hC | (simp only [Bool.and_eq_true] at hC; first | exact hC.1 | exact hC.1.1 | exact hC.2) | simp_all), trivial⟩) trivial ?_
  refine ch_v (R := []) rfl rfl (oc_and rfl rfl rfl rfl (by first | exact fun h => h | simp_all)) trivial ?_
  refine ch_v (R := []) rfl rfl (oc_assign (x := .val _) rfl rfl) trivial ?_
  refine ck_nil ?_
  refine aw_ret ?_
  exact ⟨.inl rfl, ResOk.tmp rfl rfl, trivial⟩
end Go.Proofs.YtfbpbpapfkimfaaDoor
