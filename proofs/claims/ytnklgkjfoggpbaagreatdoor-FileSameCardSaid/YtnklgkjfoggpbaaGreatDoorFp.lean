/- Parts of the proof of a law of this seat: rules and contracts; no conditions. -/
import Derived.Test.YtnklgkjfoggpbaaGreatDoorLt
import Derived.Test.YtnklgkjfoggpbaaGreatDoorFs
import Derived.Test.YtnklgkjfoggpbaaGreatDoorFm
import Derived.Test.YtnklgkjfoggpbaaGreatDoorVyk
import Derived.Test.YtnklgkjfoggpbaaGreatDoorProg
import Derived.KernelRfl
import Derived.Test.YtnklgkjfoggpbaaGreatDoorWireSpec
set_option maxHeartbeats 6400000
set_option maxRecDepth 100000
set_option linter.unusedVariables false
set_option linter.unusedSimpArgs false
namespace Go.Proofs.YtnklgkjfoggpbaaGreatDoor
open Go.RowKit
theorem ab6 (n:Int):PC Tryz.prog 176 [vi n] (vb (decide (n∈uE))):=by
 refine FC.body 2 6 Tryz.func176 rfl (by kernel_rfl) ?_
 refine sq ?_
 refine Z1 aB ?_
 refine cn ?_
 refine sq ?_
 refine Z1 mo ?_
 refine Z1 (OC.to (fO (ps:=[_,_,_,_,_,_,_,_,_,_,_,_,_,_,_,_,_,_,_,_]) (xs:=[.val _,.val _,.val _,.val _,.val _,.val _,.val _,.val _,.val _,.val _,.val _,.val _,.val _,.val _,.val _,.val _,.val _,.val _,.val _,.val _]) (e:=3) (k:=1) (by_:=8) (zs:=[.int .i64 0]) rfl (by kernel_rfl) (by kernel_rfl) rfl rfl rfl (by decide) (by decide)) (aAB uE)) ?_
 refine Z1 (ca (aDJ n uE (by decide))) ?_
 refine Z1 aB ?_
 refine cn ?_
 refine aP ?_
 exact ⟨.inl rfl,aF.tmp rfl rfl,trivial⟩
theorem ab7 (n:Int):PC Tryz.prog 177 [vi n] (vi (vY n)):=by
 refine FC.body 2 13 Tryz.func177 rfl (by kernel_rfl) ?_
 refine sq ?_
 refine Z1 aB ?_
 refine cn ?_
 refine aD ?_
 refine aU ?_
 refine sq ?_
 refine Z1 mo ?_
 refine Z1 bz ?_
 refine Z1 aB ?_
 refine cn ?_
 refine cd (fun hb=>?_) fun hb=>?_
 ·have h1:n=0:=by simpa using hb
  refine sq ?_
  refine Z1 aB ?_
  refine cn ?_
  refine aP ?_
  exact ⟨.inl rfl,aF.tmp rfl (by unfold vY;rw [if_pos h1];rfl),trivial⟩
 ·have h1:¬ n=0:=by simpa using hb
  refine sq ?_
  refine Z1 mo ?_
  refine Z1 bz ?_
  refine Z1 mo ?_
  refine Z4 (fun hC=>mo) ?_
  refine Z4 (fun hC=>bz) ?_
  refine Z1 an ?_
  refine Z1 aB ?_
  refine cn ?_
  refine cd (fun hb=>?_) fun hb=>?_
  ·have h2:-128≤n∧n≤127:=by simpa using hb
   refine sq ?_
   refine Z1 aB ?_
   refine cn ?_
   refine aP ?_
   exact ⟨.inl rfl,aF.tmp rfl (by unfold vY;rw [if_neg h1,if_pos h2];rfl),trivial⟩
  ·have h2:¬ (-128≤n∧n≤127):=by simpa using hb
   refine aQ ?_
   refine sq ?_
   refine Z1 aB ?_
   refine cn ?_
   refine aP ?_
   exact ⟨.inl rfl,aF.tmp rfl (by unfold vY;rw [if_neg h1,if_neg h2];rfl),trivial⟩
theorem aIC (x:bK):PC Tryz.prog 143 [iV x] (vb (nL x)):=by
 refine FC.body 2 11 Tryz.func143 rfl (by kernel_rfl) ?_
 refine sq ?_
 refine Z1 bx ?_
 refine Z1 aB ?_
 refine cn ?_
 refine sq ?_
 refine Z1 (fa 0) ?_
 refine Z1 ld ?_
 refine Z1 bz ?_
 refine Z1 mo ?_
 refine Z4 (fun hC=>fa 0) ?_
 refine Z4 (fun hC=>ld) ?_
 refine Z4 (fun hC=>bz) ?_
 refine Z1 cC ?_
 refine Z1 aB ?_
 refine cn ?_
 refine aP ?_
 exact ⟨.inl rfl,aF.tmp rfl rfl,trivial⟩
theorem ab8 (xs:List Int)(hby:dF xs)(a:Nat)(hl:xs.length≤1000000000):PC Tryz.prog 142 [bs xs,vi (a:Int)] (.tup [iV (cO xs a).1,vi ((cO xs a).2.1:Int),vi ((cO xs a).2.2:Int)]):=by
 refine FC.body 1 106 Tryz.func142 rfl (by kernel_rfl) ?_
 refine sq ?_
 refine Z2 (al 0 [.int .i64 0,.int .i64 0]) ?_
 refine Z1 aB ?_
 refine Z1 aB ?_
 refine cn ?_
 refine aD ?_
 refine sq ?_
 refine Z1 mo ?_
 refine Z1 mo ?_
 refine Z1 ln ?_
 refine Z1 (ca (oS (a:Int) 0 xs.length)) ?_
 refine Z1 nt ?_
 refine cn ?_
 refine cd (fun hb=>?_) fun hb=>?_
 ·have h0:¬ a<xs.length:=by
   intro h
   simp [mG,h] at hb
  refine sq ?_
  refine Z1 (bd [(0,1),(1,1)] [.int .i64 0,.int .i64 0] [.val _,.val _]) ?_
  refine bW [_,_] ?_
  refine Z1 aB ?_
  refine Z1 aB ?_
  refine cn ?_
  refine aP ?_
  exact ⟨.inl rfl,by rw [show cO xs a=_ from by unfold cO;rw [if_pos h0]];exact aF.three rfl (aT.row rfl rfl (by kernel_rfl) (by kernel_rfl) (Nat.le_of_ble_eq_true rfl)) (aT.tmp rfl) (aT.tmp rfl),trivial⟩
 ·have h0:a<xs.length:=by
   simp [mG] at hb
   omega
  have hn4:=aPI xs a
  refine aQ ?_
  refine aD ?_
  refine dw ?_
  refine Z1 mo ?_
  refine Z1 mo ?_
  refine Z1 ia ?_
  refine Z1 ld ?_
  refine Z1 (OC.cast (mH (k:=.u8) .i64 rfl rfl (by kernel_rfl) (by kernel_rfl)) (aH2 hby a)) ?_
  refine Z1 (OC.cast (aID rfl rfl rfl (by omega)) (aa3 hby a)) ?_
  refine Z1 mo ?_
  refine Z1 mo ?_
  refine Z1 ia ?_
  refine Z1 ld ?_
  refine Z1 (OC.cast (mH (k:=.u8) .i64 rfl rfl (by kernel_rfl) (by kernel_rfl)) (aH2 hby a)) ?_
  refine Z1 (OC.cast (aDK rfl rfl rfl (by omega)) (aa4 hby a)) ?_
  refine Z1 aB ?_
  refine Z1 aB ?_
  refine cn (dn ?_)
  refine aD ?_
  refine aU ?_
  refine sq ?_
  refine Z1 mo ?_
  refine Z1 (ca (aPW (iI xs a))) ?_
  refine Z1 nt ?_
  refine Z1 mo ?_
  refine Z4 (fun hC=>mo) ?_
  refine Z4 (fun hC=>bz) ?_
  refine Z1 cC ?_
  refine Z1 mo ?_
  refine Z4 (fun hC=>mo) ?_
  refine Z4 (fun hC=>bz) ?_
  refine Z1 cC ?_
  refine Z1 mo ?_
  refine Z4 (fun hC=>mo) ?_
  refine Z4 (fun hC=>bz) ?_
  refine Z4 (fun hC=>mo) ?_
  refine Z4 (fun hC=>mo) ?_
  refine Z4 (fun hC=>ca (ab6 (iI xs a))) ?_
  refine Z4 (fun hC=>nt) ?_
  refine Z5 ?_
  refine Z1 cC ?_
  refine Z1 aB ?_
  refine cn ?_
  refine cd (fun hb=>?_) fun hb=>?_
  ·have h1:((¬ (1≤iI xs a∧iI xs a≤38)∨iI xs a=38)∨fF xs a=3)∨0<fF xs a∧iI xs a∉uE:=by
    by_cases hM:iI xs a∈uE<;>simp only [hM,Bool.or_eq_true,Bool.and_eq_true,Bool.not_eq_true',Bool.and_eq_false_iff,Bool.or_eq_false_iff,Bool.not_eq_false',decide_eq_true_eq,decide_eq_false_iff_not,beq_iff_eq,beq_eq_false_iff_ne,ne_eq,decide_true,decide_false,Bool.not_true,Bool.not_false,Bool.and_false,Bool.and_true,not_true_eq_false,not_false_eq_true,and_false,and_true,or_false,Bool.false_eq_true] at hb ⊢<;>omega
   refine sq ?_
   refine Z1 (bd [(0,1),(1,1)] [.int .i64 0,.int .i64 0] [.val _,.val _]) ?_
   refine bW [_,_] ?_
   refine Z1 aB ?_
   refine Z1 aB ?_
   refine cn ?_
   refine aP ?_
   exact ⟨.inl rfl,by rw [show cO xs a=_ from by unfold cO;rw [if_neg (Classical.not_not.2 h0),if_pos h1]];exact aF.three rfl (aT.row rfl rfl (by kernel_rfl) (by kernel_rfl) (Nat.le_of_ble_eq_true rfl)) (aT.tmp rfl) (aT.tmp rfl),trivial⟩
  ·have h1:¬ (((¬ (1≤iI xs a∧iI xs a≤38)∨iI xs a=38)∨fF xs a=3)∨0<fF xs a∧iI xs a∉uE):=by
    by_cases hM:iI xs a∈uE<;>simp only [hM,Bool.or_eq_true,Bool.and_eq_true,Bool.not_eq_true',Bool.and_eq_false_iff,Bool.or_eq_false_iff,Bool.not_eq_false',decide_eq_true_eq,decide_eq_false_iff_not,beq_iff_eq,beq_eq_false_iff_ne,ne_eq,decide_true,decide_false,Bool.not_true,Bool.not_false,Bool.and_false,Bool.and_true,not_true_eq_false,not_false_eq_true,and_false,and_true,or_false,Bool.false_eq_true] at hb ⊢<;>omega
   refine sq ?_
   refine Z1 mo ?_
   refine Z1 ln ?_
   refine Z1 mo ?_
   refine Z1 iP ?_
   refine Z1 iP ?_
   refine Z1 mo ?_
   refine Z1 bz ?_
   refine Z1 aB ?_
   refine cn ?_
   refine cd (fun hb=>?_) fun hb=>?_
   ·have h2:xs.length<a+1+fF xs a:=by have h0:=of_decide_eq_true hb;omega
    refine sq ?_
    refine Z1 (bd [(0,1),(1,1)] [.int .i64 0,.int .i64 0] [.val _,.val _]) ?_
    refine bW [_,_] ?_
    refine Z1 aB ?_
    refine Z1 aB ?_
    refine cn ?_
    refine aP ?_
    exact ⟨.inl rfl,by rw [show cO xs a=_ from by unfold cO;rw [if_neg (Classical.not_not.2 h0),if_neg h1,if_pos h2]];exact aF.three rfl (aT.row rfl rfl (by kernel_rfl) (by kernel_rfl) (Nat.le_of_ble_eq_true rfl)) (aT.tmp rfl) (aT.tmp rfl),trivial⟩
   ·have h2:¬ xs.length<a+1+fF xs a:=by have h0:=of_decide_eq_false hb;omega
    refine aQ ?_
    refine sq ?_
    refine Z1 aB ?_
    refine cn ?_
    refine aD ?_
    refine sq ?_
    refine Z1 mo ?_
    refine Z1 mo ?_
    refine Z1 ba ?_
    refine Z1 mo ?_
    refine Z1 ba ?_
    refine Z1 mo ?_
    refine Z1 ba ?_
    refine Z1 (aC2 (e:=5) (by_:=1) (zs:=[.int .u8 0]) (a+1) (a+1+fF xs a) rfl rfl rfl rfl (by kernel_rfl) (by kernel_rfl) (by omega) (by omega)) ?_
    refine Z1 ln ?_
    refine Z1 mo ?_
    refine cn ?_
    refine aU ?_
    refine bM (ι:=Nat) (fun k=>⟨[(0,bs xs),(1,vi (a:Int)),(4,.own 0 0),(7,vi (iI xs a)),(8,vi ((fF xs a:Nat):Int)),(9,vi (nK xs a k)),(68,.sl 1 (a+1+fF xs a-(a+1)) fun j=>bv xs (j+(a+1))),(69,vi ((a+1+fF xs a-(a+1):Nat):Int)),(70,vi k)],[(0,.live 136 [vi 0,vi 0])]⟩) (fun k=>k≤fF xs a) (fun k=>fF xs a-k) 0 (Nat.zero_le _) (Le.sub (by repeat (first|trivial|refine ⟨.inr rfl,?_⟩|refine ⟨.inr (aR (by omega)),?_⟩)) (by repeat (first|trivial|refine ⟨rfl,?_⟩))) ?_
    intro k hI
    refine sq ?_
    refine Z1 bz ?_
    refine cn ?_
    refine aD ?_
    refine cd (fun hb=>?_) fun hb=>?_
    ·have hk:k<fF xs a:=by have h0:=of_decide_eq_true hb;omega
     have hk3:fF xs a≠3:=fun e=>h1 (.inl (.inr e))
     refine aQ ?_
     refine aD ?_
     refine aU ?_
     refine sq ?_
     refine Z1 mo ?_
     refine Z1 ia ?_
     refine Z1 ld ?_
     refine Z1 aB ?_
     refine Z1 aB ?_
     refine cn ?_
     refine sq ?_
     refine Z1 mo ?_
     refine Z1 bz ?_
     refine cn ?_
     refine cd (fun hb=>?_) fun hb=>?_
     ·have hk0:k=0:=by simp at hb;omega
      refine tx ?_
      refine Z1 mo ?_
      refine Z1 (mH (k:=.u8) .i8 rfl rfl (by kernel_rfl) (by kernel_rfl)) ?_
      refine Z1 (OC.cast (mH (k:=.i8) .i64 rfl rfl (by kernel_rfl) (by kernel_rfl)) (aa5 hby (k+(a+1)))) ?_
      refine Z1 aB ?_
      refine cn ?_
      refine tx ?_
      refine Z1 ba ?_
      refine Z1 mo ?_
      refine cn ?_
      exact ⟨k+1,by omega,by omega,Le.sub ⟨.inr rfl,.inr rfl,.inr rfl,.inr rfl,.inr rfl,.inr (by show _=vi (if k=0 then _ else _);rw [if_pos hk0];subst hk0;rfl),.inr rfl,.inr rfl,.inr (aR (by omega)),trivial⟩ ⟨rfl,trivial⟩⟩
     ·have hk0:¬ k=0:=by simp at hb;omega
      have hk1:k=1:=by omega
      have hbd:=(aPH hby a k (by omega)).2.2 hk1
      have hyb:=hby (k+(a+1))
      refine tx ?_
      refine Z1 mo ?_
      refine Z1 (OC.cast (aPX rfl rfl rfl (by omega)) (aa6 hbd)) ?_
      refine Z1 mo ?_
      refine Z1 (OC.cast (mH (k:=.u8) .i64 rfl rfl (by kernel_rfl) (by kernel_rfl)) (aH2 hby (k+(a+1)))) ?_
      refine Z1 (OC.cast (aDL rfl rfl rfl (fun _=>rfl) (fun _=>rfl)) (or8 hbd hyb)) ?_
      refine Z1 aB ?_
      refine cn ?_
      refine tx ?_
      refine Z1 ba ?_
      refine Z1 mo ?_
      refine cn ?_
      exact ⟨k+1,by omega,by omega,Le.sub ⟨.inr rfl,.inr rfl,.inr rfl,.inr rfl,.inr rfl,.inr (by show _=vi (if k=0 then _ else _);rw [if_neg hk0];rfl),.inr rfl,.inr rfl,.inr (aR (by omega)),trivial⟩ ⟨rfl,trivial⟩⟩
    ·have hk:k=fF xs a:=by have h0:=of_decide_eq_false hb;omega
     subst hk
     refine bU ?_
     refine aD ?_
     refine sq ?_
     refine Z1 mo ?_
     refine Z1 (ca (ab7 (nK xs a (fF xs a)))) ?_
     refine Z1 mo ?_
     refine Z1 bz ?_
     refine Z1 mo ?_
     refine Z4 (fun hC=>mo) ?_
     refine Z4 (fun hC=>bz) ?_
     refine Z1 an ?_
     refine Z1 mo ?_
     refine Z4 (fun hC=>mo) ?_
     refine Z4 (fun hC=>bz) ?_
     refine Z1 an ?_
     refine cn ?_
     refine cd (fun hb=>?_) fun hb=>?_
     ·have h3:(vY (nK xs a (fF xs a))≠fF xs a∧iI xs a≠24)∧iI xs a≠25:=by simpa using hb
      refine sq ?_
      refine Z1 (bd [(0,1),(1,1)] [.int .i64 0,.int .i64 0] [.val _,.val _]) ?_
      refine bW [_,_] ?_
      refine Z1 aB ?_
      refine Z1 aB ?_
      refine cn ?_
      refine aP ?_
      exact ⟨.inl rfl,by rw [show cO xs a=_ from by unfold cO;rw [if_neg (Classical.not_not.2 h0),if_neg h1,if_neg h2,if_pos h3]];exact aF.three rfl (aT.row rfl rfl (by kernel_rfl) (by kernel_rfl) (Nat.le_of_ble_eq_true rfl)) (aT.tmp rfl) (aT.tmp rfl),trivial⟩
     ·have h3:¬ ((vY (nK xs a (fF xs a))≠fF xs a∧iI xs a≠24)∧iI xs a≠25):=by
       intro hc
       simp [hc] at hb
      refine aQ ?_
      refine sq ?_
      refine Z1 mo ?_
      refine Z1 mo ?_
      refine Z1 (bd [(0,1),(1,1)] [.int .i64 0,.int .i64 0] [.val _,.val _]) ?_
      refine Z1 mo ?_
      refine Z1 ba ?_
      refine Z1 mo ?_
      refine Z1 ba ?_
      refine bW [_,_] ?_
      refine Z1 aB ?_
      refine Z1 aB ?_
      refine cn ?_
      refine aP ?_
      exact ⟨.inl rfl,by rw [show cO xs a=_ from by unfold cO;rw [if_neg (Classical.not_not.2 h0),if_neg h1,if_neg h2,if_neg h3]];exact aF.three rfl (aT.row rfl rfl (by kernel_rfl) (by kernel_rfl) (Nat.le_of_ble_eq_true rfl)) (aT.tmp (by first|rfl|exact aR (by omega))) (aT.tmp (by first|rfl|exact aR (by omega))),trivial⟩
theorem aPY (T N:List Int)(out:List bK)(z:Int)(hz:-9223372036854775808≤z∧z<9223372036854775808)(hnd:N.Nodup)(hnl:N.length≤100000000)(ho:out.length≤100000000):iO Tryz.prog 144 [vi z,.own 6 0,.own 9 0,.own 7 0] [(6,.live 187 [.mp 5]),(5,.map Tryz.prog 3 4 (jC (T))),(9,.live 191 [.mp 8]),(8,.map Tryz.prog 3 3 (kB (N))),(7,.live 132 [.osl 2 10 (out).length])] [(10,.live 136 (cT out))] .any [(6,.live 187 [.mp 5]),(5,.map Tryz.prog 3 4 (jC (T))),(9,.live 191 [.mp 8]),(8,.map Tryz.prog 3 3 (kB (xP T N z))),(7,.live 132 [.osl 2 11 (out++jQ T N z).length]),(11,.live 136 (cT (out++jQ T N z)))]:=by
 refine iO.body 12 19 Tryz.func144 rfl (by kernel_rfl) ?_
 refine sq ?_
 refine bG ?_
 refine Z1 mo ?_
 refine Z1 (aPZ (k:=3) (e:=4) (Go.Maps.int_keyed Tryz.underlying3) (Go.Maps.keyOf_int_mk Tryz.underlying3 (mN hz)) ((aDM T).2.2 z)) ?_
 refine cn ?_
 refine cd (fun hb=>?_) fun hb=>?_
 ·have hin:z∈T:=of_decide_eq_true hb
  have e1:out++jQ T N z=out++[(38,(N.length:Int))]:=by unfold jQ;rw [if_pos hin]
  have e2:xP T N z=N++[z]:=if_pos hin
  have hN:=aP0 N hnd
  refine sq ?_
  refine bG ?_
  refine Z1 mo ?_
  refine bG ?_
  refine eL (R:=[(_,.map _ _ _ _)]) rfl rfl (OC.cast (ab9 (k:=3) (e:=3)) (by rw [hN.2.1])) ⟨rfl,trivial⟩ ?_
  refine fP rfl rfl (aCI (k:=3) (e:=3) (Go.Maps.int_keyed Tryz.underlying3) rfl rfl rfl rfl (by kernel_rfl) (by kernel_rfl) (Go.Maps.keyOf_int_mk Tryz.underlying3 (mN hz)) (mN (by omega)) (by rw [hN.2.1];unfold maxLen;omega)) ⟨rfl,trivial⟩ ?_
  refine cn ?_
  refine tx ?_
  refine bG ?_
  refine bG ?_
  refine Z1 mo ?_
  refine eL (R:=[(_,.map _ _ _ _)]) rfl rfl (aCG (k:=3) (e:=3) (Go.Maps.int_keyed Tryz.underlying3) rfl rfl rfl (by kernel_rfl) (by kernel_rfl) (by kernel_rfl) (Go.Maps.keyOf_int_mk Tryz.underlying3 (mN hz)) (Go.Maps.atKey_put_same (D:=kB N) hN.1.isMap (sV z) _ _)) ⟨rfl,trivial⟩ ?_
  refine Z1 (bd [(0,1),(1,1)] [.int .i64 0,.int .i64 0] [.val _,.val _]) ?_
  refine Z1 (OC.to (fO (ps:=[.tmp 16]) (xs:=[.agg _]) (e:=136) (k:=2) (by_:=16) (zs:=[.int .i64 0,.int .i64 0]) rfl (by kernel_rfl) (by kernel_rfl) rfl rfl rfl (by decide) (by decide)) (zW [(38,(N.length:Int))])) ?_
  refine aZ rfl rfl (iG (e:=136) (k:=2) (by_:=16) (zs:=[.int .i64 0,.int .i64 0]) (cs:=cT out) (ds:=cT [(38,(N.length:Int))]) 11 rfl rfl rfl (by kernel_rfl) (by kernel_rfl) rfl (by decide) (by decide) (by rw [oO]) (by rw [oO]) (zX _) (by simp only [List.length_cons,List.length_nil];omega) (by simp only [List.length_cons,List.length_nil];omega)) ⟨rfl,rfl,trivial⟩ ?_
  refine cF [_] ?_
  refine cn ?_
  refine ⟨.inr rfl,aB6 rfl,?_⟩
  rw [e1,e2]
  exact ⟨rfl,rfl,rfl,by first|rfl|(rw [aIE];rfl),by first|rfl|(rw [List.length_append];rfl),by first|rfl|(rw [aAC];rfl),trivial⟩
 ·have hin:¬ z∈T:=of_decide_eq_false hb
  have e1:out++jQ T N z=out:=by unfold jQ;rw [if_neg hin,List.append_nil]
  have e2:xP T N z=N:=if_neg hin
  refine bS (Le.swap (τ:=⟨[],[(6,.live 187 [.mp 5]),(5,.map Tryz.prog 3 4 (jC (T))),(9,.live 191 [.mp 8]),(8,.map Tryz.prog 3 3 (kB (N))),(7,.live 132 [.osl 2 11 (out).length]),(11,.live 136 (cT out))]⟩) 10 11 (by simp) (by simp) trivial ⟨rfl,rfl,rfl,rfl,rfl,by show aL _ 10=some (Hs.live _ ((cT out).map _));rw [acA];rfl,trivial⟩) ?_
  refine aQ ?_
  refine ⟨.inr rfl,aB6 rfl,?_⟩
  rw [e1,e2]
  exact ⟨rfl,rfl,rfl,by first|rfl|(rw [aIE];rfl),by first|rfl|(rw [List.length_append];rfl),by first|rfl|(rw [aAC];rfl),trivial⟩
instance (l:List bK):Nn (cT l):=⟨fun Z=>aP1 l⟩
theorem acB (xs:List Int)(L:List fR)(e:fR):jC (mQ xs (L++[e]))=(jC (mQ xs L)).put (kI (e.1:Int)) aDN:=by
 unfold mQ
 rw [List.map_append,←List.cons_append]
 exact aIF _ _
theorem acC (xs:List Int)(L:List fR):(mQ xs L).length=L.length+1:=by simp [mQ]
theorem aIG {a b:List bK × Nat}(h:a=b):Av.tup [iU a.1,vi (a.2:Int)]=.tup [iU b.1,vi (b.2:Int)]:=by rw [h]
theorem aP2 (E:Env)(v:Value)(h:aA E (.val (.slice none 0 0)) v):aA E (iU []) v:=qI (k:=2) E v h
theorem acD (xs:List Int)(hby:dF xs)(hl:xs.length≤10000000):PC Tryz.prog 85 [bs xs] (.tup [iU (gP xs).1,vi ((gP xs).2:Int)]):=by
 refine FC.body 14 134 Tryz.func85 rfl (by kernel_rfl) ?_
 refine sq ?_
 refine Z1 aB ?_
 refine Z1 aB ?_
 refine cn ?_
 refine sq ?_
 refine Z1 aB ?_
 refine cn ?_
 refine sq ?_
 refine Z1 aB ?_
 refine cn ?_
 refine sq ?_
 refine aZ rfl rfl (xJ (k:=3) (e:=4) 0 rfl (by kernel_rfl)) ⟨rfl,trivial⟩ ?_
 refine Z1 mo ?_
 refine Z1 ln ?_
 refine fP rfl rfl (aIH (D:=.map []) (k:=3) (e:=4) (Go.Maps.int_keyed Tryz.underlying3) (Go.Maps.keyOf_int_mk Tryz.underlying3 (mN (c:=(xs.length:Int)) (by omega))) (by decide)) ⟨rfl,trivial⟩ ?_
 refine Z1 mo ?_
 refine Z1 aB ?_
 refine cn ?_
 refine aD ?_
 refine sq ?_
 refine Z1 aB ?_
 refine cn ?_
 refine aU ?_
 refine bS (Le.nameNil 4 1 2 136 rfl rfl) ?_
 refine bS (Le.nameNil 5 2 1 3 rfl rfl) ?_
 refine bM (ι:=List fR × Nat) (fun q=>⟨[(0,bs xs),(4,.osl 2 1 (q.1.map fun e=>e.2.1).length),(5,.osl 1 2 (q.1.map fun e=>(e.2.2:Int)).length),(6,.mp 0),(7,vi (q.2:Int))],[(0,.map Tryz.prog 3 4 (jC (mQ xs q.1))),(1,.live 136 (cT (q.1.map fun e=>e.2.1))),(2,.live 3 ((q.1.map fun e=>(e.2.2:Int)).map vi)),(3,.unborn),(4,.unborn),(5,.unborn),(6,.unborn),(7,.unborn),(8,.unborn),(9,.unborn),(10,.unborn),(11,.unborn),(12,.unborn),(13,.unborn)]⟩) (fun q=>q.2≤xs.length∧oN xs.length 0 q.1 q.2∧∃ f,xs.length≤q.2+f∧jB xs f q.2 q.1=jB xs xs.length 0 []) (fun q=>xs.length-q.2) ([],0) (⟨Nat.zero_le _,rfl,xs.length,by omega,rfl⟩) (LS) ?_
 intro q hI
 obtain ⟨hq1,hq2,f,hf1,hf2⟩:=hI
 have hcl:=aH4 hq2
 refine aD ?_
 refine sq ?_
 refine Z1 mo ?_
 refine Z1 mo ?_
 refine Z1 ln ?_
 refine Z1 bz ?_
 refine cn ?_
 refine cd (fun hb=>?_) fun hb=>?_
 ·have hlt:q.2<xs.length:=by have h0:=of_decide_eq_true hb;omega
  obtain ⟨f,rfl⟩:∃ g,f=g+1:=⟨f-1,by omega⟩
  have hdl:jB xs (f+1) q.2 q.1=if (cO xs q.2).2.2≠0 then ([],(cO xs q.2).2.2) else jB xs f (cO xs q.2).2.1 (q.1++[(q.2,(cO xs q.2).1,(cO xs q.2).2.1)]):=by show (if _ then _ else _)=_;rw [if_pos hlt]
  refine aQ ?_
  refine aU ?_
  refine sq ?_
  refine Z1 mo ?_
  refine Z1 mo ?_
  refine Z1 (ca (ab8 xs hby q.2 (by omega))) ?_
  refine Z1 mo ?_
  refine Z1 ex ?_
  refine Z1 ex ?_
  refine Z1 ex ?_
  refine Z2 (al 12 [.int .i64 0,.int .i64 0]) ?_
  refine bW [_,_] ?_
  refine Z1 aB ?_
  refine Z1 aB ?_
  refine cn ?_
  refine aD ?_
  refine sq ?_
  refine Z1 mo ?_
  refine Z1 bz ?_
  refine cn ?_
  refine cd (fun hb=>?_) fun hb=>?_
  ·have he:(cO xs q.2).2.2≠0:=by simpa using hb
   rw [if_pos he] at hdl
   have hd:gP xs=([],(cO xs q.2).2.2):=by unfold gP;rw [←hf2,hdl];exact if_pos he
   refine sq ?_
   refine Z1 mo ?_
   refine Z1 aB ?_
   refine Z1 aB ?_
   refine cn ?_
   refine aP ?_
   exact ⟨.inl rfl,by rw [aIG hd];exact aF.two rfl (aT.to (aT.tmp rfl) aP2) (aT.tmp rfl),trivial⟩
  ·have he:(cO xs q.2).2.2=0:=by simpa using hb
   rw [if_neg (by rw [he];decide)] at hdl
   have hf3:jB xs f (cO xs q.2).2.1 (q.1++[(q.2,(cO xs q.2).1,(cO xs q.2).2.1)])=jB xs xs.length 0 []:=by rw [←hdl];exact hf2
   obtain ⟨g1,g2,g3,g4⟩:=aPJ hby he
   have hsz:=(aDM (mQ xs q.1)).2.1
   rw [acC] at hsz
   refine aQ ?_
   refine sq ?_
   refine Z1 mo ?_
   refine Z1 mo ?_
   refine fP rfl rfl (aIH (D:=jC (mQ xs q.1)) (k:=3) (e:=4) (Go.Maps.int_keyed Tryz.underlying3) (Go.Maps.keyOf_int_mk Tryz.underlying3 (mN (c:=(q.2:Int)) (by omega))) (by unfold maxLen;omega)) ⟨rfl,trivial⟩ ?_
   refine cn ?_
   refine sq ?_
   refine Z1 mo ?_
   refine dE 2 [_,_] ?_
   refine Z1 (OC.to (fO (ps:=[.tmp 43]) (xs:=[.agg _]) (e:=136) (k:=2) (by_:=16) (zs:=[.int .i64 0,.int .i64 0]) rfl (by kernel_rfl) (by kernel_rfl) rfl rfl rfl (by decide) (by decide)) (zW [(cO xs q.2).1])) ?_
   refine aZ rfl rfl (iG (e:=136) (k:=2) (by_:=16) (zs:=[.int .i64 0,.int .i64 0]) (cs:=(cT (q.1.map fun e=>e.2.1))) (ds:=cT [(cO xs q.2).1]) 3 rfl rfl rfl (by kernel_rfl) (by kernel_rfl) rfl (by decide) (by decide) (by rw [oO]) (by rw [oO]) (zX _) (by rw [List.length_map];simp only [List.length_cons,List.length_nil];omega) (by rw [List.length_map];simp only [List.length_cons,List.length_nil];omega)) ⟨rfl,rfl,trivial⟩ ?_
   refine Z1 mo ?_
   refine Z1 mo ?_
   refine Z1 (fO (ps:=[.tmp 47]) (xs:=[.val _]) (e:=3) (k:=1) (by_:=8) (zs:=[.int .i64 0]) rfl (by kernel_rfl) (by kernel_rfl) rfl rfl rfl (by decide) (by decide)) ?_
   refine aZ rfl rfl (iG (e:=3) (k:=1) (by_:=8) (zs:=[.int .i64 0]) (cs:=((q.1.map fun e=>(e.2.2:Int)).map vi)) (ds:=[vi ((cO xs q.2).2.1:Int)]) 4 rfl rfl rfl (by kernel_rfl) (by kernel_rfl) rfl (by decide) (by decide) (by simp) rfl (aP3 _) (by rw [List.length_map];omega) (by rw [List.length_map];omega)) ⟨rfl,rfl,trivial⟩ ?_
   refine Z1 aB ?_
   refine Z1 aB ?_
   refine cn ?_
   refine tx ?_
   refine Z1 mo ?_
   refine Z1 aB ?_
   refine cn ?_
   exact ⟨(q.1++[(q.2,(cO xs q.2).1,(cO xs q.2).2.1)],(cO xs q.2).2.1),⟨g2,aH3 (x:=(q.2,(cO xs q.2).1,(cO xs q.2).2.1)) hq2 rfl g1 g2 g3 g4,f,by show _≤(cO xs q.2).2.1+f;omega,hf3⟩,by show _-(cO xs q.2).2.1<_;omega,Le.trans (LT (τ:=⟨[(0,bs xs),(4,.osl 2 1 ((q.1++[(q.2,(cO xs q.2).1,(cO xs q.2).2.1)]).map fun e=>e.2.1).length),(5,.osl 1 4 ((q.1.map fun e=>(e.2.2:Int)).length+1)),(6,.mp 0),(7,vi ((cO xs q.2).2.1:Int))],[(0,.map Tryz.prog 3 4 (jC (mQ xs (q.1++[(q.2,(cO xs q.2).1,(cO xs q.2).2.1)])))),(1,.live 136 (cT ((q.1++[(q.2,(cO xs q.2).1,(cO xs q.2).2.1)]).map fun e=>e.2.1))),(2,.dead),(3,.unborn),(4,.live 3 (((q.1++[(q.2,(cO xs q.2).1,(cO xs q.2).2.1)]).map fun e=>(e.2.2:Int)).map vi)),(5,.unborn),(6,.unborn),(7,.unborn),(8,.unborn),(9,.unborn),(10,.unborn),(11,.unborn),(12,.unborn),(13,.unborn)]⟩) 1 3 [3,5,6,7,8,9,10,11,12,13] (hh:=⟨aDO (by decide) (by decide) (by decide) (by rw [acB];rfl),mF (by rw [List.map_append,aAC];rfl) (Nn.out _),aP4 (by decide) (by decide) (by decide) rfl,iD (by decide) (by decide),iJ (by decide) (by decide) (by decide) (by rw [List.map_append,List.map_append];rfl) (Nn.out _),by repeat (first|exact trivial|refine ⟨iD (by decide) (by decide),?_⟩)⟩)) (LT 2 4 [3,4,5,6,7,8,9,10,11,12,13])⟩
 ·have hge:q.2=xs.length:=by have h0:=of_decide_eq_false hb;omega
  have hall:jB xs xs.length 0 []=(q.1,0):=by
   rw [←hf2]
   cases f with
   | zero=>rfl
   | succ f=>show (if _ then _ else _)=_;rw [if_neg (by omega)]
  rw [hge] at hq2
  have hnd:(bD xs q.1).Nodup:=(aPK hq2).1
  have hPl:(bD xs q.1).length=q.1.length+1:=by simp [bD]
  have hcl2:q.1.length≤xs.length:=by omega
  have hCl:(q.1.map fun e=>e.2.1).length=q.1.length:=by simp
  have hp0:(bD xs q.1).getD 0 0=0:=abG hq2
  have hob:=aPN hq2 hcl2
  refine bU ?_
  refine aD ?_
  refine bS (Le.freezeI 4 1 (q.1.map fun e=>e.2.1) rfl rfl) ?_
  refine bS (Le.freeze 5 2 (fun j=>vi ((q.1.map fun e=>(e.2.2:Int)).getD j 0)) rfl rfl (by simp) (zN _)) ?_
  refine tx ?_
  refine aZ rfl rfl (xJ (k:=3) (e:=4) 5 rfl (by kernel_rfl)) ⟨rfl,trivial⟩ ?_
  refine Z2 (al 6 [.map none]) ?_
  refine fP rfl rfl (lG (y:=Av.mp 5) (cs':=[Av.mp 5]) rfl rfl rfl (by kernel_rfl) (by kernel_rfl) aP5 (by decide) rfl) ⟨rfl,trivial⟩ ?_
  refine cn ?_
  refine aD ?_
  refine sq ?_
  refine Z1 mo ?_
  refine Z1 ln ?_
  refine Z1 mo ?_
  refine cn ?_
  refine aU ?_
  refine bM (ι:=Nat) (fun k=>⟨[(0,bs xs),(5,aK (q.1.map fun e=>(e.2.2:Int))),(6,.mp 0),(4,iU (q.1.map fun e=>e.2.1)),(11,.own 6 0),(52,iU (q.1.map fun e=>e.2.1)),(53,vi ((q.1.map fun e=>e.2.1).length:Int)),(54,vi k)],[(0,.map Tryz.prog 3 4 (jC (mQ xs q.1))),(5,.map Tryz.prog 3 4 (jC (aX (q.1.take k)))),(6,.live 187 [.mp 5]),(7,.unborn),(8,.unborn),(9,.unborn),(10,.unborn),(11,.unborn),(12,.unborn),(13,.unborn)]⟩) (fun k=>k≤(q.1.map fun e=>e.2.1).length∧∀ t∈aX (q.1.take k),t∈mQ xs q.1) (fun k=>(q.1.map fun e=>e.2.1).length-k) 0 (⟨Nat.zero_le _,fun t ht=>by cases ht⟩) (LS) ?_
  intro k hI
  refine sq ?_
  refine Z1 bz ?_
  refine cn ?_
  refine aD ?_
  refine cd (fun hb=>?_) fun hb=>?_
  ·have hk:k<(q.1.map fun e=>e.2.1).length:=by have h0:=of_decide_eq_true hb;omega
   have hkE:k<(q.1.map fun e=>(e.2.2:Int)).length:=by simpa using hk
   have hx1:((q.1.map fun e=>e.2.1).getD k aI)=(q.1.getD k (0,aI,0)).2.1:=aDG (fun e:fR=>e.2.1) (0,aI,0) aI (by simpa using hk)
   have hx2:((q.1.map fun e=>(e.2.2:Int)).getD k 0)=((q.1.getD k (0,aI,0)).2.2:Int):=aDG (fun e:fR=>(e.2.2:Int)) (0,aI,0) 0 (by simpa using hk)
   have hat:=aDF hq2 k (by simpa using hk)
   rw [←hx1,←hx2] at hat
   obtain ⟨hp1,hp2,hp3,hp4,hp5⟩:=hat
   have hpe:(bD xs q.1).getD (k+1) 0=((q.1.map fun e=>(e.2.2:Int)).getD k 0):=hp2
   have htk:=aa9 (L:=q.1) (k:=k) (by simpa using hk)
   have htl:=Nat.le_trans (abA (q.1.take k)) (by rw [List.length_take];exact Nat.min_le_right _ _:_≤q.1.length)
   have hsz:=(aDM (aX (q.1.take k))).2.1
   refine aQ ?_
   refine aD ?_
   refine aU ?_
   refine sq ?_
   refine Z1 mo ?_
   refine Z1 ia ?_
   refine Z1 lr ?_
   refine Z2 (al 13 [.int .i64 0,.int .i64 0]) ?_
   refine Z1 aB ?_
   refine bW [_,_] ?_
   refine cn ?_
   refine sq ?_
   refine dE 2 [_,_] ?_
   refine Z1 (ca (aIC ((q.1.map fun e=>e.2.1).getD k aI))) ?_
   refine cn ?_
   refine cd (fun hb=>?_) fun hb=>?_
   ·have ha:nL (q.1.getD k (0,aI,0)).2.1=true:=by rw [←hx1];exact hb
    refine aD ?_
    refine aD ?_
    refine dw ?_
    refine Z1 mo ?_
    refine Z1 mo ?_
    refine Z1 mo ?_
    refine Z1 ia ?_
    refine Z1 ld ?_
    refine aS 1 1 false ?_
    refine bG ?_
    refine Z1 ba ?_
    refine eL (R:=[(_,.map _ _ _ _)]) rfl rfl (aPZ (k:=3) (e:=4) (Go.Maps.int_keyed Tryz.underlying3) (Go.Maps.keyOf_int_mk Tryz.underlying3 (mN (c:=(((q.1.map fun e=>(e.2.2:Int)).getD k 0)+((q.1.map fun e=>e.2.1).getD k aI).2)) (by omega))) ((aDM (mQ xs q.1)).2.2 (((q.1.map fun e=>(e.2.2:Int)).getD k 0)+((q.1.map fun e=>e.2.1).getD k aI).2))) ⟨rfl,trivial⟩ ?_
    refine Z1 nt ?_
    refine cn (dn ?_)
    refine cd (fun hb=>?_) fun hb=>?_
    ·have hbg:(((q.1.map fun e=>(e.2.2:Int)).getD k 0)+((q.1.map fun e=>e.2.1).getD k aI).2)∉mQ xs q.1:=by simpa using hb
     have hd:gP xs=([],5):=by
      unfold gP
      rw [hall]
      rw [if_neg (fun h=>h rfl),if_pos]
      exact ⟨_,abB (by simpa using hk) ha,by rw [←hx1,←hx2];exact hbg⟩
     refine sq ?_
     refine Z1 aB ?_
     refine Z1 aB ?_
     refine cn ?_
     refine aP ?_
     exact ⟨.inl rfl,by rw [aIG hd];exact aF.two rfl (aT.to (aT.tmp rfl) aP2) (aT.tmp rfl),trivial⟩
    ·have hbg:(((q.1.map fun e=>(e.2.2:Int)).getD k 0)+((q.1.map fun e=>e.2.1).getD k aI).2)∈mQ xs q.1:=by simpa using hb
     refine aQ ?_
     refine dw ?_
     refine bG ?_
     refine Z1 mo ?_
     refine Z1 mo ?_
     refine Z1 ia ?_
     refine Z1 ld ?_
     refine aS 1 1 false ?_
     refine bG ?_
     refine Z1 ba ?_
     refine fP rfl rfl (aIH (D:=jC (aX (q.1.take k))) (k:=3) (e:=4) (Go.Maps.int_keyed Tryz.underlying3) (Go.Maps.keyOf_int_mk Tryz.underlying3 (mN (c:=(((q.1.map fun e=>(e.2.2:Int)).getD k 0)+((q.1.map fun e=>e.2.1).getD k aI).2)) (by omega))) (by unfold maxLen;omega)) ⟨rfl,trivial⟩ ?_
     refine cn (dn ?_)
     refine tx ?_
     refine Z1 ba ?_
     refine Z1 mo ?_
     refine cn ?_
     exact ⟨k+1,⟨by omega,fun t ht=>by rw [htk,if_pos ha] at ht;rcases List.mem_append.1 ht with ht|ht;exact hI.2 t ht;rw [List.mem_singleton] at ht;rw [ht,←hx1,←hx2];exact hbg⟩,by omega,LR [13] (hH:=⟨sW (by decide) rfl,sW (by decide) (by rw [htk,if_pos ha,←hx1,←hx2,aIF];rfl),by repeat (first|exact trivial|refine ⟨aAD (by decide),?_⟩|refine ⟨sX (by decide) rfl (by simp [aE]),?_⟩|refine ⟨sW (by decide) rfl,?_⟩)⟩)⟩
   ·have ha:nL (q.1.getD k (0,aI,0)).2.1=false:=by rw [←hx1];exact hb
    refine aQ ?_
    refine tx ?_
    refine Z1 ba ?_
    refine Z1 mo ?_
    refine cn ?_
    exact ⟨k+1,⟨by omega,fun t ht=>by rw [htk,if_neg (by rw [ha];decide)] at ht;exact hI.2 t ht⟩,by omega,LR [13] (hH:=⟨sW (by decide) rfl,sW (by decide) (by rw [htk,if_neg (by rw [ha];decide)];rfl),by repeat (first|exact trivial|refine ⟨aAD (by decide),?_⟩|refine ⟨sX (by decide) rfl (by simp [aE]),?_⟩|refine ⟨sW (by decide) rfl,?_⟩)⟩)⟩
  ·have hk:k=(q.1.map fun e=>e.2.1).length:=by have h0:=of_decide_eq_false hb;omega
   subst hk
   have htt:aX (q.1.take (q.1.map fun e=>e.2.1).length)=aX q.1:=by rw [List.length_map,List.take_length]
   rw [htt] at hI ⊢
   have hin:=hI.2
   refine bU ?_
   refine sq ?_
   refine Z2 (al 7 [.slice none 0 0]) ?_
   refine cn ?_
   refine sq ?_
   refine aZ rfl rfl (xJ (k:=3) (e:=3) 8 rfl (by kernel_rfl)) ⟨rfl,trivial⟩ ?_
   refine Z2 (al 9 [.map none]) ?_
   refine fP rfl rfl (lG (y:=Av.mp 8) (cs':=[Av.mp 8]) rfl rfl rfl (by kernel_rfl) (by kernel_rfl) aP5 (by decide) rfl) ⟨rfl,trivial⟩ ?_
   refine cn ?_
   refine sq ?_
   refine Z1 (qC (cs:=[.own _ _,.own _ _,.own _ _]) rfl rfl) ?_
   refine Z1 aB ?_
   refine cn ?_
   refine sq ?_
   refine Z1 aB ?_
   refine cn ?_
   refine aD ?_
   refine sq ?_
   refine Z1 mo ?_
   refine Z1 ln ?_
   refine Z1 mo ?_
   refine cn ?_
   refine aU ?_
   refine bS (Le.nameNilCell 7 0 10 2 136 rfl rfl rfl (by decide)) ?_
   refine bM (ι:=Nat) (fun k=>⟨[(0,bs xs),(5,aK (q.1.map fun e=>(e.2.2:Int))),(14,.own 7 0),(15,.own 9 0),(16,.clo 144 [.own 6 0,.own 9 0,.own 7 0]),(17,vi ((bD xs q.1).getD k 0)),(82,iU (q.1.map fun e=>e.2.1)),(83,vi ((q.1.map fun e=>e.2.1).length:Int)),(84,vi k)],[(5,.map Tryz.prog 3 4 (jC (aX q.1))),(6,.live 187 [.mp 5]),(7,.live 132 [.osl 2 10 (kH (aX q.1) (bD xs q.1) q.1 k).length]),(8,.map Tryz.prog 3 3 (kB (cE (aX q.1) ((bD xs q.1).take k)))),(9,.live 191 [.mp 8]),(10,.live 136 (cT (kH (aX q.1) (bD xs q.1) q.1 k))),(11,.unborn),(12,.unborn),(13,.unborn)]⟩) (fun k=>k≤(q.1.map fun e=>e.2.1).length) (fun k=>(q.1.map fun e=>e.2.1).length-k) 0 (Nat.zero_le _) (LS (hs:=⟨.inr rfl,.inr rfl,.inr rfl,.inr rfl,.inr rfl,.inr (aR hp0.symm),.inr rfl,.inr rfl,.inr rfl,trivial⟩)) ?_
   intro k hI
   refine sq ?_
   refine Z1 bz ?_
   refine cn ?_
   refine aD ?_
   refine cd (fun hb=>?_) fun hb=>?_
   ·have hk:k<(q.1.map fun e=>e.2.1).length:=by have h0:=of_decide_eq_true hb;omega
    have hkE:k<(q.1.map fun e=>(e.2.2:Int)).length:=by simpa using hk
    have hx1:((q.1.map fun e=>e.2.1).getD k aI)=(q.1.getD k (0,aI,0)).2.1:=aDG (fun e:fR=>e.2.1) (0,aI,0) aI (by simpa using hk)
    have hx2:((q.1.map fun e=>(e.2.2:Int)).getD k 0)=((q.1.getD k (0,aI,0)).2.2:Int):=aDG (fun e:fR=>(e.2.2:Int)) (0,aI,0) 0 (by simpa using hk)
    have hat:=aDF hq2 k (by simpa using hk)
    rw [←hx1,←hx2] at hat
    obtain ⟨hp1,hp2,hp3,hp4,hp5⟩:=hat
    have hpe:(bD xs q.1).getD (k+1) 0=((q.1.map fun e=>(e.2.2:Int)).getD k 0):=hp2
    have hk1:k<q.1.length:=by simpa using hk
    have hN:=aDC (aX q.1) (bD xs q.1) k
    have hO:=aDE (aX q.1) (bD xs q.1) q.1 k
    have hLS:=aDD (aX q.1) (cE (aX q.1) ((bD xs q.1).take k)) ((bD xs q.1).getD k 0)
    have hne:=aPG (aX q.1) (P:=(bD xs q.1)) (k:=k) (by omega)
    have hOS:((kH (aX q.1) (bD xs q.1) q.1 k)++jQ (aX q.1) (cE (aX q.1) ((bD xs q.1).take k)) ((bD xs q.1).getD k 0)).length≤2*k+1:=by rw [List.length_append];omega
    have hpk:(bD xs q.1).getD k 0=(((q.1.getD k (0,aI,0)).1:Nat):Int):=hp1
    refine aQ ?_
    refine aD ?_
    refine aU ?_
    refine sq ?_
    refine Z1 mo ?_
    refine Z1 ia ?_
    refine Z1 lr ?_
    refine Z2 (al 13 [.int .i64 0,.int .i64 0]) ?_
    refine Z1 aB ?_
    refine bW [_,_] ?_
    refine cn ?_
    refine sq ?_
    refine Z1 mo ?_
    refine Z1 mo ?_
    refine aZ rfl rfl (oI [11] rfl rfl (by kernel_rfl) (aPY (aX q.1) (cE (aX q.1) ((bD xs q.1).take k)) (kH (aX q.1) (bD xs q.1) q.1 k) ((bD xs q.1).getD k 0) (by rw [hpk];omega) (aH0 hnd k) (by omega) (by omega)) rfl (by simp) (by simp [bQ]) (by simp) (by simp) (by simp [aO,aH]) ⟨by simp [bJ,aO,aH],trivial,by simp [bJ,aO,aH],trivial,by simp [bJ,aO,aH],lC _,trivial⟩ (by simp [aH]) ⟨by simp [bJ,aO,aH],trivial,by simp [bJ,aO,aH],trivial,by simp [bJ,aO,aH],lC _,trivial⟩) ⟨rfl,rfl,rfl,rfl,rfl,rfl,rfl,trivial⟩ ?_
    refine cn ?_
    rw [←hne]
    refine bS (LT (τ:=⟨[(0,bs xs),(5,aK (q.1.map fun e=>(e.2.2:Int))),(14,.own 7 0),(15,.own 9 0),(16,.clo 144 [.own 6 0,.own 9 0,.own 7 0]),(82,iU (q.1.map fun e=>e.2.1)),(83,vi ((q.1.map fun e=>e.2.1).length:Int)),(84,vi k),(18,vi k),(19,.own 13 0)],[(5,.map Tryz.prog 3 4 (jC (aX q.1))),(6,.live 187 [.mp 5]),(7,.live 132 [.osl 2 10 ((kH (aX q.1) (bD xs q.1) q.1 k)++jQ (aX q.1) (cE (aX q.1) ((bD xs q.1).take k)) ((bD xs q.1).getD k 0)).length]),(8,.map Tryz.prog 3 3 (kB (cE (aX q.1) ((bD xs q.1).take (k+1))))),(9,.live 191 [.mp 8]),(10,.live 136 (cT ((kH (aX q.1) (bD xs q.1) q.1 k)++jQ (aX q.1) (cE (aX q.1) ((bD xs q.1).take k)) ((bD xs q.1).getD k 0)))),(11,.unborn),(12,.unborn),(13,.live 136 [vi ((q.1.map fun e=>e.2.1).getD k aI).1,vi ((q.1.map fun e=>e.2.1).getD k aI).2])]⟩) 10 11 [11,12]) ?_
    refine aD ?_
    refine sq ?_
    refine dE 2 [_,_] ?_
    refine Z1 (ca (aIC ((q.1.map fun e=>e.2.1).getD k aI))) ?_
    refine cn ?_
    refine rM (τ:=⟨[(0,bs xs),(5,aK (q.1.map fun e=>(e.2.2:Int))),(14,.own 7 0),(15,.own 9 0),(16,.clo 144 [.own 6 0,.own 9 0,.own 7 0]),(82,iU (q.1.map fun e=>e.2.1)),(83,vi ((q.1.map fun e=>e.2.1).length:Int)),(84,vi k),(18,vi k),(19,.own 13 0)],[(5,.map Tryz.prog 3 4 (jC (aX q.1))),(6,.live 187 [.mp 5]),(7,.live 132 [.osl 2 10 ((kH (aX q.1) (bD xs q.1) q.1 k)++jQ (aX q.1) (cE (aX q.1) ((bD xs q.1).take k)) ((bD xs q.1).getD k 0)).length]),(8,.map Tryz.prog 3 3 (kB (cE (aX q.1) ((bD xs q.1).take (k+1))))),(9,.live 191 [.mp 8]),(10,.live 136 (cT ((kH (aX q.1) (bD xs q.1) q.1 k)++jQ (aX q.1) (cE (aX q.1) ((bD xs q.1).take k)) ((bD xs q.1).getD k 0)))),(11,.unborn),(12,.unborn),(13,.live 136 [vi (mR (q.1.getD k (0,aI,0))).1,vi (mR (q.1.getD k (0,aI,0))).2])]⟩) ?_ ?_
    ·refine cd (fun hb=>?_) fun hb=>?_
     ·have ha:nL (q.1.getD k (0,aI,0)).2.1=true:=by rw [←hx1];exact hb
      have hmv:(mR (q.1.getD k (0,aI,0)))=(((q.1.map fun e=>e.2.1).getD k aI).1,((q.1.map fun e=>e.2.1).getD k aI).2+((q.1.map fun e=>(e.2.2:Int)).getD k 0)):=by unfold mR;rw [ha,hx1,hx2];rfl
      refine dw ?_
      refine aS 1 1 false ?_
      refine bG ?_
      refine Z1 mo ?_
      refine Z1 mo ?_
      refine Z1 ia ?_
      refine Z1 ld ?_
      refine Z1 ba ?_
      refine aS 1 1 false ?_
      refine cF [_,_] ?_
      refine cn (dn ?_)
      exact (LS (hh:=⟨rfl,rfl,rfl,rfl,rfl,rfl,rfl,rfl,by rw [hmv];rfl,trivial⟩))
     ·have ha:nL (q.1.getD k (0,aI,0)).2.1=false:=by rw [←hx1];exact hb
      have hmv:(mR (q.1.getD k (0,aI,0)))=(((q.1.map fun e=>e.2.1).getD k aI).1,((q.1.map fun e=>e.2.1).getD k aI).2):=by unfold mR;rw [ha,hx1];rfl
      refine aQ ?_
      exact (LS (hh:=⟨rfl,rfl,rfl,rfl,rfl,rfl,rfl,rfl,by rw [hmv];rfl,trivial⟩))
    ·refine sq ?_
     refine bG ?_
     refine dE 2 [_,_] ?_
     refine Z1 (OC.to (fO (ps:=[.tmp 103]) (xs:=[.agg _]) (e:=136) (k:=2) (by_:=16) (zs:=[.int .i64 0,.int .i64 0]) rfl (by kernel_rfl) (by kernel_rfl) rfl rfl rfl (by decide) (by decide)) (zW [(mR (q.1.getD k (0,aI,0)))])) ?_
     refine aZ rfl rfl (iG (e:=136) (k:=2) (by_:=16) (zs:=[.int .i64 0,.int .i64 0]) (cs:=cT ((kH (aX q.1) (bD xs q.1) q.1 k)++jQ (aX q.1) (cE (aX q.1) ((bD xs q.1).take k)) ((bD xs q.1).getD k 0))) (ds:=cT [(mR (q.1.getD k (0,aI,0)))]) 11 rfl rfl rfl (by kernel_rfl) (by kernel_rfl) rfl (by decide) (by decide) (by rw [oO]) (by rw [oO]) (zX _) (by simp only [List.length_cons,List.length_nil];omega) (by simp only [List.length_cons,List.length_nil];omega)) ⟨rfl,rfl,trivial⟩ ?_
     refine cF [_] ?_
     refine cn ?_
     refine tx ?_
     refine Z1 mo ?_
     refine Z1 mo ?_
     refine Z1 ia ?_
     refine Z1 ld ?_
     refine Z1 aB ?_
     refine cn ?_
     refine tx ?_
     refine Z1 ba ?_
     refine Z1 mo ?_
     refine cn ?_
     exact ⟨k+1,by omega,by omega,Le.trans (LT (τ:=⟨[(0,bs xs),(5,aK (q.1.map fun e=>(e.2.2:Int))),(14,.own 7 0),(15,.own 9 0),(16,.clo 144 [.own 6 0,.own 9 0,.own 7 0]),(17,vi ((bD xs q.1).getD (k+1) 0)),(82,iU (q.1.map fun e=>e.2.1)),(83,vi ((q.1.map fun e=>e.2.1).length:Int)),(84,vi ((k+1:Nat):Int))],[(5,.map Tryz.prog 3 4 (jC (aX q.1))),(6,.live 187 [.mp 5]),(7,.live 132 [.osl 2 10 (((kH (aX q.1) (bD xs q.1) q.1 k)++jQ (aX q.1) (cE (aX q.1) ((bD xs q.1).take k)) ((bD xs q.1).getD k 0))++[(mR (q.1.getD k (0,aI,0)))]).length]),(8,.map Tryz.prog 3 3 (kB (cE (aX q.1) ((bD xs q.1).take (k+1))))),(9,.live 191 [.mp 8]),(10,.live 136 (cT (((kH (aX q.1) (bD xs q.1) q.1 k)++jQ (aX q.1) (cE (aX q.1) ((bD xs q.1).take k)) ((bD xs q.1).getD k 0))++[(mR (q.1.getD k (0,aI,0)))]))),(11,.unborn),(12,.unborn),(13,.unborn)]⟩) 10 11 [11,12,13] (hh:=⟨aDO (by decide) (by decide) (by decide) rfl,iJ (by decide) (by decide) (by decide) rfl (by simp [aE]),aAA (by decide) (by decide) (by decide) rfl ⟨xR List.length_append.symm,trivial⟩,aDO (by decide) (by decide) (by decide) rfl,iJ (by decide) (by decide) (by decide) rfl (by simp [aE]),mF (by rw [aAC ((kH (aX q.1) (bD xs q.1) q.1 k)++jQ (aX q.1) (cE (aX q.1) ((bD xs q.1).take k)) ((bD xs q.1).getD k 0)) [(mR (q.1.getD k (0,aI,0)))]];rfl) (Nn.out _),iD (by decide) (by decide),iD (by decide) (by decide),iD (by decide) (by decide),trivial⟩)) LS⟩
   ·have hk:k=(q.1.map fun e=>e.2.1).length:=by have h0:=of_decide_eq_false hb;omega
    have hk1:k=q.1.length:=by rw [hk,List.length_map]
    subst hk1
    clear hk
    have hN:=aDC (aX q.1) (bD xs q.1) q.1.length
    have hO:=aDE (aX q.1) (bD xs q.1) q.1 q.1.length
    have hpz:(bD xs q.1).getD q.1.length 0=(xs.length:Int):=by simp [bD]
    have hoa:kH (aX q.1) (bD xs q.1) q.1 q.1.length++jQ (aX q.1) (cE (aX q.1) ((bD xs q.1).take q.1.length)) (xs.length:Int)=dH xs q.1:=rfl
    have hna:xP (aX q.1) (cE (aX q.1) ((bD xs q.1).take q.1.length)) (xs.length:Int)=(cE (aX q.1) (bD xs q.1)):=by rw [←hpz,←aPG (aX q.1) (P:=(bD xs q.1)) (by omega),List.take_of_length_le (by omega)]
    refine bU ?_
    refine sq ?_
    refine Z1 mo ?_
    refine Z1 mo ?_
    refine Z1 ln ?_
    refine aZ rfl rfl (oI [11] rfl rfl (by kernel_rfl) (aPY (aX q.1) (cE (aX q.1) ((bD xs q.1).take q.1.length)) (kH (aX q.1) (bD xs q.1) q.1 q.1.length) (xs.length:Int) (by omega) (aH0 hnd _) (by omega) (by omega)) rfl (by simp) (by simp [bQ]) (by simp) (by simp) (by simp [aO,aH]) ⟨by simp [bJ,aO,aH],trivial,by simp [bJ,aO,aH],trivial,by simp [bJ,aO,aH],lC _,trivial⟩ (by simp [aH]) ⟨by simp [bJ,aO,aH],trivial,by simp [bJ,aO,aH],trivial,by simp [bJ,aO,aH],lC _,trivial⟩) ⟨rfl,rfl,rfl,rfl,rfl,rfl,rfl,trivial⟩ ?_
    refine cn ?_
    rw [hna,hoa]
    refine bS (LT (τ:=⟨[(14,.own 7 0),(15,.own 9 0)],[(7,.live 132 [.osl 2 10 (dH xs q.1).length]),(8,.map Tryz.prog 3 3 (kB (cE (aX q.1) (bD xs q.1)))),(9,.live 191 [.mp 8]),(10,.live 136 (cT (eW (cE (aX q.1) (bD xs q.1)) (dH xs q.1) 0))),(13,.unborn)]⟩) 10 11 [11,13]) ?_
    have hol:(dH xs q.1).length≤2*q.1.length+1:=by rw [←hoa,List.length_append];have:=aDD (aX q.1) (cE (aX q.1) ((bD xs q.1).take q.1.length)) (xs.length:Int);omega
    refine aD ?_
    refine sq ?_
    refine bG ?_
    refine Z1 sT ?_
    refine Z1 mo ?_
    refine cn ?_
    refine aU ?_
    refine bM (ι:=Nat) (fun k=>⟨[(14,.own 7 0),(15,.own 9 0),(115,.osl 2 10 (dH xs q.1).length),(116,vi ((dH xs q.1).length:Int)),(117,vi k)],[(7,.live 132 [.osl 2 10 (dH xs q.1).length]),(8,.map Tryz.prog 3 3 (kB (cE (aX q.1) (bD xs q.1)))),(9,.live 191 [.mp 8]),(10,.live 136 (cT (eW (cE (aX q.1) (bD xs q.1)) (dH xs q.1) k))),(13,.unborn)]⟩) (fun k=>k≤(dH xs q.1).length) (fun k=>(dH xs q.1).length-k) 0 (Nat.zero_le _) (LS) ?_
    intro k hI
    refine sq ?_
    refine Z1 bz ?_
    refine cn ?_
    refine aD ?_
    refine cd (fun hb=>?_) fun hb=>?_
    ·have hk:k<(dH xs q.1).length:=by have h0:=of_decide_eq_true hb;omega
     have hwl:=sR (cE (aX q.1) (bD xs q.1)) (dH xs q.1) k
     have hwx:((eW (cE (aX q.1) (bD xs q.1)) (dH xs q.1) k).getD k aI)=(dH xs q.1).getD k aI:=by rw [aDH,if_neg (by omega)]
     refine aQ ?_
     refine aD ?_
     refine aU ?_
     refine sq ?_
     refine Z1 mo ?_
     refine eL (R:=[(_,.live _ _)]) rfl rfl (vL (t:=136) (cs:=cT (eW (cE (aX q.1) (bD xs q.1)) (dH xs q.1) k)) (j:=k*2) rfl rfl rfl (by kernel_rfl) (by omega) (by omega) (by omega)) ⟨rfl,trivial⟩ ?_
     refine eL (R:=[(_,.live _ _)]) rfl rfl (mA (t:=136) (cs:=cT (eW (cE (aX q.1) (bD xs q.1)) (dH xs q.1) k)) (k:=2) (ds:=[vi ((eW (cE (aX q.1) (bD xs q.1)) (dH xs q.1) k).getD k aI).1,vi ((eW (cE (aX q.1) (bD xs q.1)) (dH xs q.1) k).getD k aI).2]) rfl rfl (by kernel_rfl) (by kernel_rfl) (abE (by omega)) rfl (by decide)) ⟨rfl,trivial⟩ ?_
     refine Z2 (al 13 [.int .i64 0,.int .i64 0]) ?_
     refine Z1 aB ?_
     refine bW [_,_] ?_
     refine cn ?_
     refine sq ?_
     refine dE 2 [_,_] ?_
     refine Z1 (ca (aIC ((eW (cE (aX q.1) (bD xs q.1)) (dH xs q.1) k).getD k aI))) ?_
     refine cn ?_
     refine cd (fun hb=>?_) fun hb=>?_
     ·have ha:nL ((eW (cE (aX q.1) (bD xs q.1)) (dH xs q.1) k).getD k aI)=true:=hb
      have hnw:(eW (cE (aX q.1) (bD xs q.1)) (dH xs q.1) (k+1))=(eW (cE (aX q.1) (bD xs q.1)) (dH xs q.1) k).set k (((eW (cE (aX q.1) (bD xs q.1)) (dH xs q.1) k).getD k aI).1,(rQ (cE (aX q.1) (bD xs q.1)) ((eW (cE (aX q.1) (bD xs q.1)) (dH xs q.1) k).getD k aI).2:Int)):=by
       show (eW (cE (aX q.1) (bD xs q.1)) (dH xs q.1) k).set k (rP (cE (aX q.1) (bD xs q.1)) ((dH xs q.1).getD k aI))=_
       rw [←hwx]
       unfold rP
       rw [ha]
       rfl
      refine tx ?_
      refine bG ?_
      refine Z1 mo ?_
      refine bG ?_
      refine aS 1 1 false ?_
      refine bG ?_
      refine eL (R:=[(_,.map _ _ _ _)]) rfl rfl (aCG (k:=3) (e:=3) (Go.Maps.int_keyed Tryz.underlying3) rfl rfl rfl (by kernel_rfl) (by kernel_rfl) (by kernel_rfl) (Go.Maps.keyOf_int_mk Tryz.underlying3 (mN (by rw [hwx];have:=aPO (by omega) (by omega) hob k;omega))) ((aP0 (cE (aX q.1) (bD xs q.1)) (by have:=aH0 (T:=(aX q.1)) hnd ((bD xs q.1).length);rwa [List.take_length] at this)).2.2.2 ((eW (cE (aX q.1) (bD xs q.1)) (dH xs q.1) k).getD k aI).2)) ⟨rfl,trivial⟩ ?_
      refine eL (R:=[(_,.live _ _)]) rfl rfl (vL (t:=136) (cs:=cT (eW (cE (aX q.1) (bD xs q.1)) (dH xs q.1) k)) (j:=k*2) rfl rfl rfl (by kernel_rfl) (by omega) (by omega) (by omega)) ⟨rfl,trivial⟩ ?_
      refine eL (R:=[(_,.live _ _)]) rfl rfl (eU (t:=136) (cs:=cT (eW (cE (aX q.1) (bD xs q.1)) (dH xs q.1) k)) (off:=1) (sz:=1) (r:=false) rfl rfl (by rw [oO];omega) (by kernel_rfl) (by decide)) ⟨rfl,trivial⟩ ?_
      refine fP rfl rfl (lG (t:=136) (cs:=cT (eW (cE (aX q.1) (bD xs q.1)) (dH xs q.1) k)) (y:=vi (rQ (cE (aX q.1) (bD xs q.1)) ((eW (cE (aX q.1) (bD xs q.1)) (dH xs q.1) k).getD k aI).2:Int)) (cs':=cT ((eW (cE (aX q.1) (bD xs q.1)) (dH xs q.1) k).set k (((eW (cE (aX q.1) (bD xs q.1)) (dH xs q.1) k).getD k aI).1,(rQ (cE (aX q.1) (bD xs q.1)) ((eW (cE (aX q.1) (bD xs q.1)) (dH xs q.1) k).getD k aI).2:Int)))) rfl rfl rfl (by kernel_rfl) (by kernel_rfl) oH (by rw [oO];omega) abF) ⟨rfl,trivial⟩ ?_
      refine cn ?_
      refine tx ?_
      refine Z1 ba ?_
      refine Z1 mo ?_
      refine cn ?_
      exact ⟨k+1,by omega,by omega,LR [13] (hH:=⟨sX (by decide) rfl (by simp [aE]),sW (by decide) rfl,sX (by decide) rfl (by simp [aE]),sX (by decide) (by rw [hnw];rfl) (Nn.out _),aAD (by decide),trivial⟩)⟩
     ·have ha:nL ((eW (cE (aX q.1) (bD xs q.1)) (dH xs q.1) k).getD k aI)=false:=hb
      refine aQ ?_
      refine tx ?_
      refine Z1 ba ?_
      refine Z1 mo ?_
      refine cn ?_
      exact ⟨k+1,by omega,by omega,LR [13] (hH:=⟨sX (by decide) rfl (by simp [aE]),sW (by decide) rfl,sX (by decide) rfl (by simp [aE]),sX (by decide) (by rw [abD (by omega) (by rw [←hwx];exact ha)];rfl) (Nn.out _),aAD (by decide),trivial⟩)⟩
    ·have hk:k=(dH xs q.1).length:=by have h0:=of_decide_eq_false hb;omega
     subst hk
     have hdis:gP xs=((eW (cE (aX q.1) (bD xs q.1)) (dH xs q.1) (dH xs q.1).length),0):=by
      unfold gP
      rw [hall]
      rw [if_neg (fun h=>h rfl),if_neg (fun ⟨t,h1,h2⟩=>h2 (hin t h1)),abC]
     refine bU ?_
     refine sq ?_
     refine bG ?_
     refine Z1 aB ?_
     refine Z1 aB ?_
     refine cn ?_
     refine bS (Le.freezeI 2 10 (eW (cE (aX q.1) (bD xs q.1)) (dH xs q.1) (dH xs q.1).length) (by rw [sR];rfl) rfl) ?_
     refine aP ?_
     exact ⟨.inl rfl,by rw [aIG hdis];exact aF.two rfl (aT.tmp rfl) (aT.tmp rfl),trivial⟩
end Go.Proofs.YtnklgkjfoggpbaaGreatDoor
