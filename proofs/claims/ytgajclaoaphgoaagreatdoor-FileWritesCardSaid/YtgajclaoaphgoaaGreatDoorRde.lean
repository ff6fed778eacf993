/- Parts of the proof of a law of this seat: rules and contracts; no conditions. -/
import Derived.Test.YtgajclaoaphgoaaGreatDoorVa
import Derived.Test.YtgajclaoaphgoaaGreatDoorWireP
import Derived.Test.YtgajclaoaphgoaaGreatDoorFo
import Derived.Test.YtgajclaoaphgoaaGreatDoorMp
import Derived.Test.YtgajclaoaphgoaaGreatDoorProg
import Derived.KernelRfl
import Derived.Test.YtgajclaoaphgoaaGreatDoorCr
import Derived.Test.YtgajclaoaphgoaaGreatDoorFi
import Derived.Test.YtgajclaoaphgoaaGreatDoorPh
import Derived.Test.YtgajclaoaphgoaaGreatDoorVp
import Derived.Test.YtgajclaoaphgoaaGreatDoorWa
set_option maxHeartbeats 6400000
set_option maxRecDepth 100000
set_option linter.unusedVariables false
set_option linter.unusedSimpArgs false
namespace Go.Proofs.YtgajclaoaphgoaaGreatDoor
open Go.RowKit
instance (l:List bK):Nn (cT l):=⟨fun Z=>aP1 l⟩
theorem acB (xs:List Int)(L:List fR)(e:fR):jC (mQ xs (L++[e]))=(jC (mQ xs L)).put (kI (e.1:Int)) aDN:=by
 unfold mQ;rw [List.map_append,←List.cons_append];exact aIF _ _
theorem acC (xs:List Int)(L:List fR):(mQ xs L).length=L.length+1:=by simp [mQ]
theorem aIG {a b:List bK × Nat}(h:a=b):Av.tup [iU a.1,vi (a.2:Int)]=.tup [iU b.1,vi (b.2:Int)]:=by rw [h]
theorem aP2 (E:Env)(v:Value)(h:aA E (.val (.slice none 0 0)) v):aA E (iU []) v:=qI (k:=2) E v h
theorem acD (xs:List Int)(hby:dF xs)(hl:xs.length≤10000000):PC Tryz.prog 120 [bs xs] (.tup [iU (gP xs).1,vi ((gP xs).2:Int)]):=by
 refine FB 14 134 Tryz.func120 ?_;refine G ?_;refine Z2 (xJ (k:=3) (e:=4) 0 rfl (by kernel_rfl)) ?_;refine G ?_;refine fP rfl rfl (aIH (D:=.map []) (k:=3) (e:=4) (Go.Maps.int_keyed Tryz.underlying3) (Go.Maps.keyOf_int_mk Tryz.underlying3 (mN (c:=(xs.length:Int)) (by omega))) (by decide)) ⟨rfl,trivial⟩ ?_;refine G ?_;refine bS (Le.nameNil 4 1 2 158 rfl rfl) ?_;refine bS (Le.nameNil 5 2 1 3 rfl rfl) ?_
 refine bM (ι:=List fR × Nat) (fun q=>⟨[(0,bs xs),(4,.osl 2 1 (q.1.map fun e=>e.2.1).length),(5,.osl 1 2 (q.1.map fun e=>(e.2.2:Int)).length),(6,.mp 0),(7,vi (q.2:Int))],[(0,.map Tryz.prog 3 4 (jC (mQ xs q.1))),(1,.live 158 (cT (q.1.map fun e=>e.2.1))),(2,.live 3 ((q.1.map fun e=>(e.2.2:Int)).map vi)),(3,.unborn),(4,.unborn),(5,.unborn),(6,.unborn),(7,.unborn),(8,.unborn),(9,.unborn),(10,.unborn),(11,.unborn),(12,.unborn),(13,.unborn)]⟩) (fun q=>q.2≤xs.length∧oN xs.length 0 q.1 q.2∧∃ f,xs.length≤q.2+f∧jB xs f q.2 q.1=jB xs xs.length 0 []) (fun q=>xs.length-q.2) ([],0) (⟨Nat.zero_le _,rfl,xs.length,by omega,rfl⟩) (LS) ?_
 intro q hI;obtain ⟨hq1,hq2,f,hf1,hf2⟩:=hI;have hcl:=aH4 hq2;refine Gd (fun hb=>?_) fun hb=>?_
 ·have hlt:q.2<xs.length:=by have h0:=of_decide_eq_true hb;omega
  obtain ⟨f,rfl⟩:∃ g,f=g+1:=⟨f-1,by omega⟩
  have hdl:jB xs (f+1) q.2 q.1=if (cO xs q.2).2.2≠0 then ([],(cO xs q.2).2.2) else jB xs f (cO xs q.2).2.1 (q.1++[(q.2,(cO xs q.2).1,(cO xs q.2).2.1)]):=by show (if _ then _ else _)=_;rw [if_pos hlt]
  refine C (ab8 xs hby q.2 (by omega)) ?_;refine Z2 (al 12 [.int .i64 0,.int .i64 0]) ?_;refine bW [_,_] ?_;refine Gd (fun hb=>?_) fun hb=>?_
  ·have he:(cO xs q.2).2.2≠0:=by simpa using hb
   rw [if_pos he] at hdl;have hd:gP xs=([],(cO xs q.2).2.2):=by unfold gP;rw [←hf2,hdl];exact if_pos he
   refine G ?_;exact ⟨.inl rfl,by rw [aIG hd];exact aF.two rfl (aT.to (aT.tmp rfl) aP2) (aT.tmp rfl),trivial⟩
  have he:(cO xs q.2).2.2=0:=by simpa using hb
  rw [if_neg (by rw [he];decide)] at hdl;have hf3:jB xs f (cO xs q.2).2.1 (q.1++[(q.2,(cO xs q.2).1,(cO xs q.2).2.1)])=jB xs xs.length 0 []:=by rw [←hdl];exact hf2
  obtain ⟨g1,g2,g3,g4⟩:=aPJ hby he;have hsz:=(aDM (mQ xs q.1)).2.1;rw [acC] at hsz;refine G ?_;refine fP rfl rfl (aIH (D:=jC (mQ xs q.1)) (k:=3) (e:=4) (Go.Maps.int_keyed Tryz.underlying3) (Go.Maps.keyOf_int_mk Tryz.underlying3 (mN (c:=(q.2:Int)) (by omega))) (by unfold maxLen;omega)) ⟨rfl,trivial⟩ ?_;refine G ?_;refine Z1 (OC.to (fO (ps:=[.tmp 43]) (xs:=[.agg _]) (e:=158) (k:=2) (by_:=16) (zs:=[.int .i64 0,.int .i64 0]) rfl (by kernel_rfl) (by kernel_rfl) rfl rfl rfl (by decide) (by decide)) (zW [(cO xs q.2).1])) ?_
  refine aZ rfl rfl (iG (e:=158) (k:=2) (by_:=16) (zs:=[.int .i64 0,.int .i64 0]) (cs:=(cT (q.1.map fun e=>e.2.1))) (ds:=cT [(cO xs q.2).1]) 3 rfl rfl rfl (by kernel_rfl) (by kernel_rfl) rfl (by decide) (by decide) (by rw [oO]) (by rw [oO]) (ae3 _) (by rw [List.length_map];simp only [List.length_cons,List.length_nil];omega) (by rw [List.length_map];simp only [List.length_cons,List.length_nil];omega)) ⟨rfl,rfl,trivial⟩ ?_;refine G ?_
  refine Z1 (fO (ps:=[.tmp 47]) (xs:=[.val _]) (e:=3) (k:=1) (by_:=8) (zs:=[.int .i64 0]) rfl (by kernel_rfl) (by kernel_rfl) rfl rfl rfl (by decide) (by decide)) ?_;refine aZ rfl rfl (iG (e:=3) (k:=1) (by_:=8) (zs:=[.int .i64 0]) (cs:=((q.1.map fun e=>(e.2.2:Int)).map vi)) (ds:=[vi ((cO xs q.2).2.1:Int)]) 4 rfl rfl rfl (by kernel_rfl) (by kernel_rfl) rfl (by decide) (by decide) (by simp) rfl (aP3 _) (by rw [List.length_map];omega) (by rw [List.length_map];omega)) ⟨rfl,rfl,trivial⟩ ?_;refine G ?_
  exact ⟨(q.1++[(q.2,(cO xs q.2).1,(cO xs q.2).2.1)],(cO xs q.2).2.1),⟨g2,aH3 (x:=(q.2,(cO xs q.2).1,(cO xs q.2).2.1)) hq2 rfl g1 g2 g3 g4,f,by show _≤(cO xs q.2).2.1+f;omega,hf3⟩,by show _-(cO xs q.2).2.1<_;omega,Le.trans (LT (τ:=⟨[(0,bs xs),(4,.osl 2 1 ((q.1++[(q.2,(cO xs q.2).1,(cO xs q.2).2.1)]).map fun e=>e.2.1).length),(5,.osl 1 4 ((q.1.map fun e=>(e.2.2:Int)).length+1)),(6,.mp 0),(7,vi ((cO xs q.2).2.1:Int))],[(0,.map Tryz.prog 3 4 (jC (mQ xs (q.1++[(q.2,(cO xs q.2).1,(cO xs q.2).2.1)])))),(1,.live 158 (cT ((q.1++[(q.2,(cO xs q.2).1,(cO xs q.2).2.1)]).map fun e=>e.2.1))),(2,.dead),(3,.unborn),(4,.live 3 (((q.1++[(q.2,(cO xs q.2).1,(cO xs q.2).2.1)]).map fun e=>(e.2.2:Int)).map vi)),(5,.unborn),(6,.unborn),(7,.unborn),(8,.unborn),(9,.unborn),(10,.unborn),(11,.unborn),(12,.unborn),(13,.unborn)]⟩) 1 3 [3,5,6,7,8,9,10,11,12,13] (hh:=⟨aDO (by decide) (by decide) (by decide) (by rw [acB];rfl),mF (by rw [List.map_append,aAC];rfl) (Nn.out _),aP4 (by decide) (by decide) (by decide) rfl,iD (by decide) (by decide),iJ (by decide) (by decide) (by decide) (by rw [List.map_append,List.map_append];rfl) (Nn.out _),by repeat (first|exact trivial|refine ⟨iD (by decide) (by decide),?_⟩)⟩)) (LT 2 4 [3,4,5,6,7,8,9,10,11,12,13])⟩
 have hge:q.2=xs.length:=by have h0:=of_decide_eq_false hb;omega
 have hall:jB xs xs.length 0 []=(q.1,0):=by
  rw [←hf2];cases f with
  | zero=>rfl
  | succ f=>show (if _ then _ else _)=_;rw [if_neg (by omega)]
 rw [hge] at hq2;have hnd:(bD xs q.1).Nodup:=(aPK hq2).1;have hPl:(bD xs q.1).length=q.1.length+1:=by simp [bD]
 have hcl2:q.1.length≤xs.length:=by omega
 have hCl:(q.1.map fun e=>e.2.1).length=q.1.length:=by simp
 have hp0:(bD xs q.1).getD 0 0=0:=abG hq2;have hob:=aPN hq2 hcl2;refine bU ?_;refine aD ?_;refine bS (Le.freezeI 4 1 (q.1.map fun e=>e.2.1) rfl rfl) ?_;refine bS (Le.freeze 5 2 (fun j=>vi ((q.1.map fun e=>(e.2.2:Int)).getD j 0)) rfl rfl (by simp) (aUH _)) ?_;refine G ?_;refine Z2 (xJ (k:=3) (e:=4) 5 rfl (by kernel_rfl)) ?_;refine Z2 (al 6 [.map none]) ?_;refine fP rfl rfl (lG (y:=Av.mp 5) (cs':=[Av.mp 5]) rfl rfl rfl (by kernel_rfl) (by kernel_rfl) aP5 (by decide) rfl) ⟨rfl,trivial⟩ ?_;refine G ?_
 refine bM (ι:=Nat) (fun k=>⟨[(0,bs xs),(5,aK (q.1.map fun e=>(e.2.2:Int))),(6,.mp 0),(4,iU (q.1.map fun e=>e.2.1)),(11,.own 6 0),(52,iU (q.1.map fun e=>e.2.1)),(53,vi ((q.1.map fun e=>e.2.1).length:Int)),(54,vi k)],[(0,.map Tryz.prog 3 4 (jC (mQ xs q.1))),(5,.map Tryz.prog 3 4 (jC (aX (q.1.take k)))),(6,.live 209 [.mp 5]),(7,.unborn),(8,.unborn),(9,.unborn),(10,.unborn),(11,.unborn),(12,.unborn),(13,.unborn)]⟩) (fun k=>k≤(q.1.map fun e=>e.2.1).length∧∀ t∈aX (q.1.take k),t∈mQ xs q.1) (fun k=>(q.1.map fun e=>e.2.1).length-k) 0 (⟨Nat.zero_le _,fun t ht=>by cases ht⟩) (LS) ?_
 intro k hI;refine Gd (fun hb=>?_) fun hb=>?_
 ·have hk:k<(q.1.map fun e=>e.2.1).length:=by have h0:=of_decide_eq_true hb;omega
  have hkE:k<(q.1.map fun e=>(e.2.2:Int)).length:=by simpa using hk
  have hx1:((q.1.map fun e=>e.2.1).getD k aI)=(q.1.getD k (0,aI,0)).2.1:=aDG (fun e:fR=>e.2.1) (0,aI,0) aI (by simpa using hk);have hx2:((q.1.map fun e=>(e.2.2:Int)).getD k 0)=((q.1.getD k (0,aI,0)).2.2:Int):=aDG (fun e:fR=>(e.2.2:Int)) (0,aI,0) 0 (by simpa using hk);have hat:=aDF hq2 k (by simpa using hk);rw [←hx1,←hx2] at hat;obtain ⟨hp1,hp2,hp3,hp4,hp5⟩:=hat;have hpe:(bD xs q.1).getD (k+1) 0=((q.1.map fun e=>(e.2.2:Int)).getD k 0):=hp2;have htk:=aa9 (L:=q.1) (k:=k) (by simpa using hk)
  have htl:=Nat.le_trans (abA (q.1.take k)) (by rw [List.length_take];exact Nat.min_le_right _ _:_≤q.1.length);have hsz:=(aDM (aX (q.1.take k))).2.1;refine aQ ?_;refine aD ?_;refine aU ?_;refine sq ?_;refine Z1 mo ?_;refine Z1 ia ?_;refine Z1 lr ?_;refine Z2 (al 13 [.int .i64 0,.int .i64 0]) ?_;refine Z1 aB ?_;refine bW [_,_] ?_;refine cn ?_;refine sq ?_;refine Ylw 2 [_,_] ?_;refine Z1 (ca (aIC ((q.1.map fun e=>e.2.1).getD k aI))) ?_;refine cn ?_;refine cd (fun hb=>?_) fun hb=>?_
  ·have ha:nL (q.1.getD k (0,aI,0)).2.1=true:=by rw [←hx1];exact hb
   refine G ?_;refine eL (R:=[(_,.map _ _ _ _)]) rfl rfl (aPZ (k:=3) (e:=4) (Go.Maps.int_keyed Tryz.underlying3) (Go.Maps.keyOf_int_mk Tryz.underlying3 (mN (c:=(((q.1.map fun e=>(e.2.2:Int)).getD k 0)+((q.1.map fun e=>e.2.1).getD k aI).2)) (by omega))) ((aDM (mQ xs q.1)).2.2 (((q.1.map fun e=>(e.2.2:Int)).getD k 0)+((q.1.map fun e=>e.2.1).getD k aI).2))) ⟨rfl,trivial⟩ ?_;refine Gd (fun hb=>?_) fun hb=>?_
   ·have hbg:(((q.1.map fun e=>(e.2.2:Int)).getD k 0)+((q.1.map fun e=>e.2.1).getD k aI).2)∉mQ xs q.1:=by simpa using hb
    have hd:gP xs=([],5):=by
     unfold gP;rw [hall];rw [if_neg (fun h=>h rfl),if_pos];exact ⟨_,abB (by simpa using hk) ha,by rw [←hx1,←hx2];exact hbg⟩
    refine G ?_;exact ⟨.inl rfl,by rw [aIG hd];exact aF.two rfl (aT.to (aT.tmp rfl) aP2) (aT.tmp rfl),trivial⟩
   have hbg:(((q.1.map fun e=>(e.2.2:Int)).getD k 0)+((q.1.map fun e=>e.2.1).getD k aI).2)∈mQ xs q.1:=by simpa using hb
   refine G ?_;refine fP rfl rfl (aIH (D:=jC (aX (q.1.take k))) (k:=3) (e:=4) (Go.Maps.int_keyed Tryz.underlying3) (Go.Maps.keyOf_int_mk Tryz.underlying3 (mN (c:=(((q.1.map fun e=>(e.2.2:Int)).getD k 0)+((q.1.map fun e=>e.2.1).getD k aI).2)) (by omega))) (by unfold maxLen;omega)) ⟨rfl,trivial⟩ ?_;refine G ?_
   exact ⟨k+1,⟨by omega,fun t ht=>by rw [htk,if_pos ha] at ht;rcases List.mem_append.1 ht with ht|ht;exact hI.2 t ht;rw [List.mem_singleton] at ht;rw [ht,←hx1,←hx2];exact hbg⟩,by omega,LR [13] (hH:=⟨sW (by decide) rfl,sW (by decide) (by rw [htk,if_pos ha,←hx1,←hx2,aIF];rfl),by repeat (first|exact trivial|refine ⟨aAD (by decide),?_⟩|refine ⟨sX (by decide) rfl (by simp [aE]),?_⟩|refine ⟨sW (by decide) rfl,?_⟩)⟩)⟩
  have ha:nL (q.1.getD k (0,aI,0)).2.1=false:=by rw [←hx1];exact hb
  refine G ?_;exact ⟨k+1,⟨by omega,fun t ht=>by rw [htk,if_neg (by rw [ha];decide)] at ht;exact hI.2 t ht⟩,by omega,LR [13] (hH:=⟨sW (by decide) rfl,sW (by decide) (by rw [htk,if_neg (by rw [ha];decide)];rfl),by repeat (first|exact trivial|refine ⟨aAD (by decide),?_⟩|refine ⟨sX (by decide) rfl (by simp [aE]),?_⟩|refine ⟨sW (by decide) rfl,?_⟩)⟩)⟩
 have hk:k=(q.1.map fun e=>e.2.1).length:=by have h0:=of_decide_eq_false hb;omega
 subst hk;have htt:aX (q.1.take (q.1.map fun e=>e.2.1).length)=aX q.1:=by rw [List.length_map,List.take_length]
 rw [htt] at hI ⊢;have hin:=hI.2;refine G ?_;refine Z2 (al 7 [.slice none 0 0]) ?_;refine G ?_;refine Z2 (xJ (k:=3) (e:=3) 8 rfl (by kernel_rfl)) ?_;refine Z2 (al 9 [.map none]) ?_;refine fP rfl rfl (lG (y:=Av.mp 8) (cs':=[Av.mp 8]) rfl rfl rfl (by kernel_rfl) (by kernel_rfl) aP5 (by decide) rfl) ⟨rfl,trivial⟩ ?_;refine G ?_;refine Z1 (qC (cs:=[.own _ _,.own _ _,.own _ _]) rfl rfl) ?_;refine G ?_;refine bS (Le.nameNilCell 7 0 10 2 158 rfl rfl rfl (by decide)) ?_
 refine bM (ι:=Nat) (fun k=>⟨[(0,bs xs),(5,aK (q.1.map fun e=>(e.2.2:Int))),(14,.own 7 0),(15,.own 9 0),(16,.clo 181 [.own 6 0,.own 9 0,.own 7 0]),(17,vi ((bD xs q.1).getD k 0)),(82,iU (q.1.map fun e=>e.2.1)),(83,vi ((q.1.map fun e=>e.2.1).length:Int)),(84,vi k)],[(5,.map Tryz.prog 3 4 (jC (aX q.1))),(6,.live 209 [.mp 5]),(7,.live 154 [.osl 2 10 (kH (aX q.1) (bD xs q.1) q.1 k).length]),(8,.map Tryz.prog 3 3 (kB (cE (aX q.1) ((bD xs q.1).take k)))),(9,.live 213 [.mp 8]),(10,.live 158 (cT (kH (aX q.1) (bD xs q.1) q.1 k))),(11,.unborn),(12,.unborn),(13,.unborn)]⟩) (fun k=>k≤(q.1.map fun e=>e.2.1).length) (fun k=>(q.1.map fun e=>e.2.1).length-k) 0 (Nat.zero_le _) (LS (hs:=⟨.inr rfl,.inr rfl,.inr rfl,.inr rfl,.inr rfl,.inr (aR hp0.symm),.inr rfl,.inr rfl,.inr rfl,trivial⟩)) ?_
 intro k hI;refine Gd (fun hb=>?_) fun hb=>?_
 ·have hk:k<(q.1.map fun e=>e.2.1).length:=by have h0:=of_decide_eq_true hb;omega
  have hkE:k<(q.1.map fun e=>(e.2.2:Int)).length:=by simpa using hk
  have hx1:((q.1.map fun e=>e.2.1).getD k aI)=(q.1.getD k (0,aI,0)).2.1:=aDG (fun e:fR=>e.2.1) (0,aI,0) aI (by simpa using hk);have hx2:((q.1.map fun e=>(e.2.2:Int)).getD k 0)=((q.1.getD k (0,aI,0)).2.2:Int):=aDG (fun e:fR=>(e.2.2:Int)) (0,aI,0) 0 (by simpa using hk);have hat:=aDF hq2 k (by simpa using hk);rw [←hx1,←hx2] at hat;obtain ⟨hp1,hp2,hp3,hp4,hp5⟩:=hat;have hpe:(bD xs q.1).getD (k+1) 0=((q.1.map fun e=>(e.2.2:Int)).getD k 0):=hp2;have hk1:k<q.1.length:=by simpa using hk
  have hN:=aDC (aX q.1) (bD xs q.1) k;have hO:=aDE (aX q.1) (bD xs q.1) q.1 k;have hLS:=aDD (aX q.1) (cE (aX q.1) ((bD xs q.1).take k)) ((bD xs q.1).getD k 0);have hne:=aPG (aX q.1) (P:=(bD xs q.1)) (k:=k) (by omega);have hOS:((kH (aX q.1) (bD xs q.1) q.1 k)++jQ (aX q.1) (cE (aX q.1) ((bD xs q.1).take k)) ((bD xs q.1).getD k 0)).length≤2*k+1:=by rw [List.length_append];omega
  have hpk:(bD xs q.1).getD k 0=(((q.1.getD k (0,aI,0)).1:Nat):Int):=hp1;refine G ?_;refine Z2 (al 13 [.int .i64 0,.int .i64 0]) ?_;refine G ?_
  refine aZ rfl rfl (oI [11] rfl rfl (by kernel_rfl) (aPY (aX q.1) (cE (aX q.1) ((bD xs q.1).take k)) (kH (aX q.1) (bD xs q.1) q.1 k) ((bD xs q.1).getD k 0) (by rw [hpk];omega) (aH0 hnd k) (by omega) (by omega)) rfl (by simp) (by simp [bQ]) (by simp) (by simp) (by simp [aO,aH]) ⟨by simp [bJ,aO,aH],trivial,by simp [bJ,aO,aH],trivial,by simp [bJ,aO,aH],lC _,trivial⟩ (by simp [aH]) ⟨by simp [bJ,aO,aH],trivial,by simp [bJ,aO,aH],trivial,by simp [bJ,aO,aH],lC _,trivial⟩) ⟨rfl,rfl,rfl,rfl,rfl,rfl,rfl,trivial⟩ ?_;refine cn ?_;rw [←hne]
  refine bS (LT (τ:=⟨[(0,bs xs),(5,aK (q.1.map fun e=>(e.2.2:Int))),(14,.own 7 0),(15,.own 9 0),(16,.clo 181 [.own 6 0,.own 9 0,.own 7 0]),(82,iU (q.1.map fun e=>e.2.1)),(83,vi ((q.1.map fun e=>e.2.1).length:Int)),(84,vi k),(18,vi k),(19,.own 13 0)],[(5,.map Tryz.prog 3 4 (jC (aX q.1))),(6,.live 209 [.mp 5]),(7,.live 154 [.osl 2 10 ((kH (aX q.1) (bD xs q.1) q.1 k)++jQ (aX q.1) (cE (aX q.1) ((bD xs q.1).take k)) ((bD xs q.1).getD k 0)).length]),(8,.map Tryz.prog 3 3 (kB (cE (aX q.1) ((bD xs q.1).take (k+1))))),(9,.live 213 [.mp 8]),(10,.live 158 (cT ((kH (aX q.1) (bD xs q.1) q.1 k)++jQ (aX q.1) (cE (aX q.1) ((bD xs q.1).take k)) ((bD xs q.1).getD k 0)))),(11,.unborn),(12,.unborn),(13,.live 158 [vi ((q.1.map fun e=>e.2.1).getD k aI).1,vi ((q.1.map fun e=>e.2.1).getD k aI).2])]⟩) 10 11 [11,12]) ?_
  refine C (aIC ((q.1.map fun e=>e.2.1).getD k aI)) ?_
  refine rM (τ:=⟨[(0,bs xs),(5,aK (q.1.map fun e=>(e.2.2:Int))),(14,.own 7 0),(15,.own 9 0),(16,.clo 181 [.own 6 0,.own 9 0,.own 7 0]),(82,iU (q.1.map fun e=>e.2.1)),(83,vi ((q.1.map fun e=>e.2.1).length:Int)),(84,vi k),(18,vi k),(19,.own 13 0)],[(5,.map Tryz.prog 3 4 (jC (aX q.1))),(6,.live 209 [.mp 5]),(7,.live 154 [.osl 2 10 ((kH (aX q.1) (bD xs q.1) q.1 k)++jQ (aX q.1) (cE (aX q.1) ((bD xs q.1).take k)) ((bD xs q.1).getD k 0)).length]),(8,.map Tryz.prog 3 3 (kB (cE (aX q.1) ((bD xs q.1).take (k+1))))),(9,.live 213 [.mp 8]),(10,.live 158 (cT ((kH (aX q.1) (bD xs q.1) q.1 k)++jQ (aX q.1) (cE (aX q.1) ((bD xs q.1).take k)) ((bD xs q.1).getD k 0)))),(11,.unborn),(12,.unborn),(13,.live 158 [vi (mR (q.1.getD k (0,aI,0))).1,vi (mR (q.1.getD k (0,aI,0))).2])]⟩) ?_ ?_
  ·refine cd (fun hb=>?_) fun hb=>?_
   ·have ha:nL (q.1.getD k (0,aI,0)).2.1=true:=by rw [←hx1];exact hb
    have hmv:(mR (q.1.getD k (0,aI,0)))=(((q.1.map fun e=>e.2.1).getD k aI).1,((q.1.map fun e=>e.2.1).getD k aI).2+((q.1.map fun e=>(e.2.2:Int)).getD k 0)):=by unfold mR;rw [ha,hx1,hx2];rfl
    refine G ?_;exact (LS (hh:=⟨rfl,rfl,rfl,rfl,rfl,rfl,rfl,rfl,by rw [hmv];rfl,trivial⟩))
   have ha:nL (q.1.getD k (0,aI,0)).2.1=false:=by rw [←hx1];exact hb
   have hmv:(mR (q.1.getD k (0,aI,0)))=(((q.1.map fun e=>e.2.1).getD k aI).1,((q.1.map fun e=>e.2.1).getD k aI).2):=by unfold mR;rw [ha,hx1];rfl
   refine G ?_;exact (LS (hh:=⟨rfl,rfl,rfl,rfl,rfl,rfl,rfl,rfl,by rw [hmv];rfl,trivial⟩))
  refine G ?_;refine Z1 (OC.to (fO (ps:=[.tmp 103]) (xs:=[.agg _]) (e:=158) (k:=2) (by_:=16) (zs:=[.int .i64 0,.int .i64 0]) rfl (by kernel_rfl) (by kernel_rfl) rfl rfl rfl (by decide) (by decide)) (zW [(mR (q.1.getD k (0,aI,0)))])) ?_
  refine aZ rfl rfl (iG (e:=158) (k:=2) (by_:=16) (zs:=[.int .i64 0,.int .i64 0]) (cs:=cT ((kH (aX q.1) (bD xs q.1) q.1 k)++jQ (aX q.1) (cE (aX q.1) ((bD xs q.1).take k)) ((bD xs q.1).getD k 0))) (ds:=cT [(mR (q.1.getD k (0,aI,0)))]) 11 rfl rfl rfl (by kernel_rfl) (by kernel_rfl) rfl (by decide) (by decide) (by rw [oO]) (by rw [oO]) (ae3 _) (by simp only [List.length_cons,List.length_nil];omega) (by simp only [List.length_cons,List.length_nil];omega)) ⟨rfl,rfl,trivial⟩ ?_;refine cF [_] ?_;refine G ?_
  exact ⟨k+1,by omega,by omega,Le.trans (LT (τ:=⟨[(0,bs xs),(5,aK (q.1.map fun e=>(e.2.2:Int))),(14,.own 7 0),(15,.own 9 0),(16,.clo 181 [.own 6 0,.own 9 0,.own 7 0]),(17,vi ((bD xs q.1).getD (k+1) 0)),(82,iU (q.1.map fun e=>e.2.1)),(83,vi ((q.1.map fun e=>e.2.1).length:Int)),(84,vi ((k+1:Nat):Int))],[(5,.map Tryz.prog 3 4 (jC (aX q.1))),(6,.live 209 [.mp 5]),(7,.live 154 [.osl 2 10 (((kH (aX q.1) (bD xs q.1) q.1 k)++jQ (aX q.1) (cE (aX q.1) ((bD xs q.1).take k)) ((bD xs q.1).getD k 0))++[(mR (q.1.getD k (0,aI,0)))]).length]),(8,.map Tryz.prog 3 3 (kB (cE (aX q.1) ((bD xs q.1).take (k+1))))),(9,.live 213 [.mp 8]),(10,.live 158 (cT (((kH (aX q.1) (bD xs q.1) q.1 k)++jQ (aX q.1) (cE (aX q.1) ((bD xs q.1).take k)) ((bD xs q.1).getD k 0))++[(mR (q.1.getD k (0,aI,0)))]))),(11,.unborn),(12,.unborn),(13,.unborn)]⟩) 10 11 [11,12,13] (hh:=⟨aDO (by decide) (by decide) (by decide) rfl,iJ (by decide) (by decide) (by decide) rfl (by simp [aE]),aAA (by decide) (by decide) (by decide) rfl ⟨xR List.length_append.symm,trivial⟩,aDO (by decide) (by decide) (by decide) rfl,iJ (by decide) (by decide) (by decide) rfl (by simp [aE]),mF (by rw [aAC ((kH (aX q.1) (bD xs q.1) q.1 k)++jQ (aX q.1) (cE (aX q.1) ((bD xs q.1).take k)) ((bD xs q.1).getD k 0)) [(mR (q.1.getD k (0,aI,0)))]];rfl) (Nn.out _),iD (by decide) (by decide),iD (by decide) (by decide),iD (by decide) (by decide),trivial⟩)) LS⟩
 have hk:k=(q.1.map fun e=>e.2.1).length:=by have h0:=of_decide_eq_false hb;omega
 have hk1:k=q.1.length:=by rw [hk,List.length_map]
 subst hk1;clear hk;have hN:=aDC (aX q.1) (bD xs q.1) q.1.length;have hO:=aDE (aX q.1) (bD xs q.1) q.1 q.1.length;have hpz:(bD xs q.1).getD q.1.length 0=(xs.length:Int):=by simp [bD]
 have hoa:kH (aX q.1) (bD xs q.1) q.1 q.1.length++jQ (aX q.1) (cE (aX q.1) ((bD xs q.1).take q.1.length)) (xs.length:Int)=dH xs q.1:=rfl;have hna:xP (aX q.1) (cE (aX q.1) ((bD xs q.1).take q.1.length)) (xs.length:Int)=(cE (aX q.1) (bD xs q.1)):=by rw [←hpz,←aPG (aX q.1) (P:=(bD xs q.1)) (by omega),List.take_of_length_le (by omega)]
 refine G ?_;refine aZ rfl rfl (oI [11] rfl rfl (by kernel_rfl) (aPY (aX q.1) (cE (aX q.1) ((bD xs q.1).take q.1.length)) (kH (aX q.1) (bD xs q.1) q.1 q.1.length) (xs.length:Int) (by omega) (aH0 hnd _) (by omega) (by omega)) rfl (by simp) (by simp [bQ]) (by simp) (by simp) (by simp [aO,aH]) ⟨by simp [bJ,aO,aH],trivial,by simp [bJ,aO,aH],trivial,by simp [bJ,aO,aH],lC _,trivial⟩ (by simp [aH]) ⟨by simp [bJ,aO,aH],trivial,by simp [bJ,aO,aH],trivial,by simp [bJ,aO,aH],lC _,trivial⟩) ⟨rfl,rfl,rfl,rfl,rfl,rfl,rfl,trivial⟩ ?_;refine cn ?_;rw [hna,hoa]
 refine bS (LT (τ:=⟨[(14,.own 7 0),(15,.own 9 0)],[(7,.live 154 [.osl 2 10 (dH xs q.1).length]),(8,.map Tryz.prog 3 3 (kB (cE (aX q.1) (bD xs q.1)))),(9,.live 213 [.mp 8]),(10,.live 158 (cT (eW (cE (aX q.1) (bD xs q.1)) (dH xs q.1) 0))),(13,.unborn)]⟩) 10 11 [11,13]) ?_;have hol:(dH xs q.1).length≤2*q.1.length+1:=by rw [←hoa,List.length_append];have:=aDD (aX q.1) (cE (aX q.1) ((bD xs q.1).take q.1.length)) (xs.length:Int);omega
 refine aD ?_;refine sq ?_;refine bG ?_;refine Z1 sT ?_;refine Z1 mo ?_;refine cn ?_;refine aU ?_;refine bM (ι:=Nat) (fun k=>⟨[(14,.own 7 0),(15,.own 9 0),(115,.osl 2 10 (dH xs q.1).length),(116,vi ((dH xs q.1).length:Int)),(117,vi k)],[(7,.live 154 [.osl 2 10 (dH xs q.1).length]),(8,.map Tryz.prog 3 3 (kB (cE (aX q.1) (bD xs q.1)))),(9,.live 213 [.mp 8]),(10,.live 158 (cT (eW (cE (aX q.1) (bD xs q.1)) (dH xs q.1) k))),(13,.unborn)]⟩) (fun k=>k≤(dH xs q.1).length) (fun k=>(dH xs q.1).length-k) 0 (Nat.zero_le _) (LS) ?_;intro k hI;refine sq ?_
 refine Z1 bz ?_;refine cn ?_;refine aD ?_;refine cd (fun hb=>?_) fun hb=>?_
 ·have hk:k<(dH xs q.1).length:=by have h0:=of_decide_eq_true hb;omega
  have hwl:=sR (cE (aX q.1) (bD xs q.1)) (dH xs q.1) k;have hwx:((eW (cE (aX q.1) (bD xs q.1)) (dH xs q.1) k).getD k aI)=(dH xs q.1).getD k aI:=by rw [aDH,if_neg (by omega)]
  refine aQ ?_;refine aD ?_;refine aU ?_;refine sq ?_;refine Z1 mo ?_;refine eL (R:=[(_,.live _ _)]) rfl rfl (vL (t:=158) (cs:=cT (eW (cE (aX q.1) (bD xs q.1)) (dH xs q.1) k)) (j:=k*2) rfl rfl rfl (by kernel_rfl) (by omega) (by omega) (by omega)) ⟨rfl,trivial⟩ ?_
  refine eL (R:=[(_,.live _ _)]) rfl rfl (mA (t:=158) (cs:=cT (eW (cE (aX q.1) (bD xs q.1)) (dH xs q.1) k)) (k:=2) (ds:=[vi ((eW (cE (aX q.1) (bD xs q.1)) (dH xs q.1) k).getD k aI).1,vi ((eW (cE (aX q.1) (bD xs q.1)) (dH xs q.1) k).getD k aI).2]) rfl rfl (by kernel_rfl) (by kernel_rfl) (abE (by omega)) rfl (by decide)) ⟨rfl,trivial⟩ ?_;refine Z2 (al 13 [.int .i64 0,.int .i64 0]) ?_;refine Z1 aB ?_;refine bW [_,_] ?_;refine cn ?_;refine sq ?_;refine Ylw 2 [_,_] ?_;refine Z1 (ca (aIC ((eW (cE (aX q.1) (bD xs q.1)) (dH xs q.1) k).getD k aI))) ?_;refine cn ?_
  refine cd (fun hb=>?_) fun hb=>?_
  ·have ha:nL ((eW (cE (aX q.1) (bD xs q.1)) (dH xs q.1) k).getD k aI)=true:=hb;have hnw:(eW (cE (aX q.1) (bD xs q.1)) (dH xs q.1) (k+1))=(eW (cE (aX q.1) (bD xs q.1)) (dH xs q.1) k).set k (((eW (cE (aX q.1) (bD xs q.1)) (dH xs q.1) k).getD k aI).1,(rQ (cE (aX q.1) (bD xs q.1)) ((eW (cE (aX q.1) (bD xs q.1)) (dH xs q.1) k).getD k aI).2:Int)):=by
    show (eW (cE (aX q.1) (bD xs q.1)) (dH xs q.1) k).set k (rP (cE (aX q.1) (bD xs q.1)) ((dH xs q.1).getD k aI))=_;rw [←hwx];unfold rP;rw [ha];rfl
   refine G ?_;refine eL (R:=[(_,.map _ _ _ _)]) rfl rfl (aCG (k:=3) (e:=3) (Go.Maps.int_keyed Tryz.underlying3) rfl rfl rfl (by kernel_rfl) (by kernel_rfl) (by kernel_rfl) (Go.Maps.keyOf_int_mk Tryz.underlying3 (mN (by rw [hwx];have:=aPO (by omega) (by omega) hob k;omega))) ((aP0 (cE (aX q.1) (bD xs q.1)) (by have:=aH0 (T:=(aX q.1)) hnd ((bD xs q.1).length);rwa [List.take_length] at this)).2.2.2 ((eW (cE (aX q.1) (bD xs q.1)) (dH xs q.1) k).getD k aI).2)) ⟨rfl,trivial⟩ ?_
   refine eL (R:=[(_,.live _ _)]) rfl rfl (vL (t:=158) (cs:=cT (eW (cE (aX q.1) (bD xs q.1)) (dH xs q.1) k)) (j:=k*2) rfl rfl rfl (by kernel_rfl) (by omega) (by omega) (by omega)) ⟨rfl,trivial⟩ ?_;refine eL (R:=[(_,.live _ _)]) rfl rfl (eU (t:=158) (cs:=cT (eW (cE (aX q.1) (bD xs q.1)) (dH xs q.1) k)) (off:=1) (sz:=1) (r:=false) rfl rfl (by rw [oO];omega) (by kernel_rfl) (by decide)) ⟨rfl,trivial⟩ ?_
   refine fP rfl rfl (lG (t:=158) (cs:=cT (eW (cE (aX q.1) (bD xs q.1)) (dH xs q.1) k)) (y:=vi (rQ (cE (aX q.1) (bD xs q.1)) ((eW (cE (aX q.1) (bD xs q.1)) (dH xs q.1) k).getD k aI).2:Int)) (cs':=cT ((eW (cE (aX q.1) (bD xs q.1)) (dH xs q.1) k).set k (((eW (cE (aX q.1) (bD xs q.1)) (dH xs q.1) k).getD k aI).1,(rQ (cE (aX q.1) (bD xs q.1)) ((eW (cE (aX q.1) (bD xs q.1)) (dH xs q.1) k).getD k aI).2:Int)))) rfl rfl rfl (by kernel_rfl) (by kernel_rfl) oH (by rw [oO];omega) abF) ⟨rfl,trivial⟩ ?_;refine G ?_
   exact ⟨k+1,by omega,by omega,LR [13] (hH:=⟨sX (by decide) rfl (by simp [aE]),sW (by decide) rfl,sX (by decide) rfl (by simp [aE]),sX (by decide) (by rw [hnw];rfl) (Nn.out _),aAD (by decide),trivial⟩)⟩
  have ha:nL ((eW (cE (aX q.1) (bD xs q.1)) (dH xs q.1) k).getD k aI)=false:=hb;refine G ?_;exact ⟨k+1,by omega,by omega,LR [13] (hH:=⟨sX (by decide) rfl (by simp [aE]),sW (by decide) rfl,sX (by decide) rfl (by simp [aE]),sX (by decide) (by rw [abD (by omega) (by rw [←hwx];exact ha)];rfl) (Nn.out _),aAD (by decide),trivial⟩)⟩
 have hk:k=(dH xs q.1).length:=by have h0:=of_decide_eq_false hb;omega
 subst hk;have hdis:gP xs=((eW (cE (aX q.1) (bD xs q.1)) (dH xs q.1) (dH xs q.1).length),0):=by
  unfold gP;rw [hall];rw [if_neg (fun h=>h rfl),if_neg (fun ⟨t,h1,h2⟩=>h2 (hin t h1)),abC]
 refine bU ?_;refine sq ?_;refine bG ?_;refine Z1 aB ?_;refine Z1 aB ?_;refine cn ?_;refine bS (Le.freezeI 2 10 (eW (cE (aX q.1) (bD xs q.1)) (dH xs q.1) (dH xs q.1).length) (by rw [sR];rfl) rfl) ?_;refine G ?_;exact ⟨.inl rfl,by rw [aIG hdis];exact aF.two rfl (aT.tmp rfl) (aT.tmp rfl),trivial⟩
def nP (s:StoryP)(i:Nat):Int:=s.entry.getD i 0
def qT (s:StoryP)(i:Nat):Int:=if i+1<s.entry.length then s.entry.getD (i+1) 0 else (s.code.length:Int)
def fU (s:StoryP)(i:Nat):List Int × Bool:=if (nP s i<0∨qT s i >(s.code.length:Int))∨nP s i>qT s i then ([],false) else ((s.code.drop (nP s i).toNat).take ((qT s i).toNat-(nP s i).toNat),true)
def aFA (s:StoryP)(i:Nat)(x:bK):Bool:=(x.1==5||x.1==6)&&(decide (x.2<0)||decide (x.2≥s.tab.locals.getD i 0))
def jS (s:StoryP)(i:Nat):Int:=
 if ¬ (i<s.entry.length∧i<s.tab.locals.length) then 11
 else if (fU s i).2=false then 5
 else if (gP (fU s i).1).2≠0 then ((gP (fU s i).1).2:Int)
 else if (gP (fU s i).1).1.any (aFA s i)=true then 5
 else (wA s.tab (gP (fU s i).1).1).2
def pT (s:StoryP):Nat→Nat→Int × Int
 | 0,_=>(0,0)
 | f+1,k=>if k<s.entry.length then (if jS s k≠0 then ((k:Int),jS s k) else pT s f (k+1)) else (0,0)
def wC (s:StoryP):Prop:=((s.entry.length≠s.tab.params.length∨s.entry.length≠s.tab.locals.length)∨0<s.entry.length∧s.entry.getD 0 0≠0)∨s.entry.length=0∧0<s.code.length
instance (s:StoryP):Decidable (wC s):=by unfold wC;infer_instance
def gV (s:StoryP):Int × Int:=if wC s then (-1,7) else pT s s.entry.length 0
theorem mV {xs:List Int}:dF xs↔∀ x∈xs,0≤x∧x<256:=by
 refine ⟨fun h x hx=>?_,fun h j=>?_⟩
 ·obtain ⟨j,hj,rfl⟩:=List.mem_iff_getElem.1 hx;have:=h j;rwa [List.getD,List.getElem?_eq_getElem hj] at this
 rcases Nat.lt_or_ge j xs.length with hj|hj
 ·rw [List.getD,List.getElem?_eq_getElem hj];exact h _ (List.getElem_mem hj)
 rw [List.getD,List.getElem?_eq_none hj];exact ⟨by decide,by decide⟩
theorem aiG {s:StoryP}(h:dF s.code)(i:Nat):dF (fU s i).1:=by
 unfold fU;split
 ·exact mV.2 fun x hx=>by cases hx
 exact mV.2 fun x hx=>mV.1 h x (List.mem_of_mem_drop (List.mem_of_mem_take hx))
theorem aiH (s:StoryP)(i:Nat):(fU s i).1.length≤s.code.length:=by
 unfold fU;split
 ·exact Nat.zero_le _
 show (List.take _ _).length≤_;rw [List.length_take,List.length_drop];omega
theorem aTB {a b:List Int × Bool}(h:a=b):Av.tup [bs a.1,vb a.2]=.tup [bs b.1,vb b.2]:=by rw [h]
theorem aI0 (E:Env)(v:Value)(h:aA E (.val (.slice none 0 0)) v):aA E (bs []) v:=uA (by decide) E v h
theorem aiJ {l:List bK}{p:bK→Bool}{k:Nat}(hk:k<l.length)(h:p (l.getD k aI)=true):l.any p=true:=by
 rw [List.getD,List.getElem?_eq_getElem hk] at h;exact List.any_eq_true.2 ⟨_,List.getElem_mem hk,h⟩
theorem aiK {l:List bK}{p:bK→Bool}(h:∀ j,j<l.length→p (l.getD j aI)=false):¬ l.any p=true:=fun hc=>by
 obtain ⟨x,hx,h2⟩:=List.any_eq_true.1 hc;obtain ⟨j,hj,rfl⟩:=List.mem_iff_getElem.1 hx;have h3:=h j hj;rw [List.getD,List.getElem?_eq_getElem hj] at h3;rw [show l[j]=(some l[j]).getD aI from rfl,h3] at h2;cases h2
theorem aiL (s:StoryP)(i:Nat)(hi:i<s.entry.length)(hel:s.entry.length≤1000000000000000):PC Tryz.prog 119 [cX s,vi (i:Int)] (.tup [bs (fU s i).1,vb (fU s i).2]):=by
 refine FB 2 47 Tryz.func119 ?_;refine G ?_;refine rM (τ:=⟨[(1,vi (i:Int)),(2,.ptr (cX s)),(6,vi (nP s i)),(7,vi (qT s i))],[]⟩) ?_ ?_
 ·refine cd (fun hb=>?_) fun hb=>?_
  ·have h30:i+1<s.entry.length:=by have h0:=of_decide_eq_true hb;omega
   refine G ?_;exact Le.sub ⟨.inr rfl,.inr rfl,.inr rfl,.inr (aR (by unfold qT;first|rw [if_pos h30]|rw [if_neg h30])),trivial⟩ trivial
  have h30:¬ i+1<s.entry.length:=by have h0:=of_decide_eq_false hb;omega
  refine G ?_;exact Le.sub ⟨.inr rfl,.inr rfl,.inr rfl,.inr (aR (by unfold qT;first|rw [if_pos h30]|rw [if_neg h30])),trivial⟩ trivial
 refine Gd (fun hb=>?_) fun hb=>?_
 ·have hrg:(nP s i<0∨qT s i >(s.code.length:Int))∨nP s i>qT s i:=by simpa only [Bool.or_eq_true,decide_eq_true_eq] using hb
  refine G ?_;exact ⟨.inl rfl,by rw [aTB (show fU s i=([],false) from by unfold fU;exact if_pos hrg)];exact aF.two rfl (aT.to (aT.tmp rfl) aI0) (aT.tmp rfl),trivial⟩
 have hrg:¬ ((nP s i<0∨qT s i >(s.code.length:Int))∨nP s i>qT s i):=by
  rw [Bool.or_eq_false_iff,Bool.or_eq_false_iff] at hb;simp only [decide_eq_false_iff_not] at hb;omega
 refine G ?_;refine Z1 (OC.to (aC2 (e:=5) (by_:=1) (zs:=[.int .u8 0]) (nP s i).toNat (qT s i).toNat rfl rfl (aR (by omega)) (aR (by omega)) (by kernel_rfl) (by kernel_rfl) (by omega) (by omega)) (aiI (by omega) (by omega))) ?_;refine G ?_;exact ⟨.inl rfl,by rw [aTB (show fU s i=(_,true) from by unfold fU;exact if_neg hrg)];exact aF.two rfl (aT.tmp rfl) (aT.tmp rfl),trivial⟩
theorem aiM (s:StoryP)(i:Nat)(hc:s.code.length≤10000000)(hby:dF s.code)(hel:s.entry.length≤1000000000000000)(hf:s.tab.funcs.length≤140737488355328)(hp:s.tab.params.length≤140737488355328):PC Tryz.prog 47 [cX s,vi (i:Int)] (vi (jS s i)):=by
 have hrl:=aiH s i;have hrb:=aiG hby i;obtain ⟨hdl,hdb⟩:=abL hrb;refine FB 2 85 Tryz.func47 ?_;refine Gd (fun hb=>?_) fun hb=>?_
 ·have h0:¬ (i<s.entry.length∧i<s.tab.locals.length):=by
   simp only [Bool.or_eq_true,decide_eq_true_eq] at hb;omega
  refine G ?_;exact Rx rfl (aR (show _=jS s i from by unfold jS;rw [if_pos h0]))
 have h0:i<s.entry.length∧i<s.tab.locals.length:=by
  rw [Bool.or_eq_false_iff,Bool.or_eq_false_iff] at hb;simp only [decide_eq_false_iff_not] at hb;omega
 refine C (aiL s i h0.1 hel) ?_;refine cd (fun hb=>?_) fun hb=>?_
 ·have h1:(fU s i).2=false:=by simpa using hb
  refine G ?_;exact Rx rfl (aR (show _=jS s i from by unfold jS;rw [if_neg (Classical.not_not.2 h0),if_pos h1]))
 have h1:(fU s i).2=true:=by simpa using hb
 refine C (acD (fU s i).1 hrb (by omega)) ?_;refine cd (fun hb=>?_) fun hb=>?_
 ·have h2:(gP (fU s i).1).2≠0:=by simpa using hb
  refine G ?_;exact Rx rfl (aR (show _=jS s i from by unfold jS;rw [if_neg (Classical.not_not.2 h0),if_neg (by rw [h1];decide),if_pos h2]))
 have h2:(gP (fU s i).1).2=0:=by simpa using hb
 refine G ?_;refine bM (ι:=Nat) (fun k=>⟨[(1,vi (i:Int)),(2,.ptr (cX s)),(7,iU (gP (fU s i).1).1),(45,iU (gP (fU s i).1).1),(46,vi ((gP (fU s i).1).1.length:Int)),(47,vi k)],[(0,.unborn),(1,.unborn)]⟩) (fun k=>k≤(gP (fU s i).1).1.length∧∀ j,j<k→aFA s i ((gP (fU s i).1).1.getD j aI)=false) (fun k=>(gP (fU s i).1).1.length-k) 0 (⟨Nat.zero_le _,fun j hj=>absurd hj (by omega)⟩) (LS) ?_;intro k hI;refine Gd (fun hb=>?_) fun hb=>?_
 ·have hk:k<(gP (fU s i).1).1.length:=by have h0:=of_decide_eq_true hb;omega
  refine Gd (fun hb=>?_) fun hb=>?_
  ·have hbl:aFA s i ((gP (fU s i).1).1.getD k aI)=true:=hb;refine G ?_;exact Rx rfl (aR (show _=jS s i from by unfold jS;rw [if_neg (Classical.not_not.2 h0),if_neg (by rw [h1];decide),if_neg (Classical.not_not.2 h2),if_pos (aiJ hk hbl)]))
  have hbl:aFA s i ((gP (fU s i).1).1.getD k aI)=false:=hb;refine G ?_;exact ⟨k+1,⟨by omega,fun j hj=>by
   rcases Nat.lt_or_ge j k with h5|h5
   ·exact hI.2 j h5
   have h6:j=k:=by omega
   subst h6;exact hbl⟩,by omega,LR [0,1]⟩
 have hk:k=(gP (fU s i).1).1.length:=by have h0:=of_decide_eq_false hb;omega
 subst hk;have hno:=aiK hI.2;refine C (abS s.tab (gP (fU s i).1).1 (by omega) (fun k=>by have:=hdb k;omega) hf hp) ?_;exact Rx rfl (aR (show _=jS s i from by unfold jS;rw [if_neg (Classical.not_not.2 h0),if_neg (by rw [h1];decide),if_neg (Classical.not_not.2 h2),if_neg hno]))
theorem aIZ (s:StoryP)(hc:s.code.length≤10000000)(hby:dF s.code)(hel:s.entry.length≤1000000000000000)(hf:s.tab.funcs.length≤140737488355328)(hp:s.tab.params.length≤140737488355328):PC Tryz.prog 18 [cX s] (.tup [vi (gV s).1,vi (gV s).2]):=by
 refine FB 2 59 Tryz.func18 ?_;refine G ?_;refine Zg (R:=[]) rfl rfl rfl lO (fun hC=>by
  have h0:0<s.entry.length:=by simp at hC;omega
  exact rJ (j:=0) rfl rfl rfl (by kernel_rfl) h0) trivial ?_
 refine Gd (fun hb=>?_) fun hb=>?_
 ·have hv:wC s:=by
   show ((s.entry.length≠s.tab.params.length∨s.entry.length≠s.tab.locals.length)∨0<s.entry.length∧s.entry.getD 0 0≠0)∨s.entry.length=0∧0<s.code.length;simp only [Bool.or_eq_true,Bool.and_eq_true,bne_iff_ne,ne_eq,beq_iff_eq,decide_eq_true_eq] at hb;omega
  refine G ?_;exact ⟨.inl rfl,by rw [show gV s=(-1,7) from if_pos hv];exact aF.two rfl (aT.tmp rfl) (aT.tmp rfl),trivial⟩
 have hv:¬ wC s:=by
  show ¬ (((s.entry.length≠s.tab.params.length∨s.entry.length≠s.tab.locals.length)∨0<s.entry.length∧s.entry.getD 0 0≠0)∨s.entry.length=0∧0<s.code.length);simp only [Bool.or_eq_false_iff,Bool.and_eq_false_iff,bne_eq_false_iff_eq,beq_eq_false_iff_ne,ne_eq,decide_eq_false_iff_not] at hb;omega
 refine G ?_;refine LP (ι:=Nat) (fun k=>[(48,vi k)]) (fun _=>[]) (fun k=>k≤s.entry.length∧pT s (s.entry.length-k) k=pT s s.entry.length 0) (fun k=>s.entry.length-k) 0 (⟨Nat.zero_le _,rfl⟩) ?_;intro k hI;refine Gd (fun hb=>?_) fun hb=>?_
 ·have hk:k<s.entry.length:=by have h0:=of_decide_eq_true hb;omega
  have hst:pT s (s.entry.length-k) k=if jS s k≠0 then ((k:Int),jS s k) else pT s (s.entry.length-(k+1)) (k+1):=by
   rw [show s.entry.length-k=(s.entry.length-(k+1))+1 from by omega];show (if _ then _ else _)=_;rw [if_pos hk]
  refine C (aiM s k hc hby hel hf hp) ?_;refine cd (fun hb=>?_) fun hb=>?_
  ·have hr:jS s k≠0:=by simpa using hb
   refine G ?_;exact ⟨.inl rfl,by rw [show gV s=((k:Int),jS s k) from by unfold gV;rw [if_neg hv,←hI.2,hst,if_pos hr]];exact aF.two rfl (aT.tmp rfl) (aT.tmp rfl),trivial⟩
  have hr:jS s k=0:=by simpa using hb
  refine G ?_;exact ⟨k+1,⟨by omega,by rw [←hI.2,hst,if_neg (Classical.not_not.2 hr)]⟩,by omega,LS⟩
 have hk:k=s.entry.length:=by have h0:=of_decide_eq_false hb;omega
 have hst:pT s (s.entry.length-k) k=(0,0):=by rw [show s.entry.length-k=0 from by omega];rfl
 refine G ?_;exact ⟨.inl rfl,by rw [show gV s=(0,0) from by unfold gV;rw [if_neg hv,←hI.2,hst]];exact aF.two rfl (aT.tmp rfl) (aT.tmp rfl),trivial⟩
end Go.Proofs.YtgajclaoaphgoaaGreatDoor
namespace Go.Proofs.YtgajclaoaphgoaaGreatDoor
open Go.RowKit
noncomputable def gPoolP (xs:List Int)(s:bF):PoolP × bF:=
 let a:=cV (rS xs 31) (gText xs) s
 let b:=cV (rS xs 4194304) (rS xs 4194304) a.2
 let c:=rT xs 4194304 b.2
 (⟨a.1,b.1,jZ c.1⟩,c.2)
noncomputable def gPool (xs:List Int)(s:bF):List ByteArray × bF:=
 if (gPoolP xs s).2.2≠0 then ([],(gPoolP xs s).2) else ((allP (gPoolP xs s).1).1,((gPoolP xs s).2.1,(allP (gPoolP xs s).1).2))
def i5 (j:Nat):Nat:=[0,1,2,3,5].getD j 0
theorem aTC (j:Nat):i5 j<17:=by
 unfold i5;rcases j with _|_|_|_|_|j<;>simp
def sN (xs:List Int)(s:bF):Nat→bF
 | 0=>s
 | k+1=>(cJ xs (sN xs s k)).2
def vN (xs:List Int)(s:bF)(k:Nat):Int:=(cJ xs (sN xs s k)).1
def sM (xs:List Int)(s:bF):Nat→bF
 | 0=>s
 | k+1=>(wN xs (sM xs s k)).2
def vM (xs:List Int)(s:bF)(k:Nat):List Int:=(wN xs (sM xs s k)).1
noncomputable def aTe (xs:List Int)(s:bF):=gPool xs (sN xs s 5)
noncomputable def aPr (xs:List Int)(s:bF):=yH xs (aTe xs s).2
noncomputable def aGl (xs:List Int)(s:bF):=yH xs (aPr xs s).2
noncomputable def aTh (xs:List Int)(s:bF):=cV (cJ xs) (gThing xs) (aGl xs s).2
noncomputable def aAc (xs:List Int)(s:bF):=cV (cJ xs) (gAct xs) (aTh xs s).2
noncomputable def aDe (xs:List Int)(s:bF):=cV (cJ xs) (uR xs) (aAc xs s).2
noncomputable def aM (xs:List Int)(s:bF)(k:Nat):List Int:=vM xs (aDe xs s).2 k
noncomputable def aCo (xs:List Int)(s:bF):=gText xs (sM xs (aDe xs s).2 5)
noncomputable def gStory (xs:List Int)(s:bF):StoryP × bF:=(⟨⟨vN xs s 0,vN xs s 1,vN xs s 2,vN xs s 3,(aTe xs s).1,vN xs s 4,(aPr xs s).1,(aGl xs s).1,(aTh xs s).1,(aAc xs s).1,(aDe xs s).1,aM xs s 0,aM xs s 1,aM xs s 2,aM xs s 3⟩,aM xs s 4,jZ (aCo xs s).1⟩,(aCo xs s).2)
def cK (xs:List Int)(s:bF):Nat→List Av
 | 0=>[vi 0,vi 0,vi 0,vi 0,.val (.slice none 0 0),vi 0,.val (.slice none 0 0),.val (.slice none 0 0),.val (.slice none 0 0),.val (.slice none 0 0),.val (.slice none 0 0),.val (.slice none 0 0),.val (.slice none 0 0),.val (.slice none 0 0),.val (.slice none 0 0),.val (.slice none 0 0),.val (.slice none 0 0)]
 | k+1=>(cK xs s k).set (i5 k) (vi (vN xs s k))
theorem aK0 (xs:List Int)(s:bF):∀ k,(cK xs s k).length=17
 | 0=>rfl
 | k+1=>by unfold cK;rw [List.length_set,aK0 xs s k]
def dK (B:List Av)(xs:List Int)(s:bF):Nat→List Av
 | 0=>B
 | k+1=>(dK B xs s k).set (11+k) (aK (vM xs s k))
theorem aTD (B:List Av)(xs:List Int)(s:bF):∀ k,(dK B xs s k).length=B.length
 | 0=>rfl
 | k+1=>by unfold dK;rw [List.length_set,aTD B xs s k]
theorem aTE (n:Nat)(f:Nat→Nat)(l:List Nat)(hf:∀ j,j<l.length→l.getD j 0=f j)(E:Env)(v:Value)(h:aA E (.sl 1 l.length (gE (l.map (Av.own n)))) v):aA E (.sl 1 l.length fun j=>.own n (f j)) v:=pI (fun E j hj v hv=>by
 have e:gE (l.map (Av.own n)) j=.own n (f j):=by
  show (l.map (Av.own n)).getD j .any=_;rw [←hf j hj,List.getD,List.getElem?_map,List.getD,List.getElem?_eq_getElem hj];rfl
 rw [e] at hv;exact hv) E v h
theorem aiN {xs:List Int}(hb:cI xs)(s:bF):0≤(rS xs 4194304 s).1∧(rS xs 4194304 s).1≤10000000:=by have:=wO hb (most:=4194304) (by decide) s;omega
theorem aiO {xs:List Int}(hb:cI xs)(s:bF):0≤(rS xs 31 s).1∧(rS xs 31 s).1≤10000000:=by have:=wO hb (most:=31) (by decide) s;omega
theorem aFB (xs:List Int)(most:Int)(s:bF):(rT xs most s).1.size≤xs.length:=by
 unfold rT;show (strOfNums _).size≤_;rw [strOfNums_size];exact aTF xs s.1 s.2 most 1
theorem aK1 {xs:List Int}(hl:xs.length≤1000000){most:Int}{s:bF}:(rT xs most s).1.size≤9223372036854775807:=Nat.le_trans (aFB _ _ _) (by omega)
theorem aiP (xs:List Int)(hl:xs.length≤1000000)(hb:cI xs)(s:bF):FC Tryz.prog 156 [.ptr (.own 0 0)] [(0,.live 83 (aV xs (s)))] (vi (rS xs 31 s).1) [(0,.live 83 (aV xs ((rS xs 31 s).2)))]:=by
 refine FB 2 4 Tryz.func156 ?_;refine G ?_;refine Z1 (pV rfl rfl (by kernel_rfl) (fun E v h=>nU E v h)) ?_;refine cr (aKZ xs hl hb s 31) ?_;refine G ?_;exact Rx rfl rfl
theorem aiQ (xs:List Int)(hl:xs.length≤1000000)(hb0:cI xs)(s:bF)(hA:(gPoolP xs s).2.2=0→PC Tryz.prog 160 [kO (gPoolP xs s).1] (.tup [bB (allP (gPoolP xs s).1).1,vi (allP (gPoolP xs s).1).2])):FC Tryz.prog 98 [.own 0 0] [(0,.live 83 (aV xs (s)))] (bB (gPool xs s).1) [(0,.live 83 (aV xs ((gPool xs s).2)))]:=by
 have hb:=hb0;refine FB 3 40 Tryz.func98 ?_;refine G ?_;refine Z1 (aCA (x:=.own 0 0) rfl rfl) ?_;refine G ?_;refine Z1 (pV rfl rfl (by kernel_rfl) (fun E v h=>nU E v h)) ?_;refine Z1 (qC (cs:=[.ptr (.own 0 0)]) rfl rfl) ?_;refine Z1 (pV rfl rfl (by kernel_rfl) (fun E v h=>nU E v h)) ?_;refine Z1 (iE (cs:=[.own _ _]) rfl rfl) ?_
 refine cr (aRS xs s (.clo 156 [.ptr (.own 0 0)]) 107 (rS xs 31) (gText xs) (fun s=>⟨_,_,.inr rfl,by kernel_rfl,inferInstance,aiP xs hl hb s⟩) (by kernel_rfl) (fun s=>aJS xs hl hb s) (aiO hb)) ?_;refine aS 0 1 false ?_;refine cF [_,_,_] ?_;refine G ?_;refine Z1 (pV rfl rfl (by kernel_rfl) (fun E v h=>nU E v h)) ?_;refine Z1 (pV rfl rfl (by kernel_rfl) (fun E v h=>nU E v h)) ?_;refine Z1 (iE (cs:=[.own _ _]) rfl rfl) ?_;refine Z1 (pV rfl rfl (by kernel_rfl) (fun E v h=>nU E v h)) ?_;refine Z1 (iE (cs:=[.own _ _]) rfl rfl) ?_
 refine cr (aRR xs _ (.bm 158 [.own 0 0]) 158 (rS xs 4194304) (rS xs 4194304) (aRQ (av:=vi) (by kernel_rfl) fun s=>aTA xs hl hb s) (by kernel_rfl) (fun s=>aTA xs hl hb s) (aiN hb)) ?_;refine aS 1 1 false ?_;refine cF [_,_,_] ?_;refine G ?_;refine Z1 (pV rfl rfl (by kernel_rfl) (fun E v h=>nU E v h)) ?_;refine cr (aS9 xs hl hb _ 4194304) ?_;refine Z1 (aS5 (aK1 hl)) ?_;refine aS 2 1 false ?_;refine cF [_,_,_] ?_;refine G ?_;refine Z1 (pV rfl rfl (by kernel_rfl) (fun E v h=>nU E v h)) ?_;refine G ?_;refine aS 0 3 true ?_;refine aS 2 1 false ?_
 refine Gd (fun hb=>?_) fun hb=>?_
 ·have he:(gPoolP xs s).2.2≠0:=bne_iff_ne.1 hb;have hg:gPool xs s=([],(gPoolP xs s).2):=if_pos he;refine G ?_;exact ⟨.inl rfl,aF.to (aF.tmp rfl rfl) (fun E v h=>by rw [hg];exact qI E v h),⟨by rw [hg];rfl,trivial⟩⟩
 have he:(gPoolP xs s).2.2=0:=bne_eq_false_iff_eq.1 hb;have hg:gPool xs s=((allP (gPoolP xs s).1).1,((gPoolP xs s).2.1,(allP (gPoolP xs s).1).2)):=if_neg (Classical.not_not.2 he);refine C (hA he) ?_;refine Z1 (pV rfl rfl (by kernel_rfl) (fun E v h=>nU E v h)) ?_;refine G ?_;refine aS 0 3 true ?_;refine aS 2 1 false ?_;refine fP rfl rfl (lG (y:=.val _) rfl rfl rfl (by kernel_rfl) (by kernel_rfl) (by first|exact oH|exact cells_any) (by first|decide|(simp;done)|(simp;omega)) rfl) ⟨rfl,trivial⟩ ?_;refine G ?_;exact ⟨.inl rfl,aF.tmp rfl (by rw [hg];rfl),⟨by rw [hg];rfl,trivial⟩⟩
end Go.Proofs.YtgajclaoaphgoaaGreatDoor
