/- Parts of the proof of a law of this seat: rules and contracts; no conditions. -/
import Derived.Test.YtgajclaoaphgoaaGreatDoorVa
import Derived.Test.YtgajclaoaphgoaaGreatDoorWireP
import Derived.Test.YtgajclaoaphgoaaGreatDoorBca
import Derived.Test.YtgajclaoaphgoaaGreatDoorProg
import Derived.KernelRfl
import Derived.Test.YtgajclaoaphgoaaGreatDoorMp
import Derived.Test.YtgajclaoaphgoaaGreatDoorAlphaF
import Derived.Test.YtgajclaoaphgoaaGreatDoorWireR
import Derived.Test.YtgajclaoaphgoaaGreatDoorBt
import Derived.Outline
import Derived.Test.YtgajclaoaphgoaaGreatDoorMore
import Derived.BigFrame
import Derived.Test.YtgajclaoaphgoaaGreatDoorCr
set_option maxHeartbeats 6400000
set_option maxRecDepth 100000
set_option linter.unusedVariables false
set_option linter.unusedSimpArgs false
namespace Go.Proofs.YtgajclaoaphgoaaGreatDoor
open Go.RowKit
theorem zO (ab:List ByteArray)(m:Nat):aN (.sl 1 m (fun j=>vs (ab.getD j ByteArray.empty))):=by unfold aN;intro j;simp [aN]
theorem zP (s:ByteArray)(ab:List ByteArray):aN (.sl 1 s.size (fun j=>vi (cG s ab j:Int))):=by unfold aN;intro j;simp [aN]
theorem aB9 {Z:Nat→Prop}(l:List bX):aO Z (fN l):=by
 induction l with
 | nil=>unfold fN aO;trivial
 | cons p l ih=>
  show aO Z (vs p.1::vi p.2::fN l);unfold aO aO;exact ⟨by simp [aH],by simp [aH],ih⟩
theorem aXV (s:ByteArray)(ab:List ByteArray)(hs:s.size≤1000000)(hb2:∀ k,(ab.getD k ByteArray.empty).size≤1000000)(hbl:ab.length≤1000000):PC Tryz.prog 136 [vs s,bB ab] (rH (bL s ab)):=by
 obtain ⟨m,hm⟩:∃ m:Nat,m=min ab.length 32:=⟨_,rfl⟩
 have hmi:min (ab.length:Int) 32=(m:Int):=by omega
 have hml:m≤ab.length:=by omega
 have hm32:m≤32:=by omega
 refine FB 6 136 Tryz.func136 ?_;refine G ?_;refine Z1 (aCA (x:=.val _) rfl rfl) ?_;refine G ?_;refine Z1 (OC.cast (aNF rfl rfl rfl) (show vi (min (ab.length:Int) 32)=vi (m:Int) from by rw [hmi])) ?_;refine Z1 (aGO (e:=9) (by_:=16) (zs:=[.string ⟨#[]⟩]) m rfl rfl rfl (by kernel_rfl) (by kernel_rfl) (by omega)) ?_;refine G ?_;refine aZ rfl rfl (aGP (e:=3) (by_:=8) (z:=.int .i64 0) (m:=s.size+1) 0 rfl rfl rfl rfl (by kernel_rfl) (by kernel_rfl) rfl (by omega) (by omega)) ⟨rfl,trivial⟩ ?_;refine G ?_
 refine aZ rfl rfl (aGP (e:=3) (by_:=8) (z:=.int .i64 0) (m:=s.size) 1 rfl rfl rfl rfl (by kernel_rfl) (by kernel_rfl) rfl (by omega) (by omega)) ⟨rfl,trivial⟩ ?_;refine G ?_
 refine bM (ι:=Nat) (fun d=>⟨[(1,.sl 1 m (fun j=>vs (ab.getD j ByteArray.empty))),(2,.ptr (vs s)),(5,.osl 1 0 (s.size+1)),(6,.osl 1 1 s.size),(7,vi ((d:Int)-1))],[(0,.live 3 ((cD s ab (s.size-d)).map vi)),(1,.live 3 ((iZ s ab (s.size-d)).map vi)),(2,.unborn),(3,.unborn),(4,.unborn),(5,.unborn)]⟩) (fun d=>d≤s.size) (fun d=>d) s.size (Nat.le_refl _) (Le.sub ⟨.inr rfl,.inr rfl,.inr rfl,.inr rfl,.inr rfl,trivial⟩ ⟨by rw [Nat.sub_self];show _=some (Hs.live _ ((List.replicate (s.size+1) (0:Int)).map vi));rw [List.map_replicate];rfl,by rw [Nat.sub_self];show _=some (Hs.live _ ((List.replicate s.size (0:Int)).map vi));rw [List.map_replicate];rfl,rfl,rfl,rfl,rfl,trivial⟩) ?_
 intro d hI;refine Gd (fun hb=>?_) fun hb=>?_
 ·obtain ⟨i,rfl⟩:∃ i,d=i+1:=⟨d-1,by have h0:=of_decide_eq_true hb;omega⟩
  have h1:=aNG (s:=s) (i:=i) (by omega);have hbd:=aNH s ab (s.size-(i+1)) (by omega);have hal:=xH s ab (s.size-(i+1));have hbl2:=zL s ab (s.size-(i+1));have hbz:(iZ s ab (s.size-(i+1))).getD i 0=0:=aNA s ab _ i (by omega)
  refine bS (Le.sub (τ:=⟨[(1,.sl 1 m (fun j=>vs (ab.getD j ByteArray.empty))),(2,.ptr (vs s)),(5,.osl 1 0 (s.size+1)),(6,.osl 1 1 s.size),(7,vi (i:Int))],[(0,.live 3 ((cD s ab (s.size-(i+1))).map vi)),(1,.live 3 ((iZ s ab (s.size-(i+1))).map vi)),(2,.unborn),(3,.unborn),(4,.unborn),(5,.unborn)]⟩) ⟨.inr rfl,.inr rfl,.inr rfl,.inr rfl,.inr (aR (by omega)),trivial⟩ ⟨rfl,rfl,rfl,rfl,rfl,rfl,trivial⟩) ?_;have hb1:=hbd (i+1);refine G ?_
  refine Z1 (OC.cast (aGK rfl rfl rfl rfl (by kernel_rfl) (by omega) (by omega) (by omega)) (show Av.val (.string (s.extract (i:Int).toNat ((i:Int)+1).toNat))=vs (s.extract i (i+1)) from by have:=aNI s i 1;rw [←this];rfl)) ?_;refine Z1 (cq (aM6 _ (by rw [h1.1];omega)) rfl rfl) ?_;refine G ?_;refine eL (R:=[(_,.live _ _)]) rfl rfl (vL (j:=i+1) rfl rfl rfl (by kernel_rfl) (by omega) (by omega) (by omega)) ⟨rfl,trivial⟩ ?_;refine eL (R:=[(_,.live _ _)]) rfl rfl (fL (y:=vi ((cD s ab (s.size-(i+1))).getD (i+1) 0)) rfl rfl (by kernel_rfl) (vO (by rw [hal];omega))) ⟨rfl,trivial⟩ ?_;refine G ?_
  refine fP rfl rfl (lG (y:=vi (fB (s.extract i (i+1))+(cD s ab (s.size-(i+1))).getD (i+1) 0)) (cs':=(iQ s ab i (cD s ab (s.size-(i+1))) 0).map vi) rfl rfl rfl (by kernel_rfl) (by kernel_rfl) oH (by rw [List.length_map,hal];omega) (zQ _ _ _)) ⟨rfl,trivial⟩ ?_;refine G ?_
  refine bM (ι:=Nat) (fun k=>⟨[(1,.sl 1 m (fun j=>vs (ab.getD j ByteArray.empty))),(2,.ptr (vs s)),(5,.osl 1 0 (s.size+1)),(6,.osl 1 1 s.size),(7,vi (i:Int)),(48,.sl 1 m (fun j=>vs (ab.getD j ByteArray.empty))),(49,vi m),(50,vi k)],[(0,.live 3 ((iQ s ab i (cD s ab (s.size-(i+1))) k).map vi)),(1,.live 3 ((lY s ab i (cD s ab (s.size-(i+1))) (iZ s ab (s.size-(i+1))) k).map vi)),(2,.unborn),(3,.unborn),(4,.unborn),(5,.unborn)]⟩) (fun k=>k≤m) (fun k=>m-k) 0 (Nat.zero_le _) (Le.sub ⟨.inr rfl,.inr rfl,.inr rfl,.inr rfl,.inr rfl,.inr rfl,.inr rfl,.inr rfl,trivial⟩ ⟨rfl,by rw [aXO hbz];rfl,rfl,rfl,rfl,rfl,trivial⟩) ?_
  intro k hI;refine Gd (fun hb=>?_) fun hb=>?_
  ·have hlt:k<m:=by have h0:=of_decide_eq_true hb;omega
   have hk32:k<32:=by omega
   have hkb:=aGQ (s:=s) (ab:=ab) (i:=i) (A:=(cD s ab (s.size-(i+1)))) (by omega) hbd k;have hbk:=hb2 k;refine aQ ?_;refine aD ?_;refine aU ?_;refine sq ?_;refine Z1 mo ?_;refine Z1 ia ?_;refine Z1 ld ?_;refine Z1 aB ?_;refine Z1 aB ?_;refine cn ?_;refine aD ?_;refine dw ?_;refine Z1 mo ?_;refine Z1 (zR rfl rfl rfl) ?_;refine Z1 mo ?_;refine Z4 (fun hC=>ld) ?_;refine Z4 (fun hC=>mo) ?_
   refine Zg rfl rfl rfl cA (fun hC=>OC.cast (aXW rfl rfl rfl (by kernel_rfl) (by omega) (by omega)) (show Av.val (.string (s.extract (i:Int).toNat s.size))=vs (s.extract i s.size) from by rw [Int.toNat_natCast])) trivial ?_;refine Z4 (fun hC=>mo) ?_;refine Z4 (fun hC=>ca (aXX (s.extract i s.size) (ab.getD k ByteArray.empty))) ?_;refine Z1 an ?_;refine Z1 mo ?_;refine Z4 (fun hC=>mo) ?_;refine Z4 (fun hC=>mo) ?_;refine Z4 (fun hC=>mo) ?_;refine Z4 (fun hC=>oG) ?_;refine Z4 (fun hC=>ba) ?_;refine Zg (R:=[(_,.live _ _)]) rfl rfl rfl cA (fun hC=>by
    have hfit:gM s i ab k=true:=by rw [←aB8 (by omega) hk32];exact hC
    have hf:=qB hfit;exact vL (t:=3) (cs:=(iQ s ab i (cD s ab (s.size-(i+1))) k).map vi) (j:=i+(ab.getD k ByteArray.empty).size) rfl rfl rfl (by kernel_rfl) (by omega) (by omega) (by omega)) ⟨rfl,trivial⟩ ?_
   refine Zg (R:=[(_,.live _ _)]) rfl rfl rfl cA (fun hC=>by
    have hfit:gM s i ab k=true:=by rw [←aB8 (by omega) hk32];exact hC
    have hf:=qB hfit;have hat:(iQ s ab i (cD s ab (s.size-(i+1))) k).getD (i+(ab.getD k ByteArray.empty).size) 0=(cD s ab (s.size-(i+1))).getD (i+(ab.getD k ByteArray.empty).size) 0:=by rw [aCB (by omega),if_neg (by omega)]
    exact fL (t:=3) (cs:=(iQ s ab i (cD s ab (s.size-(i+1))) k).map vi) (y:=vi ((cD s ab (s.size-(i+1))).getD (i+(ab.getD k ByteArray.empty).size) 0)) rfl rfl (by kernel_rfl) (by rw [←hat];exact vO (by rw [aCC,xH];omega))) ⟨rfl,trivial⟩ ?_
   refine Zg (R:=[]) rfl rfl rfl cA (fun hC=>by
    have hbj:=hbd (i+(ab.getD k ByteArray.empty).size);exact xI rfl rfl rfl (by first|exact aNJ (by omega) (by omega)|rfl)) trivial ?_
   refine Z4 (fun hC=>mo) ?_;refine Z4 (fun hC=>mo) ?_;refine Zg rfl rfl rfl cA (fun hC=>aCD rfl rfl rfl (by kernel_rfl) (by omega)) ⟨rfl,trivial⟩ ?_;refine Zg (R:=[(_,.live _ _)]) rfl rfl rfl cA (fun hC=>by
    have hat:(iQ s ab i (cD s ab (s.size-(i+1))) k).getD i 0=cR s ab i (cD s ab (s.size-(i+1))) k:=by rw [aCB (by omega),if_pos rfl]
    exact fL (t:=3) (cs:=(iQ s ab i (cD s ab (s.size-(i+1))) k).map vi) (y:=vi (cR s ab i (cD s ab (s.size-(i+1))) k)) rfl rfl (by kernel_rfl) (by rw [←hat];exact vO (by rw [aCC,xH];omega))) ⟨rfl,trivial⟩ ?_
   refine Z4 (fun hC=>bz) ?_;refine Z1 an ?_;refine cn (dn ?_);refine cd (fun hb=>?_) fun hb=>?_
   ·rw [aB8 (by omega) hk32] at hb;have hq:=hb;simp only [Bool.and_eq_true,decide_eq_true_eq] at hq;have hf:=qB hq.1;have hbj:=hbd (i+(ab.getD k ByteArray.empty).size);have hat:(iQ s ab i (cD s ab (s.size-(i+1))) k).getD (i+(ab.getD k ByteArray.empty).size) 0=(cD s ab (s.size-(i+1))).getD (i+(ab.getD k ByteArray.empty).size) 0:=by rw [aCB (by omega),if_neg (by omega)]
    have hsk:cR s ab i (cD s ab (s.size-(i+1))) (k+1)=2+(cD s ab (s.size-(i+1))).getD (i+(ab.getD k ByteArray.empty).size) 0:=by show (if _ then _ else _)=_;rw [if_pos ⟨hq.1,hq.2⟩]
    have hst:iQ s ab i (cD s ab (s.size-(i+1))) (k+1)=(iQ s ab i (cD s ab (s.size-(i+1))) k).set i (2+(cD s ab (s.size-(i+1))).getD (i+(ab.getD k ByteArray.empty).size) 0):=by rw [←hsk,aXY]
    have hsv:lY s ab i (cD s ab (s.size-(i+1))) (iZ s ab (s.size-(i+1))) (k+1)=(lY s ab i (cD s ab (s.size-(i+1))) (iZ s ab (s.size-(i+1))) k).set i ((k:Int)+1):=by
     rw [←aXP];congr 1;show ((if _ then k+1 else _:Nat):Int)=_;rw [if_pos ⟨hq.1,hq.2⟩];rfl
    refine G ?_;refine eL (R:=[(_,.live _ _)]) rfl rfl (fL (t:=3) (cs:=(iQ s ab i (cD s ab (s.size-(i+1))) k).map vi) (y:=vi ((cD s ab (s.size-(i+1))).getD (i+(ab.getD k ByteArray.empty).size) 0)) rfl rfl (by kernel_rfl) (by rw [←hat];exact vO (by rw [aCC,xH];omega))) ⟨rfl,trivial⟩ ?_;refine G ?_
    refine fP rfl rfl (lG (y:=vi (2+(cD s ab (s.size-(i+1))).getD (i+(ab.getD k ByteArray.empty).size) 0)) (cs':=((iQ s ab i (cD s ab (s.size-(i+1))) k).set i (2+(cD s ab (s.size-(i+1))).getD (i+(ab.getD k ByteArray.empty).size) 0)).map vi) rfl rfl rfl (by kernel_rfl) (by kernel_rfl) oH (by rw [List.length_map,aCC,hal];omega) (zQ _ _ _)) ⟨rfl,trivial⟩ ?_;refine G ?_
    refine fP rfl rfl (lG (y:=vi ((k:Int)+1)) (cs':=((lY s ab i (cD s ab (s.size-(i+1))) (iZ s ab (s.size-(i+1))) k).set i ((k:Int)+1)).map vi) rfl rfl rfl (by kernel_rfl) (by kernel_rfl) oH (by rw [List.length_map,aXN,hbl2];omega) (zQ _ _ _)) ⟨rfl,trivial⟩ ?_;refine G ?_;exact ⟨k+1,by omega,by omega,Le.sub ⟨.inr rfl,.inr rfl,.inr rfl,.inr rfl,.inr rfl,.inr rfl,.inr rfl,.inr (aR (by omega)),trivial⟩ ⟨by rw [←hst];rfl,by rw [←hsv];rfl,rfl,rfl,rfl,rfl,trivial⟩⟩
   rw [aB8 (by omega) hk32] at hb;have hnb:¬ (gM s i ab k=true∧2+(cD s ab (s.size-(i+1))).getD (i+(ab.getD k ByteArray.empty).size) 0<cR s ab i (cD s ab (s.size-(i+1))) k):=fun hc=>by rw [Bool.and_eq_false_iff,decide_eq_false_iff_not] at hb;rcases hb with hb|hb;(rw [hc.1] at hb;cases hb);exact hb hc.2
   have hst:iQ s ab i (cD s ab (s.size-(i+1))) (k+1)=iQ s ab i (cD s ab (s.size-(i+1))) k:=by
    have hsk:cR s ab i (cD s ab (s.size-(i+1))) (k+1)=cR s ab i (cD s ab (s.size-(i+1))) k:=by
     show (if _ then _ else _)=_;rw [if_neg hnb]
    unfold iQ;rw [hsk]
   have hsv:lY s ab i (cD s ab (s.size-(i+1))) (iZ s ab (s.size-(i+1))) (k+1)=(lY s ab i (cD s ab (s.size-(i+1))) (iZ s ab (s.size-(i+1))) k):=by
    have hsk:fX s ab i (cD s ab (s.size-(i+1))) (k+1)=fX s ab i (cD s ab (s.size-(i+1))) k:=by
     show (if _ then _ else _)=_;rw [if_neg hnb]
    unfold lY;rw [hsk]
   refine G ?_;exact ⟨k+1,by omega,by omega,Le.sub ⟨.inr rfl,.inr rfl,.inr rfl,.inr rfl,.inr rfl,.inr rfl,.inr rfl,.inr (aR (by omega)),trivial⟩ ⟨by rw [←hst];rfl,by rw [←hsv];rfl,rfl,rfl,rfl,rfl,trivial⟩⟩
  have hke:k=m:=by have h0:=of_decide_eq_false hb;omega
  have hfin1:cD s ab (s.size-i)=iQ s ab i (cD s ab (s.size-(i+1))) m:=by rw [aNK (by omega)];unfold iQ;rw [aXL hm]
  have hfin2:iZ s ab (s.size-i)=lY s ab i (cD s ab (s.size-(i+1))) (iZ s ab (s.size-(i+1))) m:=by rw [aXQ (by omega)];unfold lY;rw [aXM hm]
  refine G ?_;exact ⟨i,by omega,by omega,Le.sub ⟨.inr rfl,.inr rfl,.inr rfl,.inr rfl,.inr (aR (by omega)),trivial⟩ ⟨by rw [hfin1,←hke];rfl,by rw [hfin2,←hke];rfl,rfl,rfl,rfl,rfl,trivial⟩⟩
 have hd0:d=0:=by have h0:=of_decide_eq_false hb;omega
 subst hd0;refine bU ?_;refine aD ?_;refine bS (Le.freeze 6 1 (fun j=>vi (cG s ab j:Int)) rfl rfl (by rw [List.length_map,zL]) (fun j hj=>aXR s ab j hj)) ?_;refine tx ?_;refine Z2 (al 2 [.slice none 0 0]) ?_;refine cn ?_;refine sq ?_;refine Z2 (al 3 [.int .i64 0]) ?_;refine cF [_] ?_;refine cn ?_;refine sq ?_;refine Z1 (qC (cs:=[.own _ _,.own _ _,.ptr _]) rfl rfl) ?_;refine Z1 aB ?_;refine cn ?_;refine aD ?_;refine sq ?_;refine Z1 aB ?_;refine cn ?_;refine aU ?_;refine bS (Le.nameNilCell 2 0 4 2 178 rfl rfl rfl (by decide)) ?_
 refine bM (ι:=aXU) (fun q=>⟨[(1,.sl 1 m (fun j=>vs (ab.getD j ByteArray.empty))),(2,.ptr (vs s)),(6,.sl 1 s.size (fun j=>vi (cG s ab j:Int))),(10,.own 2 0),(11,.own 3 0),(12,.clo 195 [.own 3 0,.own 2 0,.ptr (vs s)]),(13,vi q.1)],[(2,.live 175 [.osl 2 4 (q.2.2).length]),(3,.live 3 [vi (q.2.1:Int)]),(4,.live 178 (fN (q.2.2))),(5,.unborn)]⟩) (fun q=>q.1≤s.size∧q.2.1≤q.1∧q.2.2.length≤2*q.1∧∃ f,s.size<f+q.1∧bL s ab=lT s ab f q.1 q.2.1 q.2.2) (fun q=>s.size-q.1) (0,0,[]) (⟨Nat.zero_le _,Nat.le_refl _,Nat.zero_le _,s.size+1,by omega,rfl⟩) (Le.sub ⟨.inr rfl,.inr rfl,.inr rfl,.inr rfl,.inr rfl,.inr rfl,.inr rfl,trivial⟩ ⟨rfl,rfl,rfl,rfl,trivial⟩) ?_
 intro q hI;obtain ⟨hi1,hi2,hi3,f,hf,hcut⟩:=hI;refine Gd (fun hb=>?_) fun hb=>?_
 ·have hlt:q.1<s.size:=by have h0:=of_decide_eq_true hb;omega
  obtain ⟨f,rfl⟩:∃ g,f=g+1:=⟨f-1,by omega⟩
  refine Gd (fun hb=>?_) fun hb=>?_
  ·have htk:cG s ab q.1=0:=by (have h0:(cG s ab q.1:Int)=0:=by simpa using hb);omega
   refine G ?_;exact ⟨(q.1+1,q.2.1,q.2.2),⟨by show q.1+1≤_;omega,by show q.2.1≤q.1+1;omega,by show q.2.2.length≤2*(q.1+1);omega,f,by show _<f+(q.1+1);omega,by rw [hcut];show (if _ then _ else _)=_;rw [if_pos hlt,if_pos htk]⟩,by show s.size-(q.1+1)<_;omega,Le.sub ⟨.inr rfl,.inr rfl,.inr rfl,.inr rfl,.inr rfl,.inr rfl,.inr (aR (by show (q.1:Int)+1=((q.1+1:Nat):Int);omega)),trivial⟩ ⟨rfl,rfl,rfl,rfl,trivial⟩⟩
  have htk:¬ cG s ab q.1=0:=by (have h0:¬ (cG s ab q.1:Int)=0:=by simpa using hb);omega
  obtain ⟨g1,g2,_⟩:=aCE hlt htk;have hft:=qB g1;have hfl:=aBY s q.2.1 q.1 q.2.2;refine G ?_;refine aZ rfl rfl (oI [5] rfl rfl (by kernel_rfl) (aND s q.2.1 q.1 q.2.2 hs hi2 hi1 (by omega)) rfl (by simp) (by simp [bQ]) (by simp) (by simp) (by simp [aO,aH]) ⟨by simp [bJ,aO,aH],by simp [bJ,aO,aH],aB9 _,trivial⟩ (by simp [aH,aO]) ⟨by simp [bJ,aO,aH],by simp [bJ,aO,aH],aB9 _,trivial⟩) ⟨rfl,rfl,rfl,rfl,trivial⟩ ?_;refine cn ?_
  refine bS (Le.trans (Le.swap (τ:=⟨[(1,.sl 1 m (fun j=>vs (ab.getD j ByteArray.empty))),(2,.ptr (vs s)),(6,.sl 1 s.size (fun j=>vi (cG s ab j:Int))),(10,.own 2 0),(11,.own 3 0),(12,.clo 195 [.own 3 0,.own 2 0,.ptr (vs s)]),(13,vi q.1)],[(2,.live 175 [.osl 2 4 ((eN s q.2.1 q.1 q.2.2)).length]),(3,.live 3 [vi (q.2.1:Int)]),(4,.live 178 (fN ((eN s q.2.1 q.1 q.2.2)))),(5,.dead)]⟩) 4 5 (by simp) (by simp) ⟨(iR _ _ (zO ab m)).symm,rfl,(iR _ _ (zP s ab)).symm,rfl,rfl,rfl,rfl,trivial⟩ ⟨rfl,rfl,by show aL _ 5=some (Hs.live _ ((fN ((eN s q.2.1 q.1 q.2.2))).map _));rw [aGN];rfl,rfl,trivial⟩) (Le.reset (τ:=⟨[(1,.sl 1 m (fun j=>vs (ab.getD j ByteArray.empty))),(2,.ptr (vs s)),(6,.sl 1 s.size (fun j=>vi (cG s ab j:Int))),(10,.own 2 0),(11,.own 3 0),(12,.clo 195 [.own 3 0,.own 2 0,.ptr (vs s)]),(13,vi q.1)],[(2,.live 175 [.osl 2 4 ((eN s q.2.1 q.1 q.2.2)).length]),(3,.live 3 [vi (q.2.1:Int)]),(4,.live 178 (fN ((eN s q.2.1 q.1 q.2.2)))),(5,.unborn)]⟩) [5] (by simp) ⟨.inr rfl,.inr rfl,.inr rfl,.inr rfl,.inr rfl,.inr rfl,.inr rfl,trivial⟩ ⟨aE.of_pure _ (zO ab m),by simp [aE],aE.of_pure _ (zP s ab),by simp [aE],by simp [aE],by simp [aE,dL],by simp [aE],trivial⟩ ⟨by rw [if_neg (by decide)];exact ⟨rfl,by simp [aE]⟩,by rw [if_neg (by decide)];exact ⟨rfl,by simp [aE]⟩,by rw [if_neg (by decide)];exact ⟨rfl,aNL _⟩,by rw [if_pos (by decide)],trivial⟩)) ?_
  refine aD ?_;refine dw ?_;refine bG ?_;refine Z1 mo ?_;refine Z1 mo ?_;refine Z1 (rJ (j:=q.1) rfl rfl rfl (by kernel_rfl) (by omega)) ?_;refine Z1 ld ?_;refine Z1 (bd [(0,1),(1,1)] [.string ⟨#[]⟩,.int .i64 0] [.val _,.val _]) ?_;refine Z1 (fO (ps:=[.tmp 116]) (xs:=[.agg _]) (e:=178) (k:=2) (by_:=24) (zs:=[.string ⟨#[]⟩,.int .i64 0]) rfl (by kernel_rfl) (by kernel_rfl) rfl rfl rfl (by decide) (by decide)) ?_
  refine aZ rfl rfl (iG (e:=178) (k:=2) (by_:=24) (zs:=[.string ⟨#[]⟩,.int .i64 0]) (cs:=fN (eN s q.2.1 q.1 q.2.2)) (ds:=[vs ((⟨#[]⟩:ByteArray),(cG s ab q.1:Int)).1,vi ((⟨#[]⟩:ByteArray),(cG s ab q.1:Int)).2]) 5 rfl rfl rfl (by kernel_rfl) (by kernel_rfl) rfl (by decide) (by decide) (aGL _) rfl (aNE ((⟨#[]⟩:ByteArray),(cG s ab q.1:Int))) (by omega) (by omega)) ⟨rfl,rfl,trivial⟩ ?_;refine cF [_] ?_;refine cn (dn ?_)
  refine bS (Le.trans (Le.swap (τ:=⟨[(1,.sl 1 m (fun j=>vs (ab.getD j ByteArray.empty))),(2,.ptr (vs s)),(6,.sl 1 s.size (fun j=>vi (cG s ab j:Int))),(10,.own 2 0),(11,.own 3 0),(12,.clo 195 [.own 3 0,.own 2 0,.ptr (vs s)]),(13,vi q.1)],[(2,.live 175 [.osl 2 4 ((eN s q.2.1 q.1 q.2.2)++[((⟨#[]⟩:ByteArray),(cG s ab q.1:Int))]).length]),(3,.live 3 [vi (q.2.1:Int)]),(4,.live 178 (fN ((eN s q.2.1 q.1 q.2.2)++[((⟨#[]⟩:ByteArray),(cG s ab q.1:Int))]))),(5,.dead)]⟩) 4 5 (by simp) (by simp) ⟨(iR _ _ (zO ab m)).symm,rfl,(iR _ _ (zP s ab)).symm,rfl,rfl,rfl,rfl,trivial⟩ ⟨by rw [List.length_append];rfl,rfl,by show aL _ 5=some (Hs.live _ ((fN ((eN s q.2.1 q.1 q.2.2)++[((⟨#[]⟩:ByteArray),(cG s ab q.1:Int))])).map _));rw [aGN,aGM];rfl,rfl,trivial⟩) (Le.reset (τ:=⟨[(1,.sl 1 m (fun j=>vs (ab.getD j ByteArray.empty))),(2,.ptr (vs s)),(6,.sl 1 s.size (fun j=>vi (cG s ab j:Int))),(10,.own 2 0),(11,.own 3 0),(12,.clo 195 [.own 3 0,.own 2 0,.ptr (vs s)]),(13,vi q.1)],[(2,.live 175 [.osl 2 4 ((eN s q.2.1 q.1 q.2.2)++[((⟨#[]⟩:ByteArray),(cG s ab q.1:Int))]).length]),(3,.live 3 [vi (q.2.1:Int)]),(4,.live 178 (fN ((eN s q.2.1 q.1 q.2.2)++[((⟨#[]⟩:ByteArray),(cG s ab q.1:Int))]))),(5,.unborn)]⟩) [5] (by simp) ⟨.inr rfl,.inr rfl,.inr rfl,.inr rfl,.inr rfl,.inr rfl,.inr rfl,trivial⟩ ⟨aE.of_pure _ (zO ab m),by simp [aE],aE.of_pure _ (zP s ab),by simp [aE],by simp [aE],by simp [aE,dL],by simp [aE],trivial⟩ ⟨by rw [if_neg (by decide)];exact ⟨rfl,by simp [aE]⟩,by rw [if_neg (by decide)];exact ⟨rfl,by simp [aE]⟩,by rw [if_neg (by decide)];exact ⟨rfl,aNL _⟩,by rw [if_pos (by decide)],trivial⟩)) ?_
  refine sq ?_;refine Z1 mo ?_;refine Z1 mo ?_;refine Z1 mo ?_;refine Z1 mo ?_;refine Z1 (rJ (j:=q.1) rfl rfl rfl (by kernel_rfl) (by omega)) ?_;refine Z1 ld ?_;refine Z1 iP ?_;refine Z1 (mM (j:=cG s ab q.1-1) rfl rfl rfl (by kernel_rfl) (by omega) (by omega) (by omega)) ?_;refine Z1 ld ?_;refine Z1 oG ?_;refine Z1 ba ?_;refine Z1 aB ?_;refine cn ?_;refine tx ?_;refine Z1 mo ?_;refine cF [_] ?_;refine cn ?_
  exact ⟨(q.1+(ab.getD (cG s ab q.1-1) ByteArray.empty).size,q.1+(ab.getD (cG s ab q.1-1) ByteArray.empty).size,(eN s q.2.1 q.1 q.2.2)++[((⟨#[]⟩:ByteArray),(cG s ab q.1:Int))]),⟨by show q.1+(ab.getD (cG s ab q.1-1) ByteArray.empty).size≤_;omega,Nat.le_refl _,by show ((eN s q.2.1 q.1 q.2.2)++[_]).length≤2*(q.1+(ab.getD (cG s ab q.1-1) ByteArray.empty).size);rw [List.length_append];show (eN s q.2.1 q.1 q.2.2).length+1≤_;omega,f,by show _<f+(q.1+(ab.getD (cG s ab q.1-1) ByteArray.empty).size);omega,by rw [hcut];show (if _ then _ else _)=_;rw [if_pos hlt,if_neg htk,zK]⟩,by show s.size-(q.1+(ab.getD (cG s ab q.1-1) ByteArray.empty).size)<_;omega,Le.sub ⟨.inr rfl,.inr rfl,.inr rfl,.inr rfl,.inr rfl,.inr rfl,.inr (aR (by show (q.1:Int)+((ab.getD (cG s ab q.1-1) ByteArray.empty).size:Int)=((q.1+(ab.getD (cG s ab q.1-1) ByteArray.empty).size:Nat):Int);omega)),trivial⟩ ⟨rfl,by show _=some (Hs.live _ [vi ((q.1+(ab.getD (cG s ab q.1-1) ByteArray.empty).size:Nat):Int)]);rw [Int.natCast_add];rfl,rfl,rfl,trivial⟩⟩
 have hge:q.1=s.size:=by have h0:=of_decide_eq_false hb;omega
 have hfin:bL s ab=eN s q.2.1 s.size q.2.2:=by rw [hcut,aXT (by omega)]
 refine G ?_;refine aZ rfl rfl (oI [5] rfl rfl (by kernel_rfl) (aND s q.2.1 s.size q.2.2 hs (by omega) (Nat.le_refl _) (by omega)) rfl (by simp) (by simp [bQ]) (by simp) (by simp) (by simp [aO,aH]) ⟨by simp [bJ,aO,aH],by simp [bJ,aO,aH],aB9 _,trivial⟩ (by simp [aH,aO]) ⟨by simp [bJ,aO,aH],by simp [bJ,aO,aH],aB9 _,trivial⟩) ⟨rfl,rfl,rfl,rfl,trivial⟩ ?_;refine cn ?_;refine sq ?_;refine bG ?_;refine Z1 aB ?_;refine cn ?_;refine bS (Le.freezeP 4 5 (eN s q.2.1 s.size q.2.2) rfl rfl) ?_;refine G ?_;exact Rx rfl (by rw [hfin];rfl)
instance (ab:List ByteArray) (m:Nat):Pu (.sl 1 m (fun j=>vs (ab.getD j ByteArray.empty))):=⟨zO ab m⟩
instance (s:ByteArray) (ab:List ByteArray):Pu (.sl 1 s.size (fun j=>vi (cG s ab j:Int))):=⟨zP s ab⟩
theorem iN {P:Program}{fn:Func}{Γ:Ctx}(h:fn.results=#[]):aF P fn Γ .any:=fun E a _ _=>⟨_,results_none h _ _ _,by unfold aA;trivial⟩
def oB (u:Bool):Av:=bif u then .own 0 0 else .val (.pointer none)
theorem jX {Z:Nat→Prop}(s:ByteArray):aO Z (dP s):=aO.of_pure _ (by
 unfold dP
 induction s.data.toList with
 | nil=>simp [bE]
 | cons c l ih=>rw [List.map_cons];exact ⟨by simp [aN],ih⟩)
theorem aFV (π:Nat→Nat)(s:ByteArray):(dP s).map (Av.ren π)=dP s:=by
 unfold dP;rw [List.map_map];rfl
theorem aFW {Z:List Nat}(s:ByteArray):∀ z∈dP s,aE Z z:=fun z hz=>by
 obtain ⟨c,_,rfl⟩:=List.mem_map.1 hz;simp [aE]
theorem aVJ (len:Nat)(cs:List Av):FC Tryz.prog 302 [.own 0 0] [(0,.live 275 [.val (.pointer none),.osl 1 1 len]),(1,.live 5 cs)] .any [(0,.live 275 [.own 0 0,.osl 1 1 len]),(1,.live 5 cs)]:=by
 refine FB 2 20 Tryz.func302 ?_;refine sq ?_;refine Z1 mo ?_;refine dO ?_;refine aS 0 1 false ?_;refine bG ?_;refine Z1 (aVK rfl rfl (by kernel_rfl)) ?_;refine cn ?_;refine cd (fun hb=>?_) fun hb=>?_
 ·refine G ?_;refine Z1 (aVL (t:=275) (e:=275) (y:=.val (.pointer none)) (cs:=[.osl 1 1 len]) rfl rfl (by kernel_rfl) (by kernel_rfl) (by kernel_rfl)) ?_;refine Z1 (aVM rfl rfl Tryz.func309 (by kernel_rfl) (by kernel_rfl) (by kernel_rfl) (by kernel_rfl)) ?_;refine Z1 (aVN (t:=275) (y:=.val (.pointer none)) (cs:=[.osl 1 1 len]) rfl rfl (by kernel_rfl) (by kernel_rfl) (by kernel_rfl) (by kernel_rfl) (by decide)) ?_;refine G ?_;exact ⟨.inr rfl,iN rfl,⟨rfl,rfl,trivial⟩⟩
 exact absurd hb (by decide)
theorem aVO (len:Nat)(cs:List Av):FC Tryz.prog 302 [.own 0 0] [(0,.live 275 [.own 0 0,.osl 1 1 len]),(1,.live 5 cs)] .any [(0,.live 275 [.own 0 0,.osl 1 1 len]),(1,.live 5 cs)]:=by
 refine FB 2 20 Tryz.func302 ?_;refine sq ?_;refine Z1 mo ?_;refine dO ?_;refine aS 0 1 false ?_;refine bG ?_;refine Z1 (aVP (t:=275) (y:=.own 0 0) (cs:=[.osl 1 1 len]) rfl rfl (by kernel_rfl)) ?_;refine cn ?_;refine cd (fun hb=>?_) fun hb=>?_
 ·exact absurd hb (by decide)
 refine sq ?_;refine Z1 mo ?_;refine dO ?_;refine aS 0 1 false ?_;refine bG ?_;refine Z1 mo ?_;refine Z1 (aVQ (t:=275) (e:=275) (y:=.own 0 0) (cs:=[.osl 1 1 len]) rfl rfl rfl (by kernel_rfl) (by kernel_rfl)) ?_;refine cn ?_;refine cd (fun hb=>?_) fun hb=>?_
 ·exact absurd hb (by decide)
 refine G ?_;exact ⟨.inr rfl,iN rfl,⟨rfl,rfl,trivial⟩⟩
theorem aVR (u:Bool)(len:Nat)(cs:List Av):FC Tryz.prog 302 [.own 0 0] [(0,.live 275 [oB u,.osl 1 1 len]),(1,.live 5 cs)] .any [(0,.live 275 [.own 0 0,.osl 1 1 len]),(1,.live 5 cs)]:=by
 cases u
 ·exact aVJ len cs
 exact aVO len cs
theorem aL1 (u:Bool)(a s:ByteArray)(hs:a.size+s.size≤140737488355328):iO Tryz.prog 287 [.own 0 0,vs s] [(0,.live 275 [oB u,.osl 1 1 a.size])] [(1,.live 5 (dP a))] (.tup [vi s.size,.val .nilIface]) [(0,.live 275 [.own 0 0,.osl 1 2 (a++s).size]),(2,.live 5 (dP (a++s)))]:=by
 refine iO.body 3 19 Tryz.func287 rfl (by kernel_rfl) ?_;refine W ?_;refine aZ rfl rfl (dB [] rfl (by kernel_rfl) (FC.m (aVR u a.size (dP a))) rfl (by simp) (by simp [bQ]) (by simp) (by simp) (by simp [aO,aH]) ⟨by cases u<;>simp [oB,bJ,aO,aH],jX a,trivial⟩ (by simp [aH,aO]) ⟨by simp [bJ,aO,aH],jX a,trivial⟩) ⟨rfl,rfl,trivial⟩ ?_;refine W ?_;refine aS 1 1 false ?_;refine W ?_;refine Z2 (aVS (e:=5) (cs:=dP a) (s:=s) 2 rfl rfl rfl (by kernel_rfl) (by kernel_rfl) (by kernel_rfl) (by kernel_rfl) (by decide) (aFX a) hs) ?_;refine W ?_;refine aS 1 1 false ?_
 refine cF [_,_] ?_;refine W ?_;exact ⟨.inl rfl,aF.two rfl (aT.tmp rfl) (aT.tmp rfl),⟨by rw [ByteArray.size_append];rfl,by rw [aVT];rfl,trivial⟩⟩
theorem aVU {l:List ByteArray}(h:pC l≠⟨#[]⟩):0<iW l (pC l)∧2≤(pC l).size∧(pC l).size≤8:=by
 rcases aFY (l:=l) l.length with ⟨h1,_⟩|⟨h1,h2,h3,_⟩
 ·exact absurd (show (rA l l.length).1=_ from by rw [h1]) h
 exact ⟨by show 0<iW l (rA l l.length).1;rw [←h2];exact h3,h1.1.1,h1.1.2⟩
theorem aL2 (most:Int):∀ (f:Nat) (out parts:List ByteArray),(out.length:Int)≤max most 0→out.length≤32→((sE most f out parts).length:Int)≤max most 0∧(sE most f out parts).length≤32
 | 0,out,parts,h1,h2=>⟨h1,h2⟩
 | f+1,out,parts,h1,h2=>by
  unfold sE;split
  ·rename_i hc;split
   ·exact ⟨h1,h2⟩
   exact aL2 most f _ _ (by rw [List.length_append,List.length_singleton];omega) (by rw [List.length_append,List.length_singleton];omega)
  exact ⟨h1,h2⟩
theorem aL3 (most:Int):∀ (f:Nat) (out parts:List ByteArray),(∀ a∈out,2≤a.size∧a.size≤8)→∀ a∈sE most f out parts,2≤a.size∧a.size≤8
 | 0,out,parts,h=>h
 | f+1,out,parts,h=>by
  unfold sE;split
  ·split
   ·exact h
   rename_i hc;refine aL3 most f _ _ fun a ha=>?_;rcases List.mem_append.1 ha with ha|ha
   ·exact h a ha
   rw [List.mem_singleton] at ha;rw [ha];exact (aVU hc).2
  exact h
theorem aVV {l:List ByteArray}(h:wt l≤5000000)(most:Int):((chooseP l most).length:Int)≤max most 0∧(chooseP l most).length≤32:=by
 rw [aL4 h];exact aL2 most 33 [] l (by show ((0:Nat):Int)≤_;omega) (Nat.zero_le _)
theorem aVW {l:List ByteArray}(h:wt l≤5000000)(most:Int):∀ a∈chooseP l most,2≤a.size∧a.size≤8:=by
 rw [aL4 h];exact aL3 most 33 [] l fun a ha=>by simp at ha
theorem aFZ {s:ByteArray}{ab:List ByteArray}:∀ (f i fr:Nat) (out:List bX),iX s.size out→iX s.size (lT s ab f i fr out)∧(lT s ab f i fr out).length≤out.length+2*f+1
 | 0,i,fr,out,h=>by
  have hf:iX s.size (eN s fr s.size out):=by
   unfold eN;split
   ·exact h.app (by show (s.extract fr s.size).size≤_;rw [ByteArray.size_extract];omega)
   exact h
  exact ⟨hf,by have:=aBY s fr s.size out;show (eN s fr s.size out).length≤_;omega⟩
 | f+1,i,fr,out,h=>by
  have hf:∀ j,iX s.size (eN s fr j out):=fun j=>by
   unfold eN;split
   ·exact h.app (by show (s.extract fr j).size≤_;rw [ByteArray.size_extract];omega)
   exact h
  unfold lT;split
  ·split
   ·have:=aFZ (s:=s) (ab:=ab) f (i+1) fr out h;exact ⟨this.1,by omega⟩
   have h2:=aBY s fr i out;have:=aFZ (s:=s) (ab:=ab) f (i+(ab.getD (cG s ab i-1) ByteArray.empty).size) (i+(ab.getD (cG s ab i-1) ByteArray.empty).size) (eN s fr i out++[(ByteArray.empty,(cG s ab i:Int))]) ((hf i).app (Nat.zero_le _));refine ⟨this.1,?_⟩;have h3:=this.2;rw [List.length_append,List.length_singleton] at h3;omega
  exact ⟨hf s.size,by have:=aBY s fr s.size out;omega⟩
theorem PC.last {P:Program}{f:Nat}{a x y z:Av}(h:PC P f [a,x] z)(hxy:∀ E v,aA E y v→aA E x v):PC P f [a,y] z:=fun E vs hG hA hR hB hU=>h E vs hG (by
 unfold aG aG at hA ⊢;obtain ⟨v,us,h1,h2,v',us',h3,h4,h5⟩:=hA;exact ⟨v,us,h1,h2,v',us',h3,hxy E v' h4,h5⟩) hR hB hU
theorem as8 (c:Int):uJ c=eZ c:=by
 unfold uJ eZ;rw [Bool.eq_iff_iff];simp only [Bool.or_eq_true,Bool.and_eq_true,decide_eq_true_eq,beq_iff_eq]
theorem as9 (s:ByteArray):qN s=cN (tB s):=by
 unfold qN cN;rw [fK,Bool.and_comm,show uJ=eZ from funext as8];congr 1;rw [decide_eq_decide];omega
theorem atA (s:ByteArray)(hs:s.size≤1000000000):PC Tryz.prog 146 [vs s] (vb (cN (tB s))):=by
 rw [←as9];exact aoL s (by omega)
theorem aIM (s:ByteArray)(hs:s.size≤1000000000):PC Tryz.prog 64 [vs s] (vb (cN (tB s))):=by
 intro E vs' hG hA _ _ _;unfold aG aG at hA;obtain ⟨v,us,rfl,hv,rfl⟩:=hA;unfold aA at hv;subst hv;refine (aF6 s E.w hs).mono ?_;rintro en w' ⟨rfl,rfl⟩;exact ⟨E,_,rfl,rfl,hG,(Step.refl E).kept (by simp),by unfold aA;rfl,fun n y hn=>by simp [aL] at hn⟩
theorem ahD {f:FuncId}{e:TypeId}{ls zs:List Int}{P:Program}(h:∀ A c w,Rd w w.heap.size A (cb .i64 ls)→ls.length≤c→Calls P f #[.slice A ls.length c] w (kG w e (cb .u8 zs))):PC P f [aK ls] (bs zs):=by
 intro E vs hG hA _ _ _;unfold aG aG at hA;obtain ⟨v,us,rfl,hv,rfl⟩:=hA;obtain ⟨A,c,rfl,h1,_,h2⟩:=aKM hv;refine (h A c E.w h2 h1).mono ?_;rintro en w' ⟨B,n,cc,rfl,hown,hb⟩;exact ⟨{ E with w:=w' },_,rfl,rfl,hG.grow hb,(Step.grow hG hb).kept (by simp),aKB hG hown hb,fun n y hn=>by simp [aL] at hn⟩
theorem aSS {E:Env}{zs:List Int}{k:Int}{v:Value}(h:aA E (aK zs) v):aA E (.tup [aK zs,vi k]) (.tuple #[v,.int .i64 k]):=by
 unfold aA;refine ⟨[_,_],rfl,?_⟩;unfold aG aG aG;exact ⟨_,_,rfl,h,_,_,rfl,by unfold aA;rfl,rfl⟩
theorem ahE {f:FuncId}{e:TypeId}{s:ByteArray}{zs:List Int}{k:Int}{P:Program}(h:∀ w,Calls P f #[.string s] w fun en w'=>∃ A n c,en=.returned (.tuple #[.slice A n c,.int .i64 k])∧bA w' w.heap.size e (.slice A n c) (cb .i64 zs)∧Below w.heap.size w w'):PC P f [vs s] (.tup [aK zs,vi k]):=by
 intro E us hG hA _ _ _;unfold aG aG at hA;obtain ⟨v,us,rfl,hv,rfl⟩:=hA;unfold aA at hv;subst hv;refine (h E.w).mono ?_;rintro en w' ⟨A,n,c,rfl,hown,hb⟩;exact ⟨{ E with w:=w' },_,rfl,rfl,hG.grow hb,(Step.grow hG hb).kept (by simp),aSS (aB5 hG hown hb),fun n y hn=>by simp [aL] at hn⟩
theorem ahF {f:FuncId}{e:TypeId}{xs zs:List Int}{k:Int}{P:Program}(h:∀ A c w,Rd w w.heap.size A (cb .u8 xs)→xs.length≤c→Calls P f #[.slice A xs.length c] w fun en w'=>∃ A n c,en=.returned (.tuple #[.slice A n c,.int .i64 k])∧bA w' w.heap.size e (.slice A n c) (cb .i64 zs)∧Below w.heap.size w w'):PC P f [bs xs] (.tup [aK zs,vi k]):=by
 intro E us hG hA _ _ _;unfold aG aG at hA;obtain ⟨v,us,rfl,hv,rfl⟩:=hA;obtain ⟨A,c,rfl,h1,_,h2⟩:=aBC hv;refine (h A c E.w h2 h1).mono ?_;rintro en w' ⟨A',n,c',rfl,hown,hb⟩;exact ⟨{ E with w:=w' },_,rfl,rfl,hG.grow hb,(Step.grow hG hb).kept (by simp),aSS (aB5 hG hown hb),fun n y hn=>by simp [aL] at hn⟩
theorem acJ (ls:List Int)(hl:ls.length≤1000000):PC Tryz.prog 66 [aK ls] (bs (fW ls)):=ahD (e:=5) fun A c w h1 h2=>aWI A _ c ls w h1 rfl (by omega)
theorem atB (ls:List Int)(hl:ls.length≤1000000):PC Tryz.prog 148 [aK ls] (bs (fW ls)):=ahD (e:=5) fun A c w h1 h2=>aqE A _ c ls w h1 rfl hl
theorem ahH (s:ByteArray)(hs:s.size≤100000000):PC Tryz.prog 137 [vs s] (.tup [aK (jF (tB s)).1,vi (jF (tB s)).2]):=ahE (e:=3) fun w=>aBZ s w hs
theorem atC (s:ByteArray)(hs:s.size≤100000000):PC Tryz.prog 214 [vs s] (.tup [aK (jF (tB s)).1,vi (jF (tB s)).2]):=ahE (e:=3) fun w=>aqJ s w hs
theorem aZN (xs:List Int)(hl:xs.length≤1000000)(hb:dC xs):PC Tryz.prog 257 [bs xs] (.tup [aK (gD xs).1,vi (gD xs).2]):=ahF (e:=3) fun A c w h1 h2=>aWM A _ c xs w h1 rfl hb (by omega)
structure PoolP where
 abbrevs:List ByteArray
 at_:List Int
 bytes:List Int
def aAE:PoolP:=⟨[],[],[]⟩
def kO (p:PoolP):Av:=.agg [bB p.abbrevs,aK p.at_,bs p.bytes]
theorem sQ (p:PoolP):aN (kO p):=by unfold kO aN;simp [bE,bV,cP,oP]
def iM (p:bX):List Int:=if p.2>0 then [30,p.2-1] else (jF (tB p.1)).1
def gJ (l:List bX):Nat→List Int
 | 0=>[]
 | k+1=>gJ l k++iM (l.getD k dJ)
def gT (s:ByteArray)(ab:List ByteArray):List Int:=gJ (bL s ab) (bL s ab).length
theorem ahI (c:Int):(cS c).length≤3:=by
 unfold cS
 repeat' split
 all_goals first|(simp;done)|(simp;omega)
theorem aST:∀ l:List Int,(bC l).length≤3*l.length
 | []=>by simp [bC]
 | c::l=>by
  have:=aST l;have h:=ahI c;show (cS c++bC l).length≤_;rw [List.length_append,List.length_cons];omega
theorem aSU (p:bX)(n:Nat)(h:p.1.size≤n):(iM p).length≤3*n+2:=by
 unfold iM jF;split
 ·simp
 split
 ·have:=aST (tB p.1);rw [fK] at this;show (bC (tB p.1)).length≤_;omega
 simp
theorem aSV {l:List bX}{n:Nat}(h:iX n l):∀ k,(gJ l k).length≤(3*n+2)*k
 | 0=>Nat.zero_le _
 | k+1=>by
  have h1:=aSV h k;have h2:=aSU (l.getD k dJ) n (h k);show (gJ l k++iM (l.getD k dJ)).length≤_;rw [List.length_append,Nat.mul_succ];omega
theorem ahJ {s:ByteArray}(ab:List ByteArray):iX s.size (bL s ab)∧(bL s ab).length≤2*s.size+3:=by
 have:=aFZ (s:=s) (ab:=ab) (s.size+1) 0 0 [] (iX.nil _);refine ⟨this.1,?_⟩;have h2:=this.2;show (lT s ab (s.size+1) 0 0 []).length≤_;simp only [List.length_nil] at h2;omega
theorem ahK {s:ByteArray}(ab:List ByteArray):∀ k,0≤((bL s ab).getD k dJ).2∧((bL s ab).getD k dJ).2≤32:=fun k=>by
 rcases Nat.lt_or_ge k (bL s ab).length with h|h
 ·have hm:(bL s ab).getD k dJ∈bL s ab:=by rw [List.getD,List.getElem?_eq_getElem h];exact List.getElem_mem h
  have:=aCX (s:=s) (ab:=ab) (s.size+1) 0 0 [] (fun p hp=>by simp at hp) _ hm;unfold pH at this;simp only [Bool.or_eq_false_iff,decide_eq_false_iff_not] at this;omega
 rw [List.getD,List.getElem?_eq_none h];decide
theorem ahL {a b c d:Nat}(h:a≤c)(h':b≤d):a*b≤c*d:=Nat.mul_le_mul h h'
theorem ahM (a b:Int):∀ j,j<2→eQ (gE [vi a,vi b] j) 1=true∧∀ i y,i<1→[vi a,vi b][j*1+i]?=some y→(cL (gE [vi a,vi b] j))[i]?=some y:=fun j hj=>by
 rcases j with _|_|j
 ·refine ⟨rfl,fun i y hi hy=>?_⟩;have:i=0:=by omega
  subst this;exact hy
 ·refine ⟨rfl,fun i y hi hy=>?_⟩;have:i=0:=by omega
  subst this;exact hy
 omega
theorem aP3 (c:Int):∀ j,j<1→eQ (gE [vi c] j) 1=true∧∀ i y,i<1→[vi c][j*1+i]?=some y→(cL (gE [vi c] j))[i]?=some y:=fun j hj=>by
 have:j=0:=by omega
 subst this;refine ⟨rfl,fun i y hi hy=>?_⟩;have:i=0:=by omega
 subst this;exact hy
instance (p:PoolP):Pu (kO p):=⟨sQ p⟩
set_option maxHeartbeats 6400000
theorem aoS {r:List Int}{n:Nat}(h:n≤r.length)(E:Env)(v:Value)(hr:aA E (.sl 1 (r.length-n) (fun j=>(fun j=>vi (r.getD j 0)) (j+n))) v):aA E (aK (r.drop n)) v:=by
 unfold aK;rw [List.length_drop];refine pI (fun E k hk v hv=>?_) E v hr;have e:(r.drop n).getD k 0=r.getD (k+n) 0:=by
  rw [List.getD,List.getD,List.getElem?_drop];congr 2;omega
 rw [e];exact hv
theorem apJ (a b:List Int):PC Tryz.prog 301 [aK a,aK b] (vb (decide (a=b))):=by
 refine FB 0 26 Tryz.func301 ?_;refine dM (t:=0) (x:=aK a) rfl eR fun ha=>?_;refine Gd (fun hb=>?_) fun hb=>?_
 ·have hne:¬ (a.length:Int)=b.length:=by simpa using hb
  refine G ?_;exact RB (h:=(decide_eq_false fun e=>hne (by rw [e])).symm)
 have hll:(a.length:Int)=b.length:=by simpa using hb
 refine G ?_;refine LP (ι:=Nat) (fun k=>[(13,vi k)]) (fun _=>[]) (fun k=>k≤a.length∧∀ j,j<k→a.getD j 0=b.getD j 0) (fun k=>a.length-k) 0 ⟨Nat.zero_le _,fun j hj=>absurd hj (by omega)⟩ ?_;intro k hI;refine Gd (fun hk=>?_) fun hk=>?_
 ·have hk:k<a.length:=by have:=of_decide_eq_true hk;omega
  refine Gd (fun he=>?_) fun he=>?_
  ·refine G ?_;exact RB (h:=(decide_eq_false fun e=>by subst e;simp at he).symm)
  refine G ?_;exact NX (k+1) ⟨hk,fun j hj=>by
   rcases Nat.lt_succ_iff_lt_or_eq.1 hj with h|rfl
   ·exact hI.2 j h
   simpa using he⟩
 have hk:k=a.length:=by have:=of_decide_eq_false hk;omega
 refine G ?_;exact RB (h:=(decide_eq_true (List.ext_getElem (by omega) fun j h1 h2=>by
  have:=hI.2 j (by omega);rwa [List.getD,List.getD,List.getElem?_eq_getElem h1,List.getElem?_eq_getElem h2] at this)).symm)
theorem apL (l:List Int):∀ j,j<l.length→(l.map fun x=>Av.val (.int .u8 x))[j]?=some (bv l j)∧sJ (bv l j)=true:=fun j hj=>⟨by simp [hj,bv],rfl⟩
theorem ag5 (ls:List Int)(hl:ls.length≤1000000):PC Tryz.prog 286 [aK ls] (.tup [vs (strOfNums (aText ls).1),vi (aText ls).2]):=by
 refine FB 2 44 Tryz.func286 ?_;refine G ?_;refine bS (Le.nameNil 4 0 1 5 rfl rfl) ?_;refine LP (ι:=List Int × List Int) (fun q=>[(4,.osl 1 0 q.1.length),(5,aK q.2)]) (fun q=>[(0,.live 5 (q.1.map fun x=>.val (.int .u8 x))),(1,.unborn)]) (fun q=>qR ls q.1 q.2∧dC q.1∧q.1.length+q.2.length≤ls.length) (fun q=>q.2.length) ([],ls) ⟨qR.start ls,dC.nil,by simp⟩ ?_;rintro ⟨t,r⟩ ⟨hm,hbt,hlen⟩;dsimp only at hm hbt hlen;refine Gd (fun h0=>?_) fun h0=>?_
 ·have hr:0<r.length:=by have h:=of_decide_eq_true h0;dsimp only at h;omega
  obtain ⟨f1,f2,f3⟩:=ag9 r hr;have hst:=hm.step hr;refine C (anU r) ?_;refine cd (fun hz=>?_) fun hz=>?_
  ·rw [hm.stop hr (by simpa using hz)];refine G ?_;exact R2
  have hz:(gL r).2≠0:=fun h=>by rw [h] at hz;exact absurd hz (by decide)
  generalize gL r=F at *;refine G ?_;refine Z1 jG ?_;refine jH 1 ?_;refine G ?_;refine Z1 (OC.to (aoR (e:=3) (by_:=8) (zs:=[.int .i64 0]) F.2 rfl rfl rfl (by kernel_rfl) (by kernel_rfl) f1) (aoS f1)) ?_;refine G ?_;exact NX (t++[F.1],r.drop F.2) ⟨hst,hbt.append (by intro x hx;rw [List.mem_singleton] at hx;subst hx;exact ⟨f2,f3⟩),by dsimp only;simp only [List.length_append,List.length_drop,List.length_cons,List.length_nil];omega⟩ (hm:=by dsimp only;rw [List.length_drop];omega) (hl:=by (try dsimp only);rw [List.map_append];exact LT 0 1 [1])
 obtain rfl:r=[]:=List.eq_nil_of_length_eq_zero (by have h:=of_decide_eq_false h0;dsimp only at h;omega);obtain ⟨d1,d2⟩:=hm.done;have hsz:(strOfNums t).size≤100000000:=by rw [strOfNums_size];simp at hlen;omega
 have hc:=ahH (strOfNums t) hsz;rw [pJ hbt] at hc;refine bS (Le.freeze 4 0 (bv t) rfl rfl (by simp) (apL t)) ?_;refine G ?_;refine Z1 (vX t rfl rfl (by kernel_rfl)) ?_;refine C hc ?_;refine C (apJ (jF t).1 ls) ?_;refine cd (fun hb=>?_) fun hb=>?_
 ·rw [d2 fun h=>by unfold jF at hb;rw [if_pos h.1] at hb;simp [h.2] at hb];refine G ?_;exact R2
 have h:cN t=true∧bC t=ls:=by
  unfold jF at hb;split at hb
  ·rename_i h1;exact ⟨h1,by simpa using hb⟩
  simp at hb
 rw [d1 h];refine G ?_;refine Z1 (vX t rfl rfl (by kernel_rfl)) ?_;refine G ?_;exact R2
end Go.Proofs.YtgajclaoaphgoaaGreatDoor
