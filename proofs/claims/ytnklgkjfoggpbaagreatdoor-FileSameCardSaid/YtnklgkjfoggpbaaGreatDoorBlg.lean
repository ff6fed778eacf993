/- Parts of the proof of a law of this seat: rules and contracts; no conditions. -/
import Derived.Test.YtnklgkjfoggpbaaGreatDoorLt
import Derived.Test.YtnklgkjfoggpbaaGreatDoorWireSpec
import Derived.Test.YtnklgkjfoggpbaaGreatDoorBca
import Derived.Test.YtnklgkjfoggpbaaGreatDoorProg
import Derived.KernelRfl
import Derived.Test.YtnklgkjfoggpbaaGreatDoorBlf
set_option maxHeartbeats 6400000
set_option maxRecDepth 100000
set_option linter.unusedVariables false
set_option linter.unusedSimpArgs false
namespace Go.Proofs.YtnklgkjfoggpbaaGreatDoor
open Go.RowKit
theorem zO (ab:List ByteArray)(m:Nat):aN (.sl 1 m (fun j=>vs (ab.getD j ByteArray.empty))):=by unfold aN;intro j;simp [aN]
theorem zP (s:ByteArray)(ab:List ByteArray):aN (.sl 1 s.size (fun j=>vi (cG s ab j:Int))):=by unfold aN;intro j;simp [aN]
theorem aB9 {Z:Nat→Prop}(l:List bX):aO Z (fN l):=by
 induction l with
 | nil=>unfold fN aO;trivial
 | cons p l ih=>
  show aO Z (vs p.1::vi p.2::fN l)
  unfold aO aO
  exact ⟨by simp [aH],by simp [aH],ih⟩
theorem aXV (s:ByteArray)(ab:List ByteArray)(hs:s.size≤1000000)(hb2:∀ k,(ab.getD k ByteArray.empty).size≤1000000)(hbl:ab.length≤1000000):PC Tryz.prog 92 [vs s,bB ab] (rH (bL s ab)):=by
 obtain ⟨m,hm⟩:∃ m:Nat,m=min ab.length 32:=⟨_,rfl⟩
 have hmi:min (ab.length:Int) 32=(m:Int):=by omega
 have hml:m≤ab.length:=by omega
 have hm32:m≤32:=by omega
 refine FC.body 6 136 Tryz.func92 rfl (by kernel_rfl) ?_
 refine sq ?_
 refine Z1 (aCA (x:=.val _) rfl rfl) ?_
 refine Z1 aB ?_
 refine cn ?_
 refine sq ?_
 refine Z1 mo ?_
 refine Z1 mo ?_
 refine Z1 ln ?_
 refine Z1 (OC.cast (aNF rfl rfl rfl) (show vi (min (ab.length:Int) 32)=vi (m:Int) from by rw [hmi])) ?_
 refine Z1 (aGO (e:=9) (by_:=16) (zs:=[.string ⟨#[]⟩]) m rfl rfl rfl (by kernel_rfl) (by kernel_rfl) (by omega)) ?_
 refine Z1 aB ?_
 refine cn ?_
 refine sq ?_
 refine Z1 ld ?_
 refine Z1 oG ?_
 refine Z1 ba ?_
 refine aZ rfl rfl (aGP (e:=3) (by_:=8) (z:=.int .i64 0) (m:=s.size+1) 0 rfl rfl rfl rfl (by kernel_rfl) (by kernel_rfl) rfl (by omega) (by omega)) ⟨rfl,trivial⟩ ?_
 refine Z1 aB ?_
 refine cn ?_
 refine sq ?_
 refine Z1 ld ?_
 refine Z1 oG ?_
 refine aZ rfl rfl (aGP (e:=3) (by_:=8) (z:=.int .i64 0) (m:=s.size) 1 rfl rfl rfl rfl (by kernel_rfl) (by kernel_rfl) rfl (by omega) (by omega)) ⟨rfl,trivial⟩ ?_
 refine Z1 aB ?_
 refine cn ?_
 refine aD ?_
 refine sq ?_
 refine Z1 ld ?_
 refine Z1 oG ?_
 refine Z1 iP ?_
 refine Z1 aB ?_
 refine cn ?_
 refine aU ?_
 refine bM (ι:=Nat) (fun d=>⟨[(1,.sl 1 m (fun j=>vs (ab.getD j ByteArray.empty))),(2,.ptr (vs s)),(5,.osl 1 0 (s.size+1)),(6,.osl 1 1 s.size),(7,vi ((d:Int)-1))],[(0,.live 3 ((cD s ab (s.size-d)).map vi)),(1,.live 3 ((iZ s ab (s.size-d)).map vi)),(2,.unborn),(3,.unborn),(4,.unborn),(5,.unborn)]⟩) (fun d=>d≤s.size) (fun d=>d) s.size (Nat.le_refl _) (Le.sub ⟨.inr rfl,.inr rfl,.inr rfl,.inr rfl,.inr rfl,trivial⟩ ⟨by rw [Nat.sub_self];show _=some (Hs.live _ ((List.replicate (s.size+1) (0:Int)).map vi));rw [List.map_replicate];rfl,by rw [Nat.sub_self];show _=some (Hs.live _ ((List.replicate s.size (0:Int)).map vi));rw [List.map_replicate];rfl,rfl,rfl,rfl,rfl,trivial⟩) ?_
 intro d hI
 refine aD ?_
 refine sq ?_
 refine Z1 mo ?_
 refine Z1 bz ?_
 refine cn ?_
 refine cd (fun hb=>?_) fun hb=>?_
 ·obtain ⟨i,rfl⟩:∃ i,d=i+1:=⟨d-1,by have h0:=of_decide_eq_true hb;omega⟩
  have h1:=aNG (s:=s) (i:=i) (by omega)
  have hbd:=aNH s ab (s.size-(i+1)) (by omega)
  have hal:=xH s ab (s.size-(i+1))
  have hbl2:=zL s ab (s.size-(i+1))
  have hbz:(iZ s ab (s.size-(i+1))).getD i 0=0:=aNA s ab _ i (by omega)
  refine bS (Le.sub (τ:=⟨[(1,.sl 1 m (fun j=>vs (ab.getD j ByteArray.empty))),(2,.ptr (vs s)),(5,.osl 1 0 (s.size+1)),(6,.osl 1 1 s.size),(7,vi (i:Int))],[(0,.live 3 ((cD s ab (s.size-(i+1))).map vi)),(1,.live 3 ((iZ s ab (s.size-(i+1))).map vi)),(2,.unborn),(3,.unborn),(4,.unborn),(5,.unborn)]⟩) ⟨.inr rfl,.inr rfl,.inr rfl,.inr rfl,.inr (aR (by omega)),trivial⟩ ⟨rfl,rfl,rfl,rfl,rfl,rfl,trivial⟩) ?_
  have hb1:=hbd (i+1)
  refine aQ ?_
  refine aD ?_
  refine aU ?_
  refine aD ?_
  refine dw ?_
  refine Z1 mo ?_
  refine Z1 mo ?_
  refine Z1 ld ?_
  refine Z1 mo ?_
  refine Z1 mo ?_
  refine Z1 ba ?_
  refine Z1 (OC.cast (aGK rfl rfl rfl rfl (by kernel_rfl) (by omega) (by omega) (by omega)) (show Av.val (.string (s.extract (i:Int).toNat ((i:Int)+1).toNat))=vs (s.extract i (i+1)) from by have:=aNI s i 1;rw [←this];rfl)) ?_
  refine Z1 (cq (aM6 _ (by rw [h1.1];omega)) rfl rfl) ?_
  refine Z1 mo ?_
  refine Z1 mo ?_
  refine Z1 ba ?_
  refine eL (R:=[(_,.live _ _)]) rfl rfl (vL (j:=i+1) rfl rfl rfl (by kernel_rfl) (by omega) (by omega) (by omega)) ⟨rfl,trivial⟩ ?_
  refine eL (R:=[(_,.live _ _)]) rfl rfl (fL (y:=vi ((cD s ab (s.size-(i+1))).getD (i+1) 0)) rfl rfl (by kernel_rfl) (vO (by rw [hal];omega))) ⟨rfl,trivial⟩ ?_
  refine Z1 ba ?_
  refine Z1 sK ?_
  refine fP rfl rfl (lG (y:=vi (fB (s.extract i (i+1))+(cD s ab (s.size-(i+1))).getD (i+1) 0)) (cs':=(iQ s ab i (cD s ab (s.size-(i+1))) 0).map vi) rfl rfl rfl (by kernel_rfl) (by kernel_rfl) oH (by rw [List.length_map,hal];omega) (zQ _ _ _)) ⟨rfl,trivial⟩ ?_
  refine cn (dn ?_)
  refine sq ?_
  refine Z1 mo ?_
  refine Z1 ln ?_
  refine Z1 mo ?_
  refine cn ?_
  refine aU ?_
  refine bM (ι:=Nat) (fun k=>⟨[(1,.sl 1 m (fun j=>vs (ab.getD j ByteArray.empty))),(2,.ptr (vs s)),(5,.osl 1 0 (s.size+1)),(6,.osl 1 1 s.size),(7,vi (i:Int)),(48,.sl 1 m (fun j=>vs (ab.getD j ByteArray.empty))),(49,vi m),(50,vi k)],[(0,.live 3 ((iQ s ab i (cD s ab (s.size-(i+1))) k).map vi)),(1,.live 3 ((lY s ab i (cD s ab (s.size-(i+1))) (iZ s ab (s.size-(i+1))) k).map vi)),(2,.unborn),(3,.unborn),(4,.unborn),(5,.unborn)]⟩) (fun k=>k≤m) (fun k=>m-k) 0 (Nat.zero_le _) (Le.sub ⟨.inr rfl,.inr rfl,.inr rfl,.inr rfl,.inr rfl,.inr rfl,.inr rfl,.inr rfl,trivial⟩ ⟨rfl,by rw [aXO hbz];rfl,rfl,rfl,rfl,rfl,trivial⟩) ?_
  intro k hI
  refine sq ?_
  refine Z1 bz ?_
  refine cn ?_
  refine aD ?_
  refine cd (fun hb=>?_) fun hb=>?_
  ·have hlt:k<m:=by have h0:=of_decide_eq_true hb;omega
   have hk32:k<32:=by omega
   have hkb:=aGQ (s:=s) (ab:=ab) (i:=i) (A:=(cD s ab (s.size-(i+1)))) (by omega) hbd k
   have hbk:=hb2 k
   refine aQ ?_
   refine aD ?_
   refine aU ?_
   refine sq ?_
   refine Z1 mo ?_
   refine Z1 ia ?_
   refine Z1 ld ?_
   refine Z1 aB ?_
   refine Z1 aB ?_
   refine cn ?_
   refine aD ?_
   refine dw ?_
   refine Z1 mo ?_
   refine Z1 (zR rfl rfl rfl) ?_
   refine Z1 mo ?_
   refine Z4 (fun hC=>ld) ?_
   refine Z4 (fun hC=>mo) ?_
   refine aW (R:=[]) rfl rfl rfl cA (fun hC=>OC.cast (aXW rfl rfl rfl (by kernel_rfl) (by omega) (by omega)) (show Av.val (.string (s.extract (i:Int).toNat s.size))=vs (s.extract i s.size) from by rw [Int.toNat_natCast])) (fun hC=>⟨(by first|rfl|exact hC|(simp only [Bool.and_eq_true] at hC;first|exact hC.1|exact hC.1.1|exact hC.2)|simp_all),(by first|rfl|exact hC|(simp only [Bool.and_eq_true] at hC;first|exact hC.1|exact hC.1.1|exact hC.2)|simp_all),trivial⟩) trivial ?_
   refine Z4 (fun hC=>mo) ?_
   refine Z4 (fun hC=>ca (aXX (s.extract i s.size) (ab.getD k ByteArray.empty))) ?_
   refine Z1 an ?_
   refine Z1 mo ?_
   refine Z4 (fun hC=>mo) ?_
   refine Z4 (fun hC=>mo) ?_
   refine Z4 (fun hC=>mo) ?_
   refine Z4 (fun hC=>oG) ?_
   refine Z4 (fun hC=>ba) ?_
   refine aW (R:=[(_,.live _ _)]) rfl rfl rfl cA (fun hC=>by
    have hfit:gM s i ab k=true:=by rw [←aB8 (by omega) hk32];exact hC
    have hf:=qB hfit
    exact vL (t:=3) (cs:=(iQ s ab i (cD s ab (s.size-(i+1))) k).map vi) (j:=i+(ab.getD k ByteArray.empty).size) rfl rfl rfl (by kernel_rfl) (by omega) (by omega) (by omega)) (fun hC=>⟨(by first|rfl|exact hC|(simp only [Bool.and_eq_true] at hC;first|exact hC.1|exact hC.1.1|exact hC.2)|simp_all),(by first|rfl|exact hC|(simp only [Bool.and_eq_true] at hC;first|exact hC.1|exact hC.1.1|exact hC.2)|simp_all),trivial⟩) ⟨rfl,trivial⟩ ?_
   refine aW (R:=[(_,.live _ _)]) rfl rfl rfl cA (fun hC=>by
    have hfit:gM s i ab k=true:=by rw [←aB8 (by omega) hk32];exact hC
    have hf:=qB hfit
    have hat:(iQ s ab i (cD s ab (s.size-(i+1))) k).getD (i+(ab.getD k ByteArray.empty).size) 0=(cD s ab (s.size-(i+1))).getD (i+(ab.getD k ByteArray.empty).size) 0:=by rw [aCB (by omega),if_neg (by omega)]
    exact fL (t:=3) (cs:=(iQ s ab i (cD s ab (s.size-(i+1))) k).map vi) (y:=vi ((cD s ab (s.size-(i+1))).getD (i+(ab.getD k ByteArray.empty).size) 0)) rfl rfl (by kernel_rfl) (by rw [←hat];exact vO (by rw [aCC,xH];omega))) (fun hC=>⟨(by first|rfl|exact hC|(simp only [Bool.and_eq_true] at hC;first|exact hC.1|exact hC.1.1|exact hC.2)|simp_all),trivial⟩) ⟨rfl,trivial⟩ ?_
   refine aW (R:=[]) rfl rfl rfl cA (fun hC=>by
    have hbj:=hbd (i+(ab.getD k ByteArray.empty).size)
    exact xI rfl rfl rfl (by first|exact aNJ (by omega) (by omega)|rfl)) (fun hC=>⟨(by first|rfl|exact hC|(simp only [Bool.and_eq_true] at hC;first|exact hC.1|exact hC.1.1|exact hC.2)|simp_all),(by first|rfl|exact hC|(simp only [Bool.and_eq_true] at hC;first|exact hC.1|exact hC.1.1|exact hC.2)|simp_all),trivial⟩) trivial ?_
   refine Z4 (fun hC=>mo) ?_
   refine Z4 (fun hC=>mo) ?_
   refine aW (R:=[(_,.live _ _)]) rfl rfl rfl cA (fun hC=>aCD rfl rfl rfl (by kernel_rfl) (by omega)) (fun hC=>⟨(by first|rfl|exact hC|(simp only [Bool.and_eq_true] at hC;first|exact hC.1|exact hC.1.1|exact hC.2)|simp_all),(by first|rfl|exact hC|(simp only [Bool.and_eq_true] at hC;first|exact hC.1|exact hC.1.1|exact hC.2)|simp_all),trivial⟩) ⟨rfl,trivial⟩ ?_
   refine aW (R:=[(_,.live _ _)]) rfl rfl rfl cA (fun hC=>by
    have hat:(iQ s ab i (cD s ab (s.size-(i+1))) k).getD i 0=cR s ab i (cD s ab (s.size-(i+1))) k:=by rw [aCB (by omega),if_pos rfl]
    exact fL (t:=3) (cs:=(iQ s ab i (cD s ab (s.size-(i+1))) k).map vi) (y:=vi (cR s ab i (cD s ab (s.size-(i+1))) k)) rfl rfl (by kernel_rfl) (by rw [←hat];exact vO (by rw [aCC,xH];omega))) (fun hC=>⟨(by first|rfl|exact hC|(simp only [Bool.and_eq_true] at hC;first|exact hC.1|exact hC.1.1|exact hC.2)|simp_all),trivial⟩) ⟨rfl,trivial⟩ ?_
   refine Z4 (fun hC=>bz) ?_
   refine Z1 an ?_
   refine cn (dn ?_)
   refine cd (fun hb=>?_) fun hb=>?_
   ·rw [aB8 (by omega) hk32] at hb
    have hq:=hb
    simp only [Bool.and_eq_true,decide_eq_true_eq] at hq
    have hf:=qB hq.1
    have hbj:=hbd (i+(ab.getD k ByteArray.empty).size)
    have hat:(iQ s ab i (cD s ab (s.size-(i+1))) k).getD (i+(ab.getD k ByteArray.empty).size) 0=(cD s ab (s.size-(i+1))).getD (i+(ab.getD k ByteArray.empty).size) 0:=by rw [aCB (by omega),if_neg (by omega)]
    have hsk:cR s ab i (cD s ab (s.size-(i+1))) (k+1)=2+(cD s ab (s.size-(i+1))).getD (i+(ab.getD k ByteArray.empty).size) 0:=by show (if _ then _ else _)=_;rw [if_pos ⟨hq.1,hq.2⟩]
    have hst:iQ s ab i (cD s ab (s.size-(i+1))) (k+1)=(iQ s ab i (cD s ab (s.size-(i+1))) k).set i (2+(cD s ab (s.size-(i+1))).getD (i+(ab.getD k ByteArray.empty).size) 0):=by rw [←hsk,aXY]
    have hsv:lY s ab i (cD s ab (s.size-(i+1))) (iZ s ab (s.size-(i+1))) (k+1)=(lY s ab i (cD s ab (s.size-(i+1))) (iZ s ab (s.size-(i+1))) k).set i ((k:Int)+1):=by
     rw [←aXP]
     congr 1
     show ((if _ then k+1 else _:Nat):Int)=_
     rw [if_pos ⟨hq.1,hq.2⟩]
     rfl
    refine tx ?_
    refine Z1 mo ?_
    refine Z1 mo ?_
    refine Z1 mo ?_
    refine Z1 mo ?_
    refine Z1 mo ?_
    refine Z1 mo ?_
    refine Z1 mo ?_
    refine Z1 oG ?_
    refine Z1 ba ?_
    refine eL (R:=[(_,.live _ _)]) rfl rfl (vL (j:=i+(ab.getD k ByteArray.empty).size) rfl rfl rfl (by kernel_rfl) (by omega) (by omega) (by omega)) ⟨rfl,trivial⟩ ?_
    refine eL (R:=[(_,.live _ _)]) rfl rfl (fL (t:=3) (cs:=(iQ s ab i (cD s ab (s.size-(i+1))) k).map vi) (y:=vi ((cD s ab (s.size-(i+1))).getD (i+(ab.getD k ByteArray.empty).size) 0)) rfl rfl (by kernel_rfl) (by rw [←hat];exact vO (by rw [aCC,xH];omega))) ⟨rfl,trivial⟩ ?_
    refine Z1 ba ?_
    refine Z1 mo ?_
    refine Z1 ba ?_
    refine Z1 sK ?_
    refine fP rfl rfl (lG (y:=vi (2+(cD s ab (s.size-(i+1))).getD (i+(ab.getD k ByteArray.empty).size) 0)) (cs':=((iQ s ab i (cD s ab (s.size-(i+1))) k).set i (2+(cD s ab (s.size-(i+1))).getD (i+(ab.getD k ByteArray.empty).size) 0)).map vi) rfl rfl rfl (by kernel_rfl) (by kernel_rfl) oH (by rw [List.length_map,aCC,hal];omega) (zQ _ _ _)) ⟨rfl,trivial⟩ ?_
    refine Z1 sK ?_
    refine fP rfl rfl (lG (y:=vi ((k:Int)+1)) (cs':=((lY s ab i (cD s ab (s.size-(i+1))) (iZ s ab (s.size-(i+1))) k).set i ((k:Int)+1)).map vi) rfl rfl rfl (by kernel_rfl) (by kernel_rfl) oH (by rw [List.length_map,aXN,hbl2];omega) (zQ _ _ _)) ⟨rfl,trivial⟩ ?_
    refine cn ?_
    refine tx ?_
    refine Z1 ba ?_
    refine Z1 mo ?_
    refine cn ?_
    exact ⟨k+1,by omega,by omega,Le.sub ⟨.inr rfl,.inr rfl,.inr rfl,.inr rfl,.inr rfl,.inr rfl,.inr rfl,.inr (aR (by omega)),trivial⟩ ⟨by rw [←hst];rfl,by rw [←hsv];rfl,rfl,rfl,rfl,rfl,trivial⟩⟩
   ·rw [aB8 (by omega) hk32] at hb
    have hnb:¬ (gM s i ab k=true∧2+(cD s ab (s.size-(i+1))).getD (i+(ab.getD k ByteArray.empty).size) 0<cR s ab i (cD s ab (s.size-(i+1))) k):=fun hc=>by rw [Bool.and_eq_false_iff,decide_eq_false_iff_not] at hb;rcases hb with hb|hb;(rw [hc.1] at hb;cases hb);exact hb hc.2
    have hst:iQ s ab i (cD s ab (s.size-(i+1))) (k+1)=iQ s ab i (cD s ab (s.size-(i+1))) k:=by
     have hsk:cR s ab i (cD s ab (s.size-(i+1))) (k+1)=cR s ab i (cD s ab (s.size-(i+1))) k:=by
      show (if _ then _ else _)=_
      rw [if_neg hnb]
     unfold iQ
     rw [hsk]
    have hsv:lY s ab i (cD s ab (s.size-(i+1))) (iZ s ab (s.size-(i+1))) (k+1)=(lY s ab i (cD s ab (s.size-(i+1))) (iZ s ab (s.size-(i+1))) k):=by
     have hsk:fX s ab i (cD s ab (s.size-(i+1))) (k+1)=fX s ab i (cD s ab (s.size-(i+1))) k:=by
      show (if _ then _ else _)=_
      rw [if_neg hnb]
     unfold lY
     rw [hsk]
    refine aQ ?_
    refine tx ?_
    refine Z1 ba ?_
    refine Z1 mo ?_
    refine cn ?_
    exact ⟨k+1,by omega,by omega,Le.sub ⟨.inr rfl,.inr rfl,.inr rfl,.inr rfl,.inr rfl,.inr rfl,.inr rfl,.inr (aR (by omega)),trivial⟩ ⟨by rw [←hst];rfl,by rw [←hsv];rfl,rfl,rfl,rfl,rfl,trivial⟩⟩
  ·have hke:k=m:=by have h0:=of_decide_eq_false hb;omega
   have hfin1:cD s ab (s.size-i)=iQ s ab i (cD s ab (s.size-(i+1))) m:=by rw [aNK (by omega)];unfold iQ;rw [aXL hm]
   have hfin2:iZ s ab (s.size-i)=lY s ab i (cD s ab (s.size-(i+1))) (iZ s ab (s.size-(i+1))) m:=by rw [aXQ (by omega)];unfold lY;rw [aXM hm]
   refine bU ?_
   refine tx ?_
   refine Z1 mo ?_
   refine Z1 iP ?_
   refine Z1 aB ?_
   refine cn ?_
   exact ⟨i,by omega,by omega,Le.sub ⟨.inr rfl,.inr rfl,.inr rfl,.inr rfl,.inr (aR (by omega)),trivial⟩ ⟨by rw [hfin1,←hke];rfl,by rw [hfin2,←hke];rfl,rfl,rfl,rfl,rfl,trivial⟩⟩
 ·have hd0:d=0:=by have h0:=of_decide_eq_false hb;omega
  subst hd0
  refine bU ?_
  refine aD ?_
  refine bS (Le.freeze 6 1 (fun j=>vi (cG s ab j:Int)) rfl rfl (by rw [List.length_map,zL]) (fun j hj=>aXR s ab j hj)) ?_
  refine tx ?_
  refine Z2 (al 2 [.slice none 0 0]) ?_
  refine cn ?_
  refine sq ?_
  refine Z2 (al 3 [.int .i64 0]) ?_
  refine cF [_] ?_
  refine cn ?_
  refine sq ?_
  refine Z1 (qC (cs:=[.own _ _,.own _ _,.ptr _]) rfl rfl) ?_
  refine Z1 aB ?_
  refine cn ?_
  refine aD ?_
  refine sq ?_
  refine Z1 aB ?_
  refine cn ?_
  refine aU ?_
  refine bS (Le.nameNilCell 2 0 4 2 148 rfl rfl rfl (by decide)) ?_
  refine bM (ι:=aXU) (fun q=>⟨[(1,.sl 1 m (fun j=>vs (ab.getD j ByteArray.empty))),(2,.ptr (vs s)),(6,.sl 1 s.size (fun j=>vi (cG s ab j:Int))),(10,.own 2 0),(11,.own 3 0),(12,.clo 155 [.own 3 0,.own 2 0,.ptr (vs s)]),(13,vi q.1)],[(2,.live 145 [.osl 2 4 (q.2.2).length]),(3,.live 3 [vi (q.2.1:Int)]),(4,.live 148 (fN (q.2.2))),(5,.unborn)]⟩) (fun q=>q.1≤s.size∧q.2.1≤q.1∧q.2.2.length≤2*q.1∧∃ f,s.size<f+q.1∧bL s ab=lT s ab f q.1 q.2.1 q.2.2) (fun q=>s.size-q.1) (0,0,[]) (⟨Nat.zero_le _,Nat.le_refl _,Nat.zero_le _,s.size+1,by omega,rfl⟩) (Le.sub ⟨.inr rfl,.inr rfl,.inr rfl,.inr rfl,.inr rfl,.inr rfl,.inr rfl,trivial⟩ ⟨rfl,rfl,rfl,rfl,trivial⟩) ?_
  intro q hI
  obtain ⟨hi1,hi2,hi3,f,hf,hcut⟩:=hI
  refine aD ?_
  refine sq ?_
  refine Z1 mo ?_
  refine Z1 ld ?_
  refine Z1 oG ?_
  refine Z1 bz ?_
  refine cn ?_
  refine cd (fun hb=>?_) fun hb=>?_
  ·have hlt:q.1<s.size:=by have h0:=of_decide_eq_true hb;omega
   obtain ⟨f,rfl⟩:∃ g,f=g+1:=⟨f-1,by omega⟩
   refine aQ ?_
   refine aU ?_
   refine aD ?_
   refine sq ?_
   refine Z1 mo ?_
   refine Z1 mo ?_
   refine Z1 (rJ (j:=q.1) rfl rfl rfl (by kernel_rfl) (by omega)) ?_
   refine Z1 ld ?_
   refine Z1 bz ?_
   refine cn ?_
   refine cd (fun hb=>?_) fun hb=>?_
   ·have htk:cG s ab q.1=0:=by (have h0:(cG s ab q.1:Int)=0:=by simpa using hb);omega
    refine sq ?_
    refine Z1 mo ?_
    refine Z1 ba ?_
    refine Z1 aB ?_
    refine cn ?_
    refine bU ?_
    exact ⟨(q.1+1,q.2.1,q.2.2),⟨by show q.1+1≤_;omega,by show q.2.1≤q.1+1;omega,by show q.2.2.length≤2*(q.1+1);omega,f,by show _<f+(q.1+1);omega,by rw [hcut];show (if _ then _ else _)=_;rw [if_pos hlt,if_pos htk]⟩,by show s.size-(q.1+1)<_;omega,Le.sub ⟨.inr rfl,.inr rfl,.inr rfl,.inr rfl,.inr rfl,.inr rfl,.inr (aR (by show (q.1:Int)+1=((q.1+1:Nat):Int);omega)),trivial⟩ ⟨rfl,rfl,rfl,rfl,trivial⟩⟩
   ·have htk:¬ cG s ab q.1=0:=by (have h0:¬ (cG s ab q.1:Int)=0:=by simpa using hb);omega
    obtain ⟨g1,g2,_⟩:=aCE hlt htk
    have hft:=qB g1
    have hfl:=aBY s q.2.1 q.1 q.2.2
    refine aQ ?_
    refine sq ?_
    refine Z1 mo ?_
    refine Z1 mo ?_
    refine aZ rfl rfl (oI [5] rfl rfl (by kernel_rfl) (aND s q.2.1 q.1 q.2.2 hs hi2 hi1 (by omega)) rfl (by simp) (by simp [bQ]) (by simp) (by simp) (by simp [aO,aH]) ⟨by simp [bJ,aO,aH],by simp [bJ,aO,aH],aB9 _,trivial⟩ (by simp [aH,aO]) ⟨by simp [bJ,aO,aH],by simp [bJ,aO,aH],aB9 _,trivial⟩) ⟨rfl,rfl,rfl,rfl,trivial⟩ ?_
    refine cn ?_
    refine bS (Le.trans (Le.swap (τ:=⟨[(1,.sl 1 m (fun j=>vs (ab.getD j ByteArray.empty))),(2,.ptr (vs s)),(6,.sl 1 s.size (fun j=>vi (cG s ab j:Int))),(10,.own 2 0),(11,.own 3 0),(12,.clo 155 [.own 3 0,.own 2 0,.ptr (vs s)]),(13,vi q.1)],[(2,.live 145 [.osl 2 4 ((eN s q.2.1 q.1 q.2.2)).length]),(3,.live 3 [vi (q.2.1:Int)]),(4,.live 148 (fN ((eN s q.2.1 q.1 q.2.2)))),(5,.dead)]⟩) 4 5 (by simp) (by simp) ⟨(iR _ _ (zO ab m)).symm,rfl,(iR _ _ (zP s ab)).symm,rfl,rfl,rfl,rfl,trivial⟩ ⟨rfl,rfl,by show aL _ 5=some (Hs.live _ ((fN ((eN s q.2.1 q.1 q.2.2))).map _));rw [aGN];rfl,rfl,trivial⟩) (Le.reset (τ:=⟨[(1,.sl 1 m (fun j=>vs (ab.getD j ByteArray.empty))),(2,.ptr (vs s)),(6,.sl 1 s.size (fun j=>vi (cG s ab j:Int))),(10,.own 2 0),(11,.own 3 0),(12,.clo 155 [.own 3 0,.own 2 0,.ptr (vs s)]),(13,vi q.1)],[(2,.live 145 [.osl 2 4 ((eN s q.2.1 q.1 q.2.2)).length]),(3,.live 3 [vi (q.2.1:Int)]),(4,.live 148 (fN ((eN s q.2.1 q.1 q.2.2)))),(5,.unborn)]⟩) [5] (by simp) ⟨.inr rfl,.inr rfl,.inr rfl,.inr rfl,.inr rfl,.inr rfl,.inr rfl,trivial⟩ ⟨aE.of_pure _ (zO ab m),by simp [aE],aE.of_pure _ (zP s ab),by simp [aE],by simp [aE],by simp [aE,dL],by simp [aE],trivial⟩ ⟨by rw [if_neg (by decide)];exact ⟨rfl,by simp [aE]⟩,by rw [if_neg (by decide)];exact ⟨rfl,by simp [aE]⟩,by rw [if_neg (by decide)];exact ⟨rfl,aNL _⟩,by rw [if_pos (by decide)],trivial⟩)) ?_
    refine aD ?_
    refine dw ?_
    refine bG ?_
    refine Z1 mo ?_
    refine Z1 mo ?_
    refine Z1 (rJ (j:=q.1) rfl rfl rfl (by kernel_rfl) (by omega)) ?_
    refine Z1 ld ?_
    refine Z1 (bd [(0,1),(1,1)] [.string ⟨#[]⟩,.int .i64 0] [.val _,.val _]) ?_
    refine Z1 (fO (ps:=[.tmp 116]) (xs:=[.agg _]) (e:=148) (k:=2) (by_:=24) (zs:=[.string ⟨#[]⟩,.int .i64 0]) rfl (by kernel_rfl) (by kernel_rfl) rfl rfl rfl (by decide) (by decide)) ?_
    refine aZ rfl rfl (iG (e:=148) (k:=2) (by_:=24) (zs:=[.string ⟨#[]⟩,.int .i64 0]) (cs:=fN (eN s q.2.1 q.1 q.2.2)) (ds:=[vs ((⟨#[]⟩:ByteArray),(cG s ab q.1:Int)).1,vi ((⟨#[]⟩:ByteArray),(cG s ab q.1:Int)).2]) 5 rfl rfl rfl (by kernel_rfl) (by kernel_rfl) rfl (by decide) (by decide) (aGL _) rfl (aNE ((⟨#[]⟩:ByteArray),(cG s ab q.1:Int))) (by omega) (by omega)) ⟨rfl,rfl,trivial⟩ ?_
    refine cF [_] ?_
    refine cn (dn ?_)
    refine bS (Le.trans (Le.swap (τ:=⟨[(1,.sl 1 m (fun j=>vs (ab.getD j ByteArray.empty))),(2,.ptr (vs s)),(6,.sl 1 s.size (fun j=>vi (cG s ab j:Int))),(10,.own 2 0),(11,.own 3 0),(12,.clo 155 [.own 3 0,.own 2 0,.ptr (vs s)]),(13,vi q.1)],[(2,.live 145 [.osl 2 4 ((eN s q.2.1 q.1 q.2.2)++[((⟨#[]⟩:ByteArray),(cG s ab q.1:Int))]).length]),(3,.live 3 [vi (q.2.1:Int)]),(4,.live 148 (fN ((eN s q.2.1 q.1 q.2.2)++[((⟨#[]⟩:ByteArray),(cG s ab q.1:Int))]))),(5,.dead)]⟩) 4 5 (by simp) (by simp) ⟨(iR _ _ (zO ab m)).symm,rfl,(iR _ _ (zP s ab)).symm,rfl,rfl,rfl,rfl,trivial⟩ ⟨by rw [List.length_append];rfl,rfl,by show aL _ 5=some (Hs.live _ ((fN ((eN s q.2.1 q.1 q.2.2)++[((⟨#[]⟩:ByteArray),(cG s ab q.1:Int))])).map _));rw [aGN,aGM];rfl,rfl,trivial⟩) (Le.reset (τ:=⟨[(1,.sl 1 m (fun j=>vs (ab.getD j ByteArray.empty))),(2,.ptr (vs s)),(6,.sl 1 s.size (fun j=>vi (cG s ab j:Int))),(10,.own 2 0),(11,.own 3 0),(12,.clo 155 [.own 3 0,.own 2 0,.ptr (vs s)]),(13,vi q.1)],[(2,.live 145 [.osl 2 4 ((eN s q.2.1 q.1 q.2.2)++[((⟨#[]⟩:ByteArray),(cG s ab q.1:Int))]).length]),(3,.live 3 [vi (q.2.1:Int)]),(4,.live 148 (fN ((eN s q.2.1 q.1 q.2.2)++[((⟨#[]⟩:ByteArray),(cG s ab q.1:Int))]))),(5,.unborn)]⟩) [5] (by simp) ⟨.inr rfl,.inr rfl,.inr rfl,.inr rfl,.inr rfl,.inr rfl,.inr rfl,trivial⟩ ⟨aE.of_pure _ (zO ab m),by simp [aE],aE.of_pure _ (zP s ab),by simp [aE],by simp [aE],by simp [aE,dL],by simp [aE],trivial⟩ ⟨by rw [if_neg (by decide)];exact ⟨rfl,by simp [aE]⟩,by rw [if_neg (by decide)];exact ⟨rfl,by simp [aE]⟩,by rw [if_neg (by decide)];exact ⟨rfl,aNL _⟩,by rw [if_pos (by decide)],trivial⟩)) ?_
    refine sq ?_
    refine Z1 mo ?_
    refine Z1 mo ?_
    refine Z1 mo ?_
    refine Z1 mo ?_
    refine Z1 (rJ (j:=q.1) rfl rfl rfl (by kernel_rfl) (by omega)) ?_
    refine Z1 ld ?_
    refine Z1 iP ?_
    refine Z1 (mM (j:=cG s ab q.1-1) rfl rfl rfl (by kernel_rfl) (by omega) (by omega) (by omega)) ?_
    refine Z1 ld ?_
    refine Z1 oG ?_
    refine Z1 ba ?_
    refine Z1 aB ?_
    refine cn ?_
    refine tx ?_
    refine Z1 mo ?_
    refine cF [_] ?_
    refine cn ?_
    exact ⟨(q.1+(ab.getD (cG s ab q.1-1) ByteArray.empty).size,q.1+(ab.getD (cG s ab q.1-1) ByteArray.empty).size,(eN s q.2.1 q.1 q.2.2)++[((⟨#[]⟩:ByteArray),(cG s ab q.1:Int))]),⟨by show q.1+(ab.getD (cG s ab q.1-1) ByteArray.empty).size≤_;omega,Nat.le_refl _,by show ((eN s q.2.1 q.1 q.2.2)++[_]).length≤2*(q.1+(ab.getD (cG s ab q.1-1) ByteArray.empty).size);rw [List.length_append];show (eN s q.2.1 q.1 q.2.2).length+1≤_;omega,f,by show _<f+(q.1+(ab.getD (cG s ab q.1-1) ByteArray.empty).size);omega,by rw [hcut];show (if _ then _ else _)=_;rw [if_pos hlt,if_neg htk,zK]⟩,by show s.size-(q.1+(ab.getD (cG s ab q.1-1) ByteArray.empty).size)<_;omega,Le.sub ⟨.inr rfl,.inr rfl,.inr rfl,.inr rfl,.inr rfl,.inr rfl,.inr (aR (by show (q.1:Int)+((ab.getD (cG s ab q.1-1) ByteArray.empty).size:Int)=((q.1+(ab.getD (cG s ab q.1-1) ByteArray.empty).size:Nat):Int);omega)),trivial⟩ ⟨rfl,by show _=some (Hs.live _ [vi ((q.1+(ab.getD (cG s ab q.1-1) ByteArray.empty).size:Nat):Int)]);rw [Int.natCast_add];rfl,rfl,rfl,trivial⟩⟩
  ·have hge:q.1=s.size:=by have h0:=of_decide_eq_false hb;omega
   have hfin:bL s ab=eN s q.2.1 s.size q.2.2:=by rw [hcut,aXT (by omega)]
   refine bU ?_
   refine sq ?_
   refine Z1 mo ?_
   refine Z1 ld ?_
   refine Z1 oG ?_
   refine aZ rfl rfl (oI [5] rfl rfl (by kernel_rfl) (aND s q.2.1 s.size q.2.2 hs (by omega) (Nat.le_refl _) (by omega)) rfl (by simp) (by simp [bQ]) (by simp) (by simp) (by simp [aO,aH]) ⟨by simp [bJ,aO,aH],by simp [bJ,aO,aH],aB9 _,trivial⟩ (by simp [aH,aO]) ⟨by simp [bJ,aO,aH],by simp [bJ,aO,aH],aB9 _,trivial⟩) ⟨rfl,rfl,rfl,rfl,trivial⟩ ?_
   refine cn ?_
   refine sq ?_
   refine bG ?_
   refine Z1 aB ?_
   refine cn ?_
   refine bS (Le.freezeP 4 5 (eN s q.2.1 s.size q.2.2) rfl rfl) ?_
   refine aP ?_
   exact ⟨.inl rfl,aF.tmp rfl (by rw [hfin];rfl),trivial⟩
instance (ab:List ByteArray) (m:Nat):Pu (.sl 1 m (fun j=>vs (ab.getD j ByteArray.empty))):=⟨zO ab m⟩
instance (s:ByteArray) (ab:List ByteArray):Pu (.sl 1 s.size (fun j=>vi (cG s ab j:Int))):=⟨zP s ab⟩
theorem iN {P:Program}{fn:Func}{Γ:Ctx}(h:fn.results=#[]):aF P fn Γ .any:=fun E a _ _=>⟨_,results_none h _ _ _,by unfold aA;trivial⟩
def oB (u:Bool):Av:=bif u then .own 0 0 else .val (.pointer none)
theorem jX {Z:Nat→Prop}(s:ByteArray):aO Z (dP s):=aO.of_pure _ (by
 unfold dP
 induction s.data.toList with
 | nil=>simp [bE]
 | cons c l ih=>rw [List.map_cons];exact ⟨by simp [aN],ih⟩)
theorem aFV (π:Nat→Nat)(s:ByteArray):(dP s).map (Av.ren π)=dP s:=by
 unfold dP
 rw [List.map_map]
 rfl
theorem aFW {Z:List Nat}(s:ByteArray):∀ z∈dP s,aE Z z:=fun z hz=>by
 obtain ⟨c,_,rfl⟩:=List.mem_map.1 hz
 simp [aE]
theorem aVJ (len:Nat)(cs:List Av):FC Tryz.prog 214 [.own 0 0] [(0,.live 248 [.val (.pointer none),.osl 1 1 len]),(1,.live 5 cs)] .any [(0,.live 248 [.own 0 0,.osl 1 1 len]),(1,.live 5 cs)]:=by
 refine FC.body 2 20 Tryz.func214 rfl (by kernel_rfl) ?_
 refine W ?_
 refine aS 0 1 false ?_
 refine W ?_
 refine Z1 (aVK rfl rfl (by kernel_rfl)) ?_
 refine W ?_
 refine cd (fun hb=>?_) fun hb=>?_
 ·refine W ?_
  refine eL (R:=[(_,.live _ _)]) rfl rfl (aVL (t:=248) (e:=248) (y:=.val (.pointer none)) (cs:=[.osl 1 1 len]) rfl rfl (by kernel_rfl) (by kernel_rfl) (by kernel_rfl)) ⟨rfl,trivial⟩ ?_
  refine Z1 (aVM rfl rfl Tryz.func220 (by kernel_rfl) (by kernel_rfl) (by kernel_rfl) (by kernel_rfl)) ?_
  refine eL (R:=[(_,.live _ _)]) rfl rfl (aVN (t:=248) (y:=.val (.pointer none)) (cs:=[.osl 1 1 len]) rfl rfl (by kernel_rfl) (by kernel_rfl) (by kernel_rfl) (by kernel_rfl) (by decide)) ⟨rfl,trivial⟩ ?_
  refine W ?_
  refine aS 0 1 false ?_
  refine cF [_,_] ?_
  refine W ?_
  exact ⟨.inr rfl,iN rfl,⟨rfl,rfl,trivial⟩⟩
 ·exact absurd hb (by decide)
theorem aVO (len:Nat)(cs:List Av):FC Tryz.prog 214 [.own 0 0] [(0,.live 248 [.own 0 0,.osl 1 1 len]),(1,.live 5 cs)] .any [(0,.live 248 [.own 0 0,.osl 1 1 len]),(1,.live 5 cs)]:=by
 refine FC.body 2 20 Tryz.func214 rfl (by kernel_rfl) ?_
 refine W ?_
 refine aS 0 1 false ?_
 refine W ?_
 refine eL (R:=[(_,.live _ _)]) rfl rfl (aVP (t:=248) (y:=.own 0 0) (cs:=[.osl 1 1 len]) rfl rfl (by kernel_rfl)) ⟨rfl,trivial⟩ ?_
 refine W ?_
 refine cd (fun hb=>?_) fun hb=>?_
 ·exact absurd hb (by decide)
 ·refine W ?_
  refine aS 0 1 false ?_
  refine W ?_
  refine eL (R:=[(_,.live _ _)]) rfl rfl (aVQ (t:=248) (e:=248) (y:=.own 0 0) (cs:=[.osl 1 1 len]) rfl rfl rfl (by kernel_rfl) (by kernel_rfl)) ⟨rfl,trivial⟩ ?_
  refine W ?_
  refine cd (fun hb=>?_) fun hb=>?_
  ·exact absurd hb (by decide)
  ·refine W ?_
   exact ⟨.inr rfl,iN rfl,⟨rfl,rfl,trivial⟩⟩
theorem aVR (u:Bool)(len:Nat)(cs:List Av):FC Tryz.prog 214 [.own 0 0] [(0,.live 248 [oB u,.osl 1 1 len]),(1,.live 5 cs)] .any [(0,.live 248 [.own 0 0,.osl 1 1 len]),(1,.live 5 cs)]:=by
 cases u
 ·exact aVJ len cs
 ·exact aVO len cs
theorem aL1 (u:Bool)(a s:ByteArray)(hs:a.size+s.size≤140737488355328):iO Tryz.prog 205 [.own 0 0,vs s] [(0,.live 248 [oB u,.osl 1 1 a.size])] [(1,.live 5 (dP a))] (.tup [vi s.size,.val .nilIface]) [(0,.live 248 [.own 0 0,.osl 1 2 (a++s).size]),(2,.live 5 (dP (a++s)))]:=by
 refine iO.body 3 19 Tryz.func205 rfl (by kernel_rfl) ?_
 refine W ?_
 refine aZ rfl rfl (dB [] rfl (by kernel_rfl) (FC.m (aVR u a.size (dP a))) rfl (by simp) (by simp [bQ]) (by simp) (by simp) (by simp [aO,aH]) ⟨by cases u<;>simp [oB,bJ,aO,aH],jX a,trivial⟩ (by simp [aH,aO]) ⟨by simp [bJ,aO,aH],jX a,trivial⟩) ⟨rfl,rfl,trivial⟩ ?_
 refine W ?_
 refine aS 1 1 false ?_
 refine W ?_
 refine aZ rfl rfl (aVS (e:=5) (cs:=dP a) (s:=s) 2 rfl rfl rfl (by kernel_rfl) (by kernel_rfl) (by kernel_rfl) (by kernel_rfl) (by decide) (aFX a) hs) ⟨rfl,rfl,trivial⟩ ?_
 refine W ?_
 refine aS 1 1 false ?_
 refine cF [_,_] ?_
 refine W ?_
 exact ⟨.inl rfl,aF.two rfl (aT.tmp rfl) (aT.tmp rfl),⟨by rw [ByteArray.size_append];rfl,by rw [aVT];rfl,trivial⟩⟩
theorem aVU {l:List ByteArray}(h:pC l≠⟨#[]⟩):0<iW l (pC l)∧2≤(pC l).size∧(pC l).size≤8:=by
 rcases aFY (l:=l) l.length with ⟨h1,_⟩|⟨h1,h2,h3,_⟩
 ·exact absurd (show (rA l l.length).1=_ from by rw [h1]) h
 ·exact ⟨by show 0<iW l (rA l l.length).1;rw [←h2];exact h3,h1.1.1,h1.1.2⟩
theorem aL2 (most:Int):∀ (f:Nat) (out parts:List ByteArray),(out.length:Int)≤max most 0→out.length≤32→((sE most f out parts).length:Int)≤max most 0∧(sE most f out parts).length≤32
 | 0,out,parts,h1,h2=>⟨h1,h2⟩
 | f+1,out,parts,h1,h2=>by
  unfold sE
  split
  ·rename_i hc
   split
   ·exact ⟨h1,h2⟩
   ·exact aL2 most f _ _ (by rw [List.length_append,List.length_singleton];omega) (by rw [List.length_append,List.length_singleton];omega)
  ·exact ⟨h1,h2⟩
theorem aL3 (most:Int):∀ (f:Nat) (out parts:List ByteArray),(∀ a∈out,2≤a.size∧a.size≤8)→∀ a∈sE most f out parts,2≤a.size∧a.size≤8
 | 0,out,parts,h=>h
 | f+1,out,parts,h=>by
  unfold sE
  split
  ·split
   ·exact h
   ·rename_i hc
    refine aL3 most f _ _ fun a ha=>?_
    rcases List.mem_append.1 ha with ha|ha
    ·exact h a ha
    ·rw [List.mem_singleton] at ha
     rw [ha]
     exact (aVU hc).2
  ·exact h
theorem aVV {l:List ByteArray}(h:wt l≤5000000)(most:Int):((chooseP l most).length:Int)≤max most 0∧(chooseP l most).length≤32:=by
 rw [aL4 h]
 exact aL2 most 33 [] l (by show ((0:Nat):Int)≤_;omega) (Nat.zero_le _)
theorem aVW {l:List ByteArray}(h:wt l≤5000000)(most:Int):∀ a∈chooseP l most,2≤a.size∧a.size≤8:=by
 rw [aL4 h]
 exact aL3 most 33 [] l fun a ha=>by simp at ha
theorem aFZ {s:ByteArray}{ab:List ByteArray}:∀ (f i fr:Nat) (out:List bX),iX s.size out→iX s.size (lT s ab f i fr out)∧(lT s ab f i fr out).length≤out.length+2*f+1
 | 0,i,fr,out,h=>by
  have hf:iX s.size (eN s fr s.size out):=by
   unfold eN
   split
   ·exact h.app (by show (s.extract fr s.size).size≤_;rw [ByteArray.size_extract];omega)
   ·exact h
  exact ⟨hf,by have:=aBY s fr s.size out;show (eN s fr s.size out).length≤_;omega⟩
 | f+1,i,fr,out,h=>by
  have hf:∀ j,iX s.size (eN s fr j out):=fun j=>by
   unfold eN
   split
   ·exact h.app (by show (s.extract fr j).size≤_;rw [ByteArray.size_extract];omega)
   ·exact h
  unfold lT
  split
  ·split
   ·have:=aFZ (s:=s) (ab:=ab) f (i+1) fr out h
    exact ⟨this.1,by omega⟩
   ·have h2:=aBY s fr i out
    have:=aFZ (s:=s) (ab:=ab) f (i+(ab.getD (cG s ab i-1) ByteArray.empty).size) (i+(ab.getD (cG s ab i-1) ByteArray.empty).size) (eN s fr i out++[(ByteArray.empty,(cG s ab i:Int))]) ((hf i).app (Nat.zero_le _))
    refine ⟨this.1,?_⟩
    have h3:=this.2
    rw [List.length_append,List.length_singleton] at h3
    omega
  ·exact ⟨hf s.size,by have:=aBY s fr s.size out;omega⟩
theorem PC.last {P:Program}{f:Nat}{a x y z:Av}(h:PC P f [a,x] z)(hxy:∀ E v,aA E y v→aA E x v):PC P f [a,y] z:=fun E vs hG hA hR hB hU=>h E vs hG (by
 unfold aG aG at hA ⊢
 obtain ⟨v,us,h1,h2,v',us',h3,h4,h5⟩:=hA
 exact ⟨v,us,h1,h2,v',us',h3,hxy E v' h4,h5⟩) hR hB hU
theorem agX (x:Av)(s:ByteArray)(h0:0<s.size)(h63:s.size≤9223372036854775807):iO Tryz.prog 206 [.own 0 0] [(0,.live 248 [x,.frz false 5 (Lib.strCells s)])] [] (vs s) [(0,.live 248 [x,.frz false 5 (Lib.strCells s)])]:=by
 refine iO.body 4 14 Tryz.func206 rfl (by kernel_rfl) ?_
 refine sq ?_
 refine Z1 aB ?_
 refine cn ?_
 refine aD ?_
 refine dw ?_
 refine Z1 mo ?_
 refine dO ?_
 refine aS 1 1 false ?_
 refine bG ?_
 refine Z1 (agT rfl rfl (by rw [Lib.strCells_length];exact h0)) ?_
 refine Z1 mo ?_
 refine dO ?_
 refine aS 1 1 false ?_
 refine bG ?_
 refine Z1 (agU (n:=s.size) rfl rfl (Lib.strCells_length s) (by kernel_rfl)) ?_
 refine Z1 (agV (e:=5) (n:=s.size) rfl rfl rfl (by kernel_rfl) (by kernel_rfl) rfl h0 h63) ?_
 refine Z1 aB ?_
 refine cn (dn ?_)
 refine aP ?_
 exact ⟨.inl rfl,aF.tmp rfl rfl,⟨rfl,trivial⟩⟩
theorem agY (x:Av)(s:ByteArray)(h0:0<s.size)(h63:s.size≤9223372036854775807):iO Tryz.prog 206 [.own 0 0] [(0,.live 248 [x,.osl 1 2 s.size])] [(2,.live 5 (dP s))] (vs s) [(0,.live 248 [x,.frz false 5 (Lib.strCells s)])]:=by
 refine iO.body 4 14 Tryz.func206 rfl (by kernel_rfl) ?_
 refine sq ?_
 refine Z1 aB ?_
 refine cn ?_
 refine aD ?_
 refine dw ?_
 refine Z1 mo ?_
 refine dO ?_
 refine aS 1 1 false ?_
 refine bG ?_
 refine eL (R:=[(_,.live _ _)]) rfl rfl (aXA (t:=5) (cs:=dP s) rfl rfl (by rw [aFX];exact h0) h0) ⟨rfl,trivial⟩ ?_
 refine Z1 mo ?_
 refine dO ?_
 refine aS 1 1 false ?_
 refine bG ?_
 refine Z1 (aMX rfl rfl (by kernel_rfl)) ?_
 refine aZ rfl rfl (agS (e:=5) (T0:=248) (n0:=0) (n:=s.size) (x:=x) rfl rfl rfl (by kernel_rfl) (by kernel_rfl) rfl h0 h63 (by decide)) ⟨rfl,rfl,trivial⟩ ?_
 refine Z1 aB ?_
 refine cn (dn ?_)
 refine aP ?_
 exact ⟨.inl rfl,aF.tmp rfl rfl,⟨rfl,trivial⟩⟩
theorem agZ (x:Av):iO Tryz.prog 206 [.own 0 0] [(0,.live 248 [x,.osl 1 2 ByteArray.empty.size]),(2,.live 5 (dP ByteArray.empty))] [] (vs ByteArray.empty) [(0,.live 248 [x,.osl 1 2 ByteArray.empty.size]),(2,.live 5 (dP ByteArray.empty))]:=by
 refine iO.body 4 14 Tryz.func206 rfl (by kernel_rfl) ?_
 refine sq ?_
 refine Z1 aB ?_
 refine cn ?_
 refine aD ?_
 refine dw ?_
 refine Z1 mo ?_
 refine dO ?_
 refine aS 1 1 false ?_
 refine bG ?_
 refine aZ rfl rfl (agW (t:=5) (e:=5) 3 rfl rfl (by kernel_rfl)) ⟨rfl,rfl,trivial⟩ ?_
 refine Z1 mo ?_
 refine dO ?_
 refine aS 1 1 false ?_
 refine bG ?_
 refine Z1 (aMX rfl rfl (by kernel_rfl)) ?_
 refine Z1 (aXB rfl rfl rfl) ?_
 refine Z1 aB ?_
 refine cn (dn ?_)
 refine aP ?_
 exact ⟨.inl rfl,aF.tmp rfl rfl,⟨rfl,rfl,trivial⟩⟩
end Go.Proofs.YtnklgkjfoggpbaaGreatDoor
