/- Parts of the proof of a law of this seat: rules and contracts; no conditions. -/
import Derived.Test.YtnklgkjfoggpbaaGreatDoorLt
import Derived.Test.YtnklgkjfoggpbaaGreatDoorRdd
import Derived.Test.YtnklgkjfoggpbaaGreatDoorFr
import Derived.Test.YtnklgkjfoggpbaaGreatDoorPi
import Derived.Test.YtnklgkjfoggpbaaGreatDoorProg
import Derived.KernelRfl
set_option maxHeartbeats 6400000
set_option maxRecDepth 100000
set_option linter.unusedVariables false
set_option linter.unusedSimpArgs false
namespace Go.Proofs.YtnklgkjfoggpbaaGreatDoor
open Go.RowKit
noncomputable def gPoolP (xs:List Int)(s:bF):PoolP × bF:=
 let a:=cV (rS xs 31) (gText xs) s
 let b:=cV (rS xs 4194304) (rS xs 4194304) a.2
 let c:=rT xs 4194304 b.2
 (⟨a.1,b.1,jZ c.1⟩,c.2)
noncomputable def gPool (xs:List Int)(s:bF):List ByteArray × bF:=
 if (gPoolP xs s).2.2≠0 then ([],(gPoolP xs s).2) else ((allP (gPoolP xs s).1).1,((gPoolP xs s).2.1,(allP (gPoolP xs s).1).2))
def i5 (j:Nat):Nat:=[0,1,2,3,5].getD j 0
theorem aTC (j:Nat):i5 j<17:=by
 unfold i5
 rcases j with _|_|_|_|_|j<;>simp
def sN (xs:List Int)(s:bF):Nat→bF
 | 0=>s
 | k+1=>(cJ xs (sN xs s k)).2
def vN (xs:List Int)(s:bF)(k:Nat):Int:=(cJ xs (sN xs s k)).1
def sM (xs:List Int)(s:bF):Nat→bF
 | 0=>s
 | k+1=>(wN xs (sM xs s k)).2
def vM (xs:List Int)(s:bF)(k:Nat):List Int:=(wN xs (sM xs s k)).1
noncomputable def aTe (xs:List Int)(s:bF):=gPool xs (sN xs s 5)
noncomputable def aPr (xs:List Int)(s:bF):=yH xs (aTe xs s).2
noncomputable def aGl (xs:List Int)(s:bF):=yH xs (aPr xs s).2
noncomputable def aTh (xs:List Int)(s:bF):=cV (cJ xs) (gThing xs) (aGl xs s).2
noncomputable def aAc (xs:List Int)(s:bF):=cV (cJ xs) (gAct xs) (aTh xs s).2
noncomputable def aDe (xs:List Int)(s:bF):=cV (cJ xs) (uR xs) (aAc xs s).2
noncomputable def aM (xs:List Int)(s:bF)(k:Nat):List Int:=vM xs (aDe xs s).2 k
noncomputable def aCo (xs:List Int)(s:bF):=gText xs (sM xs (aDe xs s).2 5)
noncomputable def gStory (xs:List Int)(s:bF):StoryP × bF:=(⟨⟨vN xs s 0,vN xs s 1,vN xs s 2,vN xs s 3,(aTe xs s).1,vN xs s 4,(aPr xs s).1,(aGl xs s).1,(aTh xs s).1,(aAc xs s).1,(aDe xs s).1,aM xs s 0,aM xs s 1,aM xs s 2,aM xs s 3⟩,aM xs s 4,jZ (aCo xs s).1⟩,(aCo xs s).2)
def cK (xs:List Int)(s:bF):Nat→List Av
 | 0=>[vi 0,vi 0,vi 0,vi 0,.val (.slice none 0 0),vi 0,.val (.slice none 0 0),.val (.slice none 0 0),.val (.slice none 0 0),.val (.slice none 0 0),.val (.slice none 0 0),.val (.slice none 0 0),.val (.slice none 0 0),.val (.slice none 0 0),.val (.slice none 0 0),.val (.slice none 0 0),.val (.slice none 0 0)]
 | k+1=>(cK xs s k).set (i5 k) (vi (vN xs s k))
theorem aK0 (xs:List Int)(s:bF):∀ k,(cK xs s k).length=17
 | 0=>rfl
 | k+1=>by unfold cK;rw [List.length_set,aK0 xs s k]
def dK (B:List Av)(xs:List Int)(s:bF):Nat→List Av
 | 0=>B
 | k+1=>(dK B xs s k).set (11+k) (aK (vM xs s k))
theorem aTD (B:List Av)(xs:List Int)(s:bF):∀ k,(dK B xs s k).length=B.length
 | 0=>rfl
 | k+1=>by unfold dK;rw [List.length_set,aTD B xs s k]
theorem aTE (n:Nat)(f:Nat→Nat)(l:List Nat)(hf:∀ j,j<l.length→l.getD j 0=f j)(E:Env)(v:Value)(h:aA E (.sl 1 l.length (gE (l.map (Av.own n)))) v):aA E (.sl 1 l.length fun j=>.own n (f j)) v:=pI (fun E j hj v hv=>by
 have e:gE (l.map (Av.own n)) j=.own n (f j):=by
  show (l.map (Av.own n)).getD j .any=_
  rw [←hf j hj,List.getD,List.getElem?_map,List.getD,List.getElem?_eq_getElem hj]
  rfl
 rw [e] at hv
 exact hv) E v h
theorem aiN {xs:List Int}(hb:cI xs)(s:bF):0≤(rS xs 4194304 s).1∧(rS xs 4194304 s).1≤10000000:=by have:=wO hb (most:=4194304) (by decide) s;omega
theorem aiO {xs:List Int}(hb:cI xs)(s:bF):0≤(rS xs 31 s).1∧(rS xs 31 s).1≤10000000:=by have:=wO hb (most:=31) (by decide) s;omega
theorem aFB (xs:List Int)(most:Int)(s:bF):(rT xs most s).1.size≤xs.length:=by
 unfold rT
 show (strOfNums _).size≤_
 rw [strOfNums_size]
 exact aTF xs s.1 s.2 most 1
theorem aK1 {xs:List Int}(hl:xs.length≤1000000){most:Int}{s:bF}:(rT xs most s).1.size≤9223372036854775807:=Nat.le_trans (aFB _ _ _) (by omega)
theorem aiP (xs:List Int)(hl:xs.length≤1000000)(hb:cI xs)(s:bF):FC Tryz.prog 128 [.ptr (.own 0 0)] [(0,.live 62 (aV xs (s)))] (vi (rS xs 31 s).1) [(0,.live 62 (aV xs ((rS xs 31 s).2)))]:=by
 refine FC.body 2 4 Tryz.func128 rfl (by kernel_rfl) ?_
 refine sq ?_
 refine Z1 aB ?_
 refine cn ?_
 refine sq ?_
 refine Z1 (pV rfl rfl (by kernel_rfl) (fun E v h=>nU E v h)) ?_
 refine cr (aKZ xs hl hb s 31) ?_
 refine Z1 aB ?_
 refine cn ?_
 refine aP ?_
 exact ⟨.inl rfl,aF.tmp rfl rfl,⟨rfl,trivial⟩⟩
theorem aiQ (xs:List Int)(hl:xs.length≤1000000)(hb0:cI xs)(s:bF)(hA:(gPoolP xs s).2.2=0→PC Tryz.prog 132 [kO (gPoolP xs s).1] (.tup [bB (allP (gPoolP xs s).1).1,vi (allP (gPoolP xs s).1).2])):FC Tryz.prog 73 [.own 0 0] [(0,.live 62 (aV xs (s)))] (bB (gPool xs s).1) [(0,.live 62 (aV xs ((gPool xs s).2)))]:=by
 have hb:=hb0
 refine FC.body 3 40 Tryz.func73 rfl (by kernel_rfl) ?_
 refine sq ?_
 refine Z1 (aCA (x:=.own 0 0) rfl rfl) ?_
 refine Z1 aB ?_
 refine cn ?_
 refine sq ?_
 refine Z2 (al 1 [.slice none 0 0,.slice none 0 0,.slice none 0 0]) ?_
 refine cn ?_
 refine sq ?_
 refine Z1 (pV rfl rfl (by kernel_rfl) (fun E v h=>nU E v h)) ?_
 refine Z1 (qC (cs:=[.ptr (.own 0 0)]) rfl rfl) ?_
 refine Z1 (pV rfl rfl (by kernel_rfl) (fun E v h=>nU E v h)) ?_
 refine Z1 (iE (cs:=[.own _ _]) rfl rfl) ?_
 refine cr (aRS xs s (.clo 128 [.ptr (.own 0 0)]) 82 (rS xs 31) (gText xs) (fun s=>⟨_,_,.inr rfl,by kernel_rfl,inferInstance,aiP xs hl hb s⟩) (by kernel_rfl) (fun s=>aJS xs hl hb s) (aiO hb)) ?_
 refine aS 0 1 false ?_
 refine cF [_,_,_] ?_
 refine cn ?_
 refine sq ?_
 refine Z1 (pV rfl rfl (by kernel_rfl) (fun E v h=>nU E v h)) ?_
 refine Z1 (pV rfl rfl (by kernel_rfl) (fun E v h=>nU E v h)) ?_
 refine Z1 (iE (cs:=[.own _ _]) rfl rfl) ?_
 refine Z1 (pV rfl rfl (by kernel_rfl) (fun E v h=>nU E v h)) ?_
 refine Z1 (iE (cs:=[.own _ _]) rfl rfl) ?_
 refine cr (aRR xs _ (.bm 130 [.own 0 0]) 130 (rS xs 4194304) (rS xs 4194304) (aRQ (av:=vi) (by kernel_rfl) fun s=>aTA xs hl hb s) (by kernel_rfl) (fun s=>aTA xs hl hb s) (aiN hb)) ?_
 refine aS 1 1 false ?_
 refine cF [_,_,_] ?_
 refine cn ?_
 refine sq ?_
 refine Z1 (pV rfl rfl (by kernel_rfl) (fun E v h=>nU E v h)) ?_
 refine cr (aS9 xs hl hb _ 4194304) ?_
 refine Z1 (aS5 (aK1 hl)) ?_
 refine aS 2 1 false ?_
 refine cF [_,_,_] ?_
 refine cn ?_
 refine aD ?_
 refine sq ?_
 refine Z1 (pV rfl rfl (by kernel_rfl) (fun E v h=>nU E v h)) ?_
 refine dO ?_
 refine aS 0 3 true ?_
 refine aS 2 1 false ?_
 refine bG ?_
 refine Z1 bz ?_
 refine cn ?_
 refine cd (fun hb=>?_) fun hb=>?_
 ·have he:(gPoolP xs s).2.2≠0:=bne_iff_ne.1 hb
  have hg:gPool xs s=([],(gPoolP xs s).2):=if_pos he
  refine sq ?_
  refine Z1 aB ?_
  refine cn ?_
  refine aP ?_
  exact ⟨.inl rfl,aF.to (aF.tmp rfl rfl) (fun E v h=>by rw [hg];exact qI E v h),⟨by rw [hg];rfl,trivial⟩⟩
 ·have he:(gPoolP xs s).2.2=0:=bne_eq_false_iff_eq.1 hb
  have hg:gPool xs s=((allP (gPoolP xs s).1).1,((gPoolP xs s).2.1,(allP (gPoolP xs s).1).2)):=if_neg (Classical.not_not.2 he)
  refine aQ ?_
  refine sq ?_
  refine dE 3 [_,_,_] ?_
  refine Z1 (ca (hA he)) ?_
  refine Z1 mo ?_
  refine Z1 ex ?_
  refine Z1 ex ?_
  refine Z1 aB ?_
  refine Z1 aB ?_
  refine cn ?_
  refine sq ?_
  refine Z1 (pV rfl rfl (by kernel_rfl) (fun E v h=>nU E v h)) ?_
  refine Z1 mo ?_
  refine dO ?_
  refine aS 0 3 true ?_
  refine aS 2 1 false ?_
  refine fP rfl rfl (lG (y:=.val _) rfl rfl rfl (by kernel_rfl) (by kernel_rfl) (by first|exact oH|exact cells_any) (by first|decide|(simp;done)|(simp;omega)) rfl) ⟨rfl,trivial⟩ ?_
  refine cn ?_
  refine sq ?_
  refine Z1 mo ?_
  refine Z1 aB ?_
  refine cn ?_
  refine aP ?_
  exact ⟨.inl rfl,aF.tmp rfl (by rw [hg];rfl),⟨by rw [hg];rfl,trivial⟩⟩
theorem aiR (xs:List Int)(hl:xs.length≤1000000)(hb:cI xs)(s:bF)(hA:(gPoolP xs (sN xs s 5)).2.2=0→PC Tryz.prog 132 [kO (gPoolP xs (sN xs s 5)).1] (.tup [bB (allP (gPoolP xs (sN xs s 5)).1).1,vi (allP (gPoolP xs (sN xs s 5)).1).2])):FC Tryz.prog 19 [.own 0 0] [(0,.live 62 (aV xs (s)))] (cX (gStory xs s).1) [(0,.live 62 (aV xs ((gStory xs s).2)))]:=by
 have hb0:=hb
 refine FC.body 2 106 Tryz.func19 rfl (by kernel_rfl) ?_
 refine sq ?_
 refine Z2 (al 1 [.int .i64 0,.int .i64 0,.int .i64 0,.int .i64 0,.slice none 0 0,.int .i64 0,.slice none 0 0,.slice none 0 0,.slice none 0 0,.slice none 0 0,.slice none 0 0,.slice none 0 0,.slice none 0 0,.slice none 0 0,.slice none 0 0,.slice none 0 0,.slice none 0 0]) ?_
 refine cn ?_
 refine sq ?_
 refine aS 0 15 true ?_
 refine Z1 aB ?_
 refine cn ?_
 refine aD ?_
 refine aD ?_
 refine dw ?_
 refine Z1 mo ?_
 refine dO ?_
 refine aS 0 1 false ?_
 refine Z1 mo ?_
 refine dO ?_
 refine aS 1 1 false ?_
 refine Z1 mo ?_
 refine dO ?_
 refine aS 2 1 false ?_
 refine Z1 mo ?_
 refine dO ?_
 refine aS 3 1 false ?_
 refine Z1 mo ?_
 refine dO ?_
 refine aS 5 1 false ?_
 refine Z1 (OC.to (fO (ps:=[.tmp 11,.tmp 14,.tmp 17,.tmp 20,.tmp 23]) (xs:=[.own _ _,.own _ _,.own _ _,.own _ _,.own _ _]) (e:=116) (k:=1) (by_:=8) (zs:=[.pointer none]) rfl (by kernel_rfl) (by kernel_rfl) rfl rfl rfl (by decide) (by decide)) (aTE 1 i5 [0,1,2,3,5] (fun j hj=>rfl))) ?_
 refine Z1 ln ?_
 refine Z1 mo ?_
 refine cn (dn ?_)
 refine aU ?_
 refine bM (ι:=Nat) (fun k=>⟨[(0,.own 0 0),(2,.own 1 0),(3,.own 1 0),(24,.sl 1 5 fun j=>.own 1 (i5 j)),(25,vi 5),(26,vi k)],[(0,.live 62 (aV xs (sN xs s k))),(1,.live 32 (cK xs s k))]⟩) (fun k=>k≤5) (fun k=>5-k) 0 (Nat.zero_le _) (LS) ?_
 intro k hI
 refine sq ?_
 refine Z1 bz ?_
 refine cn ?_
 refine aD ?_
 refine cd (fun hb=>?_) fun hb=>?_
 ·have hk:k<5:=by have h0:=of_decide_eq_true hb;omega
  refine aQ ?_
  refine aD ?_
  refine aU ?_
  refine sq ?_
  refine Z1 ia ?_
  refine Z1 (pV rfl rfl (by kernel_rfl) (fun E v h=>nU E v h)) ?_
  refine Z1 aB ?_
  refine cn ?_
  refine tx ?_
  refine Z1 mo ?_
  refine Z1 mo ?_
  refine cr (rY xs hl hb0 _) ?_
  refine eL (R:=[(_,.live _ _)]) rfl rfl (qP rfl rfl (by rw [aK0];exact aTC k)) ⟨rfl,trivial⟩ ?_
  refine fP rfl rfl (lG (y:=vi (vN xs s k)) (cs':=cK xs s (k+1)) rfl rfl rfl (by kernel_rfl) (by kernel_rfl) oH (by rw [aK0];exact aTC k) rfl) ⟨rfl,trivial⟩ ?_
  refine cn ?_
  refine tx ?_
  refine Z1 ba ?_
  refine Z1 mo ?_
  refine cn ?_
  exact ⟨k+1,by omega,by omega,LS⟩
 ·have hk:k=5:=by have h0:=of_decide_eq_false hb;omega
  subst hk
  refine bS (LS (τ:=⟨[(0,.own 0 0),(2,.own 1 0),(3,.own 1 0)],[(0,.live 62 (aV xs (sN xs s 5))),(1,.live 32 [vi (vN xs s 0),vi (vN xs s 1),vi (vN xs s 2),vi (vN xs s 3),.val (.slice none 0 0),vi (vN xs s 4),.val (.slice none 0 0),.val (.slice none 0 0),.val (.slice none 0 0),.val (.slice none 0 0),.val (.slice none 0 0),.val (.slice none 0 0),.val (.slice none 0 0),.val (.slice none 0 0),.val (.slice none 0 0),.val (.slice none 0 0),.val (.slice none 0 0)])]⟩)) ?_
  refine bU ?_
  refine sq ?_
  refine Z1 mo ?_
  refine Z1 mo ?_
  refine cr (show FC _ _ [.own 0 0] [(0,.live 62 (aV xs (sN xs s 5)))] (bB (aTe xs s).1) [(0,.live 62 (aV xs (aTe xs s).2))] from aiQ xs hl hb0 (sN xs s 5) hA) ?_
  refine dO ?_
  refine aS 4 1 false ?_
  refine cF [_,_,_,_,_,_,_,_,_,_,_,_,_,_,_,_,_] ?_
  refine cn ?_
  refine sq ?_
  refine Z1 mo ?_
  refine Z1 mo ?_
  refine cr (show FC _ _ [.own 0 0] [(0,.live 62 (aV xs ((aTe xs s).2)))] (aK (aPr xs s).1) [(0,.live 62 (aV xs (aPr xs s).2))] from aJT xs hl hb0 _) ?_
  refine dO ?_
  refine aS 6 1 false ?_
  refine cF [_,_,_,_,_,_,_,_,_,_,_,_,_,_,_,_,_] ?_
  refine cn ?_
  refine sq ?_
  refine Z1 mo ?_
  refine Z1 mo ?_
  refine cr (show FC _ _ [.own 0 0] [(0,.live 62 (aV xs ((aPr xs s).2)))] (aK (aGl xs s).1) [(0,.live 62 (aV xs (aGl xs s).2))] from aJT xs hl hb0 _) ?_
  refine dO ?_
  refine aS 7 1 false ?_
  refine cF [_,_,_,_,_,_,_,_,_,_,_,_,_,_,_,_,_] ?_
  refine cn ?_
  refine sq ?_
  refine Z1 mo ?_
  refine Z1 mo ?_
  refine Z1 mo ?_
  refine Z1 (iE (cs:=[.own _ _]) rfl rfl) ?_
  refine Z1 mo ?_
  refine Z1 (iE (cs:=[.own _ _]) rfl rfl) ?_
  refine cr (show FC _ _ [.own 0 0,.bm 72 [.own 0 0],.bm 76 [.own 0 0]] [(0,.live 62 (aV xs ((aGl xs s).2)))] (gA (aTh xs s).1) [(0,.live 62 (aV xs (aTh xs s).2))] from aiE xs _ (.bm 72 [.own 0 0]) 76 (cJ xs) (gThing xs) (uT xs hl hb0) (by kernel_rfl) (fun s=>afM xs hl hb0 s) (uS hb0)) ?_
  refine dO ?_
  refine aS 8 1 false ?_
  refine cF [_,_,_,_,_,_,_,_,_,_,_,_,_,_,_,_,_] ?_
  refine cn ?_
  refine sq ?_
  refine Z1 mo ?_
  refine Z1 mo ?_
  refine Z1 mo ?_
  refine Z1 (iE (cs:=[.own _ _]) rfl rfl) ?_
  refine Z1 mo ?_
  refine Z1 (iE (cs:=[.own _ _]) rfl rfl) ?_
  refine cr (show FC _ _ [.own 0 0,.bm 72 [.own 0 0],.bm 78 [.own 0 0]] [(0,.live 62 (aV xs ((aTh xs s).2)))] (gB (aAc xs s).1) [(0,.live 62 (aV xs (aAc xs s).2))] from aiD xs _ (.bm 72 [.own 0 0]) 78 (cJ xs) (gAct xs) (uT xs hl hb0) (by kernel_rfl) (fun s=>afJ xs hl hb0 s) (uS hb0)) ?_
  refine dO ?_
  refine aS 9 1 false ?_
  refine cF [_,_,_,_,_,_,_,_,_,_,_,_,_,_,_,_,_] ?_
  refine cn ?_
  refine sq ?_
  refine Z1 mo ?_
  refine Z1 mo ?_
  refine Z1 mo ?_
  refine Z1 (iE (cs:=[.own _ _]) rfl rfl) ?_
  refine Z1 mo ?_
  refine Z1 (iE (cs:=[.own _ _]) rfl rfl) ?_
  refine cr (show FC _ _ [.own 0 0,.bm 72 [.own 0 0],.bm 80 [.own 0 0]] [(0,.live 62 (aV xs ((aAc xs s).2)))] (fY (aDe xs s).1) [(0,.live 62 (aV xs (aDe xs s).2))] from aiF xs _ (.bm 72 [.own 0 0]) 80 (cJ xs) (uR xs) (uT xs hl hb0) (by kernel_rfl) (fun s=>afL xs hl hb0 s) (uS hb0)) ?_
  refine dO ?_
  refine aS 10 1 false ?_
  refine cF [_,_,_,_,_,_,_,_,_,_,_,_,_,_,_,_,_] ?_
  refine cn ?_
  refine aD ?_
  refine aD ?_
  refine dw ?_
  refine Z1 mo ?_
  refine dO ?_
  refine aS 11 1 false ?_
  refine Z1 mo ?_
  refine dO ?_
  refine aS 12 1 false ?_
  refine Z1 mo ?_
  refine dO ?_
  refine aS 13 1 false ?_
  refine Z1 mo ?_
  refine dO ?_
  refine aS 14 1 false ?_
  refine aS 15 1 false ?_
  refine Z1 (OC.to (fO (ps:=[.tmp 79,.tmp 82,.tmp 85,.tmp 88,.tmp 89]) (xs:=[.own _ _,.own _ _,.own _ _,.own _ _,.own _ _]) (e:=127) (k:=1) (by_:=8) (zs:=[.pointer none]) rfl (by kernel_rfl) (by kernel_rfl) rfl rfl rfl (by decide) (by decide)) (aTE 1 (11 + ·) [11,12,13,14,15] (fun j hj=>by rcases j with _|_|_|_|_|j<;>first|rfl|(simp only [List.length_cons,List.length_nil] at hj;omega)))) ?_
  refine Z1 ln ?_
  refine Z1 mo ?_
  refine cn (dn ?_)
  refine aU ?_
  refine bM (ι:=Nat) (fun k=>⟨[(0,.own 0 0),(2,.own 1 0),(3,.own 1 0),(90,.sl 1 5 fun j=>.own 1 (11+j)),(91,vi 5),(92,vi k)],[(0,.live 62 (aV xs (sM xs (aDe xs s).2 k))),(1,.live 32 (dK [vi (vN xs s 0),vi (vN xs s 1),vi (vN xs s 2),vi (vN xs s 3),bB (aTe xs s).1,vi (vN xs s 4),aK (aPr xs s).1,aK (aGl xs s).1,gA (aTh xs s).1,gB (aAc xs s).1,fY (aDe xs s).1,.val (.slice none 0 0),.val (.slice none 0 0),.val (.slice none 0 0),.val (.slice none 0 0),.val (.slice none 0 0),.val (.slice none 0 0)] xs (aDe xs s).2 k))]⟩) (fun k=>k≤5) (fun k=>5-k) 0 (Nat.zero_le _) (LS) ?_
  intro k hI
  refine sq ?_
  refine Z1 bz ?_
  refine cn ?_
  refine aD ?_
  refine cd (fun hb=>?_) fun hb=>?_
  ·have hk:k<5:=by have h0:=of_decide_eq_true hb;omega
   have hdl:(dK [vi (vN xs s 0),vi (vN xs s 1),vi (vN xs s 2),vi (vN xs s 3),bB (aTe xs s).1,vi (vN xs s 4),aK (aPr xs s).1,aK (aGl xs s).1,gA (aTh xs s).1,gB (aAc xs s).1,fY (aDe xs s).1,.val (.slice none 0 0),.val (.slice none 0 0),.val (.slice none 0 0),.val (.slice none 0 0),.val (.slice none 0 0),.val (.slice none 0 0)] xs (aDe xs s).2 k).length=17:=aTD _ _ _ k
   refine aQ ?_
   refine aD ?_
   refine aU ?_
   refine sq ?_
   refine Z1 ia ?_
   refine Z1 (pV rfl rfl (by kernel_rfl) (fun E v h=>nU E v h)) ?_
   refine Z1 aB ?_
   refine cn ?_
   refine tx ?_
   refine Z1 mo ?_
   refine Z1 mo ?_
   refine cr (afE xs hl hb0 _) ?_
   refine eL (R:=[(_,.live _ _)]) rfl rfl (qP rfl rfl (by rw [hdl];omega)) ⟨rfl,trivial⟩ ?_
   refine fP rfl rfl (lG (y:=aK (vM xs (aDe xs s).2 k)) (cs':=dK [vi (vN xs s 0),vi (vN xs s 1),vi (vN xs s 2),vi (vN xs s 3),bB (aTe xs s).1,vi (vN xs s 4),aK (aPr xs s).1,aK (aGl xs s).1,gA (aTh xs s).1,gB (aAc xs s).1,fY (aDe xs s).1,.val (.slice none 0 0),.val (.slice none 0 0),.val (.slice none 0 0),.val (.slice none 0 0),.val (.slice none 0 0),.val (.slice none 0 0)] xs (aDe xs s).2 (k+1)) rfl rfl rfl (by kernel_rfl) (by kernel_rfl) aAT (by rw [hdl];omega) rfl) ⟨rfl,trivial⟩ ?_
   refine cn ?_
   refine tx ?_
   refine Z1 ba ?_
   refine Z1 mo ?_
   refine cn ?_
   exact ⟨k+1,by omega,by omega,LS⟩
  ·have hk:k=5:=by have h0:=of_decide_eq_false hb;omega
   subst hk
   refine bS (LS (τ:=⟨[(0,.own 0 0),(2,.own 1 0),(3,.own 1 0)],[(0,.live 62 (aV xs (sM xs (aDe xs s).2 5))),(1,.live 32 [vi (vN xs s 0),vi (vN xs s 1),vi (vN xs s 2),vi (vN xs s 3),bB (aTe xs s).1,vi (vN xs s 4),aK (aPr xs s).1,aK (aGl xs s).1,gA (aTh xs s).1,gB (aAc xs s).1,fY (aDe xs s).1,aK (aM xs s 0),aK (aM xs s 1),aK (aM xs s 2),aK (aM xs s 3),aK (aM xs s 4),.val (.slice none 0 0)])]⟩)) ?_
   refine bU ?_
   refine sq ?_
   refine Z1 mo ?_
   refine cr (show FC _ _ [.own 0 0] [(0,.live 62 (aV xs (sM xs (aDe xs s).2 5)))] (vs (aCo xs s).1) [(0,.live 62 (aV xs (aCo xs s).2))] from aJS xs hl hb0 _) ?_
   refine Z1 (aS5 (s:=(aCo xs s).1) (aK1 hl)) ?_
   refine aS 16 1 false ?_
   refine cF [_,_,_,_,_,_,_,_,_,_,_,_,_,_,_,_,_] ?_
   refine cn ?_
   refine sq ?_
   refine dE 17 [_,_,_,_,_,_,_,_,_,_,_,_,_,_,_,_,_] ?_
   refine bW [_,_,_,_,_,_,_,_,_,_,_,_,_,_,_,_,_] ?_
   refine cn ?_
   refine aP ?_
   exact ⟨.inl rfl,aF.cell rfl rfl rfl (by kernel_rfl) (by kernel_rfl) (Nat.le_of_ble_eq_true rfl),⟨rfl,trivial⟩⟩
end Go.Proofs.YtnklgkjfoggpbaaGreatDoor
