/- Parts of the proof of a law of this seat: rules and contracts; no conditions. -/
import Derived.Test.YtgajclaoaphgoaaGreatDoorVa
import Derived.Test.YtgajclaoaphgoaaGreatDoorWireP
import Derived.Test.YtgajclaoaphgoaaGreatDoorPl
import Derived.Test.YtgajclaoaphgoaaGreatDoorProg
import Derived.KernelRfl
import Derived.Test.YtgajclaoaphgoaaGreatDoorRde
import Derived.Test.YtgajclaoaphgoaaGreatDoorFi
set_option maxHeartbeats 6400000
set_option maxRecDepth 100000
set_option linter.unusedVariables false
set_option linter.unusedSimpArgs false
namespace Go.Proofs.YtgajclaoaphgoaaGreatDoor
open Go.RowKit
def bT (ab l:List ByteArray):Nat→List Int × List Int
 | 0=>([],[])
 | k+1=>((bT ab l k).1++[((bT ab l k).2.length:Int)],(bT ab l k).2++fW (gT (l.getD k ByteArray.empty) ab))
def aII (l:List ByteArray):Bool:=(List.range l.length).all fun k=>cN (tB (l.getD k ByteArray.empty))
noncomputable def makeP (l:List ByteArray):PoolP × Int:=
 if (l.length:Int)>4096 then (aAE,7) else if aII l=true then (⟨chooseP l 31,(bT (chooseP l 31) l l.length).1,(bT (chooseP l 31) l l.length).2⟩,0) else (aAE,13)
theorem acE {l:List ByteArray}(h:(l.length:Int)>4096):makeP l=(aAE,7):=by unfold makeP;rw [if_pos h]
theorem acF {l:List ByteArray}{k:Nat}(h:¬ (l.length:Int)>4096)(hk:k<l.length)(ht:¬ cN (tB (l.getD k ByteArray.empty))=true):makeP l=(aAE,13):=by
 unfold makeP;rw [if_neg h,if_neg];intro ha;unfold aII at ha;rw [nD (p:=fun k=>cN (tB (l.getD k ByteArray.empty))) hk (by simpa using ht)] at ha;cases ha
theorem aAF {l:List ByteArray}(h:¬ (l.length:Int)>4096)(ht:∀ j,j<l.length→cN (tB (l.getD j ByteArray.empty))=true):makeP l=(⟨chooseP l 31,(bT (chooseP l 31) l l.length).1,(bT (chooseP l 31) l l.length).2⟩,0):=by
 unfold makeP;rw [if_neg h,if_pos (show aII l=true from sP (p:=fun k=>cN (tB (l.getD k ByteArray.empty))) ht)]
theorem aIJ {p q:PoolP × Int}(h:p=q):Av.tup [kO p.1,vi p.2]=.tup [kO q.1,vi q.2]:=by rw [h]
theorem aP6 (E:Env)(v:Value)(h:aA E (.agg [.val (.slice none 0 0),.val (.slice none 0 0),.val (.slice none 0 0)]) v):aA E (kO aAE) v:=aAG (ys:=[bB [],aK [],bs []]) h rfl fun E i x y hx hy v h=>by
 rcases i with _|_|_|i<;>simp at hx hy<;>subst hx<;>subst hy<;>exact uA (by decide) E v h
def bw (n:Int):Av:=.val (.int .u8 n)
theorem aIK (l:List Int):∀ j,j<l.length→eQ (bv l j) 1=true∧∀ i y,i<1→(l.map bw)[j*1+i]?=some y→(cL (bv l j))[i]?=some y:=aCM (fun j y hy=>by
 rw [List.getElem?_map] at hy;cases h:l[j]? with
 | none=>rw [h] at hy;cases hy
 | some z=>rw [h] at hy;simp at hy;subst hy;simp [bv,bw,List.getD,h]) (fun j hj=>⟨rfl,rfl⟩)
theorem aDP (l:List Int):∀ j,j<l.length→(l.map bw)[j]?=some (bv l j)∧sJ (bv l j)=true:=fun j hj=>⟨by simp [hj,bw,bv],rfl⟩
theorem aP7 (π:Nat→Nat)(l:List Int):(l.map bw).map (Av.ren π)=l.map bw:=by rw [List.map_map];rfl
theorem acG {Z:List Nat}(l:List Int):∀ z∈l.map bw,aE Z z:=fun z hz=>by
 obtain ⟨x,_,rfl⟩:=List.mem_map.1 hz;exact aE.of_pure _ (by simp [aN,bw])
theorem aIL {s:ByteArray}(ab:List ByteArray)(h:cN (tB s)=true):s.size≤1024∧(gT s ab).length≤3072∧(fW (gT s ab)).length≤1922:=by
 have h1:=((xS _).1 h).1;rw [fK] at h1;have h2:=(acH ab h).2;have h3:fB s≤3*(s.size:Int):=(zJ s s.size).2;have h4:=aML (gT s ab);omega
theorem uH {ab l:List ByteArray}:∀ k,(∀ j,j<k→cN (tB (l.getD j ByteArray.empty))=true)→(bT ab l k).1.length=k∧(bT ab l k).2.length≤1922*k
 | 0,_=>⟨rfl,Nat.zero_le _⟩
 | k+1,h=>by
  have h1:=uH (ab:=ab) (l:=l) k fun j hj=>h j (by omega);have h2:=(aIL ab (h k (by omega))).2.2;show ((bT ab l k).1++_).length=_∧((bT ab l k).2++_).length≤_;rw [List.length_append,List.length_append];simp only [List.length_cons,List.length_nil];omega
theorem aDQ {l:List ByteArray}(h:wt l≤5000000):(∀ k,((chooseP l 31).getD k ByteArray.empty).size≤8)∧(chooseP l 31).length≤31:=by
 refine ⟨fun k=>?_,?_⟩
 ·rcases Nat.lt_or_ge k (chooseP l 31).length with h1|h1
  ·exact (aVW h 31 _ (by rw [List.getD,List.getElem?_eq_getElem h1];exact List.getElem_mem h1)).2
  rw [List.getD,List.getElem?_eq_none h1];exact Nat.zero_le _
 have:=(aVV h 31).1;omega
noncomputable def rightP (p:PoolP):Bool:=decide ((allP p).2=0)&&(decide ((makeP (allP p).1).2=0)&&aZQ p (makeP (allP p).1).1)
theorem aP8 (l:List ByteArray)(hl:wt l≤5000000):PC Tryz.prog 20 [bB l] (.tup [kO (makeP l).1,vi (makeP l).2]):=by
 obtain ⟨hcs,hcn⟩:=aDQ hl;have hll:=aCL l;have hls:=aGW l;refine FB 6 52 Tryz.func20 ?_;refine Gd (fun hb=>?_) fun hb=>?_
 ·have hmany:(l.length:Int)>4096:=of_decide_eq_true hb;refine G ?_;exact ⟨.inl rfl,by rw [aIJ (acE hmany)];exact aF.two rfl ((aT.row rfl rfl (by kernel_rfl) (by kernel_rfl) (Nat.le_of_ble_eq_true rfl)).to aP6) (aT.tmp rfl),trivial⟩
 have hmany:¬ (l.length:Int)>4096:=of_decide_eq_false hb;refine G ?_;refine LP (ι:=Nat) (fun k=>[(15,vi k)]) (fun _=>[]) (fun k=>k≤l.length∧∀ j,j<k→cN (tB (l.getD j ByteArray.empty))=true) (fun k=>l.length-k) 0 (⟨Nat.zero_le _,fun j hj=>absurd hj (by omega)⟩) (hl:=(Le.sub (by repeat (first|exact trivial|refine ⟨.inr rfl,?_⟩|refine ⟨.inr (aR (by omega)),?_⟩)) (by repeat (first|exact trivial|refine ⟨rfl,?_⟩)))) ?_;intro k hI;refine Gd (fun hb=>?_) fun hb=>?_
 ·have hlt:k<l.length:=by have h0:=of_decide_eq_true hb;omega
  have hsz:(l.getD k ByteArray.empty).size≤5000000:=by have:(l.getD k ByteArray.empty).size≤wt l:=hls k;omega
  refine C (aIM (l.getD k ByteArray.empty) (by omega)) ?_;refine cd (fun hb=>?_) fun hb=>?_
  ·have htk:¬ cN (tB (l.getD k ByteArray.empty))=true:=by simpa using hb
   refine G ?_;exact ⟨.inl rfl,by rw [aIJ (acF hmany hlt htk)];exact aF.two rfl ((aT.row rfl rfl (by kernel_rfl) (by kernel_rfl) (Nat.le_of_ble_eq_true rfl)).to aP6) (aT.tmp rfl),trivial⟩
  have htk:cN (tB (l.getD k ByteArray.empty))=true:=by simpa using hb
  refine G ?_;exact ⟨k+1,⟨by omega,aC3 (p:=fun j=>cN (tB (l.getD j ByteArray.empty))=true) hI.2 htk⟩,by omega,Le.sub (by repeat (first|exact trivial|refine ⟨.inr rfl,?_⟩|refine ⟨.inr (aR (by omega)),?_⟩)) (by repeat (first|exact trivial|refine ⟨rfl,?_⟩))⟩
 have hge:k=l.length:=by have h0:=of_decide_eq_false hb;omega
 have hat:∀ j,j<l.length→cN (tB (l.getD j ByteArray.empty))=true:=by rw [←hge];exact hI.2
 clear hI;clear hge;refine C (aYS l hl 31) ?_;refine bS (Le.nameNilCell 1 1 2 1 3 rfl rfl rfl (by decide)) ?_;refine bS (Le.nameNilCell 1 2 3 1 5 rfl rfl rfl (by decide)) ?_
 refine bM (ι:=Nat) (fun k=>⟨[(0,bB l),(2,.own 0 0),(6,.own 1 0),(27,bB l),(28,vi (l.length:Int)),(29,vi k)],[(0,.live 53 [.val (.slice none 0 0),.val (.slice none 0 0),.val (.slice none 0 0)]),(1,.live 53 [bB (chooseP l 31),.osl 1 2 ((bT (chooseP l 31) l k).1.length),.osl 1 3 ((bT (chooseP l 31) l k).2.length)]),(2,.live 3 ((bT (chooseP l 31) l k).1.map vi)),(3,.live 5 ((bT (chooseP l 31) l k).2.map bw)),(4,.unborn),(5,.unborn)]⟩) (fun k=>k≤l.length) (fun k=>l.length-k) 0 (Nat.zero_le _) (Le.sub (by repeat (first|exact trivial|refine ⟨.inr rfl,?_⟩)) ⟨rfl,rfl,rfl,rfl,rfl,rfl,trivial⟩) ?_
 intro k hI;refine sq ?_;refine Z1 bz ?_;refine cn ?_;refine aD ?_;refine cd (fun hb=>?_) fun hb=>?_
 ·have hlt:k<l.length:=by have h0:=of_decide_eq_true hb;omega
  have htk:=hat k hlt;obtain ⟨hp1,hp2,hp3⟩:=aIL (chooseP l 31) htk;have hmk:=uH (ab:=(chooseP l 31)) (l:=l) k fun j hj=>hat j (by omega);refine aQ ?_;refine aD ?_;refine aU ?_;refine sq ?_;refine Z1 ia ?_;refine Z1 ld ?_;refine Z1 aB ?_;refine cn ?_;refine sq ?_;refine aS 1 1 false ?_;refine bG ?_;refine aS 2 1 false ?_;refine bG ?_;refine Z1 sT ?_;refine Z1 (fO (ps:=[.tmp 37]) (xs:=[.val _]) (e:=3) (k:=1) (by_:=8) (zs:=[.int .i64 0]) rfl (by kernel_rfl) (by kernel_rfl) rfl rfl rfl (by decide) (by decide)) ?_
  refine aZ rfl rfl (iG (e:=3) (k:=1) (by_:=8) (zs:=[.int .i64 0]) (cs:=(bT (chooseP l 31) l k).1.map vi) (ds:=[vi ((bT (chooseP l 31) l k).2.length:Int)]) 4 rfl rfl rfl (by kernel_rfl) (by kernel_rfl) rfl (by decide) (by decide) (by simp) rfl (aP3 _) (by omega) (by omega)) ⟨rfl,rfl,trivial⟩ ?_;refine aS 1 1 false ?_;refine cF [_,_,_] ?_;refine cn ?_;refine dw ?_;refine aS 2 1 false ?_;refine bG ?_;refine Z1 mo ?_;refine aS 0 1 false ?_;refine bG ?_;refine Z1 (ca (acI (l.getD k ByteArray.empty) (chooseP l 31) (by omega) (fun k=>Nat.le_trans (hcs k) (by omega)) (by omega))) ?_
  refine Z1 (ca (acJ (gT (l.getD k ByteArray.empty) (chooseP l 31)) (by omega))) ?_;refine aZ rfl rfl (iG (e:=5) (k:=1) (by_:=1) (zs:=[.int .u8 0]) (cs:=(bT (chooseP l 31) l k).2.map bw) (ds:=(fW (gT (l.getD k ByteArray.empty) (chooseP l 31))).map bw) 5 rfl rfl rfl (by kernel_rfl) (by kernel_rfl) rfl (by decide) (by decide) (by simp) (by simp) (aIK _) (by omega) (by omega)) ⟨rfl,rfl,trivial⟩ ?_;refine aS 2 1 false ?_;refine cF [_,_,_] ?_;refine cn (dn ?_);refine tx ?_;refine Z1 ba ?_;refine Z1 mo ?_;refine cn ?_
  exact ⟨k+1,by omega,by omega,Le.trans (Le.swap (τ:=⟨[(0,bB l),(2,.own 0 0),(6,.own 1 0),(27,bB l),(28,vi (l.length:Int)),(29,vi ((k:Int)+1))],[(0,.live 53 [.val (.slice none 0 0),.val (.slice none 0 0),.val (.slice none 0 0)]),(1,.live 53 [bB (chooseP l 31),.osl 1 2 ((bT (chooseP l 31) l k).1.length+1),.osl 1 5 ((bT (chooseP l 31) l k).2.length+(fW (gT (l.getD k ByteArray.empty) (chooseP l 31))).length)]),(2,.live 3 (((bT (chooseP l 31) l k).1++[((bT (chooseP l 31) l k).2.length:Int)]).map vi)),(3,.dead),(4,.dead),(5,.live 5 (((bT (chooseP l 31) l k).2++(fW (gT (l.getD k ByteArray.empty) (chooseP l 31)))).map bw))]⟩) 2 4 (by simp) (by simp) ⟨(iR _ _ (bV _)).symm,rfl,rfl,(iR _ _ (bV _)).symm,rfl,rfl,trivial⟩ ⟨rfl,by show aL _ 1=some (Hs.live _ [(bB (chooseP l 31)).ren _,Av.osl 1 4 _,Av.osl 1 5 _]);rw [iR _ _ (bV _)];rfl,by show aL _ 4=some (Hs.live _ ((((bT (chooseP l 31) l k).1++[((bT (chooseP l 31) l k).2.length:Int)]).map vi).map _));rw [aDR];simp only [List.map_append];rfl,rfl,rfl,by show aL _ 5=some (Hs.live _ ((((bT (chooseP l 31) l k).2++(fW (gT (l.getD k ByteArray.empty) (chooseP l 31)))).map bw).map _));rw [aP7];simp only [List.map_append];rfl,trivial⟩) (Le.trans (Le.swap (τ:=⟨[(0,bB l),(2,.own 0 0),(6,.own 1 0),(27,bB l),(28,vi (l.length:Int)),(29,vi ((k:Int)+1))],[(0,.live 53 [.val (.slice none 0 0),.val (.slice none 0 0),.val (.slice none 0 0)]),(1,.live 53 [bB (chooseP l 31),.osl 1 2 ((bT (chooseP l 31) l k).1.length+1),.osl 1 3 ((bT (chooseP l 31) l k).2.length+(fW (gT (l.getD k ByteArray.empty) (chooseP l 31))).length)]),(2,.live 3 (((bT (chooseP l 31) l k).1++[((bT (chooseP l 31) l k).2.length:Int)]).map vi)),(3,.live 5 (((bT (chooseP l 31) l k).2++(fW (gT (l.getD k ByteArray.empty) (chooseP l 31)))).map bw)),(4,.dead),(5,.dead)]⟩) 3 5 (by simp) (by simp) ⟨(iR _ _ (bV _)).symm,rfl,rfl,(iR _ _ (bV _)).symm,rfl,rfl,trivial⟩ ⟨rfl,by show aL _ 1=some (Hs.live _ [(bB (chooseP l 31)).ren _,Av.osl 1 2 _,Av.osl 1 5 _]);rw [iR _ _ (bV _)];rfl,by show aL _ 2=some (Hs.live _ ((((bT (chooseP l 31) l k).1++[((bT (chooseP l 31) l k).2.length:Int)]).map vi).map _));rw [aDR];simp only [List.map_append];rfl,by show aL _ 5=some (Hs.live _ ((((bT (chooseP l 31) l k).2++(fW (gT (l.getD k ByteArray.empty) (chooseP l 31)))).map bw).map _));rw [aP7];simp only [List.map_append];rfl,rfl,rfl,trivial⟩) (Le.trans (Le.reset (τ:=⟨[(0,bB l),(2,.own 0 0),(6,.own 1 0),(27,bB l),(28,vi (l.length:Int)),(29,vi ((k:Int)+1))],[(0,.live 53 [.val (.slice none 0 0),.val (.slice none 0 0),.val (.slice none 0 0)]),(1,.live 53 [bB (chooseP l 31),.osl 1 2 ((bT (chooseP l 31) l k).1.length+1),.osl 1 3 ((bT (chooseP l 31) l k).2.length+(fW (gT (l.getD k ByteArray.empty) (chooseP l 31))).length)]),(2,.live 3 (((bT (chooseP l 31) l k).1++[((bT (chooseP l 31) l k).2.length:Int)]).map vi)),(3,.live 5 (((bT (chooseP l 31) l k).2++(fW (gT (l.getD k ByteArray.empty) (chooseP l 31)))).map bw)),(4,.unborn),(5,.unborn)]⟩) [4,5] (by simp) ⟨.inr rfl,.inr rfl,.inr rfl,.inr rfl,.inr rfl,.inr rfl,trivial⟩ ⟨aE.of_pure _ (bV _),by simp [aE],by simp [aE],aE.of_pure _ (bV _),by simp [aE],by simp [aE],trivial⟩ ⟨by rw [if_neg (by decide)];exact ⟨rfl,by simp [aE]⟩,by rw [if_neg (by decide)];exact ⟨rfl,by intro z hz;simp only [List.mem_cons,List.not_mem_nil,or_false] at hz;rcases hz with rfl|rfl|rfl;exact aE.of_pure _ (bV _);simp [aE];simp [aE]⟩,by rw [if_neg (by decide)];exact ⟨rfl,uG _⟩,by rw [if_neg (by decide)];exact ⟨rfl,acG _⟩,by rw [if_pos (by decide)],by rw [if_pos (by decide)],trivial⟩) (Le.sub ⟨.inr rfl,.inr rfl,.inr rfl,.inr rfl,.inr rfl,.inr (aR (by show (k:Int)+1=((k+1:Nat):Int);omega)),trivial⟩ ⟨rfl,by show _=some (Hs.live _ [bB (chooseP l 31),Av.osl 1 2 ((bT (chooseP l 31) l k).1++[((bT (chooseP l 31) l k).2.length:Int)]).length,Av.osl 1 3 ((bT (chooseP l 31) l k).2++(fW (gT (l.getD k ByteArray.empty) (chooseP l 31)))).length]);rw [List.length_append,List.length_append];rfl,rfl,rfl,rfl,rfl,trivial⟩)))⟩
 have hge:k=l.length:=by have h0:=of_decide_eq_false hb;omega
 subst hge;have hmk:=uH (ab:=(chooseP l 31)) (l:=l) l.length hat;refine bU ?_;refine aD ?_;refine bS (Le.freezeCell 1 1 2 (fun j=>vi ((bT (chooseP l 31) l l.length).1.getD j 0)) rfl rfl rfl (by decide) (by simp) (aUH _)) ?_;refine bS (Le.freezeCell 1 2 3 (bv (bT (chooseP l 31) l l.length).2) rfl rfl rfl (by decide) (by simp) (aDP _)) ?_;refine G ?_;exact ⟨.inl rfl,by rw [aIJ (aAF hmany hat)];exact aF.two rfl (aT.row rfl rfl (by kernel_rfl) (by kernel_rfl) (Nat.le_of_ble_eq_true rfl)) (aT.tmp rfl),trivial⟩
theorem asZ (l:List ByteArray)(hl:wt l≤5000000):PC Tryz.prog 85 [bB l] (.tup [kO (makeP l).1,vi (makeP l).2]):=by
 obtain ⟨hcs,hcn⟩:=aDQ hl;have hll:=aCL l;have hls:=aGW l;refine FB 6 55 Tryz.func85 ?_;refine Gd (fun hb=>?_) fun hb=>?_
 ·have hmany:(l.length:Int)>4096:=of_decide_eq_true hb;refine G ?_;exact ⟨.inl rfl,by rw [aIJ (acE hmany)];exact aF.two rfl ((aT.row rfl rfl (by kernel_rfl) (by kernel_rfl) (Nat.le_of_ble_eq_true rfl)).to aP6) (aT.tmp rfl),trivial⟩
 have hmany:¬ (l.length:Int)>4096:=of_decide_eq_false hb;refine G ?_;refine LP (ι:=Nat) (fun k=>[(4,vi k)]) (fun _=>[]) (fun k=>k≤l.length∧∀ j,j<k→cN (tB (l.getD j ByteArray.empty))=true) (fun k=>l.length-k) 0 (⟨Nat.zero_le _,fun j hj=>absurd hj (by omega)⟩) (hl:=(Le.sub (by repeat (first|exact trivial|refine ⟨.inr rfl,?_⟩|refine ⟨.inr (aR (by omega)),?_⟩)) (by repeat (first|exact trivial|refine ⟨rfl,?_⟩)))) ?_;intro k hI;refine Gd (fun hb=>?_) fun hb=>?_
 ·have hlt:k<l.length:=by have h0:=of_decide_eq_true hb;omega
  have hsz:(l.getD k ByteArray.empty).size≤5000000:=by have:(l.getD k ByteArray.empty).size≤wt l:=hls k;omega
  refine C (atA (l.getD k ByteArray.empty) (by omega)) ?_;refine cd (fun hb=>?_) fun hb=>?_
  ·have htk:¬ cN (tB (l.getD k ByteArray.empty))=true:=by simpa using hb
   refine G ?_;exact ⟨.inl rfl,by rw [aIJ (acF hmany hlt htk)];exact aF.two rfl ((aT.row rfl rfl (by kernel_rfl) (by kernel_rfl) (Nat.le_of_ble_eq_true rfl)).to aP6) (aT.tmp rfl),trivial⟩
  have htk:cN (tB (l.getD k ByteArray.empty))=true:=by simpa using hb
  refine G ?_;exact ⟨k+1,⟨by omega,aC3 (p:=fun j=>cN (tB (l.getD j ByteArray.empty))=true) hI.2 htk⟩,by omega,Le.sub (by repeat (first|exact trivial|refine ⟨.inr rfl,?_⟩|refine ⟨.inr (aR (by omega)),?_⟩)) (by repeat (first|exact trivial|refine ⟨rfl,?_⟩))⟩
 have hge:k=l.length:=by have h0:=of_decide_eq_false hb;omega
 have hat:∀ j,j<l.length→cN (tB (l.getD j ByteArray.empty))=true:=by rw [←hge];exact hI.2
 clear hI;clear hge;refine G ?_;refine Z1 (ca ((show PC _ _ [bB l,vi 31] (bB (chooseP l 31)) from aL4 hl 31 ▸ aq8 l hl 31))) ?_;refine G ?_;refine bS (Le.nameNilCell 1 1 2 1 3 rfl rfl rfl (by decide)) ?_;refine bS (Le.nameNilCell 1 2 3 1 5 rfl rfl rfl (by decide)) ?_
 refine bM (ι:=Nat) (fun k=>⟨[(0,bB l),(2,.own 0 0),(5,.own 1 0),(6,vi k)],[(0,.live 53 [.val (.slice none 0 0),.val (.slice none 0 0),.val (.slice none 0 0)]),(1,.live 53 [bB (chooseP l 31),.osl 1 2 ((bT (chooseP l 31) l k).1.length),.osl 1 3 ((bT (chooseP l 31) l k).2.length)]),(2,.live 3 ((bT (chooseP l 31) l k).1.map vi)),(3,.live 5 ((bT (chooseP l 31) l k).2.map bw)),(4,.unborn),(5,.unborn)]⟩) (fun k=>k≤l.length) (fun k=>l.length-k) 0 (Nat.zero_le _) (Le.sub (by repeat (first|exact trivial|refine ⟨.inr rfl,?_⟩)) ⟨rfl,rfl,rfl,rfl,rfl,rfl,trivial⟩) ?_
 intro k hI;refine Gd (fun hb=>?_) fun hb=>?_
 ·have hlt:k<l.length:=by have h0:=of_decide_eq_true hb;omega
  have htk:=hat k hlt;obtain ⟨hp1,hp2,hp3⟩:=aIL (chooseP l 31) htk;have hmk:=uH (ab:=(chooseP l 31)) (l:=l) k fun j hj=>hat j (by omega);refine G ?_;refine Z1 (fO (ps:=[.tmp 37]) (xs:=[.val _]) (e:=3) (k:=1) (by_:=8) (zs:=[.int .i64 0]) rfl (by kernel_rfl) (by kernel_rfl) rfl rfl rfl (by decide) (by decide)) ?_
  refine aZ rfl rfl (iG (e:=3) (k:=1) (by_:=8) (zs:=[.int .i64 0]) (cs:=(bT (chooseP l 31) l k).1.map vi) (ds:=[vi ((bT (chooseP l 31) l k).2.length:Int)]) 4 rfl rfl rfl (by kernel_rfl) (by kernel_rfl) rfl (by decide) (by decide) (by simp) rfl (aP3 _) (by omega) (by omega)) ⟨rfl,rfl,trivial⟩ ?_;refine aS 1 1 false ?_;refine cF [_,_,_] ?_;refine G ?_
  refine Z1 (cq ((show PC _ _ [vs (l.getD k ByteArray.empty),bB (chooseP l 31)] (rH (bL (l.getD k ByteArray.empty) (chooseP l 31))) from aqL (l.getD k ByteArray.empty) (chooseP l 31) ▸ aqT (l.getD k ByteArray.empty) (chooseP l 31) (by omega) (fun k=>Nat.le_trans (hcs k) (by omega)) (by omega))) rfl rfl) ?_;refine C (atD (bL (l.getD k ByteArray.empty) (chooseP l 31)) (l.getD k ByteArray.empty).size (by omega) (ahJ (chooseP l 31)).1 (ahK (chooseP l 31)) (by have:=(ahJ (s:=(l.getD k ByteArray.empty)) (chooseP l 31)).2;omega)) ?_
  refine Z1 (cq ((show PC _ _ [aK (gJ (bL (l.getD k ByteArray.empty) (chooseP l 31)) (bL (l.getD k ByteArray.empty) (chooseP l 31)).length)] (bs (fW (gT (l.getD k ByteArray.empty) (chooseP l 31)))) from atB (gT (l.getD k ByteArray.empty) (chooseP l 31)) (by omega))) rfl rfl) ?_
  refine aZ rfl rfl (iG (e:=5) (k:=1) (by_:=1) (zs:=[.int .u8 0]) (cs:=(bT (chooseP l 31) l k).2.map bw) (ds:=(fW (gT (l.getD k ByteArray.empty) (chooseP l 31))).map bw) 5 rfl rfl rfl (by kernel_rfl) (by kernel_rfl) rfl (by decide) (by decide) (by simp) (by simp) (aIK _) (by omega) (by omega)) ⟨rfl,rfl,trivial⟩ ?_;refine aS 2 1 false ?_;refine cF [_,_,_] ?_;refine G ?_
  exact ⟨k+1,by omega,by omega,Le.trans (Le.swap (τ:=⟨[(0,bB l),(2,.own 0 0),(5,.own 1 0),(6,vi ((k:Int)+1))],[(0,.live 53 [.val (.slice none 0 0),.val (.slice none 0 0),.val (.slice none 0 0)]),(1,.live 53 [bB (chooseP l 31),.osl 1 2 ((bT (chooseP l 31) l k).1.length+1),.osl 1 5 ((bT (chooseP l 31) l k).2.length+(fW (gT (l.getD k ByteArray.empty) (chooseP l 31))).length)]),(2,.live 3 (((bT (chooseP l 31) l k).1++[((bT (chooseP l 31) l k).2.length:Int)]).map vi)),(3,.dead),(4,.dead),(5,.live 5 (((bT (chooseP l 31) l k).2++(fW (gT (l.getD k ByteArray.empty) (chooseP l 31)))).map bw))]⟩) 2 4 (by simp) (by simp) ⟨(iR _ _ (bV _)).symm,rfl,rfl,rfl,trivial⟩ ⟨rfl,by show aL _ 1=some (Hs.live _ [(bB (chooseP l 31)).ren _,Av.osl 1 4 _,Av.osl 1 5 _]);rw [iR _ _ (bV _)];rfl,by show aL _ 4=some (Hs.live _ ((((bT (chooseP l 31) l k).1++[((bT (chooseP l 31) l k).2.length:Int)]).map vi).map _));rw [aDR];simp only [List.map_append];rfl,rfl,rfl,by show aL _ 5=some (Hs.live _ ((((bT (chooseP l 31) l k).2++(fW (gT (l.getD k ByteArray.empty) (chooseP l 31)))).map bw).map _));rw [aP7];simp only [List.map_append];rfl,trivial⟩) (Le.trans (Le.swap (τ:=⟨[(0,bB l),(2,.own 0 0),(5,.own 1 0),(6,vi ((k:Int)+1))],[(0,.live 53 [.val (.slice none 0 0),.val (.slice none 0 0),.val (.slice none 0 0)]),(1,.live 53 [bB (chooseP l 31),.osl 1 2 ((bT (chooseP l 31) l k).1.length+1),.osl 1 3 ((bT (chooseP l 31) l k).2.length+(fW (gT (l.getD k ByteArray.empty) (chooseP l 31))).length)]),(2,.live 3 (((bT (chooseP l 31) l k).1++[((bT (chooseP l 31) l k).2.length:Int)]).map vi)),(3,.live 5 (((bT (chooseP l 31) l k).2++(fW (gT (l.getD k ByteArray.empty) (chooseP l 31)))).map bw)),(4,.dead),(5,.dead)]⟩) 3 5 (by simp) (by simp) ⟨(iR _ _ (bV _)).symm,rfl,rfl,rfl,trivial⟩ ⟨rfl,by show aL _ 1=some (Hs.live _ [(bB (chooseP l 31)).ren _,Av.osl 1 2 _,Av.osl 1 5 _]);rw [iR _ _ (bV _)];rfl,by show aL _ 2=some (Hs.live _ ((((bT (chooseP l 31) l k).1++[((bT (chooseP l 31) l k).2.length:Int)]).map vi).map _));rw [aDR];simp only [List.map_append];rfl,by show aL _ 5=some (Hs.live _ ((((bT (chooseP l 31) l k).2++(fW (gT (l.getD k ByteArray.empty) (chooseP l 31)))).map bw).map _));rw [aP7];simp only [List.map_append];rfl,rfl,rfl,trivial⟩) (Le.trans (Le.reset (τ:=⟨[(0,bB l),(2,.own 0 0),(5,.own 1 0),(6,vi ((k:Int)+1))],[(0,.live 53 [.val (.slice none 0 0),.val (.slice none 0 0),.val (.slice none 0 0)]),(1,.live 53 [bB (chooseP l 31),.osl 1 2 ((bT (chooseP l 31) l k).1.length+1),.osl 1 3 ((bT (chooseP l 31) l k).2.length+(fW (gT (l.getD k ByteArray.empty) (chooseP l 31))).length)]),(2,.live 3 (((bT (chooseP l 31) l k).1++[((bT (chooseP l 31) l k).2.length:Int)]).map vi)),(3,.live 5 (((bT (chooseP l 31) l k).2++(fW (gT (l.getD k ByteArray.empty) (chooseP l 31)))).map bw)),(4,.unborn),(5,.unborn)]⟩) [4,5] (by simp) ⟨.inr rfl,.inr rfl,.inr rfl,.inr rfl,trivial⟩ ⟨aE.of_pure _ (bV _),by simp [aE],by simp [aE],by simp [aE],trivial⟩ ⟨by rw [if_neg (by decide)];exact ⟨rfl,by simp [aE]⟩,by rw [if_neg (by decide)];exact ⟨rfl,by intro z hz;simp only [List.mem_cons,List.not_mem_nil,or_false] at hz;rcases hz with rfl|rfl|rfl;exact aE.of_pure _ (bV _);simp [aE];simp [aE]⟩,by rw [if_neg (by decide)];exact ⟨rfl,uG _⟩,by rw [if_neg (by decide)];exact ⟨rfl,acG _⟩,by rw [if_pos (by decide)],by rw [if_pos (by decide)],trivial⟩) (Le.sub ⟨.inr rfl,.inr rfl,.inr rfl,.inr (aR (by show (k:Int)+1=((k+1:Nat):Int);omega)),trivial⟩ ⟨rfl,by show _=some (Hs.live _ [bB (chooseP l 31),Av.osl 1 2 ((bT (chooseP l 31) l k).1++[((bT (chooseP l 31) l k).2.length:Int)]).length,Av.osl 1 3 ((bT (chooseP l 31) l k).2++(fW (gT (l.getD k ByteArray.empty) (chooseP l 31)))).length]);rw [List.length_append,List.length_append];rfl,rfl,rfl,rfl,rfl,trivial⟩)))⟩
 have hge:k=l.length:=by have h0:=of_decide_eq_false hb;omega
 subst hge;have hmk:=uH (ab:=(chooseP l 31)) (l:=l) l.length hat;refine bU ?_;refine aD ?_;refine bS (Le.freezeCell 1 1 2 (fun j=>vi ((bT (chooseP l 31) l l.length).1.getD j 0)) rfl rfl rfl (by decide) (by simp) (aUH _)) ?_;refine bS (Le.freezeCell 1 2 3 (bv (bT (chooseP l 31) l l.length).2) rfl rfl rfl (by decide) (by simp) (aDP _)) ?_;refine G ?_;exact ⟨.inl rfl,by rw [aIJ (aAF hmany hat)];exact aF.two rfl (aT.row rfl rfl (by kernel_rfl) (by kernel_rfl) (Nat.le_of_ble_eq_true rfl)) (aT.tmp rfl),trivial⟩
def iA (l:List Int):Prop:=∀ x∈l,0≤x∧x<256
theorem fC {a b:List Int}(ha:iA a)(hb:iA b):iA (a++b):=fun x hx=>by
 rcases List.mem_append.1 hx with hx|hx
 ·exact ha x hx
 exact hb x hx
theorem aDS {α:Type}{e:α→List Int}{l:List α}(h:∀ x∈l,iA (e x)):iA (l.flatMap e):=fun x hx=>by
 obtain ⟨y,hy,hx⟩:=List.mem_flatMap.1 hx;exact h y hy x hx
theorem acK (n:Nat):iA (kC n):=by
 induction n using Nat.strongRecOn with
 | ind n ih=>
  by_cases h:n<128
  ·rw [aAH h];intro x hx;rw [List.mem_singleton] at hx;omega
  rw [aDT h];intro x hx;rcases List.mem_cons.1 hx with rfl|hx
  ·omega
  exact ih (n/128) (by omega) x hx
theorem lM (n:Int):iA (aC n):=acK _
theorem aAI (n:Int):iA (cQ n):=fun x hx=>by unfold cQ at hx;rw [List.mem_singleton] at hx;omega
theorem aIN (s:ByteArray):iA (jZ s):=fun x hx=>by
 unfold jZ at hx;obtain ⟨b,_,rfl⟩:=List.mem_map.1 hx;have:=b.toNat_lt;omega
theorem aIO (s:ByteArray):iA (aY s):=fC (lM _) (aIN s)
theorem acL (n:Int):iA (kD n):=fun x hx=>by
 unfold kD at hx;simp only [List.mem_cons,List.not_mem_nil,or_false] at hx;omega
theorem aIP (l:List Int):iA (cZ l):=fC (lM _) (aDS fun x _=>acL x)
theorem uI {α:Type}{e:α→List Int}(l:List α)(h:∀ x∈l,iA (e x)):iA (aJ e l):=fC (lM _) (aDS h)
theorem aP9 (b:Bool):iA (gQ b):=aAI _
theorem aDU (l:List ByteArray):iA (aJ aY l):=uI l fun x _=>aIO x
theorem aQA (l:List Int):iA (aJ aC l):=uI l fun x _=>lM x
theorem acM (y:WayP):iA (gR y):=fC (fC (fC (aAI _) (lM _)) (lM _)) (lM _)
theorem acN (x:ThingP):iA (fH x):=fC (fC (fC (fC (fC (fC (fC (fC (lM _) (lM _)) (lM _)) (lM _)) (aP9 _)) (aIP _)) (aDU _)) (aDU _)) (uI _ fun y _=>acM y)
theorem acO (v:VerbP):iA (fS v):=fC (aP9 _) (uI _ fun l _=>uI _ fun x _=>fC (aAI _) (aDU _))
theorem acP (d:DeedP):iA (gG d):=fC (fC (fC (fC (fC (lM _) (aAI _)) (lM _)) (lM _)) (lM _)) (lM _)
theorem lN {n:Int}(h:n≤1000000000000000):(aC n).length≤10:=aDV n.toNat 9 (by omega)
theorem xT {α:Type}{e:α→List Int}{c:Nat}:∀ {l:List α},(∀ x∈l,(e x).length≤c)→(l.flatMap e).length≤l.length*c
 | [],_=>by simp
 | x::l,h=>by
  have h1:=h x (by simp);have h2:=xT (l:=l) fun y hy=>h y (by simp [hy]);rw [List.flatMap_cons,List.length_append,List.length_cons,Nat.add_mul];omega
theorem nN {α:Type}{e:α→List Int}{l:List α}{n:Nat}(c:Nat)(hl:l.length≤n)(hn:n≤1000000000)(h:∀ x∈l,(e x).length≤c):(aJ e l).length≤10+n*c:=by
 unfold aJ;rw [List.length_append];have h1:=lN (n:=(l.length:Int)) (by omega);have h2:=xT h;have h3:=Nat.mul_le_mul_right c hl;omega
theorem wB {s:ByteArray}{c:Nat}(h:s.size≤c)(hc:c≤1000000000):(aY s).length≤10+c:=by
 have h1:=lN (n:=(s.size:Int)) (by omega);have h2:(jZ s).length=s.size:=by unfold jZ;rw [List.length_map,Array.length_toList];rfl
 unfold aY;rw [List.length_append];omega
theorem aAJ {l:List Int}{n:Nat}(h:l.length≤n)(hn:n≤1000000000):(cZ l).length≤10+n*2:=nN (e:=kD) 2 h hn fun x _=>by simp [kD]
theorem aIQ {l:List ByteArray}{m:Nat}(hm:m≤1000)(h:xU l m):(aJ aY l).length≤10+m*19:=nN 19 h.1 (by omega) fun w hw=>wB (h.2 w hw) (by omega)
theorem acQ {y:WayP}(h:xV y):(gR y).length≤31:=by
 obtain ⟨h1,h2,h3,h4⟩:=h;have a:=lN (n:=y.goal) (by omega);have b:=lN (n:=y.cond+1) (by omega);have c:=lN (n:=y.els+1) (by omega);unfold gR;simp only [List.length_append,cQ,List.length_cons,List.length_nil];omega
theorem aQB {x:ThingP}(h:thG x):(fH x).length≤1000:=by
 have a:=lN (n:=x.title) (by have:=h.title;omega);have b:=lN (n:=x.text+1) (by have:=h.text;omega);have c:=lN (n:=x.parent) (by have:=h.parent;omega);have d:=lN (n:=x.flags) (by have:=h.flags;omega);have e:=aAJ h.props.1 (by omega);have f:=aIQ (by omega) h.words;have g:=aIQ (by omega) h.adjs;have i:=nN (e:=gR) 31 h.ways.1 (by omega) fun y hy=>acQ (h.ways.2 y hy);unfold fH;simp only [List.length_append,gQ,cQ,List.length_cons,List.length_nil];omega
theorem aQC {v:VerbP}(h:aDW v):(fS v).length≤6000:=by
 have a:=nN (e:=pK) 710 h.1 (by omega) fun l hl=>by
  have b:=nN (e:=kQ) 87 (h.2 l hl).1 (by omega) fun x hx=>by
   have c:=aIQ (by omega) ((h.2 l hl).2 x hx).2;unfold kQ;simp only [List.length_append,cQ,List.length_cons,List.length_nil];omega
  unfold pK;omega
 unfold fS;simp only [List.length_append,gQ,cQ,List.length_cons,List.length_nil];omega
theorem aQD {d:DeedP}(h:aDX d):(gG d).length≤61:=by
 obtain ⟨h1,h2,h3,h4,h5,h6⟩:=h;have a:=lN (n:=d.verb) (by omega);have b:=lN (n:=d.noun+1) (by omega);have c:=lN (n:=d.second+1) (by omega);have e:=lN (n:=d.cond+1) (by omega);have f:=lN (n:=d.body) (by omega);unfold gG;simp only [List.length_append,cQ,List.length_cons,List.length_nil];omega
def gU:List Int:=[67,76,69,87]++cQ 1
def fD (s:StoryP):List (List Int):=[s.tab.funcs,s.tab.daemons,s.tab.params,s.tab.locals,s.entry]
def e1 (s:StoryP):List Int:=gU++(cW s).flatMap aC
def e2 (s:StoryP)(p:PoolP):List Int:=e1 s++aJ aY p.abbrevs++aJ aC p.at_++aY (strOfNums p.bytes)
def e3 (s:StoryP)(p:PoolP):List Int:=e2 s p++cZ s.tab.props++cZ s.tab.globals
def e4 (s:StoryP)(p:PoolP):List Int:=e3 s p++aJ fH s.tab.things++aJ fS s.tab.acts++aJ gG s.tab.deeds
def e5 (s:StoryP)(p:PoolP):List Int:=e4 s p++(fD s).flatMap (aJ aC)
def iK (s:StoryP)(p:PoolP):List Int:=e5 s p++aY (strOfNums s.code)
theorem aIR (s:StoryP)(p:PoolP):iA (iK s p):=by
 have h0:iA gU:=fC (fun x hx=>by simp only [List.mem_cons,List.not_mem_nil,or_false] at hx;omega) (aAI 1);refine fC (fC (fC (fC (fC (fC (fC (fC (fC (fC (fC h0 (aDS fun x _=>lM x)) (aDU _)) (aQA _)) (aIO _)) (aIP _)) (aIP _)) (uI _ fun x _=>acN x)) (uI _ fun x _=>acO x)) (uI _ fun x _=>acP x)) (aDS fun l _=>aQA l)) (aIO _)
structure poolG (p:PoolP):Prop where
 abb:p.abbrevs.length≤31∧∀ w∈p.abbrevs,w.size≤8
 at_:p.at_.length≤4096∧∀ z∈p.at_,0≤z∧z≤7872512
 bytes:p.bytes.length≤7872512
def aIS (s:StoryP):Prop:=s.entry.length≤2048∧∀ z∈s.entry,0≤z∧z≤10000000
theorem pO {l:List Int}{n:Nat}{m:Int}(h:l.length≤n)(hn:n≤100000)(hm:m≤1000000000)(hz:∀ z∈l,0≤z∧z≤m):(aJ aC l).length≤10+n*10:=nN 10 h (by omega) fun z hz'=>lN (by have:=hz z hz';omega)
theorem aQE {s:StoryP}{p:PoolP}(ht:tabG s.tab)(hp:poolG p)(he:aIS s)(hc:s.code.length≤10000000):(iK s p).length≤20000000:=by
 have a:((cW s).flatMap aC).length≤5*10:=xT (l:=cW s) fun z hz=>by
  refine lN ?_;unfold cW at hz;simp only [List.mem_cons,List.not_mem_nil,or_false] at hz;have:=ht.title;have:=ht.by_;have:=ht.release;have:=ht.max;have:=ht.flags
  omega
 have b:=nN (e:=aY) 18 hp.abb.1 (by omega) fun w hw=>wB (hp.abb.2 w hw) (by omega);have c:=pO hp.at_.1 (by omega) (by omega) hp.at_.2;have d:=wB (s:=strOfNums p.bytes) (c:=7872512) (by rw [strOfNums_size];exact hp.bytes) (by omega);have e:=aAJ ht.props.1 (by omega);have f:=aAJ ht.globals.1 (by omega);have g:=nN (e:=fH) 1000 ht.things.1.2 (by omega) fun x hx=>aQB (ht.things.2 x hx);have h:=nN (e:=fS) 6000 ht.acts.1 (by omega) fun x hx=>aQC (ht.acts.2 x hx);have i:=nN (e:=gG) 61 ht.deeds.1 (by omega) fun x hx=>aQD (ht.deeds.2 x hx)
 have j:((fD s).flatMap (aJ aC)).length≤5*20490:=xT (l:=fD s) fun l hl=>by
  unfold fD at hl;simp only [List.mem_cons,List.not_mem_nil,or_false] at hl;have j1:=pO ht.funcs.1 (by omega) (by omega) ht.funcs.2;have j2:=pO ht.daemons.1 (by omega) (by omega) ht.daemons.2;have j3:=pO ht.params.1 (by omega) (by omega) ht.params.2;have j4:=pO ht.locals.1 (by omega) (by omega) ht.locals.2;have j5:=pO he.1 (by omega) (by omega) he.2;rcases hl with rfl|rfl|rfl|rfl|rfl<;>omega
 have k:=wB (s:=strOfNums s.code) (c:=10000000) (by rw [strOfNums_size];exact hc) (by omega);unfold iK e5 e4 e3 e2 e1 gU;simp only [List.length_append,cQ,List.length_cons,List.length_nil];omega
theorem acR {y:WayP}(h:xV y):aDY y:=by obtain ⟨h1,h2,h3,h4⟩:=h;unfold aDY;omega
theorem acS {x:ThingP}(h:thG x):aQF x:=by
 have a:=h.title;have b:=h.text;have c:=h.parent;have d:=h.flags;have e:=h.props.1
 exact ⟨by omega,by omega,by omega,by omega,by omega,fun y hy=>acR (h.ways.2 y hy)⟩
theorem acT {d:DeedP}(h:aDX d):aIT d:=by obtain ⟨h1,h2,h3,h4,h5,h6⟩:=h;unfold aIT;omega
theorem acU {s:ByteArray}(h:qN s=true):cN (tB s)=true:=by
 unfold qN at h;simp only [Bool.and_eq_true,decide_eq_true_eq,List.all_eq_true] at h;unfold cN;simp only [Bool.and_eq_true,decide_eq_true_eq,List.all_eq_true];refine ⟨by rw [fK];omega,fun c hc=>?_⟩;have h1:=h.1 c hc;unfold uJ at h1;unfold eZ;simp only [Bool.or_eq_true,Bool.and_eq_true,decide_eq_true_eq,beq_iff_eq] at h1;exact decide_eq_true h1
theorem aQG:∀ {l:List ByteArray},(∀ s∈l,s.size≤1024)→wt l≤l.length*1025
 | [],_=>Nat.zero_le _
 | s::l,h=>by
  have h1:=h s (by simp);have h2:=aQG (l:=l) fun x hx=>h x (by simp [hx]);simp only [wt,List.length_cons,Nat.add_mul];omega
theorem aDZ {t:TabP}(h:tabG t):wt t.texts≤5000000:=by
 have h1:=aQG (l:=t.texts) fun s hs=>by
  have:=(List.all_eq_true.1 h.texts.2) s hs;unfold qN at this;simp only [Bool.and_eq_true,decide_eq_true_eq] at this;omega
 have h2:=Nat.mul_le_mul_right 1025 h.texts.1;omega
theorem aAK {t:TabP}(h:tabG t):∀ j,j<t.texts.length→cN (tB (t.texts.getD j ByteArray.empty))=true:=fun j hj=>by
 rw [List.getD,List.getElem?_eq_getElem hj];exact acU ((List.all_eq_true.1 h.texts.2) _ (List.getElem_mem hj))
theorem aIU {ab l:List ByteArray}:∀ k,(∀ j,j<k→cN (tB (l.getD j ByteArray.empty))=true)→∀ z∈(bT ab l k).1,0≤z∧z≤1922*(k:Int)
 | 0,_,z,hz=>by cases hz
 | k+1,h,z,hz=>by
  have h1:=uH (ab:=ab) (l:=l) k fun j hj=>h j (by omega);rcases List.mem_append.1 hz with hz|hz
  ·have:=aIU k (fun j hj=>h j (by omega)) z hz;omega
  rw [List.mem_singleton] at hz;omega
theorem aAL {t:TabP}(h:tabG t):(makeP t.texts).2=0∧poolG (makeP t.texts).1:=by
 have hb:=aAK h;have hl:=h.texts.1;rw [aAF (by omega) hb];obtain ⟨c1,c2⟩:=aDQ (aDZ h);have h1:=uH (ab:=chooseP t.texts 31) (l:=t.texts) t.texts.length hb;refine ⟨rfl,⟨⟨c2,fun w hw=>?_⟩,⟨by show (bT _ _ _).1.length≤_;omega,fun z hz=>?_⟩,by show (bT _ _ _).2.length≤_;omega⟩⟩
 ·obtain ⟨j,hj,rfl⟩:=uK (d:=ByteArray.empty) hw;exact c1 j
 have:=aIU t.texts.length hb z hz;omega
end Go.Proofs.YtgajclaoaphgoaaGreatDoor
namespace Go.Proofs.YtgajclaoaphgoaaGreatDoor
open Go.RowKit
theorem ac0 (t:TabP)(ht:t.wf):PC Tryz.prog 48 [bR t] (vb (aAM t)):=by
 refine FB 6 61 Tryz.func48 ?_;refine dM (t:=0) (x:=bR t) rfl (qO t) fun hf=>?_;have hf1:=hf.params;have hf2:=hf.texts;have hf3:=hf.things;have hf4:=hf.acts;have hf5:=hf.locals;have hf6:=hf.deeds;have hf7:=hf.funcs;have hf8:=hf.daemons;refine G ?_;refine Zg rfl rfl rfl cA (fun hC=>jP rfl (by kernel_rfl) (aU5 t.texts 64 [] qN (by kernel_rfl) trivial fun x hx=>amD x (ht.texts x hx)) rfl (by simp only [bE,aN,and_self,dG,dY,cP,bV,dZ,eA,eC,eD,eE,eF,eG,eH,eI,eJ]) (by simp only [bE,aN,and_self,dG,dY,cP,bV,dZ,eA,eC,eD,eE,eF,eG,eH,eI,eJ])) trivial ?_;refine G ?_
 refine Z4 (fun hC=>ca (aBQ t _)) ?_;refine G ?_;refine Z4 (fun hC=>ca (aBQ t _)) ?_;refine G ?_;refine Z4 (fun hC=>ca (aFK _ _ _)) ?_;refine G ?_;refine Z4 (fun hC=>ca (aFK _ _ _)) ?_;refine G ?_;refine Z4 (fun hC=>ca (aFK _ _ _)) ?_;refine G ?_;refine Zg rfl rfl rfl cA (fun hC=>jP rfl (by kernel_rfl) (xW t.props 124 [] pW (by kernel_rfl) trivial fun z hz=>aLR z) rfl (by simp only [bE,aN,and_self,dG,dY,cP,bV,dZ,eA,eC,eD,eE,eF,eG,eH,eI,eJ]) (by simp only [bE,aN,and_self,dG,dY,cP,bV,dZ,eA,eC,eD,eE,eF,eG,eH,eI,eJ])) trivial ?_;refine G ?_
 refine Zg rfl rfl rfl cA (fun hC=>jP rfl (by kernel_rfl) (xW t.globals 124 [] pW (by kernel_rfl) trivial fun z hz=>aLR z) rfl (by simp only [bE,aN,and_self,dG,dY,cP,bV,dZ,eA,eC,eD,eE,eF,eG,eH,eI,eJ]) (by simp only [bE,aN,and_self,dG,dY,cP,bV,dZ,eA,eC,eD,eE,eF,eG,eH,eI,eJ])) trivial ?_;refine G ?_;exact Rx rfl rfl
theorem ac1 (t:TabP):PC Tryz.prog 49 [bR t] (vb (yP t)):=by
 refine FB 6 40 Tryz.func49 ?_;refine dM (t:=0) (x:=bR t) rfl (qO t) fun hf=>?_;have hf1:=hf.params;have hf2:=hf.texts;have hf3:=hf.things;have hf4:=hf.acts;have hf5:=hf.locals;have hf6:=hf.deeds;have hf7:=hf.funcs;have hf8:=hf.daemons;refine Gd (fun hb=>?_) fun hb=>?_
 ·have hw:aBI t=true:=hb;refine G ?_;exact Rx rfl (bP (by unfold yP;rw [hw];rfl))
 have hw:aBI t=false:=hb;have hl:t.params.length=t.locals.length:=by
  unfold aBI at hw;simp at hw;omega
 refine G ?_;refine LP (ι:=Nat) (fun k=>[(21,vi k)]) (fun _=>[]) (fun k=>k≤t.params.length∧∀ j,j<k→(!uW t j)=true) (fun k=>t.params.length-k) 0 (⟨Nat.zero_le _,qF⟩) (hl:=(Le.sub (by repeat (first|trivial|refine ⟨.inr rfl,?_⟩|refine ⟨.inr (aR (by omega)),?_⟩)) (by repeat (first|trivial|refine ⟨rfl,?_⟩)))) ?_;intro k hI;refine Gd (fun hb=>?_) fun hb=>?_
 ·have hlt:k<t.params.length:=by simpa using hb
  refine G ?_;refine Z1 (ca (aFK _ _ _)) ?_;refine G ?_;refine Z4 (fun hC=>ca (aFK _ _ _)) ?_;refine Gd (fun hb=>?_) fun hb=>?_
  ·refine G ?_;exact Rx rfl (bP (by unfold yP;rw [nD (p:=fun j=>!uW t j) hlt (by rw [show uW t k=true from hb];rfl),Bool.and_false]))
  refine G ?_;exact ⟨k+1,⟨by omega,mC (p:=fun j=>!uW t j) hI.2 (by rw [show uW t k=false from hb];rfl)⟩,by omega,Le.sub (by repeat (first|trivial|refine ⟨.inr rfl,?_⟩|refine ⟨.inr (aR (by omega)),?_⟩)) (by repeat (first|trivial|refine ⟨rfl,?_⟩))⟩
 have hge:k=t.params.length:=by simp at hb;omega
 refine G ?_;exact Rx rfl (bP (by unfold yP;rw [sP (p:=fun j=>!uW t j) fun j hj=>hI.2 j (by omega),hw];rfl))
theorem amE (x:ThingP):PC Tryz.prog 125 [iT x] (vb (aE6 x)):=by
 refine FB 6 45 Tryz.func125 ?_;refine G ?_;refine Zg rfl rfl rfl cA (fun hC=>jP rfl (by kernel_rfl) (xW x.props 187 [] (fun z=>z==0) (by kernel_rfl) trivial fun z hz=>al0 z) rfl (by simp only [bE,aN,and_self,dG,dY,cP,bV,dZ,eA,eC,eD,eE,eF,eG,eH,eI,eJ]) (by simp only [bE,aN,and_self,dG,dY,cP,bV,dZ,eA,eC,eD,eE,eF,eG,eH,eI,eJ])) trivial ?_;refine G ?_;exact Rx rfl rfl
theorem atJ (x:ThingP)(E:Env)(v:Value)(h:aA E (iT x) v):x.props.length≤9223372036854775807∧x.words.length≤9223372036854775807∧x.adjs.length≤9223372036854775807∧x.ways.length≤9223372036854775807:=by
 unfold iT aA at h;obtain ⟨vs,_,h,_⟩:=h;have g:=fun i y hy=>h.at_ i y hy;obtain ⟨_,h5⟩:=g 5 _ rfl;obtain ⟨_,h6⟩:=g 6 _ rfl;obtain ⟨_,h7⟩:=g 7 _ rfl;obtain ⟨_,h8⟩:=g 8 _ rfl;exact ⟨eR E _ h5,eR E _ h6,eR E _ h7,eR E _ h8⟩
theorem atK (t:TabP)(x:ThingP):PC Tryz.prog 203 [bR t,iT x] (vb (aaC t x)):=by
 refine FB 6 64 Tryz.func203 ?_;refine dM (t:=1) (x:=iT x) rfl (atJ x) fun hx=>?_;refine Gd (fun hb=>?_) fun hb=>?_
 ·have hw:ak7 t x=true:=hb;refine G ?_;exact Rx rfl (bP (by unfold aaC;rw [hw];rfl))
 have hw:ak7 t x=false:=hb;refine G ?_;refine LP (ι:=Nat) (fun k=>[(5,vi k)]) (fun _=>[]) (fun k=>k≤x.props.length∧∀ j,j<k→(x.props.getD j 0==0)=true) (fun k=>x.props.length-k) 0 (⟨Nat.zero_le _,qF⟩) (hl:=(Le.sub (by repeat (first|trivial|refine ⟨.inr rfl,?_⟩|refine ⟨.inr (aR (by omega)),?_⟩)) (by repeat (first|trivial|refine ⟨rfl,?_⟩)))) ?_;intro k hI;refine Gd (fun hb=>?_) fun hb=>?_
 ·have hlt:k<x.props.length:=by have h0:=of_decide_eq_true hb;omega
  refine Gd (fun hb=>?_) fun hb=>?_
  ·refine G ?_;exact Rx rfl (bP (by unfold aaC;rw [aKW (d:=0) hlt (by simpa using hb),Bool.and_false]))
  refine G ?_;exact ⟨k+1,⟨by omega,mC (p:=fun j=>x.props.getD j 0==0) hI.2 (by simpa using hb)⟩,by omega,Le.sub (by repeat (first|trivial|refine ⟨.inr rfl,?_⟩|refine ⟨.inr (aR (by omega)),?_⟩)) (by repeat (first|trivial|refine ⟨rfl,?_⟩))⟩
 have hge:k=x.props.length:=by have h0:=of_decide_eq_false hb;omega
 refine G ?_;exact Rx rfl (bP (by unfold aaC;rw [aLP (d:=0) fun j hj=>hI.2 j (by omega),hw];rfl))
theorem amF (t:TabP)(l:List WayP):PC Tryz.prog 188 [bR t,kZ l] (vb (yO t l)):=by
 refine FB 6 57 Tryz.func188 ?_;refine dM (t:=1) (x:=kZ l) rfl eR fun hx=>?_;refine G ?_;refine bM (ι:=Nat) (fun k=>⟨[(2,.ptr (bR t)),(5,vi (qS l k)),(8,kZ l),(9,vi l.length),(10,vi k)],[(0,.unborn)]⟩) (fun k=>k≤l.length∧∀ j,j<k→(!uV t (qS l j) (l.getD j dD))=true) (fun k=>l.length-k) 0 (⟨Nat.zero_le _,qF⟩) (Le.sub (by repeat (first|trivial|refine ⟨.inr rfl,?_⟩|refine ⟨.inr (aR (by omega)),?_⟩)) (by repeat (first|trivial|refine ⟨rfl,?_⟩))) ?_;intro k hI;refine Gd (fun hb=>?_) fun hb=>?_
 ·have hlt:k<l.length:=by have h0:=of_decide_eq_true hb;omega
  refine G ?_;refine Z4 (fun hC=>ca (aU3 t _)) ?_;refine G ?_;refine Z4 (fun hC=>ca (aFO t _)) ?_;refine G ?_;refine Z4 (fun hC=>ca (aBQ t _)) ?_;refine Gd (fun hb=>?_) fun hb=>?_
  ·refine G ?_;exact Rx rfl (bP (by unfold yO;rw [nD (p:=fun j=>!uV t (qS l j) (l.getD j dD)) hlt (by rw [show uV t (qS l k) (l.getD k dD)=true from hb];rfl)]))
  refine G ?_;exact ⟨k+1,⟨by omega,mC (p:=fun j=>!uV t (qS l j) (l.getD j dD)) hI.2 (by rw [show uV t (qS l k) (l.getD k dD)=false from hb];rfl)⟩,by omega,Le.reset [0] (by simp) (by repeat (first|trivial|refine ⟨.inr rfl,?_⟩|refine ⟨.inr (aR (by omega)),?_⟩)) (nJ (by simp only [pS,bE,aN,and_self,dG,dY,cP,bV,dZ,eA,eC,eD,eE,eF,eG,eH,eI,eJ])) (by simp [lK])⟩
 have hge:k=l.length:=by have h0:=of_decide_eq_false hb;omega
 refine G ?_;exact Rx rfl (bP (by unfold yO;rw [sP (p:=fun j=>!uV t (qS l j) (l.getD j dD)) fun j hj=>hI.2 j (by omega)]))
theorem amG (t:TabP)(hfl:0≤t.flags)(x:ThingP)(hx:x.wf):PC Tryz.prog 127 [bR t,iT x] (vb (sA t x)):=by
 refine FB 6 79 Tryz.func127 ?_;refine G ?_;refine Z1 (ca (aBQ t _)) ?_;refine G ?_;refine Z4 (fun hC=>ca (aBQ t _)) ?_;refine G ?_;refine Zg rfl rfl rfl eV (fun hC=>aPX rfl rfl rfl (by omega)) trivial ?_;refine G ?_;refine Zg rfl rfl rfl eV (fun hC=>jP rfl (by kernel_rfl) (xW x.props 124 [] pW (by kernel_rfl) trivial fun z hz=>aLR z) rfl (by simp only [bE,aN,and_self,dG,dY,cP,bV,dZ,eA,eC,eD,eE,eF,eG,eH,eI,eJ]) (by simp only [bE,aN,and_self,dG,dY,cP,bV,dZ,eA,eC,eD,eE,eF,eG,eH,eI,eJ])) trivial ?_;refine C (aIW x.words hx.1 8) ?_;refine C (aIW x.adjs hx.2 8) ?_
 refine cd (fun hb=>?_) fun hb=>?_
 ·have hw:aE5 t x=true:=hb;refine G ?_;exact Rx rfl (bP (by unfold sA;rw [hw];rfl))
 have hw:aE5 t x=false:=hb;refine Gd (fun hb=>?_) fun hb=>?_
 ·refine G ?_;refine Z4 (fun hC=>ca (amF t _)) ?_;refine G ?_;exact Rx rfl (bP (by unfold sA;rw [hw,hb];rfl))
 refine G ?_;refine Z4 (fun hC=>ca (aLS t _)) ?_;refine G ?_;exact Rx rfl (bP (by unfold sA;rw [hw,hb];rfl))
theorem aU6 (K:Nat)(caps:List Av)(f:Int→Int)(V:Int→Prop)(n most:Int)(hm:0≤most)(hm':most≤9223372036854775807)(hK:dN Tryz.prog K=true)(hpc:bE caps)(hV:V n)(hcl:∀ m,V m→f m≠0→V (f m))(hp:∀ m,V m→PC Tryz.prog K ([vi m]++caps) (vi (f m))):PC Tryz.prog 128 [.clo K caps,vi n,vi most] (vi (nZ f most.toNat n)):=by
 refine FB 6 19 Tryz.func128 ?_;refine G ?_;refine LP (ι:=Nat) (fun k=>[(1,vi (vD f k n)),(9,vi k)]) (fun _=>[]) (fun k=>k≤most.toNat∧V (vD f k n)∧nZ f most.toNat n=nZ f (most.toNat-k) (vD f k n)) (fun k=>most.toNat-k) 0 (⟨Nat.zero_le _,hV,rfl⟩) (hl:=(Le.sub (by repeat (first|trivial|refine ⟨.inr rfl,?_⟩|refine ⟨.inr (aR (by omega)),?_⟩)) (by repeat (first|trivial|refine ⟨rfl,?_⟩)))) ?_;intro k hI;refine Gd (fun hb=>?_) fun hb=>?_
 ·have hlt:k<most.toNat:=by simp at hb;omega
  refine G ?_;refine Z1 (kW (f:=K) (caps:=caps) rfl rfl hK (hp _ hI.2.1) rfl ⟨trivial,hpc⟩ trivial) ?_;refine Gd (fun hb=>?_) fun hb=>?_
  ·refine G ?_;have hs:=aUZ hlt hI.2.2;rw [if_pos (by simpa using hb)] at hs;exact Rx rfl (aR hs.symm)
  refine G ?_;have hs:=aUZ hlt hI.2.2;rw [if_neg (by simpa using hb)] at hs;exact ⟨k+1,⟨by omega,hcl _ hI.2.1 (by simpa using hb),hs⟩,by omega,Le.sub (by repeat (first|trivial|refine ⟨.inr rfl,?_⟩|refine ⟨.inr (aR (by omega)),?_⟩)) (by repeat (first|trivial|refine ⟨rfl,?_⟩))⟩
 have hge:k=most.toNat:=by simp at hb;omega
 refine G ?_;exact Rx rfl (aR (by rw [hI.2.2,hge,Nat.sub_self];rfl))
theorem aU7 (t:TabP)(n:Int)(hn:qV t n=true):PC Tryz.prog 126 [vi n,.ptr (bR t)] (vi (qW t n)):=by
 refine FB 6 10 Tryz.func126 ?_;refine dM (t:=1) (x:=.ptr (bR t)) rfl (fun E v h=>by unfold aA at h;obtain ⟨b,o,u,_,_,h,_⟩:=h;exact qO t E u h) fun hf=>?_;have hf1:=hf.params;have hf2:=hf.texts;have hf3:=hf.things;have hf4:=hf.acts;have hf5:=hf.locals;have hf6:=hf.deeds;have hf7:=hf.funcs;have hf8:=hf.daemons;have h1:=gH.1 (show among n 1 _=true from hn);refine G ?_;exact Rx rfl rfl
end Go.Proofs.YtgajclaoaphgoaaGreatDoor
