/- Parts of the proof of a law of this seat: rules and contracts; no conditions. -/
import Derived.Test.YtnklgkjfoggpbaaGreatDoorLt
import Derived.Test.YtnklgkjfoggpbaaGreatDoorWireSpec
import Derived.Test.YtnklgkjfoggpbaaGreatDoorPl
import Derived.Test.YtnklgkjfoggpbaaGreatDoorProg
import Derived.KernelRfl
set_option maxHeartbeats 6400000
set_option maxRecDepth 100000
set_option linter.unusedVariables false
set_option linter.unusedSimpArgs false
namespace Go.Proofs.YtnklgkjfoggpbaaGreatDoor
open Go.RowKit
def bT (ab l:List ByteArray):Nat→List Int × List Int
 | 0=>([],[])
 | k+1=>((bT ab l k).1++[((bT ab l k).2.length:Int)],(bT ab l k).2++fW (gT (l.getD k ByteArray.empty) ab))
def aII (l:List ByteArray):Bool:=(List.range l.length).all fun k=>cN (tB (l.getD k ByteArray.empty))
noncomputable def makeP (l:List ByteArray):PoolP × Int:=
 if (l.length:Int)>4096 then (aAE,7) else if aII l=true then (⟨chooseP l 31,(bT (chooseP l 31) l l.length).1,(bT (chooseP l 31) l l.length).2⟩,0) else (aAE,13)
theorem acE {l:List ByteArray}(h:(l.length:Int)>4096):makeP l=(aAE,7):=by unfold makeP;rw [if_pos h]
theorem acF {l:List ByteArray}{k:Nat}(h:¬ (l.length:Int)>4096)(hk:k<l.length)(ht:¬ cN (tB (l.getD k ByteArray.empty))=true):makeP l=(aAE,13):=by
 unfold makeP
 rw [if_neg h,if_neg]
 intro ha
 unfold aII at ha
 rw [nD (p:=fun k=>cN (tB (l.getD k ByteArray.empty))) hk (by simpa using ht)] at ha
 cases ha
theorem aAF {l:List ByteArray}(h:¬ (l.length:Int)>4096)(ht:∀ j,j<l.length→cN (tB (l.getD j ByteArray.empty))=true):makeP l=(⟨chooseP l 31,(bT (chooseP l 31) l l.length).1,(bT (chooseP l 31) l l.length).2⟩,0):=by
 unfold makeP
 rw [if_neg h,if_pos (show aII l=true from sP (p:=fun k=>cN (tB (l.getD k ByteArray.empty))) ht)]
theorem aIJ {p q:PoolP × Int}(h:p=q):Av.tup [kO p.1,vi p.2]=.tup [kO q.1,vi q.2]:=by rw [h]
theorem aP6 (E:Env)(v:Value)(h:aA E (.agg [.val (.slice none 0 0),.val (.slice none 0 0),.val (.slice none 0 0)]) v):aA E (kO aAE) v:=aAG (ys:=[bB [],aK [],bs []]) h rfl fun E i x y hx hy v h=>by
 rcases i with _|_|_|i<;>simp at hx hy<;>subst hx<;>subst hy<;>exact uA (by decide) E v h
def bw (n:Int):Av:=.val (.int .u8 n)
theorem aIK (l:List Int):∀ j,j<l.length→eQ (bv l j) 1=true∧∀ i y,i<1→(l.map bw)[j*1+i]?=some y→(cL (bv l j))[i]?=some y:=aCM (fun j y hy=>by
 rw [List.getElem?_map] at hy
 cases h:l[j]? with
 | none=>rw [h] at hy;cases hy
 | some z=>rw [h] at hy;simp at hy;subst hy;simp [bv,bw,List.getD,h]) (fun j hj=>⟨rfl,rfl⟩)
theorem aDP (l:List Int):∀ j,j<l.length→(l.map bw)[j]?=some (bv l j)∧sJ (bv l j)=true:=fun j hj=>⟨by simp [hj,bw,bv],rfl⟩
theorem aP7 (π:Nat→Nat)(l:List Int):(l.map bw).map (Av.ren π)=l.map bw:=by rw [List.map_map];rfl
theorem acG {Z:List Nat}(l:List Int):∀ z∈l.map bw,aE Z z:=fun z hz=>by
 obtain ⟨x,_,rfl⟩:=List.mem_map.1 hz
 exact aE.of_pure _ (by simp [aN,bw])
theorem aIL {s:ByteArray}(ab:List ByteArray)(h:cN (tB s)=true):s.size≤1024∧(gT s ab).length≤3072∧(fW (gT s ab)).length≤1922:=by
 have h1:=((xS _).1 h).1
 rw [fK] at h1
 have h2:=(acH ab h).2
 have h3:fB s≤3*(s.size:Int):=(zJ s s.size).2
 have h4:=aML (gT s ab)
 omega
theorem uH {ab l:List ByteArray}:∀ k,(∀ j,j<k→cN (tB (l.getD j ByteArray.empty))=true)→(bT ab l k).1.length=k∧(bT ab l k).2.length≤1922*k
 | 0,_=>⟨rfl,Nat.zero_le _⟩
 | k+1,h=>by
  have h1:=uH (ab:=ab) (l:=l) k fun j hj=>h j (by omega)
  have h2:=(aIL ab (h k (by omega))).2.2
  show ((bT ab l k).1++_).length=_∧((bT ab l k).2++_).length≤_
  rw [List.length_append,List.length_append]
  simp only [List.length_cons,List.length_nil]
  omega
theorem aDQ {l:List ByteArray}(h:wt l≤5000000):(∀ k,((chooseP l 31).getD k ByteArray.empty).size≤8)∧(chooseP l 31).length≤31:=by
 refine ⟨fun k=>?_,?_⟩
 ·rcases Nat.lt_or_ge k (chooseP l 31).length with h1|h1
  ·exact (aVW h 31 _ (by rw [List.getD,List.getElem?_eq_getElem h1];exact List.getElem_mem h1)).2
  ·rw [List.getD,List.getElem?_eq_none h1];exact Nat.zero_le _
 ·have:=(aVV h 31).1
  omega
noncomputable def rightP (p:PoolP):Bool:=decide ((allP p).2=0)&&(decide ((makeP (allP p).1).2=0)&&aZQ p (makeP (allP p).1).1)
theorem aP8 (l:List ByteArray)(hl:wt l≤5000000):PC Tryz.prog 10 [bB l] (.tup [kO (makeP l).1,vi (makeP l).2]):=by
 obtain ⟨hcs,hcn⟩:=aDQ hl
 have hll:=aCL l
 have hls:=aGW l
 refine FC.body 6 52 Tryz.func10 rfl (by kernel_rfl) ?_
 refine sq ?_
 refine Z2 (al 0 [.slice none 0 0,.slice none 0 0,.slice none 0 0]) ?_
 refine Z1 aB ?_
 refine cn ?_
 refine aD ?_
 refine sq ?_
 refine Z1 mo ?_
 refine Z1 ln ?_
 refine Z1 bz ?_
 refine cn ?_
 refine cd (fun hb=>?_) fun hb=>?_
 ·have hmany:(l.length:Int)>4096:=of_decide_eq_true hb
  refine sq ?_
  refine Z1 (bd [(0,1),(1,1),(2,1)] [.slice none 0 0,.slice none 0 0,.slice none 0 0] [.val _,.val _,.val _]) ?_
  refine bW [_,_,_] ?_
  refine Z1 aB ?_
  refine cn ?_
  refine aP ?_
  exact ⟨.inl rfl,by rw [aIJ (acE hmany)];exact aF.two rfl ((aT.row rfl rfl (by kernel_rfl) (by kernel_rfl) (Nat.le_of_ble_eq_true rfl)).to aP6) (aT.tmp rfl),trivial⟩
 ·have hmany:¬ (l.length:Int)>4096:=of_decide_eq_false hb
  refine aQ ?_
  refine aD ?_
  refine sq ?_
  refine Z1 mo ?_
  refine Z1 ln ?_
  refine Z1 mo ?_
  refine cn ?_
  refine aU ?_
  refine bM (ι:=Nat) (fun k=>⟨[(0,bB l),(2,.own 0 0),(13,bB l),(14,vi (l.length:Int)),(15,vi k)],[(0,.live 41 [.val (.slice none 0 0),.val (.slice none 0 0),.val (.slice none 0 0)]),(1,.unborn),(2,.unborn),(3,.unborn),(4,.unborn),(5,.unborn)]⟩) (fun k=>k≤l.length∧∀ j,j<k→cN (tB (l.getD j ByteArray.empty))=true) (fun k=>l.length-k) 0 (⟨Nat.zero_le _,fun j hj=>absurd hj (by omega)⟩) (Le.sub (by repeat (first|exact trivial|refine ⟨.inr rfl,?_⟩|refine ⟨.inr (aR (by omega)),?_⟩)) (by repeat (first|exact trivial|refine ⟨rfl,?_⟩))) ?_
  intro k hI
  refine sq ?_
  refine Z1 bz ?_
  refine cn ?_
  refine aD ?_
  refine cd (fun hb=>?_) fun hb=>?_
  ·have hlt:k<l.length:=by have h0:=of_decide_eq_true hb;omega
   have hsz:(l.getD k ByteArray.empty).size≤5000000:=by have:(l.getD k ByteArray.empty).size≤wt l:=hls k;omega
   refine aQ ?_
   refine aD ?_
   refine aU ?_
   refine sq ?_
   refine Z1 ia ?_
   refine Z1 ld ?_
   refine Z1 aB ?_
   refine cn ?_
   refine sq ?_
   refine Z1 mo ?_
   refine Z1 (ca (aIM (l.getD k ByteArray.empty) (by omega))) ?_
   refine Z1 nt ?_
   refine cn ?_
   refine cd (fun hb=>?_) fun hb=>?_
   ·have htk:¬ cN (tB (l.getD k ByteArray.empty))=true:=by simpa using hb
    refine sq ?_
    refine Z1 (bd [(0,1),(1,1),(2,1)] [.slice none 0 0,.slice none 0 0,.slice none 0 0] [.val _,.val _,.val _]) ?_
    refine bW [_,_,_] ?_
    refine Z1 aB ?_
    refine cn ?_
    refine aP ?_
    exact ⟨.inl rfl,by rw [aIJ (acF hmany hlt htk)];exact aF.two rfl ((aT.row rfl rfl (by kernel_rfl) (by kernel_rfl) (Nat.le_of_ble_eq_true rfl)).to aP6) (aT.tmp rfl),trivial⟩
   ·have htk:cN (tB (l.getD k ByteArray.empty))=true:=by simpa using hb
    refine aQ ?_
    refine tx ?_
    refine Z1 ba ?_
    refine Z1 mo ?_
    refine cn ?_
    exact ⟨k+1,⟨by omega,aC3 (p:=fun j=>cN (tB (l.getD j ByteArray.empty))=true) hI.2 htk⟩,by omega,Le.sub (by repeat (first|exact trivial|refine ⟨.inr rfl,?_⟩|refine ⟨.inr (aR (by omega)),?_⟩)) (by repeat (first|exact trivial|refine ⟨rfl,?_⟩))⟩
  ·have hge:k=l.length:=by have h0:=of_decide_eq_false hb;omega
   have hat:∀ j,j<l.length→cN (tB (l.getD j ByteArray.empty))=true:=by rw [←hge];exact hI.2
   clear hI
   clear hge
   refine bU ?_
   refine sq ?_
   refine Z1 mo ?_
   refine Z1 (ca (aYS l hl 31)) ?_
   refine Z1 (bd [(0,1),(1,1),(2,1)] [.slice none 0 0,.slice none 0 0,.slice none 0 0] [.sl _ _ _,.val _,.val _]) ?_
   refine Z2 (al 1 [.slice none 0 0,.slice none 0 0,.slice none 0 0]) ?_
   refine bW [_,_,_] ?_
   refine cn ?_
   refine aD ?_
   refine sq ?_
   refine Z1 mo ?_
   refine Z1 ln ?_
   refine Z1 mo ?_
   refine cn ?_
   refine aU ?_
   refine bS (Le.nameNilCell 1 1 2 1 3 rfl rfl rfl (by decide)) ?_
   refine bS (Le.nameNilCell 1 2 3 1 5 rfl rfl rfl (by decide)) ?_
   refine bM (ι:=Nat) (fun k=>⟨[(0,bB l),(2,.own 0 0),(6,.own 1 0),(27,bB l),(28,vi (l.length:Int)),(29,vi k)],[(0,.live 41 [.val (.slice none 0 0),.val (.slice none 0 0),.val (.slice none 0 0)]),(1,.live 41 [bB (chooseP l 31),.osl 1 2 ((bT (chooseP l 31) l k).1.length),.osl 1 3 ((bT (chooseP l 31) l k).2.length)]),(2,.live 3 ((bT (chooseP l 31) l k).1.map vi)),(3,.live 5 ((bT (chooseP l 31) l k).2.map bw)),(4,.unborn),(5,.unborn)]⟩) (fun k=>k≤l.length) (fun k=>l.length-k) 0 (Nat.zero_le _) (Le.sub (by repeat (first|exact trivial|refine ⟨.inr rfl,?_⟩)) ⟨rfl,rfl,rfl,rfl,rfl,rfl,trivial⟩) ?_
   intro k hI
   refine sq ?_
   refine Z1 bz ?_
   refine cn ?_
   refine aD ?_
   refine cd (fun hb=>?_) fun hb=>?_
   ·have hlt:k<l.length:=by have h0:=of_decide_eq_true hb;omega
    have htk:=hat k hlt
    obtain ⟨hp1,hp2,hp3⟩:=aIL (chooseP l 31) htk
    have hmk:=uH (ab:=(chooseP l 31)) (l:=l) k fun j hj=>hat j (by omega)
    refine aQ ?_
    refine aD ?_
    refine aU ?_
    refine sq ?_
    refine Z1 ia ?_
    refine Z1 ld ?_
    refine Z1 aB ?_
    refine cn ?_
    refine sq ?_
    refine aS 1 1 false ?_
    refine bG ?_
    refine aS 2 1 false ?_
    refine bG ?_
    refine Z1 sT ?_
    refine Z1 (fO (ps:=[.tmp 37]) (xs:=[.val _]) (e:=3) (k:=1) (by_:=8) (zs:=[.int .i64 0]) rfl (by kernel_rfl) (by kernel_rfl) rfl rfl rfl (by decide) (by decide)) ?_
    refine aZ rfl rfl (iG (e:=3) (k:=1) (by_:=8) (zs:=[.int .i64 0]) (cs:=(bT (chooseP l 31) l k).1.map vi) (ds:=[vi ((bT (chooseP l 31) l k).2.length:Int)]) 4 rfl rfl rfl (by kernel_rfl) (by kernel_rfl) rfl (by decide) (by decide) (by simp) rfl (aP3 _) (by omega) (by omega)) ⟨rfl,rfl,trivial⟩ ?_
    refine aS 1 1 false ?_
    refine cF [_,_,_] ?_
    refine cn ?_
    refine dw ?_
    refine aS 2 1 false ?_
    refine bG ?_
    refine Z1 mo ?_
    refine aS 0 1 false ?_
    refine bG ?_
    refine Z1 (ca (acI (l.getD k ByteArray.empty) (chooseP l 31) (by omega) (fun k=>Nat.le_trans (hcs k) (by omega)) (by omega))) ?_
    refine Z1 (ca (acJ (gT (l.getD k ByteArray.empty) (chooseP l 31)) (by omega))) ?_
    refine aZ rfl rfl (iG (e:=5) (k:=1) (by_:=1) (zs:=[.int .u8 0]) (cs:=(bT (chooseP l 31) l k).2.map bw) (ds:=(fW (gT (l.getD k ByteArray.empty) (chooseP l 31))).map bw) 5 rfl rfl rfl (by kernel_rfl) (by kernel_rfl) rfl (by decide) (by decide) (by simp) (by simp) (aIK _) (by omega) (by omega)) ⟨rfl,rfl,trivial⟩ ?_
    refine aS 2 1 false ?_
    refine cF [_,_,_] ?_
    refine cn (dn ?_)
    refine tx ?_
    refine Z1 ba ?_
    refine Z1 mo ?_
    refine cn ?_
    exact ⟨k+1,by omega,by omega,Le.trans (Le.swap (τ:=⟨[(0,bB l),(2,.own 0 0),(6,.own 1 0),(27,bB l),(28,vi (l.length:Int)),(29,vi ((k:Int)+1))],[(0,.live 41 [.val (.slice none 0 0),.val (.slice none 0 0),.val (.slice none 0 0)]),(1,.live 41 [bB (chooseP l 31),.osl 1 2 ((bT (chooseP l 31) l k).1.length+1),.osl 1 5 ((bT (chooseP l 31) l k).2.length+(fW (gT (l.getD k ByteArray.empty) (chooseP l 31))).length)]),(2,.live 3 (((bT (chooseP l 31) l k).1++[((bT (chooseP l 31) l k).2.length:Int)]).map vi)),(3,.dead),(4,.dead),(5,.live 5 (((bT (chooseP l 31) l k).2++(fW (gT (l.getD k ByteArray.empty) (chooseP l 31)))).map bw))]⟩) 2 4 (by simp) (by simp) ⟨(iR _ _ (bV _)).symm,rfl,rfl,(iR _ _ (bV _)).symm,rfl,rfl,trivial⟩ ⟨rfl,by show aL _ 1=some (Hs.live _ [(bB (chooseP l 31)).ren _,Av.osl 1 4 _,Av.osl 1 5 _]);rw [iR _ _ (bV _)];rfl,by show aL _ 4=some (Hs.live _ ((((bT (chooseP l 31) l k).1++[((bT (chooseP l 31) l k).2.length:Int)]).map vi).map _));rw [aDR];simp only [List.map_append];rfl,rfl,rfl,by show aL _ 5=some (Hs.live _ ((((bT (chooseP l 31) l k).2++(fW (gT (l.getD k ByteArray.empty) (chooseP l 31)))).map bw).map _));rw [aP7];simp only [List.map_append];rfl,trivial⟩) (Le.trans (Le.swap (τ:=⟨[(0,bB l),(2,.own 0 0),(6,.own 1 0),(27,bB l),(28,vi (l.length:Int)),(29,vi ((k:Int)+1))],[(0,.live 41 [.val (.slice none 0 0),.val (.slice none 0 0),.val (.slice none 0 0)]),(1,.live 41 [bB (chooseP l 31),.osl 1 2 ((bT (chooseP l 31) l k).1.length+1),.osl 1 3 ((bT (chooseP l 31) l k).2.length+(fW (gT (l.getD k ByteArray.empty) (chooseP l 31))).length)]),(2,.live 3 (((bT (chooseP l 31) l k).1++[((bT (chooseP l 31) l k).2.length:Int)]).map vi)),(3,.live 5 (((bT (chooseP l 31) l k).2++(fW (gT (l.getD k ByteArray.empty) (chooseP l 31)))).map bw)),(4,.dead),(5,.dead)]⟩) 3 5 (by simp) (by simp) ⟨(iR _ _ (bV _)).symm,rfl,rfl,(iR _ _ (bV _)).symm,rfl,rfl,trivial⟩ ⟨rfl,by show aL _ 1=some (Hs.live _ [(bB (chooseP l 31)).ren _,Av.osl 1 2 _,Av.osl 1 5 _]);rw [iR _ _ (bV _)];rfl,by show aL _ 2=some (Hs.live _ ((((bT (chooseP l 31) l k).1++[((bT (chooseP l 31) l k).2.length:Int)]).map vi).map _));rw [aDR];simp only [List.map_append];rfl,by show aL _ 5=some (Hs.live _ ((((bT (chooseP l 31) l k).2++(fW (gT (l.getD k ByteArray.empty) (chooseP l 31)))).map bw).map _));rw [aP7];simp only [List.map_append];rfl,rfl,rfl,trivial⟩) (Le.trans (Le.reset (τ:=⟨[(0,bB l),(2,.own 0 0),(6,.own 1 0),(27,bB l),(28,vi (l.length:Int)),(29,vi ((k:Int)+1))],[(0,.live 41 [.val (.slice none 0 0),.val (.slice none 0 0),.val (.slice none 0 0)]),(1,.live 41 [bB (chooseP l 31),.osl 1 2 ((bT (chooseP l 31) l k).1.length+1),.osl 1 3 ((bT (chooseP l 31) l k).2.length+(fW (gT (l.getD k ByteArray.empty) (chooseP l 31))).length)]),(2,.live 3 (((bT (chooseP l 31) l k).1++[((bT (chooseP l 31) l k).2.length:Int)]).map vi)),(3,.live 5 (((bT (chooseP l 31) l k).2++(fW (gT (l.getD k ByteArray.empty) (chooseP l 31)))).map bw)),(4,.unborn),(5,.unborn)]⟩) [4,5] (by simp) ⟨.inr rfl,.inr rfl,.inr rfl,.inr rfl,.inr rfl,.inr rfl,trivial⟩ ⟨aE.of_pure _ (bV _),by simp [aE],by simp [aE],aE.of_pure _ (bV _),by simp [aE],by simp [aE],trivial⟩ ⟨by rw [if_neg (by decide)];exact ⟨rfl,by simp [aE]⟩,by rw [if_neg (by decide)];exact ⟨rfl,by intro z hz;simp only [List.mem_cons,List.not_mem_nil,or_false] at hz;rcases hz with rfl|rfl|rfl;exact aE.of_pure _ (bV _);simp [aE];simp [aE]⟩,by rw [if_neg (by decide)];exact ⟨rfl,uG _⟩,by rw [if_neg (by decide)];exact ⟨rfl,acG _⟩,by rw [if_pos (by decide)],by rw [if_pos (by decide)],trivial⟩) (Le.sub ⟨.inr rfl,.inr rfl,.inr rfl,.inr rfl,.inr rfl,.inr (aR (by show (k:Int)+1=((k+1:Nat):Int);omega)),trivial⟩ ⟨rfl,by show _=some (Hs.live _ [bB (chooseP l 31),Av.osl 1 2 ((bT (chooseP l 31) l k).1++[((bT (chooseP l 31) l k).2.length:Int)]).length,Av.osl 1 3 ((bT (chooseP l 31) l k).2++(fW (gT (l.getD k ByteArray.empty) (chooseP l 31)))).length]);rw [List.length_append,List.length_append];rfl,rfl,rfl,rfl,rfl,trivial⟩)))⟩
   ·have hge:k=l.length:=by have h0:=of_decide_eq_false hb;omega
    subst hge
    have hmk:=uH (ab:=(chooseP l 31)) (l:=l) l.length hat
    refine bU ?_
    refine aD ?_
    refine bS (Le.freezeCell 1 1 2 (fun j=>vi ((bT (chooseP l 31) l l.length).1.getD j 0)) rfl rfl rfl (by decide) (by simp) (zN _)) ?_
    refine bS (Le.freezeCell 1 2 3 (bv (bT (chooseP l 31) l l.length).2) rfl rfl rfl (by decide) (by simp) (aDP _)) ?_
    refine tx ?_
    refine dE 3 [_,_,_] ?_
    refine bW [_,_,_] ?_
    refine Z1 aB ?_
    refine cn ?_
    refine aP ?_
    exact ⟨.inl rfl,by rw [aIJ (aAF hmany hat)];exact aF.two rfl (aT.row rfl rfl (by kernel_rfl) (by kernel_rfl) (Nat.le_of_ble_eq_true rfl)) (aT.tmp rfl),trivial⟩
end Go.Proofs.YtnklgkjfoggpbaaGreatDoor
