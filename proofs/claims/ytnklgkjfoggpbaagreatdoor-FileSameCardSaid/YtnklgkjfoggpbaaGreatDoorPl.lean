/- Parts of the proof of a law of this seat: rules and contracts; no conditions. -/
import Derived.Test.YtnklgkjfoggpbaaGreatDoorWireSpec
import Derived.Test.YtnklgkjfoggpbaaGreatDoorPi
set_option maxHeartbeats 6400000
set_option maxRecDepth 100000
set_option linter.unusedVariables false
set_option linter.unusedSimpArgs false
namespace Go.Proofs.YtnklgkjfoggpbaaGreatDoor
theorem ahU (l m:List Int):bC (l++m)=bC l++bC m:=by simp [bC]
theorem aSY (s:ByteArray)(ab:List ByteArray):jO ab (bL s ab)=tB s:=by
 unfold bL
 rw [aHE _ _ _ _ (by omega) (Nat.le_refl _) (Nat.zero_le _)]
 rfl
theorem aSZ (s:ByteArray)(ab:List ByteArray):∀ p∈bL s ab,pH ab p=false:=aCX (s:=s) (ab:=ab) (s.size+1) 0 0 [] (fun p hp=>by simp at hp)
theorem xS (l:List Int):cN l=true↔l.length≤1024∧∀ c∈l,eZ c=true:=by
 unfold cN
 simp only [Bool.and_eq_true,List.all_eq_true,decide_eq_true_eq]
theorem ahV {l m:List Int}(h:cN m=true)(hs:∀ c∈l,c∈m)(hl:l.length≤m.length):cN l=true:=by
 rw [xS] at h ⊢
 exact ⟨by omega,fun c hc=>h.2 c (hs c hc)⟩
theorem aE7 {s:ByteArray}{ab:List ByteArray}(h:cN (tB s)=true){p:bX}(hp:p∈bL s ab)(h0:¬ p.2>0):cN (tB p.1)=true:=by
 have hj:=aSY s ab
 have ht:mO ab p=p.1:=by unfold mO;rw [if_neg h0]
 refine ahV h (fun c hc=>?_) ?_
 ·rw [←hj]
  unfold jO
  exact List.mem_flatMap.2 ⟨p,hp,by rw [ht];exact hc⟩
 ·rw [←hj]
  unfold jO
  obtain ⟨a,b,e⟩:=List.append_of_mem hp
  rw [e,List.flatMap_append,List.flatMap_cons,List.length_append,List.length_append,ht]
  omega
theorem aS0 (l:List bX):∀ k,k≤l.length→gJ l k=(l.take k).flatMap iM
 | 0,_=>by simp [gJ]
 | k+1,hk=>by
  rw [aKN,aS0 l k (by omega),List.take_succ_eq_append_getElem (by omega),List.flatMap_append]
  simp [List.getD,List.getElem?_eq_getElem (show k<l.length by omega)]
theorem aE8 (s:ByteArray)(ab:List ByteArray):gT s ab=(bL s ab).flatMap iM:=by
 unfold gT
 rw [aS0 _ _ (Nat.le_refl _),List.take_length]
theorem aKR {p:bX}(h0:¬ p.2>0)(h:cN (tB p.1)=true):iM p=bC (tB p.1):=by
 unfold iM jF
 rw [if_neg h0,if_pos h]
theorem aS1:∀ l:List Int,((bC l).length:Int)=rK l
 | []=>rfl
 | c::l=>by
  have h:=aS1 l
  show ((cS c++bC l).length:Int)=_
  rw [List.length_append]
  unfold rK at h ⊢
  rw [List.map_cons,List.sum_cons,←h]
  omega
theorem ahW {s:ByteArray}{ab:List ByteArray}(h:cN (tB s)=true){p:bX}(hp:p∈bL s ab):((iM p).length:Int)=qE p:=by
 by_cases h0:p.2>0
 ·unfold iM qE
  rw [if_pos h0,if_pos h0]
  rfl
 ·rw [aKR h0 (aE7 h hp h0),aS1]
  unfold qE
  rw [if_neg h0,zS]
theorem ahX {l:List bX}(h:∀ p∈l,((iM p).length:Int)=qE p):((l.flatMap iM).length:Int)=mD l:=by
 induction l with
 | nil=>rfl
 | cons p l ih=>
  have h1:=h p (List.mem_cons_self ..)
  have h2:=ih fun q hq=>h q (List.mem_cons_of_mem _ hq)
  rw [List.flatMap_cons,List.length_append]
  unfold mD at h2 ⊢
  rw [List.map_cons,List.sum_cons,←h1,←h2]
  omega
theorem acH {s:ByteArray}(ab:List ByteArray)(h:cN (tB s)=true):((gT s ab).length:Int)=sO (bL s ab) (bL s ab).length∧((gT s ab).length:Int)≤fB s:=by
 have e:((gT s ab).length:Int)=sO (bL s ab) (bL s ab).length:=by
  rw [aE8,ahX fun p hp=>ahW h hp,aOL]
 refine ⟨e,?_⟩
 rw [e,aY9]
 exact aZB s ab
theorem ahY (c:Int)(h:eZ c=true):∀ x∈cS c,0≤x∧x<31:=by
 have hs:∀ k,oC c=some k→k<31:=fun k hk=>by
  unfold oC at hk
  have:=List.findIdx?_eq_some_iff_getElem.1 hk
  obtain ⟨h1,_⟩:=this
  exact h1
 have hc:10≤c∧c≤126:=by
  unfold eZ at h
  simp only [Bool.or_eq_true,Bool.and_eq_true,decide_eq_true_eq,beq_iff_eq] at h
  omega
 intro x hx
 unfold cS at hx
 split at hx
 ·simp at hx;omega
 ·split at hx
  ·simp at hx;omega
  ·split at hx
   ·simp at hx;omega
   ·split at hx
    ·rename_i k hk
     have:=hs k hk
     simp at hx
     omega
    ·split at hx
     ·simp at hx
     ·simp at hx;omega
theorem ahZ {l:List Int}(h:∀ c∈l,eZ c=true):∀ x∈bC l,0≤x∧x<31:=fun x hx=>by
 obtain ⟨c,hc,hm⟩:=List.mem_flatMap.1 hx
 exact ahY c (h c hc) x hm
theorem ah0 {s:ByteArray}{ab:List ByteArray}(h:cN (tB s)=true)(ha:ab.length≤31):∀ x∈gT s ab,0≤x∧x<31:=by
 rw [aE8]
 intro x hx
 obtain ⟨p,hp,hm⟩:=List.mem_flatMap.1 hx
 have hg:=aSZ s ab p hp
 unfold pH at hg
 simp only [Bool.or_eq_false_iff,decide_eq_false_iff_not] at hg
 by_cases h0:p.2>0
 ·unfold iM at hm
  rw [if_pos h0] at hm
  simp at hm
  omega
 ·rw [aKR h0 (aE7 h hp h0)] at hm
  exact ahZ (pA (aE7 h hp h0)) x hm
theorem aS2 (c:Int)(h:eZ c=true):(cS c).getD 0 0≠30∧eS ((cS c).getD 0 0)=(cS c).length:=by
 have hc:10≤c∧c≤126:=by
  unfold eZ at h
  simp only [Bool.or_eq_true,Bool.and_eq_true,decide_eq_true_eq,beq_iff_eq] at h
  omega
 unfold cS
 split
 ·decide
 ·split
  ·rename_i h1
   refine ⟨by simp;omega,?_⟩
   unfold eS
   simp
   rw [if_neg (by omega),if_neg (by omega)]
  ·split
   ·exact ⟨by simp,rfl⟩
   ·split
    ·exact ⟨by simp,rfl⟩
    ·split
     ·rename_i hn h1
      have hc2:c=10:=by unfold eZ at h;simp only [decide_eq_true_eq] at h;omega
      subst hc2
      exact absurd hn (by decide)
     ·exact ⟨by simp,rfl⟩
theorem aS3 (rest:List Int):∀ (t:List Int) (pre:List Int) (f:Nat),(∀ c∈t,eZ c=true)→(bC t).length<f→tY (pre++(bC t++rest)) f pre.length=tY (pre++(bC t++rest)) (f-t.length) (pre.length+(bC t).length)
 | [],pre,f,_,_=>by simp [bC]
 | c::t,pre,f,h,hf=>by
  have hc:=h c (List.mem_cons_self ..)
  obtain ⟨h1,h2⟩:=aS2 c hc
  have h3:=rF c hc
  have e:bC (c::t)=cS c++bC t:=rfl
  rw [e,List.length_append] at hf
  obtain ⟨f,rfl⟩:∃ g,f=g+1:=⟨f-1,by omega⟩
  have hg:(pre++(bC (c::t)++rest)).getD pre.length 0=(cS c).getD 0 0:=by
   rw [e,List.getD,List.getD,List.getElem?_append_right (Nat.le_refl _),Nat.sub_self,List.append_assoc,List.getElem?_append_left h3]
  have hn:pre.length<(pre++(bC (c::t)++rest)).length:=by rw [e];simp only [List.length_append];omega
  have ih:=aS3 rest t (pre++cS c) f (fun x hx=>h x (List.mem_cons_of_mem _ hx)) (by omega)
  have e2:pre++cS c++(bC t++rest)=pre++(bC (c::t)++rest):=by rw [e];simp only [List.append_assoc]
  rw [e2,List.length_append] at ih
  show (if _ then _ else _)=_
  rw [if_pos ⟨hn,by rw [hg];exact h1⟩,hg,h2,ih,e,List.length_append,List.length_cons,Nat.add_sub_add_right]
  congr 1
  omega
theorem aKS {t:List Int}(h:∀ c∈t,eZ c=true):t.length≤(bC t).length:=aKE t h
theorem ah1 {t rest:List Int}(h:∀ c∈t,eZ c=true)(hr:rest.length=0∨rest.getD 0 0=30):nF (bC t++rest)=(bC t).length:=by
 have h1:=aS3 rest t [] ((bC t++rest).length+1) h (by rw [List.length_append];omega)
 simp only [List.nil_append,List.length_nil,Nat.zero_add] at h1
 refine aHG h1 ?_
 rintro ⟨h2,h3⟩
 rcases hr with hr|hr
 ·rw [List.length_append] at h2;omega
 ·refine h3 ?_
  rw [List.getD,List.getElem?_append_right (Nat.le_refl _),Nat.sub_self]
  exact hr
theorem aS4 {ab:List ByteArray}{g:Nat}{t rest:List Int}{out:ByteArray}(h:cN t=true)(h0:t≠[])(hr:rest.length=0∨rest.getD 0 0=30):saidF ab (g+1) (bC t++rest) out=saidF ab g rest (out++strOfNums t):=by
 have hok:=pA h
 have hpos:0<(bC t).length:=by
  have:=aKS hok
  have:=List.length_pos_iff.2 h0
  omega
 obtain ⟨c,t',rfl⟩:∃ c t',t=c::t':=by
  cases t with
  | nil=>exact absurd rfl h0
  | cons c t'=>exact ⟨c,t',rfl⟩
 have hh:=aS2 c (hok c (List.mem_cons_self ..))
 have hg:(bC (c::t')++rest).getD 0 0≠30:=by
  have h3:=rF c (hok c (List.mem_cons_self ..))
  rw [show bC (c::t')=cS c++bC t' from rfl,List.append_assoc,List.getD,List.getElem?_append_left h3]
  exact hh.1
 have hn:=ah1 hok hr
 rw [tZ (by rw [List.length_append];omega),if_neg hg,hn,if_neg (by rw [List.length_append];omega),List.take_left,List.drop_left,zT h rfl,if_neg (fun hc=>hc rfl)]
theorem aKT {ab:List ByteArray}(hab:ab.length≤32):∀ (l:List bX) (t:List Int) (g:Nat) (out:ByteArray),(∀ p∈l,pH ab p=false)→(∀ p∈l,¬ p.2>0→cN (tB p.1)=true)→t.length+(l.flatMap fun p=>if p.2>0 then [] else tB p.1).length≤1024→(∀ c∈t,eZ c=true)→(bC t++l.flatMap iM).length<g→saidF ab g (bC t++l.flatMap iM) out=(out++strOfNums t++strOfNums (jO ab l),0)
 | [],t,g,out,_,_,hl,ht,hg=>by
  simp only [List.flatMap_nil,List.append_nil,List.length_nil,Nat.add_zero] at hl hg ⊢
  rw [show jO ab []=[] from rfl,vU]
  by_cases h0:t=[]
  ·subst h0
   rw [show bC []=[] from rfl,aC1 (by simp) (by omega),vU]
  ·obtain ⟨g,rfl⟩:∃ g',g=g'+1:=⟨g-1,by omega⟩
   have:=aS4 (ab:=ab) (g:=g) (t:=t) (rest:=[]) (out:=out) (by rw [xS];exact ⟨hl,ht⟩) h0 (.inl rfl)
   rw [List.append_nil] at this
   have h3:=aKS ht
   have h4:=List.length_pos_iff.2 h0
   rw [this,aC1 (by simp) (by omega)]
 | p::l,t,g,out,hb,hx,hl,ht,hg=>by
  have hb':∀ q∈l,pH ab q=false:=fun q hq=>hb q (List.mem_cons_of_mem _ hq)
  have hx':∀ q∈l,¬ q.2>0→cN (tB q.1)=true:=fun q hq=>hx q (List.mem_cons_of_mem _ hq)
  have hj:jO ab (p::l)=tB (mO ab p)++jO ab l:=rfl
  rw [List.flatMap_cons] at hl hg ⊢
  by_cases h0:p.2>0
  ·have hpb:=hb p (List.mem_cons_self ..)
   unfold pH at hpb
   simp only [Bool.or_eq_false_iff,decide_eq_false_iff_not] at hpb
   have hpc:iM p=[30,p.2-1]:=by unfold iM;rw [if_pos h0]
   have htx:mO ab p=ab.getD (p.2-1).toNat ByteArray.empty:=by unfold mO;rw [if_pos h0]
   rw [if_pos h0,List.nil_append] at hl
   rw [hpc] at hg ⊢
   have two:∀ (g:Nat) (o:ByteArray),(l.flatMap iM).length+2<g→saidF ab g ([30,p.2-1]++l.flatMap iM) o=(o++strOfNums (jO ab (p::l)),0):=fun g o hg2=>by
    obtain ⟨g,rfl⟩:∃ g',g=g'+1:=⟨g-1,by omega⟩
    have ih:=aKT hab l [] g (o++ab.getD (p.2-1).toNat ByteArray.empty) hb' hx' (by simpa using (by omega:(l.flatMap fun p=>if p.2>0 then [] else tB p.1).length≤1024)) (fun c hc=>by cases hc) (by rw [show bC []=[] from rfl,List.nil_append];omega)
    rw [show bC []=[] from rfl,List.nil_append,vU] at ih
    rw [tZ (by simp),if_pos (by rfl),if_neg (by simp),show ([30,p.2-1]++l.flatMap iM).getD 1 0=p.2-1 from rfl,if_neg (by omega),show ([30,p.2-1]++l.flatMap iM).drop 2=l.flatMap iM from rfl,ih,hj,htx]
    refine Prod.ext (oF ?_) rfl
    simp only [aKU]
    rw [List.append_assoc]
    congr 1
    rw [←aKV (ab.getD (p.2-1).toNat ByteArray.empty)]
    have hbt:dC (jO ab l):=fun c hc=>by
     obtain ⟨q,_,hq⟩:=List.mem_flatMap.1 hc
     exact yQ _ c hq
    rw [pJ hbt,aKV,pJ ((yQ _).append hbt)]
   by_cases ht0:t=[]
   ·subst ht0
    rw [show bC []=[] from rfl,List.nil_append] at hg ⊢
    rw [two g out (by simp only [List.length_append,List.length_cons,List.length_nil] at hg;omega),vU]
   ·obtain ⟨g,rfl⟩:∃ g',g=g'+1:=⟨g-1,by omega⟩
    have h3:=aKS ht
    have h4:=List.length_pos_iff.2 ht0
    rw [aS4 (by rw [xS];exact ⟨by omega,ht⟩) ht0 (.inr rfl),two g _ (by simp only [List.length_append,List.length_cons,List.length_nil] at hg;omega)]
  ·have hpt:=hx p (List.mem_cons_self ..) h0
   have htx:mO ab p=p.1:=by unfold mO;rw [if_neg h0]
   rw [if_neg h0,List.length_append] at hl
   rw [aKR h0 hpt] at hg ⊢
   rw [←List.append_assoc,←ahU] at hg ⊢
   have hok:∀ c∈t++tB p.1,eZ c=true:=fun c hc=>by
    rcases List.mem_append.1 hc with h|h
    ·exact ht c h
    ·exact pA hpt c h
   rw [aKT hab l (t++tB p.1) g out hb' hx' (by rw [List.length_append];omega) hok hg,hj,htx]
   refine Prod.ext (oF ?_) rfl
   have hbt:dC (jO ab l):=fun c hc=>by
    obtain ⟨q,_,hq⟩:=List.mem_flatMap.1 hc
    exact yQ _ c hq
   have htb:dC t:=ag8 ht
   simp only [aKU]
   rw [pJ (htb.append (yQ _)),pJ hbt,pJ htb,pJ ((yQ _).append hbt)]
   simp only [List.append_assoc]
theorem ah2 {ab:List ByteArray}(l:List bX):(l.flatMap fun p=>if p.2>0 then [] else tB p.1).length≤(jO ab l).length:=by
 induction l with
 | nil=>exact Nat.le_refl _
 | cons p l ih=>
  rw [List.flatMap_cons,show jO ab (p::l)=tB (mO ab p)++jO ab l from rfl,List.length_append,List.length_append]
  by_cases h0:p.2>0
  ·rw [if_pos h0,List.length_nil];omega
  ·rw [if_neg h0,show mO ab p=p.1 from by unfold mO;rw [if_neg h0]];omega
theorem ah3 {s:ByteArray}{ab:List ByteArray}(h:cN (tB s)=true)(ha:ab.length≤31):unpackedP (gT s ab) ab=(s,0):=by
 have hj:=aSY s ab
 have hfl:=ah2 (ab:=ab) (bL s ab)
 rw [hj] at hfl
 have hlen:=((xS _).1 h).1
 have:=aKT (ab:=ab) (by omega) (bL s ab) [] ((gT s ab).length+1) ByteArray.empty (aSZ s ab) (fun p hp h0=>aE7 h hp h0) (by simp only [List.length_nil];omega) (fun c hc=>by cases hc) (by rw [show bC []=[] from rfl,List.nil_append,←aE8];omega)
 rw [show bC []=[] from rfl,List.nil_append,←aE8,vU,hj,aKV] at this
 have he:ByteArray.empty++s=s:=oF (by rw [aKU];rfl)
 rw [he] at this
 rw [aZE]
 unfold saidP tW
 rw [this,if_neg (fun hc=>hc rfl),if_pos h]
end Go.Proofs.YtnklgkjfoggpbaaGreatDoor
