/- Parts of the proof of a law of this seat: rules and contracts; no conditions. -/
import Derived.Test.YtgajclaoaphgoaaGreatDoorWireP
import Derived.Test.YtgajclaoaphgoaaGreatDoorBw
import Derived.Test.YtgajclaoaphgoaaGreatDoorVa
import Derived.Test.YtgajclaoaphgoaaGreatDoorProg
import Derived.KernelRfl
import Derived.Test.YtgajclaoaphgoaaGreatDoorMp
set_option maxHeartbeats 6400000
set_option maxRecDepth 100000
set_option linter.unusedVariables false
set_option linter.unusedSimpArgs false
namespace Go.Proofs.YtgajclaoaphgoaaGreatDoor
open Go.RowKit
def jO (ab:List ByteArray)(l:List bX):List Int:=l.flatMap fun p=>tB (mO ab p)
theorem aOS (ab:List ByteArray)(a b:List bX):jO ab (a++b)=jO ab a++jO ab b:=by unfold jO;simp
theorem aHD {s:ByteArray}{a b:Nat}(h:a≤b):tB (s.extract a b)++(tB s).drop b=(tB s).drop a:=by
 rw [lZ];have e:=List.take_append_drop b (tB s)
 conv=>rhs;rw [←e]
 by_cases hb:b≤(tB s).length
 ·rw [List.drop_append_of_le_length (by rw [List.length_take];omega)]
 rw [List.drop_of_length_le (l:=tB s) (i:=b) (by omega),List.append_nil,List.append_nil]
theorem aOT {s:ByteArray}{ab:List ByteArray}{fr i:Nat}{out:List bX}(h:fr≤i):jO ab (eN s fr i out)=jO ab out++tB (s.extract fr i):=by
 unfold eN;split
 ·rw [aOS];congr 1;show tB (mO ab (s.extract fr i,0))++[]=_;unfold mO;rw [if_neg (by show ¬ (0:Int)>0;omega),List.append_nil]
 have:fr=i:=by omega
 subst this;rw [lZ,List.drop_of_length_le (by rw [List.length_take];omega),List.append_nil]
theorem aHE {s:ByteArray}{ab:List ByteArray}:∀ (f i fr:Nat) (out:List bX),s.size<f+i→fr≤i→i≤s.size→jO ab (lT s ab f i fr out)=jO ab out++(tB s).drop fr
 | 0,i,fr,out,h1,h2,h3=>by omega
 | f+1,i,fr,out,h1,h2,h3=>by
  unfold lT;by_cases hi:i<s.size
  ·rw [if_pos hi];by_cases ht:cG s ab i=0
   ·rw [if_pos ht];exact aHE f (i+1) fr out (by omega) (by omega) (by omega)
   obtain ⟨g1,g2,g3⟩:=aCE hi ht;have g4:=qB g1;rw [if_neg ht,aHE (ab:=ab) f _ _ _ (by omega) (Nat.le_refl _) g4.2.2,aOS,aOT h2,List.append_assoc,List.append_assoc];congr 1;have hat:s.extract i (i+(ab.getD (cG s ab i-1) ByteArray.empty).size)=ab.getD (cG s ab i-1) ByteArray.empty:=by
    unfold gM at g1;simp only [Bool.and_eq_true,decide_eq_true_eq] at g1;exact g1.2
   have e:jO ab [(ByteArray.empty,(cG s ab i:Int))]=tB (s.extract i (i+(ab.getD (cG s ab i-1) ByteArray.empty).size)):=by
    show tB (mO ab (ByteArray.empty,(cG s ab i:Int)))++[]=_;unfold mO;rw [if_pos (by show (cG s ab i:Int)>0;omega),List.append_nil,hat];congr 2;show ((cG s ab i:Int)-1).toNat=_;omega
   rw [e,aHD (by omega),aHD (by omega)]
  rw [if_neg hi,aOT (by omega)];congr 1;have:=aHD (s:=s) (a:=fr) (b:=s.size) (by omega);rw [List.drop_of_length_le (l:=tB s) (i:=s.size) (by rw [fK];exact Nat.le_refl _),List.append_nil] at this;exact this
theorem aHF {s:ByteArray}{ab:List ByteArray}{fr i:Nat}{out:List bX}(h:∀ p∈out,pH ab p=false):∀ p∈eN s fr i out,pH ab p=false:=by
 unfold eN;split
 ·intro p hp;rcases List.mem_append.1 hp with hp|hp
  ·exact h p hp
  simp at hp;subst hp;unfold pH
  first|(simp;done)|(simp;omega)
 exact h
theorem aCX {s:ByteArray}{ab:List ByteArray}:∀ (f i fr:Nat) (out:List bX),(∀ p∈out,pH ab p=false)→∀ p∈lT s ab f i fr out,pH ab p=false
 | 0,i,fr,out,h=>aHF h
 | f+1,i,fr,out,h=>by
  unfold lT;by_cases hi:i<s.size
  ·rw [if_pos hi];by_cases ht:cG s ab i=0
   ·rw [if_pos ht];exact aCX f (i+1) fr out h
   obtain ⟨g1,g2,g3⟩:=aCE hi ht;have g4:=qB g1;rw [if_neg ht];refine aCX f _ _ _ fun p hp=>?_;rcases List.mem_append.1 hp with hp|hp
   ·exact aHF h p hp
   simp at hp;subst hp;unfold pH;simp;omega
  rw [if_neg hi];exact aHF h
def fN (l:List bX):List Av:=l.flatMap fun p=>[vs p.1,vi p.2]
theorem aGL (l:List bX):(fN l).length=l.length*2:=by
 induction l with
 | nil=>rfl
 | cons p l ih=>
  show ([vs p.1,vi p.2]++fN l).length=_;rw [List.length_append,ih];simp;omega
theorem aGM (a b:List bX):fN (a++b)=fN a++fN b:=by unfold fN;simp
theorem aZC {l:List bX}:∀ {j:Nat},j<l.length→(fN l)[j*2]?=some (vs (l.getD j dJ).1):=by
 induction l with
 | nil=>intro j h;simp at h
 | cons p l ih=>
  intro j h;cases j with
  | zero=>rfl
  | succ j=>
   show (vs p.1::vi p.2::fN l)[(j+1)*2]?=_;rw [show (j+1)*2=j*2+1+1 from by omega,List.getElem?_cons_succ,List.getElem?_cons_succ,ih (by simpa using h)];rfl
theorem aZD {l:List bX}:∀ {j:Nat},j<l.length→(fN l)[j*2+1]?=some (vi (l.getD j dJ).2):=by
 induction l with
 | nil=>intro j h;simp at h
 | cons p l ih=>
  intro j h;cases j with
  | zero=>rfl
  | succ j=>
   show (vs p.1::vi p.2::fN l)[(j+1)*2+1]?=_;rw [show (j+1)*2+1=j*2+1+1+1 from by omega,List.getElem?_cons_succ,List.getElem?_cons_succ,ih (by simpa using h)];rfl
theorem aqM {l:List bX}{x:ByteArray}:∀ {j:Nat},j<l.length→(fN l).set (j*2) (vs x)=fN (l.set j (x,(l.getD j dJ).2)):=by
 induction l with
 | nil=>intro j h;simp at h
 | cons p l ih=>
  intro j h;cases j with
  | zero=>rfl
  | succ j=>
   show (vs p.1::vi p.2::fN l).set ((j+1)*2) (vs x)=_;rw [show (j+1)*2=j*2+1+1 from by omega,List.set_cons_succ,List.set_cons_succ,ih (by simpa using h)];rfl
theorem aNE (p:bX):∀ j,j<1→eQ (gE [vQ p] j) 2=true∧∀ i y,i<2→[vs p.1,vi p.2][j*2+i]?=some y→(cL (gE [vQ p] j))[i]?=some y:=fun j hj=>by
 have:j=0:=by omega
 subst this;refine ⟨rfl,fun i y hi hy=>?_⟩;rw [Nat.zero_mul,Nat.zero_add] at hy;exact hy
theorem Le.freezeP {N:Nat}{D:List Nat}{s:List (Nat × Av)}{h:List (Nat × Hs)}(t n:Nat){ty:TypeId}(l:List bX)(hs:bN s t=.osl 2 n l.length)(hn:aL h n=some (.live ty (fN l))):Le N D ⟨s,h⟩ ⟨(t,rH l)::s,(n,.dead)::h⟩:=Le.step fun E a hF=>by
 have hv:=hF.holds.1 t;rw [hs] at hv;have hH:=hF.holds.2 n _ hn;have hn0:E.loc n≠.unborn:=by unfold aA at hv;exact hv.1.1
 have hS:=Step.kill E n hn0;refine ⟨E.re n .dead,[n],rfl,hS,hF.good.re (by simp),fun u=>?_,fun m y hy=>?_⟩
 ·by_cases e:t=u
  ·subst e;rw [lE];refine aCY hF.good hv hH (aGL l) (fun j hj=>⟨rfl,fun i y hy=>?_⟩) (fun j hj us hus h1=>?_)
   ·have hy':[vs (l.getD j dJ).1,vi (l.getD j dJ).2][i]?=some y:=hy;rcases i with _|_|i
    ·simp at hy';subst hy';rw [Nat.add_zero,aZC hj];simp
    ·simp at hy';subst hy';rw [aZD hj];simp
    simp at hy'
   refine ⟨.agg us.toArray,?_,?_⟩
   ·unfold vQ aA;exact ⟨us,rfl,hus,h1⟩
   have hus':aG (E.re n .dead) [vs (l.getD j dJ).1,vi (l.getD j dJ).2] us:=hus;unfold aG aG aG at hus';obtain ⟨u,us',rfl,h3,u',us'',rfl,h4,rfl⟩:=hus';unfold aA at h3 h4;subst h3;subst h4;rfl
  rw [lS _ _ e];exact aA.step hS _ _ (hF.holds.1 u)
 by_cases e:n=m
 ·subst e;simp [aL] at hy;subst hy;show (E.re n .dead).loc n=.dead;simp [Env.re]
 simp only [aL,eY e,cond_false] at hy;exact dI.step hS (by simp [Ne.symm e]) (hF.holds.2 m y hy)
theorem aGN (π:Nat→Nat)(l:List bX):(fN l).map (Av.ren π)=fN l:=by
 induction l with
 | nil=>rfl
 | cons p l ih=>
  show ([vs p.1,vi p.2]++fN l).map (Av.ren π)=[vs p.1,vi p.2]++fN l;rw [List.map_append,ih];simp [Av.ren]
theorem aNL {Z:List Nat}(l:List bX):∀ z∈fN l,aE Z z:=fun z hz=>by
 obtain ⟨p,_,hp⟩:=List.mem_flatMap.1 hz;simp at hp;rcases hp with rfl|rfl<;>simp [aE]
theorem zK:ByteArray.empty=(⟨#[]⟩:ByteArray):=rfl
theorem aqN (s:ByteArray)(ab:List ByteArray):(iS s ab).length=s.size+1:=xH s ab s.size
theorem aqO (s:ByteArray)(ab:List ByteArray)(j:Nat):0≤(iS s ab).getD j 0∧(iS s ab).getD j 0≤3*(s.size:Int):=aNH s ab s.size (Nat.le_refl _) j
def oE (out:List bX):List bX:=if ((out.length:Int)==0||decide ((out.getD (out.length-1) dJ).2>0))=true then out++[dJ] else out
theorem aqP (out:List bX):0<(oE out).length:=by
 unfold oE;split
 ·simp
 rename_i h;rcases Nat.eq_zero_or_pos out.length with e|e
 ·exact absurd (by simp [e]) h
 exact e
theorem aqQ (out:List bX):(oE out).length≤out.length+1:=by
 unfold oE;split
 ·simp
 omega
theorem aGI (l:List bX)(p:bX):(l++[p]).getD ((l++[p]).length-1) dJ=p:=by simp [List.getD]
theorem aM7 (l:List bX)(p x:bX):(l++[p]).set ((l++[p]).length-1) x=l++[x]:=by
 rw [List.length_append];simp
theorem aXK (out:List bX)(c:ByteArray):aGJ out c=(oE out).set ((oE out).length-1) (((oE out).getD ((oE out).length-1) dJ).1++c,((oE out).getD ((oE out).length-1) dJ).2):=by
 rcases List.eq_nil_or_concat out with rfl|⟨l,p,rfl⟩
 ·rfl
 simp only [List.concat_eq_append];have e1:(l++[p]).getLast?=some p:=by simp
 have e2:=aGI l p;unfold aGJ;rw [e1];by_cases hp:p.2>0
 ·have eb:oE (l++[p])=(l++[p])++[dJ]:=by unfold oE;rw [e2,if_pos (by simp [hp])]
  rw [eb,aGI,aM7];simp only [];rw [if_pos hp];rfl
 have eb:oE (l++[p])=l++[p]:=by unfold oE;rw [e2,if_neg (by simp [hp];omega)]
 rw [eb,aGI,aM7];simp only [];rw [if_neg hp,List.dropLast_concat]
theorem aoJ (out:List bX)(c:ByteArray):(aGJ out c).length=(oE out).length:=by rw [aXK,List.length_set]
def iX (n:Nat)(l:List bX):Prop:=∀ k,(l.getD k dJ).1.size≤n
theorem iX.more {n m:Nat}{l:List bX}(h:iX n l)(hm:n≤m):iX m l:=fun k=>Nat.le_trans (h k) hm
theorem iX.nil (n:Nat):iX n []:=fun k=>Nat.zero_le _
theorem iX.app {n:Nat}{l:List bX}{p:bX}(h:iX n l)(hp:p.1.size≤n):iX n (l++[p]):=fun k=>by
 rw [List.getD,List.getElem?_append];split
 ·have:=h k;rwa [List.getD] at this
 rcases Nat.eq_zero_or_pos (k-l.length) with e|e
 ·rw [e];exact hp
 rw [List.getElem?_eq_none (by simp;omega)];exact Nat.zero_le _
theorem iX.set {n k:Nat}{l:List bX}{p:bX}(h:iX n l)(hp:p.1.size≤n):iX n (l.set k p):=fun j=>by
 rw [List.getD,List.getElem?_set];by_cases e:k=j
 ·rw [if_pos e];split
  ·exact hp
  exact Nat.zero_le _
 rw [if_neg e];have:=h j;rwa [List.getD] at this
theorem iX.base {n:Nat}{l:List bX}(h:iX n l):iX n (oE l):=by
 unfold oE;split
 ·exact h.app (Nat.zero_le _)
 exact h
theorem iX.add {n:Nat}{l:List bX}{c:ByteArray}(h:iX n l)(hc:c.size=1):iX (n+1) (aGJ l c):=by
 rw [aXK];refine (h.base.more (Nat.le_succ n)).set ?_;have:=h.base ((oE l).length-1);show (_++c).size≤_;rw [ByteArray.size_append];omega
theorem aqR {s:ByteArray}{ab:List ByteArray}{f i:Nat}{out:List bX}(h:¬ i<s.size):aZ7 s ab f i out=out:=by
 cases f with
 | zero=>rfl
 | succ f=>unfold aZ7;rw [if_neg h]
abbrev aqS:=Nat × List bX
theorem aqT (s:ByteArray)(ab:List ByteArray)(hs:s.size≤1000000)(hb2:∀ k,(ab.getD k ByteArray.empty).size≤1000000)(hbl:ab.length≤1000000):PC Tryz.prog 150 [vs s,bB ab] (rH (ai1 s ab)):=by
 refine FB 2 107 Tryz.func150 ?_;refine G ?_;refine Z1 (ca ((show PC _ _ [vs s,bB ab] (aK (iS s ab)) from aqU s ab hs hb2 hbl))) ?_;refine G ?_;have hll:=aqN s ab;refine bS (Le.nameNil 6 0 2 178 rfl rfl) ?_
 refine bM (ι:=aqS) (fun q=>⟨[(0,vs s),(1,bB ab),(5,aK (iS s ab)),(6,.osl 2 0 q.2.length),(7,vi q.1)],[(0,.live 178 (fN q.2)),(1,.unborn)]⟩) (fun q=>q.1≤s.size∧q.2.length≤q.1∧iX q.1 q.2∧∃ f,s.size<f+q.1∧ai1 s ab=aZ7 s ab f q.1 q.2) (fun q=>s.size-q.1) (0,[]) (⟨Nat.zero_le _,Nat.le_refl _,iX.nil _,s.size+1,by omega,rfl⟩) (Le.sub (by repeat (first|trivial|refine ⟨.inr rfl,?_⟩|refine ⟨.inr (aR (by omega)),?_⟩)) (by repeat (first|trivial|refine ⟨rfl,?_⟩))) ?_;intro q hI;obtain ⟨hi1,hi2,hi3,f,hf,hcut⟩:=hI;refine Gd (fun hb=>?_) fun hb=>?_
 ·have hlt:q.1<s.size:=by have h0:=of_decide_eq_true hb;omega
  have h1:=aNG hlt;have hbd:=aqO s ab;have hb1:=hbd (q.1+1);have hb0:=hbd q.1;obtain ⟨f,rfl⟩:∃ g,f=g+1:=⟨f-1,by omega⟩
  refine aQ ?_;refine aU ?_;refine aD ?_;refine aD ?_;refine dw ?_;refine Z1 mo ?_;refine Z1 mo ?_;refine Z1 mo ?_;refine Z1 ba ?_;refine Z1 (OC.cast (aGK rfl rfl rfl rfl (by kernel_rfl) (by omega) (by omega) (by omega)) (show Av.val (.string (s.extract (q.1:Int).toNat ((q.1:Int)+1).toNat))=vs (s.extract q.1 (q.1+1)) from by have:=aNI s q.1 1;rw [←this];rfl)) ?_;refine Z1 (cq (anB _ (by rw [h1.1];omega)) rfl rfl) ?_;refine Z1 mo ?_;refine Z1 mo ?_;refine Z1 ba ?_;refine Z1 (mM (j:=q.1+1) rfl rfl rfl (by kernel_rfl) (by omega) (by omega) (by omega)) ?_;refine Z1 ld ?_;refine Z1 ba ?_
  refine Z1 mo ?_;refine Z1 mo ?_;refine Z1 (rJ (j:=q.1) rfl rfl rfl (by kernel_rfl) (by omega)) ?_;refine Z1 ld ?_;refine Z1 bz ?_;refine cn (dn ?_);refine cd (fun hb=>?_) fun hb=>?_
  ·have hz:fB (s.extract q.1 (q.1+1))+(iS s ab).getD (q.1+1) 0=(iS s ab).getD q.1 0:=by simpa using hb
   refine aD ?_;refine sq ?_;refine Z1 mo ?_;refine Z1 (aeB (t:=178) (cs:=fN q.2) rfl rfl (by kernel_rfl)) ?_;refine Z1 bz ?_;refine Z1 mo ?_;refine Z4 (fun hC=>mo) ?_;refine Z4 (fun hC=>mo) ?_;refine Zg rfl rfl rfl eV (fun hC=>aeB (t:=178) (cs:=fN q.2) rfl rfl (by kernel_rfl)) ⟨rfl,trivial⟩ ?_;refine Z4 (fun hC=>iP) ?_;refine Zg (R:=[(_,.live _ _)]) rfl rfl rfl eV (fun hC=>by
    have hne:q.2.length≠0:=fun h=>by rw [h] at hC;exact absurd hC (by decide)
    exact vL (k:=2) (t:=178) (cs:=fN q.2) (j:=(q.2.length-1)*2) rfl rfl rfl (by kernel_rfl) (by omega) (by omega) (by omega)) ⟨rfl,trivial⟩ ?_
   refine Zg (R:=[(_,.live _ _)]) rfl rfl rfl eV (fun hC=>by
    have hne:q.2.length≠0:=fun h=>by rw [h] at hC;exact absurd hC (by decide)
    exact eU (off:=1) (sz:=1) (r:=false) (t:=178) (cs:=fN q.2) rfl rfl (by rw [aGL];omega) (by kernel_rfl) (by decide)) ⟨rfl,trivial⟩ ?_
   refine Zg (R:=[(_,.live _ _)]) rfl rfl rfl eV (fun hC=>by
    have hne:q.2.length≠0:=fun h=>by rw [h] at hC;exact absurd hC (by decide)
    exact fL (t:=178) (cs:=fN q.2) (y:=vi (q.2.getD (q.2.length-1) dJ).2) rfl rfl (by kernel_rfl) (aZD (by omega))) ⟨rfl,trivial⟩ ?_
   refine Z4 (fun hC=>bz) ?_;refine Z1 cC ?_;refine cn ?_;refine rM (τ:=⟨[(0,vs s),(1,bB ab),(5,aK (iS s ab)),(6,.osl 2 0 (oE q.2).length),(7,vi q.1)],[(0,.live 178 (fN (oE q.2))),(1,.unborn)]⟩) ?_ ?_
   ·refine cd (fun hb=>?_) fun hb=>?_
    ·have ho:(oE q.2)=q.2++[dJ]:=if_pos hb;refine G ?_;refine Z1 (fO (ps:=[.tmp 47]) (xs:=[.agg _]) (e:=178) (k:=2) (by_:=24) (zs:=[.string ⟨#[]⟩,.int .i64 0]) rfl (by kernel_rfl) (by kernel_rfl) rfl rfl rfl (by decide) (by decide)) ?_;refine aZ rfl rfl (iG (e:=178) (k:=2) (by_:=24) (zs:=[.string ⟨#[]⟩,.int .i64 0]) (cs:=fN q.2) (ds:=[vs dJ.1,vi dJ.2]) 1 rfl rfl rfl (by kernel_rfl) (by kernel_rfl) rfl (by decide) (by decide) (aGL _) rfl (aNE dJ) (by omega) (by omega)) ⟨rfl,rfl,trivial⟩ ?_;refine G ?_
     refine Le.trans (Le.trans (Le.swap (τ:=⟨[(0,vs s),(1,bB ab),(5,aK (iS s ab)),(6,.osl 2 0 (q.2++[dJ]).length),(7,vi q.1)],[(0,.live 178 (fN (q.2++[dJ]))),(1,.dead)]⟩) 0 1 (by simp) (by simp) ⟨rfl,(iR _ _ (bV _)).symm,(iR _ _ (cP _)).symm,by rw [List.length_append];rfl,rfl,trivial⟩ ⟨by show aL _ 1=some (Hs.live _ ((fN (q.2++[dJ])).map _));rw [aGN,aGM];rfl,rfl,trivial⟩) (Le.reset (τ:=⟨[(0,vs s),(1,bB ab),(5,aK (iS s ab)),(6,.osl 2 0 (q.2++[dJ]).length),(7,vi q.1)],[(0,.live 178 (fN (q.2++[dJ]))),(1,.unborn)]⟩) [1] (by simp) ⟨.inr rfl,.inr rfl,.inr rfl,.inr rfl,.inr rfl,trivial⟩ ⟨by simp [aE],aE.of_pure _ (bV _),aE.of_pure _ (cP _),by simp [aE],by simp [aE],trivial⟩ ⟨by rw [if_neg (by decide)];exact ⟨rfl,aNL _⟩,by rw [if_pos (by decide)],trivial⟩)) ?_
     exact (Le.sub ⟨.inr rfl,.inr rfl,.inr rfl,.inr (by rw [ho];rfl),.inr rfl,trivial⟩ ⟨by rw [ho];rfl,rfl,trivial⟩)
    have ho:(oE q.2)=q.2:=if_neg (by rw [hb];decide);refine G ?_;exact (Le.sub ⟨.inr rfl,.inr rfl,.inr rfl,.inr (by rw [ho];rfl),.inr rfl,trivial⟩ ⟨by rw [ho];rfl,rfl,trivial⟩)
   refine aD ?_;have hop:=aqP q.2;have hol:=aqQ q.2;have hsz:=hi3.base ((oE q.2).length-1);refine dw ?_;refine Z1 mo ?_;refine Z1 mo ?_;refine Z1 (aeB (t:=178) (cs:=fN (oE q.2)) rfl rfl (by kernel_rfl)) ?_;refine Z1 iP ?_;refine eL (R:=[(_,.live _ _)]) rfl rfl (vL (k:=2) (t:=178) (cs:=fN (oE q.2)) (j:=((oE q.2).length-1)*2) rfl rfl rfl (by kernel_rfl) (by omega) (by omega) (by omega)) ⟨rfl,trivial⟩ ?_
   refine eL (R:=[(_,.live _ _)]) rfl rfl (eU (off:=0) (sz:=1) (r:=false) (t:=178) (cs:=fN (oE q.2)) rfl rfl (by rw [aGL];omega) (by kernel_rfl) (by decide)) ⟨rfl,trivial⟩ ?_;refine eL (R:=[(_,.live _ _)]) rfl rfl (fL (t:=178) (cs:=fN (oE q.2)) (y:=vs ((oE q.2).getD ((oE q.2).length-1) dJ).1) rfl rfl (by kernel_rfl) (aZC (by omega))) ⟨rfl,trivial⟩ ?_;refine Z1 mo ?_;refine Z1 mo ?_;refine Z1 mo ?_;refine Z1 ba ?_
   refine Z1 (OC.cast (aGK rfl rfl rfl rfl (by kernel_rfl) (by omega) (by omega) (by omega)) (show Av.val (.string (s.extract (q.1:Int).toNat ((q.1:Int)+1).toNat))=vs (s.extract q.1 (q.1+1)) from by have:=aNI s q.1 1;rw [←this];rfl)) ?_;refine Z1 (aqV rfl rfl rfl (by rw [h1.1];omega)) ?_;refine eL (R:=[(_,.live _ _)]) rfl rfl (vL (k:=2) (t:=178) (cs:=fN (oE q.2)) (j:=((oE q.2).length-1)*2) rfl rfl rfl (by kernel_rfl) (by omega) (by omega) (by omega)) ⟨rfl,trivial⟩ ?_
   refine eL (R:=[(_,.live _ _)]) rfl rfl (eU (off:=0) (sz:=1) (r:=false) (t:=178) (cs:=fN (oE q.2)) rfl rfl (by rw [aGL];omega) (by kernel_rfl) (by decide)) ⟨rfl,trivial⟩ ?_;refine fP rfl rfl (lG (t:=178) (y:=vs (((oE q.2).getD ((oE q.2).length-1) dJ).1++(s.extract q.1 (q.1+1)))) (cs:=fN (oE q.2)) (cs':=fN (aGJ q.2 (s.extract q.1 (q.1+1)))) rfl rfl rfl (by kernel_rfl) (by kernel_rfl) aJD (by rw [aGL];omega) (by rw [aXK];exact aqM (by omega))) ⟨rfl,trivial⟩ ?_;refine cn (dn ?_);refine sq ?_;refine Z1 mo ?_;refine Z1 ba ?_;refine Z1 aB ?_;refine cn ?_;refine bU ?_
   exact ⟨(q.1+1,aGJ q.2 (s.extract q.1 (q.1+1))),⟨by show q.1+1≤_;omega,by show (aGJ q.2 _).length≤q.1+1;rw [aoJ];omega,hi3.add h1.1,f,by show _<f+(q.1+1);omega,by rw [hcut];show (if _ then _ else _)=_;rw [if_pos hlt,if_pos hz]⟩,by show s.size-(q.1+1)<_;omega,Le.sub ⟨.inr rfl,.inr rfl,.inr rfl,.inr (by show bN _ 6=Av.osl 2 0 (aGJ q.2 _).length;rw [aoJ];rfl),.inr rfl,trivial⟩ ⟨rfl,rfl,trivial⟩⟩
  have hz:¬ fB (s.extract q.1 (q.1+1))+(iS s ab).getD (q.1+1) 0=(iS s ab).getD q.1 0:=by simpa using hb
  have ht:cG s ab q.1≠0:=fun hc=>hz ((aY7 hlt).1 hc);obtain ⟨g1,g2,hfst⟩:=aCE hlt ht;obtain ⟨_,_,k3,k4⟩:=aHA s ab q.1 (iS s ab) ab.length ht;have k3':2+(iS s ab).getD (q.1+(ab.getD (cG s ab q.1-1) ByteArray.empty).size) 0=(iS s ab).getD q.1 0:=by rw [aCU hlt];exact k3
  have k4':∀ j,j<cG s ab q.1-1→gM s q.1 ab j=true→2+(iS s ab).getD (q.1+(ab.getD j ByteArray.empty).size) 0≠(iS s ab).getD q.1 0:=by rw [aCU hlt];exact k4
  obtain ⟨m,hm⟩:∃ m,m=cG s ab q.1-1:=⟨_,rfl⟩
  rw [←hm] at g1 hfst k3' k4';have hml:m<ab.length:=by omega
  refine G ?_;refine bM (ι:=Nat) (fun k=>⟨[(0,vs s),(1,bB ab),(5,aK (iS s ab)),(6,.osl 2 0 q.2.length),(7,vi q.1),(8,vi k)],[(0,.live 178 (fN q.2)),(1,.unborn)]⟩) (fun k=>k≤m) (fun k=>m-k) 0 (Nat.zero_le _) (Le.sub ⟨.inr rfl,.inr rfl,.inr rfl,.inr rfl,.inr rfl,.inr rfl,trivial⟩ ⟨rfl,rfl,trivial⟩) ?_;intro k hI;have hbk:=hb2 k;refine aD ?_;refine aD ?_;refine dw ?_;refine Z1 mo ?_;refine Z1 mo ?_;refine Z1 mo ?_;refine Z1 mo ?_;refine Z1 (ca (aoK s q.1 ab k hs (by omega) (by omega) (hb2 k))) ?_;refine Z1 nt ?_;refine Z1 mo ?_;refine Z4 (fun hC=>mo) ?_;refine Z4 (fun hC=>mo) ?_
  refine Z4 (fun hC=>mo) ?_;refine Z4 (fun hC=>mo) ?_;refine Z4 (fun hC=>ia) ?_;refine Z4 (fun hC=>ld) ?_;refine Z4 (fun hC=>oG) ?_;refine Z4 (fun hC=>ba) ?_;refine Zg (R:=[]) rfl rfl rfl eV (fun hC=>by
   have hq:gM s q.1 ab k=true:=by simpa using hC
   have hft:=qB hq;exact mM (j:=q.1+(ab.getD k ByteArray.empty).size) rfl rfl rfl (by kernel_rfl) (by omega) (by omega) (by omega)) trivial ?_
  refine Z4 (fun hC=>ld) ?_;refine Zg (R:=[]) rfl rfl rfl eV (fun hC=>by
   have hbj:=hbd (q.1+(ab.getD k ByteArray.empty).size);exact xI rfl rfl rfl (by first|exact aNJ (by omega) (by omega)|rfl)) trivial ?_
  refine Z4 (fun hC=>mo) ?_;refine Z4 (fun hC=>mo) ?_;refine Zg rfl rfl rfl eV (fun hC=>rJ (j:=q.1) rfl rfl rfl (by kernel_rfl) (by omega)) trivial ?_;refine Z4 (fun hC=>ld) ?_;refine Z4 (fun hC=>bz) ?_;refine Z1 cC ?_;refine cn (dn ?_);refine cd (fun hb=>?_) fun hb=>?_
  ·have hkm:k≠m:=by
    intro e;rw [e,g1] at hb;rw [k3'] at hb;simp at hb
   refine aQ ?_;refine aU ?_;refine tx ?_;refine Z1 mo ?_;refine Z1 ba ?_;refine Z1 aB ?_;refine cn ?_;exact ⟨k+1,by omega,by omega,Le.sub ⟨.inr rfl,.inr rfl,.inr rfl,.inr rfl,.inr rfl,.inr (aR (by omega)),trivial⟩ ⟨rfl,rfl,trivial⟩⟩
  rw [Bool.or_eq_false_iff] at hb;have hft0:gM s q.1 ab k=true:=by simpa using hb.1
  have hft:=qB hft0;have heq:2+(iS s ab).getD (q.1+(ab.getD k ByteArray.empty).size) 0=(iS s ab).getD q.1 0:=by simpa using hb.2
  have hkm:k=m:=by
   rcases Nat.lt_or_ge k m with h9|h9
   ·exact absurd heq (k4' k h9 hft0)
   omega
  refine bU ?_;refine sq ?_;refine Z1 mo ?_;refine Z1 mo ?_;refine Z1 ba ?_;refine Z1 (bd [(0,1),(1,1)] [.string ⟨#[]⟩,.int .i64 0] [.val _,.val _]) ?_;refine Z1 (fO (ps:=[.tmp 96]) (xs:=[.agg _]) (e:=178) (k:=2) (by_:=24) (zs:=[.string ⟨#[]⟩,.int .i64 0]) rfl (by kernel_rfl) (by kernel_rfl) rfl rfl rfl (by decide) (by decide)) ?_
  refine aZ rfl rfl (iG (e:=178) (k:=2) (by_:=24) (zs:=[.string ⟨#[]⟩,.int .i64 0]) (cs:=fN q.2) (ds:=[vs ((⟨#[]⟩:ByteArray),(k:Int)+1).1,vi ((⟨#[]⟩:ByteArray),(k:Int)+1).2]) 1 rfl rfl rfl (by kernel_rfl) (by kernel_rfl) rfl (by decide) (by decide) (aGL _) rfl (aNE ((⟨#[]⟩:ByteArray),(k:Int)+1)) (by omega) (by omega)) ⟨rfl,rfl,trivial⟩ ?_;refine Z1 aB ?_;refine cn ?_
  refine bS (Le.trans (Le.swap (τ:=⟨[(0,vs s),(1,bB ab),(5,aK (iS s ab)),(6,.osl 2 0 (q.2++[((⟨#[]⟩:ByteArray),(k:Int)+1)]).length),(7,vi q.1),(8,vi k)],[(0,.live 178 (fN (q.2++[((⟨#[]⟩:ByteArray),(k:Int)+1)]))),(1,.dead)]⟩) 0 1 (by simp) (by simp) ⟨rfl,(iR _ _ (bV _)).symm,(iR _ _ (cP _)).symm,by rw [List.length_append];rfl,rfl,rfl,trivial⟩ ⟨by show aL _ 1=some (Hs.live _ ((fN (q.2++[((⟨#[]⟩:ByteArray),(k:Int)+1)])).map _));rw [aGN,aGM];rfl,rfl,trivial⟩) (Le.reset (τ:=⟨[(0,vs s),(1,bB ab),(5,aK (iS s ab)),(6,.osl 2 0 (q.2++[((⟨#[]⟩:ByteArray),(k:Int)+1)]).length),(7,vi q.1),(8,vi k)],[(0,.live 178 (fN (q.2++[((⟨#[]⟩:ByteArray),(k:Int)+1)]))),(1,.unborn)]⟩) [1] (by simp) ⟨.inr rfl,.inr rfl,.inr rfl,.inr rfl,.inr rfl,.inr rfl,trivial⟩ ⟨by simp [aE],aE.of_pure _ (bV _),aE.of_pure _ (cP _),by simp [aE],by simp [aE],by simp [aE],trivial⟩ ⟨by rw [if_neg (by decide)];exact ⟨rfl,aNL _⟩,by rw [if_pos (by decide)],trivial⟩)) ?_
  refine G ?_
  exact ⟨(q.1+(ab.getD k ByteArray.empty).size,q.2++[((⟨#[]⟩:ByteArray),(k:Int)+1)]),⟨by show q.1+(ab.getD k ByteArray.empty).size≤_;omega,by show (q.2++[_]).length≤q.1+(ab.getD k ByteArray.empty).size;rw [List.length_append];show q.2.length+1≤_;omega,(hi3.more (by omega)).app (Nat.zero_le _),f,by show _<f+(q.1+(ab.getD k ByteArray.empty).size);omega,by rw [hcut];show (if _ then _ else _)=_;rw [if_pos hlt,if_neg hz,hfst,←hkm,zK]⟩,by show s.size-(q.1+(ab.getD k ByteArray.empty).size)<_;omega,Le.sub ⟨.inr rfl,.inr rfl,.inr rfl,.inr rfl,.inr (aR (by first|omega|(show (q.1:Int)+((ab.getD k ByteArray.empty).size:Int)=((q.1+(ab.getD k ByteArray.empty).size:Nat):Int);omega))),trivial⟩ ⟨rfl,rfl,trivial⟩⟩
 have hge:q.1=s.size:=by have h0:=of_decide_eq_false hb;omega
 have hfin:ai1 s ab=q.2:=by rw [hcut,aqR (by omega)]
 refine bU ?_;refine aD ?_;refine bS (Le.freezeP 6 0 q.2 rfl rfl) ?_;refine G ?_;exact Rx rfl (by rw [hfin];rfl)
theorem aB6 {P:Program}{fn:Func}{Γ:Ctx}(h:fn.results=#[]):aF P fn Γ .any:=fun E a _ _=>⟨_,results_none h _ _ _,by unfold aA;trivial⟩
theorem aM8 {s:ByteArray}{ab:List ByteArray}{i m:Nat}{A:List Int}(hm:m=min ab.length 32):∀ d,cR s ab i A (m+d)=cR s ab i A m∨ab.length<m+d
 | 0=>.inl rfl
 | d+1=>by
  rcases aM8 (s:=s) (i:=i) (A:=A) hm d with h|h
  ·by_cases h9:ab.length<m+(d+1)
   ·exact .inr h9
   refine .inl ?_;rw [←h];have ea:cR s ab i A (m+d+1)=if gM s i ab (m+d)=true∧2+A.getD (i+(ab.getD (m+d) ByteArray.empty).size) 0<cR s ab i A (m+d) then 2+A.getD (i+(ab.getD (m+d) ByteArray.empty).size) 0 else cR s ab i A (m+d):=rfl
   rw [←Nat.add_assoc,ea,if_neg (fun hc=>by have:=(qB hc.1).1;omega)]
  exact .inr (by omega)
theorem aM9 {s:ByteArray}{ab:List ByteArray}{i m:Nat}{A:List Int}(hm:m=min ab.length 32):∀ d,fX s ab i A (m+d)=fX s ab i A m∨ab.length<m+d
 | 0=>.inl rfl
 | d+1=>by
  rcases aM9 (s:=s) (i:=i) (A:=A) hm d with h|h
  ·by_cases h9:ab.length<m+(d+1)
   ·exact .inr h9
   refine .inl ?_;rw [←h];have ea:fX s ab i A (m+d+1)=if gM s i ab (m+d)=true∧2+A.getD (i+(ab.getD (m+d) ByteArray.empty).size) 0<cR s ab i A (m+d) then m+d+1 else fX s ab i A (m+d):=rfl
   rw [←Nat.add_assoc,ea,if_neg (fun hc=>by have:=(qB hc.1).1;omega)]
  exact .inr (by omega)
theorem aXL {s:ByteArray}{ab:List ByteArray}{i m:Nat}{A:List Int}(hm:m=min ab.length 32):cR s ab i A m=cR s ab i A ab.length:=by
 rcases aM8 (s:=s) (i:=i) (A:=A) hm (ab.length-m) with h|h
 ·rw [show m+(ab.length-m)=ab.length from by omega] at h;exact h.symm
 omega
theorem aXM {s:ByteArray}{ab:List ByteArray}{i m:Nat}{A:List Int}(hm:m=min ab.length 32):fX s ab i A m=fX s ab i A ab.length:=by
 rcases aM9 (s:=s) (i:=i) (A:=A) hm (ab.length-m) with h|h
 ·rw [show m+(ab.length-m)=ab.length from by omega] at h;exact h.symm
 omega
def iZ (s:ByteArray)(ab:List ByteArray):Nat→List Int
 | 0=>List.replicate s.size 0
 | d+1=>(iZ s ab d).set (s.size-1-d) (fX s ab (s.size-1-d) (cD s ab d) ab.length)
theorem zL (s:ByteArray)(ab:List ByteArray):∀ d,(iZ s ab d).length=s.size
 | 0=>by simp [iZ]
 | d+1=>by unfold iZ;rw [List.length_set,zL s ab d]
theorem aNA (s:ByteArray)(ab:List ByteArray):∀ d,∀ j,j<s.size-d→(iZ s ab d).getD j 0=0
 | 0,j,hj=>by
  show (List.replicate s.size (0:Int)).getD j 0=0;rw [List.getD,List.getElem?_replicate];split<;>rfl
 | d+1,j,hj=>by
  show ((iZ s ab d).set _ _).getD j 0=0;rw [aQR,if_neg (by omega)];exact aNA s ab d j (by omega)
def lY (s:ByteArray)(ab:List ByteArray)(i:Nat)(A B:List Int)(k:Nat):List Int:=B.set i (fX s ab i A k:Int)
theorem aXN (s:ByteArray)(ab:List ByteArray)(i k:Nat)(A B:List Int):(lY s ab i A B k).length=B.length:=by unfold lY;rw [List.length_set]
theorem aXO {s:ByteArray}{ab:List ByteArray}{i:Nat}{A B:List Int}(h:B.getD i 0=0):lY s ab i A B 0=B:=by
 show B.set i (0:Int)=B;by_cases hi:i<B.length
 ·have e:B[i]=0:=by rw [List.getD,List.getElem?_eq_getElem hi] at h;exact h
  rw [←e,List.set_getElem_self]
 exact List.set_eq_of_length_le (by omega)
theorem aXP {s:ByteArray}{ab:List ByteArray}{i k:Nat}{A B:List Int}:(lY s ab i A B k).set i (fX s ab i A (k+1):Int)=lY s ab i A B (k+1):=by
 unfold lY;rw [List.set_set]
theorem aXQ {s:ByteArray}{ab:List ByteArray}{i:Nat}(h:i<s.size):iZ s ab (s.size-i)=lY s ab i (cD s ab (s.size-(i+1))) (iZ s ab (s.size-(i+1))) ab.length:=by
 have e:s.size-i=(s.size-(i+1))+1:=by omega
 have e2:s.size-1-(s.size-(i+1))=i:=by omega
 rw [e];show (iZ s ab (s.size-(i+1))).set (s.size-1-(s.size-(i+1))) _=_;rw [e2];rfl
theorem aNB {s:ByteArray}{ab:List ByteArray}:∀ d,d≤s.size→∀ j,s.size-d≤j→j<s.size→(iZ s ab d).getD j 0=(cG s ab j:Int)
 | 0,_,j,h1,h2=>by omega
 | d+1,hd,j,h1,h2=>by
  show ((iZ s ab d).set _ _).getD j 0=_;rw [aQR,zL];by_cases e:s.size-1-d=j
  ·rw [if_pos ⟨e,by omega⟩,e];unfold cG;congr 1;exact aNC (fun k hk=>(aB7 (by omega) (by omega)).symm) _
  rw [if_neg (fun hc=>e hc.1)];exact aNB d (by omega) j (by omega) h2
theorem aXR (s:ByteArray)(ab:List ByteArray)(j:Nat)(hj:j<s.size):((iZ s ab s.size).map vi)[j]?=some (vi (cG s ab j:Int))∧sJ (vi (cG s ab j:Int))=true:=by
 refine ⟨?_,rfl⟩;have h:=aNB (s:=s) (ab:=ab) s.size (Nat.le_refl _) j (by omega) hj;rw [←h];exact (aUH (iZ s ab s.size) j (by rw [zL];exact hj)).1
theorem aB8 {s:ByteArray}{ab:List ByteArray}{i k:Nat}(hi:i≤s.size)(hk:k<32):(((ab.getD k ByteArray.empty).toList !=(⟨#[]⟩:ByteArray).toList)&&(decide ((ab.getD k ByteArray.empty).size≤(s.extract i s.size).size)&&decide ((s.extract i s.size).extract 0 (ab.getD k ByteArray.empty).size=ab.getD k ByteArray.empty)))=gM s i ab k:=by
 rw [aXS hi];unfold gM;rw [show decide (k<32)=true from decide_eq_true hk,Bool.true_and,Bool.and_assoc];congr 1;have h1:((ab.getD k ByteArray.empty).toList==(⟨#[]⟩:ByteArray).toList)=decide (ab.getD k ByteArray.empty=⟨#[]⟩):=tT _ _;have h2:((ab.getD k ByteArray.empty).toList !=(⟨#[]⟩:ByteArray).toList)=!((ab.getD k ByteArray.empty).toList==(⟨#[]⟩:ByteArray).toList):=rfl;rw [h2,h1];by_cases e:ab.getD k ByteArray.empty=⟨#[]⟩
 ·rw [e];rfl
 rw [show decide (ab.getD k ByteArray.empty=⟨#[]⟩)=false from decide_eq_false e];symm;refine decide_eq_true ?_;rcases Nat.eq_zero_or_pos (ab.getD k ByteArray.empty).size with h|h
 ·refine absurd (oF ?_) e;have:(tB (ab.getD k ByteArray.empty)).length=0:=by rw [fK];exact h
  rw [List.eq_nil_of_length_eq_zero this];rfl
 exact h
theorem aBY (s:ByteArray)(fr i:Nat)(out:List bX):(eN s fr i out).length≤out.length+1:=by
 unfold eN;split
 ·simp
 omega
theorem aXT {s:ByteArray}{ab:List ByteArray}{f i fr:Nat}{out:List bX}(h:¬ i<s.size):lT s ab f i fr out=eN s fr s.size out:=by
 cases f with
 | zero=>rfl
 | succ f=>unfold lT;rw [if_neg h]
abbrev aXU:=Nat × Nat × List bX
theorem aND (s:ByteArray)(fr tt:Nat)(out:List bX)(hs:s.size≤1000000)(h1:fr≤tt)(h2:tt≤s.size)(h3:out.length≤3000000):iO Tryz.prog 195 [vi tt,.own 3 0,.own 2 0,.ptr (vs s)] [(2,.live 175 [.osl 2 4 out.length]),(3,.live 3 [vi (fr:Int)])] [(4,.live 178 (fN out))] .any [(2,.live 175 [.osl 2 5 (eN s fr tt out).length]),(3,.live 3 [vi (fr:Int)]),(5,.live 178 (fN (eN s fr tt out)))]:=by
 refine iO.body 6 16 Tryz.func195 rfl (by kernel_rfl) ?_;refine W ?_;refine cd (fun hb=>?_) fun hb=>?_
 ·have hlt:fr<tt:=by have h0:=of_decide_eq_true hb;omega
  have hfl:eN s fr tt out=out++[((s.extract fr tt),(0:Int))]:=if_pos hlt;refine dw ?_;refine W ?_;refine Z1 (OC.cast (aGK rfl rfl rfl rfl (by kernel_rfl) (by omega) (by omega) (by omega)) (show Av.val (.string (s.extract (fr:Int).toNat (tt:Int).toNat))=vs (s.extract fr tt) from by rw [Int.toNat_natCast,Int.toNat_natCast])) ?_;refine Z1 (bd [(0,1),(1,1)] [.string ⟨#[]⟩,.int .i64 0] [.val _,.val _]) ?_;refine Z1 (fO (ps:=[.tmp 13]) (xs:=[.agg _]) (e:=178) (k:=2) (by_:=24) (zs:=[.string ⟨#[]⟩,.int .i64 0]) rfl (by kernel_rfl) (by kernel_rfl) rfl rfl rfl (by decide) (by decide)) ?_
  refine aZ rfl rfl (iG (e:=178) (k:=2) (by_:=24) (zs:=[.string ⟨#[]⟩,.int .i64 0]) (cs:=fN out) (ds:=[vs ((s.extract fr tt),(0:Int)).1,vi ((s.extract fr tt),(0:Int)).2]) 5 rfl rfl rfl (by kernel_rfl) (by kernel_rfl) rfl (by decide) (by decide) (aGL _) rfl (aNE ((s.extract fr tt),(0:Int))) (by omega) (by omega)) ⟨rfl,rfl,trivial⟩ ?_;refine cF [_] ?_;refine cn (dn ?_);refine ⟨.inr rfl,aB6 rfl,?_⟩;rw [hfl];exact ⟨by first|rfl|(rw [List.length_append];rfl),rfl,by first|rfl|(rw [aGM];rfl),trivial⟩
 have hlt:¬ fr<tt:=by have h0:=of_decide_eq_false hb;omega
 have hfl:eN s fr tt out=out:=if_neg hlt;refine bS (Le.swap (τ:=⟨[],[(2,.live 175 [.osl 2 5 out.length]),(3,.live 3 [vi (fr:Int)]),(5,.live 178 (fN out))]⟩) 4 5 (by simp) (by simp) trivial ⟨rfl,rfl,by show aL _ 4=some (Hs.live _ ((fN out).map _));rw [aGN];rfl,trivial⟩) ?_;refine W ?_;refine ⟨.inr rfl,aB6 rfl,?_⟩;rw [hfl];exact ⟨by first|rfl|(rw [List.length_append];rfl),rfl,by first|rfl|(rw [aGM];rfl),trivial⟩
end Go.Proofs.YtgajclaoaphgoaaGreatDoor
