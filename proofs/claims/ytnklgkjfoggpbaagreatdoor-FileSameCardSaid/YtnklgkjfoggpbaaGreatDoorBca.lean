/- Parts of the proof of a law of this seat: rules and contracts; no conditions. -/
import Derived.Test.YtnklgkjfoggpbaaGreatDoorWireSpec
import Derived.Test.YtnklgkjfoggpbaaGreatDoorBu
import Derived.Test.YtnklgkjfoggpbaaGreatDoorProg
import Derived.KernelRfl
import Derived.Test.YtnklgkjfoggpbaaGreatDoorLt
set_option maxHeartbeats 6400000
set_option maxRecDepth 100000
set_option linter.unusedVariables false
set_option linter.unusedSimpArgs false
namespace Go.Proofs.YtnklgkjfoggpbaaGreatDoor
open Go.RowKit
theorem aHB {s:ByteArray}{ab:List ByteArray}{i:Nat}{A B:List Int}(h:∀ j,i<j→A.getD j 0=B.getD j 0):∀ k,cR s ab i A k=cR s ab i B k
 | 0=>by unfold cR;rw [h (i+1) (by omega)]
 | k+1=>by
  have ih:=aHB (s:=s) (ab:=ab) h k
  have ea:cR s ab i A (k+1)=if gM s i ab k=true∧2+A.getD (i+(ab.getD k ByteArray.empty).size) 0<cR s ab i A k then 2+A.getD (i+(ab.getD k ByteArray.empty).size) 0 else cR s ab i A k:=rfl
  have eb:cR s ab i B (k+1)=if gM s i ab k=true∧2+B.getD (i+(ab.getD k ByteArray.empty).size) 0<cR s ab i B k then 2+B.getD (i+(ab.getD k ByteArray.empty).size) 0 else cR s ab i B k:=rfl
  rw [ea,eb,ih]
  by_cases hf:gM s i ab k=true
  ·rw [h (i+(ab.getD k ByteArray.empty).size) (by have:=(qB hf).2.1;omega)]
  ·rw [if_neg (fun hc=>hf hc.1),if_neg (fun hc=>hf hc.1)]
theorem aNC {s:ByteArray}{ab:List ByteArray}{i:Nat}{A B:List Int}(h:∀ j,i<j→A.getD j 0=B.getD j 0):∀ k,fX s ab i A k=fX s ab i B k
 | 0=>rfl
 | k+1=>by
  have ih:=aNC (s:=s) (ab:=ab) h k
  have il:=aHB (s:=s) (ab:=ab) h k
  have ea:fX s ab i A (k+1)=if gM s i ab k=true∧2+A.getD (i+(ab.getD k ByteArray.empty).size) 0<cR s ab i A k then k+1 else fX s ab i A k:=rfl
  have eb:fX s ab i B (k+1)=if gM s i ab k=true∧2+B.getD (i+(ab.getD k ByteArray.empty).size) 0<cR s ab i B k then k+1 else fX s ab i B k:=rfl
  rw [ea,eb,ih,il]
  by_cases hf:gM s i ab k=true
  ·rw [h (i+(ab.getD k ByteArray.empty).size) (by have:=(qB hf).2.1;omega)]
  ·rw [if_neg (fun hc=>hf hc.1),if_neg (fun hc=>hf hc.1)]
def iS (s:ByteArray)(ab:List ByteArray):List Int:=cD s ab s.size
theorem aOI {s:ByteArray}{ab:List ByteArray}{d j:Nat}(hj:s.size-d≤j):∀ e,d+e≤s.size→(cD s ab (d+e)).getD j 0=(cD s ab d).getD j 0
 | 0,_=>rfl
 | e+1,he=>by
  have ih:=aOI (ab:=ab) hj e (by omega)
  rw [←Nat.add_assoc]
  show ((cD s ab (d+e)).set (s.size-1-(d+e)) _).getD j 0=_
  rw [zM,if_neg (fun hc=>by omega)]
  exact ih
theorem aB7 {s:ByteArray}{ab:List ByteArray}{d j:Nat}(hd:d≤s.size)(hj:s.size-d≤j):(iS s ab).getD j 0=(cD s ab d).getD j 0:=by
 have:=aOI (s:=s) (ab:=ab) (d:=d) (j:=j) hj (s.size-d) (by omega)
 rw [show d+(s.size-d)=s.size from by omega] at this
 exact this
theorem aCU {s:ByteArray}{ab:List ByteArray}{i:Nat}(h:i<s.size):(iS s ab).getD i 0=cR s ab i (iS s ab) ab.length:=by
 have h1:(iS s ab).getD i 0=(cD s ab (s.size-i)).getD i 0:=aB7 (by omega) (by omega)
 have hl:=xH s ab (s.size-(i+1))
 rw [h1,aNK h,aCB (by omega),if_pos rfl]
 exact aHB (fun j hj=>(aB7 (by omega) (by omega)).symm) _
def cG (s:ByteArray)(ab:List ByteArray)(i:Nat):Nat:=fX s ab i (iS s ab) ab.length
def eN (s:ByteArray)(fr i:Nat)(out:List bX):List bX:=if fr<i then out++[(s.extract fr i,0)] else out
def lT (s:ByteArray)(ab:List ByteArray):Nat→Nat→Nat→List bX→List bX
 | 0,i,fr,out=>eN s fr s.size out
 | f+1,i,fr,out=>if i<s.size then (if cG s ab i=0 then lT s ab f (i+1) fr out else lT s ab f (i+(ab.getD (cG s ab i-1) ByteArray.empty).size) (i+(ab.getD (cG s ab i-1) ByteArray.empty).size) (eN s fr i out++[(ByteArray.empty,(cG s ab i:Int))])) else eN s fr s.size out
def bL (s:ByteArray)(ab:List ByteArray):List bX:=lT s ab (s.size+1) 0 0 []
def aGJ (out:List bX)(c:ByteArray):List bX:=
 match out.getLast? with
 | none=>[(ByteArray.empty++c,0)]
 | some p=>if p.2>0 then out++[(ByteArray.empty++c,0)] else out.dropLast++[(p.1++c,p.2)]
def aCV (s:ByteArray)(ab:List ByteArray)(i:Nat):Nat→Nat→Nat
 | 0,k=>k
 | f+1,k=>if gM s i ab k=true∧2+(iS s ab).getD (i+(ab.getD k ByteArray.empty).size) 0=(iS s ab).getD i 0 then k else aCV s ab i f (k+1)
theorem aY7 {s:ByteArray}{ab:List ByteArray}{i:Nat}(h:i<s.size):cG s ab i=0↔fB (s.extract i (i+1))+(iS s ab).getD (i+1) 0=(iS s ab).getD i 0:=by
 rw [aCU h]
 unfold cG
 rw [aOH]
 constructor
 ·intro e;rw [e];rfl
 ·intro e;rw [←e];rfl
theorem aOJ {s:ByteArray}{ab:List ByteArray}{i m:Nat}(h1:gM s i ab m=true)(h2:2+(iS s ab).getD (i+(ab.getD m ByteArray.empty).size) 0=(iS s ab).getD i 0)
 (h3:∀ j,j<m→gM s i ab j=true→2+(iS s ab).getD (i+(ab.getD j ByteArray.empty).size) 0≠(iS s ab).getD i 0):∀ f k,k≤m→m<f+k→aCV s ab i f k=m
 | 0,k,hk,hf=>by omega
 | f+1,k,hk,hf=>by
  unfold aCV
  by_cases e:k=m
  ·subst e
   rw [if_pos ⟨h1,h2⟩]
  ·rw [if_neg (fun hc=>h3 k (by omega) hc.1 hc.2)]
   exact aOJ h1 h2 h3 f (k+1) (by omega) (by omega)
theorem aCE {s:ByteArray}{ab:List ByteArray}{i:Nat}(h:i<s.size)(ht:cG s ab i≠0):gM s i ab (cG s ab i-1)=true∧cG s ab i≤ab.length∧aCV s ab i ab.length 0=cG s ab i-1:=by
 obtain ⟨g1,g2,g3,g4⟩:=aHA s ab i (iS s ab) ab.length ht
 have e:=aCU (ab:=ab) h
 have ht':0<cG s ab i:=by omega
 have g1':cG s ab i≤ab.length:=g1
 exact ⟨g2,g1',aOJ g2 (by rw [e];exact g3) (fun j hj hf=>by rw [e];exact g4 j hj hf) ab.length 0 (by omega) (by omega)⟩
def mD (l:List bX):Int:=(l.map qE).sum
theorem aOK:∀ (l:List bX) (k:Nat),k≤l.length→sO l k=mD (l.take k)
 | l,0,_=>by simp [sO,mD]
 | l,k+1,hk=>by
  have e:l.take (k+1)=l.take k++[l.getD k dJ]:=by rw [List.take_add_one];simp [show k<l.length from hk]
  rw [aYK,aOK l k (by omega),e]
  unfold mD
  simp
theorem aOL (l:List bX):sO l l.length=mD l:=by
 have:=aOK l l.length (Nat.le_refl _)
 rwa [List.take_length] at this
theorem aOM (a b:List bX):mD (a++b)=mD a+mD b:=by unfold mD;simp
def rK (l:List Int):Int:=(l.map fun c=>((cS c).length:Int)).sum
theorem aON (s:ByteArray):∀ k,k≤s.size→qA s k=rK ((tB s).take k)
 | 0,_=>by simp [qA,rK]
 | k+1,hk=>by
  have hl:k<(tB s).length:=by rw [fK];exact hk
  have e:(tB s).take (k+1)=(tB s).take k++[(tB s).getD k 0]:=by rw [List.take_add_one];simp [hl]
  rw [aXI,aON s k (by omega),e]
  unfold rK
  simp
theorem zS (s:ByteArray):fB s=rK (tB s):=by
 unfold fB
 rw [aON s s.size (Nat.le_refl _),List.take_of_length_le (by rw [fK];exact Nat.le_refl _)]
theorem aY8 (a b:List Int):rK (a++b)=rK a+rK b:=by unfold rK;simp
theorem aOO {s:ByteArray}{a b c:Nat}(h1:a≤b)(h2:b≤c)(h3:c≤s.size):fB (s.extract a c)=fB (s.extract a b)+fB (s.extract b c):=by
 rw [zS,zS,zS,←aY8]
 congr 1
 rw [lZ,lZ,lZ]
 have e:(tB s).take c=(tB s).take b++((tB s).take c).drop b:=by
  have:=List.take_append_drop b ((tB s).take c)
  rw [List.take_take,Nat.min_eq_left h2] at this
  exact this.symm
 conv=>lhs;rw [e]
 rw [List.drop_append_of_le_length (by rw [List.length_take,fK];omega)]
theorem aCW {s:ByteArray}{a:Nat}:fB (s.extract a a)=0:=by
 rw [zS,lZ,List.drop_of_length_le (by rw [List.length_take];omega)]
 rfl
theorem aOP {s:ByteArray}{fr i:Nat}{out:List bX}(h:fr≤i)(hi:i≤s.size):mD (eN s fr i out)=mD out+fB (s.extract fr i):=by
 unfold eN
 split
 ·rw [aOM]
  congr 1
  show ([(s.extract fr i,(0:Int))].map qE).sum=_
  simp [qE]
 ·have:fr=i:=by omega
  subst this
  rw [aCW]
  omega
theorem aOQ (s:ByteArray)(ab:List ByteArray):(iS s ab).getD s.size 0=0:=by
 have:=aB7 (s:=s) (ab:=ab) (d:=0) (j:=s.size) (Nat.zero_le _) (by omega)
 rw [this]
 show (List.replicate (s.size+1) (0:Int)).getD s.size 0=0
 simp
theorem aHC {s:ByteArray}{ab:List ByteArray}:∀ (f i fr:Nat) (out:List bX),s.size<f+i→fr≤i→i≤s.size→mD (lT s ab f i fr out)=mD out+fB (s.extract fr i)+(iS s ab).getD i 0
 | 0,i,fr,out,h1,h2,h3=>by omega
 | f+1,i,fr,out,h1,h2,h3=>by
  unfold lT
  by_cases hi:i<s.size
  ·rw [if_pos hi]
   by_cases ht:cG s ab i=0
   ·rw [if_pos ht,aHC (ab:=ab) f (i+1) fr out (by omega) (by omega) (by omega),←(aY7 (ab:=ab) hi).1 ht,aOO (s:=s) (a:=fr) (b:=i) (c:=i+1) h2 (by omega) (by omega)]
    omega
   ·obtain ⟨g1,g2,g3⟩:=aCE hi ht
    have g4:=qB g1
    obtain ⟨_,_,k3,_⟩:=aHA s ab i (iS s ab) ab.length ht
    have k3':2+(iS s ab).getD (i+(ab.getD (cG s ab i-1) ByteArray.empty).size) 0=(iS s ab).getD i 0:=by rw [aCU hi];exact k3
    rw [if_neg ht,aHC (ab:=ab) f _ _ _ (by omega) (Nat.le_refl _) g4.2.2,aCW,aOM,aOP h2 h3,←k3']
    have e:mD [(ByteArray.empty,(cG s ab i:Int))]=2:=by
     have h9:(cG s ab i:Int)>0:=by omega
     show (qE (ByteArray.empty,(cG s ab i:Int)))+0=2
     unfold qE
     rw [if_pos h9]
     rfl
    rw [e]
    omega
  ·rw [if_neg hi]
   have:i=s.size:=by omega
   subst this
   rw [aOP h2 (Nat.le_refl _),aOQ]
   omega
theorem aY9 (s:ByteArray)(ab:List ByteArray):sO (bL s ab) (bL s ab).length=(iS s ab).getD 0 0:=by
 rw [aOL]
 unfold bL
 rw [aHC (s.size+1) 0 0 [] (by omega) (Nat.le_refl _) (Nat.zero_le _),aCW]
 simp [mD]
theorem aOR {s:ByteArray}{ab:List ByteArray}:∀ d,d≤s.size→(iS s ab).getD (s.size-d) 0≤fB (s.extract (s.size-d) s.size)
 | 0,_=>by
  have h:=aOQ s ab
  rw [Nat.sub_zero,h,aCW]
  exact Int.le_refl _
 | d+1,hd=>by
  have ih:=aOR (s:=s) (ab:=ab) d (by omega)
  have hi:s.size-(d+1)<s.size:=by omega
  have hm:=aCT s ab (s.size-(d+1)) (iS s ab) 0 ab.length
  rw [Nat.zero_add] at hm
  rw [aCU hi]
  have e:s.size-(d+1)+1=s.size-d:=by omega
  have h0:cR s ab (s.size-(d+1)) (iS s ab) 0=fB (s.extract (s.size-(d+1)) (s.size-(d+1)+1))+(iS s ab).getD (s.size-(d+1)+1) 0:=rfl
  rw [h0,e] at hm
  rw [aOO (s:=s) (a:=s.size-(d+1)) (b:=s.size-d) (c:=s.size) (by omega) (by omega) (Nat.le_refl _)]
  omega
theorem aZA (s:ByteArray):s.extract 0 s.size=s:=by
 refine oF ?_
 rw [lZ,List.drop_zero,List.take_of_length_le (by rw [fK];exact Nat.le_refl _)]
theorem aZB (s:ByteArray)(ab:List ByteArray):(iS s ab).getD 0 0≤fB s:=by
 have:=aOR (s:=s) (ab:=ab) s.size (Nat.le_refl _)
 rw [Nat.sub_self,aZA] at this
 exact this
def jO (ab:List ByteArray)(l:List bX):List Int:=l.flatMap fun p=>tB (mO ab p)
theorem aOS (ab:List ByteArray)(a b:List bX):jO ab (a++b)=jO ab a++jO ab b:=by unfold jO;simp
theorem aHD {s:ByteArray}{a b:Nat}(h:a≤b):tB (s.extract a b)++(tB s).drop b=(tB s).drop a:=by
 rw [lZ]
 have e:=List.take_append_drop b (tB s)
 conv=>rhs;rw [←e]
 by_cases hb:b≤(tB s).length
 ·rw [List.drop_append_of_le_length (by rw [List.length_take];omega)]
 ·rw [List.drop_of_length_le (l:=tB s) (i:=b) (by omega),List.append_nil,List.append_nil]
theorem aOT {s:ByteArray}{ab:List ByteArray}{fr i:Nat}{out:List bX}(h:fr≤i):jO ab (eN s fr i out)=jO ab out++tB (s.extract fr i):=by
 unfold eN
 split
 ·rw [aOS]
  congr 1
  show tB (mO ab (s.extract fr i,0))++[]=_
  unfold mO
  rw [if_neg (by show ¬ (0:Int)>0;omega),List.append_nil]
 ·have:fr=i:=by omega
  subst this
  rw [lZ,List.drop_of_length_le (by rw [List.length_take];omega),List.append_nil]
theorem aHE {s:ByteArray}{ab:List ByteArray}:∀ (f i fr:Nat) (out:List bX),s.size<f+i→fr≤i→i≤s.size→jO ab (lT s ab f i fr out)=jO ab out++(tB s).drop fr
 | 0,i,fr,out,h1,h2,h3=>by omega
 | f+1,i,fr,out,h1,h2,h3=>by
  unfold lT
  by_cases hi:i<s.size
  ·rw [if_pos hi]
   by_cases ht:cG s ab i=0
   ·rw [if_pos ht]
    exact aHE f (i+1) fr out (by omega) (by omega) (by omega)
   ·obtain ⟨g1,g2,g3⟩:=aCE hi ht
    have g4:=qB g1
    rw [if_neg ht,aHE (ab:=ab) f _ _ _ (by omega) (Nat.le_refl _) g4.2.2,aOS,aOT h2,List.append_assoc,List.append_assoc]
    congr 1
    have hat:s.extract i (i+(ab.getD (cG s ab i-1) ByteArray.empty).size)=ab.getD (cG s ab i-1) ByteArray.empty:=by
     unfold gM at g1
     simp only [Bool.and_eq_true,decide_eq_true_eq] at g1
     exact g1.2
    have e:jO ab [(ByteArray.empty,(cG s ab i:Int))]=tB (s.extract i (i+(ab.getD (cG s ab i-1) ByteArray.empty).size)):=by
     show tB (mO ab (ByteArray.empty,(cG s ab i:Int)))++[]=_
     unfold mO
     rw [if_pos (by show (cG s ab i:Int)>0;omega),List.append_nil,hat]
     congr 2
     show ((cG s ab i:Int)-1).toNat=_
     omega
    rw [e,aHD (by omega),aHD (by omega)]
  ·rw [if_neg hi,aOT (by omega)]
   congr 1
   have:=aHD (s:=s) (a:=fr) (b:=s.size) (by omega)
   rw [List.drop_of_length_le (l:=tB s) (i:=s.size) (by rw [fK];exact Nat.le_refl _),List.append_nil] at this
   exact this
theorem aHF {s:ByteArray}{ab:List ByteArray}{fr i:Nat}{out:List bX}(h:∀ p∈out,pH ab p=false):∀ p∈eN s fr i out,pH ab p=false:=by
 unfold eN
 split
 ·intro p hp
  rcases List.mem_append.1 hp with hp|hp
  ·exact h p hp
  ·simp at hp
   subst hp
   unfold pH
   first|(simp;done)|(simp;omega)
 ·exact h
theorem aCX {s:ByteArray}{ab:List ByteArray}:∀ (f i fr:Nat) (out:List bX),(∀ p∈out,pH ab p=false)→∀ p∈lT s ab f i fr out,pH ab p=false
 | 0,i,fr,out,h=>aHF h
 | f+1,i,fr,out,h=>by
  unfold lT
  by_cases hi:i<s.size
  ·rw [if_pos hi]
   by_cases ht:cG s ab i=0
   ·rw [if_pos ht]
    exact aCX f (i+1) fr out h
   ·obtain ⟨g1,g2,g3⟩:=aCE hi ht
    have g4:=qB g1
    rw [if_neg ht]
    refine aCX f _ _ _ fun p hp=>?_
    rcases List.mem_append.1 hp with hp|hp
    ·exact aHF h p hp
    ·simp at hp
     subst hp
     unfold pH
     simp
     omega
  ·rw [if_neg hi]
   exact aHF h
def fN (l:List bX):List Av:=l.flatMap fun p=>[vs p.1,vi p.2]
theorem aGL (l:List bX):(fN l).length=l.length*2:=by
 induction l with
 | nil=>rfl
 | cons p l ih=>
  show ([vs p.1,vi p.2]++fN l).length=_
  rw [List.length_append,ih]
  simp
  omega
theorem aGM (a b:List bX):fN (a++b)=fN a++fN b:=by unfold fN;simp
theorem aZC {l:List bX}:∀ {j:Nat},j<l.length→(fN l)[j*2]?=some (vs (l.getD j dJ).1):=by
 induction l with
 | nil=>intro j h;simp at h
 | cons p l ih=>
  intro j h
  cases j with
  | zero=>rfl
  | succ j=>
   show (vs p.1::vi p.2::fN l)[(j+1)*2]?=_
   rw [show (j+1)*2=j*2+1+1 from by omega,List.getElem?_cons_succ,List.getElem?_cons_succ,ih (by simpa using h)]
   rfl
theorem aZD {l:List bX}:∀ {j:Nat},j<l.length→(fN l)[j*2+1]?=some (vi (l.getD j dJ).2):=by
 induction l with
 | nil=>intro j h;simp at h
 | cons p l ih=>
  intro j h
  cases j with
  | zero=>rfl
  | succ j=>
   show (vs p.1::vi p.2::fN l)[(j+1)*2+1]?=_
   rw [show (j+1)*2+1=j*2+1+1+1 from by omega,List.getElem?_cons_succ,List.getElem?_cons_succ,ih (by simpa using h)]
   rfl
theorem aNE (p:bX):∀ j,j<1→eQ (gE [vQ p] j) 2=true∧∀ i y,i<2→[vs p.1,vi p.2][j*2+i]?=some y→(cL (gE [vQ p] j))[i]?=some y:=fun j hj=>by
 have:j=0:=by omega
 subst this
 refine ⟨rfl,fun i y hi hy=>?_⟩
 rw [Nat.zero_mul,Nat.zero_add] at hy
 exact hy
theorem Le.freezeP {N:Nat}{D:List Nat}{s:List (Nat × Av)}{h:List (Nat × Hs)}(t n:Nat){ty:TypeId}(l:List bX)(hs:bN s t=.osl 2 n l.length)(hn:aL h n=some (.live ty (fN l))):Le N D ⟨s,h⟩ ⟨(t,rH l)::s,(n,.dead)::h⟩:=Le.step fun E a hF=>by
 have hv:=hF.holds.1 t
 rw [hs] at hv
 have hH:=hF.holds.2 n _ hn
 have hn0:E.loc n≠.unborn:=by unfold aA at hv;exact hv.1.1
 have hS:=Step.kill E n hn0
 refine ⟨E.re n .dead,[n],rfl,hS,hF.good.re (by simp),fun u=>?_,fun m y hy=>?_⟩
 ·by_cases e:t=u
  ·subst e
   rw [lE]
   refine aCY hF.good hv hH (aGL l) (fun j hj=>⟨rfl,fun i y hy=>?_⟩) (fun j hj us hus h1=>?_)
   ·have hy':[vs (l.getD j dJ).1,vi (l.getD j dJ).2][i]?=some y:=hy
    rcases i with _|_|i
    ·simp at hy';subst hy';rw [Nat.add_zero,aZC hj];simp
    ·simp at hy';subst hy';rw [aZD hj];simp
    ·simp at hy'
   ·refine ⟨.agg us.toArray,?_,?_⟩
    ·unfold vQ aA
     exact ⟨us,rfl,hus,h1⟩
    ·have hus':aG (E.re n .dead) [vs (l.getD j dJ).1,vi (l.getD j dJ).2] us:=hus
     unfold aG aG aG at hus'
     obtain ⟨u,us',rfl,h3,u',us'',rfl,h4,rfl⟩:=hus'
     unfold aA at h3 h4
     subst h3
     subst h4
     rfl
  ·rw [lS _ _ e]
   exact aA.step hS _ _ (hF.holds.1 u)
 ·by_cases e:n=m
  ·subst e
   simp [aL] at hy
   subst hy
   show (E.re n .dead).loc n=.dead
   simp [Env.re]
  ·simp only [aL,eY e,cond_false] at hy
   exact dI.step hS (by simp [Ne.symm e]) (hF.holds.2 m y hy)
theorem aGN (π:Nat→Nat)(l:List bX):(fN l).map (Av.ren π)=fN l:=by
 induction l with
 | nil=>rfl
 | cons p l ih=>
  show ([vs p.1,vi p.2]++fN l).map (Av.ren π)=[vs p.1,vi p.2]++fN l
  rw [List.map_append,ih]
  simp [Av.ren]
theorem aNL {Z:List Nat}(l:List bX):∀ z∈fN l,aE Z z:=fun z hz=>by
 obtain ⟨p,_,hp⟩:=List.mem_flatMap.1 hz
 simp at hp
 rcases hp with rfl|rfl<;>simp [aE]
theorem zK:ByteArray.empty=(⟨#[]⟩:ByteArray):=rfl
def oE (out:List bX):List bX:=if ((out.length:Int)==0||decide ((out.getD (out.length-1) dJ).2>0))=true then out++[dJ] else out
theorem aGI (l:List bX)(p:bX):(l++[p]).getD ((l++[p]).length-1) dJ=p:=by simp [List.getD]
theorem aM7 (l:List bX)(p x:bX):(l++[p]).set ((l++[p]).length-1) x=l++[x]:=by
 rw [List.length_append]
 simp
theorem aXK (out:List bX)(c:ByteArray):aGJ out c=(oE out).set ((oE out).length-1) (((oE out).getD ((oE out).length-1) dJ).1++c,((oE out).getD ((oE out).length-1) dJ).2):=by
 rcases List.eq_nil_or_concat out with rfl|⟨l,p,rfl⟩
 ·rfl
 ·simp only [List.concat_eq_append]
  have e1:(l++[p]).getLast?=some p:=by simp
  have e2:=aGI l p
  unfold aGJ
  rw [e1]
  by_cases hp:p.2>0
  ·have eb:oE (l++[p])=(l++[p])++[dJ]:=by unfold oE;rw [e2,if_pos (by simp [hp])]
   rw [eb,aGI,aM7]
   simp only []
   rw [if_pos hp]
   rfl
  ·have eb:oE (l++[p])=l++[p]:=by unfold oE;rw [e2,if_neg (by simp [hp];omega)]
   rw [eb,aGI,aM7]
   simp only []
   rw [if_neg hp,List.dropLast_concat]
def iX (n:Nat)(l:List bX):Prop:=∀ k,(l.getD k dJ).1.size≤n
theorem iX.more {n m:Nat}{l:List bX}(h:iX n l)(hm:n≤m):iX m l:=fun k=>Nat.le_trans (h k) hm
theorem iX.nil (n:Nat):iX n []:=fun k=>Nat.zero_le _
theorem iX.app {n:Nat}{l:List bX}{p:bX}(h:iX n l)(hp:p.1.size≤n):iX n (l++[p]):=fun k=>by
 rw [List.getD,List.getElem?_append]
 split
 ·have:=h k
  rwa [List.getD] at this
 ·rcases Nat.eq_zero_or_pos (k-l.length) with e|e
  ·rw [e];exact hp
  ·rw [List.getElem?_eq_none (by simp;omega)];exact Nat.zero_le _
theorem iX.set {n k:Nat}{l:List bX}{p:bX}(h:iX n l)(hp:p.1.size≤n):iX n (l.set k p):=fun j=>by
 rw [List.getD,List.getElem?_set]
 by_cases e:k=j
 ·rw [if_pos e]
  split
  ·exact hp
  ·exact Nat.zero_le _
 ·rw [if_neg e]
  have:=h j
  rwa [List.getD] at this
theorem iX.base {n:Nat}{l:List bX}(h:iX n l):iX n (oE l):=by
 unfold oE
 split
 ·exact h.app (Nat.zero_le _)
 ·exact h
theorem iX.add {n:Nat}{l:List bX}{c:ByteArray}(h:iX n l)(hc:c.size=1):iX (n+1) (aGJ l c):=by
 rw [aXK]
 refine (h.base.more (Nat.le_succ n)).set ?_
 have:=h.base ((oE l).length-1)
 show (_++c).size≤_
 rw [ByteArray.size_append]
 omega
theorem aB6 {P:Program}{fn:Func}{Γ:Ctx}(h:fn.results=#[]):aF P fn Γ .any:=fun E a _ _=>⟨_,results_none h _ _ _,by unfold aA;trivial⟩
theorem aM8 {s:ByteArray}{ab:List ByteArray}{i m:Nat}{A:List Int}(hm:m=min ab.length 32):∀ d,cR s ab i A (m+d)=cR s ab i A m∨ab.length<m+d
 | 0=>.inl rfl
 | d+1=>by
  rcases aM8 (s:=s) (i:=i) (A:=A) hm d with h|h
  ·by_cases h9:ab.length<m+(d+1)
   ·exact .inr h9
   ·refine .inl ?_
    rw [←h]
    have ea:cR s ab i A (m+d+1)=if gM s i ab (m+d)=true∧2+A.getD (i+(ab.getD (m+d) ByteArray.empty).size) 0<cR s ab i A (m+d) then 2+A.getD (i+(ab.getD (m+d) ByteArray.empty).size) 0 else cR s ab i A (m+d):=rfl
    rw [←Nat.add_assoc,ea,if_neg (fun hc=>by have:=(qB hc.1).1;omega)]
  ·exact .inr (by omega)
theorem aM9 {s:ByteArray}{ab:List ByteArray}{i m:Nat}{A:List Int}(hm:m=min ab.length 32):∀ d,fX s ab i A (m+d)=fX s ab i A m∨ab.length<m+d
 | 0=>.inl rfl
 | d+1=>by
  rcases aM9 (s:=s) (i:=i) (A:=A) hm d with h|h
  ·by_cases h9:ab.length<m+(d+1)
   ·exact .inr h9
   ·refine .inl ?_
    rw [←h]
    have ea:fX s ab i A (m+d+1)=if gM s i ab (m+d)=true∧2+A.getD (i+(ab.getD (m+d) ByteArray.empty).size) 0<cR s ab i A (m+d) then m+d+1 else fX s ab i A (m+d):=rfl
    rw [←Nat.add_assoc,ea,if_neg (fun hc=>by have:=(qB hc.1).1;omega)]
  ·exact .inr (by omega)
theorem aXL {s:ByteArray}{ab:List ByteArray}{i m:Nat}{A:List Int}(hm:m=min ab.length 32):cR s ab i A m=cR s ab i A ab.length:=by
 rcases aM8 (s:=s) (i:=i) (A:=A) hm (ab.length-m) with h|h
 ·rw [show m+(ab.length-m)=ab.length from by omega] at h;exact h.symm
 ·omega
theorem aXM {s:ByteArray}{ab:List ByteArray}{i m:Nat}{A:List Int}(hm:m=min ab.length 32):fX s ab i A m=fX s ab i A ab.length:=by
 rcases aM9 (s:=s) (i:=i) (A:=A) hm (ab.length-m) with h|h
 ·rw [show m+(ab.length-m)=ab.length from by omega] at h;exact h.symm
 ·omega
def iZ (s:ByteArray)(ab:List ByteArray):Nat→List Int
 | 0=>List.replicate s.size 0
 | d+1=>(iZ s ab d).set (s.size-1-d) (fX s ab (s.size-1-d) (cD s ab d) ab.length)
theorem zL (s:ByteArray)(ab:List ByteArray):∀ d,(iZ s ab d).length=s.size
 | 0=>by simp [iZ]
 | d+1=>by unfold iZ;rw [List.length_set,zL s ab d]
theorem aNA (s:ByteArray)(ab:List ByteArray):∀ d,∀ j,j<s.size-d→(iZ s ab d).getD j 0=0
 | 0,j,hj=>by
  show (List.replicate s.size (0:Int)).getD j 0=0
  rw [List.getD,List.getElem?_replicate]
  split<;>rfl
 | d+1,j,hj=>by
  show ((iZ s ab d).set _ _).getD j 0=0
  rw [zM,if_neg (by omega)]
  exact aNA s ab d j (by omega)
def lY (s:ByteArray)(ab:List ByteArray)(i:Nat)(A B:List Int)(k:Nat):List Int:=B.set i (fX s ab i A k:Int)
theorem aXN (s:ByteArray)(ab:List ByteArray)(i k:Nat)(A B:List Int):(lY s ab i A B k).length=B.length:=by unfold lY;rw [List.length_set]
theorem aXO {s:ByteArray}{ab:List ByteArray}{i:Nat}{A B:List Int}(h:B.getD i 0=0):lY s ab i A B 0=B:=by
 show B.set i (0:Int)=B
 by_cases hi:i<B.length
 ·have e:B[i]=0:=by rw [List.getD,List.getElem?_eq_getElem hi] at h;exact h
  rw [←e,List.set_getElem_self]
 ·exact List.set_eq_of_length_le (by omega)
theorem aXP {s:ByteArray}{ab:List ByteArray}{i k:Nat}{A B:List Int}:(lY s ab i A B k).set i (fX s ab i A (k+1):Int)=lY s ab i A B (k+1):=by
 unfold lY
 rw [List.set_set]
theorem aXQ {s:ByteArray}{ab:List ByteArray}{i:Nat}(h:i<s.size):iZ s ab (s.size-i)=lY s ab i (cD s ab (s.size-(i+1))) (iZ s ab (s.size-(i+1))) ab.length:=by
 have e:s.size-i=(s.size-(i+1))+1:=by omega
 have e2:s.size-1-(s.size-(i+1))=i:=by omega
 rw [e]
 show (iZ s ab (s.size-(i+1))).set (s.size-1-(s.size-(i+1))) _=_
 rw [e2]
 rfl
theorem aNB {s:ByteArray}{ab:List ByteArray}:∀ d,d≤s.size→∀ j,s.size-d≤j→j<s.size→(iZ s ab d).getD j 0=(cG s ab j:Int)
 | 0,_,j,h1,h2=>by omega
 | d+1,hd,j,h1,h2=>by
  show ((iZ s ab d).set _ _).getD j 0=_
  rw [zM,zL]
  by_cases e:s.size-1-d=j
  ·rw [if_pos ⟨e,by omega⟩,e]
   unfold cG
   congr 1
   exact aNC (fun k hk=>(aB7 (by omega) (by omega)).symm) _
  ·rw [if_neg (fun hc=>e hc.1)]
   exact aNB d (by omega) j (by omega) h2
theorem aXR (s:ByteArray)(ab:List ByteArray)(j:Nat)(hj:j<s.size):((iZ s ab s.size).map vi)[j]?=some (vi (cG s ab j:Int))∧sJ (vi (cG s ab j:Int))=true:=by
 refine ⟨?_,rfl⟩
 have h:=aNB (s:=s) (ab:=ab) s.size (Nat.le_refl _) j (by omega) hj
 rw [←h]
 exact (zN (iZ s ab s.size) j (by rw [zL];exact hj)).1
theorem aB8 {s:ByteArray}{ab:List ByteArray}{i k:Nat}(hi:i≤s.size)(hk:k<32):(((ab.getD k ByteArray.empty).toList !=(⟨#[]⟩:ByteArray).toList)&&(decide ((ab.getD k ByteArray.empty).size≤(s.extract i s.size).size)&&decide ((s.extract i s.size).extract 0 (ab.getD k ByteArray.empty).size=ab.getD k ByteArray.empty)))=gM s i ab k:=by
 rw [aXS hi]
 unfold gM
 rw [show decide (k<32)=true from decide_eq_true hk,Bool.true_and,Bool.and_assoc]
 congr 1
 have h1:((ab.getD k ByteArray.empty).toList==(⟨#[]⟩:ByteArray).toList)=decide (ab.getD k ByteArray.empty=⟨#[]⟩):=tT _ _
 have h2:((ab.getD k ByteArray.empty).toList !=(⟨#[]⟩:ByteArray).toList)=!((ab.getD k ByteArray.empty).toList==(⟨#[]⟩:ByteArray).toList):=rfl
 rw [h2,h1]
 by_cases e:ab.getD k ByteArray.empty=⟨#[]⟩
 ·rw [e];rfl
 ·rw [show decide (ab.getD k ByteArray.empty=⟨#[]⟩)=false from decide_eq_false e]
  symm
  refine decide_eq_true ?_
  rcases Nat.eq_zero_or_pos (ab.getD k ByteArray.empty).size with h|h
  ·refine absurd (oF ?_) e
   have:(tB (ab.getD k ByteArray.empty)).length=0:=by rw [fK];exact h
   rw [List.eq_nil_of_length_eq_zero this]
   rfl
  ·exact h
theorem aBY (s:ByteArray)(fr i:Nat)(out:List bX):(eN s fr i out).length≤out.length+1:=by
 unfold eN
 split
 ·simp
 ·omega
theorem aXT {s:ByteArray}{ab:List ByteArray}{f i fr:Nat}{out:List bX}(h:¬ i<s.size):lT s ab f i fr out=eN s fr s.size out:=by
 cases f with
 | zero=>rfl
 | succ f=>unfold lT;rw [if_neg h]
abbrev aXU:=Nat × Nat × List bX
theorem aND (s:ByteArray)(fr tt:Nat)(out:List bX)(hs:s.size≤1000000)(h1:fr≤tt)(h2:tt≤s.size)(h3:out.length≤3000000):iO Tryz.prog 155 [vi tt,.own 3 0,.own 2 0,.ptr (vs s)] [(2,.live 145 [.osl 2 4 out.length]),(3,.live 3 [vi (fr:Int)])] [(4,.live 148 (fN out))] .any [(2,.live 145 [.osl 2 5 (eN s fr tt out).length]),(3,.live 3 [vi (fr:Int)]),(5,.live 148 (fN (eN s fr tt out)))]:=by
 refine iO.body 6 16 Tryz.func155 rfl (by kernel_rfl) ?_
 refine W ?_
 refine cd (fun hb=>?_) fun hb=>?_
 ·have hlt:fr<tt:=by have h0:=of_decide_eq_true hb;omega
  have hfl:eN s fr tt out=out++[((s.extract fr tt),(0:Int))]:=if_pos hlt
  refine dw ?_
  refine W ?_
  refine Z1 (OC.cast (aGK rfl rfl rfl rfl (by kernel_rfl) (by omega) (by omega) (by omega)) (show Av.val (.string (s.extract (fr:Int).toNat (tt:Int).toNat))=vs (s.extract fr tt) from by rw [Int.toNat_natCast,Int.toNat_natCast])) ?_
  refine Z1 (bd [(0,1),(1,1)] [.string ⟨#[]⟩,.int .i64 0] [.val _,.val _]) ?_
  refine Z1 (fO (ps:=[.tmp 13]) (xs:=[.agg _]) (e:=148) (k:=2) (by_:=24) (zs:=[.string ⟨#[]⟩,.int .i64 0]) rfl (by kernel_rfl) (by kernel_rfl) rfl rfl rfl (by decide) (by decide)) ?_
  refine aZ rfl rfl (iG (e:=148) (k:=2) (by_:=24) (zs:=[.string ⟨#[]⟩,.int .i64 0]) (cs:=fN out) (ds:=[vs ((s.extract fr tt),(0:Int)).1,vi ((s.extract fr tt),(0:Int)).2]) 5 rfl rfl rfl (by kernel_rfl) (by kernel_rfl) rfl (by decide) (by decide) (aGL _) rfl (aNE ((s.extract fr tt),(0:Int))) (by omega) (by omega)) ⟨rfl,rfl,trivial⟩ ?_
  refine cF [_] ?_
  refine cn (dn ?_)
  refine ⟨.inr rfl,aB6 rfl,?_⟩
  rw [hfl]
  exact ⟨by first|rfl|(rw [List.length_append];rfl),rfl,by first|rfl|(rw [aGM];rfl),trivial⟩
 ·have hlt:¬ fr<tt:=by have h0:=of_decide_eq_false hb;omega
  have hfl:eN s fr tt out=out:=if_neg hlt
  refine bS (Le.swap (τ:=⟨[],[(2,.live 145 [.osl 2 5 out.length]),(3,.live 3 [vi (fr:Int)]),(5,.live 148 (fN out))]⟩) 4 5 (by simp) (by simp) trivial ⟨rfl,rfl,by show aL _ 4=some (Hs.live _ ((fN out).map _));rw [aGN];rfl,trivial⟩) ?_
  refine W ?_
  refine ⟨.inr rfl,aB6 rfl,?_⟩
  rw [hfl]
  exact ⟨by first|rfl|(rw [List.length_append];rfl),rfl,by first|rfl|(rw [aGM];rfl),trivial⟩
end Go.Proofs.YtnklgkjfoggpbaaGreatDoor
