/- Parts of the proof of a law of this seat: rules and contracts; no conditions. -/
import Derived.Test.YtgajclaoaphgoaaGreatDoorWireP
import Derived.Test.YtgajclaoaphgoaaGreatDoorVp
import Derived.Test.YtgajclaoaphgoaaGreatDoorVa
import Derived.Test.YtgajclaoaphgoaaGreatDoorBt
import Derived.Test.YtgajclaoaphgoaaGreatDoorProg
import Derived.KernelRfl
set_option maxHeartbeats 6400000
set_option maxRecDepth 100000
set_option linter.unusedVariables false
set_option linter.unusedSimpArgs false
namespace Go.Proofs.YtgajclaoaphgoaaGreatDoor
open Go.RowKit Go.Maps
def kI (y:Int):Lit:=.int .i64 y
def mI (c:Int):DataW Unit:=.lit (.int .i64 c)
theorem aA7 {a b:Int}(h:kI a=kI b):a=b:=by
 unfold kI at h;injection h
theorem sV (a:Int):WideAt.IsKeyLit (kI a):=trivial
def gF (C:List bK):Nat→DataW Unit
 | 0=>.map []
 | k+1=>if (C.getD k aI).1=38∧Maps.has (gF C k) (kI (C.getD k aI).2)=false then (gF C k).put (kI (C.getD k aI).2) (mI (k:Int)) else gF C k
structure LabOk (C:List bK) (n:Nat):Prop where
 tidy:Tidy (gF C n)
 size:Maps.size (gF C n)≤n
 has:∀ y,Maps.has (gF C n) (kI y)=(fG (C.take n) y).isSome
 at_:∀ y,(gF C n).atKey (kI y) (mI 0)=mI (((fG (C.take n) y).getD 0:Nat):Int)
theorem afR {C:List bK}{n:Nat}(h:n<C.length)(y:Int):fG (C.take (n+1)) y=(match fG (C.take n) y with|some j=>some j|none=>if (C.getD n aI).1=38∧(C.getD n aI).2=y then some n else none):=by
 unfold fG;rw [List.take_succ_eq_append_getElem h,List.findIdx?_append,List.getD,List.getElem?_eq_getElem h,Option.getD_some];cases (C.take n).findIdx? fun x=>x.1==38&&x.2==y with
 | some j=>rfl
 | none=>
  show (List.findIdx? _ [C[n]]).map _=_;rw [List.findIdx?_singleton];by_cases hc:(C[n]).1=38∧(C[n]).2=y
  ·rw [if_pos hc,if_pos (by simp [hc.1,hc.2])];simp;omega
  rw [if_neg hc,if_neg (by simpa using hc)];rfl
theorem aJV {C:List bK}:∀ n,n≤C.length→LabOk C n
 | 0,_=>⟨tidy_empty,Nat.le_refl _,fun y=>rfl,fun y=>rfl⟩
 | n+1,h=>by
  have ih:=aJV (C:=C) n (by omega);have hm:=afR (C:=C) (n:=n) (by omega);by_cases hc:(C.getD n aI).1=38∧Maps.has (gF C n) (kI (C.getD n aI).2)=false
  ·have e:gF C (n+1)=(gF C n).put (kI (C.getD n aI).2) (mI (n:Int)):=by
    show (if _ then _ else _)=_;rw [if_pos hc]
   have hno:fG (C.take n) (C.getD n aI).2=none:=by
    have:=hc.2;rw [ih.has] at this;simpa using this
   refine ⟨by rw [e];exact ih.tidy.put (sV _) _,?_,fun y=>?_,fun y=>?_⟩
   ·rw [e,size_put ih.tidy];have:=ih.size;split<;>omega
   ·rw [e,hm y];by_cases ey:y=(C.getD n aI).2
    ·subst ey;rw [has_put_same ih.tidy.isMap (sV _),hno];show true=(if (C.getD n aI).1=38∧(C.getD n aI).2=(C.getD n aI).2 then some n else none:Option Nat).isSome;rw [if_pos ⟨hc.1,rfl⟩];rfl
    rw [has_put_other fun h'=>ey (aA7 h'),ih.has];cases fG (C.take n) y with
    | some j=>rfl
    | none=>
     show _=(if (C.getD n aI).1=38∧(C.getD n aI).2=y then some n else none:Option Nat).isSome;rw [if_neg fun hq=>ey hq.2.symm]
   rw [e,hm y];by_cases ey:y=(C.getD n aI).2
   ·subst ey;rw [atKey_put_same ih.tidy.isMap (sV _),hno];show mI (n:Int)=mI ((((if (C.getD n aI).1=38∧(C.getD n aI).2=(C.getD n aI).2 then some n else none:Option Nat)).getD 0:Nat):Int);rw [if_pos ⟨hc.1,rfl⟩];rfl
   rw [atKey_put_other (fun h'=>ey (aA7 h')),ih.at_];cases fG (C.take n) y with
   | some j=>rfl
   | none=>
    show _=mI ((((if (C.getD n aI).1=38∧(C.getD n aI).2=y then some n else none:Option Nat)).getD 0:Nat):Int);rw [if_neg fun hq=>ey hq.2.symm]
  have e:gF C (n+1)=gF C n:=by
   show (if _ then _ else _)=_;rw [if_neg hc]
  have hs:∀ y,fG (C.take (n+1)) y=fG (C.take n) y:=fun y=>by
   rw [hm y];cases hz:fG (C.take n) y with
   | some j=>rfl
   | none=>
    show (if _ then _ else _)=_;rw [if_neg];rintro ⟨h1,h2⟩;refine hc ⟨h1,?_⟩;rw [ih.has,h2,hz];rfl
  exact ⟨by rw [e];exact ih.tidy,by rw [e];have:=ih.size;omega,fun y=>by rw [e,hs y];exact ih.has y,fun y=>by rw [e,hs y];exact ih.at_ y⟩
theorem aPT (C:List bK):(∀ y,Maps.has (gF C C.length) (kI y)=(fG C y).isSome)∧∀ y,(gF C C.length).atKey (kI y) (mI 0)=mI (((fG C y).getD 0:Nat):Int):=by
 have:=aJV (C:=C) C.length (Nat.le_refl _);have h1:=this.has;have h2:=this.at_;rw [List.take_length] at h1 h2;exact ⟨h1,h2⟩
section
variable {P:Program}{o:Oper}{ρ:Operand→Av}{T k e:TypeId}{p q r:Operand}{D:DataW Unit}
def aEO (P:Program)(e:TypeId):Bool:=match P.underlying e with|some .bool=>true|_=>false
theorem aJW {P:Program}{e:TypeId}(h:aEO P e=true):P.underlying e=some .bool:=by
 unfold aEO at h;split at h
 ·rename_i hu;exact hu
 cases h
theorem aP5 {n:Nat}(E:Env)(v:Value)(h:aA E (.mp n) v):v.oneCell'=true:=by unfold aA at h;obtain ⟨⟨_,b,rfl⟩,_⟩:=h;rfl
theorem afS {n:Nat}{key v:Value}{kl:Lit}{d:DataW Unit}(K:Keyed P k)(ho:o.op=.mapUpdate T p q r∨o.op=.insert T p q r)(hp:ρ p=.mp n)(hq:ρ q=.val key)(hr':ρ r=.val v)(hT:aPA P T=some (k,e))(hkey:keyOf P k key=some kl)(hv:plainElem P e v=some (d,[]))(hs:Maps.size D<maxLen):
 OC P o ρ [(n,.map P k e D)] .any [(n,.map P k e (D.put kl d))]:=by
 intro E a hG hr hH;have h1:=hr p (by rcases ho with ho|ho<;>simp [ho,Op.operands]);have h2:=hr q (by rcases ho with ho|ho<;>simp [ho,Op.operands]);have h3:=hr r (by rcases ho with ho|ho<;>simp [ho,Op.operands]);rw [hp] at h1;rw [hq] at h2;rw [hr'] at h3;unfold aA at h1 h2 h3;obtain ⟨b,m,h4,h5⟩:=hH n (.map P k e D) (by simp);obtain ⟨w',hrun,h6,h7⟩:=(aRO h5).update K (wL hT) hs hkey hv;obtain ⟨hS,hG'⟩:=Step.turn hG h4 (aRN h5) h7;rcases ho with ho|ho<;>
 ·unfold eK execOp;simp only [ho,h1.2 b h4,h2,h3,Sem.run_bind,hrun,Result.andThen_ok,Sem.run_pure,fM];refine ⟨{ E with w:=w' },rfl,hS,hG',by unfold aA;trivial,fun i y hy=>?_⟩;simp only [aL] at hy;by_cases e1:n=i
  ·subst e1;simp at hy;subst hy;exact ⟨b,_,h4,h6⟩
  rw [eY e1,cond_false] at hy;cases hy
theorem aIH {n:Nat}{key:Value}{kl:Lit}{c:Bool}(K:Keyed P k)(hkey:keyOf P k key=some kl)(hs:Maps.size D<maxLen)(ho:o.op=.mapUpdate T p q r∨o.op=.insert T p q r:=by first|exact .inl rfl|exact .inr rfl)(hp:ρ p=.mp n:=by rfl)(hq:ρ q=.val key:=by rfl)(hr':ρ r=.val (.bool c):=by rfl)(hT:aPA P T=some (k,e):=by kernel_rfl)(he:aEO P e=true:=by kernel_rfl):
 OC P o ρ [(n,.map P k e D)] .any [(n,.map P k e (D.put kl (.lit (.bool c))))]:=afS K ho hp hq hr' hT hkey (plainElem_bool (aJW he) c) hs
theorem aPZ {n:Nat}{key:Value}{kl:Lit}{c:Bool}(K:Keyed P k)(hkey:keyOf P k key=some kl)(hat:D.atKey kl (.lit (.bool false))=.lit (.bool c))(ho:o.op=.lookup T p q false:=by rfl)(hp:ρ p=.mp n:=by rfl)(hq:ρ q=.val key:=by rfl)(hT:aPA P T=some (k,e):=by kernel_rfl)(he:aEO P e=true:=by kernel_rfl)(hz:(P.info? e).bind (·.zero)=some (.bool false):=by kernel_rfl):
 OC P o ρ [(n,.map P k e D)] (.val (.bool c)) []:=bZ fun E a hG hr hH=>by
 have h1:=hr p (by simp [ho,Op.operands]);have h2:=hr q (by simp [ho,Op.operands]);rw [hp] at h1;rw [hq] at h2;unfold aA at h1 h2;obtain ⟨b,m,h4,h5⟩:=hH n (.map P k e D) (by simp);obtain ⟨v,ps,hrun,hv⟩:=h5.lookup K (wL hT) (aJQ hz E.w) (plainElem_bool (aJW he) false) hkey;rw [hat] at hv;have e0:v=.bool c:=by
  unfold plainElem at hv;rw [aJW he] at hv;cases v<;>simp at hv
  rw [hv.1]
 subst e0;refine ⟨.bool c,?_,by unfold aA;rfl⟩;unfold execOp;simp only [ho,h1.2 b h4,h2,Sem.run_bind,hrun,Result.andThen_ok,Sem.run_pure]
theorem ab9 {n:Nat}(ho:o.op=.call { callee:=.builtin .len,args:=#[p],argTypes:=#[T] }:=by rfl)(hp:ρ p=.mp n:=by rfl)(hT:aPA P T=some (k,e):=by kernel_rfl):OC P o ρ [(n,.map P k e D)] (.val (.int .i64 (Maps.size D))) []:=bZ fun E a hG hr hH=>by
 have h1:=hr p (by simp [ho,Op.operands,Call.operands]);rw [hp] at h1;unfold aA at h1;obtain ⟨b,m,h4,h5⟩:=hH n (.map P k e D) (by simp);refine ⟨.int .i64 (Maps.size D),?_,by unfold aA;rfl⟩;have hl:=h5.len (wL hT) o.type;simp only [execOp,ho,resolve,invoke,builtin,h1.2 b h4,Sem.run_bind,Sem.run_pure,Result.andThen_ok,List.map_toArray,List.map_cons,List.map_nil];rw [hl];rfl
end
def aDN:DataW Unit:=.lit (.bool true)
def jC (l:List Int):DataW Unit:=l.foldl (fun D z=>D.put (kI z) aDN) (.map [])
def kB (l:List Int):DataW Unit:=(l.zipIdx).foldl (fun D z=>D.put (kI z.1) (mI ((z.2:Nat):Int))) (.map [])
theorem aIF (l:List Int)(z:Int):jC (l++[z])=(jC l).put (kI z) aDN:=by unfold jC;rw [List.foldl_append];rfl
theorem aIE (l:List Int)(z:Int):kB (l++[z])=(kB l).put (kI z) (mI ((l.length:Nat):Int)):=by
 unfold kB;rw [List.zipIdx_append,List.foldl_append];simp
theorem aRX {M:List Int→Prop}(h0:M [])(h1:∀ l x,M l→M (l++[x]))(l:List Int):M l:=by
 have h:∀ r:List Int,M r.reverse:=fun r=>by
  induction r with
  | nil=>exact h0
  | cons x r ih=>rw [List.reverse_cons];exact h1 _ _ ih
 have:=h l.reverse;rwa [List.reverse_reverse] at this
def rQ (l:List Int)(z:Int):Nat:=if z∈l then l.idxOf z else 0
theorem aDM (l:List Int):Tidy (jC l)∧Maps.size (jC l)≤l.length∧∀ z,(jC l).atKey (kI z) (.lit (.bool false))=.lit (.bool (decide (z∈l))):=by
 refine aRX (M:=fun l=>Tidy (jC l)∧Maps.size (jC l)≤l.length∧∀ z,(jC l).atKey (kI z) (.lit (.bool false))=.lit (.bool (decide (z∈l)))) ⟨tidy_empty,Nat.le_refl _,fun z=>rfl⟩ (fun l x ih=>?_) l;obtain ⟨i1,i2,i3⟩:=ih;rw [aIF];refine ⟨i1.put (sV _) _,?_,fun z=>?_⟩
 ·rw [size_put i1,List.length_append];split<;>simp<;>omega
 by_cases ez:z=x
 ·subst ez;rw [atKey_put_same i1.isMap (sV _)];simp [aDN]
 rw [atKey_put_other (fun h'=>ez (aA7 h')),i3];simp [ez]
theorem aP0 (l:List Int)(h:l.Nodup):Tidy (kB l)∧Maps.size (kB l)=l.length∧(∀ z,Maps.has (kB l) (kI z)=decide (z∈l))∧∀ z,(kB l).atKey (kI z) (mI 0)=mI ((rQ l z:Nat):Int):=by
 revert h
 refine aRX (M:=fun l=>l.Nodup→Tidy (kB l)∧Maps.size (kB l)=l.length∧(∀ z,Maps.has (kB l) (kI z)=decide (z∈l))∧∀ z,(kB l).atKey (kI z) (mI 0)=mI ((rQ l z:Nat):Int)) (fun _=>⟨tidy_empty,rfl,fun z=>rfl,fun z=>rfl⟩) (fun l x ih h=>?_) l;rw [List.nodup_append] at h;obtain ⟨i1,i2,i3,i4⟩:=ih h.1;have hx:x∉l:=fun hx=>h.2.2 x hx x (by simp) rfl;rw [aIE];refine ⟨i1.put (sV _) _,?_,fun z=>?_,fun z=>?_⟩
 ·rw [size_put i1,i3,List.length_append,i2];simp [hx]
 ·by_cases ez:z=x
  ·subst ez;rw [has_put_same i1.isMap (sV _)];simp
  rw [has_put_other fun h'=>ez (aA7 h'),i3];simp [ez]
 by_cases ez:z=x
 ·subst ez;rw [atKey_put_same i1.isMap (sV _)];unfold rQ;rw [if_pos (by simp),List.idxOf_append,if_neg hx];simp
 rw [atKey_put_other (fun h'=>ez (aA7 h')),i4];unfold rQ;by_cases hz:z∈l
 ·rw [if_pos hz,if_pos (by simp [hz]),List.idxOf_append,if_pos hz]
 rw [if_neg hz,if_neg (by simp [hz,ez])]
def uE:List Int:=[1,3,4,5,6,7,8,12,13,14,15,16,19,21,24,25,26,32,33,38]
def vY (n:Int):Int:=if n=0 then 0 else if -128≤n∧n≤127 then 1 else 2
def vZ (c:Int):Int:=if c<128 then c else c-256
def nK (xs:List Int)(a:Nat):Nat→Int
 | 0=>0
 | k+1=>if k=0 then vZ (xs.getD (0+(a+1)) 0) else nK xs a k*256+xs.getD (k+(a+1)) 0
def iI (xs:List Int)(a:Nat):Int:=xs.getD a 0/4
def fF (xs:List Int)(a:Nat):Nat:=(xs.getD a 0%4).toNat
def cO (xs:List Int)(a:Nat):bK × Nat × Nat:=
 if ¬ a<xs.length then ((0,0),0,2)
 else if ((¬ (1≤iI xs a∧iI xs a≤38)∨iI xs a=38)∨fF xs a=3)∨0<fF xs a∧iI xs a∉uE then ((0,0),0,16)
 else if xs.length<a+1+fF xs a then ((0,0),0,2)
 else if (vY (nK xs a (fF xs a))≠fF xs a∧iI xs a≠24)∧iI xs a≠25 then ((0,0),0,4)
 else ((iI xs a,nK xs a (fF xs a)),a+1+fF xs a,0)
abbrev fR:=Nat × bK × Nat
def jB (xs:List Int):Nat→Nat→List fR→List fR × Nat
 | 0,_,L=>(L,0)
 | f+1,a,L=>if a<xs.length then (if (cO xs a).2.2≠0 then ([],(cO xs a).2.2) else jB xs f (cO xs a).2.1 (L++[(a,(cO xs a).1,(cO xs a).2.1)])) else (L,0)
def nL (x:bK):Bool:=x.1==24||x.1==25
def aX (L:List fR):List Int:=(L.filter fun e=>nL e.2.1).map fun e=>(e.2.2:Int)+e.2.1.2
def mQ (xs:List Int)(L:List fR):List Int:=(xs.length:Int)::L.map fun e=>(e.1:Int)
def bD (xs:List Int)(L:List fR):List Int:=(L.map fun e=>(e.1:Int))++[(xs.length:Int)]
def cE (T P:List Int):List Int:=P.filter fun z=>decide (z∈T)
def jQ (T N:List Int)(z:Int):List bK:=if z∈T then [(38,(N.length:Int))] else []
def xP (T N:List Int)(z:Int):List Int:=if z∈T then N++[z] else N
def mR (e:fR):bK:=(e.2.1.1,if nL e.2.1 then e.2.1.2+(e.2.2:Int) else e.2.1.2)
def kH (T:List Int)(P:List Int)(L:List fR):Nat→List bK
 | 0=>[]
 | k+1=>kH T P L k++jQ T (cE T (P.take k)) (P.getD k 0)++[mR (L.getD k (0,aI,0))]
def dH (xs:List Int)(L:List fR):List bK:=kH (aX L) (bD xs L) L L.length++jQ (aX L) (cE (aX L) ((bD xs L).take L.length)) (xs.length:Int)
def rP (N:List Int)(x:bK):bK:=(x.1,if nL x then (rQ N x.2:Int) else x.2)
def gP (xs:List Int):List bK × Nat:=
 let L:=(jB xs xs.length 0 []).1
 if (jB xs xs.length 0 []).2≠0 then ([],(jB xs xs.length 0 []).2)
 else if ∃ t∈aX L,t∉mQ xs L then ([],5)
 else ((dH xs L).map (rP (cE (aX L) (bD xs L))),0)
theorem aPG (T:List Int){P:List Int}{k:Nat}(h:k<P.length):cE T (P.take (k+1))=xP T (cE T (P.take k)) (P.getD k 0):=by
 unfold cE xP;rw [List.take_succ_eq_append_getElem h,List.filter_append,List.getD,List.getElem?_eq_getElem h,Option.getD_some,List.filter_cons];by_cases hc:P[k]∈T
 ·simp [hc]
 simp [hc]
theorem aH0 {T P:List Int}(h:P.Nodup)(k:Nat):(cE T (P.take k)).Nodup:=(h.sublist (List.take_sublist k P)).sublist (List.filter_sublist)
theorem aDC (T P:List Int)(k:Nat):(cE T (P.take k)).length≤k:=Nat.le_trans (List.length_filter_le _ _) (by rw [List.length_take];omega)
theorem aDD (T N:List Int)(z:Int):(jQ T N z).length≤1:=by unfold jQ;split<;>simp
theorem aDE (T P:List Int)(L:List fR):∀ k,(kH T P L k).length≤2*k
 | 0=>Nat.le_refl _
 | k+1=>by
  have:=aDE T P L k;have h2:=aDD T (cE T (P.take k)) (P.getD k 0);unfold kH;rw [List.length_append,List.length_append];simp only [List.length_cons,List.length_nil];omega
theorem aa1 (n:Int):IntKind.i8.wrap n=(n+128)%256-128:=by simp only [IntKind.wrap,IntKind.bits,IntKind.signed];simp;split<;>omega
theorem aa2 (a y:Int)(ha:-128≤a∧a≤127)(hy:0≤y∧y<256):bits .or .i64 (a*256) y=a*256+y:=by
 show IntKind.i64.wrap ((BitVec.ofInt 64 (a*256)||| BitVec.ofInt 64 y).toNat:Int)=_;have h64:((2^64:Nat):Int)=18446744073709551616:=by decide
 rw [BitVec.toNat_or,BitVec.toNat_ofInt,BitVec.toNat_ofInt,IntKind.wrap_i64,h64];have h1:(a*256%18446744073709551616).toNat=2^8*(a%72057594037927936).toNat:=by omega
 have h2:(y%18446744073709551616).toNat=y.toNat:=by omega
 rw [h1,h2,aH1 _ _ _ (by omega)];omega
theorem aH2 {xs:List Int}(h:dF xs)(j:Nat):Av.val (.int .i64 (IntKind.i64.wrap (xs.getD j 0)))=vi (xs.getD j 0):=by rw [aFI _ (by have:=h j;omega) (by have:=h j;omega)]
theorem aa3 {xs:List Int}(h:dF xs)(a:Nat):Av.val (.int .i64 (IntKind.i64.wrap ((xs.getD a 0).tdiv 4)))=vi (iI xs a):=by
 have h1:=h a;unfold iI;rw [Int.tdiv_eq_ediv_of_nonneg h1.1,aFI _ (by omega) (by omega)]
theorem aa4 {xs:List Int}(h:dF xs)(a:Nat):Av.val (.int .i64 ((xs.getD a 0).tmod 4))=vi ((fF xs a:Nat):Int):=by
 have h1:=h a;unfold fF;rw [Int.tmod_eq_emod_of_nonneg h1.1,Int.toNat_of_nonneg (by omega)]
theorem aa5 {xs:List Int}(h:dF xs)(j:Nat):Av.val (.int .i64 (IntKind.i64.wrap (IntKind.i8.wrap (xs.getD j 0))))=vi (vZ (xs.getD j 0)):=by
 have h1:=h j;rw [aa1,aFI _ (by omega) (by omega)];unfold vZ;split<;>congr 2<;>omega
theorem aa6 {a:Int}(h:-128≤a∧a≤127):Av.val (.int .i64 (IntKind.i64.wrap (a*2^(min (8:Int).toNat IntKind.i64.bits))))=vi (a*256):=by
 rw [show (2:Int)^(min (8:Int).toNat IntKind.i64.bits)=256 from by decide,aFI _ (by omega) (by omega)]
theorem or8 {a y:Int}(ha:-128≤a∧a≤127)(hy:0≤y∧y<256):Av.val (.int .i64 (bits .or .i64 (a*256) y))=vi (a*256+y):=by rw [aa2 a y ha hy]
theorem aa8 {c:Int}(h:0≤c∧c<256):-128≤vZ c∧vZ c≤127:=by unfold vZ;split<;>omega
theorem aPH {xs:List Int}(h:dF xs)(a:Nat):∀ k,k≤2→-32768≤nK xs a k∧nK xs a k≤32767∧(k=1→-128≤nK xs a k∧nK xs a k≤127):=fun k hk=>by
 have h1:=aa8 (h (0+(a+1)));have h2:=h (1+(a+1));have e1:nK xs a 1=vZ (xs.getD (0+(a+1)) 0):=rfl;have e2:nK xs a 2=nK xs a 1*256+xs.getD (1+(a+1)) 0:=rfl;have h3:k=0∨k=1∨k=2:=by omega
 rcases h3 with rfl|rfl|rfl
 ·exact ⟨(by decide:(-32768:Int)≤0),(by decide:(0:Int)≤32767),fun h=>by omega⟩
 ·rw [e1];omega
 rw [e2,e1];omega
theorem aPI (xs:List Int)(a:Nat):fF xs a<4:=by unfold fF;omega
theorem aPJ {xs:List Int}(hb:dF xs){a:Nat}(h:(cO xs a).2.2=0):a<(cO xs a).2.1∧(cO xs a).2.1≤xs.length∧(-32768≤(cO xs a).1.2∧(cO xs a).1.2≤32767)∧(cO xs a).1.1≠38:=by
 have hn:=aPI xs a;unfold cO at h ⊢;split at h
 ·cases h
 rename_i h0;rw [if_neg h0];split at h
 ·cases h
 rename_i h1;rw [if_neg h1];split at h
 ·cases h
 rename_i h2;rw [if_neg h2];split at h
 ·cases h
 rename_i h3;rw [if_neg h3];have h4:=aPH hb a (fF xs a) (by omega);refine ⟨by show a<a+1+fF xs a;omega,by show a+1+fF xs a≤_;omega,⟨h4.1,h4.2.1⟩,fun e=>h1 (.inl (.inl (.inr e)))⟩
def oN (n:Nat):Nat→List fR→Nat→Prop
 | s,[],e=>s=e
 | s,x::l,e=>x.1=s∧s<x.2.2∧x.2.2≤n∧(-32768≤x.2.1.2∧x.2.1.2≤32767)∧x.2.1.1≠38∧oN n x.2.2 l e
theorem aH3 {n:Nat}:∀ {s:Nat} {l:List fR} {e:Nat} {x:fR},oN n s l e→x.1=e→e<x.2.2→x.2.2≤n→(-32768≤x.2.1.2∧x.2.1.2≤32767)→x.2.1.1≠38→oN n s (l++[x]) x.2.2
 | s,[],e,x,h,h1,h2,h3,h4,h5=>by
  have h:s=e:=h;subst h;exact ⟨h1,h2,h3,h4,h5,rfl⟩
 | s,y::l,e,x,h,h1,h2,h3,h4,h5=>⟨h.1,h.2.1,h.2.2.1,h.2.2.2.1,h.2.2.2.2.1,aH3 h.2.2.2.2.2 h1 h2 h3 h4 h5⟩
theorem aH4 {n:Nat}:∀ {s:Nat} {l:List fR} {e:Nat},oN n s l e→s+l.length≤e
 | s,[],e,h=>by have h:s=e:=h;simp;omega
 | s,y::l,e,h=>by have:=aH4 h.2.2.2.2.2;have:=h.2.1;simp;omega
theorem aDF {n:Nat}:∀ {s:Nat} {l:List fR} {e:Nat},oN n s l e→∀ k,k<l.length→((l.map fun x=>(x.1:Int))++[(e:Int)]).getD k 0=((l.getD k (0,aI,0)).1:Int)∧((l.map fun x=>(x.1:Int))++[(e:Int)]).getD (k+1) 0=((l.getD k (0,aI,0)).2.2:Int)∧(l.getD k (0,aI,0)).2.2≤n∧(-32768≤(l.getD k (0,aI,0)).2.1.2∧(l.getD k (0,aI,0)).2.1.2≤32767)∧(l.getD k (0,aI,0)).1<(l.getD k (0,aI,0)).2.2
 | s,y::l,e,h,0,hk=>by
  refine ⟨rfl,?_,h.2.2.1,h.2.2.2.1,by have:=h.1;have:=h.2.1;show y.1<y.2.2;omega⟩;cases l with
  | nil=>have h2:y.2.2=e:=h.2.2.2.2.2;simp [h2]
  | cons z l=>have h2:=h.2.2.2.2.2.1;simp [h2]
 | s,y::l,e,h,k+1,hk=>by
  have:=aDF h.2.2.2.2.2 k (by simpa using hk);simpa using this
theorem aPK {n:Nat}:∀ {s:Nat} {l:List fR} {e:Nat},oN n s l e→(((l.map fun x=>(x.1:Int))++[(e:Int)]).Nodup∧∀ z∈(l.map fun x=>(x.1:Int))++[(e:Int)],(s:Int)≤z)
 | s,[],e,h=>by have h:s=e:=h;subst h;simp
 | s,y::l,e,h=>by
  obtain ⟨h1,h2⟩:=aPK h.2.2.2.2.2;have h3:=h.2.1;have h4:=h.1;refine ⟨?_,fun z hz=>?_⟩
  ·rw [List.map_cons,List.cons_append,List.nodup_cons];exact ⟨fun hz=>by have:=h2 _ hz;omega,h1⟩
  rw [List.map_cons,List.cons_append] at hz;rcases List.mem_cons.1 hz with rfl|hz
  ·omega
  have:=h2 z hz;omega
theorem aH5 {xs:List Int}(hb:dF xs):∀ (f a:Nat) (L:List fR),oN xs.length 0 L a→a≤xs.length→xs.length≤a+f→(jB xs f a L).2=0→oN xs.length 0 (jB xs f a L).1 xs.length
 | 0,a,L,h,h1,h2,_=>by
  have:a=xs.length:=by omega
  subst this;exact h
 | f+1,a,L,h,h1,h2,he=>by
  unfold jB at he ⊢;by_cases hc:a<xs.length
  ·rw [if_pos hc] at he ⊢;by_cases hd:(cO xs a).2.2≠0
   ·rw [if_pos hd] at he;exact absurd he hd
   rw [if_neg hd] at he ⊢;have hd:(cO xs a).2.2=0:=Classical.not_not.1 hd;obtain ⟨g1,g2,g3,g4⟩:=aPJ hb hd;exact aH5 hb f _ _ (aH3 (x:=(a,(cO xs a).1,(cO xs a).2.1)) h rfl g1 g2 g3 g4) g2 (by omega) he
  rw [if_neg hc];have:a=xs.length:=by omega
  subst this;exact h
theorem aa9 {L:List fR}{k:Nat}(h:k<L.length):aX (L.take (k+1))=if nL (L.getD k (0,aI,0)).2.1 then aX (L.take k)++[((L.getD k (0,aI,0)).2.2:Int)+(L.getD k (0,aI,0)).2.1.2] else aX (L.take k):=by
 unfold aX;rw [List.take_succ_eq_append_getElem h,List.filter_append,List.getD,List.getElem?_eq_getElem h,Option.getD_some,List.filter_cons];split<;>simp
theorem abA (L:List fR):(aX L).length≤L.length:=by unfold aX;rw [List.length_map];exact List.length_filter_le _ _
theorem abB {L:List fR}{k:Nat}(h:k<L.length)(ha:nL (L.getD k (0,aI,0)).2.1=true):((L.getD k (0,aI,0)).2.2:Int)+(L.getD k (0,aI,0)).2.1.2∈aX L:=by
 unfold aX;rw [List.getD,List.getElem?_eq_getElem h,Option.getD_some] at *;exact List.mem_map.2 ⟨L[k],List.mem_filter.2 ⟨List.getElem_mem h,ha⟩,rfl⟩
theorem aDG {α β:Type}(f:α→β)(d:α)(d':β){l:List α}{k:Nat}(h:k<l.length):(l.map f).getD k d'=f (l.getD k d):=by
 rw [List.getD,List.getD,List.getElem?_map,List.getElem?_eq_getElem h];rfl
def eW (N:List Int)(out:List bK):Nat→List bK
 | 0=>out
 | k+1=>(eW N out k).set k (rP N (out.getD k aI))
theorem sR (N:List Int)(out:List bK):∀ k,(eW N out k).length=out.length
 | 0=>rfl
 | k+1=>by unfold eW;rw [List.length_set,sR N out k]
theorem aDH (N:List Int)(out:List bK):∀ k j,(eW N out k).getD j aI=if j<k∧j<out.length then rP N (out.getD j aI) else out.getD j aI
 | 0,j=>by rw [if_neg (by omega)];rfl
 | k+1,j=>by
  unfold eW;by_cases hj:j<out.length
  ·rw [List.getD,List.getElem?_set];by_cases e:k=j
   ·subst e;rw [if_pos rfl,if_pos (by rw [sR];exact hj),if_pos ⟨by omega,hj⟩];rfl
   rw [if_neg e];have:=aDH N out k j;rw [List.getD] at this;rw [this];by_cases h2:j<k
   ·rw [if_pos ⟨h2,hj⟩,if_pos ⟨by omega,hj⟩]
   rw [if_neg (by omega),if_neg (by omega)]
  rw [if_neg (by omega),List.getD,List.getElem?_eq_none (by rw [List.length_set,sR];omega),List.getD,List.getElem?_eq_none (by omega)]
theorem abC (N:List Int)(out:List bK):eW N out out.length=out.map (rP N):=by
 refine List.ext_getElem (by rw [sR,List.length_map]) fun j h1 h2=>?_;have h3:=aDH N out out.length j;rw [sR] at h1;rw [if_pos ⟨h1,h1⟩,List.getD,List.getElem?_eq_getElem (by rw [sR];exact h1),List.getD,List.getElem?_eq_getElem h1] at h3;rw [List.getElem_map];exact h3
theorem abD {N:List Int}{out:List bK}{k:Nat}(h:k<out.length)(ha:nL (out.getD k aI)=false):eW N out (k+1)=eW N out k:=by
 have e:rP N (out.getD k aI)=(eW N out k).getD k aI:=by
  rw [aDH,if_neg (by omega)];unfold rP;rw [ha];rfl
 show (eW N out k).set k (rP N (out.getD k aI))=eW N out k;rw [e,List.getD,List.getElem?_eq_getElem (by rw [sR];exact h)];exact List.set_getElem_self _
theorem abE {l:List bK}{k:Nat}(h:k<l.length):((cT l).drop (k*2)).take 2=[vi (l.getD k aI).1,vi (l.getD k aI).2]:=by
 have h1:=aH6 h;have h2:=aH7 h;have hl:=oO l;rw [List.getElem?_eq_getElem (by omega)] at h1 h2;injection h1 with h1
 injection h2 with h2
 rw [List.drop_eq_getElem_cons (by omega),List.drop_eq_getElem_cons (by omega),h1,h2];rfl
theorem abF {l:List bK}{k:Nat}{v:Int}:(cT l).set (k*2+1) (vi v)=cT (l.set k ((l.getD k aI).1,v)):=by
 revert k
 induction l with
 | nil=>intro k;rfl
 | cons x l ih=>
  intro k;cases k with
  | zero=>rfl
  | succ k=>
   show (vi x.1::vi x.2::cT l).set ((k+1)*2+1) (vi v)=vi x.1::vi x.2::cT (l.set k _);rw [show (k+1)*2+1=(k*2+1)+1+1 from by omega,List.set_cons_succ,List.set_cons_succ,ih];rfl
theorem abG {n:Nat}{l:List fR}{e:Nat}(h:oN n 0 l e):((l.map fun x=>(x.1:Int))++[(e:Int)]).getD 0 0=0:=by
 cases l with
 | nil=>have h:0=e:=h;subst h;rfl
 | cons x l=>have h1:=h.1;show ((x.1:Nat):Int)=0;omega
theorem abH {n:Nat}{L:List fR}{e:Nat}(h:oN n 0 L e){k:Nat}(hk:k<L.length):-32768≤(mR (L.getD k (0,aI,0))).2∧(mR (L.getD k (0,aI,0))).2≤32767+(n:Int):=by
 obtain ⟨_,_,h1,h2,_⟩:=aDF h k hk;unfold mR;generalize L.getD k (0,aI,0)=e at *;rcases Bool.eq_false_or_eq_true (nL e.2.1) with ha|ha<;>rw [ha]<;>simp<;>omega
theorem aPL {T N:List Int}{z:Int}{n:Nat}(h:N.length≤n):∀ x∈jQ T N z,0≤x.2∧x.2≤n:=fun x hx=>by
 unfold jQ at hx;split at hx
 ·rw [List.mem_singleton] at hx;subst hx;show (0:Int)≤N.length∧(N.length:Int)≤n;omega
 cases hx
theorem aPM {n:Nat}{L:List fR}{e:Nat}(h:oN n 0 L e)(hL:L.length≤n)(T P:List Int):∀ k,k≤L.length→∀ x∈kH T P L k,-32768≤x.2∧x.2≤32767+(n:Int)
 | 0,_,x,hx=>by cases hx
 | k+1,hk,x,hx=>by
  unfold kH at hx;rcases List.mem_append.1 hx with hx|hx
  ·rcases List.mem_append.1 hx with hx|hx
   ·exact aPM h hL T P k (by omega) x hx
   have:=aPL (n:=n) (Nat.le_trans (aDC T P k) (by omega)) x hx;omega
  rw [List.mem_singleton] at hx;subst hx;exact abH h (by omega)
theorem aPN {xs:List Int}{L:List fR}(h:oN xs.length 0 L xs.length)(hL:L.length≤xs.length):∀ x∈dH xs L,-32768≤x.2∧x.2≤32767+(xs.length:Int):=fun x hx=>by
 unfold dH at hx;rcases List.mem_append.1 hx with hx|hx
 ·exact aPM h hL _ _ _ (Nat.le_refl _) x hx
 have:=aPL (n:=xs.length) (Nat.le_trans (aDC _ _ _) hL) x hx;omega
theorem aPO {l:List bK}{a b:Int}(ha:a≤0)(hb:0≤b)(h:∀ x∈l,a≤x.2∧x.2≤b)(k:Nat):a≤(l.getD k aI).2∧(l.getD k aI).2≤b:=by
 rcases Nat.lt_or_ge k l.length with hk|hk
 ·rw [List.getD,List.getElem?_eq_getElem hk];exact h _ (List.getElem_mem hk)
 rw [List.getD,List.getElem?_eq_none hk];exact ⟨ha,hb⟩
theorem abI (xs:List Int)(L:List fR):(dH xs L).length≤2*L.length+1:=by
 unfold dH;have h1:=aDE (aX L) (bD xs L) L L.length;have h2:=aDD (aX L) (cE (aX L) ((bD xs L).take L.length)) (xs.length:Int);rw [List.length_append];omega
theorem abJ (N:List Int)(z:Int):rQ N z≤N.length:=by
 unfold rQ;split
 ·exact List.idxOf_le_length
 exact Nat.zero_le _
theorem abK {xs:List Int}(hb:dF xs)(h:(jB xs xs.length 0 []).2=0):(jB xs xs.length 0 []).1.length≤xs.length:=by
 have:=aH4 (aH5 hb xs.length 0 [] rfl (Nat.zero_le _) (by omega) h);omega
theorem abL {xs:List Int}(hb:dF xs):(gP xs).1.length≤2*xs.length+1∧∀ k,-32768≤((gP xs).1.getD k aI).2∧((gP xs).1.getD k aI).2≤32768+(xs.length:Int):=by
 unfold gP;dsimp only;split
 ·exact ⟨Nat.zero_le _,fun k=>by simp [aI];omega⟩
 rename_i h0;have h0:=Classical.not_not.1 h0;have hl:=abK hb h0;have hc:=aH5 hb xs.length 0 [] rfl (Nat.zero_le _) (by omega) h0;split
 ·exact ⟨Nat.zero_le _,fun k=>by simp [aI];omega⟩
 have hol:=abI xs (jB xs xs.length 0 []).1;refine ⟨by show (List.map _ _).length≤_;rw [List.length_map];omega,aPO (by omega) (by omega) fun x hx=>?_⟩;obtain ⟨y,hy,rfl⟩:=List.mem_map.1 hx;have h1:=aPN hc hl y hy;unfold rP;show -32768≤(if _ then _ else _)∧(if _ then _ else _)≤_;split
 ·have h2:=abJ (cE (aX (jB xs xs.length 0 []).1) (bD xs (jB xs xs.length 0 []).1)) y.2;have h3:(cE (aX (jB xs xs.length 0 []).1) (bD xs (jB xs xs.length 0 []).1)).length≤(bD xs (jB xs xs.length 0 []).1).length:=List.length_filter_le _ _;have h4:(bD xs (jB xs xs.length 0 []).1).length=(jB xs xs.length 0 []).1.length+1:=by simp [bD]
  omega
 omega
end Go.Proofs.YtgajclaoaphgoaaGreatDoor
namespace Go.Proofs.YtgajclaoaphgoaaGreatDoor
open Go.RowKit
theorem abM (s:ByteArray):s.size≤(aY s).length:=by
 unfold aY jZ;rw [List.length_append,List.length_map,Array.length_toList];show s.size≤_+s.size;omega
def aJ {α:Type}(e:α→List Int)(l:List α):List Int:=aC (l.length:Int)++l.flatMap e
def gQ (b:Bool):List Int:=cQ (bif b then 1 else 0)
def kQ (x:SlotP):List Int:=cQ x.kind++aJ aY x.words
def pK (l:List SlotP):List Int:=aJ kQ l
def gR (y:WayP):List Int:=cQ y.dir++aC y.goal++aC (y.cond+1)++aC (y.els+1)
def fS (x:VerbP):List Int:=gQ x.meta_++aJ pK x.lines
theorem aPP (zs:List Int)(b:Bool)(hz:zs.length≤100000000):FC Tryz.prog 75 [.own 0 0,vb b] [(0,.live 59 [bs (zs)])] .any [(0,.live 59 [bs (zs++gQ b)])]:=by
 refine FB 1 9 Tryz.func75 ?_;refine Gd (fun hb=>?_) fun hb=>?_
 ·subst hb;refine G ?_;refine aZ rfl rfl (dB [] rfl (by kernel_rfl) ((zV zs 1 hz).m) rfl (by simp) (by simp [bQ]) (by simp) (by simp) (dU (by simp)) bH (by simp [aH]) bH) ⟨rfl,trivial⟩ ?_;refine G ?_;exact ⟨.inr rfl,iN rfl,⟨rfl,trivial⟩⟩
 subst hb;refine G ?_;refine aZ rfl rfl (dB [] rfl (by kernel_rfl) ((zV zs 0 hz).m) rfl (by simp) (by simp [bQ]) (by simp) (by simp) (dU (by simp)) bH (by simp [aH]) bH) ⟨rfl,trivial⟩ ?_;refine G ?_;exact ⟨.inr rfl,iN rfl,⟨rfl,trivial⟩⟩
theorem xQ (zs:List Int)(n:Int)(hz:zs.length≤100000000)(hn:n≤1000000000000000)(hn0:-1000000000000000≤n):FC Tryz.prog 74 [.own 0 0,vi n] [(0,.live 59 [bs (zs)])] .any [(0,.live 59 [bs (zs++aC (n+1))])]:=by
 refine FB 1 8 Tryz.func74 ?_;refine G ?_;refine aZ rfl rfl (dB [] rfl (by kernel_rfl) ((lL zs (n+1) hz (by omega)).m) rfl (by simp) (by simp [bQ]) (by simp) (by simp) (dU (by simp)) bH (by simp [aH]) bH) ⟨rfl,trivial⟩ ?_;refine G ?_;exact ⟨.inr rfl,iN rfl,⟨rfl,trivial⟩⟩
theorem abN (zs:List Int)(l:List SlotP)(K:Nat)(e:SlotP→List Int)(hK:dN Tryz.prog K=true)(hz:(zs++aC (l.length:Int)++l.flatMap e).length≤100000000)(hp:∀ ys:List Int,ys.length≤100000000→∀ x∈l,(ys++e x).length≤100000000→FC Tryz.prog K [.own 0 0,lJ x] [(0,.live 59 [bs (ys)])] .any [(0,.live 59 [bs (ys++e x)])]):FC Tryz.prog 140 [.own 0 0,fQ l,.bm K [.own 0 0]] [(0,.live 59 [bs (zs)])] .any [(0,.live 59 [bs (zs++aC (l.length:Int)++l.flatMap e)])]:=by
 refine FB 2 22 Tryz.func140 ?_;refine aD ?_;refine dM (t:=1) (x:=fQ l) rfl eR fun hf=>?_;have hz0:zs.length≤100000000:=by simp only [List.length_append] at hz;omega
 refine G ?_;refine aZ rfl rfl (dB [] rfl (by kernel_rfl) ((lL zs (l.length:Int) hz0 (by omega)).m) rfl (by simp) (by simp [bQ]) (by simp) (by simp) (dU (by simp)) bH (by simp [aH]) bH) ⟨rfl,trivial⟩ ?_;refine G ?_;refine bM (ι:=Nat) (fun k=>⟨[(2,.bm K [.own 0 0]),(12,fQ l),(13,vi (l.length:Int)),(14,vi k)],[(0,.live 59 [bs (zs++aC (l.length:Int)++(l.take k).flatMap e)]),(1,.unborn)]⟩) (fun k=>k≤l.length) (fun k=>l.length-k) 0 (Nat.zero_le _) (Le.sub ⟨.inr rfl,.inr rfl,.inr rfl,.inr rfl,trivial⟩ ⟨by simp only [List.take_zero,List.flatMap_nil,List.append_nil];rfl,rfl,trivial⟩) ?_
 intro k hI;refine Gd (fun hb=>?_) fun hb=>?_
 ·have hlt:k<l.length:=by have h0:=of_decide_eq_true hb;omega
  have hq:=uF (zs:=zs++aC (l.length:Int)) (e:=e) hz hlt (d:=cH);refine G ?_;refine aZ rfl rfl (sS [] rfl rfl hK ((hp _ hq.1 (l.getD k cH) (kY hlt) hq.2).m) rfl (by simp) (by simp [bQ]) (by simp) (by simp) (dU (by simp)) bH (by simp [aH]) bH) ⟨rfl,trivial⟩ ?_;refine cn ?_;refine tx ?_;refine Z1 ba ?_;refine Z1 mo ?_;refine cn ?_;refine ⟨k+1,by omega,by omega,?_⟩;rw [show zs++aC (l.length:Int)++(l.take (k+1)).flatMap e=zs++aC (l.length:Int)++(l.take k).flatMap e++e (l.getD k cH) from by rw [mS (d:=cH) _ hlt,←List.append_assoc]]
  exact Le.reset [1] (by simp) ⟨.inr rfl,.inr rfl,.inr rfl,.inr (aR (by omega)),trivial⟩ ⟨by simp [aE,dL],aE.of_pure _ Pu.out,aE.of_pure _ Pu.out,aE.of_pure _ Pu.out,trivial⟩ ⟨by rw [if_neg (by decide)];exact ⟨rfl,fun z hz=>by rw [List.mem_singleton] at hz;subst hz;exact aE.of_pure _ (oP _)⟩,by rw [if_pos (by decide)],trivial⟩
 have hge:k=l.length:=by have h0:=of_decide_eq_false hb;omega
 refine G ?_;exact ⟨.inr rfl,iN rfl,⟨by subst hge;rw [List.take_length];rfl,trivial⟩⟩
theorem abO (zs:List Int)(l:List WayP)(K:Nat)(e:WayP→List Int)(hK:dN Tryz.prog K=true)(hz:(zs++aC (l.length:Int)++l.flatMap e).length≤100000000)(hp:∀ ys:List Int,ys.length≤100000000→∀ x∈l,(ys++e x).length≤100000000→FC Tryz.prog K [.own 0 0,oQ x] [(0,.live 59 [bs (ys)])] .any [(0,.live 59 [bs (ys++e x)])]):FC Tryz.prog 76 [.own 0 0,kZ l,.bm K [.own 0 0]] [(0,.live 59 [bs (zs)])] .any [(0,.live 59 [bs (zs++aC (l.length:Int)++l.flatMap e)])]:=by
 refine FB 2 22 Tryz.func76 ?_;refine aD ?_;refine dM (t:=1) (x:=kZ l) rfl eR fun hf=>?_;have hz0:zs.length≤100000000:=by simp only [List.length_append] at hz;omega
 refine G ?_;refine aZ rfl rfl (dB [] rfl (by kernel_rfl) ((lL zs (l.length:Int) hz0 (by omega)).m) rfl (by simp) (by simp [bQ]) (by simp) (by simp) (dU (by simp)) bH (by simp [aH]) bH) ⟨rfl,trivial⟩ ?_;refine G ?_;refine bM (ι:=Nat) (fun k=>⟨[(2,.bm K [.own 0 0]),(12,kZ l),(13,vi (l.length:Int)),(14,vi k)],[(0,.live 59 [bs (zs++aC (l.length:Int)++(l.take k).flatMap e)]),(1,.unborn)]⟩) (fun k=>k≤l.length) (fun k=>l.length-k) 0 (Nat.zero_le _) (Le.sub ⟨.inr rfl,.inr rfl,.inr rfl,.inr rfl,trivial⟩ ⟨by simp only [List.take_zero,List.flatMap_nil,List.append_nil];rfl,rfl,trivial⟩) ?_
 intro k hI;refine Gd (fun hb=>?_) fun hb=>?_
 ·have hlt:k<l.length:=by have h0:=of_decide_eq_true hb;omega
  have hq:=uF (zs:=zs++aC (l.length:Int)) (e:=e) hz hlt (d:=dD);refine G ?_;refine aZ rfl rfl (sS [] rfl rfl hK ((hp _ hq.1 (l.getD k dD) (kY hlt) hq.2).m) rfl (by simp) (by simp [bQ]) (by simp) (by simp) (dU (by simp)) bH (by simp [aH]) bH) ⟨rfl,trivial⟩ ?_;refine cn ?_;refine tx ?_;refine Z1 ba ?_;refine Z1 mo ?_;refine cn ?_;refine ⟨k+1,by omega,by omega,?_⟩;rw [show zs++aC (l.length:Int)++(l.take (k+1)).flatMap e=zs++aC (l.length:Int)++(l.take k).flatMap e++e (l.getD k dD) from by rw [mS (d:=dD) _ hlt,←List.append_assoc]]
  exact Le.reset [1] (by simp) ⟨.inr rfl,.inr rfl,.inr rfl,.inr (aR (by omega)),trivial⟩ ⟨by simp [aE,dL],aE.of_pure _ Pu.out,aE.of_pure _ Pu.out,aE.of_pure _ Pu.out,trivial⟩ ⟨by rw [if_neg (by decide)];exact ⟨rfl,fun z hz=>by rw [List.mem_singleton] at hz;subst hz;exact aE.of_pure _ (oP _)⟩,by rw [if_pos (by decide)],trivial⟩
 have hge:k=l.length:=by have h0:=of_decide_eq_false hb;omega
 refine G ?_;exact ⟨.inr rfl,iN rfl,⟨by subst hge;rw [List.take_length];rfl,trivial⟩⟩
theorem abP (zs:List Int)(l:List VerbP)(K:Nat)(e:VerbP→List Int)(hK:dN Tryz.prog K=true)(hz:(zs++aC (l.length:Int)++l.flatMap e).length≤100000000)(hp:∀ ys:List Int,ys.length≤100000000→∀ x∈l,(ys++e x).length≤100000000→FC Tryz.prog K [.own 0 0,iC x] [(0,.live 59 [bs (ys)])] .any [(0,.live 59 [bs (ys++e x)])]):FC Tryz.prog 29 [.own 0 0,gB l,.bm K [.own 0 0]] [(0,.live 59 [bs (zs)])] .any [(0,.live 59 [bs (zs++aC (l.length:Int)++l.flatMap e)])]:=by
 refine FB 2 22 Tryz.func29 ?_;refine aD ?_;refine dM (t:=1) (x:=gB l) rfl eR fun hf=>?_;have hz0:zs.length≤100000000:=by simp only [List.length_append] at hz;omega
 refine G ?_;refine aZ rfl rfl (dB [] rfl (by kernel_rfl) ((lL zs (l.length:Int) hz0 (by omega)).m) rfl (by simp) (by simp [bQ]) (by simp) (by simp) (dU (by simp)) bH (by simp [aH]) bH) ⟨rfl,trivial⟩ ?_;refine G ?_;refine bM (ι:=Nat) (fun k=>⟨[(2,.bm K [.own 0 0]),(12,gB l),(13,vi (l.length:Int)),(14,vi k)],[(0,.live 59 [bs (zs++aC (l.length:Int)++(l.take k).flatMap e)]),(1,.unborn)]⟩) (fun k=>k≤l.length) (fun k=>l.length-k) 0 (Nat.zero_le _) (Le.sub ⟨.inr rfl,.inr rfl,.inr rfl,.inr rfl,trivial⟩ ⟨by simp only [List.take_zero,List.flatMap_nil,List.append_nil];rfl,rfl,trivial⟩) ?_
 intro k hI;refine Gd (fun hb=>?_) fun hb=>?_
 ·have hlt:k<l.length:=by have h0:=of_decide_eq_true hb;omega
  have hq:=uF (zs:=zs++aC (l.length:Int)) (e:=e) hz hlt (d:=gO);refine G ?_;refine aZ rfl rfl (sS [] rfl rfl hK ((hp _ hq.1 (l.getD k gO) (kY hlt) hq.2).m) rfl (by simp) (by simp [bQ]) (by simp) (by simp) (dU (by simp)) bH (by simp [aH]) bH) ⟨rfl,trivial⟩ ?_;refine cn ?_;refine tx ?_;refine Z1 ba ?_;refine Z1 mo ?_;refine cn ?_;refine ⟨k+1,by omega,by omega,?_⟩;rw [show zs++aC (l.length:Int)++(l.take (k+1)).flatMap e=zs++aC (l.length:Int)++(l.take k).flatMap e++e (l.getD k gO) from by rw [mS (d:=gO) _ hlt,←List.append_assoc]]
  exact Le.reset [1] (by simp) ⟨.inr rfl,.inr rfl,.inr rfl,.inr (aR (by omega)),trivial⟩ ⟨by simp [aE,dL],aE.of_pure _ Pu.out,aE.of_pure _ Pu.out,aE.of_pure _ Pu.out,trivial⟩ ⟨by rw [if_neg (by decide)];exact ⟨rfl,fun z hz=>by rw [List.mem_singleton] at hz;subst hz;exact aE.of_pure _ (oP _)⟩,by rw [if_pos (by decide)],trivial⟩
 have hge:k=l.length:=by have h0:=of_decide_eq_false hb;omega
 refine G ?_;exact ⟨.inr rfl,iN rfl,⟨by subst hge;rw [List.take_length];rfl,trivial⟩⟩
theorem abQ (zs:List Int)(l:List ThingP)(K:Nat)(e:ThingP→List Int)(hK:dN Tryz.prog K=true)(hz:(zs++aC (l.length:Int)++l.flatMap e).length≤100000000)(hp:∀ ys:List Int,ys.length≤100000000→∀ x∈l,(ys++e x).length≤100000000→FC Tryz.prog K [.own 0 0,iT x] [(0,.live 59 [bs (ys)])] .any [(0,.live 59 [bs (ys++e x)])]):FC Tryz.prog 27 [.own 0 0,gA l,.bm K [.own 0 0]] [(0,.live 59 [bs (zs)])] .any [(0,.live 59 [bs (zs++aC (l.length:Int)++l.flatMap e)])]:=by
 refine FB 2 22 Tryz.func27 ?_;refine aD ?_;refine dM (t:=1) (x:=gA l) rfl eR fun hf=>?_;have hz0:zs.length≤100000000:=by simp only [List.length_append] at hz;omega
 refine G ?_;refine aZ rfl rfl (dB [] rfl (by kernel_rfl) ((lL zs (l.length:Int) hz0 (by omega)).m) rfl (by simp) (by simp [bQ]) (by simp) (by simp) (dU (by simp)) bH (by simp [aH]) bH) ⟨rfl,trivial⟩ ?_;refine G ?_;refine bM (ι:=Nat) (fun k=>⟨[(2,.bm K [.own 0 0]),(12,gA l),(13,vi (l.length:Int)),(14,vi k)],[(0,.live 59 [bs (zs++aC (l.length:Int)++(l.take k).flatMap e)]),(1,.unborn)]⟩) (fun k=>k≤l.length) (fun k=>l.length-k) 0 (Nat.zero_le _) (Le.sub ⟨.inr rfl,.inr rfl,.inr rfl,.inr rfl,trivial⟩ ⟨by simp only [List.take_zero,List.flatMap_nil,List.append_nil];rfl,rfl,trivial⟩) ?_
 intro k hI;refine Gd (fun hb=>?_) fun hb=>?_
 ·have hlt:k<l.length:=by have h0:=of_decide_eq_true hb;omega
  have hq:=uF (zs:=zs++aC (l.length:Int)) (e:=e) hz hlt (d:=cY);refine G ?_;refine aZ rfl rfl (sS [] rfl rfl hK ((hp _ hq.1 (l.getD k cY) (kY hlt) hq.2).m) rfl (by simp) (by simp [bQ]) (by simp) (by simp) (dU (by simp)) bH (by simp [aH]) bH) ⟨rfl,trivial⟩ ?_;refine cn ?_;refine tx ?_;refine Z1 ba ?_;refine Z1 mo ?_;refine cn ?_;refine ⟨k+1,by omega,by omega,?_⟩;rw [show zs++aC (l.length:Int)++(l.take (k+1)).flatMap e=zs++aC (l.length:Int)++(l.take k).flatMap e++e (l.getD k cY) from by rw [mS (d:=cY) _ hlt,←List.append_assoc]]
  exact Le.reset [1] (by simp) ⟨.inr rfl,.inr rfl,.inr rfl,.inr (aR (by omega)),trivial⟩ ⟨by simp [aE,dL],aE.of_pure _ Pu.out,aE.of_pure _ Pu.out,aE.of_pure _ Pu.out,trivial⟩ ⟨by rw [if_neg (by decide)];exact ⟨rfl,fun z hz=>by rw [List.mem_singleton] at hz;subst hz;exact aE.of_pure _ (oP _)⟩,by rw [if_pos (by decide)],trivial⟩
 have hge:k=l.length:=by have h0:=of_decide_eq_false hb;omega
 refine G ?_;exact ⟨.inr rfl,iN rfl,⟨by subst hge;rw [List.take_length];rfl,trivial⟩⟩
theorem abR (zs:List Int)(l:List DeedP)(K:Nat)(e:DeedP→List Int)(hK:dN Tryz.prog K=true)(hz:(zs++aC (l.length:Int)++l.flatMap e).length≤100000000)(hp:∀ ys:List Int,ys.length≤100000000→∀ x∈l,(ys++e x).length≤100000000→FC Tryz.prog K [.own 0 0,mT x] [(0,.live 59 [bs (ys)])] .any [(0,.live 59 [bs (ys++e x)])]):FC Tryz.prog 31 [.own 0 0,fY l,.bm K [.own 0 0]] [(0,.live 59 [bs (zs)])] .any [(0,.live 59 [bs (zs++aC (l.length:Int)++l.flatMap e)])]:=by
 refine FB 2 22 Tryz.func31 ?_;refine aD ?_;refine dM (t:=1) (x:=fY l) rfl eR fun hf=>?_;have hz0:zs.length≤100000000:=by simp only [List.length_append] at hz;omega
 refine G ?_;refine aZ rfl rfl (dB [] rfl (by kernel_rfl) ((lL zs (l.length:Int) hz0 (by omega)).m) rfl (by simp) (by simp [bQ]) (by simp) (by simp) (dU (by simp)) bH (by simp [aH]) bH) ⟨rfl,trivial⟩ ?_;refine G ?_;refine bM (ι:=Nat) (fun k=>⟨[(2,.bm K [.own 0 0]),(12,fY l),(13,vi (l.length:Int)),(14,vi k)],[(0,.live 59 [bs (zs++aC (l.length:Int)++(l.take k).flatMap e)]),(1,.unborn)]⟩) (fun k=>k≤l.length) (fun k=>l.length-k) 0 (Nat.zero_le _) (Le.sub ⟨.inr rfl,.inr rfl,.inr rfl,.inr rfl,trivial⟩ ⟨by simp only [List.take_zero,List.flatMap_nil,List.append_nil];rfl,rfl,trivial⟩) ?_
 intro k hI;refine Gd (fun hb=>?_) fun hb=>?_
 ·have hlt:k<l.length:=by have h0:=of_decide_eq_true hb;omega
  have hq:=uF (zs:=zs++aC (l.length:Int)) (e:=e) hz hlt (d:=fZ);refine G ?_;refine aZ rfl rfl (sS [] rfl rfl hK ((hp _ hq.1 (l.getD k fZ) (kY hlt) hq.2).m) rfl (by simp) (by simp [bQ]) (by simp) (by simp) (dU (by simp)) bH (by simp [aH]) bH) ⟨rfl,trivial⟩ ?_;refine cn ?_;refine tx ?_;refine Z1 ba ?_;refine Z1 mo ?_;refine cn ?_;refine ⟨k+1,by omega,by omega,?_⟩;rw [show zs++aC (l.length:Int)++(l.take (k+1)).flatMap e=zs++aC (l.length:Int)++(l.take k).flatMap e++e (l.getD k fZ) from by rw [mS (d:=fZ) _ hlt,←List.append_assoc]]
  exact Le.reset [1] (by simp) ⟨.inr rfl,.inr rfl,.inr rfl,.inr (aR (by omega)),trivial⟩ ⟨by simp [aE,dL],aE.of_pure _ Pu.out,aE.of_pure _ Pu.out,aE.of_pure _ Pu.out,trivial⟩ ⟨by rw [if_neg (by decide)];exact ⟨rfl,fun z hz=>by rw [List.mem_singleton] at hz;subst hz;exact aE.of_pure _ (oP _)⟩,by rw [if_pos (by decide)],trivial⟩
 have hge:k=l.length:=by have h0:=of_decide_eq_false hb;omega
 refine G ?_;exact ⟨.inr rfl,iN rfl,⟨by subst hge;rw [List.take_length];rfl,trivial⟩⟩
end Go.Proofs.YtgajclaoaphgoaaGreatDoor
