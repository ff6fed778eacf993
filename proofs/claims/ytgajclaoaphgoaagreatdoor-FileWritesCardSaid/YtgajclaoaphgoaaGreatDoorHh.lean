/- Parts of the proof of a law of this seat: rules and contracts; no conditions. -/
import Derived.Test.YtgajclaoaphgoaaGreatDoorVa
import Derived.Test.YtgajclaoaphgoaaGreatDoorCr
import Derived.Test.YtgajclaoaphgoaaGreatDoorBt
import Derived.Test.YtgajclaoaphgoaaGreatDoorWc
import Derived.Test.YtgajclaoaphgoaaGreatDoorHa
import Derived.Test.YtgajclaoaphgoaaGreatDoorWireR
import Derived.Test.YtgajclaoaphgoaaGreatDoorFl
import Derived.Test.YtgajclaoaphgoaaGreatDoorRde
import Derived.Test.YtgajclaoaphgoaaGreatDoorVyj
set_option maxHeartbeats 6400000
set_option maxRecDepth 100000
set_option linter.unusedVariables false
set_option linter.unusedSimpArgs false
namespace Go.Proofs.YtgajclaoaphgoaaGreatDoor
open Go.RowKit
set_option maxHeartbeats 3200000
theorem asM (zs:List Int)(m:Int)(h1:zs.length≤100000000):PC Tryz.prog 118 [bs zs,vi m] (bs (zs++cQ m)):=aA2 (e:=5) fun A c w k1 k2=>aFH A _ c zs m w k1 rfl (by omega)
theorem asN (zs:List Int)(m:Int)(h1:zs.length≤100000000)(hm:m≤9223372036854775807):PC Tryz.prog 84 [bs zs,vi m] (bs (zs++aC m)):=aA2 (e:=5) fun A c w k1 k2=>anR A _ c zs m w k1 rfl h1 hm
theorem asO (zs:List Int)(s:ByteArray)(h1:zs.length≤100000000)(hs:s.size≤100000000):PC Tryz.prog 88 [bs zs,vs s] (bs (zs++aY s)):=aA2 (e:=5) fun A c w k1 k2=>asP A _ c zs s w k1 rfl h1 hs
theorem asQ (zs ls:List Int)(h1:zs.length≤100000000)(h2:ls.length≤1000000):PC Tryz.prog 89 [bs zs,aK ls] (bs (zs++cZ ls)):=aeY (e:=5) fun A c L d w k1 k2 k3 k4=>asR A L _ c _ d zs ls w k1 rfl h1 k3 rfl h2
section
variable {o:Oper}{ρ:Operand→Av}{args:List Operand}{tys:Array TypeId}{zs:List Int}
theorem zB {m:Int}(ho:o.op=.call { callee:=.value (.func 118),args:=args.toArray,argTypes:=tys }:=by rfl)(hxs:args.map ρ=[bs zs,vi m]:=by rfl)(h1:zs.length≤100000000:=by first|omega|(simp only [List.length_append];omega)):OC Tryz.prog o ρ [] (bs (zs++cQ m)) []:=ca (asM zs m h1) ho (hxs:=hxs)
theorem zS {m:Int}(ho:o.op=.call { callee:=.value (.func 84),args:=args.toArray,argTypes:=tys }:=by rfl)(hxs:args.map ρ=[bs zs,vi m]:=by rfl)(h1:zs.length≤100000000:=by first|omega|(simp only [List.length_append];omega))(hm:m≤9223372036854775807:=by first|omega|assumption):OC Tryz.prog o ρ [] (bs (zs++aC m)) []:=ca (asN zs m h1 hm) ho (hxs:=hxs)
theorem zT {s:ByteArray}(ho:o.op=.call { callee:=.value (.func 88),args:=args.toArray,argTypes:=tys }:=by rfl)(hxs:args.map ρ=[bs zs,vs s]:=by rfl)(h1:zs.length≤100000000:=by first|omega|(simp only [List.length_append];omega))(hs:s.size≤100000000:=by omega):OC Tryz.prog o ρ [] (bs (zs++aY s)) []:=ca (asO zs s h1 hs) ho (hxs:=hxs)
theorem zI {l:List Int}(ho:o.op=.call { callee:=.value (.func 89),args:=args.toArray,argTypes:=tys }:=by rfl)(hxs:args.map ρ=[bs zs,aK l]:=by rfl)(h1:zs.length≤100000000:=by first|omega|(simp only [List.length_append];omega))(hs:l.length≤1000000:=by omega):OC Tryz.prog o ρ [] (bs (zs++cZ l)) []:=ca (asQ zs l h1 hs) ho (hxs:=hxs)
end
theorem GW {G' R:Prop}(h:R)(w:Bx R→G':=by
 intro h;refine G ?_
 repeat (
  first|refine Z1 zS ?_|refine Z1 zB ?_|refine Z1 zT ?_|refine Z1 zI ?_
  refine G ?_)
 exact h.out):G':=w ⟨h⟩
theorem RS {P:Program}{Γ:Ctx}{e:Exit}{fn:Func}{m n:List Int}{t:Nat}{U:List (Nat × Hs)}(hr:fn.results=#[.tmp t]:=by rfl)(hx:bN Γ.s t=bs m:=by rfl)(h:m=n:=by rfl)(he:e=.ret∨e=.normal:=by first|exact .inl rfl|exact .inr rfl)(hu:jU Γ.h U:=by first|exact trivial|exact ⟨rfl,trivial⟩):(e=.ret∨e=.normal)∧aF P fn Γ (bs n)∧jU Γ.h U:=⟨he,aF.tmp hr (by rw [hx,h]),hu⟩
theorem aZ9 {α:Type}(e:α→List Int)(l:List α)(Z:List Int):Z=Z++(l.take 0).flatMap e:=by simp
theorem aaA {α:Type}{e:α→List Int}{zs:List Int}{l:List α}:zs++aC (l.length:Int)++(l.take l.length).flatMap e=zs++aJ e l:=by
 rw [List.take_length,List.append_assoc];rfl
theorem aaB {α:Type}{e:α→List Int}{zs:List Int}{l:List α}(hz:(zs++aJ e l).length≤100000000):(zs++aC (l.length:Int)++l.flatMap e).length≤100000000:=by rw [List.append_assoc];exact hz
theorem asS (zs l:List Int)(hz:(zs++aJ aC l).length≤100000000)(hl:∀ x∈l,x≤9223372036854775807)(hn:l.length≤100000000):PC Tryz.prog 86 [bs zs,aK l] (bs (zs++aJ aC l)):=by
 have hz':=aaB hz;rw [List.length_append] at hz;refine FB 0 23 Tryz.func86 ?_;refine GW ?_;rw [aZ9 aC l (zs++aC (l.length:Int))];refine LP (ι:=Nat) (fun k=>[(0,bs (zs++aC (l.length:Int)++(l.take k).flatMap aC)),(5,vi k)]) (fun _=>[]) (fun k=>k≤l.length) (fun k=>l.length-k) 0 (Nat.zero_le _) ?_;intro k hI;refine Gd (fun hb=>?_) fun hb=>?_
 ·have hk:k<l.length:=by simpa using hb
  have hq:=(uF (d:=(0:Int)) hz' hk).1;have hm:=hl _ (aoT hk);simp only [List.length_append] at hq;refine GW ?_;exact NX (k+1) hk (hl:=by (try dsimp only);rw [mS (d:=(0:Int)) _ hk,←List.append_assoc];exact LS)
 obtain rfl:k=l.length:=by simp at hb;omega
 refine G ?_;exact RS (h:=aaA)
theorem asT (zs:List Int)(l:List ByteArray)(hz:(zs++aJ aY l).length≤100000000)(hl:∀ x∈l,x.size≤1000000)(hn:l.length≤100000000):PC Tryz.prog 87 [bs zs,bB l] (bs (zs++aJ aY l)):=by
 have hz':=aaB hz;rw [List.length_append] at hz;refine FB 0 23 Tryz.func87 ?_;refine GW ?_;rw [aZ9 aY l (zs++aC (l.length:Int))];refine LP (ι:=Nat) (fun k=>[(0,bs (zs++aC (l.length:Int)++(l.take k).flatMap aY)),(5,vi k)]) (fun _=>[]) (fun k=>k≤l.length) (fun k=>l.length-k) 0 (Nat.zero_le _) ?_;intro k hI;refine Gd (fun hb=>?_) fun hb=>?_
 ·have hk:k<l.length:=by simpa using hb
  have hq:=(uF (d:=ByteArray.empty) hz' hk).1;have hm:=hl _ (pR (d:=ByteArray.empty) hk);simp only [List.length_append] at hq;refine GW ?_;exact NX (k+1) hk (hl:=by (try dsimp only);rw [mS (d:=ByteArray.empty) _ hk,←List.append_assoc];exact LS)
 obtain rfl:k=l.length:=by simp at hb;omega
 refine G ?_;exact RS (h:=aaA)
theorem asU (zs:List Int)(b:Bool)(hz:zs.length≤100000000):PC Tryz.prog 152 [bs zs,vb b] (bs (zs++gQ b)):=by
 refine FB 0 10 Tryz.func152 ?_;refine Gd (fun hb=>?_) fun hb=>?_
 all_goals
  subst hb;refine GW ?_;exact RS
section
variable {o:Oper}{ρ:Operand→Av}{args:List Operand}{tys:Array TypeId}{zs:List Int}
theorem zN {l:List Int}(ho:o.op=.call { callee:=.value (.func 86),args:=args.toArray,argTypes:=tys }:=by rfl)(hxs:args.map ρ=[bs zs,aK l]:=by rfl)(h1:(zs++aJ aC l).length≤100000000:=by first|omega|(simp only [List.length_append];omega))(hs:∀ x∈l,x≤9223372036854775807:=by assumption)(hn:l.length≤100000000:=by omega):OC Tryz.prog o ρ [] (bs (zs++aJ aC l)) []:=ca (asS zs l h1 hs hn) ho (hxs:=hxs)
theorem zX {l:List ByteArray}(ho:o.op=.call { callee:=.value (.func 87),args:=args.toArray,argTypes:=tys }:=by rfl)(hxs:args.map ρ=[bs zs,bB l]:=by rfl)(h1:(zs++aJ aY l).length≤100000000:=by first|omega|(simp only [List.length_append];omega))(hs:∀ x∈l,x.size≤1000000:=by assumption)(hn:l.length≤100000000:=by omega):OC Tryz.prog o ρ [] (bs (zs++aJ aY l)) []:=ca (asT zs l h1 hs hn) ho (hxs:=hxs)
theorem zF {b:Bool}(ho:o.op=.call { callee:=.value (.func 152),args:=args.toArray,argTypes:=tys }:=by rfl)(hxs:args.map ρ=[bs zs,vb b]:=by rfl)(h1:zs.length≤100000000:=by first|omega|(simp only [List.length_append];omega)):OC Tryz.prog o ρ [] (bs (zs++gQ b)) []:=ca (asU zs b h1) ho (hxs:=hxs)
end
theorem GX {G' R:Prop}(h:R)(w:Bx R→G':=by
 intro h;refine GW ?_
 repeat (
  first|refine Z1 zX ?_|refine Z1 zN ?_|refine Z1 zF ?_
  refine GW ?_)
 exact h.out):G':=w ⟨h⟩
theorem asV (zs:List Int)(x:ThingP)(h:thG x)(hz:(zs++fH x).length≤100000000):PC Tryz.prog 90 [bs zs,iT x] (bs (zs++fH x)):=by
 obtain ⟨a,b,c,d,e,f,g,i⟩:=h;have f':∀ w∈x.words,w.size≤1000000:=fun w hw=>by have:=f.2 w hw;omega
 have g':∀ w∈x.adjs,w.size≤1000000:=fun w hw=>by have:=g.2 w hw;omega
 have e1:=e.1;have f1:=f.1;have g1:=g.1;have i1:=i.1
 have hz0:=hz;unfold fH at hz0;rw [←List.append_assoc] at hz0;have hz':=aaB hz0;simp only [List.length_append,←List.append_assoc] at hz0;refine FB 1 66 Tryz.func90 ?_;refine GX ?_;have hE:zs++fH x=zs++aC x.title++aC (x.text+1)++aC x.parent++aC x.flags++gQ x.room++cZ x.props++aJ aY x.words++aJ aY x.adjs++aJ gR x.ways:=by unfold fH;simp only [List.append_assoc]
 rw [hE];simp only [←List.append_assoc] at hz';generalize zs++aC x.title++aC (x.text+1)++aC x.parent++aC x.flags++gQ x.room++cZ x.props++aJ aY x.words++aJ aY x.adjs=Z at *;rw [aZ9 gR x.ways (Z++aC (x.ways.length:Int))];refine LP (ι:=Nat) (fun k=>[(0,bs (Z++aC (x.ways.length:Int)++(x.ways.take k).flatMap gR)),(44,vi k)]) (fun _=>[(0,.unborn)]) (fun k=>k≤x.ways.length) (fun k=>x.ways.length-k) 0 (Nat.zero_le _) ?_;intro k hI;refine Gd (fun hb=>?_) fun hb=>?_
 ·have hk:k<x.ways.length:=by simpa using hb
  have hq:=(uF (d:=dD) hz' hk).2;obtain ⟨w1,w2,w3,w4⟩:=i.2 _ (pR (d:=dD) hk);simp only [gR,List.length_append] at hq;refine GX ?_;exact NX (k+1) hk (hl:=by (try dsimp only);rw [mS (d:=dD) _ hk,gR];simp only [←List.append_assoc];exact LR [0])
 obtain rfl:k=x.ways.length:=by simp at hb;omega
 refine G ?_;exact RS (h:=aaA)
theorem asW (zs:List Int)(x:DeedP)(h:aDX x)(hz:(zs++gG x).length≤100000000):PC Tryz.prog 92 [bs zs,mT x] (bs (zs++gG x)):=by
 obtain ⟨a,b,c,d,e,f⟩:=h;simp only [gG,List.length_append] at hz;refine FB 0 29 Tryz.func92 ?_;refine GX ?_;exact RS (h:=by simp only [gG,List.append_assoc])
theorem asX (zs:List Int)(x:VerbP)(h:aDW x)(hz:(zs++fS x).length≤100000000):PC Tryz.prog 91 [bs zs,iC x] (bs (zs++fS x)):=by
 have h1:=h.1;have hE:zs++fS x=zs++gQ x.meta_++aJ pK x.lines:=by unfold fS;rw [List.append_assoc]
 rw [hE] at hz ⊢;have hz':=aaB hz;simp only [List.length_append] at hz;refine FB 1 44 Tryz.func91 ?_;refine GX ?_;generalize zs++gQ x.meta_=Z at *;rw [aZ9 pK x.lines (Z++aC (x.lines.length:Int))];refine LP (ι:=Nat) (fun k=>[(0,bs (Z++aC (x.lines.length:Int)++(x.lines.take k).flatMap pK)),(20,vi k)]) (fun _=>[(0,.unborn)]) (fun k=>k≤x.lines.length) (fun k=>x.lines.length-k) 0 (Nat.zero_le _) ?_;intro k hI;refine Gd (fun hb=>?_) fun hb=>?_
 ·have hk:k<x.lines.length:=by simpa using hb
  have hq:=(uF (d:=([]:List SlotP)) hz' hk).2;have hl:=h.2 _ (pR (d:=([]:List SlotP)) hk);have hn:(x.lines.take (k+1)).flatMap pK=_:=mS (d:=([]:List SlotP)) _ hk;have hl1:=hl.1;have hq':=aaB (e:=kQ) hq;simp only [pK,List.length_append] at hq;refine GX ?_;rw [aZ9 kQ (x.lines.getD k []) (Z++aC (x.lines.length:Int)++(x.lines.take k).flatMap pK++aC ((x.lines.getD k []).length:Int))]
  refine LP (ι:=Nat) (fun j=>[(0,bs (Z++aC (x.lines.length:Int)++(x.lines.take k).flatMap pK++aC ((x.lines.getD k []).length:Int)++((x.lines.getD k []).take j).flatMap kQ)),(30,vi j)]) (fun _=>[(0,.unborn)]) (fun j=>j≤(x.lines.getD k []).length) (fun j=>(x.lines.getD k []).length-j) 0 (Nat.zero_le _) ?_;intro j hJ;refine Gd (fun hb=>?_) fun hb=>?_
  ·have hj:j<(x.lines.getD k []).length:=by have:=of_decide_eq_true hb;omega
   have hr:=(uF (d:=cH) hq' hj).2;obtain ⟨w1,w2,w3⟩:=hl.2 _ (pR (d:=cH) hj);have w4:∀ w∈((x.lines.getD k []).getD j cH).words,w.size≤1000000:=fun w hw=>by have:=w3 w hw;omega
   simp only [kQ,List.length_append] at hr;refine GX ?_;exact NX (j+1) hj (hl:=by (try dsimp only);rw [mS (d:=cH) _ hj,kQ];simp only [←List.append_assoc];exact LR [0])
  obtain rfl:j=(x.lines.getD k []).length:=by have:=of_decide_eq_false hb;omega
  rw [aaA];refine G ?_;exact NX (k+1) hk (hl:=by (try dsimp only);rw [hn,←List.append_assoc];exact LS)
 obtain rfl:k=x.lines.length:=by simp at hb;omega
 refine G ?_;exact RS (h:=aaA)
def aPB (l:List bK)(k:Int):Bool:=l.any fun x=>nL x&&x.2==k
def dS (l:List bK):Nat→Int × Bool
 | 0=>(-1,false)
 | k+1=>if (l.getD k aI).1≠38 then ((dS l k).1,false) else if aPB l (l.getD k aI).2=true∧(dS l k).2=false then ((dS l k).1+1,true) else dS l k
def aBP (l:List bK)(k:Int):Int:=match fG l k with|some i=>(i:Int)|none=>-1
def aZ3 (l:List bK)(p:Int):Int:=(dS l (p+1).toNat).1
def aUI (l:List bK)(k:Nat):List bK:=
 if (l.getD k aI).1=38 then (if aPB l (l.getD k aI).2=true∧(dS l k).2=false then [(38,aZ3 l k)] else [])
 else [((l.getD k aI).1,if nL (l.getD k aI) then aZ3 l (aBP l (l.getD k aI).2) else (l.getD k aI).2)]
def aLK (l:List bK):Nat→List bK
 | 0=>[]
 | k+1=>aLK l k++aUI l k
def ae6 (l:List bK):List bK:=aLK l l.length
abbrev dE:fR:=(0,aI,0)
def aC4 (P:List Int)(e:fR):bK:=(e.2.1.1,if nL e.2.1 then ((P.idxOf ((e.2.2:Int)+e.2.1.2):Nat):Int) else e.2.1.2)
def vE (T P:List Int)(k:Nat):List bK:=if P.getD k 0∈T then [(38,(k:Int))] else []
def oK (T P:List Int)(L:List fR):Nat→List bK
 | 0=>[]
 | k+1=>oK T P L k++vE T P k++[aC4 P (L.getD k dE)]
def oA (T P:List Int)(L:List fR):List bK:=oK T P L L.length++vE T P L.length
structure OkL (P:List Int) (L:List fR):Prop where
 nd:P.Nodup
 len:P.length=L.length+1
 op:∀ k,k<L.length→(L.getD k dE).2.1.1≠38
 tg:∀ z∈aX L,z∈P
theorem akX {a b:List bK}{x:bK}:(a++x::b).getD a.length aI=x:=by simp [List.getD]
section
variable {T P:List Int}{L:List fR}
theorem aoY (k:Nat):∀ m,∃ b,oK T P L (k+m)=oK T P L k++b
 | 0=>⟨[],by simp⟩
 | m+1=>by
  obtain ⟨b,hb⟩:=aoY k m;exact ⟨b++vE T P (k+m)++[aC4 P (L.getD (k+m) dE)],by show oK T P L (k+m)++_++_=_;rw [hb];simp⟩
theorem ak4 {k:Nat}(hk:k<L.length):∃ b,oA T P L=(oK T P L k++vE T P k)++aC4 P (L.getD k dE)::b:=by
 obtain ⟨b,hb⟩:=aoY (T:=T) (P:=P) (L:=L) (k+1) (L.length-(k+1));rw [show k+1+(L.length-(k+1))=L.length by omega] at hb;exact ⟨b++vE T P L.length,by unfold oA;rw [hb];show oK T P L k++_++_++_++_=_;simp⟩
theorem anI {k:Nat}(hk:k≤L.length):∃ b,oA T P L=oK T P L k++(vE T P k++b):=by
 rcases Nat.lt_or_ge k L.length with h|h
 ·obtain ⟨b,hb⟩:=ak4 (T:=T) (P:=P) h;exact ⟨aC4 P (L.getD k dE)::b,by rw [hb];simp⟩
 obtain rfl:k=L.length:=by omega
 exact ⟨[],by unfold oA;simp⟩
theorem arR {z:Int}(h:z∈aX L):∃ i,i<L.length∧nL (L.getD i dE).2.1=true∧((L.getD i dE).2.2:Int)+(L.getD i dE).2.1.2=z:=by
 unfold aX at h;obtain ⟨e,he,rfl⟩:=List.mem_map.1 h;obtain ⟨he,ha⟩:=List.mem_filter.1 he;obtain ⟨i,hi,rfl⟩:=List.mem_iff_getElem.1 he;have:L.getD i dE=L[i]:=by rw [List.getD,List.getElem?_eq_getElem hi];rfl
 exact ⟨i,hi,by rw [this];exact ha,by rw [this]⟩
theorem anJ {k:Nat}(h:P.Nodup)(hk:k<P.length):P.idxOf (P.getD k 0)=k:=by
 rw [List.getD,List.getElem?_eq_getElem hk];exact h.idxOf_getElem k hk
theorem aoZ (h:OkL P L){k:Nat}(hk:k≤L.length)(ht:P.getD k 0∈aX L):aPB (oA (aX L) P L) k=true:=by
 obtain ⟨i,hi,ha,he⟩:=arR ht;obtain ⟨b,hb⟩:=ak4 (T:=aX L) (P:=P) hi;unfold aPB;rw [hb,List.any_append,List.any_cons];have:(nL (aC4 P (L.getD i dE))&&(aC4 P (L.getD i dE)).2==(k:Int))=true:=by
  have h1:nL (aC4 P (L.getD i dE))=nL (L.getD i dE).2.1:=rfl;rw [h1,ha];show (_&&(if _ then _ else _)==_)=true;rw [if_pos ha,he,anJ h.nd (by rw [h.len];omega)];simp
 rw [this];simp
theorem ao0 {k:Nat}(hk:k<P.length):(cE T (P.take (k+1))).length=(cE T (P.take k)).length+(if P.getD k 0∈T then 1 else 0):=by
 rw [aPG T hk];unfold xP;split<;>simp
theorem ao1 (h:OkL P L){k:Nat}(hk:k≤L.length)(h0:dS (oA (aX L) P L) (oK (aX L) P L k).length=(((cE (aX L) (P.take k)).length:Int)-1,false)):
 dS (oA (aX L) P L) (oK (aX L) P L k++vE (aX L) P k).length=(((cE (aX L) (P.take (k+1))).length:Int)-1,decide (P.getD k 0∈aX L)):=by
 rw [ao0 (by rw [h.len];omega)];by_cases hc:P.getD k 0∈aX L
 ·have e:vE (aX L) P k=[(38,(k:Int))]:=if_pos hc;obtain ⟨b,hb⟩:=anI (T:=aX L) (P:=P) hk;have hx:(oA (aX L) P L).getD (oK (aX L) P L k).length aI=(38,(k:Int)):=by rw [hb,e];exact akX
  rw [e,List.length_append];show dS _ (_+1)=_;unfold dS;rw [hx,h0,if_neg (by simp),if_pos ⟨aoZ h hk hc,rfl⟩,if_pos hc,decide_eq_true hc];refine Prod.ext ?_ rfl;show _-1+1=((_+1:Nat):Int)-1;omega
 have e:vE (aX L) P k=[]:=if_neg hc;rw [e,List.append_nil,h0,if_neg hc,decide_eq_false hc,Nat.add_zero]
theorem anK (h:OkL P L):∀ k,k≤L.length→dS (oA (aX L) P L) (oK (aX L) P L k).length=(((cE (aX L) (P.take k)).length:Int)-1,false)
 | 0,_=>rfl
 | k+1,hk=>by
  have h1:=ao1 h (k:=k) (by omega) (anK h k (by omega));obtain ⟨b,hb⟩:=ak4 (T:=aX L) (P:=P) (L:=L) (k:=k) (by omega);have hx:(oA (aX L) P L).getD (oK (aX L) P L k++vE (aX L) P k).length aI=aC4 P (L.getD k dE):=by rw [hb];exact akX
  show dS _ (_++[_]).length=_;rw [List.length_append];show dS _ (_+1)=_;unfold dS;rw [hx,if_pos (show (aC4 P (L.getD k dE)).1≠38 from h.op k (by omega)),h1]
theorem ao2 (h:OkL P L):∀ k,k≤L.length→∀ x∈oK T P L k,x.1=38→∃ i:Nat,i<k∧x.2=i
 | 0,_,x,hx,_=>by cases hx
 | k+1,hk,x,hx,h1=>by
  unfold oK at hx;rcases List.mem_append.1 hx with hx|hx
  ·rcases List.mem_append.1 hx with hx|hx
   ·obtain ⟨i,hi,e⟩:=ao2 h k (by omega) x hx h1;exact ⟨i,by omega,e⟩
   unfold vE at hx;split at hx
   ·simp at hx;exact ⟨k,by omega,by rw [hx]⟩
   cases hx
  obtain rfl:x=aC4 P (L.getD k dE):=by simpa using hx
  exact absurd h1 (h.op k (by omega))
theorem arS (h:OkL P L){k:Nat}(hk:k≤L.length)(ht:P.getD k 0∈aX L):fG (oA (aX L) P L) k=some (oK (aX L) P L k).length:=by
 obtain ⟨b,hb⟩:=anI (T:=aX L) (P:=P) hk;rw [show vE (aX L) P k=[(38,(k:Int))] from if_pos ht] at hb;unfold fG;rw [hb,List.findIdx?_append,List.findIdx?_eq_none_iff.2]
 ·simp [List.findIdx?_cons]
 intro x hx;by_cases h1:x.1=38
 ·obtain ⟨i,hi,e⟩:=ao2 h k hk x hx h1;rw [e];have:¬ (i:Int)=k:=by omega
  simp [this]
 simp [h1]
theorem ao3 (h:OkL P L){k:Nat}(hk:k≤L.length)(ht:P.getD k 0∈aX L):aZ3 (oA (aX L) P L) (((oK (aX L) P L k).length:Nat):Int)=((cE (aX L) (P.take k)).length:Int):=by
 have h1:=ao1 h hk (anK h k hk);rw [show vE (aX L) P k=[(38,(k:Int))] from if_pos ht,List.length_append,ao0 (by rw [h.len];omega),if_pos ht] at h1;unfold aZ3;rw [show (((oK (aX L) P L k).length:Int)+1).toNat=(oK (aX L) P L k).length+1 by omega];have:=congrArg Prod.fst h1;simp only [List.length_singleton] at this;rw [this];omega
theorem arT (h:OkL P L){z:Int}(hz:z∈aX L):P.idxOf z≤L.length∧P.getD (P.idxOf z) 0=z∧rQ (cE (aX L) P) z=(cE (aX L) (P.take (P.idxOf z))).length:=by
 have hp:=h.tg z hz;have hk:P.idxOf z<P.length:=List.idxOf_lt_length_of_mem hp;have hg:P[P.idxOf z]=z:=List.getElem_idxOf hk;refine ⟨by have:=h.len;omega,by rw [List.getD,List.getElem?_eq_getElem hk];exact hg,?_⟩;have hN:z∈cE (aX L) P:=List.mem_filter.2 ⟨hp,by simpa using hz⟩;unfold rQ;rw [if_pos hN];have hs:P=P.take (P.idxOf z)++z::P.drop (P.idxOf z+1):=by
  have:=List.take_append_drop (P.idxOf z) P;rw [List.drop_eq_getElem_cons hk,hg] at this;exact this.symm
 have hn:z∉cE (aX L) (P.take (P.idxOf z)):=fun hm=>by
  have hm:=(List.mem_filter.1 hm).1;have hnd:=h.nd;rw [hs] at hnd;rw [List.nodup_append] at hnd;exact hnd.2.2 z hm z (List.mem_cons_self ..) rfl
 have hf:cE (aX L) P=cE (aX L) (P.take (P.idxOf z))++z::cE (aX L) (P.drop (P.idxOf z+1)):=by
  conv=>lhs;rw [hs]
  unfold cE;rw [List.filter_append,List.filter_cons,if_pos (by simpa using hz)]
 rw [hf,List.idxOf_append,if_neg hn];simp
theorem ao4 (h:OkL P L){k:Nat}(hk:k≤L.length):aLK (oA (aX L) P L) (oK (aX L) P L k++vE (aX L) P k).length=aLK (oA (aX L) P L) (oK (aX L) P L k).length++(jQ (aX L) (cE (aX L) (P.take k)) (P.getD k 0)).map (rP (cE (aX L) P)):=by
 by_cases hc:P.getD k 0∈aX L
 ·have e:vE (aX L) P k=[(38,(k:Int))]:=if_pos hc;obtain ⟨b,hb⟩:=anI (T:=aX L) (P:=P) hk;have hx:(oA (aX L) P L).getD (oK (aX L) P L k).length aI=(38,(k:Int)):=by rw [hb,e];exact akX
  rw [e,List.length_append];show aLK _ _++aUI _ _=_;unfold aUI jQ;rw [hx,if_pos rfl,anK h k hk,if_pos ⟨aoZ h hk hc,rfl⟩,ao3 h hk hc,if_pos hc];rfl
 rw [show vE (aX L) P k=[] from if_neg hc,List.append_nil,show jQ _ _ _=[] from if_neg hc,List.map_nil,List.append_nil]
theorem ao5 (h:OkL P L):∀ k,k≤L.length→aLK (oA (aX L) P L) (oK (aX L) P L k).length=(kH (aX L) P L k).map (rP (cE (aX L) P))
 | 0,_=>rfl
 | k+1,hk=>by
  have h1:=ao4 h (k:=k) (by omega);rw [ao5 h k (by omega)] at h1;obtain ⟨b,hb⟩:=ak4 (T:=aX L) (P:=P) (L:=L) (k:=k) (by omega);have hx:(oA (aX L) P L).getD (oK (aX L) P L k++vE (aX L) P k).length aI=aC4 P (L.getD k dE):=by rw [hb];exact akX
  show aLK _ (_++[_]).length=_;rw [List.length_append];show aLK _ _++aUI _ _=_;unfold aUI;rw [hx,h1,if_neg (show ¬ (aC4 P (L.getD k dE)).1=38 from h.op k (by omega))];show _=(kH _ _ _ k++_++[_]).map _;rw [List.map_append,List.map_append];congr 1;show [_]=[_];have ha:nL (aC4 P (L.getD k dE))=nL (L.getD k dE).2.1:=rfl;have hm:nL (mR (L.getD k dE))=nL (L.getD k dE).2.1:=rfl;unfold rP;rw [ha,hm];congr 1;by_cases hc:nL (L.getD k dE).2.1=true
  ·rw [if_pos hc,if_pos hc];refine Prod.ext rfl ?_;show aZ3 _ (aBP _ (if _ then _ else _))=(rQ _ (if _ then _ else _):Int);have hz:=abB (k:=k) (by omega) hc;obtain ⟨h2,h3,h4⟩:=arT h hz;rw [if_pos hc,if_pos hc,Int.add_comm (L.getD k dE).2.1.2,h4];unfold aBP;rw [arS h h2 (by rw [h3];exact hz)];exact ao3 h h2 (by rw [h3];exact hz)
  rw [if_neg hc,if_neg hc];refine Prod.ext rfl ?_;show (if _ then _ else _)=(if _ then _ else _);rw [if_neg hc,if_neg hc]
theorem arU (h:OkL P L):ae6 (oA (aX L) P L)=(kH (aX L) P L L.length++jQ (aX L) (cE (aX L) (P.take L.length)) (P.getD L.length 0)).map (rP (cE (aX L) P)):=by
 unfold ae6;have:=ao4 h (Nat.le_refl L.length);rw [ao5 h _ (Nat.le_refl _)] at this;rw [List.map_append];exact this
end
theorem anL {n:Nat}:∀ {s:Nat} {l:List fR} {e:Nat},oN n s l e→∀ k,k<l.length→(l.getD k dE).2.1.1≠38
 | s,y::l,e,h,0,_=>h.2.2.2.2.1
 | s,y::l,e,h,k+1,hk=>by simpa using anL h.2.2.2.2.2 k (by simpa using hk)
def aUJ (xs:List Int):List bK × Nat:=
 if (jB xs xs.length 0 []).2≠0 then ([],(jB xs xs.length 0 []).2)
 else if ∃ t∈aX (jB xs xs.length 0 []).1,t∉bD xs (jB xs xs.length 0 []).1 then ([],5)
 else (ae6 (oA (aX (jB xs xs.length 0 []).1) (bD xs (jB xs xs.length 0 []).1) (jB xs xs.length 0 []).1),0)
theorem arV {xs:List Int}(hb:dF xs):aUJ xs=gP xs:=by
 unfold aUJ gP;dsimp only;by_cases h1:(jB xs xs.length 0 []).2=0
 ·have n1:¬ (jB xs xs.length 0 []).2≠0:=fun h=>h h1;rw [if_neg n1,if_neg n1];clear n1;have hc:=aH5 hb xs.length 0 [] rfl (Nat.zero_le _) (by omega) h1;generalize (jB xs xs.length 0 []).1=L at *;have hm:∀ z,z∈bD xs L↔z∈mQ xs L:=fun z=>by unfold bD mQ;simp [or_comm]
  by_cases h2:∃ t∈aX L,t∉bD xs L
  ·rw [if_pos h2,if_pos];obtain ⟨z,hz,hn⟩:=h2;exact ⟨z,hz,fun h=>hn ((hm z).2 h)⟩
  rw [if_neg h2,if_neg]
  ·have hok:OkL (bD xs L) L:=⟨(aPK hc).1,by unfold bD;simp,anL hc,fun z hz=>Classical.byContradiction fun h=>h2 ⟨z,hz,h⟩⟩
   rw [arU hok];unfold dH;rw [show (bD xs L).getD L.length 0=(xs.length:Int) by unfold bD;simp [List.getD]]
  rintro ⟨z,hz,hn⟩;exact h2 ⟨z,hz,fun h=>hn ((hm z).1 h)⟩
 rw [if_pos h1,if_pos h1]
set_option maxHeartbeats 6400000
theorem arW {l:List bK}{k:Nat}{v:Int}(hk:k<l.length)(h:(nL (l.getD k aI)&&(l.getD k aI).2==v)=true):aPB l v=true:=by
 rw [List.getD,List.getElem?_eq_getElem hk] at h;exact List.any_eq_true.2 ⟨_,List.getElem_mem hk,h⟩
theorem arX {l:List bK}{v:Int}(h:∀ j,j<l.length→(nL (l.getD j aI)&&(l.getD j aI).2==v)=false):aPB l v=false:=by
 refine List.any_eq_false.2 fun x hx=>?_;obtain ⟨j,hj,rfl⟩:=List.mem_iff_getElem.1 hx;have:=h j hj;rw [List.getD,List.getElem?_eq_getElem hj] at this;exact fun hc=>by rw [show (some l[j]).getD aI=l[j] from rfl,hc] at this;cases this
theorem anM (x:bK):PC Tryz.prog 247 [iV x] (vb (nL x)):=by
 refine FB 0 11 Tryz.func247 ?_;refine G ?_;exact RT rfl
def aaZ (l:List bK)(n:Nat)(k:Int):Int:=aBP (l.take n) k
theorem ao6 {l:List bK}{n i:Nat}{k:Int}(hn:n≤l.length)(hi:i<n)(h:((l.getD i aI).1==38&&(l.getD i aI).2==k)=true)(hb:∀ j,j<i→((l.getD j aI).1==38&&(l.getD j aI).2==k)=false):aaZ l n k=i:=by
 have e:∀ j,j<n→∀ h,(l.take n)[j]'h=l.getD j aI:=fun j hj h=>by rw [List.getElem_take,List.getD,List.getElem?_eq_getElem (by omega)];rfl
 unfold aaZ aBP fG;rw [show (l.take n).findIdx? (fun x=>x.1==38&&x.2==k)=some i from List.findIdx?_eq_some_iff_getElem.2 ⟨by rw [List.length_take];omega,by rw [e i hi];exact h,fun j hj=>by rw [e j (by omega),hb j hj];simp⟩]
theorem ao7 {l:List bK}{n:Nat}{k:Int}(hn:n≤l.length)(hb:∀ j,j<n→((l.getD j aI).1==38&&(l.getD j aI).2==k)=false):aaZ l n k=-1:=by
 unfold aaZ aBP fG;rw [List.findIdx?_eq_none_iff.2];intro x hx;obtain ⟨j,hj,rfl⟩:=List.mem_iff_getElem.1 hx;rw [List.length_take] at hj;rw [List.getElem_take];have:=hb j (by omega);rwa [List.getD,List.getElem?_eq_getElem (by omega)] at this
theorem arY (l:List bK)(n:Nat)(hn:n≤l.length)(hl:l.length≤1000000000)(k:Int):PC Tryz.prog 271 [iU l,vi (n:Int),vi k] (vi (aaZ l n k)):=by
 refine FB 0 29 Tryz.func271 ?_;refine G ?_;refine LP (ι:=Nat) (fun i=>[(7,vi i)]) (fun _=>[]) (fun i=>i≤n∧∀ j,j<i→((l.getD j aI).1==38&&(l.getD j aI).2==k)=false) (fun i=>n-i) 0 ⟨Nat.zero_le _,fun j hj=>by omega⟩ ?_;intro i hI;refine Gd (fun hb=>?_) fun hb=>?_
 ·have hi:i<n:=by simpa using hb
  have hil:i<l.length:=by omega
  refine Gd (fun hb=>?_) fun hb=>?_
  ·refine G ?_;exact RI (h:=(ao6 hn hi hb hI.2).symm)
  refine G ?_;refine NX (i+1) ⟨hi,fun j hj=>?_⟩;rcases Nat.lt_succ_iff_lt_or_eq.1 hj with h|rfl
  ·exact hI.2 j h
  exact hb
 obtain rfl:i=n:=by simp at hb;omega
 refine G ?_;exact RI (h:=(ao7 hn hI.2).symm)
theorem ao8 (l:List bK)(hl:l.length≤1000000000)(v:Int):PC Tryz.prog 269 [iU l,vi v] (vb (aPB l v)):=by
 refine FB 0 26 Tryz.func269 ?_;refine G ?_;refine LP (ι:=Nat) (fun i=>[(5,vi i)]) (fun _=>[]) (fun i=>i≤l.length∧∀ j,j<i→(nL (l.getD j aI)&&(l.getD j aI).2==v)=false) (fun i=>l.length-i) 0 ⟨Nat.zero_le _,fun j hj=>by omega⟩ ?_;intro i hI;refine Gd (fun hb=>?_) fun hb=>?_
 ·have hi:i<l.length:=by simpa using hb
  refine C (anM (l.getD i aI)) ?_;refine cd (fun hb=>?_) fun hb=>?_
  ·refine G ?_;exact RB (h:=(arW hi hb).symm)
  refine G ?_;refine NX (i+1) ⟨hi,fun j hj=>?_⟩;rcases Nat.lt_succ_iff_lt_or_eq.1 hj with h|rfl
  ·exact hI.2 j h
  exact hb
 obtain rfl:i=l.length:=by simp at hb;omega
 refine G ?_;exact RB (h:=(arX hI.2).symm)
theorem ao9 (l:List bK)(hl:l.length≤1000000000)(p:Int)(hp:-1≤p∧p<l.length):PC Tryz.prog 270 [iU l,vi p] (vi (aZ3 l p)):=by
 have hbd:∀ i,-1≤(dS l i).1∧(dS l i).1≤i:=by
  intro i
  induction i with
  | zero=>exact ⟨Int.le_refl _,by show (-1:Int)≤0;decide⟩
  | succ i ih=>unfold dS;split;exact ⟨ih.1,by show (dS l i).1≤_;omega⟩;split;exact ⟨by show -1≤(dS l i).1+1;omega,by show (dS l i).1+1≤_;omega⟩;exact ⟨ih.1,by omega⟩
 refine FB 0 33 Tryz.func270 ?_;refine G ?_;refine LP (ι:=Nat) (fun i=>[(5,vi (dS l i).1),(6,vb (dS l i).2),(7,vi i)]) (fun _=>[]) (fun i=>(i:Int)≤p+1) (fun i=>(p+1).toNat-i) 0 (by show (0:Int)≤_;omega) ?_;intro i hI;have hb1:=hbd i;refine Gd (fun hb=>?_) fun hb=>?_
 ·have hi:(i:Int)≤p:=by simpa using hb
  have hil:i<l.length:=by omega
  have en:(Int.toNat (i:Int))=i:=Int.toNat_natCast i;refine Gd (fun hb=>?_) fun hb=>?_
  ·have e:dS l (i+1)=((dS l i).1,false):=by
    conv=>lhs;unfold dS
    rw [if_pos (by simpa using hb)]
   refine G ?_;exact NX (i+1) (by omega) (hl:=by (try dsimp only);rw [e];exact LS)
  have e:dS l (i+1)=if aPB l (l.getD i aI).2=true∧(dS l i).2=false then ((dS l i).1+1,true) else dS l i:=by
   conv=>lhs;unfold dS
   rw [if_neg (by simpa using hb)]
  refine C (ao8 l hl (l.getD i aI).2) ?_;refine cd (fun hc=>?_) fun hc=>?_
  ·rw [if_pos (by simpa using hc)] at e;refine G ?_;exact NX (i+1) (by omega) (hl:=by (try dsimp only);rw [e];exact LS)
  rw [if_neg (by simpa using hc)] at e;refine G ?_;exact NX (i+1) (by omega) (hl:=by (try dsimp only);rw [e];exact LS)
 have e:i=(p+1).toNat:=by simp at hb;omega
 refine G ?_;exact RI (h:=by unfold aZ3;rw [←e])
theorem apB (l:List bK)(k:Int):aaZ l l.length k=aBP l k:=by unfold aaZ;rw [List.take_length]
theorem arZ (l:List bK)(k:Int):-1≤aBP l k∧aBP l k<l.length∨aBP l k=-1:=by
 unfold aBP fG;cases h:l.findIdx? _ with
 | none=>exact .inr rfl
 | some i=>
  have:=(List.findIdx?_eq_some_iff_getElem.1 h).1;exact .inl ⟨by show -1≤(i:Int);omega,by show (i:Int)<_;omega⟩
theorem apC (l:List bK):∀ k,(aLK l k).length≤k
 | 0=>Nat.le_refl _
 | k+1=>by
  have:=apC l k;have h2:(aUI l k).length≤1:=by unfold aUI;split;split;exact Nat.le_refl _;exact Nat.zero_le _;exact Nat.le_refl _
  unfold aLK;rw [List.length_append];omega
theorem ar0 (l:List bK)(hl:l.length≤1000000000):PC Tryz.prog 248 [iU l] (iU (ae6 l)):=by
 refine FB 3 51 Tryz.func248 ?_;refine G ?_;refine bS (Le.nameNil 3 0 2 158 rfl rfl) ?_;refine LP (ι:=Nat) (fun i=>[(3,.osl 2 0 (aLK l i).length),(4,vb (dS l i).2),(5,vi i)]) (fun i=>[(0,.live 158 (cT (aLK l i))),(1,.unborn),(2,.unborn)]) (fun i=>i≤l.length) (fun i=>l.length-i) 0 (Nat.zero_le _) ?_;intro i hI;have hnl:=apC l i;refine Gd (fun hb=>?_) fun hb=>?_
 ·have hi:i<l.length:=by simpa using hb
  have en:aLK l (i+1)=aLK l i++aUI l i:=rfl;have es:dS l (i+1)=if (l.getD i aI).1≠38 then ((dS l i).1,false) else if aPB l (l.getD i aI).2=true∧(dS l i).2=false then ((dS l i).1+1,true) else dS l i:=by
   conv=>lhs;unfold dS
  have ei:aUI l i=if (l.getD i aI).1=38 then (if aPB l (l.getD i aI).2=true∧(dS l i).2=false then [(38,aZ3 l i)] else []) else [((l.getD i aI).1,if nL (l.getD i aI) then aZ3 l (aBP l (l.getD i aI).2) else (l.getD i aI).2)]:=by
   unfold aUI;rfl
  refine Gd (fun hc=>?_) fun hc=>?_
  ·have h38:(l.getD i aI).1=38:=by simpa using hc
   rw [if_neg (fun h=>h h38)] at es;rw [if_pos h38] at ei;refine C (ao8 l hl (l.getD i aI).2) ?_;refine cd (fun hd=>?_) fun hd=>?_
   ·have hd2:aPB l (l.getD i aI).2=true∧(dS l i).2=false:=by simpa using hd
    rw [if_pos hd2] at es ei;refine C (ao9 l hl (i:Int) (by omega)) ?_;refine Z1 jG ?_;refine jH 2 ?_;refine G ?_;exact NX (i+1) hi (hl:=by (try dsimp only);rw [en,ei,es,aAC];exact LT 0 2 [1,2])
   have hd2:¬ (aPB l (l.getD i aI).2=true∧(dS l i).2=false):=by simpa using hd
   rw [if_neg hd2] at es ei;refine G ?_;exact NX (i+1) hi (hl:=by (try dsimp only);rw [en,ei,es,List.append_nil];exact LR [1])
  have h38:¬ (l.getD i aI).1=38:=by simpa using hc
  rw [if_pos h38] at es;rw [if_neg h38] at ei;refine C (anM (l.getD i aI)) ?_;refine cd (fun hd=>?_) fun hd=>?_
  ·rw [if_pos hd] at ei;refine C (arY l l.length (Nat.le_refl _) hl (l.getD i aI).2) ?_;rw [apB];refine C (ao9 l hl (aBP l (l.getD i aI).2) (by have:=arZ l (l.getD i aI).2;omega)) ?_;refine Z1 jG ?_;refine jH 2 ?_;refine G ?_;exact NX (i+1) hi (hl:=by (try dsimp only);rw [en,ei,es,aAC];exact LT 0 2 [1,2])
  rw [if_neg (by rw [hd];simp)] at ei;refine G ?_;refine Z1 jG ?_;refine jH 2 ?_;refine G ?_;exact NX (i+1) hi (hl:=by (try dsimp only);rw [en,ei,es,aAC];exact LT 0 2 [1,2])
 obtain rfl:i=l.length:=by simp at hb;omega
 refine bS (Le.freezeI 3 0 (aLK l l.length) rfl rfl) ?_;refine G ?_;exact RT rfl
set_option maxHeartbeats 6400000
theorem arM (t:TabP)(E:Env)(v:Value)(h:aA E (bR t) v):t.globals.length≤9223372036854775807∧t.props.length≤9223372036854775807:=by
 unfold bR aA at h;obtain ⟨vs,_,hv,_⟩:=h;obtain ⟨u,h1⟩:=hv.at_ 7 _ rfl;obtain ⟨u',h2⟩:=hv.at_ 6 _ rfl;exact ⟨eR E u h1,eR E u' h2⟩
theorem arN (t:TabP)(x:bK):PC Tryz.prog 299 [bR t,iV x] (vb (oZ t x)):=by
 refine FB 0 92 Tryz.func299 ?_;refine dM (t:=0) (x:=bR t) rfl (qO t) fun hF=>?_;obtain ⟨f1,f2,f3,f4,f5,f6,f7,f8⟩:=hF;refine dM (t:=0) (x:=bR t) rfl (arM t) fun hF=>?_;obtain ⟨f9,f10⟩:=hF
 repeat' (refine G ?_;first
  | refine cd (fun hb=>?_) fun hb=>?_
  | exact RB (h:=by
   simp only [beq_iff_eq,beq_eq_false_iff_ne,ne_eq] at *;simp [oZ,Bool.and_assoc, *])
  | (
   refine C (aoX x.2) ?_;exact RB (h:=by
    simp only [beq_iff_eq,beq_eq_false_iff_ne,ne_eq] at *;simp [oZ,Bool.and_assoc, *]))
  | fail)
def aC9 (t:TabP)(C:List bK):Nat→List Int→Nat→Int→List Int × Int
 | 0,H,_,_=>(H,0)
 | f+1,H,i,h=>
  if i≥C.length then (H,2)
  else if 0≤H.getD i 0 then (H,if H.getD i 0≠h then 17 else 0)
  else if (gS t (C.getD i aI) h (fG C (C.getD i aI).2).isSome).2≠0 then (H.set i h,(gS t (C.getD i aI) h (fG C (C.getD i aI).2).isSome).2)
  else if (C.getD i aI).1=27∨(C.getD i aI).1=28∨(C.getD i aI).1=29∨(C.getD i aI).1=30 then (H.set i h,0)
  else if (C.getD i aI).1=24 then aC9 t C f (H.set i h) ((fG C (C.getD i aI).2).getD 0) (gS t (C.getD i aI) h (fG C (C.getD i aI).2).isSome).1
  else if (C.getD i aI).1=25 then
   (
    if (aC9 t C f (H.set i h) (i+1) (gS t (C.getD i aI) h (fG C (C.getD i aI).2).isSome).1).2≠0 then aC9 t C f (H.set i h) (i+1) (gS t (C.getD i aI) h (fG C (C.getD i aI).2).isSome).1
    else aC9 t C f (aC9 t C f (H.set i h) (i+1) (gS t (C.getD i aI) h (fG C (C.getD i aI).2).isSome).1).1 ((fG C (C.getD i aI).2).getD 0) (gS t (C.getD i aI) h (fG C (C.getD i aI).2).isSome).1)
  else aC9 t C f (H.set i h) (i+1) (gS t (C.getD i aI) h (fG C (C.getD i aI).2).isSome).1
def HOk (C:List bK)(H:List Int):Prop:=H.length=C.length∧∀ k,-1≤H.getD k 0
theorem apH {C:List bK}{H:List Int}(h:HOk C H){i:Nat}{x:Int}(hx:0≤x):HOk C (H.set i x):=by
 refine ⟨by rw [List.length_set];exact h.1,fun k=>?_⟩;have:=h.2 k;rw [List.getD,List.getElem?_set];split
 ·split
  ·show -1≤x;omega
  decide
 exact this
def Hw (t:TabP)(C:List bK)(H:List Int)(w:List Int × Int)(F:Nat)(i:Nat)(h:Int)(r:List (Nat × Int)):Prop:=
 HOk C w.1∧nM w.1≤nM H∧(w.2≠0→pN t C F H (r++[(i,h)])=([],w.2))∧(w.2=0→∃ F',3*nM w.1+r.length≤F'∧pN t C F H (r++[(i,h)])=pN t C F' w.1 r)
theorem hw (t:TabP)(C:List bK):∀ (f:Nat) (H:List Int) (i:Nat) (h:Int) (r:List (Nat × Int)) (F:Nat),HOk C H→0≤h∧h≤256→nM H<f→3*nM H+r.length+1≤F→Hw t C H (aC9 t C f H i h) F i h r:=by
 intro f
 induction f with
 | zero=>intros;omega
 | succ f ih=>
  intro H i h r F hH h0 hf hF;obtain ⟨F,rfl⟩:∃ F',F=F'+1:=⟨F-1,by omega⟩
  unfold Hw aC9;rw [abY];by_cases h1:i≥C.length
  ·rw [if_pos h1,if_pos h1];exact ⟨hH,Nat.le_refl _,fun _=>rfl,fun h=>absurd h (by simp)⟩
  rw [if_neg h1,if_neg h1];by_cases h2:0≤H.getD i 0
  ·rw [if_pos h2];by_cases h3:H.getD i 0=h
   ·refine ⟨hH,Nat.le_refl _,fun hc=>absurd ?_ hc,fun _=>⟨F,by show _≤_;dsimp only;omega,if_pos h3⟩⟩;show (if _ then _ else _)=_;rw [if_neg (fun hc=>hc h3)]
   refine ⟨hH,Nat.le_refl _,fun hc=>?_,fun hc=>?_⟩
   ·rw [if_neg h3,if_pos (by show H.getD i 0≠-1;omega)];show _=([],if _ then _ else _);rw [if_pos h3]
   exfalso
   revert hc
   show ¬ (if _ then _ else _)=_;rw [if_pos h3];decide
  have h4:H.getD i 0=-1:=by have:=hH.2 i;omega
  have hi:i<H.length:=by rw [hH.1];omega
  have hu:=aPU (out:=H) (i:=i) (x:=h) h4 (by omega);have hS:=apH hH (i:=i) (x:=h) h0.1;rw [if_neg h2,if_neg (show ¬ H.getD i 0=h by omega),if_neg (show ¬ H.getD i 0≠-1 by omega)];dsimp only;generalize hx:C.getD i aI=x;generalize hm:gS t x h (fG C x.2).isSome=b;by_cases h5:b.2≠0
  ·rw [if_pos h5,if_pos h5];exact ⟨hS,by show nM (H.set i h)≤_;omega,fun _=>rfl,fun hc=>absurd hc h5⟩
  rw [if_neg h5,if_neg h5];have hb:=ab2 (t:=t) (x:=x) (is_:=(fG C x.2).isSome) h0 (by rw [hm];omega);rw [hm] at hb;unfold aH8;dsimp only;by_cases h6:x.1=27∨x.1=28∨x.1=29∨x.1=30
  ·rw [if_pos h6,if_neg (show ¬ (x.1=24∨x.1=25) by omega),if_neg (show ¬ (x.1≠24∧¬ (x.1=27∨x.1=28∨x.1=29∨x.1=30)) from fun hc=>hc.2 h6)];exact ⟨hS,by show nM (H.set i h)≤_;omega,fun hc=>absurd rfl hc,fun _=>⟨F,by show 3*nM (H.set i h)+_≤_;omega,rfl⟩⟩
  rw [if_neg h6];by_cases h7:x.1=24
  ·rw [if_pos h7,if_pos (Or.inl h7),if_neg (show ¬ (x.1≠24∧¬ (x.1=27∨x.1=28∨x.1=29∨x.1=30)) from fun hc=>hc.1 h7)];obtain ⟨k1,k2,k3,k4⟩:=ih (H.set i h) ((fG C x.2).getD 0) b.1 r F hS hb (by omega) (by omega);exact ⟨k1,by omega,k3,k4⟩
  rw [if_neg h7];by_cases h8:x.1=25
  ·rw [if_pos h8,if_pos (Or.inr h8),if_pos (show x.1≠24∧¬ (x.1=27∨x.1=28∨x.1=29∨x.1=30) from ⟨h7,h6⟩)];obtain ⟨k1,k2,k3,k4⟩:=ih (H.set i h) (i+1) b.1 (r++[((fG C x.2).getD 0,b.1)]) F hS hb (by omega) (by simp;omega);generalize aC9 t C f (H.set i h) (i+1) b.1=w at *;by_cases h9:w.2≠0
   ·rw [if_pos h9];exact ⟨k1,by omega,k3,fun hc=>absurd hc h9⟩
   rw [if_neg h9];obtain ⟨F',hF',he⟩:=k4 (by omega);rw [he];obtain ⟨j1,j2,j3,j4⟩:=ih w.1 ((fG C x.2).getD 0) b.1 r F' k1 hb (by omega) (by simp at hF';omega);exact ⟨j1,by omega,j3,j4⟩
  rw [if_neg h8,if_neg (show ¬ (x.1=24∨x.1=25) by omega),if_pos (show x.1≠24∧¬ (x.1=27∨x.1=28∨x.1=29∨x.1=30) from ⟨h7,h6⟩)];obtain ⟨k1,k2,k3,k4⟩:=ih (H.set i h) (i+1) b.1 r F hS hb (by omega) (by omega);exact ⟨k1,by omega,k3,k4⟩
def adU (t:TabP)(C:List bK):List Int × Int:=aC9 t C (C.length+1) (List.replicate C.length (-1)) 0 0
theorem anQ (C:List bK):HOk C (List.replicate C.length (-1)):=⟨by simp,fun k=>by
 rw [List.getD,List.getElem?_replicate];split<;>decide⟩
theorem asK (t:TabP)(C:List bK):(adU t C).2=(wA t C).2:=by
 have hu:=abX C.length;obtain ⟨_,_,h3,h4⟩:=hw t C (C.length+1) (List.replicate C.length (-1)) 0 0 [] (3*C.length+2) (anQ C) (by decide) (by omega) (by simp;omega);show (aC9 _ _ _ _ _ _).2=(pN _ _ _ _ ([]++[(0,0)])).2;by_cases h:(aC9 t C (C.length+1) (List.replicate C.length (-1)) 0 0).2=0
 ·obtain ⟨F',_,he⟩:=h4 h;rw [he,ab5,h]
 rw [h3 h]
set_option maxHeartbeats 6400000
theorem ae8 (l:List bK)(hl:l.length≤1000000000)(k:Int):PC Tryz.prog 276 [iU l,vi k] (vi (aBP l k)):=by
 rw [←apB];refine FB 0 28 Tryz.func276 ?_;refine G ?_;refine LP (ι:=Nat) (fun i=>[(5,vi i)]) (fun _=>[]) (fun i=>i≤l.length∧∀ j,j<i→((l.getD j aI).1==38&&(l.getD j aI).2==k)=false) (fun i=>l.length-i) 0 ⟨Nat.zero_le _,fun j hj=>by omega⟩ ?_;intro i hI;refine Gd (fun hb=>?_) fun hb=>?_
 ·have hi:i<l.length:=by simpa using hb
  refine Gd (fun hb=>?_) fun hb=>?_
  ·refine G ?_;exact RI (h:=(ao6 (Nat.le_refl _) hi hb hI.2).symm)
  refine G ?_;refine NX (i+1) ⟨hi,fun j hj=>?_⟩;rcases Nat.lt_succ_iff_lt_or_eq.1 hj with h|rfl
  ·exact hI.2 j h
  exact hb
 obtain rfl:i=l.length:=by simp at hb;omega
 refine G ?_;exact RI (h:=(ao7 (Nat.le_refl _) hI.2).symm)
def anO (n:Int):Bool:=((n==27||n==28)||n==29)||n==30
theorem asA (n:Int):PC Tryz.prog 273 [vi n] (vb (anO n)):=by
 refine FB 0 17 Tryz.func273 ?_;refine G ?_;exact RT rfl
theorem asB (l:List bK)(k:Int):decide (aBP l k<0)=!(fG l k).isSome:=by
 unfold aBP;cases fG l k with
 | none=>rfl
 | some i=>simp
theorem asC (t:TabP)(M:List bK)(hl:M.length≤1000000000)(i:Nat)(hi:i<M.length)(h:Int)(hh:0≤h∧h≤256):
 PC Tryz.prog 272 [bR t,iU M,vi (i:Int),vi h] (vi (gS t (M.getD i aI) h (fG M (M.getD i aI).2).isSome).2):=by
 refine FB 1 63 Tryz.func272 ?_;refine Gd (fun hb=>?_) fun hb=>?_
 ·refine G ?_;exact RI (h:=by unfold gS;rw [if_pos (by simpa using hb)])
 have h38:¬ (M.getD i aI).1=38:=by simpa using hb
 have hpu:0≤lQ (M.getD i aI)∧lQ (M.getD i aI)≤1:=by unfold lQ;split<;>decide
 refine C (arN t (M.getD i aI)) ?_;refine C (ae8 M hl (M.getD i aI).2) ?_;rw [asB];refine cd (fun hb=>?_) fun hb=>?_
 ·refine G ?_;exact RI (h:=by
   unfold gS;rw [if_neg h38,if_pos]
   revert hb
   cases oZ t (M.getD i aI)<;>cases (fG M (M.getD i aI).2).isSome<;>simp)
 have h1:¬ (oZ t (M.getD i aI)=false∨((M.getD i aI).1=24∨(M.getD i aI).1=25)∧(fG M (M.getD i aI).2).isSome=false):=by
  revert hb
  cases oZ t (M.getD i aI)<;>cases (fG M (M.getD i aI).2).isSome<;>simp
 refine C (aoW t (M.getD i aI)) ?_;refine C (aoV (M.getD i aI)) ?_;refine cd (fun hb=>?_) fun hb=>?_
 ·refine G ?_;exact RI (h:=by
   unfold gS;rw [if_neg h38,if_neg h1,if_pos]
   simp only [Bool.or_eq_true,Bool.and_eq_true,decide_eq_true_eq,beq_iff_eq,bne_iff_ne,ne_eq] at hb;omega)
 refine G ?_;exact RI (h:=by
  unfold gS;rw [if_neg h38,if_neg h1,if_neg]
  simp only [Bool.or_eq_false_iff,Bool.and_eq_false_iff,decide_eq_false_iff_not,beq_eq_false_iff_ne,bne_eq_false_iff_eq,ne_eq] at hb;omega)
end Go.Proofs.YtgajclaoaphgoaaGreatDoor
