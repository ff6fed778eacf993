/- Parts of the proof of a law of this seat: rules and contracts; no conditions. -/
import Derived.Test.YtgajclaoaphgoaaGreatDoorWireP
import Derived.Test.YtgajclaoaphgoaaGreatDoorVa
import Derived.Test.YtgajclaoaphgoaaGreatDoorMx
import Derived.Test.YtgajclaoaphgoaaGreatDoorMp
import Derived.Test.YtgajclaoaphgoaaGreatDoorProg
import Derived.Test.YtgajclaoaphgoaaGreatDoorAv
set_option maxHeartbeats 6400000
set_option maxRecDepth 100000
set_option linter.unusedVariables false
set_option linter.unusedSimpArgs false
namespace Go.Proofs.YtgajclaoaphgoaaGreatDoor
open Go.RowKit
def jM (t:TabP)(x:bK):Int:=
 if x.1∈[(8:Int),14,17] then 2
 else if x.1∈[(2:Int),4,6,9,10,11,12,13,15,16,18,19,20,22,23,25,27,31,32,34,36] then 1
 else if x.1≠26∨x.2<0∨x.2≥(t.funcs.length:Int) then 0
 else if nW t.funcs x.2<0∨nW t.funcs x.2≥(t.params.length:Int) then 0
 else nW t.params (nW t.funcs x.2)
def lQ (x:bK):Int:=if x.1∈[(1:Int),3,5,7,8,9,10,11,12,13,19,20,26] then 1 else 0
def oZ (t:TabP)(x:bK):Bool:=
 if x.1=1∨x.1=24∨x.1=25 then pW x.2
 else if x.1=12∨x.1=15∨x.1=16 then decide (x.2≥0)&&decide (x.2<t.flags)
 else
  let p:Int × Int:=if x.1=3∨x.1=4 then (0,(t.globals.length:Int)-1) else if x.1=5∨x.1=6 then (0,23) else if x.1=7 then (1,6) else if x.1=8 then (3,14) else if x.1=19 then (1,3) else if x.1=13∨x.1=14 then (0,(t.props.length:Int)-1) else if x.1=21 then (0,(t.texts.length:Int)-1) else if x.1=26 then (0,(t.funcs.length:Int)-1) else if x.1=32∨x.1=33 then (0,(t.daemons.length:Int)-1) else (0,0)
  (decide (x.1≥1)&&decide (x.1<38))&&(decide (x.2≥p.1)&&decide (x.2≤p.2))
def afO (x:bK):Prop:=x.1=24∨x.1=25
def afP (x:bK):Prop:=x.1=27∨x.1=28∨x.1=29∨x.1=30
def aA5 (t:TabP)(L:Int→Int)(S:Int→Prop)(x:bK)(h b:Int):Prop:=
 0≤h∧if x.1=38 then L x.2=h∧b=h
 else oZ t x=true∧jM t x≤h∧(x.1=27→h=1)∧h+lQ x-jM t x≤256∧(x.1=37→h=0)∧(afO x→S x.2∧L x.2=h-jM t x+lQ x)∧(x.1≠24→¬ afP x→b=h-jM t x+lQ x)
inductive Frag (t:TabP) (L:Int→Int) (S:Int→Prop):Int→List bK→List Int→Int→Prop where
 | nil (a:Int):Frag t L S a [] [] a
 | cons {x:bK} {h b c:Int} {C:List bK} {H:List Int}:aA5 t L S x h b→Frag t L S b C H c→Frag t L S h (x::C) (h::H) c
structure GoodX (t:TabP) (X:List (Int × Int)) (C:List bK) (n m a b:Int):Prop where
 le:n≤m
 ex:∃ (H:List Int) (B:List (Int × Int)),(∀ p∈B,n≤p.1∧p.1<m)∧B.Pairwise (fun p q=>p.1≠q.1)∧(∀ p∈B,(38,p.1)∈C)∧
  ∀ L S,(∀ p∈B,L p.1=p.2∧S p.1)→(∀ p∈X,L p.1=p.2∧S p.1)→Frag t L S a C H b
theorem GoodX.nil {t:TabP}{X:List (Int × Int)}(n a:Int):GoodX t X [] n n a a:=⟨Int.le_refl _,[],[],fun p hp=>(by cases hp),.nil,fun p hp=>(by cases hp),fun L S _ _=>.nil a⟩
theorem GoodX.one {t:TabP}{X:List (Int × Int)}{x:bK}{n a b:Int}(h:∀ L S,(∀ p∈X,L p.1=p.2∧S p.1)→aA5 t L S x a b):GoodX t X [x] n n a b:=
 ⟨Int.le_refl _,[a],[],fun p hp=>(by cases hp),.nil,fun p hp=>(by cases hp),fun L S _ hX=>.cons (h L S hX) (.nil b)⟩
def fG (C:List bK)(k:Int):Option Nat:=C.findIdx? fun x=>x.1==38&&x.2==k
def gS (t:TabP)(x:bK)(h:Int)(is:Bool):Int × Int:=
 if x.1=38 then (h,0)
 else if oZ t x=false∨(x.1=24∨x.1=25)∧is=false then (0,16)
 else if h<jM t x∨x.1=27∧h≠1∨jM t x<h+lQ x-256 then (0,17)
 else (h-jM t x+lQ x,0)
def aH8 (C:List bK)(x:bK)(at_:Nat)(b:Int)(r:List (Nat × Int)):List (Nat × Int):=
 let r1:=if x.1=24∨x.1=25 then r++[((fG C x.2).getD 0,b)] else r
 if x.1≠24∧¬ (x.1=27∨x.1=28∨x.1=29∨x.1=30) then r1++[(at_+1,b)] else r1
def pN (t:TabP)(C:List bK):Nat→List Int→List (Nat × Int)→List Int × Int
 | 0,out,_=>(out,0)
 | f+1,out,todo=>if todo=[] then (out,0) else
  let x:=todo.getLastD (0,0);let r:=todo.dropLast
  if x.1≥C.length then ([],2)
  else if out.getD x.1 0=x.2 then pN t C f out r
  else if out.getD x.1 0≠-1 then ([],17)
  else
   let i:=C.getD x.1 aI
   let b:=gS t i x.2 (fG C i.2).isSome
   if b.2≠0 then ([],b.2) else pN t C f (out.set x.1 x.2) (aH8 C i x.1 b.1 r)
def wA (t:TabP)(C:List bK):List Int × Int:=pN t C (3*C.length+2) (List.replicate C.length (-1)) [(0,0)]
theorem Frag.at_ {t:TabP}{L:Int→Int}{S:Int→Prop}{a b:Int}{C:List bK}{H:List Int}(h:Frag t L S a C H b):(0<C.length→H.getD 0 0=a)∧∀ i,i<C.length→aA5 t L S (C.getD i aI) (H.getD i 0) (if i+1<C.length then H.getD (i+1) 0 else b):=by
 induction h with
 | nil a=>exact ⟨fun h=>absurd h (Nat.lt_irrefl 0),fun i h=>absurd h (Nat.not_lt_zero i)⟩
 | @cons x h b c C H h1 h2 ih=>
  refine ⟨fun _=>rfl,fun i hi=>?_⟩;cases i with
  | zero=>
   show aA5 t L S x h _;by_cases hc:0<C.length
   ·rw [if_pos (by rw [List.length_cons];omega)];show aA5 t L S x h (H.getD 0 0);rw [ih.1 hc];exact h1
   rw [if_neg (by rw [List.length_cons];omega)];have:C=[]:=List.eq_nil_of_length_eq_zero (by omega);subst this;cases h2
   exact h1
  | succ i=>
   have:=ih.2 i (by rw [List.length_cons] at hi;omega);by_cases hc:i+1<C.length
   ·rw [if_pos hc] at this;rw [if_pos (by rw [List.length_cons];omega)];exact this
   rw [if_neg hc] at this;rw [if_neg (by rw [List.length_cons];omega)];exact this
section
variable {bb:Bool}{P:Program}{ops:Array Oper}{o:Oper}{l:List Oper}{d:Nat}{s:List (Nat × Av)}{h:List (Nat × Hs)}{R U:List (Nat × Hs)}{x:Av}{K:Ctx→List (List Nat × List Nat)→Prop}
theorem ahN {pol:Bool}:oV (.val (.bool pol)) pol true:=fun E v h=>by unfold aA at h;subst h;cases pol<;>rfl
theorem ahO {pol:Bool}:oV (.val (.bool (!pol))) pol false:=fun E v h=>by unfold aA at h;subst h;cases pol<;>rfl
theorem aSW {g t:Nat}{pol C:Bool}(hg:o.guard=some (g,pol))(hs:(ops[g]?).bind (·.dst)=some t)(hG:oV (bN s t) pol C){E:Env}{a:Act}(ht:∀ t∈tO ops o,aA E (bN s t) (a.tmps.getD t undef)):Region.wanted o (yielded ops a.tmps)=C:=by
 have hgt:aA E (bN s t) (a.tmps.getD t undef):=ht t (by simp [tO,aFQ,hg,hs]);have hy:(yielded ops a.tmps g==some pol)=C:=by
  have h1:=hG E _ hgt;unfold yielded;rw [hs,Option.bind_some];rw [←h1];by_cases hlt:t<a.tmps.size
  ·simp [Array.getD,hlt];split<;>simp_all
  simp [Array.getD,hlt,undef]
 simp only [Region.wanted,hg];exact hy
theorem pY {g t:Nat}{pol:Bool}(hg:o.guard=some (g,pol))(hs:(ops[g]?).bind (·.dst)=some t)(hd:o.dst=some d)(hG:bN s t=.val (.bool pol))(hop:OC P o (dA s) R x U)(hR:jU h R)(h':Ck bb P ops l ⟨(d,x)::s,U++h⟩ fun Γ' F=>K Γ' ((R.map (·.1),U.map (·.1))::F)):Ck bb P ops (o::l) ⟨s,h⟩ K:=
 let ⟨Γ',F,h1,h2⟩:=h'
 ⟨Γ',_,Ch.cons (R:=R) (U:=U) (x:=x) (fun E a hGd ht hRr=>by
  rw [if_pos (aSW hg hs (hG ▸ ahN) ht)];exact .inl (hop E a hGd (aJX ht) hRr)) (yJ hR) (by rw [hd];exact h1),h2⟩
theorem uU {g t:Nat}{pol:Bool}(hg:o.guard=some (g,pol))(hs:(ops[g]?).bind (·.dst)=some t)(hd:o.dst=some d)(hG:bN s t=.val (.bool (!pol)))(h':Ck bb P ops l ⟨(d,.any)::s,h⟩ fun Γ' F=>K Γ' (([],[])::F)):Ck bb P ops (o::l) ⟨s,h⟩ K:=
 let ⟨Γ',F,h1,h2⟩:=h'
 ⟨Γ',_,Ch.cons (R:=[]) (U:=[]) (x:=.any) (fun E a hGd ht hRr=>by
  rw [if_neg (by rw [aSW hg hs (hG ▸ ahO) ht];simp)];exact ⟨E,rfl,Step.refl E,hGd,by unfold aA;trivial,fun n y hn=>by simp [aL] at hn⟩) (fun n y hn=>by simp at hn) (by rw [hd];exact h1),h2⟩
end
section
variable {P:Program}{o:Oper}{ρ:Operand→Av}
theorem aBF {c p q:Operand}{x:Av}(ho:o.op=.pick c p q)(hc:ρ c=vb true)(hp:ρ p=x):OC P o ρ [] x []:=bZ fun E a hG hr _=>by
 have h1:=hr c (by simp [ho,Op.operands]);have h2:=hr p (by simp [ho,Op.operands]);rw [hc] at h1;rw [hp] at h2;unfold aA at h1;exact ⟨a.eval p,by simp [execOp,ho,h1,asBool,Sem.run_bind],h2⟩
theorem aKI {c p q:Operand}{x:Av}(ho:o.op=.pick c p q)(hc:ρ c=vb false)(hq:ρ q=x):OC P o ρ [] x []:=bZ fun E a hG hr _=>by
 have h1:=hr c (by simp [ho,Op.operands]);have h2:=hr q (by simp [ho,Op.operands]);rw [hc] at h1;rw [hq] at h2;unfold aA at h1;exact ⟨a.eval q,by simp [execOp,ho,h1,asBool,Sem.run_bind],h2⟩
end
section
variable {ro:Option Nat}{P:Program}{N:Nat}{D:List Nat}{x y:Code}{Q:Exit→Ctx→Prop}{Γ:Ctx}
theorem ag7 {ι:Type}(F:ι→Ctx)(I:ι→Prop)(h1:dW ro P N D x (wJ (fun Γ'=>∃ i,I i∧Le N D Γ' (F i)) Q) Γ)(h2:∀ i,I i→dW ro P N D y Q (F i)):dW ro P N D (.seq x y) Q Γ:=aD (aJC h1 fun e Γ' h=>by
 cases e
 case normal=>
  obtain ⟨i,hi,hl⟩:=h;exact bS hl (h2 i hi)
 all_goals exact h)
end
theorem aC2 {P:Program}{o:Oper}{ρ:Operand→Av}{p q r:Operand}{T e:TypeId}{k by_ n:Nat}{zs:List Value}{row:Nat→Av}{kk kk':IntKind}(l h:Nat)(ho:o.op=.slice T p (some q) (some r) none)(hp:ρ p=.sl k n row)(hq:ρ q=.val (.int kk (l:Int)))(hr':ρ r=.val (.int kk' (h:Int)))(hT:eB P T=some e)(hi:lW P e=some (k,by_,zs))(h1:l≤h)(h2:h≤n):OC P o ρ [] (.sl k (h-l) (fun j=>row (j+l))) []:=bZ fun E a hG hr _=>by
 have g1:=hr p (by simp [ho,Op.operands]);have g2:=hr q (by simp [ho,Op.operands]);have g3:=hr r (by simp [ho,Op.operands]);rw [hp] at g1;rw [hq] at g2;rw [hr'] at g3;have g2':a.eval q=.int kk (l:Int):=by unfold aA at g2;exact g2
 have g3':a.eval r=.int kk' (h:Int):=by unfold aA at g3;exact g3
 obtain ⟨A,c,hv,hc,hm⟩:=aSM g1;exact ⟨_,aJK ho hT hi hv hc (.inr ⟨q,kk,rfl,g2'⟩) (.inr ⟨r,kk',rfl,g3'⟩) h1 h2,aSK (hv ▸ g1) h1 h2⟩
theorem aRU {k:Nat}(hk:0<k):∀ (l:List Av),(∀ z∈l,(cL z).length=k)→∀ (j:Nat) (y:Av),(l.flatMap cL)[j]?=some y→∃ m i z,j=m*k+i∧i<k∧l[m]?=some z∧(cL z)[i]?=some y
 | [],_,j,y,hy=>by simp at hy
 | z::l,hl,j,y,hy=>by
  have hz:=hl z (List.mem_cons_self ..);rw [List.flatMap_cons] at hy;rcases Nat.lt_or_ge j k with h|h
  ·rw [List.getElem?_append_left (by omega)] at hy;exact ⟨0,j,z,by omega,h,rfl,hy⟩
  rw [List.getElem?_append_right (by omega),hz] at hy;obtain ⟨m,i,z',h1,h2,h3,h4⟩:=aRU hk l (fun x hx=>hl x (List.mem_cons_of_mem _ hx)) (j-k) y hy;exact ⟨m+1,i,z',by rw [Nat.succ_mul];omega,h2,h3,h4⟩
section
variable {P:Program}{o:Oper}{ρ:Operand→Av}{T:TypeId}
theorem abW {ps:List Operand}{xs:List Av}{e:TypeId}{k by_ n:Nat}{zs:List Value}(m:Nat)(ho:o.op=.buildSlice T n (lR 0 ps).toArray)(hT:eB P T=some e)(hi:lW P e=some (k,by_,zs))(hxs:ps.map ρ=xs)(hs:pX k xs=true)(hk:0<k)(hf:∀ z∈xs,(cL z).length=k)(hn:ps.length=n)(hm:n≤16777216)(hm2:n*k≤16777216):
 OC P o ρ [(m,.unborn)] (.osl k m n) [(m,.live e (xs.flatMap cL))]:=by
 intro E a hG hr hH;have hu:E.loc m=.unborn:=hH m .unborn (by simp);subst hxs hn;have hr':∀ p∈ps,aA E (ρ p) (a.eval p):=fun p hp=>hr p (by
  obtain ⟨i,hi⟩:=aEM ps 0 hp;simp [ho,Op.operands];exact ⟨i,hi⟩)
 obtain ⟨cells',h1,h2,h3⟩:=aJU E.w hT hi hr' hs hm2;have hB:Below E.w.heap.size E.w (E.w.alloc (.cells cells' e)):=(Below.refl _ _).alloc (Nat.le_refl _) _;have:((lR 0 ps).toArray.map fun (i,x)=>(i,a.eval x))=((lR 0 ps).map fun ip=>(ip.1,a.eval ip.2)).toArray:=by simp
 unfold eK execOp;simp only [ho,this,Sem.run_bind,h1,Result.andThen_ok,Sem.run_pure,fM];refine aA6 hG hu hB (Nat.le_refl _) (heap_alloc_new _ _) (fun j y hy=>?_) ?_
 ·obtain ⟨q,i,z,rfl,hi',hz,hzy⟩:=aRU hk _ hf j y hy;rw [List.getElem?_map] at hz;cases hp:ps[q]? with
  | none=>simp [hp] at hz
  | some p=>
   simp [hp] at hz;subst hz;have hpm:=List.mem_of_getElem? hp;obtain ⟨h4,h5,h6,h7⟩:=wP (hr' p hpm) (aEN _ hs _ (List.mem_map.2 ⟨p,hpm,rfl⟩));obtain ⟨u,h8,h9,h10⟩:=h7 i y hzy;exact ⟨u,h3 q p hp i u h8,h9,h10⟩
 unfold aA;refine ⟨⟨by simp [Env.give],⟨_,_,rfl⟩,fun hn=>by simp [Env.give] at hn⟩,fun b hb=>?_⟩;simp [Env.give] at hb;subst hb;exact ⟨ps.length,cells',e,rfl,Nat.le_refl _,by unfold maxLen;omega,heap_alloc_new _ _,by omega⟩
end
def cT (l:List bK):List Av:=l.flatMap fun p=>[vi p.1,vi p.2]
theorem oO (l:List bK):(cT l).length=l.length*2:=by
 induction l with
 | nil=>rfl
 | cons p l ih=>
  show ([vi p.1,vi p.2]++cT l).length=_;rw [List.length_append,ih];simp only [List.length_cons,List.length_nil];omega
theorem aAC (a b:List bK):cT (a++b)=cT a++cT b:=by unfold cT;simp
theorem aH6 {l:List bK}:∀ {j:Nat},j<l.length→(cT l)[j*2]?=some (vi (l.getD j aI).1):=by
 induction l with
 | nil=>intro j h;simp at h
 | cons p l ih=>
  intro j h;cases j with
  | zero=>rfl
  | succ j=>
   show (vi p.1::vi p.2::cT l)[(j+1)*2]?=_;rw [show (j+1)*2=j*2+1+1 from by omega,List.getElem?_cons_succ,List.getElem?_cons_succ,ih (by simpa using h)];rfl
theorem aH7 {l:List bK}:∀ {j:Nat},j<l.length→(cT l)[j*2+1]?=some (vi (l.getD j aI).2):=by
 induction l with
 | nil=>intro j h;simp at h
 | cons p l ih=>
  intro j h;cases j with
  | zero=>rfl
  | succ j=>
   show (vi p.1::vi p.2::cT l)[(j+1)*2+1]?=_;rw [show (j+1)*2+1=j*2+1+1+1 from by omega,List.getElem?_cons_succ,List.getElem?_cons_succ,ih (by simpa using h)];rfl
theorem ae3 (l:List bK):∀ j,j<l.length→eQ ((fun j=>iV (l.getD j aI)) j) 2=true∧∀ i y,i<2→(cT l)[j*2+i]?=some y→(cL ((fun j=>iV (l.getD j aI)) j))[i]?=some y:=fun j hj=>by
 refine ⟨rfl,fun i y hi hy=>?_⟩;rcases i with _|_|i
 ·rw [Nat.add_zero,aH6 hj] at hy;exact hy
 ·rw [aH7 hj] at hy;exact hy
 omega
theorem acA (π:Nat→Nat)(l:List bK):(cT l).map (Av.ren π)=cT l:=by
 induction l with
 | nil=>rfl
 | cons p l ih=>
  show ([vi p.1,vi p.2]++cT l).map (Av.ren π)=[vi p.1,vi p.2]++cT l;rw [List.map_append,ih];simp [Av.ren]
theorem aP1 {Z:List Nat}(l:List bK):∀ z∈cT l,aE Z z:=fun z hz=>by
 obtain ⟨p,_,hp⟩:=List.mem_flatMap.1 hz;simp at hp;rcases hp with rfl|rfl<;>simp [aE]
theorem Le.freezeI {N:Nat}{D:List Nat}{s:List (Nat × Av)}{h:List (Nat × Hs)}(t n:Nat){ty:TypeId}(l:List bK)(hs:bN s t=.osl 2 n l.length)(hn:aL h n=some (.live ty (cT l))):Le N D ⟨s,h⟩ ⟨(t,iU l)::s,(n,.dead)::h⟩:=Le.step fun E a hF=>by
 have hv:=hF.holds.1 t;rw [hs] at hv;have hH:=hF.holds.2 n _ hn;have hn0:E.loc n≠.unborn:=by unfold aA at hv;exact hv.1.1
 have hS:=Step.kill E n hn0;refine ⟨E.re n .dead,[n],rfl,hS,hF.good.re (by simp),fun u=>?_,fun m y hy=>?_⟩
 ·by_cases e:t=u
  ·subst e;rw [lE];refine aCY hF.good hv hH (oO l) (fun j hj=>⟨rfl,fun i y hy=>?_⟩) (fun j hj us hus h1=>?_)
   ·have hy':[vi (l.getD j aI).1,vi (l.getD j aI).2][i]?=some y:=hy;rcases i with _|_|i
    ·simp at hy';subst hy';rw [Nat.add_zero,aH6 hj];simp
    ·simp at hy';subst hy';rw [aH7 hj];simp
    simp at hy'
   refine ⟨.agg us.toArray,?_,?_⟩
   ·unfold iV aA;exact ⟨us,rfl,hus,h1⟩
   have hus':aG (E.re n .dead) [vi (l.getD j aI).1,vi (l.getD j aI).2] us:=hus;unfold aG aG aG at hus';obtain ⟨u,us',rfl,h3,u',us'',rfl,h4,rfl⟩:=hus';unfold aA at h3 h4;subst h3;subst h4;rfl
  rw [lS _ _ e];exact aA.step hS _ _ (hF.holds.1 u)
 by_cases e:n=m
 ·subst e;simp [aL] at hy;subst hy;show (E.re n .dead).loc n=.dead;simp [Env.re]
 simp only [aL,eY e,cond_false] at hy;exact dI.step hS (by simp [Ne.symm e]) (hF.holds.2 m y hy)
section
variable {P:Program}{o:Oper}{p q:Operand}{ρ:Operand→Av}{T e:TypeId}{k by_:Nat}{zs:List Value}{x:Av}
theorem jG (ho:o.op=.buildSlice T 1 #[(0,p)]:=by rfl)(hx:ρ p=x:=by first|exact (rfl:_=Av.val _)|exact (rfl:_=Av.sl _ _ _)|exact (rfl:_=Av.agg _)|rfl)(hT:eB P T=some e:=by rfl)(hi:lW P e=some (k,by_,zs):=by rfl)(hs:eQ x k=true:=by rfl)(hkb:Nat.ble k 4096=true:=by rfl):OC P o ρ [] (.sl k 1 (gE [x])) []:=by
 have hk:1*k≤16777216:=by have:=Nat.le_of_ble_eq_true hkb;omega
 exact fO (ps:=[p]) (xs:=[x]) (zs:=zs) ho hT hi (by rw [←hx];rfl) (by unfold pX pX;rw [hs];rfl) rfl hk (by decide)
theorem apA (m:Nat){n len:Nat}{cs ds:List Av}(ho:o.op=.call { callee:=.builtin .append,args:=#[p,q],argTypes:=#[T,T] }:=by rfl)(hp:ρ p=.osl k n len:=by rfl)(hq:ρ q=.sl k 1 (gE [x]):=by rfl)(hT:eB P T=some e:=by rfl)(hi:lW P e=some (k,by_,zs):=by rfl)(hzl:zs.length=k:=by rfl)(h0:0<k:=by decide)(hnm:n≠m:=by decide)(hs:eQ x k=true:=by rfl)(hds:cL x=ds:=by first|exact (rfl:_=[_])|exact (rfl:_=[_,_])|exact (rfl:_=[_,_,_])|exact (rfl:_=[_,_,_,_])|exact (rfl:_=[_,_,_,_,_])|exact (rfl:_=[_,_,_,_,_,_])|exact (rfl:_=[_,_,_,_,_,_,_])|exact (rfl:_=[_,_,_,_,_,_,_,_])|exact (rfl:_=[_,_,_,_,_,_,_,_,_]))(hdl:ds.length=k:=by rfl)(hl:cs.length=len*k:=by first|(simp;done)|rw [oO])(hby:Nat.ble by_ 256=true:=by rfl)(hlen:len<500000000000:=by first|omega|(simp only [List.length_map];omega)):OC P o ρ [(n,.live e cs),(m,.unborn)] (.osl k m (len+1)) [(n,.dead),(m,.live e (cs++ds))]:=
 iG m ho hp hq hT hi hzl h0 hnm hl (by rw [hdl,Nat.one_mul]) (hds ▸ uZ hs) (Nat.le_trans (Nat.mul_le_mul_left _ (Nat.le_of_ble_eq_true hby)) (by omega)) (by omega)
theorem jH {bb:Bool}{ops:Array Oper}{l:List Oper}{s:List (Nat × Av)}{h:List (Nat × Hs)}{K:Ctx→List (List Nat × List Nat)→Prop}{d:Nat}(m:Nat){n len:Nat}{cs ds:List Av}
 (h':Ck bb P ops l ⟨(d,.osl k m (len+1))::s,[(n,Hs.dead),(m,Hs.live e (cs++ds))]++h⟩ fun Γ' F=>K Γ' ((([(n,Hs.live e cs),(m,Hs.unborn)]:List (Nat × Hs)).map (·.1),([(n,Hs.dead),(m,Hs.live e (cs++ds))]:List (Nat × Hs)).map (·.1))::F))
 (ho:o.op=.call { callee:=.builtin .append,args:=#[p,q],argTypes:=#[T,T] }:=by rfl) (hg:o.guard=none:=by rfl) (hd:o.dst=some d:=by rfl) (hp:dA s p=.osl k n len:=by rfl) (hT:eB P T=some e:=by rfl) (hR:jU h [(n,Hs.live e cs),(m,Hs.unborn)]:=by exact ⟨rfl,rfl,trivial⟩) (hq:dA s q=.sl k 1 (gE [x]):=by rfl) (hi:lW P e=some (k,by_,zs):=by rfl) (hzl:zs.length=k:=by rfl) (h0:0<k:=by decide) (hnm:n≠m:=by decide) (hs:eQ x k=true:=by rfl) (hds:cL x=ds:=by first|exact (rfl:_=[_])|exact (rfl:_=[_,_])|exact (rfl:_=[_,_,_])|exact (rfl:_=[_,_,_,_])|exact (rfl:_=[_,_,_,_,_])|exact (rfl:_=[_,_,_,_,_,_])|exact (rfl:_=[_,_,_,_,_,_,_])|exact (rfl:_=[_,_,_,_,_,_,_,_])|exact (rfl:_=[_,_,_,_,_,_,_,_,_])) (hdl:ds.length=k:=by rfl) (hl:cs.length=len*k:=by first|(simp;done)|rw [oO]|(simp only [List.length_append,oO,List.length_cons,List.length_nil];omega)|(simp;omega)) (hby:Nat.ble by_ 256=true:=by rfl) (hlen:len<500000000000:=by first|omega|(simp only [List.length_map];omega)):Ck bb P ops (o::l) ⟨s,h⟩ K:=aZ hg hd (apA m ho hp hq hT hi hzl h0 hnm hs hds hdl hl hby hlen) hR h'
theorem ixK {n len j:Nat}{t:TypeId}{cs:List Av}{kk:IntKind}(ho:o.op=.indexAddr T p q:=by rfl)(hp:ρ p=.osl k n len:=by rfl)(hq:ρ q=.val (.int kk ((j:Nat):Int)):=by rfl)(hT:sZ P T=some k:=by rfl)(h1:j<len:=by omega):OC P o ρ [(n,.live t cs)] (.own n (j*k)) []:=vL ho hp hq hT (by omega) (by omega) (by rw [Int.toNat_natCast])
end
theorem Le.freezeV {N:Nat}{D:List Nat}{s:List (Nat × Av)}{h:List (Nat × Hs)}(t n:Nat)(l:List Int){len:Nat}{ty:TypeId}{cs:List Av}(hs:bN s t=.osl 1 n len:=by rfl)(hn:aL h n=some (.live ty cs):=by rfl)(hc:cs=l.map vi:=by first|rfl|(simp;done))(hlen:len=l.length:=by first|rfl|(simp;done)):Le N D ⟨s,h⟩ ⟨(t,aK l)::s,(n,.dead)::h⟩:=by
 subst hc hlen;exact Le.freeze t n (fun j=>vi (l.getD j 0)) hs hn (by simp) (aUH l)
theorem aKM {E:Env}{xs:List Int}{v:Value}(h:aA E (aK xs) v):∃ A c,v=.slice A xs.length c∧xs.length≤c∧c≤maxLen∧Rd E.w E.w.heap.size A (cb .i64 xs):=by
 unfold aK aA at h;obtain ⟨A,c,h1,h2,h3,h4⟩:=h;refine ⟨A,c,h1,h2,h3,fun hl=>?_⟩;rw [mL] at hl;obtain ⟨b,o,h5,h6,h7⟩:=h4 hl;refine ⟨b,o,h5,h6.1,fun j u hu=>?_⟩;have hj:j<xs.length:=by have:=(List.getElem?_eq_some_iff.1 hu).1;rwa [mL] at this
 obtain ⟨u',h8,h9,h10⟩:=h7 j hj;unfold aA at h8;subst h8;have:=h10 0 (.int .i64 (xs.getD j 0)) (by simp [Value.cells]);have hu':u=.int .i64 (xs.getD j 0):=by
  unfold cb at hu;rw [List.getElem?_map,List.getElem?_eq_getElem hj] at hu;simp at hu;rw [←hu];simp [List.getD,hj]
 rw [hu'];simpa using this
theorem aVA {E:Env}{xs:List Int}{A:Option Addr}{c:Nat}(h:0<xs.length→∃ b o,A=some ⟨b,o,none⟩∧E.ok b∧∀ j u,(cb .i64 xs)[j]?=some u→E.w.cell? ⟨b,o+j,none⟩=some u)(h1:xs.length≤c)(h2:c≤maxLen):aA E (aK xs) (.slice A xs.length c):=by
 unfold aK aA;refine ⟨A,c,rfl,h1,h2,fun hl=>?_⟩;obtain ⟨b,o,h3,h4,h5⟩:=h hl;refine ⟨b,o,h3,h4,fun j hj=>⟨.int .i64 (xs.getD j 0),by unfold aA;rfl,rfl,fun i u hu=>?_⟩⟩;have hi:i=0:=by
  cases i with
  | zero=>rfl
  | succ i=>simp [Value.cells] at hu
 subst hi;simp [Value.cells] at hu;subst hu;have:=h5 j (.int .i64 (xs.getD j 0)) (by unfold cb;rw [List.getElem?_map,List.getElem?_eq_getElem hj];simp [List.getD,hj]);simpa using this
theorem aB5 {E:Env}(hG:Good E){w':World}{e:TypeId}{A:Option Addr}{n c:Nat}{zs:List Int}(ho:bA w' E.w.heap.size e (.slice A n c) (cb .i64 zs))(hb:Below E.w.heap.size E.w w'):aA { E with w:=w' } (aK zs) (.slice A n c):=by
 obtain ⟨h1,h2,h3⟩:=ho.rd;rw [mL] at h1;subst h1;rcases ho.2 with ⟨h4,_⟩|⟨g,cap,cur,h4,h5,h6,h7,h8,_⟩
 ·injection h4 with h4 h5 h6
  subst h6;exact aVA (fun hl=>by omega) h2 (Nat.zero_le _)
 injection h4 with h4 h9 h10
 subst h10;refine aVA (fun hl=>?_) h2 h8;obtain ⟨b,o,h11,_,h12⟩:=h3 (by rwa [mL]);rw [h4] at h11;injection h11 with h11
 injection h11 with h11 h13
 subst h11;subst h13
 exact ⟨g,0,h4,⟨(Array.getElem?_eq_some_iff.1 h6).1,fun hbad=>by have:=hG.old g hbad;omega,fun n hn=>by have:=(hG.lt n g hn).1;omega⟩,h12⟩
theorem aA2 {f:FuncId}{e:TypeId}{u:Value}{xs zs:List Int}{P:Program}(h:∀ A c w,Rd w w.heap.size A (cb .u8 xs)→xs.length≤c→Calls P f #[.slice A xs.length c,u] w (kG w e (cb .u8 zs))):PC P f [bs xs,.val u] (bs zs):=by
 intro E vs hG hA _ _ _;unfold aG aG aG at hA;obtain ⟨v,us,rfl,hv,v',us',rfl,hv',rfl⟩:=hA;obtain ⟨A,c,rfl,h1,_,h2⟩:=aBC hv;unfold aA at hv';subst hv';refine (h A c E.w h2 h1).mono ?_;rintro en w' ⟨B,n,cc,rfl,hown,hb⟩;exact ⟨{ E with w:=w' },_,rfl,rfl,hG.grow hb,(Step.grow hG hb).kept (by simp),aKB hG hown hb,fun n y hn=>by simp [aL] at hn⟩
theorem aeY {f:FuncId}{e:TypeId}{xs ls zs:List Int}{P:Program}(h:∀ A c L d w,Rd w w.heap.size A (cb .u8 xs)→xs.length≤c→Rd w w.heap.size L (cb .i64 ls)→ls.length≤d→Calls P f #[.slice A xs.length c,.slice L ls.length d] w (kG w e (cb .u8 zs))):PC P f [bs xs,aK ls] (bs zs):=by
 intro E vs hG hA _ _ _;unfold aG aG aG at hA;obtain ⟨v,us,rfl,hv,v',us',rfl,hv',rfl⟩:=hA;obtain ⟨A,c,rfl,h1,_,h2⟩:=aBC hv;obtain ⟨L,d,rfl,h1',_,h2'⟩:=aKM hv';refine (h A c L d E.w h2 h1 h2' h1').mono ?_;rintro en w' ⟨B,n,cc,rfl,hown,hb⟩;exact ⟨{ E with w:=w' },_,rfl,rfl,hG.grow hb,(Step.grow hG hb).kept (by simp),aKB hG hown hb,fun n y hn=>by simp [aL] at hn⟩
def jV (xs:List Int)(s:Int × Int):Av:=.agg [bs xs,vi s.1,vi s.2]
section
variable {P:Program}{o:Oper}{x y:Av}{R U:List (Nat × Hs)}{ρ:Operand→Av}{p q:Operand}{T:TypeId}
end
instance (xs:List Int) (s:Int × Int):Pu (jV xs s):=⟨by unfold jV;exact Pu.out⟩
end Go.Proofs.YtgajclaoaphgoaaGreatDoor
namespace Go.Proofs.YtgajclaoaphgoaaGreatDoor
def cU (xs:List Int)(at_ err most:Int)(e:Nat):List Int × Int × Int:=
 if (eX xs (bY xs at_ err most).2.1 (bY xs at_ err most).2.2 ((bY xs at_ err most).1.toNat*e)).2.2=0 then eX xs (bY xs at_ err most).2.1 (bY xs at_ err most).2.2 ((bY xs at_ err most).1.toNat*e)
 else ([],at_,(eX xs (bY xs at_ err most).2.1 (bY xs at_ err most).2.2 ((bY xs at_ err most).1.toNat*e)).2.2)
def kL:List Int→List Int
 | a::b::r=>nX (gI [a,b])::kL r
 | _=>[]
theorem aVG (xs:List Int)(hb:cI xs)(at0 most:Int):∀ (f k:Nat) (n:Int),k+f≤6→0≤n→n<128^k→0≤(kE xs at0 most f k n).1∧(kE xs at0 most f k n).1<34359738368
 | 0,_,_,_,_,_=>by simp [kE]
 | f+1,k,n,hk,h0,h1=>by
  rw [kE];have z:(0:Int)≤0∧(0:Int)<34359738368:=by decide
  split
  ·exact z
  rename_i hlk;split
  ·exact z
  rename_i h5;have hx:0≤xs.getD (at0+k).toNat 0∧xs.getD (at0+k).toNat 0<256:=by
   unfold kM at hlk;have hidx:(at0+k).toNat<xs.length:=by omega
   have:=hb.get hidx;simpa [List.getD,List.getElem?_eq_getElem hidx] using this
  generalize xs.getD (at0+k).toNat 0=x at *;have hk4:k≤4:=by omega
  have hy:0≤x%128∧x%128≤127:=by omega
  generalize x%128=y at *;have key:0≤n+y*128^k∧n+y*128^k<128^(k+1)∧(128:Int)^(k+1)≤34359738368:=by
   rcases (show k=0∨k=1∨k=2∨k=3∨k=4 by omega) with rfl|rfl|rfl|rfl|rfl<;>(simp only [Int.reducePow,Nat.zero_add,Nat.reduceAdd] at *;omega)
  split
  ·split
   ·exact z
   exact ⟨key.1,by omega⟩
  exact aVG xs hb at0 most f (k+1) _ (by omega) key.1 key.2.1
theorem aT7 (xs:List Int)(hb:cI xs)(at_ err most:Int):0≤(bY xs at_ err most).1∧(bY xs at_ err most).1<34359738368:=by
 unfold bY;split
 ·exact ⟨Int.le_refl 0,by omega⟩
 exact aVG xs hb at_ most 6 0 0 (by omega) (by omega) (by decide)
theorem akW (xs:List Int)(at_ err most:Int)(e:Nat)(h:cI xs):cI (cU xs at_ err most e).1:=by
 unfold cU;split
 ·exact aUD _ _ _ _ h
 exact cI.nil
theorem aT8:∀ (k:Nat) (bs:List Int) (h:2*k+1<bs.length),kL (bs.take (2*k+2))=kL (bs.take (2*k))++[nX (gI [bs[2*k]'(by omega),bs[2*k+1]])]
 | 0,a::b::r,_=>by simp [kL]
 | k+1,a::b::r,h=>by
  have:=aT8 k r (by simp at h;omega);have t1:(a::b::r).take (2*(k+1))=a::b::r.take (2*k):=rfl;have t2:(a::b::r).take (2*(k+1)+2)=a::b::r.take (2*k+2):=rfl;have g1:(a::b::r)[2*(k+1)]'(by omega)=r[2*k]'(by simp at h;omega):=rfl;have g2:(a::b::r)[2*(k+1)+1]=r[2*k+1]'(by simp at h;omega):=rfl;rw [t1,t2,g1,g2,kL,kL,this];rfl
 | _,[_],h=>by simp at h
 | _,[],h=>by simp at h
theorem aT9:∀ (k:Nat) (bs:List Int),2*k≤bs.length→(kL (bs.take (2*k))).length=k
 | 0,_,_=>by simp [kL]
 | k+1,a::b::r,h=>by
  rw [show 2*(k+1)=(2*k)+2 by omega,List.take_succ_cons,List.take_succ_cons,kL,List.length_cons,aT9 k r (by simp at h;omega)]
 | _+1,[_],h=>by simp at h;omega
 | _+1,[],h=>by simp at h
theorem aUC:∀ (k:Nat) (bs:List Int),bs.length≤2*k+1→kL (bs.take (2*k))=kL bs
 | 0,[],_=>rfl
 | 0,[_],_=>rfl
 | 0,_::_::_,h=>by simp at h
 | k+1,a::b::r,h=>by
  rw [show 2*(k+1)=(2*k)+2 by omega,List.take_succ_cons,List.take_succ_cons,kL,kL,aUC k r (by simp at h;omega)]
 | _+1,[_],_=>rfl
 | _+1,[],_=>rfl
theorem amX (xs:List Int)(at_ err:Int)(k:Nat):(eX xs at_ err k).1.length≤xs.length:=by
 unfold eX;split
 ·simp
 split
 ·simp
 simp;omega
theorem aTF (xs:List Int)(at_ err most:Int)(e:Nat):(cU xs at_ err most e).1.length≤xs.length:=by
 unfold cU;split
 ·exact amX _ _ _ _
 simp
theorem bA.fresh {w:World}{base:Nat}{e:TypeId}{v:Value}{xs:List Value}(h:bA w base e v xs){g:Nat}(hg:w.heap.size≤g):v.ownBlock≠some g:=fun e=>by have:=(h.block g e).2;omega
open Go.RowKit Go.IntWalk
theorem am3 (S x:Int)(h0:0≤S)(h1:S<72057594037927936)(h2:0≤x)(h3:x<256):bits .or .u64 (IntKind.u64.wrap (S*256)) (IntKind.u64.wrap x)=S*256+x:=by
 obtain ⟨s,rfl⟩:=Int.eq_ofNat_of_zero_le h0;obtain ⟨y,rfl⟩:=Int.eq_ofNat_of_zero_le h2;rw [wD,wD,Int.emod_eq_of_lt (by omega) (by omega),Int.emod_eq_of_lt (by omega) (by omega)];have h:=adH s y 8 (by omega) (by omega);rw [show ((2^8*s:Nat):Int)=(s:Int)*256 from by omega] at h;rw [h];omega
theorem amW (x:Int)(h0:0≤x)(h1:x<256):bits .and .u8 x 127=x%128:=by
 have h:∀ r:Fin 256,bits .and .u8 (r.val:Int) 127=(r.val:Int)%128:=by decide +kernel
 have:=h ⟨x.toNat,by omega⟩;simpa [Int.toNat_of_nonneg h0] using this
theorem aBR (m x:Int)(k:Nat)(P:Nat)(hP:P=2^(7*k))(hk:k≤4)(h0:0≤m)(h1:m<P)(h2:0≤x)(h3:x<256):bits .or .i64 m (x%128*P)=m+x%128*P:=by
 obtain ⟨a,rfl⟩:=Int.eq_ofNat_of_zero_le h0;obtain ⟨y,rfl⟩:=Int.eq_ofNat_of_zero_le h2;have hp:2^(7*k)≤2^(7*4):=Nat.pow_le_pow_right (by omega) (by omega);have hq:P≤268435456:=by rw [hP];exact hp
 have hm:P*(y%128)≤268435456*128:=Nat.mul_le_mul hq (by omega);have h:=adJ (y%128) a (7*k) (by rw [←hP];omega) (by rw [←hP];omega);rw [←hP] at h;rw [show ((P*(y%128):Nat):Int)=(y:Int)%128*(P:Int) from by rw [Nat.mul_comm,Int.natCast_mul,Int.natCast_emod];rfl] at h;rw [h,Int.natCast_add,Nat.mul_comm,Int.natCast_mul,Int.natCast_emod];rfl
end Go.Proofs.YtgajclaoaphgoaaGreatDoor
namespace Go.Proofs.YtgajclaoaphgoaaGreatDoor
open Go.RowKit
theorem aiI {xs:List Int}{a b:Nat}(h:a≤b)(h2:b≤xs.length)(E:Env)(v:Value)(hr:aA E (.sl 1 (b-a) (fun j=>bv xs (j+a))) v):aA E (bs ((xs.drop a).take (b-a))) v:=by
 have hl:((xs.drop a).take (b-a)).length=b-a:=by rw [List.length_take,List.length_drop];omega
 unfold bs;rw [hl];refine pI (fun E k hk v hv=>?_) E v hr;have e:((xs.drop a).take (b-a)).getD k 0=xs.getD (k+a) 0:=by
  rw [List.getD,List.getD,List.getElem?_take,if_pos hk,List.getElem?_drop];congr 2;omega
 unfold bv;rw [e];exact hv
set_option maxHeartbeats 6400000
section
variable {P:Program}{o:Oper}{ρ:Operand→Av}{p q:Operand}{T T':TypeId}
theorem aoA {op:BinOp}{k:IntKind}{a b c:Int}(h:bits op k a b=c)(ho:o.op=.binOp op T p q T':=by rfl)(hp:ρ p=.val (.int k a):=by rfl)(hq:ρ q=.val (.int k b):=by rfl)(hz:∀ w,(binOp op T (.int k a) (.int k b)).run P w=.ok (.int k (bits op k a b)) w:=by exact fun _=>rfl)(hg:∀ w,(eqGuard op T p q (.int k a) (.int k b)).run P w=.ok () w:=by exact fun _=>rfl):OC P o ρ [] (.val (.int k c)) []:=h ▸ aDL ho hp hq hg hz
end
theorem apY (l:List Int)(hb:cI l)(h8:l.length≤8):PC Tryz.prog 223 [bs l] (.val (.int .u64 (gI l))):=by
 refine FB 0 19 Tryz.func223 ?_;refine G ?_;refine LP (ι:=Nat) (fun k=>[(3,.val (.int .u64 (gI (l.take k)))),(8,vi k)]) (fun _=>[]) (fun k=>k≤l.length) (fun k=>l.length-k) 0 (Nat.zero_le _) ?_;intro k hI;refine Gd (fun hk=>?_) fun hk=>?_
 ·have hk:k<l.length:=by have:=of_decide_eq_true hk;omega
  have hst:=aVE l k hk;have hbd:=aVF l hb k hI;have hx:=hb.get hk;have hg:l.getD k 0=l[k]:=by simp [List.getD,List.getElem?_eq_getElem hk]
  have h7:(256:Int)^k≤256^7:=by exact_mod_cast Nat.pow_le_pow_right (by omega) (show k≤7 by omega)
  have h72:(256:Int)^7=72057594037927936:=by decide
  rw [←hg] at hst hx;refine G ?_;refine Z1 (aPX rfl rfl rfl (by decide)) ?_;refine G ?_;refine Z1 (aoA (am3 (gI (l.take k)) (l.getD k 0) hbd.1 (by omega) hx.1 hx.2)) ?_;rw [←hst];refine G ?_;exact NX (k+1) hk
 obtain rfl:k=l.length:=by have:=of_decide_eq_false hk;omega
 rw [List.take_length];refine G ?_;exact RT rfl
theorem am1 (xs:List Int)(s:Int × Int)(k:Nat)(hl:xs.length≤1000000000)(hk:k≤1000000000000):PC Tryz.prog 255 [jV xs s,vi (k:Int)] (.tup [bs (eX xs s.1 s.2 k).1,jV xs (eX xs s.1 s.2 k).2]):=by
 refine FB 2 50 Tryz.func255 ?_;refine sq ?_;refine Z2 (aQN 0 rfl rfl rfl) ?_;refine Gd (fun hb=>?_) fun hb=>?_
 ·have hb:s.2≠0:=by simpa using hb
  rw [show eX xs s.1 s.2 k=([],s.1,s.2) from if_pos hb];refine G ?_;exact R2 rfl (aT.to (aT.tmp rfl) qI)
 have he:s.2=0:=by simpa using hb
 have hw:0≤s.1→s.1≤xs.length→IntKind.i64.wrap (xs.length-s.1)=xs.length-s.1:=fun _ _=>aFI _ (by omega) (by omega);refine Gd (fun hb=>?_) fun hb=>?_
 ·have hb:kM xs.length s.1 k:=by
   unfold kM;simp only [Bool.or_eq_true,decide_eq_true_eq] at hb;omega
  rw [he,amV xs s.1 k hb];refine G ?_;exact R2 rfl (aT.to (aT.tmp rfl) qI)
 simp only [Bool.or_eq_false_iff,decide_eq_false_iff_not] at hb;have hn:¬ kM xs.length s.1 k:=by
  unfold kM;omega
 rw [show eX xs s.1 s.2 k=((xs.drop s.1.toNat).take k,s.1+k,0) from by unfold eX;rw [if_neg (by omega),if_neg hn]];refine G ?_;refine Z1 (OC.to (aC2 (e:=5) (by_:=1) (zs:=[.int .u8 0]) s.1.toNat (s.1.toNat+k) rfl rfl (aR (by omega)) (aR (by omega)) (by kernel_rfl) (by kernel_rfl) (by omega) (by unfold kM at hn;omega)) (aiI (by omega) (by unfold kM at hn;omega))) ?_;rw [Nat.add_sub_cancel_left];refine G ?_;rw [←he];exact R2
theorem as4 (xs:List Int)(s:Int × Int)(hl:xs.length≤1000000)(hb:cI xs):PC Tryz.prog 226 [jV xs s] (.tup [vi (gI (eX xs s.1 s.2 1).1),jV xs (eX xs s.1 s.2 1).2]):=by
 have hB:=aUD xs s.1 s.2 1 hb;have hL:=akY xs s.1 s.2 1;have hN:=akZ _ hB 1 hL;refine FB 2 14 Tryz.func226 ?_;refine sq ?_;refine Z2 (aQN 0 rfl rfl rfl) ?_;refine C (am1 xs s 1 (by omega) (by decide)) ?_;refine C (apY (eX xs s.1 s.2 1).1 hB (by omega)) ?_;exact R2
theorem am2 (xs:List Int)(a e0 e:Int):FC Tryz.prog 254 [vi e,.own 2 0] [(2,.live 81 [bs xs,vi a,vi e0])] (.tup [vi 0,jV xs (a,e)]) [(2,.live 81 [bs xs,vi a,vi e])]:=by
 refine FB 4 8 Tryz.func254 ?_;refine G ?_;exact R2
theorem as7 (xs:List Int)(s:Int × Int):PC Tryz.prog 40 [jV xs s] (vi (tC xs.length s.1 s.2)):=by
 refine FB 0 16 Tryz.func40 ?_;refine Gd (fun hb=>?_) fun hb=>?_
 all_goals
  refine G ?_;exact RI (h:=by unfold tC;simp at hb;first|rw [if_pos hb]|rw [if_neg (by omega)])
theorem auC {n x:Int}{k:Nat}(hk:k≤4)(h0:0≤n)(h1:n<128^k)(h2:0≤x)(h3:x<256):bits .or .i64 n (IntKind.i64.wrap (x%128*2^(min (7*(k:Int)).toNat (IntKind.bits .i64))))=n+x%128*128^k:=by
 rcases (show k=0∨k=1∨k=2∨k=3∨k=4 by omega) with rfl|rfl|rfl|rfl|rfl
 ·have:=aBR n x 0 1 (by decide) (by omega) h0 (by simpa using h1) h2 h3;rw [show (2:Int)^(min (7*((0:Nat):Int)).toNat (IntKind.bits .i64))=1 from rfl,aFI _ (by omega) (by omega)];simpa using this
 ·have:=aBR n x 1 128 (by decide) (by omega) h0 (by simpa using h1) h2 h3;rw [show (2:Int)^(min (7*((1:Nat):Int)).toNat (IntKind.bits .i64))=128 from rfl,aFI _ (by omega) (by omega)];simpa using this
 ·have:=aBR n x 2 16384 (by decide) (by omega) h0 (by simpa using h1) h2 h3;rw [show (2:Int)^(min (7*((2:Nat):Int)).toNat (IntKind.bits .i64))=16384 from rfl,aFI _ (by omega) (by omega)];simpa using this
 ·have:=aBR n x 3 2097152 (by decide) (by omega) h0 (by simpa using h1) h2 h3;rw [show (2:Int)^(min (7*((3:Nat):Int)).toNat (IntKind.bits .i64))=2097152 from rfl,aFI _ (by omega) (by omega)];simpa using this
 have:=aBR n x 4 268435456 (by decide) (by omega) h0 (by simpa using h1) h2 h3;rw [show (2:Int)^(min (7*((4:Nat):Int)).toNat (IntKind.bits .i64))=268435456 from rfl,aFI _ (by omega) (by omega)];simpa using this
theorem apK (xs:List Int)(most:Int)(s:Int × Int)(hl:xs.length≤1000000)(hb:cI xs):PC Tryz.prog 219 [jV xs s,vi most] (.tup [vi (bY xs s.1 s.2 most).1,jV xs (bY xs s.1 s.2 most).2]):=by
 refine FB 4 74 Tryz.func219 ?_;refine sq ?_;refine Z2 (aQN 0 rfl rfl rfl) ?_;refine G ?_;refine af2 ?_;refine Gd (fun he=>?_) fun he=>?_
 ·rw [show bY xs s.1 s.2 most=(0,s.1,s.2) from if_pos (by simpa using he)];refine G ?_;exact R2
 have he:s.2=0:=by simpa using he
 rw [he,show bY xs s.1 0 most=kE xs s.1 most 6 0 0 from if_neg (by simp)];refine G ?_;refine Z1 (qC (cs:=[.own _ _]) rfl rfl) ?_;refine G ?_;refine af3 ?_;refine G ?_;generalize hG:kE xs s.1 most 6 0 0=r;refine LP (ι:=Nat × Int × Int) (fun q=>[(8,vi q.2.1),(9,vi q.1)]) (fun q=>[(0,.live 81 [bs xs,vi q.2.2,vi 0]),(3,.unborn)]) (fun q=>q.1≤5∧q.2.2=s.1+q.1∧0≤q.2.1∧q.2.1<128^q.1∧r=kE xs s.1 most (6-q.1) q.1 q.2.1) (fun q=>6-q.1) (0,0,s.1) ⟨Nat.zero_le _,by simp,Int.le_refl _,by simp,hG.symm⟩ ?_;rintro ⟨k,n,a⟩ ⟨h5,ha,h0,h1,hS⟩;dsimp only at h5 ha h0 h1 hS;subst ha
 rw [show 6-k=(6-(k+1))+1 by omega,kE] at hS;by_cases hlk:kM xs.length (s.1+k) 1
 ·have hq:=am1 xs (s.1+k,0) 1 (by omega) (by decide);rw [amV xs (s.1+k) 1 hlk] at hq;rw [if_pos hlk] at hS;rw [hS];refine C hq ?_;refine Z2 (alA 3) ?_;refine G ?_;refine Z2 (oI [] rfl rfl (by kernel_rfl) (am2 xs s.1 0 2).m rfl (by simp) (by simp [bQ]) (by simp) (by simp) (by simp [aH,aO]) ⟨⟨aH.of_pure _ Pu.out,aH.of_pure _ Pu.out,aH.of_pure _ Pu.out,trivial⟩,trivial⟩ (aH.of_pure _ Pu.out) ⟨⟨aH.of_pure _ Pu.out,aH.of_pure _ Pu.out,aH.of_pure _ Pu.out,trivial⟩,trivial⟩) ?_;refine G ?_;exact R2
 obtain ⟨hlt,hone⟩:=aTV xs (s.1+k) hlk;have hq:=am1 xs (s.1+k,0) 1 (by omega) (by decide);rw [hone] at hq;have hx:=hb.get hlt;have hg:xs.getD (s.1+k).toNat 0=xs[(s.1+k).toNat]:=by simp [List.getD,List.getElem?_eq_getElem hlt]
 rw [←hg] at hx;generalize xs.getD (s.1+k).toNat 0=x at *;have hbv:bv [x] 0=.val (.int .u8 x):=rfl;rw [if_neg hlk] at hS;refine C hq ?_;refine Z2 (alA 3) ?_;refine Gd (fun hk=>?_) fun hk=>?_
 ·have hk':(k:Int)=5:=by simpa using hk
  rw [if_pos (.inl (by omega))] at hS;rw [hS];refine G ?_;refine Z2 (oI [] rfl rfl (by kernel_rfl) (am2 xs s.1 0 4).m rfl (by simp) (by simp [bQ]) (by simp) (by simp) (by simp [aH,aO]) ⟨⟨aH.of_pure _ Pu.out,aH.of_pure _ Pu.out,aH.of_pure _ Pu.out,trivial⟩,trivial⟩ (aH.of_pure _ Pu.out) ⟨⟨aH.of_pure _ Pu.out,aH.of_pure _ Pu.out,aH.of_pure _ Pu.out,trivial⟩,trivial⟩) ?_;refine G ?_;exact R2
 have hk:¬ k=5:=fun h=>by subst h;simp at hk
 refine G ?_;refine Z4 (fun hC=>rJ (j:=0) rfl rfl rfl (by kernel_rfl) Nat.zero_lt_one) ?_;rw [hbv];refine Gd (fun hz=>?_) fun hz=>?_
 ·rw [if_pos (.inr (by simpa using hz))] at hS;rw [hS];refine G ?_;refine Z2 (oI [] rfl rfl (by kernel_rfl) (am2 xs s.1 0 4).m rfl (by simp) (by simp [bQ]) (by simp) (by simp) (by simp [aH,aO]) ⟨⟨aH.of_pure _ Pu.out,aH.of_pure _ Pu.out,aH.of_pure _ Pu.out,trivial⟩,trivial⟩ (aH.of_pure _ Pu.out) ⟨⟨aH.of_pure _ Pu.out,aH.of_pure _ Pu.out,aH.of_pure _ Pu.out,trivial⟩,trivial⟩) ?_;refine G ?_;exact R2
 rw [if_neg (fun h=>h.elim hk fun h=>by simp [h.1,h.2] at hz)] at hS;have hadd:=auC (n:=n) (x:=x) (k:=k) (by omega) h0 h1 hx.1 hx.2;have h7:(128:Int)^k≤268435456:=by rcases (show k=0∨k=1∨k=2∨k=3∨k=4 by omega) with rfl|rfl|rfl|rfl|rfl<;>decide
 have hm:0≤x%128*128^k∧x%128*128^k≤127*128^k:=⟨Int.mul_nonneg (by omega) (Int.pow_nonneg (by decide)),Int.mul_le_mul_of_nonneg_right (by omega) (Int.pow_nonneg (by decide))⟩
 generalize hy:x%128*128^k=y at *;refine G ?_;refine Z1 (rJ (j:=0) rfl rfl rfl (by kernel_rfl) Nat.zero_lt_one) ?_;rw [hbv];refine G ?_;refine Z1 (aoA (amW x hx.1 hx.2)) ?_;refine G ?_;refine Z1 (aPX rfl rfl rfl (by omega)) ?_;refine Z1 (aoA hadd) ?_;refine G ?_;refine Z1 (rJ (j:=0) rfl rfl rfl (by kernel_rfl) Nat.zero_lt_one) ?_;rw [hbv];refine Gd (fun hz=>?_) fun hz=>?_
 ·rw [if_pos (of_decide_eq_true hz)] at hS;refine Gd (fun hm=>?_) fun hm=>?_
  ·rw [if_pos (of_decide_eq_true hm)] at hS;rw [hS];refine G ?_;refine Z2 (oI [] rfl rfl (by kernel_rfl) (am2 xs s.1 0 5).m rfl (by simp) (by simp [bQ]) (by simp) (by simp) (by simp [aH,aO]) ⟨⟨aH.of_pure _ Pu.out,aH.of_pure _ Pu.out,aH.of_pure _ Pu.out,trivial⟩,trivial⟩ (aH.of_pure _ Pu.out) ⟨⟨aH.of_pure _ Pu.out,aH.of_pure _ Pu.out,aH.of_pure _ Pu.out,trivial⟩,trivial⟩) ?_;refine G ?_;exact R2
  rw [if_neg (of_decide_eq_false hm)] at hS;rw [hS];refine G ?_;exact R2
 rw [if_neg (of_decide_eq_false hz)] at hS;refine G ?_;exact NX (k+1,n+y,s.1+k+1) ⟨by show k+1≤5;omega,by show s.1+k+1=s.1+((k+1:Nat):Int);omega,by show 0≤n+y;omega,by show n+y<128^(k+1);rw [Int.pow_succ];omega,hS⟩ (hm:=by show 6-(k+1)<6-k;omega) (hl:=by (try dsimp only);exact LR [3])
theorem apZ (xs:List Int)(most:Int)(s:Int × Int)(e:Nat)(he:e=1∨e=2)(hl:xs.length≤1000000)(hb:cI xs):PC Tryz.prog 222 [jV xs s,vi most,vi (e:Int)] (.tup [bs (cU xs s.1 s.2 most e).1,jV xs (cU xs s.1 s.2 most e).2]):=by
 obtain ⟨n0,n1⟩:=aT7 xs hb s.1 s.2 most;have hq:=am1 xs (bY xs s.1 s.2 most).2 ((bY xs s.1 s.2 most).1.toNat*e) (by omega) (by rcases he with rfl|rfl<;>omega);have hc:=apK xs most s hl hb;unfold cU;generalize bY xs s.1 s.2 most=z at *;have hz:z.1*(e:Int)=((z.1.toNat*e:Nat):Int):=by rcases he with rfl|rfl<;>omega
 have hw:IntKind.i64.wrap (z.1*(e:Int))=((z.1.toNat*e:Nat):Int):=by rw [hz];exact aFI _ (by omega) (by rcases he with rfl|rfl<;>omega)
 refine FB 3 34 Tryz.func222 ?_;refine sq ?_;refine Z2 (aQN 0 rfl rfl rfl) ?_;refine C hc ?_;rw [hw];refine C hq ?_;refine cd (fun hd=>?_) fun hd=>?_
 ·rw [if_neg (by simpa using hd)];refine G ?_;exact R2 rfl (aT.to (aT.tmp rfl) qI)
 rw [if_pos (by simpa using hd)];refine G ?_;exact R2
theorem as5 (xs:List Int)(most:Int)(s:Int × Int)(hl:xs.length≤1000000)(hb:cI xs):PC Tryz.prog 220 [jV xs s,vi most] (.tup [vs (strOfNums (cU xs s.1 s.2 most 1).1),jV xs (cU xs s.1 s.2 most 1).2]):=by
 refine FB 2 16 Tryz.func220 ?_;refine sq ?_;refine Z2 (aQN 0 rfl rfl rfl) ?_;refine C (apZ xs most s 1 (.inl rfl) hl hb) ?_;refine Z1 (vX _ rfl rfl (by kernel_rfl)) ?_;refine G ?_;exact R2
theorem auD (n:Int):PC Tryz.prog 139 [vi n] (vi (nX n)):=by
 refine FB 0 6 Tryz.func139 ?_;refine G ?_;exact RI (h:=by rw [aQS];exact aFI _ (by omega) (by omega))
theorem ap0 {l:List Int}{k:Nat}(h:2*k+1<l.length):(l.drop (2*k)).take 2=[l[2*k],l[2*k+1]]:=by
 rw [List.drop_eq_getElem_cons (by omega),List.drop_eq_getElem_cons (by omega)];rfl
theorem as6 (xs:List Int)(most:Int)(s:Int × Int)(hl:xs.length≤1000000)(hb:cI xs):PC Tryz.prog 161 [jV xs s,vi most] (.tup [aK (kL (cU xs s.1 s.2 most 2).1),jV xs (cU xs s.1 s.2 most 2).2]):=by
 have hB:=akW xs s.1 s.2 most 2 hb;have hL:=aTF xs s.1 s.2 most 2;have hc:=apZ xs most s 2 (.inr rfl) hl hb;generalize cU xs s.1 s.2 most 2=z at *;refine FB 4 35 Tryz.func161 ?_;refine sq ?_;refine Z2 (aQN 0 rfl rfl rfl) ?_;refine C hc ?_;refine bS (Le.nameNil 7 2 1 3 rfl rfl) ?_;refine LP (ι:=Nat) (fun k=>[(7,.osl 1 2 k),(8,vi ((2*k:Nat):Int))]) (fun k=>[(2,.live 3 ((kL (z.1.take (2*k))).map vi)),(3,.unborn)]) (fun k=>2*k≤z.1.length) (fun k=>z.1.length-2*k) 0 (Nat.zero_le _) ?_;intro k hI;have hpl:=aT9 k z.1 hI;refine Gd (fun hk=>?_) fun hk=>?_
 ·have hk:2*k+1<z.1.length:=by have:=of_decide_eq_true hk;omega
  have hkk:=aT8 k z.1 hk;have hB2:cI ((z.1.drop (2*k)).take 2):=(hB.drop _).take _;have hN:=akZ _ hB2 2 (List.length_take_le _ _);have hn:=apY ((z.1.drop (2*k)).take 2) hB2 (Nat.le_trans (List.length_take_le _ _) (by decide));rw [ap0 hk] at hn hN;refine G ?_;refine Z1 (OC.to (aC2 (e:=5) (by_:=1) (zs:=[.int .u8 0]) (2*k) (2*k+2) rfl rfl (aR (by omega)) (aR (by omega)) (by kernel_rfl) (by kernel_rfl) (by omega) (by omega)) (aiI (by omega) (by omega))) ?_;rw [Nat.add_sub_cancel_left,ap0 hk];refine C hn ?_;refine C (auD _) ?_;refine Z1 jG ?_
  refine jH 3 (hl:=by rw [List.length_map,hpl,Nat.mul_one]) ?_;refine G ?_;exact NX (k+1) (by show 2*(k+1)≤_;omega) (hl:=by (try dsimp only);rw [show 2*(k+1)=2*k+2 by omega,hkk,List.map_append];exact LT 2 3 [3])
 have hk:¬ 2*k+1<z.1.length:=by have:=of_decide_eq_false hk;omega
 refine bS (Le.freezeV 7 2 (kL (z.1.take (2*k))) (hlen:=hpl.symm)) ?_;rw [aUC k z.1 (by omega)];refine G ?_;exact R2
end Go.Proofs.YtgajclaoaphgoaaGreatDoor
namespace Go.Proofs.YtgajclaoaphgoaaGreatDoor
def vC:Nat:=3988292384
def lP (c:Nat):Nat:=if c%2=1 then (c/2) ^^^ vC else c/2
def iB:Nat→Nat→Nat
 | 0,c=>c
 | n+1,c=>iB n (lP c)
def oW (c x:Nat):Nat:=iB 8 (c ^^^ x)
def jL (c:Nat)(l:List Nat):Nat:=l.foldl oW c
def nH (s:Nat)(l:List Nat):Nat:=jL (s ^^^ 4294967295) l ^^^ 4294967295
theorem ak0 (a b:Nat):(a ^^^ b)/2=(a/2) ^^^ (b/2):=by
 have h:∀ n:Nat,n/2=n >>> 1:=fun n=>by rw [Nat.shiftRight_eq_div_pow]
 rw [h,h,h,Nat.shiftRight_xor_distrib]
theorem aFJ (a b:Nat):((a ^^^ b)%2=1)↔¬ (a%2=1↔b%2=1):=by
 have h:=Nat.testBit_xor a b 0;simp only [Nat.testBit_zero] at h;by_cases ha:a%2=1<;>by_cases hb:b%2=1<;>simp [ha,hb] at h ⊢<;>omega
theorem ak1 (a b:Nat):lP (a ^^^ b)=lP a ^^^ lP b:=by
 unfold lP;rw [ak0];by_cases ha:a%2=1<;>by_cases hb:b%2=1
 ·rw [if_neg (by rw [aFJ];simp [ha,hb]),if_pos ha,if_pos hb];rw [Nat.xor_assoc,←Nat.xor_assoc vC,Nat.xor_comm vC,Nat.xor_assoc,Nat.xor_self,Nat.xor_zero]
 ·rw [if_pos (by rw [aFJ];simp [ha,hb]),if_pos ha,if_neg hb];rw [Nat.xor_assoc,Nat.xor_assoc,Nat.xor_comm vC]
 ·rw [if_pos (by rw [aFJ];simp [ha,hb]),if_neg ha,if_pos hb,Nat.xor_assoc]
 rw [if_neg (by rw [aFJ];simp [ha,hb]),if_neg ha,if_neg hb]
theorem aLJ:∀ (n a b:Nat),iB n (a ^^^ b)=iB n a ^^^ iB n b
 | 0,a,b=>rfl
 | n+1,a,b=>by
  unfold iB;rw [ak1,aLJ n]
theorem ak2 (h:Nat):lP (2*h)=h:=by
 unfold lP;rw [if_neg (by omega)];omega
theorem aUE:∀ (n h:Nat),iB n (2^n*h)=h
 | 0,h=>by simp [iB]
 | n+1,h=>by
  unfold iB;rw [show 2^(n+1)*h=2*(2^n*h) by rw [Nat.pow_succ];rw [Nat.mul_comm (2^n) 2,Nat.mul_assoc],ak2,aUE n h]
theorem aUF {c:Nat}(h:c<4294967296):lP c<4294967296:=by
 unfold lP;split
 ·exact Nat.xor_lt_two_pow (n:=32) (by omega) (by decide)
 omega
theorem aA0:∀ (n:Nat) {c:Nat},c<4294967296→iB n c<4294967296
 | 0,c,h=>h
 | n+1,c,h=>aA0 n (aUF h)
theorem ak3 (c:Nat):c=(c%256) ^^^ (2^8*(c/256)):=by
 have h:c%256<2^8:=Nat.mod_lt _ (by decide);have h2:=Nat.two_pow_add_eq_or_of_lt h (c/256);have h3:(2^8*(c/256))&&& (c%256)=0:=by
  refine Nat.eq_of_testBit_eq fun i=>?_;rw [Nat.testBit_and,Nat.zero_testBit,Nat.testBit_two_pow_mul];by_cases hi:8≤i
  ·rw [Nat.testBit_lt_two_pow (x:=c%256) (Nat.lt_of_lt_of_le h (Nat.pow_le_pow_right (by decide) hi)),Bool.and_false]
  simp [hi]
 have h4:c=2^8*(c/256)+c%256:=by omega
 refine Nat.eq_of_testBit_eq fun i=>?_
 conv=>lhs;rw [h4,h2,Nat.testBit_or]
 rw [Nat.testBit_xor];have h5:=congrArg (fun n=>n.testBit i) h3;simp only [Nat.testBit_and,Nat.zero_testBit] at h5
 revert h5
 cases (2^8*(c/256)).testBit i<;>cases (c%256).testBit i<;>simp
theorem aeV {c x:Nat}(hx:x<256):iB 8 ((c%256) ^^^ x) ^^^ (c/256)=oW c x:=by
 unfold oW
 conv=>rhs;rw [ak3 c,Nat.xor_assoc,Nat.xor_comm (2^8*(c/256)),←Nat.xor_assoc,aLJ,aUE]
theorem yW {c x:Nat}(hc:c<4294967296)(hx:x<256):oW c x<4294967296:=aA0 8 (Nat.xor_lt_two_pow (n:=32) hc (by omega))
theorem yG:∀ (l:List Nat) {c:Nat},c<4294967296→(∀ x∈l,x<256)→jL c l<4294967296
 | [],c,h,_=>h
 | x::l,c,h,hl=>yG l (yW h (hl x (by simp))) fun y hy=>hl y (by simp [hy])
theorem aC6 {s:Nat}{l:List Nat}(hs:s<4294967296)(hl:∀ x∈l,x<256):nH s l<4294967296:=Nat.xor_lt_two_pow (n:=32) (yG l (Nat.xor_lt_two_pow (n:=32) hs (by decide)) hl) (by decide)
end Go.Proofs.YtgajclaoaphgoaaGreatDoor
