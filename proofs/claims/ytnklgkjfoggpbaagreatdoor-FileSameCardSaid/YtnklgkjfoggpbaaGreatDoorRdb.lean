/- Parts of the proof of a law of this seat: rules and contracts; no conditions. -/
import Derived.Test.YtnklgkjfoggpbaaGreatDoorFm
import Derived.Test.YtnklgkjfoggpbaaGreatDoorMk
import Derived.Test.YtnklgkjfoggpbaaGreatDoorLt
import Derived.Test.YtnklgkjfoggpbaaGreatDoorMq
import Derived.Test.YtnklgkjfoggpbaaGreatDoorProg
import Derived.KernelRfl
set_option maxHeartbeats 6400000
set_option maxRecDepth 100000
set_option linter.unusedVariables false
set_option linter.unusedSimpArgs false
namespace Go.Proofs.YtnklgkjfoggpbaaGreatDoor
open Go.RowKit
class I0 (x:Av):Prop where
 out:aH (fun n=>n∈[0]) x
class I0L (xs:List Av):Prop where
 out:aO (fun n=>n∈[0]) xs
instance:I0L []:=⟨by unfold aO;trivial⟩
instance (x:Av) (xs:List Av) [a:I0 x] [b:I0L xs]:I0L (x::xs):=⟨by unfold aO;exact ⟨a.out,b.out⟩⟩
instance (x:Av) [a:Pu x]:I0 x:=⟨aH.of_pure _ a.out⟩
instance (k:Nat):I0 (.own 0 k):=⟨by simp [aH]⟩
instance (k:Nat) (l:List Av) [a:I0L l]:I0 (.bm k l):=⟨by unfold aH;exact a.out⟩
instance (k:Nat) (l:List Av) [a:I0L l]:I0 (.clo k l):=⟨by unfold aH;exact a.out⟩
instance (x:Av) [a:I0 x]:I0 (.ptr x):=⟨by unfold aH;exact a.out⟩
theorem aS6 {Z:Nat→Prop}:∀ (l:List Av),bE l→aO Z l
 | [],_=>by unfold aO;trivial
 | x::l,h=>by unfold bE at h;unfold aO;exact ⟨aH.of_pure _ h.1,aS6 l h.2⟩
theorem yS {Z:Nat→Prop}{T:TypeId}{zs:List Av}[a:PuL zs]:jR Z [(0,.live T zs)]:=by
 simp only [jR,bJ,and_true]
 exact aS6 _ a.out
section
variable {P:Program}{bb:Bool}{ops:Array Oper}{o:Oper}{l:List Oper}{s:List (Nat × Av)}{h:List (Nat × Hs)}{K:Ctx→List (List Nat × List Nat)→Prop}{d f:Nat}{x m:Av}{args:List Operand}{tys:Array TypeId}{T:TypeId}{bs0 zs ys:List Av}{g:Operand}
theorem cr (hc:FC P f bs0 [(0,.live T zs)] x [(0,.live T ys)])(h':Ck bb P ops l ⟨(d,x)::s,[(0,Hs.live T ys)]++h⟩ fun Γ' F=>K Γ' (([0],[0])::F))(ho:o.op=.call { callee:=.value (.func f),args:=args.toArray,argTypes:=tys }:=by rfl)(hg:o.guard=none:=by rfl)(hd:o.dst=some d:=by rfl)(hf:dN P f=true:=by kernel_rfl)(hxs:args.map (dA s)=bs0:=by rfl)(hR:aL h 0=some (.live T zs):=by rfl)[ia:I0L bs0][PuL zs][PuL ys][ix:I0 x]:Ck bb P ops (o::l) ⟨s,h⟩ K:=
 aZ hg hd (dB [] ho hf hc.m hxs (by simp) (by simp [bQ]) (by simp) (by simp) ia.out yS ix.out yS) ⟨hR,trivial⟩ h'
def MC (P:Program)(m:Av)(T:TypeId)(zs:List Av)(x:Av)(ys:List Av):Prop:=∃ k fa,(m=.bm k fa∨m=.clo k fa)∧dN P k=true∧I0L fa∧FC P k fa [(0,.live T zs)] x [(0,.live T ys)]
theorem cm (hm:MC P m T zs x ys)(h':Ck bb P ops l ⟨(d,x)::s,[(0,Hs.live T ys)]++h⟩ fun Γ' F=>K Γ' (([0],[0])::F))(ho:o.op=.call { callee:=.value g,args:=#[],argTypes:=tys }:=by rfl)(hg:o.guard=none:=by rfl)(hd:o.dst=some d:=by rfl)(hgv:dA s g=m:=by rfl)(hR:aL h 0=some (.live T zs):=by rfl)[PuL zs][PuL ys][ix:I0 x]:Ck bb P ops (o::l) ⟨s,h⟩ K:=by
 obtain ⟨k,fa,hm,hk,ia,hc⟩:=hm
 rcases hm with rfl|rfl
 ·exact aZ hg hd (sS (args:=[]) [] ho hgv hk hc.m (by simp) (by simp) (by simp [bQ]) (by simp) (by simp) ia.out yS ix.out yS) ⟨hR,trivial⟩ h'
 ·exact aZ hg hd (oI (args:=[]) [] ho hgv hk hc.m rfl (by simp) (by simp [bQ]) (by simp) (by simp) ia.out yS ix.out yS) ⟨hR,trivial⟩ h'
end
def gK {α:Type}(av:α→Av)(l:List α):List Av:=l.flatMap fun x=>cL (av x)
theorem aKY {x:Av}{k:Nat}(h:eQ x k=true):(cL x).length=k:=by
 cases x<;>simp [eQ] at h<;>simp [cL]<;>first|exact h|exact h.symm|exact h.2.symm|omega
theorem uX {α:Type}(av:α→Av)(l m:List α):gK av (l++m)=gK av l++gK av m:=by unfold gK;rw [List.flatMap_append]
theorem uY {α:Type}(av:α→Av)(x:α):gK av [x]=cL (av x):=by simp [gK]
theorem sC {α:Type}{av:α→Av}{k:Nat}(h:∀ x,eQ (av x) k=true):∀ l:List α,(gK av l).length=l.length*k
 | []=>by simp [gK]
 | x::l=>by
  have:=sC h l
  show (cL (av x)++gK av l).length=_
  rw [List.length_append,aKY (h x),this,List.length_cons,Nat.add_mul]
  omega
theorem aS7 {α:Type}{av:α→Av}{k:Nat}(d:α)(h:∀ x,eQ (av x) k=true):∀ (l:List α) (j:Nat),j<l.length→∀ i y,(cL (av (l.getD j d)))[i]?=some y→(gK av l)[j*k+i]?=some y
 | x::l,0,_,i,y,hy=>by
  show (cL (av x)++gK av l)[0*k+i]?=some y
  have hy:(cL (av x))[i]?=some y:=hy
  have hi:=(List.getElem?_eq_some_iff.1 hy).1
  rw [Nat.zero_mul,Nat.zero_add,List.getElem?_append_left hi]
  exact hy
 | x::l,j+1,hj,i,y,hy=>by
  have h1:=aS7 d h l j (by simpa using hj) i y (by simpa using hy)
  show (cL (av x)++gK av l)[(j+1)*k+i]?=some y
  rw [List.getElem?_append_right (by rw [aKY (h x),Nat.add_mul];omega),aKY (h x),Nat.add_mul,show j*k+1*k+i-k=j*k+i from by omega]
  exact h1
theorem aiC {E:Env}{y:Av}{k:Nat}(h:eQ y k=true){us:List Value}(hu:aG E (cL y) us)(h1:∀ u∈us,u.oneCell'=true):∃ u,aA E y u∧u.cells.toList=us:=by
 have one:cL y=[y]→∃ u,aA E y u∧u.cells.toList=us:=fun e=>by
  rw [e] at hu
  unfold aG aG at hu
  obtain ⟨u,us',rfl,h2,rfl⟩:=hu
  exact ⟨u,h2,by rw [tN (h1 u (by simp))]⟩
 cases y with
 | agg ds=>exact ⟨.agg us.toArray,by unfold aA;exact ⟨us,rfl,hu,h1⟩,rfl⟩
 | _=>exact one rfl
theorem Le.freezeR {α:Type}{N:Nat}{D:List Nat}{s:List (Nat × Av)}{h:List (Nat × Hs)}(t n:Nat)(av:α→Av)(k:Nat)(d:α){ty:TypeId}(l:List α)(hz:∀ x,eQ (av x) k=true)(hs:bN s t=.osl k n l.length)(hn:aL h n=some (.live ty (gK av l))):Le N D ⟨s,h⟩ ⟨(t,.sl k l.length fun j=>av (l.getD j d))::s,(n,.dead)::h⟩:=Le.step fun E a hF=>by
 have hv:=hF.holds.1 t
 rw [hs] at hv
 have hH:=hF.holds.2 n _ hn
 have hn0:E.loc n≠.unborn:=by unfold aA at hv;exact hv.1.1
 have hS:=Step.kill E n hn0
 refine ⟨E.re n .dead,[n],rfl,hS,hF.good.re (by simp),fun u=>?_,fun m y hy=>?_⟩
 ·by_cases e:t=u
  ·subst e
   rw [lE]
   exact aCY hF.good hv hH (sC hz l) (fun j hj=>⟨hz _,fun i y hy=>aS7 d hz l j hj i y hy⟩) (fun j hj us hus h1=>aiC (hz _) hus h1)
  ·rw [lS _ _ e]
   exact aA.step hS _ _ (hF.holds.1 u)
 ·by_cases e:n=m
  ·subst e
   simp [aL] at hy
   subst hy
   show (E.re n .dead).loc n=.dead
   simp [Env.re]
  ·simp only [aL,eY e,cond_false] at hy
   exact dI.step hS (by simp [Ne.symm e]) (hF.holds.2 m y hy)
theorem uZ {x:Av}{k:Nat}(h:eQ x k=true):∀ j,j<1→eQ (gE [x] j) k=true∧∀ i y,i<k→(cL x)[j*k+i]?=some y→(cL (gE [x] j))[i]?=some y:=fun j hj=>by
 have:j=0:=by omega
 subst this
 exact ⟨h,fun i y _ hy=>by rw [Nat.zero_mul,Nat.zero_add] at hy;exact hy⟩
instance {α:Type} (av:α→Av) (l:List α) [a:∀ x,Pu (av x)]:Nn (gK av l):=⟨fun Z z hz=>by
 obtain ⟨x,_,hx⟩:=List.mem_flatMap.1 hz
 have hp:=(a x).out
 have one:cL (av x)=[av x]→aE Z z:=fun e=>by rw [e,List.mem_singleton] at hx;subst hx;exact aE.of_pure _ hp
 generalize av x=y at hx hp one
 cases y with
 | agg ds=>
  have hl:∀ (l:List Av),bE l→∀ z∈l,aE Z z:=fun l=>by
   induction l with
   | nil=>intro _ z hz;cases hz
   | cons y l ih=>
    intro h z hz
    unfold bE at h
    rcases List.mem_cons.1 hz with rfl|hz
    ·exact aE.of_pure _ h.1
    ·exact ih h.2 z hz
  unfold aN at hp
  exact hl ds hp z hx
 | _=>exact one rfl⟩
abbrev bF:=Int × Int
abbrev fV (α:Type):=bF→α × bF
def dT {α:Type}(one:fV α):Nat→bF→List α→List α × bF
 | 0,s,l=>(l,s)
 | f+1,s,l=>if s.2=0 then dT one f (one s).2 (l++[(one s).1]) else (l,s)
def cV {α:Type}(many:fV Int)(one:fV α)(s:bF):List α × bF:=dT one (many s).1.toNat (many s).2 []
def aV (xs:List Int)(s:bF):List Av:=[bs xs,vi s.1,vi s.2]
@[simp] theorem am4 (xs:List Int)(s:bF):(aV xs s).length=3:=rfl
instance (xs:List Int) (s:bF):PuL (aV xs s):=by unfold aV;infer_instance
instance (xs:List Int) (s:bF):Nn (aV xs s):=by unfold aV;infer_instance
def cJ (xs:List Int)(s:bF):Int × bF:=rS xs 65536 s
def oY (xs:List Int)(s:bF):Int × bF:=((cJ xs s).1-1,(cJ xs s).2)
def rX (xs:List Int)(s:bF):Bool × bF:=((rB xs s).1==1,(rB xs s).2)
noncomputable def gText (xs:List Int)(s:bF):ByteArray × bF:=rT xs 65536 s
def yH (xs:List Int)(s:bF):List Int × bF:=rI xs 65536 s
theorem aS8 {xs:List Int}(hb:cI xs)(at0 most:Int)(hm:0≤most):∀ (f k:Nat) (n:Int),0≤n→(kE xs at0 most f k n).1≤most∧0≤(kE xs at0 most f k n).1
 | 0,_,_,_=>⟨hm,Int.le_refl 0⟩
 | f+1,k,n,hn=>by
  have h1:0≤xs.getD (at0+k).toNat 0%128*128^k:=Int.mul_nonneg (Int.emod_nonneg _ (by decide)) (Int.pow_nonneg (by decide))
  unfold kE
  split
  ·exact ⟨hm,Int.le_refl 0⟩
  ·split
   ·exact ⟨hm,Int.le_refl 0⟩
   ·split
    ·split
     ·exact ⟨hm,Int.le_refl 0⟩
     ·exact ⟨by show _≤_;omega,by show 0≤_;omega⟩
    ·exact aS8 hb at0 most hm f (k+1) _ (by omega)
theorem wO {xs:List Int}(hb:cI xs){most:Int}(hm:0≤most)(s:bF):0≤(rS xs most s).1∧(rS xs most s).1≤most:=by
 unfold rS bY
 split
 ·exact ⟨Int.le_refl 0,hm⟩
 ·have:=aS8 hb s.1 most hm 6 0 0 (Int.le_refl 0);omega
theorem aKZ (xs:List Int)(hl:xs.length≤1000000)(hb:cI xs)(s:bF)(most:Int):FC Tryz.prog 126 [.own 0 0,vi most] [(0,.live 62 (aV xs (s)))] (vi (rS xs most s).1) [(0,.live 62 (aV xs ((rS xs most s).2)))]:=by
 refine FC.body 2 21 Tryz.func126 rfl (by kernel_rfl) ?_
 refine sq ?_
 refine Z1 aB ?_
 refine cn ?_
 refine sq ?_
 refine Z1 mo ?_
 refine dO ?_
 refine aS 0 3 true ?_
 refine dE 3 [_,_,_] ?_
 refine Z1 mo ?_
 refine Z1 (ca (ae4 xs most s hl hb)) ?_
 refine Z1 mo ?_
 refine Z1 ex ?_
 refine Z1 ex ?_
 refine Z2 (al 1 [.slice none 0 0,.int .i64 0,.int .i64 0]) ?_
 refine Z1 aB ?_
 refine bW [_,_,_] ?_
 refine cn ?_
 refine sq ?_
 refine Z1 mo ?_
 refine dE 3 [_,_,_] ?_
 refine dO ?_
 refine aS 0 3 true ?_
 refine bW [_,_,_] ?_
 refine cn ?_
 refine sq ?_
 refine Z1 mo ?_
 refine Z1 aB ?_
 refine cn ?_
 refine aP ?_
 exact ⟨.inl rfl,aF.tmp rfl rfl,⟨rfl,trivial⟩⟩
theorem aS9 (xs:List Int)(hl:xs.length≤1000000)(hb:cI xs)(s:bF)(most:Int):FC Tryz.prog 131 [.own 0 0,vi most] [(0,.live 62 (aV xs (s)))] (vs (rT xs most s).1) [(0,.live 62 (aV xs ((rT xs most s).2)))]:=by
 refine FC.body 2 21 Tryz.func131 rfl (by kernel_rfl) ?_
 refine sq ?_
 refine Z1 aB ?_
 refine cn ?_
 refine sq ?_
 refine Z1 mo ?_
 refine dO ?_
 refine aS 0 3 true ?_
 refine dE 3 [_,_,_] ?_
 refine Z1 mo ?_
 refine Z1 (ca (ae5 xs most s hl hb)) ?_
 refine Z1 mo ?_
 refine Z1 ex ?_
 refine Z1 ex ?_
 refine Z2 (al 1 [.slice none 0 0,.int .i64 0,.int .i64 0]) ?_
 refine Z1 aB ?_
 refine bW [_,_,_] ?_
 refine cn ?_
 refine sq ?_
 refine Z1 mo ?_
 refine dE 3 [_,_,_] ?_
 refine dO ?_
 refine aS 0 3 true ?_
 refine bW [_,_,_] ?_
 refine cn ?_
 refine sq ?_
 refine Z1 mo ?_
 refine Z1 aB ?_
 refine cn ?_
 refine aP ?_
 exact ⟨.inl rfl,aF.tmp rfl rfl,⟨rfl,trivial⟩⟩
theorem aEL (xs:List Int)(hl:xs.length≤1000000)(hb:cI xs)(s:bF):FC Tryz.prog 141 [.own 0 0] [(0,.live 62 (aV xs (s)))] (vi (rB xs s).1) [(0,.live 62 (aV xs ((rB xs s).2)))]:=by
 refine FC.body 2 18 Tryz.func141 rfl (by kernel_rfl) ?_
 refine sq ?_
 refine Z1 aB ?_
 refine cn ?_
 refine sq ?_
 refine Z1 mo ?_
 refine dO ?_
 refine aS 0 3 true ?_
 refine dE 3 [_,_,_] ?_
 refine Z1 (ca (ae1 xs s hl hb)) ?_
 refine Z1 mo ?_
 refine Z1 ex ?_
 refine Z1 ex ?_
 refine Z2 (al 1 [.slice none 0 0,.int .i64 0,.int .i64 0]) ?_
 refine Z1 aB ?_
 refine bW [_,_,_] ?_
 refine cn ?_
 refine sq ?_
 refine Z1 mo ?_
 refine dE 3 [_,_,_] ?_
 refine dO ?_
 refine aS 0 3 true ?_
 refine bW [_,_,_] ?_
 refine cn ?_
 refine sq ?_
 refine Z1 mo ?_
 refine Z1 aB ?_
 refine cn ?_
 refine aP ?_
 exact ⟨.inl rfl,aF.tmp rfl rfl,⟨rfl,trivial⟩⟩
theorem aJT (xs:List Int)(hl:xs.length≤1000000)(hb:cI xs)(s:bF):FC Tryz.prog 74 [.own 0 0] [(0,.live 62 (aV xs (s)))] (aK (yH xs s).1) [(0,.live 62 (aV xs ((yH xs s).2)))]:=by
 refine FC.body 2 18 Tryz.func74 rfl (by kernel_rfl) ?_
 refine sq ?_
 refine Z1 aB ?_
 refine cn ?_
 refine sq ?_
 refine Z1 mo ?_
 refine dO ?_
 refine aS 0 3 true ?_
 refine dE 3 [_,_,_] ?_
 refine Z1 (ca (ae7 xs 65536 s hl hb)) ?_
 refine Z1 mo ?_
 refine Z1 ex ?_
 refine Z1 ex ?_
 refine Z2 (al 1 [.slice none 0 0,.int .i64 0,.int .i64 0]) ?_
 refine Z1 aB ?_
 refine bW [_,_,_] ?_
 refine cn ?_
 refine sq ?_
 refine Z1 mo ?_
 refine dE 3 [_,_,_] ?_
 refine dO ?_
 refine aS 0 3 true ?_
 refine bW [_,_,_] ?_
 refine cn ?_
 refine sq ?_
 refine Z1 mo ?_
 refine Z1 aB ?_
 refine cn ?_
 refine aP ?_
 exact ⟨.inl rfl,aF.tmp rfl rfl,⟨rfl,trivial⟩⟩
theorem rY (xs:List Int)(hl:xs.length≤1000000)(hb:cI xs)(s:bF):FC Tryz.prog 72 [.own 0 0] [(0,.live 62 (aV xs (s)))] (vi (cJ xs s).1) [(0,.live 62 (aV xs ((cJ xs s).2)))]:=by
 refine FC.body 2 5 Tryz.func72 rfl (by kernel_rfl) ?_
 refine sq ?_
 refine Z1 aB ?_
 refine cn ?_
 refine sq ?_
 refine Z1 mo ?_
 refine cr (aKZ xs hl hb s 65536) ?_
 refine Z1 aB ?_
 refine cn ?_
 refine aP ?_
 exact ⟨.inl rfl,aF.tmp rfl rfl,⟨rfl,trivial⟩⟩
theorem aTA (xs:List Int)(hl:xs.length≤1000000)(hb:cI xs)(s:bF):FC Tryz.prog 130 [.own 0 0] [(0,.live 62 (aV xs (s)))] (vi (rS xs 4194304 s).1) [(0,.live 62 (aV xs ((rS xs 4194304 s).2)))]:=by
 refine FC.body 2 5 Tryz.func130 rfl (by kernel_rfl) ?_
 refine sq ?_
 refine Z1 aB ?_
 refine cn ?_
 refine sq ?_
 refine Z1 mo ?_
 refine cr (aKZ xs hl hb s 4194304) ?_
 refine Z1 aB ?_
 refine cn ?_
 refine aP ?_
 exact ⟨.inl rfl,aF.tmp rfl rfl,⟨rfl,trivial⟩⟩
theorem aJS (xs:List Int)(hl:xs.length≤1000000)(hb:cI xs)(s:bF):FC Tryz.prog 82 [.own 0 0] [(0,.live 62 (aV xs (s)))] (vs (gText xs s).1) [(0,.live 62 (aV xs ((gText xs s).2)))]:=by
 refine FC.body 2 5 Tryz.func82 rfl (by kernel_rfl) ?_
 refine sq ?_
 refine Z1 aB ?_
 refine cn ?_
 refine sq ?_
 refine Z1 mo ?_
 refine cr (aS9 xs hl hb s 65536) ?_
 refine Z1 aB ?_
 refine cn ?_
 refine aP ?_
 exact ⟨.inl rfl,aF.tmp rfl rfl,⟨rfl,trivial⟩⟩
theorem yI (xs:List Int)(hl:xs.length≤1000000)(hb:cI xs)(s:bF):FC Tryz.prog 134 [.own 0 0] [(0,.live 62 (aV xs (s)))] (vi (oY xs s).1) [(0,.live 62 (aV xs ((oY xs s).2)))]:=by
 have hn:=wO hb (most:=65536) (by decide) s
 have hn2:(cJ xs s).1=(rS xs 65536 s).1:=rfl
 refine FC.body 2 6 Tryz.func134 rfl (by kernel_rfl) ?_
 refine sq ?_
 refine Z1 aB ?_
 refine cn ?_
 refine sq ?_
 refine Z1 mo ?_
 refine cr (rY xs hl hb s) ?_
 refine Z1 iP ?_
 refine Z1 aB ?_
 refine cn ?_
 refine aP ?_
 exact ⟨.inl rfl,aF.tmp rfl rfl,⟨rfl,trivial⟩⟩
theorem aRT (xs:List Int)(hl:xs.length≤1000000)(hb:cI xs)(s:bF):FC Tryz.prog 135 [.own 0 0] [(0,.live 62 (aV xs (s)))] (vb (rX xs s).1) [(0,.live 62 (aV xs ((rX xs s).2)))]:=by
 refine FC.body 2 6 Tryz.func135 rfl (by kernel_rfl) ?_
 refine sq ?_
 refine Z1 aB ?_
 refine cn ?_
 refine sq ?_
 refine Z1 mo ?_
 refine cr (aEL xs hl hb s) ?_
 refine Z1 bz ?_
 refine Z1 aB ?_
 refine cn ?_
 refine aP ?_
 exact ⟨.inl rfl,aF.tmp rfl rfl,⟨rfl,trivial⟩⟩
end Go.Proofs.YtnklgkjfoggpbaaGreatDoor
