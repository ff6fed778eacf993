/- Parts of the proof of a law of this seat: rules and contracts; no conditions. -/
import Derived.Test.YtgajclaoaphgoaaGreatDoorVa
import Derived.Test.YtgajclaoaphgoaaGreatDoorWireP
import Derived.Test.YtgajclaoaphgoaaGreatDoorFi
import Derived.Test.YtgajclaoaphgoaaGreatDoorProg
import Derived.KernelRfl
import Derived.Test.YtgajclaoaphgoaaGreatDoorMp
import Derived.Test.YtgajclaoaphgoaaGreatDoorBt
import Derived.Test.YtgajclaoaphgoaaGreatDoorCr
import Derived.Maps.OwnSet
set_option maxHeartbeats 6400000
set_option maxRecDepth 100000
set_option linter.unusedVariables false
set_option linter.unusedSimpArgs false
namespace Go.Proofs.YtgajclaoaphgoaaGreatDoor
open Go.RowKit
theorem dU {Z:Nat→Prop}{x:Av}[hp:Pu x](h:Z 0):aO Z [.own 0 0,x]:=by simp only [aO,aH,and_true];exact ⟨h,aH.of_pure _ hp.out⟩
theorem yR {Z:Nat→Prop}{x:Av}{K:Nat}[hp:Pu x](h:Z 0):aO Z [.own 0 0,x,.bm K [.own 0 0]]:=by
 simp only [aO,aH,and_true];exact ⟨h,aH.of_pure _ hp.out,h⟩
theorem bH {Z:Nat→Prop}{T:TypeId}{zs:List Int}:jR Z [(0,.live T [bs zs])]:=by
 simp only [jR,bJ,aO,and_true];exact aH.of_pure _ Pu.out
theorem ah4 {α:Type}{d:α}{l:List α}{k:Nat}(hk:k<l.length):l.take (k+1)=l.take k++[l.getD k d]:=by
 rw [List.take_succ_eq_append_getElem hk];simp [List.getD,List.getElem?_eq_getElem hk]
theorem mS {α:Type}{d:α}{l:List α}{k:Nat}(e:α→List Int)(hk:k<l.length):(l.take (k+1)).flatMap e=(l.take k).flatMap e++e (l.getD k d):=by
 rw [ah4 (d:=d) hk,List.flatMap_append];simp
theorem aI1 {α:Type}{l:List α}{e:α→List Int}(k:Nat):((l.take k).flatMap e).length≤(l.flatMap e).length:=by
 conv=>rhs;rw [←List.take_append_drop k l,List.flatMap_append,List.length_append]
 omega
theorem uF {α:Type}{d:α}{zs:List Int}{l:List α}{e:α→List Int}{k:Nat}(hz:(zs++l.flatMap e).length≤100000000)(hk:k<l.length):(zs++(l.take k).flatMap e).length≤100000000∧(zs++(l.take k).flatMap e++e (l.getD k d)).length≤100000000:=by
 have h1:=aI1 (l:=l) (e:=e) (k+1);rw [mS (d:=d) e hk] at h1;simp only [List.length_append] at *;omega
theorem ah5 (zs:List Int)(l:List ByteArray)(K:Nat)(e:ByteArray→List Int)(hK:dN Tryz.prog K=true)(hz:(zs++aC (l.length:Int)++l.flatMap e).length≤100000000)(hp:∀ ys:List Int,ys.length≤100000000→∀ x∈l,(ys++e x).length≤100000000→FC Tryz.prog K [.own 0 0,vs x] [(0,.live 59 [bs (ys)])] .any [(0,.live 59 [bs (ys++e x)])]):FC Tryz.prog 70 [.own 0 0,bB l,.bm K [.own 0 0]] [(0,.live 59 [bs (zs)])] .any [(0,.live 59 [bs (zs++aC (l.length:Int)++l.flatMap e)])]:=by
 refine FB 1 22 Tryz.func70 ?_;refine aD ?_;refine dM (t:=1) (x:=bB l) rfl eR fun hf=>?_;have hz0:zs.length≤100000000:=by simp only [List.length_append] at hz;omega
 refine G ?_;refine aZ rfl rfl (dB [] rfl (by kernel_rfl) ((lL zs (l.length:Int) hz0 (by omega)).m) rfl (by simp) (by simp [bQ]) (by simp) (by simp) (dU (by simp)) bH (by simp [aH]) bH) ⟨rfl,trivial⟩ ?_;refine G ?_;refine bM (ι:=Nat) (fun k=>⟨[(2,.bm K [.own 0 0]),(12,bB l),(13,vi (l.length:Int)),(14,vi k)],[(0,.live 59 [bs (zs++aC (l.length:Int)++(l.take k).flatMap e)])]⟩) (fun k=>k≤l.length) (fun k=>l.length-k) 0 (Nat.zero_le _) (Le.sub ⟨.inr rfl,.inr rfl,.inr rfl,.inr rfl,trivial⟩ ⟨by simp only [List.take_zero,List.flatMap_nil,List.append_nil];rfl,trivial⟩) ?_;intro k hI
 refine Gd (fun hb=>?_) fun hb=>?_
 ·have hlt:k<l.length:=by have h0:=of_decide_eq_true hb;omega
  have hq:=uF (zs:=zs++aC (l.length:Int)) (e:=e) hz hlt (d:=ByteArray.empty);refine G ?_;refine aZ rfl rfl (sS [] rfl rfl hK ((hp _ hq.1 (l.getD k ByteArray.empty) (kY hlt) hq.2).m) rfl (by simp) (by simp [bQ]) (by simp) (by simp) (dU (by simp)) bH (by simp [aH]) bH) ⟨rfl,trivial⟩ ?_;refine cn ?_;refine tx ?_;refine Z1 ba ?_;refine Z1 mo ?_;refine cn ?_;exact ⟨k+1,by omega,by omega,Le.sub ⟨.inr rfl,.inr rfl,.inr rfl,.inr (aR (by omega)),trivial⟩ ⟨by rw [mS _ hlt,←List.append_assoc];rfl,trivial⟩⟩
 have hge:k=l.length:=by have h0:=of_decide_eq_false hb;omega
 refine G ?_;exact ⟨.inr rfl,iN rfl,⟨by subst hge;rw [List.take_length];rfl,trivial⟩⟩
theorem ah6 (zs:List Int)(l:List Int)(K:Nat)(e:Int→List Int)(hK:dN Tryz.prog K=true)(hz:(zs++aC (l.length:Int)++l.flatMap e).length≤100000000)(hp:∀ ys:List Int,ys.length≤100000000→∀ x∈l,(ys++e x).length≤100000000→FC Tryz.prog K [.own 0 0,vi x] [(0,.live 59 [bs (ys)])] .any [(0,.live 59 [bs (ys++e x)])]):FC Tryz.prog 71 [.own 0 0,aK l,.bm K [.own 0 0]] [(0,.live 59 [bs (zs)])] .any [(0,.live 59 [bs (zs++aC (l.length:Int)++l.flatMap e)])]:=by
 refine FB 1 22 Tryz.func71 ?_;refine aD ?_;refine dM (t:=1) (x:=aK l) rfl eR fun hf=>?_;have hz0:zs.length≤100000000:=by simp only [List.length_append] at hz;omega
 refine G ?_;refine aZ rfl rfl (dB [] rfl (by kernel_rfl) ((lL zs (l.length:Int) hz0 (by omega)).m) rfl (by simp) (by simp [bQ]) (by simp) (by simp) (dU (by simp)) bH (by simp [aH]) bH) ⟨rfl,trivial⟩ ?_;refine G ?_;refine bM (ι:=Nat) (fun k=>⟨[(2,.bm K [.own 0 0]),(12,aK l),(13,vi (l.length:Int)),(14,vi k)],[(0,.live 59 [bs (zs++aC (l.length:Int)++(l.take k).flatMap e)])]⟩) (fun k=>k≤l.length) (fun k=>l.length-k) 0 (Nat.zero_le _) (Le.sub ⟨.inr rfl,.inr rfl,.inr rfl,.inr rfl,trivial⟩ ⟨by simp only [List.take_zero,List.flatMap_nil,List.append_nil];rfl,trivial⟩) ?_;intro k hI
 refine Gd (fun hb=>?_) fun hb=>?_
 ·have hlt:k<l.length:=by have h0:=of_decide_eq_true hb;omega
  have hq:=uF (zs:=zs++aC (l.length:Int)) (e:=e) hz hlt (d:=0);refine G ?_;refine aZ rfl rfl (sS [] rfl rfl hK ((hp _ hq.1 (l.getD k 0) (kY hlt) hq.2).m) rfl (by simp) (by simp [bQ]) (by simp) (by simp) (dU (by simp)) bH (by simp [aH]) bH) ⟨rfl,trivial⟩ ?_;refine cn ?_;refine tx ?_;refine Z1 ba ?_;refine Z1 mo ?_;refine cn ?_;exact ⟨k+1,by omega,by omega,Le.sub ⟨.inr rfl,.inr rfl,.inr rfl,.inr (aR (by omega)),trivial⟩ ⟨by rw [mS _ hlt,←List.append_assoc];rfl,trivial⟩⟩
 have hge:k=l.length:=by have h0:=of_decide_eq_false hb;omega
 refine G ?_;exact ⟨.inr rfl,iN rfl,⟨by subst hge;rw [List.take_length];rfl,trivial⟩⟩
theorem ah7 (zs:List Int)(l:List (List SlotP))(K:Nat)(e:(List SlotP)→List Int)(hK:dN Tryz.prog K=true)(hz:(zs++aC (l.length:Int)++l.flatMap e).length≤100000000)(hp:∀ ys:List Int,ys.length≤100000000→∀ x∈l,(ys++e x).length≤100000000→FC Tryz.prog K [.own 0 0,fQ x] [(0,.live 59 [bs (ys)])] .any [(0,.live 59 [bs (ys++e x)])]):FC Tryz.prog 78 [.own 0 0,lB l,.bm K [.own 0 0]] [(0,.live 59 [bs (zs)])] .any [(0,.live 59 [bs (zs++aC (l.length:Int)++l.flatMap e)])]:=by
 refine FB 1 22 Tryz.func78 ?_;refine aD ?_;refine dM (t:=1) (x:=lB l) rfl eR fun hf=>?_;have hz0:zs.length≤100000000:=by simp only [List.length_append] at hz;omega
 refine G ?_;refine aZ rfl rfl (dB [] rfl (by kernel_rfl) ((lL zs (l.length:Int) hz0 (by omega)).m) rfl (by simp) (by simp [bQ]) (by simp) (by simp) (dU (by simp)) bH (by simp [aH]) bH) ⟨rfl,trivial⟩ ?_;refine G ?_;refine bM (ι:=Nat) (fun k=>⟨[(2,.bm K [.own 0 0]),(12,lB l),(13,vi (l.length:Int)),(14,vi k)],[(0,.live 59 [bs (zs++aC (l.length:Int)++(l.take k).flatMap e)])]⟩) (fun k=>k≤l.length) (fun k=>l.length-k) 0 (Nat.zero_le _) (Le.sub ⟨.inr rfl,.inr rfl,.inr rfl,.inr rfl,trivial⟩ ⟨by simp only [List.take_zero,List.flatMap_nil,List.append_nil];rfl,trivial⟩) ?_;intro k hI
 refine Gd (fun hb=>?_) fun hb=>?_
 ·have hlt:k<l.length:=by have h0:=of_decide_eq_true hb;omega
  have hq:=uF (zs:=zs++aC (l.length:Int)) (e:=e) hz hlt (d:=[]);refine G ?_;refine aZ rfl rfl (sS [] rfl rfl hK ((hp _ hq.1 (l.getD k []) (kY hlt) hq.2).m) rfl (by simp) (by simp [bQ]) (by simp) (by simp) (dU (by simp)) bH (by simp [aH]) bH) ⟨rfl,trivial⟩ ?_;refine cn ?_;refine tx ?_;refine Z1 ba ?_;refine Z1 mo ?_;refine cn ?_;exact ⟨k+1,by omega,by omega,Le.sub ⟨.inr rfl,.inr rfl,.inr rfl,.inr (aR (by omega)),trivial⟩ ⟨by rw [mS _ hlt,←List.append_assoc];rfl,trivial⟩⟩
 have hge:k=l.length:=by have h0:=of_decide_eq_false hb;omega
 refine G ?_;exact ⟨.inr rfl,iN rfl,⟨by subst hge;rw [List.take_length];rfl,trivial⟩⟩
section
variable {P:Program}{bb:Bool}{ops:Array Oper}{o:Oper}{l:List Oper}{s:List (Nat × Av)}{h:List (Nat × Hs)}{K:Ctx→List (List Nat × List Nat)→Prop}{d f:Nat}{x:Av}{args:List Operand}{tys:Array TypeId}{T:TypeId}{zs ys:List Int}
theorem cw (hc:FC P f [.own 0 0,x] [(0,.live T [bs zs])] .any [(0,.live T [bs ys])])(h':Ck bb P ops l ⟨(d,.any)::s,[(0,Hs.live T [bs ys])]++h⟩ fun Γ' F=>K Γ' (([0],[0])::F))(ho:o.op=.call { callee:=.value (.func f),args:=args.toArray,argTypes:=tys }:=by rfl)(hg:o.guard=none:=by rfl)(hd:o.dst=some d:=by rfl)(hf:dN P f=true:=by kernel_rfl)(hxs:args.map (dA s)=[.own 0 0,x]:=by rfl)(hR:aL h 0=some (.live T [bs zs]):=by rfl)[Pu x]:Ck bb P ops (o::l) ⟨s,h⟩ K:=
 aZ hg hd (dB [] ho hf hc.m hxs (by simp) (by simp [bQ]) (by simp) (by simp) (dU (by simp)) bH (by simp [aH]) bH) ⟨hR,trivial⟩ h'
theorem cw2 {k:Nat}(hc:FC P f [.own 0 0,x,.bm k [.own 0 0]] [(0,.live T [bs zs])] .any [(0,.live T [bs ys])])(h':Ck bb P ops l ⟨(d,.any)::s,[(0,Hs.live T [bs ys])]++h⟩ fun Γ' F=>K Γ' (([0],[0])::F))(ho:o.op=.call { callee:=.value (.func f),args:=args.toArray,argTypes:=tys }:=by rfl)(hg:o.guard=none:=by rfl)(hd:o.dst=some d:=by rfl)(hf:dN P f=true:=by kernel_rfl)(hxs:args.map (dA s)=[.own 0 0,x,.bm k [.own 0 0]]:=by rfl)(hR:aL h 0=some (.live T [bs zs]):=by rfl)[Pu x]:Ck bb P ops (o::l) ⟨s,h⟩ K:=
 aZ hg hd (dB [] ho hf hc.m hxs (by simp) (by simp [bQ]) (by simp) (by simp) (yR (by simp)) bH (by simp [aH]) bH) ⟨hR,trivial⟩ h'
end
class I0 (x:Av):Prop where
 out:aH (fun n=>n∈[0]) x
class I0L (xs:List Av):Prop where
 out:aO (fun n=>n∈[0]) xs
instance:I0L []:=⟨by unfold aO;trivial⟩
instance (x:Av) (xs:List Av) [a:I0 x] [b:I0L xs]:I0L (x::xs):=⟨by unfold aO;exact ⟨a.out,b.out⟩⟩
instance (x:Av) [a:Pu x]:I0 x:=⟨aH.of_pure _ a.out⟩
instance (k:Nat):I0 (.own 0 k):=⟨by simp [aH]⟩
instance (k:Nat) (l:List Av) [a:I0L l]:I0 (.bm k l):=⟨by unfold aH;exact a.out⟩
instance (k:Nat) (l:List Av) [a:I0L l]:I0 (.clo k l):=⟨by unfold aH;exact a.out⟩
instance (x:Av) [a:I0 x]:I0 (.ptr x):=⟨by unfold aH;exact a.out⟩
theorem aS6 {Z:Nat→Prop}:∀ (l:List Av),bE l→aO Z l
 | [],_=>by unfold aO;trivial
 | x::l,h=>by unfold bE at h;unfold aO;exact ⟨aH.of_pure _ h.1,aS6 l h.2⟩
theorem yS {Z:Nat→Prop}{T:TypeId}{zs:List Av}[a:PuL zs]:jR Z [(0,.live T zs)]:=by
 simp only [jR,bJ,and_true];exact aS6 _ a.out
section
variable {P:Program}{bb:Bool}{ops:Array Oper}{o:Oper}{l:List Oper}{s:List (Nat × Av)}{h:List (Nat × Hs)}{K:Ctx→List (List Nat × List Nat)→Prop}{d f:Nat}{x m:Av}{args:List Operand}{tys:Array TypeId}{T:TypeId}{bs0 zs ys:List Av}{g:Operand}
theorem cr (hc:FC P f bs0 [(0,.live T zs)] x [(0,.live T ys)])(h':Ck bb P ops l ⟨(d,x)::s,[(0,Hs.live T ys)]++h⟩ fun Γ' F=>K Γ' (([0],[0])::F))(ho:o.op=.call { callee:=.value (.func f),args:=args.toArray,argTypes:=tys }:=by rfl)(hg:o.guard=none:=by rfl)(hd:o.dst=some d:=by rfl)(hf:dN P f=true:=by kernel_rfl)(hxs:args.map (dA s)=bs0:=by rfl)(hR:aL h 0=some (.live T zs):=by rfl)[ia:I0L bs0][PuL zs][PuL ys][ix:I0 x]:Ck bb P ops (o::l) ⟨s,h⟩ K:=
 aZ hg hd (dB [] ho hf hc.m hxs (by simp) (by simp [bQ]) (by simp) (by simp) ia.out yS ix.out yS) ⟨hR,trivial⟩ h'
def MC (P:Program)(m:Av)(T:TypeId)(zs:List Av)(x:Av)(ys:List Av):Prop:=∃ k fa,(m=.bm k fa∨m=.clo k fa)∧dN P k=true∧I0L fa∧FC P k fa [(0,.live T zs)] x [(0,.live T ys)]
theorem cm (hm:MC P m T zs x ys)(h':Ck bb P ops l ⟨(d,x)::s,[(0,Hs.live T ys)]++h⟩ fun Γ' F=>K Γ' (([0],[0])::F))(ho:o.op=.call { callee:=.value g,args:=#[],argTypes:=tys }:=by rfl)(hg:o.guard=none:=by rfl)(hd:o.dst=some d:=by rfl)(hgv:dA s g=m:=by rfl)(hR:aL h 0=some (.live T zs):=by rfl)[PuL zs][PuL ys][ix:I0 x]:Ck bb P ops (o::l) ⟨s,h⟩ K:=by
 obtain ⟨k,fa,hm,hk,ia,hc⟩:=hm;rcases hm with rfl|rfl
 ·exact aZ hg hd (sS (args:=[]) [] ho hgv hk hc.m (by simp) (by simp) (by simp [bQ]) (by simp) (by simp) ia.out yS ix.out yS) ⟨hR,trivial⟩ h'
 exact aZ hg hd (oI (args:=[]) [] ho hgv hk hc.m rfl (by simp) (by simp [bQ]) (by simp) (by simp) ia.out yS ix.out yS) ⟨hR,trivial⟩ h'
end
def gK {α:Type}(av:α→Av)(l:List α):List Av:=l.flatMap fun x=>cL (av x)
theorem aKY {x:Av}{k:Nat}(h:eQ x k=true):(cL x).length=k:=by
 cases x<;>simp [eQ] at h<;>simp [cL]<;>first|exact h|exact h.symm|exact h.2.symm|omega
theorem uX {α:Type}(av:α→Av)(l m:List α):gK av (l++m)=gK av l++gK av m:=by unfold gK;rw [List.flatMap_append]
theorem uY {α:Type}(av:α→Av)(x:α):gK av [x]=cL (av x):=by simp [gK]
theorem sC {α:Type}{av:α→Av}{k:Nat}(h:∀ x,eQ (av x) k=true):∀ l:List α,(gK av l).length=l.length*k
 | []=>by simp [gK]
 | x::l=>by
  have:=sC h l;show (cL (av x)++gK av l).length=_;rw [List.length_append,aKY (h x),this,List.length_cons,Nat.add_mul];omega
theorem aS7 {α:Type}{av:α→Av}{k:Nat}(d:α)(h:∀ x,eQ (av x) k=true):∀ (l:List α) (j:Nat),j<l.length→∀ i y,(cL (av (l.getD j d)))[i]?=some y→(gK av l)[j*k+i]?=some y
 | x::l,0,_,i,y,hy=>by
  show (cL (av x)++gK av l)[0*k+i]?=some y;have hy:(cL (av x))[i]?=some y:=hy;have hi:=(List.getElem?_eq_some_iff.1 hy).1;rw [Nat.zero_mul,Nat.zero_add,List.getElem?_append_left hi];exact hy
 | x::l,j+1,hj,i,y,hy=>by
  have h1:=aS7 d h l j (by simpa using hj) i y (by simpa using hy);show (cL (av x)++gK av l)[(j+1)*k+i]?=some y;rw [List.getElem?_append_right (by rw [aKY (h x),Nat.add_mul];omega),aKY (h x),Nat.add_mul,show j*k+1*k+i-k=j*k+i from by omega];exact h1
theorem aiC {E:Env}{y:Av}{k:Nat}(h:eQ y k=true){us:List Value}(hu:aG E (cL y) us)(h1:∀ u∈us,u.oneCell'=true):∃ u,aA E y u∧u.cells.toList=us:=by
 have one:cL y=[y]→∃ u,aA E y u∧u.cells.toList=us:=fun e=>by
  rw [e] at hu;unfold aG aG at hu;obtain ⟨u,us',rfl,h2,rfl⟩:=hu;exact ⟨u,h2,by rw [tN (h1 u (by simp))]⟩
 cases y with
 | agg ds=>exact ⟨.agg us.toArray,by unfold aA;exact ⟨us,rfl,hu,h1⟩,rfl⟩
 | _=>exact one rfl
theorem Le.freezeR {α:Type}{N:Nat}{D:List Nat}{s:List (Nat × Av)}{h:List (Nat × Hs)}(t n:Nat)(av:α→Av)(k:Nat)(d:α){ty:TypeId}(l:List α)(hz:∀ x,eQ (av x) k=true)(hs:bN s t=.osl k n l.length)(hn:aL h n=some (.live ty (gK av l))):Le N D ⟨s,h⟩ ⟨(t,.sl k l.length fun j=>av (l.getD j d))::s,(n,.dead)::h⟩:=Le.step fun E a hF=>by
 have hv:=hF.holds.1 t;rw [hs] at hv;have hH:=hF.holds.2 n _ hn;have hn0:E.loc n≠.unborn:=by unfold aA at hv;exact hv.1.1
 have hS:=Step.kill E n hn0;refine ⟨E.re n .dead,[n],rfl,hS,hF.good.re (by simp),fun u=>?_,fun m y hy=>?_⟩
 ·by_cases e:t=u
  ·subst e;rw [lE];exact aCY hF.good hv hH (sC hz l) (fun j hj=>⟨hz _,fun i y hy=>aS7 d hz l j hj i y hy⟩) (fun j hj us hus h1=>aiC (hz _) hus h1)
  rw [lS _ _ e];exact aA.step hS _ _ (hF.holds.1 u)
 by_cases e:n=m
 ·subst e;simp [aL] at hy;subst hy;show (E.re n .dead).loc n=.dead;simp [Env.re]
 simp only [aL,eY e,cond_false] at hy;exact dI.step hS (by simp [Ne.symm e]) (hF.holds.2 m y hy)
instance {α:Type} (av:α→Av) (l:List α) [a:∀ x,Pu (av x)]:Nn (gK av l):=⟨fun Z z hz=>by
 obtain ⟨x,_,hx⟩:=List.mem_flatMap.1 hz;have hp:=(a x).out;have one:cL (av x)=[av x]→aE Z z:=fun e=>by rw [e,List.mem_singleton] at hx;subst hx;exact aE.of_pure _ hp
 generalize av x=y at hx hp one;cases y with
 | agg ds=>
  have hl:∀ (l:List Av),bE l→∀ z∈l,aE Z z:=fun l=>by
   induction l with
   | nil=>intro _ z hz;cases hz
   | cons y l ih=>
    intro h z hz;unfold bE at h;rcases List.mem_cons.1 hz with rfl|hz
    ·exact aE.of_pure _ h.1
    exact ih h.2 z hz
  unfold aN at hp;exact hl ds hp z hx
 | _=>exact one rfl⟩
abbrev bF:=Int × Int
abbrev fV (α:Type):=bF→α × bF
def dT {α:Type}(one:fV α):Nat→bF→List α→List α × bF
 | 0,s,l=>(l,s)
 | f+1,s,l=>if s.2=0 then dT one f (one s).2 (l++[(one s).1]) else (l,s)
def cV {α:Type}(many:fV Int)(one:fV α)(s:bF):List α × bF:=dT one (many s).1.toNat (many s).2 []
def aV (xs:List Int)(s:bF):List Av:=[bs xs,vi s.1,vi s.2]
@[simp] theorem am4 (xs:List Int)(s:bF):(aV xs s).length=3:=rfl
instance (xs:List Int) (s:bF):PuL (aV xs s):=by unfold aV;infer_instance
instance (xs:List Int) (s:bF):Nn (aV xs s):=by unfold aV;infer_instance
def cJ (xs:List Int)(s:bF):Int × bF:=rS xs 65536 s
def oY (xs:List Int)(s:bF):Int × bF:=((cJ xs s).1-1,(cJ xs s).2)
def rX (xs:List Int)(s:bF):Bool × bF:=((rB xs s).1==1,(rB xs s).2)
noncomputable def gText (xs:List Int)(s:bF):ByteArray × bF:=rT xs 65536 s
def yH (xs:List Int)(s:bF):List Int × bF:=rI xs 65536 s
theorem aS8 {xs:List Int}(hb:cI xs)(at0 most:Int)(hm:0≤most):∀ (f k:Nat) (n:Int),0≤n→(kE xs at0 most f k n).1≤most∧0≤(kE xs at0 most f k n).1
 | 0,_,_,_=>⟨hm,Int.le_refl 0⟩
 | f+1,k,n,hn=>by
  have h1:0≤xs.getD (at0+k).toNat 0%128*128^k:=Int.mul_nonneg (Int.emod_nonneg _ (by decide)) (Int.pow_nonneg (by decide));unfold kE;split
  ·exact ⟨hm,Int.le_refl 0⟩
  split
  ·exact ⟨hm,Int.le_refl 0⟩
  split
  ·split
   ·exact ⟨hm,Int.le_refl 0⟩
   exact ⟨by show _≤_;omega,by show 0≤_;omega⟩
  exact aS8 hb at0 most hm f (k+1) _ (by omega)
theorem wO {xs:List Int}(hb:cI xs){most:Int}(hm:0≤most)(s:bF):0≤(rS xs most s).1∧(rS xs most s).1≤most:=by
 unfold rS bY;split
 ·exact ⟨Int.le_refl 0,hm⟩
 have:=aS8 hb s.1 most hm 6 0 0 (Int.le_refl 0);omega
theorem aKZ (xs:List Int)(hl:xs.length≤1000000)(hb:cI xs)(s:bF)(most:Int):FC Tryz.prog 154 [.own 0 0,vi most] [(0,.live 83 (aV xs (s)))] (vi (rS xs most s).1) [(0,.live 83 (aV xs ((rS xs most s).2)))]:=by
 refine FB 2 21 Tryz.func154 ?_;refine G ?_;refine aS 0 3 true ?_;refine Ylw 3 [_,_,_] ?_;refine C (ae4 xs most s hl hb) ?_;refine aS 0 3 true ?_;refine bW [_,_,_] ?_;refine G ?_;exact Rx rfl rfl
theorem aS9 (xs:List Int)(hl:xs.length≤1000000)(hb:cI xs)(s:bF)(most:Int):FC Tryz.prog 159 [.own 0 0,vi most] [(0,.live 83 (aV xs (s)))] (vs (rT xs most s).1) [(0,.live 83 (aV xs ((rT xs most s).2)))]:=by
 refine FB 2 21 Tryz.func159 ?_;refine G ?_;refine aS 0 3 true ?_;refine Ylw 3 [_,_,_] ?_;refine C (ae5 xs most s hl hb) ?_;refine aS 0 3 true ?_;refine bW [_,_,_] ?_;refine G ?_;exact Rx rfl rfl
theorem aEL (xs:List Int)(hl:xs.length≤1000000)(hb:cI xs)(s:bF):FC Tryz.prog 169 [.own 0 0] [(0,.live 83 (aV xs (s)))] (vi (rB xs s).1) [(0,.live 83 (aV xs ((rB xs s).2)))]:=by
 refine FB 2 18 Tryz.func169 ?_;refine G ?_;refine aS 0 3 true ?_;refine Ylw 3 [_,_,_] ?_;refine C (ae1 xs s hl hb) ?_;refine aS 0 3 true ?_;refine bW [_,_,_] ?_;refine G ?_;exact Rx rfl rfl
theorem aJT (xs:List Int)(hl:xs.length≤1000000)(hb:cI xs)(s:bF):FC Tryz.prog 99 [.own 0 0] [(0,.live 83 (aV xs (s)))] (aK (yH xs s).1) [(0,.live 83 (aV xs ((yH xs s).2)))]:=by
 refine FB 2 18 Tryz.func99 ?_;refine G ?_;refine aS 0 3 true ?_;refine Ylw 3 [_,_,_] ?_;refine C (ae7 xs 65536 s hl hb) ?_;refine aS 0 3 true ?_;refine bW [_,_,_] ?_;refine G ?_;exact Rx rfl rfl
theorem rY (xs:List Int)(hl:xs.length≤1000000)(hb:cI xs)(s:bF):FC Tryz.prog 97 [.own 0 0] [(0,.live 83 (aV xs (s)))] (vi (cJ xs s).1) [(0,.live 83 (aV xs ((cJ xs s).2)))]:=by
 refine FB 2 5 Tryz.func97 ?_;refine G ?_;refine cr (aKZ xs hl hb s 65536) ?_;refine G ?_;exact Rx rfl rfl
theorem aTA (xs:List Int)(hl:xs.length≤1000000)(hb:cI xs)(s:bF):FC Tryz.prog 158 [.own 0 0] [(0,.live 83 (aV xs (s)))] (vi (rS xs 4194304 s).1) [(0,.live 83 (aV xs ((rS xs 4194304 s).2)))]:=by
 refine FB 2 5 Tryz.func158 ?_;refine G ?_;refine cr (aKZ xs hl hb s 4194304) ?_;refine G ?_;exact Rx rfl rfl
theorem aJS (xs:List Int)(hl:xs.length≤1000000)(hb:cI xs)(s:bF):FC Tryz.prog 107 [.own 0 0] [(0,.live 83 (aV xs (s)))] (vs (gText xs s).1) [(0,.live 83 (aV xs ((gText xs s).2)))]:=by
 refine FB 2 5 Tryz.func107 ?_;refine G ?_;refine cr (aS9 xs hl hb s 65536) ?_;refine G ?_;exact Rx rfl rfl
theorem yI (xs:List Int)(hl:xs.length≤1000000)(hb:cI xs)(s:bF):FC Tryz.prog 162 [.own 0 0] [(0,.live 83 (aV xs (s)))] (vi (oY xs s).1) [(0,.live 83 (aV xs ((oY xs s).2)))]:=by
 have hn:=wO hb (most:=65536) (by decide) s;have hn2:(cJ xs s).1=(rS xs 65536 s).1:=rfl;refine FB 2 6 Tryz.func162 ?_;refine G ?_;refine cr (rY xs hl hb s) ?_;refine G ?_;exact Rx rfl rfl
theorem aRT (xs:List Int)(hl:xs.length≤1000000)(hb:cI xs)(s:bF):FC Tryz.prog 163 [.own 0 0] [(0,.live 83 (aV xs (s)))] (vb (rX xs s).1) [(0,.live 83 (aV xs ((rX xs s).2)))]:=by
 refine FB 2 6 Tryz.func163 ?_;refine G ?_;refine cr (aEL xs hl hb s) ?_;refine G ?_;exact Rx rfl rfl
set_option maxHeartbeats 3200000
abbrev GM (xs:List Int)(m:Av)(many:fV Int):Prop:=∀ s,MC Tryz.prog m 83 (aV xs s) (vi (many s).1) (aV xs (many s).2)
abbrev GO {α:Type}(xs:List Int)(K:Nat)(av:α→Av)(one:fV α):Prop:=∀ s,FC Tryz.prog K [.own 0 0] [(0,.live 83 (aV xs s))] (av (one s).1) [(0,.live 83 (aV xs (one s).2))]
abbrev GF (xs:List Int)(s0:bF)(m:Av)(K f:Nat)(x:Av)(s1:bF):Prop:=FC Tryz.prog f [.own 0 0,m,.bm K [.own 0 0]] [(0,.live 83 (aV xs s0))] x [(0,.live 83 (aV xs s1))]
theorem adS {α:Type}{one:fV α}{q:Nat}{s:bF}{l:List α}(h:0<q∧s.2=0):dT one q s l=dT one (q-1) (one s).2 (l++[(one s).1]):=by
 obtain ⟨f,rfl⟩:∃ f,q=f+1:=⟨q-1,by omega⟩
 show (if _ then _ else _)=_;rw [if_pos h.2];rfl
theorem adT {α:Type}{one:fV α}{q:Nat}{s:bF}{l:List α}(h:¬ (0<q∧s.2=0)):dT one q s l=(l,s):=by
 cases q with
 | zero=>rfl
 | succ f=>
  show (if _ then _ else _)=_;rw [if_neg fun h1=>h ⟨Nat.succ_pos _,h1⟩]
theorem Znn {P:Program}{bb:Bool}{ops:Array Oper}{o:Oper}{l:List Oper}{s:List (Nat × Av)}{h:List (Nat × Hs)}{K:Ctx→List (List Nat × List Nat)→Prop}{d:Nat}{p:Operand}{g u:Nat}{pol C:Bool}{n:Nat}{t:TypeId}{cs:List Av}(h':Ck bb P ops l ⟨(d,.gd C (.own n 0))::s,h⟩ fun Γ' F=>K Γ' ((([(n,Hs.live t cs)]:List (Nat × Hs)).map (·.1),[])::F))(ho:o.op=.nilCheck p:=by rfl)(hg:o.guard=some (g,pol):=by rfl)(hs:(ops[g]?).bind (·.dst)=some u:=by rfl)(hd:o.dst=some d:=by rfl)(hG:oV (bN s u) pol C:=by first|exact cA|exact eV|exact lO|exact aAS)(hp:xZ (dA s p)=.own n 0:=by rfl)(hR:jU h [(n,Hs.live t cs)]:=by exact ⟨rfl,trivial⟩)(hk:0<cs.length:=by first|decide|simp)(hc:C=true→aEB s o.op.operands.toList:=by (intro hC;first|exact trivial|(repeat' (first|exact trivial|refine ⟨?_,?_⟩));all_goals (first|rfl|exact hC|(simp only [Bool.and_eq_true] at hC;first|exact hC.1|exact hC.1.1|exact hC.2)|simp_all))):Ck bb P ops (o::l) ⟨s,h⟩ K:=aW hg hs hd hG (fun _=>qP ho hp hk) hc hR h'
theorem aRS (xs:List Int)(s0:bF)(m:Av)(K2:Nat)(many:fV Int)(one:fV ByteArray)(hm:GM xs m many)(hK:dN Tryz.prog K2=true)(ho:GO xs K2 vs one)(hmb:∀ s,0≤(many s).1∧(many s).1≤10000000):GF xs s0 m K2 155 (bB (cV many one s0).1) (cV many one s0).2:=by
 have hmb0:=hmb s0;refine FB 3 29 Tryz.func155 ?_;refine G ?_;refine cm (hm s0) ?_;refine G ?_;refine bS (Le.nameNil 7 1 1 9 rfl rfl) ?_;refine bM (ι:=Nat × List ByteArray × bF) (fun q=>⟨[(0,.own 0 0),(2,.bm K2 [.own 0 0]),(7,.osl 1 1 q.2.1.length),(8,vi (q.1:Int))],[(0,.live 83 (aV xs q.2.2)),(1,.live 9 (gK vs q.2.1)),(2,.unborn)]⟩) (fun q=>dT one q.1 q.2.2 q.2.1=cV many one s0∧q.2.1.length+q.1≤10000000) (fun q=>q.1) ((many s0).1.toNat,[],(many s0).2) ⟨rfl,by show 0+(many s0).1.toNat≤_;omega⟩ LS ?_;rintro ⟨n,l,s⟩ ⟨h1,h2⟩
 dsimp only at h1 h2;refine G ?_;refine Znn ?_;refine Zfo 0 3 true ?_;refine Gd (fun hb=>?_) fun hb=>?_
 ·have hb:0<n∧s.2=0:=by simp only [Bool.and_eq_true,decide_eq_true_eq,beq_iff_eq] at hb;omega
  rw [adS hb] at h1;refine G ?_;refine cm ⟨K2,[.own 0 0],.inl rfl,hK,inferInstance,ho s⟩ ?_;refine Z1 jG ?_;refine jH 2 (hl:=sC (fun _=>rfl) _) ?_;refine G ?_;exact NX (n-1,l++[(one s).1],(one s).2) ⟨h1,by show (l++_).length+(n-1)≤_;rw [List.length_append];show _+1+_≤_;omega⟩ (hm:=by show n-1<n;omega) (hl:=by (try dsimp only);exact LT 1 2 [2] (hh:=⟨iJ (by decide) (by decide) (by decide) rfl (Nn.out _),mF (by rw [uX,uY];rfl) (Nn.out _),iD (by decide) (by decide),trivial⟩))
 rw [adT fun h=>by simp [h.1,h.2] at hb] at h1;rw [←h1];refine bU ?_;refine aD ?_;refine bS (Le.freezeR 7 1 vs 1 ByteArray.empty l (fun _=>rfl) rfl rfl) ?_;refine G ?_;exact RT rfl
theorem aRR (xs:List Int)(s0:bF)(m:Av)(K2:Nat)(many:fV Int)(one:fV Int)(hm:GM xs m many)(hK:dN Tryz.prog K2=true)(ho:GO xs K2 vi one)(hmb:∀ s,0≤(many s).1∧(many s).1≤10000000):GF xs s0 m K2 157 (aK (cV many one s0).1) (cV many one s0).2:=by
 have hmb0:=hmb s0;refine FB 3 29 Tryz.func157 ?_;refine G ?_;refine cm (hm s0) ?_;refine G ?_;refine bS (Le.nameNil 7 1 1 3 rfl rfl) ?_;refine bM (ι:=Nat × List Int × bF) (fun q=>⟨[(0,.own 0 0),(2,.bm K2 [.own 0 0]),(7,.osl 1 1 q.2.1.length),(8,vi (q.1:Int))],[(0,.live 83 (aV xs q.2.2)),(1,.live 3 (gK vi q.2.1)),(2,.unborn)]⟩) (fun q=>dT one q.1 q.2.2 q.2.1=cV many one s0∧q.2.1.length+q.1≤10000000) (fun q=>q.1) ((many s0).1.toNat,[],(many s0).2) ⟨rfl,by show 0+(many s0).1.toNat≤_;omega⟩ LS ?_;rintro ⟨n,l,s⟩ ⟨h1,h2⟩;dsimp only at h1 h2;refine G ?_
 refine Znn ?_;refine Zfo 0 3 true ?_;refine Gd (fun hb=>?_) fun hb=>?_
 ·have hb:0<n∧s.2=0:=by simp only [Bool.and_eq_true,decide_eq_true_eq,beq_iff_eq] at hb;omega
  rw [adS hb] at h1;refine G ?_;refine cm ⟨K2,[.own 0 0],.inl rfl,hK,inferInstance,ho s⟩ ?_;refine Z1 jG ?_;refine jH 2 (hl:=sC (fun _=>rfl) _) ?_;refine G ?_;exact NX (n-1,l++[(one s).1],(one s).2) ⟨h1,by show (l++_).length+(n-1)≤_;rw [List.length_append];show _+1+_≤_;omega⟩ (hm:=by show n-1<n;omega) (hl:=by (try dsimp only);exact LT 1 2 [2] (hh:=⟨iJ (by decide) (by decide) (by decide) rfl (Nn.out _),mF (by rw [uX,uY];rfl) (Nn.out _),iD (by decide) (by decide),trivial⟩))
 rw [adT fun h=>by simp [h.1,h.2] at hb] at h1;rw [←h1];refine bU ?_;refine aD ?_;refine bS (Le.freezeR 7 1 vi 1 0 l (fun _=>rfl) rfl rfl) ?_;refine G ?_;exact RT rfl
theorem afK (xs:List Int)(s0:bF)(m:Av)(K2:Nat)(many:fV Int)(one:fV (List SlotP))(hm:GM xs m many)(hK:dN Tryz.prog K2=true)(ho:GO xs K2 fQ one)(hmb:∀ s,0≤(many s).1∧(many s).1≤10000000):GF xs s0 m K2 167 (lB (cV many one s0).1) (cV many one s0).2:=by
 have hmb0:=hmb s0;refine FB 3 29 Tryz.func167 ?_;refine G ?_;refine cm (hm s0) ?_;refine G ?_;refine bS (Le.nameNil 7 1 1 97 rfl rfl) ?_;refine bM (ι:=Nat × List (List SlotP) × bF) (fun q=>⟨[(0,.own 0 0),(2,.bm K2 [.own 0 0]),(7,.osl 1 1 q.2.1.length),(8,vi (q.1:Int))],[(0,.live 83 (aV xs q.2.2)),(1,.live 97 (gK fQ q.2.1)),(2,.unborn)]⟩) (fun q=>dT one q.1 q.2.2 q.2.1=cV many one s0∧q.2.1.length+q.1≤10000000) (fun q=>q.1) ((many s0).1.toNat,[],(many s0).2) ⟨rfl,by show 0+(many s0).1.toNat≤_;omega⟩ LS ?_
 rintro ⟨n,l,s⟩ ⟨h1,h2⟩;dsimp only at h1 h2;refine G ?_;refine Znn ?_;refine Zfo 0 3 true ?_;refine Gd (fun hb=>?_) fun hb=>?_
 ·have hb:0<n∧s.2=0:=by simp only [Bool.and_eq_true,decide_eq_true_eq,beq_iff_eq] at hb;omega
  rw [adS hb] at h1;refine G ?_;refine cm ⟨K2,[.own 0 0],.inl rfl,hK,inferInstance,ho s⟩ ?_;refine Z1 jG ?_;refine jH 2 (hl:=sC (fun _=>rfl) _) ?_;refine G ?_;exact NX (n-1,l++[(one s).1],(one s).2) ⟨h1,by show (l++_).length+(n-1)≤_;rw [List.length_append];show _+1+_≤_;omega⟩ (hm:=by show n-1<n;omega) (hl:=by (try dsimp only);exact LT 1 2 [2] (hh:=⟨iJ (by decide) (by decide) (by decide) rfl (Nn.out _),mF (by rw [uX,uY];rfl) (Nn.out _),iD (by decide) (by decide),trivial⟩))
 rw [adT fun h=>by simp [h.1,h.2] at hb] at h1;rw [←h1];refine bU ?_;refine aD ?_;refine bS (Le.freezeR 7 1 fQ 1 [] l (fun _=>rfl) rfl rfl) ?_;refine G ?_;exact RT rfl
theorem afI (xs:List Int)(s0:bF)(m:Av)(K2:Nat)(many:fV Int)(one:fV SlotP)(hm:GM xs m many)(hK:dN Tryz.prog K2=true)(ho:GO xs K2 lJ one)(hmb:∀ s,0≤(many s).1∧(many s).1≤10000000):GF xs s0 m K2 224 (fQ (cV many one s0).1) (cV many one s0).2:=by
 have hmb0:=hmb s0;refine FB 3 29 Tryz.func224 ?_;refine G ?_;refine cm (hm s0) ?_;refine G ?_;refine bS (Le.nameNil 7 1 2 167 rfl rfl) ?_;refine bM (ι:=Nat × List SlotP × bF) (fun q=>⟨[(0,.own 0 0),(2,.bm K2 [.own 0 0]),(7,.osl 2 1 q.2.1.length),(8,vi (q.1:Int))],[(0,.live 83 (aV xs q.2.2)),(1,.live 167 (gK lJ q.2.1)),(2,.unborn)]⟩) (fun q=>dT one q.1 q.2.2 q.2.1=cV many one s0∧q.2.1.length+q.1≤10000000) (fun q=>q.1) ((many s0).1.toNat,[],(many s0).2) ⟨rfl,by show 0+(many s0).1.toNat≤_;omega⟩ LS ?_;rintro ⟨n,l,s⟩ ⟨h1,h2⟩
 dsimp only at h1 h2;refine G ?_;refine Znn ?_;refine Zfo 0 3 true ?_;refine Gd (fun hb=>?_) fun hb=>?_
 ·have hb:0<n∧s.2=0:=by simp only [Bool.and_eq_true,decide_eq_true_eq,beq_iff_eq] at hb;omega
  rw [adS hb] at h1;refine G ?_;refine cm ⟨K2,[.own 0 0],.inl rfl,hK,inferInstance,ho s⟩ ?_;refine Z1 jG ?_;refine jH 2 (hl:=sC (fun _=>rfl) _) ?_;refine G ?_;exact NX (n-1,l++[(one s).1],(one s).2) ⟨h1,by show (l++_).length+(n-1)≤_;rw [List.length_append];show _+1+_≤_;omega⟩ (hm:=by show n-1<n;omega) (hl:=by (try dsimp only);exact LT 1 2 [2] (hh:=⟨iJ (by decide) (by decide) (by decide) rfl (Nn.out _),mF (by rw [uX,uY];rfl) (Nn.out _),iD (by decide) (by decide),trivial⟩))
 rw [adT fun h=>by simp [h.1,h.2] at hb] at h1;rw [←h1];refine bU ?_;refine aD ?_;refine bS (Le.freezeR 7 1 lJ 2 cH l (fun _=>rfl) rfl rfl) ?_;refine G ?_;exact RT rfl
theorem afN (xs:List Int)(s0:bF)(m:Av)(K2:Nat)(many:fV Int)(one:fV WayP)(hm:GM xs m many)(hK:dN Tryz.prog K2=true)(ho:GO xs K2 oQ one)(hmb:∀ s,0≤(many s).1∧(many s).1≤10000000):GF xs s0 m K2 165 (kZ (cV many one s0).1) (cV many one s0).2:=by
 have hmb0:=hmb s0;refine FB 3 29 Tryz.func165 ?_;refine G ?_;refine cm (hm s0) ?_;refine G ?_;refine bS (Le.nameNil 7 1 4 115 rfl rfl) ?_;refine bM (ι:=Nat × List WayP × bF) (fun q=>⟨[(0,.own 0 0),(2,.bm K2 [.own 0 0]),(7,.osl 4 1 q.2.1.length),(8,vi (q.1:Int))],[(0,.live 83 (aV xs q.2.2)),(1,.live 115 (gK oQ q.2.1)),(2,.unborn)]⟩) (fun q=>dT one q.1 q.2.2 q.2.1=cV many one s0∧q.2.1.length+q.1≤10000000) (fun q=>q.1) ((many s0).1.toNat,[],(many s0).2) ⟨rfl,by show 0+(many s0).1.toNat≤_;omega⟩ LS ?_;rintro ⟨n,l,s⟩ ⟨h1,h2⟩
 dsimp only at h1 h2;refine G ?_;refine Znn ?_;refine Zfo 0 3 true ?_;refine Gd (fun hb=>?_) fun hb=>?_
 ·have hb:0<n∧s.2=0:=by simp only [Bool.and_eq_true,decide_eq_true_eq,beq_iff_eq] at hb;omega
  rw [adS hb] at h1;refine G ?_;refine cm ⟨K2,[.own 0 0],.inl rfl,hK,inferInstance,ho s⟩ ?_;refine Z1 jG ?_;refine jH 2 (hl:=sC (fun _=>rfl) _) ?_;refine G ?_;exact NX (n-1,l++[(one s).1],(one s).2) ⟨h1,by show (l++_).length+(n-1)≤_;rw [List.length_append];show _+1+_≤_;omega⟩ (hm:=by show n-1<n;omega) (hl:=by (try dsimp only);exact LT 1 2 [2] (hh:=⟨iJ (by decide) (by decide) (by decide) rfl (Nn.out _),mF (by rw [uX,uY];rfl) (Nn.out _),iD (by decide) (by decide),trivial⟩))
 rw [adT fun h=>by simp [h.1,h.2] at hb] at h1;rw [←h1];refine bU ?_;refine aD ?_;refine bS (Le.freezeR 7 1 oQ 4 dD l (fun _=>rfl) rfl rfl) ?_;refine G ?_;exact RT rfl
theorem aiD (xs:List Int)(s0:bF)(m:Av)(K2:Nat)(many:fV Int)(one:fV VerbP)(hm:GM xs m many)(hK:dN Tryz.prog K2=true)(ho:GO xs K2 iC one)(hmb:∀ s,0≤(many s).1∧(many s).1≤10000000):GF xs s0 m K2 102 (gB (cV many one s0).1) (cV many one s0).2:=by
 have hmb0:=hmb s0;refine FB 3 29 Tryz.func102 ?_;refine G ?_;refine cm (hm s0) ?_;refine G ?_;refine bS (Le.nameNil 7 1 2 69 rfl rfl) ?_;refine bM (ι:=Nat × List VerbP × bF) (fun q=>⟨[(0,.own 0 0),(2,.bm K2 [.own 0 0]),(7,.osl 2 1 q.2.1.length),(8,vi (q.1:Int))],[(0,.live 83 (aV xs q.2.2)),(1,.live 69 (gK iC q.2.1)),(2,.unborn)]⟩) (fun q=>dT one q.1 q.2.2 q.2.1=cV many one s0∧q.2.1.length+q.1≤10000000) (fun q=>q.1) ((many s0).1.toNat,[],(many s0).2) ⟨rfl,by show 0+(many s0).1.toNat≤_;omega⟩ LS ?_;rintro ⟨n,l,s⟩ ⟨h1,h2⟩
 dsimp only at h1 h2;refine G ?_;refine Znn ?_;refine Zfo 0 3 true ?_;refine Gd (fun hb=>?_) fun hb=>?_
 ·have hb:0<n∧s.2=0:=by simp only [Bool.and_eq_true,decide_eq_true_eq,beq_iff_eq] at hb;omega
  rw [adS hb] at h1;refine G ?_;refine cm ⟨K2,[.own 0 0],.inl rfl,hK,inferInstance,ho s⟩ ?_;refine Z1 jG ?_;refine jH 2 (hl:=sC (fun _=>rfl) _) ?_;refine G ?_;exact NX (n-1,l++[(one s).1],(one s).2) ⟨h1,by show (l++_).length+(n-1)≤_;rw [List.length_append];show _+1+_≤_;omega⟩ (hm:=by show n-1<n;omega) (hl:=by (try dsimp only);exact LT 1 2 [2] (hh:=⟨iJ (by decide) (by decide) (by decide) rfl (Nn.out _),mF (by rw [uX,uY];rfl) (Nn.out _),iD (by decide) (by decide),trivial⟩))
 rw [adT fun h=>by simp [h.1,h.2] at hb] at h1;rw [←h1];refine bU ?_;refine aD ?_;refine bS (Le.freezeR 7 1 iC 2 gO l (fun _=>rfl) rfl rfl) ?_;refine G ?_;exact RT rfl
theorem aiE (xs:List Int)(s0:bF)(m:Av)(K2:Nat)(many:fV Int)(one:fV ThingP)(hm:GM xs m many)(hK:dN Tryz.prog K2=true)(ho:GO xs K2 iT one)(hmb:∀ s,0≤(many s).1∧(many s).1≤10000000):GF xs s0 m K2 100 (gA (cV many one s0).1) (cV many one s0).2:=by
 have hmb0:=hmb s0;refine FB 3 29 Tryz.func100 ?_;refine G ?_;refine cm (hm s0) ?_;refine G ?_;refine bS (Le.nameNil 7 1 9 48 rfl rfl) ?_;refine bM (ι:=Nat × List ThingP × bF) (fun q=>⟨[(0,.own 0 0),(2,.bm K2 [.own 0 0]),(7,.osl 9 1 q.2.1.length),(8,vi (q.1:Int))],[(0,.live 83 (aV xs q.2.2)),(1,.live 48 (gK iT q.2.1)),(2,.unborn)]⟩) (fun q=>dT one q.1 q.2.2 q.2.1=cV many one s0∧q.2.1.length+q.1≤10000000) (fun q=>q.1) ((many s0).1.toNat,[],(many s0).2) ⟨rfl,by show 0+(many s0).1.toNat≤_;omega⟩ LS ?_;rintro ⟨n,l,s⟩ ⟨h1,h2⟩
 dsimp only at h1 h2;refine G ?_;refine Znn ?_;refine Zfo 0 3 true ?_;refine Gd (fun hb=>?_) fun hb=>?_
 ·have hb:0<n∧s.2=0:=by simp only [Bool.and_eq_true,decide_eq_true_eq,beq_iff_eq] at hb;omega
  rw [adS hb] at h1;refine G ?_;refine cm ⟨K2,[.own 0 0],.inl rfl,hK,inferInstance,ho s⟩ ?_;refine Z1 jG ?_;refine jH 2 (hl:=sC (fun _=>rfl) _) ?_;refine G ?_;exact NX (n-1,l++[(one s).1],(one s).2) ⟨h1,by show (l++_).length+(n-1)≤_;rw [List.length_append];show _+1+_≤_;omega⟩ (hm:=by show n-1<n;omega) (hl:=by (try dsimp only);exact LT 1 2 [2] (hh:=⟨iJ (by decide) (by decide) (by decide) rfl (Nn.out _),mF (by rw [uX,uY];rfl) (Nn.out _),iD (by decide) (by decide),trivial⟩))
 rw [adT fun h=>by simp [h.1,h.2] at hb] at h1;rw [←h1];refine bU ?_;refine aD ?_;refine bS (Le.freezeR 7 1 iT 9 cY l (fun _=>rfl) rfl rfl) ?_;refine G ?_;exact RT rfl
theorem aiF (xs:List Int)(s0:bF)(m:Av)(K2:Nat)(many:fV Int)(one:fV DeedP)(hm:GM xs m many)(hK:dN Tryz.prog K2=true)(ho:GO xs K2 mT one)(hmb:∀ s,0≤(many s).1∧(many s).1≤10000000):GF xs s0 m K2 104 (fY (cV many one s0).1) (cV many one s0).2:=by
 have hmb0:=hmb s0;refine FB 3 29 Tryz.func104 ?_;refine G ?_;refine cm (hm s0) ?_;refine G ?_;refine bS (Le.nameNil 7 1 6 73 rfl rfl) ?_;refine bM (ι:=Nat × List DeedP × bF) (fun q=>⟨[(0,.own 0 0),(2,.bm K2 [.own 0 0]),(7,.osl 6 1 q.2.1.length),(8,vi (q.1:Int))],[(0,.live 83 (aV xs q.2.2)),(1,.live 73 (gK mT q.2.1)),(2,.unborn)]⟩) (fun q=>dT one q.1 q.2.2 q.2.1=cV many one s0∧q.2.1.length+q.1≤10000000) (fun q=>q.1) ((many s0).1.toNat,[],(many s0).2) ⟨rfl,by show 0+(many s0).1.toNat≤_;omega⟩ LS ?_;rintro ⟨n,l,s⟩ ⟨h1,h2⟩
 dsimp only at h1 h2;refine G ?_;refine Znn ?_;refine Zfo 0 3 true ?_;refine Gd (fun hb=>?_) fun hb=>?_
 ·have hb:0<n∧s.2=0:=by simp only [Bool.and_eq_true,decide_eq_true_eq,beq_iff_eq] at hb;omega
  rw [adS hb] at h1;refine G ?_;refine cm ⟨K2,[.own 0 0],.inl rfl,hK,inferInstance,ho s⟩ ?_;refine Z1 jG ?_;refine jH 2 (hl:=sC (fun _=>rfl) _) ?_;refine G ?_;exact NX (n-1,l++[(one s).1],(one s).2) ⟨h1,by show (l++_).length+(n-1)≤_;rw [List.length_append];show _+1+_≤_;omega⟩ (hm:=by show n-1<n;omega) (hl:=by (try dsimp only);exact LT 1 2 [2] (hh:=⟨iJ (by decide) (by decide) (by decide) rfl (Nn.out _),mF (by rw [uX,uY];rfl) (Nn.out _),iD (by decide) (by decide),trivial⟩))
 rw [adT fun h=>by simp [h.1,h.2] at hb] at h1;rw [←h1];refine bU ?_;refine aD ?_;refine bS (Le.freezeR 7 1 mT 6 fZ l (fun _=>rfl) rfl rfl) ?_;refine G ?_;exact RT rfl
noncomputable def gTexts (xs:List Int):fV (List ByteArray):=cV (cJ xs) (gText xs)
def wN (xs:List Int):fV (List Int):=cV (cJ xs) (cJ xs)
def rW (xs:List Int)(s:bF):WayP × bF:=(⟨(rB xs s).1,(cJ xs (rB xs s).2).1,(oY xs (cJ xs (rB xs s).2).2).1,(oY xs (oY xs (cJ xs (rB xs s).2).2).2).1⟩,(oY xs (oY xs (cJ xs (rB xs s).2).2).2).2)
noncomputable def gSlot (xs:List Int)(s:bF):SlotP × bF:=(⟨(rB xs s).1,(gTexts xs (rB xs s).2).1⟩,(gTexts xs (rB xs s).2).2)
noncomputable def gLine (xs:List Int):fV (List SlotP):=cV (cJ xs) (gSlot xs)
noncomputable def gLines (xs:List Int):fV (List (List SlotP)):=cV (cJ xs) (gLine xs)
noncomputable def gAct (xs:List Int)(s:bF):VerbP × bF:=(⟨(rX xs s).1,(gLines xs (rX xs s).2).1⟩,(gLines xs (rX xs s).2).2)
def uR (xs:List Int)(s:bF):DeedP × bF:=
 let a0:=cJ xs s
 let a1:=rB xs a0.2
 let a2:=oY xs a1.2
 let a3:=oY xs a2.2
 let a4:=oY xs a3.2
 let a5:=cJ xs a4.2
 (⟨a0.1,a1.1,a2.1,a3.1,a4.1,a5.1⟩,a5.2)
noncomputable def gThing (xs:List Int)(s:bF):ThingP × bF:=
 let a0:=cJ xs s
 let a1:=oY xs a0.2
 let a2:=cJ xs a1.2
 let a3:=cJ xs a2.2
 let a4:=rX xs a3.2
 let a5:=yH xs a4.2
 let a6:=gTexts xs a5.2
 let a7:=gTexts xs a6.2
 let a8:=cV (cJ xs) (rW xs) a7.2
 (⟨a0.1,a1.1,a2.1,a3.1,a4.1,a5.1,a6.1,a7.1,a8.1⟩,a8.2)
theorem uS {xs:List Int}(hb:cI xs)(s:bF):0≤(cJ xs s).1∧(cJ xs s).1≤10000000:=by have:=wO hb (most:=65536) (by decide) s;show 0≤(rS xs 65536 s).1∧(rS xs 65536 s).1≤_;omega
theorem aRQ {P:Program}{k:Nat}{T:TypeId}{xs:List Int}{α:Type}{av:α→Av}{one:fV α}(hk:dN P k=true)(h:∀ s,FC P k [.own 0 0] [(0,.live T (aV xs s))] (av (one s).1) [(0,.live T (aV xs (one s).2))])(s:bF):MC P (.bm k [.own 0 0]) T (aV xs s) (av (one s).1) (aV xs (one s).2):=⟨k,[.own 0 0],.inl rfl,hk,inferInstance,h s⟩
theorem uT (xs:List Int)(hl:xs.length≤1000000)(hb:cI xs):∀ s,MC Tryz.prog (.bm 97 [.own 0 0]) 83 (aV xs s) (vi (cJ xs s).1) (aV xs (cJ xs s).2):=aRQ (av:=vi) (by kernel_rfl) fun s=>rY xs hl hb s
theorem afE (xs:List Int)(hl:xs.length≤1000000)(hb:cI xs)(s:bF):FC Tryz.prog 106 [.own 0 0] [(0,.live 83 (aV xs (s)))] (aK (wN xs s).1) [(0,.live 83 (aV xs ((wN xs s).2)))]:=by
 refine FB 2 9 Tryz.func106 ?_;refine G ?_;refine Z1 (iE (cs:=[.own _ _]) rfl rfl) ?_;refine G ?_;refine Z1 (iE (cs:=[.own _ _]) rfl rfl) ?_;refine cr (aRR xs (s) _ 97 (cJ xs) (cJ xs) (uT xs hl hb) (by kernel_rfl) (fun s=>rY xs hl hb s) (uS hb)) ?_;refine G ?_;exact Rx rfl rfl
theorem aJR (xs:List Int)(hl:xs.length≤1000000)(hb:cI xs)(s:bF):FC Tryz.prog 164 [.own 0 0] [(0,.live 83 (aV xs (s)))] (bB (gTexts xs s).1) [(0,.live 83 (aV xs ((gTexts xs s).2)))]:=by
 refine FB 2 9 Tryz.func164 ?_;refine G ?_;refine Z1 (iE (cs:=[.own _ _]) rfl rfl) ?_;refine G ?_;refine Z1 (iE (cs:=[.own _ _]) rfl rfl) ?_;refine cr (aRS xs (s) _ 107 (cJ xs) (gText xs) (uT xs hl hb) (by kernel_rfl) (fun s=>aJS xs hl hb s) (uS hb)) ?_;refine G ?_;exact Rx rfl rfl
theorem afF (xs:List Int)(hl:xs.length≤1000000)(hb:cI xs)(s:bF):FC Tryz.prog 166 [.own 0 0] [(0,.live 83 (aV xs (s)))] (oQ (rW xs s).1) [(0,.live 83 (aV xs ((rW xs s).2)))]:=by
 refine FB 2 16 Tryz.func166 ?_;refine G ?_;refine cr (aEL xs hl hb (_)) ?_;refine G ?_;refine cr (rY xs hl hb (_)) ?_;refine G ?_;refine cr (yI xs hl hb (_)) ?_;refine G ?_;refine cr (yI xs hl hb (_)) ?_;refine G ?_;exact ⟨.inl rfl,aF.cell rfl rfl rfl (by kernel_rfl) (by kernel_rfl) (Nat.le_of_ble_eq_true rfl),⟨rfl,trivial⟩⟩
theorem afG (xs:List Int)(hl:xs.length≤1000000)(hb:cI xs)(s:bF):FC Tryz.prog 225 [.own 0 0] [(0,.live 83 (aV xs (s)))] (lJ (gSlot xs s).1) [(0,.live 83 (aV xs ((gSlot xs s).2)))]:=by
 refine FB 2 10 Tryz.func225 ?_;refine G ?_;refine cr (aEL xs hl hb (_)) ?_;refine G ?_;refine cr (aJR xs hl hb (_)) ?_;refine G ?_;exact ⟨.inl rfl,aF.cell rfl rfl rfl (by kernel_rfl) (by kernel_rfl) (Nat.le_of_ble_eq_true rfl),⟨rfl,trivial⟩⟩
theorem afH (xs:List Int)(hl:xs.length≤1000000)(hb:cI xs)(s:bF):FC Tryz.prog 168 [.own 0 0] [(0,.live 83 (aV xs (s)))] (fQ (gLine xs s).1) [(0,.live 83 (aV xs ((gLine xs s).2)))]:=by
 refine FB 2 9 Tryz.func168 ?_;refine G ?_;refine Z1 (iE (cs:=[.own _ _]) rfl rfl) ?_;refine G ?_;refine Z1 (iE (cs:=[.own _ _]) rfl rfl) ?_;refine cr (afI xs (s) _ 225 (cJ xs) (gSlot xs) (uT xs hl hb) (by kernel_rfl) (fun s=>afG xs hl hb s) (uS hb)) ?_;refine G ?_;exact Rx rfl rfl
theorem afJ (xs:List Int)(hl:xs.length≤1000000)(hb:cI xs)(s:bF):FC Tryz.prog 103 [.own 0 0] [(0,.live 83 (aV xs (s)))] (iC (gAct xs s).1) [(0,.live 83 (aV xs ((gAct xs s).2)))]:=by
 refine FB 2 14 Tryz.func103 ?_;refine G ?_;refine cr (aRT xs hl hb (_)) ?_;refine aS 0 1 false ?_;refine cF [_,_] ?_;refine G ?_;refine Z1 (iE (cs:=[.own _ _]) rfl rfl) ?_;refine G ?_;refine Z1 (iE (cs:=[.own _ _]) rfl rfl) ?_;refine cr (afK xs (_) _ 168 (cJ xs) (gLine xs) (uT xs hl hb) (by kernel_rfl) (fun s=>afH xs hl hb s) (uS hb)) ?_;refine G ?_;exact ⟨.inl rfl,aF.cell rfl rfl rfl (by kernel_rfl) (by kernel_rfl) (Nat.le_of_ble_eq_true rfl),⟨rfl,trivial⟩⟩
theorem afL (xs:List Int)(hl:xs.length≤1000000)(hb:cI xs)(s:bF):FC Tryz.prog 105 [.own 0 0] [(0,.live 83 (aV xs (s)))] (mT (uR xs s).1) [(0,.live 83 (aV xs ((uR xs s).2)))]:=by
 refine FB 2 22 Tryz.func105 ?_;refine G ?_;refine cr (rY xs hl hb (_)) ?_;refine G ?_;refine cr (aEL xs hl hb (_)) ?_;refine G ?_;refine cr (yI xs hl hb (_)) ?_;refine G ?_;refine cr (yI xs hl hb (_)) ?_;refine G ?_;refine cr (yI xs hl hb (_)) ?_;refine G ?_;refine cr (rY xs hl hb (_)) ?_;refine G ?_;exact ⟨.inl rfl,aF.cell rfl rfl rfl (by kernel_rfl) (by kernel_rfl) (Nat.le_of_ble_eq_true rfl),⟨rfl,trivial⟩⟩
theorem afM (xs:List Int)(hl:xs.length≤1000000)(hb:cI xs)(s:bF):FC Tryz.prog 101 [.own 0 0] [(0,.live 83 (aV xs (s)))] (iT (gThing xs s).1) [(0,.live 83 (aV xs ((gThing xs s).2)))]:=by
 refine FB 2 35 Tryz.func101 ?_;refine G ?_;refine cr (rY xs hl hb (_)) ?_;refine G ?_;refine cr (yI xs hl hb (_)) ?_;refine G ?_;refine cr (rY xs hl hb (_)) ?_;refine G ?_;refine cr (rY xs hl hb (_)) ?_;refine G ?_;refine cr (aRT xs hl hb (_)) ?_;refine G ?_;refine cr (aJT xs hl hb (_)) ?_;refine G ?_;refine cr (aJR xs hl hb (_)) ?_;refine G ?_;refine cr (aJR xs hl hb (_)) ?_;refine aS 7 1 false ?_;refine cF [_,_,_,_,_,_,_,_,_] ?_;refine G ?_;refine Z1 (iE (cs:=[.own _ _]) rfl rfl) ?_;refine G ?_;refine Z1 (iE (cs:=[.own _ _]) rfl rfl) ?_
 refine cr (afN xs (_) _ 166 (cJ xs) (rW xs) (uT xs hl hb) (by kernel_rfl) (fun s=>afF xs hl hb s) (uS hb)) ?_;refine G ?_;exact ⟨.inl rfl,aF.cell rfl rfl rfl (by kernel_rfl) (by kernel_rfl) (Nat.le_of_ble_eq_true rfl),⟨rfl,trivial⟩⟩
open Go.RowKit Go.Maps
section
variable {P:Program}{o:Oper}{ρ:Operand→Av}{T k e:TypeId}{p q:Operand}{kk:IntKind}{D:DataW Unit}
theorem aRV {E:World}{b m:Nat}{key:Value}{kl:Lit}{c:Int}(h5:E.ownsMap P k (plainElem P e) b m D)(K:Keyed P k)(hT:aPA P T=some (k,e))(he:wM P e=some kk)(hz:(P.info? e).bind (·.zero)=some (.int kk 0))(hkey:keyOf P k key=some kl)(hat:D.atKey kl (.lit (.int kk 0))=.lit (.int kk c)):(Instr.lookup T (.map (some b)) key true).run P E=.ok (.tuple #[.int kk c,.bool (Maps.has D kl)]) E:=by
 obtain ⟨v,ps,hrun,hv⟩:=h5.look_ok K (wL hT) (aJQ hz E) (plainElem_int (aEJ he) (by cases kk<;>decide)) hkey;obtain ⟨c',rfl,hc,_⟩:=plainElem_int_inv (aEJ he) hv;simp only [Prod.mk.injEq] at hc;rw [hat] at hc;have h1:=hc.1;injection h1 with h1
 injection h1 with _ h1
 subst h1;exact hrun
theorem aRW {E:Env}{c:Int}{is_:Bool}:aA E (.tup [.val (.int kk c),vb is_]) (.tuple #[.int kk c,.bool is_]):=by
 unfold aA;refine ⟨[_,_],rfl,?_⟩;unfold aG aG aG;exact ⟨_,_,rfl,by unfold aA;rfl,_,_,rfl,by unfold aA;rfl,rfl⟩
theorem afQ {n:Nat}{key:Value}{kl:Lit}{c:Int}(K:Keyed P k)(ho:o.op=.lookup T p q true)(hp:ρ p=.mp n)(hq:ρ q=.val key)(hT:aPA P T=some (k,e))(he:wM P e=some kk)(hz:(P.info? e).bind (·.zero)=some (.int kk 0))(hkey:keyOf P k key=some kl)(hat:D.atKey kl (.lit (.int kk 0))=.lit (.int kk c)):
 OC P o ρ [(n,.map P k e D)] (.tup [.val (.int kk c),vb (Maps.has D kl)]) []:=bZ fun E a hG hr hH=>by
 have h1:=hr p (by simp [ho,Op.operands]);have h2:=hr q (by simp [ho,Op.operands]);rw [hp] at h1;rw [hq] at h2;unfold aA at h1 h2;obtain ⟨b,m,h4,h5⟩:=hH n (.map P k e D) (by simp);refine ⟨_,?_,aRW⟩;unfold execOp;simp only [ho,h1.2 b h4,h2,Sem.run_bind,aRV h5 K hT he hz hkey hat,Result.andThen_ok,Sem.run_pure]
theorem ab0 {key:Value}{kl:Lit}{c:Int}(K:Keyed P k)(ho:o.op=.lookup T p q true)(hp:ρ p=.fm P k e D)(hq:ρ q=.val key)(hT:aPA P T=some (k,e))(he:wM P e=some kk)(hz:(P.info? e).bind (·.zero)=some (.int kk 0))(hkey:keyOf P k key=some kl)(hat:D.atKey kl (.lit (.int kk 0))=.lit (.int kk c)):
 OC P o ρ [] (.tup [.val (.int kk c),vb (Maps.has D kl)]) []:=bZ fun E a hG hr hH=>by
 have h1:=hr p (by simp [ho,Op.operands]);have h2:=hr q (by simp [ho,Op.operands]);rw [hp] at h1;rw [hq] at h2;unfold aA at h1 h2;obtain ⟨b,m,h3,_,h5⟩:=h1;refine ⟨_,?_,aRW⟩;unfold execOp;simp only [ho,h3,h2,Sem.run_bind,aRV h5 K hT he hz hkey hat,Result.andThen_ok,Sem.run_pure]
end
end Go.Proofs.YtgajclaoaphgoaaGreatDoor
