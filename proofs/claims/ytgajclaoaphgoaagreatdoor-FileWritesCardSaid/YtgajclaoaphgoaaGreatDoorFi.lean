/- Parts of the proof of a law of this seat: rules and contracts; no conditions. -/
import Derived.Test.YtgajclaoaphgoaaGreatDoorVa
import Derived.Test.YtgajclaoaphgoaaGreatDoorWireP
import Derived.Test.YtgajclaoaphgoaaGreatDoorWa
import Derived.Test.YtgajclaoaphgoaaGreatDoorProg
import Derived.KernelRfl
import Derived.Test.YtgajclaoaphgoaaGreatDoorBm
import Derived.Test.YtgajclaoaphgoaaGreatDoorOd
import Derived.Test.YtgajclaoaphgoaaGreatDoorBf
set_option maxHeartbeats 6400000
set_option maxRecDepth 100000
set_option linter.unusedVariables false
set_option linter.unusedSimpArgs false
namespace Go.Proofs.YtgajclaoaphgoaaGreatDoor
open Go.RowKit
theorem xW (l:List Int)(K:Nat)(caps:List Av)(p:Int→Bool)(hK:dN Tryz.prog K=true)(hpc:bE caps)(hp:∀ x∈l,PC Tryz.prog K ([vi x]++caps) (vb (p x))):PC Tryz.prog 61 [aK l,.clo K caps] (vb (l.all p)):=by
 refine FB 6 18 Tryz.func61 ?_;refine dM (t:=0) (x:=aK l) rfl eR fun hf=>?_;refine G ?_;refine LP (ι:=Nat) (fun k=>[(9,vi k)]) (fun _=>[]) (fun k=>k≤l.length∧∀ j,j<k→p (l.getD j 0)=true) (fun k=>l.length-k) 0 (⟨Nat.zero_le _,qF⟩) (hl:=(Le.sub (by repeat (first|trivial|refine ⟨.inr rfl,?_⟩|refine ⟨.inr (aR (by omega)),?_⟩)) (by repeat (first|trivial|refine ⟨rfl,?_⟩)))) ?_;intro k hI;refine Gd (fun hb=>?_) fun hb=>?_
 ·have hlt:k<l.length:=by have h0:=of_decide_eq_true hb;omega
  refine G ?_;refine Z1 (kW (f:=K) (caps:=caps) rfl rfl hK (hp _ (pR hlt)) rfl ⟨by simp only [aN,bE,and_self,dG,dY,cP,bV,dZ,eA,eC,eD,eE,eF,eG,eH,eI,eJ],hpc⟩ trivial) ?_;refine Gd (fun hb=>?_) fun hb=>?_
  ·refine G ?_;exact Rx rfl (bP (by rw [aKW (d:=0) hlt (by simpa using hb)]))
  refine G ?_;exact ⟨k+1,⟨by omega,mC (p:=fun j=>p (l.getD j 0)) hI.2 (by simpa using hb)⟩,by omega,Le.sub (by repeat (first|trivial|refine ⟨.inr rfl,?_⟩|refine ⟨.inr (aR (by omega)),?_⟩)) (by repeat (first|trivial|refine ⟨rfl,?_⟩))⟩
 have hge:k=l.length:=by have h0:=of_decide_eq_false hb;omega
 refine G ?_;exact Rx rfl (bP (by rw [aLP (d:=0) fun j hj=>hI.2 j (by omega)]))
theorem aU5 (l:List ByteArray)(K:Nat)(caps:List Av)(p:ByteArray→Bool)(hK:dN Tryz.prog K=true)(hpc:bE caps)(hp:∀ x∈l,PC Tryz.prog K ([vs x]++caps) (vb (p x))):PC Tryz.prog 122 [bB l,.clo K caps] (vb (l.all p)):=by
 refine FB 6 18 Tryz.func122 ?_;refine dM (t:=0) (x:=bB l) rfl eR fun hf=>?_;refine G ?_;refine LP (ι:=Nat) (fun k=>[(9,vi k)]) (fun _=>[]) (fun k=>k≤l.length∧∀ j,j<k→p (l.getD j ByteArray.empty)=true) (fun k=>l.length-k) 0 (⟨Nat.zero_le _,qF⟩) (hl:=(Le.sub (by repeat (first|trivial|refine ⟨.inr rfl,?_⟩|refine ⟨.inr (aR (by omega)),?_⟩)) (by repeat (first|trivial|refine ⟨rfl,?_⟩)))) ?_;intro k hI;refine Gd (fun hb=>?_) fun hb=>?_
 ·have hlt:k<l.length:=by have h0:=of_decide_eq_true hb;omega
  refine G ?_;refine Z1 (kW (f:=K) (caps:=caps) rfl rfl hK (hp _ (pR hlt)) rfl ⟨by simp only [aN,bE,and_self,dG,dY,cP,bV,dZ,eA,eC,eD,eE,eF,eG,eH,eI,eJ],hpc⟩ trivial) ?_;refine Gd (fun hb=>?_) fun hb=>?_
  ·refine G ?_;exact Rx rfl (bP (by rw [aKW (d:=ByteArray.empty) hlt (by simpa using hb)]))
  refine G ?_;exact ⟨k+1,⟨by omega,mC (p:=fun j=>p (l.getD j ByteArray.empty)) hI.2 (by simpa using hb)⟩,by omega,Le.sub (by repeat (first|trivial|refine ⟨.inr rfl,?_⟩|refine ⟨.inr (aR (by omega)),?_⟩)) (by repeat (first|trivial|refine ⟨rfl,?_⟩))⟩
 have hge:k=l.length:=by have h0:=of_decide_eq_false hb;omega
 refine G ?_;exact Rx rfl (bP (by rw [aLP (d:=ByteArray.empty) fun j hj=>hI.2 j (by omega)]))
theorem acY (l:List (List SlotP))(K:Nat)(caps:List Av)(p:(List SlotP)→Bool)(hK:dN Tryz.prog K=true)(hpc:bE caps)(hp:∀ x∈l,PC Tryz.prog K ([fQ x]++caps) (vb (p x))):PC Tryz.prog 56 [lB l,.clo K caps] (vb (l.all p)):=by
 refine FB 6 18 Tryz.func56 ?_;refine dM (t:=0) (x:=lB l) rfl eR fun hf=>?_;refine G ?_;refine LP (ι:=Nat) (fun k=>[(9,vi k)]) (fun _=>[]) (fun k=>k≤l.length∧∀ j,j<k→p (l.getD j [])=true) (fun k=>l.length-k) 0 (⟨Nat.zero_le _,qF⟩) (hl:=(Le.sub (by repeat (first|trivial|refine ⟨.inr rfl,?_⟩|refine ⟨.inr (aR (by omega)),?_⟩)) (by repeat (first|trivial|refine ⟨rfl,?_⟩)))) ?_;intro k hI;refine Gd (fun hb=>?_) fun hb=>?_
 ·have hlt:k<l.length:=by have h0:=of_decide_eq_true hb;omega
  refine G ?_;refine Z1 (kW (f:=K) (caps:=caps) rfl rfl hK (hp _ (pR hlt)) rfl ⟨by simp only [aN,bE,and_self,dG,dY,cP,bV,dZ,eA,eC,eD,eE,eF,eG,eH,eI,eJ],hpc⟩ trivial) ?_;refine Gd (fun hb=>?_) fun hb=>?_
  ·refine G ?_;exact Rx rfl (bP (by rw [aKW (d:=[]) hlt (by simpa using hb)]))
  refine G ?_;exact ⟨k+1,⟨by omega,mC (p:=fun j=>p (l.getD j [])) hI.2 (by simpa using hb)⟩,by omega,Le.sub (by repeat (first|trivial|refine ⟨.inr rfl,?_⟩|refine ⟨.inr (aR (by omega)),?_⟩)) (by repeat (first|trivial|refine ⟨rfl,?_⟩))⟩
 have hge:k=l.length:=by have h0:=of_decide_eq_false hb;omega
 refine G ?_;exact Rx rfl (bP (by rw [aLP (d:=[]) fun j hj=>hI.2 j (by omega)]))
theorem ac3 (l:List VerbP)(K:Nat)(caps:List Av)(p:VerbP→Bool)(hK:dN Tryz.prog K=true)(hpc:bE caps)(hp:∀ x∈l,PC Tryz.prog K ([iC x]++caps) (vb (p x))):PC Tryz.prog 53 [gB l,.clo K caps] (vb (l.all p)):=by
 refine FB 6 18 Tryz.func53 ?_;refine dM (t:=0) (x:=gB l) rfl eR fun hf=>?_;refine G ?_;refine bM (ι:=Nat) (fun k=>⟨[(1,.clo K caps),(7,gB l),(8,vi l.length),(9,vi k)],[(0,.unborn)]⟩) (fun k=>k≤l.length∧∀ j,j<k→p (l.getD j gO)=true) (fun k=>l.length-k) 0 (⟨Nat.zero_le _,qF⟩) (Le.sub (by repeat (first|trivial|refine ⟨.inr rfl,?_⟩|refine ⟨.inr (aR (by omega)),?_⟩)) (by repeat (first|trivial|refine ⟨rfl,?_⟩))) ?_;intro k hI;refine Gd (fun hb=>?_) fun hb=>?_
 ·have hlt:k<l.length:=by have h0:=of_decide_eq_true hb;omega
  refine G ?_;refine Z1 (kW (f:=K) (caps:=caps) rfl rfl hK (hp _ (pR hlt)) rfl ⟨by simp only [aN,bE,and_self,dG,dY,cP,bV,dZ,eA,eC,eD,eE,eF,eG,eH,eI,eJ],hpc⟩ trivial) ?_;refine Gd (fun hb=>?_) fun hb=>?_
  ·refine G ?_;exact Rx rfl (bP (by rw [aKW (d:=gO) hlt (by simpa using hb)]))
  refine G ?_;exact ⟨k+1,⟨by omega,mC (p:=fun j=>p (l.getD j gO)) hI.2 (by simpa using hb)⟩,by omega,Le.reset [0] (by simp) (by repeat (first|trivial|refine ⟨.inr rfl,?_⟩|refine ⟨.inr (aR (by omega)),?_⟩)) (nJ (by simp only [pS,bE,aN,and_self,dG,dY,cP,bV,dZ,eA,eC,eD,eE,eF,eG,eH,eI,eJ,hpc])) (by simp [lK])⟩
 have hge:k=l.length:=by have h0:=of_decide_eq_false hb;omega
 refine G ?_;exact Rx rfl (bP (by rw [aLP (d:=gO) fun j hj=>hI.2 j (by omega)]))
theorem ac4 (l:List DeedP)(K:Nat)(caps:List Av)(p:DeedP→Bool)(hK:dN Tryz.prog K=true)(hpc:bE caps)(hp:∀ x∈l,PC Tryz.prog K ([mT x]++caps) (vb (p x))):PC Tryz.prog 58 [fY l,.clo K caps] (vb (l.all p)):=by
 refine FB 6 18 Tryz.func58 ?_;refine dM (t:=0) (x:=fY l) rfl eR fun hf=>?_;refine G ?_;refine bM (ι:=Nat) (fun k=>⟨[(1,.clo K caps),(7,fY l),(8,vi l.length),(9,vi k)],[(0,.unborn)]⟩) (fun k=>k≤l.length∧∀ j,j<k→p (l.getD j fZ)=true) (fun k=>l.length-k) 0 (⟨Nat.zero_le _,qF⟩) (Le.sub (by repeat (first|trivial|refine ⟨.inr rfl,?_⟩|refine ⟨.inr (aR (by omega)),?_⟩)) (by repeat (first|trivial|refine ⟨rfl,?_⟩))) ?_;intro k hI;refine Gd (fun hb=>?_) fun hb=>?_
 ·have hlt:k<l.length:=by have h0:=of_decide_eq_true hb;omega
  refine G ?_;refine Z1 (kW (f:=K) (caps:=caps) rfl rfl hK (hp _ (pR hlt)) rfl ⟨by simp only [aN,bE,and_self,dG,dY,cP,bV,dZ,eA,eC,eD,eE,eF,eG,eH,eI,eJ],hpc⟩ trivial) ?_;refine Gd (fun hb=>?_) fun hb=>?_
  ·refine G ?_;exact Rx rfl (bP (by rw [aKW (d:=fZ) hlt (by simpa using hb)]))
  refine G ?_;exact ⟨k+1,⟨by omega,mC (p:=fun j=>p (l.getD j fZ)) hI.2 (by simpa using hb)⟩,by omega,Le.reset [0] (by simp) (by repeat (first|trivial|refine ⟨.inr rfl,?_⟩|refine ⟨.inr (aR (by omega)),?_⟩)) (nJ (by simp only [pS,bE,aN,and_self,dG,dY,cP,bV,dZ,eA,eC,eD,eE,eF,eG,eH,eI,eJ,hpc])) (by simp [lK])⟩
 have hge:k=l.length:=by have h0:=of_decide_eq_false hb;omega
 refine G ?_;exact Rx rfl (bP (by rw [aLP (d:=fZ) fun j hj=>hI.2 j (by omega)]))
theorem al6 (s:ByteArray):(!xB s 9 fun n=>tL n||tM n)=yN s:=by
 have h:=al7 s;unfold xB;rw [Bool.not_or,Bool.not_or] at *;unfold yN;simp only [Bool.not_not,gt_iff_lt];cases tL ((tB s).getD 0 0)<;>cases tM ((tB s).getD 0 0)<;>simp<;>rw [Bool.eq_iff_iff]<;>simp<;>omega
theorem al8 (s:ByteArray)(h:¬ s.toList=[]):(!xB s 1024 uJ&&(tB s).all uJ)=qN s:=by
 have h1:=List.length_pos_iff.2 h;rw [aF7] at h1;unfold qN xB;have hd:((tB s).getD 0 0)∈tB s:=by
  have:=al9 (s:=s) (k:=0) h1;rwa [aR4 s 0 h1]
 cases ha:(tB s).all uJ with
 | false=>simp
 | true=>
  rw [List.all_eq_true] at ha;rw [ha _ hd,Bool.eq_iff_iff];simp only [Bool.not_true,Bool.or_false,Bool.and_true,Bool.true_and,Bool.not_eq_true',Bool.or_eq_false_iff,decide_eq_false_iff_not,decide_eq_true_eq];omega
theorem amA {s:ByteArray}(h:s.toList=[]):qN s=true:=by
 have hz:s.size=0:=by rw [←aF7,h];rfl
 have ht:tB s=[]:=List.eq_nil_of_length_eq_zero (by rw [fK,hz]);unfold qN;rw [ht,hz];rfl
theorem amC (s:ByteArray)(hs:s.size≤9223372036854775807):PC Tryz.prog 189 [vs s] (vb (aE3 s)):=by
 refine FB 6 8 Tryz.func189 ?_;refine sq ?_;refine Z1 aB ?_;refine cn ?_;refine sq ?_;refine Z2 (al 0 [.nilFunc]) ?_;refine fP rfl rfl (lG (y:=.clo _ _) rfl rfl rfl (by kernel_rfl) (by kernel_rfl) (by first|exact (by first|exact aAU|exact aQ7)|exact cells_any) (by first|decide|(simp;done)|(simp;omega)) rfl) ⟨rfl,trivial⟩ ?_;refine cn ?_;refine aD ?_;refine bS (Le.freezeVar 3 0 rfl rfl) ?_;refine G ?_;refine Z1 (qC (cs:=[.ptr _]) rfl rfl) ?_
 refine Z1 (jP rfl (by kernel_rfl) (aU4 s hs 9 238 241 [] [.ptr (.clo 238 [])] (fun n=>tL n||tM n) aLT (by kernel_rfl) (by kernel_rfl) trivial ⟨trivial,trivial⟩ aU2 al5) rfl (by simp only [bE,aN,and_self]) trivial) ?_;refine G ?_;exact Rx rfl (bP (by rw [al6];rfl))
theorem amD (s:ByteArray)(hs:s.size≤9223372036854775807):PC Tryz.prog 64 [vs s] (vb (qN s)):=by
 refine FB 6 12 Tryz.func64 ?_;refine G ?_;refine Z1 (aGV rfl rfl rfl) ?_;refine G ?_;refine Zg rfl rfl rfl eV (fun hC=>jP rfl (by kernel_rfl) (aU4 s hs 1024 131 131 [] [] uJ uJ (by kernel_rfl) (by kernel_rfl) trivial trivial aU1 aU1) rfl (by simp only [bE,aN,and_self]) trivial) trivial ?_;refine G ?_;exact Rx rfl (bP (by
  by_cases h:s.toList=[]
  ·rw [amA h];simp [h]
  rw [al8 s h];simp [h]))
theorem aIW (l:List ByteArray)(hl:SW l)(most:Int):PC Tryz.prog 130 [bB l,vi most] (vb (wV l most)):=by
 refine FB 6 13 Tryz.func130 ?_;refine G ?_;refine Zg rfl rfl rfl cA (fun hC=>jP rfl (by kernel_rfl) (aU5 l 189 [] aE3 (by kernel_rfl) trivial fun x hx=>amC x (hl x hx)) rfl (by simp only [bE,aN,and_self,bV]) trivial) trivial ?_;refine G ?_;exact Rx rfl rfl
theorem an1 (l:List ByteArray)(hl:SW l)(most:Int):PC Tryz.prog 205 [bB l,vi most] (vb (wV l most)):=by
 refine FB 6 22 Tryz.func205 ?_;refine dM (t:=0) (x:=bB l) rfl eR fun hf=>?_;refine G ?_;refine LP (ι:=Nat) (fun k=>[(5,vi k)]) (fun _=>[]) (fun k=>k≤l.length∧∀ j,j<k→aE3 (l.getD j ByteArray.empty)=true) (fun k=>l.length-k) 0 (⟨Nat.zero_le _,qF⟩) (hl:=(Le.sub (by repeat (first|trivial|refine ⟨.inr rfl,?_⟩|refine ⟨.inr (aR (by omega)),?_⟩)) (by repeat (first|trivial|refine ⟨rfl,?_⟩)))) ?_;intro k hI;refine Gd (fun hb=>?_) fun hb=>?_
 ·have hlt:k<l.length:=by have h0:=of_decide_eq_true hb;omega
  refine G ?_;refine Z1 (ca (atI _ (hl _ (pR hlt)))) ?_;refine Gd (fun hb=>?_) fun hb=>?_
  ·refine G ?_;exact Rx rfl (bP (by unfold wV;rw [aKW (d:=ByteArray.empty) hlt (by simpa using hb),Bool.and_false]))
  refine G ?_;exact ⟨k+1,⟨by omega,mC (p:=fun j=>aE3 (l.getD j ByteArray.empty)) hI.2 (by simpa using hb)⟩,by omega,Le.sub (by repeat (first|trivial|refine ⟨.inr rfl,?_⟩|refine ⟨.inr (aR (by omega)),?_⟩)) (by repeat (first|trivial|refine ⟨rfl,?_⟩))⟩
 have hge:k=l.length:=by have h0:=of_decide_eq_false hb;omega
 refine G ?_;exact Rx rfl (bP (by unfold wV;rw [aLP (d:=ByteArray.empty) fun j hj=>hI.2 j (by omega),Bool.and_true]))
theorem an2 (l:List Int):PC Tryz.prog 202 [aK l] (vb (l.all pW)):=by
 refine FB 6 16 Tryz.func202 ?_;refine dM (t:=0) (x:=aK l) rfl eR fun hf=>?_;refine G ?_;refine LP (ι:=Nat) (fun k=>[(3,vi k)]) (fun _=>[]) (fun k=>k≤l.length∧∀ j,j<k→pW (l.getD j 0)=true) (fun k=>l.length-k) 0 (⟨Nat.zero_le _,qF⟩) (hl:=(Le.sub (by repeat (first|trivial|refine ⟨.inr rfl,?_⟩|refine ⟨.inr (aR (by omega)),?_⟩)) (by repeat (first|trivial|refine ⟨rfl,?_⟩)))) ?_;intro k hI;refine Gd (fun hb=>?_) fun hb=>?_
 ·have hlt:k<l.length:=by have h0:=of_decide_eq_true hb;omega
  refine G ?_;refine Z1 (ca (aoX _)) ?_;refine Gd (fun hb=>?_) fun hb=>?_
  ·refine G ?_;exact Rx rfl (bP (by rw [aKW (d:=0) hlt (by simpa using hb)]))
  refine G ?_;exact ⟨k+1,⟨by omega,mC (p:=fun j=>pW (l.getD j 0)) hI.2 (by simpa using hb)⟩,by omega,Le.sub (by repeat (first|trivial|refine ⟨.inr rfl,?_⟩|refine ⟨.inr (aR (by omega)),?_⟩)) (by repeat (first|trivial|refine ⟨rfl,?_⟩))⟩
 have hge:k=l.length:=by have h0:=of_decide_eq_false hb;omega
 refine G ?_;exact Rx rfl (bP (by rw [aLP (d:=0) fun j hj=>hI.2 j (by omega)]))
def dR {α:Type}(e:α→α→Bool):List α→List α→Bool
 | [],[]=>true
 | x::l,y::m=>e x y&&dR e l m
 | _,_=>false
theorem nI {α:Type}{e:α→α→Bool}:∀ {a b:List α},¬ (a.length:Int)=b.length→dR e a b=false
 | [],[],h=>absurd rfl h
 | x::l,[],h=>rfl
 | [],y::m,h=>rfl
 | x::l,y::m,h=>by
  unfold dR;rw [nI (a:=l) (b:=m) (by simp at h ⊢;omega),Bool.and_false]
theorem mE {α:Type}{e:α→α→Bool}(d:α):∀ {a b:List α},(a.length:Int)=b.length→(∀ j,j<a.length→e (a.getD j d) (b.getD j d)=true)→dR e a b=true
 | [],[],h,hj=>rfl
 | x::l,[],h,hj=>by simp at h;omega
 | [],y::m,h,hj=>by simp at h;omega
 | x::l,y::m,h,hj=>by
  unfold dR;have h0:=hj 0 (by simp);rw [show e x y=true from h0,mE d (a:=l) (b:=m) (by simp at h;omega) (fun j k=>by have:=hj (j+1) (by simp;omega);simpa using this)];rfl
theorem lI {α:Type}{e:α→α→Bool}(d:α):∀ {a b:List α} (j:Nat),j<a.length→(a.length:Int)=b.length→e (a.getD j d) (b.getD j d)=false→dR e a b=false
 | [],[],j,h,_,hj=>absurd h (by simp)
 | x::l,[],j,h,hl,hj=>rfl
 | [],y::m,j,h,hl,hj=>rfl
 | x::l,y::m,0,h,hl,hj=>by
  unfold dR;rw [show e x y=false from hj,Bool.false_and]
 | x::l,y::m,j+1,h,hl,hj=>by
  unfold dR;rw [lI d (a:=l) (b:=m) j (by simpa using h) (by simp at hl;omega) (by simpa using hj),Bool.and_false]
theorem kY {α:Type}{d:α}{l:List α}{k:Nat}(h:k<l.length):l.getD k d∈l:=by
 rw [List.getD,List.getElem?_eq_getElem h];exact List.getElem_mem h
def jJ (y:WayP):List Int:=[y.dir,y.goal,y.cond,y.els]
def gN (x:DeedP):List Int:=[x.verb,x.phase,x.noun,x.second,x.cond,x.body]
def qJ (x y:SlotP):Bool:=x.kind==y.kind&&decide (x.words=y.words)
def uB (x y:List SlotP):Bool:=dR qJ x y
def kP (x y:VerbP):Bool:=x.meta_==y.meta_&&dR uB x.lines y.lines
def vW (x:ThingP):List Int:=[x.title,x.text,x.parent,x.flags]
def lA (x y:ThingP):Bool:=(((((vW x==vW y)&&(x.room==y.room))&&decide (x.props=y.props))&&decide (x.words=y.words))&&decide (x.adjs=y.adjs))&&dR (fun x y=>jJ x==jJ y) x.ways y.ways
structure StoryP where
 tab:TabP
 entry:List Int
 code:List Int
def cX (s:StoryP):Av:=.agg [vi s.tab.title,vi s.tab.by_,vi s.tab.release,vi s.tab.max,bB s.tab.texts,vi s.tab.flags,aK s.tab.props,aK s.tab.globals,gA s.tab.things,gB s.tab.acts,fY s.tab.deeds,aK s.tab.funcs,aK s.tab.daemons,aK s.tab.params,aK s.tab.locals,aK s.entry,bs s.code]
instance (s:StoryP):Pu (cX s):=⟨by unfold cX;exact Pu.out⟩
def rN (l:List (List Int)):Av:=.sl 1 l.length fun j=>aK (l.getD j [])
instance (l:List (List Int)):Pu (rN l):=⟨by unfold rN;exact Pu.out⟩
theorem aO7:∀ (l:List Av) (j:Nat),bE l→aN (gE l j)
 | [],j,h=>by unfold gE;simp [aN]
 | x::l,0,h=>by unfold bE at h;exact h.1
 | x::l,j+1,h=>by unfold bE at h;have:=aO7 l j h.2;simpa [gE] using this
instance (l:List Av) (j:Nat) [h:PuL l]:Pu (gE l j):=⟨aO7 l j h.out⟩
theorem aO8:∀ l:List (List Int),bE (l.map aK)
 | []=>by unfold bE;trivial
 | x::l=>by unfold bE;exact ⟨cP x,aO8 l⟩
instance (l:List (List Int)):PuL (l.map aK):=⟨aO8 l⟩
theorem PC.conv {P:Program}{f:Nat}{xs ys:List Av}{z:Av}(h:PC P f xs z)(hxy:∀ E vs,aG E ys vs→aG E xs vs):PC P f ys z:=fun E vs hG hA hR hB hU=>h E vs hG (hxy E vs hA) hR hB hU
def cW (s:StoryP):List Int:=[s.tab.title,s.tab.by_,s.tab.release,s.tab.max,s.tab.flags]
def rO (s:StoryP):List (List Int):=[s.tab.props,s.tab.globals,s.tab.funcs,s.tab.daemons,s.tab.params,s.tab.locals,s.entry]
def uC (x y:StoryP):Bool:=((((((cW x==cW y)&&dR (fun a b=>decide (a=b)) (rO x) (rO y))&&decide (x.tab.texts=y.tab.texts))&&dR lA x.tab.things y.tab.things)&&dR kP x.tab.acts y.tab.acts)&&dR (fun x y=>gN x==gN y) x.tab.deeds y.tab.deeds)&&decide (x.code=y.code)
end Go.Proofs.YtgajclaoaphgoaaGreatDoor
namespace Go.Proofs.YtgajclaoaphgoaaGreatDoor
open Go.RowKit
theorem aDA {α:Type}[DecidableEq α]:∀ (a b:List α),dR (fun x y=>decide (x=y)) a b=decide (a=b)
 | [],[]=>by simp [dR]
 | x::l,[]=>by simp [dR]
 | [],y::m=>by simp [dR]
 | x::l,y::m=>by
  unfold dR;rw [aDA l m];by_cases h1:x=y<;>by_cases h2:l=m<;>simp [h1,h2]
theorem aaD (a b:List ByteArray):xL a b=decide (a=b):=by
 rw [←aDA];unfold xL;by_cases hl:(a.length:Int)=b.length
 ·cases hq:(List.range a.length).all fun k=>decide (a.getD k ByteArray.empty=b.getD k ByteArray.empty) with
  | true=>
   rw [mE ByteArray.empty hl (fun j hj=>(List.all_eq_true.1 hq) j (List.mem_range.2 hj))];simp [hl]
  | false=>
   obtain ⟨j,hj,h2⟩:=List.all_eq_false.1 hq;rw [lI ByteArray.empty j (List.mem_range.1 hj) hl (by simpa using h2)];simp
 rw [nI hl];simp [hl]
theorem aPC {E:Env}:∀ {xs:List Av} {l:List Value} {x:Av},aG E xs l→x∈xs→∃ v,aA E x v
 | [],l,x,h,hx=>by cases hx
 | y::xs,l,x,h,hx=>by
  unfold aG at h;obtain ⟨v,r,rfl,h1,h2⟩:=h;rcases List.mem_cons.1 hx with hx|hx
  ·exact ⟨v,hx ▸ h1⟩
  exact aPC h2 hx
theorem zU {E:Env}{xs:List Av}{v:Value}(h:aA E (.agg xs) v){k n:Nat}{r:Nat→Av}(hx:Av.sl k n r∈xs):n≤9223372036854775807:=by
 unfold aA at h;obtain ⟨l,_,h1,_⟩:=h;obtain ⟨u,hu⟩:=aPC h1 hx;exact eR E u hu
theorem aaE {x:ThingP}(E:Env)(v:Value)(h:aA E (iT x) v):x.ways.length≤9223372036854775807:=zU h (show kZ x.ways∈_ by simp)
theorem aaF {x y:ThingP}(h:lA x y=true):x.title=y.title∧x.text=y.text∧x.parent=y.parent∧x.flags=y.flags∧x.room=y.room∧x.ways.length=y.ways.length:=by
 have hl:x.ways.length=y.ways.length:=by
  refine Classical.byContradiction fun hn=>?_;unfold lA at h;rw [nI (a:=x.ways) (b:=y.ways) (by omega),Bool.and_false] at h;cases h
 unfold lA vW at h;simp only [Bool.and_eq_true,beq_iff_eq,List.cons.injEq] at h;exact ⟨h.1.1.1.1.1.1,h.1.1.1.1.1.2.1,h.1.1.1.1.1.2.2.1,h.1.1.1.1.1.2.2.2.1,h.1.1.1.1.2,hl⟩
theorem aaG (a b:List Int):PC Tryz.prog 117 [aK a,aK b] (vb (dR (fun x y=>decide (x=y)) a b)):=by
 refine FB 0 26 Tryz.func117 ?_;refine dM (t:=0) (x:=aK a) rfl eR fun hf=>?_;refine Gd (fun hb=>?_) fun hb=>?_
 ·have hne:¬ (a.length:Int)=b.length:=by simpa using hb
  refine G ?_;exact Rx rfl (by rw [nI hne];rfl)
 have hll:(a.length:Int)=b.length:=by simpa using hb
 refine G ?_;refine LP (ι:=Nat) (fun k=>[(5,vi k)]) (fun _=>[]) (fun k=>k≤a.length∧∀ j,j<k→(fun x y=>decide (x=y)) (a.getD j 0) (b.getD j 0)=true) (fun k=>a.length-k) 0 (⟨Nat.zero_le _,fun j hj=>absurd hj (by omega)⟩) (hl:=(Le.sub (by repeat (first|trivial|refine ⟨.inr rfl,?_⟩|refine ⟨.inr (aR (by omega)),?_⟩)) (by repeat (first|trivial|refine ⟨rfl,?_⟩)))) ?_;intro k hI;refine Gd (fun hb=>?_) fun hb=>?_
 ·have hlt:k<a.length:=by have h0:=of_decide_eq_true hb;omega
  have hlt2:k<b.length:=by omega
  refine Gd (fun hb=>?_) fun hb=>?_
  ·have heq:(fun x y=>decide (x=y)) (a.getD k 0) (b.getD k 0)=false:=by simpa using hb
   refine G ?_;exact Rx rfl (by rw [lI 0 k hlt hll heq];rfl)
  have heq:(fun x y=>decide (x=y)) (a.getD k 0) (b.getD k 0)=true:=by simpa using hb
  refine G ?_;exact ⟨k+1,⟨by omega,fun j hj=>(Nat.lt_succ_iff_lt_or_eq.1 hj).elim (hI.2 j) (fun h1=>h1 ▸ heq)⟩,by omega,Le.sub (by repeat (first|trivial|refine ⟨.inr rfl,?_⟩|refine ⟨.inr (aR (by omega)),?_⟩)) trivial⟩
 have hge:k=a.length:=by have h0:=of_decide_eq_false hb;omega
 refine G ?_;exact Rx rfl (by rw [mE 0 hll (fun j hj=>hI.2 j (by omega))];rfl)
theorem aaH (a b:List Int):PC Tryz.prog 117 [aK a,aK b] (vb (decide (a=b))):=aDA a b ▸ aaG a b
theorem aDB (a b:List ByteArray):PC Tryz.prog 116 [bB a,bB b] (vb (decide (a=b))):=aaD a b ▸ aYV a b
theorem uD (a b:List Int):PC Tryz.prog 45 [aK a,aK b] (vb (decide (a=b))):=by
 refine FB 0 8 Tryz.func45 ?_;refine C (aaH a b) ?_;exact Rx rfl rfl
theorem aaI (x y:ThingP):PC Tryz.prog 114 [iT x,iT y] (vb (lA x y)):=by
 refine FB 0 85 Tryz.func114 ?_;refine dM (t:=0) (x:=iT x) rfl aaE fun hf=>?_;refine G ?_;refine Zg rfl rfl rfl eV (fun hC=>aPD rfl rfl rfl (by kernel_rfl)) trivial ?_;refine Gd (fun hb=>?_) fun hb=>?_
 ·have hE:lA x y=false:=by
   cases hq:lA x y with
   | false=>rfl
   | true=>
    obtain ⟨q1,q2,q3,q4,q5,q6⟩:=aaF hq;simp [q1,q2,q3,q4,q5,q6] at hb
  refine G ?_;exact Rx rfl (by rw [hE];rfl)
 have hQ:x.title=y.title∧x.text=y.text∧x.parent=y.parent∧x.flags=y.flags∧x.room=y.room∧(x.ways.length:Int)=y.ways.length:=by simpa [and_assoc] using hb
 obtain ⟨q1,q2,q3,q4,q5,hll⟩:=hQ;refine G ?_;refine LP (ι:=Nat) (fun k=>[(5,vi k)]) (fun _=>[]) (fun k=>k≤x.ways.length∧∀ j,j<k→(fun x y=>jJ x==jJ y) (x.ways.getD j dD) (y.ways.getD j dD)=true) (fun k=>x.ways.length-k) 0 (⟨Nat.zero_le _,fun j hj=>absurd hj (by omega)⟩) (hl:=(Le.sub (by repeat (first|trivial|refine ⟨.inr rfl,?_⟩|refine ⟨.inr (aR (by omega)),?_⟩)) (by repeat (first|trivial|refine ⟨rfl,?_⟩)))) ?_;intro k hI;refine Gd (fun hb=>?_) fun hb=>?_
 ·have hlt:k<x.ways.length:=by have h0:=of_decide_eq_true hb;omega
  have hlt2:k<y.ways.length:=by omega
  refine G ?_;refine Z1 (aC8 (jJ (x.ways.getD k dD)) (jJ (y.ways.getD k dD)) rfl rfl rfl (by kernel_rfl) rfl) ?_;refine Gd (fun hb=>?_) fun hb=>?_
  ·have heq:(fun x y=>jJ x==jJ y) (x.ways.getD k dD) (y.ways.getD k dD)=false:=by simpa using hb
   refine G ?_;exact Rx rfl (by unfold lA;rw [lI dD k hlt hll heq,Bool.and_false];rfl)
  have heq:(fun x y=>jJ x==jJ y) (x.ways.getD k dD) (y.ways.getD k dD)=true:=by simpa using hb
  refine G ?_;exact ⟨k+1,⟨by omega,fun j hj=>(Nat.lt_succ_iff_lt_or_eq.1 hj).elim (hI.2 j) (fun h1=>h1 ▸ heq)⟩,by omega,Le.sub (by repeat (first|trivial|refine ⟨.inr rfl,?_⟩|refine ⟨.inr (aR (by omega)),?_⟩)) trivial⟩
 have hge:k=x.ways.length:=by have h0:=of_decide_eq_false hb;omega
 refine C (uD x.props y.props) ?_;refine C (aDB x.words y.words) ?_;refine C (aDB x.adjs y.adjs) ?_;exact Rx rfl (show vb _=vb _ from congrArg (fun b=>vb b) (by unfold lA vW;rw [mE dD hll (fun j hj=>hI.2 j (by omega)),q1,q2,q3,q4,q5];simp))
theorem aaJ {x:VerbP}(E:Env)(v:Value)(h:aA E (iC x) v):x.lines.length≤9223372036854775807:=zU h (show lB x.lines∈_ by simp)
theorem aaK {x y:VerbP}(h:kP x y=true):x.meta_=y.meta_∧x.lines.length=y.lines.length:=by
 have hl:x.lines.length=y.lines.length:=by
  refine Classical.byContradiction fun hn=>?_;unfold kP at h;rw [nI (a:=x.lines) (b:=y.lines) (by omega),Bool.and_false] at h;cases h
 unfold kP at h;simp only [Bool.and_eq_true,beq_iff_eq] at h;exact ⟨h.1,hl⟩
theorem aaL (x y:VerbP):PC Tryz.prog 115 [iC x,iC y] (vb (kP x y)):=by
 refine FB 2 82 Tryz.func115 ?_;refine dM (t:=0) (x:=iC x) rfl aaJ fun hf=>?_;refine G ?_;refine Z1 (aPD rfl rfl rfl (by kernel_rfl)) ?_;refine Gd (fun hb=>?_) fun hb=>?_
 ·have hE:kP x y=false:=by
   cases hq:kP x y with
   | false=>rfl
   | true=>
    obtain ⟨q1,q2⟩:=aaK hq;simp [q1,q2] at hb
  refine G ?_;exact Rx rfl (by rw [hE];rfl)
 have hQ:x.meta_=y.meta_∧(x.lines.length:Int)=y.lines.length:=by simpa using hb
 obtain ⟨q1,hll⟩:=hQ;refine G ?_;refine bM (ι:=Nat) (fun k=>⟨[(2,.ptr (iC x)),(3,.ptr (iC y)),(5,vi k)],[(0,.unborn),(1,.unborn)]⟩) (fun k=>k≤x.lines.length∧∀ j,j<k→uB (x.lines.getD j []) (y.lines.getD j [])=true) (fun k=>x.lines.length-k) 0 (⟨Nat.zero_le _,fun j hj=>absurd hj (by omega)⟩) (Le.sub (by repeat (first|trivial|refine ⟨.inr rfl,?_⟩|refine ⟨.inr (aR (by omega)),?_⟩)) (by repeat (first|trivial|refine ⟨rfl,?_⟩))) ?_;intro k hI;have hO:=hI;refine aD ?_;refine sq ?_;refine Z1 mo ?_;refine Z1 (fa 1) ?_;refine Z1 ld ?_;refine Z1 ln ?_;refine Z1 bz ?_;refine cn ?_
 refine cd (fun hb=>?_) fun hb=>?_
 ·have hlt:k<x.lines.length:=by have h0:=of_decide_eq_true hb;omega
  have hlt2:k<y.lines.length:=by omega
  refine aQ ?_;refine aD ?_;refine aU ?_;refine aD ?_;refine aD ?_;refine dw ?_;refine Z1 (fa 1) ?_;refine Z1 ld ?_;refine Z1 mo ?_;refine Z1 ia ?_;refine Z1 ld ?_;refine Z1 ln ?_;refine Z1 (fa 1) ?_;refine Z1 ld ?_;refine Z1 mo ?_;refine Z1 ia ?_;refine Z1 ld ?_;refine Z1 ln ?_;refine Z1 bz ?_;refine cn (dn ?_);refine cd (fun hb=>?_) fun hb=>?_
  ·have hne:¬ ((x.lines.getD k []).length:Int)=(y.lines.getD k []).length:=by simpa using hb
   refine sq ?_;refine Z1 aB ?_;refine cn ?_;refine aP ?_;exact Rx rfl (by unfold kP;rw [lI [] k hlt hll (show uB (x.lines.getD k []) (y.lines.getD k [])=false from nI hne),Bool.and_false];rfl)
  have hl2:((x.lines.getD k []).length:Int)=(y.lines.getD k []).length:=by simpa using hb
  refine aQ ?_;refine aD ?_;refine dM (t:=34) (x:=fQ (x.lines.getD k [])) rfl eR fun hf2=>?_;refine tx ?_;refine Z1 aB ?_;refine cn ?_;refine aU ?_;refine bM (ι:=Nat) (fun m=>⟨[(2,.ptr (iC x)),(3,.ptr (iC y)),(5,vi k),(6,vi m)],[(0,.unborn),(1,.unborn)]⟩) (fun m=>m≤(x.lines.getD k []).length∧∀ j,j<m→qJ ((x.lines.getD k []).getD j cH) ((y.lines.getD k []).getD j cH)=true) (fun m=>(x.lines.getD k []).length-m) 0 (⟨Nat.zero_le _,fun j hj=>absurd hj (by omega)⟩) (Le.sub (by repeat (first|trivial|refine ⟨.inr rfl,?_⟩|refine ⟨.inr (aR (by omega)),?_⟩)) (by repeat (first|trivial|refine ⟨rfl,?_⟩))) ?_
  intro m hI;refine aD ?_;refine sq ?_;refine Z1 mo ?_;refine Z1 (fa 1) ?_;refine Z1 ld ?_;refine Z1 mo ?_;refine Z1 ia ?_;refine Z1 ld ?_;refine Z1 ln ?_;refine Z1 bz ?_;refine cn ?_;refine cd (fun hb=>?_) fun hb=>?_
  ·have hlt3:m<(x.lines.getD k []).length:=by have h0:=of_decide_eq_true hb;omega
   have hlt4:m<(y.lines.getD k []).length:=by omega
   refine aQ ?_;refine aD ?_;refine aU ?_;refine aD ?_;refine dw ?_;refine Z1 (fa 1) ?_;refine Z1 ld ?_;refine Z1 mo ?_;refine Z1 ia ?_;refine Z1 ld ?_;refine Z1 mo ?_;refine Z1 ia ?_;refine Z1 lr ?_;refine Z1 (fa 1) ?_;refine Z1 ld ?_;refine Z1 mo ?_;refine Z1 ia ?_;refine Z1 ld ?_;refine Z1 mo ?_;refine Z1 ia ?_;refine Z1 lr ?_;refine Z2 (al 0 [.int .i64 0,.slice none 0 0]) ?_;refine Z2 (al 1 [.int .i64 0,.slice none 0 0]) ?_;refine bW [_,_] ?_;refine bW [_,_] ?_;refine cn (dn ?_);refine aD ?_;refine bS (Le.freezeRow 7 0 rfl rfl (Nat.le_of_ble_eq_true rfl)) ?_
   refine bS (Le.freezeRow 8 1 rfl rfl (Nat.le_of_ble_eq_true rfl)) ?_;refine tx ?_;refine Z1 (fa 0) ?_;refine Z1 ld ?_;refine Z1 (fa 0) ?_;refine Z1 ld ?_;refine Z1 bz ?_;refine Z1 mo ?_;refine Z4 (fun hC=>fa 1) ?_;refine Z4 (fun hC=>ld) ?_;refine Z4 (fun hC=>fa 1) ?_;refine Z4 (fun hC=>ld) ?_;refine Z4 (fun hC=>ca (aDB ((x.lines.getD k []).getD m cH).words ((y.lines.getD k []).getD m cH).words)) ?_;refine Z4 (fun hC=>nt) ?_;refine Z1 cC ?_;refine cn ?_;refine cd (fun hb=>?_) fun hb=>?_
   ·have heq:qJ ((x.lines.getD k []).getD m cH) ((y.lines.getD k []).getD m cH)=false:=by
     cases hq:qJ ((x.lines.getD k []).getD m cH) ((y.lines.getD k []).getD m cH) with
     | false=>rfl
     | true=>
      unfold qJ at hq;simp only [Bool.and_eq_true,beq_iff_eq,decide_eq_true_eq] at hq;rw [hq.1,hq.2] at hb;simp at hb
    refine G ?_;exact Rx rfl (by unfold kP;rw [lI [] k hlt hll (show uB (x.lines.getD k []) (y.lines.getD k [])=false from lI cH m hlt3 hl2 heq),Bool.and_false];rfl)
   have heq:qJ ((x.lines.getD k []).getD m cH) ((y.lines.getD k []).getD m cH)=true:=by
    unfold qJ;simpa using hb
   refine G ?_;exact ⟨m+1,⟨by omega,fun j hj=>(Nat.lt_succ_iff_lt_or_eq.1 hj).elim (hI.2 j) (fun h1=>h1 ▸ heq)⟩,by omega,Le.reset [0,1] (by simp) (by repeat (first|trivial|refine ⟨.inr rfl,?_⟩|refine ⟨.inr (aR (by omega)),?_⟩)) (nJ ⟨Pu.out,Pu.out,Pu.out,Pu.out,trivial⟩) (by simp [lK])⟩
  have hge3:m=(x.lines.getD k []).length:=by have h0:=of_decide_eq_false hb;omega
  refine bU ?_;refine tx ?_;refine Z1 mo ?_;refine Z1 ba ?_;refine Z1 aB ?_;refine cn ?_;have heq:uB (x.lines.getD k []) (y.lines.getD k [])=true:=mE cH hl2 (fun j hj=>hI.2 j (by omega));exact ⟨k+1,⟨by omega,fun j hj=>(Nat.lt_succ_iff_lt_or_eq.1 hj).elim (hO.2 j) (fun h1=>h1 ▸ heq)⟩,by omega,Le.sub (by repeat (first|trivial|refine ⟨.inr rfl,?_⟩|refine ⟨.inr (aR (by omega)),?_⟩)) ⟨rfl,rfl,trivial⟩⟩
 have hge:k=x.lines.length:=by have h0:=of_decide_eq_false hb;omega
 refine G ?_;exact Rx rfl (show vb true=vb _ from congrArg (fun b=>vb b) (by unfold kP;rw [mE [] hll (fun j hj=>hI.2 j (by omega)),q1];simp))
theorem aaM {x:TabP}(E:Env)(v:Value)(h:aA E (bR x) v):x.things.length≤9223372036854775807:=zU h (show gA x.things∈_ by simp)
theorem aaN {x:TabP}(E:Env)(v:Value)(h:aA E (bR x) v):x.acts.length≤9223372036854775807:=zU h (show gB x.acts∈_ by simp)
theorem aaO {x:TabP}(E:Env)(v:Value)(h:aA E (bR x) v):x.deeds.length≤9223372036854775807:=zU h (show fY x.deeds∈_ by simp)
def xO (x:TabP):List Int:=[x.title,x.by_,x.release,x.max,x.flags]
def qL (x y:TabP):Bool:=((((xO x==xO y)&&dR lA x.things y.things)&&dR kP x.acts y.acts)&&dR (fun x y=>gN x==gN y) x.deeds y.deeds)&&((((((decide (x.props=y.props)&&decide (x.globals=y.globals))&&decide (x.funcs=y.funcs))&&decide (x.daemons=y.daemons))&&decide (x.params=y.params))&&decide (x.locals=y.locals))&&decide (x.texts=y.texts))
theorem aHQ {α:Type}{e:α→α→Bool}{a b:List α}(h:dR e a b=true):a.length=b.length:=by
 refine Classical.byContradiction fun hn=>?_;rw [nI (by omega)] at h;cases h
theorem aaP {x y:TabP}(h:qL x y=true):x.title=y.title∧x.by_=y.by_∧x.release=y.release∧x.max=y.max∧x.flags=y.flags∧x.things.length=y.things.length∧x.acts.length=y.acts.length∧x.deeds.length=y.deeds.length:=by
 unfold qL xO at h;rw [Bool.and_eq_true,Bool.and_eq_true,Bool.and_eq_true,Bool.and_eq_true] at h;obtain ⟨⟨⟨⟨h1,h2⟩,h3⟩,h4⟩,_⟩:=h;simp only [beq_iff_eq,List.cons.injEq] at h1;exact ⟨h1.1,h1.2.1,h1.2.2.1,h1.2.2.2.1,h1.2.2.2.2.1,aHQ h2,aHQ h3,aHQ h4⟩
theorem aaQ (x y:TabP):PC Tryz.prog 44 [bR x,bR y] (vb (qL x y)):=by
 refine FB 0 173 Tryz.func44 ?_;refine dM (t:=0) (x:=bR x) rfl aaM fun hft=>?_;refine dM (t:=0) (x:=bR x) rfl aaN fun hfa=>?_;refine dM (t:=0) (x:=bR x) rfl aaO fun hfd=>?_;refine Gd (fun hb=>?_) fun hb=>?_
 ·have hE:qL x y=false:=by
   cases hq:qL x y with
   | false=>rfl
   | true=>
    obtain ⟨q1,q2,q3,q4,q5,q6,q7,q8⟩:=aaP hq;simp [q1,q2,q3,q4,q5,q6,q7,q8] at hb
  refine G ?_;exact Rx rfl (by rw [hE];rfl)
 have hQ:x.title=y.title∧x.by_=y.by_∧x.release=y.release∧x.max=y.max∧x.flags=y.flags∧(x.things.length:Int)=y.things.length∧(x.acts.length:Int)=y.acts.length∧(x.deeds.length:Int)=y.deeds.length:=by simpa [and_assoc] using hb
 obtain ⟨q1,q2,q3,q4,q5,l1,l2,l3⟩:=hQ;clear hb;refine G ?_;refine LP (ι:=Nat) (fun k=>[(5,vi k)]) (fun _=>[]) (fun k=>k≤x.things.length∧∀ j,j<k→lA (x.things.getD j cY) (y.things.getD j cY)=true) (fun k=>x.things.length-k) 0 (⟨Nat.zero_le _,fun j hj=>absurd hj (by omega)⟩) (hl:=(Le.sub (by repeat (first|trivial|refine ⟨.inr rfl,?_⟩|refine ⟨.inr (aR (by omega)),?_⟩)) (by repeat (first|trivial|refine ⟨rfl,?_⟩)))) ?_;intro k hI;refine Gd (fun hb=>?_) fun hb=>?_
 ·have hlt:k<x.things.length:=by have h0:=of_decide_eq_true hb;omega
  have hlt2:k<y.things.length:=by omega
  refine C (aaI (x.things.getD k cY) (y.things.getD k cY)) ?_;refine cd (fun hb=>?_) fun hb=>?_
  ·have heq:lA (x.things.getD k cY) (y.things.getD k cY)=false:=by simpa using hb
   refine G ?_;exact Rx rfl (show vb false=vb _ from congrArg (fun b=>vb b) (by unfold qL;rw [lI cY k hlt l1 heq];simp))
  have heq:lA (x.things.getD k cY) (y.things.getD k cY)=true:=by simpa using hb
  refine G ?_;exact ⟨k+1,⟨by omega,fun j hj=>(Nat.lt_succ_iff_lt_or_eq.1 hj).elim (hI.2 j) (fun h1=>h1 ▸ heq)⟩,by omega,Le.sub (by repeat (first|trivial|refine ⟨.inr rfl,?_⟩|refine ⟨.inr (aR (by omega)),?_⟩)) trivial⟩
 have hge:k=x.things.length:=by have h0:=of_decide_eq_false hb;omega
 have hT:dR lA x.things y.things=true:=mE cY l1 (fun j hj=>hI.2 j (by omega));clear hI hb hge;refine G ?_;refine LP (ι:=Nat) (fun k=>[(6,vi k)]) (fun _=>[]) (fun k=>k≤x.acts.length∧∀ j,j<k→kP (x.acts.getD j gO) (y.acts.getD j gO)=true) (fun k=>x.acts.length-k) 0 (⟨Nat.zero_le _,fun j hj=>absurd hj (by omega)⟩) (hl:=(Le.sub (by repeat (first|trivial|refine ⟨.inr rfl,?_⟩|refine ⟨.inr (aR (by omega)),?_⟩)) (by repeat (first|trivial|refine ⟨rfl,?_⟩)))) ?_;intro k hI;refine Gd (fun hb=>?_) fun hb=>?_
 ·have hlt:k<x.acts.length:=by have h0:=of_decide_eq_true hb;omega
  have hlt2:k<y.acts.length:=by omega
  refine C (aaL (x.acts.getD k gO) (y.acts.getD k gO)) ?_;refine cd (fun hb=>?_) fun hb=>?_
  ·have heq:kP (x.acts.getD k gO) (y.acts.getD k gO)=false:=by simpa using hb
   refine G ?_;exact Rx rfl (show vb false=vb _ from congrArg (fun b=>vb b) (by unfold qL;rw [lI gO k hlt l2 heq];simp))
  have heq:kP (x.acts.getD k gO) (y.acts.getD k gO)=true:=by simpa using hb
  refine G ?_;exact ⟨k+1,⟨by omega,fun j hj=>(Nat.lt_succ_iff_lt_or_eq.1 hj).elim (hI.2 j) (fun h1=>h1 ▸ heq)⟩,by omega,Le.sub (by repeat (first|trivial|refine ⟨.inr rfl,?_⟩|refine ⟨.inr (aR (by omega)),?_⟩)) trivial⟩
 have hge:k=x.acts.length:=by have h0:=of_decide_eq_false hb;omega
 have hA:dR kP x.acts y.acts=true:=mE gO l2 (fun j hj=>hI.2 j (by omega));clear hI hb hge;refine G ?_;refine LP (ι:=Nat) (fun k=>[(7,vi k)]) (fun _=>[]) (fun k=>k≤x.deeds.length∧∀ j,j<k→(fun x y=>gN x==gN y) (x.deeds.getD j fZ) (y.deeds.getD j fZ)=true) (fun k=>x.deeds.length-k) 0 (⟨Nat.zero_le _,fun j hj=>absurd hj (by omega)⟩) (hl:=(Le.sub (by repeat (first|trivial|refine ⟨.inr rfl,?_⟩|refine ⟨.inr (aR (by omega)),?_⟩)) (by repeat (first|trivial|refine ⟨rfl,?_⟩)))) ?_;intro k hI;refine Gd (fun hb=>?_) fun hb=>?_
 ·have hlt:k<x.deeds.length:=by have h0:=of_decide_eq_true hb;omega
  have hlt2:k<y.deeds.length:=by omega
  refine G ?_;refine Z1 (aC8 (gN (x.deeds.getD k fZ)) (gN (y.deeds.getD k fZ)) rfl rfl rfl (by kernel_rfl) rfl) ?_;refine Gd (fun hb=>?_) fun hb=>?_
  ·have heq:(fun x y=>gN x==gN y) (x.deeds.getD k fZ) (y.deeds.getD k fZ)=false:=by simpa using hb
   refine G ?_;exact Rx rfl (show vb false=vb _ from congrArg (fun b=>vb b) (by unfold qL;rw [show dR (fun x y=>gN x==gN y) x.deeds y.deeds=false from lI fZ k hlt l3 heq];simp))
  have heq:(fun x y=>gN x==gN y) (x.deeds.getD k fZ) (y.deeds.getD k fZ)=true:=by simpa using hb
  refine G ?_;exact ⟨k+1,⟨by omega,fun j hj=>(Nat.lt_succ_iff_lt_or_eq.1 hj).elim (hI.2 j) (fun h1=>h1 ▸ heq)⟩,by omega,Le.sub (by repeat (first|trivial|refine ⟨.inr rfl,?_⟩|refine ⟨.inr (aR (by omega)),?_⟩)) trivial⟩
 have hge:k=x.deeds.length:=by have h0:=of_decide_eq_false hb;omega
 have hD:dR (fun x y=>gN x==gN y) x.deeds y.deeds=true:=mE fZ l3 (fun j hj=>hI.2 j (by omega));clear hI hb hge;refine C (uD x.props y.props) ?_;refine C (uD x.globals y.globals) ?_;refine C (uD x.funcs y.funcs) ?_;refine C (uD x.daemons y.daemons) ?_;refine C (uD x.params y.params) ?_;refine C (uD x.locals y.locals) ?_;refine C (aDB x.texts y.texts) ?_;exact Rx rfl (show vb _=vb _ from congrArg (fun b=>vb b) (by unfold qL xO;rw [hT,hA,hD,q1,q2,q3,q4,q5];simp))
end Go.Proofs.YtgajclaoaphgoaaGreatDoor
namespace Go.Proofs.YtgajclaoaphgoaaGreatDoor
open Go.RowKit
theorem aaR {a b:List Int}(ha:dC a)(hb:dC b):((strOfNums a).toList==(strOfNums b).toList)=decide (a=b):=by
 rw [tT];by_cases h:a=b
 ·subst h;simp
 rw [decide_eq_false h,decide_eq_false (fun he=>h (by rw [←pJ ha,←pJ hb,he]))]
theorem aaS (x y:StoryP):((qL x.tab y.tab&&decide (x.entry=y.entry))&&decide (x.code=y.code))=uC x y:=by
 unfold uC;rw [aDA,show cW x=xO x.tab from rfl,show cW y=xO y.tab from rfl];unfold qL rO;rw [Bool.eq_iff_iff];simp only [Bool.and_eq_true,decide_eq_true_eq,List.cons.injEq,and_true];constructor
 ·rintro ⟨⟨⟨⟨⟨⟨h1,h2⟩,h3⟩,h4⟩,⟨⟨⟨⟨⟨⟨h5,h6⟩,h7⟩,h8⟩,h9⟩,h10⟩,h11⟩⟩,h12⟩,h13⟩;exact ⟨⟨⟨⟨⟨⟨h1,h5,h6,h7,h8,h9,h10,h12⟩,h11⟩,h2⟩,h3⟩,h4⟩,h13⟩
 rintro ⟨⟨⟨⟨⟨⟨h1,h5,h6,h7,h8,h9,h10,h12⟩,h11⟩,h2⟩,h3⟩,h4⟩,h13⟩;exact ⟨⟨⟨⟨⟨⟨h1,h2⟩,h3⟩,h4⟩,⟨⟨⟨⟨⟨⟨h5,h6⟩,h7⟩,h8⟩,h9⟩,h10⟩,h11⟩⟩,h12⟩,h13⟩
theorem aaT (a b:List Int)(ha:dC a)(hb:dC b):PC Tryz.prog 10 [bs a,bs b] (vb (decide (a=b))):=by
 refine FB 0 10 Tryz.func10 ?_;refine G ?_;refine Z1 (vX a rfl rfl (by kernel_rfl)) ?_;refine G ?_;refine Z1 (vX b rfl rfl (by kernel_rfl)) ?_;refine Z1 (aGV rfl rfl rfl) ?_;refine G ?_;exact Rx rfl (show vb _=vb _ from congrArg (fun b=>vb b) (aaR ha hb))
theorem aHR (x y:StoryP)(hx:dC x.code)(hy:dC y.code):PC Tryz.prog 15 [cX x,cX y] (vb (uC x y)):=by
 refine FB 0 24 Tryz.func15 ?_;refine C (aaQ x.tab y.tab) ?_;refine C (uD x.entry y.entry) ?_;refine C (aaT x.code y.code hx hy) ?_;exact Rx rfl (show vb _=vb _ from congrArg (fun b=>vb b) (aaS x y))
theorem lL (zs:List Int)(m:Int)(hz:zs.length≤100000000)(hm:m≤9223372036854775807):FC Tryz.prog 22 [.own 0 0,vi m] [(0,.live 59 [bs (zs)])] .any [(0,.live 59 [bs (zs++aC m)])]:=by
 refine FB 1 13 Tryz.func22 ?_;refine C (aaU zs m hz hm) ?_;exact ⟨.inr rfl,iN rfl,⟨rfl,trivial⟩⟩
theorem zV (zs:List Int)(m:Int)(hz:zs.length≤100000000):FC Tryz.prog 80 [.own 0 0,vi m] [(0,.live 59 [bs (zs)])] .any [(0,.live 59 [bs (zs++cQ m)])]:=by
 refine FB 1 13 Tryz.func80 ?_;refine C (aPE zs m hz) ?_;exact ⟨.inr rfl,iN rfl,⟨rfl,trivial⟩⟩
theorem aHS (zs:List Int)(s:ByteArray)(hz:zs.length≤100000000)(hs:s.size≤100000000):FC Tryz.prog 25 [.own 0 0,vs s] [(0,.live 59 [bs (zs)])] .any [(0,.live 59 [bs (zs++aY s)])]:=by
 refine FB 1 13 Tryz.func25 ?_;refine C (aaV zs s hz hs) ?_;exact ⟨.inr rfl,iN rfl,⟨rfl,trivial⟩⟩
theorem aHT (zs:List Int)(l:List Int)(hz:zs.length≤100000000)(hs:l.length≤100000000):FC Tryz.prog 26 [.own 0 0,aK l] [(0,.live 59 [bs (zs)])] .any [(0,.live 59 [bs (zs++cZ l)])]:=by
 refine FB 1 13 Tryz.func26 ?_;refine C (aaW zs l hz hs) ?_;exact ⟨.inr rfl,iN rfl,⟨rfl,trivial⟩⟩
end Go.Proofs.YtgajclaoaphgoaaGreatDoor
