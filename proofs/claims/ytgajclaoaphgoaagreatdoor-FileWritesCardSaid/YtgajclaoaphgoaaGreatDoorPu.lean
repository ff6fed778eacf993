/- Parts of the proof of a law of this seat: rules and contracts; no conditions. -/
import Derived.Test.YtgajclaoaphgoaaGreatDoorVa
import Derived.Test.YtgajclaoaphgoaaGreatDoorWireP
import Derived.Test.YtgajclaoaphgoaaGreatDoorWc
import Derived.Test.YtgajclaoaphgoaaGreatDoorProg
import Derived.KernelRfl
import Derived.Test.YtgajclaoaphgoaaGreatDoorVp
import Derived.Test.YtgajclaoaphgoaaGreatDoorWa
import Derived.Test.YtgajclaoaphgoaaGreatDoorPl
import Derived.Test.YtgajclaoaphgoaaGreatDoorAtx
set_option maxHeartbeats 6400000
set_option maxRecDepth 100000
set_option linter.unusedVariables false
set_option linter.unusedSimpArgs false
namespace Go.Proofs.YtgajclaoaphgoaaGreatDoor
open Go.RowKit
theorem aU8 {t:TabP}{k:Nat}(h0:1≤k)(hk:k<t.things.length):qV t k=true:=gH.2 ⟨by omega,by omega⟩
theorem aD3 (t:TabP):bE [.ptr (bR t)]:=by simp only [bE,aN,dG,and_self]
theorem ac2 (t:TabP)(ht:t.wf)(hfl:0≤t.flags):PC Tryz.prog 50 [bR t] (vb (wX t)):=by
 refine FB 6 76 Tryz.func50 ?_;refine dM (t:=0) (x:=bR t) rfl (qO t) fun hf=>?_;have hf1:=hf.params;have hf2:=hf.texts;have hf3:=hf.things;have hf4:=hf.acts;have hf5:=hf.locals;have hf6:=hf.deeds;have hf7:=hf.funcs;have hf8:=hf.daemons;refine G ?_;refine Z1 (ca (aFK _ _ _)) ?_;refine G ?_;refine Zg (R:=[]) rfl rfl rfl eV (fun hC=>by
  have hh:=gH.1 (by simpa using hC);exact (by first|exact rJ rfl rfl rfl (by kernel_rfl) (by omega)|exact mM rfl rfl rfl (by kernel_rfl) (by omega) (by omega) rfl)) trivial ?_
 refine G ?_;refine Z4 (fun hC=>ca (amE _)) ?_;refine Gd (fun hb=>?_) fun hb=>?_
 ·have hw:aBJ t=true:=hb;refine G ?_;exact Rx rfl (bP (by unfold wX;rw [hw];rfl))
 have hw:aBJ t=false:=hb;have h3:3≤t.things.length:=by
  unfold aBJ at hw;have h1:=(Bool.or_eq_false_iff.1 hw).1;have h2:=gH.1 (by simpa using h1);omega
 refine G ?_;refine Z1 (qC (cs:=[.ptr _]) rfl rfl) ?_;refine G ?_;refine bM (ι:=Nat) (fun k=>⟨[(1,.ptr (bR t)),(3,.clo 126 [.ptr (bR t)]),(22,gA t.things),(23,vi t.things.length),(24,vi k)],[(0,.unborn)]⟩) (fun k=>k≤t.things.length∧∀ j,j<k→(!sB t j)=true) (fun k=>t.things.length-k) 0 (⟨Nat.zero_le _,qF⟩) (Le.sub (by repeat (first|trivial|refine ⟨.inr rfl,?_⟩|refine ⟨.inr (aR (by omega)),?_⟩)) (by repeat (first|trivial|refine ⟨rfl,?_⟩))) ?_;intro k hI;refine Gd (fun hb=>?_) fun hb=>?_
 ·have hlt:k<t.things.length:=by have h0:=of_decide_eq_true hb;omega
  refine G ?_;refine Z4 (fun hC=>ca (amG t hfl _ (ht.things _ (pR hlt)))) ?_;refine Gd (fun hb=>?_) fun hb=>?_
  ·refine G ?_;exact Rx rfl (bP (by unfold wX;rw [nD (p:=fun j=>!sB t j) hlt (by rw [show sB t k=true from hb];rfl),Bool.and_false,Bool.false_and,Bool.false_and]))
  refine G ?_;exact ⟨k+1,⟨by omega,mC (p:=fun j=>!sB t j) hI.2 (by rw [show sB t k=false from hb];rfl)⟩,by omega,Le.reset [0] (by simp) (by repeat (first|trivial|refine ⟨.inr rfl,?_⟩|refine ⟨.inr (aR (by omega)),?_⟩)) (nJ (by simp only [pS,bE,aN,and_self,dG,dY,cP,bV,dZ,eA,eC,eD,eE,eF,eG,eH,eI,eJ])) (by simp [lK])⟩
 have hge:k=t.things.length:=by have h0:=of_decide_eq_false hb;omega
 have hled:Led t:=alZ fun j hj=>hI.2 j (by omega);have hall:=sP (n:=t.things.length) (p:=fun j=>!sB t j) fun j hj=>hI.2 j (by omega);refine G ?_;refine LP (ι:=Nat) (fun k=>[(6,vi k)]) (fun _=>[]) (fun k=>1≤k∧k≤t.things.length∧∀ j,j<k→(decide (j=0)||nZ (qW t) t.things.length j !=0)=true) (fun k=>t.things.length-k) 1 (⟨Nat.le_refl _,by omega,fun j hj=>by simp;omega⟩) (hl:=(Le.sub (by repeat (first|trivial|refine ⟨.inr rfl,?_⟩|refine ⟨.inr (aR (by omega)),?_⟩)) (by repeat (first|trivial|refine ⟨rfl,?_⟩)))) ?_;intro k hI;refine Gd (fun hb=>?_) fun hb=>?_
 ·have hlt:k<t.things.length:=by have h0:=of_decide_eq_true hb;omega
  refine C (aU6 126 [.ptr (bR t)] (qW t) (fun n=>qV t n=true) k t.things.length (by omega) (by omega) (by kernel_rfl) (aD3 t) (aU8 hI.1 hlt) (fun m h1 h2=>(aU0 hled h1).resolve_left h2) (fun m hm=>aU7 t m hm)) ?_;refine cd (fun hb=>?_) fun hb=>?_
  ·refine G ?_;exact Rx rfl (bP (by unfold wX;rw [nD (p:=fun j=>decide (j=0)||nZ (qW t) t.things.length j !=0) hlt (by simp only [Int.toNat_natCast,beq_iff_eq] at hb;simp [hb];omega),Bool.and_false,Bool.false_and]))
  refine G ?_;exact ⟨k+1,⟨by omega,by omega,mC (p:=fun j=>decide (j=0)||nZ (qW t) t.things.length j !=0) hI.2.2 (by simp only [Int.toNat_natCast,beq_eq_false_iff_ne,ne_eq] at hb;simp [hb])⟩,by omega,Le.sub (by repeat (first|trivial|refine ⟨.inr rfl,?_⟩|refine ⟨.inr (aR (by omega)),?_⟩)) (by repeat (first|trivial|refine ⟨rfl,?_⟩))⟩
 have hge:k=t.things.length:=by have h0:=of_decide_eq_false hb;omega
 refine G ?_;refine Zg rfl rfl rfl cA (fun hC=>jP rfl (by kernel_rfl) (aU6 126 [.ptr (bR t)] (qW t) (fun n=>qV t n=true) 1 t.things.length (by omega) (by omega) (by kernel_rfl) (aD3 t) (aU8 (k:=1) (Nat.le_refl _) (by omega)) (fun m h1 h2=>(aU0 hled h1).resolve_left h2) (fun m hm=>aU7 t m hm)) rfl (by simp only [bE,aN,and_self,dG,dY,cP,bV,dZ,eA,eC,eD,eE,eF,eG,eH,eI,eJ]) (by simp only [bE,aN,and_self,dG,dY,cP,bV,dZ,eA,eC,eD,eE,eF,eG,eH,eI,eJ])) trivial ?_;refine Z4 (fun hC=>ca (aU3 t _)) ?_;refine G ?_
 exact Rx rfl (bP (by unfold wX;rw [hall,hw,sP (p:=fun j=>decide (j=0)||nZ (qW t) t.things.length j !=0) fun j hj=>hI.2.2 j (by omega)];rfl))
theorem aU9 (t:TabP)(n:Int):PC Tryz.prog 51 [vi n,.ptr (bR t)] (vb (aBK t n)):=by
 refine FB 6 11 Tryz.func51 ?_;refine G ?_;refine Z4 (fun hC=>ca (aLS t _)) ?_;refine G ?_;exact Rx rfl rfl
theorem ac6 (t:TabP)(n:Int):PC Tryz.prog 62 [vi n,.ptr (bR t)] (vb (among n 0 ((t.params.length:Int)-1))):=by
 refine FB 6 10 Tryz.func62 ?_;refine dM (t:=1) (x:=.ptr (bR t)) rfl (fun E v h=>by unfold aA at h;obtain ⟨b,o,u,_,_,h,_⟩:=h;exact qO t E u h) fun hf=>?_;have hf1:=hf.params;have hf2:=hf.texts;have hf3:=hf.things;have hf4:=hf.acts;have hf5:=hf.locals;have hf6:=hf.deeds;have hf7:=hf.funcs;have hf8:=hf.daemons;refine G ?_;refine Z1 (ca (aFK _ _ _)) ?_;refine G ?_;exact Rx rfl rfl
theorem ac7 (t:TabP)(n:Int):PC Tryz.prog 63 [vi n,.ptr (bR t)] (vb (tG t n)):=by
 refine FB 6 7 Tryz.func63 ?_;refine G ?_;refine Z1 (ca (aFO t _)) ?_;refine G ?_;exact Rx rfl rfl
theorem ac5 (t:TabP)(d:DeedP):PC Tryz.prog 59 [mT d,.ptr (bR t),.ptr (.clo 51 [.ptr (bR t)])] (vb (aD2 t d)):=by
 refine FB 6 46 Tryz.func59 ?_;refine dM (t:=1) (x:=.ptr (bR t)) rfl (fun E v h=>by unfold aA at h;obtain ⟨b,o,u,_,_,h,_⟩:=h;exact qO t E u h) fun hf=>?_;have hf1:=hf.params;have hf2:=hf.texts;have hf3:=hf.things;have hf4:=hf.acts;have hf5:=hf.locals;have hf6:=hf.deeds;have hf7:=hf.funcs;have hf8:=hf.daemons;refine G ?_;refine Z1 (ca (aFK _ _ _)) ?_;refine G ?_;refine Z4 (fun hC=>ca (aFK _ _ _)) ?_;refine G ?_
 refine Zg rfl rfl rfl cA (fun hC=>kW rfl rfl (by kernel_rfl) (aU9 t _) rfl (by simp only [bE,aN,and_self,dG,dY,cP,bV,dZ,eA,eC,eD,eE,eF,eG,eH,eI,eJ]) (by simp only [bE,aN,and_self,dG,dY,cP,bV,dZ,eA,eC,eD,eE,eF,eG,eH,eI,eJ])) trivial ?_;refine G ?_;refine Zg rfl rfl rfl cA (fun hC=>kW rfl rfl (by kernel_rfl) (aU9 t _) rfl (by simp only [bE,aN,and_self,dG,dY,cP,bV,dZ,eA,eC,eD,eE,eF,eG,eH,eI,eJ]) (by simp only [bE,aN,and_self,dG,dY,cP,bV,dZ,eA,eC,eD,eE,eF,eG,eH,eI,eJ])) trivial ?_;refine G ?_;refine Z4 (fun hC=>ca (aFO t _)) ?_;refine G ?_;refine Z4 (fun hC=>ca (aFO t _)) ?_;refine G ?_
 exact Rx rfl rfl
end Go.Proofs.YtgajclaoaphgoaaGreatDoor
namespace Go.Proofs.YtgajclaoaphgoaaGreatDoor
open Go.RowKit
theorem acV (l:List SlotP)(hl:∀ y∈l,SlotP.wf y):PC Tryz.prog 57 [fQ l] (vb (pP l)):=by
 refine FB 6 71 Tryz.func57 ?_;refine dM (t:=0) (x:=fQ l) rfl eR fun hf=>?_;refine G ?_;refine bM (ι:=Nat) (fun k=>⟨[(0,fQ l),(3,vi (pQ oT l k)),(4,vi (pQ (fun k=>k==4) l k)),(5,vi (pQ (fun k=>k==5) l k)),(8,fQ l),(9,vi l.length),(10,vi k)],[(0,.unborn)]⟩) (fun k=>k≤l.length∧∀ j,j<k→(!fT l j)=true) (fun k=>l.length-k) 0 (⟨Nat.zero_le _,qF⟩) (Le.sub (by repeat (first|trivial|refine ⟨.inr rfl,?_⟩|refine ⟨.inr (aR (by omega)),?_⟩)) (by repeat (first|trivial|refine ⟨rfl,?_⟩))) ?_;intro k hI;have c3:=aIV oT l k;have c4:=aIV (fun k=>k==4) l k;have c5:=aIV (fun k=>k==5) l k
 refine Gd (fun hb=>?_) fun hb=>?_
 ·have hlt:k<l.length:=by have h0:=of_decide_eq_true hb;omega
  refine Gd (fun hb=>?_) fun hb=>?_
  ·have hkd:(l.getD k cH).kind=1:=by simpa using hb
   refine G ?_;refine Z4 (fun hC=>ca (aIW _ (hl _ (pR hlt)) 4)) ?_;refine Gd (fun hb=>?_) fun hb=>?_
   ·refine G ?_;exact Rx rfl (bP (by unfold pP;rw [nD (p:=fun j=>!fT l j) hlt (by rw [show fT l k=true from (aQH hkd).trans hb];rfl)];rfl))
   refine G ?_;have e3:=mU oT hlt;have e4:=mU (fun k=>k==4) hlt;have e5:=mU (fun k=>k==5) hlt;rw [hkd] at e3 e4 e5;simp [oT] at e3 e4 e5;exact ⟨k+1,⟨by omega,mC (p:=fun j=>!fT l j) hI.2 (by rw [show fT l k=false from (aQH hkd).trans hb];rfl)⟩,by omega,Le.reset [0] (by simp) (by repeat (first|trivial|refine ⟨.inr rfl,?_⟩|refine ⟨.inr (aR (by omega)),?_⟩)) (nJ (by simp only [pS,bE,aN,and_self,dG,dY,cP,bV,dZ,eA,eC,eD,eE,eF,eG,eH,eI,eJ])) (by simp [lK])⟩
  have hn1:(l.getD k cH).kind≠1:=by simpa using hb
  refine aD ?_;refine sq ?_;refine Z1 bz ?_;refine Z1 aB ?_;refine cn ?_;refine cd (fun hb=>?_) fun hb=>?_
  ·have hkd:(l.getD k cH).kind=2:=by simpa using hb
   refine aQ ?_;refine cd (fun hb=>?_) fun hb=>?_
   ·refine tx ?_;refine Z1 mo ?_;refine Z1 ba ?_;refine Z1 aB ?_;refine cn ?_;refine sq ?_;refine aS 1 1 false ?_;refine bG ?_;refine Z1 ln ?_;refine Z1 bz ?_;refine Z1 mo ?_;refine Z4 (fun hC=>mo) ?_;refine Z4 (fun hC=>bz) ?_;refine Z4 (fun hC=>mo) ?_;refine Zg rfl rfl rfl lO (fun hC=>eU (off:=0) (sz:=1) (r:=false) rfl rfl (by first|decide|simp) (by kernel_rfl) (by decide)) ⟨rfl,trivial⟩ ?_;refine Zg rfl rfl rfl lO (fun hC=>fL rfl rfl (by kernel_rfl) rfl) ⟨rfl,trivial⟩ ?_;refine Z4 (fun hC=>bz) ?_;refine Z5 ?_;refine Z1 cC ?_;refine cn ?_;refine cd (fun hb=>?_) fun hb=>?_
    ·refine G ?_;exact Rx rfl (bP (by unfold pP;rw [nD (p:=fun j=>!fT l j) hlt (by rw [show fT l k=true from ((uL hkd (by decide) (by decide)).trans hb)];rfl)];rfl))
    refine G ?_;have e3:=mU oT hlt;have e4:=mU (fun k=>k==4) hlt;have e5:=mU (fun k=>k==5) hlt;rw [hkd] at e3 e4 e5;simp [oT] at e3 e4 e5;exact ⟨k+1,⟨by omega,mC (p:=fun j=>!fT l j) hI.2 (by rw [show fT l k=false from ((uL hkd (by decide) (by decide)).trans hb)];rfl)⟩,by omega,Le.reset [0] (by simp) (by repeat (first|trivial|refine ⟨.inr rfl,?_⟩|refine ⟨.inr (aR (by omega)),?_⟩)) (nJ (by simp only [pS,bE,aN,and_self,dG,dY,cP,bV,dZ,eA,eC,eD,eE,eF,eG,eH,eI,eJ])) (by simp [lK])⟩
   exact absurd hb (by intro _;have h2:((l.getD k cH).kind==2)=false:=hb;rw [hkd] at h2;simp at h2)
  have hn2:(l.getD k cH).kind≠2:=by simpa using hb
  refine Gd (fun hb=>?_) fun hb=>?_
  ·have hkd:(l.getD k cH).kind=3:=by simpa using hb
   refine Gd (fun hb=>?_) fun hb=>?_
   ·refine G ?_;exact Rx rfl (bP (by unfold pP;rw [nD (p:=fun j=>!fT l j) hlt (by rw [show fT l k=true from ((uL hkd (by decide) (by decide)).trans hb)];rfl)];rfl))
   refine G ?_;have e3:=mU oT hlt;have e4:=mU (fun k=>k==4) hlt;have e5:=mU (fun k=>k==5) hlt;rw [hkd] at e3 e4 e5;simp [oT] at e3 e4 e5;exact ⟨k+1,⟨by omega,mC (p:=fun j=>!fT l j) hI.2 (by rw [show fT l k=false from ((uL hkd (by decide) (by decide)).trans hb)];rfl)⟩,by omega,Le.reset [0] (by simp) (by repeat (first|trivial|refine ⟨.inr rfl,?_⟩|refine ⟨.inr (aR (by omega)),?_⟩)) (nJ (by simp only [pS,bE,aN,and_self,dG,dY,cP,bV,dZ,eA,eC,eD,eE,eF,eG,eH,eI,eJ])) (by simp [lK])⟩
  have hn3:(l.getD k cH).kind≠3:=by simpa using hb
  refine Gd (fun hb=>?_) fun hb=>?_
  ·have hkd:(l.getD k cH).kind=4:=by simpa using hb
   refine Gd (fun hb=>?_) fun hb=>?_
   ·refine G ?_;exact Rx rfl (bP (by unfold pP;rw [nD (p:=fun j=>!fT l j) hlt (by rw [show fT l k=true from ((uL hkd (by decide) (by decide)).trans hb)];rfl)];rfl))
   refine G ?_;have e3:=mU oT hlt;have e4:=mU (fun k=>k==4) hlt;have e5:=mU (fun k=>k==5) hlt;rw [hkd] at e3 e4 e5;simp [oT] at e3 e4 e5;exact ⟨k+1,⟨by omega,mC (p:=fun j=>!fT l j) hI.2 (by rw [show fT l k=false from ((uL hkd (by decide) (by decide)).trans hb)];rfl)⟩,by omega,Le.reset [0] (by simp) (by repeat (first|trivial|refine ⟨.inr rfl,?_⟩|refine ⟨.inr (aR (by omega)),?_⟩)) (nJ (by simp only [pS,bE,aN,and_self,dG,dY,cP,bV,dZ,eA,eC,eD,eE,eF,eG,eH,eI,eJ])) (by simp [lK])⟩
  have hn4:(l.getD k cH).kind≠4:=by simpa using hb
  refine Gd (fun hb=>?_) fun hb=>?_
  ·have hkd:(l.getD k cH).kind=5:=by simpa using hb
   refine Gd (fun hb=>?_) fun hb=>?_
   ·refine G ?_;exact Rx rfl (bP (by unfold pP;rw [nD (p:=fun j=>!fT l j) hlt (by rw [show fT l k=true from ((uL hkd (by decide) (by decide)).trans hb)];rfl)];rfl))
   refine G ?_;have e3:=mU oT hlt;have e4:=mU (fun k=>k==4) hlt;have e5:=mU (fun k=>k==5) hlt;rw [hkd] at e3 e4 e5;simp [oT] at e3 e4 e5;exact ⟨k+1,⟨by omega,mC (p:=fun j=>!fT l j) hI.2 (by rw [show fT l k=false from ((uL hkd (by decide) (by decide)).trans hb)];rfl)⟩,by omega,Le.reset [0] (by simp) (by repeat (first|trivial|refine ⟨.inr rfl,?_⟩|refine ⟨.inr (aR (by omega)),?_⟩)) (nJ (by simp only [pS,bE,aN,and_self,dG,dY,cP,bV,dZ,eA,eC,eD,eE,eF,eG,eH,eI,eJ])) (by simp [lK])⟩
  have hn5:(l.getD k cH).kind≠5:=by simpa using hb
  refine G ?_;exact Rx rfl (bP (by unfold pP;rw [nD (p:=fun j=>!fT l j) hlt (by rw [show fT l k=true from acW hn1 (by clear hb;generalize (l.getD k cH).kind=q at *;simp [among];omega)];rfl)];rfl))
 have hge:k=l.length:=by have h0:=of_decide_eq_false hb;omega
 refine G ?_;refine Z1 (ca (aFK _ _ _)) ?_;refine G ?_;exact Rx rfl (bP (by unfold pP;rw [sP (p:=fun j=>!fT l j) fun j hj=>hI.2 j (by omega)];subst hge;rfl))
theorem acX (v:VerbP)(hv:v.wf):PC Tryz.prog 54 [iC v] (vb (aD0 v)):=by
 refine FB 6 12 Tryz.func54 ?_;refine G ?_;refine Z1 (ca (aFK _ _ _)) ?_;refine G ?_;refine Zg rfl rfl rfl cA (fun hC=>jP rfl (by kernel_rfl) (acY v.lines 57 [] pP (by kernel_rfl) trivial fun l hl=>acV l (hv l hl)) rfl (by simp only [bE,aN,and_self,dG,dY,cP,bV,dZ,eA,eC,eD,eE,eF,eG,eH,eI,eJ]) (by simp only [bE,aN,and_self,dG,dY,cP,bV,dZ,eA,eC,eD,eE,eF,eG,eH,eI,eJ])) trivial ?_;refine G ?_;exact Rx rfl rfl
theorem acZ {t:TabP}(h:aAM t=true):0≤t.flags:=by
 unfold aAM at h;simp only [Bool.and_eq_true] at h;have:=gH.1 h.1.1.1.1.2;omega
theorem aIX (t:TabP)(ht:t.wf):PC Tryz.prog 19 [bR t] (vb (iL t)):=by
 refine FB 6 67 Tryz.func19 ?_;refine dM (t:=0) (x:=bR t) rfl (qO t) fun hf=>?_;have hf1:=hf.params;have hf2:=hf.texts;have hf3:=hf.things;have hf4:=hf.acts;have hf5:=hf.locals;have hf6:=hf.deeds;have hf7:=hf.funcs;have hf8:=hf.daemons;refine C (ac0 t ht) ?_;refine C (ac1 t) ?_
 refine Zg rfl rfl rfl eV (fun hC=>jP rfl (by kernel_rfl) (ac2 t ht (by have h1:=hC;simp only [Bool.and_eq_true,Bool.or_eq_true,Bool.not_eq_true',Bool.or_eq_false_iff,Bool.not_eq_false'] at h1;exact acZ h1.1)) rfl (by simp only [bE,aN,and_self,dG,dY,cP,bV,dZ,eA,eC,eD,eE,eF,eG,eH,eI,eJ]) (by simp only [bE,aN,and_self,dG,dY,cP,bV,dZ,eA,eC,eD,eE,eF,eG,eH,eI,eJ])) trivial ?_;refine Gd (fun hb=>?_) fun hb=>?_
 ·have hw:aD1 t=true:=hb;refine G ?_;exact Rx rfl (bP (by unfold iL;rw [hw];rfl))
 have hw:aD1 t=false:=hb;refine aQ ?_;refine sq ?_;refine Z1 (qC (cs:=[.ptr _]) rfl rfl) ?_;refine Z2 (al 0 [.nilFunc]) ?_;refine cF [_] ?_;refine cn ?_;refine aD ?_;refine bS (Le.freezeVar 3 0 rfl rfl) ?_;refine C (ac3 t.acts 54 [] aD0 (by kernel_rfl) trivial fun v hv=>acX v (ht.acts v hv)) ?_;refine Z1 (qC (cs:=[.ptr _,.ptr _]) rfl rfl) ?_;refine Z1 (cq (ac4 t.deeds 59 [.ptr (bR t),.ptr (.clo 51 [.ptr (bR t)])] (aD2 t) (by kernel_rfl) (by simp only [bE,aN,dG,and_self]) fun d _=>ac5 t d) rfl rfl) ?_;refine G ?_
 refine Z4 (fun hC=>qC (cs:=[.ptr _]) rfl rfl) ?_;refine Zg rfl rfl rfl cA (fun hC=>jP rfl (by kernel_rfl) (xW t.funcs 62 [.ptr (bR t)] _ (by kernel_rfl) (aD3 t) fun n _=>ac6 t n) rfl (by simp only [bE,aN,and_self,dG,dY,cP,bV,dZ,eA,eC,eD,eE,eF,eG,eH,eI,eJ]) (by simp only [bE,aN,and_self,dG,dY,cP,bV,dZ,eA,eC,eD,eE,eF,eG,eH,eI,eJ])) trivial ?_;refine G ?_;refine Z4 (fun hC=>qC (cs:=[.ptr _]) rfl rfl) ?_
 refine Zg rfl rfl rfl cA (fun hC=>jP rfl (by kernel_rfl) (xW t.daemons 63 [.ptr (bR t)] _ (by kernel_rfl) (aD3 t) fun n _=>ac7 t n) rfl (by simp only [bE,aN,and_self,dG,dY,cP,bV,dZ,eA,eC,eD,eE,eF,eG,eH,eI,eJ]) (by simp only [bE,aN,and_self,dG,dY,cP,bV,dZ,eA,eC,eD,eE,eF,eG,eH,eI,eJ])) trivial ?_;refine G ?_;exact Rx rfl (bP (by unfold iL;rw [hw];rfl))
end Go.Proofs.YtgajclaoaphgoaaGreatDoor
namespace Go.Proofs.YtgajclaoaphgoaaGreatDoor
open Go.RowKit
structure SOk (s:StoryP):Prop where
 wf:s.tab.wf
 code:s.code.length≤10000000
 by_:dF s.code
 entry:s.entry.length≤1000000000000000
 funcs:s.tab.funcs.length≤140737488355328
 params:s.tab.params.length≤140737488355328
 first:(s.tab.things.getD 0 cY).words.length≤1000000000000000∧(s.tab.things.getD 0 cY).adjs.length≤1000000000000000∧(s.tab.things.getD 0 cY).ways.length≤1000000000000000
noncomputable def writeP (s:StoryP):List Int × Int:=if (gV s).2≠0∨iL s.tab=false then ([],18) else (gY (iK s (makeP s.tab.texts).1),0)
noncomputable def idP (s:StoryP):Nat:=if (writeP s).2≠0 then 0 else nH 0 (dX (writeP s).1)
theorem aQI {s:StoryP}:∀ (f k:Nat),(pT s f k).2=0→∀ j,k≤j→j<k+f→j<s.entry.length→jS s j=0
 | 0,k,_,j,h1,h2,_=>by omega
 | f+1,k,h,j,h1,h2,h3=>by
  unfold pT at h;split at h
  ·split at h
   ·rename_i h5;exact absurd h h5
   rename_i h5;rcases Nat.lt_or_ge k j with h4|h4
   ·exact aQI f (k+1) h j (by omega) (by omega) h3
   have:j=k:=by omega
   subst this;exact Classical.not_not.1 h5
  omega
theorem aQJ {s:StoryP}(h:(gV s).2=0):¬ wC s∧∀ j,j<s.entry.length→jS s j=0:=by
 unfold gV at h;split at h
 ·cases h
 rename_i h1;exact ⟨h1,fun j hj=>aQI _ 0 h j (Nat.zero_le _) (by omega) hj⟩
theorem aQK {s:StoryP}{j:Nat}(h:jS s j=0):0≤nP s j∧nP s j≤(s.code.length:Int):=by
 unfold jS at h;split at h
 ·cases h
 split at h
 ·cases h
 rename_i h1;unfold fU at h1;split at h1
 ·exact absurd rfl h1
 omega
theorem aD4 {s:StoryP}(hc:s.code.length≤10000000)(ht:tabG s.tab)(h:(gV s).2=0):aIS s:=by
 obtain ⟨h1,h2⟩:=aQJ h;unfold wC at h1;have h3:=ht.params.1;refine ⟨by omega,fun z hz=>?_⟩;obtain ⟨j,hj,rfl⟩:=uK (d:=(0:Int)) hz;have:=aQK (h2 j hj);unfold nP at this;omega
theorem uM {l:List Int}(h:iA l):dF l:=mV.2 h
theorem aQL {a b:List Int × Int}(h:a=b):Av.tup [bs a.1,vi a.2]=.tup [bs b.1,vi b.2]:=by rw [h]
theorem ac8 (l:List (List Int))(E:Env)(v:Value)(h:aA E (.sl 1 l.length (gE (l.map aK))) v):aA E (rN l) v:=pI (fun E j hj v hv=>by
 have e:gE (l.map aK) j=aK (l.getD j []):=by
  show (l.map aK).getD j .any=_;rw [List.getD,List.getElem?_map,List.getD,List.getElem?_eq_getElem hj];rfl
 rw [e] at hv;exact hv) E v h
theorem aIY {P:Program}{f:Nat}{args:List Av}{R:List (Nat × Hs)}{x:Av}{T:TypeId}{a b c:List Int}(h:FC P f args R x [(0,.live T [bs (a++b++c)])]):FC P f args R x [(0,.live T [bs (a++(b++c))])]:=by rw [←List.append_assoc];exact h
theorem aAN (s:StoryP)(h0:SOk s):PC Tryz.prog 8 [cX s] (.tup [bs (writeP s).1,vi (writeP s).2]):=by
 refine FB 4 131 Tryz.func8 ?_;refine sq ?_;refine Z1 bx ?_;refine Z1 aB ?_;refine Z1 aB ?_;refine cn ?_;refine sq ?_;refine Z1 (qK 0 15) ?_;refine Z1 lr ?_;refine Z2 (al 1 [.int .i64 0,.int .i64 0,.int .i64 0,.int .i64 0,.slice none 0 0,.int .i64 0,.slice none 0 0,.slice none 0 0,.slice none 0 0,.slice none 0 0,.slice none 0 0,.slice none 0 0,.slice none 0 0,.slice none 0 0,.slice none 0 0]) ?_
 refine fP rfl rfl (sY (x:=.agg _) (cs':=[vi s.tab.title,vi s.tab.by_,vi s.tab.release,vi s.tab.max,bB s.tab.texts,vi s.tab.flags,aK s.tab.props,aK s.tab.globals,gA s.tab.things,gB s.tab.acts,fY s.tab.deeds,aK s.tab.funcs,aK s.tab.daemons,aK s.tab.params,aK s.tab.locals]) rfl rfl rfl rfl (by kernel_rfl) (by first|decide|exact Nat.le_of_ble_eq_true rfl|simp) (by first|decide|exact Nat.le_of_ble_eq_true rfl|simp) rfl) ⟨rfl,trivial⟩ ?_;refine cn ?_;refine aD ?_;refine sq ?_;refine Z1 lr ?_;refine Z1 (ca (aIZ s h0.code h0.by_ h0.entry h0.funcs h0.params)) ?_;refine Z1 mo ?_;refine Z1 ex ?_
 refine Z1 ex ?_;refine Z1 aB ?_;refine Z1 aB ?_;refine cn ?_;refine sq ?_;refine Z1 mo ?_;refine Z1 bz ?_;refine Z1 mo ?_;refine Zg rfl rfl rfl eV (fun hC=>mA (k:=15) (ds:=[_,_,_,_,_,_,_,_,_,_,_,_,_,_,_]) rfl rfl (by kernel_rfl) (by kernel_rfl) rfl rfl (by decide)) ⟨rfl,trivial⟩ ?_;refine Z4 (fun hC=>ca (aIX s.tab h0.wf)) ?_;refine Z4 (fun hC=>nt) ?_;refine Z1 cC ?_;refine cn ?_;refine cd (fun hb=>?_) fun hb=>?_
 ·have hbd:(gV s).2≠0∨iL s.tab=false:=by simpa only [Bool.or_eq_true,bne_iff_ne,ne_eq,Bool.not_eq_true'] using hb
  have hw:writeP s=([],18):=if_pos hbd;refine sq ?_;refine Z1 aB ?_;refine Z1 aB ?_;refine cn ?_;refine aP ?_;exact ⟨.inl rfl,by rw [aQL hw];exact aF.two rfl (aT.to (aT.tmp rfl) aI0) (aT.tmp rfl),trivial⟩
 have hok:¬ ((gV s).2≠0∨iL s.tab=false):=by
  rw [Bool.or_eq_false_iff] at hb;rintro (h|h)
  ·exact h (by simpa using hb.1)
  rw [h] at hb;simp at hb
 have hw:writeP s=(gY (iK s (makeP s.tab.texts).1),0):=if_neg hok;have hv:(gV s).2=0:=Classical.not_not.1 fun h=>hok (.inl h);have hf:iL s.tab=true:=by cases h:iL s.tab with|true=>rfl|false=>exact absurd (.inr h) hok
 have hG:=aAO h0.first hf;have hmk:=aAL hG;have hpg:=hmk.2;have hen:=aD4 h0.code hG hv;have hbl:=aQE hG hpg hen h0.code;have q5:(iK s (makeP s.tab.texts).1).length=(e5 s (makeP s.tab.texts).1).length+(aY (strOfNums s.code)).length:=by unfold iK;rw [List.length_append]
 have q4:(e5 s (makeP s.tab.texts).1).length=(e4 s (makeP s.tab.texts).1).length+((fD s).flatMap (aJ aC)).length:=by unfold e5;rw [List.length_append]
 have q3:(e4 s (makeP s.tab.texts).1).length=(e3 s (makeP s.tab.texts).1).length+(aJ fH s.tab.things).length+(aJ fS s.tab.acts).length+(aJ gG s.tab.deeds).length:=by unfold e4;simp only [List.length_append]
 have q2:(e3 s (makeP s.tab.texts).1).length=(e2 s (makeP s.tab.texts).1).length+(cZ s.tab.props).length+(cZ s.tab.globals).length:=by unfold e3;simp only [List.length_append]
 have q1:(e2 s (makeP s.tab.texts).1).length=(e1 s).length+(aJ aY (makeP s.tab.texts).1.abbrevs).length+(aJ aC (makeP s.tab.texts).1.at_).length+(aY (strOfNums (makeP s.tab.texts).1.bytes)).length:=by unfold e2;simp only [List.length_append]
 have q0:(e1 s).length=gU.length+((cW s).flatMap aC).length:=by unfold e1;rw [List.length_append]
 have hpl:=hpg.bytes;have hcl:=h0.code;have hpr:=hG.props.1;have hgl:=hG.globals.1;refine aQ ?_;refine sq ?_;refine aS 4 1 false ?_;refine bG ?_;refine Z1 (ca (aP8 s.tab.texts (aDZ hG))) ?_;refine Z1 mo ?_;refine Z1 ex ?_;refine Z1 ex ?_;refine Z2 (al 2 [.slice none 0 0,.slice none 0 0,.slice none 0 0]) ?_;refine bW [_,_,_] ?_;refine Z1 aB ?_;refine cn ?_;refine aD ?_;refine sq ?_;refine Z1 mo ?_;refine Z1 bz ?_;refine cn ?_;refine cd (fun hb=>?_) fun hb=>?_
 ·exact absurd hb (by rw [hmk.1];decide)
 refine aQ ?_;refine sq ?_;refine Z2 (aC5 (ps:=[_,_,_,_]) (xs:=[.val _,.val _,.val _,.val _]) (e:=5) (by_:=1) (zs:=[.int .u8 0]) 3 rfl (by kernel_rfl) (by kernel_rfl) rfl rfl rfl rfl (by decide)) ?_;refine aZ rfl rfl (aQM [67,76,69,87] (by decide) rfl (fun j x h=>by have:=congrArg (Option.map fun x=>Av.val (.int .u8 x)) h;rw [←List.getElem?_map] at this;exact this)) ⟨rfl,trivial⟩ ?_;refine Z1 (ca (aPE [67,76,69,87] 1 (by decide))) ?_;refine Z1 (bd [(0,1)] [.slice none 0 0] [.sl _ _ _]) ?_;refine Z2 (aQN (x:=.agg _) 0 rfl rfl rfl) ?_;refine Z1 aB ?_;refine cn ?_;refine aD ?_
 refine sq ?_;refine aS 0 1 false ?_;refine bG ?_;refine aS 1 1 false ?_;refine bG ?_;refine aS 2 1 false ?_;refine bG ?_;refine aS 3 1 false ?_;refine bG ?_;refine aS 5 1 false ?_;refine bG ?_;refine Z1 (OC.to (fO (ps:=[.tmp 43,.tmp 45,.tmp 47,.tmp 49,.tmp 51]) (xs:=[.val _,.val _,.val _,.val _,.val _]) (e:=3) (k:=1) (by_:=8) (zs:=[.int .i64 0]) rfl (by kernel_rfl) (by kernel_rfl) rfl rfl rfl (by decide) (by decide)) (aAB (cW s))) ?_;refine Z1 ln ?_;refine Z1 mo ?_;refine cn ?_;refine aU ?_
 refine bM (ι:=Nat) (fun k=>⟨[(1,.ptr (cX s)),(4,.own 1 0),(7,.own 2 0),(9,.own 0 0),(52,aK (cW s)),(53,vi 5),(54,vi k)],[(0,.live 59 [bs (gU++((cW s).take k).flatMap aC)]),(1,.live 28 [vi s.tab.title,vi s.tab.by_,vi s.tab.release,vi s.tab.max,bB s.tab.texts,vi s.tab.flags,aK s.tab.props,aK s.tab.globals,gA s.tab.things,gB s.tab.acts,fY s.tab.deeds,aK s.tab.funcs,aK s.tab.daemons,aK s.tab.params,aK s.tab.locals]),(2,.live 53 [bB (makeP s.tab.texts).1.abbrevs,aK (makeP s.tab.texts).1.at_,bs (makeP s.tab.texts).1.bytes])]⟩) (fun k=>k≤5) (fun k=>5-k) 0 (Nat.zero_le _) (LS) ?_
 intro k hI;refine Gd (fun hb=>?_) fun hb=>?_
 ·have hk:k<5:=by have h0:=of_decide_eq_true hb;omega
  have hhl:(cW s).length=5:=rfl;have hql:=aI1 (l:=(cW s)) (e:=aC) k;have hzm:(cW s).getD k 0≤9223372036854775807:=by
   have h1:=pR (d:=(0:Int)) (l:=(cW s)) (show k<_ from hk);unfold cW at h1 ⊢;simp only [List.mem_cons,List.not_mem_nil,or_false] at h1;have:=hG.title;have:=hG.by_;have:=hG.release;have:=hG.max;have:=hG.flags
   omega
  refine G ?_;refine cw (lL (gU++((cW s).take k).flatMap aC) ((cW s).getD k 0) (by simp only [List.length_append];omega) hzm) ?_;refine G ?_;exact ⟨k+1,by omega,by omega,LS (hh:=⟨by rw [mS (d:=(0:Int)) _ (show k<(cW s).length from hk),←List.append_assoc];rfl,rfl,rfl,trivial⟩)⟩
 have hk:k=5:=by have h0:=of_decide_eq_false hb;omega
 subst hk;refine bS (LS (τ:=⟨[(1,.ptr (cX s)),(4,.own 1 0),(7,.own 2 0),(9,.own 0 0)],[(0,.live 59 [bs (e1 s)]),(1,.live 28 [vi s.tab.title,vi s.tab.by_,vi s.tab.release,vi s.tab.max,bB s.tab.texts,vi s.tab.flags,aK s.tab.props,aK s.tab.globals,gA s.tab.things,gB s.tab.acts,fY s.tab.deeds,aK s.tab.funcs,aK s.tab.daemons,aK s.tab.params,aK s.tab.locals]),(2,.live 53 [bB (makeP s.tab.texts).1.abbrevs,aK (makeP s.tab.texts).1.at_,bs (makeP s.tab.texts).1.bytes])]⟩)) ?_;refine G ?_
 refine cw (aD5 (e1 s) (makeP s.tab.texts).1.abbrevs (by simp only [List.length_append];omega)) ?_;refine G ?_;refine cw (aQO (e1 s++aJ aY (makeP s.tab.texts).1.abbrevs) (makeP s.tab.texts).1.at_ (fun x hx=>by have:=hpg.at_.2 x hx;omega) (by simp only [List.length_append];omega)) ?_;refine G ?_;refine Z1 (vX _ rfl rfl (by kernel_rfl)) ?_;refine cw (aHS (e1 s++aJ aY (makeP s.tab.texts).1.abbrevs++aJ aC (makeP s.tab.texts).1.at_) (strOfNums (makeP s.tab.texts).1.bytes) (by simp only [List.length_append];omega) (by rw [strOfNums_size];omega)) ?_;refine G ?_
 refine cw (aHT (e2 s (makeP s.tab.texts).1) s.tab.props (by omega) (by omega)) ?_;refine G ?_;refine cw (aHT (e2 s (makeP s.tab.texts).1++cZ s.tab.props) s.tab.globals (by simp only [List.length_append];omega) (by omega)) ?_;refine G ?_;refine Z1 (iE (cs:=[.own _ _]) rfl rfl) ?_;refine cw2 (aIY (abQ (e3 s (makeP s.tab.texts).1) s.tab.things 28 fH (by kernel_rfl) (by rw [List.append_assoc];show (e3 s (makeP s.tab.texts).1++aJ fH s.tab.things).length≤_;simp only [List.length_append];omega) (fun ys h x hx hl=>ac9 ys x (acS (hG.things.2 x hx)) hl))) ?_;refine G ?_
 refine Z1 (iE (cs:=[.own _ _]) rfl rfl) ?_;refine cw2 (aIY (abP (e3 s (makeP s.tab.texts).1++aJ fH s.tab.things) s.tab.acts 30 fS (by kernel_rfl) (by rw [List.append_assoc];show (e3 s (makeP s.tab.texts).1++aJ fH s.tab.things++aJ fS s.tab.acts).length≤_;simp only [List.length_append];omega) (fun ys h x hx hl=>adA ys x hl))) ?_;refine G ?_;refine Z1 (iE (cs:=[.own _ _]) rfl rfl) ?_
 refine cw2 (aIY (abR (e3 s (makeP s.tab.texts).1++aJ fH s.tab.things++aJ fS s.tab.acts) s.tab.deeds 32 gG (by kernel_rfl) (by rw [List.append_assoc];show (e3 s (makeP s.tab.texts).1++aJ fH s.tab.things++aJ fS s.tab.acts++aJ gG s.tab.deeds).length≤_;simp only [List.length_append];omega) (fun ys h x hx hl=>adB ys x (acT (hG.deeds.2 x hx)) hl))) ?_;refine G ?_
 refine Z1 (OC.to (fO (ps:=[.tmp 102,.tmp 104,.tmp 106,.tmp 108,.tmp 110]) (xs:=[.sl _ _ _,.sl _ _ _,.sl _ _ _,.sl _ _ _,.sl _ _ _]) (e:=23) (k:=1) (by_:=24) (zs:=[.slice none 0 0]) rfl (by kernel_rfl) (by kernel_rfl) rfl rfl rfl (by decide) (by decide)) (ac8 (fD s))) ?_;refine G ?_
 refine bM (ι:=Nat) (fun k=>⟨[(1,.ptr (cX s)),(4,.own 1 0),(7,.own 2 0),(9,.own 0 0),(111,rN (fD s)),(112,vi 5),(113,vi k)],[(0,.live 59 [bs (e4 s (makeP s.tab.texts).1++((fD s).take k).flatMap (aJ aC))]),(1,.live 28 [vi s.tab.title,vi s.tab.by_,vi s.tab.release,vi s.tab.max,bB s.tab.texts,vi s.tab.flags,aK s.tab.props,aK s.tab.globals,gA s.tab.things,gB s.tab.acts,fY s.tab.deeds,aK s.tab.funcs,aK s.tab.daemons,aK s.tab.params,aK s.tab.locals]),(2,.live 53 [bB (makeP s.tab.texts).1.abbrevs,aK (makeP s.tab.texts).1.at_,bs (makeP s.tab.texts).1.bytes])]⟩) (fun k=>k≤5) (fun k=>5-k) 0 (Nat.zero_le _) (LS (hh:=⟨by show _=some (Hs.live _ [bs (e4 s (makeP s.tab.texts).1++[])]);rw [List.append_nil];rfl,rfl,rfl,trivial⟩)) ?_
 intro k hI;refine Gd (fun hb=>?_) fun hb=>?_
 ·have hk:k<5:=by have h0:=of_decide_eq_true hb;omega
  have htl:(fD s).length=5:=rfl;have hql:=aI1 (l:=(fD s)) (e:=aJ aC) (k+1);rw [mS (d:=([]:List Int)) _ (show k<(fD s).length from hk),List.length_append] at hql;have hzm:∀ x∈(fD s).getD k [],x≤9223372036854775807:=fun x hx=>by
   have h1:=pR (d:=([]:List Int)) (l:=(fD s)) (show k<_ from hk);generalize (fD s).getD k []=r at hx h1;unfold fD at h1;simp only [List.mem_cons,List.not_mem_nil,or_false] at h1;rcases h1 with rfl|rfl|rfl|rfl|rfl
   ·have:=hG.funcs.2 x hx;omega
   ·have:=hG.daemons.2 x hx;omega
   ·have:=hG.params.2 x hx;omega
   ·have:=hG.locals.2 x hx;omega
   have:=hen.2 x hx;omega
  refine G ?_;refine cw (aQO (e4 s (makeP s.tab.texts).1++((fD s).take k).flatMap (aJ aC)) ((fD s).getD k []) hzm (by simp only [List.length_append];omega)) ?_;refine G ?_;exact ⟨k+1,by omega,by omega,LS (hh:=⟨by rw [mS (d:=([]:List Int)) _ (show k<(fD s).length from hk),←List.append_assoc];rfl,rfl,rfl,trivial⟩)⟩
 have hk:k=5:=by have h0:=of_decide_eq_false hb;omega
 subst hk;refine bS (LS (τ:=⟨[(1,.ptr (cX s)),(4,.own 1 0),(7,.own 2 0),(9,.own 0 0)],[(0,.live 59 [bs (e5 s (makeP s.tab.texts).1)]),(1,.live 28 [vi s.tab.title,vi s.tab.by_,vi s.tab.release,vi s.tab.max,bB s.tab.texts,vi s.tab.flags,aK s.tab.props,aK s.tab.globals,gA s.tab.things,gB s.tab.acts,fY s.tab.deeds,aK s.tab.funcs,aK s.tab.daemons,aK s.tab.params,aK s.tab.locals]),(2,.live 53 [bB (makeP s.tab.texts).1.abbrevs,aK (makeP s.tab.texts).1.at_,bs (makeP s.tab.texts).1.bytes])]⟩)) ?_;refine G ?_;refine Z1 (vX _ rfl rfl (by kernel_rfl)) ?_
 refine cw (aHS (e5 s (makeP s.tab.texts).1) (strOfNums s.code) (by omega) (by rw [strOfNums_size];omega)) ?_;refine G ?_;refine Z1 (cq (aO4 (iK s (makeP s.tab.texts).1) (uM (aIR s _)) (by omega)) rfl rfl) ?_;refine G ?_;exact ⟨.inl rfl,by rw [aQL hw];exact aF.two rfl (aT.tmp rfl) (aT.tmp rfl),trivial⟩
theorem aQP (n:Int):iA (kX n):=fun x hx=>by
 unfold kX at hx;simp only [List.mem_cons,List.not_mem_nil,or_false] at hx;omega
theorem aI3 {s:StoryP}(h0:SOk s):(writeP s).1.length≤1000000000000000∧dF (writeP s).1:=by
 unfold writeP;split
 ·exact ⟨Nat.zero_le _,uM fun x hx=>by cases hx⟩
 rename_i hok;have hv:(gV s).2=0:=Classical.not_not.1 fun h=>hok (.inl h);have hf:iL s.tab=true:=by cases h:iL s.tab with|true=>rfl|false=>exact absurd (.inr h) hok
 have hG:=aAO h0.first hf;have hbl:=aQE hG (aAL hG).2 (aD4 h0.code hG hv) h0.code;refine ⟨?_,uM (fC (aIR _ _) (aQP _))⟩;show (_++_:List Int).length≤_;rw [List.length_append];simp only [kX,List.length_cons,List.length_nil];omega
theorem aD6 (s:StoryP)(h0:SOk s):PC Tryz.prog 11 [cX s] (vw (idP s)):=by
 have hwl:(writeP s).1.length≤1000000000000000∧dF (writeP s).1:=aI3 h0;refine FB 2 14 Tryz.func11 ?_;refine C (aAN s h0) ?_;refine cd (fun hb=>?_) fun hb=>?_
 ·have he:(writeP s).2≠0:=by simpa using hb
  refine G ?_;exact Rx rfl (show _=vw (idP s) from by rw [show idP s=0 from if_pos he];rfl)
 have he:(writeP s).2=0:=by simpa using hb
 refine C (aHN (writeP s).1 hwl.2 hwl.1) ?_;exact Rx rfl (show _=vw (idP s) from by rw [show idP s=_ from if_neg (Classical.not_not.2 he)];rfl)
end Go.Proofs.YtgajclaoaphgoaaGreatDoor
namespace Go.Proofs.YtgajclaoaphgoaaGreatDoor
open Go.RowKit
def jT:StoryP:=⟨⟨0,0,0,0,[],0,[],[],[],[],[],[],[],[],[]⟩,[],[]⟩
theorem wY (E:Env)(v:Value)(h:aA E (.agg [vi 0,vi 0,vi 0,vi 0,.val (.slice none 0 0),vi 0,.val (.slice none 0 0),.val (.slice none 0 0),.val (.slice none 0 0),.val (.slice none 0 0),.val (.slice none 0 0),.val (.slice none 0 0),.val (.slice none 0 0),.val (.slice none 0 0),.val (.slice none 0 0),.val (.slice none 0 0),.val (.slice none 0 0)]) v):aA E (cX jT) v:=by
 refine aAG h rfl fun E i x y hx hy v h=>?_;rcases i with _|_|_|_|_|_|_|_|_|_|_|_|_|_|_|_|_|i<;>simp at hx hy<;>subst hx<;>subst hy<;>first|exact h|exact qI E v h
def vA (c:List Int):Bool:=(decide ((c.length:Int)<5)||((strOfNums (c.take 4)).toList !=(⟨#[67,76,69,87]⟩:ByteArray).toList))||(c.getD 4 0 !=1)
noncomputable def rdS (c:List Int):StoryP × bF:=gStory c (5,0)
noncomputable def readP (b:List Int):StoryP × Int:=
 if (cB b).2≠0 then (jT,(cB b).2)
 else if vA (cB b).1=true then (jT,15)
 else if tC (cB b).1.length (rdS (cB b).1).2.1 (rdS (cB b).1).2.2≠0 then (jT,tC (cB b).1.length (rdS (cB b).1).2.1 (rdS (cB b).1).2.2)
 else if (gV (rdS (cB b).1).1).2≠0∨iL (rdS (cB b).1).1.tab=false then (jT,18)
 else if (writeP (rdS (cB b).1).1).2≠0∨strOfNums (writeP (rdS (cB b).1).1).1≠strOfNums b then (jT,4)
 else ((rdS (cB b).1).1,0)
theorem yT {a b:StoryP × Int}(h:a=b):Av.tup [cX a.1,vi a.2]=.tup [cX b.1,vi b.2]:=by rw [h]
theorem ai5 {c:List Int}{n:Nat}(h:n≤c.length)(E:Env)(v:Value)(hr:aA E (.sl 1 n (bv c)) v):aA E (bs (c.take n)) v:=by
 have hl:(c.take n).length=n:=by rw [List.length_take];omega
 unfold bs;rw [hl];refine pI (fun E k hk v hv=>?_) E v hr;have e:(c.take n).getD k 0=c.getD k 0:=by rw [List.getD,List.getD,List.getElem?_take,if_pos hk]
 unfold bv;rw [e];exact hv
theorem aBL {α:Type}{Q:α→Prop}{one:fV α}(h:∀ s,Q (one s).1):∀ (f:Nat) (s:bF) (l:List α),(∀ x∈l,Q x)→(∀ x∈(dT one f s l).1,Q x)∧(dT one f s l).1.length≤l.length+f
 | 0,s,l,hl=>⟨hl,Nat.le_refl _⟩
 | f+1,s,l,hl=>by
  unfold dT;split
  ·have h1:=aBL h f (one s).2 (l++[(one s).1]) fun x hx=>by
    rcases List.mem_append.1 hx with hx|hx
    ·exact hl x hx
    rw [List.mem_singleton] at hx;subst hx;exact h s
   refine ⟨h1.1,?_⟩;have h2:=h1.2;rw [List.length_append] at h2;simp only [List.length_cons,List.length_nil] at h2;omega
  exact ⟨hl,by show l.length≤_;omega⟩
theorem wZ {α:Type}{Q:α→Prop}{many:fV Int}{one:fV α}(h:∀ s,Q (one s).1)(s:bF):∀ x∈(cV many one s).1,Q x:=(aBL h _ _ [] fun x hx=>by cases hx).1
theorem yU {α:Type}{one:fV α}{xs:List Int}(hb:cI xs)(s:bF):(cV (cJ xs) one s).1.length≤65536:=by
 have h1:=(aBL (Q:=fun _=>True) (one:=one) (fun _=>trivial) (cJ xs s).1.toNat (cJ xs s).2 [] fun _ _=>trivial).2;have h2:=wO hb (most:=65536) (by decide) s;have h3:(cJ xs s).1=(rS xs 65536 s).1:=rfl;show (dT one (cJ xs s).1.toNat (cJ xs s).2 []).1.length≤_;simp only [List.length_nil] at h1;omega
theorem aFD (s:ByteArray):(jZ s).length=s.size:=by unfold jZ;rw [List.length_map,Array.length_toList];rfl
theorem aLC {xs:List Int}(hl:xs.length≤1000000)(s:bF):SW (gTexts xs s).1:=wZ (Q:=fun x:ByteArray=>x.size≤9223372036854775807) (many:=cJ xs) (one:=gText xs) (fun s=>aK1 hl) s
theorem aTO {c:List Int}(hl:c.length≤1000000)(hb:cI c)(ht:SW (aTe c (5,0)).1):SOk (rdS c).1:=by
 unfold rdS gStory;dsimp only;refine ⟨⟨ht,?_,?_⟩,?_,?_,?_,?_,?_,?_⟩<;>dsimp only
 ·exact wZ (Q:=ThingP.wf) (many:=cJ c) (one:=gThing c) (fun s=>by unfold gThing;exact ⟨aLC hl _,aLC hl _⟩) (aGl c (5,0)).2
 ·refine wZ (Q:=VerbP.wf) (many:=cJ c) (one:=gAct c) (fun s=>?_) (aTh c (5,0)).2;show ∀ l∈(gLines c (rX c s).2).1,∀ y∈l,SlotP.wf y;unfold gLines;exact wZ (Q:=fun l=>∀ y∈l,SlotP.wf y) (many:=cJ c) (one:=gLine c) (fun s=>by unfold gLine;exact wZ (Q:=SlotP.wf) (many:=cJ c) (one:=gSlot c) (fun s=>aLC hl (rB c s).2) s) (rX c s).2
 ·have:=aFB c 65536 (sM c (aDe c (5,0)).2 5);have h2:(jZ (aCo c (5,0)).1).length=(aCo c (5,0)).1.size:=aFD _;have h3:(aCo c (5,0)).1=(rT c 65536 (sM c (aDe c (5,0)).2 5)).1:=by unfold aCo gText;rfl
  rw [←h3] at this;omega
 ·exact uM (aIN _)
 ·exact Nat.le_trans (yU (one:=cJ c) hb _) (by omega)
 ·exact Nat.le_trans (yU (one:=cJ c) hb _) (by omega)
 ·exact Nat.le_trans (yU (one:=cJ c) hb _) (by omega)
 have h1:∀ x∈(aTh c (5,0)).1,x.words.length≤65536∧x.adjs.length≤65536∧x.ways.length≤65536:=wZ (Q:=fun x:ThingP=>x.words.length≤65536∧x.adjs.length≤65536∧x.ways.length≤65536) (many:=cJ c) (one:=gThing c) (fun s=>by unfold gThing;exact ⟨yU (one:=gText c) hb _,yU (one:=gText c) hb _,yU (one:=rW c) hb _⟩) (aGl c (5,0)).2;cases hq:(aTh c (5,0)).1 with
 | nil=>exact ⟨Nat.zero_le _,Nat.zero_le _,Nat.zero_le _⟩
 | cons x l=>
  have h2:=h1 x (by rw [hq];simp);show x.words.length≤_∧x.adjs.length≤_∧x.ways.length≤_;omega
theorem aLA (b:List Int):(cB b).1.length≤b.length:=by
 unfold cB;split
 ·exact Nat.zero_le _
 split
 ·unfold lH;rw [List.length_take];omega
 exact Nat.zero_le _
theorem aLB {b:List Int}(h:dF b):cI (cB b).1:=by
 unfold cB;split
 ·exact fun x hx=>by cases hx
 split
 ·exact fun x hx=>mV.1 h x (List.mem_of_mem_take hx)
 exact fun x hx=>by cases hx
end Go.Proofs.YtgajclaoaphgoaaGreatDoor
namespace Go.Proofs.YtgajclaoaphgoaaGreatDoor
theorem aFE {ab l:List ByteArray}:∀ (n k:Nat),k<n→(bT ab l n).1.getD k 0=((bT ab l k).2.length:Int)∧(bT ab l n).1.length=n
 | 0,k,h=>by omega
 | n+1,k,h=>by
  have hln:(bT ab l n).1.length=n:=by
   cases n with
   | zero=>rfl
   | succ n=>exact (aFE (n+1) 0 (by omega)).2
  refine ⟨?_,by show ((bT ab l n).1++_).length=_;rw [List.length_append,hln];rfl⟩;show ((bT ab l n).1++[((bT ab l n).2.length:Int)]).getD k 0=_;rcases Nat.lt_or_ge k n with h1|h1
  ·rw [List.getD,List.getElem?_append_left (by omega)];exact (aFE n k h1).1
  have:k=n:=by omega
  subst this;rw [List.getD,List.getElem?_append_right (by omega),hln,Nat.sub_self];rfl
theorem aTP {ab l:List ByteArray}(k:Nat):∀ n,k≤n→∃ X,(bT ab l n).2=(bT ab l k).2++X
 | 0,h=>by
  have:k=0:=by omega
  subst this;exact ⟨[],by rw [List.append_nil]⟩
 | n+1,h=>by
  rcases Nat.lt_or_ge k (n+1) with h1|h1
  ·obtain ⟨X,e⟩:=aTP (ab:=ab) (l:=l) k n (by omega);exact ⟨X++fW (gT (l.getD n ByteArray.empty) ab),by show (bT ab l n).2++_=_;rw [e,List.append_assoc]⟩
  have:k=n+1:=by omega
  subst this;exact ⟨[],by rw [List.append_nil]⟩
theorem aTQ {ab l:List ByteArray}:∀ n,dC (bT ab l n).2
 | 0=>fun c hc=>by cases hc
 | n+1=>(aTQ n).append (aMM _)
theorem aTJ (l:List ByteArray):dC (makeP l).1.bytes:=by
 unfold makeP
 repeat' split
 ·exact fun c hc=>by cases hc
 ·exact aTQ _
 exact fun c hc=>by cases hc
structure Good8 (l:List ByteArray):Prop where
 wt:wt l≤5000000
 few:¬ (l.length:Int)>4096
 txt:∀ j,j<l.length→cN (tB (l.getD j ByteArray.empty))=true
section
variable {l:List ByteArray}(h:Good8 l)
include h
theorem aLD:makeP l=(⟨chooseP l 31,(bT (chooseP l 31) l l.length).1,(bT (chooseP l 31) l l.length).2⟩,0):=aAF h.few h.txt
theorem aTR:(makeP l).1.abbrevs=chooseP l 31:=by rw [aLD h]
theorem aLE:(makeP l).1.at_=(bT (chooseP l 31) l l.length).1:=by rw [aLD h]
theorem aFF:(makeP l).1.bytes=(bT (chooseP l 31) l l.length).2:=by rw [aLD h]
theorem aBM:(makeP l).1.at_.length=l.length∧(makeP l).1.bytes.length≤1922*l.length:=by
 rw [aLE h,aFF h];exact uH _ h.txt
theorem ai6:(∀ k,((makeP l).1.abbrevs.getD k ByteArray.empty).size≤8)∧(makeP l).1.abbrevs.length≤31:=by
 rw [aTR h];exact aDQ h.wt
theorem ai7 {k:Nat}(hk:k<l.length):jA (makeP l).1 k=((bT (chooseP l 31) l k).2.length:Int):=by
 unfold jA;rw [aLE h];exact (aFE _ k hk).1
theorem ai8 {k:Nat}(hk:k<l.length):jI (makeP l).1 k=((bT (chooseP l 31) l (k+1)).2.length:Int):=by
 unfold jI;rw [(aBM h).1,aLE h,aFF h];split
 ·rename_i h1;exact (aFE _ (k+1) h1).1
 have:k+1=l.length:=by omega
 rw [this]
theorem aTS {k:Nat}(hk:k<l.length):eT (makeP l).1 (k:Int)=(fW (gT (l.getD k ByteArray.empty) (chooseP l 31)),0):=by
 have h1:=ai7 h hk;have h2:=ai8 h hk;obtain ⟨X,e⟩:=aTP (ab:=chooseP l 31) (l:=l) (k+1) l.length hk;have e2:(bT (chooseP l 31) l (k+1)).2=(bT (chooseP l 31) l k).2++fW (gT (l.getD k ByteArray.empty) (chooseP l 31)):=rfl;have hlen:(makeP l).1.bytes.length=(bT (chooseP l 31) l (k+1)).2.length+X.length:=by rw [aFF h,e,List.length_append]
 have hl2:(bT (chooseP l 31) l (k+1)).2.length=(bT (chooseP l 31) l k).2.length+(fW (gT (l.getD k ByteArray.empty) (chooseP l 31))).length:=by rw [e2,List.length_append]
 have hno:¬ ((k:Int)<0∨(k:Int)≥((makeP l).1.at_.length:Int)):=by rw [(aBM h).1];omega
 have hrg:¬ (jA (makeP l).1 (k:Int).toNat<0∨jI (makeP l).1 (k:Int).toNat<jA (makeP l).1 (k:Int).toNat∨jI (makeP l).1 (k:Int).toNat >((makeP l).1.bytes.length:Int)):=by
  rw [Int.toNat_natCast,h1,h2];omega
 rw [aOX hno hrg,Int.toNat_natCast];refine Prod.ext ?_ rfl;show qG (makeP l).1 k=_;unfold qG;rw [h1,h2,Int.toNat_natCast,Int.toNat_natCast,aFF h,e,e2,List.append_assoc,List.drop_left,List.length_append,Nat.add_sub_cancel_left,List.take_left]
theorem ai9 {k:Nat}(hk:k<l.length):poolTx (makeP l).1 (k:Int)=(l.getD k ByteArray.empty,0):=by
 have ht:=h.txt k hk;have hab:=(aDQ h.wt).2;have hu:=aW2 (gT (l.getD k ByteArray.empty) (chooseP l 31)) (ah0 ht hab);have hp:=aTS h hk;rw [aOY (by rw [hp]) (by rw [hp];show (gD _).2=0;rw [hu]),hp];show unpackedP (gD _).1 _=_;rw [hu,aTR h];exact ah3 ht hab
theorem ajA (i:Int):(eT (makeP l).1 i).1.length≤1922:=by
 by_cases hno:i<0∨i≥((makeP l).1.at_.length:Int)
 ·rw [aOW hno];exact Nat.zero_le _
 have hl:=(aBM h).1;have e:i=(i.toNat:Int):=by omega
 have hk:i.toNat<l.length:=by omega
 rw [e,aTS h hk];exact (aIL _ (h.txt _ hk)).2.2
theorem aK5:allP (makeP l).1=(l,0):=by
 have key:∀ (n k:Nat) (out:List ByteArray),k+n=l.length→qH (poolTx (makeP l).1) n k out=(out++l.drop k,0):=by
  intro n
  induction n with
  | zero=>
   intro k out hk;rw [List.drop_of_length_le (by omega),List.append_nil];rfl
  | succ n ih=>
   intro k out hk;have ht:=ai9 h (k:=k) (by omega);rw [aOZ (by rw [ht]),ih (k+1) _ (by omega),ht];refine Prod.ext ?_ rfl;show out++[l.getD k ByteArray.empty]++l.drop (k+1)=out++l.drop k;rw [List.append_assoc];congr 1;rw [List.drop_eq_getElem_cons (show k<l.length by omega)];simp [List.getD,List.getElem?_eq_getElem (show k<l.length by omega)]
 unfold allP;rw [(aBM h).1,key l.length 0 [] (by omega)];rfl
omit h in
end
open Go.RowKit
theorem ajB {l:List ByteArray}(h:Good8 l):(makeP l).1.at_.length≤5000000∧(makeP l).1.bytes.length≤100000000∧dC (makeP l).1.bytes∧(∀ i,(eT (makeP l).1 i).1.length≤5000)∧(∀ k,((makeP l).1.abbrevs.getD k ByteArray.empty).size≤5000)∧(makeP l).1.abbrevs.length≤1000000:=by
 have h1:=aBM h;have h2:=ai6 h;have h3:=h.few;exact ⟨by omega,by omega,aTJ _,fun i=>Nat.le_trans (ajA h i) (by omega),fun k=>Nat.le_trans (h2.1 k) (by omega),by omega⟩
theorem ajC {l:List ByteArray}(h:Good8 l):PC Tryz.prog 160 [kO (makeP l).1] (.tup [bB l,vi 0]):=by
 obtain ⟨h1,h2,h3,h4,h5,h6⟩:=ajB h;have:=aO3 (makeP l).1 h1 h2 h3 h4 h5 h6;rwa [aK5 h] at this
end Go.Proofs.YtgajclaoaphgoaaGreatDoor
