/- Parts of the proof of a law of this seat: rules and contracts; no conditions. -/
import Derived.Test.YtnklgkjfoggpbaaGreatDoorWireSpec
import Derived.Test.YtnklgkjfoggpbaaGreatDoorLt
import Derived.Test.YtnklgkjfoggpbaaGreatDoorWd
import Derived.Test.YtnklgkjfoggpbaaGreatDoorProg
import Derived.KernelRfl
import Derived.Test.YtnklgkjfoggpbaaGreatDoorOl
import Derived.Lib.SmallJoins
import Derived.Deep.Fields
import Derived.Below
import Derived.SizedLaws
import Derived.Test.YtnklgkjfoggpbaaGreatDoorRows
import Derived.Test.YtnklgkjfoggpbaaGreatDoorShelf
import Derived.LaidMore
import Derived.PinnedBridge
import Derived.Lay
import Derived.Handed
set_option maxHeartbeats 6400000
set_option maxRecDepth 100000
set_option linter.unusedVariables false
set_option linter.unusedSimpArgs false
namespace Go.Proofs.YtnklgkjfoggpbaaGreatDoor
open Go.RowKit
theorem acV (l:List SlotP)(hl:∀ y∈l,SlotP.wf y):PC Tryz.prog 38 [fQ l] (vb (pP l)):=by
 refine FC.body 6 71 Tryz.func38 rfl (by kernel_rfl) ?_
 refine dM (t:=0) (x:=fQ l) rfl eR fun hf=>?_
 refine W ?_
 refine bM (ι:=Nat) (fun k=>⟨[(0,fQ l),(3,vi (pQ oT l k)),(4,vi (pQ (fun k=>k==4) l k)),(5,vi (pQ (fun k=>k==5) l k)),(8,fQ l),(9,vi l.length),(10,vi k)],[(0,.unborn)]⟩) (fun k=>k≤l.length∧∀ j,j<k→(!fT l j)=true) (fun k=>l.length-k) 0 (⟨Nat.zero_le _,qF⟩) (Le.sub (by repeat (first|trivial|refine ⟨.inr rfl,?_⟩|refine ⟨.inr (aR (by omega)),?_⟩)) (by repeat (first|trivial|refine ⟨rfl,?_⟩))) ?_
 intro k hI
 have c3:=aIV oT l k
 have c4:=aIV (fun k=>k==4) l k
 have c5:=aIV (fun k=>k==5) l k
 refine W ?_
 refine cd (fun hb=>?_) fun hb=>?_
 ·have hlt:k<l.length:=by have h0:=of_decide_eq_true hb;omega
  refine W ?_
  refine Z2 (al 0 [.int .i64 0,.slice none 0 0]) ?_
  refine W ?_
  refine fP rfl rfl (sY (x:=.agg _) (cs':=[_,_]) rfl rfl rfl rfl (by kernel_rfl) (by first|decide|simp) (by first|decide|simp) rfl) ⟨rfl,trivial⟩ ?_
  refine W ?_
  refine aS 0 1 false ?_
  refine W ?_
  refine cd (fun hb=>?_) fun hb=>?_
  ·have hkd:(l.getD k cH).kind=1:=by simpa using hb
   refine W ?_
   refine aS 1 1 false ?_
   refine W ?_
   refine aW (R:=[(_,.live _ _)]) rfl rfl rfl eV (fun hC=>eU (off:=1) (sz:=1) (r:=false) rfl rfl (by first|decide|simp) (by kernel_rfl) (by decide)) (fun hC=>⟨(by first|rfl|exact hC|(simp only [Bool.and_eq_true] at hC;first|exact hC.1|exact hC.1.1|exact hC.2)|simp_all),trivial⟩) ⟨rfl,trivial⟩ ?_
   refine aW (R:=[(_,.live _ _)]) rfl rfl rfl eV (fun hC=>fL rfl rfl (by kernel_rfl) rfl) (fun hC=>⟨(by first|rfl|exact hC|(simp only [Bool.and_eq_true] at hC;first|exact hC.1|exact hC.1.1|exact hC.2)|simp_all),trivial⟩) ⟨rfl,trivial⟩ ?_
   refine Z4 (fun hC=>ca (aIW _ (hl _ (pR hlt)) 4)) ?_
   refine W ?_
   refine cd (fun hb=>?_) fun hb=>?_
   ·refine W ?_
    exact ⟨.inl rfl,aF.tmp rfl (bP (by unfold pP;rw [nD (p:=fun j=>!fT l j) hlt (by rw [show fT l k=true from (aQH hkd).trans hb];rfl)];rfl)),trivial⟩
   ·refine W ?_
    have e3:=mU oT hlt
    have e4:=mU (fun k=>k==4) hlt
    have e5:=mU (fun k=>k==5) hlt
    rw [hkd] at e3 e4 e5
    simp [oT] at e3 e4 e5
    exact ⟨k+1,⟨by omega,mC (p:=fun j=>!fT l j) hI.2 (by rw [show fT l k=false from (aQH hkd).trans hb];rfl)⟩,by omega,Le.reset [0] (by simp) (by repeat (first|trivial|refine ⟨.inr rfl,?_⟩|refine ⟨.inr (aR (by omega)),?_⟩)) (nJ (by simp only [pS,bE,aN,and_self,dG,dY,cP,bV,dZ,eA,eC,eD,eE,eF,eG,eH,eI,eJ])) (by simp [lK])⟩
  ·have hn1:(l.getD k cH).kind≠1:=by simpa using hb
   refine W ?_
   refine cd (fun hb=>?_) fun hb=>?_
   ·have hkd:(l.getD k cH).kind=2:=by simpa using hb
    refine W ?_
    refine cd (fun hb=>?_) fun hb=>?_
    ·refine W ?_
     refine aS 1 1 false ?_
     refine W ?_
     refine aW (R:=[(_,.live _ _)]) rfl rfl rfl lO (fun hC=>eU (off:=0) (sz:=1) (r:=false) rfl rfl (by first|decide|simp) (by kernel_rfl) (by decide)) (fun hC=>⟨(by first|rfl|exact hC|(simp only [Bool.and_eq_true] at hC;first|exact hC.1|exact hC.1.1|exact hC.2)|simp_all),trivial⟩) ⟨rfl,trivial⟩ ?_
     refine aW (R:=[(_,.live _ _)]) rfl rfl rfl lO (fun hC=>fL rfl rfl (by kernel_rfl) rfl) (fun hC=>⟨(by first|rfl|exact hC|(simp only [Bool.and_eq_true] at hC;first|exact hC.1|exact hC.1.1|exact hC.2)|simp_all),trivial⟩) ⟨rfl,trivial⟩ ?_
     refine W ?_
     refine cd (fun hb=>?_) fun hb=>?_
     ·refine W ?_
      exact ⟨.inl rfl,aF.tmp rfl (bP (by unfold pP;rw [nD (p:=fun j=>!fT l j) hlt (by rw [show fT l k=true from ((uL hkd (by decide) (by decide)).trans hb)];rfl)];rfl)),trivial⟩
     ·refine W ?_
      have e3:=mU oT hlt
      have e4:=mU (fun k=>k==4) hlt
      have e5:=mU (fun k=>k==5) hlt
      rw [hkd] at e3 e4 e5
      simp [oT] at e3 e4 e5
      exact ⟨k+1,⟨by omega,mC (p:=fun j=>!fT l j) hI.2 (by rw [show fT l k=false from ((uL hkd (by decide) (by decide)).trans hb)];rfl)⟩,by omega,Le.reset [0] (by simp) (by repeat (first|trivial|refine ⟨.inr rfl,?_⟩|refine ⟨.inr (aR (by omega)),?_⟩)) (nJ (by simp only [pS,bE,aN,and_self,dG,dY,cP,bV,dZ,eA,eC,eD,eE,eF,eG,eH,eI,eJ])) (by simp [lK])⟩
    ·exact absurd hb (by intro _;have h2:((l.getD k cH).kind==2)=false:=hb;rw [hkd] at h2;simp at h2)
   ·have hn2:(l.getD k cH).kind≠2:=by simpa using hb
    refine W ?_
    refine cd (fun hb=>?_) fun hb=>?_
    ·have hkd:(l.getD k cH).kind=3:=by simpa using hb
     refine W ?_
     refine aS 1 1 false ?_
     refine W ?_
     refine aW (R:=[(_,.live _ _)]) rfl rfl rfl lO (fun hC=>eU (off:=0) (sz:=1) (r:=false) rfl rfl (by first|decide|simp) (by kernel_rfl) (by decide)) (fun hC=>⟨(by first|rfl|exact hC|(simp only [Bool.and_eq_true] at hC;first|exact hC.1|exact hC.1.1|exact hC.2)|simp_all),trivial⟩) ⟨rfl,trivial⟩ ?_
     refine aW (R:=[(_,.live _ _)]) rfl rfl rfl lO (fun hC=>fL rfl rfl (by kernel_rfl) rfl) (fun hC=>⟨(by first|rfl|exact hC|(simp only [Bool.and_eq_true] at hC;first|exact hC.1|exact hC.1.1|exact hC.2)|simp_all),trivial⟩) ⟨rfl,trivial⟩ ?_
     refine W ?_
     refine cd (fun hb=>?_) fun hb=>?_
     ·refine W ?_
      exact ⟨.inl rfl,aF.tmp rfl (bP (by unfold pP;rw [nD (p:=fun j=>!fT l j) hlt (by rw [show fT l k=true from ((uL hkd (by decide) (by decide)).trans hb)];rfl)];rfl)),trivial⟩
     ·refine W ?_
      have e3:=mU oT hlt
      have e4:=mU (fun k=>k==4) hlt
      have e5:=mU (fun k=>k==5) hlt
      rw [hkd] at e3 e4 e5
      simp [oT] at e3 e4 e5
      exact ⟨k+1,⟨by omega,mC (p:=fun j=>!fT l j) hI.2 (by rw [show fT l k=false from ((uL hkd (by decide) (by decide)).trans hb)];rfl)⟩,by omega,Le.reset [0] (by simp) (by repeat (first|trivial|refine ⟨.inr rfl,?_⟩|refine ⟨.inr (aR (by omega)),?_⟩)) (nJ (by simp only [pS,bE,aN,and_self,dG,dY,cP,bV,dZ,eA,eC,eD,eE,eF,eG,eH,eI,eJ])) (by simp [lK])⟩
    ·have hn3:(l.getD k cH).kind≠3:=by simpa using hb
     refine W ?_
     refine cd (fun hb=>?_) fun hb=>?_
     ·have hkd:(l.getD k cH).kind=4:=by simpa using hb
      refine W ?_
      refine aS 1 1 false ?_
      refine W ?_
      refine aW (R:=[(_,.live _ _)]) rfl rfl rfl lO (fun hC=>eU (off:=0) (sz:=1) (r:=false) rfl rfl (by first|decide|simp) (by kernel_rfl) (by decide)) (fun hC=>⟨(by first|rfl|exact hC|(simp only [Bool.and_eq_true] at hC;first|exact hC.1|exact hC.1.1|exact hC.2)|simp_all),trivial⟩) ⟨rfl,trivial⟩ ?_
      refine aW (R:=[(_,.live _ _)]) rfl rfl rfl lO (fun hC=>fL rfl rfl (by kernel_rfl) rfl) (fun hC=>⟨(by first|rfl|exact hC|(simp only [Bool.and_eq_true] at hC;first|exact hC.1|exact hC.1.1|exact hC.2)|simp_all),trivial⟩) ⟨rfl,trivial⟩ ?_
      refine W ?_
      refine cd (fun hb=>?_) fun hb=>?_
      ·refine W ?_
       exact ⟨.inl rfl,aF.tmp rfl (bP (by unfold pP;rw [nD (p:=fun j=>!fT l j) hlt (by rw [show fT l k=true from ((uL hkd (by decide) (by decide)).trans hb)];rfl)];rfl)),trivial⟩
      ·refine W ?_
       have e3:=mU oT hlt
       have e4:=mU (fun k=>k==4) hlt
       have e5:=mU (fun k=>k==5) hlt
       rw [hkd] at e3 e4 e5
       simp [oT] at e3 e4 e5
       exact ⟨k+1,⟨by omega,mC (p:=fun j=>!fT l j) hI.2 (by rw [show fT l k=false from ((uL hkd (by decide) (by decide)).trans hb)];rfl)⟩,by omega,Le.reset [0] (by simp) (by repeat (first|trivial|refine ⟨.inr rfl,?_⟩|refine ⟨.inr (aR (by omega)),?_⟩)) (nJ (by simp only [pS,bE,aN,and_self,dG,dY,cP,bV,dZ,eA,eC,eD,eE,eF,eG,eH,eI,eJ])) (by simp [lK])⟩
     ·have hn4:(l.getD k cH).kind≠4:=by simpa using hb
      refine W ?_
      refine cd (fun hb=>?_) fun hb=>?_
      ·have hkd:(l.getD k cH).kind=5:=by simpa using hb
       refine W ?_
       refine aS 1 1 false ?_
       refine W ?_
       refine aW (R:=[(_,.live _ _)]) rfl rfl rfl lO (fun hC=>eU (off:=0) (sz:=1) (r:=false) rfl rfl (by first|decide|simp) (by kernel_rfl) (by decide)) (fun hC=>⟨(by first|rfl|exact hC|(simp only [Bool.and_eq_true] at hC;first|exact hC.1|exact hC.1.1|exact hC.2)|simp_all),trivial⟩) ⟨rfl,trivial⟩ ?_
       refine aW (R:=[(_,.live _ _)]) rfl rfl rfl lO (fun hC=>fL rfl rfl (by kernel_rfl) rfl) (fun hC=>⟨(by first|rfl|exact hC|(simp only [Bool.and_eq_true] at hC;first|exact hC.1|exact hC.1.1|exact hC.2)|simp_all),trivial⟩) ⟨rfl,trivial⟩ ?_
       refine W ?_
       refine cd (fun hb=>?_) fun hb=>?_
       ·refine W ?_
        exact ⟨.inl rfl,aF.tmp rfl (bP (by unfold pP;rw [nD (p:=fun j=>!fT l j) hlt (by rw [show fT l k=true from ((uL hkd (by decide) (by decide)).trans hb)];rfl)];rfl)),trivial⟩
       ·refine W ?_
        have e3:=mU oT hlt
        have e4:=mU (fun k=>k==4) hlt
        have e5:=mU (fun k=>k==5) hlt
        rw [hkd] at e3 e4 e5
        simp [oT] at e3 e4 e5
        exact ⟨k+1,⟨by omega,mC (p:=fun j=>!fT l j) hI.2 (by rw [show fT l k=false from ((uL hkd (by decide) (by decide)).trans hb)];rfl)⟩,by omega,Le.reset [0] (by simp) (by repeat (first|trivial|refine ⟨.inr rfl,?_⟩|refine ⟨.inr (aR (by omega)),?_⟩)) (nJ (by simp only [pS,bE,aN,and_self,dG,dY,cP,bV,dZ,eA,eC,eD,eE,eF,eG,eH,eI,eJ])) (by simp [lK])⟩
      ·have hn5:(l.getD k cH).kind≠5:=by simpa using hb
       refine W ?_
       exact ⟨.inl rfl,aF.tmp rfl (bP (by unfold pP;rw [nD (p:=fun j=>!fT l j) hlt (by rw [show fT l k=true from acW hn1 (by clear hb;generalize (l.getD k cH).kind=q at *;simp [among];omega)];rfl)];rfl)),trivial⟩
 ·have hge:k=l.length:=by have h0:=of_decide_eq_false hb;omega
  refine W ?_
  refine Z1 (ca (nO _ _ _)) ?_
  refine W ?_
  exact ⟨.inl rfl,aF.tmp rfl (bP (by unfold pP;rw [sP (p:=fun j=>!fT l j) fun j hj=>hI.2 j (by omega)];subst hge;rfl)),trivial⟩
theorem acX (v:VerbP)(hv:v.wf):PC Tryz.prog 35 [iC v] (vb (aD0 v)):=by
 refine FC.body 6 12 Tryz.func35 rfl (by kernel_rfl) ?_
 refine W ?_
 refine Z1 (ca (nO _ _ _)) ?_
 refine W ?_
 refine aW (R:=[]) rfl rfl rfl cA (fun hC=>jP rfl (by kernel_rfl) (acY v.lines 38 [] pP (by kernel_rfl) trivial fun l hl=>acV l (hv l hl)) rfl (by simp only [bE,aN,and_self,dG,dY,cP,bV,dZ,eA,eC,eD,eE,eF,eG,eH,eI,eJ]) (by simp only [bE,aN,and_self,dG,dY,cP,bV,dZ,eA,eC,eD,eE,eF,eG,eH,eI,eJ])) (fun hC=>⟨(by first|rfl|exact hC|(simp only [Bool.and_eq_true] at hC;first|exact hC.1|exact hC.1.1|exact hC.2)|simp_all),(by first|rfl|exact hC|(simp only [Bool.and_eq_true] at hC;first|exact hC.1|exact hC.1.1|exact hC.2)|simp_all),(by first|rfl|exact hC|(simp only [Bool.and_eq_true] at hC;first|exact hC.1|exact hC.1.1|exact hC.2)|simp_all),trivial⟩) trivial ?_
 refine W ?_
 exact ⟨.inl rfl,aF.tmp rfl rfl,trivial⟩
theorem acZ {t:TabP}(h:aAM t=true):0≤t.flags:=by
 unfold aAM at h
 simp only [Bool.and_eq_true] at h
 have:=gH.1 h.1.1.1.1.2
 omega
theorem aIX (t:TabP)(ht:t.wf):PC Tryz.prog 11 [bR t] (vb (iL t)):=by
 refine FC.body 6 67 Tryz.func11 rfl (by kernel_rfl) ?_
 refine dM (t:=0) (x:=bR t) rfl (qO t) fun hf=>?_
 have hf1:=hf.params
 have hf2:=hf.texts
 have hf3:=hf.things
 have hf4:=hf.acts
 have hf5:=hf.locals
 have hf6:=hf.deeds
 have hf7:=hf.funcs
 have hf8:=hf.daemons
 refine sq ?_
 refine Z1 bx ?_
 refine Z1 aB ?_
 refine cn ?_
 refine aD ?_
 refine sq ?_
 refine Z1 lr ?_
 refine Z1 (ca (ac0 t ht)) ?_
 refine Z1 nt ?_
 refine Z1 mo ?_
 refine Z4 (fun hC=>lr) ?_
 refine Z4 (fun hC=>ca (ac1 t)) ?_
 refine Z4 (fun hC=>nt) ?_
 refine Z1 cC ?_
 refine Z1 mo ?_
 refine Z4 (fun hC=>lr) ?_
 refine aW (R:=[]) rfl rfl rfl eV (fun hC=>jP rfl (by kernel_rfl) (ac2 t ht (by have h1:=hC;simp only [Bool.and_eq_true,Bool.or_eq_true,Bool.not_eq_true',Bool.or_eq_false_iff,Bool.not_eq_false'] at h1;exact acZ h1.1)) rfl (by simp only [bE,aN,and_self,dG,dY,cP,bV,dZ,eA,eC,eD,eE,eF,eG,eH,eI,eJ]) (by simp only [bE,aN,and_self,dG,dY,cP,bV,dZ,eA,eC,eD,eE,eF,eG,eH,eI,eJ])) (fun hC=>⟨(by first|rfl|exact hC|(simp only [Bool.and_eq_true] at hC;first|exact hC.1|exact hC.1.1|exact hC.2)|simp_all),(by first|rfl|exact hC|(simp only [Bool.and_eq_true] at hC;first|exact hC.1|exact hC.1.1|exact hC.2)|simp_all),trivial⟩) trivial ?_
 refine Z4 (fun hC=>nt) ?_
 refine Z1 cC ?_
 refine Z1 mo ?_
 refine Z4 (fun hC=>fa 9) ?_
 refine Z4 (fun hC=>ld) ?_
 refine Z4 (fun hC=>ln) ?_
 refine Z4 (fun hC=>bz) ?_
 refine Z1 cC ?_
 refine Z1 mo ?_
 refine Z4 (fun hC=>fa 10) ?_
 refine Z4 (fun hC=>ld) ?_
 refine Z4 (fun hC=>ln) ?_
 refine Z4 (fun hC=>bz) ?_
 refine Z1 cC ?_
 refine Z1 mo ?_
 refine Z4 (fun hC=>fa 11) ?_
 refine Z4 (fun hC=>ld) ?_
 refine Z4 (fun hC=>ln) ?_
 refine Z4 (fun hC=>bz) ?_
 refine Z1 cC ?_
 refine Z1 mo ?_
 refine Z4 (fun hC=>fa 12) ?_
 refine Z4 (fun hC=>ld) ?_
 refine Z4 (fun hC=>ln) ?_
 refine Z4 (fun hC=>bz) ?_
 refine Z1 cC ?_
 refine cn ?_
 refine cd (fun hb=>?_) fun hb=>?_
 ·have hw:aD1 t=true:=hb
  refine sq ?_
  refine Z1 aB ?_
  refine cn ?_
  refine aP ?_
  exact ⟨.inl rfl,aF.tmp rfl (bP (by unfold iL;rw [hw];rfl)),trivial⟩
 ·have hw:aD1 t=false:=hb
  refine aQ ?_
  refine sq ?_
  refine Z1 (qC (cs:=[.ptr _]) rfl rfl) ?_
  refine Z2 (al 0 [.nilFunc]) ?_
  refine cF [_] ?_
  refine cn ?_
  refine aD ?_
  refine bS (Le.freezeVar 3 0 rfl rfl) ?_
  refine tx ?_
  refine Z1 (fa 9) ?_
  refine Z1 ld ?_
  refine Z1 (ca (ac3 t.acts 35 [] aD0 (by kernel_rfl) trivial fun v hv=>acX v (ht.acts v hv))) ?_
  refine Z1 aB ?_
  refine cn ?_
  refine sq ?_
  refine Z1 (fa 10) ?_
  refine Z1 ld ?_
  refine Z1 (qC (cs:=[.ptr _,.ptr _]) rfl rfl) ?_
  refine Z1 (cq (ac4 t.deeds 40 [.ptr (bR t),.ptr (.clo 32 [.ptr (bR t)])] (aD2 t) (by kernel_rfl) (by simp only [bE,aN,dG,and_self]) fun d _=>ac5 t d) rfl rfl) ?_
  refine Z1 aB ?_
  refine cn ?_
  refine sq ?_
  refine Z1 mo ?_
  refine Z1 mo ?_
  refine Z4 (fun hC=>mo) ?_
  refine Z1 an ?_
  refine Z1 mo ?_
  refine Z4 (fun hC=>fa 11) ?_
  refine Z4 (fun hC=>ld) ?_
  refine Z4 (fun hC=>qC (cs:=[.ptr _]) rfl rfl) ?_
  refine aW (R:=[]) rfl rfl rfl cA (fun hC=>jP rfl (by kernel_rfl) (xW t.funcs 43 [.ptr (bR t)] _ (by kernel_rfl) (aD3 t) fun n _=>ac6 t n) rfl (by simp only [bE,aN,and_self,dG,dY,cP,bV,dZ,eA,eC,eD,eE,eF,eG,eH,eI,eJ]) (by simp only [bE,aN,and_self,dG,dY,cP,bV,dZ,eA,eC,eD,eE,eF,eG,eH,eI,eJ])) (fun hC=>⟨(by first|rfl|exact hC|(simp only [Bool.and_eq_true] at hC;first|exact hC.1|exact hC.1.1|exact hC.2)|simp_all),(by first|rfl|exact hC|(simp only [Bool.and_eq_true] at hC;first|exact hC.1|exact hC.1.1|exact hC.2)|simp_all),(by first|rfl|exact hC|(simp only [Bool.and_eq_true] at hC;first|exact hC.1|exact hC.1.1|exact hC.2)|simp_all),trivial⟩) trivial ?_
  refine Z1 an ?_
  refine Z1 mo ?_
  refine Z4 (fun hC=>fa 12) ?_
  refine Z4 (fun hC=>ld) ?_
  refine Z4 (fun hC=>qC (cs:=[.ptr _]) rfl rfl) ?_
  refine aW (R:=[]) rfl rfl rfl cA (fun hC=>jP rfl (by kernel_rfl) (xW t.daemons 44 [.ptr (bR t)] _ (by kernel_rfl) (aD3 t) fun n _=>ac7 t n) rfl (by simp only [bE,aN,and_self,dG,dY,cP,bV,dZ,eA,eC,eD,eE,eF,eG,eH,eI,eJ]) (by simp only [bE,aN,and_self,dG,dY,cP,bV,dZ,eA,eC,eD,eE,eF,eG,eH,eI,eJ])) (fun hC=>⟨(by first|rfl|exact hC|(simp only [Bool.and_eq_true] at hC;first|exact hC.1|exact hC.1.1|exact hC.2)|simp_all),(by first|rfl|exact hC|(simp only [Bool.and_eq_true] at hC;first|exact hC.1|exact hC.1.1|exact hC.2)|simp_all),(by first|rfl|exact hC|(simp only [Bool.and_eq_true] at hC;first|exact hC.1|exact hC.1.1|exact hC.2)|simp_all),trivial⟩) trivial ?_
  refine Z1 an ?_
  refine Z1 aB ?_
  refine cn ?_
  refine aP ?_
  exact ⟨.inl rfl,aF.tmp rfl (bP (by unfold iL;rw [hw];rfl)),trivial⟩
end Go.Proofs.YtnklgkjfoggpbaaGreatDoor
namespace Go.Proofs.YtnklgkjfoggpbaaGreatDoor
open Go.Joins Go.ChangeShapes Go.WideShapes Go.RowKit Go.Deep
def E0 (w:World):Env:=⟨w,fun _=>.unborn,fun _=>False⟩
theorem E0.good (w:World)(hs:qY (E0 w)):Good (E0 w):=⟨fun b h=>h.elim,fun n m b h=>(by cases h),fun n b h=>(by cases h),hs⟩
theorem E0.ok {w:World}{b:Nat}(h:b<w.heap.size):(E0 w).ok b:=⟨h,fun h=>h,fun n h=>(by cases h)⟩
section
variable {H:Type}{enc:TypeId × Value→H}{P:Program}{w:World}{base:Nat}{spare:Nat→Bool}{held:Bool}
def kJ (enc:TypeId × Value→H)(P:Program)(w:World)(base:Nat)(spare:Nat→Bool)(held:Bool)(T:TypeId)(α:Type)(av:α→List Av)(wf:α→Prop):Prop:=
 ∀ (fuel:Nat) (cs:List Value) (y:DataW H × List MemPlace),DataW.trod enc P w base spare held fuel T cs=some y→(∀ n∈DataW.weights P T y.1,n≤reachBytes)→∃ d:α,wf d∧aG (E0 w) (av d) cs∧∀ u∈cs,u.oneCell'=true
theorem kJ.map {T:TypeId}{α γ:Type}{av:α→List Av}{wf:α→Prop}(h:kJ enc P w base spare held T α av wf)(g:α→γ)(av':γ→List Av)(wf':γ→Prop)(h1:∀ d,av' (g d)=av d)(h2:∀ d,wf d→wf' (g d)):kJ enc P w base spare held T γ av' wf':=fun fuel cs y hy hz=>by
 obtain ⟨d,h3,h4,h5⟩:=h fuel cs y hy hz
 exact ⟨g d,h2 d h3,by rw [h1];exact h4,h5⟩
theorem gW {T:TypeId}{k:IntKind}(hT:P.underlying T=some (.int k)):kJ enc P w base spare held T Int (fun n=>[.val (.int k n)]) (fun n=>(Lit.int k n).wf=true):=fun fuel cs y hy _=>by
 obtain ⟨n,rfl,_,h⟩:=DataW.trod_int hT hy
 exact ⟨n,h,by unfold aG;exact ⟨_,_,rfl,by unfold aA;rfl,by unfold aG;rfl⟩,by simp [Value.oneCell']⟩
theorem aQ0 {T:TypeId}(hT:P.underlying T=some .bool):kJ enc P w base spare held T Bool (fun n=>[vb n]) (fun _=>True):=fun fuel cs y hy _=>by
 obtain ⟨n,rfl,_⟩:=DataW.trod_bool hT hy
 exact ⟨n,trivial,by unfold aG;exact ⟨_,_,rfl,by unfold aA;rfl,by unfold aG;rfl⟩,by simp [Value.oneCell']⟩
theorem aD7 {T:TypeId}(hT:P.underlying T=some .string):kJ enc P w base spare held T ByteArray (fun s=>[vs s]) (fun s=>s.size≤140737488351232):=fun fuel cs y hy hz=>by
 obtain ⟨s,rfl,rfl,h⟩:=DataW.trod_string hT hy
 have h2:=hz s.data.toList.length (by simp [DataW.weights])
 have h3:reachBytes=140737488351232:=rfl
 have h4:s.data.toList.length=s.size:=by simp
 exact ⟨s,by omega,by unfold aG;exact ⟨_,_,rfl,by unfold aA;rfl,by unfold aG;rfl⟩,by simp [Value.oneCell']⟩
theorem aQ1 {α β:Type}{f:α→Option β}:∀ {l:List α} {r:List β},l.mapM f=some r→r.length=l.length∧∀ (i:Nat) (x:α),l[i]?=some x→f x=r[i]?
 | [],r,h=>by simp at h;subst h;simp
 | a::l,r,h=>by
  rw [List.mapM_cons] at h
  cases ha:f a with
  | none=>rw [ha] at h;simp at h
  | some b=>
   rw [ha] at h
   cases hl:l.mapM f with
   | none=>rw [hl] at h;simp at h
   | some r'=>
    rw [hl] at h
    simp at h
    subst h
    obtain ⟨h1,h2⟩:=aQ1 hl
    refine ⟨by simp [h1],fun i x hx=>?_⟩
    cases i with
    | zero=>simp at hx;subst hx;simpa using ha
    | succ i=>simpa using h2 i x (by simpa using hx)
theorem aQ2 {a:Addr}{n:Nat}{cs:List Value}(h:w.cells? base a n=some cs):cs.length=n∧∀ i,i<n→w.cell? (a.add i)=cs[i]?:=by
 unfold World.cells? at h
 split at h
 ·obtain ⟨h1,h2⟩:=aQ1 h
  exact ⟨by simpa using h1,fun i hi=>h2 i i (by rw [List.getElem?_range hi])⟩
 ·cases h
theorem aQ3 {a:Addr}{v:Value}(h:w.cell? a=some v):a.spot=none∧a.block<w.heap.size:=by
 unfold World.cell? at h
 split at h
 ·rename_i c _ _ hb
  refine ⟨?_,?_⟩
  ·cases hs:a.spot with
   | none=>rfl
   | some s=>rw [hs] at h;simp at h
  ·exact (Array.getElem?_eq_some_iff.1 hb).1
 ·cases h
theorem aQ4 {e:TypeId}:∀ {ds:List (DataW H)} {d:DataW H} {n:Nat},d∈ds→n∈DataW.weights P e d→n∈DataW.weightsAll P e ds
 | x::r,d,n,hd,hn=>by
  unfold DataW.weightsAll
  rcases List.mem_cons.1 hd with rfl|hd
  ·exact List.mem_append.2 (.inl hn)
  ·exact List.mem_append.2 (.inr (aQ4 hd hn))
theorem kR {T e:TypeId}{α:Type}{av:α→List Av}{wf:α→Prop}(d0:α)(k b:Nat)(row:α→Av)(hT:P.underlying T=some (.slice e))(hk:P.cellsOf e=k)(hb:P.bytesOf e=b)(h0:0<k)(he:kJ enc P w base spare held e α av wf)
 (hrow:∀ (d:α) (cs:List Value),aG (E0 w) (av d) cs→(∀ u∈cs,u.oneCell'=true)→∃ u:Value,aA (E0 w) (row d) u∧u.cells.toList=cs):
 kJ enc P w base spare held T (List α) (fun l=>[.sl k l.length fun j=>row (l.getD j d0)]) (fun l=>(∀ d∈l,wf d)∧l.length*b≤140737488351232):=fun fuel cs y hy hz=>by
 rcases DataW.trod_slice hT hy with ⟨rfl,_⟩|⟨a,len,cap,elems,rest,n,_,rfl,rfl,_,hl,hm,hlen,hel,_,_⟩
 ·exact ⟨[],⟨by simp,by simp⟩,by unfold aG;exact ⟨_,_,rfl,uA (Nat.zero_le _) _ _ (by unfold aA;rfl),by unfold aG;rfl⟩,by simp [Value.oneCell']⟩
 ·have hz':(elems.length+rest.length)*b≤140737488351232∧∀ x∈elems,∀ n∈DataW.weights P e x.1,n≤reachBytes:=by
   unfold DataW.weights at hz
   simp only [hT] at hz
   refine ⟨?_,fun x hx n hn=>hz n (List.mem_cons_of_mem _ (List.mem_append.2 (.inl (aQ4 (List.mem_map.2 ⟨x,hx,rfl⟩) hn))))⟩
   have:=hz _ (List.mem_cons_self)
   rw [hb] at this
   have hr:reachBytes=140737488351232:=rfl
   simpa [hr] using this
  have hlb:len*b≤140737488351232:=Nat.le_trans (Nat.mul_le_mul_right b (by omega)) hz'.1
  rw [hk] at hel
  have each:∀ i,i<len→∃ d:α,wf d∧∃ ds:List Value,w.cells? base (a.add (i*k)) k=some ds∧aG (E0 w) (av d) ds∧∀ u∈ds,u.oneCell'=true:=fun i hi=>by
   have h1:=hel i hi
   rw [List.getElem?_eq_getElem (by omega),Option.bind_eq_some_iff] at h1
   obtain ⟨ds,h2,h3⟩:=h1
   obtain ⟨d,h4,h5,h6⟩:=he n ds _ h3 (hz'.2 _ (List.getElem_mem _))
   exact ⟨d,h4,ds,h2,h5,h6⟩
  let f:Nat→α:=fun i=>if h:i<len then Classical.choose (each i h) else d0
  have hf:∀ i,i<len→wf (f i)∧∃ ds:List Value,w.cells? base (a.add (i*k)) k=some ds∧aG (E0 w) (av (f i)) ds∧∀ u∈ds,u.oneCell'=true:=fun i hi=>by
   have:f i=Classical.choose (each i hi):=by simp [f,hi]
   rw [this]
   exact Classical.choose_spec (each i hi)
  have hg:∀ j,j<len→((List.range len).map f).getD j d0=f j:=fun j hj=>by simp [hj]
  refine ⟨(List.range len).map f,⟨fun d hd=>?_,by simpa using hlb⟩,?_,by simp [Value.oneCell']⟩
  ·obtain ⟨i,hi,rfl⟩:=List.mem_map.1 hd
   exact (hf i (List.mem_range.1 hi)).1
  ·unfold aG
   refine ⟨_,_,rfl,?_,by unfold aG;rfl⟩
   unfold aA
   refine ⟨some a,cap,by simp,by simpa using hl,hm,fun hpos=>?_⟩
   have hp:0<len:=by simpa using hpos
   obtain ⟨_,ds,h2,h3,_⟩:=hf 0 hp
   rw [Nat.zero_mul] at h2
   obtain ⟨hl2,h4⟩:=aQ2 h2
   have h5:=h4 0 h0
   rw [List.getElem?_eq_getElem (by omega)] at h5
   obtain ⟨h6,h7⟩:=aQ3 h5
   have ha:a.add 0=a:=rfl
   have hspot:a.spot=none:=by simpa [Addr.add] using h6
   have hblk:a.block<w.heap.size:=by simpa [Addr.add] using h7
   refine ⟨a.block,a.off,by cases a;simp at hspot;subst hspot;rfl,E0.ok hblk,fun j hj=>?_⟩
   have hj':j<len:=by simpa using hj
   obtain ⟨_,ds',k2,k3,k4⟩:=hf j hj'
   obtain ⟨u,k5,k6⟩:=hrow _ _ k3 k4
   obtain ⟨kl,k7⟩:=aQ2 k2
   simp only [hg j hj']
   refine ⟨u,k5,by rw [←Array.length_toList,k6,kl],fun i v hv=>?_⟩
   rw [k6] at hv
   have hi:i<k:=by rw [←kl];exact (List.getElem?_eq_some_iff.1 hv).1
   have:=k7 i hi
   rw [hv] at this
   show w.cell? ⟨a.block,a.off+j*k+i,none⟩=some v
   rw [←this]
   congr 1
   unfold Addr.add
   cases a
   simp at hspot
   subst hspot
   by_cases e1:i=0
   ·subst e1
    by_cases e2:j*k=0<;>simp [e2]
   ·by_cases e2:j*k=0<;>simp [e1,e2]
theorem nS {α:Type}{f:α→Av}(d:α)(cs:List Value)(h:aG (E0 w) [f d] cs)(h1:∀ u∈cs,u.oneCell'=true):∃ u:Value,aA (E0 w) (f d) u∧u.cells.toList=cs:=by
 unfold aG at h
 obtain ⟨v,us,rfl,h2,h3⟩:=h
 unfold aG at h3
 subst h3
 exact ⟨v,h2,by rw [tN (h1 v (by simp))]⟩
theorem aAR {α:Type}{f:α→List Av}(d:α)(cs:List Value)(h:aG (E0 w) (f d) cs)(h1:∀ u∈cs,u.oneCell'=true):∃ u:Value,aA (E0 w) (.agg (f d)) u∧u.cells.toList=cs:=
 ⟨.agg cs.toArray,by unfold aA;exact ⟨cs,rfl,h,h1⟩,by simp [Value.cells]⟩
def aD8 (enc:TypeId × Value→H)(P:Program)(w:World)(base:Nat)(spare:Nat→Bool)(held:Bool)(o:Nat)(fs:List Field)(m:Nat)(β:Type)(av:β→List Av)(wf:β→Prop):Prop:=
 ∀ (fuel:Nat) (cs:List Value),(∀ f∈fs,∃ y,DataW.trod enc P w base spare held fuel f.type ((cs.drop f.offset).take (P.cellsOf f.type))=some y∧∀ n∈DataW.weights P f.type y.1,n≤reachBytes)→∃ d:β,wf d∧aG (E0 w) (av d) ((cs.drop o).take m)∧∀ u∈(cs.drop o).take m,u.oneCell'=true
theorem wF {o:Nat}:aD8 enc P w base spare held o [] 0 Unit (fun _=>[]) (fun _=>True):=fun fuel cs _=>⟨(),trivial,by unfold aG;simp,by simp⟩
theorem dV {o k m:Nat}{f:Field}{fs:List Field}{α β:Type}{av:α→List Av}{wf:α→Prop}{avs:β→List Av}{wfs:β→Prop}(ho:f.offset=o)(hk:P.cellsOf f.type=k)(h:kJ enc P w base spare held f.type α av wf)(hs:aD8 enc P w base spare held (o+k) fs m β avs wfs):
 aD8 enc P w base spare held o (f::fs) (k+m) (α × β) (fun d=>av d.1++avs d.2) (fun d=>wf d.1∧wfs d.2):=fun fuel cs hf=>by
 obtain ⟨y,hy,hz⟩:=hf f (by simp)
 rw [ho,hk] at hy
 obtain ⟨a,h1,h2,h3⟩:=h _ _ _ hy hz
 obtain ⟨b,h4,h5,h6⟩:=hs fuel cs fun g hg=>hf g (by simp [hg])
 have e:(cs.drop o).take (k+m)=(cs.drop o).take k++(cs.drop (o+k)).take m:=by rw [List.take_add,List.drop_drop]
 refine ⟨(a,b),⟨h1,h4⟩,by rw [e];exact aG.append h2 h5,fun u hu=>?_⟩
 rw [e] at hu
 rcases List.mem_append.1 hu with hu|hu
 ·exact h3 u hu
 ·exact h6 u hu
theorem wG {T:TypeId}{fs:List Field}{m:Nat}{β:Type}{av:β→List Av}{wf:β→Prop}(hT:P.underlying T=some (.struct fs.toArray))(hm:P.cellsOf T=m)(h:aD8 enc P w base spare held 0 fs m β av wf):kJ enc P w base spare held T β av wf:=fun fuel cs y hy hz=>by
 obtain ⟨xs,n,_,rfl,hl,hlen,hg⟩:=DataW.trod_struct hT hy
 obtain ⟨d,h1,h2,h3⟩:=h n cs fun f hf=>by
  obtain ⟨i,hi⟩:=List.getElem?_of_mem hf
  have hlt:=(List.getElem?_eq_some_iff.1 hi).1
  have:=hg i f (by simpa using hi)
  have hx:i<xs.length:=by rw [hlen];simpa using hlt
  rw [List.getElem?_eq_getElem hx] at this
  refine ⟨_,this,fun k hk=>hz k ?_⟩
  unfold DataW.weights
  simp only [hT]
  exact DataW.weights_mem_each (j:=i) (by simp [hi]) (by simp [hx]) k hk
 have e:(cs.drop 0).take m=cs:=by rw [List.drop_zero,List.take_of_length_le (by omega)]
 rw [e] at h2 h3
 exact ⟨d,h1,h2,h3⟩
theorem aHX {r:Reach}{b0:Nat}{T:TypeId}{fs:Array Field}{β:Type}{av:β→List Av}{wf:β→Prop}{v:Value}{d:DataW H}{p:List MemPlace}(hT:P.underlying T=some (.struct fs))(ho:kJ enc P w base spare held T β av wf)(hv:Value.okWide P w r b0 T v)(h:DataW.Trod enc P w base spare held T v d p)(hz:∀ n∈DataW.weights P T d,n≤reachBytes):∃ x:β,wf x∧aA (E0 w) (.agg (av x)) v:=by
 obtain ⟨cs,rfl,_⟩:=okWide_struct hT hv
 obtain ⟨fuel,hf⟩:=h
 obtain ⟨x,h1,h2,h3⟩:=ho _ _ _ hf hz
 have e:(Value.agg cs).cells.toList=cs.toList:=by simp [Value.cells]
 rw [e] at h2 h3
 exact ⟨x,h1,by unfold aA;exact ⟨cs.toList,by simp,h2,h3⟩⟩
theorem aaZ {T:TypeId}{β:Type}{f:β→Av}{wf:β→Prop}{v:Value}{d:DataW H}{p:List MemPlace}(ho:kJ enc P w base spare held T β (fun x=>[f x]) wf)(h1c:v.cells=#[v])(h:DataW.Trod enc P w base spare held T v d p)(hz:∀ n∈DataW.weights P T d,n≤reachBytes):∃ x:β,wf x∧aA (E0 w) (f x) v:=by
 obtain ⟨fuel,hf⟩:=h
 obtain ⟨x,h1,h2,h3⟩:=ho _ _ _ hf hz
 rw [h1c] at h2
 unfold aG at h2
 obtain ⟨v',us,e,h4,_⟩:=h2
 simp at e
 obtain ⟨rfl,_⟩:=e
 exact ⟨x,h1,h4⟩
end
theorem PC.law {P:Program}{f:FuncId}{xs:List Av}{vs:List Value}{w:World}(h:PC P f xs (vb true))(hv:aG (E0 w) xs vs)(hs:qY (E0 w):=by intro g hg;simp [aBS] at hg):Calls P f vs.toArray w fun e w'=>e=.returned (.bool true)∧Below w.heap.size w w':=
 (h (E0 w) vs (E0.good w hs) hv (fun n y hn=>by simp [aL] at hn) (fun n hn=>by simp at hn) (fun n _=>rfl)).mono fun e w' ⟨E',v,he,hw,hG,hK,hr,_⟩=>by
  unfold aA at hr
  subst hr
  subst hw
  exact ⟨he,⟨hK.os,hK.tape,hK.output,hK.size,fun k hk=>hK.keep k hk fun n h=>(by cases h)⟩⟩
end Go.Proofs.YtnklgkjfoggpbaaGreatDoor
namespace Go.Proofs.YtnklgkjfoggpbaaGreatDoor
open Go.RowKit
def mP : List (String × DataW Unit) := [("unicode/utf8.acceptRanges", Rows.laid_unicode_utf8_acceptRanges), ("unicode/utf8.first", Rows.laid_unicode_utf8_first)]
theorem aHZ {w:World}(h:w.ShapedOpen Tryz.prog):qY (E0 w):=fun g hg=>by
 have e:g=0:=by simpa [aBS] using hg
 subst e
 obtain ⟨m,hm⟩:=Tryz.laysM219.s1_3 w h
 exact ⟨E0.ok (aQ3 hm).2,m,hm⟩
theorem aHV (os:Os)(args:Array Value):((World.laidAll Tryz.prog os mP).forCall (fun _ _=>0) ⟨#[],args,[]⟩).Shaped Tryz.prog:=World.shaped_of_ZipB (by kernel_rfl) (by kernel_rfl)
theorem aHW (os:Os)(args:Array Value):laidMetH Tryz.prog mP ((World.laidAll Tryz.prog os mP).forCall (fun _ _=>0) ⟨#[],args,[]⟩).memory:=by
 rw [MakeChecks.laidMetH_plain _ _ _ (by kernel_rfl)]
 exact laidMet_laidAll _ (by kernel_rfl) (by kernel_rfl)
theorem aHU {a:Assume}{C:Checked}{os:Os}{f:FuncId}{fn:Func}{H:Type}{enc:TypeId × Value→H}{s:ChangeSpec}{conds:List PathCond}{apart fresh handsOn again:Bool}{X:World→Array Value→Prop}
 (hX:∀ (w w':World) (args:Array Value),w.heap=w'.heap→X w args→X w' args)
 (own:ownKnob C.prog.godebug=none) (started:os.Started) (noInit:C.prog.inits.idxOf? f=none) (hfn:C.prog.funcs[f]?=some fn)
 (witness:∃ (w:World) (tape:Tape) (i:Input),w.os=os∧(w.forCall tape i).Shaped C.prog∧i.vars=[]∧Input.okWide C.prog (w.forCall tape i) .any w.heap.size f i∧
  ((s.pre enc C.prog fn conds apart (w.forCall tape i).memory i.args∧X (w.forCall tape i).memory i.args)∧sizedMet enc C.prog fn (OpenSpec.ofChange s) apart (w.forCall tape i).memory i.args)∧a.holds C.prog (lone (Frame.enter C.prog f i.args .normal) [] (w.forCall tape i)))
 (contract:∀ (W:World) (base:Nat) (args:Array Value) (ds gs:List (DataW H)) (before:List MemPlace),W.ShapedOpen C.prog→
  (∀ (j:Nat) t v,fn.params[j]?=some t→args[j]?=some v→Value.okWide C.prog W .any base t v)→
  DataW.Whole enc C.prog fn.params.toList s.vars apart W args.toList ds gs before→
  (DataW.weightsEach C.prog (fn.params.toList++s.plain.varTypes C.prog) (ds++gs)).all (·≤reachBytes)=true→
  Calls C.prog f args W fun e W'=>∃ v,e=.returned v∧s.post enc C.prog fn apart fresh handsOn again W args v W'):
 ReturnsInHanded a C os f .any (fun w args=>(s.pre enc C.prog fn conds apart w args∧X w args)∧sizedMet enc C.prog fn (OpenSpec.ofChange s) apart w args) (s.post enc C.prog fn apart fresh handsOn again):=by
 refine returnsInHanded_of_calls own started noInit witness ?_
 intro w tape i _ hsh _ hok hpre hholds
 obtain ⟨_,_,_,fn',hfn',_,_,_,_,hval⟩:=hok
 have e:fn'=fn:=Option.some.inj (hfn'.symm.trans hfn)
 subst e
 obtain ⟨⟨⟨ds,gs,before,hw,hc⟩,hx⟩,hz⟩:=hpre
 have hw':=DataW.Whole.of_heap (w':=w.forCall tape i) (by rfl) hw
 refine (contract (w.forCall tape i) w.heap.size i.args ds gs before hsh hval hw' (hz.weights hw)).mono fun e W' ⟨v,he,hp⟩=>?_
 subst he
 exact ChangeSpec.post_blind hp
end Go.Proofs.YtnklgkjfoggpbaaGreatDoor
