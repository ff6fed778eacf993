/- Parts of the proof of a law of this seat: rules and contracts; no conditions. -/
import Derived.Test.YtnklgkjfoggpbaaGreatDoorWireSpec
import Derived.Test.YtnklgkjfoggpbaaGreatDoorLt
import Derived.Test.YtnklgkjfoggpbaaGreatDoorWb
import Derived.Test.YtnklgkjfoggpbaaGreatDoorProg
import Derived.KernelRfl
set_option maxHeartbeats 6400000
set_option maxRecDepth 100000
set_option linter.unusedVariables false
set_option linter.unusedSimpArgs false
namespace Go.Proofs.YtnklgkjfoggpbaaGreatDoor
open Go.RowKit
theorem ac0 (t:TabP)(ht:t.wf):PC Tryz.prog 29 [bR t] (vb (aAM t)):=by
 refine FC.body 6 61 Tryz.func29 rfl (by kernel_rfl) ?_
 refine dM (t:=0) (x:=bR t) rfl (qO t) fun hf=>?_
 have hf1:=hf.params
 have hf2:=hf.texts
 have hf3:=hf.things
 have hf4:=hf.acts
 have hf5:=hf.locals
 have hf6:=hf.deeds
 have hf7:=hf.funcs
 have hf8:=hf.daemons
 refine sq ?_
 refine Z1 bx ?_
 refine Z1 aB ?_
 refine cn ?_
 refine sq ?_
 refine Z1 (fa 4) ?_
 refine Z1 ld ?_
 refine Z1 ln ?_
 refine Z1 bz ?_
 refine Z1 mo ?_
 refine Z4 (fun hC=>fa 4) ?_
 refine Z4 (fun hC=>ld) ?_
 refine aW (R:=[]) rfl rfl rfl cA (fun hC=>jP rfl (by kernel_rfl) (aU5 t.texts 25 [] qN (by kernel_rfl) trivial fun x hx=>amD x (ht.texts x hx)) rfl (by simp only [bE,aN,and_self,dG,dY,cP,bV,dZ,eA,eC,eD,eE,eF,eG,eH,eI,eJ]) (by simp only [bE,aN,and_self,dG,dY,cP,bV,dZ,eA,eC,eD,eE,eF,eG,eH,eI,eJ])) (fun hC=>⟨(by first|rfl|exact hC|(simp only [Bool.and_eq_true] at hC;first|exact hC.1|exact hC.1.1|exact hC.2)|simp_all),(by first|rfl|exact hC|(simp only [Bool.and_eq_true] at hC;first|exact hC.1|exact hC.1.1|exact hC.2)|simp_all),(by first|rfl|exact hC|(simp only [Bool.and_eq_true] at hC;first|exact hC.1|exact hC.1.1|exact hC.2)|simp_all),trivial⟩) trivial ?_
 refine Z1 an ?_
 refine Z1 mo ?_
 refine Z4 (fun hC=>lr) ?_
 refine Z4 (fun hC=>fa 0) ?_
 refine Z4 (fun hC=>ld) ?_
 refine Z4 (fun hC=>ca (aBQ t _)) ?_
 refine Z1 an ?_
 refine Z1 mo ?_
 refine Z4 (fun hC=>lr) ?_
 refine Z4 (fun hC=>fa 1) ?_
 refine Z4 (fun hC=>ld) ?_
 refine Z4 (fun hC=>ca (aBQ t _)) ?_
 refine Z1 an ?_
 refine Z1 mo ?_
 refine Z4 (fun hC=>fa 2) ?_
 refine Z4 (fun hC=>ld) ?_
 refine Z4 (fun hC=>ca (nO _ _ _)) ?_
 refine Z1 an ?_
 refine Z1 mo ?_
 refine Z4 (fun hC=>fa 3) ?_
 refine Z4 (fun hC=>ld) ?_
 refine Z4 (fun hC=>ca (nO _ _ _)) ?_
 refine Z1 an ?_
 refine Z1 mo ?_
 refine Z4 (fun hC=>fa 5) ?_
 refine Z4 (fun hC=>ld) ?_
 refine Z4 (fun hC=>ca (nO _ _ _)) ?_
 refine Z1 an ?_
 refine Z1 mo ?_
 refine Z4 (fun hC=>fa 6) ?_
 refine Z4 (fun hC=>ld) ?_
 refine Z4 (fun hC=>ln) ?_
 refine Z4 (fun hC=>bz) ?_
 refine Z1 an ?_
 refine Z1 mo ?_
 refine Z4 (fun hC=>fa 7) ?_
 refine Z4 (fun hC=>ld) ?_
 refine Z4 (fun hC=>ln) ?_
 refine Z4 (fun hC=>bz) ?_
 refine Z1 an ?_
 refine Z1 mo ?_
 refine Z4 (fun hC=>fa 6) ?_
 refine Z4 (fun hC=>ld) ?_
 refine aW (R:=[]) rfl rfl rfl cA (fun hC=>jP rfl (by kernel_rfl) (xW t.props 96 [] pW (by kernel_rfl) trivial fun z hz=>aLR z) rfl (by simp only [bE,aN,and_self,dG,dY,cP,bV,dZ,eA,eC,eD,eE,eF,eG,eH,eI,eJ]) (by simp only [bE,aN,and_self,dG,dY,cP,bV,dZ,eA,eC,eD,eE,eF,eG,eH,eI,eJ])) (fun hC=>⟨(by first|rfl|exact hC|(simp only [Bool.and_eq_true] at hC;first|exact hC.1|exact hC.1.1|exact hC.2)|simp_all),(by first|rfl|exact hC|(simp only [Bool.and_eq_true] at hC;first|exact hC.1|exact hC.1.1|exact hC.2)|simp_all),(by first|rfl|exact hC|(simp only [Bool.and_eq_true] at hC;first|exact hC.1|exact hC.1.1|exact hC.2)|simp_all),trivial⟩) trivial ?_
 refine Z1 an ?_
 refine Z1 mo ?_
 refine Z4 (fun hC=>fa 7) ?_
 refine Z4 (fun hC=>ld) ?_
 refine aW (R:=[]) rfl rfl rfl cA (fun hC=>jP rfl (by kernel_rfl) (xW t.globals 96 [] pW (by kernel_rfl) trivial fun z hz=>aLR z) rfl (by simp only [bE,aN,and_self,dG,dY,cP,bV,dZ,eA,eC,eD,eE,eF,eG,eH,eI,eJ]) (by simp only [bE,aN,and_self,dG,dY,cP,bV,dZ,eA,eC,eD,eE,eF,eG,eH,eI,eJ])) (fun hC=>⟨(by first|rfl|exact hC|(simp only [Bool.and_eq_true] at hC;first|exact hC.1|exact hC.1.1|exact hC.2)|simp_all),(by first|rfl|exact hC|(simp only [Bool.and_eq_true] at hC;first|exact hC.1|exact hC.1.1|exact hC.2)|simp_all),(by first|rfl|exact hC|(simp only [Bool.and_eq_true] at hC;first|exact hC.1|exact hC.1.1|exact hC.2)|simp_all),trivial⟩) trivial ?_
 refine Z1 an ?_
 refine Z1 aB ?_
 refine cn ?_
 refine aP ?_
 exact ⟨.inl rfl,aF.tmp rfl rfl,trivial⟩
theorem ac1 (t:TabP):PC Tryz.prog 30 [bR t] (vb (yP t)):=by
 refine FC.body 6 40 Tryz.func30 rfl (by kernel_rfl) ?_
 refine dM (t:=0) (x:=bR t) rfl (qO t) fun hf=>?_
 have hf1:=hf.params
 have hf2:=hf.texts
 have hf3:=hf.things
 have hf4:=hf.acts
 have hf5:=hf.locals
 have hf6:=hf.deeds
 have hf7:=hf.funcs
 have hf8:=hf.daemons
 refine sq ?_
 refine Z1 bx ?_
 refine Z1 aB ?_
 refine cn ?_
 refine aD ?_
 refine sq ?_
 refine Z1 (fa 13) ?_
 refine Z1 ld ?_
 refine Z1 ln ?_
 refine Z1 (fa 14) ?_
 refine Z1 ld ?_
 refine Z1 ln ?_
 refine Z1 bz ?_
 refine Z1 mo ?_
 refine Z4 (fun hC=>fa 13) ?_
 refine Z4 (fun hC=>ld) ?_
 refine Z4 (fun hC=>ln) ?_
 refine Z4 (fun hC=>bz) ?_
 refine Z1 cC ?_
 refine cn ?_
 refine cd (fun hb=>?_) fun hb=>?_
 ·have hw:aBI t=true:=hb
  refine sq ?_
  refine Z1 aB ?_
  refine cn ?_
  refine aP ?_
  exact ⟨.inl rfl,aF.tmp rfl (bP (by unfold yP;rw [hw];rfl)),trivial⟩
 ·have hw:aBI t=false:=hb
  have hl:t.params.length=t.locals.length:=by
   unfold aBI at hw
   simp at hw
   omega
  refine aQ ?_
  refine aD ?_
  refine sq ?_
  refine Z1 (fa 13) ?_
  refine Z1 ld ?_
  refine Z1 ln ?_
  refine Z1 mo ?_
  refine cn ?_
  refine aU ?_
  refine bM (ι:=Nat) (fun k=>⟨[(1,.ptr (bR t)),(19,aK t.params),(20,vi t.params.length),(21,vi k)],[]⟩) (fun k=>k≤t.params.length∧∀ j,j<k→(!uW t j)=true) (fun k=>t.params.length-k) 0 (⟨Nat.zero_le _,qF⟩) (Le.sub (by repeat (first|trivial|refine ⟨.inr rfl,?_⟩|refine ⟨.inr (aR (by omega)),?_⟩)) (by repeat (first|trivial|refine ⟨rfl,?_⟩))) ?_
  intro k hI
  refine sq ?_
  refine Z1 bz ?_
  refine cn ?_
  refine aD ?_
  refine cd (fun hb=>?_) fun hb=>?_
  ·have hlt:k<t.params.length:=by simpa using hb
   refine aQ ?_
   refine aD ?_
   refine aU ?_
   refine sq ?_
   refine Z1 mo ?_
   refine Z1 ia ?_
   refine Z1 ld ?_
   refine Z1 aB ?_
   refine Z1 aB ?_
   refine cn ?_
   refine sq ?_
   refine Z1 mo ?_
   refine Z1 (ca (nO _ _ _)) ?_
   refine Z1 nt ?_
   refine Z1 mo ?_
   refine Z4 (fun hC=>fa 14) ?_
   refine Z4 (fun hC=>ld) ?_
   refine Z4 (fun hC=>mo) ?_
   refine Z4 (fun hC=>ia) ?_
   refine Z4 (fun hC=>ld) ?_
   refine Z4 (fun hC=>mo) ?_
   refine Z4 (fun hC=>ca (nO _ _ _)) ?_
   refine Z4 (fun hC=>nt) ?_
   refine Z1 cC ?_
   refine cn ?_
   refine cd (fun hb=>?_) fun hb=>?_
   ·refine sq ?_
    refine Z1 aB ?_
    refine cn ?_
    refine aP ?_
    exact ⟨.inl rfl,aF.tmp rfl (bP (by unfold yP;rw [nD (p:=fun j=>!uW t j) hlt (by rw [show uW t k=true from hb];rfl),Bool.and_false])),trivial⟩
   ·refine aQ ?_
    refine tx ?_
    refine Z1 ba ?_
    refine Z1 mo ?_
    refine cn ?_
    exact ⟨k+1,⟨by omega,mC (p:=fun j=>!uW t j) hI.2 (by rw [show uW t k=false from hb];rfl)⟩,by omega,Le.sub (by repeat (first|trivial|refine ⟨.inr rfl,?_⟩|refine ⟨.inr (aR (by omega)),?_⟩)) (by repeat (first|trivial|refine ⟨rfl,?_⟩))⟩
  ·have hge:k=t.params.length:=by simp at hb;omega
   refine bU ?_
   refine sq ?_
   refine Z1 aB ?_
   refine cn ?_
   refine aP ?_
   exact ⟨.inl rfl,aF.tmp rfl (bP (by unfold yP;rw [sP (p:=fun j=>!uW t j) fun j hj=>hI.2 j (by omega),hw];rfl)),trivial⟩
theorem amE (x:ThingP):PC Tryz.prog 97 [iT x] (vb (aE6 x)):=by
 refine FC.body 6 45 Tryz.func97 rfl (by kernel_rfl) ?_
 refine W ?_
 refine aW (R:=[]) rfl rfl rfl cA (fun hC=>jP rfl (by kernel_rfl) (xW x.props 157 [] (fun z=>z==0) (by kernel_rfl) trivial fun z hz=>al0 z) rfl (by simp only [bE,aN,and_self,dG,dY,cP,bV,dZ,eA,eC,eD,eE,eF,eG,eH,eI,eJ]) (by simp only [bE,aN,and_self,dG,dY,cP,bV,dZ,eA,eC,eD,eE,eF,eG,eH,eI,eJ])) (fun hC=>⟨(by first|rfl|exact hC|(simp only [Bool.and_eq_true] at hC;first|exact hC.1|exact hC.1.1|exact hC.2)|simp_all),(by first|rfl|exact hC|(simp only [Bool.and_eq_true] at hC;first|exact hC.1|exact hC.1.1|exact hC.2)|simp_all),(by first|rfl|exact hC|(simp only [Bool.and_eq_true] at hC;first|exact hC.1|exact hC.1.1|exact hC.2)|simp_all),trivial⟩) trivial ?_
 refine W ?_
 exact ⟨.inl rfl,aF.tmp rfl rfl,trivial⟩
theorem amF (t:TabP)(l:List WayP):PC Tryz.prog 158 [bR t,kZ l] (vb (yO t l)):=by
 refine FC.body 6 57 Tryz.func158 rfl (by kernel_rfl) ?_
 refine dM (t:=1) (x:=kZ l) rfl eR fun hx=>?_
 refine sq ?_
 refine Z1 bx ?_
 refine Z1 aB ?_
 refine cn ?_
 refine sq ?_
 refine Z1 aB ?_
 refine cn ?_
 refine aD ?_
 refine sq ?_
 refine Z1 mo ?_
 refine Z1 ln ?_
 refine Z1 mo ?_
 refine cn ?_
 refine aU ?_
 refine bM (ι:=Nat) (fun k=>⟨[(2,.ptr (bR t)),(5,vi (qS l k)),(8,kZ l),(9,vi l.length),(10,vi k)],[(0,.unborn)]⟩) (fun k=>k≤l.length∧∀ j,j<k→(!uV t (qS l j) (l.getD j dD))=true) (fun k=>l.length-k) 0 (⟨Nat.zero_le _,qF⟩) (Le.sub (by repeat (first|trivial|refine ⟨.inr rfl,?_⟩|refine ⟨.inr (aR (by omega)),?_⟩)) (by repeat (first|trivial|refine ⟨rfl,?_⟩))) ?_
 intro k hI
 refine sq ?_
 refine Z1 bz ?_
 refine cn ?_
 refine aD ?_
 refine cd (fun hb=>?_) fun hb=>?_
 ·have hlt:k<l.length:=by have h0:=of_decide_eq_true hb;omega
  refine aQ ?_
  refine aD ?_
  refine aU ?_
  refine sq ?_
  refine Z1 ia ?_
  refine Z1 lr ?_
  refine Z2 (al 0 [.int .i64 0,.int .i64 0,.int .i64 0,.int .i64 0]) ?_
  refine fP rfl rfl (sY (x:=.agg _) (cs':=[_,_,_,_]) rfl rfl rfl rfl (by kernel_rfl) (by first|decide|simp) (by first|decide|simp) rfl) ⟨rfl,trivial⟩ ?_
  refine cn ?_
  refine aD ?_
  refine sq ?_
  refine aS 0 1 false ?_
  refine bG ?_
  refine Z1 mo ?_
  refine Z1 bz ?_
  refine Z1 mo ?_
  refine aW (R:=[(_,.live _ _)]) rfl rfl rfl eV (fun hC=>eU (off:=0) (sz:=1) (r:=false) rfl rfl (by first|decide|simp) (by kernel_rfl) (by decide)) (fun hC=>⟨(by first|rfl|exact hC|(simp only [Bool.and_eq_true] at hC;first|exact hC.1|exact hC.1.1|exact hC.2)|simp_all),trivial⟩) ⟨rfl,trivial⟩ ?_
  refine aW (R:=[(_,.live _ _)]) rfl rfl rfl eV (fun hC=>fL rfl rfl (by kernel_rfl) rfl) (fun hC=>⟨(by first|rfl|exact hC|(simp only [Bool.and_eq_true] at hC;first|exact hC.1|exact hC.1.1|exact hC.2)|simp_all),trivial⟩) ⟨rfl,trivial⟩ ?_
  refine Z4 (fun hC=>bz) ?_
  refine Z1 cC ?_
  refine Z1 mo ?_
  refine Z4 (fun hC=>lr) ?_
  refine aW (R:=[(_,.live _ _)]) rfl rfl rfl eV (fun hC=>eU (off:=1) (sz:=1) (r:=false) rfl rfl (by first|decide|simp) (by kernel_rfl) (by decide)) (fun hC=>⟨(by first|rfl|exact hC|(simp only [Bool.and_eq_true] at hC;first|exact hC.1|exact hC.1.1|exact hC.2)|simp_all),trivial⟩) ⟨rfl,trivial⟩ ?_
  refine aW (R:=[(_,.live _ _)]) rfl rfl rfl eV (fun hC=>fL rfl rfl (by kernel_rfl) rfl) (fun hC=>⟨(by first|rfl|exact hC|(simp only [Bool.and_eq_true] at hC;first|exact hC.1|exact hC.1.1|exact hC.2)|simp_all),trivial⟩) ⟨rfl,trivial⟩ ?_
  refine Z4 (fun hC=>ca (aU3 t _)) ?_
  refine Z4 (fun hC=>nt) ?_
  refine Z1 cC ?_
  refine Z1 mo ?_
  refine aW (R:=[(_,.live _ _)]) rfl rfl rfl eV (fun hC=>eU (off:=2) (sz:=1) (r:=false) rfl rfl (by first|decide|simp) (by kernel_rfl) (by decide)) (fun hC=>⟨(by first|rfl|exact hC|(simp only [Bool.and_eq_true] at hC;first|exact hC.1|exact hC.1.1|exact hC.2)|simp_all),trivial⟩) ⟨rfl,trivial⟩ ?_
  refine aW (R:=[(_,.live _ _)]) rfl rfl rfl eV (fun hC=>fL rfl rfl (by kernel_rfl) rfl) (fun hC=>⟨(by first|rfl|exact hC|(simp only [Bool.and_eq_true] at hC;first|exact hC.1|exact hC.1.1|exact hC.2)|simp_all),trivial⟩) ⟨rfl,trivial⟩ ?_
  refine Z4 (fun hC=>bz) ?_
  refine Z4 (fun hC=>mo) ?_
  refine Z4 (fun hC=>lr) ?_
  refine aW (R:=[(_,.live _ _)]) rfl rfl rfl lO (fun hC=>eU (off:=2) (sz:=1) (r:=false) rfl rfl (by first|decide|simp) (by kernel_rfl) (by decide)) (fun hC=>⟨(by first|rfl|exact hC|(simp only [Bool.and_eq_true] at hC;first|exact hC.1|exact hC.1.1|exact hC.2)|simp_all),trivial⟩) ⟨rfl,trivial⟩ ?_
  refine aW (R:=[(_,.live _ _)]) rfl rfl rfl lO (fun hC=>fL rfl rfl (by kernel_rfl) rfl) (fun hC=>⟨(by first|rfl|exact hC|(simp only [Bool.and_eq_true] at hC;first|exact hC.1|exact hC.1.1|exact hC.2)|simp_all),trivial⟩) ⟨rfl,trivial⟩ ?_
  refine Z4 (fun hC=>ca (aFO t _)) ?_
  refine Z4 (fun hC=>nt) ?_
  refine Z5 ?_
  refine Z1 cC ?_
  refine Z1 mo ?_
  refine aW (R:=[(_,.live _ _)]) rfl rfl rfl eV (fun hC=>eU (off:=3) (sz:=1) (r:=false) rfl rfl (by first|decide|simp) (by kernel_rfl) (by decide)) (fun hC=>⟨(by first|rfl|exact hC|(simp only [Bool.and_eq_true] at hC;first|exact hC.1|exact hC.1.1|exact hC.2)|simp_all),trivial⟩) ⟨rfl,trivial⟩ ?_
  refine aW (R:=[(_,.live _ _)]) rfl rfl rfl eV (fun hC=>fL rfl rfl (by kernel_rfl) rfl) (fun hC=>⟨(by first|rfl|exact hC|(simp only [Bool.and_eq_true] at hC;first|exact hC.1|exact hC.1.1|exact hC.2)|simp_all),trivial⟩) ⟨rfl,trivial⟩ ?_
  refine Z4 (fun hC=>bz) ?_
  refine Z4 (fun hC=>mo) ?_
  refine Z4 (fun hC=>lr) ?_
  refine aW (R:=[(_,.live _ _)]) rfl rfl rfl lO (fun hC=>eU (off:=3) (sz:=1) (r:=false) rfl rfl (by first|decide|simp) (by kernel_rfl) (by decide)) (fun hC=>⟨(by first|rfl|exact hC|(simp only [Bool.and_eq_true] at hC;first|exact hC.1|exact hC.1.1|exact hC.2)|simp_all),trivial⟩) ⟨rfl,trivial⟩ ?_
  refine aW (R:=[(_,.live _ _)]) rfl rfl rfl lO (fun hC=>fL rfl rfl (by kernel_rfl) rfl) (fun hC=>⟨(by first|rfl|exact hC|(simp only [Bool.and_eq_true] at hC;first|exact hC.1|exact hC.1.1|exact hC.2)|simp_all),trivial⟩) ⟨rfl,trivial⟩ ?_
  refine Z4 (fun hC=>ca (aBQ t _)) ?_
  refine Z4 (fun hC=>nt) ?_
  refine Z5 ?_
  refine Z1 cC ?_
  refine cn ?_
  refine cd (fun hb=>?_) fun hb=>?_
  ·refine sq ?_
   refine Z1 aB ?_
   refine cn ?_
   refine aP ?_
   exact ⟨.inl rfl,aF.tmp rfl (bP (by unfold yO;rw [nD (p:=fun j=>!uV t (qS l j) (l.getD j dD)) hlt (by rw [show uV t (qS l k) (l.getD k dD)=true from hb];rfl)])),trivial⟩
  ·refine aQ ?_
   refine tx ?_
   refine aS 0 1 false ?_
   refine bG ?_
   refine Z1 aB ?_
   refine cn ?_
   refine tx ?_
   refine Z1 ba ?_
   refine Z1 mo ?_
   refine cn ?_
   exact ⟨k+1,⟨by omega,mC (p:=fun j=>!uV t (qS l j) (l.getD j dD)) hI.2 (by rw [show uV t (qS l k) (l.getD k dD)=false from hb];rfl)⟩,by omega,Le.reset [0] (by simp) (by repeat (first|trivial|refine ⟨.inr rfl,?_⟩|refine ⟨.inr (aR (by omega)),?_⟩)) (nJ (by simp only [pS,bE,aN,and_self,dG,dY,cP,bV,dZ,eA,eC,eD,eE,eF,eG,eH,eI,eJ])) (by simp [lK])⟩
 ·have hge:k=l.length:=by have h0:=of_decide_eq_false hb;omega
  refine bU ?_
  refine sq ?_
  refine Z1 aB ?_
  refine cn ?_
  refine aP ?_
  exact ⟨.inl rfl,aF.tmp rfl (bP (by unfold yO;rw [sP (p:=fun j=>!uV t (qS l j) (l.getD j dD)) fun j hj=>hI.2 j (by omega)])),trivial⟩
theorem amG (t:TabP)(hfl:0≤t.flags)(x:ThingP)(hx:x.wf):PC Tryz.prog 99 [bR t,iT x] (vb (sA t x)):=by
 refine FC.body 6 79 Tryz.func99 rfl (by kernel_rfl) ?_
 refine sq ?_
 refine Z1 bx ?_
 refine Z1 bx ?_
 refine Z1 aB ?_
 refine cn ?_
 refine aD ?_
 refine aD ?_
 refine dw ?_
 refine Z1 lr ?_
 refine Z1 (fa 0) ?_
 refine Z1 ld ?_
 refine Z1 (ca (aBQ t _)) ?_
 refine Z1 nt ?_
 refine Z1 mo ?_
 refine Z4 (fun hC=>fa 1) ?_
 refine Z4 (fun hC=>ld) ?_
 refine Z4 (fun hC=>bz) ?_
 refine Z4 (fun hC=>mo) ?_
 refine Z4 (fun hC=>lr) ?_
 refine Z4 (fun hC=>fa 1) ?_
 refine Z4 (fun hC=>ld) ?_
 refine Z4 (fun hC=>ca (aBQ t _)) ?_
 refine Z4 (fun hC=>nt) ?_
 refine Z5 ?_
 refine Z1 cC ?_
 refine Z1 mo ?_
 refine Z4 (fun hC=>fa 3) ?_
 refine Z4 (fun hC=>ld) ?_
 refine Z4 (fun hC=>bz) ?_
 refine Z1 cC ?_
 refine Z1 mo ?_
 refine Z4 (fun hC=>fa 3) ?_
 refine Z4 (fun hC=>ld) ?_
 refine Z4 (fun hC=>fa 5) ?_
 refine Z4 (fun hC=>ld) ?_
 refine aW (R:=[]) rfl rfl rfl eV (fun hC=>aPX rfl rfl rfl (by omega)) (fun hC=>⟨(by first|rfl|exact hC|(simp only [Bool.and_eq_true] at hC;first|exact hC.1|exact hC.1.1|exact hC.2)|simp_all),(by first|rfl|exact hC|(simp only [Bool.and_eq_true] at hC;first|exact hC.1|exact hC.1.1|exact hC.2)|simp_all),trivial⟩) trivial ?_
 refine Z4 (fun hC=>bz) ?_
 refine Z1 cC ?_
 refine Z1 mo ?_
 refine Z4 (fun hC=>fa 5) ?_
 refine Z4 (fun hC=>ld) ?_
 refine aW (R:=[]) rfl rfl rfl eV (fun hC=>jP rfl (by kernel_rfl) (xW x.props 96 [] pW (by kernel_rfl) trivial fun z hz=>aLR z) rfl (by simp only [bE,aN,and_self,dG,dY,cP,bV,dZ,eA,eC,eD,eE,eF,eG,eH,eI,eJ]) (by simp only [bE,aN,and_self,dG,dY,cP,bV,dZ,eA,eC,eD,eE,eF,eG,eH,eI,eJ])) (fun hC=>⟨(by first|rfl|exact hC|(simp only [Bool.and_eq_true] at hC;first|exact hC.1|exact hC.1.1|exact hC.2)|simp_all),(by first|rfl|exact hC|(simp only [Bool.and_eq_true] at hC;first|exact hC.1|exact hC.1.1|exact hC.2)|simp_all),(by first|rfl|exact hC|(simp only [Bool.and_eq_true] at hC;first|exact hC.1|exact hC.1.1|exact hC.2)|simp_all),trivial⟩) trivial ?_
 refine Z4 (fun hC=>nt) ?_
 refine Z1 cC ?_
 refine Z1 mo ?_
 refine Z4 (fun hC=>fa 6) ?_
 refine Z4 (fun hC=>ld) ?_
 refine Z4 (fun hC=>ca (aIW x.words hx.1 8)) ?_
 refine Z4 (fun hC=>nt) ?_
 refine Z1 cC ?_
 refine Z1 mo ?_
 refine Z4 (fun hC=>fa 7) ?_
 refine Z4 (fun hC=>ld) ?_
 refine Z4 (fun hC=>ca (aIW x.adjs hx.2 8)) ?_
 refine Z4 (fun hC=>nt) ?_
 refine Z1 cC ?_
 refine cn (dn ?_)
 refine cd (fun hb=>?_) fun hb=>?_
 ·have hw:aE5 t x=true:=hb
  refine sq ?_
  refine Z1 aB ?_
  refine cn ?_
  refine aP ?_
  exact ⟨.inl rfl,aF.tmp rfl (bP (by unfold sA;rw [hw];rfl)),trivial⟩
 ·have hw:aE5 t x=false:=hb
  refine aQ ?_
  refine aD ?_
  refine sq ?_
  refine Z1 (fa 4) ?_
  refine Z1 ld ?_
  refine cn ?_
  refine cd (fun hb=>?_) fun hb=>?_
  ·refine sq ?_
   refine Z1 (fa 2) ?_
   refine Z1 ld ?_
   refine Z1 bz ?_
   refine Z1 mo ?_
   refine Z4 (fun hC=>lr) ?_
   refine Z4 (fun hC=>fa 8) ?_
   refine Z4 (fun hC=>ld) ?_
   refine Z4 (fun hC=>ca (amF t _)) ?_
   refine Z1 an ?_
   refine Z1 aB ?_
   refine cn ?_
   refine aP ?_
   exact ⟨.inl rfl,aF.tmp rfl (bP (by unfold sA;rw [hw,hb];rfl)),trivial⟩
  ·refine aQ ?_
   refine sq ?_
   refine Z1 (fa 8) ?_
   refine Z1 ld ?_
   refine Z1 ln ?_
   refine Z1 bz ?_
   refine Z1 mo ?_
   refine Z4 (fun hC=>fa 2) ?_
   refine Z4 (fun hC=>ld) ?_
   refine Z4 (fun hC=>bz) ?_
   refine Z4 (fun hC=>mo) ?_
   refine Z4 (fun hC=>lr) ?_
   refine Z4 (fun hC=>fa 2) ?_
   refine Z4 (fun hC=>ld) ?_
   refine Z4 (fun hC=>ca (aLS t _)) ?_
   refine Z6 ?_
   refine Z1 an ?_
   refine Z1 aB ?_
   refine cn ?_
   refine aP ?_
   exact ⟨.inl rfl,aF.tmp rfl (bP (by unfold sA;rw [hw,hb];rfl)),trivial⟩
theorem aU6 (K:Nat)(caps:List Av)(f:Int→Int)(V:Int→Prop)(n most:Int)(hm:0≤most)(hm':most≤9223372036854775807)(hK:dN Tryz.prog K=true)(hpc:bE caps)(hV:V n)(hcl:∀ m,V m→f m≠0→V (f m))(hp:∀ m,V m→PC Tryz.prog K ([vi m]++caps) (vi (f m))):PC Tryz.prog 100 [.clo K caps,vi n,vi most] (vi (nZ f most.toNat n)):=by
 refine FC.body 6 19 Tryz.func100 rfl (by kernel_rfl) ?_
 refine W ?_
 refine bM (ι:=Nat) (fun k=>⟨[(0,.clo K caps),(1,vi (vD f k n)),(8,vi most),(9,vi k)],[]⟩) (fun k=>k≤most.toNat∧V (vD f k n)∧nZ f most.toNat n=nZ f (most.toNat-k) (vD f k n)) (fun k=>most.toNat-k) 0 (⟨Nat.zero_le _,hV,rfl⟩) (Le.sub (by repeat (first|trivial|refine ⟨.inr rfl,?_⟩|refine ⟨.inr (aR (by omega)),?_⟩)) (by repeat (first|trivial|refine ⟨rfl,?_⟩))) ?_
 intro k hI
 refine W ?_
 refine cd (fun hb=>?_) fun hb=>?_
 ·have hlt:k<most.toNat:=by simp at hb;omega
  refine W ?_
  refine Z1 (kW (f:=K) (caps:=caps) rfl rfl hK (hp _ hI.2.1) rfl ⟨trivial,hpc⟩ trivial) ?_
  refine W ?_
  refine cd (fun hb=>?_) fun hb=>?_
  ·refine W ?_
   have hs:=aUZ hlt hI.2.2
   rw [if_pos (by simpa using hb)] at hs
   exact ⟨.inl rfl,aF.tmp rfl (aR hs.symm),trivial⟩
  ·refine W ?_
   have hs:=aUZ hlt hI.2.2
   rw [if_neg (by simpa using hb)] at hs
   exact ⟨k+1,⟨by omega,hcl _ hI.2.1 (by simpa using hb),hs⟩,by omega,Le.sub (by repeat (first|trivial|refine ⟨.inr rfl,?_⟩|refine ⟨.inr (aR (by omega)),?_⟩)) (by repeat (first|trivial|refine ⟨rfl,?_⟩))⟩
 ·have hge:k=most.toNat:=by simp at hb;omega
  refine W ?_
  exact ⟨.inl rfl,aF.tmp rfl (aR (by rw [hI.2.2,hge,Nat.sub_self];rfl)),trivial⟩
theorem aU7 (t:TabP)(n:Int)(hn:qV t n=true):PC Tryz.prog 98 [vi n,.ptr (bR t)] (vi (qW t n)):=by
 refine FC.body 6 10 Tryz.func98 rfl (by kernel_rfl) ?_
 refine dM (t:=1) (x:=.ptr (bR t)) rfl (fun E v h=>by unfold aA at h;obtain ⟨b,o,u,_,_,h,_⟩:=h;exact qO t E u h) fun hf=>?_
 have hf1:=hf.params
 have hf2:=hf.texts
 have hf3:=hf.things
 have hf4:=hf.acts
 have hf5:=hf.locals
 have hf6:=hf.deeds
 have hf7:=hf.funcs
 have hf8:=hf.daemons
 have h1:=gH.1 (show among n 1 _=true from hn)
 refine W ?_
 exact ⟨.inl rfl,aF.tmp rfl rfl,trivial⟩
end Go.Proofs.YtnklgkjfoggpbaaGreatDoor
namespace Go.Proofs.YtnklgkjfoggpbaaGreatDoor
open Go.RowKit
theorem aU8 {t:TabP}{k:Nat}(h0:1≤k)(hk:k<t.things.length):qV t k=true:=gH.2 ⟨by omega,by omega⟩
theorem aD3 (t:TabP):bE [.ptr (bR t)]:=by simp only [bE,aN,dG,and_self]
theorem ac2 (t:TabP)(ht:t.wf)(hfl:0≤t.flags):PC Tryz.prog 31 [bR t] (vb (wX t)):=by
 refine FC.body 6 76 Tryz.func31 rfl (by kernel_rfl) ?_
 refine dM (t:=0) (x:=bR t) rfl (qO t) fun hf=>?_
 have hf1:=hf.params
 have hf2:=hf.texts
 have hf3:=hf.things
 have hf4:=hf.acts
 have hf5:=hf.locals
 have hf6:=hf.deeds
 have hf7:=hf.funcs
 have hf8:=hf.daemons
 refine sq ?_
 refine Z1 bx ?_
 refine Z1 aB ?_
 refine cn ?_
 refine aD ?_
 refine sq ?_
 refine Z1 (fa 8) ?_
 refine Z1 ld ?_
 refine Z1 ln ?_
 refine Z1 (ca (nO _ _ _)) ?_
 refine Z1 nt ?_
 refine Z1 mo ?_
 refine Z4 (fun hC=>fa 8) ?_
 refine Z4 (fun hC=>ld) ?_
 refine aW (R:=[]) rfl rfl rfl eV (fun hC=>by
  have hh:=gH.1 (by simpa using hC)
  exact (by first|exact rJ rfl rfl rfl (by kernel_rfl) (by omega)|exact mM rfl rfl rfl (by kernel_rfl) (by omega) (by omega) rfl)) (fun hC=>⟨(by first|rfl|exact hC|(simp only [Bool.and_eq_true] at hC;first|exact hC.1|exact hC.1.1|exact hC.2)|simp_all),(by first|rfl|exact hC|(simp only [Bool.and_eq_true] at hC;first|exact hC.1|exact hC.1.1|exact hC.2)|simp_all),trivial⟩) trivial ?_
 refine Z4 (fun hC=>lr) ?_
 refine Z4 (fun hC=>ca (amE _)) ?_
 refine Z4 (fun hC=>nt) ?_
 refine Z1 cC ?_
 refine cn ?_
 refine cd (fun hb=>?_) fun hb=>?_
 ·have hw:aBJ t=true:=hb
  refine sq ?_
  refine Z1 aB ?_
  refine cn ?_
  refine aP ?_
  exact ⟨.inl rfl,aF.tmp rfl (bP (by unfold wX;rw [hw];rfl)),trivial⟩
 ·have hw:aBJ t=false:=hb
  have h3:3≤t.things.length:=by
   unfold aBJ at hw
   have h1:=(Bool.or_eq_false_iff.1 hw).1
   have h2:=gH.1 (by simpa using h1)
   omega
  refine aQ ?_
  refine sq ?_
  refine Z1 (qC (cs:=[.ptr _]) rfl rfl) ?_
  refine Z1 aB ?_
  refine cn ?_
  refine aD ?_
  refine sq ?_
  refine Z1 (fa 8) ?_
  refine Z1 ld ?_
  refine Z1 ln ?_
  refine Z1 mo ?_
  refine cn ?_
  refine aU ?_
  refine bM (ι:=Nat) (fun k=>⟨[(1,.ptr (bR t)),(3,.clo 98 [.ptr (bR t)]),(22,gA t.things),(23,vi t.things.length),(24,vi k)],[(0,.unborn)]⟩) (fun k=>k≤t.things.length∧∀ j,j<k→(!sB t j)=true) (fun k=>t.things.length-k) 0 (⟨Nat.zero_le _,qF⟩) (Le.sub (by repeat (first|trivial|refine ⟨.inr rfl,?_⟩|refine ⟨.inr (aR (by omega)),?_⟩)) (by repeat (first|trivial|refine ⟨rfl,?_⟩))) ?_
  intro k hI
  refine sq ?_
  refine Z1 bz ?_
  refine cn ?_
  refine aD ?_
  refine cd (fun hb=>?_) fun hb=>?_
  ·have hlt:k<t.things.length:=by have h0:=of_decide_eq_true hb;omega
   refine aQ ?_
   refine aD ?_
   refine aU ?_
   refine sq ?_
   refine Z1 mo ?_
   refine Z1 ia ?_
   refine Z1 lr ?_
   refine Z2 (al 0 [.int .i64 0,.int .i64 0,.int .i64 0,.int .i64 0,.bool false,.slice none 0 0,.slice none 0 0,.slice none 0 0,.slice none 0 0]) ?_
   refine Z1 aB ?_
   refine fP rfl rfl (sY (x:=.agg _) (cs':=[_,_,_,_,_,_,_,_,_]) rfl rfl rfl rfl (by kernel_rfl) (by first|decide|simp) (by first|decide|simp) rfl) ⟨rfl,trivial⟩ ?_
   refine cn ?_
   refine sq ?_
   refine aS 5 1 false ?_
   refine bG ?_
   refine Z1 ln ?_
   refine Z1 (fa 6) ?_
   refine Z1 ld ?_
   refine Z1 ln ?_
   refine Z1 bz ?_
   refine Z1 mo ?_
   refine Z4 (fun hC=>mo) ?_
   refine Z4 (fun hC=>bz) ?_
   refine Z4 (fun hC=>mo) ?_
   refine Z4 (fun hC=>lr) ?_
   refine aW (R:=[(_,.live _ _)]) rfl rfl rfl lO (fun hC=>mA (k:=9) (ds:=[_,_,_,_,_,_,_,_,_]) rfl rfl (by kernel_rfl) (by kernel_rfl) rfl rfl (by decide)) (fun hC=>⟨(by first|rfl|exact hC|(simp only [Bool.and_eq_true] at hC;first|exact hC.1|exact hC.1.1|exact hC.2)|simp_all),trivial⟩) ⟨rfl,trivial⟩ ?_
   refine Z4 (fun hC=>ca (amG t hfl _ (ht.things _ (pR hlt)))) ?_
   refine Z4 (fun hC=>nt) ?_
   refine Z5 ?_
   refine Z1 cC ?_
   refine cn ?_
   refine cd (fun hb=>?_) fun hb=>?_
   ·refine sq ?_
    refine Z1 aB ?_
    refine cn ?_
    refine aP ?_
    exact ⟨.inl rfl,aF.tmp rfl (bP (by unfold wX;rw [nD (p:=fun j=>!sB t j) hlt (by rw [show sB t k=true from hb];rfl),Bool.and_false,Bool.false_and,Bool.false_and])),trivial⟩
   ·refine aQ ?_
    refine tx ?_
    refine Z1 ba ?_
    refine Z1 mo ?_
    refine cn ?_
    exact ⟨k+1,⟨by omega,mC (p:=fun j=>!sB t j) hI.2 (by rw [show sB t k=false from hb];rfl)⟩,by omega,Le.reset [0] (by simp) (by repeat (first|trivial|refine ⟨.inr rfl,?_⟩|refine ⟨.inr (aR (by omega)),?_⟩)) (nJ (by simp only [pS,bE,aN,and_self,dG,dY,cP,bV,dZ,eA,eC,eD,eE,eF,eG,eH,eI,eJ])) (by simp [lK])⟩
  ·have hge:k=t.things.length:=by have h0:=of_decide_eq_false hb;omega
   have hled:Led t:=alZ fun j hj=>hI.2 j (by omega)
   have hall:=sP (n:=t.things.length) (p:=fun j=>!sB t j) fun j hj=>hI.2 j (by omega)
   refine bU ?_
   refine aD ?_
   refine sq ?_
   refine Z1 aB ?_
   refine cn ?_
   refine aU ?_
   refine bM (ι:=Nat) (fun k=>⟨[(1,.ptr (bR t)),(3,.clo 98 [.ptr (bR t)]),(6,vi k)],[]⟩) (fun k=>1≤k∧k≤t.things.length∧∀ j,j<k→(decide (j=0)||nZ (qW t) t.things.length j !=0)=true) (fun k=>t.things.length-k) 1 (⟨Nat.le_refl _,by omega,fun j hj=>by simp;omega⟩) (Le.sub (by repeat (first|trivial|refine ⟨.inr rfl,?_⟩|refine ⟨.inr (aR (by omega)),?_⟩)) (by repeat (first|trivial|refine ⟨rfl,?_⟩))) ?_
   intro k hI
   refine aD ?_
   refine sq ?_
   refine Z1 mo ?_
   refine Z1 (fa 8) ?_
   refine Z1 ld ?_
   refine Z1 ln ?_
   refine Z1 bz ?_
   refine cn ?_
   refine cd (fun hb=>?_) fun hb=>?_
   ·have hlt:k<t.things.length:=by have h0:=of_decide_eq_true hb;omega
    refine aQ ?_
    refine aD ?_
    refine aU ?_
    refine sq ?_
    refine Z1 mo ?_
    refine Z1 mo ?_
    refine Z1 (fa 8) ?_
    refine Z1 ld ?_
    refine Z1 ln ?_
    refine Z1 (ca (aU6 98 [.ptr (bR t)] (qW t) (fun n=>qV t n=true) k t.things.length (by omega) (by omega) (by kernel_rfl) (aD3 t) (aU8 hI.1 hlt) (fun m h1 h2=>(aU0 hled h1).resolve_left h2) (fun m hm=>aU7 t m hm))) ?_
    refine Z1 bz ?_
    refine cn ?_
    refine cd (fun hb=>?_) fun hb=>?_
    ·refine sq ?_
     refine Z1 aB ?_
     refine cn ?_
     refine aP ?_
     exact ⟨.inl rfl,aF.tmp rfl (bP (by unfold wX;rw [nD (p:=fun j=>decide (j=0)||nZ (qW t) t.things.length j !=0) hlt (by simp only [Int.toNat_natCast,beq_iff_eq] at hb;simp [hb];omega),Bool.and_false,Bool.false_and])),trivial⟩
    ·refine aQ ?_
     refine tx ?_
     refine Z1 mo ?_
     refine Z1 ba ?_
     refine Z1 aB ?_
     refine cn ?_
     exact ⟨k+1,⟨by omega,by omega,mC (p:=fun j=>decide (j=0)||nZ (qW t) t.things.length j !=0) hI.2.2 (by simp only [Int.toNat_natCast,beq_eq_false_iff_ne,ne_eq] at hb;simp [hb])⟩,by omega,Le.sub (by repeat (first|trivial|refine ⟨.inr rfl,?_⟩|refine ⟨.inr (aR (by omega)),?_⟩)) (by repeat (first|trivial|refine ⟨rfl,?_⟩))⟩
   ·have hge:k=t.things.length:=by have h0:=of_decide_eq_false hb;omega
    refine bU ?_
    refine aD ?_
    refine dw ?_
    refine Z1 (fa 8) ?_
    refine Z1 ld ?_
    refine Z1 ia ?_
    refine Z1 (fa 4) ?_
    refine Z1 ld ?_
    refine Z1 nt ?_
    refine Z1 mo ?_
    refine Z4 (fun hC=>lr) ?_
    refine Z4 (fun hC=>mo) ?_
    refine Z4 (fun hC=>fa 8) ?_
    refine Z4 (fun hC=>ld) ?_
    refine Z4 (fun hC=>ln) ?_
    refine aW (R:=[]) rfl rfl rfl cA (fun hC=>jP rfl (by kernel_rfl) (aU6 98 [.ptr (bR t)] (qW t) (fun n=>qV t n=true) 1 t.things.length (by omega) (by omega) (by kernel_rfl) (aD3 t) (aU8 (k:=1) (Nat.le_refl _) (by omega)) (fun m h1 h2=>(aU0 hled h1).resolve_left h2) (fun m hm=>aU7 t m hm)) rfl (by simp only [bE,aN,and_self,dG,dY,cP,bV,dZ,eA,eC,eD,eE,eF,eG,eH,eI,eJ]) (by simp only [bE,aN,and_self,dG,dY,cP,bV,dZ,eA,eC,eD,eE,eF,eG,eH,eI,eJ])) (fun hC=>⟨(by first|rfl|exact hC|(simp only [Bool.and_eq_true] at hC;first|exact hC.1|exact hC.1.1|exact hC.2)|simp_all),(by first|rfl|exact hC|(simp only [Bool.and_eq_true] at hC;first|exact hC.1|exact hC.1.1|exact hC.2)|simp_all),(by first|rfl|exact hC|(simp only [Bool.and_eq_true] at hC;first|exact hC.1|exact hC.1.1|exact hC.2)|simp_all),(by first|rfl|exact hC|(simp only [Bool.and_eq_true] at hC;first|exact hC.1|exact hC.1.1|exact hC.2)|simp_all),trivial⟩) trivial ?_
    refine Z4 (fun hC=>ca (aU3 t _)) ?_
    refine Z1 an ?_
    refine Z1 aB ?_
    refine cn (dn ?_)
    refine aP ?_
    exact ⟨.inl rfl,aF.tmp rfl (bP (by unfold wX;rw [hall,hw,sP (p:=fun j=>decide (j=0)||nZ (qW t) t.things.length j !=0) fun j hj=>hI.2.2 j (by omega)];rfl)),trivial⟩
theorem aU9 (t:TabP)(n:Int):PC Tryz.prog 32 [vi n,.ptr (bR t)] (vb (aBK t n)):=by
 refine FC.body 6 11 Tryz.func32 rfl (by kernel_rfl) ?_
 refine sq ?_
 refine Z1 aB ?_
 refine cn ?_
 refine sq ?_
 refine Z1 mo ?_
 refine Z1 bz ?_
 refine Z1 mo ?_
 refine Z4 (fun hC=>lr) ?_
 refine Z4 (fun hC=>mo) ?_
 refine Z4 (fun hC=>ca (aLS t _)) ?_
 refine Z1 cC ?_
 refine Z1 aB ?_
 refine cn ?_
 refine aP ?_
 exact ⟨.inl rfl,aF.tmp rfl rfl,trivial⟩
theorem ac6 (t:TabP)(n:Int):PC Tryz.prog 43 [vi n,.ptr (bR t)] (vb (among n 0 ((t.params.length:Int)-1))):=by
 refine FC.body 6 10 Tryz.func43 rfl (by kernel_rfl) ?_
 refine dM (t:=1) (x:=.ptr (bR t)) rfl (fun E v h=>by unfold aA at h;obtain ⟨b,o,u,_,_,h,_⟩:=h;exact qO t E u h) fun hf=>?_
 have hf1:=hf.params
 have hf2:=hf.texts
 have hf3:=hf.things
 have hf4:=hf.acts
 have hf5:=hf.locals
 have hf6:=hf.deeds
 have hf7:=hf.funcs
 have hf8:=hf.daemons
 refine W ?_
 refine Z1 (ca (nO _ _ _)) ?_
 refine W ?_
 exact ⟨.inl rfl,aF.tmp rfl rfl,trivial⟩
theorem ac7 (t:TabP)(n:Int):PC Tryz.prog 44 [vi n,.ptr (bR t)] (vb (tG t n)):=by
 refine FC.body 6 7 Tryz.func44 rfl (by kernel_rfl) ?_
 refine W ?_
 refine Z1 (ca (aFO t _)) ?_
 refine W ?_
 exact ⟨.inl rfl,aF.tmp rfl rfl,trivial⟩
theorem ac5 (t:TabP)(d:DeedP):PC Tryz.prog 40 [mT d,.ptr (bR t),.ptr (.clo 32 [.ptr (bR t)])] (vb (aD2 t d)):=by
 refine FC.body 6 46 Tryz.func40 rfl (by kernel_rfl) ?_
 refine dM (t:=1) (x:=.ptr (bR t)) rfl (fun E v h=>by unfold aA at h;obtain ⟨b,o,u,_,_,h,_⟩:=h;exact qO t E u h) fun hf=>?_
 have hf1:=hf.params
 have hf2:=hf.texts
 have hf3:=hf.things
 have hf4:=hf.acts
 have hf5:=hf.locals
 have hf6:=hf.deeds
 have hf7:=hf.funcs
 have hf8:=hf.daemons
 refine sq ?_
 refine Z1 bx ?_
 refine Z1 aB ?_
 refine cn ?_
 refine sq ?_
 refine Z1 (fa 0) ?_
 refine Z1 ld ?_
 refine Z1 (fa 9) ?_
 refine Z1 ld ?_
 refine Z1 ln ?_
 refine Z1 iP ?_
 refine Z1 (ca (nO _ _ _)) ?_
 refine Z1 mo ?_
 refine Z4 (fun hC=>fa 1) ?_
 refine Z4 (fun hC=>ld) ?_
 refine Z4 (fun hC=>ca (nO _ _ _)) ?_
 refine Z1 an ?_
 refine Z1 mo ?_
 refine Z4 (fun hC=>ld) ?_
 refine Z4 (fun hC=>fa 2) ?_
 refine Z4 (fun hC=>ld) ?_
 refine aW (R:=[]) rfl rfl rfl cA (fun hC=>kW rfl rfl (by kernel_rfl) (aU9 t _) rfl (by simp only [bE,aN,and_self,dG,dY,cP,bV,dZ,eA,eC,eD,eE,eF,eG,eH,eI,eJ]) (by simp only [bE,aN,and_self,dG,dY,cP,bV,dZ,eA,eC,eD,eE,eF,eG,eH,eI,eJ])) (fun hC=>⟨(by first|rfl|exact hC|(simp only [Bool.and_eq_true] at hC;first|exact hC.1|exact hC.1.1|exact hC.2)|simp_all),(by first|rfl|exact hC|(simp only [Bool.and_eq_true] at hC;first|exact hC.1|exact hC.1.1|exact hC.2)|simp_all),trivial⟩) trivial ?_
 refine Z1 an ?_
 refine Z1 mo ?_
 refine Z4 (fun hC=>ld) ?_
 refine Z4 (fun hC=>fa 3) ?_
 refine Z4 (fun hC=>ld) ?_
 refine aW (R:=[]) rfl rfl rfl cA (fun hC=>kW rfl rfl (by kernel_rfl) (aU9 t _) rfl (by simp only [bE,aN,and_self,dG,dY,cP,bV,dZ,eA,eC,eD,eE,eF,eG,eH,eI,eJ]) (by simp only [bE,aN,and_self,dG,dY,cP,bV,dZ,eA,eC,eD,eE,eF,eG,eH,eI,eJ])) (fun hC=>⟨(by first|rfl|exact hC|(simp only [Bool.and_eq_true] at hC;first|exact hC.1|exact hC.1.1|exact hC.2)|simp_all),(by first|rfl|exact hC|(simp only [Bool.and_eq_true] at hC;first|exact hC.1|exact hC.1.1|exact hC.2)|simp_all),trivial⟩) trivial ?_
 refine Z1 an ?_
 refine Z1 mo ?_
 refine Z4 (fun hC=>fa 4) ?_
 refine Z4 (fun hC=>ld) ?_
 refine Z4 (fun hC=>bz) ?_
 refine Z4 (fun hC=>mo) ?_
 refine Z4 (fun hC=>lr) ?_
 refine Z4 (fun hC=>fa 4) ?_
 refine Z4 (fun hC=>ld) ?_
 refine Z4 (fun hC=>ca (aFO t _)) ?_
 refine Z6 ?_
 refine Z1 an ?_
 refine Z1 mo ?_
 refine Z4 (fun hC=>lr) ?_
 refine Z4 (fun hC=>fa 5) ?_
 refine Z4 (fun hC=>ld) ?_
 refine Z4 (fun hC=>ca (aFO t _)) ?_
 refine Z1 an ?_
 refine Z1 aB ?_
 refine cn ?_
 refine aP ?_
 exact ⟨.inl rfl,aF.tmp rfl rfl,trivial⟩
end Go.Proofs.YtnklgkjfoggpbaaGreatDoor
