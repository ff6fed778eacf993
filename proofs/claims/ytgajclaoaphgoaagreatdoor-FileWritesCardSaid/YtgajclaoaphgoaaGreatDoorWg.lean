/- Parts of the proof of a law of this seat: rules and contracts; no conditions. -/
import Derived.Test.YtgajclaoaphgoaaGreatDoorVa
import Derived.Test.YtgajclaoaphgoaaGreatDoorWireP
import Derived.Test.YtgajclaoaphgoaaGreatDoorPu
import Derived.Test.YtgajclaoaphgoaaGreatDoorWrs
import Derived.Test.YtgajclaoaphgoaaGreatDoorProg
import Derived.KernelRfl
set_option maxHeartbeats 6400000
set_option maxRecDepth 100000
set_option linter.unusedVariables false
set_option linter.unusedSimpArgs false
namespace Go.Proofs.YtgajclaoaphgoaaGreatDoor
open Go.RowKit
theorem atL (n:Int):PC Tryz.prog 204 [vi n] (vi (aTM n)):=by
 refine FB 6 17 Tryz.func204 ?_;refine G ?_;refine LP (ι:=Nat) (fun k=>[(3,vi (2^k)),(4,vi k)]) (fun _=>[]) (fun k=>k≤min n.toNat 16) (fun k=>16-k) 0 (Nat.zero_le _) (hl:=(Le.sub (by repeat (first|trivial|refine ⟨.inr rfl,?_⟩|refine ⟨.inr (aR (by omega)),?_⟩)) (by repeat (first|trivial|refine ⟨rfl,?_⟩)))) ?_;intro k hI;have hp:=an3 (k:=k) (by omega);have e:=atM k;refine Gd (fun hb=>?_) fun hb=>?_
 ·have hlt:(k:Int)<n∧k<16:=by simp only [Bool.and_eq_true,decide_eq_true_eq] at hb;omega
  refine G ?_;exact ⟨k+1,by omega,by omega,Le.sub (by repeat (first|trivial|refine ⟨.inr rfl,?_⟩|refine ⟨.inr (aR (by omega)),?_⟩)) (by repeat (first|trivial|refine ⟨rfl,?_⟩))⟩
 have hge:k=min n.toNat 16:=by simp only [Bool.and_eq_false_iff,decide_eq_false_iff_not] at hb;omega
 refine G ?_;exact Rx rfl (aR (by unfold aTM;rw [hge]))
theorem atN (t:TabP)(ht:t.wf):PC Tryz.prog 143 [bR t] (vb (aZ5 t)):=by
 refine FB 6 120 Tryz.func143 ?_;refine dM (t:=0) (x:=bR t) rfl (qO t) fun hf=>?_;have hf1:=hf.params;have hf2:=hf.texts;have hf3:=hf.things;have hf4:=hf.acts;have hf5:=hf.locals;have hf6:=hf.deeds;have hf7:=hf.funcs;have hf8:=hf.daemons;refine G ?_;refine Z4 (fun hC=>ca (afC t _ _)) ?_;refine G ?_;refine Z4 (fun hC=>ca (afC t _ _)) ?_;refine G ?_;refine Z4 (fun hC=>ca (aJP _ _ _)) ?_;refine G ?_;refine Z4 (fun hC=>ca (aJP _ _ _)) ?_;refine G ?_;refine Z4 (fun hC=>ca (aJP _ _ _)) ?_;refine Gd (fun hb=>?_) fun hb=>?_
 ·have hw:rh1 t=true:=hb;refine G ?_;exact Rx rfl (bP (by unfold aZ5;rw [hw];rfl))
 have hw:rh1 t=false:=hb;refine G ?_;refine Z4 (fun hC=>ca (an2 _)) ?_;refine G ?_;refine Z4 (fun hC=>ca (an2 _)) ?_;refine Gd (fun hb=>?_) fun hb=>?_
 ·have hv:rh2 t=true:=hb;refine G ?_;exact Rx rfl (bP (by unfold aZ5;rw [hw,hv];rfl))
 have hv:rh2 t=false:=hb;have hl:t.params.length=t.locals.length:=by
  unfold rh2 at hv;simp only [Bool.or_eq_false_iff] at hv;have:=hv.1.2;simp at this;omega
 refine G ?_;refine LP (ι:=Nat) (fun k=>[(3,vi k)]) (fun _=>[]) (fun k=>k≤t.texts.length∧∀ j,j<k→qN (t.texts.getD j ByteArray.empty)=true) (fun k=>t.texts.length-k) 0 (⟨Nat.zero_le _,qF⟩) (hl:=(Le.sub (by repeat (first|trivial|refine ⟨.inr rfl,?_⟩|refine ⟨.inr (aR (by omega)),?_⟩)) (by repeat (first|trivial|refine ⟨rfl,?_⟩)))) ?_;intro k hI;refine Gd (fun hb=>?_) fun hb=>?_
 ·have hlt:k<t.texts.length:=by have h0:=of_decide_eq_true hb;omega
  refine G ?_;refine Z1 (ca (atH _ (ht.texts _ (pR hlt)))) ?_;refine Gd (fun hb=>?_) fun hb=>?_
  ·refine G ?_;exact Rx rfl (bP (by unfold aZ5;rw [aKW (d:=ByteArray.empty) (p:=qN) hlt (by simpa using hb),Bool.and_false,Bool.false_and]))
  refine G ?_;exact ⟨k+1,⟨by omega,mC (p:=fun j=>qN (t.texts.getD j ByteArray.empty)) hI.2 (by simpa using hb)⟩,by omega,Le.sub (by repeat (first|trivial|refine ⟨.inr rfl,?_⟩|refine ⟨.inr (aR (by omega)),?_⟩)) (by repeat (first|trivial|refine ⟨rfl,?_⟩))⟩
 have hge:k=t.texts.length:=by have h0:=of_decide_eq_false hb;omega
 have hall:=aLP (d:=ByteArray.empty) (p:=qN) (l:=t.texts) fun j hj=>hI.2 j (by omega);refine G ?_;refine LP (ι:=Nat) (fun k=>[(4,vi k)]) (fun _=>[]) (fun k=>k≤t.params.length∧∀ j,j<k→(!uW t j)=true) (fun k=>t.params.length-k) 0 (⟨Nat.zero_le _,qF⟩) (hl:=(Le.sub (by repeat (first|trivial|refine ⟨.inr rfl,?_⟩|refine ⟨.inr (aR (by omega)),?_⟩)) (by repeat (first|trivial|refine ⟨rfl,?_⟩)))) ?_;intro k hI;refine Gd (fun hb=>?_) fun hb=>?_
 ·have hlt:k<t.params.length:=by have h0:=of_decide_eq_true hb;omega
  refine G ?_;refine Z1 (ca (aJP _ _ _)) ?_;refine G ?_;refine Z4 (fun hC=>ca (aJP _ _ _)) ?_;refine Gd (fun hb=>?_) fun hb=>?_
  ·refine G ?_;exact Rx rfl (bP (by unfold aZ5;rw [nD (p:=fun j=>!uW t j) hlt (by rw [show uW t k=true from hb];rfl),Bool.and_false]))
  refine G ?_;exact ⟨k+1,⟨by omega,mC (p:=fun j=>!uW t j) hI.2 (by rw [show uW t k=false from hb];rfl)⟩,by omega,Le.sub (by repeat (first|trivial|refine ⟨.inr rfl,?_⟩|refine ⟨.inr (aR (by omega)),?_⟩)) (by repeat (first|trivial|refine ⟨rfl,?_⟩))⟩
 have hge:k=t.params.length:=by have h0:=of_decide_eq_false hb;omega
 refine G ?_;exact Rx rfl (bP (by unfold aZ5;rw [sP (p:=fun j=>!uW t j) fun j hj=>hI.2 j (by omega),hall,hw,hv];rfl))
theorem atO (t:TabP)(n:Int):PC Tryz.prog 209 [bR t,vi n] (vb (aLQ t t.things.length n)):=by
 refine FB 6 30 Tryz.func209 ?_;refine dM (t:=0) (x:=bR t) rfl (qO t) fun hf=>?_;have hf1:=hf.params;have hf2:=hf.texts;have hf3:=hf.things;have hf4:=hf.acts;have hf5:=hf.locals;have hf6:=hf.deeds;have hf7:=hf.funcs;have hf8:=hf.daemons;refine G ?_
 refine LP (ι:=Nat) (fun k=>[(1,vi (vD (qW t) k n)),(5,vi k)]) (fun _=>[]) (fun k=>k≤t.things.length∧aLQ t t.things.length n=aLQ t (t.things.length-k) (vD (qW t) k n)) (fun k=>t.things.length-k) 0 (⟨Nat.zero_le _,rfl⟩) (hl:=(Le.sub (by repeat (first|trivial|refine ⟨.inr rfl,?_⟩|refine ⟨.inr (aR (by omega)),?_⟩)) (by repeat (first|trivial|refine ⟨rfl,?_⟩)))) ?_;intro k hI;refine G ?_;refine Z4 (fun hC=>ca (afB t _)) ?_;refine Gd (fun hb=>?_) fun hb=>?_
 ·have hlt:k<t.things.length:=by simp only [Bool.and_eq_true,decide_eq_true_eq] at hb;omega
  have hth:qV t (vD (qW t) k n)=true:=by simp only [Bool.and_eq_true] at hb;exact hb.2
  have h1:=gH.1 (show among (vD (qW t) k n) 1 _=true from hth);have hs:=apR hlt hI.2;rw [hth,cond_true] at hs;refine Gd (fun hb=>?_) fun hb=>?_
  ·refine G ?_;exact Rx rfl (bP (by rw [hs,show (t.at_ (vD (qW t) k n)).room=true from hb];rfl))
  refine G ?_;rw [show (t.at_ (vD (qW t) k n)).room=false from hb,cond_false] at hs;exact ⟨k+1,⟨by omega,hs⟩,by omega,Le.sub (by repeat (first|trivial|refine ⟨.inr rfl,?_⟩|refine ⟨.inr (aR (by omega)),?_⟩)) (by repeat (first|trivial|refine ⟨rfl,?_⟩))⟩
 have hfin:aLQ t t.things.length n=false:=by
  by_cases hlt:k<t.things.length
  ·have hth:qV t (vD (qW t) k n)=false:=by simpa [hlt] using hb
   rw [apR hlt hI.2,hth,cond_false]
  rw [hI.2,show t.things.length-k=0 from by omega];rfl
 refine G ?_;exact Rx rfl (bP (by rw [hfin]))
theorem atP (t:TabP)(hl:aZ6 t)(n:Int)(hn:n=0∨qV t n=true):PC Tryz.prog 208 [bR t,vi n] (vb (aFP t t.things.length n)):=by
 refine FB 6 21 Tryz.func208 ?_;refine dM (t:=0) (x:=bR t) rfl (qO t) fun hf=>?_;have hf1:=hf.params;have hf2:=hf.texts;have hf3:=hf.things;have hf4:=hf.acts;have hf5:=hf.locals;have hf6:=hf.deeds;have hf7:=hf.funcs;have hf8:=hf.daemons;refine G ?_
 refine LP (ι:=Nat) (fun k=>[(1,vi (vD (qW t) k n)),(5,vi k)]) (fun _=>[]) (fun k=>k≤t.things.length∧aFP t t.things.length n=aFP t (t.things.length-k) (vD (qW t) k n)∧(vD (qW t) k n=0∨qV t (vD (qW t) k n)=true)) (fun k=>t.things.length-k) 0 (⟨Nat.zero_le _,rfl,hn⟩) (hl:=(Le.sub (by repeat (first|trivial|refine ⟨.inr rfl,?_⟩|refine ⟨.inr (aR (by omega)),?_⟩)) (by repeat (first|trivial|refine ⟨rfl,?_⟩)))) ?_;intro k hI;refine Gd (fun hb=>?_) fun hb=>?_
 ·have hlt:k<t.things.length:=by have h0:=of_decide_eq_true hb;omega
  have hs:=atQ hlt hI.2.1;refine Gd (fun hb=>?_) fun hb=>?_
  ·have hz:vD (qW t) k n=0:=by simpa using hb
   refine G ?_;exact Rx rfl (bP (by rw [hs,if_pos hz]))
  have hz:vD (qW t) k n≠0:=by simpa using hb
  have h1:=gH.1 (show among (vD (qW t) k n) 1 _=true from hI.2.2.resolve_left hz);rw [if_neg hz] at hs;refine G ?_;exact ⟨k+1,⟨by omega,hs,atR hl hI.2.2 hz⟩,by omega,Le.sub (by repeat (first|trivial|refine ⟨.inr rfl,?_⟩|refine ⟨.inr (aR (by omega)),?_⟩)) (by repeat (first|trivial|refine ⟨rfl,?_⟩))⟩
 have hge:k=t.things.length:=by have h0:=of_decide_eq_false hb;omega
 refine G ?_;exact Rx rfl (bP (by rw [hI.2.1,hge,Nat.sub_self];rfl))
theorem atS (t:TabP)(l:List WayP):PC Tryz.prog 207 [bR t,kZ l] (vb (adV t l)):=by
 refine FB 6 80 Tryz.func207 ?_;refine dM (t:=0) (x:=bR t) rfl (qO t) fun hf=>?_;have hf1:=hf.params;have hf2:=hf.texts;have hf3:=hf.things;have hf4:=hf.acts;have hf5:=hf.locals;have hf6:=hf.deeds;have hf7:=hf.funcs;have hf8:=hf.daemons;refine dM (t:=1) (x:=kZ l) rfl eR fun hx=>?_;refine G ?_;refine LP (ι:=Nat) (fun k=>[(5,vi k)]) (fun _=>[]) (fun k=>k≤l.length∧∀ j,j<k→(!aQW t l j)=true) (fun k=>l.length-k) 0 (⟨Nat.zero_le _,qF⟩) (hl:=(Le.sub (by repeat (first|trivial|refine ⟨.inr rfl,?_⟩|refine ⟨.inr (aR (by omega)),?_⟩)) (by repeat (first|trivial|refine ⟨rfl,?_⟩)))) ?_
 intro k hI;refine Gd (fun hb=>?_) fun hb=>?_
 ·have hlt:k<l.length:=by have h0:=of_decide_eq_true hb;omega
  refine G ?_;refine Z1 (ca (aJP _ _ _)) ?_;refine G ?_;refine Zg (R:=[]) rfl rfl rfl lO (fun hC=>by
   have hk0:0<(k:Int):=by simp only [Bool.and_eq_true,decide_eq_true_eq] at hC;exact hC.2
   exact mM rfl rfl rfl (by kernel_rfl) (by omega) (by omega) (show ((k:Int)-1).toNat=k-1 by omega)) trivial ?_
  refine G ?_;refine Z4 (fun hC=>ca (afB t _)) ?_;refine G ?_;refine Zg (R:=[]) rfl rfl rfl eV (fun hC=>by
   have hg:=gH.1 (show among _ 1 _=true from (by simp only [Bool.not_eq_true',Bool.or_eq_false_iff,Bool.not_eq_false'] at hC;exact hC.2));exact (by first|exact rJ rfl rfl rfl (by kernel_rfl) (by omega)|exact mM rfl rfl rfl (by kernel_rfl) (by omega) (by omega) rfl)) trivial ?_
  refine G ?_;refine Z4 (fun hC=>ca (alX t _ _)) ?_;refine G ?_;refine Z4 (fun hC=>ca (afC t _ _)) ?_;refine Gd (fun hb=>?_) fun hb=>?_
  ·refine G ?_;exact Rx rfl (bP (by unfold adV;rw [nD (p:=fun j=>!aQW t l j) hlt (by rw [show aQW t l k=true from hb];rfl)]))
  refine G ?_;exact ⟨k+1,⟨by omega,mC (p:=fun j=>!aQW t l j) hI.2 (by rw [show aQW t l k=false from hb];rfl)⟩,by omega,Le.sub (by repeat (first|trivial|refine ⟨.inr rfl,?_⟩|refine ⟨.inr (aR (by omega)),?_⟩)) (by repeat (first|trivial|refine ⟨rfl,?_⟩))⟩
 have hge:k=l.length:=by have h0:=of_decide_eq_false hb;omega
 refine G ?_;exact Rx rfl (bP (by unfold adV;rw [sP (p:=fun j=>!aQW t l j) fun j hj=>hI.2 j (by omega)]))
end Go.Proofs.YtgajclaoaphgoaaGreatDoor
namespace Go.Proofs.YtgajclaoaphgoaaGreatDoor
open Go.RowKit
theorem atT (t:TabP)(ht:t.wf):PC Tryz.prog 144 [bR t] (vb (aUW t)):=by
 refine FB 6 138 Tryz.func144 ?_;refine dM (t:=0) (x:=bR t) rfl (qO t) fun hf=>?_;have hf1:=hf.params;have hf2:=hf.texts;have hf3:=hf.things;have hf4:=hf.acts;have hf5:=hf.locals;have hf6:=hf.deeds;have hf7:=hf.funcs;have hf8:=hf.daemons;have hbb:=atU t.flags;refine G ?_;refine Z1 (ca (aJP _ _ _)) ?_;refine G ?_;refine Zg (R:=[]) rfl rfl rfl eV (fun hC=>by
  have hh:=gH.1 (by simpa using hC);exact (by first|exact rJ rfl rfl rfl (by kernel_rfl) (by omega)|exact mM rfl rfl rfl (by kernel_rfl) (by omega) (by omega) rfl)) trivial ?_
 refine G ?_;refine Z4 (fun hC=>ca (atK t _)) ?_;refine G ?_;refine Zg (R:=[]) rfl rfl rfl eV (fun hC=>by
  have hh:=gH.1 (by simp only [Bool.not_eq_true',Bool.or_eq_false_iff,Bool.not_eq_false'] at hC;exact hC.1);exact (by first|exact rJ rfl rfl rfl (by kernel_rfl) (by omega)|exact mM rfl rfl rfl (by kernel_rfl) (by omega) (by omega) rfl)) trivial ?_
 refine Gd (fun hb=>?_) fun hb=>?_
 ·have hw:adW t=true:=hb;refine G ?_;exact Rx rfl (bP (by unfold aUW;rw [hw];rfl))
 have hw:adW t=false:=hb;have h3:3≤t.things.length:=by
  unfold adW at hw;simp only [Bool.or_eq_false_iff,Bool.not_eq_false'] at hw;have h2:=gH.1 hw.1.1;omega
 refine G ?_;refine bM (ι:=Nat) (fun k=>⟨[(1,.ptr (bR t)),(3,vi k)],[(0,.unborn)]⟩) (fun k=>1≤k∧k≤t.things.length∧∀ j,j<k→aHP t j=true) (fun k=>t.things.length-k) 1 (⟨Nat.le_refl _,by omega,fun j hj=>by simp [aHP];omega⟩) (Le.sub (by repeat (first|trivial|refine ⟨.inr rfl,?_⟩|refine ⟨.inr (aR (by omega)),?_⟩)) (by repeat (first|trivial|refine ⟨rfl,?_⟩))) ?_;intro k hI;refine Gd (fun hb=>?_) fun hb=>?_
 ·have hlt:k<t.things.length:=by have h0:=of_decide_eq_true hb;omega
  refine G ?_;refine Z1 (ca (afC t _ _)) ?_;refine G ?_;refine Z4 (fun hC=>ca (afC t _ _)) ?_;refine G ?_;refine Z4 (fun hC=>ca (atL _)) ?_;refine G ?_;refine Z4 (fun hC=>ca (aJP _ _ _)) ?_;refine G ?_;refine Z4 (fun hC=>ca (an2 _)) ?_;refine G ?_;refine Zg rfl rfl rfl eV (fun hC=>eU (off:=6) (sz:=1) (r:=false) rfl rfl (by first|decide|simp) (by kernel_rfl) (by decide)) ⟨rfl,trivial⟩ ?_;refine Zg rfl rfl rfl eV (fun hC=>fL rfl rfl (by kernel_rfl) rfl) ⟨rfl,trivial⟩ ?_;refine Z4 (fun hC=>ca (an1 _ (ht.things _ (pR hlt)).1 8)) ?_;refine G ?_
  refine Zg rfl rfl rfl eV (fun hC=>eU (off:=7) (sz:=1) (r:=false) rfl rfl (by first|decide|simp) (by kernel_rfl) (by decide)) ⟨rfl,trivial⟩ ?_;refine Zg rfl rfl rfl eV (fun hC=>fL rfl rfl (by kernel_rfl) rfl) ⟨rfl,trivial⟩ ?_;refine Z4 (fun hC=>ca (an1 _ (ht.things _ (pR hlt)).2 8)) ?_;refine Gd (fun hb=>?_) fun hb=>?_
  ·have h1:aiZ t (t.things.getD k cY)=true:=hb;refine G ?_;exact Rx rfl (bP (by unfold aUW;rw [nD (p:=aHP t) hlt (by unfold aHP;rw [h1];simp;omega),Bool.and_false,Bool.false_and,Bool.false_and]))
  have h1:aiZ t (t.things.getD k cY)=false:=hb;refine aQ ?_;refine sq ?_;refine aS 2 1 false ?_;refine bG ?_;refine Z1 bz ?_;refine Z1 mo ?_;refine Z4 (fun hC=>lr) ?_;refine Zg rfl rfl rfl cA (fun hC=>eU (off:=2) (sz:=1) (r:=false) rfl rfl (by first|decide|simp) (by kernel_rfl) (by decide)) ⟨rfl,trivial⟩ ?_;refine Zg rfl rfl rfl cA (fun hC=>fL rfl rfl (by kernel_rfl) rfl) ⟨rfl,trivial⟩ ?_;refine Z4 (fun hC=>ca (afB t _)) ?_;refine Z4 (fun hC=>nt) ?_;refine Z1 an ?_;refine Z1 mo ?_
  refine Zg rfl rfl rfl eV (fun hC=>eU (off:=4) (sz:=1) (r:=false) rfl rfl (by first|decide|simp) (by kernel_rfl) (by decide)) ⟨rfl,trivial⟩ ?_;refine Zg rfl rfl rfl eV (fun hC=>fL rfl rfl (by kernel_rfl) rfl) ⟨rfl,trivial⟩ ?_;refine Z4 (fun hC=>mo) ?_;refine Zg rfl rfl rfl lO (fun hC=>eU (off:=2) (sz:=1) (r:=false) rfl rfl (by first|decide|simp) (by kernel_rfl) (by decide)) ⟨rfl,trivial⟩ ?_;refine Zg rfl rfl rfl lO (fun hC=>fL rfl rfl (by kernel_rfl) rfl) ⟨rfl,trivial⟩ ?_;refine Z4 (fun hC=>bz) ?_;refine Z5 ?_;refine Z1 cC ?_;refine Z1 mo ?_
  refine Zg rfl rfl rfl eV (fun hC=>eU (off:=4) (sz:=1) (r:=false) rfl rfl (by first|decide|simp) (by kernel_rfl) (by decide)) ⟨rfl,trivial⟩ ?_;refine Zg rfl rfl rfl eV (fun hC=>fL rfl rfl (by kernel_rfl) rfl) ⟨rfl,trivial⟩ ?_;refine Z4 (fun hC=>nt) ?_;refine Z4 (fun hC=>mo) ?_;refine Zg rfl rfl rfl lO (fun hC=>eU (off:=8) (sz:=1) (r:=false) rfl rfl (by first|decide|simp) (by kernel_rfl) (by decide)) ⟨rfl,trivial⟩ ?_;refine Zg rfl rfl rfl lO (fun hC=>fL rfl rfl (by kernel_rfl) rfl) ⟨rfl,trivial⟩ ?_;refine Z4 (fun hC=>ln) ?_;refine Z4 (fun hC=>bz) ?_;refine Z5 ?_;refine Z1 cC ?_;refine Z1 mo ?_
  refine Z4 (fun hC=>lr) ?_;refine Zg rfl rfl rfl eV (fun hC=>eU (off:=8) (sz:=1) (r:=false) rfl rfl (by first|decide|simp) (by kernel_rfl) (by decide)) ⟨rfl,trivial⟩ ?_;refine Zg rfl rfl rfl eV (fun hC=>fL rfl rfl (by kernel_rfl) rfl) ⟨rfl,trivial⟩ ?_;refine Z4 (fun hC=>ca (atS t _)) ?_;refine Z4 (fun hC=>nt) ?_;refine Z1 cC ?_;refine cn ?_;refine cd (fun hb=>?_) fun hb=>?_
  ·refine G ?_;exact Rx rfl (bP (by unfold aUW;rw [nD (p:=aHP t) hlt (by unfold aHP;rw [show aaX t (t.things.getD k cY)=true from hb];simp;omega),Bool.and_false,Bool.false_and,Bool.false_and]))
  refine G ?_;exact ⟨k+1,⟨by omega,by omega,mC (p:=fun j=>aHP t j) hI.2.2 (by unfold aHP;rw [h1,show aaX t (t.things.getD k cY)=false from hb];simp)⟩,by omega,Le.reset [0] (by simp) (by repeat (first|trivial|refine ⟨.inr rfl,?_⟩|refine ⟨.inr (aR (by omega)),?_⟩)) (nJ (by simp only [pS,bE,aN,and_self,dG,dY,cP,bV,dZ,eA,eC,eD,eE,eF,eG,eH,eI,eJ])) (by simp [lK])⟩
 have hge:k=t.things.length:=by have h0:=of_decide_eq_false hb;omega
 have hall:=sP (n:=t.things.length) (p:=aHP t) fun j hj=>hI.2.2 j (by omega);have hled:aZ6 t:=fun j hj h0=>an4 (hI.2.2 j (by omega)) h0;refine G ?_;refine LP (ι:=Nat) (fun k=>[(5,vi k)]) (fun _=>[]) (fun k=>1≤k∧k≤t.things.length∧∀ j,j<k→(decide (j=0)||aFP t t.things.length j)=true) (fun k=>t.things.length-k) 1 (⟨Nat.le_refl _,by omega,fun j hj=>by simp;omega⟩) (hl:=(Le.sub (by repeat (first|trivial|refine ⟨.inr rfl,?_⟩|refine ⟨.inr (aR (by omega)),?_⟩)) (by repeat (first|trivial|refine ⟨rfl,?_⟩)))) ?_;intro k hI;refine Gd (fun hb=>?_) fun hb=>?_
 ·have hlt:k<t.things.length:=by have h0:=of_decide_eq_true hb;omega
  refine G ?_;refine Z1 (ca (atP t hled _ (.inr (aU8 hI.1 hlt)))) ?_;refine Gd (fun hb=>?_) fun hb=>?_
  ·refine G ?_;exact Rx rfl (bP (by unfold aUW;rw [nD (p:=fun j=>decide (j=0)||aFP t t.things.length j) hlt (by rw [show aFP t t.things.length k=false from by simpa using hb];simp;omega),Bool.and_false,Bool.false_and]))
  refine G ?_;exact ⟨k+1,⟨by omega,by omega,mC (p:=fun j=>decide (j=0)||aFP t t.things.length j) hI.2.2 (by rw [show aFP t t.things.length k=true from by simpa using hb,Bool.or_true])⟩,by omega,Le.sub (by repeat (first|trivial|refine ⟨.inr rfl,?_⟩|refine ⟨.inr (aR (by omega)),?_⟩)) (by repeat (first|trivial|refine ⟨rfl,?_⟩))⟩
 have hge:k=t.things.length:=by have h0:=of_decide_eq_false hb;omega
 refine G ?_;refine Z1 (ca (atO t _)) ?_;refine G ?_;exact Rx rfl (bP (by unfold aUW;rw [hall,hw,sP (p:=fun j=>decide (j=0)||aFP t t.things.length j) fun j hj=>hI.2.2 j (by omega)];rfl))
theorem atV (l:List SlotP)(hl:∀ y∈l,SlotP.wf y):PC Tryz.prog 210 [fQ l] (vb (aUA l)):=by
 refine FB 6 99 Tryz.func210 ?_;refine dM (t:=0) (x:=fQ l) rfl eR fun hf=>?_;refine G ?_;refine bM (ι:=Nat) (fun k=>⟨[(0,fQ l),(3,vi (pQ oT l k)),(4,vi (pQ (fun k=>k==4) l k)),(5,vi (pQ (fun k=>k==5) l k)),(6,vi k)],[(0,.unborn)]⟩) (fun k=>k≤l.length∧∀ j,j<k→(!aKX l j)=true) (fun k=>l.length-k) 0 (⟨Nat.zero_le _,qF⟩) (Le.sub (by repeat (first|trivial|refine ⟨.inr rfl,?_⟩|refine ⟨.inr (aR (by omega)),?_⟩)) (by repeat (first|trivial|refine ⟨rfl,?_⟩))) ?_;intro k hI;have c3:=aIV oT l k;have c4:=aIV (fun k=>k==4) l k;have c5:=aIV (fun k=>k==5) l k
 refine Gd (fun hb=>?_) fun hb=>?_
 ·have hlt:k<l.length:=by have h0:=of_decide_eq_true hb;omega
  refine G ?_;refine Z1 (ca (aJP _ _ _)) ?_;refine G ?_;refine Z4 (fun hC=>ca (an1 _ (hl _ (pR hlt)) 4)) ?_;refine Gd (fun hb=>?_) fun hb=>?_
  ·have hsb:aKX l k=true:=hb;refine G ?_;exact Rx rfl (bP (by unfold aUA;rw [nD (p:=fun j=>!aKX l j) hlt (by rw [hsb];rfl)];rfl))
  have hsb:aKX l k=false:=hb;refine Gd (fun hb=>?_) fun hb=>?_
  ·have b3:oT (l.getD k cH).kind=true:=hb;refine Gd (fun hb=>?_) fun hb=>?_
   ·have b4:((l.getD k cH).kind==4)=true:=hb;refine Gd (fun hb=>?_) fun hb=>?_
    ·have b5:((l.getD k cH).kind==5)=true:=hb;refine G ?_;have e3:=mU oT hlt;have e4:=mU (fun k=>k==4) hlt;have e5:=mU (fun k=>k==5) hlt;simp only [b3,if_true,Bool.false_eq_true,if_false] at e3;simp only [b4,if_true,Bool.false_eq_true,if_false] at e4;simp only [b5,if_true,Bool.false_eq_true,if_false] at e5;exact ⟨k+1,⟨by omega,mC (p:=fun j=>!aKX l j) hI.2 (by rw [hsb];rfl)⟩,by omega,Le.reset [0] (by simp) (by repeat (first|trivial|refine ⟨.inr rfl,?_⟩|refine ⟨.inr (aR (by omega)),?_⟩)) (nJ (by simp only [pS,bE,aN,and_self,dG,dY,cP,bV,dZ,eA,eC,eD,eE,eF,eG,eH,eI,eJ])) (by simp [lK])⟩
    have b5:((l.getD k cH).kind==5)=false:=hb;refine G ?_;have e3:=mU oT hlt;have e4:=mU (fun k=>k==4) hlt;have e5:=mU (fun k=>k==5) hlt;simp only [b3,if_true,Bool.false_eq_true,if_false] at e3;simp only [b4,if_true,Bool.false_eq_true,if_false] at e4;simp only [b5,if_true,Bool.false_eq_true,if_false] at e5;exact ⟨k+1,⟨by omega,mC (p:=fun j=>!aKX l j) hI.2 (by rw [hsb];rfl)⟩,by omega,Le.reset [0] (by simp) (by repeat (first|trivial|refine ⟨.inr rfl,?_⟩|refine ⟨.inr (aR (by omega)),?_⟩)) (nJ (by simp only [pS,bE,aN,and_self,dG,dY,cP,bV,dZ,eA,eC,eD,eE,eF,eG,eH,eI,eJ])) (by simp [lK])⟩
   have b4:((l.getD k cH).kind==4)=false:=hb;refine Gd (fun hb=>?_) fun hb=>?_
   ·have b5:((l.getD k cH).kind==5)=true:=hb;refine G ?_;have e3:=mU oT hlt;have e4:=mU (fun k=>k==4) hlt;have e5:=mU (fun k=>k==5) hlt;simp only [b3,if_true,Bool.false_eq_true,if_false] at e3;simp only [b4,if_true,Bool.false_eq_true,if_false] at e4;simp only [b5,if_true,Bool.false_eq_true,if_false] at e5;exact ⟨k+1,⟨by omega,mC (p:=fun j=>!aKX l j) hI.2 (by rw [hsb];rfl)⟩,by omega,Le.reset [0] (by simp) (by repeat (first|trivial|refine ⟨.inr rfl,?_⟩|refine ⟨.inr (aR (by omega)),?_⟩)) (nJ (by simp only [pS,bE,aN,and_self,dG,dY,cP,bV,dZ,eA,eC,eD,eE,eF,eG,eH,eI,eJ])) (by simp [lK])⟩
   have b5:((l.getD k cH).kind==5)=false:=hb;refine G ?_;have e3:=mU oT hlt;have e4:=mU (fun k=>k==4) hlt;have e5:=mU (fun k=>k==5) hlt;simp only [b3,if_true,Bool.false_eq_true,if_false] at e3;simp only [b4,if_true,Bool.false_eq_true,if_false] at e4;simp only [b5,if_true,Bool.false_eq_true,if_false] at e5;exact ⟨k+1,⟨by omega,mC (p:=fun j=>!aKX l j) hI.2 (by rw [hsb];rfl)⟩,by omega,Le.reset [0] (by simp) (by repeat (first|trivial|refine ⟨.inr rfl,?_⟩|refine ⟨.inr (aR (by omega)),?_⟩)) (nJ (by simp only [pS,bE,aN,and_self,dG,dY,cP,bV,dZ,eA,eC,eD,eE,eF,eG,eH,eI,eJ])) (by simp [lK])⟩
  have b3:oT (l.getD k cH).kind=false:=hb;refine Gd (fun hb=>?_) fun hb=>?_
  ·have b4:((l.getD k cH).kind==4)=true:=hb;refine Gd (fun hb=>?_) fun hb=>?_
   ·have b5:((l.getD k cH).kind==5)=true:=hb;refine G ?_;have e3:=mU oT hlt;have e4:=mU (fun k=>k==4) hlt;have e5:=mU (fun k=>k==5) hlt;simp only [b3,if_true,Bool.false_eq_true,if_false] at e3;simp only [b4,if_true,Bool.false_eq_true,if_false] at e4;simp only [b5,if_true,Bool.false_eq_true,if_false] at e5;exact ⟨k+1,⟨by omega,mC (p:=fun j=>!aKX l j) hI.2 (by rw [hsb];rfl)⟩,by omega,Le.reset [0] (by simp) (by repeat (first|trivial|refine ⟨.inr rfl,?_⟩|refine ⟨.inr (aR (by omega)),?_⟩)) (nJ (by simp only [pS,bE,aN,and_self,dG,dY,cP,bV,dZ,eA,eC,eD,eE,eF,eG,eH,eI,eJ])) (by simp [lK])⟩
   have b5:((l.getD k cH).kind==5)=false:=hb;refine G ?_;have e3:=mU oT hlt;have e4:=mU (fun k=>k==4) hlt;have e5:=mU (fun k=>k==5) hlt;simp only [b3,if_true,Bool.false_eq_true,if_false] at e3;simp only [b4,if_true,Bool.false_eq_true,if_false] at e4;simp only [b5,if_true,Bool.false_eq_true,if_false] at e5;exact ⟨k+1,⟨by omega,mC (p:=fun j=>!aKX l j) hI.2 (by rw [hsb];rfl)⟩,by omega,Le.reset [0] (by simp) (by repeat (first|trivial|refine ⟨.inr rfl,?_⟩|refine ⟨.inr (aR (by omega)),?_⟩)) (nJ (by simp only [pS,bE,aN,and_self,dG,dY,cP,bV,dZ,eA,eC,eD,eE,eF,eG,eH,eI,eJ])) (by simp [lK])⟩
  have b4:((l.getD k cH).kind==4)=false:=hb;refine Gd (fun hb=>?_) fun hb=>?_
  ·have b5:((l.getD k cH).kind==5)=true:=hb;refine G ?_;have e3:=mU oT hlt;have e4:=mU (fun k=>k==4) hlt;have e5:=mU (fun k=>k==5) hlt;simp only [b3,if_true,Bool.false_eq_true,if_false] at e3;simp only [b4,if_true,Bool.false_eq_true,if_false] at e4;simp only [b5,if_true,Bool.false_eq_true,if_false] at e5;exact ⟨k+1,⟨by omega,mC (p:=fun j=>!aKX l j) hI.2 (by rw [hsb];rfl)⟩,by omega,Le.reset [0] (by simp) (by repeat (first|trivial|refine ⟨.inr rfl,?_⟩|refine ⟨.inr (aR (by omega)),?_⟩)) (nJ (by simp only [pS,bE,aN,and_self,dG,dY,cP,bV,dZ,eA,eC,eD,eE,eF,eG,eH,eI,eJ])) (by simp [lK])⟩
  have b5:((l.getD k cH).kind==5)=false:=hb;refine G ?_;have e3:=mU oT hlt;have e4:=mU (fun k=>k==4) hlt;have e5:=mU (fun k=>k==5) hlt;simp only [b3,if_true,Bool.false_eq_true,if_false] at e3;simp only [b4,if_true,Bool.false_eq_true,if_false] at e4;simp only [b5,if_true,Bool.false_eq_true,if_false] at e5;exact ⟨k+1,⟨by omega,mC (p:=fun j=>!aKX l j) hI.2 (by rw [hsb];rfl)⟩,by omega,Le.reset [0] (by simp) (by repeat (first|trivial|refine ⟨.inr rfl,?_⟩|refine ⟨.inr (aR (by omega)),?_⟩)) (nJ (by simp only [pS,bE,aN,and_self,dG,dY,cP,bV,dZ,eA,eC,eD,eE,eF,eG,eH,eI,eJ])) (by simp [lK])⟩
 have hge:k=l.length:=by have h0:=of_decide_eq_false hb;omega
 refine G ?_;refine Z1 (ca (aJP _ _ _)) ?_;refine G ?_;refine Zg (R:=[]) rfl rfl rfl cA (fun hC=>by
  have hh:=gH.1 (show among _ 1 8=true from (by first|exact hC|(simp only [Bool.and_eq_true] at hC;exact hC.1)));exact (by first|exact rJ rfl rfl rfl (by kernel_rfl) (by omega)|exact mM rfl rfl rfl (by kernel_rfl) (by omega) (by omega) rfl)) trivial ?_
 refine G ?_;refine Zg (R:=[]) rfl rfl rfl aAS (fun hC=>by
  have hh:=gH.1 (show among _ 1 8=true from (by first|exact hC|(simp only [Bool.and_eq_true] at hC;exact hC.1)));exact (by first|exact rJ rfl rfl rfl (by kernel_rfl) (by omega)|exact mM rfl rfl rfl (by kernel_rfl) (by omega) (by omega) rfl)) trivial ?_
 refine G ?_;exact Rx rfl (bP (by unfold aUA;rw [sP (p:=fun j=>!aKX l j) fun j hj=>hI.2 j (by omega)];subst hge;rfl))
theorem atW (t:TabP)(k:Nat)(E:Env)(v:Value)(h:aA E (bR t) v)(hk:k<t.acts.length):(t.acts.getD k gO).lines.length≤9223372036854775807:=by
 unfold bR aA at h;obtain ⟨vs,_,h,_⟩:=h;obtain ⟨v9,h9⟩:=h.at_ 9 (gB t.acts) rfl;unfold gB aA at h9;obtain ⟨A,c,_,_,_,h10⟩:=h9;obtain ⟨b,o,_,_,h11⟩:=h10 (by omega);obtain ⟨u,h12,_⟩:=h11 k hk;unfold iC aA at h12;obtain ⟨ws,_,h13,_⟩:=h12;obtain ⟨v1,h14⟩:=h13.at_ 1 _ rfl;exact eR E _ h14
theorem atX (t:TabP)(ht:t.wf):PC Tryz.prog 145 [bR t] (vb (aUG t)):=by
 refine FB 6 166 Tryz.func145 ?_;refine dM (t:=0) (x:=bR t) rfl (qO t) fun hf=>?_;have hf1:=hf.params;have hf2:=hf.texts;have hf3:=hf.things;have hf4:=hf.acts;have hf5:=hf.locals;have hf6:=hf.deeds;have hf7:=hf.funcs;have hf8:=hf.daemons;refine dM (t:=0) (x:=bR t) (φ:=∀ k,k<t.acts.length→(t.acts.getD k gO).lines.length≤9223372036854775807) rfl (fun E v h k hk=>atW t k E v h hk) fun hfv=>?_;refine Gd (fun hb=>?_) fun hb=>?_
 ·have hw:ai0 t=true:=hb;refine G ?_;exact Rx rfl (bP (by unfold aUG;rw [hw];rfl))
 have hw:ai0 t=false:=hb;refine G ?_;refine LP (ι:=Nat) (fun k=>[(3,vi k)]) (fun _=>[]) (fun k=>k≤t.acts.length∧∀ j,j<k→aQ8 (t.acts.getD j gO)=true) (fun k=>t.acts.length-k) 0 (⟨Nat.zero_le _,qF⟩) (hl:=(Le.sub (by repeat (first|trivial|refine ⟨.inr rfl,?_⟩|refine ⟨.inr (aR (by omega)),?_⟩)) (by repeat (first|trivial|refine ⟨rfl,?_⟩)))) ?_;intro k hI;refine Gd (fun hb=>?_) fun hb=>?_
 ·have hlt:k<t.acts.length:=by have h0:=of_decide_eq_true hb;omega
  have hfl:=hfv k hlt;refine G ?_;refine Z1 (ca (aJP _ _ _)) ?_;refine Gd (fun hb=>?_) fun hb=>?_
  ·have h46:among (t.acts.getD k gO).lines.length 1 8=false:=by simpa using hb
   refine G ?_;exact Rx rfl (bP (by unfold aUG;rw [aKW (d:=gO) (p:=aQ8) hlt (by unfold aQ8;rw [h46];rfl)];simp))
  have h46:among (t.acts.getD k gO).lines.length 1 8=true:=by simpa using hb
  refine G ?_;refine LP (ι:=Nat) (fun m=>[(4,vi m)]) (fun _=>[]) (fun m=>m≤(t.acts.getD k gO).lines.length∧∀ j,j<m→aUA ((t.acts.getD k gO).lines.getD j [])=true) (fun m=>(t.acts.getD k gO).lines.length-m) 0 (⟨Nat.zero_le _,qF⟩) (hl:=(Le.sub (by repeat (first|trivial|refine ⟨.inr rfl,?_⟩|refine ⟨.inr (aR (by omega)),?_⟩)) (by repeat (first|trivial|refine ⟨rfl,?_⟩)))) ?_;intro m hm;refine Gd (fun hb=>?_) fun hb=>?_
  ·have hlm:m<(t.acts.getD k gO).lines.length:=by simpa using hb
   refine G ?_;refine Z1 (ca (atV _ (ht.acts _ (pR hlt) _ (pR hlm)))) ?_;refine Gd (fun hb=>?_) fun hb=>?_
   ·refine G ?_;exact Rx rfl (bP (by unfold aUG;rw [aKW (d:=gO) (p:=aQ8) hlt (by unfold aQ8;rw [aKW (d:=[]) (p:=aUA) hlm (by simpa using hb),Bool.and_false])];simp))
   refine G ?_;exact ⟨m+1,⟨by omega,mC (p:=fun j=>aUA ((t.acts.getD k gO).lines.getD j [])) hm.2 (by simpa using hb)⟩,by omega,Le.sub (by repeat (first|trivial|refine ⟨.inr rfl,?_⟩|refine ⟨.inr (aR (by omega)),?_⟩)) (by repeat (first|trivial|refine ⟨rfl,?_⟩))⟩
  have hge:m=(t.acts.getD k gO).lines.length:=by have h0:=of_decide_eq_false hb;omega
  refine G ?_;exact ⟨k+1,⟨by omega,mC (p:=fun j=>aQ8 (t.acts.getD j gO)) hI.2 (by unfold aQ8;rw [h46,aLP (d:=[]) (p:=aUA) fun j hj=>hm.2 j (by omega)];rfl)⟩,by omega,Le.sub (by repeat (first|trivial|refine ⟨.inr rfl,?_⟩|refine ⟨.inr (aR (by omega)),?_⟩)) (by repeat (first|trivial|refine ⟨rfl,?_⟩))⟩
 have hge:k=t.acts.length:=by have h0:=of_decide_eq_false hb;omega
 have hA:=aLP (d:=gO) (p:=aQ8) (l:=t.acts) fun j hj=>hI.2 j (by omega);refine G ?_;refine bM (ι:=Nat) (fun k=>⟨[(1,.ptr (bR t)),(5,vi k)],[(0,.unborn)]⟩) (fun k=>k≤t.deeds.length∧∀ j,j<k→(!aYE t (t.deeds.getD j fZ))=true) (fun k=>t.deeds.length-k) 0 (⟨Nat.zero_le _,qF⟩) (Le.sub (by repeat (first|trivial|refine ⟨.inr rfl,?_⟩|refine ⟨.inr (aR (by omega)),?_⟩)) (by repeat (first|trivial|refine ⟨rfl,?_⟩))) ?_;intro k hI;refine Gd (fun hb=>?_) fun hb=>?_
 ·have hlt:k<t.deeds.length:=by have h0:=of_decide_eq_true hb;omega
  refine G ?_;refine Z1 (ca (aJP _ _ _)) ?_;refine G ?_;refine Z4 (fun hC=>ca (aJP _ _ _)) ?_;refine G ?_;refine Z4 (fun hC=>ca (afB t _)) ?_;refine G ?_;refine Z4 (fun hC=>ca (afB t _)) ?_;refine G ?_;refine Z4 (fun hC=>ca (alX t _ _)) ?_;refine G ?_;refine Z4 (fun hC=>ca (alX t _ _)) ?_;refine Gd (fun hb=>?_) fun hb=>?_
  ·refine G ?_;exact Rx rfl (bP (by unfold aUG;rw [aKW (d:=fZ) (p:=fun d=>!aYE t d) hlt (by rw [show aYE t (t.deeds.getD k fZ)=true from hb];rfl)];simp))
  refine G ?_;exact ⟨k+1,⟨by omega,mC (p:=fun j=>(!aYE t (t.deeds.getD j fZ))) hI.2 (by rw [show aYE t (t.deeds.getD k fZ)=false from hb];rfl)⟩,by omega,Le.reset [0] (by simp) (by repeat (first|trivial|refine ⟨.inr rfl,?_⟩|refine ⟨.inr (aR (by omega)),?_⟩)) (nJ (by simp only [pS,bE,aN,and_self,dG,dY,cP,bV,dZ,eA,eC,eD,eE,eF,eG,eH,eI,eJ])) (by simp [lK])⟩
 have hge:k=t.deeds.length:=by have h0:=of_decide_eq_false hb;omega
 have hD:=aLP (d:=fZ) (p:=fun d=>!aYE t d) (l:=t.deeds) fun j hj=>hI.2 j (by omega);refine G ?_;refine LP (ι:=Nat) (fun k=>[(7,vi k)]) (fun _=>[]) (fun k=>k≤t.funcs.length∧∀ j,j<k→(among (t.funcs.getD j 0) 0 ((t.params.length:Int)-1))=true) (fun k=>t.funcs.length-k) 0 (⟨Nat.zero_le _,qF⟩) (hl:=(Le.sub (by repeat (first|trivial|refine ⟨.inr rfl,?_⟩|refine ⟨.inr (aR (by omega)),?_⟩)) (by repeat (first|trivial|refine ⟨rfl,?_⟩)))) ?_;intro k hI;refine Gd (fun hb=>?_) fun hb=>?_
 ·have hlt:k<t.funcs.length:=by have h0:=of_decide_eq_true hb;omega
  refine G ?_;refine Z1 (ca (aJP _ _ _)) ?_;refine Gd (fun hb=>?_) fun hb=>?_
  ·refine G ?_;exact Rx rfl (bP (by unfold aUG;rw [aKW (d:=0) (p:=fun n=>among n 0 ((t.params.length:Int)-1)) hlt (by simpa using hb)];simp))
  refine G ?_;exact ⟨k+1,⟨by omega,mC (p:=fun j=>(among (t.funcs.getD j 0) 0 ((t.params.length:Int)-1))) hI.2 (by simpa using hb)⟩,by omega,Le.sub (by repeat (first|trivial|refine ⟨.inr rfl,?_⟩|refine ⟨.inr (aR (by omega)),?_⟩)) (by repeat (first|trivial|refine ⟨rfl,?_⟩))⟩
 have hge:k=t.funcs.length:=by have h0:=of_decide_eq_false hb;omega
 have hF:=aLP (d:=0) (p:=fun n=>among n 0 ((t.params.length:Int)-1)) (l:=t.funcs) fun j hj=>hI.2 j (by omega);refine G ?_;refine LP (ι:=Nat) (fun k=>[(8,vi k)]) (fun _=>[]) (fun k=>k≤t.daemons.length∧∀ j,j<k→((false&&(t.daemons.getD j 0)==-1)||tG t (t.daemons.getD j 0))=true) (fun k=>t.daemons.length-k) 0 (⟨Nat.zero_le _,qF⟩) (hl:=(Le.sub (by repeat (first|trivial|refine ⟨.inr rfl,?_⟩|refine ⟨.inr (aR (by omega)),?_⟩)) (by repeat (first|trivial|refine ⟨rfl,?_⟩)))) ?_;intro k hI;refine Gd (fun hb=>?_) fun hb=>?_
 ·have hlt:k<t.daemons.length:=by have h0:=of_decide_eq_true hb;omega
  refine G ?_;refine Z1 (ca (alX t _ _)) ?_;refine Gd (fun hb=>?_) fun hb=>?_
  ·refine G ?_;exact Rx rfl (bP (by unfold aUG;rw [aKW (d:=0) (p:=fun n=>(false&&n==-1)||tG t n) hlt (by simpa using hb)];simp))
  refine G ?_;exact ⟨k+1,⟨by omega,mC (p:=fun j=>((false&&(t.daemons.getD j 0)==-1)||tG t (t.daemons.getD j 0))) hI.2 (by simpa using hb)⟩,by omega,Le.sub (by repeat (first|trivial|refine ⟨.inr rfl,?_⟩|refine ⟨.inr (aR (by omega)),?_⟩)) (by repeat (first|trivial|refine ⟨rfl,?_⟩))⟩
 have hge:k=t.daemons.length:=by have h0:=of_decide_eq_false hb;omega
 refine G ?_;exact Rx rfl (bP (by unfold aUG;rw [hw,hA,hD,hF,aLP (d:=0) (p:=fun n=>(false&&n==-1)||tG t n) fun j hj=>hI.2 j (by omega)];rfl))
theorem as1 (t:TabP)(ht:t.wf):PC Tryz.prog 83 [bR t] (vb (an5 t)):=by
 refine FB 6 13 Tryz.func83 ?_;refine C (atN t ht) ?_;refine C (atT t ht) ?_;refine C (atX t ht) ?_;exact Rx rfl rfl
end Go.Proofs.YtgajclaoaphgoaaGreatDoor
