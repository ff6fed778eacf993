/- Parts of the proof of a law of this seat: rules and contracts; no conditions. -/
import Derived.Test.YtnklgkjfoggpbaaGreatDoorLt
import Derived.Test.YtnklgkjfoggpbaaGreatDoorFe
import Derived.Test.YtnklgkjfoggpbaaGreatDoorProg
import Derived.KernelRfl
import Derived.Test.YtnklgkjfoggpbaaGreatDoorTexts
import Derived.Test.YtnklgkjfoggpbaaGreatDoorBh
set_option maxHeartbeats 6400000
set_option maxRecDepth 100000
set_option linter.unusedVariables false
set_option linter.unusedSimpArgs false
namespace Go.Proofs.YtnklgkjfoggpbaaGreatDoor
open Go.RowKit
theorem aaJ {x:VerbP}(E:Env)(v:Value)(h:aA E (iC x) v):x.lines.length≤9223372036854775807:=zU h (show lB x.lines∈_ by simp)
theorem aaK {x y:VerbP}(h:kP x y=true):x.meta_=y.meta_∧x.lines.length=y.lines.length:=by
 have hl:x.lines.length=y.lines.length:=by
  refine Classical.byContradiction fun hn=>?_
  unfold kP at h
  rw [nI (a:=x.lines) (b:=y.lines) (by omega),Bool.and_false] at h
  cases h
 unfold kP at h
 simp only [Bool.and_eq_true,beq_iff_eq] at h
 exact ⟨h.1,hl⟩
theorem aaL (x y:VerbP):PC Tryz.prog 118 [iC x,iC y] (vb (kP x y)):=by
 refine FC.body 2 82 Tryz.func118 rfl (by kernel_rfl) ?_
 refine dM (t:=0) (x:=iC x) rfl aaJ fun hf=>?_
 refine sq ?_
 refine Z1 bx ?_
 refine Z1 bx ?_
 refine Z1 aB ?_
 refine cn ?_
 refine aD ?_
 refine sq ?_
 refine Z1 (fa 0) ?_
 refine Z1 ld ?_
 refine Z1 (fa 0) ?_
 refine Z1 ld ?_
 refine Z1 (aPD rfl rfl rfl (by kernel_rfl)) ?_
 refine Z1 mo ?_
 refine Z4 (fun hC=>fa 1) ?_
 refine Z4 (fun hC=>ld) ?_
 refine Z4 (fun hC=>ln) ?_
 refine Z4 (fun hC=>fa 1) ?_
 refine Z4 (fun hC=>ld) ?_
 refine Z4 (fun hC=>ln) ?_
 refine Z4 (fun hC=>bz) ?_
 refine Z1 cC ?_
 refine cn ?_
 refine cd (fun hb=>?_) fun hb=>?_
 ·have hE:kP x y=false:=by
   cases hq:kP x y with
   | false=>rfl
   | true=>
    obtain ⟨q1,q2⟩:=aaK hq
    simp [q1,q2] at hb
  refine sq ?_
  refine Z1 aB ?_
  refine cn ?_
  refine aP ?_
  exact ⟨.inl rfl,aF.tmp rfl (by rw [hE];rfl),trivial⟩
 ·have hQ:x.meta_=y.meta_∧(x.lines.length:Int)=y.lines.length:=by simpa using hb
  obtain ⟨q1,hll⟩:=hQ
  refine aQ ?_
  refine aD ?_
  refine sq ?_
  refine Z1 aB ?_
  refine cn ?_
  refine aU ?_
  refine bM (ι:=Nat) (fun k=>⟨[(2,.ptr (iC x)),(3,.ptr (iC y)),(5,vi k)],[(0,.unborn),(1,.unborn)]⟩) (fun k=>k≤x.lines.length∧∀ j,j<k→uB (x.lines.getD j []) (y.lines.getD j [])=true) (fun k=>x.lines.length-k) 0 (⟨Nat.zero_le _,fun j hj=>absurd hj (by omega)⟩) (Le.sub (by repeat (first|trivial|refine ⟨.inr rfl,?_⟩|refine ⟨.inr (aR (by omega)),?_⟩)) (by repeat (first|trivial|refine ⟨rfl,?_⟩))) ?_
  intro k hI
  have hO:=hI
  refine aD ?_
  refine sq ?_
  refine Z1 mo ?_
  refine Z1 (fa 1) ?_
  refine Z1 ld ?_
  refine Z1 ln ?_
  refine Z1 bz ?_
  refine cn ?_
  refine cd (fun hb=>?_) fun hb=>?_
  ·have hlt:k<x.lines.length:=by have h0:=of_decide_eq_true hb;omega
   have hlt2:k<y.lines.length:=by omega
   refine aQ ?_
   refine aD ?_
   refine aU ?_
   refine aD ?_
   refine aD ?_
   refine dw ?_
   refine Z1 (fa 1) ?_
   refine Z1 ld ?_
   refine Z1 mo ?_
   refine Z1 ia ?_
   refine Z1 ld ?_
   refine Z1 ln ?_
   refine Z1 (fa 1) ?_
   refine Z1 ld ?_
   refine Z1 mo ?_
   refine Z1 ia ?_
   refine Z1 ld ?_
   refine Z1 ln ?_
   refine Z1 bz ?_
   refine cn (dn ?_)
   refine cd (fun hb=>?_) fun hb=>?_
   ·have hne:¬ ((x.lines.getD k []).length:Int)=(y.lines.getD k []).length:=by simpa using hb
    refine sq ?_
    refine Z1 aB ?_
    refine cn ?_
    refine aP ?_
    exact ⟨.inl rfl,aF.tmp rfl (by unfold kP;rw [lI [] k hlt hll (show uB (x.lines.getD k []) (y.lines.getD k [])=false from nI hne),Bool.and_false];rfl),trivial⟩
   ·have hl2:((x.lines.getD k []).length:Int)=(y.lines.getD k []).length:=by simpa using hb
    refine aQ ?_
    refine aD ?_
    refine dM (t:=34) (x:=fQ (x.lines.getD k [])) rfl eR fun hf2=>?_
    refine tx ?_
    refine Z1 aB ?_
    refine cn ?_
    refine aU ?_
    refine bM (ι:=Nat) (fun m=>⟨[(2,.ptr (iC x)),(3,.ptr (iC y)),(5,vi k),(6,vi m)],[(0,.unborn),(1,.unborn)]⟩) (fun m=>m≤(x.lines.getD k []).length∧∀ j,j<m→qJ ((x.lines.getD k []).getD j cH) ((y.lines.getD k []).getD j cH)=true) (fun m=>(x.lines.getD k []).length-m) 0 (⟨Nat.zero_le _,fun j hj=>absurd hj (by omega)⟩) (Le.sub (by repeat (first|trivial|refine ⟨.inr rfl,?_⟩|refine ⟨.inr (aR (by omega)),?_⟩)) (by repeat (first|trivial|refine ⟨rfl,?_⟩))) ?_
    intro m hI
    refine aD ?_
    refine sq ?_
    refine Z1 mo ?_
    refine Z1 (fa 1) ?_
    refine Z1 ld ?_
    refine Z1 mo ?_
    refine Z1 ia ?_
    refine Z1 ld ?_
    refine Z1 ln ?_
    refine Z1 bz ?_
    refine cn ?_
    refine cd (fun hb=>?_) fun hb=>?_
    ·have hlt3:m<(x.lines.getD k []).length:=by have h0:=of_decide_eq_true hb;omega
     have hlt4:m<(y.lines.getD k []).length:=by omega
     refine aQ ?_
     refine aD ?_
     refine aU ?_
     refine aD ?_
     refine dw ?_
     refine Z1 (fa 1) ?_
     refine Z1 ld ?_
     refine Z1 mo ?_
     refine Z1 ia ?_
     refine Z1 ld ?_
     refine Z1 mo ?_
     refine Z1 ia ?_
     refine Z1 lr ?_
     refine Z1 (fa 1) ?_
     refine Z1 ld ?_
     refine Z1 mo ?_
     refine Z1 ia ?_
     refine Z1 ld ?_
     refine Z1 mo ?_
     refine Z1 ia ?_
     refine Z1 lr ?_
     refine Z2 (al 0 [.int .i64 0,.slice none 0 0]) ?_
     refine Z2 (al 1 [.int .i64 0,.slice none 0 0]) ?_
     refine bW [_,_] ?_
     refine bW [_,_] ?_
     refine cn (dn ?_)
     refine aD ?_
     refine bS (Le.freezeRow 7 0 rfl rfl (Nat.le_of_ble_eq_true rfl)) ?_
     refine bS (Le.freezeRow 8 1 rfl rfl (Nat.le_of_ble_eq_true rfl)) ?_
     refine tx ?_
     refine Z1 (fa 0) ?_
     refine Z1 ld ?_
     refine Z1 (fa 0) ?_
     refine Z1 ld ?_
     refine Z1 bz ?_
     refine Z1 mo ?_
     refine Z4 (fun hC=>fa 1) ?_
     refine Z4 (fun hC=>ld) ?_
     refine Z4 (fun hC=>fa 1) ?_
     refine Z4 (fun hC=>ld) ?_
     refine Z4 (fun hC=>ca (aDB ((x.lines.getD k []).getD m cH).words ((y.lines.getD k []).getD m cH).words)) ?_
     refine Z4 (fun hC=>nt) ?_
     refine Z1 cC ?_
     refine cn ?_
     refine cd (fun hb=>?_) fun hb=>?_
     ·have heq:qJ ((x.lines.getD k []).getD m cH) ((y.lines.getD k []).getD m cH)=false:=by
       cases hq:qJ ((x.lines.getD k []).getD m cH) ((y.lines.getD k []).getD m cH) with
       | false=>rfl
       | true=>
        unfold qJ at hq
        simp only [Bool.and_eq_true,beq_iff_eq,decide_eq_true_eq] at hq
        rw [hq.1,hq.2] at hb
        simp at hb
      refine sq ?_
      refine Z1 aB ?_
      refine cn ?_
      refine aP ?_
      exact ⟨.inl rfl,aF.tmp rfl (by unfold kP;rw [lI [] k hlt hll (show uB (x.lines.getD k []) (y.lines.getD k [])=false from lI cH m hlt3 hl2 heq),Bool.and_false];rfl),trivial⟩
     ·have heq:qJ ((x.lines.getD k []).getD m cH) ((y.lines.getD k []).getD m cH)=true:=by
       unfold qJ
       simpa using hb
      refine aQ ?_
      refine tx ?_
      refine Z1 mo ?_
      refine Z1 ba ?_
      refine Z1 aB ?_
      refine cn ?_
      exact ⟨m+1,⟨by omega,fun j hj=>(Nat.lt_succ_iff_lt_or_eq.1 hj).elim (hI.2 j) (fun h1=>h1 ▸ heq)⟩,by omega,Le.reset [0,1] (by simp) (by repeat (first|trivial|refine ⟨.inr rfl,?_⟩|refine ⟨.inr (aR (by omega)),?_⟩)) (nJ ⟨Pu.out,Pu.out,Pu.out,Pu.out,trivial⟩) (by simp [lK])⟩
    ·have hge3:m=(x.lines.getD k []).length:=by have h0:=of_decide_eq_false hb;omega
     refine bU ?_
     refine tx ?_
     refine Z1 mo ?_
     refine Z1 ba ?_
     refine Z1 aB ?_
     refine cn ?_
     have heq:uB (x.lines.getD k []) (y.lines.getD k [])=true:=mE cH hl2 (fun j hj=>hI.2 j (by omega))
     exact ⟨k+1,⟨by omega,fun j hj=>(Nat.lt_succ_iff_lt_or_eq.1 hj).elim (hO.2 j) (fun h1=>h1 ▸ heq)⟩,by omega,Le.sub (by repeat (first|trivial|refine ⟨.inr rfl,?_⟩|refine ⟨.inr (aR (by omega)),?_⟩)) ⟨rfl,rfl,trivial⟩⟩
  ·have hge:k=x.lines.length:=by have h0:=of_decide_eq_false hb;omega
   refine bU ?_
   refine sq ?_
   refine Z1 aB ?_
   refine cn ?_
   refine aP ?_
   exact ⟨.inl rfl,aF.tmp rfl (show vb true=vb _ from congrArg (fun b=>vb b) (by unfold kP;rw [mE [] hll (fun j hj=>hI.2 j (by omega)),q1];simp)),trivial⟩
theorem aaM {x:TabP}(E:Env)(v:Value)(h:aA E (bR x) v):x.things.length≤9223372036854775807:=zU h (show gA x.things∈_ by simp)
theorem aaN {x:TabP}(E:Env)(v:Value)(h:aA E (bR x) v):x.acts.length≤9223372036854775807:=zU h (show gB x.acts∈_ by simp)
theorem aaO {x:TabP}(E:Env)(v:Value)(h:aA E (bR x) v):x.deeds.length≤9223372036854775807:=zU h (show fY x.deeds∈_ by simp)
def xO (x:TabP):List Int:=[x.title,x.by_,x.release,x.max,x.flags]
def qL (x y:TabP):Bool:=((((xO x==xO y)&&dR lA x.things y.things)&&dR kP x.acts y.acts)&&dR (fun x y=>gN x==gN y) x.deeds y.deeds)&&((((((decide (x.props=y.props)&&decide (x.globals=y.globals))&&decide (x.funcs=y.funcs))&&decide (x.daemons=y.daemons))&&decide (x.params=y.params))&&decide (x.locals=y.locals))&&decide (x.texts=y.texts))
theorem aHQ {α:Type}{e:α→α→Bool}{a b:List α}(h:dR e a b=true):a.length=b.length:=by
 refine Classical.byContradiction fun hn=>?_
 rw [nI (by omega)] at h
 cases h
theorem aaP {x y:TabP}(h:qL x y=true):x.title=y.title∧x.by_=y.by_∧x.release=y.release∧x.max=y.max∧x.flags=y.flags∧x.things.length=y.things.length∧x.acts.length=y.acts.length∧x.deeds.length=y.deeds.length:=by
 unfold qL xO at h
 rw [Bool.and_eq_true,Bool.and_eq_true,Bool.and_eq_true,Bool.and_eq_true] at h
 obtain ⟨⟨⟨⟨h1,h2⟩,h3⟩,h4⟩,_⟩:=h
 simp only [beq_iff_eq,List.cons.injEq] at h1
 exact ⟨h1.1,h1.2.1,h1.2.2.1,h1.2.2.2.1,h1.2.2.2.2.1,aHQ h2,aHQ h3,aHQ h4⟩
theorem aaQ (x y:TabP):PC Tryz.prog 59 [bR x,bR y] (vb (qL x y)):=by
 refine FC.body 0 173 Tryz.func59 rfl (by kernel_rfl) ?_
 refine dM (t:=0) (x:=bR x) rfl aaM fun hft=>?_
 refine dM (t:=0) (x:=bR x) rfl aaN fun hfa=>?_
 refine dM (t:=0) (x:=bR x) rfl aaO fun hfd=>?_
 refine sq ?_
 refine Z1 bx ?_
 refine Z1 bx ?_
 refine Z1 aB ?_
 refine cn ?_
 refine aD ?_
 refine sq ?_
 refine Z1 (fa 0) ?_
 refine Z1 ld ?_
 refine Z1 (fa 0) ?_
 refine Z1 ld ?_
 refine Z1 bz ?_
 refine Z1 mo ?_
 refine Z4 (fun hC=>fa 1) ?_
 refine Z4 (fun hC=>ld) ?_
 refine Z4 (fun hC=>fa 1) ?_
 refine Z4 (fun hC=>ld) ?_
 refine Z4 (fun hC=>bz) ?_
 refine Z1 cC ?_
 refine Z1 mo ?_
 refine Z4 (fun hC=>fa 2) ?_
 refine Z4 (fun hC=>ld) ?_
 refine Z4 (fun hC=>fa 2) ?_
 refine Z4 (fun hC=>ld) ?_
 refine Z4 (fun hC=>bz) ?_
 refine Z1 cC ?_
 refine Z1 mo ?_
 refine Z4 (fun hC=>fa 3) ?_
 refine Z4 (fun hC=>ld) ?_
 refine Z4 (fun hC=>fa 3) ?_
 refine Z4 (fun hC=>ld) ?_
 refine Z4 (fun hC=>bz) ?_
 refine Z1 cC ?_
 refine Z1 mo ?_
 refine Z4 (fun hC=>fa 5) ?_
 refine Z4 (fun hC=>ld) ?_
 refine Z4 (fun hC=>fa 5) ?_
 refine Z4 (fun hC=>ld) ?_
 refine Z4 (fun hC=>bz) ?_
 refine Z1 cC ?_
 refine Z1 mo ?_
 refine Z4 (fun hC=>fa 8) ?_
 refine Z4 (fun hC=>ld) ?_
 refine Z4 (fun hC=>ln) ?_
 refine Z4 (fun hC=>fa 8) ?_
 refine Z4 (fun hC=>ld) ?_
 refine Z4 (fun hC=>ln) ?_
 refine Z4 (fun hC=>bz) ?_
 refine Z1 cC ?_
 refine Z1 mo ?_
 refine Z4 (fun hC=>fa 9) ?_
 refine Z4 (fun hC=>ld) ?_
 refine Z4 (fun hC=>ln) ?_
 refine Z4 (fun hC=>fa 9) ?_
 refine Z4 (fun hC=>ld) ?_
 refine Z4 (fun hC=>ln) ?_
 refine Z4 (fun hC=>bz) ?_
 refine Z1 cC ?_
 refine Z1 mo ?_
 refine Z4 (fun hC=>fa 10) ?_
 refine Z4 (fun hC=>ld) ?_
 refine Z4 (fun hC=>ln) ?_
 refine Z4 (fun hC=>fa 10) ?_
 refine Z4 (fun hC=>ld) ?_
 refine Z4 (fun hC=>ln) ?_
 refine Z4 (fun hC=>bz) ?_
 refine Z1 cC ?_
 refine cn ?_
 refine cd (fun hb=>?_) fun hb=>?_
 ·have hE:qL x y=false:=by
   cases hq:qL x y with
   | false=>rfl
   | true=>
    obtain ⟨q1,q2,q3,q4,q5,q6,q7,q8⟩:=aaP hq
    simp [q1,q2,q3,q4,q5,q6,q7,q8] at hb
  refine sq ?_
  refine Z1 aB ?_
  refine cn ?_
  refine aP ?_
  exact ⟨.inl rfl,aF.tmp rfl (by rw [hE];rfl),trivial⟩
 ·have hQ:x.title=y.title∧x.by_=y.by_∧x.release=y.release∧x.max=y.max∧x.flags=y.flags∧(x.things.length:Int)=y.things.length∧(x.acts.length:Int)=y.acts.length∧(x.deeds.length:Int)=y.deeds.length:=by simpa [and_assoc] using hb
  obtain ⟨q1,q2,q3,q4,q5,l1,l2,l3⟩:=hQ
  clear hb
  refine aQ ?_
  refine aD ?_
  refine sq ?_
  refine Z1 aB ?_
  refine cn ?_
  refine aU ?_
  refine bM (ι:=Nat) (fun k=>⟨[(2,.ptr (bR x)),(3,.ptr (bR y)),(5,vi k)],[]⟩) (fun k=>k≤x.things.length∧∀ j,j<k→lA (x.things.getD j cY) (y.things.getD j cY)=true) (fun k=>x.things.length-k) 0 (⟨Nat.zero_le _,fun j hj=>absurd hj (by omega)⟩) (Le.sub (by repeat (first|trivial|refine ⟨.inr rfl,?_⟩|refine ⟨.inr (aR (by omega)),?_⟩)) (by repeat (first|trivial|refine ⟨rfl,?_⟩))) ?_
  intro k hI
  refine aD ?_
  refine sq ?_
  refine Z1 mo ?_
  refine Z1 (fa 8) ?_
  refine Z1 ld ?_
  refine Z1 ln ?_
  refine Z1 bz ?_
  refine cn ?_
  refine cd (fun hb=>?_) fun hb=>?_
  ·have hlt:k<x.things.length:=by have h0:=of_decide_eq_true hb;omega
   have hlt2:k<y.things.length:=by omega
   refine aQ ?_
   refine aD ?_
   refine aU ?_
   refine aD ?_
   refine dw ?_
   refine Z1 (fa 8) ?_
   refine Z1 ld ?_
   refine Z1 mo ?_
   refine Z1 ia ?_
   refine Z1 lr ?_
   refine Z1 (fa 8) ?_
   refine Z1 ld ?_
   refine Z1 mo ?_
   refine Z1 ia ?_
   refine Z1 lr ?_
   refine Z1 (ca (aaI (x.things.getD k cY) (y.things.getD k cY))) ?_
   refine Z1 nt ?_
   refine cn (dn ?_)
   refine cd (fun hb=>?_) fun hb=>?_
   ·have heq:lA (x.things.getD k cY) (y.things.getD k cY)=false:=by simpa using hb
    refine sq ?_
    refine Z1 aB ?_
    refine cn ?_
    refine aP ?_
    exact ⟨.inl rfl,aF.tmp rfl (show vb false=vb _ from congrArg (fun b=>vb b) (by unfold qL;rw [lI cY k hlt l1 heq];simp)),trivial⟩
   ·have heq:lA (x.things.getD k cY) (y.things.getD k cY)=true:=by simpa using hb
    refine aQ ?_
    refine tx ?_
    refine Z1 mo ?_
    refine Z1 ba ?_
    refine Z1 aB ?_
    refine cn ?_
    exact ⟨k+1,⟨by omega,fun j hj=>(Nat.lt_succ_iff_lt_or_eq.1 hj).elim (hI.2 j) (fun h1=>h1 ▸ heq)⟩,by omega,Le.sub (by repeat (first|trivial|refine ⟨.inr rfl,?_⟩|refine ⟨.inr (aR (by omega)),?_⟩)) trivial⟩
  ·have hge:k=x.things.length:=by have h0:=of_decide_eq_false hb;omega
   have hT:dR lA x.things y.things=true:=mE cY l1 (fun j hj=>hI.2 j (by omega))
   clear hI hb hge
   refine bU ?_
   refine aD ?_
   refine sq ?_
   refine Z1 aB ?_
   refine cn ?_
   refine aU ?_
   refine bM (ι:=Nat) (fun k=>⟨[(2,.ptr (bR x)),(3,.ptr (bR y)),(6,vi k)],[]⟩) (fun k=>k≤x.acts.length∧∀ j,j<k→kP (x.acts.getD j gO) (y.acts.getD j gO)=true) (fun k=>x.acts.length-k) 0 (⟨Nat.zero_le _,fun j hj=>absurd hj (by omega)⟩) (Le.sub (by repeat (first|trivial|refine ⟨.inr rfl,?_⟩|refine ⟨.inr (aR (by omega)),?_⟩)) (by repeat (first|trivial|refine ⟨rfl,?_⟩))) ?_
   intro k hI
   refine aD ?_
   refine sq ?_
   refine Z1 mo ?_
   refine Z1 (fa 9) ?_
   refine Z1 ld ?_
   refine Z1 ln ?_
   refine Z1 bz ?_
   refine cn ?_
   refine cd (fun hb=>?_) fun hb=>?_
   ·have hlt:k<x.acts.length:=by have h0:=of_decide_eq_true hb;omega
    have hlt2:k<y.acts.length:=by omega
    refine aQ ?_
    refine aD ?_
    refine aU ?_
    refine aD ?_
    refine dw ?_
    refine Z1 (fa 9) ?_
    refine Z1 ld ?_
    refine Z1 mo ?_
    refine Z1 ia ?_
    refine Z1 lr ?_
    refine Z1 (fa 9) ?_
    refine Z1 ld ?_
    refine Z1 mo ?_
    refine Z1 ia ?_
    refine Z1 lr ?_
    refine Z1 (ca (aaL (x.acts.getD k gO) (y.acts.getD k gO))) ?_
    refine Z1 nt ?_
    refine cn (dn ?_)
    refine cd (fun hb=>?_) fun hb=>?_
    ·have heq:kP (x.acts.getD k gO) (y.acts.getD k gO)=false:=by simpa using hb
     refine sq ?_
     refine Z1 aB ?_
     refine cn ?_
     refine aP ?_
     exact ⟨.inl rfl,aF.tmp rfl (show vb false=vb _ from congrArg (fun b=>vb b) (by unfold qL;rw [lI gO k hlt l2 heq];simp)),trivial⟩
    ·have heq:kP (x.acts.getD k gO) (y.acts.getD k gO)=true:=by simpa using hb
     refine aQ ?_
     refine tx ?_
     refine Z1 mo ?_
     refine Z1 ba ?_
     refine Z1 aB ?_
     refine cn ?_
     exact ⟨k+1,⟨by omega,fun j hj=>(Nat.lt_succ_iff_lt_or_eq.1 hj).elim (hI.2 j) (fun h1=>h1 ▸ heq)⟩,by omega,Le.sub (by repeat (first|trivial|refine ⟨.inr rfl,?_⟩|refine ⟨.inr (aR (by omega)),?_⟩)) trivial⟩
   ·have hge:k=x.acts.length:=by have h0:=of_decide_eq_false hb;omega
    have hA:dR kP x.acts y.acts=true:=mE gO l2 (fun j hj=>hI.2 j (by omega))
    clear hI hb hge
    refine bU ?_
    refine aD ?_
    refine sq ?_
    refine Z1 aB ?_
    refine cn ?_
    refine aU ?_
    refine bM (ι:=Nat) (fun k=>⟨[(2,.ptr (bR x)),(3,.ptr (bR y)),(7,vi k)],[]⟩) (fun k=>k≤x.deeds.length∧∀ j,j<k→(fun x y=>gN x==gN y) (x.deeds.getD j fZ) (y.deeds.getD j fZ)=true) (fun k=>x.deeds.length-k) 0 (⟨Nat.zero_le _,fun j hj=>absurd hj (by omega)⟩) (Le.sub (by repeat (first|trivial|refine ⟨.inr rfl,?_⟩|refine ⟨.inr (aR (by omega)),?_⟩)) (by repeat (first|trivial|refine ⟨rfl,?_⟩))) ?_
    intro k hI
    refine aD ?_
    refine sq ?_
    refine Z1 mo ?_
    refine Z1 (fa 10) ?_
    refine Z1 ld ?_
    refine Z1 ln ?_
    refine Z1 bz ?_
    refine cn ?_
    refine cd (fun hb=>?_) fun hb=>?_
    ·have hlt:k<x.deeds.length:=by have h0:=of_decide_eq_true hb;omega
     have hlt2:k<y.deeds.length:=by omega
     refine aQ ?_
     refine aD ?_
     refine aU ?_
     refine aD ?_
     refine dw ?_
     refine Z1 (fa 10) ?_
     refine Z1 ld ?_
     refine Z1 mo ?_
     refine Z1 ia ?_
     refine Z1 lr ?_
     refine Z1 (fa 10) ?_
     refine Z1 ld ?_
     refine Z1 mo ?_
     refine Z1 ia ?_
     refine Z1 lr ?_
     refine Z1 (aC8 (gN (x.deeds.getD k fZ)) (gN (y.deeds.getD k fZ)) rfl rfl rfl (by kernel_rfl) rfl) ?_
     refine cn (dn ?_)
     refine cd (fun hb=>?_) fun hb=>?_
     ·have heq:(fun x y=>gN x==gN y) (x.deeds.getD k fZ) (y.deeds.getD k fZ)=false:=by simpa using hb
      refine sq ?_
      refine Z1 aB ?_
      refine cn ?_
      refine aP ?_
      exact ⟨.inl rfl,aF.tmp rfl (show vb false=vb _ from congrArg (fun b=>vb b) (by unfold qL;rw [show dR (fun x y=>gN x==gN y) x.deeds y.deeds=false from lI fZ k hlt l3 heq];simp)),trivial⟩
     ·have heq:(fun x y=>gN x==gN y) (x.deeds.getD k fZ) (y.deeds.getD k fZ)=true:=by simpa using hb
      refine aQ ?_
      refine tx ?_
      refine Z1 mo ?_
      refine Z1 ba ?_
      refine Z1 aB ?_
      refine cn ?_
      exact ⟨k+1,⟨by omega,fun j hj=>(Nat.lt_succ_iff_lt_or_eq.1 hj).elim (hI.2 j) (fun h1=>h1 ▸ heq)⟩,by omega,Le.sub (by repeat (first|trivial|refine ⟨.inr rfl,?_⟩|refine ⟨.inr (aR (by omega)),?_⟩)) trivial⟩
    ·have hge:k=x.deeds.length:=by have h0:=of_decide_eq_false hb;omega
     have hD:dR (fun x y=>gN x==gN y) x.deeds y.deeds=true:=mE fZ l3 (fun j hj=>hI.2 j (by omega))
     clear hI hb hge
     refine bU ?_
     refine sq ?_
     refine Z1 (fa 6) ?_
     refine Z1 ld ?_
     refine Z1 (fa 6) ?_
     refine Z1 ld ?_
     refine Z1 (ca (uD x.props y.props)) ?_
     refine Z1 mo ?_
     refine Z4 (fun hC=>fa 7) ?_
     refine Z4 (fun hC=>ld) ?_
     refine Z4 (fun hC=>fa 7) ?_
     refine Z4 (fun hC=>ld) ?_
     refine Z4 (fun hC=>ca (uD x.globals y.globals)) ?_
     refine Z1 an ?_
     refine Z1 mo ?_
     refine Z4 (fun hC=>fa 11) ?_
     refine Z4 (fun hC=>ld) ?_
     refine Z4 (fun hC=>fa 11) ?_
     refine Z4 (fun hC=>ld) ?_
     refine Z4 (fun hC=>ca (uD x.funcs y.funcs)) ?_
     refine Z1 an ?_
     refine Z1 mo ?_
     refine Z4 (fun hC=>fa 12) ?_
     refine Z4 (fun hC=>ld) ?_
     refine Z4 (fun hC=>fa 12) ?_
     refine Z4 (fun hC=>ld) ?_
     refine Z4 (fun hC=>ca (uD x.daemons y.daemons)) ?_
     refine Z1 an ?_
     refine Z1 aB ?_
     refine cn ?_
     refine sq ?_
     refine Z1 mo ?_
     refine Z1 mo ?_
     refine Z4 (fun hC=>fa 13) ?_
     refine Z4 (fun hC=>ld) ?_
     refine Z4 (fun hC=>fa 13) ?_
     refine Z4 (fun hC=>ld) ?_
     refine Z4 (fun hC=>ca (uD x.params y.params)) ?_
     refine Z1 an ?_
     refine Z1 mo ?_
     refine Z4 (fun hC=>fa 14) ?_
     refine Z4 (fun hC=>ld) ?_
     refine Z4 (fun hC=>fa 14) ?_
     refine Z4 (fun hC=>ld) ?_
     refine Z4 (fun hC=>ca (uD x.locals y.locals)) ?_
     refine Z1 an ?_
     refine Z1 mo ?_
     refine Z4 (fun hC=>fa 4) ?_
     refine Z4 (fun hC=>ld) ?_
     refine Z4 (fun hC=>fa 4) ?_
     refine Z4 (fun hC=>ld) ?_
     refine Z4 (fun hC=>ca (aDB x.texts y.texts)) ?_
     refine Z1 an ?_
     refine Z1 aB ?_
     refine cn ?_
     refine aP ?_
     exact ⟨.inl rfl,aF.tmp rfl (show vb _=vb _ from congrArg (fun b=>vb b) (by unfold qL xO;rw [hT,hA,hD,q1,q2,q3,q4,q5];simp)),trivial⟩
end Go.Proofs.YtnklgkjfoggpbaaGreatDoor
namespace Go.Proofs.YtnklgkjfoggpbaaGreatDoor
open Go.RowKit
theorem aaR {a b:List Int}(ha:dC a)(hb:dC b):((strOfNums a).toList==(strOfNums b).toList)=decide (a=b):=by
 rw [tT]
 by_cases h:a=b
 ·subst h
  simp
 ·rw [decide_eq_false h,decide_eq_false (fun he=>h (by rw [←pJ ha,←pJ hb,he]))]
theorem aaS (x y:StoryP):((qL x.tab y.tab&&decide (x.entry=y.entry))&&decide (x.code=y.code))=uC x y:=by
 unfold uC
 rw [aDA,show cW x=xO x.tab from rfl,show cW y=xO y.tab from rfl]
 unfold qL rO
 rw [Bool.eq_iff_iff]
 simp only [Bool.and_eq_true,decide_eq_true_eq,List.cons.injEq,and_true]
 constructor
 ·rintro ⟨⟨⟨⟨⟨⟨h1,h2⟩,h3⟩,h4⟩,⟨⟨⟨⟨⟨⟨h5,h6⟩,h7⟩,h8⟩,h9⟩,h10⟩,h11⟩⟩,h12⟩,h13⟩
  exact ⟨⟨⟨⟨⟨⟨h1,h5,h6,h7,h8,h9,h10,h12⟩,h11⟩,h2⟩,h3⟩,h4⟩,h13⟩
 ·rintro ⟨⟨⟨⟨⟨⟨h1,h5,h6,h7,h8,h9,h10,h12⟩,h11⟩,h2⟩,h3⟩,h4⟩,h13⟩
  exact ⟨⟨⟨⟨⟨⟨h1,h2⟩,h3⟩,h4⟩,⟨⟨⟨⟨⟨⟨h5,h6⟩,h7⟩,h8⟩,h9⟩,h10⟩,h11⟩⟩,h12⟩,h13⟩
theorem aaT (a b:List Int)(ha:dC a)(hb:dC b):PC Tryz.prog 61 [bs a,bs b] (vb (decide (a=b))):=by
 refine FC.body 0 10 Tryz.func61 rfl (by kernel_rfl) ?_
 refine sq ?_
 refine Z1 aB ?_
 refine cn ?_
 refine sq ?_
 refine Z1 mo ?_
 refine Z1 (vX a rfl rfl (by kernel_rfl)) ?_
 refine Z1 mo ?_
 refine Z1 (vX b rfl rfl (by kernel_rfl)) ?_
 refine Z1 (aGV rfl rfl rfl) ?_
 refine Z1 aB ?_
 refine cn ?_
 refine aP ?_
 exact ⟨.inl rfl,aF.tmp rfl (show vb _=vb _ from congrArg (fun b=>vb b) (aaR ha hb)),trivial⟩
theorem aHR (x y:StoryP)(hx:dC x.code)(hy:dC y.code):PC Tryz.prog 16 [cX x,cX y] (vb (uC x y)):=by
 refine FC.body 0 24 Tryz.func16 rfl (by kernel_rfl) ?_
 refine sq ?_
 refine Z1 bx ?_
 refine Z1 bx ?_
 refine Z1 aB ?_
 refine cn ?_
 refine sq ?_
 refine Z1 (qK 0 15) ?_
 refine Z1 lr ?_
 refine Z1 (qK 0 15) ?_
 refine Z1 lr ?_
 refine Z1 (ca (aaQ x.tab y.tab)) ?_
 refine Z1 mo ?_
 refine Z4 (fun hC=>fa 15) ?_
 refine Z4 (fun hC=>ld) ?_
 refine Z4 (fun hC=>fa 15) ?_
 refine Z4 (fun hC=>ld) ?_
 refine Z4 (fun hC=>ca (uD x.entry y.entry)) ?_
 refine Z1 an ?_
 refine Z1 mo ?_
 refine Z4 (fun hC=>fa 16) ?_
 refine Z4 (fun hC=>ld) ?_
 refine Z4 (fun hC=>fa 16) ?_
 refine Z4 (fun hC=>ld) ?_
 refine Z4 (fun hC=>ca (aaT x.code y.code hx hy)) ?_
 refine Z1 an ?_
 refine Z1 aB ?_
 refine cn ?_
 refine aP ?_
 exact ⟨.inl rfl,aF.tmp rfl (show vb _=vb _ from congrArg (fun b=>vb b) (aaS x y)),trivial⟩
end Go.Proofs.YtnklgkjfoggpbaaGreatDoor
