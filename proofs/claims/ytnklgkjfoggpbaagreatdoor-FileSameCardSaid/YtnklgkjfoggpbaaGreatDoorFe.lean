/- Parts of the proof of a law of this seat: rules and contracts; no conditions. -/
import Derived.Test.YtnklgkjfoggpbaaGreatDoorWireSpec
import Derived.Test.YtnklgkjfoggpbaaGreatDoorLt
import Derived.Test.YtnklgkjfoggpbaaGreatDoorFb
import Derived.Test.YtnklgkjfoggpbaaGreatDoorWb
import Derived.Test.YtnklgkjfoggpbaaGreatDoorProg
import Derived.KernelRfl
import Derived.Test.YtnklgkjfoggpbaaGreatDoorBu
set_option maxHeartbeats 6400000
set_option maxRecDepth 100000
set_option linter.unusedVariables false
set_option linter.unusedSimpArgs false
namespace Go.Proofs.YtnklgkjfoggpbaaGreatDoor
open Go.RowKit
def dR {α:Type}(e:α→α→Bool):List α→List α→Bool
 | [],[]=>true
 | x::l,y::m=>e x y&&dR e l m
 | _,_=>false
theorem nI {α:Type}{e:α→α→Bool}:∀ {a b:List α},¬ (a.length:Int)=b.length→dR e a b=false
 | [],[],h=>absurd rfl h
 | x::l,[],h=>rfl
 | [],y::m,h=>rfl
 | x::l,y::m,h=>by
  unfold dR
  rw [nI (a:=l) (b:=m) (by simp at h ⊢;omega),Bool.and_false]
theorem mE {α:Type}{e:α→α→Bool}(d:α):∀ {a b:List α},(a.length:Int)=b.length→(∀ j,j<a.length→e (a.getD j d) (b.getD j d)=true)→dR e a b=true
 | [],[],h,hj=>rfl
 | x::l,[],h,hj=>by simp at h;omega
 | [],y::m,h,hj=>by simp at h;omega
 | x::l,y::m,h,hj=>by
  unfold dR
  have h0:=hj 0 (by simp)
  rw [show e x y=true from h0,mE d (a:=l) (b:=m) (by simp at h;omega) (fun j k=>by have:=hj (j+1) (by simp;omega);simpa using this)]
  rfl
theorem lI {α:Type}{e:α→α→Bool}(d:α):∀ {a b:List α} (j:Nat),j<a.length→(a.length:Int)=b.length→e (a.getD j d) (b.getD j d)=false→dR e a b=false
 | [],[],j,h,_,hj=>absurd h (by simp)
 | x::l,[],j,h,hl,hj=>rfl
 | [],y::m,j,h,hl,hj=>rfl
 | x::l,y::m,0,h,hl,hj=>by
  unfold dR
  rw [show e x y=false from hj,Bool.false_and]
 | x::l,y::m,j+1,h,hl,hj=>by
  unfold dR
  rw [lI d (a:=l) (b:=m) j (by simpa using h) (by simp at hl;omega) (by simpa using hj),Bool.and_false]
theorem kY {α:Type}{d:α}{l:List α}{k:Nat}(h:k<l.length):l.getD k d∈l:=by
 rw [List.getD,List.getElem?_eq_getElem h]
 exact List.getElem_mem h
def jJ (y:WayP):List Int:=[y.dir,y.goal,y.cond,y.els]
def gN (x:DeedP):List Int:=[x.verb,x.phase,x.noun,x.second,x.cond,x.body]
theorem aZ1 (a b:List WayP):PC Tryz.prog 121 [kZ a,kZ b] (vb (dR (fun x y=>jJ x==jJ y) a b)):=by
 refine FC.body 0 26 Tryz.func121 rfl (by kernel_rfl) ?_
 refine dM (t:=0) (x:=kZ a) rfl eR fun hf=>?_
 refine W ?_
 refine cd (fun hb=>?_) fun hb=>?_
 ·have hne:¬ (a.length:Int)=b.length:=by simpa using hb
  refine W ?_
  exact ⟨.inl rfl,aF.tmp rfl (by rw [nI hne];rfl),trivial⟩
 ·have hll:(a.length:Int)=b.length:=by simpa using hb
  refine W ?_
  refine bM (ι:=Nat) (fun k=>⟨[(0,kZ a),(1,kZ b),(12,vi (a.length:Int)),(13,vi k)],[]⟩) (fun k=>k≤a.length∧∀ j,j<k→(fun x y=>jJ x==jJ y) (a.getD j dD) (b.getD j dD)=true) (fun k=>a.length-k) 0 (⟨Nat.zero_le _,fun j hj=>absurd hj (by omega)⟩) (Le.sub (by repeat (first|trivial|refine ⟨.inr rfl,?_⟩|refine ⟨.inr (aR (by omega)),?_⟩)) (by repeat (first|trivial|refine ⟨rfl,?_⟩))) ?_
  intro k hI
  refine W ?_
  refine cd (fun hb=>?_) fun hb=>?_
  ·have hlt:k<a.length:=by have h0:=of_decide_eq_true hb;omega
   have hlt2:k<b.length:=by omega
   refine W ?_
   refine dw ?_
   refine W ?_
   refine Z1 (aC8 (jJ (a.getD k dD)) (jJ (b.getD k dD)) rfl rfl rfl (by kernel_rfl) rfl) ?_
   refine cn (dn ?_)
   refine cd (fun hb=>?_) fun hb=>?_
   ·have heq:(fun x y=>jJ x==jJ y) (a.getD k dD) (b.getD k dD)=false:=by simpa using hb
    refine W ?_
    exact ⟨.inl rfl,aF.tmp rfl (by rw [lI dD k hlt hll heq];rfl),trivial⟩
   ·have heq:(fun x y=>jJ x==jJ y) (a.getD k dD) (b.getD k dD)=true:=by simpa using hb
    refine W ?_
    exact ⟨k+1,⟨by omega,fun j hj=>(Nat.lt_succ_iff_lt_or_eq.1 hj).elim (hI.2 j) (fun h1=>h1 ▸ heq)⟩,by omega,Le.sub (by repeat (first|trivial|refine ⟨.inr rfl,?_⟩|refine ⟨.inr (aR (by omega)),?_⟩)) trivial⟩
  ·have hge:k=a.length:=by have h0:=of_decide_eq_false hb;omega
   refine W ?_
   exact ⟨.inl rfl,aF.tmp rfl (by rw [mE dD hll (fun j hj=>hI.2 j (by omega))];rfl),trivial⟩
theorem aZ2 (a b:List DeedP):PC Tryz.prog 69 [fY a,fY b] (vb (dR (fun x y=>gN x==gN y) a b)):=by
 refine FC.body 0 26 Tryz.func69 rfl (by kernel_rfl) ?_
 refine dM (t:=0) (x:=fY a) rfl eR fun hf=>?_
 refine W ?_
 refine cd (fun hb=>?_) fun hb=>?_
 ·have hne:¬ (a.length:Int)=b.length:=by simpa using hb
  refine W ?_
  exact ⟨.inl rfl,aF.tmp rfl (by rw [nI hne];rfl),trivial⟩
 ·have hll:(a.length:Int)=b.length:=by simpa using hb
  refine W ?_
  refine bM (ι:=Nat) (fun k=>⟨[(0,fY a),(1,fY b),(12,vi (a.length:Int)),(13,vi k)],[]⟩) (fun k=>k≤a.length∧∀ j,j<k→(fun x y=>gN x==gN y) (a.getD j fZ) (b.getD j fZ)=true) (fun k=>a.length-k) 0 (⟨Nat.zero_le _,fun j hj=>absurd hj (by omega)⟩) (Le.sub (by repeat (first|trivial|refine ⟨.inr rfl,?_⟩|refine ⟨.inr (aR (by omega)),?_⟩)) (by repeat (first|trivial|refine ⟨rfl,?_⟩))) ?_
  intro k hI
  refine W ?_
  refine cd (fun hb=>?_) fun hb=>?_
  ·have hlt:k<a.length:=by have h0:=of_decide_eq_true hb;omega
   have hlt2:k<b.length:=by omega
   refine W ?_
   refine dw ?_
   refine W ?_
   refine Z1 (aC8 (gN (a.getD k fZ)) (gN (b.getD k fZ)) rfl rfl rfl (by kernel_rfl) rfl) ?_
   refine cn (dn ?_)
   refine cd (fun hb=>?_) fun hb=>?_
   ·have heq:(fun x y=>gN x==gN y) (a.getD k fZ) (b.getD k fZ)=false:=by simpa using hb
    refine W ?_
    exact ⟨.inl rfl,aF.tmp rfl (by rw [lI fZ k hlt hll heq];rfl),trivial⟩
   ·have heq:(fun x y=>gN x==gN y) (a.getD k fZ) (b.getD k fZ)=true:=by simpa using hb
    refine W ?_
    exact ⟨k+1,⟨by omega,fun j hj=>(Nat.lt_succ_iff_lt_or_eq.1 hj).elim (hI.2 j) (fun h1=>h1 ▸ heq)⟩,by omega,Le.sub (by repeat (first|trivial|refine ⟨.inr rfl,?_⟩|refine ⟨.inr (aR (by omega)),?_⟩)) trivial⟩
  ·have hge:k=a.length:=by have h0:=of_decide_eq_false hb;omega
   refine W ?_
   exact ⟨.inl rfl,aF.tmp rfl (by rw [mE fZ hll (fun j hj=>hI.2 j (by omega))];rfl),trivial⟩
def qJ (x y:SlotP):Bool:=x.kind==y.kind&&decide (x.words=y.words)
def uB (x y:List SlotP):Bool:=dR qJ x y
def kP (x y:VerbP):Bool:=x.meta_==y.meta_&&dR uB x.lines y.lines
def vW (x:ThingP):List Int:=[x.title,x.text,x.parent,x.flags]
def lA (x y:ThingP):Bool:=(((((vW x==vW y)&&(x.room==y.room))&&decide (x.props=y.props))&&decide (x.words=y.words))&&decide (x.adjs=y.adjs))&&dR (fun x y=>jJ x==jJ y) x.ways y.ways
theorem aZ3 (a b:List SlotP)(K:Nat)(e:SlotP→SlotP→Bool)(hK:dN Tryz.prog K=true)(hp:∀ x∈a,∀ y∈b,PC Tryz.prog K [lJ x,lJ y] (vb (e x y))):PC Tryz.prog 164 [fQ a,fQ b,.clo K []] (vb (dR e a b)):=by
 refine FC.body 2 32 Tryz.func164 rfl (by kernel_rfl) ?_
 refine dM (t:=0) (x:=fQ a) rfl eR fun hf=>?_
 refine sq ?_
 refine Z1 aB ?_
 refine cn ?_
 refine aD ?_
 refine sq ?_
 refine Z1 mo ?_
 refine Z1 ln ?_
 refine Z1 mo ?_
 refine Z1 ln ?_
 refine Z1 bz ?_
 refine cn ?_
 refine cd (fun hb=>?_) fun hb=>?_
 ·have hne:¬ (a.length:Int)=b.length:=by simpa using hb
  refine sq ?_
  refine Z1 aB ?_
  refine cn ?_
  refine aP ?_
  exact ⟨.inl rfl,aF.tmp rfl (by rw [nI hne];rfl),trivial⟩
 ·have hll:(a.length:Int)=b.length:=by simpa using hb
  refine aQ ?_
  refine aD ?_
  refine sq ?_
  refine Z1 mo ?_
  refine Z1 ln ?_
  refine Z1 mo ?_
  refine cn ?_
  refine aU ?_
  refine bM (ι:=Nat) (fun k=>⟨[(1,fQ b),(2,.clo K []),(15,fQ a),(16,vi (a.length:Int)),(17,vi k)],[(0,.unborn),(1,.unborn)]⟩) (fun k=>k≤a.length∧∀ j,j<k→e (a.getD j cH) (b.getD j cH)=true) (fun k=>a.length-k) 0 (⟨Nat.zero_le _,fun j hj=>absurd hj (by omega)⟩) (Le.sub (by repeat (first|trivial|refine ⟨.inr rfl,?_⟩|refine ⟨.inr (aR (by omega)),?_⟩)) (by repeat (first|trivial|refine ⟨rfl,?_⟩))) ?_
  intro k hI
  refine sq ?_
  refine Z1 bz ?_
  refine cn ?_
  refine aD ?_
  refine cd (fun hb=>?_) fun hb=>?_
  ·have hlt:k<a.length:=by have h0:=of_decide_eq_true hb;omega
   have hlt2:k<b.length:=by omega
   refine aQ ?_
   refine aD ?_
   refine aU ?_
   refine sq ?_
   refine Z1 mo ?_
   refine Z1 ia ?_
   refine Z1 lr ?_
   refine Z2 (al 0 [.int .i64 0,.slice none 0 0]) ?_
   refine Z1 aB ?_
   refine bW [_,_] ?_
   refine cn ?_
   refine sq ?_
   refine Z1 mo ?_
   refine Z1 mo ?_
   refine Z1 ia ?_
   refine Z1 lr ?_
   refine Z2 (al 1 [.int .i64 0,.slice none 0 0]) ?_
   refine bW [_,_] ?_
   refine cn ?_
   refine sq ?_
   refine Z1 mo ?_
   refine dE 2 [_,_] ?_
   refine dE 2 [_,_] ?_
   refine Z1 (kW (f:=K) (caps:=[]) rfl rfl hK (hp _ (kY hlt) _ (kY hlt2)) rfl (show bE [_,_] from PuL.out) trivial) ?_
   refine Z1 nt ?_
   refine cn ?_
   refine cd (fun hb=>?_) fun hb=>?_
   ·have heq:e (a.getD k cH) (b.getD k cH)=false:=by simpa using hb
    refine sq ?_
    refine Z1 aB ?_
    refine cn ?_
    refine aP ?_
    exact ⟨.inl rfl,aF.tmp rfl (by rw [lI cH k hlt hll heq];rfl),trivial⟩
   ·have heq:e (a.getD k cH) (b.getD k cH)=true:=by simpa using hb
    refine aQ ?_
    refine tx ?_
    refine Z1 ba ?_
    refine Z1 mo ?_
    refine cn ?_
    exact ⟨k+1,⟨by omega,fun j hj=>(Nat.lt_succ_iff_lt_or_eq.1 hj).elim (hI.2 j) (fun h1=>h1 ▸ heq)⟩,by omega,Le.reset [0,1] (by simp) (by repeat (first|trivial|refine ⟨.inr rfl,?_⟩|refine ⟨.inr (aR (by omega)),?_⟩)) (nJ ⟨Pu.out,Pu.out,Pu.out,Pu.out,Pu.out,trivial⟩) (by simp [lK])⟩
  ·have hge:k=a.length:=by have h0:=of_decide_eq_false hb;omega
   refine bU ?_
   refine sq ?_
   refine Z1 aB ?_
   refine cn ?_
   refine aP ?_
   exact ⟨.inl rfl,aF.tmp rfl (by rw [mE cH hll (fun j hj=>hI.2 j (by omega))];rfl),trivial⟩
theorem aZ4 (a b:List (List SlotP))(K:Nat)(e:(List SlotP)→(List SlotP)→Bool)(hK:dN Tryz.prog K=true)(hp:∀ x∈a,∀ y∈b,PC Tryz.prog K [fQ x,fQ y] (vb (e x y))):PC Tryz.prog 122 [lB a,lB b,.clo K []] (vb (dR e a b)):=by
 refine FC.body 0 32 Tryz.func122 rfl (by kernel_rfl) ?_
 refine dM (t:=0) (x:=lB a) rfl eR fun hf=>?_
 refine W ?_
 refine cd (fun hb=>?_) fun hb=>?_
 ·have hne:¬ (a.length:Int)=b.length:=by simpa using hb
  refine W ?_
  exact ⟨.inl rfl,aF.tmp rfl (by rw [nI hne];rfl),trivial⟩
 ·have hll:(a.length:Int)=b.length:=by simpa using hb
  refine W ?_
  refine bM (ι:=Nat) (fun k=>⟨[(1,lB b),(2,.clo K []),(15,lB a),(16,vi (a.length:Int)),(17,vi k)],[]⟩) (fun k=>k≤a.length∧∀ j,j<k→e (a.getD j []) (b.getD j [])=true) (fun k=>a.length-k) 0 (⟨Nat.zero_le _,fun j hj=>absurd hj (by omega)⟩) (Le.sub (by repeat (first|trivial|refine ⟨.inr rfl,?_⟩|refine ⟨.inr (aR (by omega)),?_⟩)) (by repeat (first|trivial|refine ⟨rfl,?_⟩))) ?_
  intro k hI
  refine W ?_
  refine cd (fun hb=>?_) fun hb=>?_
  ·have hlt:k<a.length:=by have h0:=of_decide_eq_true hb;omega
   have hlt2:k<b.length:=by omega
   refine W ?_
   refine Z1 (kW (f:=K) (caps:=[]) rfl rfl hK (hp _ (kY hlt) _ (kY hlt2)) rfl (show bE [_,_] from PuL.out) trivial) ?_
   refine W ?_
   refine cd (fun hb=>?_) fun hb=>?_
   ·have heq:e (a.getD k []) (b.getD k [])=false:=by simpa using hb
    refine W ?_
    exact ⟨.inl rfl,aF.tmp rfl (by rw [lI [] k hlt hll heq];rfl),trivial⟩
   ·have heq:e (a.getD k []) (b.getD k [])=true:=by simpa using hb
    refine W ?_
    exact ⟨k+1,⟨by omega,fun j hj=>(Nat.lt_succ_iff_lt_or_eq.1 hj).elim (hI.2 j) (fun h1=>h1 ▸ heq)⟩,by omega,Le.sub (by repeat (first|trivial|refine ⟨.inr rfl,?_⟩|refine ⟨.inr (aR (by omega)),?_⟩)) trivial⟩
  ·have hge:k=a.length:=by have h0:=of_decide_eq_false hb;omega
   refine W ?_
   exact ⟨.inl rfl,aF.tmp rfl (by rw [mE [] hll (fun j hj=>hI.2 j (by omega))];rfl),trivial⟩
theorem aZ5 (a b:List ThingP)(K:Nat)(e:ThingP→ThingP→Bool)(hK:dN Tryz.prog K=true)(hp:∀ x∈a,∀ y∈b,PC Tryz.prog K [iT x,iT y] (vb (e x y))):PC Tryz.prog 65 [gA a,gA b,.clo K []] (vb (dR e a b)):=by
 refine FC.body 2 32 Tryz.func65 rfl (by kernel_rfl) ?_
 refine dM (t:=0) (x:=gA a) rfl eR fun hf=>?_
 refine sq ?_
 refine Z1 aB ?_
 refine cn ?_
 refine aD ?_
 refine sq ?_
 refine Z1 mo ?_
 refine Z1 ln ?_
 refine Z1 mo ?_
 refine Z1 ln ?_
 refine Z1 bz ?_
 refine cn ?_
 refine cd (fun hb=>?_) fun hb=>?_
 ·have hne:¬ (a.length:Int)=b.length:=by simpa using hb
  refine sq ?_
  refine Z1 aB ?_
  refine cn ?_
  refine aP ?_
  exact ⟨.inl rfl,aF.tmp rfl (by rw [nI hne];rfl),trivial⟩
 ·have hll:(a.length:Int)=b.length:=by simpa using hb
  refine aQ ?_
  refine aD ?_
  refine sq ?_
  refine Z1 mo ?_
  refine Z1 ln ?_
  refine Z1 mo ?_
  refine cn ?_
  refine aU ?_
  refine bM (ι:=Nat) (fun k=>⟨[(1,gA b),(2,.clo K []),(15,gA a),(16,vi (a.length:Int)),(17,vi k)],[(0,.unborn),(1,.unborn)]⟩) (fun k=>k≤a.length∧∀ j,j<k→e (a.getD j cY) (b.getD j cY)=true) (fun k=>a.length-k) 0 (⟨Nat.zero_le _,fun j hj=>absurd hj (by omega)⟩) (Le.sub (by repeat (first|trivial|refine ⟨.inr rfl,?_⟩|refine ⟨.inr (aR (by omega)),?_⟩)) (by repeat (first|trivial|refine ⟨rfl,?_⟩))) ?_
  intro k hI
  refine sq ?_
  refine Z1 bz ?_
  refine cn ?_
  refine aD ?_
  refine cd (fun hb=>?_) fun hb=>?_
  ·have hlt:k<a.length:=by have h0:=of_decide_eq_true hb;omega
   have hlt2:k<b.length:=by omega
   refine aQ ?_
   refine aD ?_
   refine aU ?_
   refine sq ?_
   refine Z1 mo ?_
   refine Z1 ia ?_
   refine Z1 lr ?_
   refine Z2 (al 0 [.int .i64 0,.int .i64 0,.int .i64 0,.int .i64 0,.bool false,.slice none 0 0,.slice none 0 0,.slice none 0 0,.slice none 0 0]) ?_
   refine Z1 aB ?_
   refine bW [_,_,_,_,_,_,_,_,_] ?_
   refine cn ?_
   refine sq ?_
   refine Z1 mo ?_
   refine Z1 mo ?_
   refine Z1 ia ?_
   refine Z1 lr ?_
   refine Z2 (al 1 [.int .i64 0,.int .i64 0,.int .i64 0,.int .i64 0,.bool false,.slice none 0 0,.slice none 0 0,.slice none 0 0,.slice none 0 0]) ?_
   refine bW [_,_,_,_,_,_,_,_,_] ?_
   refine cn ?_
   refine sq ?_
   refine Z1 mo ?_
   refine dE 9 [_,_,_,_,_,_,_,_,_] ?_
   refine dE 9 [_,_,_,_,_,_,_,_,_] ?_
   refine Z1 (kW (f:=K) (caps:=[]) rfl rfl hK (hp _ (kY hlt) _ (kY hlt2)) rfl (show bE [_,_] from PuL.out) trivial) ?_
   refine Z1 nt ?_
   refine cn ?_
   refine cd (fun hb=>?_) fun hb=>?_
   ·have heq:e (a.getD k cY) (b.getD k cY)=false:=by simpa using hb
    refine sq ?_
    refine Z1 aB ?_
    refine cn ?_
    refine aP ?_
    exact ⟨.inl rfl,aF.tmp rfl (by rw [lI cY k hlt hll heq];rfl),trivial⟩
   ·have heq:e (a.getD k cY) (b.getD k cY)=true:=by simpa using hb
    refine aQ ?_
    refine tx ?_
    refine Z1 ba ?_
    refine Z1 mo ?_
    refine cn ?_
    exact ⟨k+1,⟨by omega,fun j hj=>(Nat.lt_succ_iff_lt_or_eq.1 hj).elim (hI.2 j) (fun h1=>h1 ▸ heq)⟩,by omega,Le.reset [0,1] (by simp) (by repeat (first|trivial|refine ⟨.inr rfl,?_⟩|refine ⟨.inr (aR (by omega)),?_⟩)) (nJ ⟨Pu.out,Pu.out,Pu.out,Pu.out,Pu.out,trivial⟩) (by simp [lK])⟩
  ·have hge:k=a.length:=by have h0:=of_decide_eq_false hb;omega
   refine bU ?_
   refine sq ?_
   refine Z1 aB ?_
   refine cn ?_
   refine aP ?_
   exact ⟨.inl rfl,aF.tmp rfl (by rw [mE cY hll (fun j hj=>hI.2 j (by omega))];rfl),trivial⟩
theorem aZ6 (a b:List VerbP)(K:Nat)(e:VerbP→VerbP→Bool)(hK:dN Tryz.prog K=true)(hp:∀ x∈a,∀ y∈b,PC Tryz.prog K [iC x,iC y] (vb (e x y))):PC Tryz.prog 67 [gB a,gB b,.clo K []] (vb (dR e a b)):=by
 refine FC.body 2 32 Tryz.func67 rfl (by kernel_rfl) ?_
 refine dM (t:=0) (x:=gB a) rfl eR fun hf=>?_
 refine sq ?_
 refine Z1 aB ?_
 refine cn ?_
 refine aD ?_
 refine sq ?_
 refine Z1 mo ?_
 refine Z1 ln ?_
 refine Z1 mo ?_
 refine Z1 ln ?_
 refine Z1 bz ?_
 refine cn ?_
 refine cd (fun hb=>?_) fun hb=>?_
 ·have hne:¬ (a.length:Int)=b.length:=by simpa using hb
  refine sq ?_
  refine Z1 aB ?_
  refine cn ?_
  refine aP ?_
  exact ⟨.inl rfl,aF.tmp rfl (by rw [nI hne];rfl),trivial⟩
 ·have hll:(a.length:Int)=b.length:=by simpa using hb
  refine aQ ?_
  refine aD ?_
  refine sq ?_
  refine Z1 mo ?_
  refine Z1 ln ?_
  refine Z1 mo ?_
  refine cn ?_
  refine aU ?_
  refine bM (ι:=Nat) (fun k=>⟨[(1,gB b),(2,.clo K []),(15,gB a),(16,vi (a.length:Int)),(17,vi k)],[(0,.unborn),(1,.unborn)]⟩) (fun k=>k≤a.length∧∀ j,j<k→e (a.getD j gO) (b.getD j gO)=true) (fun k=>a.length-k) 0 (⟨Nat.zero_le _,fun j hj=>absurd hj (by omega)⟩) (Le.sub (by repeat (first|trivial|refine ⟨.inr rfl,?_⟩|refine ⟨.inr (aR (by omega)),?_⟩)) (by repeat (first|trivial|refine ⟨rfl,?_⟩))) ?_
  intro k hI
  refine sq ?_
  refine Z1 bz ?_
  refine cn ?_
  refine aD ?_
  refine cd (fun hb=>?_) fun hb=>?_
  ·have hlt:k<a.length:=by have h0:=of_decide_eq_true hb;omega
   have hlt2:k<b.length:=by omega
   refine aQ ?_
   refine aD ?_
   refine aU ?_
   refine sq ?_
   refine Z1 mo ?_
   refine Z1 ia ?_
   refine Z1 lr ?_
   refine Z2 (al 0 [.bool false,.slice none 0 0]) ?_
   refine Z1 aB ?_
   refine bW [_,_] ?_
   refine cn ?_
   refine sq ?_
   refine Z1 mo ?_
   refine Z1 mo ?_
   refine Z1 ia ?_
   refine Z1 lr ?_
   refine Z2 (al 1 [.bool false,.slice none 0 0]) ?_
   refine bW [_,_] ?_
   refine cn ?_
   refine sq ?_
   refine Z1 mo ?_
   refine dE 2 [_,_] ?_
   refine dE 2 [_,_] ?_
   refine Z1 (kW (f:=K) (caps:=[]) rfl rfl hK (hp _ (kY hlt) _ (kY hlt2)) rfl (show bE [_,_] from PuL.out) trivial) ?_
   refine Z1 nt ?_
   refine cn ?_
   refine cd (fun hb=>?_) fun hb=>?_
   ·have heq:e (a.getD k gO) (b.getD k gO)=false:=by simpa using hb
    refine sq ?_
    refine Z1 aB ?_
    refine cn ?_
    refine aP ?_
    exact ⟨.inl rfl,aF.tmp rfl (by rw [lI gO k hlt hll heq];rfl),trivial⟩
   ·have heq:e (a.getD k gO) (b.getD k gO)=true:=by simpa using hb
    refine aQ ?_
    refine tx ?_
    refine Z1 ba ?_
    refine Z1 mo ?_
    refine cn ?_
    exact ⟨k+1,⟨by omega,fun j hj=>(Nat.lt_succ_iff_lt_or_eq.1 hj).elim (hI.2 j) (fun h1=>h1 ▸ heq)⟩,by omega,Le.reset [0,1] (by simp) (by repeat (first|trivial|refine ⟨.inr rfl,?_⟩|refine ⟨.inr (aR (by omega)),?_⟩)) (nJ ⟨Pu.out,Pu.out,Pu.out,Pu.out,Pu.out,trivial⟩) (by simp [lK])⟩
  ·have hge:k=a.length:=by have h0:=of_decide_eq_false hb;omega
   refine bU ?_
   refine sq ?_
   refine Z1 aB ?_
   refine cn ?_
   refine aP ?_
   exact ⟨.inl rfl,aF.tmp rfl (by rw [mE gO hll (fun j hj=>hI.2 j (by omega))];rfl),trivial⟩
theorem aZ7 (x y:SlotP):PC Tryz.prog 165 [lJ x,lJ y] (vb (qJ x y)):=by
 refine FC.body 0 17 Tryz.func165 rfl (by kernel_rfl) ?_
 refine W ?_
 refine Z4 (fun hC=>ca (aC4 x.words y.words)) ?_
 refine W ?_
 exact ⟨.inl rfl,aF.tmp rfl rfl,trivial⟩
theorem aZ8 (a b:List SlotP):PC Tryz.prog 123 [fQ a,fQ b] (vb (uB a b)):=by
 refine FC.body 0 8 Tryz.func123 rfl (by kernel_rfl) ?_
 refine W ?_
 refine Z1 (cq (aZ3 a b _ qJ (by kernel_rfl) (fun x _ y _=>aZ7 x y)) rfl rfl) ?_
 refine W ?_
 exact ⟨.inl rfl,aF.tmp rfl rfl,trivial⟩
theorem aZ9 (x y:VerbP):PC Tryz.prog 68 [iC x,iC y] (vb (kP x y)):=by
 refine FC.body 0 17 Tryz.func68 rfl (by kernel_rfl) ?_
 refine W ?_
 refine Z1 (aHP rfl rfl rfl (by kernel_rfl)) ?_
 refine W ?_
 refine aW (R:=[]) rfl rfl rfl cA (fun hC=>jP rfl (by kernel_rfl) (aZ4 x.lines y.lines _ uB (by kernel_rfl) (fun x _ y _=>aZ8 x y)) rfl (by first|exact PuL.out|exact Pu.out) (by first|exact PuL.out|exact Pu.out)) (fun hC=>⟨(by first|rfl|exact hC|(simp only [Bool.and_eq_true] at hC;first|exact hC.1|exact hC.1.1|exact hC.2)|simp_all),(by first|rfl|exact hC|(simp only [Bool.and_eq_true] at hC;first|exact hC.1|exact hC.1.1|exact hC.2)|simp_all),(by first|rfl|exact hC|(simp only [Bool.and_eq_true] at hC;first|exact hC.1|exact hC.1.1|exact hC.2)|simp_all),(by first|rfl|exact hC|(simp only [Bool.and_eq_true] at hC;first|exact hC.1|exact hC.1.1|exact hC.2)|simp_all),trivial⟩) trivial ?_
 refine W ?_
 exact ⟨.inl rfl,aF.tmp rfl rfl,trivial⟩
theorem aaA (x y:ThingP):PC Tryz.prog 66 [iT x,iT y] (vb (lA x y)):=by
 refine FC.body 0 61 Tryz.func66 rfl (by kernel_rfl) ?_
 refine W ?_
 refine Z1 (aC9 (n:=4) (e:=3) (by_:=8) (k:=1) (zs:=[.int .i64 0,.int .i64 0,.int .i64 0,.int .i64 0]) (ez:=[.int .i64 0]) (ds:=[.val _,.val _,.val _,.val _]) rfl (by kernel_rfl) rfl (by kernel_rfl) (by kernel_rfl) (by first|rfl|decide) rfl) ?_
 refine W ?_
 refine Z1 (aC9 (n:=4) (e:=3) (by_:=8) (k:=1) (zs:=[.int .i64 0,.int .i64 0,.int .i64 0,.int .i64 0]) (ez:=[.int .i64 0]) (ds:=[.val _,.val _,.val _,.val _]) rfl (by kernel_rfl) rfl (by kernel_rfl) (by kernel_rfl) (by first|rfl|decide) rfl) ?_
 refine Z1 (aO6 (vW x) (vW y) rfl rfl rfl (by kernel_rfl) rfl) ?_
 refine W ?_
 refine aW (R:=[]) rfl rfl rfl cA (fun hC=>aHP rfl rfl rfl (by kernel_rfl)) (fun hC=>⟨(by first|rfl|exact hC|(simp only [Bool.and_eq_true] at hC;first|exact hC.1|exact hC.1.1|exact hC.2)|simp_all),(by first|rfl|exact hC|(simp only [Bool.and_eq_true] at hC;first|exact hC.1|exact hC.1.1|exact hC.2)|simp_all),trivial⟩) trivial ?_
 refine W ?_
 refine Z4 (fun hC=>ca (aO1 x.props y.props)) ?_
 refine W ?_
 refine Z4 (fun hC=>ca (aC4 x.words y.words)) ?_
 refine W ?_
 refine Z4 (fun hC=>ca (aC4 x.adjs y.adjs)) ?_
 refine W ?_
 refine Z4 (fun hC=>ca (aZ1 x.ways y.ways)) ?_
 refine W ?_
 exact ⟨.inl rfl,aF.tmp rfl rfl,trivial⟩
structure StoryP where
 tab:TabP
 entry:List Int
 code:List Int
def cX (s:StoryP):Av:=.agg [vi s.tab.title,vi s.tab.by_,vi s.tab.release,vi s.tab.max,bB s.tab.texts,vi s.tab.flags,aK s.tab.props,aK s.tab.globals,gA s.tab.things,gB s.tab.acts,fY s.tab.deeds,aK s.tab.funcs,aK s.tab.daemons,aK s.tab.params,aK s.tab.locals,aK s.entry,bs s.code]
instance (s:StoryP):Pu (cX s):=⟨by unfold cX;exact Pu.out⟩
def rN (l:List (List Int)):Av:=.sl 1 l.length fun j=>aK (l.getD j [])
instance (l:List (List Int)):Pu (rN l):=⟨by unfold rN;exact Pu.out⟩
theorem aO7:∀ (l:List Av) (j:Nat),bE l→aN (gE l j)
 | [],j,h=>by unfold gE;simp [aN]
 | x::l,0,h=>by unfold bE at h;exact h.1
 | x::l,j+1,h=>by unfold bE at h;have:=aO7 l j h.2;simpa [gE] using this
instance (l:List Av) (j:Nat) [h:PuL l]:Pu (gE l j):=⟨aO7 l j h.out⟩
theorem aO8:∀ l:List (List Int),bE (l.map aK)
 | []=>by unfold bE;trivial
 | x::l=>by unfold bE;exact ⟨cP x,aO8 l⟩
instance (l:List (List Int)):PuL (l.map aK):=⟨aO8 l⟩
theorem PC.conv {P:Program}{f:Nat}{xs ys:List Av}{z:Av}(h:PC P f xs z)(hxy:∀ E vs,aG E ys vs→aG E xs vs):PC P f ys z:=fun E vs hG hA hR hB hU=>h E vs hG (hxy E vs hA) hR hB hU
theorem aO9 {E:Env}{x y:Av}{xs ys:List Av}{vs:List Value}(h:aG E (y::ys) vs)(h1:∀ v,aA E y v→aA E x v)(h2:∀ vs,aG E ys vs→aG E xs vs):aG E (x::xs) vs:=by
 unfold aG at h ⊢
 obtain ⟨v,r,rfl,h3,h4⟩:=h
 exact ⟨v,r,rfl,h1 v h3,h2 r h4⟩
theorem aPA (a b c d e f g:List Int)(E:Env)(v:Value)(h:aA E (.sl 1 7 (gE [aK a,aK b,aK c,aK d,aK e,aK f,aK g])) v):aA E (rN [a,b,c,d,e,f,g]) v:=
 pI (fun E j hj v hv=>by rcases j with _|_|_|_|_|_|_|j<;>first|exact hv|(rw [show (List.length [a,b,c,d,e,f,g])=7 from rfl] at hj;omega)) E v h
def cW (s:StoryP):List Int:=[s.tab.title,s.tab.by_,s.tab.release,s.tab.max,s.tab.flags]
def rO (s:StoryP):List (List Int):=[s.tab.props,s.tab.globals,s.tab.funcs,s.tab.daemons,s.tab.params,s.tab.locals,s.entry]
def uC (x y:StoryP):Bool:=((((((cW x==cW y)&&dR (fun a b=>decide (a=b)) (rO x) (rO y))&&decide (x.tab.texts=y.tab.texts))&&dR lA x.tab.things y.tab.things)&&dR kP x.tab.acts y.tab.acts)&&dR (fun x y=>gN x==gN y) x.tab.deeds y.tab.deeds)&&decide (x.code=y.code)
theorem aaB (a b:List (List Int))(K:Nat)(e:(List Int)→(List Int)→Bool)(hK:dN Tryz.prog K=true)(hp:∀ x∈a,∀ y∈b,PC Tryz.prog K [aK x,aK y] (vb (e x y))):PC Tryz.prog 62 [rN a,rN b,.clo K []] (vb (dR e a b)):=by
 refine FC.body 0 32 Tryz.func62 rfl (by kernel_rfl) ?_
 refine dM (t:=0) (x:=rN a) rfl eR fun hf=>?_
 refine W ?_
 refine cd (fun hb=>?_) fun hb=>?_
 ·have hne:¬ (a.length:Int)=b.length:=by simpa using hb
  refine W ?_
  exact ⟨.inl rfl,aF.tmp rfl (by rw [nI hne];rfl),trivial⟩
 ·have hll:(a.length:Int)=b.length:=by simpa using hb
  refine W ?_
  refine bM (ι:=Nat) (fun k=>⟨[(1,rN b),(2,.clo K []),(15,rN a),(16,vi (a.length:Int)),(17,vi k)],[]⟩) (fun k=>k≤a.length∧∀ j,j<k→e (a.getD j []) (b.getD j [])=true) (fun k=>a.length-k) 0 (⟨Nat.zero_le _,fun j hj=>absurd hj (by omega)⟩) (Le.sub (by repeat (first|trivial|refine ⟨.inr rfl,?_⟩|refine ⟨.inr (aR (by omega)),?_⟩)) (by repeat (first|trivial|refine ⟨rfl,?_⟩))) ?_
  intro k hI
  refine W ?_
  refine cd (fun hb=>?_) fun hb=>?_
  ·have hlt:k<a.length:=by have h0:=of_decide_eq_true hb;omega
   have hlt2:k<b.length:=by omega
   refine W ?_
   refine Z1 (kW (f:=K) (caps:=[]) rfl rfl hK (hp _ (kY hlt) _ (kY hlt2)) rfl (show bE [_,_] from PuL.out) trivial) ?_
   refine W ?_
   refine cd (fun hb=>?_) fun hb=>?_
   ·have heq:e (a.getD k []) (b.getD k [])=false:=by simpa using hb
    refine W ?_
    exact ⟨.inl rfl,aF.tmp rfl (by rw [lI [] k hlt hll heq];rfl),trivial⟩
   ·have heq:e (a.getD k []) (b.getD k [])=true:=by simpa using hb
    refine W ?_
    exact ⟨k+1,⟨by omega,fun j hj=>(Nat.lt_succ_iff_lt_or_eq.1 hj).elim (hI.2 j) (fun h1=>h1 ▸ heq)⟩,by omega,Le.sub (by repeat (first|trivial|refine ⟨.inr rfl,?_⟩|refine ⟨.inr (aR (by omega)),?_⟩)) trivial⟩
  ·have hge:k=a.length:=by have h0:=of_decide_eq_false hb;omega
   refine W ?_
   exact ⟨.inl rfl,aF.tmp rfl (by rw [mE [] hll (fun j hj=>hI.2 j (by omega))];rfl),trivial⟩
theorem aaC (x y:StoryP):PC Tryz.prog 62 [.sl 1 7 (gE ((rO x).map aK)),.sl 1 7 (gE ((rO y).map aK)),.clo 63 []] (vb (dR (fun a b=>decide (a=b)) (rO x) (rO y))):=
 PC.conv (aaB (rO x) (rO y) _ _ (by kernel_rfl) (fun a _ b _=>aO1 a b)) fun E vs h=>aO9 h (aPA _ _ _ _ _ _ _ E) fun vs h=>aO9 h (aPA _ _ _ _ _ _ _ E) fun vs h=>h
theorem aPB (x y:StoryP):PC Tryz.prog 17 [cX x,cX y] (vb (uC x y)):=by
 refine FC.body 2 106 Tryz.func17 rfl (by kernel_rfl) ?_
 refine sq ?_
 refine Z1 bx ?_
 refine Z1 bx ?_
 refine Z1 aB ?_
 refine cn ?_
 refine aD ?_
 refine dw ?_
 refine Z1 (qK 0 15) ?_
 refine Z1 lr ?_
 refine Z1 (qK 0 15) ?_
 refine Z1 lr ?_
 refine Z2 (al 0 [.int .i64 0,.int .i64 0,.int .i64 0,.int .i64 0,.slice none 0 0,.int .i64 0,.slice none 0 0,.slice none 0 0,.slice none 0 0,.slice none 0 0,.slice none 0 0,.slice none 0 0,.slice none 0 0,.slice none 0 0,.slice none 0 0]) ?_
 refine Z2 (al 1 [.int .i64 0,.int .i64 0,.int .i64 0,.int .i64 0,.slice none 0 0,.int .i64 0,.slice none 0 0,.slice none 0 0,.slice none 0 0,.slice none 0 0,.slice none 0 0,.slice none 0 0,.slice none 0 0,.slice none 0 0,.slice none 0 0]) ?_
 refine bW [_,_,_,_,_,_,_,_,_,_,_,_,_,_,_] ?_
 refine bW [_,_,_,_,_,_,_,_,_,_,_,_,_,_,_] ?_
 refine cn (dn ?_)
 refine aD ?_
 refine bS (Le.freezeRow 5 0 rfl rfl (Nat.le_of_ble_eq_true rfl)) ?_
 refine bS (Le.freezeRow 6 1 rfl rfl (Nat.le_of_ble_eq_true rfl)) ?_
 refine tx ?_
 refine Z1 (fa 0) ?_
 refine Z1 ld ?_
 refine Z1 (fa 1) ?_
 refine Z1 ld ?_
 refine Z1 (fa 2) ?_
 refine Z1 ld ?_
 refine Z1 (fa 3) ?_
 refine Z1 ld ?_
 refine Z1 (fa 5) ?_
 refine Z1 ld ?_
 refine Z1 (aC9 (n:=5) (e:=3) (by_:=8) (k:=1) (zs:=[.int .i64 0,.int .i64 0,.int .i64 0,.int .i64 0,.int .i64 0]) (ez:=[.int .i64 0]) (ds:=[.val _,.val _,.val _,.val _,.val _]) rfl (by kernel_rfl) rfl (by kernel_rfl) (by kernel_rfl) (by first|rfl|decide) rfl) ?_
 refine Z1 (fa 0) ?_
 refine Z1 ld ?_
 refine Z1 (fa 1) ?_
 refine Z1 ld ?_
 refine Z1 (fa 2) ?_
 refine Z1 ld ?_
 refine Z1 (fa 3) ?_
 refine Z1 ld ?_
 refine Z1 (fa 5) ?_
 refine Z1 ld ?_
 refine Z1 (aC9 (n:=5) (e:=3) (by_:=8) (k:=1) (zs:=[.int .i64 0,.int .i64 0,.int .i64 0,.int .i64 0,.int .i64 0]) (ez:=[.int .i64 0]) (ds:=[.val _,.val _,.val _,.val _,.val _]) rfl (by kernel_rfl) rfl (by kernel_rfl) (by kernel_rfl) (by first|rfl|decide) rfl) ?_
 refine Z1 (aO6 (cW x) (cW y) rfl rfl rfl (by kernel_rfl) rfl) ?_
 refine Z1 aB ?_
 refine cn ?_
 refine sq ?_
 refine Z1 (fa 6) ?_
 refine Z1 ld ?_
 refine Z1 (fa 7) ?_
 refine Z1 ld ?_
 refine Z1 (fa 11) ?_
 refine Z1 ld ?_
 refine Z1 (fa 12) ?_
 refine Z1 ld ?_
 refine Z1 (fa 13) ?_
 refine Z1 ld ?_
 refine Z1 (fa 14) ?_
 refine Z1 ld ?_
 refine Z1 (fa 15) ?_
 refine Z1 ld ?_
 refine Z1 (fO (ps:=[.tmp 37,.tmp 39,.tmp 41,.tmp 43,.tmp 45,.tmp 47,.tmp 49]) (xs:=[.sl _ _ _,.sl _ _ _,.sl _ _ _,.sl _ _ _,.sl _ _ _,.sl _ _ _,.sl _ _ _]) (e:=25) (k:=1) (by_:=24) (zs:=[.slice none 0 0]) rfl (by kernel_rfl) (by kernel_rfl) rfl rfl rfl (by decide) (by decide)) ?_
 refine Z1 (fa 6) ?_
 refine Z1 ld ?_
 refine Z1 (fa 7) ?_
 refine Z1 ld ?_
 refine Z1 (fa 11) ?_
 refine Z1 ld ?_
 refine Z1 (fa 12) ?_
 refine Z1 ld ?_
 refine Z1 (fa 13) ?_
 refine Z1 ld ?_
 refine Z1 (fa 14) ?_
 refine Z1 ld ?_
 refine Z1 (fa 15) ?_
 refine Z1 ld ?_
 refine Z1 (fO (ps:=[.tmp 52,.tmp 54,.tmp 56,.tmp 58,.tmp 60,.tmp 62,.tmp 64]) (xs:=[.sl _ _ _,.sl _ _ _,.sl _ _ _,.sl _ _ _,.sl _ _ _,.sl _ _ _,.sl _ _ _]) (e:=25) (k:=1) (by_:=24) (zs:=[.slice none 0 0]) rfl (by kernel_rfl) (by kernel_rfl) rfl rfl rfl (by decide) (by decide)) ?_
 refine Z1 (ca (aaC x y)) ?_
 refine Z1 aB ?_
 refine cn ?_
 refine sq ?_
 refine Z1 mo ?_
 refine Z1 mo ?_
 refine Z4 (fun hC=>mo) ?_
 refine Z1 an ?_
 refine Z1 mo ?_
 refine Z4 (fun hC=>fa 4) ?_
 refine Z4 (fun hC=>ld) ?_
 refine Z4 (fun hC=>fa 4) ?_
 refine Z4 (fun hC=>ld) ?_
 refine Z4 (fun hC=>ca (aC4 x.tab.texts y.tab.texts)) ?_
 refine Z1 an ?_
 refine Z1 mo ?_
 refine Z4 (fun hC=>fa 8) ?_
 refine Z4 (fun hC=>ld) ?_
 refine Z4 (fun hC=>fa 8) ?_
 refine Z4 (fun hC=>ld) ?_
 refine aW (R:=[]) rfl rfl rfl cA (fun hC=>jP rfl (by kernel_rfl) (aZ5 x.tab.things y.tab.things _ lA (by kernel_rfl) (fun x _ y _=>aaA x y)) rfl (by first|exact PuL.out|exact Pu.out) (by first|exact PuL.out|exact Pu.out)) (fun hC=>⟨(by first|rfl|exact hC|(simp only [Bool.and_eq_true] at hC;first|exact hC.1|exact hC.1.1|exact hC.2)|simp_all),(by first|rfl|exact hC|(simp only [Bool.and_eq_true] at hC;first|exact hC.1|exact hC.1.1|exact hC.2)|simp_all),(by first|rfl|exact hC|(simp only [Bool.and_eq_true] at hC;first|exact hC.1|exact hC.1.1|exact hC.2)|simp_all),(by first|rfl|exact hC|(simp only [Bool.and_eq_true] at hC;first|exact hC.1|exact hC.1.1|exact hC.2)|simp_all),trivial⟩) trivial ?_
 refine Z1 an ?_
 refine Z1 mo ?_
 refine Z4 (fun hC=>fa 9) ?_
 refine Z4 (fun hC=>ld) ?_
 refine Z4 (fun hC=>fa 9) ?_
 refine Z4 (fun hC=>ld) ?_
 refine aW (R:=[]) rfl rfl rfl cA (fun hC=>jP rfl (by kernel_rfl) (aZ6 x.tab.acts y.tab.acts _ kP (by kernel_rfl) (fun x _ y _=>aZ9 x y)) rfl (by first|exact PuL.out|exact Pu.out) (by first|exact PuL.out|exact Pu.out)) (fun hC=>⟨(by first|rfl|exact hC|(simp only [Bool.and_eq_true] at hC;first|exact hC.1|exact hC.1.1|exact hC.2)|simp_all),(by first|rfl|exact hC|(simp only [Bool.and_eq_true] at hC;first|exact hC.1|exact hC.1.1|exact hC.2)|simp_all),(by first|rfl|exact hC|(simp only [Bool.and_eq_true] at hC;first|exact hC.1|exact hC.1.1|exact hC.2)|simp_all),(by first|rfl|exact hC|(simp only [Bool.and_eq_true] at hC;first|exact hC.1|exact hC.1.1|exact hC.2)|simp_all),trivial⟩) trivial ?_
 refine Z1 an ?_
 refine Z1 mo ?_
 refine Z4 (fun hC=>fa 10) ?_
 refine Z4 (fun hC=>ld) ?_
 refine Z4 (fun hC=>fa 10) ?_
 refine Z4 (fun hC=>ld) ?_
 refine Z4 (fun hC=>ca (aZ2 x.tab.deeds y.tab.deeds)) ?_
 refine Z1 an ?_
 refine Z1 mo ?_
 refine Z4 (fun hC=>fa 16) ?_
 refine Z4 (fun hC=>ld) ?_
 refine Z4 (fun hC=>fa 16) ?_
 refine Z4 (fun hC=>ld) ?_
 refine Z4 (fun hC=>ca (aO2 x.code y.code)) ?_
 refine Z1 an ?_
 refine Z1 aB ?_
 refine cn ?_
 refine aP ?_
 exact ⟨.inl rfl,aF.tmp rfl rfl,trivial⟩
end Go.Proofs.YtnklgkjfoggpbaaGreatDoor
namespace Go.Proofs.YtnklgkjfoggpbaaGreatDoor
open Go.RowKit
theorem aDA {α:Type}[DecidableEq α]:∀ (a b:List α),dR (fun x y=>decide (x=y)) a b=decide (a=b)
 | [],[]=>by simp [dR]
 | x::l,[]=>by simp [dR]
 | [],y::m=>by simp [dR]
 | x::l,y::m=>by
  unfold dR
  rw [aDA l m]
  by_cases h1:x=y<;>by_cases h2:l=m<;>simp [h1,h2]
theorem aaD (a b:List ByteArray):xL a b=decide (a=b):=by
 rw [←aDA]
 unfold xL
 by_cases hl:(a.length:Int)=b.length
 ·cases hq:(List.range a.length).all fun k=>decide (a.getD k ByteArray.empty=b.getD k ByteArray.empty) with
  | true=>
   rw [mE ByteArray.empty hl (fun j hj=>(List.all_eq_true.1 hq) j (List.mem_range.2 hj))]
   simp [hl]
  | false=>
   obtain ⟨j,hj,h2⟩:=List.all_eq_false.1 hq
   rw [lI ByteArray.empty j (List.mem_range.1 hj) hl (by simpa using h2)]
   simp
 ·rw [nI hl]
  simp [hl]
theorem aPC {E:Env}:∀ {xs:List Av} {l:List Value} {x:Av},aG E xs l→x∈xs→∃ v,aA E x v
 | [],l,x,h,hx=>by cases hx
 | y::xs,l,x,h,hx=>by
  unfold aG at h
  obtain ⟨v,r,rfl,h1,h2⟩:=h
  rcases List.mem_cons.1 hx with hx|hx
  ·exact ⟨v,hx ▸ h1⟩
  ·exact aPC h2 hx
theorem zU {E:Env}{xs:List Av}{v:Value}(h:aA E (.agg xs) v){k n:Nat}{r:Nat→Av}(hx:Av.sl k n r∈xs):n≤9223372036854775807:=by
 unfold aA at h
 obtain ⟨l,_,h1,_⟩:=h
 obtain ⟨u,hu⟩:=aPC h1 hx
 exact eR E u hu
theorem aaE {x:ThingP}(E:Env)(v:Value)(h:aA E (iT x) v):x.ways.length≤9223372036854775807:=zU h (show kZ x.ways∈_ by simp)
theorem aaF {x y:ThingP}(h:lA x y=true):x.title=y.title∧x.text=y.text∧x.parent=y.parent∧x.flags=y.flags∧x.room=y.room∧x.ways.length=y.ways.length:=by
 have hl:x.ways.length=y.ways.length:=by
  refine Classical.byContradiction fun hn=>?_
  unfold lA at h
  rw [nI (a:=x.ways) (b:=y.ways) (by omega),Bool.and_false] at h
  cases h
 unfold lA vW at h
 simp only [Bool.and_eq_true,beq_iff_eq,List.cons.injEq] at h
 exact ⟨h.1.1.1.1.1.1,h.1.1.1.1.1.2.1,h.1.1.1.1.1.2.2.1,h.1.1.1.1.1.2.2.2.1,h.1.1.1.1.2,hl⟩
theorem aaG (a b:List Int):PC Tryz.prog 120 [aK a,aK b] (vb (dR (fun x y=>decide (x=y)) a b)):=by
 refine FC.body 0 26 Tryz.func120 rfl (by kernel_rfl) ?_
 refine dM (t:=0) (x:=aK a) rfl eR fun hf=>?_
 refine sq ?_
 refine Z1 aB ?_
 refine cn ?_
 refine aD ?_
 refine sq ?_
 refine Z1 mo ?_
 refine Z1 ln ?_
 refine Z1 mo ?_
 refine Z1 ln ?_
 refine Z1 bz ?_
 refine cn ?_
 refine cd (fun hb=>?_) fun hb=>?_
 ·have hne:¬ (a.length:Int)=b.length:=by simpa using hb
  refine sq ?_
  refine Z1 aB ?_
  refine cn ?_
  refine aP ?_
  exact ⟨.inl rfl,aF.tmp rfl (by rw [nI hne];rfl),trivial⟩
 ·have hll:(a.length:Int)=b.length:=by simpa using hb
  refine aQ ?_
  refine aD ?_
  refine sq ?_
  refine Z1 aB ?_
  refine cn ?_
  refine aU ?_
  refine bM (ι:=Nat) (fun k=>⟨[(0,aK a),(1,aK b),(5,vi k)],[]⟩) (fun k=>k≤a.length∧∀ j,j<k→(fun x y=>decide (x=y)) (a.getD j 0) (b.getD j 0)=true) (fun k=>a.length-k) 0 (⟨Nat.zero_le _,fun j hj=>absurd hj (by omega)⟩) (Le.sub (by repeat (first|trivial|refine ⟨.inr rfl,?_⟩|refine ⟨.inr (aR (by omega)),?_⟩)) (by repeat (first|trivial|refine ⟨rfl,?_⟩))) ?_
  intro k hI
  refine aD ?_
  refine sq ?_
  refine Z1 mo ?_
  refine Z1 mo ?_
  refine Z1 ln ?_
  refine Z1 bz ?_
  refine cn ?_
  refine cd (fun hb=>?_) fun hb=>?_
  ·have hlt:k<a.length:=by have h0:=of_decide_eq_true hb;omega
   have hlt2:k<b.length:=by omega
   refine aQ ?_
   refine aD ?_
   refine aU ?_
   refine aD ?_
   refine dw ?_
   refine Z1 mo ?_
   refine Z1 mo ?_
   refine Z1 ia ?_
   refine Z1 ld ?_
   refine Z1 mo ?_
   refine Z1 mo ?_
   refine Z1 ia ?_
   refine Z1 ld ?_
   refine Z1 bz ?_
   refine cn (dn ?_)
   refine cd (fun hb=>?_) fun hb=>?_
   ·have heq:(fun x y=>decide (x=y)) (a.getD k 0) (b.getD k 0)=false:=by simpa using hb
    refine sq ?_
    refine Z1 aB ?_
    refine cn ?_
    refine aP ?_
    exact ⟨.inl rfl,aF.tmp rfl (by rw [lI 0 k hlt hll heq];rfl),trivial⟩
   ·have heq:(fun x y=>decide (x=y)) (a.getD k 0) (b.getD k 0)=true:=by simpa using hb
    refine aQ ?_
    refine tx ?_
    refine Z1 mo ?_
    refine Z1 ba ?_
    refine Z1 aB ?_
    refine cn ?_
    exact ⟨k+1,⟨by omega,fun j hj=>(Nat.lt_succ_iff_lt_or_eq.1 hj).elim (hI.2 j) (fun h1=>h1 ▸ heq)⟩,by omega,Le.sub (by repeat (first|trivial|refine ⟨.inr rfl,?_⟩|refine ⟨.inr (aR (by omega)),?_⟩)) trivial⟩
  ·have hge:k=a.length:=by have h0:=of_decide_eq_false hb;omega
   refine bU ?_
   refine sq ?_
   refine Z1 aB ?_
   refine cn ?_
   refine aP ?_
   exact ⟨.inl rfl,aF.tmp rfl (by rw [mE 0 hll (fun j hj=>hI.2 j (by omega))];rfl),trivial⟩
theorem aaH (a b:List Int):PC Tryz.prog 120 [aK a,aK b] (vb (decide (a=b))):=aDA a b ▸ aaG a b
theorem aDB (a b:List ByteArray):PC Tryz.prog 119 [bB a,bB b] (vb (decide (a=b))):=aaD a b ▸ aYV a b
theorem uD (a b:List Int):PC Tryz.prog 60 [aK a,aK b] (vb (decide (a=b))):=by
 refine FC.body 0 8 Tryz.func60 rfl (by kernel_rfl) ?_
 refine sq ?_
 refine Z1 aB ?_
 refine cn ?_
 refine sq ?_
 refine Z1 mo ?_
 refine Z1 mo ?_
 refine Z1 (ca (aaH a b)) ?_
 refine Z1 aB ?_
 refine cn ?_
 refine aP ?_
 exact ⟨.inl rfl,aF.tmp rfl rfl,trivial⟩
theorem aaI (x y:ThingP):PC Tryz.prog 117 [iT x,iT y] (vb (lA x y)):=by
 refine FC.body 0 85 Tryz.func117 rfl (by kernel_rfl) ?_
 refine dM (t:=0) (x:=iT x) rfl aaE fun hf=>?_
 refine sq ?_
 refine Z1 bx ?_
 refine Z1 bx ?_
 refine Z1 aB ?_
 refine cn ?_
 refine aD ?_
 refine sq ?_
 refine Z1 (fa 0) ?_
 refine Z1 ld ?_
 refine Z1 (fa 0) ?_
 refine Z1 ld ?_
 refine Z1 bz ?_
 refine Z1 mo ?_
 refine Z4 (fun hC=>fa 1) ?_
 refine Z4 (fun hC=>ld) ?_
 refine Z4 (fun hC=>fa 1) ?_
 refine Z4 (fun hC=>ld) ?_
 refine Z4 (fun hC=>bz) ?_
 refine Z1 cC ?_
 refine Z1 mo ?_
 refine Z4 (fun hC=>fa 2) ?_
 refine Z4 (fun hC=>ld) ?_
 refine Z4 (fun hC=>fa 2) ?_
 refine Z4 (fun hC=>ld) ?_
 refine Z4 (fun hC=>bz) ?_
 refine Z1 cC ?_
 refine Z1 mo ?_
 refine Z4 (fun hC=>fa 3) ?_
 refine Z4 (fun hC=>ld) ?_
 refine Z4 (fun hC=>fa 3) ?_
 refine Z4 (fun hC=>ld) ?_
 refine Z4 (fun hC=>bz) ?_
 refine Z1 cC ?_
 refine Z1 mo ?_
 refine Z4 (fun hC=>fa 4) ?_
 refine Z4 (fun hC=>ld) ?_
 refine Z4 (fun hC=>fa 4) ?_
 refine Z4 (fun hC=>ld) ?_
 refine aW (R:=[]) rfl rfl rfl eV (fun hC=>aPD rfl rfl rfl (by kernel_rfl)) (fun hC=>⟨(by first|rfl|exact hC|(simp only [Bool.and_eq_true] at hC;first|exact hC.1|exact hC.1.1|exact hC.2)|simp_all),(by first|rfl|exact hC|(simp only [Bool.and_eq_true] at hC;first|exact hC.1|exact hC.1.1|exact hC.2)|simp_all),trivial⟩) trivial ?_
 refine Z1 cC ?_
 refine Z1 mo ?_
 refine Z4 (fun hC=>fa 8) ?_
 refine Z4 (fun hC=>ld) ?_
 refine Z4 (fun hC=>ln) ?_
 refine Z4 (fun hC=>fa 8) ?_
 refine Z4 (fun hC=>ld) ?_
 refine Z4 (fun hC=>ln) ?_
 refine Z4 (fun hC=>bz) ?_
 refine Z1 cC ?_
 refine cn ?_
 refine cd (fun hb=>?_) fun hb=>?_
 ·have hE:lA x y=false:=by
   cases hq:lA x y with
   | false=>rfl
   | true=>
    obtain ⟨q1,q2,q3,q4,q5,q6⟩:=aaF hq
    simp [q1,q2,q3,q4,q5,q6] at hb
  refine sq ?_
  refine Z1 aB ?_
  refine cn ?_
  refine aP ?_
  exact ⟨.inl rfl,aF.tmp rfl (by rw [hE];rfl),trivial⟩
 ·have hQ:x.title=y.title∧x.text=y.text∧x.parent=y.parent∧x.flags=y.flags∧x.room=y.room∧(x.ways.length:Int)=y.ways.length:=by simpa [and_assoc] using hb
  obtain ⟨q1,q2,q3,q4,q5,hll⟩:=hQ
  refine aQ ?_
  refine aD ?_
  refine sq ?_
  refine Z1 aB ?_
  refine cn ?_
  refine aU ?_
  refine bM (ι:=Nat) (fun k=>⟨[(2,.ptr (iT x)),(3,.ptr (iT y)),(5,vi k)],[]⟩) (fun k=>k≤x.ways.length∧∀ j,j<k→(fun x y=>jJ x==jJ y) (x.ways.getD j dD) (y.ways.getD j dD)=true) (fun k=>x.ways.length-k) 0 (⟨Nat.zero_le _,fun j hj=>absurd hj (by omega)⟩) (Le.sub (by repeat (first|trivial|refine ⟨.inr rfl,?_⟩|refine ⟨.inr (aR (by omega)),?_⟩)) (by repeat (first|trivial|refine ⟨rfl,?_⟩))) ?_
  intro k hI
  refine aD ?_
  refine sq ?_
  refine Z1 mo ?_
  refine Z1 (fa 8) ?_
  refine Z1 ld ?_
  refine Z1 ln ?_
  refine Z1 bz ?_
  refine cn ?_
  refine cd (fun hb=>?_) fun hb=>?_
  ·have hlt:k<x.ways.length:=by have h0:=of_decide_eq_true hb;omega
   have hlt2:k<y.ways.length:=by omega
   refine aQ ?_
   refine aD ?_
   refine aU ?_
   refine aD ?_
   refine dw ?_
   refine Z1 (fa 8) ?_
   refine Z1 ld ?_
   refine Z1 mo ?_
   refine Z1 ia ?_
   refine Z1 lr ?_
   refine Z1 (fa 8) ?_
   refine Z1 ld ?_
   refine Z1 mo ?_
   refine Z1 ia ?_
   refine Z1 lr ?_
   refine Z1 (aC8 (jJ (x.ways.getD k dD)) (jJ (y.ways.getD k dD)) rfl rfl rfl (by kernel_rfl) rfl) ?_
   refine cn (dn ?_)
   refine cd (fun hb=>?_) fun hb=>?_
   ·have heq:(fun x y=>jJ x==jJ y) (x.ways.getD k dD) (y.ways.getD k dD)=false:=by simpa using hb
    refine sq ?_
    refine Z1 aB ?_
    refine cn ?_
    refine aP ?_
    exact ⟨.inl rfl,aF.tmp rfl (by unfold lA;rw [lI dD k hlt hll heq,Bool.and_false];rfl),trivial⟩
   ·have heq:(fun x y=>jJ x==jJ y) (x.ways.getD k dD) (y.ways.getD k dD)=true:=by simpa using hb
    refine aQ ?_
    refine tx ?_
    refine Z1 mo ?_
    refine Z1 ba ?_
    refine Z1 aB ?_
    refine cn ?_
    exact ⟨k+1,⟨by omega,fun j hj=>(Nat.lt_succ_iff_lt_or_eq.1 hj).elim (hI.2 j) (fun h1=>h1 ▸ heq)⟩,by omega,Le.sub (by repeat (first|trivial|refine ⟨.inr rfl,?_⟩|refine ⟨.inr (aR (by omega)),?_⟩)) trivial⟩
  ·have hge:k=x.ways.length:=by have h0:=of_decide_eq_false hb;omega
   refine bU ?_
   refine sq ?_
   refine Z1 (fa 5) ?_
   refine Z1 ld ?_
   refine Z1 (fa 5) ?_
   refine Z1 ld ?_
   refine Z1 (ca (uD x.props y.props)) ?_
   refine Z1 mo ?_
   refine Z4 (fun hC=>fa 6) ?_
   refine Z4 (fun hC=>ld) ?_
   refine Z4 (fun hC=>fa 6) ?_
   refine Z4 (fun hC=>ld) ?_
   refine Z4 (fun hC=>ca (aDB x.words y.words)) ?_
   refine Z1 an ?_
   refine Z1 mo ?_
   refine Z4 (fun hC=>fa 7) ?_
   refine Z4 (fun hC=>ld) ?_
   refine Z4 (fun hC=>fa 7) ?_
   refine Z4 (fun hC=>ld) ?_
   refine Z4 (fun hC=>ca (aDB x.adjs y.adjs)) ?_
   refine Z1 an ?_
   refine Z1 aB ?_
   refine cn ?_
   refine aP ?_
   exact ⟨.inl rfl,aF.tmp rfl (show vb _=vb _ from congrArg (fun b=>vb b) (by unfold lA vW;rw [mE dD hll (fun j hj=>hI.2 j (by omega)),q1,q2,q3,q4,q5];simp)),trivial⟩
end Go.Proofs.YtnklgkjfoggpbaaGreatDoor
