/- Parts of the proof of a law of this seat: rules and contracts; no conditions. -/
import Derived.Test.YtgajclaoaphgoaaGreatDoorVa
import Derived.Test.YtgajclaoaphgoaaGreatDoorWireP
import Derived.Test.YtgajclaoaphgoaaGreatDoorRde
import Derived.Test.YtgajclaoaphgoaaGreatDoorProg
import Derived.KernelRfl
import Derived.Test.YtgajclaoaphgoaaGreatDoorWa
import Derived.Test.YtgajclaoaphgoaaGreatDoorVyj
set_option maxHeartbeats 6400000
set_option maxRecDepth 100000
set_option linter.unusedVariables false
set_option linter.unusedSimpArgs false
namespace Go.Proofs.YtgajclaoaphgoaaGreatDoor
open Go.RowKit
theorem aiR (xs:List Int)(hl:xs.length≤1000000)(hb:cI xs)(s:bF)(hA:(gPoolP xs (sN xs s 5)).2.2=0→PC Tryz.prog 160 [kO (gPoolP xs (sN xs s 5)).1] (.tup [bB (allP (gPoolP xs (sN xs s 5)).1).1,vi (allP (gPoolP xs (sN xs s 5)).1).2])):FC Tryz.prog 39 [.own 0 0] [(0,.live 83 (aV xs (s)))] (cX (gStory xs s).1) [(0,.live 83 (aV xs ((gStory xs s).2)))]:=by
 have hb0:=hb;refine FB 2 106 Tryz.func39 ?_;refine G ?_;refine aS 0 15 true ?_;refine G ?_;refine Z1 (OC.to (fO (ps:=[.tmp 11,.tmp 14,.tmp 17,.tmp 20,.tmp 23]) (xs:=[.own _ _,.own _ _,.own _ _,.own _ _,.own _ _]) (e:=125) (k:=1) (by_:=8) (zs:=[.pointer none]) rfl (by kernel_rfl) (by kernel_rfl) rfl rfl rfl (by decide) (by decide)) (aTE 1 i5 [0,1,2,3,5] (fun j hj=>rfl))) ?_;refine G ?_
 refine bM (ι:=Nat) (fun k=>⟨[(0,.own 0 0),(2,.own 1 0),(3,.own 1 0),(24,.sl 1 5 fun j=>.own 1 (i5 j)),(25,vi 5),(26,vi k)],[(0,.live 83 (aV xs (sN xs s k))),(1,.live 31 (cK xs s k))]⟩) (fun k=>k≤5) (fun k=>5-k) 0 (Nat.zero_le _) (LS) ?_;intro k hI;refine Gd (fun hb=>?_) fun hb=>?_
 ·have hk:k<5:=by have h0:=of_decide_eq_true hb;omega
  refine G ?_;refine Z1 (pV rfl rfl (by kernel_rfl) (fun E v h=>nU E v h)) ?_;refine G ?_;refine cr (rY xs hl hb0 _) ?_;refine eL (R:=[(_,.live _ _)]) rfl rfl (qP rfl rfl (by rw [aK0];exact aTC k)) ⟨rfl,trivial⟩ ?_;refine fP rfl rfl (lG (y:=vi (vN xs s k)) (cs':=cK xs s (k+1)) rfl rfl rfl (by kernel_rfl) (by kernel_rfl) oH (by rw [aK0];exact aTC k) rfl) ⟨rfl,trivial⟩ ?_;refine G ?_;exact ⟨k+1,by omega,by omega,LS⟩
 have hk:k=5:=by have h0:=of_decide_eq_false hb;omega
 subst hk;refine bS (LS (τ:=⟨[(0,.own 0 0),(2,.own 1 0),(3,.own 1 0)],[(0,.live 83 (aV xs (sN xs s 5))),(1,.live 31 [vi (vN xs s 0),vi (vN xs s 1),vi (vN xs s 2),vi (vN xs s 3),.val (.slice none 0 0),vi (vN xs s 4),.val (.slice none 0 0),.val (.slice none 0 0),.val (.slice none 0 0),.val (.slice none 0 0),.val (.slice none 0 0),.val (.slice none 0 0),.val (.slice none 0 0),.val (.slice none 0 0),.val (.slice none 0 0),.val (.slice none 0 0),.val (.slice none 0 0)])]⟩)) ?_;refine G ?_
 refine cr (show FC _ _ [.own 0 0] [(0,.live 83 (aV xs (sN xs s 5)))] (bB (aTe xs s).1) [(0,.live 83 (aV xs (aTe xs s).2))] from aiQ xs hl hb0 (sN xs s 5) hA) ?_;refine G ?_;refine cr (show FC _ _ [.own 0 0] [(0,.live 83 (aV xs ((aTe xs s).2)))] (aK (aPr xs s).1) [(0,.live 83 (aV xs (aPr xs s).2))] from aJT xs hl hb0 _) ?_;refine G ?_;refine cr (show FC _ _ [.own 0 0] [(0,.live 83 (aV xs ((aPr xs s).2)))] (aK (aGl xs s).1) [(0,.live 83 (aV xs (aGl xs s).2))] from aJT xs hl hb0 _) ?_;refine G ?_
 refine Z1 (iE (cs:=[.own _ _]) rfl rfl) ?_;refine G ?_;refine Z1 (iE (cs:=[.own _ _]) rfl rfl) ?_;refine cr (show FC _ _ [.own 0 0,.bm 97 [.own 0 0],.bm 101 [.own 0 0]] [(0,.live 83 (aV xs ((aGl xs s).2)))] (gA (aTh xs s).1) [(0,.live 83 (aV xs (aTh xs s).2))] from aiE xs _ (.bm 97 [.own 0 0]) 101 (cJ xs) (gThing xs) (uT xs hl hb0) (by kernel_rfl) (fun s=>afM xs hl hb0 s) (uS hb0)) ?_;refine G ?_;refine Z1 (iE (cs:=[.own _ _]) rfl rfl) ?_;refine G ?_
 refine Z1 (iE (cs:=[.own _ _]) rfl rfl) ?_;refine cr (show FC _ _ [.own 0 0,.bm 97 [.own 0 0],.bm 103 [.own 0 0]] [(0,.live 83 (aV xs ((aTh xs s).2)))] (gB (aAc xs s).1) [(0,.live 83 (aV xs (aAc xs s).2))] from aiD xs _ (.bm 97 [.own 0 0]) 103 (cJ xs) (gAct xs) (uT xs hl hb0) (by kernel_rfl) (fun s=>afJ xs hl hb0 s) (uS hb0)) ?_;refine G ?_;refine Z1 (iE (cs:=[.own _ _]) rfl rfl) ?_;refine G ?_;refine Z1 (iE (cs:=[.own _ _]) rfl rfl) ?_
 refine cr (show FC _ _ [.own 0 0,.bm 97 [.own 0 0],.bm 105 [.own 0 0]] [(0,.live 83 (aV xs ((aAc xs s).2)))] (fY (aDe xs s).1) [(0,.live 83 (aV xs (aDe xs s).2))] from aiF xs _ (.bm 97 [.own 0 0]) 105 (cJ xs) (uR xs) (uT xs hl hb0) (by kernel_rfl) (fun s=>afL xs hl hb0 s) (uS hb0)) ?_;refine dO ?_;refine aS 10 1 false ?_;refine cF [_,_,_,_,_,_,_,_,_,_,_,_,_,_,_,_,_] ?_;refine cn ?_;refine aD ?_;refine aD ?_;refine dw ?_;refine Z1 mo ?_;refine dO ?_
 refine aS 11 1 false ?_;refine Z1 mo ?_;refine dO ?_;refine aS 12 1 false ?_;refine Z1 mo ?_;refine dO ?_;refine aS 13 1 false ?_;refine Z1 mo ?_;refine dO ?_;refine aS 14 1 false ?_;refine aS 15 1 false ?_
 refine Z1 (OC.to (fO (ps:=[.tmp 79,.tmp 82,.tmp 85,.tmp 88,.tmp 89]) (xs:=[.own _ _,.own _ _,.own _ _,.own _ _,.own _ _]) (e:=136) (k:=1) (by_:=8) (zs:=[.pointer none]) rfl (by kernel_rfl) (by kernel_rfl) rfl rfl rfl (by decide) (by decide)) (aTE 1 (11 + ·) [11,12,13,14,15] (fun j hj=>by rcases j with _|_|_|_|_|j<;>first|rfl|(simp only [List.length_cons,List.length_nil] at hj;omega)))) ?_;refine Z1 ln ?_;refine Z1 mo ?_;refine cn (dn ?_);refine aU ?_
 refine bM (ι:=Nat) (fun k=>⟨[(0,.own 0 0),(2,.own 1 0),(3,.own 1 0),(90,.sl 1 5 fun j=>.own 1 (11+j)),(91,vi 5),(92,vi k)],[(0,.live 83 (aV xs (sM xs (aDe xs s).2 k))),(1,.live 31 (dK [vi (vN xs s 0),vi (vN xs s 1),vi (vN xs s 2),vi (vN xs s 3),bB (aTe xs s).1,vi (vN xs s 4),aK (aPr xs s).1,aK (aGl xs s).1,gA (aTh xs s).1,gB (aAc xs s).1,fY (aDe xs s).1,.val (.slice none 0 0),.val (.slice none 0 0),.val (.slice none 0 0),.val (.slice none 0 0),.val (.slice none 0 0),.val (.slice none 0 0)] xs (aDe xs s).2 k))]⟩) (fun k=>k≤5) (fun k=>5-k) 0 (Nat.zero_le _) (LS) ?_
 intro k hI;refine Gd (fun hb=>?_) fun hb=>?_
 ·have hk:k<5:=by have h0:=of_decide_eq_true hb;omega
  have hdl:(dK [vi (vN xs s 0),vi (vN xs s 1),vi (vN xs s 2),vi (vN xs s 3),bB (aTe xs s).1,vi (vN xs s 4),aK (aPr xs s).1,aK (aGl xs s).1,gA (aTh xs s).1,gB (aAc xs s).1,fY (aDe xs s).1,.val (.slice none 0 0),.val (.slice none 0 0),.val (.slice none 0 0),.val (.slice none 0 0),.val (.slice none 0 0),.val (.slice none 0 0)] xs (aDe xs s).2 k).length=17:=aTD _ _ _ k;refine G ?_;refine Z1 (pV rfl rfl (by kernel_rfl) (fun E v h=>nU E v h)) ?_;refine G ?_;refine cr (afE xs hl hb0 _) ?_;refine eL (R:=[(_,.live _ _)]) rfl rfl (qP rfl rfl (by rw [hdl];omega)) ⟨rfl,trivial⟩ ?_
  refine fP rfl rfl (lG (y:=aK (vM xs (aDe xs s).2 k)) (cs':=dK [vi (vN xs s 0),vi (vN xs s 1),vi (vN xs s 2),vi (vN xs s 3),bB (aTe xs s).1,vi (vN xs s 4),aK (aPr xs s).1,aK (aGl xs s).1,gA (aTh xs s).1,gB (aAc xs s).1,fY (aDe xs s).1,.val (.slice none 0 0),.val (.slice none 0 0),.val (.slice none 0 0),.val (.slice none 0 0),.val (.slice none 0 0),.val (.slice none 0 0)] xs (aDe xs s).2 (k+1)) rfl rfl rfl (by kernel_rfl) (by kernel_rfl) aAT (by rw [hdl];omega) rfl) ⟨rfl,trivial⟩ ?_;refine G ?_;exact ⟨k+1,by omega,by omega,LS⟩
 have hk:k=5:=by have h0:=of_decide_eq_false hb;omega
 subst hk;refine bS (LS (τ:=⟨[(0,.own 0 0),(2,.own 1 0),(3,.own 1 0)],[(0,.live 83 (aV xs (sM xs (aDe xs s).2 5))),(1,.live 31 [vi (vN xs s 0),vi (vN xs s 1),vi (vN xs s 2),vi (vN xs s 3),bB (aTe xs s).1,vi (vN xs s 4),aK (aPr xs s).1,aK (aGl xs s).1,gA (aTh xs s).1,gB (aAc xs s).1,fY (aDe xs s).1,aK (aM xs s 0),aK (aM xs s 1),aK (aM xs s 2),aK (aM xs s 3),aK (aM xs s 4),.val (.slice none 0 0)])]⟩)) ?_;refine G ?_
 refine cr (show FC _ _ [.own 0 0] [(0,.live 83 (aV xs (sM xs (aDe xs s).2 5)))] (vs (aCo xs s).1) [(0,.live 83 (aV xs (aCo xs s).2))] from aJS xs hl hb0 _) ?_;refine Z1 (aS5 (s:=(aCo xs s).1) (aK1 hl)) ?_;refine aS 16 1 false ?_;refine cF [_,_,_,_,_,_,_,_,_,_,_,_,_,_,_,_,_] ?_;refine G ?_;exact ⟨.inl rfl,aF.cell rfl rfl rfl (by kernel_rfl) (by kernel_rfl) (Nat.le_of_ble_eq_true rfl),⟨rfl,trivial⟩⟩
def xU (l:List ByteArray)(m:Nat):Prop:=l.length≤m∧∀ w∈l,w.size≤9
def xV (y:WayP):Prop:=(0≤y.dir∧y.dir≤12)∧(0≤y.goal∧y.goal≤128)∧(-1≤y.cond∧y.cond≤2048)∧(-1≤y.els∧y.els≤4096)
structure thG (x:ThingP):Prop where
 title:0≤x.title∧x.title≤4096
 text:-1≤x.text∧x.text≤4096
 parent:0≤x.parent∧x.parent≤128
 flags:0≤x.flags∧x.flags≤65535
 props:x.props.length≤16∧∀ z∈x.props,-32768≤z∧z≤32767
 words:xU x.words 8
 adjs:xU x.adjs 8
 ways:x.ways.length≤12∧∀ y∈x.ways,xV y
def aSX (x:SlotP):Prop:=(0≤x.kind∧x.kind≤5)∧xU x.words 4
def aKO (l:List SlotP):Prop:=l.length≤8∧∀ x∈l,aSX x
def aDW (v:VerbP):Prop:=v.lines.length≤8∧∀ l∈v.lines,aKO l
def aDX (d:DeedP):Prop:=(0≤d.verb∧d.verb≤64)∧(0≤d.phase∧d.phase≤3)∧(-1≤d.noun∧d.noun≤128)∧(-1≤d.second∧d.second≤128)∧(-1≤d.cond∧d.cond≤2048)∧(0≤d.body∧d.body≤2048)
def aE2 (l:List Int)(n:Nat)(m:Int):Prop:=l.length≤n∧∀ z∈l,0≤z∧z≤m
structure tabG (t:TabP):Prop where
 title:0≤t.title∧t.title≤4096
 by_:0≤t.by_∧t.by_≤4096
 release:0≤t.release∧t.release≤32767
 max:0≤t.max∧t.max≤32767
 flags:4≤t.flags∧t.flags≤16
 texts:t.texts.length≤4096∧t.texts.all qN=true
 props:t.props.length≤16∧∀ z∈t.props,-32768≤z∧z≤32767
 globals:t.globals.length≤64∧∀ z∈t.globals,-32768≤z∧z≤32767
 things:(3≤t.things.length∧t.things.length≤128)∧∀ x∈t.things,thG x
 acts:t.acts.length≤64∧∀ v∈t.acts,aDW v
 deeds:t.deeds.length≤512∧∀ d∈t.deeds,aDX d
 funcs:aE2 t.funcs 64 2048
 daemons:aE2 t.daemons 16 2048
 params:aE2 t.params 2048 8
 locals:aE2 t.locals 2048 24
 same:t.params.length=t.locals.length
theorem aKP {l:List ByteArray}{m:Nat}(h:wV l (m:Int)=true):xU l m:=by
 unfold wV at h;simp only [Bool.and_eq_true,decide_eq_true_eq,List.all_eq_true] at h;refine ⟨by omega,fun w hw=>?_⟩;have h1:=h.2 w hw;unfold aE3 yN at h1;simp only [Bool.and_eq_true,decide_eq_true_eq] at h1;omega
theorem aKQ {l:List Int}(h:l.all pW=true):∀ z∈l,-32768≤z∧z≤32767:=fun z hz=>gH.1 ((List.all_eq_true.1 h) z hz)
theorem aE4 {t:TabP}(hp:t.params.length≤2048){n:Int}(h:tG t n=true):0≤n∧n≤2048:=by
 unfold tG at h;rw [Bool.and_eq_true] at h;have:=gH.1 h.1;omega
theorem uK {α:Type}{d:α}{l:List α}{x:α}(h:x∈l):∃ j,j<l.length∧l.getD j d=x:=by
 obtain ⟨j,hj,rfl⟩:=List.mem_iff_getElem.1 h;exact ⟨j,hj,by rw [List.getD,List.getElem?_eq_getElem hj];rfl⟩
theorem ahP {t:TabP}(hp:t.params.length≤2048)(ht:t.texts.length≤4096)(hg:t.things.length≤128){l:List WayP}(h:yO t l=true):l.length≤12∧∀ y∈l,xV y:=by
 unfold yO at h;rw [List.all_eq_true] at h;have hk:∀ k,k<l.length→qS l k<(l.getD k dD).dir∧(l.getD k dD).dir≤12∧aBH t (l.getD k dD).goal=true∧((l.getD k dD).cond=-1∨tG t (l.getD k dD).cond=true)∧((l.getD k dD).els=-1∨wW t (l.getD k dD).els=true):=fun k hk=>by
  have h1:=h k (List.mem_range.2 hk);unfold uV at h1;simp only [Bool.not_eq_true',Bool.or_eq_false_iff,Bool.and_eq_false_iff,decide_eq_false_iff_not,Bool.not_eq_false',bne_eq_false_iff_eq] at h1;obtain ⟨⟨⟨⟨h2,h3⟩,h4⟩,h5⟩,h6⟩:=h1;exact ⟨by omega,by omega,h4,h5,h6⟩
 have hd:∀ k,k<l.length→(k:Int)+1≤(l.getD k dD).dir:=fun k=>by
  induction k with
  | zero=>intro h0;have:=(hk 0 h0).1;have e:qS l 0=0:=rfl;omega
  | succ k ih=>intro h0;have:=(hk (k+1) h0).1;have e:qS l (k+1)=(l.getD k dD).dir:=rfl;have:=ih (by omega);omega
 refine ⟨?_,fun y hy=>?_⟩
 ·rcases Nat.eq_zero_or_pos l.length with h0|h0
  ·omega
  have h1:=hd (l.length-1) (by omega);have h2:=(hk (l.length-1) (by omega)).2.1;omega
 obtain ⟨j,hj,rfl⟩:=uK (d:=dD) hy;obtain ⟨h1,h2,h3,h4,h5⟩:=hk j hj;have h6:=hd j hj;unfold aBH at h3;rw [Bool.and_eq_true] at h3;have h7:=gH.1 (show among (l.getD j dD).goal 1 _=true from h3.1);refine ⟨⟨by omega,h2⟩,⟨by omega,by omega⟩,?_,?_⟩
 ·rcases h4 with h4|h4
  ·omega
  have:=aE4 hp h4;omega
 rcases h5 with h5|h5
 ·omega
 have:=gH.1 (show among (l.getD j dD).els 0 _=true from h5);omega
theorem ahQ {f:Int}(h:4≤f∧f≤16):IntKind.i64.wrap (1*2^(min f.toNat IntKind.i64.bits))≤65536:=by
 have e:IntKind.i64.bits=64:=rfl;have h1:(f.toNat=4∨f.toNat=5∨f.toNat=6∨f.toNat=7∨f.toNat=8∨f.toNat=9∨f.toNat=10)∨f.toNat=11∨f.toNat=12∨f.toNat=13∨f.toNat=14∨f.toNat=15∨f.toNat=16:=by omega
 rcases h1 with (h1|h1|h1|h1|h1|h1|h1)|h1|h1|h1|h1|h1|h1<;>rw [h1]<;>decide
theorem ahR {t:TabP}(hp:t.params.length≤2048)(ht:t.texts.length≤4096)(hg:t.things.length≤128)(hf:4≤t.flags∧t.flags≤16){x:ThingP}(hpl:x.props.length≤16)(h:sA t x=true):thG x:=by
 unfold sA at h;rw [Bool.and_eq_true] at h;obtain ⟨h1,h2⟩:=h;unfold aE5 at h1;simp only [Bool.not_eq_true',Bool.or_eq_false_iff,Bool.and_eq_false_iff,decide_eq_false_iff_not,Bool.not_eq_false',bne_eq_false_iff_eq] at h1;obtain ⟨⟨⟨⟨⟨⟨k1,k2⟩,k3⟩,k4⟩,k5⟩,k6⟩,k7⟩:=h1;have j1:=gH.1 (show among x.title 0 _=true from k1);have j4:=ahQ hf;have j2:-1≤x.text∧x.text≤4096:=by
  rcases k2 with k2|k2
  ·omega
  have:=gH.1 (show among x.text 0 _=true from k2);omega
 have j3:(0≤x.parent∧x.parent≤128)∧x.ways.length≤12∧∀ y∈x.ways,xV y:=by
  cases hr:x.room with
  | true=>
   rw [hr,cond_true,Bool.and_eq_true,beq_iff_eq] at h2;exact ⟨by omega,ahP hp ht hg h2.2⟩
  | false=>
   rw [hr,cond_false,Bool.and_eq_true,beq_iff_eq,Bool.or_eq_true,beq_iff_eq] at h2;have h3:x.ways=[]:=List.eq_nil_of_length_eq_zero (by omega);refine ⟨?_,by rw [h3];exact ⟨Nat.zero_le _,fun y hy=>by cases hy⟩⟩;rcases h2.2 with h4|h4
   ·omega
   have:=gH.1 (show among x.parent 1 _=true from h4);omega
 exact ⟨⟨by omega,by omega⟩,j2,j3.1,⟨by omega,by omega⟩,⟨hpl,aKQ k5⟩,aKP k6,aKP k7,j3.2⟩
theorem ahS {x:ThingP}(hpl:x.props.length≤16)(hw:x.words.length≤1000000000000000∧x.adjs.length≤1000000000000000∧x.ways.length≤1000000000000000)(h:aE6 x=true):thG x:=by
 unfold aE6 at h;simp only [Bool.and_eq_true,beq_iff_eq,Bool.not_eq_true',List.all_eq_true] at h;obtain ⟨⟨⟨⟨⟨⟨h1,h2⟩,h3⟩,h4⟩,h5⟩,h6⟩,h7⟩:=h;unfold ThingP.sum at h7;have e:IntKind.i64.wrap ((x.words.length:Int)+x.adjs.length)=(x.words.length:Int)+x.adjs.length:=aFI _ (by omega) (by omega);rw [e,aFI _ (by omega) (by omega)] at h7;have e1:x.words=[]:=List.eq_nil_of_length_eq_zero (by omega);have e2:x.adjs=[]:=List.eq_nil_of_length_eq_zero (by omega);have e3:x.ways=[]:=List.eq_nil_of_length_eq_zero (by omega)
 refine ⟨by omega,by omega,by omega,by omega,⟨hpl,fun z hz=>by have:=h6 z hz;omega⟩,?_,?_,?_⟩
 ·rw [e1];exact ⟨Nat.zero_le _,fun w hw=>by cases hw⟩
 ·rw [e2];exact ⟨Nat.zero_le _,fun w hw=>by cases hw⟩
 rw [e3];exact ⟨Nat.zero_le _,fun w hw=>by cases hw⟩
theorem ahT {l:List SlotP}(h:pP l=true):aKO l:=by
 unfold pP at h;simp only [Bool.and_eq_true,List.all_eq_true,decide_eq_true_eq] at h;obtain ⟨h1,⟨⟨h2,_⟩,_⟩,_⟩:=h;have h3:=gH.1 h2;refine ⟨by omega,fun x hx=>?_⟩;obtain ⟨j,hj,rfl⟩:=uK (d:=cH) hx;have h4:=h1 j (List.mem_range.2 hj);unfold fT at h4;rw [Bool.not_eq_true'] at h4;cases hk:(l.getD j cH).kind==1 with
 | true=>
  rw [hk,cond_true,Bool.or_eq_false_iff] at h4;have h5:(l.getD j cH).kind=1:=by simpa using hk
  exact ⟨by omega,aKP (by simpa using h4.2)⟩
 | false=>
  rw [hk,cond_false,Bool.or_eq_false_iff,Bool.or_eq_false_iff] at h4;have h5:=gH.1 (show among (l.getD j cH).kind 2 5=true by simpa using h4.1);have h6:¬ ((l.getD j cH).words.length:Int)>0:=by simpa using h4.2.1
  have e:(l.getD j cH).words=[]:=List.eq_nil_of_length_eq_zero (by omega);exact ⟨by omega,by rw [e];exact ⟨Nat.zero_le _,fun w hw=>by cases hw⟩⟩
theorem aAO {t:TabP}(h0:(t.things.getD 0 cY).words.length≤1000000000000000∧(t.things.getD 0 cY).adjs.length≤1000000000000000∧(t.things.getD 0 cY).ways.length≤1000000000000000)(h:iL t=true):tabG t:=by
 unfold iL at h;simp only [Bool.and_eq_true,List.all_eq_true] at h;obtain ⟨h1,⟨⟨h2,h3⟩,h4⟩,h5⟩:=h;unfold aD1 at h1;simp only [Bool.not_eq_true',Bool.or_eq_false_iff,Bool.not_eq_false',decide_eq_false_iff_not] at h1;obtain ⟨⟨⟨⟨⟨⟨k1,k2⟩,k3⟩,k4⟩,k5⟩,k6⟩,k7⟩:=h1;unfold aAM at k1;simp only [Bool.and_eq_true,decide_eq_true_eq] at k1;obtain ⟨⟨⟨⟨⟨⟨⟨⟨⟨⟨a1,a2⟩,a3⟩,a4⟩,a5⟩,a6⟩,a7⟩,a8⟩,a9⟩,a10⟩,a11⟩:=k1;have b3:=gH.1 (show among t.title 0 _=true from a3);have b4:=gH.1 (show among t.by_ 0 _=true from a4);have b5:=gH.1 a5;have b6:=gH.1 a6;have b7:=gH.1 a7;unfold yP aBI at k2
 simp only [Bool.and_eq_true,Bool.not_eq_true',Bool.or_eq_false_iff,bne_eq_false_iff_eq,decide_eq_false_iff_not,List.all_eq_true] at k2;obtain ⟨⟨c1,c2⟩,c3⟩:=k2;have c1:t.params.length=t.locals.length:=by omega
 have c4:∀ k,k<t.params.length→(0≤t.params.getD k 0∧t.params.getD k 0≤8)∧(t.params.getD k 0≤t.locals.getD k 0∧t.locals.getD k 0≤24):=fun k hk=>by
  have:=c3 k (List.mem_range.2 hk);unfold uW at this;simp only [Bool.or_eq_false_iff,Bool.not_eq_false'] at this;exact ⟨gH.1 this.1,gH.1 this.2⟩
 unfold wX aBJ at k3;simp only [Bool.and_eq_true,Bool.not_eq_true',Bool.or_eq_false_iff,Bool.not_eq_false',List.all_eq_true] at k3;obtain ⟨⟨⟨⟨d1,d2⟩,d3⟩,_⟩,_⟩:=k3;have d4:=gH.1 d1;have hp:t.params.length≤2048:=by omega
 have ht:t.texts.length≤4096:=by omega
 have hg:t.things.length≤128:=by omega
 have hn:∀ n,aBK t n=true→-1≤n∧n≤128:=fun n hn=>by
  unfold aBK at hn;rw [Bool.or_eq_true,beq_iff_eq] at hn;rcases hn with hn|hn
  ·omega
  have:=gH.1 (show among n 1 _=true from hn);omega
 refine ⟨by omega,by omega,b5,b6,b7,⟨ht,a2⟩,⟨by omega,aKQ a10⟩,⟨by omega,aKQ a11⟩,⟨by omega,fun x hx=>?_⟩,⟨by omega,fun v hv=>?_⟩,⟨by omega,fun d hd=>?_⟩,⟨by omega,fun z hz=>?_⟩,⟨by omega,fun z hz=>?_⟩,⟨hp,fun z hz=>?_⟩,⟨by omega,fun z hz=>?_⟩,c1⟩
 ·obtain ⟨j,hj,rfl⟩:=uK (d:=cY) hx;have e1:=d3 j (List.mem_range.2 hj);unfold sB at e1;simp only [Bool.or_eq_false_iff,bne_eq_false_iff_eq,Bool.and_eq_false_iff,decide_eq_false_iff_not,Bool.not_eq_false'] at e1;have hpl:(t.things.getD j cY).props.length≤16:=by omega
  rcases Nat.eq_zero_or_pos j with h6|h6
  ·subst h6;exact ahS hpl h0 d2
  rcases e1.2 with e2|e2
  ·omega
  exact ahR hp ht hg b7 hpl e2
 ·have e1:=h2 v hv;unfold aD0 at e1;rw [Bool.and_eq_true,List.all_eq_true] at e1;have e2:=gH.1 e1.1;exact ⟨by omega,fun l hl=>ahT (e1.2 l hl)⟩
 ·have e1:=h3 d hd;unfold aD2 at e1;simp only [Bool.and_eq_true,Bool.or_eq_true,beq_iff_eq] at e1;obtain ⟨⟨⟨⟨⟨f1,f2⟩,f3⟩,f4⟩,f5⟩,f6⟩:=e1;have g1:=gH.1 f1;have g2:=gH.1 f2;have g3:=hn _ f3;have g4:=hn _ f4;have g6:=aE4 hp f6;refine ⟨by omega,by omega,g3,g4,?_,g6⟩;rcases f5 with f5|f5
  ·omega
  have:=aE4 hp f5;omega
 ·have:=gH.1 (h4 z hz);omega
 ·exact aE4 hp (h5 z hz)
 ·obtain ⟨j,hj,rfl⟩:=uK (d:=(0:Int)) hz;exact (c4 j hj).1
 obtain ⟨j,hj,rfl⟩:=uK (d:=(0:Int)) hz;have:=c4 j (by omega);omega
end Go.Proofs.YtgajclaoaphgoaaGreatDoor
namespace Go.Proofs.YtgajclaoaphgoaaGreatDoor
theorem ahU (l m:List Int):bC (l++m)=bC l++bC m:=by simp [bC]
theorem aSY (s:ByteArray)(ab:List ByteArray):jO ab (bL s ab)=tB s:=by
 unfold bL;rw [aHE _ _ _ _ (by omega) (Nat.le_refl _) (Nat.zero_le _)];rfl
theorem aSZ (s:ByteArray)(ab:List ByteArray):∀ p∈bL s ab,pH ab p=false:=aCX (s:=s) (ab:=ab) (s.size+1) 0 0 [] (fun p hp=>by simp at hp)
theorem xS (l:List Int):cN l=true↔l.length≤1024∧∀ c∈l,eZ c=true:=by
 unfold cN;simp only [Bool.and_eq_true,List.all_eq_true,decide_eq_true_eq]
theorem ahV {l m:List Int}(h:cN m=true)(hs:∀ c∈l,c∈m)(hl:l.length≤m.length):cN l=true:=by
 rw [xS] at h ⊢;exact ⟨by omega,fun c hc=>h.2 c (hs c hc)⟩
theorem aE7 {s:ByteArray}{ab:List ByteArray}(h:cN (tB s)=true){p:bX}(hp:p∈bL s ab)(h0:¬ p.2>0):cN (tB p.1)=true:=by
 have hj:=aSY s ab;have ht:mO ab p=p.1:=by unfold mO;rw [if_neg h0]
 refine ahV h (fun c hc=>?_) ?_
 ·rw [←hj];unfold jO;exact List.mem_flatMap.2 ⟨p,hp,by rw [ht];exact hc⟩
 rw [←hj];unfold jO;obtain ⟨a,b,e⟩:=List.append_of_mem hp;rw [e,List.flatMap_append,List.flatMap_cons,List.length_append,List.length_append,ht];omega
theorem aS0 (l:List bX):∀ k,k≤l.length→gJ l k=(l.take k).flatMap iM
 | 0,_=>by simp [gJ]
 | k+1,hk=>by
  rw [aKN,aS0 l k (by omega),List.take_succ_eq_append_getElem (by omega),List.flatMap_append];simp [List.getD,List.getElem?_eq_getElem (show k<l.length by omega)]
theorem aE8 (s:ByteArray)(ab:List ByteArray):gT s ab=(bL s ab).flatMap iM:=by
 unfold gT;rw [aS0 _ _ (Nat.le_refl _),List.take_length]
theorem aKR {p:bX}(h0:¬ p.2>0)(h:cN (tB p.1)=true):iM p=bC (tB p.1):=by
 unfold iM jF;rw [if_neg h0,if_pos h]
theorem aS1:∀ l:List Int,((bC l).length:Int)=rK l
 | []=>rfl
 | c::l=>by
  have h:=aS1 l;show ((cS c++bC l).length:Int)=_;rw [List.length_append];unfold rK at h ⊢;rw [List.map_cons,List.sum_cons,←h];omega
theorem ahW {s:ByteArray}{ab:List ByteArray}(h:cN (tB s)=true){p:bX}(hp:p∈bL s ab):((iM p).length:Int)=qE p:=by
 by_cases h0:p.2>0
 ·unfold iM qE;rw [if_pos h0,if_pos h0];rfl
 rw [aKR h0 (aE7 h hp h0),aS1];unfold qE;rw [if_neg h0,ad1]
theorem ahX {l:List bX}(h:∀ p∈l,((iM p).length:Int)=qE p):((l.flatMap iM).length:Int)=mD l:=by
 induction l with
 | nil=>rfl
 | cons p l ih=>
  have h1:=h p (List.mem_cons_self ..);have h2:=ih fun q hq=>h q (List.mem_cons_of_mem _ hq);rw [List.flatMap_cons,List.length_append];unfold mD at h2 ⊢;rw [List.map_cons,List.sum_cons,←h1,←h2];omega
theorem acH {s:ByteArray}(ab:List ByteArray)(h:cN (tB s)=true):((gT s ab).length:Int)=sO (bL s ab) (bL s ab).length∧((gT s ab).length:Int)≤fB s:=by
 have e:((gT s ab).length:Int)=sO (bL s ab) (bL s ab).length:=by
  rw [aE8,ahX fun p hp=>ahW h hp,aOL]
 refine ⟨e,?_⟩;rw [e,aY9];exact aZB s ab
theorem ahY (c:Int)(h:eZ c=true):∀ x∈cS c,0≤x∧x<31:=by
 have hs:∀ k,oC c=some k→k<31:=fun k hk=>by
  unfold oC at hk;have:=List.findIdx?_eq_some_iff_getElem.1 hk;obtain ⟨h1,_⟩:=this;exact h1
 have hc:10≤c∧c≤126:=by
  unfold eZ at h;simp only [Bool.or_eq_true,Bool.and_eq_true,decide_eq_true_eq,beq_iff_eq] at h;omega
 intro x hx;unfold cS at hx;split at hx
 ·simp at hx;omega
 split at hx
 ·simp at hx;omega
 split at hx
 ·simp at hx;omega
 split at hx
 ·rename_i k hk;have:=hs k hk;simp at hx;omega
 split at hx
 ·simp at hx
 simp at hx;omega
theorem ahZ {l:List Int}(h:∀ c∈l,eZ c=true):∀ x∈bC l,0≤x∧x<31:=fun x hx=>by
 obtain ⟨c,hc,hm⟩:=List.mem_flatMap.1 hx;exact ahY c (h c hc) x hm
theorem ah0 {s:ByteArray}{ab:List ByteArray}(h:cN (tB s)=true)(ha:ab.length≤31):∀ x∈gT s ab,0≤x∧x<31:=by
 rw [aE8];intro x hx;obtain ⟨p,hp,hm⟩:=List.mem_flatMap.1 hx;have hg:=aSZ s ab p hp;unfold pH at hg;simp only [Bool.or_eq_false_iff,decide_eq_false_iff_not] at hg;by_cases h0:p.2>0
 ·unfold iM at hm;rw [if_pos h0] at hm;simp at hm;omega
 rw [aKR h0 (aE7 h hp h0)] at hm;exact ahZ (pA (aE7 h hp h0)) x hm
theorem aS2 (c:Int)(h:eZ c=true):(cS c).getD 0 0≠30∧eS ((cS c).getD 0 0)=(cS c).length:=by
 have hc:10≤c∧c≤126:=by
  unfold eZ at h;simp only [Bool.or_eq_true,Bool.and_eq_true,decide_eq_true_eq,beq_iff_eq] at h;omega
 unfold cS;split
 ·decide
 split
 ·rename_i h1;refine ⟨by simp;omega,?_⟩;unfold eS;simp;rw [if_neg (by omega),if_neg (by omega)]
 split
 ·exact ⟨by simp,rfl⟩
 split
 ·exact ⟨by simp,rfl⟩
 split
 ·rename_i hn h1;have hc2:c=10:=by unfold eZ at h;simp only [decide_eq_true_eq] at h;omega
  subst hc2;exact absurd hn (by decide)
 exact ⟨by simp,rfl⟩
theorem aS3 (rest:List Int):∀ (t:List Int) (pre:List Int) (f:Nat),(∀ c∈t,eZ c=true)→(bC t).length<f→tY (pre++(bC t++rest)) f pre.length=tY (pre++(bC t++rest)) (f-t.length) (pre.length+(bC t).length)
 | [],pre,f,_,_=>by simp [bC]
 | c::t,pre,f,h,hf=>by
  have hc:=h c (List.mem_cons_self ..);obtain ⟨h1,h2⟩:=aS2 c hc;have h3:=rF c hc;have e:bC (c::t)=cS c++bC t:=rfl;rw [e,List.length_append] at hf;obtain ⟨f,rfl⟩:∃ g,f=g+1:=⟨f-1,by omega⟩
  have hg:(pre++(bC (c::t)++rest)).getD pre.length 0=(cS c).getD 0 0:=by
   rw [e,List.getD,List.getD,List.getElem?_append_right (Nat.le_refl _),Nat.sub_self,List.append_assoc,List.getElem?_append_left h3]
  have hn:pre.length<(pre++(bC (c::t)++rest)).length:=by rw [e];simp only [List.length_append];omega
  have ih:=aS3 rest t (pre++cS c) f (fun x hx=>h x (List.mem_cons_of_mem _ hx)) (by omega);have e2:pre++cS c++(bC t++rest)=pre++(bC (c::t)++rest):=by rw [e];simp only [List.append_assoc]
  rw [e2,List.length_append] at ih;show (if _ then _ else _)=_;rw [if_pos ⟨hn,by rw [hg];exact h1⟩,hg,h2,ih,e,List.length_append,List.length_cons,Nat.add_sub_add_right];congr 1;omega
theorem aKS {t:List Int}(h:∀ c∈t,eZ c=true):t.length≤(bC t).length:=aKE t h
theorem ah1 {t rest:List Int}(h:∀ c∈t,eZ c=true)(hr:rest.length=0∨rest.getD 0 0=30):nF (bC t++rest)=(bC t).length:=by
 have h1:=aS3 rest t [] ((bC t++rest).length+1) h (by rw [List.length_append];omega);simp only [List.nil_append,List.length_nil,Nat.zero_add] at h1;refine aHG h1 ?_;rintro ⟨h2,h3⟩;rcases hr with hr|hr
 ·rw [List.length_append] at h2;omega
 refine h3 ?_;rw [List.getD,List.getElem?_append_right (Nat.le_refl _),Nat.sub_self];exact hr
theorem aS4 {ab:List ByteArray}{g:Nat}{t rest:List Int}{out:ByteArray}(h:cN t=true)(h0:t≠[])(hr:rest.length=0∨rest.getD 0 0=30):saidF ab (g+1) (bC t++rest) out=saidF ab g rest (out++strOfNums t):=by
 have hok:=pA h;have hpos:0<(bC t).length:=by
  have:=aKS hok;have:=List.length_pos_iff.2 h0;omega
 obtain ⟨c,t',rfl⟩:∃ c t',t=c::t':=by
  cases t with
  | nil=>exact absurd rfl h0
  | cons c t'=>exact ⟨c,t',rfl⟩
 have hh:=aS2 c (hok c (List.mem_cons_self ..));have hg:(bC (c::t')++rest).getD 0 0≠30:=by
  have h3:=rF c (hok c (List.mem_cons_self ..));rw [show bC (c::t')=cS c++bC t' from rfl,List.append_assoc,List.getD,List.getElem?_append_left h3];exact hh.1
 have hn:=ah1 hok hr;rw [tZ (by rw [List.length_append];omega),if_neg hg,hn,if_neg (by rw [List.length_append];omega),List.take_left,List.drop_left,ad0 h rfl,if_neg (fun hc=>hc rfl)]
theorem aKT {ab:List ByteArray}(hab:ab.length≤32):∀ (l:List bX) (t:List Int) (g:Nat) (out:ByteArray),(∀ p∈l,pH ab p=false)→(∀ p∈l,¬ p.2>0→cN (tB p.1)=true)→t.length+(l.flatMap fun p=>if p.2>0 then [] else tB p.1).length≤1024→(∀ c∈t,eZ c=true)→(bC t++l.flatMap iM).length<g→saidF ab g (bC t++l.flatMap iM) out=(out++strOfNums t++strOfNums (jO ab l),0)
 | [],t,g,out,_,_,hl,ht,hg=>by
  simp only [List.flatMap_nil,List.append_nil,List.length_nil,Nat.add_zero] at hl hg ⊢;rw [show jO ab []=[] from rfl,vU];by_cases h0:t=[]
  ·subst h0;rw [show bC []=[] from rfl,aC1 (by simp) (by omega),vU]
  obtain ⟨g,rfl⟩:∃ g',g=g'+1:=⟨g-1,by omega⟩
  have:=aS4 (ab:=ab) (g:=g) (t:=t) (rest:=[]) (out:=out) (by rw [xS];exact ⟨hl,ht⟩) h0 (.inl rfl);rw [List.append_nil] at this;have h3:=aKS ht;have h4:=List.length_pos_iff.2 h0;rw [this,aC1 (by simp) (by omega)]
 | p::l,t,g,out,hb,hx,hl,ht,hg=>by
  have hb':∀ q∈l,pH ab q=false:=fun q hq=>hb q (List.mem_cons_of_mem _ hq);have hx':∀ q∈l,¬ q.2>0→cN (tB q.1)=true:=fun q hq=>hx q (List.mem_cons_of_mem _ hq);have hj:jO ab (p::l)=tB (mO ab p)++jO ab l:=rfl;rw [List.flatMap_cons] at hl hg ⊢;by_cases h0:p.2>0
  ·have hpb:=hb p (List.mem_cons_self ..);unfold pH at hpb;simp only [Bool.or_eq_false_iff,decide_eq_false_iff_not] at hpb;have hpc:iM p=[30,p.2-1]:=by unfold iM;rw [if_pos h0]
   have htx:mO ab p=ab.getD (p.2-1).toNat ByteArray.empty:=by unfold mO;rw [if_pos h0]
   rw [if_pos h0,List.nil_append] at hl;rw [hpc] at hg ⊢;have two:∀ (g:Nat) (o:ByteArray),(l.flatMap iM).length+2<g→saidF ab g ([30,p.2-1]++l.flatMap iM) o=(o++strOfNums (jO ab (p::l)),0):=fun g o hg2=>by
    obtain ⟨g,rfl⟩:∃ g',g=g'+1:=⟨g-1,by omega⟩
    have ih:=aKT hab l [] g (o++ab.getD (p.2-1).toNat ByteArray.empty) hb' hx' (by simpa using (by omega:(l.flatMap fun p=>if p.2>0 then [] else tB p.1).length≤1024)) (fun c hc=>by cases hc) (by rw [show bC []=[] from rfl,List.nil_append];omega);rw [show bC []=[] from rfl,List.nil_append,vU] at ih;rw [tZ (by simp),if_pos (by rfl),if_neg (by simp),show ([30,p.2-1]++l.flatMap iM).getD 1 0=p.2-1 from rfl,if_neg (by omega),show ([30,p.2-1]++l.flatMap iM).drop 2=l.flatMap iM from rfl,ih,hj,htx];refine Prod.ext (oF ?_) rfl;simp only [aKU];rw [List.append_assoc];congr 1
    rw [←aKV (ab.getD (p.2-1).toNat ByteArray.empty)];have hbt:dC (jO ab l):=fun c hc=>by
     obtain ⟨q,_,hq⟩:=List.mem_flatMap.1 hc;exact yQ _ c hq
    rw [pJ hbt,aKV,pJ ((yQ _).append hbt)]
   by_cases ht0:t=[]
   ·subst ht0;rw [show bC []=[] from rfl,List.nil_append] at hg ⊢;rw [two g out (by simp only [List.length_append,List.length_cons,List.length_nil] at hg;omega),vU]
   obtain ⟨g,rfl⟩:∃ g',g=g'+1:=⟨g-1,by omega⟩
   have h3:=aKS ht;have h4:=List.length_pos_iff.2 ht0;rw [aS4 (by rw [xS];exact ⟨by omega,ht⟩) ht0 (.inr rfl),two g _ (by simp only [List.length_append,List.length_cons,List.length_nil] at hg;omega)]
  have hpt:=hx p (List.mem_cons_self ..) h0;have htx:mO ab p=p.1:=by unfold mO;rw [if_neg h0]
  rw [if_neg h0,List.length_append] at hl;rw [aKR h0 hpt] at hg ⊢;rw [←List.append_assoc,←ahU] at hg ⊢;have hok:∀ c∈t++tB p.1,eZ c=true:=fun c hc=>by
   rcases List.mem_append.1 hc with h|h
   ·exact ht c h
   exact pA hpt c h
  rw [aKT hab l (t++tB p.1) g out hb' hx' (by rw [List.length_append];omega) hok hg,hj,htx];refine Prod.ext (oF ?_) rfl;have hbt:dC (jO ab l):=fun c hc=>by
   obtain ⟨q,_,hq⟩:=List.mem_flatMap.1 hc;exact yQ _ c hq
  have htb:dC t:=ag8 ht;simp only [aKU];rw [pJ (htb.append (yQ _)),pJ hbt,pJ htb,pJ ((yQ _).append hbt)];simp only [List.append_assoc]
theorem ah2 {ab:List ByteArray}(l:List bX):(l.flatMap fun p=>if p.2>0 then [] else tB p.1).length≤(jO ab l).length:=by
 induction l with
 | nil=>exact Nat.le_refl _
 | cons p l ih=>
  rw [List.flatMap_cons,show jO ab (p::l)=tB (mO ab p)++jO ab l from rfl,List.length_append,List.length_append];by_cases h0:p.2>0
  ·rw [if_pos h0,List.length_nil];omega
  rw [if_neg h0,show mO ab p=p.1 from by unfold mO;rw [if_neg h0]];omega
theorem ah3 {s:ByteArray}{ab:List ByteArray}(h:cN (tB s)=true)(ha:ab.length≤31):unpackedP (gT s ab) ab=(s,0):=by
 have hj:=aSY s ab;have hfl:=ah2 (ab:=ab) (bL s ab);rw [hj] at hfl;have hlen:=((xS _).1 h).1;have:=aKT (ab:=ab) (by omega) (bL s ab) [] ((gT s ab).length+1) ByteArray.empty (aSZ s ab) (fun p hp h0=>aE7 h hp h0) (by simp only [List.length_nil];omega) (fun c hc=>by cases hc) (by rw [show bC []=[] from rfl,List.nil_append,←aE8];omega);rw [show bC []=[] from rfl,List.nil_append,←aE8,vU,hj,aKV] at this;have he:ByteArray.empty++s=s:=oF (by rw [aKU];rfl);rw [he] at this;rw [aZE];unfold saidP tW;rw [this,if_neg (fun hc=>hc rfl),if_pos h]
end Go.Proofs.YtgajclaoaphgoaaGreatDoor
