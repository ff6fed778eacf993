/- Parts of the proof of a law of this seat: rules and contracts; no conditions. -/
import Derived.Test.YtnklgkjfoggpbaaGreatDoorWb
import Derived.Test.YtnklgkjfoggpbaaGreatDoorFm
import Derived.Test.YtnklgkjfoggpbaaGreatDoorFr
import Derived.Test.YtnklgkjfoggpbaaGreatDoorPj
import Derived.Test.YtnklgkjfoggpbaaGreatDoorLt
import Derived.Test.YtnklgkjfoggpbaaGreatDoorMk
import Derived.Test.YtnklgkjfoggpbaaGreatDoorFb
import Derived.Test.YtnklgkjfoggpbaaGreatDoorLa
import Derived.Test.YtnklgkjfoggpbaaGreatDoorProg
import Derived.KernelRfl
set_option maxHeartbeats 6400000
set_option maxRecDepth 100000
set_option linter.unusedVariables false
set_option linter.unusedSimpArgs false
namespace Go.Proofs.YtnklgkjfoggpbaaGreatDoor
open Go.RowKit
def xU (l:List ByteArray)(m:Nat):Prop:=l.length≤m∧∀ w∈l,w.size≤9
def xV (y:WayP):Prop:=(0≤y.dir∧y.dir≤12)∧(0≤y.goal∧y.goal≤128)∧(-1≤y.cond∧y.cond≤2048)∧(-1≤y.els∧y.els≤4096)
structure thG (x:ThingP):Prop where
 title:0≤x.title∧x.title≤4096
 text:-1≤x.text∧x.text≤4096
 parent:0≤x.parent∧x.parent≤128
 flags:0≤x.flags∧x.flags≤65535
 props:x.props.length≤16∧∀ z∈x.props,-32768≤z∧z≤32767
 words:xU x.words 8
 adjs:xU x.adjs 8
 ways:x.ways.length≤12∧∀ y∈x.ways,xV y
def aSX (x:SlotP):Prop:=(0≤x.kind∧x.kind≤5)∧xU x.words 4
def aKO (l:List SlotP):Prop:=l.length≤8∧∀ x∈l,aSX x
def aDW (v:VerbP):Prop:=v.lines.length≤8∧∀ l∈v.lines,aKO l
def aDX (d:DeedP):Prop:=(0≤d.verb∧d.verb≤64)∧(0≤d.phase∧d.phase≤3)∧(-1≤d.noun∧d.noun≤128)∧(-1≤d.second∧d.second≤128)∧(-1≤d.cond∧d.cond≤2048)∧(0≤d.body∧d.body≤2048)
def aE2 (l:List Int)(n:Nat)(m:Int):Prop:=l.length≤n∧∀ z∈l,0≤z∧z≤m
structure tabG (t:TabP):Prop where
 title:0≤t.title∧t.title≤4096
 by_:0≤t.by_∧t.by_≤4096
 release:0≤t.release∧t.release≤32767
 max:0≤t.max∧t.max≤32767
 flags:4≤t.flags∧t.flags≤16
 texts:t.texts.length≤4096∧t.texts.all qN=true
 props:t.props.length≤16∧∀ z∈t.props,-32768≤z∧z≤32767
 globals:t.globals.length≤64∧∀ z∈t.globals,-32768≤z∧z≤32767
 things:(3≤t.things.length∧t.things.length≤128)∧∀ x∈t.things,thG x
 acts:t.acts.length≤64∧∀ v∈t.acts,aDW v
 deeds:t.deeds.length≤512∧∀ d∈t.deeds,aDX d
 funcs:aE2 t.funcs 64 2048
 daemons:aE2 t.daemons 16 2048
 params:aE2 t.params 2048 8
 locals:aE2 t.locals 2048 24
 same:t.params.length=t.locals.length
theorem aKP {l:List ByteArray}{m:Nat}(h:wV l (m:Int)=true):xU l m:=by
 unfold wV at h
 simp only [Bool.and_eq_true,decide_eq_true_eq,List.all_eq_true] at h
 refine ⟨by omega,fun w hw=>?_⟩
 have h1:=h.2 w hw
 unfold aE3 yN at h1
 simp only [Bool.and_eq_true,decide_eq_true_eq] at h1
 omega
theorem aKQ {l:List Int}(h:l.all pW=true):∀ z∈l,-32768≤z∧z≤32767:=fun z hz=>gH.1 ((List.all_eq_true.1 h) z hz)
theorem aE4 {t:TabP}(hp:t.params.length≤2048){n:Int}(h:tG t n=true):0≤n∧n≤2048:=by
 unfold tG at h
 rw [Bool.and_eq_true] at h
 have:=gH.1 h.1
 omega
theorem uK {α:Type}{d:α}{l:List α}{x:α}(h:x∈l):∃ j,j<l.length∧l.getD j d=x:=by
 obtain ⟨j,hj,rfl⟩:=List.mem_iff_getElem.1 h
 exact ⟨j,hj,by rw [List.getD,List.getElem?_eq_getElem hj];rfl⟩
theorem ahP {t:TabP}(hp:t.params.length≤2048)(ht:t.texts.length≤4096)(hg:t.things.length≤128){l:List WayP}(h:yO t l=true):l.length≤12∧∀ y∈l,xV y:=by
 unfold yO at h
 rw [List.all_eq_true] at h
 have hk:∀ k,k<l.length→qS l k<(l.getD k dD).dir∧(l.getD k dD).dir≤12∧aBH t (l.getD k dD).goal=true∧((l.getD k dD).cond=-1∨tG t (l.getD k dD).cond=true)∧((l.getD k dD).els=-1∨wW t (l.getD k dD).els=true):=fun k hk=>by
  have h1:=h k (List.mem_range.2 hk)
  unfold uV at h1
  simp only [Bool.not_eq_true',Bool.or_eq_false_iff,Bool.and_eq_false_iff,decide_eq_false_iff_not,Bool.not_eq_false',bne_eq_false_iff_eq] at h1
  obtain ⟨⟨⟨⟨h2,h3⟩,h4⟩,h5⟩,h6⟩:=h1
  exact ⟨by omega,by omega,h4,h5,h6⟩
 have hd:∀ k,k<l.length→(k:Int)+1≤(l.getD k dD).dir:=fun k=>by
  induction k with
  | zero=>intro h0;have:=(hk 0 h0).1;have e:qS l 0=0:=rfl;omega
  | succ k ih=>intro h0;have:=(hk (k+1) h0).1;have e:qS l (k+1)=(l.getD k dD).dir:=rfl;have:=ih (by omega);omega
 refine ⟨?_,fun y hy=>?_⟩
 ·rcases Nat.eq_zero_or_pos l.length with h0|h0
  ·omega
  ·have h1:=hd (l.length-1) (by omega)
   have h2:=(hk (l.length-1) (by omega)).2.1
   omega
 ·obtain ⟨j,hj,rfl⟩:=uK (d:=dD) hy
  obtain ⟨h1,h2,h3,h4,h5⟩:=hk j hj
  have h6:=hd j hj
  unfold aBH at h3
  rw [Bool.and_eq_true] at h3
  have h7:=gH.1 (show among (l.getD j dD).goal 1 _=true from h3.1)
  refine ⟨⟨by omega,h2⟩,⟨by omega,by omega⟩,?_,?_⟩
  ·rcases h4 with h4|h4
   ·omega
   ·have:=aE4 hp h4;omega
  ·rcases h5 with h5|h5
   ·omega
   ·have:=gH.1 (show among (l.getD j dD).els 0 _=true from h5);omega
theorem ahQ {f:Int}(h:4≤f∧f≤16):IntKind.i64.wrap (1*2^(min f.toNat IntKind.i64.bits))≤65536:=by
 have e:IntKind.i64.bits=64:=rfl
 have h1:(f.toNat=4∨f.toNat=5∨f.toNat=6∨f.toNat=7∨f.toNat=8∨f.toNat=9∨f.toNat=10)∨f.toNat=11∨f.toNat=12∨f.toNat=13∨f.toNat=14∨f.toNat=15∨f.toNat=16:=by omega
 rcases h1 with (h1|h1|h1|h1|h1|h1|h1)|h1|h1|h1|h1|h1|h1<;>rw [h1]<;>decide
theorem ahR {t:TabP}(hp:t.params.length≤2048)(ht:t.texts.length≤4096)(hg:t.things.length≤128)(hf:4≤t.flags∧t.flags≤16){x:ThingP}(hpl:x.props.length≤16)(h:sA t x=true):thG x:=by
 unfold sA at h
 rw [Bool.and_eq_true] at h
 obtain ⟨h1,h2⟩:=h
 unfold aE5 at h1
 simp only [Bool.not_eq_true',Bool.or_eq_false_iff,Bool.and_eq_false_iff,decide_eq_false_iff_not,Bool.not_eq_false',bne_eq_false_iff_eq] at h1
 obtain ⟨⟨⟨⟨⟨⟨k1,k2⟩,k3⟩,k4⟩,k5⟩,k6⟩,k7⟩:=h1
 have j1:=gH.1 (show among x.title 0 _=true from k1)
 have j4:=ahQ hf
 have j2:-1≤x.text∧x.text≤4096:=by
  rcases k2 with k2|k2
  ·omega
  ·have:=gH.1 (show among x.text 0 _=true from k2);omega
 have j3:(0≤x.parent∧x.parent≤128)∧x.ways.length≤12∧∀ y∈x.ways,xV y:=by
  cases hr:x.room with
  | true=>
   rw [hr,cond_true,Bool.and_eq_true,beq_iff_eq] at h2
   exact ⟨by omega,ahP hp ht hg h2.2⟩
  | false=>
   rw [hr,cond_false,Bool.and_eq_true,beq_iff_eq,Bool.or_eq_true,beq_iff_eq] at h2
   have h3:x.ways=[]:=List.eq_nil_of_length_eq_zero (by omega)
   refine ⟨?_,by rw [h3];exact ⟨Nat.zero_le _,fun y hy=>by cases hy⟩⟩
   rcases h2.2 with h4|h4
   ·omega
   ·have:=gH.1 (show among x.parent 1 _=true from h4);omega
 exact ⟨⟨by omega,by omega⟩,j2,j3.1,⟨by omega,by omega⟩,⟨hpl,aKQ k5⟩,aKP k6,aKP k7,j3.2⟩
theorem ahS {x:ThingP}(hpl:x.props.length≤16)(hw:x.words.length≤1000000000000000∧x.adjs.length≤1000000000000000∧x.ways.length≤1000000000000000)(h:aE6 x=true):thG x:=by
 unfold aE6 at h
 simp only [Bool.and_eq_true,beq_iff_eq,Bool.not_eq_true',List.all_eq_true] at h
 obtain ⟨⟨⟨⟨⟨⟨h1,h2⟩,h3⟩,h4⟩,h5⟩,h6⟩,h7⟩:=h
 unfold ThingP.sum at h7
 have e:IntKind.i64.wrap ((x.words.length:Int)+x.adjs.length)=(x.words.length:Int)+x.adjs.length:=i64_in _ (by omega) (by omega)
 rw [e,i64_in _ (by omega) (by omega)] at h7
 have e1:x.words=[]:=List.eq_nil_of_length_eq_zero (by omega)
 have e2:x.adjs=[]:=List.eq_nil_of_length_eq_zero (by omega)
 have e3:x.ways=[]:=List.eq_nil_of_length_eq_zero (by omega)
 refine ⟨by omega,by omega,by omega,by omega,⟨hpl,fun z hz=>by have:=h6 z hz;omega⟩,?_,?_,?_⟩
 ·rw [e1];exact ⟨Nat.zero_le _,fun w hw=>by cases hw⟩
 ·rw [e2];exact ⟨Nat.zero_le _,fun w hw=>by cases hw⟩
 ·rw [e3];exact ⟨Nat.zero_le _,fun w hw=>by cases hw⟩
theorem ahT {l:List SlotP}(h:pP l=true):aKO l:=by
 unfold pP at h
 simp only [Bool.and_eq_true,List.all_eq_true,decide_eq_true_eq] at h
 obtain ⟨h1,⟨⟨h2,_⟩,_⟩,_⟩:=h
 have h3:=gH.1 h2
 refine ⟨by omega,fun x hx=>?_⟩
 obtain ⟨j,hj,rfl⟩:=uK (d:=cH) hx
 have h4:=h1 j (List.mem_range.2 hj)
 unfold fT at h4
 rw [Bool.not_eq_true'] at h4
 cases hk:(l.getD j cH).kind==1 with
 | true=>
  rw [hk,cond_true,Bool.or_eq_false_iff] at h4
  have h5:(l.getD j cH).kind=1:=by simpa using hk
  exact ⟨by omega,aKP (by simpa using h4.2)⟩
 | false=>
  rw [hk,cond_false,Bool.or_eq_false_iff,Bool.or_eq_false_iff] at h4
  have h5:=gH.1 (show among (l.getD j cH).kind 2 5=true by simpa using h4.1)
  have h6:¬ ((l.getD j cH).words.length:Int)>0:=by simpa using h4.2.1
  have e:(l.getD j cH).words=[]:=List.eq_nil_of_length_eq_zero (by omega)
  exact ⟨by omega,by rw [e];exact ⟨Nat.zero_le _,fun w hw=>by cases hw⟩⟩
theorem aAO {t:TabP}(h0:(t.things.getD 0 cY).words.length≤1000000000000000∧(t.things.getD 0 cY).adjs.length≤1000000000000000∧(t.things.getD 0 cY).ways.length≤1000000000000000)(h:iL t=true):tabG t:=by
 unfold iL at h
 simp only [Bool.and_eq_true,List.all_eq_true] at h
 obtain ⟨h1,⟨⟨h2,h3⟩,h4⟩,h5⟩:=h
 unfold aD1 at h1
 simp only [Bool.not_eq_true',Bool.or_eq_false_iff,Bool.not_eq_false',decide_eq_false_iff_not] at h1
 obtain ⟨⟨⟨⟨⟨⟨k1,k2⟩,k3⟩,k4⟩,k5⟩,k6⟩,k7⟩:=h1
 unfold aAM at k1
 simp only [Bool.and_eq_true,decide_eq_true_eq] at k1
 obtain ⟨⟨⟨⟨⟨⟨⟨⟨⟨⟨a1,a2⟩,a3⟩,a4⟩,a5⟩,a6⟩,a7⟩,a8⟩,a9⟩,a10⟩,a11⟩:=k1
 have b3:=gH.1 (show among t.title 0 _=true from a3)
 have b4:=gH.1 (show among t.by_ 0 _=true from a4)
 have b5:=gH.1 a5
 have b6:=gH.1 a6
 have b7:=gH.1 a7
 unfold yP aBI at k2
 simp only [Bool.and_eq_true,Bool.not_eq_true',Bool.or_eq_false_iff,bne_eq_false_iff_eq,decide_eq_false_iff_not,List.all_eq_true] at k2
 obtain ⟨⟨c1,c2⟩,c3⟩:=k2
 have c1:t.params.length=t.locals.length:=by omega
 have c4:∀ k,k<t.params.length→(0≤t.params.getD k 0∧t.params.getD k 0≤8)∧(t.params.getD k 0≤t.locals.getD k 0∧t.locals.getD k 0≤24):=fun k hk=>by
  have:=c3 k (List.mem_range.2 hk)
  unfold uW at this
  simp only [Bool.or_eq_false_iff,Bool.not_eq_false'] at this
  exact ⟨gH.1 this.1,gH.1 this.2⟩
 unfold wX aBJ at k3
 simp only [Bool.and_eq_true,Bool.not_eq_true',Bool.or_eq_false_iff,Bool.not_eq_false',List.all_eq_true] at k3
 obtain ⟨⟨⟨⟨d1,d2⟩,d3⟩,_⟩,_⟩:=k3
 have d4:=gH.1 d1
 have hp:t.params.length≤2048:=by omega
 have ht:t.texts.length≤4096:=by omega
 have hg:t.things.length≤128:=by omega
 have hn:∀ n,aBK t n=true→-1≤n∧n≤128:=fun n hn=>by
  unfold aBK at hn
  rw [Bool.or_eq_true,beq_iff_eq] at hn
  rcases hn with hn|hn
  ·omega
  ·have:=gH.1 (show among n 1 _=true from hn);omega
 refine ⟨by omega,by omega,b5,b6,b7,⟨ht,a2⟩,⟨by omega,aKQ a10⟩,⟨by omega,aKQ a11⟩,⟨by omega,fun x hx=>?_⟩,⟨by omega,fun v hv=>?_⟩,⟨by omega,fun d hd=>?_⟩,⟨by omega,fun z hz=>?_⟩,⟨by omega,fun z hz=>?_⟩,⟨hp,fun z hz=>?_⟩,⟨by omega,fun z hz=>?_⟩,c1⟩
 ·obtain ⟨j,hj,rfl⟩:=uK (d:=cY) hx
  have e1:=d3 j (List.mem_range.2 hj)
  unfold sB at e1
  simp only [Bool.or_eq_false_iff,bne_eq_false_iff_eq,Bool.and_eq_false_iff,decide_eq_false_iff_not,Bool.not_eq_false'] at e1
  have hpl:(t.things.getD j cY).props.length≤16:=by omega
  rcases Nat.eq_zero_or_pos j with h6|h6
  ·subst h6;exact ahS hpl h0 d2
  ·rcases e1.2 with e2|e2
   ·omega
   ·exact ahR hp ht hg b7 hpl e2
 ·have e1:=h2 v hv
  unfold aD0 at e1
  rw [Bool.and_eq_true,List.all_eq_true] at e1
  have e2:=gH.1 e1.1
  exact ⟨by omega,fun l hl=>ahT (e1.2 l hl)⟩
 ·have e1:=h3 d hd
  unfold aD2 at e1
  simp only [Bool.and_eq_true,Bool.or_eq_true,beq_iff_eq] at e1
  obtain ⟨⟨⟨⟨⟨f1,f2⟩,f3⟩,f4⟩,f5⟩,f6⟩:=e1
  have g1:=gH.1 f1
  have g2:=gH.1 f2
  have g3:=hn _ f3
  have g4:=hn _ f4
  have g6:=aE4 hp f6
  refine ⟨by omega,by omega,g3,g4,?_,g6⟩
  rcases f5 with f5|f5
  ·omega
  ·have:=aE4 hp f5;omega
 ·have:=gH.1 (h4 z hz);omega
 ·exact aE4 hp (h5 z hz)
 ·obtain ⟨j,hj,rfl⟩:=uK (d:=(0:Int)) hz
  exact (c4 j hj).1
 ·obtain ⟨j,hj,rfl⟩:=uK (d:=(0:Int)) hz
  have:=c4 j (by omega);omega
end Go.Proofs.YtnklgkjfoggpbaaGreatDoor
namespace Go.Proofs.YtnklgkjfoggpbaaGreatDoor
open Go.RowKit
def iA (l:List Int):Prop:=∀ x∈l,0≤x∧x<256
theorem fC {a b:List Int}(ha:iA a)(hb:iA b):iA (a++b):=fun x hx=>by
 rcases List.mem_append.1 hx with hx|hx
 ·exact ha x hx
 ·exact hb x hx
theorem aDS {α:Type}{e:α→List Int}{l:List α}(h:∀ x∈l,iA (e x)):iA (l.flatMap e):=fun x hx=>by
 obtain ⟨y,hy,hx⟩:=List.mem_flatMap.1 hx
 exact h y hy x hx
theorem acK (n:Nat):iA (kC n):=by
 induction n using Nat.strongRecOn with
 | ind n ih=>
  by_cases h:n<128
  ·rw [aAH h];intro x hx;rw [List.mem_singleton] at hx;omega
  ·rw [aDT h]
   intro x hx
   rcases List.mem_cons.1 hx with rfl|hx
   ·omega
   ·exact ih (n/128) (by omega) x hx
theorem lM (n:Int):iA (aC n):=acK _
theorem aAI (n:Int):iA (cQ n):=fun x hx=>by unfold cQ at hx;rw [List.mem_singleton] at hx;omega
theorem aIN (s:ByteArray):iA (jZ s):=fun x hx=>by
 unfold jZ at hx
 obtain ⟨b,_,rfl⟩:=List.mem_map.1 hx
 have:=b.toNat_lt
 omega
theorem aIO (s:ByteArray):iA (aY s):=fC (lM _) (aIN s)
theorem acL (n:Int):iA (kD n):=fun x hx=>by
 unfold kD at hx
 simp only [List.mem_cons,List.not_mem_nil,or_false] at hx
 omega
theorem aIP (l:List Int):iA (cZ l):=fC (lM _) (aDS fun x _=>acL x)
theorem uI {α:Type}{e:α→List Int}(l:List α)(h:∀ x∈l,iA (e x)):iA (aJ e l):=fC (lM _) (aDS h)
theorem aP9 (b:Bool):iA (gQ b):=aAI _
theorem aDU (l:List ByteArray):iA (aJ aY l):=uI l fun x _=>aIO x
theorem aQA (l:List Int):iA (aJ aC l):=uI l fun x _=>lM x
theorem acM (y:WayP):iA (gR y):=fC (fC (fC (aAI _) (lM _)) (lM _)) (lM _)
theorem acN (x:ThingP):iA (fH x):=fC (fC (fC (fC (fC (fC (fC (fC (lM _) (lM _)) (lM _)) (lM _)) (aP9 _)) (aIP _)) (aDU _)) (aDU _)) (uI _ fun y _=>acM y)
theorem acO (v:VerbP):iA (fS v):=fC (aP9 _) (uI _ fun l _=>uI _ fun x _=>fC (aAI _) (aDU _))
theorem acP (d:DeedP):iA (gG d):=fC (fC (fC (fC (fC (lM _) (aAI _)) (lM _)) (lM _)) (lM _)) (lM _)
theorem lN {n:Int}(h:n≤1000000000000000):(aC n).length≤10:=aDV n.toNat 9 (by omega)
theorem xT {α:Type}{e:α→List Int}{c:Nat}:∀ {l:List α},(∀ x∈l,(e x).length≤c)→(l.flatMap e).length≤l.length*c
 | [],_=>by simp
 | x::l,h=>by
  have h1:=h x (by simp)
  have h2:=xT (l:=l) fun y hy=>h y (by simp [hy])
  rw [List.flatMap_cons,List.length_append,List.length_cons,Nat.add_mul]
  omega
theorem nN {α:Type}{e:α→List Int}{l:List α}{n:Nat}(c:Nat)(hl:l.length≤n)(hn:n≤1000000000)(h:∀ x∈l,(e x).length≤c):(aJ e l).length≤10+n*c:=by
 unfold aJ
 rw [List.length_append]
 have h1:=lN (n:=(l.length:Int)) (by omega)
 have h2:=xT h
 have h3:=Nat.mul_le_mul_right c hl
 omega
theorem wB {s:ByteArray}{c:Nat}(h:s.size≤c)(hc:c≤1000000000):(aY s).length≤10+c:=by
 have h1:=lN (n:=(s.size:Int)) (by omega)
 have h2:(jZ s).length=s.size:=by unfold jZ;rw [List.length_map,Array.length_toList];rfl
 unfold aY
 rw [List.length_append]
 omega
theorem aAJ {l:List Int}{n:Nat}(h:l.length≤n)(hn:n≤1000000000):(cZ l).length≤10+n*2:=nN (e:=kD) 2 h hn fun x _=>by simp [kD]
theorem aIQ {l:List ByteArray}{m:Nat}(hm:m≤1000)(h:xU l m):(aJ aY l).length≤10+m*19:=nN 19 h.1 (by omega) fun w hw=>wB (h.2 w hw) (by omega)
theorem acQ {y:WayP}(h:xV y):(gR y).length≤31:=by
 obtain ⟨h1,h2,h3,h4⟩:=h
 have a:=lN (n:=y.goal) (by omega)
 have b:=lN (n:=y.cond+1) (by omega)
 have c:=lN (n:=y.els+1) (by omega)
 unfold gR
 simp only [List.length_append,cQ,List.length_cons,List.length_nil]
 omega
theorem aQB {x:ThingP}(h:thG x):(fH x).length≤1000:=by
 have a:=lN (n:=x.title) (by have:=h.title;omega)
 have b:=lN (n:=x.text+1) (by have:=h.text;omega)
 have c:=lN (n:=x.parent) (by have:=h.parent;omega)
 have d:=lN (n:=x.flags) (by have:=h.flags;omega)
 have e:=aAJ h.props.1 (by omega)
 have f:=aIQ (by omega) h.words
 have g:=aIQ (by omega) h.adjs
 have i:=nN (e:=gR) 31 h.ways.1 (by omega) fun y hy=>acQ (h.ways.2 y hy)
 unfold fH
 simp only [List.length_append,gQ,cQ,List.length_cons,List.length_nil]
 omega
theorem aQC {v:VerbP}(h:aDW v):(fS v).length≤6000:=by
 have a:=nN (e:=pK) 710 h.1 (by omega) fun l hl=>by
  have b:=nN (e:=kQ) 87 (h.2 l hl).1 (by omega) fun x hx=>by
   have c:=aIQ (by omega) ((h.2 l hl).2 x hx).2
   unfold kQ
   simp only [List.length_append,cQ,List.length_cons,List.length_nil]
   omega
  unfold pK
  omega
 unfold fS
 simp only [List.length_append,gQ,cQ,List.length_cons,List.length_nil]
 omega
theorem aQD {d:DeedP}(h:aDX d):(gG d).length≤61:=by
 obtain ⟨h1,h2,h3,h4,h5,h6⟩:=h
 have a:=lN (n:=d.verb) (by omega)
 have b:=lN (n:=d.noun+1) (by omega)
 have c:=lN (n:=d.second+1) (by omega)
 have e:=lN (n:=d.cond+1) (by omega)
 have f:=lN (n:=d.body) (by omega)
 unfold gG
 simp only [List.length_append,cQ,List.length_cons,List.length_nil]
 omega
def gU:List Int:=[67,76,69,87]++cQ 1
def fD (s:StoryP):List (List Int):=[s.tab.funcs,s.tab.daemons,s.tab.params,s.tab.locals,s.entry]
def e1 (s:StoryP):List Int:=gU++(cW s).flatMap aC
def e2 (s:StoryP)(p:PoolP):List Int:=e1 s++aJ aY p.abbrevs++aJ aC p.at_++aY (strOfNums p.bytes)
def e3 (s:StoryP)(p:PoolP):List Int:=e2 s p++cZ s.tab.props++cZ s.tab.globals
def e4 (s:StoryP)(p:PoolP):List Int:=e3 s p++aJ fH s.tab.things++aJ fS s.tab.acts++aJ gG s.tab.deeds
def e5 (s:StoryP)(p:PoolP):List Int:=e4 s p++(fD s).flatMap (aJ aC)
def iK (s:StoryP)(p:PoolP):List Int:=e5 s p++aY (strOfNums s.code)
theorem aIR (s:StoryP)(p:PoolP):iA (iK s p):=by
 have h0:iA gU:=fC (fun x hx=>by simp only [List.mem_cons,List.not_mem_nil,or_false] at hx;omega) (aAI 1)
 refine fC (fC (fC (fC (fC (fC (fC (fC (fC (fC (fC h0 (aDS fun x _=>lM x)) (aDU _)) (aQA _)) (aIO _)) (aIP _)) (aIP _)) (uI _ fun x _=>acN x)) (uI _ fun x _=>acO x)) (uI _ fun x _=>acP x)) (aDS fun l _=>aQA l)) (aIO _)
structure poolG (p:PoolP):Prop where
 abb:p.abbrevs.length≤31∧∀ w∈p.abbrevs,w.size≤8
 at_:p.at_.length≤4096∧∀ z∈p.at_,0≤z∧z≤7872512
 bytes:p.bytes.length≤7872512
def aIS (s:StoryP):Prop:=s.entry.length≤2048∧∀ z∈s.entry,0≤z∧z≤10000000
theorem pO {l:List Int}{n:Nat}{m:Int}(h:l.length≤n)(hn:n≤100000)(hm:m≤1000000000)(hz:∀ z∈l,0≤z∧z≤m):(aJ aC l).length≤10+n*10:=nN 10 h (by omega) fun z hz'=>lN (by have:=hz z hz';omega)
theorem aQE {s:StoryP}{p:PoolP}(ht:tabG s.tab)(hp:poolG p)(he:aIS s)(hc:s.code.length≤10000000):(iK s p).length≤20000000:=by
 have a:((cW s).flatMap aC).length≤5*10:=xT (l:=cW s) fun z hz=>by
  refine lN ?_
  unfold cW at hz
  simp only [List.mem_cons,List.not_mem_nil,or_false] at hz
  have:=ht.title;have:=ht.by_;have:=ht.release;have:=ht.max;have:=ht.flags
  omega
 have b:=nN (e:=aY) 18 hp.abb.1 (by omega) fun w hw=>wB (hp.abb.2 w hw) (by omega)
 have c:=pO hp.at_.1 (by omega) (by omega) hp.at_.2
 have d:=wB (s:=strOfNums p.bytes) (c:=7872512) (by rw [strOfNums_size];exact hp.bytes) (by omega)
 have e:=aAJ ht.props.1 (by omega)
 have f:=aAJ ht.globals.1 (by omega)
 have g:=nN (e:=fH) 1000 ht.things.1.2 (by omega) fun x hx=>aQB (ht.things.2 x hx)
 have h:=nN (e:=fS) 6000 ht.acts.1 (by omega) fun x hx=>aQC (ht.acts.2 x hx)
 have i:=nN (e:=gG) 61 ht.deeds.1 (by omega) fun x hx=>aQD (ht.deeds.2 x hx)
 have j:((fD s).flatMap (aJ aC)).length≤5*20490:=xT (l:=fD s) fun l hl=>by
  unfold fD at hl
  simp only [List.mem_cons,List.not_mem_nil,or_false] at hl
  have j1:=pO ht.funcs.1 (by omega) (by omega) ht.funcs.2
  have j2:=pO ht.daemons.1 (by omega) (by omega) ht.daemons.2
  have j3:=pO ht.params.1 (by omega) (by omega) ht.params.2
  have j4:=pO ht.locals.1 (by omega) (by omega) ht.locals.2
  have j5:=pO he.1 (by omega) (by omega) he.2
  rcases hl with rfl|rfl|rfl|rfl|rfl<;>omega
 have k:=wB (s:=strOfNums s.code) (c:=10000000) (by rw [strOfNums_size];exact hc) (by omega)
 unfold iK e5 e4 e3 e2 e1 gU
 simp only [List.length_append,cQ,List.length_cons,List.length_nil]
 omega
theorem acR {y:WayP}(h:xV y):aDY y:=by obtain ⟨h1,h2,h3,h4⟩:=h;unfold aDY;omega
theorem acS {x:ThingP}(h:thG x):aQF x:=by
 have a:=h.title;have b:=h.text;have c:=h.parent;have d:=h.flags;have e:=h.props.1
 exact ⟨by omega,by omega,by omega,by omega,by omega,fun y hy=>acR (h.ways.2 y hy)⟩
theorem acT {d:DeedP}(h:aDX d):aIT d:=by obtain ⟨h1,h2,h3,h4,h5,h6⟩:=h;unfold aIT;omega
theorem acU {s:ByteArray}(h:qN s=true):cN (tB s)=true:=by
 unfold qN at h
 simp only [Bool.and_eq_true,decide_eq_true_eq,List.all_eq_true] at h
 unfold cN
 simp only [Bool.and_eq_true,decide_eq_true_eq,List.all_eq_true]
 refine ⟨by rw [fK];omega,fun c hc=>?_⟩
 have h1:=h.1 c hc
 unfold uJ at h1
 unfold eZ
 simp only [Bool.or_eq_true,Bool.and_eq_true,decide_eq_true_eq,beq_iff_eq] at h1
 exact decide_eq_true h1
theorem aQG:∀ {l:List ByteArray},(∀ s∈l,s.size≤1024)→wt l≤l.length*1025
 | [],_=>Nat.zero_le _
 | s::l,h=>by
  have h1:=h s (by simp)
  have h2:=aQG (l:=l) fun x hx=>h x (by simp [hx])
  simp only [wt,List.length_cons,Nat.add_mul]
  omega
theorem aDZ {t:TabP}(h:tabG t):wt t.texts≤5000000:=by
 have h1:=aQG (l:=t.texts) fun s hs=>by
  have:=(List.all_eq_true.1 h.texts.2) s hs
  unfold qN at this
  simp only [Bool.and_eq_true,decide_eq_true_eq] at this
  omega
 have h2:=Nat.mul_le_mul_right 1025 h.texts.1
 omega
theorem aAK {t:TabP}(h:tabG t):∀ j,j<t.texts.length→cN (tB (t.texts.getD j ByteArray.empty))=true:=fun j hj=>by
 rw [List.getD,List.getElem?_eq_getElem hj]
 exact acU ((List.all_eq_true.1 h.texts.2) _ (List.getElem_mem hj))
theorem aIU {ab l:List ByteArray}:∀ k,(∀ j,j<k→cN (tB (l.getD j ByteArray.empty))=true)→∀ z∈(bT ab l k).1,0≤z∧z≤1922*(k:Int)
 | 0,_,z,hz=>by cases hz
 | k+1,h,z,hz=>by
  have h1:=uH (ab:=ab) (l:=l) k fun j hj=>h j (by omega)
  rcases List.mem_append.1 hz with hz|hz
  ·have:=aIU k (fun j hj=>h j (by omega)) z hz;omega
  ·rw [List.mem_singleton] at hz;omega
theorem aAL {t:TabP}(h:tabG t):(makeP t.texts).2=0∧poolG (makeP t.texts).1:=by
 have hb:=aAK h
 have hl:=h.texts.1
 rw [aAF (by omega) hb]
 obtain ⟨c1,c2⟩:=aDQ (aDZ h)
 have h1:=uH (ab:=chooseP t.texts 31) (l:=t.texts) t.texts.length hb
 refine ⟨rfl,⟨⟨c2,fun w hw=>?_⟩,⟨by show (bT _ _ _).1.length≤_;omega,fun z hz=>?_⟩,by show (bT _ _ _).2.length≤_;omega⟩⟩
 ·obtain ⟨j,hj,rfl⟩:=uK (d:=ByteArray.empty) hw
  exact c1 j
 ·have:=aIU t.texts.length hb z hz;omega
end Go.Proofs.YtnklgkjfoggpbaaGreatDoor
namespace Go.Proofs.YtnklgkjfoggpbaaGreatDoor
open Go.RowKit
structure SOk (s:StoryP):Prop where
 wf:s.tab.wf
 code:s.code.length≤10000000
 by_:dF s.code
 entry:s.entry.length≤1000000000000000
 funcs:s.tab.funcs.length≤140737488355328
 params:s.tab.params.length≤140737488355328
 first:(s.tab.things.getD 0 cY).words.length≤1000000000000000∧(s.tab.things.getD 0 cY).adjs.length≤1000000000000000∧(s.tab.things.getD 0 cY).ways.length≤1000000000000000
noncomputable def writeP (s:StoryP):List Int × Int:=if (gV s).2≠0∨iL s.tab=false then ([],18) else (gY (iK s (makeP s.tab.texts).1),0)
noncomputable def idP (s:StoryP):Nat:=if (writeP s).2≠0 then 0 else nH 0 (dX (writeP s).1)
theorem aQI {s:StoryP}:∀ (f k:Nat),(pT s f k).2=0→∀ j,k≤j→j<k+f→j<s.entry.length→jS s j=0
 | 0,k,_,j,h1,h2,_=>by omega
 | f+1,k,h,j,h1,h2,h3=>by
  unfold pT at h
  split at h
  ·split at h
   ·rename_i h5;exact absurd h h5
   ·rename_i h5
    rcases Nat.lt_or_ge k j with h4|h4
    ·exact aQI f (k+1) h j (by omega) (by omega) h3
    ·have:j=k:=by omega
     subst this
     exact Classical.not_not.1 h5
  ·omega
theorem aQJ {s:StoryP}(h:(gV s).2=0):¬ wC s∧∀ j,j<s.entry.length→jS s j=0:=by
 unfold gV at h
 split at h
 ·cases h
 ·rename_i h1
  exact ⟨h1,fun j hj=>aQI _ 0 h j (Nat.zero_le _) (by omega) hj⟩
theorem aQK {s:StoryP}{j:Nat}(h:jS s j=0):0≤nP s j∧nP s j≤(s.code.length:Int):=by
 unfold jS at h
 split at h
 ·cases h
 ·split at h
  ·cases h
  ·rename_i h1
   unfold fU at h1
   split at h1
   ·exact absurd rfl h1
   ·omega
theorem aD4 {s:StoryP}(hc:s.code.length≤10000000)(ht:tabG s.tab)(h:(gV s).2=0):aIS s:=by
 obtain ⟨h1,h2⟩:=aQJ h
 unfold wC at h1
 have h3:=ht.params.1
 refine ⟨by omega,fun z hz=>?_⟩
 obtain ⟨j,hj,rfl⟩:=uK (d:=(0:Int)) hz
 have:=aQK (h2 j hj)
 unfold nP at this
 omega
theorem uM {l:List Int}(h:iA l):dF l:=mV.2 h
theorem aQL {a b:List Int × Int}(h:a=b):Av.tup [bs a.1,vi a.2]=.tup [bs b.1,vi b.2]:=by rw [h]
theorem ac8 (l:List (List Int))(E:Env)(v:Value)(h:aA E (.sl 1 l.length (gE (l.map aK))) v):aA E (rN l) v:=pI (fun E j hj v hv=>by
 have e:gE (l.map aK) j=aK (l.getD j []):=by
  show (l.map aK).getD j .any=_
  rw [List.getD,List.getElem?_map,List.getD,List.getElem?_eq_getElem hj]
  rfl
 rw [e] at hv
 exact hv) E v h
theorem aIY {P:Program}{f:Nat}{args:List Av}{R:List (Nat × Hs)}{x:Av}{T:TypeId}{a b c:List Int}(h:FC P f args R x [(0,.live T [bs (a++b++c)])]):FC P f args R x [(0,.live T [bs (a++(b++c))])]:=by rw [←List.append_assoc];exact h
theorem aAN (s:StoryP)(h0:SOk s):PC Tryz.prog 15 [cX s] (.tup [bs (writeP s).1,vi (writeP s).2]):=by
 refine FC.body 4 131 Tryz.func15 rfl (by kernel_rfl) ?_
 refine sq ?_
 refine Z1 bx ?_
 refine Z1 aB ?_
 refine Z1 aB ?_
 refine cn ?_
 refine sq ?_
 refine Z1 (qK 0 15) ?_
 refine Z1 lr ?_
 refine Z2 (al 1 [.int .i64 0,.int .i64 0,.int .i64 0,.int .i64 0,.slice none 0 0,.int .i64 0,.slice none 0 0,.slice none 0 0,.slice none 0 0,.slice none 0 0,.slice none 0 0,.slice none 0 0,.slice none 0 0,.slice none 0 0,.slice none 0 0]) ?_
 refine fP rfl rfl (sY (x:=.agg _) (cs':=[vi s.tab.title,vi s.tab.by_,vi s.tab.release,vi s.tab.max,bB s.tab.texts,vi s.tab.flags,aK s.tab.props,aK s.tab.globals,gA s.tab.things,gB s.tab.acts,fY s.tab.deeds,aK s.tab.funcs,aK s.tab.daemons,aK s.tab.params,aK s.tab.locals]) rfl rfl rfl rfl (by kernel_rfl) (by first|decide|exact Nat.le_of_ble_eq_true rfl|simp) (by first|decide|exact Nat.le_of_ble_eq_true rfl|simp) rfl) ⟨rfl,trivial⟩ ?_
 refine cn ?_
 refine aD ?_
 refine sq ?_
 refine Z1 lr ?_
 refine Z1 (ca (aIZ s h0.code h0.by_ h0.entry h0.funcs h0.params)) ?_
 refine Z1 mo ?_
 refine Z1 ex ?_
 refine Z1 ex ?_
 refine Z1 aB ?_
 refine Z1 aB ?_
 refine cn ?_
 refine sq ?_
 refine Z1 mo ?_
 refine Z1 bz ?_
 refine Z1 mo ?_
 refine aW (R:=[(_,.live _ _)]) rfl rfl rfl eV (fun hC=>mA (k:=15) (ds:=[_,_,_,_,_,_,_,_,_,_,_,_,_,_,_]) rfl rfl (by kernel_rfl) (by kernel_rfl) rfl rfl (by decide)) (fun hC=>⟨(by first|rfl|exact hC|(simp only [Bool.and_eq_true] at hC;first|exact hC.1|exact hC.1.1|exact hC.2)|simp_all),trivial⟩) ⟨rfl,trivial⟩ ?_
 refine Z4 (fun hC=>ca (aIX s.tab h0.wf)) ?_
 refine Z4 (fun hC=>nt) ?_
 refine Z1 cC ?_
 refine cn ?_
 refine cd (fun hb=>?_) fun hb=>?_
 ·have hbd:(gV s).2≠0∨iL s.tab=false:=by simpa only [Bool.or_eq_true,bne_iff_ne,ne_eq,Bool.not_eq_true'] using hb
  have hw:writeP s=([],18):=if_pos hbd
  refine sq ?_
  refine Z1 aB ?_
  refine Z1 aB ?_
  refine cn ?_
  refine aP ?_
  exact ⟨.inl rfl,by rw [aQL hw];exact aF.two rfl (aT.to (aT.tmp rfl) aI0) (aT.tmp rfl),trivial⟩
 ·have hok:¬ ((gV s).2≠0∨iL s.tab=false):=by
   rw [Bool.or_eq_false_iff] at hb
   rintro (h|h)
   ·exact h (by simpa using hb.1)
   ·rw [h] at hb;simp at hb
  have hw:writeP s=(gY (iK s (makeP s.tab.texts).1),0):=if_neg hok
  have hv:(gV s).2=0:=Classical.not_not.1 fun h=>hok (.inl h)
  have hf:iL s.tab=true:=by cases h:iL s.tab with|true=>rfl|false=>exact absurd (.inr h) hok
  have hG:=aAO h0.first hf
  have hmk:=aAL hG
  have hpg:=hmk.2
  have hen:=aD4 h0.code hG hv
  have hbl:=aQE hG hpg hen h0.code
  have q5:(iK s (makeP s.tab.texts).1).length=(e5 s (makeP s.tab.texts).1).length+(aY (strOfNums s.code)).length:=by unfold iK;rw [List.length_append]
  have q4:(e5 s (makeP s.tab.texts).1).length=(e4 s (makeP s.tab.texts).1).length+((fD s).flatMap (aJ aC)).length:=by unfold e5;rw [List.length_append]
  have q3:(e4 s (makeP s.tab.texts).1).length=(e3 s (makeP s.tab.texts).1).length+(aJ fH s.tab.things).length+(aJ fS s.tab.acts).length+(aJ gG s.tab.deeds).length:=by unfold e4;simp only [List.length_append]
  have q2:(e3 s (makeP s.tab.texts).1).length=(e2 s (makeP s.tab.texts).1).length+(cZ s.tab.props).length+(cZ s.tab.globals).length:=by unfold e3;simp only [List.length_append]
  have q1:(e2 s (makeP s.tab.texts).1).length=(e1 s).length+(aJ aY (makeP s.tab.texts).1.abbrevs).length+(aJ aC (makeP s.tab.texts).1.at_).length+(aY (strOfNums (makeP s.tab.texts).1.bytes)).length:=by unfold e2;simp only [List.length_append]
  have q0:(e1 s).length=gU.length+((cW s).flatMap aC).length:=by unfold e1;rw [List.length_append]
  have hpl:=hpg.bytes
  have hcl:=h0.code
  have hpr:=hG.props.1
  have hgl:=hG.globals.1
  refine aQ ?_
  refine sq ?_
  refine aS 4 1 false ?_
  refine bG ?_
  refine Z1 (ca (aP8 s.tab.texts (aDZ hG))) ?_
  refine Z1 mo ?_
  refine Z1 ex ?_
  refine Z1 ex ?_
  refine Z2 (al 2 [.slice none 0 0,.slice none 0 0,.slice none 0 0]) ?_
  refine bW [_,_,_] ?_
  refine Z1 aB ?_
  refine cn ?_
  refine aD ?_
  refine sq ?_
  refine Z1 mo ?_
  refine Z1 bz ?_
  refine cn ?_
  refine cd (fun hb=>?_) fun hb=>?_
  ·exact absurd hb (by rw [hmk.1];decide)
  ·refine aQ ?_
   refine sq ?_
   refine aZ rfl rfl (aC5 (ps:=[_,_,_,_]) (xs:=[.val _,.val _,.val _,.val _]) (e:=5) (by_:=1) (zs:=[.int .u8 0]) 3 rfl (by kernel_rfl) (by kernel_rfl) rfl rfl rfl rfl (by decide)) ⟨rfl,trivial⟩ ?_
   refine aZ rfl rfl (aQM [67,76,69,87] (by decide) rfl (fun j x h=>by have:=congrArg (Option.map fun x=>Av.val (.int .u8 x)) h;rw [←List.getElem?_map] at this;exact this)) ⟨rfl,trivial⟩ ?_
   refine Z1 (ca (aPE [67,76,69,87] 1 (by decide))) ?_
   refine Z1 (bd [(0,1)] [.slice none 0 0] [.sl _ _ _]) ?_
   refine Z2 (aQN (x:=.agg _) 0 rfl rfl rfl) ?_
   refine Z1 aB ?_
   refine cn ?_
   refine aD ?_
   refine sq ?_
   refine aS 0 1 false ?_
   refine bG ?_
   refine aS 1 1 false ?_
   refine bG ?_
   refine aS 2 1 false ?_
   refine bG ?_
   refine aS 3 1 false ?_
   refine bG ?_
   refine aS 5 1 false ?_
   refine bG ?_
   refine Z1 (OC.to (fO (ps:=[.tmp 43,.tmp 45,.tmp 47,.tmp 49,.tmp 51]) (xs:=[.val _,.val _,.val _,.val _,.val _]) (e:=3) (k:=1) (by_:=8) (zs:=[.int .i64 0]) rfl (by kernel_rfl) (by kernel_rfl) rfl rfl rfl (by decide) (by decide)) (aAB (cW s))) ?_
   refine Z1 ln ?_
   refine Z1 mo ?_
   refine cn ?_
   refine aU ?_
   refine bM (ι:=Nat) (fun k=>⟨[(1,.ptr (cX s)),(4,.own 1 0),(7,.own 2 0),(9,.own 0 0),(52,aK (cW s)),(53,vi 5),(54,vi k)],[(0,.live 92 [bs (gU++((cW s).take k).flatMap aC)]),(1,.live 30 [vi s.tab.title,vi s.tab.by_,vi s.tab.release,vi s.tab.max,bB s.tab.texts,vi s.tab.flags,aK s.tab.props,aK s.tab.globals,gA s.tab.things,gB s.tab.acts,fY s.tab.deeds,aK s.tab.funcs,aK s.tab.daemons,aK s.tab.params,aK s.tab.locals]),(2,.live 41 [bB (makeP s.tab.texts).1.abbrevs,aK (makeP s.tab.texts).1.at_,bs (makeP s.tab.texts).1.bytes])]⟩) (fun k=>k≤5) (fun k=>5-k) 0 (Nat.zero_le _) (LS) ?_
   intro k hI
   refine sq ?_
   refine Z1 bz ?_
   refine cn ?_
   refine aD ?_
   refine cd (fun hb=>?_) fun hb=>?_
   ·have hk:k<5:=by have h0:=of_decide_eq_true hb;omega
    have hhl:(cW s).length=5:=rfl
    have hql:=aI1 (l:=(cW s)) (e:=aC) k
    have hzm:(cW s).getD k 0≤9223372036854775807:=by
     have h1:=pR (d:=(0:Int)) (l:=(cW s)) (show k<_ from hk)
     unfold cW at h1 ⊢
     simp only [List.mem_cons,List.not_mem_nil,or_false] at h1
     have:=hG.title;have:=hG.by_;have:=hG.release;have:=hG.max;have:=hG.flags
     omega
    refine aQ ?_
    refine aD ?_
    refine aU ?_
    refine sq ?_
    refine Z1 ia ?_
    refine Z1 ld ?_
    refine Z1 aB ?_
    refine cn ?_
    refine tx ?_
    refine Z1 mo ?_
    refine Z1 mo ?_
    refine cw (lL (gU++((cW s).take k).flatMap aC) ((cW s).getD k 0) (by simp only [List.length_append];omega) hzm) ?_
    refine cn ?_
    refine tx ?_
    refine Z1 ba ?_
    refine Z1 mo ?_
    refine cn ?_
    exact ⟨k+1,by omega,by omega,LS (hh:=⟨by rw [mS (d:=(0:Int)) _ (show k<(cW s).length from hk),←List.append_assoc];rfl,rfl,rfl,trivial⟩)⟩
   ·have hk:k=5:=by have h0:=of_decide_eq_false hb;omega
    subst hk
    refine bS (LS (τ:=⟨[(1,.ptr (cX s)),(4,.own 1 0),(7,.own 2 0),(9,.own 0 0)],[(0,.live 92 [bs (e1 s)]),(1,.live 30 [vi s.tab.title,vi s.tab.by_,vi s.tab.release,vi s.tab.max,bB s.tab.texts,vi s.tab.flags,aK s.tab.props,aK s.tab.globals,gA s.tab.things,gB s.tab.acts,fY s.tab.deeds,aK s.tab.funcs,aK s.tab.daemons,aK s.tab.params,aK s.tab.locals]),(2,.live 41 [bB (makeP s.tab.texts).1.abbrevs,aK (makeP s.tab.texts).1.at_,bs (makeP s.tab.texts).1.bytes])]⟩)) ?_
    refine bU ?_
    refine sq ?_
    refine Z1 mo ?_
    refine aS 0 1 false ?_
    refine bG ?_
    refine cw (aD5 (e1 s) (makeP s.tab.texts).1.abbrevs (by simp only [List.length_append];omega)) ?_
    refine cn ?_
    refine sq ?_
    refine Z1 mo ?_
    refine aS 1 1 false ?_
    refine bG ?_
    refine cw (aQO (e1 s++aJ aY (makeP s.tab.texts).1.abbrevs) (makeP s.tab.texts).1.at_ (fun x hx=>by have:=hpg.at_.2 x hx;omega) (by simp only [List.length_append];omega)) ?_
    refine cn ?_
    refine sq ?_
    refine Z1 mo ?_
    refine aS 2 1 false ?_
    refine bG ?_
    refine Z1 (vX _ rfl rfl (by kernel_rfl)) ?_
    refine cw (aHS (e1 s++aJ aY (makeP s.tab.texts).1.abbrevs++aJ aC (makeP s.tab.texts).1.at_) (strOfNums (makeP s.tab.texts).1.bytes) (by simp only [List.length_append];omega) (by rw [strOfNums_size];omega)) ?_
    refine cn ?_
    refine sq ?_
    refine Z1 mo ?_
    refine aS 6 1 false ?_
    refine bG ?_
    refine cw (aHT (e2 s (makeP s.tab.texts).1) s.tab.props (by omega) (by omega)) ?_
    refine cn ?_
    refine sq ?_
    refine Z1 mo ?_
    refine aS 7 1 false ?_
    refine bG ?_
    refine cw (aHT (e2 s (makeP s.tab.texts).1++cZ s.tab.props) s.tab.globals (by simp only [List.length_append];omega) (by omega)) ?_
    refine cn ?_
    refine sq ?_
    refine Z1 mo ?_
    refine aS 8 1 false ?_
    refine bG ?_
    refine Z1 mo ?_
    refine Z1 (iE (cs:=[.own _ _]) rfl rfl) ?_
    refine cw2 (aIY (abQ (e3 s (makeP s.tab.texts).1) s.tab.things 54 fH (by kernel_rfl) (by rw [List.append_assoc];show (e3 s (makeP s.tab.texts).1++aJ fH s.tab.things).length≤_;simp only [List.length_append];omega) (fun ys h x hx hl=>ac9 ys x (acS (hG.things.2 x hx)) hl))) ?_
    refine cn ?_
    refine sq ?_
    refine Z1 mo ?_
    refine aS 9 1 false ?_
    refine bG ?_
    refine Z1 mo ?_
    refine Z1 (iE (cs:=[.own _ _]) rfl rfl) ?_
    refine cw2 (aIY (abP (e3 s (makeP s.tab.texts).1++aJ fH s.tab.things) s.tab.acts 56 fS (by kernel_rfl) (by rw [List.append_assoc];show (e3 s (makeP s.tab.texts).1++aJ fH s.tab.things++aJ fS s.tab.acts).length≤_;simp only [List.length_append];omega) (fun ys h x hx hl=>adA ys x hl))) ?_
    refine cn ?_
    refine sq ?_
    refine Z1 mo ?_
    refine aS 10 1 false ?_
    refine bG ?_
    refine Z1 mo ?_
    refine Z1 (iE (cs:=[.own _ _]) rfl rfl) ?_
    refine cw2 (aIY (abR (e3 s (makeP s.tab.texts).1++aJ fH s.tab.things++aJ fS s.tab.acts) s.tab.deeds 58 gG (by kernel_rfl) (by rw [List.append_assoc];show (e3 s (makeP s.tab.texts).1++aJ fH s.tab.things++aJ fS s.tab.acts++aJ gG s.tab.deeds).length≤_;simp only [List.length_append];omega) (fun ys h x hx hl=>adB ys x (acT (hG.deeds.2 x hx)) hl))) ?_
    refine cn ?_
    refine aD ?_
    refine sq ?_
    refine aS 11 1 false ?_
    refine bG ?_
    refine aS 12 1 false ?_
    refine bG ?_
    refine aS 13 1 false ?_
    refine bG ?_
    refine aS 14 1 false ?_
    refine bG ?_
    refine Z1 (fa 15) ?_
    refine Z1 ld ?_
    refine Z1 (OC.to (fO (ps:=[.tmp 102,.tmp 104,.tmp 106,.tmp 108,.tmp 110]) (xs:=[.sl _ _ _,.sl _ _ _,.sl _ _ _,.sl _ _ _,.sl _ _ _]) (e:=25) (k:=1) (by_:=24) (zs:=[.slice none 0 0]) rfl (by kernel_rfl) (by kernel_rfl) rfl rfl rfl (by decide) (by decide)) (ac8 (fD s))) ?_
    refine Z1 ln ?_
    refine Z1 mo ?_
    refine cn ?_
    refine aU ?_
    refine bM (ι:=Nat) (fun k=>⟨[(1,.ptr (cX s)),(4,.own 1 0),(7,.own 2 0),(9,.own 0 0),(111,rN (fD s)),(112,vi 5),(113,vi k)],[(0,.live 92 [bs (e4 s (makeP s.tab.texts).1++((fD s).take k).flatMap (aJ aC))]),(1,.live 30 [vi s.tab.title,vi s.tab.by_,vi s.tab.release,vi s.tab.max,bB s.tab.texts,vi s.tab.flags,aK s.tab.props,aK s.tab.globals,gA s.tab.things,gB s.tab.acts,fY s.tab.deeds,aK s.tab.funcs,aK s.tab.daemons,aK s.tab.params,aK s.tab.locals]),(2,.live 41 [bB (makeP s.tab.texts).1.abbrevs,aK (makeP s.tab.texts).1.at_,bs (makeP s.tab.texts).1.bytes])]⟩) (fun k=>k≤5) (fun k=>5-k) 0 (Nat.zero_le _) (LS (hh:=⟨by show _=some (Hs.live _ [bs (e4 s (makeP s.tab.texts).1++[])]);rw [List.append_nil];rfl,rfl,rfl,trivial⟩)) ?_
    intro k hI
    refine sq ?_
    refine Z1 bz ?_
    refine cn ?_
    refine aD ?_
    refine cd (fun hb=>?_) fun hb=>?_
    ·have hk:k<5:=by have h0:=of_decide_eq_true hb;omega
     have htl:(fD s).length=5:=rfl
     have hql:=aI1 (l:=(fD s)) (e:=aJ aC) (k+1)
     rw [mS (d:=([]:List Int)) _ (show k<(fD s).length from hk),List.length_append] at hql
     have hzm:∀ x∈(fD s).getD k [],x≤9223372036854775807:=fun x hx=>by
      have h1:=pR (d:=([]:List Int)) (l:=(fD s)) (show k<_ from hk)
      generalize (fD s).getD k []=r at hx h1
      unfold fD at h1
      simp only [List.mem_cons,List.not_mem_nil,or_false] at h1
      rcases h1 with rfl|rfl|rfl|rfl|rfl
      ·have:=hG.funcs.2 x hx;omega
      ·have:=hG.daemons.2 x hx;omega
      ·have:=hG.params.2 x hx;omega
      ·have:=hG.locals.2 x hx;omega
      ·have:=hen.2 x hx;omega
     refine aQ ?_
     refine aD ?_
     refine aU ?_
     refine sq ?_
     refine Z1 ia ?_
     refine Z1 ld ?_
     refine Z1 aB ?_
     refine cn ?_
     refine tx ?_
     refine Z1 mo ?_
     refine Z1 mo ?_
     refine cw (aQO (e4 s (makeP s.tab.texts).1++((fD s).take k).flatMap (aJ aC)) ((fD s).getD k []) hzm (by simp only [List.length_append];omega)) ?_
     refine cn ?_
     refine tx ?_
     refine Z1 ba ?_
     refine Z1 mo ?_
     refine cn ?_
     exact ⟨k+1,by omega,by omega,LS (hh:=⟨by rw [mS (d:=([]:List Int)) _ (show k<(fD s).length from hk),←List.append_assoc];rfl,rfl,rfl,trivial⟩)⟩
    ·have hk:k=5:=by have h0:=of_decide_eq_false hb;omega
     subst hk
     refine bS (LS (τ:=⟨[(1,.ptr (cX s)),(4,.own 1 0),(7,.own 2 0),(9,.own 0 0)],[(0,.live 92 [bs (e5 s (makeP s.tab.texts).1)]),(1,.live 30 [vi s.tab.title,vi s.tab.by_,vi s.tab.release,vi s.tab.max,bB s.tab.texts,vi s.tab.flags,aK s.tab.props,aK s.tab.globals,gA s.tab.things,gB s.tab.acts,fY s.tab.deeds,aK s.tab.funcs,aK s.tab.daemons,aK s.tab.params,aK s.tab.locals]),(2,.live 41 [bB (makeP s.tab.texts).1.abbrevs,aK (makeP s.tab.texts).1.at_,bs (makeP s.tab.texts).1.bytes])]⟩)) ?_
     refine bU ?_
     refine sq ?_
     refine Z1 mo ?_
     refine Z1 (fa 16) ?_
     refine Z1 ld ?_
     refine Z1 (vX _ rfl rfl (by kernel_rfl)) ?_
     refine cw (aHS (e5 s (makeP s.tab.texts).1) (strOfNums s.code) (by omega) (by rw [strOfNums_size];omega)) ?_
     refine cn ?_
     refine sq ?_
     refine Z1 mo ?_
     refine dO ?_
     refine aS 0 1 false ?_
     refine bG ?_
     refine Z1 (cq (aO4 (iK s (makeP s.tab.texts).1) (uM (aIR s _)) (by omega)) rfl rfl) ?_
     refine Z1 aB ?_
     refine Z1 aB ?_
     refine cn ?_
     refine aP ?_
     exact ⟨.inl rfl,by rw [aQL hw];exact aF.two rfl (aT.tmp rfl) (aT.tmp rfl),trivial⟩
theorem aQP (n:Int):iA (kX n):=fun x hx=>by
 unfold kX at hx
 simp only [List.mem_cons,List.not_mem_nil,or_false] at hx
 omega
theorem aI3 {s:StoryP}(h0:SOk s):(writeP s).1.length≤1000000000000000∧dF (writeP s).1:=by
 unfold writeP
 split
 ·exact ⟨Nat.zero_le _,uM fun x hx=>by cases hx⟩
 ·rename_i hok
  have hv:(gV s).2=0:=Classical.not_not.1 fun h=>hok (.inl h)
  have hf:iL s.tab=true:=by cases h:iL s.tab with|true=>rfl|false=>exact absurd (.inr h) hok
  have hG:=aAO h0.first hf
  have hbl:=aQE hG (aAL hG).2 (aD4 h0.code hG hv) h0.code
  refine ⟨?_,uM (fC (aIR _ _) (aQP _))⟩
  show (_++_:List Int).length≤_
  rw [List.length_append]
  simp only [kX,List.length_cons,List.length_nil]
  omega
theorem aD6 (s:StoryP)(h0:SOk s):PC Tryz.prog 12 [cX s] (vw (idP s)):=by
 have hwl:(writeP s).1.length≤1000000000000000∧dF (writeP s).1:=aI3 h0
 refine FC.body 2 14 Tryz.func12 rfl (by kernel_rfl) ?_
 refine sq ?_
 refine Z1 bx ?_
 refine Z1 aB ?_
 refine cn ?_
 refine sq ?_
 refine Z1 lr ?_
 refine Z1 (ca (aAN s h0)) ?_
 refine Z1 mo ?_
 refine Z1 ex ?_
 refine Z1 ex ?_
 refine Z1 aB ?_
 refine Z1 aB ?_
 refine cn ?_
 refine aD ?_
 refine sq ?_
 refine Z1 mo ?_
 refine Z1 bz ?_
 refine cn ?_
 refine cd (fun hb=>?_) fun hb=>?_
 ·have he:(writeP s).2≠0:=by simpa using hb
  refine sq ?_
  refine Z1 aB ?_
  refine cn ?_
  refine aP ?_
  exact ⟨.inl rfl,aF.tmp rfl (show _=vw (idP s) from by rw [show idP s=0 from if_pos he];rfl),trivial⟩
 ·have he:(writeP s).2=0:=by simpa using hb
  refine aQ ?_
  refine sq ?_
  refine Z1 mo ?_
  refine Z1 (ca (aHN (writeP s).1 hwl.2 hwl.1)) ?_
  refine Z1 aB ?_
  refine cn ?_
  refine aP ?_
  exact ⟨.inl rfl,aF.tmp rfl (show _=vw (idP s) from by rw [show idP s=_ from if_neg (Classical.not_not.2 he)];rfl),trivial⟩
end Go.Proofs.YtnklgkjfoggpbaaGreatDoor
