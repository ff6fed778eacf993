/- Parts of the proof of a law of this seat: rules and contracts; no conditions. -/
import Derived.Test.YtgajclaoaphgoaaGreatDoorRdh
import Derived.Test.YtgajclaoaphgoaaGreatDoorFi
import Derived.Test.YtgajclaoaphgoaaGreatDoorVa
import Derived.Test.YtgajclaoaphgoaaGreatDoorWireP
import Derived.Test.YtgajclaoaphgoaaGreatDoorPu
import Derived.Test.YtgajclaoaphgoaaGreatDoorProg
import Derived.KernelRfl
import Derived.Test.YtgajclaoaphgoaaGreatDoorMp
import Derived.Test.YtgajclaoaphgoaaGreatDoorWa
import Derived.Test.YtgajclaoaphgoaaGreatDoorWireR
import Derived.Test.YtgajclaoaphgoaaGreatDoorCr
import Derived.Test.YtgajclaoaphgoaaGreatDoorWc
import Derived.Test.YtgajclaoaphgoaaGreatDoorFo
set_option maxHeartbeats 6400000
set_option maxRecDepth 100000
set_option linter.unusedVariables false
set_option linter.unusedSimpArgs false
namespace Go.Proofs.YtgajclaoaphgoaaGreatDoor
open Go.RowKit
theorem ajO (out t:ByteArray)(e:Int):(rL out t e).1.size≤1024:=by
 unfold rL;split
 ·exact Nat.zero_le _
 split
 ·rename_i h;have:=((xS _).1 h).1;rwa [fK] at this
 exact Nat.zero_le _
theorem aLH (l:List Int)(ab:List ByteArray):∀ (f row a:Nat) (out:ByteArray),(unF l ab f row a out).1.size≤1024
 | 0,row,a,out=>Nat.zero_le _
 | f+1,row,a,out=>by
  unfold unF;split
  ·split
   ·exact Nat.zero_le _
   split
   ·exact aLH l ab f _ _ _
   split
   ·exact Nat.zero_le _
   split
   ·exact Nat.zero_le _
   exact aLH l ab f _ _ _
  exact ajO _ _ _
theorem ajP (p:PoolP)(i:Int):(poolTx p i).1.size≤1024:=by
 unfold poolTx;split
 ·exact Nat.zero_le _
 split
 ·exact Nat.zero_le _
 exact aLH _ _ _ _ _ _
theorem aTY {t:Int→ByteArray × Int}(h:∀ i,(t i).1.size≤1024):∀ (n k:Nat) (out:List ByteArray),(∀ w∈out,w.size≤1024)→∀ w∈(qH t n k out).1,w.size≤1024
 | 0,k,out,ho=>ho
 | n+1,k,out,ho=>by
  unfold qH;split
  ·exact fun w hw=>by cases hw
  refine aTY h n (k+1) _ fun w hw=>?_;rcases List.mem_append.1 hw with hw|hw
  ·exact ho w hw
  rw [List.mem_singleton] at hw;subst hw;exact h k
theorem ajQ (p:PoolP):∀ w∈(allP p).1,w.size≤1024:=aTY (ajP p) _ _ _ fun w hw=>by cases hw
theorem ajR (c:List Int)(s:bF):∀ w∈(gPool c s).1,w.size≤1024:=by
 unfold gPool;split
 ·exact fun w hw=>by cases hw
 exact ajQ _
theorem aLI (c:List Int):SW (aTe c (5,0)).1:=fun w hw=>Nat.le_trans (ajR c _ w hw) (by omega)
theorem ajS (p:PoolP)(i:Int):(eT p i).1.length≤p.bytes.length:=by
 unfold eT
 repeat' split
 ·exact Nat.zero_le _
 ·exact Nat.zero_le _
 show (qG p i.toNat).length≤_;unfold qG;rw [List.length_take,List.length_drop];omega
theorem aq1 {X:PoolP→Prop}(k:∀ p:PoolP,p.at_.length≤5000000→p.bytes.length≤100000000→dC p.bytes→(∀ i,(eT p i).1.length≤5000)→(∀ k,(p.abbrevs.getD k ByteArray.empty).size≤5000)→p.abbrevs.length≤1000000→X p){c:List Int}(hl:c.length≤5000)(hb:cI c)(s:bF):X (gPoolP c s).1:=by
 have hc:(gPoolP c s).1.bytes.length≤c.length:=by
  unfold gPoolP;dsimp only;rw [aFD];exact aFB _ _ _
 refine k _ ?_ (by omega) ?_ (fun i=>Nat.le_trans (ajS _ i) (by omega)) ?_ ?_
 ·have h1:=(aBL (Q:=fun _=>True) (one:=rS c 4194304) (fun _=>trivial) (rS c 4194304 (cV (rS c 31) (gText c) s).2).1.toNat (rS c 4194304 (cV (rS c 31) (gText c) s).2).2 [] fun _ _=>trivial).2;have h2:=wO hb (most:=4194304) (by decide) (cV (rS c 31) (gText c) s).2;have h3:(gPoolP c s).1.at_.length=(dT (rS c 4194304) (rS c 4194304 (cV (rS c 31) (gText c) s).2).1.toNat (rS c 4194304 (cV (rS c 31) (gText c) s).2).2 []).1.length:=rfl;rw [h3];simp only [List.length_nil] at h1;omega
 ·unfold gPoolP;dsimp only;exact aIN _
 ·have h1:∀ w∈(gPoolP c s).1.abbrevs,w.size≤c.length:=wZ (Q:=fun w:ByteArray=>w.size≤c.length) (many:=rS c 31) (one:=gText c) (fun s=>aFB _ _ _) s;intro k;rcases Nat.lt_or_ge k (gPoolP c s).1.abbrevs.length with hk|hk
  ·exact Nat.le_trans (h1 _ (pR hk)) hl
  rw [List.getD,List.getElem?_eq_none hk];exact Nat.zero_le _
 have h1:=(aBL (Q:=fun _=>True) (one:=gText c) (fun _=>trivial) (rS c 31 s).1.toNat (rS c 31 s).2 [] fun _ _=>trivial).2;have h2:=wO hb (most:=31) (by decide) s;have h3:(gPoolP c s).1.abbrevs.length=(dT (gText c) (rS c 31 s).1.toNat (rS c 31 s).2 []).1.length:=rfl;rw [h3];simp only [List.length_nil] at h1;omega
theorem ajT {c:List Int}(hl:c.length≤5000)(hb:cI c)(s:bF):PC Tryz.prog 160 [kO (gPoolP c s).1] (.tup [bB (allP (gPoolP c s).1).1,vi (allP (gPoolP c s).1).2]):=aq1 (X:=fun p=>PC Tryz.prog 160 [kO p] (.tup [bB (allP p).1,vi (allP p).2])) aO3 hl hb s
theorem vB {α:Type}{e:α→α→Bool}(h:∀ x y,e x y=true↔x=y):∀ a b:List α,dR e a b=true↔a=b
 | [],[]=>by simp [dR]
 | x::l,[]=>by simp [dR]
 | [],y::m=>by simp [dR]
 | x::l,y::m=>by unfold dR;rw [Bool.and_eq_true,h x y,vB h l m,List.cons.injEq]
theorem ajU (x y:SlotP):qJ x y=true↔x=y:=by
 unfold qJ;cases x;cases y
 simp
theorem ajV (x y:List SlotP):uB x y=true↔x=y:=vB ajU x y
theorem ajW (x y:VerbP):kP x y=true↔x=y:=by
 unfold kP;rw [Bool.and_eq_true,vB ajV];cases x;cases y
 simp
theorem ajX (x y:WayP):(jJ x==jJ y)=true↔x=y:=by
 unfold jJ;cases x;cases y
 simp
theorem ajY (x y:DeedP):(gN x==gN y)=true↔x=y:=by
 unfold gN;cases x;cases y
 simp
theorem ajZ (x y:ThingP):lA x y=true↔x=y:=by
 unfold lA vW;simp only [Bool.and_eq_true,vB ajX,decide_eq_true_eq,beq_iff_eq];cases x;cases y
 simp only [List.cons.injEq,ThingP.mk.injEq,and_true];constructor
 ·rintro ⟨⟨⟨⟨⟨⟨a,b,c,d⟩,e⟩,f⟩,g⟩,i⟩,j⟩;exact ⟨a,b,c,d,e,f,g,i,j⟩
 rintro ⟨a,b,c,d,e,f,g,i,j⟩;exact ⟨⟨⟨⟨⟨⟨a,b,c,d⟩,e⟩,f⟩,g⟩,i⟩,j⟩
theorem aQX (x y:StoryP):uC x y=true↔x=y:=by
 unfold uC;simp only [Bool.and_eq_true,vB (fun (a b:List Int)=>by simp:∀ a b:List Int,decide (a=b)=true↔a=b),vB ajZ,vB ajW,vB ajY,decide_eq_true_eq,beq_iff_eq];unfold cW rO;obtain ⟨t,en,co⟩:=x;obtain ⟨t',en',co'⟩:=y;cases t
 cases t'
 simp only [List.cons.injEq,StoryP.mk.injEq,TabP.mk.injEq,and_true];constructor
 ·rintro ⟨⟨⟨⟨⟨⟨⟨a1,a2,a3,a4,a5⟩,b1,b2,b3,b4,b5,b6,b7⟩,c⟩,d⟩,e⟩,f⟩,g⟩;exact ⟨⟨a1,a2,a3,a4,c,a5,b1,b2,d,e,f,b3,b4,b5,b6⟩,b7,g⟩
 rintro ⟨⟨a1,a2,a3,a4,c,a5,b1,b2,d,e,f,b3,b4,b5,b6⟩,b7,g⟩;exact ⟨⟨⟨⟨⟨⟨⟨a1,a2,a3,a4,a5⟩,b1,b2,b3,b4,b5,b6,b7⟩,c⟩,d⟩,e⟩,f⟩,g⟩
theorem aI7 (x:StoryP):uC x x=true:=(aQX x x).2 rfl
theorem aTZ {b:List Int}(h:(cB b).2≠0):readP b=(jT,(cB b).2):=by unfold readP;exact if_pos h
def kF:TabP:=⟨0,0,0,0,[⟨#[120]⟩],4,[],[],[⟨0,-1,0,0,false,[],[],[],[]⟩,⟨0,-1,2,0,false,[],[],[],[]⟩,⟨0,-1,0,0,true,[],[],[],[]⟩],[],[],[],[],[],[]⟩
def mJ:StoryP:=⟨kF,[],[]⟩
theorem aj2 {t:TabP}(h1:t.texts.length≤1)(h:∀ w∈t.texts,w.size≤1)(h2:t.acts=[])(h3:∀ x∈t.things,x.words=[]∧x.adjs=[]):t.wf:=⟨fun w hw=>by have:=h w hw;omega,fun x hx=>by rw [ThingP.wf,(h3 x hx).1,(h3 x hx).2];exact ⟨fun w hw=>(by cases hw),fun w hw=>(by cases hw)⟩,(by rw [h2];exact fun x hx=>(by cases hx))⟩
theorem aT0:SOk mJ:=⟨aj2 (by decide) (by intro w hw;simp [mJ,kF] at hw;subst hw;decide) rfl (by intro x hx;simp [mJ,kF] at hx;rcases hx with rfl|rfl|rfl<;>exact ⟨rfl,rfl⟩),by decide,mV.2 (by intro x hx;cases hx),by decide,by decide,by decide,by decide⟩
theorem aT1:SOk jT:=⟨⟨fun w hw=>(by cases hw),fun w hw=>(by cases hw),fun w hw=>(by cases hw)⟩,by decide,mV.2 (by intro x hx;cases hx),by decide,by decide,by decide,by decide⟩
theorem aj3:iL kF=true:=by decide +kernel
theorem aj4:iL jT.tab=false:=by decide +kernel
theorem aT2:writeP jT=([],18):=if_pos (.inr aj4)
theorem aj5:idP jT=0:=by unfold idP;rw [aT2];exact if_pos (by decide)
theorem aT3:(writeP mJ).2=0:=by
 have h:(gV mJ).2=0:=by decide +kernel
 unfold writeP;rw [if_neg];rintro (h1|h1)
 ·exact h1 h
 rw [show mJ.tab=kF from rfl,aj3] at h1;cases h1
def tI:List Int:=[67,76,69,87,2]
theorem aj6:readP (gY tI)=(jT,15):=by
 have h4:strOfNums [67,76,69,87]=⟨#[67,76,69,87]⟩:=rfl;have hb:vA tI=true:=by
  unfold vA;rw [show tI.take 4=[67,76,69,87] from rfl,h4];simp [tI]
 unfold readP;rw [aK8];dsimp only;rw [if_neg (fun h=>h rfl),if_pos hb]
theorem aj7:readP []=(jT,2):=by
 have:cB []=([],2):=by unfold cB;exact if_pos (by decide)
 rw [aTZ (by rw [this];decide),this]
def uN (s:StoryP):Bool:=(xK s.tab.texts 60 1500&&decide ((s.code.length:Int)≤3000))&&decide ((s.entry.length:Int)≤200)
theorem aQV {s:StoryP}(h:uN s=true):s.tab.texts.length≤60∧s.code.length≤3000∧s.entry.length≤200:=by
 unfold uN xK at h;simp only [Bool.and_eq_true,decide_eq_true_eq] at h;omega
theorem aj8 {s:StoryP}(ht:tabG s.tab)(he:aIS s)(hn:s.tab.texts.length≤60)(hc:s.code.length≤3000):(iK s (makeP s.tab.texts).1).length≤900000:=by
 have hp:=(aAL ht).2;have q:(makeP s.tab.texts).1.at_.length≤60∧(makeP s.tab.texts).1.bytes.length≤115320:=by
  have h1:=uH (ab:=chooseP s.tab.texts 31) (l:=s.tab.texts) s.tab.texts.length (aAK ht);rw [aAF (by omega) (aAK ht)];exact ⟨by show (bT _ _ _).1.length≤_;omega,by show (bT _ _ _).2.length≤_;omega⟩
 have a:((cW s).flatMap aC).length≤5*10:=xT (l:=cW s) fun z hz=>by
  refine lN ?_;unfold cW at hz;simp only [List.mem_cons,List.not_mem_nil,or_false] at hz;have:=ht.title;have:=ht.by_;have:=ht.release;have:=ht.max;have:=ht.flags
  omega
 have b:=nN (e:=aY) 18 hp.abb.1 (by omega) fun w hw=>wB (hp.abb.2 w hw) (by omega);have c:=pO q.1 (by omega) (by omega) hp.at_.2;have d:=wB (s:=strOfNums (makeP s.tab.texts).1.bytes) (c:=115320) (by rw [strOfNums_size];exact q.2) (by omega);have e:=aAJ ht.props.1 (by omega);have f:=aAJ ht.globals.1 (by omega);have g:=nN (e:=fH) 1000 ht.things.1.2 (by omega) fun x hx=>aQB (ht.things.2 x hx);have h:=nN (e:=fS) 6000 ht.acts.1 (by omega) fun x hx=>aQC (ht.acts.2 x hx);have i:=nN (e:=gG) 61 ht.deeds.1 (by omega) fun x hx=>aQD (ht.deeds.2 x hx)
 have j:((fD s).flatMap (aJ aC)).length≤5*20490:=xT (l:=fD s) fun l hl=>by
  unfold fD at hl;simp only [List.mem_cons,List.not_mem_nil,or_false] at hl;have j1:=pO ht.funcs.1 (by omega) (by omega) ht.funcs.2;have j2:=pO ht.daemons.1 (by omega) (by omega) ht.daemons.2;have j3:=pO ht.params.1 (by omega) (by omega) ht.params.2;have j4:=pO ht.locals.1 (by omega) (by omega) ht.locals.2;have j5:=pO he.1 (by omega) (by omega) he.2;rcases hl with rfl|rfl|rfl|rfl|rfl<;>omega
 have k:=wB (s:=strOfNums s.code) (c:=3000) (by rw [strOfNums_size];exact hc) (by omega);unfold iK e5 e4 e3 e2 e1 gU;simp only [List.length_append,cQ,List.length_cons,List.length_nil];omega
theorem aI9 {s:StoryP}(h0:SOk s)(hw:(writeP s).2=0)(hn:s.tab.texts.length≤60)(hc:s.code.length≤3000):(writeP s).1=gY (iK s (makeP s.tab.texts).1)∧(iK s (makeP s.tab.texts).1).length≤900000∧tabG s.tab:=by
 unfold writeP at hw ⊢;split at hw
 ·cases hw
 rename_i hok;have hv:(gV s).2=0:=Classical.not_not.1 fun h=>hok (.inl h);have hf:iL s.tab=true:=by cases h:iL s.tab with|true=>rfl|false=>exact absurd (.inr h) hok
 have hG:=aAO h0.first hf;rw [if_neg hok];exact ⟨rfl,aj8 hG (aD4 h0.code hG hv) hn hc,hG⟩
theorem aJA {s:StoryP}(h0:SOk s):dF (writeP s).1:=(aI3 h0).2
theorem aQY {s:StoryP}(h0:SOk s)(hw:(writeP s).2=0)(hn:s.tab.texts.length≤60)(hc:s.code.length≤3000):PC Tryz.prog 13 [bs (writeP s).1] (.tup [cX s,vi 0]):=by
 obtain ⟨e,hl,hG⟩:=aI9 h0 hw hn hc;have hb:=aJA h0;have hr:=ai4 h0 hw (by omega) (by omega);have ho:cB (writeP s).1=(iK s (makeP s.tab.texts).1,0):=by rw [e,aK8]
 have h:=aK9 (writeP s).1 (by rw [e,xY];omega) hb (fun _=>aLI _) (fun _ _=>by
  rw [ho];dsimp only;rw [(aiU hG (by omega)).1];rw [aK5 (aK2 hG)];exact ajC (aK2 hG))
 rw [hr] at h;exact h
theorem aJB (b:List Int)(hl:b.length≤4000)(hby:dF b):PC Tryz.prog 13 [bs b] (.tup [cX (readP b).1,vi (readP b).2]):=
 aK9 b (by omega) hby (fun _=>aLI _) (fun _ _=>ajT (by have:=aLA b;omega) (aLB hby) _)
theorem aj9:PC Tryz.prog 13 [.val (.slice none 0 0)] (.tup [cX jT,vi 2]):=by
 have h:=aJB [] (by simp) (uM (fun x hx=>by cases hx));rw [aj7] at h;exact PC.arg h aI0
theorem akA:PC Tryz.prog 13 [bs (gY tI)] (.tup [cX jT,vi 15]):=by
 have h:=aJB (gY tI) (by rw [xY];decide) (uM (fC (fun x hx=>by simp [tI] at hx;omega) (aQP _)));rw [aj6] at h;exact h
theorem akB:PC Tryz.prog 8 [cX jT] (.tup [bs [],vi 18]):=by
 have h:=aAN jT aT1;rw [aT2] at h;exact h
theorem akC:PC Tryz.prog 11 [cX jT] (vw 0):=by
 have h:=aD6 jT aT1;rw [aj5] at h;exact h
theorem akD:PC Tryz.prog 8 [cX mJ] (.tup [bs (writeP mJ).1,vi 0]):=by
 have h:=aAN mJ aT0;rw [aT3] at h;exact h
theorem akE:PC Tryz.prog 13 [bs (writeP mJ).1] (.tup [cX mJ,vi 0]):=aQY aT0 aT3 (by decide) (by decide)
theorem aI8 (s:StoryP):PC Tryz.prog 6 [cX s] (vb (uN s)):=by
 refine FB 2 19 Tryz.func6 ?_;refine C (aYU s.tab.texts 60 1500 (by omega) (by omega) (by omega)) ?_;exact Rx rfl rfl
end Go.Proofs.YtgajclaoaphgoaaGreatDoor
namespace Go.Proofs.YtgajclaoaphgoaaGreatDoor
open Go.RowKit
theorem OC.nameNil {P:Program}{o:Oper}{ρ ρ':Operand→Av}{x:Av}{R U:List (Nat × Hs)}{n k:Nat}{ty:TypeId}(h:OC P o ρ' ((n,.live ty [])::R) x U)(hU:n∈U.map (·.1))(hR:n∉R.map (·.1))(hρ:∀ p∈o.op.operands.toList,ρ' p=ρ p∨(ρ p=.val (.slice none 0 0)∧ρ' p=.osl k n 0)):OC P o ρ ((n,.unborn)::R) x U:=by
 intro E a hG hr hH;have hn:E.loc n=.unborn:=hH n .unborn (by simp);have hS:=Step.nil_name hn;have hh:=h (E.re n .nil) a (hG.re (by simp)) (fun p hp=>by
  rcases hρ p hp with e|⟨e1,e2⟩
  ·rw [e];exact aA.step hS _ _ (hr p hp)
  ·have h1:=hr p hp;rw [e1] at h1;rw [e2];unfold aA at h1 ⊢;have e3:(E.re n .nil).loc n=.nil:=by simp [Env.re]
   exact ⟨⟨by rw [e3];simp,⟨_,_,h1⟩,fun _=>⟨h1,rfl⟩⟩,fun b hb=>by rw [e3] at hb;cases hb⟩) (fun m y hm=>by
  rcases List.mem_cons.1 hm with hm|hm
  ·injection hm with h1 h2
   subst h1;subst h2
   exact .inl ⟨by simp [Env.re],rfl⟩
  have hne:m≠n:=fun e=>hR (List.mem_map.2 ⟨(m,y),hm,e⟩);exact dI.step hS (by simp [hne]) (hH m y (List.mem_cons_of_mem _ hm)))
 have e:(E.re n .nil).w=E.w:=rfl;rw [e] at hh;refine aT4 hh ?_;rintro v w' ⟨E',h1,h2,h3,h4,h5⟩;exact ⟨E',h1,(hS.trans h2).more (fun m hm=>by
  rcases List.mem_append.1 hm with hm|hm
  ·rw [List.mem_singleton] at hm;subst hm;exact hU
  exact hm),h3,h4,h5⟩
theorem akF {P:Program}{o:Oper}{ρ:Operand→Av}{T e:TypeId}{k by_ l:Nat}{row:Nat→Av}{ds:List Av}{zs:List Value}{u:Nat}(n m:Nat)(hnm:n≠m)(hds:ds.length=l*k)(hrow:∀ j,j<l→eQ (row j) k=true∧∀ i y,i<k→ds[j*k+i]?=some y→(cL (row j))[i]?=some y)(hb:(0+l)*by_≤140737488355328)(h63:0+l≤9223372036854775807)(ho:o.op=.call { callee:=.builtin .append,args:=#[.const (.slice none 0 0),.tmp u],argTypes:=#[T,T] }:=by rfl)(hρ:ρ (.const (.slice none 0 0))=.val (.slice none 0 0):=by rfl)(hq:ρ (.tmp u)=.sl k l row:=by rfl)(hT:eB P T=some e:=by kernel_rfl)(hi:lW P e=some (k,by_,zs):=by kernel_rfl)(hzl:zs.length=k:=by rfl)(h0:0<k:=by decide):
 OC P o ρ [(n,.unborn),(m,.unborn)] (.osl k m l) [(n,.dead),(m,.live e ds)]:=by
 have h:=iG (P:=P) (o:=o) (ρ:=fun r=>match r with|.const _=>.osl k n 0|r=>ρ r) (n:=n) (cs:=[]) (ds:=ds) m ho rfl hq hT hi hzl h0 hnm (by simp) hds hrow hb h63;rw [Nat.zero_add,List.nil_append] at h;refine OC.nameNil (k:=k) (ty:=e) (ρ':=fun r=>match r with|.const _=>.osl k n 0|r=>ρ r) h (by simp) (by simp [hnm]) (fun p hp=>?_);simp [ho,Op.operands,Call.operands] at hp;rcases hp with rfl|rfl
 ·exact .inr ⟨hρ,rfl⟩
 exact .inl rfl
theorem akH (zs:List Int)(m:Nat)(h1:zs.length≤100000000)(hm:m<4294967296):PC Tryz.prog 46 [bs zs,vw m] (bs (zs++kX (m:Int))):=aA2 (e:=5) fun A c w k1 k2=>akG A _ c zs m w k1 rfl (by omega) (by omega) (by omega)
theorem akI (n:Nat):Av.val (.int .u32 (IntKind.u32.wrap ((n:Int).tdiv 2)))=vw (n/2)∨4294967296≤n:=by
 rcases Nat.lt_or_ge n 4294967296 with h|h
 ·refine .inl ?_;rw [Int.tdiv_eq_ediv_of_nonneg (by omega),aAZ,show (n:Int)/2%4294967296=((n/2:Nat):Int) from by omega]
 exact .inr h
theorem aT5 {n:Nat}(h:n<4294967296):Av.val (.int .u32 (IntKind.u32.wrap ((n:Int).tdiv 2)))=vw (n/2):=by
 rcases akI n with h1|h1
 ·exact h1
 omega
theorem akJ (n:Nat):Av.val (.int .u32 ((n:Int).tmod 2))=vw (n%2):=by rw [Int.tmod_eq_emod_of_nonneg (by omega)];rfl
theorem akK {xs:List Int}(h:dF xs)(j:Nat):Av.val (.int .u32 (IntKind.u32.wrap (xs.getD j 0)))=vw (xs.getD j 0).toNat:=by
 have:=h j;rw [aAZ,show xs.getD j 0%4294967296=(((xs.getD j 0).toNat:Nat):Int) from by omega]
theorem akL (s:Nat)(hs:s<4294967296)(xs:List Int)(hby:dF xs)(hl:xs.length≤1000000000000000):PC Tryz.prog 94 [vw s,bs xs] (vw (nH s (dX xs))):=by
 refine FB 1 37 Tryz.func94 ?_;refine G ?_;refine Z1 (yF (b:=4294967295) rfl rfl rfl hs (by decide)) ?_;refine G ?_;refine bM (ι:=Nat) (fun i=>⟨[(1,bs xs),(5,vw (jL (s ^^^ 4294967295) ((dX xs).take i))),(6,vi i)],[]⟩) (fun i=>i≤xs.length) (fun i=>xs.length-i) 0 (Nat.zero_le _) (Le.sub ⟨.inr rfl,.inr rfl,.inr rfl,trivial⟩ trivial) ?_;intro i hI;refine Gd (fun hb=>?_) fun hb=>?_
 ·have hi:i<xs.length:=by have h0:=of_decide_eq_true hb;omega
  have hlt:=yG ((dX xs).take i) (aEG hs) (aA1 hby i);have hx:=aJM hby i;have hcx:(jL (s ^^^ 4294967295) ((dX xs).take i)) ^^^ (xs.getD i 0).toNat<4294967296:=Nat.xor_lt_two_pow (n:=32) hlt (by omega);refine aQ ?_;refine aD ?_;refine aU ?_;refine sq ?_;refine Z1 mo ?_;refine Z1 mo ?_;refine Z1 mo ?_;refine Z1 ia ?_;refine Z1 ld ?_;refine Z1 (OC.cast (mH (k:=.u8) .u32 rfl rfl (by kernel_rfl) (by kernel_rfl)) (akK hby i)) ?_;refine Z1 (yF rfl rfl rfl hlt (by omega)) ?_;refine Z1 aB ?_;refine cn ?_;refine sq ?_;refine Z1 aB ?_;refine cn ?_;refine aU ?_
  refine bM (ι:=Nat) (fun k=>⟨[(1,bs xs),(5,vw (iB k ((jL (s ^^^ 4294967295) ((dX xs).take i)) ^^^ (xs.getD i 0).toNat))),(6,vi i),(7,vi k)],[]⟩) (fun k=>k≤8) (fun k=>8-k) 0 (Nat.zero_le _) (Le.sub ⟨.inr rfl,.inr rfl,.inr rfl,.inr rfl,trivial⟩ trivial) ?_;intro k hI;refine Gd (fun hb=>?_) fun hb=>?_
  ·have hk:k<8:=by have h0:=of_decide_eq_true hb;omega
   have hst:=aA0 k hcx;refine G ?_;refine Z1 (OC.cast (aDK rfl rfl rfl (by omega)) (akJ _)) ?_;refine Gd (fun hb=>?_) fun hb=>?_
   ·have h1:(iB k ((jL (s ^^^ 4294967295) ((dX xs).take i)) ^^^ (xs.getD i 0).toNat))%2=1:=by have h0:=beq_iff_eq.1 hb;omega
    refine G ?_;refine Z1 (OC.cast (aID rfl rfl rfl (by omega)) (aT5 hst)) ?_;refine Z1 (yF (b:=3988292384) rfl rfl rfl (by omega) (by omega)) ?_;refine G ?_;exact ⟨k+1,by omega,by omega,Le.sub ⟨.inr rfl,.inr (by rw [aAY];unfold lP;rw [if_pos h1];rfl),.inr rfl,.inr (aR (by omega)),trivial⟩ trivial⟩
   have h1:¬ (iB k ((jL (s ^^^ 4294967295) ((dX xs).take i)) ^^^ (xs.getD i 0).toNat))%2=1:=by have h0:=beq_eq_false_iff_ne.1 hb;omega
   refine G ?_;refine Z1 (OC.cast (aID rfl rfl rfl (by omega)) (aT5 hst)) ?_;refine G ?_;exact ⟨k+1,by omega,by omega,Le.sub ⟨.inr rfl,.inr (by rw [aAY];unfold lP;rw [if_neg h1];rfl),.inr rfl,.inr (aR (by omega)),trivial⟩ trivial⟩
  have hk:k=8:=by have h0:=of_decide_eq_false hb;omega
  subst hk;refine G ?_;exact ⟨i+1,by omega,by omega,Le.sub ⟨.inr rfl,.inr (by rw [aRK _ _ hi];rfl),.inr (aR (by omega)),trivial⟩ trivial⟩
 have hi:i=xs.length:=by have h0:=of_decide_eq_false hb;omega
 subst hi;have hlt:=yG ((dX xs).take xs.length) (aEG hs) (aA1 hby xs.length);refine G ?_;refine Z1 (yF (b:=4294967295) rfl rfl rfl hlt (by decide)) ?_;refine G ?_;exact Rx rfl (by show vw _=vw _;rw [List.take_of_length_le (by rw [aEH];exact Nat.le_refl _)];rfl)
theorem akM (xs:List Int)(hby:dF xs)(hl:xs.length≤1000000000000000):PC Tryz.prog 37 [bs xs] (vw (nH 0 (dX xs))):=by
 refine FB 1 5 Tryz.func37 ?_;refine C (akL 0 (by decide) xs hby hl) ?_;exact Rx rfl rfl
theorem akN (xs:List Int)(hby:dF xs)(hl:xs.length≤100000000):PC Tryz.prog 16 [bs xs] (bs (gY xs)):=by
 refine FB 2 10 Tryz.func16 ?_;refine sq ?_;refine Z1 aB ?_;refine cn ?_;refine sq ?_;refine Z1 mo ?_;refine aZ rfl rfl (akF (e:=5) (k:=1) (by_:=1) (zs:=[.int .u8 0]) (ds:=xs.map bw) 0 1 (by decide) (by simp) (aIK xs) (by omega) (by omega)) ⟨rfl,rfl,trivial⟩ ?_;refine Z1 aB ?_;refine cn ?_;refine aD ?_;refine bS (Le.freeze 3 1 (bv xs) rfl rfl (by simp) (aDP xs)) ?_;refine C (akM xs hby (by omega)) ?_;refine C (akH xs (nH 0 (dX xs)) hl (aC6 (by decide) (aC7 hby))) ?_;exact Rx rfl rfl
theorem akO (E:Env)(v:Value)(h:aA E (.sl 1 1 (gE [vs ⟨#[120]⟩])) v):aA E (bB kF.texts) v:=pI (n:=1) (fun E j hj v hv=>by
 have:j=0:=by omega
 subst this;exact hv) E v h
theorem akP (E:Env)(v:Value)(h:aA E (.sl 9 3 (gE [.agg [vi 0,vi (-1),vi 0,vi 0,.val (.bool false),.val (.slice none 0 0),.val (.slice none 0 0),.val (.slice none 0 0),.val (.slice none 0 0)],.agg [vi 0,vi (-1),vi 2,vi 0,.val (.bool false),.val (.slice none 0 0),.val (.slice none 0 0),.val (.slice none 0 0),.val (.slice none 0 0)],.agg [vi 0,vi (-1),vi 0,vi 0,.val (.bool true),.val (.slice none 0 0),.val (.slice none 0 0),.val (.slice none 0 0),.val (.slice none 0 0)]])) v):aA E (gA kF.things) v:=pI (n:=3) (fun E j hj v hv=>by
 rcases j with _|_|_|j
 iterate 3
  refine aAG hv rfl fun E i x y hx hy v h=>?_;rcases i with _|_|_|_|_|_|_|_|_|i<;>simp [kF] at hx hy<;>subst hx<;>subst hy<;>first|exact h|exact qI E v h
 omega) E v h
theorem akQ (E:Env)(v:Value)(h:aA E (.agg [vi 0,vi 0,vi 0,vi 0,bB kF.texts,vi 4,.val (.slice none 0 0),.val (.slice none 0 0),gA kF.things,.val (.slice none 0 0),.val (.slice none 0 0),.val (.slice none 0 0),.val (.slice none 0 0),.val (.slice none 0 0),.val (.slice none 0 0)]) v):aA E (bR kF) v:=by
 refine aAG h rfl fun E i x y hx hy v h=>?_;rcases i with _|_|_|_|_|_|_|_|_|_|_|_|_|_|_|i<;>simp at hx hy<;>subst hx<;>subst hy<;>first|exact h|exact qI E v h
theorem aT6 (E:Env)(v:Value)(h:aA E (.agg [vi 0,vi 0,vi 0,vi 0,bB kF.texts,vi 4,aK kF.props,aK kF.globals,gA kF.things,gB kF.acts,fY kF.deeds,aK kF.funcs,aK kF.daemons,aK kF.params,aK kF.locals,.val (.slice none 0 0),.val (.slice none 0 0)]) v):aA E (cX mJ) v:=by
 refine aAG h rfl fun E i x y hx hy v h=>?_;rcases i with _|_|_|_|_|_|_|_|_|_|_|_|_|_|_|_|_|i<;>simp at hx hy<;>subst hx<;>subst hy<;>first|exact h|exact qI E v h
theorem akR:PC Tryz.prog 15 [cX mJ,cX mJ] (vb true):=by
 have h:=aHR mJ mJ (fun x hx=>by cases hx) (fun x hx=>by cases hx);rwa [aI7] at h
theorem uO:PC Tryz.prog 7 [] (vb true):=by
 refine FB 5 74 Tryz.func7 ?_;refine sq ?_;refine Z1 aB ?_;refine cn ?_;refine sq ?_;refine Z1 (ca (aj9)) ?_;refine Z1 mo ?_;refine Z1 ex ?_;refine Z1 ex ?_;refine Z2 (al 0 [.int .i64 0,.int .i64 0,.int .i64 0,.int .i64 0,.slice none 0 0,.int .i64 0,.slice none 0 0,.slice none 0 0,.slice none 0 0,.slice none 0 0,.slice none 0 0,.slice none 0 0,.slice none 0 0,.slice none 0 0,.slice none 0 0,.slice none 0 0,.slice none 0 0]) ?_;refine bW [_,_,_,_,_,_,_,_,_,_,_,_,_,_,_,_,_] ?_;refine Z1 aB ?_;refine cn ?_;refine sq ?_
 refine Z2 (aC5 (ps:=[_,_,_,_,_]) (xs:=[.val _,.val _,.val _,.val _,.val _]) (e:=5) (by_:=1) (zs:=[.int .u8 0]) 1 rfl (by kernel_rfl) (by kernel_rfl) rfl rfl rfl rfl (by decide)) ?_;refine aZ rfl rfl (aQM [67,76,69,87,2] (by decide) rfl (fun j x h=>by have:=congrArg (Option.map fun x=>Av.val (.int .u8 x)) h;rw [←List.getElem?_map] at this;exact this)) ⟨rfl,trivial⟩ ?_;refine Z1 (ca (akN tI (uM (fun x hx=>by simp [tI] at hx;omega)) (by decide))) ?_;refine Z1 (ca (akA)) ?_;refine Z1 mo ?_;refine Z1 ex ?_;refine Z1 ex ?_
 refine Z2 (al 2 [.int .i64 0,.int .i64 0,.int .i64 0,.int .i64 0,.slice none 0 0,.int .i64 0,.slice none 0 0,.slice none 0 0,.slice none 0 0,.slice none 0 0,.slice none 0 0,.slice none 0 0,.slice none 0 0,.slice none 0 0,.slice none 0 0,.slice none 0 0,.slice none 0 0]) ?_;refine bW [_,_,_,_,_,_,_,_,_,_,_,_,_,_,_,_,_] ?_;refine Z1 aB ?_;refine cn ?_;refine sq ?_
 refine Z1 (OC.to (bd [(0,15),(15,1),(16,1)] [.int .i64 0,.int .i64 0,.int .i64 0,.int .i64 0,.slice none 0 0,.int .i64 0,.slice none 0 0,.slice none 0 0,.slice none 0 0,.slice none 0 0,.slice none 0 0,.slice none 0 0,.slice none 0 0,.slice none 0 0,.slice none 0 0,.slice none 0 0,.slice none 0 0] [.val _,.val _,.val _,.val _,.val _,.val _,.val _,.val _,.val _,.val _,.val _,.val _,.val _,.val _,.val _,.val _,.val _]) (wY)) ?_;refine Z1 (ca (akB)) ?_;refine Z1 mo ?_;refine Z1 ex ?_;refine Z1 ex ?_;refine Z1 aB ?_;refine Z1 aB ?_;refine cn ?_;refine sq ?_
 refine Z1 (OC.to (fO (ps:=[_]) (xs:=[.val _]) (e:=9) (k:=1) (by_:=16) (zs:=[.string ⟨#[]⟩]) rfl (by kernel_rfl) (by kernel_rfl) rfl rfl rfl (by decide) (by decide)) (akO)) ?_;refine Z1 (bd [(0,1),(1,1),(2,1),(3,1),(4,1),(5,1),(6,1),(7,1),(8,1)] [.int .i64 0,.int .i64 0,.int .i64 0,.int .i64 0,.bool false,.slice none 0 0,.slice none 0 0,.slice none 0 0,.slice none 0 0] [.val _,.val _,.val _,.val _,.val _,.val _,.val _,.val _,.val _]) ?_
 refine Z1 (bd [(0,1),(1,1),(2,1),(3,1),(4,1),(5,1),(6,1),(7,1),(8,1)] [.int .i64 0,.int .i64 0,.int .i64 0,.int .i64 0,.bool false,.slice none 0 0,.slice none 0 0,.slice none 0 0,.slice none 0 0] [.val _,.val _,.val _,.val _,.val _,.val _,.val _,.val _,.val _]) ?_;refine Z1 (bd [(0,1),(1,1),(2,1),(3,1),(4,1),(5,1),(6,1),(7,1),(8,1)] [.int .i64 0,.int .i64 0,.int .i64 0,.int .i64 0,.bool false,.slice none 0 0,.slice none 0 0,.slice none 0 0,.slice none 0 0] [.val _,.val _,.val _,.val _,.val _,.val _,.val _,.val _,.val _]) ?_
 refine Z1 (OC.to (fO (ps:=[.tmp 29,.tmp 30,.tmp 31]) (xs:=[.agg _,.agg _,.agg _]) (e:=48) (k:=9) (by_:=136) (zs:=[.int .i64 0,.int .i64 0,.int .i64 0,.int .i64 0,.bool false,.slice none 0 0,.slice none 0 0,.slice none 0 0,.slice none 0 0]) rfl (by kernel_rfl) (by kernel_rfl) rfl rfl rfl (by decide) (by decide)) (akP)) ?_
 refine Z1 (OC.to (bd [(0,1),(1,1),(2,1),(3,1),(4,1),(5,1),(6,1),(7,1),(8,1),(9,1),(10,1),(11,1),(12,1),(13,1),(14,1)] [.int .i64 0,.int .i64 0,.int .i64 0,.int .i64 0,.slice none 0 0,.int .i64 0,.slice none 0 0,.slice none 0 0,.slice none 0 0,.slice none 0 0,.slice none 0 0,.slice none 0 0,.slice none 0 0,.slice none 0 0,.slice none 0 0] [.val _,.val _,.val _,.val _,.sl _ _ _,.val _,.val _,.val _,.sl _ _ _,.val _,.val _,.val _,.val _,.val _,.val _]) (akQ)) ?_
 refine Z2 (al 3 [.int .i64 0,.int .i64 0,.int .i64 0,.int .i64 0,.slice none 0 0,.int .i64 0,.slice none 0 0,.slice none 0 0,.slice none 0 0,.slice none 0 0,.slice none 0 0,.slice none 0 0,.slice none 0 0,.slice none 0 0,.slice none 0 0]) ?_;refine bW [_,_,_,_,_,_,_,_,_,_,_,_,_,_,_] ?_;refine cn ?_;refine sq ?_;refine Ylw 15 [_,_,_,_,_,_,_,_,_,_,_,_,_,_,_] ?_
 refine Z1 (OC.to (bd [(0,15),(15,1),(16,1)] [.int .i64 0,.int .i64 0,.int .i64 0,.int .i64 0,.slice none 0 0,.int .i64 0,.slice none 0 0,.slice none 0 0,.slice none 0 0,.slice none 0 0,.slice none 0 0,.slice none 0 0,.slice none 0 0,.slice none 0 0,.slice none 0 0,.slice none 0 0,.slice none 0 0] [_,_,_,_,_,_,_,_,_,_,_,_,_,_,_,.val _,.val _]) (aT6)) ?_;refine Z1 (ca (akD)) ?_;refine Z1 mo ?_;refine Z1 ex ?_;refine Z1 ex ?_;refine Z1 aB ?_;refine Z1 aB ?_;refine cn ?_;refine sq ?_;refine Z1 mo ?_;refine Z1 (ca (akE)) ?_;refine Z1 mo ?_;refine Z1 ex ?_;refine Z1 ex ?_
 refine Z2 (al 4 [.int .i64 0,.int .i64 0,.int .i64 0,.int .i64 0,.slice none 0 0,.int .i64 0,.slice none 0 0,.slice none 0 0,.slice none 0 0,.slice none 0 0,.slice none 0 0,.slice none 0 0,.slice none 0 0,.slice none 0 0,.slice none 0 0,.slice none 0 0,.slice none 0 0]) ?_;refine bW [_,_,_,_,_,_,_,_,_,_,_,_,_,_,_,_,_] ?_;refine Z1 aB ?_;refine cn ?_;refine sq ?_;refine Z1 mo ?_;refine Z1 bz ?_;refine Z1 mo ?_;refine Z4 (fun hC=>mo) ?_;refine Z4 (fun hC=>bz) ?_;refine Z1 an ?_;refine Z1 mo ?_;refine Z4 (fun hC=>mo) ?_;refine Z4 (fun hC=>bz) ?_;refine Z1 an ?_;refine Z1 mo ?_
 refine Z4 (fun hC=>OC.to (bd [(0,15),(15,1),(16,1)] [.int .i64 0,.int .i64 0,.int .i64 0,.int .i64 0,.slice none 0 0,.int .i64 0,.slice none 0 0,.slice none 0 0,.slice none 0 0,.slice none 0 0,.slice none 0 0,.slice none 0 0,.slice none 0 0,.slice none 0 0,.slice none 0 0,.slice none 0 0,.slice none 0 0] [.val _,.val _,.val _,.val _,.val _,.val _,.val _,.val _,.val _,.val _,.val _,.val _,.val _,.val _,.val _,.val _,.val _]) (wY)) ?_;refine Z4 (fun hC=>ca (akC)) ?_;refine Z4 (fun hC=>bz) ?_;refine Z1 an ?_;refine Z1 mo ?_;refine Z4 (fun hC=>mo) ?_;refine Z4 (fun hC=>bz) ?_;refine Z1 an ?_
 refine Z1 mo ?_;refine Z4 (fun hC=>mo) ?_;refine Z4 (fun hC=>bz) ?_;refine Z1 an ?_;refine Z1 mo ?_;refine Zg rfl rfl rfl cA (fun hC=>mA (k:=17) (ds:=[_,_,_,_,_,_,_,_,_,_,_,_,_,_,_,_,_]) rfl rfl (by kernel_rfl) (by kernel_rfl) rfl rfl (by decide)) ⟨rfl,trivial⟩ ?_;refine Zg rfl rfl rfl cA (fun hC=>mA (k:=15) (ds:=[_,_,_,_,_,_,_,_,_,_,_,_,_,_,_]) rfl rfl (by kernel_rfl) (by kernel_rfl) rfl rfl (by decide)) ⟨rfl,trivial⟩ ?_
 refine Z4 (fun hC=>OC.to (bd [(0,15),(15,1),(16,1)] [.int .i64 0,.int .i64 0,.int .i64 0,.int .i64 0,.slice none 0 0,.int .i64 0,.slice none 0 0,.slice none 0 0,.slice none 0 0,.slice none 0 0,.slice none 0 0,.slice none 0 0,.slice none 0 0,.slice none 0 0,.slice none 0 0,.slice none 0 0,.slice none 0 0] [_,_,_,_,_,_,_,_,_,_,_,_,_,_,_,.val _,.val _]) (aT6)) ?_;refine Z4 (fun hC=>ca (akR)) ?_;refine Z1 an ?_;refine Z1 aB ?_;refine cn ?_;refine aP ?_;exact Rx rfl rfl
end Go.Proofs.YtgajclaoaphgoaaGreatDoor
namespace Go.Proofs.YtgajclaoaphgoaaGreatDoor
open Go.RowKit
structure Stk (s:StoryP):Prop where
 wf:s.tab.wf
 by_:dF s.code
 entry:s.entry.length≤1000000000000000
 funcs:s.tab.funcs.length≤140737488355328
 params:s.tab.params.length≤140737488355328
 first:(s.tab.things.getD 0 cY).words.length≤1000000000000000∧(s.tab.things.getD 0 cY).adjs.length≤1000000000000000∧(s.tab.things.getD 0 cY).ways.length≤1000000000000000
theorem Stk.ok {s:StoryP}(h:Stk s)(hL:uN s=true):SOk s:=⟨h.wf,by have:=aQV hL;omega,h.by_,h.entry,h.funcs,h.params,h.first⟩
section
variable {H:Type}{enc:TypeId × Value→H}{w:World}{base:Nat}{spare:Nat→Bool}{held:Bool}
def agC (y:WayP):List Av:=[vi y.dir,vi y.goal,vi y.cond,vi y.els]
def agD (x:ThingP):List Av:=[vi x.title,vi x.text,vi x.parent,vi x.flags,vb x.room,aK x.props,bB x.words,bB x.adjs,kZ x.ways]
def agE (x:SlotP):List Av:=[vi x.kind,bB x.words]
def agF (x:VerbP):List Av:=[vb x.meta_,lB x.lines]
def agG (x:DeedP):List Av:=[vi x.verb,vi x.phase,vi x.noun,vi x.second,vi x.cond,vi x.body]
def agH (t:TabP):List Av:=[vi t.title,vi t.by_,vi t.release,vi t.max,bB t.texts,vi t.flags,aK t.props,aK t.globals,gA t.things,gB t.acts,fY t.deeds,aK t.funcs,aK t.daemons,aK t.params,aK t.locals]
def agI (s:StoryP):List Av:=[vi s.tab.title,vi s.tab.by_,vi s.tab.release,vi s.tab.max,bB s.tab.texts,vi s.tab.flags,aK s.tab.props,aK s.tab.globals,gA s.tab.things,gB s.tab.acts,fY s.tab.deeds,aK s.tab.funcs,aK s.tab.daemons,aK s.tab.params,aK s.tab.locals,aK s.entry,bs s.code]
theorem aEY {l:List ByteArray}(h:∀ s∈l,s.size≤140737488351232):SW l:=fun s hs=>by have:=h s hs;omega
theorem agJ {n:Int}(h:(Lit.int .u8 n).wf=true):0≤n∧n<256:=by
 have h1:IntKind.u8.min≤n∧n≤IntKind.u8.max:=by simpa [Lit.wf] using h
 have h2:IntKind.u8.min=0:=rfl;have h3:IntKind.u8.max=255:=rfl;omega
structure ThO (x:ThingP):Prop where
 wf:x.wf
 len:x.words.length≤1000000000000000∧x.adjs.length≤1000000000000000∧x.ways.length≤1000000000000000
structure TabO (t:TabP):Prop where
 wf:t.wf
 funcs:t.funcs.length≤140737488355328
 params:t.params.length≤140737488355328
 first:(t.things.getD 0 cY).words.length≤1000000000000000∧(t.things.getD 0 cY).adjs.length≤1000000000000000∧(t.things.getD 0 cY).ways.length≤1000000000000000
theorem agK {l:List ThingP}(h:∀ x∈l,ThO x):(l.getD 0 cY).words.length≤1000000000000000∧(l.getD 0 cY).adjs.length≤1000000000000000∧(l.getD 0 cY).ways.length≤1000000000000000:=by
 cases l with
 | nil=>exact ⟨Nat.zero_le _,Nat.zero_le _,Nat.zero_le _⟩
 | cons x l=>exact (h x (by simp)).len
theorem aPF:kJ enc Tryz.prog w base spare held 29 (List Int) (fun l=>[bs l]) dF:=
 (kR (0:Int) 1 1 (fun n=>.val (.int .u8 n)) Tryz.underlying29 (by kernel_rfl) (by kernel_rfl) (by decide) (gW Tryz.underlying5) nS).map (fun l=>l) _ _ (fun d=>rfl) (fun l h=>mV.2 fun x hx=>agJ (h.1 x hx))
theorem agL:kJ enc Tryz.prog w base spare held 115 WayP agC (fun _=>True):=
 (wG Tryz.underlying115 (by kernel_rfl) (dV (k:=1) rfl (by kernel_rfl) (gW Tryz.underlying3) (dV (k:=1) rfl (by kernel_rfl) (gW Tryz.underlying3) (dV (k:=1) rfl (by kernel_rfl) (gW Tryz.underlying3) (dV (k:=1) rfl (by kernel_rfl) (gW Tryz.underlying3) wF))))).map (fun d=>⟨d.1,d.2.1,d.2.2.1,d.2.2.2.1⟩) _ _ (fun d=>rfl) (fun d h=>by exact trivial)
theorem agM:kJ enc Tryz.prog w base spare held 48 ThingP agD ThO:=
 (wG Tryz.underlying48 (by kernel_rfl) (dV (k:=1) rfl (by kernel_rfl) (gW Tryz.underlying3) (dV (k:=1) rfl (by kernel_rfl) (gW Tryz.underlying3) (dV (k:=1) rfl (by kernel_rfl) (gW Tryz.underlying3) (dV (k:=1) rfl (by kernel_rfl) (gW Tryz.underlying3) (dV (k:=1) rfl (by kernel_rfl) (aQ0 Tryz.underlying4) (dV (k:=1) rfl (by kernel_rfl) (kR (0:Int) 1 8 vi Tryz.underlying23 (by kernel_rfl) (by kernel_rfl) (by decide) (gW Tryz.underlying3) nS) (dV (k:=1) rfl (by kernel_rfl) (kR ByteArray.empty 1 16 vs Tryz.underlying22 (by kernel_rfl) (by kernel_rfl) (by decide) (aD7 Tryz.underlying9) nS) (dV (k:=1) rfl (by kernel_rfl) (kR ByteArray.empty 1 16 vs Tryz.underlying22 (by kernel_rfl) (by kernel_rfl) (by decide) (aD7 Tryz.underlying9) nS) (dV (k:=1) rfl (by kernel_rfl) (kR dD 4 32 oQ Tryz.underlying46 (by kernel_rfl) (by kernel_rfl) (by decide) agL aAR) wF)))))))))).map (fun d=>⟨d.1,d.2.1,d.2.2.1,d.2.2.2.1,d.2.2.2.2.1,d.2.2.2.2.2.1,d.2.2.2.2.2.2.1,d.2.2.2.2.2.2.2.1,d.2.2.2.2.2.2.2.2.1⟩) _ _ (fun d=>rfl) (fun d h=>by exact ⟨⟨aEY (h.2.2.2.2.2.2.1).1,aEY (h.2.2.2.2.2.2.2.1).1⟩,by have:=(h.2.2.2.2.2.2.1).2;dsimp only;omega,by have:=(h.2.2.2.2.2.2.2.1).2;dsimp only;omega,by have:=(h.2.2.2.2.2.2.2.2.1).2;dsimp only;omega⟩)
theorem agN:kJ enc Tryz.prog w base spare held 167 SlotP agE SlotP.wf:=
 (wG Tryz.underlying167 (by kernel_rfl) (dV (k:=1) rfl (by kernel_rfl) (gW Tryz.underlying3) (dV (k:=1) rfl (by kernel_rfl) (kR ByteArray.empty 1 16 vs Tryz.underlying22 (by kernel_rfl) (by kernel_rfl) (by decide) (aD7 Tryz.underlying9) nS) wF))).map (fun d=>⟨d.1,d.2.1⟩) _ _ (fun d=>rfl) (fun d h=>by exact (aEY h.2.1.1))
theorem agO:kJ enc Tryz.prog w base spare held 69 VerbP agF VerbP.wf:=
 (wG Tryz.underlying69 (by kernel_rfl) (dV (k:=1) rfl (by kernel_rfl) (aQ0 Tryz.underlying4) (dV (k:=1) rfl (by kernel_rfl) (kR ([]:List SlotP) 1 24 fQ Tryz.underlying67 (by kernel_rfl) (by kernel_rfl) (by decide) (kR cH 2 32 lJ Tryz.underlying97 (by kernel_rfl) (by kernel_rfl) (by decide) agN aAR) nS) wF))).map (fun d=>⟨d.1,d.2.1⟩) _ _ (fun d=>rfl) (fun d h=>by exact fun l hl y hy=>(h.2.1.1 l hl).1 y hy)
theorem agP:kJ enc Tryz.prog w base spare held 73 DeedP agG (fun _=>True):=
 (wG Tryz.underlying73 (by kernel_rfl) (dV (k:=1) rfl (by kernel_rfl) (gW Tryz.underlying3) (dV (k:=1) rfl (by kernel_rfl) (gW Tryz.underlying3) (dV (k:=1) rfl (by kernel_rfl) (gW Tryz.underlying3) (dV (k:=1) rfl (by kernel_rfl) (gW Tryz.underlying3) (dV (k:=1) rfl (by kernel_rfl) (gW Tryz.underlying3) (dV (k:=1) rfl (by kernel_rfl) (gW Tryz.underlying3) wF))))))).map (fun d=>⟨d.1,d.2.1,d.2.2.1,d.2.2.2.1,d.2.2.2.2.1,d.2.2.2.2.2.1⟩) _ _ (fun d=>rfl) (fun d h=>by exact trivial)
theorem agQ:kJ enc Tryz.prog w base spare held 28 TabP agH TabO:=
 (wG Tryz.underlying28 (by kernel_rfl) (dV (k:=1) rfl (by kernel_rfl) (gW Tryz.underlying3) (dV (k:=1) rfl (by kernel_rfl) (gW Tryz.underlying3) (dV (k:=1) rfl (by kernel_rfl) (gW Tryz.underlying3) (dV (k:=1) rfl (by kernel_rfl) (gW Tryz.underlying3) (dV (k:=1) rfl (by kernel_rfl) (kR ByteArray.empty 1 16 vs Tryz.underlying22 (by kernel_rfl) (by kernel_rfl) (by decide) (aD7 Tryz.underlying9) nS) (dV (k:=1) rfl (by kernel_rfl) (gW Tryz.underlying3) (dV (k:=1) rfl (by kernel_rfl) (kR (0:Int) 1 8 vi Tryz.underlying23 (by kernel_rfl) (by kernel_rfl) (by decide) (gW Tryz.underlying3) nS) (dV (k:=1) rfl (by kernel_rfl) (kR (0:Int) 1 8 vi Tryz.underlying23 (by kernel_rfl) (by kernel_rfl) (by decide) (gW Tryz.underlying3) nS) (dV (k:=1) rfl (by kernel_rfl) (kR cY 9 136 iT Tryz.underlying24 (by kernel_rfl) (by kernel_rfl) (by decide) agM aAR) (dV (k:=1) rfl (by kernel_rfl) (kR gO 2 32 iC Tryz.underlying25 (by kernel_rfl) (by kernel_rfl) (by decide) agO aAR) (dV (k:=1) rfl (by kernel_rfl) (kR fZ 6 48 mT Tryz.underlying26 (by kernel_rfl) (by kernel_rfl) (by decide) agP aAR) (dV (k:=1) rfl (by kernel_rfl) (kR (0:Int) 1 8 vi Tryz.underlying23 (by kernel_rfl) (by kernel_rfl) (by decide) (gW Tryz.underlying3) nS) (dV (k:=1) rfl (by kernel_rfl) (kR (0:Int) 1 8 vi Tryz.underlying23 (by kernel_rfl) (by kernel_rfl) (by decide) (gW Tryz.underlying3) nS) (dV (k:=1) rfl (by kernel_rfl) (kR (0:Int) 1 8 vi Tryz.underlying23 (by kernel_rfl) (by kernel_rfl) (by decide) (gW Tryz.underlying3) nS) (dV (k:=1) rfl (by kernel_rfl) (kR (0:Int) 1 8 vi Tryz.underlying23 (by kernel_rfl) (by kernel_rfl) (by decide) (gW Tryz.underlying3) nS) wF)))))))))))))))).map (fun d=>⟨d.1,d.2.1,d.2.2.1,d.2.2.2.1,d.2.2.2.2.1,d.2.2.2.2.2.1,d.2.2.2.2.2.2.1,d.2.2.2.2.2.2.2.1,d.2.2.2.2.2.2.2.2.1,d.2.2.2.2.2.2.2.2.2.1,d.2.2.2.2.2.2.2.2.2.2.1,d.2.2.2.2.2.2.2.2.2.2.2.1,d.2.2.2.2.2.2.2.2.2.2.2.2.1,d.2.2.2.2.2.2.2.2.2.2.2.2.2.1,d.2.2.2.2.2.2.2.2.2.2.2.2.2.2.1⟩) _ _ (fun d=>rfl) (fun d h=>by exact ⟨⟨aEY (h.2.2.2.2.1).1,fun x hx=>((h.2.2.2.2.2.2.2.2.1).1 x hx).wf,(h.2.2.2.2.2.2.2.2.2.1).1⟩,by have:=(h.2.2.2.2.2.2.2.2.2.2.2.1).2;dsimp only;omega,by have:=(h.2.2.2.2.2.2.2.2.2.2.2.2.2.1).2;dsimp only;omega,agK (h.2.2.2.2.2.2.2.2.1).1⟩)
theorem aHY:kJ enc Tryz.prog w base spare held 31 StoryP agI Stk:=
 (wG Tryz.underlying31 (by kernel_rfl) (dV (k:=15) rfl (by kernel_rfl) agQ (dV (k:=1) rfl (by kernel_rfl) (kR (0:Int) 1 8 vi Tryz.underlying23 (by kernel_rfl) (by kernel_rfl) (by decide) (gW Tryz.underlying3) nS) (dV (k:=1) rfl (by kernel_rfl) aPF wF)))).map (fun d=>⟨d.1,d.2.1,d.2.2.1⟩) _ _ (fun d=>rfl) (fun d h=>⟨h.1.wf,h.2.2.1,by have:=h.2.1.2;dsimp only;omega,h.1.funcs,h.1.params,h.1.first⟩)
end
end Go.Proofs.YtgajclaoaphgoaaGreatDoor
namespace Go.Proofs.YtgajclaoaphgoaaGreatDoor
open Go.RowKit
set_option maxHeartbeats 1600000
theorem aoT {l:List Int}{k:Nat}(h:k<l.length):l.getD k 0∈l:=by rw [List.getD,List.getElem?_eq_getElem h];exact List.getElem_mem h
theorem akT (n:Int)(l:List Int)(hl:l.length≤100000):PC Tryz.prog 298 [vi n,aK l] (vb (decide (n∈l))):=by
 refine FB 0 18 Tryz.func298 ?_;refine G ?_;refine LP (ι:=Nat) (fun k=>[(5,vi k)]) (fun _=>[]) (fun k=>k≤l.length∧∀ j,j<k→l.getD j 0≠n) (fun k=>l.length-k) 0 ⟨Nat.zero_le _,fun j hj=>by omega⟩ ?_;intro k hI;refine Gd (fun hb=>?_) fun hb=>?_
 ·have hk:k<l.length:=by simpa using hb
  refine Gd (fun hb=>?_) fun hb=>?_
  ·refine G ?_;refine RB (h:=(decide_eq_true (beq_iff_eq.1 hb ▸ aoT hk)).symm)
  refine G ?_;refine NX (k+1) ⟨hk,fun j hj=>?_⟩;rcases Nat.lt_succ_iff_lt_or_eq.1 hj with h|rfl
  ·exact hI.2 j h
  simpa using hb
 refine G ?_;have hk:k=l.length:=by simp at hb;omega
 refine RB (h:=(decide_eq_false fun hm=>?_).symm);obtain ⟨j,hj,e⟩:=List.mem_iff_getElem.1 hm;refine hI.2 j (by omega) ?_;rw [List.getD,List.getElem?_eq_getElem hj,e];rfl
theorem aoU:∀ l:List Int,pX 1 (l.map vi)=true
 | []=>rfl
 | x::l=>by rw [List.map_cons];unfold pX;rw [aoU l];rfl
theorem bsI {P:Program}{o:Oper}{ρ:Operand→Av}{T e:TypeId}{n by_:Nat}{z:List Value}(zs:List Int){parts:List (Nat × Operand)}(ho:o.op=.buildSlice T n parts.toArray:=by rfl)(hsq:lR 0 (parts.map (·.2))=parts:=by rfl)(hT:eB P T=some e:=by rfl)(hi:lW P e=some (1,by_,z):=by rfl)(hx:(parts.map (·.2)).map ρ=zs.map vi:=by rfl)(hn:(parts.map (·.2)).length=n:=by rfl)(hz:n=zs.length:=by rfl)(hm:n≤16777216:=by decide):OC P o ρ [] (aK zs) []:=by
 subst hz;exact OC.to (fO (ps:=parts.map (·.2)) (xs:=zs.map vi) (zs:=z) (by rw [hsq];exact ho) hT hi hx (aoU zs) hn (by omega) hm) (aAB zs)
theorem arL (n:Int):PC Tryz.prog 267 [vi n] (vb (decide (n∈uE))):=by
 refine FB 0 6 Tryz.func267 ?_;refine G ?_;refine Z1 (bsI uE) ?_;refine C (akT n uE (by decide)) ?_;exact RT rfl
theorem akV (n:Int):PC Tryz.prog 268 [vi n] (vi (vY n)):=by
 refine FB 0 11 Tryz.func268 ?_;refine Gd (fun hb=>?_) fun hb=>?_
 ·refine G ?_;exact RI (h:=by simp at hb;unfold vY;rw [if_pos hb])
 refine Gd (fun hc=>?_) fun hc=>?_
 ·refine G ?_;exact RI (h:=by simp at hb hc;unfold vY;rw [if_neg hb,if_pos (by omega)])
 refine G ?_;exact RI (h:=by simp at hb hc;unfold vY;rw [if_neg hb,if_neg (by omega)])
theorem aoV (x:bK):PC Tryz.prog 275 [iV x] (vi (lQ x)):=by
 refine FB 0 7 Tryz.func275 ?_;refine G ?_;refine Z1 (bsI [1,3,5,7,8,9,10,11,12,13,19,20,26]) ?_;refine C (akT x.1 [1,3,5,7,8,9,10,11,12,13,19,20,26] (by decide)) ?_;refine cd (fun hb=>?_) fun hb=>?_
 all_goals
  refine G ?_;exact RI (h:=by simp only [decide_eq_true_eq,decide_eq_false_iff_not] at hb;unfold lQ;simp [hb])
theorem aoW (t:TabP)(x:bK):PC Tryz.prog 274 [bR t,iV x] (vi (jM t x)):=by
 refine FB 0 50 Tryz.func274 ?_;refine G ?_;refine Z1 (bsI [8,14,17]) ?_;refine C (akT x.1 [8,14,17] (by decide)) ?_;refine cd (fun h1=>?_) fun h1=>?_
 ·refine G ?_;exact RI (h:=by simp only [decide_eq_true_eq] at h1;unfold jM;rw [if_pos h1])
 refine G ?_;refine Z1 (bsI [2,4,6,9,10,11,12,13,15,16,18,19,20,22,23,25,27,31,32,34,36]) ?_;refine C (akT x.1 [2,4,6,9,10,11,12,13,15,16,18,19,20,22,23,25,27,31,32,34,36] (by decide)) ?_;simp only [decide_eq_false_iff_not] at h1;refine cd (fun h2=>?_) fun h2=>?_
 ·refine G ?_;exact RI (h:=by simp only [decide_eq_true_eq] at h2;unfold jM;rw [if_neg h1,if_pos h2])
 simp only [decide_eq_false_iff_not] at h2;refine Gd (fun h3=>?_) fun h3=>?_
 ·refine G ?_;exact RI (h:=by
   unfold jM;rw [if_neg h1,if_neg h2,if_pos]
   simp only [Bool.or_eq_true,bne_iff_ne,decide_eq_true_eq] at h3;omega)
 simp only [Bool.or_eq_false_iff,bne_eq_false_iff_eq,decide_eq_false_iff_not] at h3;have hp:jM t x=if nW t.funcs x.2<0∨nW t.funcs x.2≥(t.params.length:Int) then 0 else nW t.params (nW t.funcs x.2):=by
  conv=>lhs;unfold jM
  rw [if_neg h1,if_neg h2,if_neg (by omega)]
 refine Gd (fun h4=>?_) fun h4=>?_
 ·refine G ?_;exact RI (h:=by
   rw [hp,if_pos];simp only [Bool.or_eq_true,decide_eq_true_eq] at h4;exact h4)
 simp only [Bool.or_eq_false_iff,decide_eq_false_iff_not] at h4;have h5:¬ t.funcs.getD x.2.toNat 0<0∧¬ t.funcs.getD x.2.toNat 0≥(t.params.length:Int):=h4;refine G ?_;exact RI (h:=by rw [hp,if_neg (show ¬ (nW t.funcs x.2<0∨nW t.funcs x.2≥(t.params.length:Int)) from fun h=>h.elim h5.1 h5.2)];rfl)
end Go.Proofs.YtgajclaoaphgoaaGreatDoor
