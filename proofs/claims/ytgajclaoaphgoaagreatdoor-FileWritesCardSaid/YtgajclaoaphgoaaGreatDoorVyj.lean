/- Parts of the proof of a law of this seat: rules and contracts; no conditions. -/
import Derived.Test.YtgajclaoaphgoaaGreatDoorVa
import Derived.Test.YtgajclaoaphgoaaGreatDoorWireP
import Derived.Test.YtgajclaoaphgoaaGreatDoorFl
import Derived.Test.YtgajclaoaphgoaaGreatDoorProg
import Derived.KernelRfl
import Derived.Test.YtgajclaoaphgoaaGreatDoorCr
import Derived.Test.YtgajclaoaphgoaaGreatDoorMx
import Derived.Test.YtgajclaoaphgoaaGreatDoorAv
import Derived.Test.YtgajclaoaphgoaaGreatDoorMp
set_option maxHeartbeats 6400000
set_option maxRecDepth 100000
set_option linter.unusedVariables false
set_option linter.unusedSimpArgs false
namespace Go.Proofs.YtgajclaoaphgoaaGreatDoor
open Go.RowKit
theorem aD5 (zs:List Int)(l:List ByteArray)(hz:(zs++aJ aY l).length≤100000000):FC Tryz.prog 23 [.own 0 0,bB l] [(0,.live 59 [bs (zs)])] .any [(0,.live 59 [bs (zs++aJ aY l)])]:=by
 have hz2:(zs++aC (l.length:Int)++l.flatMap aY).length≤100000000:=by unfold aJ at hz;rwa [List.append_assoc]
 refine FB 1 9 Tryz.func23 ?_;refine G ?_;refine Z1 (iE (cs:=[.own _ _]) rfl rfl) ?_;refine aZ rfl rfl (dB [] rfl (by kernel_rfl) ((ah5 zs l 25 aY (by kernel_rfl) hz2 (fun ys h x hx hl=>aHS ys x h (by have:=abM x;simp only [List.length_append] at hl;omega))).m) rfl (by simp) (by simp [bQ]) (by simp) (by simp) (yR (by simp)) bH (by simp [aH]) bH) ⟨rfl,trivial⟩ ?_;refine G ?_;exact ⟨.inr rfl,iN rfl,⟨by rw [show zs++aJ aY l=zs++aC (l.length:Int)++l.flatMap aY from (List.append_assoc ..).symm];rfl,trivial⟩⟩
theorem alE (zs:List Int)(x:SlotP)(hz:(zs++kQ x).length≤100000000):FC Tryz.prog 141 [.own 0 0,lJ x] [(0,.live 59 [bs (zs)])] .any [(0,.live 59 [bs (zs++kQ x)])]:=by
 have hz1:zs.length≤100000000:=by rw [List.length_append] at hz;omega
 have hz2:(zs++cQ x.kind++aJ aY x.words).length≤100000000:=by unfold kQ at hz;rwa [List.append_assoc]
 refine FB 1 12 Tryz.func141 ?_;refine G ?_;refine aZ rfl rfl (dB [] rfl (by kernel_rfl) ((zV zs x.kind hz1).m) rfl (by simp) (by simp [bQ]) (by simp) (by simp) (dU (by simp)) bH (by simp [aH]) bH) ⟨rfl,trivial⟩ ?_;refine G ?_;refine aZ rfl rfl (dB [] rfl (by kernel_rfl) ((aD5 (zs++cQ x.kind) x.words hz2).m) rfl (by simp) (by simp [bQ]) (by simp) (by simp) (dU (by simp)) bH (by simp [aH]) bH) ⟨rfl,trivial⟩ ?_;refine G ?_;exact ⟨.inr rfl,iN rfl,⟨by rw [show zs++kQ x=zs++cQ x.kind++aJ aY x.words from (List.append_assoc ..).symm];rfl,trivial⟩⟩
theorem alF (zs:List Int)(l:List SlotP)(hz:(zs++aJ kQ l).length≤100000000):FC Tryz.prog 79 [.own 0 0,fQ l] [(0,.live 59 [bs (zs)])] .any [(0,.live 59 [bs (zs++aJ kQ l)])]:=by
 have hz2:(zs++aC (l.length:Int)++l.flatMap kQ).length≤100000000:=by unfold aJ at hz;rwa [List.append_assoc]
 refine FB 1 9 Tryz.func79 ?_;refine G ?_;refine Z1 (iE (cs:=[.own _ _]) rfl rfl) ?_;refine aZ rfl rfl (dB [] rfl (by kernel_rfl) ((abN zs l 141 kQ (by kernel_rfl) hz2 (fun ys h x hx hl=>alE ys x hl)).m) rfl (by simp) (by simp [bQ]) (by simp) (by simp) (yR (by simp)) bH (by simp [aH]) bH) ⟨rfl,trivial⟩ ?_;refine G ?_;exact ⟨.inr rfl,iN rfl,⟨by rw [show zs++aJ kQ l=zs++aC (l.length:Int)++l.flatMap kQ from (List.append_assoc ..).symm];rfl,trivial⟩⟩
theorem aQO (zs:List Int)(l:List Int)(hm:∀ x∈l,x≤9223372036854775807)(hz:(zs++aJ aC l).length≤100000000):FC Tryz.prog 24 [.own 0 0,aK l] [(0,.live 59 [bs (zs)])] .any [(0,.live 59 [bs (zs++aJ aC l)])]:=by
 have hz2:(zs++aC (l.length:Int)++l.flatMap aC).length≤100000000:=by unfold aJ at hz;rwa [List.append_assoc]
 refine FB 1 9 Tryz.func24 ?_;refine G ?_;refine Z1 (iE (cs:=[.own _ _]) rfl rfl) ?_;refine aZ rfl rfl (dB [] rfl (by kernel_rfl) ((ah6 zs l 22 aC (by kernel_rfl) hz2 (fun ys h x hx hl=>lL ys x h (hm x hx))).m) rfl (by simp) (by simp [bQ]) (by simp) (by simp) (yR (by simp)) bH (by simp [aH]) bH) ⟨rfl,trivial⟩ ?_;refine G ?_;exact ⟨.inr rfl,iN rfl,⟨by rw [show zs++aJ aC l=zs++aC (l.length:Int)++l.flatMap aC from (List.append_assoc ..).symm];rfl,trivial⟩⟩
theorem adA (zs:List Int)(x:VerbP)(hz:(zs++fS x).length≤100000000):FC Tryz.prog 30 [.own 0 0,iC x] [(0,.live 59 [bs (zs)])] .any [(0,.live 59 [bs (zs++fS x)])]:=by
 have hz1:zs.length≤100000000:=by rw [List.length_append] at hz;omega
 have hz3:(zs++gQ x.meta_++aJ pK x.lines).length≤100000000:=by unfold fS at hz;rwa [List.append_assoc]
 have hz2:(zs++gQ x.meta_++aC (x.lines.length:Int)++x.lines.flatMap pK).length≤100000000:=by unfold aJ at hz3;rwa [List.append_assoc]
 refine FB 1 14 Tryz.func30 ?_;refine G ?_;refine aZ rfl rfl (dB [] rfl (by kernel_rfl) ((aPP zs x.meta_ hz1).m) rfl (by simp) (by simp [bQ]) (by simp) (by simp) (dU (by simp)) bH (by simp [aH]) bH) ⟨rfl,trivial⟩ ?_;refine G ?_;refine Z1 (iE (cs:=[.own _ _]) rfl rfl) ?_;refine aZ rfl rfl (dB [] rfl (by kernel_rfl) ((ah7 (zs++gQ x.meta_) x.lines 79 pK (by kernel_rfl) hz2 (fun ys h x hx hl=>alF ys x hl)).m) rfl (by simp) (by simp [bQ]) (by simp) (by simp) (yR (by simp)) bH (by simp [aH]) bH) ⟨rfl,trivial⟩ ?_;refine G ?_
 exact ⟨.inr rfl,iN rfl,⟨by rw [show zs++fS x=zs++gQ x.meta_++aC (x.lines.length:Int)++x.lines.flatMap pK from by unfold fS aJ;simp only [List.append_assoc]];rfl,trivial⟩⟩
def aDY (y:WayP):Prop:=y.goal≤1000000000000000∧(-1000000000000000≤y.cond∧y.cond≤1000000000000000)∧(-1000000000000000≤y.els∧y.els≤1000000000000000)
theorem alG (zs:List Int)(y:WayP)(hy:aDY y)(hz:(zs++gR y).length≤100000000):FC Tryz.prog 77 [.own 0 0,oQ y] [(0,.live 59 [bs (zs)])] .any [(0,.live 59 [bs (zs++gR y)])]:=by
 obtain ⟨y1,⟨y2,y3⟩,y4,y5⟩:=hy;unfold gR at hz;simp only [List.length_append] at hz;refine FB 1 20 Tryz.func77 ?_;refine G ?_;refine aZ rfl rfl (dB [] rfl (by kernel_rfl) ((zV zs y.dir (by omega)).m) rfl (by simp) (by simp [bQ]) (by simp) (by simp) (dU (by simp)) bH (by simp [aH]) bH) ⟨rfl,trivial⟩ ?_;refine G ?_;refine aZ rfl rfl (dB [] rfl (by kernel_rfl) ((lL (zs++cQ y.dir) y.goal (by simp only [List.length_append];omega) (by omega)).m) rfl (by simp) (by simp [bQ]) (by simp) (by simp) (dU (by simp)) bH (by simp [aH]) bH) ⟨rfl,trivial⟩ ?_;refine G ?_
 refine aZ rfl rfl (dB [] rfl (by kernel_rfl) ((xQ (zs++cQ y.dir++aC y.goal) y.cond (by simp only [List.length_append];omega) y3 y2).m) rfl (by simp) (by simp [bQ]) (by simp) (by simp) (dU (by simp)) bH (by simp [aH]) bH) ⟨rfl,trivial⟩ ?_;refine G ?_;refine aZ rfl rfl (dB [] rfl (by kernel_rfl) ((xQ (zs++cQ y.dir++aC y.goal++aC (y.cond+1)) y.els (by simp only [List.length_append];omega) y5 y4).m) rfl (by simp) (by simp [bQ]) (by simp) (by simp) (dU (by simp)) bH (by simp [aH]) bH) ⟨rfl,trivial⟩ ?_;refine G ?_
 exact ⟨.inr rfl,iN rfl,⟨by rw [show zs++gR y=zs++cQ y.dir++aC y.goal++aC (y.cond+1)++aC (y.els+1) from by unfold gR;simp only [List.append_assoc]];rfl,trivial⟩⟩
def gG (x:DeedP):List Int:=aC x.verb++cQ x.phase++aC (x.noun+1)++aC (x.second+1)++aC (x.cond+1)++aC x.body
def aIT (x:DeedP):Prop:=x.verb≤1000000000000000∧(-1000000000000000≤x.noun∧x.noun≤1000000000000000)∧(-1000000000000000≤x.second∧x.second≤1000000000000000)∧(-1000000000000000≤x.cond∧x.cond≤1000000000000000)∧x.body≤1000000000000000
theorem adB (zs:List Int)(x:DeedP)(hy:aIT x)(hz:(zs++gG x).length≤100000000):FC Tryz.prog 32 [.own 0 0,mT x] [(0,.live 59 [bs (zs)])] .any [(0,.live 59 [bs (zs++gG x)])]:=by
 obtain ⟨y1,⟨y2,y3⟩,⟨y4,y5⟩,⟨y6,y7⟩,y8⟩:=hy;unfold gG at hz;simp only [List.length_append] at hz;refine FB 1 28 Tryz.func32 ?_;refine G ?_;refine aZ rfl rfl (dB [] rfl (by kernel_rfl) ((lL (zs) x.verb (by omega) (by omega)).m) rfl (by simp) (by simp [bQ]) (by simp) (by simp) (dU (by simp)) bH (by simp [aH]) bH) ⟨rfl,trivial⟩ ?_;refine G ?_;refine aZ rfl rfl (dB [] rfl (by kernel_rfl) ((zV (zs++aC x.verb) x.phase (by simp only [List.length_append];omega) ).m) rfl (by simp) (by simp [bQ]) (by simp) (by simp) (dU (by simp)) bH (by simp [aH]) bH) ⟨rfl,trivial⟩ ?_
 refine G ?_;refine aZ rfl rfl (dB [] rfl (by kernel_rfl) ((xQ (zs++aC x.verb++cQ x.phase) x.noun (by simp only [List.length_append];omega) y3 y2).m) rfl (by simp) (by simp [bQ]) (by simp) (by simp) (dU (by simp)) bH (by simp [aH]) bH) ⟨rfl,trivial⟩ ?_;refine G ?_;refine aZ rfl rfl (dB [] rfl (by kernel_rfl) ((xQ (zs++aC x.verb++cQ x.phase++aC (x.noun+1)) x.second (by simp only [List.length_append];omega) y5 y4).m) rfl (by simp) (by simp [bQ]) (by simp) (by simp) (dU (by simp)) bH (by simp [aH]) bH) ⟨rfl,trivial⟩ ?_;refine G ?_
 refine aZ rfl rfl (dB [] rfl (by kernel_rfl) ((xQ (zs++aC x.verb++cQ x.phase++aC (x.noun+1)++aC (x.second+1)) x.cond (by simp only [List.length_append];omega) y7 y6).m) rfl (by simp) (by simp [bQ]) (by simp) (by simp) (dU (by simp)) bH (by simp [aH]) bH) ⟨rfl,trivial⟩ ?_;refine G ?_;refine aZ rfl rfl (dB [] rfl (by kernel_rfl) ((lL (zs++aC x.verb++cQ x.phase++aC (x.noun+1)++aC (x.second+1)++aC (x.cond+1)) x.body (by simp only [List.length_append];omega) (by omega)).m) rfl (by simp) (by simp [bQ]) (by simp) (by simp) (dU (by simp)) bH (by simp [aH]) bH) ⟨rfl,trivial⟩ ?_;refine G ?_
 exact ⟨.inr rfl,iN rfl,⟨by rw [show zs++gG x=zs++aC x.verb++cQ x.phase++aC (x.noun+1)++aC (x.second+1)++aC (x.cond+1)++aC x.body from by unfold gG;simp only [List.append_assoc]];rfl,trivial⟩⟩
def fH (x:ThingP):List Int:=aC x.title++aC (x.text+1)++aC x.parent++aC x.flags++gQ x.room++cZ x.props++aJ aY x.words++aJ aY x.adjs++aJ gR x.ways
def aQF (x:ThingP):Prop:=x.title≤1000000000000000∧(-1000000000000000≤x.text∧x.text≤1000000000000000)∧x.parent≤1000000000000000∧x.flags≤1000000000000000∧x.props.length≤100000000∧∀ y∈x.ways,aDY y
theorem ac9 (zs:List Int)(x:ThingP)(hy:aQF x)(hz:(zs++fH x).length≤100000000):FC Tryz.prog 28 [.own 0 0,iT x] [(0,.live 59 [bs (zs)])] .any [(0,.live 59 [bs (zs++fH x)])]:=by
 obtain ⟨y1,⟨y2,y3⟩,y4,y5,y6,y7⟩:=hy;unfold fH at hz;simp only [List.length_append] at hz;refine FB 1 42 Tryz.func28 ?_;refine G ?_;refine aZ rfl rfl (dB [] rfl (by kernel_rfl) ((lL (zs) x.title (by omega) (by omega)).m) rfl (by simp) (by simp [bQ]) (by simp) (by simp) (dU (by simp)) bH (by simp [aH]) bH) ⟨rfl,trivial⟩ ?_;refine G ?_;refine aZ rfl rfl (dB [] rfl (by kernel_rfl) ((xQ (zs++aC x.title) x.text (by simp only [List.length_append];omega) y3 y2).m) rfl (by simp) (by simp [bQ]) (by simp) (by simp) (dU (by simp)) bH (by simp [aH]) bH) ⟨rfl,trivial⟩ ?_
 refine G ?_;refine aZ rfl rfl (dB [] rfl (by kernel_rfl) ((lL (zs++aC x.title++aC (x.text+1)) x.parent (by simp only [List.length_append];omega) (by omega)).m) rfl (by simp) (by simp [bQ]) (by simp) (by simp) (dU (by simp)) bH (by simp [aH]) bH) ⟨rfl,trivial⟩ ?_;refine G ?_;refine aZ rfl rfl (dB [] rfl (by kernel_rfl) ((lL (zs++aC x.title++aC (x.text+1)++aC x.parent) x.flags (by simp only [List.length_append];omega) (by omega)).m) rfl (by simp) (by simp [bQ]) (by simp) (by simp) (dU (by simp)) bH (by simp [aH]) bH) ⟨rfl,trivial⟩ ?_;refine G ?_
 refine aZ rfl rfl (dB [] rfl (by kernel_rfl) ((aPP (zs++aC x.title++aC (x.text+1)++aC x.parent++aC x.flags) x.room (by simp only [List.length_append];omega) ).m) rfl (by simp) (by simp [bQ]) (by simp) (by simp) (dU (by simp)) bH (by simp [aH]) bH) ⟨rfl,trivial⟩ ?_;refine G ?_;refine aZ rfl rfl (dB [] rfl (by kernel_rfl) ((aHT (zs++aC x.title++aC (x.text+1)++aC x.parent++aC x.flags++gQ x.room) x.props (by simp only [List.length_append];omega) y6).m) rfl (by simp) (by simp [bQ]) (by simp) (by simp) (dU (by simp)) bH (by simp [aH]) bH) ⟨rfl,trivial⟩ ?_;refine G ?_
 refine aZ rfl rfl (dB [] rfl (by kernel_rfl) ((aD5 (zs++aC x.title++aC (x.text+1)++aC x.parent++aC x.flags++gQ x.room++cZ x.props) x.words (by simp only [List.length_append];omega) ).m) rfl (by simp) (by simp [bQ]) (by simp) (by simp) (dU (by simp)) bH (by simp [aH]) bH) ⟨rfl,trivial⟩ ?_;refine G ?_
 refine aZ rfl rfl (dB [] rfl (by kernel_rfl) ((aD5 (zs++aC x.title++aC (x.text+1)++aC x.parent++aC x.flags++gQ x.room++cZ x.props++aJ aY x.words) x.adjs (by simp only [List.length_append];omega) ).m) rfl (by simp) (by simp [bQ]) (by simp) (by simp) (dU (by simp)) bH (by simp [aH]) bH) ⟨rfl,trivial⟩ ?_;refine G ?_;refine Z1 (iE (cs:=[.own _ _]) rfl rfl) ?_
 refine aZ rfl rfl (dB [] rfl (by kernel_rfl) ((abO (zs++aC x.title++aC (x.text+1)++aC x.parent++aC x.flags++gQ x.room++cZ x.props++aJ aY x.words++aJ aY x.adjs) x.ways 77 gR (by kernel_rfl) (by simp only [List.length_append];simp only [aJ,List.length_append] at hz ⊢;omega) (fun ys h y hy hl=>alG ys y (y7 y hy) hl)).m) rfl (by simp) (by simp [bQ]) (by simp) (by simp) (yR (by simp)) bH (by simp [aH]) bH) ⟨rfl,trivial⟩ ?_;refine G ?_
 exact ⟨.inr rfl,iN rfl,⟨by rw [show zs++fH x=zs++aC x.title++aC (x.text+1)++aC x.parent++aC x.flags++gQ x.room++cZ x.props++aJ aY x.words++aJ aY x.adjs++aC (x.ways.length:Int)++x.ways.flatMap gR from by unfold fH aJ;simp only [List.append_assoc]];rfl,trivial⟩⟩
theorem aAB (l:List Int)(E:Env)(v:Value)(h:aA E (.sl 1 l.length (gE (l.map vi))) v):aA E (aK l) v:=pI (fun E j hj v hv=>by
 have e:gE (l.map vi) j=vi (l.getD j 0):=by
  show (l.map vi).getD j .any=_;rw [List.getD,List.getElem?_map,List.getD,List.getElem?_eq_getElem hj];rfl
 rwa [e] at hv) E v h
theorem aPV (x:bK):PC Tryz.prog 185 [iV x] (vb (x.1==24||x.1==25)):=by
 refine FB 2 11 Tryz.func185 ?_;refine G ?_;exact Rx rfl rfl
theorem ab3 (x:bK):PC Tryz.prog 186 [iV x] (vb (((x.1==27||x.1==28)||x.1==29)||x.1==30)):=by
 refine FB 2 21 Tryz.func186 ?_;refine G ?_;exact Rx rfl rfl
theorem aPW (n:Int):PC Tryz.prog 232 [vi n] (vb (decide (n≥1)&&decide (n≤38))):=by
 refine FB 2 9 Tryz.func232 ?_;refine G ?_;exact Rx rfl rfl
def mG (n lo hi:Int):Bool:=decide (n≥lo)&&decide (n<hi)
theorem alH {l:List Int}{n:Int}(h:¬ (!mG n 0 (l.length:Int))=true):0≤n∧n<l.length:=by
 unfold mG at h;simp at h;exact h
theorem alI (n:Int):PC Tryz.prog 124 [vi n] (vb (pW n)):=by
 refine FB 2 8 Tryz.func124 ?_;refine G ?_;exact Rx rfl (bP (aUR n))
theorem oS (n lo hi:Int):PC Tryz.prog 231 [vi n,vi lo,vi hi] (vb (mG n lo hi)):=by
 refine FB 2 15 Tryz.func231 ?_;refine G ?_;exact Rx rfl rfl
theorem alJ (l:List Int)(n:Int)(hl:l.length≤1000000)(k:Int)(hi:PC Tryz.prog 304 [aK l,vi n] (vi k))(hk:decide (k≥0)=decide (n∈l)):PC Tryz.prog 292 [aK l,vi n] (vb (decide (n∈l))):=by
 refine FB 2 9 Tryz.func292 ?_;refine C (hi) ?_;exact Rx rfl (bP hk)
def tJ (n:Int):List Int→Nat→Int
 | [],_=>-1
 | x::l,k=>if n=x then (k:Int) else tJ n l (k+1)
theorem aUS (n:Int):∀ (l:List Int) (k:Nat),decide (tJ n l k≥0)=decide (n∈l)
 | [],k=>by simp [tJ]
 | x::l,k=>by
  unfold tJ;by_cases h:n=x
  ·rw [if_pos h];simp [h]
  rw [if_neg h,aUS n l (k+1)];simp [h]
theorem aUT {n:Int}{l:List Int}{k:Nat}(h:k<l.length):tJ n (l.drop k) k=if n=l.getD k 0 then (k:Int) else tJ n (l.drop (k+1)) (k+1):=by
 rw [List.drop_eq_getElem_cons h,List.getD,List.getElem?_eq_getElem h];rfl
theorem alK (l:List Int)(n:Int)(hl:l.length≤1000000):PC Tryz.prog 304 [aK l,vi n] (vi (tJ n l 0)):=by
 refine FB 2 19 Tryz.func304 ?_;refine G ?_;refine bM (ι:=Nat) (fun k=>⟨[(0,aK l),(1,vi n),(7,vi (l.length:Int)),(8,vi k)],[]⟩) (fun k=>k≤l.length∧tJ n l 0=tJ n (l.drop k) k) (fun k=>l.length-k) 0 (⟨Nat.zero_le _,rfl⟩) (Le.sub (by repeat (first|trivial|refine ⟨.inr rfl,?_⟩|refine ⟨.inr (aR (by omega)),?_⟩)) (by repeat (first|trivial|refine ⟨rfl,?_⟩))) ?_;intro k hI;refine Gd (fun hb=>?_) fun hb=>?_
 ·have hlt:k<l.length:=by have h0:=of_decide_eq_true hb;omega
  refine Gd (fun hb=>?_) fun hb=>?_
  ·have heq:n=l.getD k 0:=by simpa using hb
   refine G ?_;exact Rx rfl (aR (by rw [hI.2,aUT hlt,if_pos heq]))
  have hne:¬ n=l.getD k 0:=by simpa using hb
  refine G ?_;exact ⟨k+1,⟨by omega,by rw [hI.2,aUT hlt,if_neg hne]⟩,by omega,Le.sub (by repeat (first|exact trivial|refine ⟨.inr rfl,?_⟩|refine ⟨.inr (aR (by omega)),?_⟩)) trivial⟩
 have hge:k=l.length:=by have h0:=of_decide_eq_false hb;omega
 refine G ?_;exact Rx rfl (aR (by rw [hI.2,hge,List.drop_length];rfl))
theorem aDJ (n:Int)(l:List Int)(hl:l.length≤1000000):PC Tryz.prog 261 [vi n,aK l] (vb (decide (n∈l))):=by
 refine FB 2 8 Tryz.func261 ?_;refine G ?_;refine Z1 (ca (alJ l n hl _ (alK l n hl) (aUS n l 0))) ?_;refine G ?_;exact Rx rfl rfl
theorem alL (x:bK):PC Tryz.prog 237 [iV x] (vi (lQ x)):=by
 refine FB 2 7 Tryz.func237 ?_;refine sq ?_;refine Z1 bx ?_;refine Z1 aB ?_;refine cn ?_;refine aD ?_;refine sq ?_;refine Z1 (fa 0) ?_;refine Z1 ld ?_;refine Z1 (OC.to (fO (ps:=[_,_,_,_,_,_,_,_,_,_,_,_,_]) (xs:=[.val _,.val _,.val _,.val _,.val _,.val _,.val _,.val _,.val _,.val _,.val _,.val _,.val _]) (e:=3) (k:=1) (by_:=8) (zs:=[.int .i64 0]) rfl (by kernel_rfl) (by kernel_rfl) rfl rfl rfl (by decide) (by decide)) (aAB [(1:Int),3,5,7,8,9,10,11,12,13,19,20,26])) ?_;refine Z1 (ca (aDJ x.1 [(1:Int),3,5,7,8,9,10,11,12,13,19,20,26] (by decide))) ?_;refine cn ?_
 refine cd (fun hb=>?_) fun hb=>?_
 ·have h1:x.1∈[(1:Int),3,5,7,8,9,10,11,12,13,19,20,26]:=of_decide_eq_true hb;refine G ?_;exact Rx rfl (aR (by unfold lQ;rw [if_pos h1]))
 have h1:¬ x.1∈[(1:Int),3,5,7,8,9,10,11,12,13,19,20,26]:=of_decide_eq_false hb;refine G ?_;exact Rx rfl (aR (by unfold lQ;rw [if_neg h1]))
def aBN (t:TabP)(f:Int):Int:=if mG f 0 (t.funcs.length:Int)=true∧mG (nW t.funcs f) 0 (t.params.length:Int)=true then nW t.params (nW t.funcs f) else 0
theorem yY {n lo hi:Int}:mG n lo hi=true↔lo≤n∧n<hi:=by unfold mG;simp
theorem alM (t:TabP)(f:Int)(hf:t.funcs.length≤140737488355328)(hp:t.params.length≤140737488355328):PC Tryz.prog 262 [bR t,vi f] (vi (aBN t f)):=by
 refine FB 2 32 Tryz.func262 ?_;refine sq ?_;refine Z1 bx ?_;refine Z1 aB ?_;refine cn ?_;refine aD ?_;refine aD ?_;refine dw ?_;refine Z1 mo ?_;refine Z1 (fa 11) ?_;refine Z1 ld ?_;refine Z1 ln ?_;refine Z1 (ca (oS f 0 (t.funcs.length:Int))) ?_;refine Z1 nt ?_;refine Z1 mo ?_;refine Z4 (fun hC=>fa 11) ?_;refine Z4 (fun hC=>ld) ?_;refine Z4 (fun hC=>mo) ?_;refine Zg (R:=[]) rfl rfl rfl eV (fun hC=>by
  have hr:=alH (l:=t.funcs) (n:=f) (by simpa using hC);exact mM (j:=f.toNat) rfl rfl rfl (by kernel_rfl) (by omega) (by omega) rfl) trivial ?_
 refine Z4 (fun hC=>ld) ?_;refine Z4 (fun hC=>fa 13) ?_;refine Z4 (fun hC=>ld) ?_;refine Z4 (fun hC=>ln) ?_;refine Z4 (fun hC=>ca (oS (t.funcs.getD f.toNat 0) 0 (t.params.length:Int))) ?_;refine Z4 (fun hC=>nt) ?_;refine Z1 cC ?_;refine cn (dn ?_);refine cd (fun hb=>?_) fun hb=>?_
 ·have hn:¬ (mG f 0 (t.funcs.length:Int)=true∧mG (nW t.funcs f) 0 (t.params.length:Int)=true):=by
   rintro ⟨h1,h2⟩;unfold nW at h2;rw [h1,h2] at hb;cases hb
  refine G ?_;exact Rx rfl (aR (by unfold aBN;rw [if_neg hn]))
 have hy:mG f 0 (t.funcs.length:Int)=true∧mG (nW t.funcs f) 0 (t.params.length:Int)=true:=by
  unfold nW;simpa using hb
 have hr1:=yY.1 hy.1;have hr2:0≤t.funcs.getD f.toNat 0∧t.funcs.getD f.toNat 0<(t.params.length:Int):=yY.1 hy.2;refine G ?_;exact Rx rfl (aR (by unfold aBN;rw [if_pos hy];rfl))
theorem alN {t:TabP}{x:bK}(h1:¬ x.1∈[(8:Int),14,17])(h2:¬ x.1∈[(2:Int),4,6,9,10,11,12,13,15,16,18,19,20,22,23,25,27,31,32,34,36])(h3:x.1=26):aBN t x.2=jM t x:=by
 unfold aBN jM;rw [if_neg h1,if_neg h2];by_cases h:x.2<0∨x.2≥(t.funcs.length:Int)
 ·rw [if_neg (fun hc=>by have:=yY.1 hc.1;omega),if_pos (by omega)]
 rw [if_neg (show ¬ (x.1≠26∨x.2<0∨x.2≥(t.funcs.length:Int)) by omega)];by_cases h5:nW t.funcs x.2<0∨nW t.funcs x.2≥(t.params.length:Int)
 ·rw [if_neg (fun hc=>by have:=yY.1 hc.2;omega),if_pos h5]
 rw [if_pos ⟨yY.2 (by omega),yY.2 (by omega)⟩,if_neg h5]
theorem alO {t:TabP}{x:bK}(h1:¬ x.1∈[(8:Int),14,17])(h2:¬ x.1∈[(2:Int),4,6,9,10,11,12,13,15,16,18,19,20,22,23,25,27,31,32,34,36])(h3:¬ x.1=26):0=jM t x:=by
 unfold jM;rw [if_neg h1,if_neg h2,if_pos (.inl h3)]
theorem alP (t:TabP)(x:bK)(hf:t.funcs.length≤140737488355328)(hp:t.params.length≤140737488355328):PC Tryz.prog 236 [bR t,iV x] (vi (jM t x)):=by
 refine FB 2 23 Tryz.func236 ?_;refine sq ?_;refine Z1 bx ?_;refine Z1 bx ?_;refine Z1 aB ?_;refine cn ?_;refine aD ?_;refine aU ?_;refine sq ?_;refine Z1 (fa 0) ?_;refine Z1 ld ?_;refine Z1 (OC.to (fO (ps:=[_,_,_]) (xs:=[.val _,.val _,.val _]) (e:=3) (k:=1) (by_:=8) (zs:=[.int .i64 0]) rfl (by kernel_rfl) (by kernel_rfl) rfl rfl rfl (by decide) (by decide)) (aAB [(8:Int),14,17])) ?_;refine Z1 (ca (aDJ x.1 [(8:Int),14,17] (by decide))) ?_;refine Z1 aB ?_;refine cn ?_;refine cd (fun hb=>?_) fun hb=>?_
 ·have h1:x.1∈[(8:Int),14,17]:=of_decide_eq_true hb;refine G ?_;exact Rx rfl (aR (by unfold jM;rw [if_pos h1]))
 have h1:¬ x.1∈[(8:Int),14,17]:=of_decide_eq_false hb;refine sq ?_;refine Z1 (fa 0) ?_;refine Z1 ld ?_;refine Z1 (OC.to (fO (ps:=[_,_,_,_,_,_,_,_,_,_,_,_,_,_,_,_,_,_,_,_,_]) (xs:=[.val _,.val _,.val _,.val _,.val _,.val _,.val _,.val _,.val _,.val _,.val _,.val _,.val _,.val _,.val _,.val _,.val _,.val _,.val _,.val _,.val _]) (e:=3) (k:=1) (by_:=8) (zs:=[.int .i64 0]) rfl (by kernel_rfl) (by kernel_rfl) rfl rfl rfl (by decide) (by decide)) (aAB [(2:Int),4,6,9,10,11,12,13,15,16,18,19,20,22,23,25,27,31,32,34,36])) ?_
 refine Z1 (ca (aDJ x.1 [(2:Int),4,6,9,10,11,12,13,15,16,18,19,20,22,23,25,27,31,32,34,36] (by decide))) ?_;refine Z1 aB ?_;refine cn ?_;refine cd (fun hb=>?_) fun hb=>?_
 ·have h2:x.1∈[(2:Int),4,6,9,10,11,12,13,15,16,18,19,20,22,23,25,27,31,32,34,36]:=of_decide_eq_true hb;refine G ?_;exact Rx rfl (aR (by unfold jM;rw [if_neg h1,if_pos h2]))
 have h2:¬ x.1∈[(2:Int),4,6,9,10,11,12,13,15,16,18,19,20,22,23,25,27,31,32,34,36]:=of_decide_eq_false hb;refine Gd (fun hb=>?_) fun hb=>?_
 ·have h3:x.1=26:=by simpa using hb
  refine C (alM t x.2 hf hp) ?_;exact Rx rfl (aR (alN h1 h2 h3))
 have h3:¬ x.1=26:=by simpa using hb
 refine G ?_;exact Rx rfl (aR (alO h1 h2 h3))
theorem tK {t:TabP}{x:bK}{lo hi h':Int}(h1:¬ (x.1=1∨x.1=24∨x.1=25))(h2:¬ (x.1=12∨x.1=15∨x.1=16))(hp:(if x.1=3∨x.1=4 then ((0:Int),(t.globals.length:Int)-1) else if x.1=5∨x.1=6 then (0,23) else if x.1=7 then (1,6) else if x.1=8 then (3,14) else if x.1=19 then (1,3) else if x.1=13∨x.1=14 then (0,(t.props.length:Int)-1) else if x.1=21 then (0,(t.texts.length:Int)-1) else if x.1=26 then (0,(t.funcs.length:Int)-1) else if x.1=32∨x.1=33 then (0,(t.daemons.length:Int)-1) else (0,0))=(lo,hi))(hc:1≤x.1∧x.1<38)(hh:h'=hi+1):mG x.2 lo h'=oZ t x:=by
 unfold oZ;rw [if_neg h1,if_neg h2];simp only [hp];unfold mG;rw [decide_eq_true (show x.1≥1 from hc.1),decide_eq_true hc.2,Bool.true_and,Bool.true_and,hh];congr 1;rw [decide_eq_decide];omega
theorem alQ {t:TabP}{x:bK}(h1:¬ (x.1=1∨x.1=24∨x.1=25))(h2:¬ (x.1=12∨x.1=15∨x.1=16))(h38:¬ x.1=38)(h3:¬ (x.1=3∨x.1=4))(h5:¬ (x.1=5∨x.1=6))(h7:¬ x.1=7)(h8:¬ x.1=8)(h19:¬ x.1=19)(h13:¬ (x.1=13∨x.1=14))(h21:¬ x.1=21)(h26:¬ x.1=26)(h32:¬ (x.1=32∨x.1=33)):((decide (x.1≥1)&&decide (x.1≤38))&&(x.2==0))=oZ t x:=by
 unfold oZ;rw [if_neg h1,if_neg h2];simp only [if_neg h3,if_neg h5,if_neg h7,if_neg h8,if_neg h19,if_neg h13,if_neg h21,if_neg h26,if_neg h32];rw [Bool.eq_iff_iff];simp only [Bool.and_eq_true,decide_eq_true_eq,beq_iff_eq];omega
theorem alR (t:TabP)(x:bK):PC Tryz.prog 235 [bR t,iV x] (vb (oZ t x)):=by
 refine FB 2 97 Tryz.func235 ?_;refine Gd (fun hb=>?_) fun hb=>?_
 ·have k38:x.1=38:=by simpa using hb
  refine G ?_;exact Rx rfl (bP (by unfold oZ;rw [if_neg (by omega),if_neg (by omega),decide_eq_false (show ¬ x.1<38 by omega),Bool.and_false,Bool.false_and]))
 have k38:¬ x.1=38:=by simpa using hb
 refine G ?_;refine rM (τ:=⟨[(2,.ptr (bR t)),(3,.ptr (iV x)),(6,vi x.1),(9,vb ((x.1==1||((x.1==24||(x.1==25))))))],[]⟩) ?_ ?_
 ·refine cd (fun hb=>?_) fun hb=>?_
  ·refine G ?_;exact Le.sub ⟨.inr rfl,.inr rfl,.inr rfl,.inr (bP (by first|(rw [q0,q1,Bool.false_or,Bool.false_or];done)|simp_all)),trivial⟩ trivial
  have q0:(x.1==1)=false:=hb;refine Gd (fun hb=>?_) fun hb=>?_
  ·refine G ?_;exact Le.sub ⟨.inr rfl,.inr rfl,.inr rfl,.inr (bP (by first|(rw [q0,q1,Bool.false_or,Bool.false_or];done)|simp_all)),trivial⟩ trivial
  have q1:(x.1==24)=false:=hb;refine G ?_;exact Le.sub ⟨.inr rfl,.inr rfl,.inr rfl,.inr (bP (by first|(rw [q0,q1,Bool.false_or,Bool.false_or];done)|simp_all)),trivial⟩ trivial
 refine cd (fun hb=>?_) fun hb=>?_
 ·have k1:x.1=1∨x.1=24∨x.1=25:=by simpa using hb
  refine C (alI x.2) ?_;exact Rx rfl (bP (by unfold oZ;rw [if_pos k1]))
 have k1:¬ (x.1=1∨x.1=24∨x.1=25):=by simpa using hb
 refine G ?_;refine rM (τ:=⟨[(2,.ptr (bR t)),(3,.ptr (iV x)),(6,vi x.1),(16,vb ((x.1==3||(x.1==4))))],[]⟩) ?_ ?_
 ·refine cd (fun hb=>?_) fun hb=>?_
  ·refine G ?_;exact Le.sub ⟨.inr rfl,.inr rfl,.inr rfl,.inr (bP (by first|(rw [q0,q1,Bool.false_or,Bool.false_or];done)|simp_all)),trivial⟩ trivial
  refine G ?_;exact Le.sub ⟨.inr rfl,.inr rfl,.inr rfl,.inr (bP (by first|(rw [q0,q1,Bool.false_or,Bool.false_or];done)|simp_all)),trivial⟩ trivial
 refine cd (fun hb=>?_) fun hb=>?_
 ·have k3:x.1=3∨x.1=4:=by simpa using hb
  refine C (oS x.2 0 (t.globals.length:Int)) ?_;exact Rx rfl (bP (by exact tK (lo:=0) (hi:=(t.globals.length:Int)-1) k1 (by omega) (by rw [if_pos k3]) (by omega) (by omega)))
 have k3:¬ (x.1=3∨x.1=4):=by simpa using hb
 refine G ?_;refine rM (τ:=⟨[(2,.ptr (bR t)),(3,.ptr (iV x)),(6,vi x.1),(25,vb ((x.1==5||(x.1==6))))],[]⟩) ?_ ?_
 ·refine cd (fun hb=>?_) fun hb=>?_
  ·refine G ?_;exact Le.sub ⟨.inr rfl,.inr rfl,.inr rfl,.inr (bP (by first|(rw [q0,q1,Bool.false_or,Bool.false_or];done)|simp_all)),trivial⟩ trivial
  refine G ?_;exact Le.sub ⟨.inr rfl,.inr rfl,.inr rfl,.inr (bP (by first|(rw [q0,q1,Bool.false_or,Bool.false_or];done)|simp_all)),trivial⟩ trivial
 refine cd (fun hb=>?_) fun hb=>?_
 ·have k5:x.1=5∨x.1=6:=by simpa using hb
  refine C (oS x.2 0 24) ?_;exact Rx rfl (bP (by exact tK (lo:=0) (hi:=23) k1 (by omega) (by rw [if_neg (by omega),if_pos k5]) (by omega) (by omega)))
 have k5:¬ (x.1=5∨x.1=6):=by simpa using hb
 refine Gd (fun hb=>?_) fun hb=>?_
 ·have k7:x.1=7:=by simpa using hb
  refine C (oS x.2 1 7) ?_;exact Rx rfl (bP (by exact tK (lo:=1) (hi:=6) k1 (by omega) (by rw [if_neg (by omega),if_neg (by omega),if_pos k7]) (by omega) (by omega)))
 have k7:¬ (x.1=7):=by simpa using hb
 refine Gd (fun hb=>?_) fun hb=>?_
 ·have k19:x.1=19:=by simpa using hb
  refine C (oS x.2 1 4) ?_;exact Rx rfl (bP (by exact tK (lo:=1) (hi:=3) k1 (by omega) (by rw [if_neg (by omega),if_neg (by omega),if_neg (by omega),if_neg (by omega),if_pos k19]) (by omega) (by omega)))
 have k19:¬ (x.1=19):=by simpa using hb
 refine Gd (fun hb=>?_) fun hb=>?_
 ·have k8:x.1=8:=by simpa using hb
  refine C (oS x.2 3 15) ?_;exact Rx rfl (bP (by exact tK (lo:=3) (hi:=14) k1 (by omega) (by rw [if_neg (by omega),if_neg (by omega),if_neg (by omega),if_pos k8]) (by omega) (by omega)))
 have k8:¬ (x.1=8):=by simpa using hb
 refine G ?_;refine rM (τ:=⟨[(2,.ptr (bR t)),(3,.ptr (iV x)),(6,vi x.1),(46,vb ((x.1==12||((x.1==15||(x.1==16))))))],[]⟩) ?_ ?_
 ·refine cd (fun hb=>?_) fun hb=>?_
  ·refine G ?_;exact Le.sub ⟨.inr rfl,.inr rfl,.inr rfl,.inr (bP (by first|(rw [q0,q1,Bool.false_or,Bool.false_or];done)|simp_all)),trivial⟩ trivial
  have q0:(x.1==12)=false:=hb;refine Gd (fun hb=>?_) fun hb=>?_
  ·refine G ?_;exact Le.sub ⟨.inr rfl,.inr rfl,.inr rfl,.inr (bP (by first|(rw [q0,q1,Bool.false_or,Bool.false_or];done)|simp_all)),trivial⟩ trivial
  have q1:(x.1==15)=false:=hb;refine G ?_;exact Le.sub ⟨.inr rfl,.inr rfl,.inr rfl,.inr (bP (by first|(rw [q0,q1,Bool.false_or,Bool.false_or];done)|simp_all)),trivial⟩ trivial
 refine cd (fun hb=>?_) fun hb=>?_
 ·have k12:x.1=12∨x.1=15∨x.1=16:=by simpa using hb
  refine C (oS x.2 0 t.flags) ?_;exact Rx rfl (bP (by unfold oZ mG;rw [if_neg k1,if_pos k12]))
 have k12:¬ (x.1=12∨x.1=15∨x.1=16):=by simpa using hb
 refine G ?_;refine rM (τ:=⟨[(2,.ptr (bR t)),(3,.ptr (iV x)),(6,vi x.1),(55,vb ((x.1==13||(x.1==14))))],[]⟩) ?_ ?_
 ·refine cd (fun hb=>?_) fun hb=>?_
  ·refine G ?_;exact Le.sub ⟨.inr rfl,.inr rfl,.inr rfl,.inr (bP (by first|(rw [q0,q1,Bool.false_or,Bool.false_or];done)|simp_all)),trivial⟩ trivial
  refine G ?_;exact Le.sub ⟨.inr rfl,.inr rfl,.inr rfl,.inr (bP (by first|(rw [q0,q1,Bool.false_or,Bool.false_or];done)|simp_all)),trivial⟩ trivial
 refine cd (fun hb=>?_) fun hb=>?_
 ·have k13:x.1=13∨x.1=14:=by simpa using hb
  refine C (oS x.2 0 (t.props.length:Int)) ?_;exact Rx rfl (bP (by exact tK (lo:=0) (hi:=(t.props.length:Int)-1) k1 (by omega) (by rw [if_neg (by omega),if_neg (by omega),if_neg (by omega),if_neg (by omega),if_neg (by omega),if_pos k13]) (by omega) (by omega)))
 have k13:¬ (x.1=13∨x.1=14):=by simpa using hb
 refine Gd (fun hb=>?_) fun hb=>?_
 ·have k21:x.1=21:=by simpa using hb
  refine C (oS x.2 0 (t.texts.length:Int)) ?_;exact Rx rfl (bP (by exact tK (lo:=0) (hi:=(t.texts.length:Int)-1) k1 (by omega) (by rw [if_neg (by omega),if_neg (by omega),if_neg (by omega),if_neg (by omega),if_neg (by omega),if_neg (by omega),if_pos k21]) (by omega) (by omega)))
 have k21:¬ (x.1=21):=by simpa using hb
 refine Gd (fun hb=>?_) fun hb=>?_
 ·have k26:x.1=26:=by simpa using hb
  refine C (oS x.2 0 (t.funcs.length:Int)) ?_;exact Rx rfl (bP (by exact tK (lo:=0) (hi:=(t.funcs.length:Int)-1) k1 (by omega) (by rw [if_neg (by omega),if_neg (by omega),if_neg (by omega),if_neg (by omega),if_neg (by omega),if_neg (by omega),if_neg (by omega),if_pos k26]) (by omega) (by omega)))
 have k26:¬ (x.1=26):=by simpa using hb
 refine G ?_;refine rM (τ:=⟨[(2,.ptr (bR t)),(3,.ptr (iV x)),(6,vi x.1),(80,vb ((x.1==32||(x.1==33))))],[]⟩) ?_ ?_
 ·refine cd (fun hb=>?_) fun hb=>?_
  ·refine G ?_;exact Le.sub ⟨.inr rfl,.inr rfl,.inr rfl,.inr (bP (by first|(rw [q0,q1,Bool.false_or,Bool.false_or];done)|simp_all)),trivial⟩ trivial
  refine G ?_;exact Le.sub ⟨.inr rfl,.inr rfl,.inr rfl,.inr (bP (by first|(rw [q0,q1,Bool.false_or,Bool.false_or];done)|simp_all)),trivial⟩ trivial
 refine cd (fun hb=>?_) fun hb=>?_
 ·have k32:x.1=32∨x.1=33:=by simpa using hb
  refine C (oS x.2 0 (t.daemons.length:Int)) ?_;exact Rx rfl (bP (by exact tK (lo:=0) (hi:=(t.daemons.length:Int)-1) k1 (by omega) (by rw [if_neg (by omega),if_neg (by omega),if_neg (by omega),if_neg (by omega),if_neg (by omega),if_neg (by omega),if_neg (by omega),if_neg (by omega),if_pos k32]) (by omega) (by omega)))
 have k32:¬ (x.1=32∨x.1=33):=by simpa using hb
 refine C (aPW x.1) ?_;exact Rx rfl (bP (alQ k1 k12 k38 k3 k5 k7 k8 k19 k13 k21 k26 k32))
theorem aFL {p q:Int × Int}(h:p=q):Av.tup [vi p.1,vi p.2]=.tup [vi q.1,vi q.2]:=by rw [h]
theorem aUU (x:bK):0≤lQ x∧lQ x≤1:=by unfold lQ;split<;>omega
theorem ab1 (t:TabP)(x:bK)(h:Int)(is_:Bool)(hf:t.funcs.length≤140737488355328)(hp:t.params.length≤140737488355328)(hh:-1000000≤h∧h≤1000000):PC Tryz.prog 184 [bR t,iV x,vi h,vb is_] (.tup [vi (gS t x h is_).1,vi (gS t x h is_).2]):=by
 have hpb:=aUU x;refine FB 2 58 Tryz.func184 ?_;refine Gd (fun hb=>?_) fun hb=>?_
 ·have k1:x.1=38:=by simpa using hb
  refine G ?_;exact ⟨.inl rfl,by rw [aFL (show gS t x h is_=(h,0) from if_pos k1)];exact aF.two rfl (aT.tmp rfl) (aT.tmp rfl),trivial⟩
 have k1:¬ x.1=38:=by simpa using hb
 refine C (alR t x) ?_;refine C (aPV x) ?_;refine cd (fun hb=>?_) fun hb=>?_
 ·have k2:oZ t x=false∨(x.1=24∨x.1=25)∧is_=false:=by simpa using hb
  refine G ?_;exact ⟨.inl rfl,by rw [aFL (show gS t x h is_=(0,16) by unfold gS;rw [if_neg k1,if_pos k2])];exact aF.two rfl (aT.tmp rfl) (aT.tmp rfl),trivial⟩
 have k2:¬ (oZ t x=false∨(x.1=24∨x.1=25)∧is_=false):=by
  rintro (h1|⟨h1,h2⟩)
  ·rw [h1] at hb;cases hb
  rw [h2] at hb;rcases h1 with h1|h1<;>simp [h1] at hb
 refine C (alP t x hf hp) ?_;refine C (alL x) ?_;refine cd (fun hb=>?_) fun hb=>?_
 ·have k3:h<jM t x∨x.1=27∧h≠1∨jM t x<h+lQ x-256:=by
   simp only [Bool.or_eq_true,Bool.and_eq_true,decide_eq_true_eq,beq_iff_eq,bne_iff_ne,ne_eq] at hb;rcases hb with (h1|h1)|h1
   ·exact .inl h1
   ·exact .inr (.inl h1)
   exact .inr (.inr h1)
  refine G ?_;exact ⟨.inl rfl,by rw [aFL (show gS t x h is_=(0,17) by unfold gS;rw [if_neg k1,if_neg k2,if_pos k3])];exact aF.two rfl (aT.tmp rfl) (aT.tmp rfl),trivial⟩
 have k3:¬ (h<jM t x∨x.1=27∧h≠1∨jM t x<h+lQ x-256):=by
  simp only [Bool.or_eq_false_iff,Bool.and_eq_false_iff,decide_eq_false_iff_not,beq_eq_false_iff_ne,bne_eq_false_iff_eq,ne_eq] at hb;rintro (h1|⟨h1,h2⟩|h1)
  ·exact hb.1.1 h1
  ·rcases hb.1.2 with h3|h3
   ·exact h3 h1
   exact h2 h3
  exact hb.2 h1
 refine G ?_;exact ⟨.inl rfl,by rw [aFL (show gS t x h is_=(h-jM t x+lQ x,0) by unfold gS;rw [if_neg k1,if_neg k2,if_neg k3])];exact aF.two rfl (aT.tmp rfl) (aT.tmp rfl),trivial⟩
theorem abT (C:List bK)(hl:C.length≤1000000000)(hC:∀ k,-9223372036854775808≤(C.getD k aI).2∧(C.getD k aI).2<9223372036854775808):PC Tryz.prog 182 [iU C] (.fm Tryz.prog 3 3 (gF C C.length)):=by
 refine FB 3 36 Tryz.func182 ?_;refine G ?_;refine Z2 (xJ (k:=3) (e:=3) 0 rfl (by kernel_rfl)) ?_;refine G ?_;refine bM (ι:=Nat) (fun k=>⟨[(3,.mp 0),(9,iU C),(10,vi (C.length:Int)),(11,vi k)],[(0,.map Tryz.prog 3 3 (gF C k)),(1,.unborn)]⟩) (fun k=>k≤C.length) (fun k=>C.length-k) 0 (Nat.zero_le _) (Le.sub ⟨.inr rfl,.inr rfl,.inr rfl,.inr rfl,trivial⟩ ⟨rfl,rfl,trivial⟩) ?_;intro k hI;refine Gd (fun hb=>?_) fun hb=>?_
 ·have hlt:k<C.length:=by have h0:=of_decide_eq_true hb;omega
  have hx2:=hC k;have hok:=aJV (C:=C) k (by omega);have hsz:=hok.size;refine G ?_;refine Z1 (afQ (k:=3) (e:=3) (Go.Maps.int_keyed Tryz.underlying3) rfl rfl rfl (by kernel_rfl) (by kernel_rfl) (by kernel_rfl) (Go.Maps.keyOf_int_mk Tryz.underlying3 (mN hx2)) (hok.at_ _)) ?_;refine Gd (fun hb=>?_) fun hb=>?_
  ·have hb:((C.getD k aI).1==38&&!Go.Maps.has (gF C k) (kI (C.getD k aI).2))=true:=hb;have hc:(C.getD k aI).1=38∧Go.Maps.has (gF C k) (kI (C.getD k aI).2)=false:=by
    rw [Bool.and_eq_true,Bool.not_eq_true'] at hb;exact ⟨by simpa using hb.1,hb.2⟩
   have e1:gF C (k+1)=(gF C k).put (kI (C.getD k aI).2) (mI (k:Int)):=by
    show (if _ then _ else _)=_;rw [if_pos hc]
   refine G ?_;refine fP rfl rfl (aCI (k:=3) (e:=3) (Go.Maps.int_keyed Tryz.underlying3) rfl rfl rfl rfl (by kernel_rfl) (by kernel_rfl) (Go.Maps.keyOf_int_mk Tryz.underlying3 (mN hx2)) (mN (by omega)) (by have:maxLen=9223372036854775807:=rfl;omega)) ⟨rfl,trivial⟩ ?_;refine G ?_;exact ⟨k+1,by omega,by omega,Le.reset [1] (by simp) ⟨.inr rfl,.inr rfl,.inr rfl,.inr (aR (by omega)),trivial⟩ ⟨by simp [aE],aE.of_pure _ (sU C),by simp [aE],by simp [aE],trivial⟩ ⟨by rw [if_neg (by decide),e1];exact ⟨rfl,trivial⟩,by rw [if_pos (by decide)],trivial⟩⟩
  have hb:((C.getD k aI).1==38&&!Go.Maps.has (gF C k) (kI (C.getD k aI).2))=false:=hb;have hc:¬ ((C.getD k aI).1=38∧Go.Maps.has (gF C k) (kI (C.getD k aI).2)=false):=by
   rintro ⟨h1,h2⟩;rw [h1,show Go.Maps.has (gF C k) (kI (C.getD k aI).2)=false from h2] at hb;simp at hb
  have e1:gF C (k+1)=gF C k:=by
   show (if _ then _ else _)=_;rw [if_neg hc]
  refine G ?_;exact ⟨k+1,by omega,by omega,Le.reset [1] (by simp) ⟨.inr rfl,.inr rfl,.inr rfl,.inr (aR (by omega)),trivial⟩ ⟨by simp [aE],aE.of_pure _ (sU C),by simp [aE],by simp [aE],trivial⟩ ⟨by rw [if_neg (by decide),e1];exact ⟨rfl,trivial⟩,by rw [if_pos (by decide)],trivial⟩⟩
 have hge:k=C.length:=by have h0:=of_decide_eq_false hb;omega
 refine bU ?_;refine aD ?_;rw [hge];refine bS (Le.freezeMap 3 0 rfl rfl) ?_;refine G ?_;exact Rx rfl rfl
theorem zW (l:List bK)(E:Env)(v:Value)(h:aA E (.sl 2 l.length (gE (l.map iV))) v):aA E (iU l) v:=pI (fun E j hj v hv=>by
 have e:gE (l.map iV) j=iV (l.getD j aI):=by
  show (l.map iV).getD j .any=_;rw [List.getD,List.getElem?_map,List.getD,List.getElem?_eq_getElem hj];rfl
 rwa [e] at hv) E v h
theorem pL {Z:Nat→Prop}(l:List bK):aH Z (iU l):=aH.of_pure _ (sU l)
theorem lC {Z:Nat→Prop}:∀ l:List bK,aO Z (cT l)
 | []=>by unfold cT;simp [aO]
 | p::l=>by
  have h:=lC (Z:=Z) l;unfold cT at h ⊢;simp [aO,aH,h]
def nM (out:List Int):Nat:=out.countP (·==-1)
theorem aPU:∀ {out:List Int} {i:Nat} {x:Int},out.getD i 0=-1→x≠-1→nM (out.set i x)+1=nM out
 | [],i,x,h,_=>by simp at h
 | y::l,0,x,h,hx=>by
  simp at h;subst h;unfold nM;simp [hx]
 | y::l,i+1,x,h,hx=>by
  have:=aPU (out:=l) (i:=i) (x:=x) (by simpa using h) hx;unfold nM at this ⊢;rw [List.set_cons_succ,List.countP_cons,List.countP_cons];omega
theorem abX (n:Nat):nM (List.replicate n (-1))=n:=by unfold nM;simp [List.countP_replicate]
def oR (n k:Nat):List Int:=List.replicate k (-1)++List.replicate (n-k) 0
theorem aPQ {n k:Nat}(h:k≤n):(oR n k).length=n:=by unfold oR;simp;omega
theorem abU (n:Nat):List.replicate n (vi 0)=(oR n 0).map vi:=by unfold oR;simp
theorem aPS (n:Nat):oR n n=List.replicate n (-1):=by unfold oR;simp
theorem abV {n k:Nat}(h:k<n):(oR n k).set k (-1)=oR n (k+1):=by
 refine List.ext_getElem? fun i=>?_;unfold oR;rw [List.getElem?_set];simp only [List.length_append,List.length_replicate,List.getElem?_append,List.getElem?_replicate];by_cases e:k=i
 ·subst e;simp;omega
 rw [if_neg e];by_cases h1:i<k
 ·simp [h1,show i<k+1 by omega]
 by_cases h2:i<n
 ·simp [h1,show ¬ i<k+1 by omega,show i-k<n-k by omega,show i-(k+1)<n-(k+1) by omega]
 simp [h1,show ¬ i<k+1 by omega,show ¬ i-k<n-k by omega,show ¬ i-(k+1)<n-(k+1) by omega]
def td2 (l:List (Nat × Int)):List bK:=l.map fun p=>((p.1:Int),p.2)
def kA (l:List (Nat × Int)):List Av:=cT (td2 l)
theorem aH9 (l:List (Nat × Int)):(kA l).length=l.length*2:=by unfold kA td2;rw [oO,List.length_map]
theorem zY (a b:List (Nat × Int)):kA (a++b)=kA a++kA b:=by unfold kA td2;rw [List.map_append,aAC]
theorem alS (rest:List (Nat × Int))(x:Nat × Int):((kA (rest++[x])).drop (rest.length*2)).take 2=[vi x.1,vi x.2]:=by
 rw [zY,←aH9,List.drop_left];rfl
theorem alT (rest:List (Nat × Int))(x:Nat × Int):∀ (i:Nat) (y:Av),(kA rest)[i]?=some y→(kA (rest++[x]))[i]?=some y:=fun i y h=>by
 rw [zY,List.getElem?_append_left (List.getElem?_eq_some_iff.1 h).1,h]
theorem zZ {Z:List Nat}(l:List (Nat × Int)):∀ z∈kA l,aE Z z:=aP1 _
theorem abY (t:TabP)(C:List bK)(f:Nat)(out:List Int)(rest:List (Nat × Int))(x:Nat × Int):pN t C (f+1) out (rest++[x])=
 if x.1≥C.length then ([],2) else if out.getD x.1 0=x.2 then pN t C f out rest else if out.getD x.1 0≠-1 then ([],17)
 else if (gS t (C.getD x.1 aI) x.2 (fG C (C.getD x.1 aI).2).isSome).2≠0 then ([],(gS t (C.getD x.1 aI) x.2 (fG C (C.getD x.1 aI).2).isSome).2) else pN t C f (out.set x.1 x.2) (aH8 C (C.getD x.1 aI) x.1 (gS t (C.getD x.1 aI) x.2 (fG C (C.getD x.1 aI).2).isSome).1 rest):=by
 conv=>lhs;unfold pN
 rw [if_neg (show ¬ rest++[x]=[] by simp)];simp only [List.getLastD_concat,List.dropLast_concat]
theorem ab5 (t:TabP)(C:List bK)(f:Nat)(out:List Int):pN t C f out []=(out,0):=by
 cases f with
 | zero=>rfl
 | succ f=>unfold pN;rw [if_pos rfl]
theorem ab2 {t:TabP}{x:bK}{h:Int}{is_:Bool}(h0:0≤h∧h≤256)(he:(gS t x h is_).2=0):0≤(gS t x h is_).1∧(gS t x h is_).1≤256:=by
 unfold gS at he ⊢;by_cases h1:x.1=38
 ·rw [if_pos h1];exact h0
 rw [if_neg h1] at he ⊢;by_cases h2:oZ t x=false∨(x.1=24∨x.1=25)∧is_=false
 ·rw [if_pos h2] at he;cases he
 rw [if_neg h2] at he ⊢;by_cases h3:h<jM t x∨x.1=27∧h≠1∨jM t x<h+lQ x-256
 ·rw [if_pos h3] at he;cases he
 rw [if_neg h3];have:=aUU x;show 0≤h-jM t x+lQ x∧h-jM t x+lQ x≤256;omega
theorem aDI {p q:List Int × Int}(h:p=q):Av.tup [aK p.1,vi p.2]=.tup [aK q.1,vi q.2]:=by rw [h]
theorem pM {Z:Nat→Prop}(l:List (Nat × Int)):aO Z (kA l):=lC _
theorem ab4:FC Tryz.prog 183 [.own 2 0] ([(2,.live 217 [.osl 2 1 (([]:List (Nat × Int))).length]),(1,.live 216 (kA (([]:List (Nat × Int)))))]) (.tup [.agg [vi 0,vi 0],vb false]) ([(2,.live 217 [.osl 2 1 (([]:List (Nat × Int))).length]),(1,.live 216 (kA (([]:List (Nat × Int)))))]):=by
 refine FB 5 20 Tryz.func183 ?_;refine sq ?_;refine Z2 (al 0 [.int .i64 0,.int .i64 0]) ?_;refine Z1 aB ?_;refine cn ?_;refine aD ?_;refine sq ?_;refine bG ?_;refine Z1 sT ?_;refine Z1 bz ?_;refine cn ?_;refine cd (fun hb=>?_) fun hb=>?_
 ·refine G ?_;exact ⟨.inl rfl,aF.two rfl (aT.row rfl rfl (by kernel_rfl) (by kernel_rfl) (by simp)) (aT.tmp rfl),⟨rfl,rfl,trivial⟩⟩
 exact absurd hb (by cases hb)
theorem aPR (rest:List (Nat × Int))(x:Nat × Int)(hl:rest.length≤1000000000000):FC Tryz.prog 183 [.own 2 0] ([(2,.live 217 [.osl 2 1 (rest++[x]).length]),(1,.live 216 (kA (rest++[x])))]) (.tup [.agg [vi x.1,vi x.2],vb true]) ([(2,.live 217 [.osl 2 1 (rest).length]),(1,.live 216 (kA (rest)))]):=by
 have hlen:(rest++[x]).length=rest.length+1:=by simp
 refine FB 5 20 Tryz.func183 ?_;refine Gd (fun hb=>?_) fun hb=>?_
 ·exact absurd hb (by 
   rw [show ((((rest++[x]).length:Nat):Int)==0)=false by rw [List.length_append,List.length_singleton,beq_eq_false_iff_ne];omega] at hb;cases hb)
 refine aQ ?_;refine sq ?_;refine bG ?_;refine bG ?_;refine Z1 sT ?_;refine Z1 iP ?_;refine eL (R:=[(_,.live _ _)]) rfl rfl (vL (j:=rest.length*2) rfl rfl rfl (by kernel_rfl) (by omega) (by omega) (by omega)) ⟨rfl,trivial⟩ ?_;refine Z1 (mA (k:=2) (ds:=[vi x.1,vi x.2]) rfl rfl (by kernel_rfl) (by kernel_rfl) (alS rest x) rfl (by decide)) ?_;refine Z2 (al 3 [.int .i64 0,.int .i64 0]) ?_;refine bW [_,_] ?_;refine cn ?_;refine sq ?_;refine bG ?_;refine bG ?_;refine Z1 sT ?_;refine Z1 iP ?_
 refine eL (R:=[(_,.live _ _)]) rfl rfl (aeM (e:=216) (by_:=16) (zs:=[.int .i64 0,.int .i64 0]) rest.length rfl rfl (by show Av.val _=Av.val _;rw [hlen,show ((rest.length+1:Nat):Int)-1=(rest.length:Int) by omega]) (by kernel_rfl) (by kernel_rfl) (by omega)) ⟨rfl,trivial⟩ ?_;refine fP rfl rfl (lG (y:=.osl _ _ _) rfl rfl rfl (by kernel_rfl) (by kernel_rfl) aED (by first|decide|(simp;done)|(simp;omega)) rfl) ⟨rfl,trivial⟩ ?_;refine cn ?_;refine aD ?_;refine bS (Le.cut 1 (kA rest) rfl (alT rest x)) ?_;refine G ?_
 exact ⟨.inl rfl,aF.two rfl (aT.row rfl rfl (by kernel_rfl) (by kernel_rfl) (by simp)) (aT.tmp rfl),⟨rfl,rfl,trivial⟩⟩
end Go.Proofs.YtgajclaoaphgoaaGreatDoor
