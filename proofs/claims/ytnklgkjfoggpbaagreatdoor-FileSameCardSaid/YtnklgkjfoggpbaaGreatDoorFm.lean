/- Parts of the proof of a law of this seat: rules and contracts; no conditions. -/
import Derived.Test.YtnklgkjfoggpbaaGreatDoorLt
import Derived.Test.YtnklgkjfoggpbaaGreatDoorFh
import Derived.Test.YtnklgkjfoggpbaaGreatDoorBlf
import Derived.Test.YtnklgkjfoggpbaaGreatDoorProg
import Derived.KernelRfl
import Derived.Test.YtnklgkjfoggpbaaGreatDoorWireSpec
set_option maxHeartbeats 6400000
set_option maxRecDepth 100000
set_option linter.unusedVariables false
set_option linter.unusedSimpArgs false
namespace Go.Proofs.YtnklgkjfoggpbaaGreatDoor
open Go.RowKit
theorem lL (zs:List Int)(m:Int)(hz:zs.length≤100000000)(hm:m≤9223372036854775807):FC Tryz.prog 48 [.own 0 0,vi m] [(0,.live 92 [bs (zs)])] .any [(0,.live 92 [bs (zs++aC m)])]:=by
 refine FC.body 1 13 Tryz.func48 rfl (by kernel_rfl) ?_
 refine tx ?_
 refine Z1 mo ?_
 refine Z1 mo ?_
 refine dO ?_
 refine aS 0 1 false ?_
 refine bG ?_
 refine Z1 mo ?_
 refine Z1 (ca (aaU zs m hz hm)) ?_
 refine dO ?_
 refine aS 0 1 false ?_
 refine cF [_] ?_
 refine cn ?_
 exact ⟨.inr rfl,iN rfl,⟨rfl,trivial⟩⟩
theorem zV (zs:List Int)(m:Int)(hz:zs.length≤100000000):FC Tryz.prog 116 [.own 0 0,vi m] [(0,.live 92 [bs (zs)])] .any [(0,.live 92 [bs (zs++cQ m)])]:=by
 refine FC.body 1 13 Tryz.func116 rfl (by kernel_rfl) ?_
 refine tx ?_
 refine Z1 mo ?_
 refine Z1 mo ?_
 refine dO ?_
 refine aS 0 1 false ?_
 refine bG ?_
 refine Z1 mo ?_
 refine Z1 (ca (aPE zs m hz)) ?_
 refine dO ?_
 refine aS 0 1 false ?_
 refine cF [_] ?_
 refine cn ?_
 exact ⟨.inr rfl,iN rfl,⟨rfl,trivial⟩⟩
theorem aHS (zs:List Int)(s:ByteArray)(hz:zs.length≤100000000)(hs:s.size≤100000000):FC Tryz.prog 51 [.own 0 0,vs s] [(0,.live 92 [bs (zs)])] .any [(0,.live 92 [bs (zs++aY s)])]:=by
 refine FC.body 1 13 Tryz.func51 rfl (by kernel_rfl) ?_
 refine tx ?_
 refine Z1 mo ?_
 refine Z1 mo ?_
 refine dO ?_
 refine aS 0 1 false ?_
 refine bG ?_
 refine Z1 mo ?_
 refine Z1 (ca (aaV zs s hz hs)) ?_
 refine dO ?_
 refine aS 0 1 false ?_
 refine cF [_] ?_
 refine cn ?_
 exact ⟨.inr rfl,iN rfl,⟨rfl,trivial⟩⟩
theorem aHT (zs:List Int)(l:List Int)(hz:zs.length≤100000000)(hs:l.length≤100000000):FC Tryz.prog 52 [.own 0 0,aK l] [(0,.live 92 [bs (zs)])] .any [(0,.live 92 [bs (zs++cZ l)])]:=by
 refine FC.body 1 13 Tryz.func52 rfl (by kernel_rfl) ?_
 refine tx ?_
 refine Z1 mo ?_
 refine Z1 mo ?_
 refine dO ?_
 refine aS 0 1 false ?_
 refine bG ?_
 refine Z1 mo ?_
 refine Z1 (ca (aaW zs l hz hs)) ?_
 refine dO ?_
 refine aS 0 1 false ?_
 refine cF [_] ?_
 refine cn ?_
 exact ⟨.inr rfl,iN rfl,⟨rfl,trivial⟩⟩
theorem dU {Z:Nat→Prop}{x:Av}[hp:Pu x](h:Z 0):aO Z [.own 0 0,x]:=by simp only [aO,aH,and_true];exact ⟨h,aH.of_pure _ hp.out⟩
theorem yR {Z:Nat→Prop}{x:Av}{K:Nat}[hp:Pu x](h:Z 0):aO Z [.own 0 0,x,.bm K [.own 0 0]]:=by
 simp only [aO,aH,and_true]
 exact ⟨h,aH.of_pure _ hp.out,h⟩
theorem bH {Z:Nat→Prop}{T:TypeId}{zs:List Int}:jR Z [(0,.live T [bs zs])]:=by
 simp only [jR,bJ,aO,and_true]
 exact aH.of_pure _ Pu.out
theorem ah4 {α:Type}{d:α}{l:List α}{k:Nat}(hk:k<l.length):l.take (k+1)=l.take k++[l.getD k d]:=by
 rw [List.take_succ_eq_append_getElem hk]
 simp [List.getD,List.getElem?_eq_getElem hk]
theorem mS {α:Type}{d:α}{l:List α}{k:Nat}(e:α→List Int)(hk:k<l.length):(l.take (k+1)).flatMap e=(l.take k).flatMap e++e (l.getD k d):=by
 rw [ah4 (d:=d) hk,List.flatMap_append]
 simp
theorem aI1 {α:Type}{l:List α}{e:α→List Int}(k:Nat):((l.take k).flatMap e).length≤(l.flatMap e).length:=by
 conv=>rhs;rw [←List.take_append_drop k l,List.flatMap_append,List.length_append]
 omega
theorem uF {α:Type}{d:α}{zs:List Int}{l:List α}{e:α→List Int}{k:Nat}(hz:(zs++l.flatMap e).length≤100000000)(hk:k<l.length):(zs++(l.take k).flatMap e).length≤100000000∧(zs++(l.take k).flatMap e++e (l.getD k d)).length≤100000000:=by
 have h1:=aI1 (l:=l) (e:=e) (k+1)
 rw [mS (d:=d) e hk] at h1
 simp only [List.length_append] at *
 omega
theorem ah5 (zs:List Int)(l:List ByteArray)(K:Nat)(e:ByteArray→List Int)(hK:dN Tryz.prog K=true)(hz:(zs++aC (l.length:Int)++l.flatMap e).length≤100000000)(hp:∀ ys:List Int,ys.length≤100000000→∀ x∈l,(ys++e x).length≤100000000→FC Tryz.prog K [.own 0 0,vs x] [(0,.live 92 [bs (ys)])] .any [(0,.live 92 [bs (ys++e x)])]):FC Tryz.prog 106 [.own 0 0,bB l,.bm K [.own 0 0]] [(0,.live 92 [bs (zs)])] .any [(0,.live 92 [bs (zs++aC (l.length:Int)++l.flatMap e)])]:=by
 refine FC.body 1 22 Tryz.func106 rfl (by kernel_rfl) ?_
 refine aD ?_
 refine dM (t:=1) (x:=bB l) rfl eR fun hf=>?_
 have hz0:zs.length≤100000000:=by simp only [List.length_append] at hz;omega
 refine tx ?_
 refine Z1 mo ?_
 refine Z1 mo ?_
 refine Z1 ln ?_
 refine aZ rfl rfl (dB [] rfl (by kernel_rfl) ((lL zs (l.length:Int) hz0 (by omega)).m) rfl (by simp) (by simp [bQ]) (by simp) (by simp) (dU (by simp)) bH (by simp [aH]) bH) ⟨rfl,trivial⟩ ?_
 refine cn ?_
 refine sq ?_
 refine Z1 mo ?_
 refine Z1 ln ?_
 refine Z1 mo ?_
 refine cn ?_
 refine aU ?_
 refine bM (ι:=Nat) (fun k=>⟨[(2,.bm K [.own 0 0]),(12,bB l),(13,vi (l.length:Int)),(14,vi k)],[(0,.live 92 [bs (zs++aC (l.length:Int)++(l.take k).flatMap e)])]⟩) (fun k=>k≤l.length) (fun k=>l.length-k) 0 (Nat.zero_le _) (Le.sub ⟨.inr rfl,.inr rfl,.inr rfl,.inr rfl,trivial⟩ ⟨by simp only [List.take_zero,List.flatMap_nil,List.append_nil];rfl,trivial⟩) ?_
 intro k hI
 refine sq ?_
 refine Z1 bz ?_
 refine cn ?_
 refine aD ?_
 refine cd (fun hb=>?_) fun hb=>?_
 ·have hlt:k<l.length:=by have h0:=of_decide_eq_true hb;omega
  have hq:=uF (zs:=zs++aC (l.length:Int)) (e:=e) hz hlt (d:=ByteArray.empty)
  refine aQ ?_
  refine aD ?_
  refine aU ?_
  refine sq ?_
  refine Z1 ia ?_
  refine Z1 ld ?_
  refine Z1 aB ?_
  refine cn ?_
  refine tx ?_
  refine Z1 mo ?_
  refine Z1 mo ?_
  refine aZ rfl rfl (sS [] rfl rfl hK ((hp _ hq.1 (l.getD k ByteArray.empty) (kY hlt) hq.2).m) rfl (by simp) (by simp [bQ]) (by simp) (by simp) (dU (by simp)) bH (by simp [aH]) bH) ⟨rfl,trivial⟩ ?_
  refine cn ?_
  refine tx ?_
  refine Z1 ba ?_
  refine Z1 mo ?_
  refine cn ?_
  exact ⟨k+1,by omega,by omega,Le.sub ⟨.inr rfl,.inr rfl,.inr rfl,.inr (aR (by omega)),trivial⟩ ⟨by rw [mS _ hlt,←List.append_assoc];rfl,trivial⟩⟩
 ·have hge:k=l.length:=by have h0:=of_decide_eq_false hb;omega
  refine bU ?_
  exact ⟨.inr rfl,iN rfl,⟨by subst hge;rw [List.take_length];rfl,trivial⟩⟩
theorem ah6 (zs:List Int)(l:List Int)(K:Nat)(e:Int→List Int)(hK:dN Tryz.prog K=true)(hz:(zs++aC (l.length:Int)++l.flatMap e).length≤100000000)(hp:∀ ys:List Int,ys.length≤100000000→∀ x∈l,(ys++e x).length≤100000000→FC Tryz.prog K [.own 0 0,vi x] [(0,.live 92 [bs (ys)])] .any [(0,.live 92 [bs (ys++e x)])]):FC Tryz.prog 107 [.own 0 0,aK l,.bm K [.own 0 0]] [(0,.live 92 [bs (zs)])] .any [(0,.live 92 [bs (zs++aC (l.length:Int)++l.flatMap e)])]:=by
 refine FC.body 1 22 Tryz.func107 rfl (by kernel_rfl) ?_
 refine aD ?_
 refine dM (t:=1) (x:=aK l) rfl eR fun hf=>?_
 have hz0:zs.length≤100000000:=by simp only [List.length_append] at hz;omega
 refine tx ?_
 refine Z1 mo ?_
 refine Z1 mo ?_
 refine Z1 ln ?_
 refine aZ rfl rfl (dB [] rfl (by kernel_rfl) ((lL zs (l.length:Int) hz0 (by omega)).m) rfl (by simp) (by simp [bQ]) (by simp) (by simp) (dU (by simp)) bH (by simp [aH]) bH) ⟨rfl,trivial⟩ ?_
 refine cn ?_
 refine sq ?_
 refine Z1 mo ?_
 refine Z1 ln ?_
 refine Z1 mo ?_
 refine cn ?_
 refine aU ?_
 refine bM (ι:=Nat) (fun k=>⟨[(2,.bm K [.own 0 0]),(12,aK l),(13,vi (l.length:Int)),(14,vi k)],[(0,.live 92 [bs (zs++aC (l.length:Int)++(l.take k).flatMap e)])]⟩) (fun k=>k≤l.length) (fun k=>l.length-k) 0 (Nat.zero_le _) (Le.sub ⟨.inr rfl,.inr rfl,.inr rfl,.inr rfl,trivial⟩ ⟨by simp only [List.take_zero,List.flatMap_nil,List.append_nil];rfl,trivial⟩) ?_
 intro k hI
 refine sq ?_
 refine Z1 bz ?_
 refine cn ?_
 refine aD ?_
 refine cd (fun hb=>?_) fun hb=>?_
 ·have hlt:k<l.length:=by have h0:=of_decide_eq_true hb;omega
  have hq:=uF (zs:=zs++aC (l.length:Int)) (e:=e) hz hlt (d:=0)
  refine aQ ?_
  refine aD ?_
  refine aU ?_
  refine sq ?_
  refine Z1 ia ?_
  refine Z1 ld ?_
  refine Z1 aB ?_
  refine cn ?_
  refine tx ?_
  refine Z1 mo ?_
  refine Z1 mo ?_
  refine aZ rfl rfl (sS [] rfl rfl hK ((hp _ hq.1 (l.getD k 0) (kY hlt) hq.2).m) rfl (by simp) (by simp [bQ]) (by simp) (by simp) (dU (by simp)) bH (by simp [aH]) bH) ⟨rfl,trivial⟩ ?_
  refine cn ?_
  refine tx ?_
  refine Z1 ba ?_
  refine Z1 mo ?_
  refine cn ?_
  exact ⟨k+1,by omega,by omega,Le.sub ⟨.inr rfl,.inr rfl,.inr rfl,.inr (aR (by omega)),trivial⟩ ⟨by rw [mS _ hlt,←List.append_assoc];rfl,trivial⟩⟩
 ·have hge:k=l.length:=by have h0:=of_decide_eq_false hb;omega
  refine bU ?_
  exact ⟨.inr rfl,iN rfl,⟨by subst hge;rw [List.take_length];rfl,trivial⟩⟩
theorem ah7 (zs:List Int)(l:List (List SlotP))(K:Nat)(e:(List SlotP)→List Int)(hK:dN Tryz.prog K=true)(hz:(zs++aC (l.length:Int)++l.flatMap e).length≤100000000)(hp:∀ ys:List Int,ys.length≤100000000→∀ x∈l,(ys++e x).length≤100000000→FC Tryz.prog K [.own 0 0,fQ x] [(0,.live 92 [bs (ys)])] .any [(0,.live 92 [bs (ys++e x)])]):FC Tryz.prog 114 [.own 0 0,lB l,.bm K [.own 0 0]] [(0,.live 92 [bs (zs)])] .any [(0,.live 92 [bs (zs++aC (l.length:Int)++l.flatMap e)])]:=by
 refine FC.body 1 22 Tryz.func114 rfl (by kernel_rfl) ?_
 refine aD ?_
 refine dM (t:=1) (x:=lB l) rfl eR fun hf=>?_
 have hz0:zs.length≤100000000:=by simp only [List.length_append] at hz;omega
 refine tx ?_
 refine Z1 mo ?_
 refine Z1 mo ?_
 refine Z1 ln ?_
 refine aZ rfl rfl (dB [] rfl (by kernel_rfl) ((lL zs (l.length:Int) hz0 (by omega)).m) rfl (by simp) (by simp [bQ]) (by simp) (by simp) (dU (by simp)) bH (by simp [aH]) bH) ⟨rfl,trivial⟩ ?_
 refine cn ?_
 refine sq ?_
 refine Z1 mo ?_
 refine Z1 ln ?_
 refine Z1 mo ?_
 refine cn ?_
 refine aU ?_
 refine bM (ι:=Nat) (fun k=>⟨[(2,.bm K [.own 0 0]),(12,lB l),(13,vi (l.length:Int)),(14,vi k)],[(0,.live 92 [bs (zs++aC (l.length:Int)++(l.take k).flatMap e)])]⟩) (fun k=>k≤l.length) (fun k=>l.length-k) 0 (Nat.zero_le _) (Le.sub ⟨.inr rfl,.inr rfl,.inr rfl,.inr rfl,trivial⟩ ⟨by simp only [List.take_zero,List.flatMap_nil,List.append_nil];rfl,trivial⟩) ?_
 intro k hI
 refine sq ?_
 refine Z1 bz ?_
 refine cn ?_
 refine aD ?_
 refine cd (fun hb=>?_) fun hb=>?_
 ·have hlt:k<l.length:=by have h0:=of_decide_eq_true hb;omega
  have hq:=uF (zs:=zs++aC (l.length:Int)) (e:=e) hz hlt (d:=[])
  refine aQ ?_
  refine aD ?_
  refine aU ?_
  refine sq ?_
  refine Z1 ia ?_
  refine Z1 ld ?_
  refine Z1 aB ?_
  refine cn ?_
  refine tx ?_
  refine Z1 mo ?_
  refine Z1 mo ?_
  refine aZ rfl rfl (sS [] rfl rfl hK ((hp _ hq.1 (l.getD k []) (kY hlt) hq.2).m) rfl (by simp) (by simp [bQ]) (by simp) (by simp) (dU (by simp)) bH (by simp [aH]) bH) ⟨rfl,trivial⟩ ?_
  refine cn ?_
  refine tx ?_
  refine Z1 ba ?_
  refine Z1 mo ?_
  refine cn ?_
  exact ⟨k+1,by omega,by omega,Le.sub ⟨.inr rfl,.inr rfl,.inr rfl,.inr (aR (by omega)),trivial⟩ ⟨by rw [mS _ hlt,←List.append_assoc];rfl,trivial⟩⟩
 ·have hge:k=l.length:=by have h0:=of_decide_eq_false hb;omega
  refine bU ?_
  exact ⟨.inr rfl,iN rfl,⟨by subst hge;rw [List.take_length];rfl,trivial⟩⟩
section
variable {P:Program}{bb:Bool}{ops:Array Oper}{o:Oper}{l:List Oper}{s:List (Nat × Av)}{h:List (Nat × Hs)}{K:Ctx→List (List Nat × List Nat)→Prop}{d f:Nat}{x:Av}{args:List Operand}{tys:Array TypeId}{T:TypeId}{zs ys:List Int}
theorem cw (hc:FC P f [.own 0 0,x] [(0,.live T [bs zs])] .any [(0,.live T [bs ys])])(h':Ck bb P ops l ⟨(d,.any)::s,[(0,Hs.live T [bs ys])]++h⟩ fun Γ' F=>K Γ' (([0],[0])::F))(ho:o.op=.call { callee:=.value (.func f),args:=args.toArray,argTypes:=tys }:=by rfl)(hg:o.guard=none:=by rfl)(hd:o.dst=some d:=by rfl)(hf:dN P f=true:=by kernel_rfl)(hxs:args.map (dA s)=[.own 0 0,x]:=by rfl)(hR:aL h 0=some (.live T [bs zs]):=by rfl)[Pu x]:Ck bb P ops (o::l) ⟨s,h⟩ K:=
 aZ hg hd (dB [] ho hf hc.m hxs (by simp) (by simp [bQ]) (by simp) (by simp) (dU (by simp)) bH (by simp [aH]) bH) ⟨hR,trivial⟩ h'
theorem cw2 {k:Nat}(hc:FC P f [.own 0 0,x,.bm k [.own 0 0]] [(0,.live T [bs zs])] .any [(0,.live T [bs ys])])(h':Ck bb P ops l ⟨(d,.any)::s,[(0,Hs.live T [bs ys])]++h⟩ fun Γ' F=>K Γ' (([0],[0])::F))(ho:o.op=.call { callee:=.value (.func f),args:=args.toArray,argTypes:=tys }:=by rfl)(hg:o.guard=none:=by rfl)(hd:o.dst=some d:=by rfl)(hf:dN P f=true:=by kernel_rfl)(hxs:args.map (dA s)=[.own 0 0,x,.bm k [.own 0 0]]:=by rfl)(hR:aL h 0=some (.live T [bs zs]):=by rfl)[Pu x]:Ck bb P ops (o::l) ⟨s,h⟩ K:=
 aZ hg hd (dB [] ho hf hc.m hxs (by simp) (by simp [bQ]) (by simp) (by simp) (yR (by simp)) bH (by simp [aH]) bH) ⟨hR,trivial⟩ h'
end
theorem abM (s:ByteArray):s.size≤(aY s).length:=by
 unfold aY jZ
 rw [List.length_append,List.length_map,Array.length_toList]
 show s.size≤_+s.size
 omega
def aJ {α:Type}(e:α→List Int)(l:List α):List Int:=aC (l.length:Int)++l.flatMap e
def gQ (b:Bool):List Int:=cQ (bif b then 1 else 0)
def kQ (x:SlotP):List Int:=cQ x.kind++aJ aY x.words
def pK (l:List SlotP):List Int:=aJ kQ l
def gR (y:WayP):List Int:=cQ y.dir++aC y.goal++aC (y.cond+1)++aC (y.els+1)
def fS (x:VerbP):List Int:=gQ x.meta_++aJ pK x.lines
theorem aPP (zs:List Int)(b:Bool)(hz:zs.length≤100000000):FC Tryz.prog 111 [.own 0 0,vb b] [(0,.live 92 [bs (zs)])] .any [(0,.live 92 [bs (zs++gQ b)])]:=by
 refine FC.body 1 9 Tryz.func111 rfl (by kernel_rfl) ?_
 refine sq ?_
 refine Z1 mo ?_
 refine cn ?_
 refine cd (fun hb=>?_) fun hb=>?_
 ·subst hb
  refine tx ?_
  refine Z1 mo ?_
  refine aZ rfl rfl (dB [] rfl (by kernel_rfl) ((zV zs 1 hz).m) rfl (by simp) (by simp [bQ]) (by simp) (by simp) (dU (by simp)) bH (by simp [aH]) bH) ⟨rfl,trivial⟩ ?_
  refine cn ?_
  exact ⟨.inr rfl,iN rfl,⟨rfl,trivial⟩⟩
 ·subst hb
  refine tx ?_
  refine Z1 mo ?_
  refine aZ rfl rfl (dB [] rfl (by kernel_rfl) ((zV zs 0 hz).m) rfl (by simp) (by simp [bQ]) (by simp) (by simp) (dU (by simp)) bH (by simp [aH]) bH) ⟨rfl,trivial⟩ ?_
  refine cn ?_
  exact ⟨.inr rfl,iN rfl,⟨rfl,trivial⟩⟩
theorem xQ (zs:List Int)(n:Int)(hz:zs.length≤100000000)(hn:n≤1000000000000000)(hn0:-1000000000000000≤n):FC Tryz.prog 110 [.own 0 0,vi n] [(0,.live 92 [bs (zs)])] .any [(0,.live 92 [bs (zs++aC (n+1))])]:=by
 refine FC.body 1 8 Tryz.func110 rfl (by kernel_rfl) ?_
 refine tx ?_
 refine Z1 mo ?_
 refine Z1 mo ?_
 refine Z1 ba ?_
 refine aZ rfl rfl (dB [] rfl (by kernel_rfl) ((lL zs (n+1) hz (by omega)).m) rfl (by simp) (by simp [bQ]) (by simp) (by simp) (dU (by simp)) bH (by simp [aH]) bH) ⟨rfl,trivial⟩ ?_
 refine cn ?_
 exact ⟨.inr rfl,iN rfl,⟨rfl,trivial⟩⟩
theorem abN (zs:List Int)(l:List SlotP)(K:Nat)(e:SlotP→List Int)(hK:dN Tryz.prog K=true)(hz:(zs++aC (l.length:Int)++l.flatMap e).length≤100000000)(hp:∀ ys:List Int,ys.length≤100000000→∀ x∈l,(ys++e x).length≤100000000→FC Tryz.prog K [.own 0 0,lJ x] [(0,.live 92 [bs (ys)])] .any [(0,.live 92 [bs (ys++e x)])]):FC Tryz.prog 162 [.own 0 0,fQ l,.bm K [.own 0 0]] [(0,.live 92 [bs (zs)])] .any [(0,.live 92 [bs (zs++aC (l.length:Int)++l.flatMap e)])]:=by
 refine FC.body 2 22 Tryz.func162 rfl (by kernel_rfl) ?_
 refine aD ?_
 refine dM (t:=1) (x:=fQ l) rfl eR fun hf=>?_
 have hz0:zs.length≤100000000:=by simp only [List.length_append] at hz;omega
 refine tx ?_
 refine Z1 mo ?_
 refine Z1 mo ?_
 refine Z1 ln ?_
 refine aZ rfl rfl (dB [] rfl (by kernel_rfl) ((lL zs (l.length:Int) hz0 (by omega)).m) rfl (by simp) (by simp [bQ]) (by simp) (by simp) (dU (by simp)) bH (by simp [aH]) bH) ⟨rfl,trivial⟩ ?_
 refine cn ?_
 refine sq ?_
 refine Z1 mo ?_
 refine Z1 ln ?_
 refine Z1 mo ?_
 refine cn ?_
 refine aU ?_
 refine bM (ι:=Nat) (fun k=>⟨[(2,.bm K [.own 0 0]),(12,fQ l),(13,vi (l.length:Int)),(14,vi k)],[(0,.live 92 [bs (zs++aC (l.length:Int)++(l.take k).flatMap e)]),(1,.unborn)]⟩) (fun k=>k≤l.length) (fun k=>l.length-k) 0 (Nat.zero_le _) (Le.sub ⟨.inr rfl,.inr rfl,.inr rfl,.inr rfl,trivial⟩ ⟨by simp only [List.take_zero,List.flatMap_nil,List.append_nil];rfl,rfl,trivial⟩) ?_
 intro k hI
 refine sq ?_
 refine Z1 bz ?_
 refine cn ?_
 refine aD ?_
 refine cd (fun hb=>?_) fun hb=>?_
 ·have hlt:k<l.length:=by have h0:=of_decide_eq_true hb;omega
  have hq:=uF (zs:=zs++aC (l.length:Int)) (e:=e) hz hlt (d:=cH)
  refine aQ ?_
  refine aD ?_
  refine aU ?_
  refine sq ?_
  refine Z1 ia ?_
  refine Z1 lr ?_
  refine Z2 (al 1 [.int .i64 0,.slice none 0 0]) ?_
  refine bW [_,_] ?_
  refine cn ?_
  refine tx ?_
  refine Z1 mo ?_
  refine dE 2 [_,_] ?_
  refine aZ rfl rfl (sS [] rfl rfl hK ((hp _ hq.1 (l.getD k cH) (kY hlt) hq.2).m) rfl (by simp) (by simp [bQ]) (by simp) (by simp) (dU (by simp)) bH (by simp [aH]) bH) ⟨rfl,trivial⟩ ?_
  refine cn ?_
  refine tx ?_
  refine Z1 ba ?_
  refine Z1 mo ?_
  refine cn ?_
  refine ⟨k+1,by omega,by omega,?_⟩
  rw [show zs++aC (l.length:Int)++(l.take (k+1)).flatMap e=zs++aC (l.length:Int)++(l.take k).flatMap e++e (l.getD k cH) from by rw [mS (d:=cH) _ hlt,←List.append_assoc]]
  exact Le.reset [1] (by simp) ⟨.inr rfl,.inr rfl,.inr rfl,.inr (aR (by omega)),trivial⟩ ⟨by simp [aE,dL],aE.of_pure _ Pu.out,aE.of_pure _ Pu.out,aE.of_pure _ Pu.out,trivial⟩ ⟨by rw [if_neg (by decide)];exact ⟨rfl,fun z hz=>by rw [List.mem_singleton] at hz;subst hz;exact aE.of_pure _ (oP _)⟩,by rw [if_pos (by decide)],trivial⟩
 ·have hge:k=l.length:=by have h0:=of_decide_eq_false hb;omega
  refine bU ?_
  exact ⟨.inr rfl,iN rfl,⟨by subst hge;rw [List.take_length];rfl,trivial⟩⟩
theorem abO (zs:List Int)(l:List WayP)(K:Nat)(e:WayP→List Int)(hK:dN Tryz.prog K=true)(hz:(zs++aC (l.length:Int)++l.flatMap e).length≤100000000)(hp:∀ ys:List Int,ys.length≤100000000→∀ x∈l,(ys++e x).length≤100000000→FC Tryz.prog K [.own 0 0,oQ x] [(0,.live 92 [bs (ys)])] .any [(0,.live 92 [bs (ys++e x)])]):FC Tryz.prog 112 [.own 0 0,kZ l,.bm K [.own 0 0]] [(0,.live 92 [bs (zs)])] .any [(0,.live 92 [bs (zs++aC (l.length:Int)++l.flatMap e)])]:=by
 refine FC.body 2 22 Tryz.func112 rfl (by kernel_rfl) ?_
 refine aD ?_
 refine dM (t:=1) (x:=kZ l) rfl eR fun hf=>?_
 have hz0:zs.length≤100000000:=by simp only [List.length_append] at hz;omega
 refine tx ?_
 refine Z1 mo ?_
 refine Z1 mo ?_
 refine Z1 ln ?_
 refine aZ rfl rfl (dB [] rfl (by kernel_rfl) ((lL zs (l.length:Int) hz0 (by omega)).m) rfl (by simp) (by simp [bQ]) (by simp) (by simp) (dU (by simp)) bH (by simp [aH]) bH) ⟨rfl,trivial⟩ ?_
 refine cn ?_
 refine sq ?_
 refine Z1 mo ?_
 refine Z1 ln ?_
 refine Z1 mo ?_
 refine cn ?_
 refine aU ?_
 refine bM (ι:=Nat) (fun k=>⟨[(2,.bm K [.own 0 0]),(12,kZ l),(13,vi (l.length:Int)),(14,vi k)],[(0,.live 92 [bs (zs++aC (l.length:Int)++(l.take k).flatMap e)]),(1,.unborn)]⟩) (fun k=>k≤l.length) (fun k=>l.length-k) 0 (Nat.zero_le _) (Le.sub ⟨.inr rfl,.inr rfl,.inr rfl,.inr rfl,trivial⟩ ⟨by simp only [List.take_zero,List.flatMap_nil,List.append_nil];rfl,rfl,trivial⟩) ?_
 intro k hI
 refine sq ?_
 refine Z1 bz ?_
 refine cn ?_
 refine aD ?_
 refine cd (fun hb=>?_) fun hb=>?_
 ·have hlt:k<l.length:=by have h0:=of_decide_eq_true hb;omega
  have hq:=uF (zs:=zs++aC (l.length:Int)) (e:=e) hz hlt (d:=dD)
  refine aQ ?_
  refine aD ?_
  refine aU ?_
  refine sq ?_
  refine Z1 ia ?_
  refine Z1 lr ?_
  refine Z2 (al 1 [.int .i64 0,.int .i64 0,.int .i64 0,.int .i64 0]) ?_
  refine bW [_,_,_,_] ?_
  refine cn ?_
  refine tx ?_
  refine Z1 mo ?_
  refine dE 4 [_,_,_,_] ?_
  refine aZ rfl rfl (sS [] rfl rfl hK ((hp _ hq.1 (l.getD k dD) (kY hlt) hq.2).m) rfl (by simp) (by simp [bQ]) (by simp) (by simp) (dU (by simp)) bH (by simp [aH]) bH) ⟨rfl,trivial⟩ ?_
  refine cn ?_
  refine tx ?_
  refine Z1 ba ?_
  refine Z1 mo ?_
  refine cn ?_
  refine ⟨k+1,by omega,by omega,?_⟩
  rw [show zs++aC (l.length:Int)++(l.take (k+1)).flatMap e=zs++aC (l.length:Int)++(l.take k).flatMap e++e (l.getD k dD) from by rw [mS (d:=dD) _ hlt,←List.append_assoc]]
  exact Le.reset [1] (by simp) ⟨.inr rfl,.inr rfl,.inr rfl,.inr (aR (by omega)),trivial⟩ ⟨by simp [aE,dL],aE.of_pure _ Pu.out,aE.of_pure _ Pu.out,aE.of_pure _ Pu.out,trivial⟩ ⟨by rw [if_neg (by decide)];exact ⟨rfl,fun z hz=>by rw [List.mem_singleton] at hz;subst hz;exact aE.of_pure _ (oP _)⟩,by rw [if_pos (by decide)],trivial⟩
 ·have hge:k=l.length:=by have h0:=of_decide_eq_false hb;omega
  refine bU ?_
  exact ⟨.inr rfl,iN rfl,⟨by subst hge;rw [List.take_length];rfl,trivial⟩⟩
theorem abP (zs:List Int)(l:List VerbP)(K:Nat)(e:VerbP→List Int)(hK:dN Tryz.prog K=true)(hz:(zs++aC (l.length:Int)++l.flatMap e).length≤100000000)(hp:∀ ys:List Int,ys.length≤100000000→∀ x∈l,(ys++e x).length≤100000000→FC Tryz.prog K [.own 0 0,iC x] [(0,.live 92 [bs (ys)])] .any [(0,.live 92 [bs (ys++e x)])]):FC Tryz.prog 55 [.own 0 0,gB l,.bm K [.own 0 0]] [(0,.live 92 [bs (zs)])] .any [(0,.live 92 [bs (zs++aC (l.length:Int)++l.flatMap e)])]:=by
 refine FC.body 2 22 Tryz.func55 rfl (by kernel_rfl) ?_
 refine aD ?_
 refine dM (t:=1) (x:=gB l) rfl eR fun hf=>?_
 have hz0:zs.length≤100000000:=by simp only [List.length_append] at hz;omega
 refine tx ?_
 refine Z1 mo ?_
 refine Z1 mo ?_
 refine Z1 ln ?_
 refine aZ rfl rfl (dB [] rfl (by kernel_rfl) ((lL zs (l.length:Int) hz0 (by omega)).m) rfl (by simp) (by simp [bQ]) (by simp) (by simp) (dU (by simp)) bH (by simp [aH]) bH) ⟨rfl,trivial⟩ ?_
 refine cn ?_
 refine sq ?_
 refine Z1 mo ?_
 refine Z1 ln ?_
 refine Z1 mo ?_
 refine cn ?_
 refine aU ?_
 refine bM (ι:=Nat) (fun k=>⟨[(2,.bm K [.own 0 0]),(12,gB l),(13,vi (l.length:Int)),(14,vi k)],[(0,.live 92 [bs (zs++aC (l.length:Int)++(l.take k).flatMap e)]),(1,.unborn)]⟩) (fun k=>k≤l.length) (fun k=>l.length-k) 0 (Nat.zero_le _) (Le.sub ⟨.inr rfl,.inr rfl,.inr rfl,.inr rfl,trivial⟩ ⟨by simp only [List.take_zero,List.flatMap_nil,List.append_nil];rfl,rfl,trivial⟩) ?_
 intro k hI
 refine sq ?_
 refine Z1 bz ?_
 refine cn ?_
 refine aD ?_
 refine cd (fun hb=>?_) fun hb=>?_
 ·have hlt:k<l.length:=by have h0:=of_decide_eq_true hb;omega
  have hq:=uF (zs:=zs++aC (l.length:Int)) (e:=e) hz hlt (d:=gO)
  refine aQ ?_
  refine aD ?_
  refine aU ?_
  refine sq ?_
  refine Z1 ia ?_
  refine Z1 lr ?_
  refine Z2 (al 1 [.bool false,.slice none 0 0]) ?_
  refine bW [_,_] ?_
  refine cn ?_
  refine tx ?_
  refine Z1 mo ?_
  refine dE 2 [_,_] ?_
  refine aZ rfl rfl (sS [] rfl rfl hK ((hp _ hq.1 (l.getD k gO) (kY hlt) hq.2).m) rfl (by simp) (by simp [bQ]) (by simp) (by simp) (dU (by simp)) bH (by simp [aH]) bH) ⟨rfl,trivial⟩ ?_
  refine cn ?_
  refine tx ?_
  refine Z1 ba ?_
  refine Z1 mo ?_
  refine cn ?_
  refine ⟨k+1,by omega,by omega,?_⟩
  rw [show zs++aC (l.length:Int)++(l.take (k+1)).flatMap e=zs++aC (l.length:Int)++(l.take k).flatMap e++e (l.getD k gO) from by rw [mS (d:=gO) _ hlt,←List.append_assoc]]
  exact Le.reset [1] (by simp) ⟨.inr rfl,.inr rfl,.inr rfl,.inr (aR (by omega)),trivial⟩ ⟨by simp [aE,dL],aE.of_pure _ Pu.out,aE.of_pure _ Pu.out,aE.of_pure _ Pu.out,trivial⟩ ⟨by rw [if_neg (by decide)];exact ⟨rfl,fun z hz=>by rw [List.mem_singleton] at hz;subst hz;exact aE.of_pure _ (oP _)⟩,by rw [if_pos (by decide)],trivial⟩
 ·have hge:k=l.length:=by have h0:=of_decide_eq_false hb;omega
  refine bU ?_
  exact ⟨.inr rfl,iN rfl,⟨by subst hge;rw [List.take_length];rfl,trivial⟩⟩
theorem abQ (zs:List Int)(l:List ThingP)(K:Nat)(e:ThingP→List Int)(hK:dN Tryz.prog K=true)(hz:(zs++aC (l.length:Int)++l.flatMap e).length≤100000000)(hp:∀ ys:List Int,ys.length≤100000000→∀ x∈l,(ys++e x).length≤100000000→FC Tryz.prog K [.own 0 0,iT x] [(0,.live 92 [bs (ys)])] .any [(0,.live 92 [bs (ys++e x)])]):FC Tryz.prog 53 [.own 0 0,gA l,.bm K [.own 0 0]] [(0,.live 92 [bs (zs)])] .any [(0,.live 92 [bs (zs++aC (l.length:Int)++l.flatMap e)])]:=by
 refine FC.body 2 22 Tryz.func53 rfl (by kernel_rfl) ?_
 refine aD ?_
 refine dM (t:=1) (x:=gA l) rfl eR fun hf=>?_
 have hz0:zs.length≤100000000:=by simp only [List.length_append] at hz;omega
 refine tx ?_
 refine Z1 mo ?_
 refine Z1 mo ?_
 refine Z1 ln ?_
 refine aZ rfl rfl (dB [] rfl (by kernel_rfl) ((lL zs (l.length:Int) hz0 (by omega)).m) rfl (by simp) (by simp [bQ]) (by simp) (by simp) (dU (by simp)) bH (by simp [aH]) bH) ⟨rfl,trivial⟩ ?_
 refine cn ?_
 refine sq ?_
 refine Z1 mo ?_
 refine Z1 ln ?_
 refine Z1 mo ?_
 refine cn ?_
 refine aU ?_
 refine bM (ι:=Nat) (fun k=>⟨[(2,.bm K [.own 0 0]),(12,gA l),(13,vi (l.length:Int)),(14,vi k)],[(0,.live 92 [bs (zs++aC (l.length:Int)++(l.take k).flatMap e)]),(1,.unborn)]⟩) (fun k=>k≤l.length) (fun k=>l.length-k) 0 (Nat.zero_le _) (Le.sub ⟨.inr rfl,.inr rfl,.inr rfl,.inr rfl,trivial⟩ ⟨by simp only [List.take_zero,List.flatMap_nil,List.append_nil];rfl,rfl,trivial⟩) ?_
 intro k hI
 refine sq ?_
 refine Z1 bz ?_
 refine cn ?_
 refine aD ?_
 refine cd (fun hb=>?_) fun hb=>?_
 ·have hlt:k<l.length:=by have h0:=of_decide_eq_true hb;omega
  have hq:=uF (zs:=zs++aC (l.length:Int)) (e:=e) hz hlt (d:=cY)
  refine aQ ?_
  refine aD ?_
  refine aU ?_
  refine sq ?_
  refine Z1 ia ?_
  refine Z1 lr ?_
  refine Z2 (al 1 [.int .i64 0,.int .i64 0,.int .i64 0,.int .i64 0,.bool false,.slice none 0 0,.slice none 0 0,.slice none 0 0,.slice none 0 0]) ?_
  refine bW [_,_,_,_,_,_,_,_,_] ?_
  refine cn ?_
  refine tx ?_
  refine Z1 mo ?_
  refine dE 9 [_,_,_,_,_,_,_,_,_] ?_
  refine aZ rfl rfl (sS [] rfl rfl hK ((hp _ hq.1 (l.getD k cY) (kY hlt) hq.2).m) rfl (by simp) (by simp [bQ]) (by simp) (by simp) (dU (by simp)) bH (by simp [aH]) bH) ⟨rfl,trivial⟩ ?_
  refine cn ?_
  refine tx ?_
  refine Z1 ba ?_
  refine Z1 mo ?_
  refine cn ?_
  refine ⟨k+1,by omega,by omega,?_⟩
  rw [show zs++aC (l.length:Int)++(l.take (k+1)).flatMap e=zs++aC (l.length:Int)++(l.take k).flatMap e++e (l.getD k cY) from by rw [mS (d:=cY) _ hlt,←List.append_assoc]]
  exact Le.reset [1] (by simp) ⟨.inr rfl,.inr rfl,.inr rfl,.inr (aR (by omega)),trivial⟩ ⟨by simp [aE,dL],aE.of_pure _ Pu.out,aE.of_pure _ Pu.out,aE.of_pure _ Pu.out,trivial⟩ ⟨by rw [if_neg (by decide)];exact ⟨rfl,fun z hz=>by rw [List.mem_singleton] at hz;subst hz;exact aE.of_pure _ (oP _)⟩,by rw [if_pos (by decide)],trivial⟩
 ·have hge:k=l.length:=by have h0:=of_decide_eq_false hb;omega
  refine bU ?_
  exact ⟨.inr rfl,iN rfl,⟨by subst hge;rw [List.take_length];rfl,trivial⟩⟩
theorem abR (zs:List Int)(l:List DeedP)(K:Nat)(e:DeedP→List Int)(hK:dN Tryz.prog K=true)(hz:(zs++aC (l.length:Int)++l.flatMap e).length≤100000000)(hp:∀ ys:List Int,ys.length≤100000000→∀ x∈l,(ys++e x).length≤100000000→FC Tryz.prog K [.own 0 0,mT x] [(0,.live 92 [bs (ys)])] .any [(0,.live 92 [bs (ys++e x)])]):FC Tryz.prog 57 [.own 0 0,fY l,.bm K [.own 0 0]] [(0,.live 92 [bs (zs)])] .any [(0,.live 92 [bs (zs++aC (l.length:Int)++l.flatMap e)])]:=by
 refine FC.body 2 22 Tryz.func57 rfl (by kernel_rfl) ?_
 refine aD ?_
 refine dM (t:=1) (x:=fY l) rfl eR fun hf=>?_
 have hz0:zs.length≤100000000:=by simp only [List.length_append] at hz;omega
 refine tx ?_
 refine Z1 mo ?_
 refine Z1 mo ?_
 refine Z1 ln ?_
 refine aZ rfl rfl (dB [] rfl (by kernel_rfl) ((lL zs (l.length:Int) hz0 (by omega)).m) rfl (by simp) (by simp [bQ]) (by simp) (by simp) (dU (by simp)) bH (by simp [aH]) bH) ⟨rfl,trivial⟩ ?_
 refine cn ?_
 refine sq ?_
 refine Z1 mo ?_
 refine Z1 ln ?_
 refine Z1 mo ?_
 refine cn ?_
 refine aU ?_
 refine bM (ι:=Nat) (fun k=>⟨[(2,.bm K [.own 0 0]),(12,fY l),(13,vi (l.length:Int)),(14,vi k)],[(0,.live 92 [bs (zs++aC (l.length:Int)++(l.take k).flatMap e)]),(1,.unborn)]⟩) (fun k=>k≤l.length) (fun k=>l.length-k) 0 (Nat.zero_le _) (Le.sub ⟨.inr rfl,.inr rfl,.inr rfl,.inr rfl,trivial⟩ ⟨by simp only [List.take_zero,List.flatMap_nil,List.append_nil];rfl,rfl,trivial⟩) ?_
 intro k hI
 refine sq ?_
 refine Z1 bz ?_
 refine cn ?_
 refine aD ?_
 refine cd (fun hb=>?_) fun hb=>?_
 ·have hlt:k<l.length:=by have h0:=of_decide_eq_true hb;omega
  have hq:=uF (zs:=zs++aC (l.length:Int)) (e:=e) hz hlt (d:=fZ)
  refine aQ ?_
  refine aD ?_
  refine aU ?_
  refine sq ?_
  refine Z1 ia ?_
  refine Z1 lr ?_
  refine Z2 (al 1 [.int .i64 0,.int .i64 0,.int .i64 0,.int .i64 0,.int .i64 0,.int .i64 0]) ?_
  refine bW [_,_,_,_,_,_] ?_
  refine cn ?_
  refine tx ?_
  refine Z1 mo ?_
  refine dE 6 [_,_,_,_,_,_] ?_
  refine aZ rfl rfl (sS [] rfl rfl hK ((hp _ hq.1 (l.getD k fZ) (kY hlt) hq.2).m) rfl (by simp) (by simp [bQ]) (by simp) (by simp) (dU (by simp)) bH (by simp [aH]) bH) ⟨rfl,trivial⟩ ?_
  refine cn ?_
  refine tx ?_
  refine Z1 ba ?_
  refine Z1 mo ?_
  refine cn ?_
  refine ⟨k+1,by omega,by omega,?_⟩
  rw [show zs++aC (l.length:Int)++(l.take (k+1)).flatMap e=zs++aC (l.length:Int)++(l.take k).flatMap e++e (l.getD k fZ) from by rw [mS (d:=fZ) _ hlt,←List.append_assoc]]
  exact Le.reset [1] (by simp) ⟨.inr rfl,.inr rfl,.inr rfl,.inr (aR (by omega)),trivial⟩ ⟨by simp [aE,dL],aE.of_pure _ Pu.out,aE.of_pure _ Pu.out,aE.of_pure _ Pu.out,trivial⟩ ⟨by rw [if_neg (by decide)];exact ⟨rfl,fun z hz=>by rw [List.mem_singleton] at hz;subst hz;exact aE.of_pure _ (oP _)⟩,by rw [if_pos (by decide)],trivial⟩
 ·have hge:k=l.length:=by have h0:=of_decide_eq_false hb;omega
  refine bU ?_
  exact ⟨.inr rfl,iN rfl,⟨by subst hge;rw [List.take_length];rfl,trivial⟩⟩
theorem aD5 (zs:List Int)(l:List ByteArray)(hz:(zs++aJ aY l).length≤100000000):FC Tryz.prog 49 [.own 0 0,bB l] [(0,.live 92 [bs (zs)])] .any [(0,.live 92 [bs (zs++aJ aY l)])]:=by
 have hz2:(zs++aC (l.length:Int)++l.flatMap aY).length≤100000000:=by unfold aJ at hz;rwa [List.append_assoc]
 refine FC.body 1 9 Tryz.func49 rfl (by kernel_rfl) ?_
 refine tx ?_
 refine Z1 mo ?_
 refine Z1 mo ?_
 refine Z1 mo ?_
 refine Z1 (iE (cs:=[.own _ _]) rfl rfl) ?_
 refine aZ rfl rfl (dB [] rfl (by kernel_rfl) ((ah5 zs l 51 aY (by kernel_rfl) hz2 (fun ys h x hx hl=>aHS ys x h (by have:=abM x;simp only [List.length_append] at hl;omega))).m) rfl (by simp) (by simp [bQ]) (by simp) (by simp) (yR (by simp)) bH (by simp [aH]) bH) ⟨rfl,trivial⟩ ?_
 refine cn ?_
 exact ⟨.inr rfl,iN rfl,⟨by rw [show zs++aJ aY l=zs++aC (l.length:Int)++l.flatMap aY from (List.append_assoc ..).symm];rfl,trivial⟩⟩
theorem alE (zs:List Int)(x:SlotP)(hz:(zs++kQ x).length≤100000000):FC Tryz.prog 163 [.own 0 0,lJ x] [(0,.live 92 [bs (zs)])] .any [(0,.live 92 [bs (zs++kQ x)])]:=by
 have hz1:zs.length≤100000000:=by rw [List.length_append] at hz;omega
 have hz2:(zs++cQ x.kind++aJ aY x.words).length≤100000000:=by unfold kQ at hz;rwa [List.append_assoc]
 refine FC.body 1 12 Tryz.func163 rfl (by kernel_rfl) ?_
 refine sq ?_
 refine Z1 bx ?_
 refine cn ?_
 refine sq ?_
 refine Z1 mo ?_
 refine Z1 (fa 0) ?_
 refine Z1 ld ?_
 refine aZ rfl rfl (dB [] rfl (by kernel_rfl) ((zV zs x.kind hz1).m) rfl (by simp) (by simp [bQ]) (by simp) (by simp) (dU (by simp)) bH (by simp [aH]) bH) ⟨rfl,trivial⟩ ?_
 refine cn ?_
 refine tx ?_
 refine Z1 mo ?_
 refine Z1 (fa 1) ?_
 refine Z1 ld ?_
 refine aZ rfl rfl (dB [] rfl (by kernel_rfl) ((aD5 (zs++cQ x.kind) x.words hz2).m) rfl (by simp) (by simp [bQ]) (by simp) (by simp) (dU (by simp)) bH (by simp [aH]) bH) ⟨rfl,trivial⟩ ?_
 refine cn ?_
 exact ⟨.inr rfl,iN rfl,⟨by rw [show zs++kQ x=zs++cQ x.kind++aJ aY x.words from (List.append_assoc ..).symm];rfl,trivial⟩⟩
theorem alF (zs:List Int)(l:List SlotP)(hz:(zs++aJ kQ l).length≤100000000):FC Tryz.prog 115 [.own 0 0,fQ l] [(0,.live 92 [bs (zs)])] .any [(0,.live 92 [bs (zs++aJ kQ l)])]:=by
 have hz2:(zs++aC (l.length:Int)++l.flatMap kQ).length≤100000000:=by unfold aJ at hz;rwa [List.append_assoc]
 refine FC.body 1 9 Tryz.func115 rfl (by kernel_rfl) ?_
 refine tx ?_
 refine Z1 mo ?_
 refine Z1 mo ?_
 refine Z1 mo ?_
 refine Z1 (iE (cs:=[.own _ _]) rfl rfl) ?_
 refine aZ rfl rfl (dB [] rfl (by kernel_rfl) ((abN zs l 163 kQ (by kernel_rfl) hz2 (fun ys h x hx hl=>alE ys x hl)).m) rfl (by simp) (by simp [bQ]) (by simp) (by simp) (yR (by simp)) bH (by simp [aH]) bH) ⟨rfl,trivial⟩ ?_
 refine cn ?_
 exact ⟨.inr rfl,iN rfl,⟨by rw [show zs++aJ kQ l=zs++aC (l.length:Int)++l.flatMap kQ from (List.append_assoc ..).symm];rfl,trivial⟩⟩
theorem aQO (zs:List Int)(l:List Int)(hm:∀ x∈l,x≤9223372036854775807)(hz:(zs++aJ aC l).length≤100000000):FC Tryz.prog 50 [.own 0 0,aK l] [(0,.live 92 [bs (zs)])] .any [(0,.live 92 [bs (zs++aJ aC l)])]:=by
 have hz2:(zs++aC (l.length:Int)++l.flatMap aC).length≤100000000:=by unfold aJ at hz;rwa [List.append_assoc]
 refine FC.body 1 9 Tryz.func50 rfl (by kernel_rfl) ?_
 refine tx ?_
 refine Z1 mo ?_
 refine Z1 mo ?_
 refine Z1 mo ?_
 refine Z1 (iE (cs:=[.own _ _]) rfl rfl) ?_
 refine aZ rfl rfl (dB [] rfl (by kernel_rfl) ((ah6 zs l 48 aC (by kernel_rfl) hz2 (fun ys h x hx hl=>lL ys x h (hm x hx))).m) rfl (by simp) (by simp [bQ]) (by simp) (by simp) (yR (by simp)) bH (by simp [aH]) bH) ⟨rfl,trivial⟩ ?_
 refine cn ?_
 exact ⟨.inr rfl,iN rfl,⟨by rw [show zs++aJ aC l=zs++aC (l.length:Int)++l.flatMap aC from (List.append_assoc ..).symm];rfl,trivial⟩⟩
theorem adA (zs:List Int)(x:VerbP)(hz:(zs++fS x).length≤100000000):FC Tryz.prog 56 [.own 0 0,iC x] [(0,.live 92 [bs (zs)])] .any [(0,.live 92 [bs (zs++fS x)])]:=by
 have hz1:zs.length≤100000000:=by rw [List.length_append] at hz;omega
 have hz3:(zs++gQ x.meta_++aJ pK x.lines).length≤100000000:=by unfold fS at hz;rwa [List.append_assoc]
 have hz2:(zs++gQ x.meta_++aC (x.lines.length:Int)++x.lines.flatMap pK).length≤100000000:=by unfold aJ at hz3;rwa [List.append_assoc]
 refine FC.body 1 14 Tryz.func56 rfl (by kernel_rfl) ?_
 refine sq ?_
 refine Z1 bx ?_
 refine cn ?_
 refine sq ?_
 refine Z1 mo ?_
 refine Z1 (fa 0) ?_
 refine Z1 ld ?_
 refine aZ rfl rfl (dB [] rfl (by kernel_rfl) ((aPP zs x.meta_ hz1).m) rfl (by simp) (by simp [bQ]) (by simp) (by simp) (dU (by simp)) bH (by simp [aH]) bH) ⟨rfl,trivial⟩ ?_
 refine cn ?_
 refine tx ?_
 refine Z1 mo ?_
 refine Z1 (fa 1) ?_
 refine Z1 ld ?_
 refine Z1 mo ?_
 refine Z1 (iE (cs:=[.own _ _]) rfl rfl) ?_
 refine aZ rfl rfl (dB [] rfl (by kernel_rfl) ((ah7 (zs++gQ x.meta_) x.lines 115 pK (by kernel_rfl) hz2 (fun ys h x hx hl=>alF ys x hl)).m) rfl (by simp) (by simp [bQ]) (by simp) (by simp) (yR (by simp)) bH (by simp [aH]) bH) ⟨rfl,trivial⟩ ?_
 refine cn ?_
 exact ⟨.inr rfl,iN rfl,⟨by rw [show zs++fS x=zs++gQ x.meta_++aC (x.lines.length:Int)++x.lines.flatMap pK from by unfold fS aJ;simp only [List.append_assoc]];rfl,trivial⟩⟩
def aDY (y:WayP):Prop:=y.goal≤1000000000000000∧(-1000000000000000≤y.cond∧y.cond≤1000000000000000)∧(-1000000000000000≤y.els∧y.els≤1000000000000000)
theorem alG (zs:List Int)(y:WayP)(hy:aDY y)(hz:(zs++gR y).length≤100000000):FC Tryz.prog 113 [.own 0 0,oQ y] [(0,.live 92 [bs (zs)])] .any [(0,.live 92 [bs (zs++gR y)])]:=by
 obtain ⟨y1,⟨y2,y3⟩,y4,y5⟩:=hy
 unfold gR at hz
 simp only [List.length_append] at hz
 refine FC.body 1 20 Tryz.func113 rfl (by kernel_rfl) ?_
 refine sq ?_
 refine Z1 bx ?_
 refine cn ?_
 refine sq ?_
 refine Z1 mo ?_
 refine Z1 (fa 0) ?_
 refine Z1 ld ?_
 refine aZ rfl rfl (dB [] rfl (by kernel_rfl) ((zV zs y.dir (by omega)).m) rfl (by simp) (by simp [bQ]) (by simp) (by simp) (dU (by simp)) bH (by simp [aH]) bH) ⟨rfl,trivial⟩ ?_
 refine cn ?_
 refine sq ?_
 refine Z1 mo ?_
 refine Z1 (fa 1) ?_
 refine Z1 ld ?_
 refine aZ rfl rfl (dB [] rfl (by kernel_rfl) ((lL (zs++cQ y.dir) y.goal (by simp only [List.length_append];omega) (by omega)).m) rfl (by simp) (by simp [bQ]) (by simp) (by simp) (dU (by simp)) bH (by simp [aH]) bH) ⟨rfl,trivial⟩ ?_
 refine cn ?_
 refine sq ?_
 refine Z1 mo ?_
 refine Z1 (fa 2) ?_
 refine Z1 ld ?_
 refine aZ rfl rfl (dB [] rfl (by kernel_rfl) ((xQ (zs++cQ y.dir++aC y.goal) y.cond (by simp only [List.length_append];omega) y3 y2).m) rfl (by simp) (by simp [bQ]) (by simp) (by simp) (dU (by simp)) bH (by simp [aH]) bH) ⟨rfl,trivial⟩ ?_
 refine cn ?_
 refine tx ?_
 refine Z1 mo ?_
 refine Z1 (fa 3) ?_
 refine Z1 ld ?_
 refine aZ rfl rfl (dB [] rfl (by kernel_rfl) ((xQ (zs++cQ y.dir++aC y.goal++aC (y.cond+1)) y.els (by simp only [List.length_append];omega) y5 y4).m) rfl (by simp) (by simp [bQ]) (by simp) (by simp) (dU (by simp)) bH (by simp [aH]) bH) ⟨rfl,trivial⟩ ?_
 refine cn ?_
 exact ⟨.inr rfl,iN rfl,⟨by rw [show zs++gR y=zs++cQ y.dir++aC y.goal++aC (y.cond+1)++aC (y.els+1) from by unfold gR;simp only [List.append_assoc]];rfl,trivial⟩⟩
def gG (x:DeedP):List Int:=aC x.verb++cQ x.phase++aC (x.noun+1)++aC (x.second+1)++aC (x.cond+1)++aC x.body
def aIT (x:DeedP):Prop:=x.verb≤1000000000000000∧(-1000000000000000≤x.noun∧x.noun≤1000000000000000)∧(-1000000000000000≤x.second∧x.second≤1000000000000000)∧(-1000000000000000≤x.cond∧x.cond≤1000000000000000)∧x.body≤1000000000000000
theorem adB (zs:List Int)(x:DeedP)(hy:aIT x)(hz:(zs++gG x).length≤100000000):FC Tryz.prog 58 [.own 0 0,mT x] [(0,.live 92 [bs (zs)])] .any [(0,.live 92 [bs (zs++gG x)])]:=by
 obtain ⟨y1,⟨y2,y3⟩,⟨y4,y5⟩,⟨y6,y7⟩,y8⟩:=hy
 unfold gG at hz
 simp only [List.length_append] at hz
 refine FC.body 1 28 Tryz.func58 rfl (by kernel_rfl) ?_
 refine sq ?_
 refine Z1 bx ?_
 refine cn ?_
 refine sq ?_
 refine Z1 mo ?_
 refine Z1 (fa 0) ?_
 refine Z1 ld ?_
 refine aZ rfl rfl (dB [] rfl (by kernel_rfl) ((lL (zs) x.verb (by omega) (by omega)).m) rfl (by simp) (by simp [bQ]) (by simp) (by simp) (dU (by simp)) bH (by simp [aH]) bH) ⟨rfl,trivial⟩ ?_
 refine cn ?_
 refine sq ?_
 refine Z1 mo ?_
 refine Z1 (fa 1) ?_
 refine Z1 ld ?_
 refine aZ rfl rfl (dB [] rfl (by kernel_rfl) ((zV (zs++aC x.verb) x.phase (by simp only [List.length_append];omega) ).m) rfl (by simp) (by simp [bQ]) (by simp) (by simp) (dU (by simp)) bH (by simp [aH]) bH) ⟨rfl,trivial⟩ ?_
 refine cn ?_
 refine sq ?_
 refine Z1 mo ?_
 refine Z1 (fa 2) ?_
 refine Z1 ld ?_
 refine aZ rfl rfl (dB [] rfl (by kernel_rfl) ((xQ (zs++aC x.verb++cQ x.phase) x.noun (by simp only [List.length_append];omega) y3 y2).m) rfl (by simp) (by simp [bQ]) (by simp) (by simp) (dU (by simp)) bH (by simp [aH]) bH) ⟨rfl,trivial⟩ ?_
 refine cn ?_
 refine sq ?_
 refine Z1 mo ?_
 refine Z1 (fa 3) ?_
 refine Z1 ld ?_
 refine aZ rfl rfl (dB [] rfl (by kernel_rfl) ((xQ (zs++aC x.verb++cQ x.phase++aC (x.noun+1)) x.second (by simp only [List.length_append];omega) y5 y4).m) rfl (by simp) (by simp [bQ]) (by simp) (by simp) (dU (by simp)) bH (by simp [aH]) bH) ⟨rfl,trivial⟩ ?_
 refine cn ?_
 refine sq ?_
 refine Z1 mo ?_
 refine Z1 (fa 4) ?_
 refine Z1 ld ?_
 refine aZ rfl rfl (dB [] rfl (by kernel_rfl) ((xQ (zs++aC x.verb++cQ x.phase++aC (x.noun+1)++aC (x.second+1)) x.cond (by simp only [List.length_append];omega) y7 y6).m) rfl (by simp) (by simp [bQ]) (by simp) (by simp) (dU (by simp)) bH (by simp [aH]) bH) ⟨rfl,trivial⟩ ?_
 refine cn ?_
 refine tx ?_
 refine Z1 mo ?_
 refine Z1 (fa 5) ?_
 refine Z1 ld ?_
 refine aZ rfl rfl (dB [] rfl (by kernel_rfl) ((lL (zs++aC x.verb++cQ x.phase++aC (x.noun+1)++aC (x.second+1)++aC (x.cond+1)) x.body (by simp only [List.length_append];omega) (by omega)).m) rfl (by simp) (by simp [bQ]) (by simp) (by simp) (dU (by simp)) bH (by simp [aH]) bH) ⟨rfl,trivial⟩ ?_
 refine cn ?_
 exact ⟨.inr rfl,iN rfl,⟨by rw [show zs++gG x=zs++aC x.verb++cQ x.phase++aC (x.noun+1)++aC (x.second+1)++aC (x.cond+1)++aC x.body from by unfold gG;simp only [List.append_assoc]];rfl,trivial⟩⟩
def fH (x:ThingP):List Int:=aC x.title++aC (x.text+1)++aC x.parent++aC x.flags++gQ x.room++cZ x.props++aJ aY x.words++aJ aY x.adjs++aJ gR x.ways
def aQF (x:ThingP):Prop:=x.title≤1000000000000000∧(-1000000000000000≤x.text∧x.text≤1000000000000000)∧x.parent≤1000000000000000∧x.flags≤1000000000000000∧x.props.length≤100000000∧∀ y∈x.ways,aDY y
theorem ac9 (zs:List Int)(x:ThingP)(hy:aQF x)(hz:(zs++fH x).length≤100000000):FC Tryz.prog 54 [.own 0 0,iT x] [(0,.live 92 [bs (zs)])] .any [(0,.live 92 [bs (zs++fH x)])]:=by
 obtain ⟨y1,⟨y2,y3⟩,y4,y5,y6,y7⟩:=hy
 unfold fH at hz
 simp only [List.length_append] at hz
 refine FC.body 1 42 Tryz.func54 rfl (by kernel_rfl) ?_
 refine sq ?_
 refine Z1 bx ?_
 refine cn ?_
 refine sq ?_
 refine Z1 mo ?_
 refine Z1 (fa 0) ?_
 refine Z1 ld ?_
 refine aZ rfl rfl (dB [] rfl (by kernel_rfl) ((lL (zs) x.title (by omega) (by omega)).m) rfl (by simp) (by simp [bQ]) (by simp) (by simp) (dU (by simp)) bH (by simp [aH]) bH) ⟨rfl,trivial⟩ ?_
 refine cn ?_
 refine sq ?_
 refine Z1 mo ?_
 refine Z1 (fa 1) ?_
 refine Z1 ld ?_
 refine aZ rfl rfl (dB [] rfl (by kernel_rfl) ((xQ (zs++aC x.title) x.text (by simp only [List.length_append];omega) y3 y2).m) rfl (by simp) (by simp [bQ]) (by simp) (by simp) (dU (by simp)) bH (by simp [aH]) bH) ⟨rfl,trivial⟩ ?_
 refine cn ?_
 refine sq ?_
 refine Z1 mo ?_
 refine Z1 (fa 2) ?_
 refine Z1 ld ?_
 refine aZ rfl rfl (dB [] rfl (by kernel_rfl) ((lL (zs++aC x.title++aC (x.text+1)) x.parent (by simp only [List.length_append];omega) (by omega)).m) rfl (by simp) (by simp [bQ]) (by simp) (by simp) (dU (by simp)) bH (by simp [aH]) bH) ⟨rfl,trivial⟩ ?_
 refine cn ?_
 refine sq ?_
 refine Z1 mo ?_
 refine Z1 (fa 3) ?_
 refine Z1 ld ?_
 refine aZ rfl rfl (dB [] rfl (by kernel_rfl) ((lL (zs++aC x.title++aC (x.text+1)++aC x.parent) x.flags (by simp only [List.length_append];omega) (by omega)).m) rfl (by simp) (by simp [bQ]) (by simp) (by simp) (dU (by simp)) bH (by simp [aH]) bH) ⟨rfl,trivial⟩ ?_
 refine cn ?_
 refine sq ?_
 refine Z1 mo ?_
 refine Z1 (fa 4) ?_
 refine Z1 ld ?_
 refine aZ rfl rfl (dB [] rfl (by kernel_rfl) ((aPP (zs++aC x.title++aC (x.text+1)++aC x.parent++aC x.flags) x.room (by simp only [List.length_append];omega) ).m) rfl (by simp) (by simp [bQ]) (by simp) (by simp) (dU (by simp)) bH (by simp [aH]) bH) ⟨rfl,trivial⟩ ?_
 refine cn ?_
 refine sq ?_
 refine Z1 mo ?_
 refine Z1 (fa 5) ?_
 refine Z1 ld ?_
 refine aZ rfl rfl (dB [] rfl (by kernel_rfl) ((aHT (zs++aC x.title++aC (x.text+1)++aC x.parent++aC x.flags++gQ x.room) x.props (by simp only [List.length_append];omega) y6).m) rfl (by simp) (by simp [bQ]) (by simp) (by simp) (dU (by simp)) bH (by simp [aH]) bH) ⟨rfl,trivial⟩ ?_
 refine cn ?_
 refine sq ?_
 refine Z1 mo ?_
 refine Z1 (fa 6) ?_
 refine Z1 ld ?_
 refine aZ rfl rfl (dB [] rfl (by kernel_rfl) ((aD5 (zs++aC x.title++aC (x.text+1)++aC x.parent++aC x.flags++gQ x.room++cZ x.props) x.words (by simp only [List.length_append];omega) ).m) rfl (by simp) (by simp [bQ]) (by simp) (by simp) (dU (by simp)) bH (by simp [aH]) bH) ⟨rfl,trivial⟩ ?_
 refine cn ?_
 refine sq ?_
 refine Z1 mo ?_
 refine Z1 (fa 7) ?_
 refine Z1 ld ?_
 refine aZ rfl rfl (dB [] rfl (by kernel_rfl) ((aD5 (zs++aC x.title++aC (x.text+1)++aC x.parent++aC x.flags++gQ x.room++cZ x.props++aJ aY x.words) x.adjs (by simp only [List.length_append];omega) ).m) rfl (by simp) (by simp [bQ]) (by simp) (by simp) (dU (by simp)) bH (by simp [aH]) bH) ⟨rfl,trivial⟩ ?_
 refine cn ?_
 refine tx ?_
 refine Z1 mo ?_
 refine Z1 (fa 8) ?_
 refine Z1 ld ?_
 refine Z1 mo ?_
 refine Z1 (iE (cs:=[.own _ _]) rfl rfl) ?_
 refine aZ rfl rfl (dB [] rfl (by kernel_rfl) ((abO (zs++aC x.title++aC (x.text+1)++aC x.parent++aC x.flags++gQ x.room++cZ x.props++aJ aY x.words++aJ aY x.adjs) x.ways 113 gR (by kernel_rfl) (by simp only [List.length_append];simp only [aJ,List.length_append] at hz ⊢;omega) (fun ys h y hy hl=>alG ys y (y7 y hy) hl)).m) rfl (by simp) (by simp [bQ]) (by simp) (by simp) (yR (by simp)) bH (by simp [aH]) bH) ⟨rfl,trivial⟩ ?_
 refine cn ?_
 exact ⟨.inr rfl,iN rfl,⟨by rw [show zs++fH x=zs++aC x.title++aC (x.text+1)++aC x.parent++aC x.flags++gQ x.room++cZ x.props++aJ aY x.words++aJ aY x.adjs++aC (x.ways.length:Int)++x.ways.flatMap gR from by unfold fH aJ;simp only [List.append_assoc]];rfl,trivial⟩⟩
end Go.Proofs.YtnklgkjfoggpbaaGreatDoor
