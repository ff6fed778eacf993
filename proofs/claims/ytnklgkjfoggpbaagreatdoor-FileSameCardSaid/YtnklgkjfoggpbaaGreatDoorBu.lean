/- Parts of the proof of a law of this seat: rules and contracts; no conditions. -/
import Derived.Test.YtnklgkjfoggpbaaGreatDoorWireSpec
import Derived.Test.YtnklgkjfoggpbaaGreatDoorLt
import Derived.Test.YtnklgkjfoggpbaaGreatDoorBh
import Derived.Test.YtnklgkjfoggpbaaGreatDoorProg
import Derived.KernelRfl
import Derived.Laws.StructEq
set_option maxHeartbeats 6400000
set_option maxRecDepth 100000
set_option linter.unusedVariables false
set_option linter.unusedSimpArgs false
namespace Go.Proofs.YtnklgkjfoggpbaaGreatDoor
open Go.RowKit
theorem aYQ {l:List ByteArray}{k b:Nat}(h:wt l≤b):wt (l.take k)≤b:=by
 have e:=List.take_append_drop k l
 have:=vR (l.take k) (l.drop k)
 rw [e] at this
 omega
abbrev aYR:=List ByteArray × List ByteArray
theorem aCO (π:Nat→Nat)(l:List ByteArray):(l.map vs).map (Av.ren π)=l.map vs:=by
 rw [List.map_map]
 exact List.map_congr_left fun x _=>by simp [Av.ren]
theorem aCP {Z:List Nat}(l:List ByteArray):∀ z∈l.map vs,aE Z z:=fun z hz=>by
 obtain ⟨u,_,rfl⟩:=List.mem_map.1 hz
 simp [aE]
theorem aYS (l:List ByteArray)(hl:wt l≤5000000)(upto:Int):PC Tryz.prog 26 [bB l,vi upto] (bB (chooseP l upto)):=by
 refine FC.body 5 42 Tryz.func26 rfl (by kernel_rfl) ?_
 refine sq ?_
 refine V ?_
 refine sq ?_
 refine V ?_
 refine sq ?_
 refine V ?_
 refine aD ?_
 refine aU ?_
 refine bS (Le.nameNil 5 0 1 9 rfl rfl) ?_
 refine bM (ι:=aYR) (fun q=>⟨[(1,vi upto),(5,.osl 1 0 q.1.length),(6,bB q.2)],[(0,.live 9 (q.1.map vs)),(1,.unborn),(2,.unborn),(3,.unborn),(4,.unborn)]⟩) (fun q=>chooseP l upto=chF upto (33-q.1.length) q.1 q.2∧q.1.length≤32∧wt q.2≤5000000) (fun q=>33-q.1.length) ([],l) (⟨rfl,Nat.zero_le _,hl⟩) (Le.sub (by repeat (first|trivial|refine ⟨.inr rfl,?_⟩|refine ⟨.inr (aR (by omega)),?_⟩)) (by repeat (first|trivial|refine ⟨rfl,?_⟩))) ?_
 intro q hI
 refine W ?_
 refine Z1 (aNF rfl rfl rfl) ?_
 refine W ?_
 refine cd (fun hb=>?_) fun hb=>?_
 ·have hlt:(q.1.length:Int)<min upto 32:=of_decide_eq_true hb
  have hfw:=aGX hI.2.2
  have hwt:=hI.2.2
  have hll:=hfw.len
  have hbo:=aNU hfw
  have hul:q.1.length<32:=by omega
  refine W ?_
  refine Z1 (ca (aYF q.2 (aGX hI.2.2))) ?_
  refine Z2 (al 1 [.string ⟨#[]⟩,.int .i64 0]) ?_
  refine bW [_,_] ?_
  refine W ?_
  refine aS 1 1 false ?_
  refine W ?_
  refine cd (fun hb=>?_) fun hb=>?_
  ·have hle:(bestL q.2).2≤0:=of_decide_eq_true hb
   have hfin:chooseP l upto=q.1:=by rw [hI.1,show 33-q.1.length=(32-q.1.length)+1 from by omega];show (if _ then _ else _)=_;rw [if_pos hlt,if_pos hle]
   refine bU ?_
   refine aD ?_
   refine bS (Le.freeze 5 0 (fun j=>vs (q.1.getD j ByteArray.empty)) rfl rfl (by simp) (aCN _)) ?_
   refine W ?_
   exact ⟨.inl rfl,aF.tmp rfl (by rw [hfin];rfl),trivial⟩
  ·have hle:¬ (bestL q.2).2≤0:=of_decide_eq_false hb
   have hx2:=hbo.2 (by omega)
   have hch:chooseP l upto=chF upto (33-(q.1++[(bestL q.2).1]).length) (q.1++[(bestL q.2).1]) (iH q.2 (bestL q.2).1 q.2.length):=by rw [hI.1,show 33-q.1.length=(32-q.1.length)+1 from by omega];show (if _ then _ else _)=_;rw [if_pos hlt,if_neg hle];congr 1;(first|(simp;done)|(simp;omega))
   refine W ?_
   refine aS 0 1 false ?_
   refine W ?_
   refine Z1 (fO (ps:=[.tmp 24]) (xs:=[.val _]) (e:=9) (k:=1) (by_:=16) (zs:=[.string ⟨#[]⟩]) rfl (by kernel_rfl) (by kernel_rfl) rfl rfl rfl (by decide) (by decide)) ?_
   refine aZ rfl rfl (iG (e:=9) (k:=1) (by_:=16) (zs:=[.string ⟨#[]⟩]) (cs:=q.1.map vs) (ds:=[vs (bestL q.2).1]) 3 rfl rfl rfl (by kernel_rfl) (by kernel_rfl) rfl (by decide) (by decide) (by simp) rfl (aNV _) (by omega) (by omega)) ⟨rfl,rfl,trivial⟩ ?_
   refine V ?_
   refine bS (Le.trans (Le.swap (τ:=⟨[(1,vi upto),(5,.osl 1 0 (q.1.length+1)),(6,bB q.2),(7,.own 1 0)],[(0,.live 9 ((q.1++[(bestL q.2).1]).map vs)),(1,.live 142 [vs (bestL q.2).1,vi (bestL q.2).2]),(2,.unborn),(3,.dead),(4,.unborn)]⟩) 0 3 (by simp) (by simp) ⟨rfl,rfl,(iR _ _ (bV _)).symm,rfl,trivial⟩ ⟨by show aL _ 3=some (Hs.live _ (((q.1++[(bestL q.2).1]).map vs).map _));rw [aCO,List.map_append]<;>rfl,rfl,rfl,rfl,rfl,trivial⟩) (Le.reset (τ:=⟨[(1,vi upto),(5,.osl 1 0 (q.1.length+1)),(6,bB q.2),(7,.own 1 0)],[(0,.live 9 ((q.1++[(bestL q.2).1]).map vs)),(1,.live 142 [vs (bestL q.2).1,vi (bestL q.2).2]),(2,.unborn),(3,.unborn),(4,.unborn)]⟩) [3] (by simp) (by repeat (first|trivial|refine ⟨.inr rfl,?_⟩)) ⟨by simp [aE],by simp [aE],aE.of_pure _ (bV _),by simp [aE],trivial⟩ ⟨by rw [if_neg (by decide)];exact ⟨rfl,aCP _⟩,by rw [if_neg (by decide)];exact ⟨rfl,by simp [aE]⟩,by rw [if_neg (by decide)];exact ⟨rfl,trivial⟩,by rw [if_pos (by decide)],by rw [if_neg (by decide)];exact ⟨rfl,trivial⟩,trivial⟩)) ?_
   refine sq ?_
   refine V ?_
   refine aD ?_
   refine sq ?_
   refine V ?_
   refine aU ?_
   refine bS (Le.nameNil 8 2 1 9 rfl rfl) ?_
   refine bM (ι:=Nat) (fun k=>⟨[(1,vi upto),(5,.osl 1 0 (q.1.length+1)),(7,.own 1 0),(8,.osl 1 2 (iH q.2 (bestL q.2).1 k).length),(27,bB q.2),(28,vi q.2.length),(29,vi k)],[(0,.live 9 ((q.1++[(bestL q.2).1]).map vs)),(1,.live 142 [vs (bestL q.2).1,vi (bestL q.2).2]),(2,.live 9 ((iH q.2 (bestL q.2).1 k).map vs)),(3,.unborn),(4,.unborn)]⟩) (fun k=>k≤q.2.length) (fun k=>q.2.length-k) 0 (Nat.zero_le _) (Le.sub (by repeat (first|trivial|refine ⟨.inr rfl,?_⟩|refine ⟨.inr (aR (by omega)),?_⟩)) (by repeat (first|trivial|refine ⟨rfl,?_⟩))) ?_
   intro k hI
   refine W ?_
   refine cd (fun hb=>?_) fun hb=>?_
   ·have hk:k<q.2.length:=by have h0:=of_decide_eq_true hb;omega
    have hs1:(iH q.2 (bestL q.2).1 (k+1))=(iH q.2 (bestL q.2).1 k)++mB (q.2.getD k ByteArray.empty) (bestL q.2).1:=rfl
    have hm1:((iH q.2 (bestL q.2).1 k)++mB (q.2.getD k ByteArray.empty) (bestL q.2).1).map vs=(iH q.2 (bestL q.2).1 k).map vs++(mB (q.2.getD k ByteArray.empty) (bestL q.2).1).map vs:=List.map_append
    have hl1:(iH q.2 (bestL q.2).1 (k+1)).length=(iH q.2 (bestL q.2).1 k).length+(mB (q.2.getD k ByteArray.empty) (bestL q.2).1).length:=by rw [hs1,List.length_append]
    have hsz:=aGW q.2 k
    have hwl:=aGZ (r:=(bestL q.2).1) (by omega) q.2 k (by omega)
    have hws:=aGY (r:=(bestL q.2).1) (by omega) (Lib.countB (q.2.getD k ByteArray.empty) (bestL q.2).1) (q.2.getD k ByteArray.empty)
    have hln:=aCL (iH q.2 (bestL q.2).1 k)
    have hln2:=aCL (mB (q.2.getD k ByteArray.empty) (bestL q.2).1)
    have hszk:(q.2.getD k ByteArray.empty).size≤wt q.2:=hsz
    have htk:wt (q.2.take k)≤5000000:=aYQ hwt
    have hsp:wt (mB (q.2.getD k ByteArray.empty) (bestL q.2).1)≤(q.2.getD k ByteArray.empty).size+1:=hws
    refine W ?_
    refine aS 0 1 false ?_
    refine W ?_
    refine Z1 (cq (aYN _ _ (by omega) (by omega)) rfl rfl) ?_
    refine aZ rfl rfl (iG (e:=9) (k:=1) (by_:=16) (zs:=[.string ⟨#[]⟩]) (cs:=(iH q.2 (bestL q.2).1 k).map vs) (ds:=(mB (q.2.getD k ByteArray.empty) (bestL q.2).1).map vs) 4 rfl rfl rfl (by kernel_rfl) (by kernel_rfl) rfl (by decide) (by decide) (by simp) (by simp) (aYP _) (by omega) (by omega)) ⟨rfl,rfl,trivial⟩ ?_
    refine V ?_
    refine bS (Le.trans (Le.swap (τ:=⟨[(1,vi upto),(5,.osl 1 0 (q.1.length+1)),(7,.own 1 0),(8,.osl 1 2 (iH q.2 (bestL q.2).1 (k+1)).length),(27,bB q.2),(28,vi q.2.length),(29,vi k)],[(0,.live 9 ((q.1++[(bestL q.2).1]).map vs)),(1,.live 142 [vs (bestL q.2).1,vi (bestL q.2).2]),(2,.live 9 ((iH q.2 (bestL q.2).1 (k+1)).map vs)),(3,.unborn),(4,.dead)]⟩) 2 4 (by simp) (by simp) ⟨rfl,rfl,rfl,by rw [hl1];rfl,(iR _ _ (bV _)).symm,rfl,rfl,trivial⟩ ⟨by show aL _ 0=some (Hs.live _ (((q.1++[(bestL q.2).1]).map vs).map _));rw [aCO];rfl,rfl,by show aL _ 4=some (Hs.live _ (((iH q.2 (bestL q.2).1 (k+1)).map vs).map _));rw [aCO,hs1,hm1];rfl,rfl,rfl,trivial⟩) (Le.reset (τ:=⟨[(1,vi upto),(5,.osl 1 0 (q.1.length+1)),(7,.own 1 0),(8,.osl 1 2 (iH q.2 (bestL q.2).1 (k+1)).length),(27,bB q.2),(28,vi q.2.length),(29,vi k)],[(0,.live 9 ((q.1++[(bestL q.2).1]).map vs)),(1,.live 142 [vs (bestL q.2).1,vi (bestL q.2).2]),(2,.live 9 ((iH q.2 (bestL q.2).1 (k+1)).map vs)),(3,.unborn),(4,.unborn)]⟩) [4] (by simp) (by repeat (first|trivial|refine ⟨.inr rfl,?_⟩)) ⟨by simp [aE],by simp [aE],by simp [aE],by simp [aE],aE.of_pure _ (bV _),by simp [aE],by simp [aE],trivial⟩ ⟨by rw [if_neg (by decide)];exact ⟨rfl,aCP _⟩,by rw [if_neg (by decide)];exact ⟨rfl,by simp [aE]⟩,by rw [if_neg (by decide)];exact ⟨rfl,aCP _⟩,by rw [if_neg (by decide)];exact ⟨rfl,trivial⟩,by rw [if_pos (by decide)],trivial⟩)) ?_
    refine W ?_
    exact ⟨k+1,by omega,by omega,Le.sub (by repeat (first|trivial|refine ⟨.inr rfl,?_⟩|refine ⟨.inr (aR (by omega)),?_⟩)) ⟨rfl,rfl,rfl,rfl,rfl,trivial⟩⟩
   ·have hke:k=q.2.length:=by have h0:=of_decide_eq_false hb;omega
    subst hke
    refine bU ?_
    refine bS (Le.freeze 8 2 (fun j=>vs ((iH q.2 (bestL q.2).1 q.2.length).getD j ByteArray.empty)) rfl rfl (by simp) (aCN _)) ?_
    refine W ?_
    exact ⟨(q.1++[(bestL q.2).1],iH q.2 (bestL q.2).1 q.2.length),⟨hch,by simp;omega,by have h9:=aYO (r:=(bestL q.2).1) (by omega) q.2;show wt (iH _ _ _)≤_;omega⟩,by simp;omega,Le.reset [1,2] (by simp) (by repeat (first|trivial|refine ⟨.inr rfl,?_⟩|refine ⟨.inr (by show bN _ 5=Av.osl 1 0 (q.1++[(bestL q.2).1]).length;rw [List.length_append];rfl),?_⟩)) ⟨by simp [aE],by simp [aE],aE.of_pure _ (bV _),trivial⟩ ⟨by rw [if_neg (by decide)];exact ⟨rfl,by intro z hz;obtain ⟨u,_,rfl⟩:=List.mem_map.1 hz;simp [aE]⟩,by rw [if_pos (by decide)],by rw [if_pos (by decide)],by rw [if_neg (by decide)];exact ⟨rfl,trivial⟩,by rw [if_neg (by decide)];exact ⟨rfl,trivial⟩,trivial⟩⟩
 ·have hge:¬ (q.1.length:Int)<min upto 32:=of_decide_eq_false hb
  have hfin:chooseP l upto=q.1:=by rw [hI.1];cases 33-q.1.length<;>simp [chF,hge]
  refine bU ?_
  refine aD ?_
  refine bS (Le.freeze 5 0 (fun j=>vs (q.1.getD j ByteArray.empty)) rfl rfl (by simp) (aCN _)) ?_
  refine W ?_
  exact ⟨.inl rfl,aF.tmp rfl (by rw [hfin];rfl),trivial⟩
theorem aYT (s p:ByteArray):Lib.hasPrefix s.data.toList p.data.toList=(decide (p.size≤s.size)&&decide (s.extract 0 p.size=p)):=by
 rw [Bool.eq_iff_iff]
 unfold Lib.hasPrefix
 rw [List.isPrefixOf_iff_prefix,Bool.and_eq_true,decide_eq_true_eq,decide_eq_true_eq]
 have hs:s.data.toList.length=s.size:=by rw [Array.length_toList];rfl
 have hp:p.data.toList.length=p.size:=by rw [Array.length_toList];rfl
 have key:(s.extract 0 p.size).data.toList=s.data.toList.take p.size:=by
  rw [ByteArray.data_extract,Array.toList_extract,List.extract_eq_take_drop]
  simp
 constructor
 ·intro h
  have hl:=h.length_le
  refine ⟨by omega,?_⟩
  have e:=List.prefix_iff_eq_take.1 h
  rw [hp] at e
  have:(s.extract 0 p.size).data.toList=p.data.toList:=by rw [key,←e]
  exact ByteArray.ext (Array.toList_inj.1 this)
 ·intro h
  rw [List.prefix_iff_eq_take,hp,←key,h.2]
theorem aXX (s p:ByteArray):PC Tryz.prog 154 [vs s,vs p] (vb (decide (p.size≤s.size)&&decide (s.extract 0 p.size=p))):=by
 intro E vs hG hA _ _ _
 unfold aG aG aG at hA
 obtain ⟨v,us,rfl,hv,v',us',rfl,hv',rfl⟩:=hA
 unfold aA at hv hv'
 subst hv
 subst hv'
 refine (Tryz.strings_HasPrefix s p E.w).mono ?_
 rintro en w' ⟨rfl,rfl⟩
 have hb:Below E.w.heap.size E.w E.w:=Below.refl _ _
 exact ⟨E,_,rfl,rfl,hG,(Step.refl E).kept (by simp),by rw [aYT];unfold aA;rfl,fun n y hn=>by simp [aL] at hn⟩
theorem aXS {s a:ByteArray}{i:Nat}(hi:i≤s.size):(decide (a.size≤(s.extract i s.size).size)&&decide ((s.extract i s.size).extract 0 a.size=a))=(decide (i+a.size≤s.size)&&decide (s.extract i (i+a.size)=a)):=by
 have e1:(s.extract i s.size).size=s.size-i:=by rw [ByteArray.size_extract];omega
 rw [e1]
 by_cases h:i+a.size≤s.size
 ·have e2:(s.extract i s.size).extract 0 a.size=s.extract i (i+a.size):=by
   refine oF ?_
   rw [lZ,lZ,lZ]
   rw [List.drop_zero,List.take_of_length_le (l:=tB s) (by rw [fK];exact Nat.le_refl _),List.drop_take]
   congr 1
   omega
  rw [e2]
  congr 1
  rw [decide_eq_decide]
  omega
 ·have f2:decide (i+a.size≤s.size)=false:=by simp;omega
  have f3:decide (a.size≤s.size-i)=false:=by simp;omega
  rw [f2,f3]
  rfl
def tU (l:List ByteArray):Nat→Int
 | 0=>0
 | k+1=>tU l k+((l.getD k ByteArray.empty).size:Int)
theorem aNW (l:List ByteArray)(k:Nat):tU l (k+1)=tU l k+((l.getD k ByteArray.empty).size:Int):=rfl
def xK (l:List ByteArray)(n most:Int):Bool:=decide ((l.length:Int)≤n)&&((List.range l.length).all fun k=>decide (((l.getD k ByteArray.empty).size:Int)≤most))&&decide (tU l l.length≤most)
theorem aNX {l:List ByteArray}{most:Int}(hm:0≤most):∀ k,(∀ j,j<k→((l.getD j ByteArray.empty).size:Int)≤most)→0≤tU l k∧tU l k≤most*k
 | 0,_=>by simp [tU]
 | k+1,h=>by
  have h1:=aNX hm k fun j hj=>h j (by omega)
  have h2:=h k (by omega)
  rw [aNW]
  have h3:most*((k+1:Nat):Int)=most*k+most:=by rw [Int.natCast_add,Int.mul_add];simp
  rw [h3]
  omega
def xL (a b:List ByteArray):Bool:=(a.length:Int)==b.length&&(List.range a.length).all fun k=>decide (a.getD k ByteArray.empty=b.getD k ByteArray.empty)
theorem aYU (l:List ByteArray)(n most:Int)(hn:n≤1000)(hm:0≤most)(hm2:most≤100000):PC Tryz.prog 46 [bB l,vi n,vi most] (vb (xK l n most)):=by
 refine FC.body 6 36 Tryz.func46 rfl (by kernel_rfl) ?_
 refine W ?_
 refine cd (fun hb=>?_) fun hb=>?_
 ·have hlong:¬ (l.length:Int)≤n:=by have h0:=of_decide_eq_true hb;omega
  refine W ?_
  exact ⟨.inl rfl,aF.tmp rfl (bP (by unfold xK;simp [hlong])),trivial⟩
 ·have hlen:(l.length:Int)≤n:=by have h0:=of_decide_eq_false hb;omega
  refine W ?_
  refine bM (ι:=Nat) (fun k=>⟨[(0,bB l),(2,vi most),(7,vi (tU l k)),(8,vi k)],[]⟩) (fun k=>k≤l.length∧∀ j,j<k→((l.getD j ByteArray.empty).size:Int)≤most) (fun k=>l.length-k) 0 (⟨Nat.zero_le _,fun j hj=>absurd hj (by omega)⟩) (Le.sub (by repeat (first|trivial|refine ⟨.inr rfl,?_⟩|refine ⟨.inr (aR (by omega)),?_⟩)) (by repeat (first|trivial|refine ⟨rfl,?_⟩))) ?_
  intro k hI
  refine W ?_
  refine cd (fun hb=>?_) fun hb=>?_
  ·have hlt:k<l.length:=by have h0:=of_decide_eq_true hb;omega
   have hbk:=aNX hm k hI.2
   have hmk:most*(k:Int)≤100000*(k:Int):=Int.mul_le_mul_of_nonneg_right hm2 (by omega)
   refine W ?_
   refine cd (fun hb=>?_) fun hb=>?_
   ·have hsz:¬ (((l.getD k ByteArray.empty)).size:Int)≤most:=by have h0:=of_decide_eq_true hb;omega
    refine W ?_
    exact ⟨.inl rfl,aF.tmp rfl (bP (by unfold xK;rw [nD (p:=fun k=>decide (((l.getD k ByteArray.empty).size:Int)≤most)) hlt (by simpa using hsz)];simp)),trivial⟩
   ·have hsz:(((l.getD k ByteArray.empty)).size:Int)≤most:=by have h0:=of_decide_eq_false hb;omega
    have hsu:=aNW l k
    refine W ?_
    exact ⟨k+1,⟨by omega,fun j hj=>by rcases Nat.lt_or_ge j k with h1|h1;(exact hI.2 j h1);(obtain rfl:j=k:=by omega);exact hsz⟩,by omega,Le.sub (by repeat (first|trivial|refine ⟨.inr rfl,?_⟩|refine ⟨.inr (aR (by omega)),?_⟩)) trivial⟩
  ·have hge:k=l.length:=by have h0:=of_decide_eq_false hb;omega
   refine W ?_
   exact ⟨.inl rfl,aF.tmp rfl (bP (by unfold xK;rw [sP (p:=fun k=>decide (((l.getD k ByteArray.empty).size:Int)≤most)) (fun j hj=>by simpa using hI.2 j (by omega)),←hge];simp [show (k:Int)≤n from by omega])),trivial⟩
theorem aYV (a b:List ByteArray):PC Tryz.prog 119 [bB a,bB b] (vb (xL a b)):=by
 refine FC.body 6 26 Tryz.func119 rfl (by kernel_rfl) ?_
 refine dM (t:=0) (x:=bB a) rfl eR fun ha=>?_
 refine W ?_
 refine cd (fun hb=>?_) fun hb=>?_
 ·have hne:¬ (a.length:Int)=b.length:=by simpa using hb
  refine W ?_
  exact ⟨.inl rfl,aF.tmp rfl (bP (by unfold xL;simp only [beq_eq_false_iff_ne.2 hne];rfl)),trivial⟩
 ·have hll:(a.length:Int)=b.length:=by simpa using hb
  refine W ?_
  refine bM (ι:=Nat) (fun k=>⟨[(0,bB a),(1,bB b),(5,vi k)],[]⟩) (fun k=>k≤a.length∧∀ j,j<k→decide (a.getD j ByteArray.empty=b.getD j ByteArray.empty)=true) (fun k=>a.length-k) 0 (⟨Nat.zero_le _,qF⟩) (Le.sub (by repeat (first|trivial|refine ⟨.inr rfl,?_⟩|refine ⟨.inr (aR (by omega)),?_⟩)) (by repeat (first|trivial|refine ⟨rfl,?_⟩))) ?_
  intro k hI
  refine W ?_
  refine cd (fun hb=>?_) fun hb=>?_
  ·have hlt:k<a.length:=by have h0:=of_decide_eq_true hb;omega
   refine W ?_
   refine dw ?_
   refine W ?_
   refine Z1 (zR rfl rfl rfl) ?_
   refine cn (dn ?_)
   refine cd (fun hb=>?_) fun hb=>?_
   ·have heq:¬ a.getD k ByteArray.empty=b.getD k ByteArray.empty:=by rw [show ((a.getD k ByteArray.empty).toList !=(b.getD k ByteArray.empty).toList)=!((a.getD k ByteArray.empty).toList==(b.getD k ByteArray.empty).toList) from rfl,tT] at hb;simpa using hb
    refine W ?_
    exact ⟨.inl rfl,aF.tmp rfl (bP (by unfold xL;rw [nD (p:=fun k=>decide (a.getD k ByteArray.empty=b.getD k ByteArray.empty)) hlt (by simpa using heq),Bool.and_false])),trivial⟩
   ·have heq:a.getD k ByteArray.empty=b.getD k ByteArray.empty:=by rw [show ((a.getD k ByteArray.empty).toList !=(b.getD k ByteArray.empty).toList)=!((a.getD k ByteArray.empty).toList==(b.getD k ByteArray.empty).toList) from rfl,tT] at hb;simpa using hb
    refine W ?_
    exact ⟨k+1,⟨by omega,mC (p:=fun j=>decide (a.getD j ByteArray.empty=b.getD j ByteArray.empty)) hI.2 (by simpa using heq)⟩,by omega,Le.sub (by repeat (first|trivial|refine ⟨.inr rfl,?_⟩|refine ⟨.inr (aR (by omega)),?_⟩)) trivial⟩
  ·have hge:k=a.length:=by have h0:=of_decide_eq_false hb;omega
   refine W ?_
   exact ⟨.inl rfl,aF.tmp rfl (bP (by unfold xL;rw [sP (p:=fun k=>decide (a.getD k ByteArray.empty=b.getD k ByteArray.empty)) (fun j hj=>hI.2 j (by omega)),hll];simp)),trivial⟩
def nE (p r:ByteArray):Nat→Nat→Nat→List ByteArray→List ByteArray
 | 0,_,fr,out=>out++[p.extract fr p.size]
 | f+1,i,fr,out=>if i+r.size≤p.size then (if p.extract i (i+r.size)=r then nE p r f (i+r.size) (i+r.size) (out++[p.extract fr i]) else nE p r f (i+1) fr out) else out++[p.extract fr p.size]
def tV (l:List ByteArray)(r:ByteArray):Nat→List ByteArray
 | 0=>[]
 | k+1=>nE (l.getD k ByteArray.empty) r ((l.getD k ByteArray.empty).size+1) 0 0 (tV l r k)
def iW (l:List ByteArray)(r:ByteArray):Int:=(fB r-2)*nC l r l.length-fB r
def xM (s:Int)(row:ByteArray)(b:fE):Bool:=decide (s>b.2)||(((s==b.2)&&decide (s>0))&&(decide ((row.size:Int)>b.1.size)||(((row.size:Int)==(b.1.size:Int))&&Op.bytesLess row.toList b.1.toList)))
def aNY (l:List ByteArray)(p:ByteArray)(i n:Nat)(b:fE):fE:=if xM (iW l (p.extract i (i+n))) (p.extract i (i+n)) b=true then (p.extract i (i+n),iW l (p.extract i (i+n))) else b
def vS (l:List ByteArray)(p:ByteArray)(i:Nat)(b:fE):Nat→fE
 | 0=>b
 | k+1=>if k+2≤8∧i+(k+2)≤p.size then aNY l p i (k+2) (vS l p i b k) else vS l p i b k
def aG0 (l:List ByteArray)(p:ByteArray)(b:fE):Nat→fE
 | 0=>b
 | i+1=>vS l p i (aG0 l p b i) 7
def rA (l:List ByteArray):Nat→fE
 | 0=>(⟨#[]⟩,0)
 | k+1=>aG0 l (l.getD k ByteArray.empty) (rA l k) (l.getD k ByteArray.empty).size
theorem aG1 {p:ByteArray}{a b:Nat}(h:a≤b)(hb:b≤p.size):(p.extract a b).size=b-a:=by rw [ByteArray.size_extract];omega
theorem aG2 {p r:ByteArray}(hr:0<r.size):∀ (f i fr:Nat) (out:List ByteArray),fr≤i→i≤p.size→wt (nE p r f i fr out)≤wt out+(p.size-fr)+1
 | 0,i,fr,out,h1,h2=>by
  have:=aG1 (p:=p) (a:=fr) (b:=p.size) (by omega) (Nat.le_refl _)
  unfold nE
  rw [vR]
  simp only [wt]
  omega
 | f+1,i,fr,out,h1,h2=>by
  unfold nE
  split
  ·split
   ·have h3:=aG2 (p:=p) hr f (i+r.size) (i+r.size) (out++[p.extract fr i]) (Nat.le_refl _) (by omega)
    have:=aG1 (p:=p) (a:=fr) (b:=i) h1 h2
    rw [vR] at h3
    simp only [wt] at h3
    omega
   ·have:=aG2 (p:=p) hr f (i+1) fr out (by omega) (by omega)
    omega
  ·have:=aG1 (p:=p) (a:=fr) (b:=p.size) (by omega) (Nat.le_refl _)
   rw [vR]
   simp only [wt]
   omega
theorem aNZ {r:ByteArray}(hr:0<r.size)(l:List ByteArray):∀ k,k≤l.length→wt (tV l r k)≤wt (l.take k)
 | 0,_=>Nat.le_refl _
 | k+1,hk=>by
  have h1:=aNZ hr l k (by omega)
  have h2:=aG2 hr ((l.getD k ByteArray.empty).size+1) 0 0 (tV l r k) (p:=l.getD k ByteArray.empty) (Nat.le_refl _) (Nat.zero_le _)
  have e:l.take (k+1)=l.take k++[l.getD k ByteArray.empty]:=by rw [List.take_add_one];simp [show k<l.length from hk]
  unfold tV
  rw [e,vR]
  have:wt [l.getD k ByteArray.empty]=(l.getD k ByteArray.empty).size+1:=by simp [wt]
  omega
theorem aYW {r:ByteArray}(hr:0<r.size)(l:List ByteArray):wt (tV l r l.length)≤wt l:=by
 have:=aNZ hr l l.length (Nat.le_refl _)
 rwa [List.take_length] at this
def pC (l:List ByteArray):ByteArray:=(rA l l.length).1
def sE (most:Int):Nat→List ByteArray→List ByteArray→List ByteArray
 | 0,out,_=>out
 | f+1,out,parts=>if (out.length:Int)<most∧out.length<32 then (if pC parts=⟨#[]⟩ then out else sE most f (out++[pC parts]) (tV parts (pC parts) parts.length)) else out
def aYX (l:List ByteArray)(most:Int):List ByteArray:=sE most 33 [] l
open Go.RowKit Go.Maps
def kN (p r:ByteArray)(i:Nat):Prop:=i+r.size≤p.size∧p.extract i (i+r.size)=r
instance (p r:ByteArray) (i:Nat):Decidable (kN p r i):=by unfold kN;infer_instance
def eM (p r:ByteArray):Nat→Nat × Nat
 | 0=>(0,0)
 | i+1=>if kN p r i∧(eM p r i).2≤i then ((eM p r i).1+1,i+r.size) else eM p r i
theorem aN0 {p r:ByteArray}{i:Nat}(h:kN p r i)(he:(eM p r i).2≤i)(hr:0<r.size):∀ d,d<r.size→eM p r (i+1+d)=((eM p r i).1+1,i+r.size)
 | 0,_=>by
  show (if _ then _ else _)=_
  rw [if_pos ⟨h,he⟩]
 | d+1,hd=>by
  have h1:=aN0 h he hr d (by omega)
  rw [←Nat.add_assoc]
  show (if kN p r (i+1+d)∧(eM p r (i+1+d)).2≤i+1+d then _ else eM p r (i+1+d))=_
  rw [h1,if_neg (fun hc=>by have:=hc.2;simp at this;omega)]
theorem aN1 {p r:ByteArray}{i:Nat}(h:¬ i+r.size≤p.size):∀ d,eM p r (i+d)=eM p r i
 | 0=>rfl
 | d+1=>by
  rw [←Nat.add_assoc]
  show (if kN p r (i+d)∧_ then _ else eM p r (i+d))=_
  rw [if_neg (fun hc=>by have:=hc.1.1;omega)]
  exact aN1 h d
theorem aCQ {p r:ByteArray}(hr:0<r.size):∀ (f i:Nat) (n:Int),p.size<f+i→(eM p r i).2≤i→i≤p.size→vP p r f i n+(eM p r i).1=n+(eM p r p.size).1
 | 0,i,n,h,_,hi=>by omega
 | f+1,i,n,h,he,hi=>by
  unfold vP
  split
  ·rename_i hin
   split
   ·rename_i hat
    have hs:kN p r i:=⟨hin,hat⟩
    have h1:=aN0 hs he hr (r.size-1) (by omega)
    have e:i+1+(r.size-1)=i+r.size:=by omega
    rw [e] at h1
    have h2:=aCQ (p:=p) hr f (i+r.size) (n+1) (by omega) (by rw [h1];exact Nat.le_refl _) hin
    rw [h1] at h2
    simp at h2 ⊢
    omega
   ·rename_i hat
    have h1:eM p r (i+1)=eM p r i:=by
     show (if _ then _ else _)=_
     rw [if_neg (fun hc=>hat hc.1.2)]
    have h2:=aCQ (p:=p) hr f (i+1) n (by omega) (by rw [h1];omega) (by omega)
    rw [h1] at h2
    exact h2
  ·rename_i hin
   have h1:=aN1 (p:=p) (r:=r) hin (p.size-i)
   rw [show i+(p.size-i)=p.size from by omega] at h1
   rw [h1]
theorem aG3 {p r:ByteArray}{i n:Nat}{s:MM}(h1:MI s.1)(h2:MI s.2)(hp:i+n≤p.size)(hn:n≠r.size):bO (jY p i n s).1 r=bO s.1 r∧bO (jY p i n s).2 r=bO s.2 r:=by
 unfold jY
 have hne:¬ r=p.extract i (i+n):=fun e=>hn (by rw [e,aCF p i n hp])
 split
 ·exact ⟨by rw [rG h1,if_neg hne],by rw [rG h2,if_neg hne]⟩
 ·exact ⟨rfl,rfl⟩
theorem aYY {p r:ByteArray}{i:Nat}{s:MM}(h1:MI s.1)(h2:MI s.2)(hc:kN p r i)(he:bO s.2 r≤i):
 bO (jY p i r.size s).1 r=bO s.1 r+1∧bO (jY p i r.size s).2 r=((i+r.size:Nat):Int):=by
 unfold jY
 rw [hc.2,if_pos he]
 exact ⟨by show bO (s.1.put _ _) r=_;rw [rG h1,if_pos rfl],by show bO (s.2.put _ _) r=_;rw [rG h2,if_pos rfl]⟩
theorem aYZ {p r:ByteArray}{i:Nat}{s:MM}(h1:MI s.1)(h2:MI s.2)(hp:i+r.size≤p.size)(hc:¬ (kN p r i∧bO s.2 r≤i)):
 bO (jY p i r.size s).1 r=bO s.1 r∧bO (jY p i r.size s).2 r=bO s.2 r:=by
 unfold jY
 by_cases hat:p.extract i (i+r.size)=r
 ·rw [hat,if_neg (fun he=>hc ⟨⟨hp,hat⟩,he⟩)]
  exact ⟨rfl,rfl⟩
 ·have hne:¬ r=p.extract i (i+r.size):=fun e=>hat e.symm
  split
  ·exact ⟨by show bO (s.1.put _ _) r=_;rw [rG h1,if_neg hne],by show bO (s.2.put _ _) r=_;rw [rG h2,if_neg hne]⟩
  ·exact ⟨rfl,rfl⟩
theorem aN2 {p r:ByteArray}{i b:Nat}{s:MM}(hS:Sane b s)(hp:p.size≤1000000000)(h2:2≤r.size):∀ k,
 (k+1<r.size→bO (fA p i s k).1 r=bO s.1 r∧bO (fA p i s k).2 r=bO s.2 r)∧
 (r.size≤k+1→k≤7→(kN p r i∧bO s.2 r≤i→bO (fA p i s k).1 r=bO s.1 r+1∧bO (fA p i s k).2 r=((i+r.size:Nat):Int))∧
  (¬ (kN p r i∧bO s.2 r≤i)→bO (fA p i s k).1 r=bO s.1 r∧bO (fA p i s k).2 r=bO s.2 r))
 | 0=>⟨fun _=>⟨rfl,rfl⟩,fun h=>by omega⟩
 | k+1=>by
  obtain ⟨ih1,ih2⟩:=aN2 hS hp h2 (i:=i) k
  have hT:=hS.row hp (i:=i) k
  have hu:fA p i s (k+1)=if k+2≤8∧i+(k+2)≤p.size then jY p i (k+2) (fA p i s k) else fA p i s k:=rfl
  refine ⟨fun hk=>?_,fun hk hk7=>?_⟩
  ·obtain ⟨e1,e2⟩:=ih1 (by omega)
   rw [hu]
   split
   ·rename_i hc
    obtain ⟨f1,f2⟩:=aG3 (r:=r) hT.m1 hT.m2 hc.2 (by omega)
    exact ⟨f1.trans e1,f2.trans e2⟩
   ·exact ⟨e1,e2⟩
  ·rcases Nat.lt_or_ge (k+1) r.size with h3|h3
   ·have hn:r.size=k+2:=by omega
    obtain ⟨e1,e2⟩:=ih1 h3
    refine ⟨fun hc=>?_,fun hc=>?_⟩
    ·have hin:i+(k+2)≤p.size:=by have:=hc.1.1;omega
     rw [hu,if_pos ⟨by omega,hin⟩,←hn]
     obtain ⟨f1,f2⟩:=aYY hT.m1 hT.m2 hc.1 (by rw [e2];exact hc.2)
     exact ⟨by rw [f1,e1],f2⟩
    ·rw [hu]
     split
     ·rename_i hd
      rw [←hn]
      obtain ⟨f1,f2⟩:=aYZ (p:=p) (r:=r) (i:=i) hT.m1 hT.m2 (by rw [hn];exact hd.2) (by rw [e2];exact hc)
      exact ⟨f1.trans e1,f2.trans e2⟩
     ·exact ⟨e1,e2⟩
   ·obtain ⟨g1,g2⟩:=ih2 h3 (by omega)
    refine ⟨fun hc=>?_,fun hc=>?_⟩
    ·obtain ⟨e1,e2⟩:=g1 hc
     rw [hu]
     split
     ·rename_i hd
      obtain ⟨f1,f2⟩:=aG3 (r:=r) hT.m1 hT.m2 hd.2 (by omega)
      exact ⟨f1.trans e1,f2.trans e2⟩
     ·exact ⟨e1,e2⟩
    ·obtain ⟨e1,e2⟩:=g2 hc
     rw [hu]
     split
     ·rename_i hd
      obtain ⟨f1,f2⟩:=aG3 (r:=r) hT.m1 hT.m2 hd.2 (by omega)
      exact ⟨f1.trans e1,f2.trans e2⟩
     ·exact ⟨e1,e2⟩
theorem aN3 {p r:ByteArray}{M:DataW Unit}{b:Nat}(hM:MI M)(hs:Maps.size M≤b)(hg:∀ t,0≤bO M t∧bO M t≤b)(hp:p.size≤1000000000)(h2:2≤r.size)(h8:r.size≤8):∀ i,bO (iY p M i).1 r=bO M r+((eM p r i).1:Int)∧bO (iY p M i).2 r=((eM p r i).2:Int)
 | 0=>⟨by show bO M r=_;simp [eM],rfl⟩
 | i+1=>by
  obtain ⟨e1,e2⟩:=aN3 hM hs hg hp h2 h8 i
  have hS:=Sane.part hM hs hg hp i
  obtain ⟨_,g⟩:=aN2 (i:=i) hS hp h2 7
  obtain ⟨g1,g2⟩:=g (by omega) (Nat.le_refl _)
  show bO (fA p i (iY p M i) 7).1 r=_∧bO (fA p i (iY p M i) 7).2 r=_
  have hgr:eM p r (i+1)=if kN p r i∧(eM p r i).2≤i then ((eM p r i).1+1,i+r.size) else eM p r i:=rfl
  by_cases hc:kN p r i∧(eM p r i).2≤i
  ·obtain ⟨f1,f2⟩:=g1 ⟨hc.1,by rw [e2];have:=hc.2;omega⟩
   rw [hgr,if_pos hc,f1,f2,e1]
   exact ⟨by simp only [];omega,rfl⟩
  ·obtain ⟨f1,f2⟩:=g2 (fun hd=>hc ⟨hd.1,by have:=hd.2;rw [e2] at this;omega⟩)
   rw [hgr,if_neg hc,f1,f2]
   exact ⟨e1,e2⟩
theorem aCR {l:List ByteArray}(h:FewT l){r:ByteArray}(h2:2≤r.size)(h8:r.size≤8):∀ k,bO (dQ l k) r=nC l r k
 | 0=>rfl
 | k+1=>by
  have ih:=aCR h h2 h8 k
  obtain ⟨m1,m2,m3⟩:=Sane.all h k
  have hs:=h.size k
  obtain ⟨e1,_⟩:=aN3 (r:=r) m1 m2 m3 (p:=l.getD k ⟨#[]⟩) (by omega) h2 h8 (l.getD k ⟨#[]⟩).size
  have e2:=aCQ (p:=l.getD k ⟨#[]⟩) (r:=r) (by omega) ((l.getD k ⟨#[]⟩).size+1) 0 (nC l r k) (by omega) (Nat.le_refl _) (Nat.zero_le _)
  have e3:(eM (l.getD k ⟨#[]⟩) r 0).1=0:=rfl
  show bO (iY (l.getD k ⟨#[]⟩) (dQ l k) (l.getD k ⟨#[]⟩).size).1 r=vP (l.getD k ⟨#[]⟩) r ((l.getD k ⟨#[]⟩).size+1) 0 (nC l r k)
  rw [e1,ih]
  rw [e3] at e2
  omega
def vT (D:DataW Unit):Prop:=∀ s,Maps.has D (kS s)=decide (0<bO D s)
theorem aY0 {p:ByteArray}{i n b:Nat}{s:MM}(hS:Sane b s)(h:vT s.1):vT (jY p i n s).1:=by
 unfold jY
 split
 ·intro t
  show Maps.has (s.1.put (kS (p.extract i (i+n))) (iv (bO s.1 (p.extract i (i+n))+1))) (kS t)=decide (0<bO (s.1.put (kS (p.extract i (i+n))) (iv (bO s.1 (p.extract i (i+n))+1))) t)
  rw [aM4 hS.m1,rG hS.m1,h t]
  by_cases e:t=p.extract i (i+n)
  ·have:=hS.g1 (p.extract i (i+n))
   rw [if_pos e]
   simp [e]
   omega
  ·rw [if_neg e]
   simp [e]
 ·exact h
theorem aN4 {p:ByteArray}{i b:Nat}{s:MM}(hp:p.size≤1000000000)(hS:Sane b s)(h:vT s.1):∀ k,vT (fA p i s k).1
 | 0=>h
 | k+1=>by
  have h1:=aN4 hp hS h (i:=i) k
  unfold fA
  split
  ·exact aY0 (hS.row hp k) h1
  ·exact h1
theorem aN5 {p:ByteArray}{M:DataW Unit}{b:Nat}(hM:MI M)(hs:Maps.size M≤b)(hg:∀ t,0≤bO M t∧bO M t≤b)(h:vT M)(hp:p.size≤1000000000):∀ k,vT (iY p M k).1
 | 0=>h
 | k+1=>aN4 hp (Sane.part hM hs hg hp k) (aN5 hM hs hg h hp k) 7
theorem aG4 {l:List ByteArray}(h:FewT l):∀ k,vT (dQ l k)
 | 0=>fun s=>rfl
 | k+1=>by
  obtain ⟨h1,h2,h3⟩:=Sane.all h k
  have:=h.size k
  exact aN5 h1 h2 h3 (aG4 h k) (by omega) _
theorem aN6 {p r:ByteArray}:∀ i,(eM p r i).1=0→(eM p r i).2=0
 | 0,_=>rfl
 | i+1,h=>by
  have hu:eM p r (i+1)=if kN p r i∧(eM p r i).2≤i then ((eM p r i).1+1,i+r.size) else eM p r i:=rfl
  rw [hu] at h ⊢
  split at h
  ·simp at h
  ·rename_i hc
   rw [if_neg hc]
   exact aN6 i h
theorem aN7 {p r:ByteArray}:∀ n,(0<(eM p r n).1↔∃ i,i<n∧kN p r i)
 | 0=>by simp [eM]
 | n+1=>by
  have ih:=aN7 (p:=p) (r:=r) n
  have hu:eM p r (n+1)=if kN p r n∧(eM p r n).2≤n then ((eM p r n).1+1,n+r.size) else eM p r n:=rfl
  constructor
  ·intro h
   rw [hu] at h
   split at h
   ·rename_i hc;exact ⟨n,by omega,hc.1⟩
   ·obtain ⟨i,h1,h2⟩:=ih.1 h
    exact ⟨i,by omega,h2⟩
  ·rintro ⟨i,h1,h2⟩
   rw [hu]
   split
   ·show 0<_+1;omega
   ·rename_i hc
    rcases Nat.lt_or_ge i n with h3|h3
    ·exact ih.2 ⟨i,h3,h2⟩
    ·obtain rfl:i=n:=by omega
     refine Nat.pos_of_ne_zero fun h0=>hc ⟨h2,?_⟩
     rw [aN6 i h0]
     omega
def Vis (l:List ByteArray)(k:Nat)(s:ByteArray):Prop:=∃ j,j<k∧∃ i,kN (l.getD j ⟨#[]⟩) s i
theorem aN8 {l:List ByteArray}{r:ByteArray}(hr:0<r.size)(k:Nat):nC l r (k+1)=nC l r k+((eM (l.getD k ⟨#[]⟩) r (l.getD k ⟨#[]⟩).size).1:Int):=by
 have e2:=aCQ (p:=l.getD k ⟨#[]⟩) (r:=r) hr ((l.getD k ⟨#[]⟩).size+1) 0 (nC l r k) (by omega) (Nat.le_refl _) (Nat.zero_le _)
 have e3:(eM (l.getD k ⟨#[]⟩) r 0).1=0:=rfl
 rw [e3] at e2
 show vP (l.getD k ⟨#[]⟩) r ((l.getD k ⟨#[]⟩).size+1) 0 (nC l r k)=_
 omega
theorem aN9 {l:List ByteArray}{r:ByteArray}(hr:0<r.size):∀ k,0≤nC l r k
 | 0=>by simp [nC]
 | k+1=>by have:=aN9 (l:=l) hr k;rw [aN8 hr];omega
theorem aG6 {l:List ByteArray}{r:ByteArray}(hr:0<r.size):∀ k,(0<nC l r k↔Vis l k r)
 | 0=>⟨fun h=>by simp [nC] at h,fun ⟨j,h,_⟩=>by omega⟩
 | k+1=>by
  have ih:=aG6 (l:=l) hr k
  have hn:=aN9 (l:=l) hr k
  have hg:=aN7 (p:=l.getD k ⟨#[]⟩) (r:=r) (l.getD k ⟨#[]⟩).size
  rw [aN8 hr]
  constructor
  ·intro h
   by_cases h1:0<nC l r k
   ·obtain ⟨j,h2,h3⟩:=ih.1 h1
    exact ⟨j,by omega,h3⟩
   ·obtain ⟨i,_,h3⟩:=hg.1 (by omega)
    exact ⟨k,by omega,i,h3⟩
  ·rintro ⟨j,h1,i,h2⟩
   rcases Nat.lt_or_ge j k with h3|h3
   ·have:=ih.2 ⟨j,h3,i,h2⟩
    omega
   ·obtain rfl:j=k:=by omega
    have hi:i<(l.getD j ⟨#[]⟩).size:=by have:=h2.1;omega
    have:=hg.2 ⟨i,hi,h2⟩
    omega
theorem aG7 {l:List ByteArray}(h:FewT l){s:ByteArray}(k:Nat):Maps.has (dQ l k) (kS s)=true↔(2≤s.size∧s.size≤8)∧Vis l k s:=by
 constructor
 ·intro hh
  have h1:=aCK h k s hh
  rw [aG4 h k s,decide_eq_true_eq,aCR h h1.1 h1.2 k] at hh
  exact ⟨h1,(aG6 (by omega) k).1 hh⟩
 ·rintro ⟨h1,h2⟩
  rw [aG4 h k s,decide_eq_true_eq,aCR h h1.1 h1.2 k]
  exact (aG6 (by omega) k).2 h2
def oL (l:List ByteArray)(V:ByteArray→Prop)(b:fE):Prop:=
 (b=(⟨#[]⟩,0)∧∀ s,V s→iW l s≤0)∨(V b.1∧b.2=iW l b.1∧0<b.2∧∀ s,V s→0<iW l s→s=b.1∨eO b (s,iW l s)=true)
theorem aY1 {s:Int}{row:ByteArray}{b:fE}(hb:0<b.2):xM s row b=eO (row,s) b:=by
 unfold xM eO
 by_cases h1:s=b.2
 ·rw [if_neg (by simpa using h1)]
  have e1:decide (s>b.2)=false:=by simp;omega
  have e2:(s==b.2)=true:=by simpa using h1
  have e3:decide (s>0)=true:=by simp;omega
  rw [e1,e2,e3]
  by_cases h2:(row.size:Int)=b.1.size
  ·rw [if_neg (by simpa using h2)]
   have e4:decide ((row.size:Int)>b.1.size)=false:=by simp;omega
   have e5:((row.size:Int)==(b.1.size:Int))=true:=by simpa using h2
   rw [e4,e5]
   simp
  ·rw [if_pos (by simpa using h2)]
   have e5:((row.size:Int)==(b.1.size:Int))=false:=by simpa using h2
   rw [e5]
   simp
 ·rw [if_pos (by simpa using h1)]
  have e2:(s==b.2)=false:=by simpa using h1
  rw [e2]
  simp
theorem aY2 {l:List ByteArray}{V:ByteArray→Prop}{b:fE}{row:ByteArray}(h:oL l V b):oL l (fun s=>V s∨s=row) (if xM (iW l row) row b=true then (row,iW l row) else b):=by
 rcases h with ⟨rfl,h2⟩|⟨h1,h2,h3,h4⟩
 ·have e:xM (iW l row) row (⟨#[]⟩,0)=decide (iW l row>0):=by
   unfold xM
   by_cases h5:iW l row>0
   ·simp [h5]
   ·have:¬ iW l row>0:=h5
    simp [this]
  rw [e]
  split
  ·rename_i h5
   rw [decide_eq_true_eq] at h5
   refine .inr ⟨.inr rfl,rfl,h5,fun s hs hp=>?_⟩
   rcases hs with hs|hs
   ·have:=h2 s hs;omega
   ·exact .inl hs
  ·rename_i h5
   rw [decide_eq_true_eq] at h5
   refine .inl ⟨rfl,fun s hs=>?_⟩
   rcases hs with hs|hs
   ·exact h2 s hs
   ·rw [hs];omega
 ·rw [aY1 h3]
  split
  ·rename_i h5
   have hp:0<iW l row:=by
    unfold eO at h5
    split at h5
    ·simp at h5;omega
    ·rename_i h6;have:iW l row=b.2:=by simpa using h6
     omega
   refine .inr ⟨.inr rfl,rfl,hp,fun s hs hsp=>?_⟩
   rcases hs with hs|hs
   ·rcases h4 s hs hsp with h6|h6
    ·subst h6
     rw [←h2]
     exact .inr h5
    ·exact .inr (aGR h5 h6)
   ·exact .inl hs
  ·rename_i h5
   have h5':eO (row,iW l row) b=false:=by simpa using h5
   refine .inr ⟨.inl h1,h2,h3,fun s hs hsp=>?_⟩
   rcases hs with hs|hs
   ·exact h4 s hs hsp
   ·subst hs
    by_cases e:s=b.1
    ·exact .inl e
    ·rcases aNP (a:=(s,iW l s)) (b:=b) e with h6|h6
     ·rw [h5'] at h6;cases h6
     ·exact .inr h6
theorem oL.same {l:List ByteArray}{V W:ByteArray→Prop}{b:fE}(h:oL l V b)(hv:∀ s,V s↔W s):oL l W b:=by
 have e:V=W:=funext fun s=>propext (hv s)
 rwa [←e]
def aOA (p:ByteArray)(i k:Nat)(s:ByteArray):Prop:=∃ n,2≤n∧n<k+2∧n≤8∧i+n≤p.size∧s=p.extract i (i+n)
def aOB (p:ByteArray)(i:Nat)(s:ByteArray):Prop:=∃ j,j<i∧aOA p j 7 s
theorem aOC {l:List ByteArray}{p:ByteArray}{i:Nat}{b:fE}{V:ByteArray→Prop}(h:oL l V b):∀ k,oL l (fun s=>V s∨aOA p i k s) (vS l p i b k)
 | 0=>h.same fun s=>⟨.inl,fun hs=>hs.elim id fun ⟨n,h1,h2,_⟩=>by omega⟩
 | k+1=>by
  have h1:=aOC h (p:=p) (i:=i) k
  have hu:vS l p i b (k+1)=if k+2≤8∧i+(k+2)≤p.size then aNY l p i (k+2) (vS l p i b k) else vS l p i b k:=rfl
  rw [hu]
  split
  ·rename_i hc
   refine oL.same (aY2 (row:=p.extract i (i+(k+2))) h1) fun s=>?_
   constructor
   ·rintro ((hs|⟨n,g1,g2,g3⟩)|hs)
    ·exact .inl hs
    ·exact .inr ⟨n,g1,by omega,g3⟩
    ·exact .inr ⟨k+2,by omega,by omega,hc.1,hc.2,hs⟩
   ·rintro (hs|⟨n,g1,g2,g3,g4,g5⟩)
    ·exact .inl (.inl hs)
    ·rcases Nat.lt_or_ge n (k+2) with h5|h5
     ·exact .inl (.inr ⟨n,g1,h5,g3,g4,g5⟩)
     ·obtain rfl:n=k+2:=by omega
      exact .inr g5
  ·rename_i hc
   refine h1.same fun s=>?_
   constructor
   ·rintro (hs|⟨n,g1,g2,g3⟩)
    ·exact .inl hs
    ·exact .inr ⟨n,g1,by omega,g3⟩
   ·rintro (hs|⟨n,g1,g2,g3,g4,g5⟩)
    ·exact .inl hs
    ·rcases Nat.lt_or_ge n (k+2) with h5|h5
     ·exact .inr ⟨n,g1,h5,g3,g4,g5⟩
     ·obtain rfl:n=k+2:=by omega
      exact absurd ⟨g3,g4⟩ hc
theorem aOD {l:List ByteArray}{p:ByteArray}{b:fE}{V:ByteArray→Prop}(h:oL l V b):∀ i,oL l (fun s=>V s∨aOB p i s) (aG0 l p b i)
 | 0=>h.same fun s=>⟨.inl,fun hs=>hs.elim id fun ⟨j,h1,_⟩=>by omega⟩
 | i+1=>by
  refine oL.same (aOC (aOD h i) (p:=p) (i:=i) 7) fun s=>?_
  constructor
  ·rintro ((hs|⟨j,h1,h2⟩)|hs)
   ·exact .inl hs
   ·exact .inr ⟨j,by omega,h2⟩
   ·exact .inr ⟨i,by omega,hs⟩
  ·rintro (hs|⟨j,h1,h2⟩)
   ·exact .inl (.inl hs)
   ·rcases Nat.lt_or_ge j i with h3|h3
    ·exact .inl (.inr ⟨j,h3,h2⟩)
    ·obtain rfl:j=i:=by omega
     exact .inr h2
theorem aY3 {p s:ByteArray}:aOB p p.size s↔(2≤s.size∧s.size≤8)∧∃ i,kN p s i:=by
 constructor
 ·rintro ⟨i,_,n,h1,_,h3,h4,rfl⟩
  have e:=aCF p i n h4
  exact ⟨by rw [e];exact ⟨h1,h3⟩,i,by unfold kN;rw [e];exact ⟨h4,rfl⟩⟩
 ·rintro ⟨⟨h1,h2⟩,i,h3,h4⟩
  exact ⟨i,by omega,s.size,h1,by omega,h2,h3,h4.symm⟩
theorem aFY {l:List ByteArray}:∀ k,oL l (fun s=>(2≤s.size∧s.size≤8)∧Vis l k s) (rA l k)
 | 0=>.inl ⟨rfl,fun s ⟨_,j,h,_⟩=>by omega⟩
 | k+1=>by
  refine oL.same (aOD (aFY k) (p:=l.getD k ByteArray.empty) (l.getD k ByteArray.empty).size) fun s=>?_
  rw [aY3]
  constructor
  ·rintro (⟨h1,j,h2,h3⟩|⟨h1,h2⟩)
   ·exact ⟨h1,j,by omega,h3⟩
   ·exact ⟨h1,k,by omega,h2⟩
  ·rintro ⟨h1,j,h2,h3⟩
   rcases Nat.lt_or_ge j k with h4|h4
   ·exact .inl ⟨h1,j,h4,h3⟩
   ·obtain rfl:j=k:=by omega
    exact .inr ⟨h1,h3⟩
theorem aY4 {l:List ByteArray}(h:FewT l):((bestL l).2≤0→pC l=⟨#[]⟩)∧(0<(bestL l).2→pC l=(bestL l).1∧pC l≠⟨#[]⟩):=by
 have hrow:∀ s,(2≤s.size∧s.size≤8)→oK (dQ l l.length) s=(s,iW l s):=fun s hs=>by
  unfold oK iW
  rw [aCR h hs.1 hs.2]
 rcases aFY (l:=l) l.length with ⟨e,h2⟩|⟨⟨h1,hv⟩,h2,h3,h4⟩
 ·have e1:pC l=⟨#[]⟩:=by unfold pC;rw [e]
  refine ⟨fun _=>e1,fun hp=>?_⟩
  exfalso
  by_cases hx:∃ r,kV (dQ l l.length) (fun _=>false) r
  ·obtain ⟨r,hr⟩:=hx
   have e2:bestL l=r:=aCJ hr
   rw [e2] at hp
   rcases hr with ⟨rfl,_⟩|⟨g1,_,g3,_⟩
   ·simp at hp
   ·have g4:=(aG7 h l.length).1 g1
    rw [hrow _ g4.1] at g3
    have:=h2 _ g4
    have e5:r.2=iW l r.1:=by rw [g3]
    omega
  ·have e2:bestL l=(⟨#[]⟩,0):=by unfold bestL bestR;rw [dif_neg hx]
   rw [e2] at hp
   simp at hp
 ·have hb:kV (dQ l l.length) (fun _=>false) (rA l l.length):=by
   refine .inr ⟨(aG7 h l.length).2 ⟨h1,hv⟩,rfl,?_,fun s hs _=>?_⟩
   ·rw [hrow _ h1,←h2]
   ·have g4:=(aG7 h l.length).1 hs
    rw [hrow s g4.1]
    by_cases g5:0<iW l s
    ·exact h4 s g4 g5
    ·refine .inr ?_
     unfold eO
     rw [if_pos (by show (rA l l.length).2≠iW l s;omega)]
     show decide ((rA l l.length).2>iW l s)=true
     simp
     omega
  have e2:bestL l=rA l l.length:=aCJ hb
  rw [e2]
  refine ⟨fun hle=>by omega,fun _=>⟨rfl,fun hem=>?_⟩⟩
  have:(rA l l.length).1=⟨#[]⟩:=hem
  rw [this] at h1
  exact absurd h1.1 (by decide)
end Go.Proofs.YtnklgkjfoggpbaaGreatDoor
namespace Go.Proofs.YtnklgkjfoggpbaaGreatDoor
open Go.RowKit Go.Lib
theorem aG8 {p:ByteArray}{fr a b:Nat}(h:fr+b≤p.size):(p.extract fr p.size).extract a b=p.extract (fr+a) (fr+b):=by
 refine oF ?_
 rw [lZ,lZ,lZ,List.take_of_length_le (l:=tB p) (by rw [fK];exact Nat.le_refl _),List.take_drop,List.drop_drop]
theorem aY5 {p:ByteArray}{fr:Nat}(h:fr≤p.size):(p.extract fr p.size).size=p.size-fr:=by rw [ByteArray.size_extract];omega
theorem aOE (s r:ByteArray):NoOccB s r 0:=fun j hj=>absurd hj (by omega)
theorem aG9 {p r:ByteArray}(hr:1≤r.size):∀ (f d fr:Nat) (out:List ByteArray),NoOccB (p.extract fr p.size) r d→p.size<f+(fr+d)→fr+d≤p.size→nE p r f (fr+d) fr out=out++splitB r 0 (countB (p.extract fr p.size) r) (p.extract fr p.size)
 | 0,d,fr,out,_,h1,h2=>by omega
 | f+1,d,fr,out,hno,h1,h2=>by
  have hq:=aY5 (p:=p) (fr:=fr) (by omega)
  unfold nE
  split
  ·rename_i hin
   have he:(p.extract fr p.size).extract d (d+r.size)=p.extract (fr+d) (fr+d+r.size):=by rw [aG8 (by omega)];congr 1;omega
   split
   ·rename_i hat
    have hix:indexB (p.extract fr p.size) r=d:=hit _ _ d hno (by omega) (by rw [he,hat];simp)
    have e1:(p.extract fr p.size).extract 0 (d+0)=p.extract fr (fr+d):=by rw [aG8 (by omega)];congr 1
    have e2:(p.extract fr p.size).extract (d+r.size) (p.extract fr p.size).size=p.extract (fr+d+r.size) p.size:=by rw [hq,aG8 (by omega)];congr 1<;>omega
    have ih:=aG9 (p:=p) hr f 0 (fr+d+r.size) (out++[p.extract fr (fr+d)]) (aOE _ _) (by omega) (by omega)
    rw [Nat.add_zero] at ih
    rw [ih,countB_hit _ r d hr hix,e2,Nat.add_comm 1,splitB_hit r 0 _ _ d hix,e1,e2]
    simp
   ·rename_i hat
    have hno2:NoOccB (p.extract fr p.size) r (d+1):=miss_piece _ _ d hno (by omega) (by rw [he,tT];simpa using hat)
    have ih:=aG9 (p:=p) hr f (d+1) fr out hno2 (by omega) (by omega)
    exact ih
  ·rename_i hin
   have hix:indexB (p.extract fr p.size) r=-1:=past _ _ d hno hr (by omega)
   rw [splitB_miss r 0 _ _ hix]
theorem aY6 {p r:ByteArray}(hr:1≤r.size):mB p r=nE p r (p.size+1) 0 0 []:=by
 have e:p.extract 0 p.size=p:=by
  refine oF ?_
  rw [lZ,List.drop_zero,List.take_of_length_le (by rw [fK];exact Nat.le_refl _)]
 have h:=aG9 (p:=p) hr (p.size+1) 0 0 [] (aOE _ _) (by omega) (by omega)
 rw [e] at h
 exact h.symm
theorem aCS (p r:ByteArray):∀ (f i fr:Nat) (out:List ByteArray),nE p r f i fr out=out++nE p r f i fr []
 | 0,i,fr,out=>by simp [nE]
 | f+1,i,fr,out=>by
  unfold nE
  split
  ·split
   ·rw [aCS p r f _ _ (out++[p.extract fr i]),aCS p r f _ _ ([]++[p.extract fr i])]
    simp
   ·exact aCS p r f _ _ out
  ·simp
theorem aOF {r:ByteArray}(hr:1≤r.size)(l:List ByteArray):∀ k,iH l r k=tV l r k
 | 0=>rfl
 | k+1=>by
  show iH l r k++mB (l.getD k ByteArray.empty) r=nE (l.getD k ByteArray.empty) r ((l.getD k ByteArray.empty).size+1) 0 0 (tV l r k)
  rw [aCS,←aOF hr l k,aY6 hr]
theorem aOG (most:Int):∀ (f:Nat) (out parts:List ByteArray),wt parts≤5000000→chF most f out parts=sE most f out parts
 | 0,out,parts,_=>rfl
 | f+1,out,parts,hw=>by
  have hf:=aGX hw
  obtain ⟨b1,b2⟩:=aY4 hf
  have hbo:=aNU hf
  unfold chF sE
  have hiff:((out.length:Int)<min most 32)↔((out.length:Int)<most∧out.length<32):=by omega
  by_cases hc:(out.length:Int)<min most 32
  ·rw [if_pos hc,if_pos (hiff.1 hc)]
   by_cases hle:(bestL parts).2≤0
   ·rw [if_pos hle,if_pos (b1 hle)]
   ·obtain ⟨e1,e2⟩:=b2 (by omega)
    have hx2:=hbo.2 (by omega)
    rw [if_neg hle,if_neg e2,e1,aOF (by omega)]
    exact aOG most f _ _ (by have:=aYW (r:=(bestL parts).1) (by omega) parts;omega)
  ·rw [if_neg hc,if_neg (fun h=>hc (hiff.2 h))]
theorem aL4 {l:List ByteArray}(h:wt l≤5000000)(most:Int):chooseP l most=aYX l most:=aOG most 33 [] l h
end Go.Proofs.YtnklgkjfoggpbaaGreatDoor
namespace Go.Proofs.YtnklgkjfoggpbaaGreatDoor
open Go.RowKit
def pH (ab:List ByteArray)(p:bX):Bool:=decide (p.2<0)||decide (p.2>ab.length)||decide (p.2>32)
def mO (ab:List ByteArray)(p:bX):ByteArray:=if p.2>0 then ab.getD (p.2-1).toNat ByteArray.empty else p.1
def fX (s:ByteArray)(ab:List ByteArray)(i:Nat)(A:List Int):Nat→Nat
 | 0=>0
 | k+1=>if gM s i ab k=true∧2+A.getD (i+(ab.getD k ByteArray.empty).size) 0<cR s ab i A k then k+1 else fX s ab i A k
theorem aCT (s:ByteArray)(ab:List ByteArray)(i:Nat)(A:List Int)(k:Nat):∀ d,cR s ab i A (k+d)≤cR s ab i A k
 | 0=>Int.le_refl _
 | d+1=>by
  have h:=aCT s ab i A k d
  rw [←Nat.add_assoc]
  show (if _ then _ else _)≤_
  split
  ·rename_i hc
   exact Int.le_trans (Int.le_of_lt hc.2) h
  ·exact h
theorem aOH (s:ByteArray)(ab:List ByteArray)(i:Nat)(A:List Int):∀ k,fX s ab i A k=0↔cR s ab i A k=cR s ab i A 0
 | 0=>by simp [fX]
 | k+1=>by
  have ih:=aOH s ab i A k
  have hm:=aCT s ab i A 0 k
  rw [Nat.zero_add] at hm
  have hb:fX s ab i A (k+1)=if gM s i ab k=true∧2+A.getD (i+(ab.getD k ByteArray.empty).size) 0<cR s ab i A k then k+1 else fX s ab i A k:=rfl
  have hl:cR s ab i A (k+1)=if gM s i ab k=true∧2+A.getD (i+(ab.getD k ByteArray.empty).size) 0<cR s ab i A k then 2+A.getD (i+(ab.getD k ByteArray.empty).size) 0 else cR s ab i A k:=rfl
  rw [hb,hl]
  split
  ·rename_i hc
   constructor
   ·intro h;omega
   ·intro h;omega
  ·exact ih
theorem aHA (s:ByteArray)(ab:List ByteArray)(i:Nat)(A:List Int):∀ k,fX s ab i A k≠0→
 fX s ab i A k≤k∧gM s i ab (fX s ab i A k-1)=true∧2+A.getD (i+(ab.getD (fX s ab i A k-1) ByteArray.empty).size) 0=cR s ab i A k∧
  ∀ j,j<fX s ab i A k-1→gM s i ab j=true→2+A.getD (i+(ab.getD j ByteArray.empty).size) 0≠cR s ab i A k
 | 0,h=>by simp [fX] at h
 | k+1,h=>by
  have hb:fX s ab i A (k+1)=if gM s i ab k=true∧2+A.getD (i+(ab.getD k ByteArray.empty).size) 0<cR s ab i A k then k+1 else fX s ab i A k:=rfl
  have hl:cR s ab i A (k+1)=if gM s i ab k=true∧2+A.getD (i+(ab.getD k ByteArray.empty).size) 0<cR s ab i A k then 2+A.getD (i+(ab.getD k ByteArray.empty).size) 0 else cR s ab i A k:=rfl
  by_cases hc:gM s i ab k=true∧2+A.getD (i+(ab.getD k ByteArray.empty).size) 0<cR s ab i A k
  ·rw [if_pos hc] at hb hl
   rw [hb,hl]
   refine ⟨Nat.le_refl _,hc.1,rfl,fun j hj hf=>?_⟩
   have hj':j<k:=by omega
   have h1:cR s ab i A (j+1)≤2+A.getD (i+(ab.getD j ByteArray.empty).size) 0:=by
    show (if _ then _ else _)≤_
    split
    ·exact Int.le_refl _
    ·rename_i hn
     have:¬ 2+A.getD (i+(ab.getD j ByteArray.empty).size) 0<cR s ab i A j:=fun h=>hn ⟨hf,h⟩
     omega
   have h2:=aCT s ab i A (j+1) (k-(j+1))
   rw [show j+1+(k-(j+1))=k from by omega] at h2
   have h3:=hc.2
   omega
  ·rw [if_neg hc] at hb hl
   rw [hb] at h
   obtain ⟨g1,g2,g3,g4⟩:=aHA s ab i A k h
   rw [hb,hl]
   exact ⟨by omega,g2,g3,g4⟩
end Go.Proofs.YtnklgkjfoggpbaaGreatDoor
