/- Parts of the proof of a law of this seat: rules and contracts; no conditions. -/
import Derived.Test.YtgajclaoaphgoaaGreatDoorVa
import Derived.Test.YtgajclaoaphgoaaGreatDoorHh
import Derived.Test.YtgajclaoaphgoaaGreatDoorVyj
import Derived.Test.YtgajclaoaphgoaaGreatDoorHa
import Derived.Test.YtgajclaoaphgoaaGreatDoorRde
import Derived.Test.YtgajclaoaphgoaaGreatDoorWireP
import Derived.Test.YtgajclaoaphgoaaGreatDoorWa
set_option maxHeartbeats 6400000
set_option maxRecDepth 100000
set_option linter.unusedVariables false
set_option linter.unusedSimpArgs false
namespace Go.Proofs.YtgajclaoaphgoaaGreatDoor
open Go.RowKit
set_option maxHeartbeats 6400000
abbrev HB (H:List Int):Hs:=.live 3 (H.map vi)
def WK (t:TabP)(M:List bK)(f:Nat):Prop:=∀ (H:List Int) (i:Nat) (h:Int),HOk M H→0≤h∧h≤256→nM H<f→
 FC Tryz.prog 249 [bR t,iU M,.agg [.osl 1 0 M.length,vi 0],vi (i:Int),vi h] [(0,HB H)] (.agg [.osl 1 0 M.length,vi (aC9 t M f H i h).2]) [(0,HB (aC9 t M f H i h).1)]
structure WkS where
 f:Nat
 H:List Int
 i:Nat
 h:Int
 e:Int
def WkI (t:TabP)(M:List bK)(w:List Int × Int)(n:Nat)(q:WkS):Prop:=q.f≤n∧HOk M q.H∧(q.e=0→(0≤q.h∧q.h≤256)∧nM q.H<q.f∧w=aC9 t M q.f q.H q.i q.h)∧(q.e≠0→w=(q.H,q.e))
theorem ae9 {P:Program}{fn:Func}{Γ:Ctx}{e:Exit}{t n:Nat}{T ty:TypeId}{cs ds:List Av}{U:List (Nat × Hs)}(h:fn.results=#[.cell t T]:=by rfl)(hs:bN Γ.s t=.own n 0:=by rfl)(hn:aL Γ.h n=some (.live ty cs):=by rfl)(hT:jK P T=some true:=by kernel_rfl)(hz:mX P T=some cs.length:=by kernel_rfl)(h0:0<cs.length:=by exact Nat.le_of_ble_eq_true rfl)(hc:cs=ds:=by rfl)(he:e=.ret∨e=.normal:=by first|exact .inl rfl|exact .inr rfl)(hu:jU Γ.h U:=by first|exact trivial|exact ⟨rfl,trivial⟩):(e=.ret∨e=.normal)∧aF P fn Γ (.agg ds)∧jU Γ.h U:=by
 subst hc;exact ⟨he,aF.cell h hs hn hT hz h0,hu⟩
theorem anP {t:TabP}{M:List bK}{f:Nat}{H:List Int}{i:Nat}{h:Int}(hH:HOk M H)(h0:0≤h∧h≤256)(hu:nM H<f):HOk M (aC9 t M f H i h).1∧nM (aC9 t M f H i h).1≤nM H:=by
 obtain ⟨a,b,_⟩:=hw t M f H i h [] (3*nM H+1) hH h0 hu (by simp);exact ⟨a,b⟩
theorem aa7 {Z:Nat→Prop}:∀ l:List Int,aO Z (l.map vi)
 | []=>trivial
 | x::l=>by rw [List.map_cons];unfold aO;exact ⟨by unfold aH;trivial,aa7 l⟩
theorem asE {t:TabP}{x:bK}{h:Int}{is_:Bool}(he:(gS t x h is_).2=0):(x.1=38→(gS t x h is_).1=h)∧(x.1≠38→jM t x≤h∧(gS t x h is_).1=h-jM t x+lQ x∧(x.1=24∨x.1=25→is_=true)):=by
 unfold gS at he ⊢;by_cases h1:x.1=38
 ·rw [if_pos h1];exact ⟨fun _=>rfl,fun h=>absurd h1 h⟩
 rw [if_neg h1] at he ⊢;by_cases h2:oZ t x=false∨(x.1=24∨x.1=25)∧is_=false
 ·rw [if_pos h2] at he;cases he
 rw [if_neg h2] at he ⊢;by_cases h3:h<jM t x∨x.1=27∧h≠1∨jM t x<h+lQ x-256
 ·rw [if_pos h3] at he;cases he
 rw [if_neg h3];refine ⟨fun h=>absurd h h1,fun _=>⟨by omega,rfl,fun hj=>?_⟩⟩;cases is_ with
 | true=>rfl
 | false=>exact absurd (.inr ⟨hj,rfl⟩) h2
theorem asF (t:TabP)(M:List bK)(hl:M.length≤100000000)(f:Nat)(ih:∀ f',f'≤f→WK t M f'):WK t M (f+1):=by
 intro H i h hH h0 hu;generalize hw:aC9 t M (f+1) H i h=w;refine FB 4 95 Tryz.func249 ?_;refine sq ?_;refine Z1 bx ?_;refine Z2 (aQN 1 rfl rfl rfl) ?_;refine G ?_;refine LP (ι:=WkS) (fun q=>[(3,vi (q.i:Int)),(4,vi q.h)]) (fun q=>[(0,HB q.H),(1,.live 254 [.osl 1 0 M.length,vi q.e]),(3,.unborn)]) (WkI t M w (f+1)) (fun q=>q.f+(if q.e=0 then 1 else 0)) ⟨f+1,H,i,h,0⟩ ⟨Nat.le_refl _,hH,fun _=>⟨h0,hu,hw.symm⟩,fun he=>absurd rfl he⟩ ?_;rintro ⟨f',H,i,h,e⟩ ⟨hf,hH,hI,hE⟩;clear hw h0 hu;dsimp only at hf hH hI hE ⊢;refine Gd (fun hb=>?_) fun hb=>?_
 ·have e0:e=0:=by simpa using hb
  subst e0;obtain ⟨h0,hu,hw⟩:=hI rfl;clear hI hE;obtain ⟨g,rfl⟩:∃ g,f'=g+1:=⟨f'-1,by omega⟩
  unfold aC9 at hw;refine Gd (fun hb=>?_) fun hb=>?_
  ·rw [if_pos (by simp at hb;omega)] at hw;refine G ?_;subst hw;exact ae9
  have hi:i<M.length:=by simp at hb;omega
  rw [if_neg (by omega)] at hw;have hiH:i<H.length:=by rw [hH.1];exact hi
  refine G ?_;refine bG (y:=vi (H.getD i 0)) ?_ (hy:=vO hiH);refine Gd (fun hb=>?_) fun hb=>?_
  ·rw [if_pos (by simpa using hb)] at hw;refine G ?_;refine bG (y:=vi (H.getD i 0)) ?_ (hy:=vO hiH);refine Gd (fun hc=>?_) fun hc=>?_
   ·rw [if_pos (by simpa using hc)] at hw;refine G ?_;subst hw;exact ae9
   rw [if_neg (by simpa using hc)] at hw;refine G ?_;subst hw;exact ae9
  rw [if_neg (by simpa using hb)] at hw;refine G ?_;refine cF ((H.set i h).map vi) ?_ (hlt:=by rw [List.length_map];exact hiH) (hcs:=by rw [List.map_set]);refine C (asC t M (by omega) i hi h h0) ?_;refine Z2 (alA 3) ?_;generalize hx:M.getD i aI=x at *;have hmv:=asE (t:=t) (x:=x) (h:=h) (is_:=(fG M x.2).isSome);have hbm:=ab2 (t:=t) (x:=x) (is_:=(fG M x.2).isSome) h0;have hu1:=aPU (out:=H) (i:=i) (x:=h) (by have:=hH.2 i;have:=of_decide_eq_false hb;omega) (by omega);have hS:=apH hH (i:=i) (x:=h) h0.1;generalize hm:gS t x h (fG M x.2).isSome=b at *;refine C (asA x.1) ?_
  refine cd (fun hc=>?_) fun hc=>?_
  ·refine G ?_;have hw2:w=(H.set i h,b.2):=by
    by_cases h5:b.2≠0
    ·rw [if_pos h5] at hw;exact hw
    rw [if_neg h5,if_pos] at hw
    ·rw [hw];refine Prod.ext rfl ?_;show (0:Int)=b.2;omega
    simp only [Bool.or_eq_true,bne_iff_ne,ne_eq,anO,beq_iff_eq] at hc;omega
   subst hw2;exact ae9
  have hb0:b.2=0:=by simp only [Bool.or_eq_false_iff,bne_eq_false_iff_eq] at hc;exact hc.1
  have hne:¬ (x.1=27∨x.1=28∨x.1=29∨x.1=30):=by
   simp only [Bool.or_eq_false_iff,anO,beq_eq_false_iff_ne,ne_eq] at hc;omega
  obtain ⟨hb1,hb2⟩:=hbm hb0;rw [if_neg (fun h=>h hb0),if_neg hne] at hw;have hS3:nM (H.set i h)<g:=by omega
  have hgf:g≤f:=by omega
  obtain ⟨hm1,hm2⟩:=hmv hb0;refine G ?_;rw [hb0];refine cd (fun hd=>?_) fun hd=>?_
  ·have h38:¬ x.1=38:=by simpa using hd
   have hpu:0≤lQ x∧lQ x≤1:=by unfold lQ;split<;>decide
   obtain ⟨k1,k2,k3⟩:=hm2 h38;refine C (aoW t x) ?_;refine C (aoV x) ?_;rw [←k2];refine cd (fun h7=>?_) fun h7=>?_
   ·have h24:x.1=24:=by simpa using h7
    rw [if_pos h24] at hw;obtain ⟨p,hp⟩:=Option.isSome_iff_exists.1 ((hm2 (by omega)).2.2 (.inl h24));rw [hp] at hw;refine C (ae8 M (by omega) x.2) ?_;rw [show aBP M x.2=((p:Nat):Int) from by unfold aBP;rw [hp]];refine ⟨(WkS.mk g (H.set i h) (p) (b.1) 0),⟨by show g≤_;omega,hS,fun _=>⟨⟨hb1,hb2⟩,hS3,hw⟩,fun he=>absurd rfl he⟩,by first|(simp;done)|(simp;omega),LR [3]⟩
   have h24:¬ x.1=24:=by simpa using h7
   rw [if_neg h24] at hw;refine Gd (fun h8=>?_) fun h8=>?_
   ·have h25:x.1=25:=by simpa using h8
    rw [if_pos h25] at hw;obtain ⟨p,hp⟩:=Option.isSome_iff_exists.1 ((hm2 (by omega)).2.2 (.inr h25));rw [hp] at hw;refine G ?_;obtain ⟨w1,w2⟩:=anP (t:=t) (M:=M) (f:=g) (H:=H.set i h) (i:=i+1) (h:=b.1) hS ⟨hb1,hb2⟩ hS3;refine aZ rfl rfl (dB [] rfl (by kernel_rfl) ((ih g hgf (H.set i h) (i+1) b.1 hS ⟨hb1,hb2⟩ hS3).m) rfl (by simp) (by simp [bQ]) (by simp) (by simp) ⟨aH.of_pure _ Pu.out,aH.of_pure _ Pu.out,by simp [aH,aO],by simp [aH],by simp [aH],trivial⟩ ⟨aa7 _,trivial⟩ (by simp [aH,aO]) ⟨aa7 _,trivial⟩) ⟨rfl,trivial⟩ ?_;generalize aC9 t M g (H.set i h) (i+1) b.1=W at *
    refine C (ae8 M (by omega) x.2) ?_;rw [show aBP M x.2=((p:Nat):Int) from by unfold aBP;rw [hp]];refine ⟨(WkS.mk g W.1 p b.1 W.2),⟨by show g≤_;omega,w1,fun he=>⟨⟨hb1,hb2⟩,by show nM W.1<g;omega,by rw [hw,if_neg (fun h=>h he)];rfl⟩,fun he=>by rw [hw,if_pos he]⟩,by show g+(if W.2=0 then 1 else 0)<g+1+(if (0:Int)=0 then 1 else 0);rw [if_pos (rfl:(0:Int)=0)];split<;>omega,LR [3]⟩
   have h25:¬ x.1=25:=by simpa using h8
   rw [if_neg h25] at hw;refine G ?_;refine ⟨(WkS.mk g (H.set i h) (i+1) (b.1) 0),⟨by show g≤_;omega,hS,fun _=>⟨⟨hb1,hb2⟩,hS3,hw⟩,fun he=>absurd rfl he⟩,by first|(simp;done)|(simp;omega),LR [3]⟩
  have h38:x.1=38:=by simpa using hd
  have k2:=hm1 h38;rw [k2] at hw;refine Gd (fun h7=>?_) fun h7=>?_
  ·have h24:x.1=24:=by simpa using h7
   rw [if_pos h24] at hw;obtain ⟨p,hp⟩:=Option.isSome_iff_exists.1 ((hm2 (by omega)).2.2 (.inl h24));rw [hp] at hw;refine C (ae8 M (by omega) x.2) ?_;rw [show aBP M x.2=((p:Nat):Int) from by unfold aBP;rw [hp]];refine ⟨(WkS.mk g (H.set i h) (p) (h) 0),⟨by show g≤_;omega,hS,fun _=>⟨h0,hS3,hw⟩,fun he=>absurd rfl he⟩,by first|(simp;done)|(simp;omega),LR [3]⟩
  have h24:¬ x.1=24:=by simpa using h7
  rw [if_neg h24] at hw;refine Gd (fun h8=>?_) fun h8=>?_
  ·have h25:x.1=25:=by simpa using h8
   rw [if_pos h25] at hw;obtain ⟨p,hp⟩:=Option.isSome_iff_exists.1 ((hm2 (by omega)).2.2 (.inr h25));rw [hp] at hw;refine G ?_;obtain ⟨w1,w2⟩:=anP (t:=t) (M:=M) (f:=g) (H:=H.set i h) (i:=i+1) (h:=h) hS h0 hS3;refine aZ rfl rfl (dB [] rfl (by kernel_rfl) ((ih g hgf (H.set i h) (i+1) h hS h0 hS3).m) rfl (by simp) (by simp [bQ]) (by simp) (by simp) ⟨aH.of_pure _ Pu.out,aH.of_pure _ Pu.out,by simp [aH,aO],by simp [aH],by simp [aH],trivial⟩ ⟨aa7 _,trivial⟩ (by simp [aH,aO]) ⟨aa7 _,trivial⟩) ⟨rfl,trivial⟩ ?_;generalize aC9 t M g (H.set i h) (i+1) h=W at *;refine C (ae8 M (by omega) x.2) ?_
   rw [show aBP M x.2=((p:Nat):Int) from by unfold aBP;rw [hp]];refine ⟨(WkS.mk g W.1 p h W.2),⟨by show g≤_;omega,w1,fun he=>⟨h0,by show nM W.1<g;omega,by rw [hw,if_neg (fun h=>h he)];rfl⟩,fun he=>by rw [hw,if_pos he]⟩,by show g+(if W.2=0 then 1 else 0)<g+1+(if (0:Int)=0 then 1 else 0);rw [if_pos (rfl:(0:Int)=0)];split<;>omega,LR [3]⟩
  have h25:¬ x.1=25:=by simpa using h8
  rw [if_neg h25] at hw;refine G ?_;refine ⟨(WkS.mk g (H.set i h) (i+1) (h) 0),⟨by show g≤_;omega,hS,fun _=>⟨h0,hS3,hw⟩,fun he=>absurd rfl he⟩,by first|(simp;done)|(simp;omega),LR [3]⟩
 have e1:e≠0:=by simpa using hb
 refine G ?_;rw [hE e1];exact ae9
theorem asG (t:TabP)(M:List bK)(hl:M.length≤100000000)(f:Nat):WK t M f:=by
 induction f using Nat.strongRecOn with
 | ind f ih=>
  cases f with
  | zero=>exact fun H i h hH h0 hu=>absurd hu (Nat.not_lt_zero _)
  | succ f=>exact asF t M hl f fun f' hf'=>ih f' (by omega)
set_option maxHeartbeats 6400000
theorem asH (k:Nat):(List.replicate k (-1:Int)).map vi++[vi (-1)]=(List.replicate (k+1) (-1:Int)).map vi:=by rw [List.replicate_succ',List.map_append];rfl
theorem asI (t:TabP)(M:List bK)(hl:M.length≤100000000):PC Tryz.prog 199 [bR t,iU M] (.tup [aK (if (adU t M).2=0 then (adU t M).1 else []),vi (adU t M).2]):=by
 refine FB 4 31 Tryz.func199 ?_
 repeat (first|refine sq ?_|refine aD ?_)
 refine Z1 bx ?_;refine Z1 aB ?_;refine Z1 aB ?_;refine cn ?_
 repeat (first|refine sq ?_|refine tx ?_|refine aD ?_)
 refine Z1 bdA ?_;refine Z2 (alA 1) ?_;refine G ?_;refine bS (Le.nameNilCell 1 0 0 1 3 rfl rfl rfl (by decide)) ?_;refine LP (ι:=Nat) (fun k=>[(7,vi k)]) (fun k=>[(1,.live 254 [.osl 1 0 (List.replicate k (-1:Int)).length,vi 0]),(0,.live 3 ((List.replicate k (-1:Int)).map vi)),(2,.unborn),(3,.unborn)]) (fun k=>k≤M.length) (fun k=>M.length-k) 0 (Nat.zero_le _) ?_;intro k hI;refine Gd (fun hb=>?_) fun hb=>?_
 ·have hi:k<M.length:=by simpa using hb
  refine G ?_;refine Z1 jG ?_;refine jH 2 (hlen:=by simp;omega) ?_;refine G ?_;exact NX (k+1) hi (hl:=by (try dsimp only);rw [←asH];exact LT 0 2 [2,3] (hh:=⟨aAA (by decide) (by decide) (by decide) rfl ⟨xR (by simp),aIA rfl,trivial⟩,mF rfl (Nn.out _),iD (by decide) (by decide),iD (by decide) (by decide),trivial⟩))
 obtain rfl:k=M.length:=by simp at hb;omega
 rw [List.length_replicate];refine G ?_;obtain ⟨w1,w2⟩:=anP (t:=t) (M:=M) (f:=M.length+1) (H:=List.replicate M.length (-1)) (i:=0) (h:=0) (anQ M) (by decide) (by rw [abX];omega);refine aZ rfl rfl (dB [] rfl (by kernel_rfl) ((asG t M hl (M.length+1) (List.replicate M.length (-1)) 0 0 (anQ M) (by decide) (by rw [abX];omega)).m) rfl (by simp) (by simp [bQ]) (by simp) (by simp) ⟨aH.of_pure _ Pu.out,aH.of_pure _ Pu.out,by simp [aH,aO],by simp [aH],by simp [aH],trivial⟩ ⟨aa7 _,trivial⟩ (by simp [aH,aO]) ⟨aa7 _,trivial⟩) ⟨rfl,trivial⟩ ?_;change Ck _ _ _ _ _ _
 rw [show aC9 t M (M.length+1) (List.replicate M.length (-1)) 0 0=adU t M from rfl] at *;generalize adU t M=W at *;refine Gd (fun hd=>?_) fun hd=>?_
 ·rw [if_neg (by simpa using hd)];refine G ?_;exact R2 rfl (aT.to (aT.tmp rfl) (uA (by decide)))
 rw [if_pos (by simpa using hd),show W.2=0 by simpa using hd];refine bS (Le.freezeCell 1 0 0 (fun j=>vi (W.1.getD j 0)) rfl rfl rfl (by decide) (by rw [List.length_map];exact w1.1) (by rw [←w1.1];exact aUH _)) ?_;refine G ?_;rw [←w1.1];exact R2
section
variable {P:List Int}{L:List fR}
abbrev tgE (L:List fR)(k:Nat):Int:=((L.getD k dE).2.2:Int)+(L.getD k dE).2.1.2
def kU (P:List Int)(L:List fR)(k:Nat):List bK:=(L.take k).map (aC4 P)++(L.drop k).map fun e=>e.2.1
def nQ (P:List Int)(L:List fR):Nat→List Int
 | 0=>List.replicate P.length 0
 | k+1=>if nL (L.getD k dE).2.1=true then (nQ P L k).set (P.idxOf (tgE L k)) ((nQ P L k).getD (P.idxOf (tgE L k)) 0+1) else nQ P L k
def toJ (P:List Int)(z:Int)(j:Nat):Int:=if P.idxOf z<j then (P.idxOf z:Int) else -1
theorem aKC (k:Nat):(kU P L k).length=L.length:=by unfold kU;simp;omega
theorem ak5 {k:Nat}(hk:k<L.length)(j:Nat)(hj:j<L.length):(kU P L k).getD j aI=if j<k then aC4 P (L.getD j dE) else (L.getD j dE).2.1:=by
 unfold kU;rw [List.getD,List.getElem?_append,List.length_map,List.length_take];by_cases h:j<k
 ·rw [if_pos (by omega),if_pos h,List.getElem?_map,List.getElem?_take,if_pos h,List.getElem?_eq_getElem hj,List.getD,List.getElem?_eq_getElem hj];rfl
 rw [if_neg (by omega),if_neg h,List.getElem?_map,List.getElem?_drop,show k+(j-min k L.length)=j by omega,List.getElem?_eq_getElem hj,List.getD,List.getElem?_eq_getElem hj];rfl
theorem apD {j:Nat}(hj:j<L.length):(kU P L L.length).getD j aI=aC4 P (L.getD j dE):=by
 unfold kU;rw [List.getD,List.getElem?_append,List.length_map,List.length_take,if_pos (by omega),List.getElem?_map,List.getElem?_take,if_pos hj,List.getElem?_eq_getElem hj,List.getD,List.getElem?_eq_getElem hj];rfl
theorem apE {k:Nat}(hk:k<L.length):kU P L (k+1)=(kU P L k).set k (aC4 P (L.getD k dE)):=by
 refine List.ext_getElem (by rw [List.length_set,aKC,aKC]) fun j h1 h2=>?_;rw [aKC] at h1;have e:∀ m h,(kU P L m)[j]'h=(kU P L m).getD j aI:=fun m h=>by rw [List.getD,List.getElem?_eq_getElem h];rfl
 rw [List.getElem_set,e]
 conv=>lhs;unfold kU
 rw [List.getD,List.getElem?_append,List.length_map,List.length_take];by_cases hj:j<k+1
 ·rw [if_pos (by omega),List.getElem?_map,List.getElem?_take,if_pos hj,List.getElem?_eq_getElem h1];by_cases e2:k=j
  ·subst e2;rw [if_pos rfl,List.getD,List.getElem?_eq_getElem h1];rfl
  rw [if_neg e2,e k,ak5 hk j h1,if_pos (by omega),List.getD,List.getElem?_eq_getElem h1];rfl
 rw [if_neg (by omega),List.getElem?_map,List.getElem?_drop,show k+1+(j-min (k+1) L.length)=j by omega,List.getElem?_eq_getElem h1,if_neg (by omega)];rw [e k,ak5 hk j h1,if_neg (by omega),List.getD,List.getElem?_eq_getElem h1];rfl
theorem ar1 {k:Nat}(hk:k<L.length)(h:nL (L.getD k dE).2.1=false):kU P L (k+1)=kU P L k:=by
 rw [apE hk];have h1:=ak5 (P:=P) hk k hk;rw [if_neg (by omega)] at h1;have e:aC4 P (L.getD k dE)=(kU P L k).getD k aI:=by rw [h1];unfold aC4;rw [if_neg (by rw [h];simp)]
 rw [e,List.getD,List.getElem?_eq_getElem (by rw [aKC];exact hk)];exact List.set_getElem_self _
theorem aa0:∀ k,(nQ P L k).length=P.length
 | 0=>by simp [nQ]
 | k+1=>by unfold nQ;split;rw [List.length_set,aa0 k];exact aa0 k
theorem ak6:∀ k i,0≤(nQ P L k).getD i 0∧(nQ P L k).getD i 0≤k
 | 0,i=>by
  unfold nQ;rw [List.getD,List.getElem?_replicate];split<;>exact ⟨Int.le_refl _,Int.le_refl _⟩
 | k+1,i=>by
  have h:=ak6 k i;have h2:=ak6 k (P.idxOf (tgE L k));unfold nQ;split
  ·rw [List.getD,List.getElem?_set];split
   ·split
    ·show 0≤_+1∧_+1≤_;omega
    show (0:Int)≤0∧(0:Int)≤_;omega
   rw [←List.getD];omega
  omega
theorem apF (hP:P.Nodup)(hT:∀ z∈aX L,z∈P):∀ k,k≤L.length→∀ i,i<P.length→(0<(nQ P L k).getD i 0↔P.getD i 0∈aX (L.take k))
 | 0,_,i,hi=>by
  unfold nQ aX;rw [List.getD,List.getElem?_replicate,if_pos hi];simp
 | k+1,hk,i,hi=>by
  have ih:=apF hP hT k (by omega) i hi;rw [aa9 (by omega)];unfold nQ;by_cases ha:nL (L.getD k dE).2.1=true
  ·rw [if_pos ha,if_pos ha,List.mem_append,List.mem_singleton];have hz:=hT _ (abB (k:=k) (by omega) ha);have hlt:P.idxOf (tgE L k)<P.length:=List.idxOf_lt_length_of_mem hz;rw [List.getD,List.getElem?_set];by_cases e:P.idxOf (tgE L k)=i
   ·rw [if_pos e,if_pos (by rw [aa0];omega)];have hb:=(ak6 (P:=P) (L:=L) k (P.idxOf (tgE L k))).1;refine ⟨fun _=>.inr ?_,fun _=>by show 0<_+1;omega⟩;subst e;rw [List.getD,List.getElem?_eq_getElem hlt];exact List.getElem_idxOf hlt
   rw [if_neg e,←List.getD,ih];refine ⟨.inl,fun h=>h.resolve_right fun h2=>e ?_⟩;have:=anJ hP hi;rw [h2] at this;exact this
  rw [if_neg ha,if_neg ha];exact ih
theorem ar2 (hP:P.Nodup){z:Int}{j:Nat}(hj:j<P.length):toJ P z (j+1)=if P.getD j 0=z then (j:Int) else toJ P z j:=by
 unfold toJ;by_cases h:P.getD j 0=z
 ·have:=anJ hP hj;rw [h] at this;rw [if_pos h,if_pos (by omega),this]
 rw [if_neg h];have:P.idxOf z≠j:=fun e=>h (by
  have hlt:P.idxOf z<P.length:=by omega
  have:=List.getElem_idxOf hlt;rw [←e,List.getD,List.getElem?_eq_getElem hlt];exact this)
 by_cases h2:P.idxOf z<j
 ·rw [if_pos h2,if_pos (by omega)]
 rw [if_neg h2,if_neg (by omega)]
theorem ar3 {z:Int}:toJ P z P.length=if z∈P then (P.idxOf z:Int) else -1:=by
 unfold toJ;by_cases h:z∈P
 ·rw [if_pos h,if_pos (List.idxOf_lt_length_of_mem h)]
 rw [if_neg h,if_neg (by rw [List.idxOf_eq_length h];omega)]
theorem apG {T:List Int}{k:Nat}:oK T P L (k+1)=oK T P L k++vE T P k++[aC4 P (L.getD k dE)]:=rfl
theorem anN (T:List Int):∀ k,(oK T P L k).length≤2*k
 | 0=>Nat.le_refl _
 | k+1=>by
  have:=anN T k;have h2:(vE T P k).length≤1:=by unfold vE;split<;>simp
  rw [apG,List.length_append,List.length_append];simp;omega
theorem ar4 {k:Nat}(h:nL (L.getD k dE).2.1=false):nQ P L (k+1)=nQ P L k:=by
 conv=>lhs;unfold nQ
 rw [if_neg (by rw [h];simp)]
theorem ar5 {k:Nat}(h:nL (L.getD k dE).2.1=true):nQ P L (k+1)=(nQ P L k).set (P.idxOf (tgE L k)) ((nQ P L k).getD (P.idxOf (tgE L k)) 0+1):=by
 conv=>lhs;unfold nQ
 rw [if_pos h]
theorem ar6 {l:List bK}{k:Nat}(h:k<l.length):(cT l)[k*2+1]?=some (vi (l.getD k aI).2):=by
 have h1:=abE h;have h2:((((cT l).drop (k*2)).take 2)[1]?)=some (vi (l.getD k aI).2):=by rw [h1];rfl
 rwa [List.getElem?_take,if_pos (by decide),List.getElem?_drop] at h2
def oX (T P:List Int)(L:List fR)(i:Nat):List bK:=if i≤L.length then oK T P L i else oA T P L
theorem ar7 (T:List Int)(i:Nat):(oX T P L i).length≤2*L.length+1:=by
 unfold oX;split
 ·have:=anN (P:=P) (L:=L) T i;omega
 have:=anN (P:=P) (L:=L) T L.length;have h2:(vE T P L.length).length≤1:=by unfold vE;split<;>simp
 unfold oA;rw [List.length_append];omega
theorem ar8 {T:List Int}{i:Nat}(hi:i<L.length+1):oX T P L (i+1)=oX T P L i++(vE T P i++if i<L.length then [aC4 P (L.getD i dE)] else []):=by
 unfold oX;rw [if_pos (show i≤L.length by omega)];by_cases h:i<L.length
 ·rw [if_pos (by omega),if_pos h,apG,List.append_assoc]
 obtain rfl:i=L.length:=by omega
 rw [if_neg (by omega),if_neg h,List.append_nil];rfl
end
set_option maxHeartbeats 6400000
theorem arO {a b:Int}(ha:0≤a∧a<256)(hb:0≤b∧b<256):nX (256*a+b)=vZ a*256+b:=by
 unfold nX vZ;split<;>omega
theorem arP (n:Int):PC Tryz.prog 218 [vi n] (vi (nX n)):=by
 rcases adE n 65536 with ⟨hs,he⟩|⟨hs,he⟩
 all_goals
  refine FB 0 15 Tryz.func218 ?_;refine G ?_;refine Z1 (aDK rfl rfl rfl (by omega)) ?_;refine Gd (fun h2=>?_) fun h2=>?_
  ·simp only [decide_eq_true_eq] at h2;refine G ?_;exact RI (h:=by unfold nX;omega)
  simp only [decide_eq_false_iff_not] at h2;refine Gd (fun h3=>?_) fun h3=>?_
  ·simp only [decide_eq_true_eq] at h3;refine G ?_;exact RI (h:=by unfold nX;omega)
  simp only [decide_eq_false_iff_not] at h3;refine G ?_;exact RI (h:=by unfold nX;omega)
theorem arQ (xs:List Int)(hby:dF xs)(a:Nat)(hl:xs.length≤1000000000):PC Tryz.prog 246 [bs xs,vi (a:Int)] (.tup [iV (cO xs a).1,vi ((cO xs a).2.1:Int),vi ((cO xs a).2.2:Int)]):=by
 refine FB 1 108 Tryz.func246 ?_;refine Gd (fun h0=>?_) fun h0=>?_
 ·refine G ?_;simp only [Bool.or_eq_true,decide_eq_true_eq] at h0;rw [show cO xs a=((0,0),0,2) from by unfold cO;rw [if_pos (by omega)]];exact R3
 simp only [Bool.or_eq_false_iff,decide_eq_false_iff_not] at h0;have hy:=hby a;have hn4:=aPI xs a;refine G ?_;refine Z1 (OC.cast (aID rfl rfl rfl (by omega)) (aa3 hby a)) ?_;refine G ?_;refine Z1 (OC.cast (aDK rfl rfl rfl (by omega)) (aa4 hby a)) ?_;refine G ?_;refine Z4 (fun hC=>ca (arL (iI xs a))) ?_;refine G ?_
 have d0:cO xs a=if ((¬ (1≤iI xs a∧iI xs a≤38)∨iI xs a=38)∨fF xs a=3)∨0<fF xs a∧iI xs a∉uE then ((0,0),0,16) else if xs.length<a+1+fF xs a then ((0,0),0,2) else if (vY (nK xs a (fF xs a))≠fF xs a∧iI xs a≠24)∧iI xs a≠25 then ((0,0),0,4) else ((iI xs a,nK xs a (fF xs a)),a+1+fF xs a,0):=by
  conv=>lhs;unfold cO
  rw [if_neg (by omega)]
 refine cd (fun h1=>?_) fun h1=>?_
 ·refine G ?_;rw [d0,if_pos (by by_cases hM:iI xs a∈uE<;>simp only [hM,Bool.or_eq_true,Bool.and_eq_true,Bool.not_eq_true',decide_eq_true_eq,beq_iff_eq,decide_true,decide_false,Bool.false_eq_true,and_false,and_true,not_true_eq_false,not_false_eq_true,or_false,reduceCtorEq] at h1 ⊢<;>omega)];exact R3
 have h2:¬ (((¬ (1≤iI xs a∧iI xs a≤38)∨iI xs a=38)∨fF xs a=3)∨0<fF xs a∧iI xs a∉uE):=by
  by_cases hM:iI xs a∈uE<;>simp only [hM,Bool.or_eq_false_iff,Bool.and_eq_false_iff,Bool.not_eq_false',decide_eq_false_iff_not,beq_eq_false_iff_ne,ne_eq,decide_true,decide_false,Bool.false_eq_true,or_true,or_false,and_true,and_false,not_true_eq_false,not_false_eq_true,reduceCtorEq,not_or,not_and] at h1 ⊢<;>omega
 rw [if_neg h2] at d0;refine Gd (fun h3=>?_) fun h3=>?_
 ·simp only [decide_eq_true_eq] at h3;refine G ?_;rw [d0,if_pos (by omega)];exact R3
 simp only [decide_eq_false_iff_not] at h3;rw [if_neg (by omega)] at d0;have hy1:=hby ((a:Int)+1).toNat;have hy2:=hby ((a:Int)+2).toNat;have e1:((a:Int)+1).toNat=0+(a+1):=by omega
 have e2:((a:Int)+2).toNat=1+(a+1):=by omega
 have fin:∀ n:Int,n=nK xs a (fF xs a)→cO xs a=if (vY n≠fF xs a∧iI xs a≠24)∧iI xs a≠25 then ((0,0),0,4) else ((iI xs a,n),a+1+fF xs a,0):=fun n hn=>by rw [d0,hn]
 refine Gd (fun h4=>?_) fun h4=>?_
 ·have h6:(((fF xs a:Nat):Int)==2)=false:=by rw [beq_iff_eq.1 h4];rfl
  have e3:fF xs a=1:=by simp only [beq_iff_eq] at h4;omega
  refine Gd (fun h5=>?_) fun h5=>?_
  ·simp only [decide_eq_true_eq] at h5;have hf:=fin (xs.getD ((a:Int)+1).toNat 0-256) (by rw [e3,e1];unfold nK;rw [if_pos rfl];unfold vZ;rw [←e1,if_neg (by omega)]);refine C (akV (xs.getD ((a:Int)+1).toNat 0-256)) ?_;refine cd (fun h7=>?_) fun h7=>?_
   ·refine G ?_;rw [hf,if_pos (by simp only [Bool.and_eq_true,bne_iff_ne,ne_eq] at h7;exact ⟨⟨fun e=>h7.1.1 e.symm,h7.1.2⟩,h7.2⟩)];exact R3
   refine G ?_;rw [hf,if_neg (fun ⟨⟨c1,c2⟩,c3⟩=>by simp only [Bool.and_eq_false_iff,bne_eq_false_iff_eq] at h7;exact h7.elim (fun h=>h.elim (fun h=>c1 h.symm) c2) c3)];exact R3
  simp only [decide_eq_false_iff_not] at h5;have hf:=fin (xs.getD ((a:Int)+1).toNat 0) (by rw [e3,e1];unfold nK;rw [if_pos rfl];unfold vZ;rw [←e1,if_pos (by omega)]);refine C (akV (xs.getD ((a:Int)+1).toNat 0)) ?_;refine cd (fun h7=>?_) fun h7=>?_
  ·refine G ?_;rw [hf,if_pos (by simp only [Bool.and_eq_true,bne_iff_ne,ne_eq] at h7;exact ⟨⟨fun e=>h7.1.1 e.symm,h7.1.2⟩,h7.2⟩)];exact R3
  refine G ?_;rw [hf,if_neg (fun ⟨⟨c1,c2⟩,c3⟩=>by simp only [Bool.and_eq_false_iff,bne_eq_false_iff_eq] at h7;exact h7.elim (fun h=>h.elim (fun h=>c1 h.symm) c2) c3)];exact R3
 refine Gd (fun h5=>?_) fun h5=>?_
 ·have e3:fF xs a=2:=by simp only [beq_iff_eq] at h5;omega
  have hf:=fin (nX (256*xs.getD ((a:Int)+1).toNat 0+xs.getD ((a:Int)+2).toNat 0)) (by rw [e3,arO hy1 hy2,e1,e2];rfl);refine C (arP (256*xs.getD ((a:Int)+1).toNat 0+xs.getD ((a:Int)+2).toNat 0)) ?_;refine C (akV (nX (256*xs.getD ((a:Int)+1).toNat 0+xs.getD ((a:Int)+2).toNat 0))) ?_;refine cd (fun h7=>?_) fun h7=>?_
  ·refine G ?_;rw [hf,if_pos (by simp only [Bool.and_eq_true,bne_iff_ne,ne_eq] at h7;exact ⟨⟨fun e=>h7.1.1 e.symm,h7.1.2⟩,h7.2⟩)];exact R3
  refine G ?_;rw [hf,if_neg (fun ⟨⟨c1,c2⟩,c3⟩=>by simp only [Bool.and_eq_false_iff,bne_eq_false_iff_eq] at h7;exact h7.elim (fun h=>h.elim (fun h=>c1 h.symm) c2) c3)];exact R3
 have e3:fF xs a=0:=by simp only [beq_eq_false_iff_ne,ne_eq] at h4 h5;omega
 have hf:=fin 0 (by rw [e3];rfl);refine C (akV 0) ?_;refine cd (fun h7=>?_) fun h7=>?_
 ·refine G ?_;rw [hf,if_pos (by simp only [Bool.and_eq_true,bne_iff_ne,ne_eq] at h7;exact ⟨⟨fun e=>h7.1.1 e.symm,h7.1.2⟩,h7.2⟩)];exact R3
 refine G ?_;rw [hf,if_neg (fun ⟨⟨c1,c2⟩,c3⟩=>by simp only [Bool.and_eq_false_iff,bne_eq_false_iff_eq] at h7;exact h7.elim (fun h=>h.elim (fun h=>c1 h.symm) c2) c3)];exact R3
set_option maxHeartbeats 6400000
theorem ar9 (xs:List Int)(hby:dF xs)(hl:xs.length≤10000000):PC Tryz.prog 198 [bs xs] (.tup [iU (aUJ xs).1,vi ((aUJ xs).2:Int)]):=by
 refine FB 7 124 Tryz.func198 ?_;refine G ?_;refine bS (Le.nameNil 4 0 2 158 rfl rfl) ?_;refine bS (Le.nameNil 5 1 1 3 rfl rfl) ?_;refine LP (ι:=List fR × Nat) (fun q=>[(4,.osl 2 0 (q.1.map fun e=>e.2.1).length),(5,.osl 1 1 (q.1.map fun e=>(e.1:Int)).length),(6,vi (q.2:Int))]) (fun q=>[(0,.live 158 (cT (q.1.map fun e=>e.2.1))),(1,.live 3 ((q.1.map fun e=>(e.1:Int)).map vi)),(2,.unborn),(3,.unborn),(4,.unborn),(5,.unborn),(6,.unborn)])
  (fun q=>q.2≤xs.length∧oN xs.length 0 q.1 q.2∧∃ f,xs.length≤q.2+f∧jB xs f q.2 q.1=jB xs xs.length 0 []) (fun q=>xs.length-q.2) ([],0) ⟨Nat.zero_le _,rfl,xs.length,by omega,rfl⟩ ?_
 intro q hI;obtain ⟨hq1,hq2,f,hf1,hf2⟩:=hI;have hcl:=aH4 hq2;refine Gd (fun hb=>?_) fun hb=>?_
 ·have hlt:q.2<xs.length:=by simpa using hb
  obtain ⟨f,rfl⟩:∃ f',f=f'+1:=⟨f-1,by omega⟩
  have hst:jB xs (f+1) q.2 q.1=if (cO xs q.2).2.2≠0 then ([],(cO xs q.2).2.2) else jB xs f (cO xs q.2).2.1 (q.1++[(q.2,(cO xs q.2).1,(cO xs q.2).2.1)]):=by
   show (if _ then _ else _)=_;rw [if_pos hlt]
  refine C (arQ xs hby q.2 (by omega)) ?_;refine cd (fun hc=>?_) fun hc=>?_
  ·have h0:(cO xs q.2).2.2≠0:=by simpa using hc
   rw [if_pos h0] at hst;refine G ?_;rw [show aUJ xs=([],(cO xs q.2).2.2) from by unfold aUJ;rw [←hf2,hst,if_pos h0]];exact R2 rfl (aT.to (aT.tmp rfl) aP2)
  have h0:(cO xs q.2).2.2=0:=by simpa using hc
  obtain ⟨g1,g2,g3,g4⟩:=aPJ hby h0;rw [if_neg (fun h=>h h0)] at hst;refine G ?_;refine Z1 jG ?_;refine jH 3 ?_;refine G ?_;refine Z1 jG ?_;refine jH 4 ?_;refine G ?_;refine NX (q.1++[(q.2,(cO xs q.2).1,(cO xs q.2).2.1)],(cO xs q.2).2.1) ⟨g2,aH3 (x:=(q.2,(cO xs q.2).1,(cO xs q.2).2.1)) hq2 rfl g1 g2 g3 g4,f,by show _≤(cO xs q.2).2.1+f;omega,by rw [←hst];exact hf2⟩ (hm:=by show _-(cO xs q.2).2.1<_;omega) (hl:=?_)
  (try dsimp only)
  simp only [List.map_append,aAC,List.map_cons,List.map_nil];exact Le.trans (LT (τ:=⟨[(0,bs xs),(4,.osl 2 0 ((q.1.map fun e=>e.2.1)++[(cO xs q.2).1]).length),(5,.osl 1 4 ((q.1.map fun e=>(e.1:Int)).length+1)),(6,vi ((cO xs q.2).2.1:Int))],[(0,.live 158 (cT (q.1.map fun e=>e.2.1)++cT [(cO xs q.2).1])),(4,.live 3 ((q.1.map fun e=>(e.1:Int)).map vi++[vi (q.2:Int)])),(2,.unborn),(3,.unborn),(5,.unborn),(6,.unborn)]⟩) 0 3 [2,3,5,6]) (LT 1 4 [2,3,4,5,6])
 have e:q.2=xs.length:=by simp at hb;omega
 have hL:jB xs xs.length 0 []=(q.1,0):=by
  rw [←hf2];cases f with
  | zero=>rfl
  | succ f=>show (if _ then _ else _)=_;rw [if_neg (by omega)]
 rw [e] at hq2;refine G ?_;refine Z1 jG ?_;refine jH 2 ?_;refine G ?_;obtain ⟨L,a⟩:=q;dsimp only at *;have hPl:(bD xs L).length=L.length+1:=by simp [bD]
 have hnd:(bD xs L).Nodup:=(aPK hq2).1;have hop:=anL hq2;have hat:=aDF hq2;refine Z2 (aGP (e:=3) (by_:=8) (z:=.int .i64 0) (m:=(bD xs L).length) 3 rfl rfl rfl (by rw [hPl];simp) (by kernel_rfl) (by kernel_rfl) rfl (by omega) (by omega)) ?_;refine G ?_;refine bS (Le.freezeV 5 2 (bD xs L) (hc:=by simp [bD]) (hlen:=by simp [bD])) ?_;refine bS (Le.cut 3 ((nQ (bD xs L) L 0).map vi) rfl (by rw [show (nQ (bD xs L) L 0).map vi=List.replicate (bD xs L).length (.val (.int .i64 0)) from List.map_replicate ..];exact fun _ _ h=>h)) ?_
 refine LP (ι:=Nat) (fun k=>[(11,vi k)]) (fun k=>[(0,.live 158 (cT (kU (bD xs L) L k))),(3,.live 3 ((nQ (bD xs L) L k).map vi))]) (fun k=>k≤L.length∧∀ z∈aX (L.take k),z∈bD xs L) (fun k=>L.length-k) 0 ⟨Nat.zero_le _,fun z hz=>by cases hz⟩ ?_;intro k hI;refine Gd (fun hb=>?_) fun hb=>?_
 ·have hk:k<L.length:=by simpa using hb
  have hx:=ak5 (P:=bD xs L) hk k hk;rw [if_neg (by omega)] at hx;refine G ?_;refine Z1 (ixK (h1:=by rw [List.length_map];exact hk)) ?_;refine Ylw 2 [vi (L.getD k dE).2.1.1,vi (L.getD k dE).2.1.2] ?_ (hds:=by rw [abE (by rw [aKC];exact hk),hx]);refine C (anM (L.getD k dE).2.1) ?_;refine cd (fun hc=>?_) fun hc=>?_
  ·have ha:nL (L.getD k dE).2.1=false:=by simpa using hc
   refine G ?_;exact NX (k+1) ⟨hk,by rw [aa9 hk,if_neg (by rw [ha];simp)];exact hI.2⟩ (hl:=by (try dsimp only);rw [ar1 hk ha,ar4 ha];exact LS)
  have ha:nL (L.getD k dE).2.1=true:=by simpa using hc
  obtain ⟨c1,c2,c3,c4,c5⟩:=hat k hk;have hz0:(bD xs L).getD (k+1) 0=((L.getD k dE).2.2:Int):=c2;have en:((k:Int)+1).toNat=k+1:=by omega
  have c3':(L.getD k dE).2.2≤xs.length:=c3;have c4':-32768≤(L.getD k dE).2.1.2∧(L.getD k dE).2.1.2≤32767:=c4;refine G ?_;refine LP (ι:=Nat) (fun j=>[(12,vi (toJ (bD xs L) (tgE L k) j)),(13,vi j)]) (fun _=>[]) (fun j=>j≤(bD xs L).length) (fun j=>(bD xs L).length-j) 0 (Nat.zero_le _) ?_;intro j hj;refine Gd (fun hb=>?_) fun hb=>?_
  ·have hjl:j<(bD xs L).length:=by simpa using hb
   have hz1:(bD xs L).getD ((k:Int)+1).toNat 0=((L.getD k dE).2.2:Int):=by rw [en];exact hz0
   have ht:=ar2 hnd (z:=tgE L k) hjl;refine G ?_;refine Z1 (ixK (h1:=by rw [List.length_map];exact hk)) ?_;refine vI 1 1 false ?_ (hk:=by rw [oO,aKC];omega);refine bG (y:=vi (L.getD k dE).2.1.2) ?_ (hy:=by rw [ar6 (by rw [aKC];exact hk),hx]);refine Gd (fun hd=>?_) fun hd=>?_
   ·have hd2:(bD xs L).getD j 0=tgE L k:=by rw [beq_iff_eq] at hd;rw [hd,hz1]
    refine G ?_;exact NX (j+1) hjl (hl:=by (try dsimp only);rw [ht,if_pos hd2];exact LS)
   have hd2:¬ (bD xs L).getD j 0=tgE L k:=by rw [beq_eq_false_iff_ne,ne_eq,hz1] at hd;exact hd
   refine G ?_;exact NX (j+1) hjl (hl:=by (try dsimp only);rw [ht,if_neg hd2];exact LS)
  obtain rfl:j=(bD xs L).length:=by simp at hb;omega
  rw [ar3];refine Gd (fun hd=>?_) fun hd=>?_
  ·have hd2:tgE L k∉bD xs L:=fun h=>by rw [if_pos h] at hd;simp at hd;omega
   refine G ?_;rw [show aUJ xs=([],5) from by unfold aUJ;rw [hL,if_neg (by simp),if_pos ⟨_,abB hk ha,hd2⟩]];exact R2 rfl (aT.to (aT.tmp rfl) aP2)
  have hd2:tgE L k∈bD xs L:=Classical.byContradiction fun h=>by rw [if_neg h] at hd;simp at hd
  rw [if_pos hd2];have hix:(bD xs L).idxOf (tgE L k)<(bD xs L).length:=List.idxOf_lt_length_of_mem hd2;have hcb:=ak6 (P:=bD xs L) (L:=L) k ((bD xs L).idxOf (tgE L k));refine G ?_;refine Z1 (ixK (h1:=by rw [List.length_map];exact hk)) ?_;refine vI 1 1 false ?_ (hk:=by rw [oO,aKC];omega);refine cF (cT (kU (bD xs L) L (k+1))) ?_ (hlt:=by rw [oO,aKC];omega) (hcs:=by rw [abF,hx,apE hk];unfold aC4;rw [if_pos ha]);refine G ?_;refine bG (y:=vi ((nQ (bD xs L) L k).getD ((bD xs L).idxOf (tgE L k)) 0)) ?_ (hy:=vO (by rw [aa0];exact hix));refine G ?_
  refine cF ((nQ (bD xs L) L (k+1)).map vi) ?_ (hlt:=by rw [List.length_map,aa0];exact hix) (hcs:=by rw [ar5 ha,List.map_set]);refine G ?_;refine NX (k+1) ⟨hk,by rw [aa9 hk,if_pos ha];intro z hz;rcases List.mem_append.1 hz with h|h;exact hI.2 z h;rw [List.mem_singleton] at h;rw [h];exact hd2⟩
 obtain rfl:k=L.length:=by simp at hb;omega
 rw [List.take_length] at hI;have hok:OkL (bD xs L) L:=⟨hnd,hPl,hop,hI.2⟩
 refine bS (Le.freezeI 4 0 (kU (bD xs L) L L.length) (by simp [aKC];rfl) rfl) ?_;refine bS (Le.freezeV 10 3 (nQ (bD xs L) L L.length) (hlen:=(aa0 _).symm)) ?_;refine G ?_;refine bS (Le.nameNil 14 4 2 158 rfl rfl) ?_;refine LP (ι:=Nat) (fun i=>[(14,.osl 2 4 (oX (aX L) (bD xs L) L i).length),(15,vi i)]) (fun i=>[(4,.live 158 (cT (oX (aX L) (bD xs L) L i))),(5,.unborn),(6,.unborn)]) (fun i=>i≤(bD xs L).length) (fun i=>(bD xs L).length-i) 0 (Nat.zero_le _) ?_;intro i hi0;have hol:=ar7 (P:=bD xs L) (L:=L) (aX L) i;refine Gd (fun hb=>?_) fun hb=>?_
 ·have hi:i<(bD xs L).length:=by simpa using hb
  have hp:=apF hnd hI.2 L.length (Nat.le_refl _) i hi;rw [List.take_length] at hp;have ho:=ar8 (P:=bD xs L) (L:=L) (T:=aX L) (i:=i) (by omega);have hcl2:=aa0 (P:=bD xs L) (L:=L) L.length;refine Gd (fun hc=>?_) fun hc=>?_
  ·have hm:(bD xs L).getD i 0∈aX L:=hp.1 (by simpa using hc);rw [show vE (aX L) (bD xs L) i=[(38,(i:Int))] from if_pos hm] at ho;refine G ?_;refine Z1 jG ?_;refine jH 5 ?_;refine Gd (fun hd=>?_) fun hd=>?_
   ·have hlt:i<L.length:=by simpa [aKC] using hd
    have hll:i<(kU (bD xs L) L L.length).length:=by rw [aKC];exact hlt
    rw [if_pos hlt,←apD hlt] at ho;refine G ?_;refine Z1 jG ?_;refine jH 6 ?_;refine G ?_;exact NX (i+1) hi (hl:=by (try dsimp only);rw [ho,aAC,aAC,←List.append_assoc (cT (oX (aX L) (bD xs L) L i))];exact LT 4 6 [5,6])
   have hlt:¬ i<L.length:=by simpa [aKC] using hd
   rw [if_neg hlt] at ho;refine G ?_;exact NX (i+1) hi (hl:=by (try dsimp only);rw [ho,List.append_nil,aAC];exact LT 4 5 [5,6])
  have hm:(bD xs L).getD i 0∉aX L:=fun h=>absurd (hp.2 h) (of_decide_eq_false hc);rw [show vE (aX L) (bD xs L) i=[] from if_neg hm] at ho;refine Gd (fun hd=>?_) fun hd=>?_
  ·have hlt:i<L.length:=by simpa [aKC] using hd
   have hll:i<(kU (bD xs L) L L.length).length:=by rw [aKC];exact hlt
   rw [if_pos hlt,List.nil_append,←apD hlt] at ho;refine G ?_;refine Z1 jG ?_;refine jH 5 ?_;refine G ?_;exact NX (i+1) hi (hl:=by (try dsimp only);rw [ho,aAC];exact LT 4 5 [5,6])
  have hlt:¬ i<L.length:=by simpa [aKC] using hd
  rw [if_neg hlt] at ho;refine G ?_;exact NX (i+1) hi (hl:=by (try dsimp only);rw [ho,List.append_nil,List.append_nil];exact LS)
 obtain rfl:i=(bD xs L).length:=by simp at hb;omega
 refine bS (Le.freezeI 14 4 (oX (aX L) (bD xs L) L (bD xs L).length) rfl rfl) ?_;refine C (ar0 (oX (aX L) (bD xs L) L (bD xs L).length) (by omega)) ?_;have e9:oX (aX L) (bD xs L) L (bD xs L).length=oA (aX L) (bD xs L) L:=by unfold oX;rw [if_neg (by omega)]
 rw [show aUJ xs=(ae6 (oA (aX L) (bD xs L) L),0) from by unfold aUJ;rw [hL,if_neg (by simp),if_neg (fun ⟨z,hz,hn⟩=>hn (hI.2 z hz))],←e9];exact R2
set_option maxHeartbeats 6400000
instance (C:Bool) (x:Av) [a:Pu x]:Pu (.gd C x):=⟨by unfold aN;exact a.out⟩
theorem asJ (s:StoryP)(i:Nat)(hc:s.code.length≤10000000)(hby:dF s.code)(hel:s.entry.length≤1000000000000000):PC Tryz.prog 142 [cX s,vi (i:Int)] (vi (jS s i)):=by
 have hrl:=aiH s i;have hrb:=aiG hby i;obtain ⟨hdl,hdb⟩:=abL hrb;refine FB 1 113 Tryz.func142 ?_;refine Gd (fun hb=>?_) fun hb=>?_
 ·refine G ?_;exact RI (h:=by unfold jS;rw [if_pos (by simp only [Bool.or_eq_true,decide_eq_true_eq] at hb;omega)])
 have h0:i<s.entry.length∧i<s.tab.locals.length:=by simp only [Bool.or_eq_false_iff,decide_eq_false_iff_not] at hb;omega
 refine G ?_;refine rM (τ:=⟨[(1,vi (i:Int)),(2,.ptr (cX s)),(5,vi (nP s i)),(6,vi (qT s i))],[(0,.unborn)]⟩) ?_ ?_
 ·refine cd (fun hd=>?_) fun hd=>?_
  ·have hd':i+1<s.entry.length:=by have:=of_decide_eq_true hd;omega
   refine G ?_;exact Le.sub ⟨.inr rfl,.inr rfl,.inr rfl,.inr (aR (by unfold qT;rw [if_pos hd'])),trivial⟩ ⟨rfl,trivial⟩
  have hd':¬ i+1<s.entry.length:=by have:=of_decide_eq_false hd;omega
  refine G ?_;exact Le.sub ⟨.inr rfl,.inr rfl,.inr rfl,.inr (aR (by unfold qT;rw [if_neg hd'])),trivial⟩ ⟨rfl,trivial⟩
 refine Gd (fun hd=>?_) fun hd=>?_
 ·simp only [Bool.or_eq_true,decide_eq_true_eq] at hd;refine G ?_;exact RI (h:=by unfold jS;rw [if_neg (Classical.not_not.2 h0),if_pos];unfold fU;rw [if_pos (by omega)])
 simp only [Bool.or_eq_false_iff,decide_eq_false_iff_not] at hd;have hR:fU s i=((s.code.drop (nP s i).toNat).take ((qT s i).toNat-(nP s i).toNat),true):=if_neg (by omega);have hq:=ar9 (fU s i).1 hrb (by omega);rw [arV hrb] at hq;refine G ?_;refine Z1 (OC.to (aC2 (e:=5) (by_:=1) (zs:=[.int .u8 0]) (nP s i).toNat (qT s i).toNat rfl rfl (aR (by omega)) (aR (by omega)) (by kernel_rfl) (by kernel_rfl) (by omega) (by omega)) (aiI (by omega) (by omega))) ?_;rw [show (s.code.drop (nP s i).toNat).take ((qT s i).toNat-(nP s i).toNat)=(fU s i).1 from by rw [hR]];refine C hq ?_
 have h1:¬ (fU s i).2=false:=by rw [hR];simp
 refine cd (fun he=>?_) fun he=>?_
 ·refine G ?_;exact RI (h:=by unfold jS;rw [if_neg (Classical.not_not.2 h0),if_neg h1,if_pos (by simpa using he)])
 have h2:¬ (gP (fU s i).1).2≠0:=by simpa using he
 refine G ?_;refine LP (ι:=Nat) (fun k=>[(76,vi k)]) (fun _=>[(0,.unborn)]) (fun k=>k≤(gP (fU s i).1).1.length∧∀ j,j<k→aFA s i ((gP (fU s i).1).1.getD j aI)=false) (fun k=>(gP (fU s i).1).1.length-k) 0 ⟨Nat.zero_le _,fun j hj=>absurd hj (by omega)⟩ ?_;intro k hI;refine Gd (fun hk=>?_) fun hk=>?_
 ·have hk:k<(gP (fU s i).1).1.length:=by have:=of_decide_eq_true hk;omega
  refine Gd (fun hv=>?_) fun hv=>?_
  ·have hv:aFA s i ((gP (fU s i).1).1.getD k aI)=true:=hv;refine G ?_;exact RI (h:=by unfold jS;rw [if_neg (Classical.not_not.2 h0),if_neg h1,if_neg h2,if_pos (aiJ hk hv)])
  have hv:aFA s i ((gP (fU s i).1).1.getD k aI)=false:=hv;refine G ?_;exact NX (k+1) ⟨hk,fun j hj=>by
   rcases Nat.lt_succ_iff_lt_or_eq.1 hj with h|rfl
   ·exact hI.2 j h
   exact hv⟩ (hl:=by (try dsimp only);exact LR [0])
 obtain rfl:k=(gP (fU s i).1).1.length:=by have:=of_decide_eq_false hk;omega
 refine C (asI s.tab (gP (fU s i).1).1 (by omega)) ?_;exact RI (h:=by unfold jS;rw [if_neg (Classical.not_not.2 h0),if_neg h1,if_neg h2,if_neg (aiK hI.2),asK])
theorem asL (s:StoryP)(hc:s.code.length≤10000000)(hby:dF s.code)(hel:s.entry.length≤1000000000000000):PC Tryz.prog 82 [cX s] (.tup [vi (gV s).1,vi (gV s).2]):=by
 refine FB 0 57 Tryz.func82 ?_;refine G ?_;refine Z4 (R:=[]) (x:=.ptr (vi (s.entry.getD 0 0))) (fun hC=>?_) ?_
 ·have h0:0<s.entry.length:=by (simp at hC;omega)
  exact rJ (row:=fun j=>vi (s.entry.getD j 0)) (j:=0) rfl rfl rfl (by kernel_rfl) h0
 refine Gd (fun hb=>?_) fun hb=>?_
 ·have hv:wC s:=by
   show ((s.entry.length≠s.tab.params.length∨s.entry.length≠s.tab.locals.length)∨0<s.entry.length∧s.entry.getD 0 0≠0)∨s.entry.length=0∧0<s.code.length;simp only [Bool.or_eq_true,Bool.and_eq_true,bne_iff_ne,ne_eq,beq_iff_eq,decide_eq_true_eq] at hb;omega
  refine G ?_;rw [show gV s=(-1,7) from if_pos hv];exact R2
 have hv:¬ wC s:=by
  show ¬ (((s.entry.length≠s.tab.params.length∨s.entry.length≠s.tab.locals.length)∨0<s.entry.length∧s.entry.getD 0 0≠0)∨s.entry.length=0∧0<s.code.length);simp only [Bool.or_eq_false_iff,Bool.and_eq_false_iff,bne_eq_false_iff_eq,beq_eq_false_iff_ne,ne_eq,decide_eq_false_iff_not] at hb;omega
 rw [show gV s=pT s s.entry.length 0 from if_neg hv];refine G ?_;refine LP (ι:=Nat) (fun k=>[(5,vi k)]) (fun _=>[]) (fun k=>k≤s.entry.length∧pT s (s.entry.length-k) k=pT s s.entry.length 0) (fun k=>s.entry.length-k) 0 ⟨Nat.zero_le _,rfl⟩ ?_;intro k hI;refine Gd (fun hk=>?_) fun hk=>?_
 ·have hk:k<s.entry.length:=by have:=of_decide_eq_true hk;omega
  have hst:pT s (s.entry.length-k) k=if jS s k≠0 then ((k:Int),jS s k) else pT s (s.entry.length-(k+1)) (k+1):=by
   rw [show s.entry.length-k=(s.entry.length-(k+1))+1 from by omega];show (if _ then _ else _)=_;rw [if_pos hk]
  refine C (asJ s k hc hby hel) ?_;refine cd (fun hr=>?_) fun hr=>?_
  ·rw [←hI.2,hst,if_pos (by simpa using hr)];refine G ?_;exact R2
  rw [if_neg (by simpa using hr)] at hst;refine G ?_;exact NX (k+1) ⟨hk,hst ▸ hI.2⟩
 obtain rfl:k=s.entry.length:=by have:=of_decide_eq_false hk;omega
 rw [←hI.2,Nat.sub_self];refine G ?_;exact R2
end Go.Proofs.YtgajclaoaphgoaaGreatDoor
namespace Go.Proofs.YtgajclaoaphgoaaGreatDoor
open Go.RowKit
def aTM (n:Int):Int:=2^(min n.toNat 16)
theorem an3 {k:Nat}(h:k≤16):0<(2:Int)^k∧(2:Int)^k≤65536:=by
 have h1:(2:Int)^k≤2^16:=by
  have:(2:Nat)^k≤2^16:=Nat.pow_le_pow_right (by decide) h
  exact_mod_cast this
 have h2:0<(2:Int)^k:=Int.pow_pos (by decide);exact ⟨h2,by simpa using h1⟩
theorem atU (n:Int):0<aTM n∧aTM n≤65536:=an3 (Nat.min_le_right _ _)
theorem atM (k:Nat):(2:Int)^(k+1)=2*2^k:=by rw [Int.pow_succ,Int.mul_comm]
def rh1 (t:TabP):Bool:=decide ((t.texts.length:Int)>4096)||!(wW t t.title||(false&&t.title==-1))||!(wW t t.by_||(false&&t.by_==-1))||!among t.release 0 32767||!among t.max 0 32767||!among t.flags 4 16
def rh2 (t:TabP):Bool:=decide ((t.props.length:Int)>16)||decide ((t.globals.length:Int)>64)||!t.props.all pW||!t.globals.all pW||(t.params.length:Int) !=t.locals.length||decide ((t.params.length:Int)>2048)
def aZ5 (t:TabP):Bool:=!rh1 t&&!rh2 t&&t.texts.all qN&&(List.range t.params.length).all fun k=>!uW t k
def aLQ (t:TabP):Nat→Int→Bool
 | 0,_=>false
 | m+1,x=>bif qV t x then (bif (t.at_ x).room then true else aLQ t m (qW t x)) else false
theorem apR {t:TabP}{M k:Nat}{x:Int}(hk:k<M)(h:aLQ t M x=aLQ t (M-k) (vD (qW t) k x)):aLQ t M x=bif qV t (vD (qW t) k x) then (bif (t.at_ (vD (qW t) k x)).room then true else aLQ t (M-(k+1)) (vD (qW t) (k+1) x)) else false:=by
 rw [h,show M-k=(M-(k+1))+1 from by omega];rfl
def aFP (t:TabP):Nat→Int→Bool
 | 0,_=>false
 | m+1,x=>if x=0 then true else aFP t m (qW t x)
theorem atQ {t:TabP}{M k:Nat}{x:Int}(hk:k<M)(h:aFP t M x=aFP t (M-k) (vD (qW t) k x)):aFP t M x=if vD (qW t) k x=0 then true else aFP t (M-(k+1)) (vD (qW t) (k+1) x):=by
 rw [h,show M-k=(M-(k+1))+1 from by omega];rfl
def aQW (t:TabP)(l:List WayP)(k:Nat):Bool:=!among (l.getD k dD).dir 1 12||(decide ((k:Int)>0)&&decide ((l.getD k dD).dir≤(l.getD (k-1) dD).dir))||!qV t (l.getD k dD).goal||!(t.at_ (l.getD k dD).goal).room||!((true&&(l.getD k dD).cond==-1)||tG t (l.getD k dD).cond)||!(wW t (l.getD k dD).els||(true&&(l.getD k dD).els==-1))
def adV (t:TabP)(l:List WayP):Bool:=(List.range l.length).all fun k=>!aQW t l k
def adW (t:TabP):Bool:=!among t.things.length 3 128||!aaC t (t.things.getD 0 cY)||(t.things.getD 1 cY).room
def aiZ (t:TabP)(x:ThingP):Bool:=!(wW t x.title||(false&&x.title==-1))||!(wW t x.text||(true&&x.text==-1))||!among x.flags 0 (aTM t.flags-1)||(x.props.length:Int) !=t.props.length||!x.props.all pW||!wV x.words 8||!wV x.adjs 8
def aaX (t:TabP)(x:ThingP):Bool:=(x.parent !=0&&!qV t x.parent)||(x.room&&x.parent !=0)||(!x.room&&decide ((x.ways.length:Int)>0))||!adV t x.ways
def aHP (t:TabP)(k:Nat):Bool:=decide (k=0)||(!aiZ t (t.things.getD k cY)&&!aaX t (t.things.getD k cY))
def aUW (t:TabP):Bool:=!adW t&&((List.range t.things.length).all (aHP t))&&((List.range t.things.length).all fun k=>decide (k=0)||aFP t t.things.length k)&&aLQ t t.things.length 1
def aKX (l:List SlotP)(k:Nat):Bool:=!among (l.getD k cH).kind 1 5||((l.getD k cH).kind==1&&((l.getD k cH).words.length:Int)==0)||((l.getD k cH).kind !=1&&decide (((l.getD k cH).words.length:Int)>0))||!wV (l.getD k cH).words 4
def aUA (l:List SlotP):Bool:=((List.range l.length).all fun k=>!aKX l k)&&(among l.length 1 8&&((l.getD 0 cH).kind==1||(l.getD 0 cH).kind==5)&&decide (pQ oT l l.length≤2)&&decide (pQ (fun k=>k==4) l l.length≤1)&&decide (pQ (fun k=>k==5) l l.length≤1))
def aYE (t:TabP)(d:DeedP):Bool:=!among d.verb 0 ((t.acts.length:Int)-1)||!among d.phase 1 3||(d.noun !=-1&&!qV t d.noun)||(d.second !=-1&&!qV t d.second)||!((true&&d.cond==-1)||tG t d.cond)||!((false&&d.body==-1)||tG t d.body)
def ai0 (t:TabP):Bool:=decide ((t.acts.length:Int)>64)||decide ((t.deeds.length:Int)>512)||decide ((t.funcs.length:Int)>64)||decide ((t.daemons.length:Int)>16)
def aQ8 (v:VerbP):Bool:=among v.lines.length 1 8&&v.lines.all aUA
def aUG (t:TabP):Bool:=!ai0 t&&t.acts.all aQ8&&t.deeds.all (fun d=>!aYE t d)&&t.funcs.all (fun n=>among n 0 ((t.params.length:Int)-1))&&t.daemons.all (fun n=>(false&&n==-1)||tG t n)
def an5 (t:TabP):Bool:=aZ5 t&&aUW t&&aUG t
theorem an4 {t:TabP}{k:Nat}(h:aHP t k=true)(h0:0<k):(t.things.getD k cY).parent=0∨qV t (t.things.getD k cY).parent=true:=by
 unfold aHP aaX at h;rw [Bool.or_eq_true] at h;rcases h with h|h
 ·simp at h;omega
 simp only [Bool.and_eq_true,Bool.not_eq_true',Bool.or_eq_false_iff,Bool.and_eq_false_iff] at h;rcases h.2.1.1.1 with h1|h1
 ·exact .inl (by simpa using h1)
 exact .inr (by simpa using h1)
def aZ6 (t:TabP):Prop:=∀ k,k<t.things.length→0<k→(t.things.getD k cY).parent=0∨qV t (t.things.getD k cY).parent=true
theorem an7 {t:TabP}(h:aZ6 t){n:Int}(hn:qV t n=true):qW t n=0∨qV t (qW t n)=true:=by
 have h1:=gH.1 (show among n 1 _=true from hn);exact h n.toNat (by omega) (by omega)
theorem atR {t:TabP}(h:aZ6 t){n:Int}(hn:n=0∨qV t n=true)(h2:n≠0):qW t n=0∨qV t (qW t n)=true:=an7 h (hn.resolve_left h2)
end Go.Proofs.YtgajclaoaphgoaaGreatDoor
