/- Parts of the proof of a law of this seat: rules and contracts; no conditions. -/
import Derived.Test.YtnklgkjfoggpbaaGreatDoorLt
import Derived.Test.YtnklgkjfoggpbaaGreatDoorFp
import Derived.Test.YtnklgkjfoggpbaaGreatDoorFe
import Derived.Test.YtnklgkjfoggpbaaGreatDoorPi
import Derived.Test.YtnklgkjfoggpbaaGreatDoorVyk
import Derived.Test.YtnklgkjfoggpbaaGreatDoorProg
import Derived.KernelRfl
set_option maxHeartbeats 6400000
set_option maxRecDepth 100000
set_option linter.unusedVariables false
set_option linter.unusedSimpArgs false
namespace Go.Proofs.YtnklgkjfoggpbaaGreatDoor
open Go.RowKit
def nP (s:StoryP)(i:Nat):Int:=s.entry.getD i 0
def qT (s:StoryP)(i:Nat):Int:=if i+1<s.entry.length then s.entry.getD (i+1) 0 else (s.code.length:Int)
def fU (s:StoryP)(i:Nat):List Int × Bool:=if (nP s i<0∨qT s i >(s.code.length:Int))∨nP s i>qT s i then ([],false) else ((s.code.drop (nP s i).toNat).take ((qT s i).toNat-(nP s i).toNat),true)
def aFA (s:StoryP)(i:Nat)(x:bK):Bool:=(x.1==5||x.1==6)&&(decide (x.2<0)||decide (x.2≥s.tab.locals.getD i 0))
def jS (s:StoryP)(i:Nat):Int:=
 if ¬ (i<s.entry.length∧i<s.tab.locals.length) then 11
 else if (fU s i).2=false then 5
 else if (gP (fU s i).1).2≠0 then ((gP (fU s i).1).2:Int)
 else if (gP (fU s i).1).1.any (aFA s i)=true then 5
 else (wA s.tab (gP (fU s i).1).1).2
def pT (s:StoryP):Nat→Nat→Int × Int
 | 0,_=>(0,0)
 | f+1,k=>if k<s.entry.length then (if jS s k≠0 then ((k:Int),jS s k) else pT s f (k+1)) else (0,0)
def wC (s:StoryP):Prop:=((s.entry.length≠s.tab.params.length∨s.entry.length≠s.tab.locals.length)∨0<s.entry.length∧s.entry.getD 0 0≠0)∨s.entry.length=0∧0<s.code.length
instance (s:StoryP):Decidable (wC s):=by unfold wC;infer_instance
def gV (s:StoryP):Int × Int:=if wC s then (-1,7) else pT s s.entry.length 0
theorem mV {xs:List Int}:dF xs↔∀ x∈xs,0≤x∧x<256:=by
 refine ⟨fun h x hx=>?_,fun h j=>?_⟩
 ·obtain ⟨j,hj,rfl⟩:=List.mem_iff_getElem.1 hx
  have:=h j
  rwa [List.getD,List.getElem?_eq_getElem hj] at this
 ·rcases Nat.lt_or_ge j xs.length with hj|hj
  ·rw [List.getD,List.getElem?_eq_getElem hj];exact h _ (List.getElem_mem hj)
  ·rw [List.getD,List.getElem?_eq_none hj];exact ⟨by decide,by decide⟩
theorem aiG {s:StoryP}(h:dF s.code)(i:Nat):dF (fU s i).1:=by
 unfold fU
 split
 ·exact mV.2 fun x hx=>by cases hx
 ·exact mV.2 fun x hx=>mV.1 h x (List.mem_of_mem_drop (List.mem_of_mem_take hx))
theorem aiH (s:StoryP)(i:Nat):(fU s i).1.length≤s.code.length:=by
 unfold fU
 split
 ·exact Nat.zero_le _
 ·show (List.take _ _).length≤_
  rw [List.length_take,List.length_drop];omega
theorem aiI {xs:List Int}{a b:Nat}(h:a≤b)(h2:b≤xs.length)(E:Env)(v:Value)(hr:aA E (.sl 1 (b-a) (fun j=>bv xs (j+a))) v):aA E (bs ((xs.drop a).take (b-a))) v:=by
 have hl:((xs.drop a).take (b-a)).length=b-a:=by rw [List.length_take,List.length_drop];omega
 unfold bs
 rw [hl]
 refine pI (fun E k hk v hv=>?_) E v hr
 have e:((xs.drop a).take (b-a)).getD k 0=xs.getD (k+a) 0:=by
  rw [List.getD,List.getD,List.getElem?_take,if_pos hk,List.getElem?_drop]
  congr 2
  omega
 unfold bv
 rw [e]
 exact hv
theorem aTB {a b:List Int × Bool}(h:a=b):Av.tup [bs a.1,vb a.2]=.tup [bs b.1,vb b.2]:=by rw [h]
theorem aI0 (E:Env)(v:Value)(h:aA E (.val (.slice none 0 0)) v):aA E (bs []) v:=uA (by decide) E v h
theorem aiJ {l:List bK}{p:bK→Bool}{k:Nat}(hk:k<l.length)(h:p (l.getD k aI)=true):l.any p=true:=by
 rw [List.getD,List.getElem?_eq_getElem hk] at h
 exact List.any_eq_true.2 ⟨_,List.getElem_mem hk,h⟩
theorem aiK {l:List bK}{p:bK→Bool}(h:∀ j,j<l.length→p (l.getD j aI)=false):¬ l.any p=true:=fun hc=>by
 obtain ⟨x,hx,h2⟩:=List.any_eq_true.1 hc
 obtain ⟨j,hj,rfl⟩:=List.mem_iff_getElem.1 hx
 have h3:=h j hj
 rw [List.getD,List.getElem?_eq_getElem hj] at h3
 rw [show l[j]=(some l[j]).getD aI from rfl,h3] at h2
 cases h2
theorem aiL (s:StoryP)(i:Nat)(hi:i<s.entry.length)(hel:s.entry.length≤1000000000000000):PC Tryz.prog 84 [cX s,vi (i:Int)] (.tup [bs (fU s i).1,vb (fU s i).2]):=by
 refine FC.body 2 47 Tryz.func84 rfl (by kernel_rfl) ?_
 refine sq ?_
 refine Z1 bx ?_
 refine Z1 aB ?_
 refine Z1 aB ?_
 refine cn ?_
 refine aD ?_
 refine dw ?_
 refine Z1 (fa 15) ?_
 refine Z1 ld ?_
 refine Z1 mo ?_
 refine Z1 ia ?_
 refine Z1 ld ?_
 refine Z1 (fa 16) ?_
 refine Z1 ld ?_
 refine Z1 ln ?_
 refine Z1 aB ?_
 refine Z1 aB ?_
 refine cn (dn ?_)
 refine aD ?_
 refine sq ?_
 refine Z1 mo ?_
 refine Z1 ba ?_
 refine Z1 (fa 15) ?_
 refine Z1 ld ?_
 refine Z1 ln ?_
 refine Z1 bz ?_
 refine cn ?_
 refine rM (τ:=⟨[(1,vi (i:Int)),(2,.ptr (cX s)),(6,vi (nP s i)),(7,vi (qT s i))],[]⟩) ?_ ?_
 ·refine cd (fun hb=>?_) fun hb=>?_
  ·have h30:i+1<s.entry.length:=by have h0:=of_decide_eq_true hb;omega
   refine tx ?_
   refine Z1 (fa 15) ?_
   refine Z1 ld ?_
   refine Z1 mo ?_
   refine Z1 ba ?_
   refine Z1 (mM (j:=i+1) rfl rfl rfl (by kernel_rfl) (by omega) (by omega) (by omega)) ?_
   refine Z1 ld ?_
   refine Z1 aB ?_
   refine cn ?_
   exact Le.sub ⟨.inr rfl,.inr rfl,.inr rfl,.inr (aR (by unfold qT;first|rw [if_pos h30]|rw [if_neg h30])),trivial⟩ trivial
  ·have h30:¬ i+1<s.entry.length:=by have h0:=of_decide_eq_false hb;omega
   refine aQ ?_
   exact Le.sub ⟨.inr rfl,.inr rfl,.inr rfl,.inr (aR (by unfold qT;first|rw [if_pos h30]|rw [if_neg h30])),trivial⟩ trivial
 ·refine aD ?_
  refine sq ?_
  refine Z1 mo ?_
  refine Z1 bz ?_
  refine Z1 mo ?_
  refine Z4 (fun hC=>mo) ?_
  refine Z4 (fun hC=>fa 16) ?_
  refine Z4 (fun hC=>ld) ?_
  refine Z4 (fun hC=>ln) ?_
  refine Z4 (fun hC=>bz) ?_
  refine Z1 cC ?_
  refine Z1 mo ?_
  refine Z4 (fun hC=>mo) ?_
  refine Z4 (fun hC=>mo) ?_
  refine Z4 (fun hC=>bz) ?_
  refine Z1 cC ?_
  refine cn ?_
  refine cd (fun hb=>?_) fun hb=>?_
  ·have hrg:(nP s i<0∨qT s i >(s.code.length:Int))∨nP s i>qT s i:=by simpa only [Bool.or_eq_true,decide_eq_true_eq] using hb
   refine sq ?_
   refine Z1 aB ?_
   refine Z1 aB ?_
   refine cn ?_
   refine aP ?_
   exact ⟨.inl rfl,by rw [aTB (show fU s i=([],false) from by unfold fU;exact if_pos hrg)];exact aF.two rfl (aT.to (aT.tmp rfl) aI0) (aT.tmp rfl),trivial⟩
  ·have hrg:¬ ((nP s i<0∨qT s i >(s.code.length:Int))∨nP s i>qT s i):=by
    rw [Bool.or_eq_false_iff,Bool.or_eq_false_iff] at hb
    simp only [decide_eq_false_iff_not] at hb
    omega
   refine aQ ?_
   refine sq ?_
   refine Z1 (fa 16) ?_
   refine Z1 ld ?_
   refine Z1 mo ?_
   refine Z1 mo ?_
   refine Z1 (OC.to (aC2 (e:=5) (by_:=1) (zs:=[.int .u8 0]) (nP s i).toNat (qT s i).toNat rfl rfl (aR (by omega)) (aR (by omega)) (by kernel_rfl) (by kernel_rfl) (by omega) (by omega)) (aiI (by omega) (by omega))) ?_
   refine Z1 aB ?_
   refine Z1 aB ?_
   refine cn ?_
   refine aP ?_
   exact ⟨.inl rfl,by rw [aTB (show fU s i=(_,true) from by unfold fU;exact if_neg hrg)];exact aF.two rfl (aT.tmp rfl) (aT.tmp rfl),trivial⟩
theorem aiM (s:StoryP)(i:Nat)(hc:s.code.length≤10000000)(hby:dF s.code)(hel:s.entry.length≤1000000000000000)(hf:s.tab.funcs.length≤140737488355328)(hp:s.tab.params.length≤140737488355328):PC Tryz.prog 24 [cX s,vi (i:Int)] (vi (jS s i)):=by
 have hrl:=aiH s i
 have hrb:=aiG hby i
 obtain ⟨hdl,hdb⟩:=abL hrb
 refine FC.body 2 85 Tryz.func24 rfl (by kernel_rfl) ?_
 refine sq ?_
 refine Z1 bx ?_
 refine Z1 aB ?_
 refine cn ?_
 refine aD ?_
 refine sq ?_
 refine Z1 mo ?_
 refine Z1 bz ?_
 refine Z1 mo ?_
 refine Z4 (fun hC=>mo) ?_
 refine Z4 (fun hC=>fa 15) ?_
 refine Z4 (fun hC=>ld) ?_
 refine Z4 (fun hC=>ln) ?_
 refine Z4 (fun hC=>bz) ?_
 refine Z1 cC ?_
 refine Z1 mo ?_
 refine Z4 (fun hC=>mo) ?_
 refine Z4 (fun hC=>qK 0 15) ?_
 refine Z4 (fun hC=>fa 14) ?_
 refine Z4 (fun hC=>ld) ?_
 refine Z4 (fun hC=>ln) ?_
 refine Z4 (fun hC=>bz) ?_
 refine Z1 cC ?_
 refine cn ?_
 refine cd (fun hb=>?_) fun hb=>?_
 ·have h0:¬ (i<s.entry.length∧i<s.tab.locals.length):=by
   simp only [Bool.or_eq_true,decide_eq_true_eq] at hb
   omega
  refine sq ?_
  refine Z1 aB ?_
  refine cn ?_
  refine aP ?_
  exact ⟨.inl rfl,aF.tmp rfl (aR (show _=jS s i from by unfold jS;rw [if_pos h0])),trivial⟩
 ·have h0:i<s.entry.length∧i<s.tab.locals.length:=by
   rw [Bool.or_eq_false_iff,Bool.or_eq_false_iff] at hb
   simp only [decide_eq_false_iff_not] at hb
   omega
  refine aQ ?_
  refine sq ?_
  refine Z1 lr ?_
  refine Z1 mo ?_
  refine Z1 (ca (aiL s i h0.1 hel)) ?_
  refine Z1 mo ?_
  refine Z1 ex ?_
  refine Z1 ex ?_
  refine Z1 aB ?_
  refine Z1 aB ?_
  refine cn ?_
  refine aD ?_
  refine sq ?_
  refine Z1 mo ?_
  refine Z1 nt ?_
  refine cn ?_
  refine cd (fun hb=>?_) fun hb=>?_
  ·have h1:(fU s i).2=false:=by simpa using hb
   refine sq ?_
   refine Z1 aB ?_
   refine cn ?_
   refine aP ?_
   exact ⟨.inl rfl,aF.tmp rfl (aR (show _=jS s i from by unfold jS;rw [if_neg (Classical.not_not.2 h0),if_pos h1])),trivial⟩
  ·have h1:(fU s i).2=true:=by simpa using hb
   refine aQ ?_
   refine sq ?_
   refine Z1 mo ?_
   refine Z1 (ca (acD (fU s i).1 hrb (by omega))) ?_
   refine Z1 mo ?_
   refine Z1 ex ?_
   refine Z1 ex ?_
   refine Z1 aB ?_
   refine Z1 aB ?_
   refine cn ?_
   refine aD ?_
   refine sq ?_
   refine Z1 mo ?_
   refine Z1 bz ?_
   refine cn ?_
   refine cd (fun hb=>?_) fun hb=>?_
   ·have h2:(gP (fU s i).1).2≠0:=by simpa using hb
    refine sq ?_
    refine Z1 mo ?_
    refine Z1 aB ?_
    refine cn ?_
    refine aP ?_
    exact ⟨.inl rfl,aF.tmp rfl (aR (show _=jS s i from by unfold jS;rw [if_neg (Classical.not_not.2 h0),if_neg (by rw [h1];decide),if_pos h2])),trivial⟩
   ·have h2:(gP (fU s i).1).2=0:=by simpa using hb
    refine aQ ?_
    refine aD ?_
    refine sq ?_
    refine Z1 mo ?_
    refine Z1 ln ?_
    refine Z1 mo ?_
    refine cn ?_
    refine aU ?_
    refine bM (ι:=Nat) (fun k=>⟨[(1,vi (i:Int)),(2,.ptr (cX s)),(7,iU (gP (fU s i).1).1),(45,iU (gP (fU s i).1).1),(46,vi ((gP (fU s i).1).1.length:Int)),(47,vi k)],[(0,.unborn),(1,.unborn)]⟩) (fun k=>k≤(gP (fU s i).1).1.length∧∀ j,j<k→aFA s i ((gP (fU s i).1).1.getD j aI)=false) (fun k=>(gP (fU s i).1).1.length-k) 0 (⟨Nat.zero_le _,fun j hj=>absurd hj (by omega)⟩) (LS) ?_
    intro k hI
    refine sq ?_
    refine Z1 bz ?_
    refine cn ?_
    refine aD ?_
    refine cd (fun hb=>?_) fun hb=>?_
    ·have hk:k<(gP (fU s i).1).1.length:=by have h0:=of_decide_eq_true hb;omega
     refine aQ ?_
     refine aD ?_
     refine aU ?_
     refine sq ?_
     refine Z1 ia ?_
     refine Z1 lr ?_
     refine Z2 (al 0 [.int .i64 0,.int .i64 0]) ?_
     refine bW [_,_] ?_
     refine cn ?_
     refine sq ?_
     refine aS 0 1 false ?_
     refine bG ?_
     refine Z1 bz ?_
     refine Z1 mo ?_
     refine aW (R:=[(_,.live _ _)]) rfl rfl rfl eV (fun hC=>eU (off:=0) (sz:=1) (r:=false) rfl rfl (by first|decide|simp) (by kernel_rfl) (by decide)) (fun hC=>⟨(by first|rfl|exact hC|(simp only [Bool.and_eq_true] at hC;first|exact hC.1|exact hC.1.1|exact hC.2)|simp_all),trivial⟩) ⟨rfl,trivial⟩ ?_
     refine aW (R:=[(_,.live _ _)]) rfl rfl rfl eV (fun hC=>fL rfl rfl (by kernel_rfl) rfl) (fun hC=>⟨(by first|rfl|exact hC|(simp only [Bool.and_eq_true] at hC;first|exact hC.1|exact hC.1.1|exact hC.2)|simp_all),trivial⟩) ⟨rfl,trivial⟩ ?_
     refine Z4 (fun hC=>bz) ?_
     refine Z1 cC ?_
     refine Z1 aB ?_
     refine cn ?_
     refine aD ?_
     refine dw ?_
     refine Z1 mo ?_
     refine Z1 mo ?_
     refine aW (R:=[(_,.live _ _)]) rfl rfl rfl cA (fun hC=>eU (off:=1) (sz:=1) (r:=false) rfl rfl (by first|decide|simp) (by kernel_rfl) (by decide)) (fun hC=>⟨(by first|rfl|exact hC|(simp only [Bool.and_eq_true] at hC;first|exact hC.1|exact hC.1.1|exact hC.2)|simp_all),trivial⟩) ⟨rfl,trivial⟩ ?_
     refine aW (R:=[(_,.live _ _)]) rfl rfl rfl cA (fun hC=>fL rfl rfl (by kernel_rfl) rfl) (fun hC=>⟨(by first|rfl|exact hC|(simp only [Bool.and_eq_true] at hC;first|exact hC.1|exact hC.1.1|exact hC.2)|simp_all),trivial⟩) ⟨rfl,trivial⟩ ?_
     refine Z4 (fun hC=>bz) ?_
     refine Z4 (fun hC=>mo) ?_
     refine aW (R:=[(_,.live _ _)]) rfl rfl rfl aAS (fun hC=>eU (off:=1) (sz:=1) (r:=false) rfl rfl (by first|decide|simp) (by kernel_rfl) (by decide)) (fun hC=>⟨(by first|rfl|exact hC|(simp only [Bool.and_eq_true] at hC;first|exact hC.1|exact hC.1.1|exact hC.2)|simp_all),trivial⟩) ⟨rfl,trivial⟩ ?_
     refine aW (R:=[(_,.live _ _)]) rfl rfl rfl aAS (fun hC=>fL rfl rfl (by kernel_rfl) rfl) (fun hC=>⟨(by first|rfl|exact hC|(simp only [Bool.and_eq_true] at hC;first|exact hC.1|exact hC.1.1|exact hC.2)|simp_all),trivial⟩) ⟨rfl,trivial⟩ ?_
     refine Z4 (fun hC=>qK 0 15) ?_
     refine Z4 (fun hC=>fa 14) ?_
     refine Z4 (fun hC=>ld) ?_
     refine Z4 (fun hC=>mo) ?_
     refine Z4 (fun hC=>ia) ?_
     refine Z4 (fun hC=>ld) ?_
     refine Z4 (fun hC=>bz) ?_
     refine Z6 ?_
     refine Z1 an ?_
     refine cn (dn ?_)
     refine cd (fun hb=>?_) fun hb=>?_
     ·have hbl:aFA s i ((gP (fU s i).1).1.getD k aI)=true:=hb
      refine sq ?_
      refine Z1 aB ?_
      refine cn ?_
      refine aP ?_
      exact ⟨.inl rfl,aF.tmp rfl (aR (show _=jS s i from by unfold jS;rw [if_neg (Classical.not_not.2 h0),if_neg (by rw [h1];decide),if_neg (Classical.not_not.2 h2),if_pos (aiJ hk hbl)])),trivial⟩
     ·have hbl:aFA s i ((gP (fU s i).1).1.getD k aI)=false:=hb
      refine aQ ?_
      refine tx ?_
      refine Z1 ba ?_
      refine Z1 mo ?_
      refine cn ?_
      exact ⟨k+1,⟨by omega,fun j hj=>by
       rcases Nat.lt_or_ge j k with h5|h5
       ·exact hI.2 j h5
       ·have h6:j=k:=by omega
        subst h6
        exact hbl⟩,by omega,LR [0,1]⟩
    ·have hk:k=(gP (fU s i).1).1.length:=by have h0:=of_decide_eq_false hb;omega
     subst hk
     have hno:=aiK hI.2
     refine bU ?_
     refine sq ?_
     refine Z1 (qK 0 15) ?_
     refine Z1 lr ?_
     refine Z1 mo ?_
     refine Z1 (ca (abS s.tab (gP (fU s i).1).1 (by omega) (fun k=>by have:=hdb k;omega) hf hp)) ?_
     refine Z1 mo ?_
     refine Z1 ex ?_
     refine Z1 ex ?_
     refine Z1 aB ?_
     refine cn ?_
     refine sq ?_
     refine Z1 mo ?_
     refine Z1 aB ?_
     refine cn ?_
     refine aP ?_
     exact ⟨.inl rfl,aF.tmp rfl (aR (show _=jS s i from by unfold jS;rw [if_neg (Classical.not_not.2 h0),if_neg (by rw [h1];decide),if_neg (Classical.not_not.2 h2),if_neg hno])),trivial⟩
theorem aIZ (s:StoryP)(hc:s.code.length≤10000000)(hby:dF s.code)(hel:s.entry.length≤1000000000000000)(hf:s.tab.funcs.length≤140737488355328)(hp:s.tab.params.length≤140737488355328):PC Tryz.prog 9 [cX s] (.tup [vi (gV s).1,vi (gV s).2]):=by
 refine FC.body 2 59 Tryz.func9 rfl (by kernel_rfl) ?_
 refine sq ?_
 refine Z1 bx ?_
 refine Z1 aB ?_
 refine Z1 aB ?_
 refine cn ?_
 refine sq ?_
 refine Z1 (fa 15) ?_
 refine Z1 ld ?_
 refine Z1 ln ?_
 refine Z1 aB ?_
 refine cn ?_
 refine aD ?_
 refine sq ?_
 refine Z1 mo ?_
 refine Z1 (qK 0 15) ?_
 refine Z1 (fa 13) ?_
 refine Z1 ld ?_
 refine Z1 ln ?_
 refine Z1 bz ?_
 refine Z1 mo ?_
 refine Z4 (fun hC=>mo) ?_
 refine Z4 (fun hC=>qK 0 15) ?_
 refine Z4 (fun hC=>fa 14) ?_
 refine Z4 (fun hC=>ld) ?_
 refine Z4 (fun hC=>ln) ?_
 refine Z4 (fun hC=>bz) ?_
 refine Z1 cC ?_
 refine Z1 mo ?_
 refine Z4 (fun hC=>mo) ?_
 refine Z4 (fun hC=>bz) ?_
 refine Z4 (fun hC=>mo) ?_
 refine Z4 (fun hC=>fa 15) ?_
 refine Z4 (fun hC=>ld) ?_
 refine aW (R:=[]) rfl rfl rfl lO (fun hC=>by
  have h0:0<s.entry.length:=by simp at hC;omega
  exact rJ (j:=0) rfl rfl rfl (by kernel_rfl) h0) (fun hC=>⟨(by first|rfl|exact hC|(simp only [Bool.and_eq_true] at hC;first|exact hC.1|exact hC.1.1|exact hC.2)|simp_all),(by first|rfl|exact hC|(simp only [Bool.and_eq_true] at hC;first|exact hC.1|exact hC.1.1|exact hC.2)|simp_all),trivial⟩) trivial ?_
 refine Z4 (fun hC=>ld) ?_
 refine Z4 (fun hC=>bz) ?_
 refine Z5 ?_
 refine Z1 cC ?_
 refine Z1 mo ?_
 refine Z4 (fun hC=>mo) ?_
 refine Z4 (fun hC=>bz) ?_
 refine Z4 (fun hC=>mo) ?_
 refine Z4 (fun hC=>fa 16) ?_
 refine Z4 (fun hC=>ld) ?_
 refine Z4 (fun hC=>ln) ?_
 refine Z4 (fun hC=>bz) ?_
 refine Z5 ?_
 refine Z1 cC ?_
 refine cn ?_
 refine cd (fun hb=>?_) fun hb=>?_
 ·have hv:wC s:=by
   show ((s.entry.length≠s.tab.params.length∨s.entry.length≠s.tab.locals.length)∨0<s.entry.length∧s.entry.getD 0 0≠0)∨s.entry.length=0∧0<s.code.length
   simp only [Bool.or_eq_true,Bool.and_eq_true,bne_iff_ne,ne_eq,beq_iff_eq,decide_eq_true_eq] at hb
   omega
  refine sq ?_
  refine Z1 aB ?_
  refine Z1 aB ?_
  refine cn ?_
  refine aP ?_
  exact ⟨.inl rfl,by rw [show gV s=(-1,7) from if_pos hv];exact aF.two rfl (aT.tmp rfl) (aT.tmp rfl),trivial⟩
 ·have hv:¬ wC s:=by
   show ¬ (((s.entry.length≠s.tab.params.length∨s.entry.length≠s.tab.locals.length)∨0<s.entry.length∧s.entry.getD 0 0≠0)∨s.entry.length=0∧0<s.code.length)
   simp only [Bool.or_eq_false_iff,Bool.and_eq_false_iff,bne_eq_false_iff_eq,beq_eq_false_iff_ne,ne_eq,decide_eq_false_iff_not] at hb
   omega
  refine aQ ?_
  refine aD ?_
  refine sq ?_
  refine Z1 (fa 15) ?_
  refine Z1 ld ?_
  refine Z1 ln ?_
  refine Z1 mo ?_
  refine cn ?_
  refine aU ?_
  refine bM (ι:=Nat) (fun k=>⟨[(1,.ptr (cX s)),(47,vi (s.entry.length:Int)),(48,vi k)],[]⟩) (fun k=>k≤s.entry.length∧pT s (s.entry.length-k) k=pT s s.entry.length 0) (fun k=>s.entry.length-k) 0 (⟨Nat.zero_le _,rfl⟩) (LS) ?_
  intro k hI
  refine sq ?_
  refine Z1 bz ?_
  refine cn ?_
  refine aD ?_
  refine cd (fun hb=>?_) fun hb=>?_
  ·have hk:k<s.entry.length:=by have h0:=of_decide_eq_true hb;omega
   have hst:pT s (s.entry.length-k) k=if jS s k≠0 then ((k:Int),jS s k) else pT s (s.entry.length-(k+1)) (k+1):=by
    rw [show s.entry.length-k=(s.entry.length-(k+1))+1 from by omega]
    show (if _ then _ else _)=_
    rw [if_pos hk]
   refine aQ ?_
   refine aD ?_
   refine aU ?_
   refine sq ?_
   refine Z1 mo ?_
   refine Z1 aB ?_
   refine cn ?_
   refine sq ?_
   refine Z1 lr ?_
   refine Z1 mo ?_
   refine Z1 (ca (aiM s k hc hby hel hf hp)) ?_
   refine Z1 aB ?_
   refine cn ?_
   refine sq ?_
   refine Z1 mo ?_
   refine Z1 bz ?_
   refine cn ?_
   refine cd (fun hb=>?_) fun hb=>?_
   ·have hr:jS s k≠0:=by simpa using hb
    refine sq ?_
    refine Z1 mo ?_
    refine Z1 mo ?_
    refine Z1 aB ?_
    refine Z1 aB ?_
    refine cn ?_
    refine aP ?_
    exact ⟨.inl rfl,by rw [show gV s=((k:Int),jS s k) from by unfold gV;rw [if_neg hv,←hI.2,hst,if_pos hr]];exact aF.two rfl (aT.tmp rfl) (aT.tmp rfl),trivial⟩
   ·have hr:jS s k=0:=by simpa using hb
    refine aQ ?_
    refine tx ?_
    refine Z1 ba ?_
    refine Z1 mo ?_
    refine cn ?_
    exact ⟨k+1,⟨by omega,by rw [←hI.2,hst,if_neg (Classical.not_not.2 hr)]⟩,by omega,LS⟩
  ·have hk:k=s.entry.length:=by have h0:=of_decide_eq_false hb;omega
   have hst:pT s (s.entry.length-k) k=(0,0):=by rw [show s.entry.length-k=0 from by omega];rfl
   refine bU ?_
   refine sq ?_
   refine Z1 aB ?_
   refine Z1 aB ?_
   refine cn ?_
   refine aP ?_
   exact ⟨.inl rfl,by rw [show gV s=(0,0) from by unfold gV;rw [if_neg hv,←hI.2,hst]];exact aF.two rfl (aT.tmp rfl) (aT.tmp rfl),trivial⟩
end Go.Proofs.YtnklgkjfoggpbaaGreatDoor
