/- Parts of the proof of a law of this seat: rules and contracts; no conditions. -/
import Derived.Test.YtgajclaoaphgoaaGreatDoorVa
import Derived.Test.YtgajclaoaphgoaaGreatDoorWireP
import Derived.Test.YtgajclaoaphgoaaGreatDoorPd
import Derived.Test.YtgajclaoaphgoaaGreatDoorProg
import Derived.KernelRfl
set_option maxHeartbeats 6400000
set_option maxRecDepth 100000
set_option linter.unusedVariables false
set_option linter.unusedSimpArgs false
namespace Go.Proofs.YtgajclaoaphgoaaGreatDoor
open Go.RowKit
theorem aBE {Z:Nat→Prop}(l:List Int)(h0:Z 0)(h3:Z 3)(h4:Z 4)(h5:Z 5):aO Z [.ptr (aK l),.own 3 0,.own 4 0,.own 0 0,.own 5 0]:=by
 unfold aO aO aO aO aO aO;exact ⟨aH.of_pure _ (by unfold aN;exact cP l),by unfold aH;exact h3,by unfold aH;exact h4,by unfold aH;exact h0,by unfold aH;exact h5,trivial⟩
theorem aKF {Z:List Nat}(l:List Int)(h0:0∉Z)(h3:3∉Z)(h4:4∉Z)(h5:5∉Z):aE Z (.clo 285 [.ptr (aK l),.own 3 0,.own 4 0,.own 0 0,.own 5 0]):=by
 unfold aE dL dL dL dL dL dL;exact ⟨aE.of_pure _ (by unfold aN;exact cP l),by unfold aE;exact h3,by unfold aE;exact h4,by unfold aE;exact h0,by unfold aE;exact h5,trivial⟩
theorem aKG (l:List Int):(Av.clo 285 [.ptr (aK l),.own 3 0,.own 4 0,.own 0 0,.own 5 0])=(Av.clo 285 [.ptr (aK l),.own 3 0,.own 4 0,.own 0 0,.own 5 0]).ren (fI 1 2):=by
 simp only [Av.ren,mY];rw [iR _ _ (cP l)];rfl
theorem aKH (l:List Int):(Av.ptr (aK l))=(Av.ptr (aK l)).ren (fI 1 2):=(iR _ _ (by unfold aN;exact cP l)).symm
theorem aOV {l:List Int}{ab:List ByteArray}{f row at_:Nat}{out:ByteArray}(h:¬ at_<l.length)(hf:f≠0):unF l ab f row at_ out=rL out (segT l row l.length) (segE l row l.length):=by
 obtain ⟨g,rfl⟩:∃ g,f=g+1:=⟨f-1,by omega⟩
 unfold unF;rw [if_neg h]
theorem vV {l:List Int}{ab:List ByteArray}{f row at_:Nat}{out:ByteArray}(h:at_<l.length):unF l ab (f+1) row at_ out=(if l.length-at_<eS (l.getD at_ 0) then (ByteArray.empty,if segE l row l.length=0 then 16 else segE l row l.length)
 else if l.getD at_ 0≠30 then unF l ab f row (at_+eS (l.getD at_ 0)) out
 else if segE l row at_≠0 then (ByteArray.empty,segE l row at_)
 else if l.getD (at_+1) 0≥(ab.length:Int) then (ByteArray.empty,11)
 else unF l ab f (at_+2) (at_+2) ((out++segT l row at_)++ab.getD (l.getD (at_+1) 0).toNat ByteArray.empty)):=by
 show (if _ then _ else _)=_;rw [if_pos h]
theorem ag6 {s:ByteArray}(h:s.size=0):s=ByteArray.empty:=by
 have hl:s.data.toList.length=0:=by rw [Array.length_toList];exact h
 exact ByteArray.ext (Array.toList_inj.1 (List.eq_nil_of_length_eq_zero hl))
theorem aZO (l:List Int)(hl:l.length≤10000)(hpos:∀ k,0≤l.getD k 0)(ab:List ByteArray)(hab:∀ k,(ab.getD k ByteArray.empty).size≤5000)(habl:ab.length≤1000000):PC Tryz.prog 258 [aK l,bB ab] (.tup [vs (unpackedP l ab).1,vi (unpackedP l ab).2]):=by
 refine FB 6 85 Tryz.func258 ?_;refine sq ?_;refine Z1 (aCA (x:=.sl _ _ _) rfl rfl) ?_;refine Z1 aB ?_;refine Z1 aB ?_;refine cn ?_;refine af2 ?_;refine sq ?_;refine Z2 (al 0 [.pointer none,.slice none 0 0]) ?_;refine cn ?_;refine sq ?_;refine Z1 aB ?_;refine cn ?_;refine sq ?_;refine Z2 (al 3 [.int .i64 0]) ?_;refine Z2 (al 4 [.int .i64 0]) ?_;refine cF [_] ?_;refine cF [_] ?_;refine cn ?_;refine sq ?_;refine Z2 (al 5 [.int .i64 0]) ?_;refine cF [_] ?_;refine cn ?_;refine sq ?_;refine Z1 (qC (cs:=[.ptr _,.own _ _,.own _ _,.own _ _,.own _ _]) rfl rfl) ?_;refine Z1 aB ?_
 refine cn ?_;refine aD ?_;refine af3 ?_
 refine ag7 (ι:=UnJ) (fun q=>⟨[(6,.own 0 0),(10,.own 5 0),(11,.clo 285 [.ptr (aK l),.own 3 0,.own 4 0,.own 0 0,.own 5 0])],[(0,.live 275 [oB q.1,.osl 1 1 q.2.2.2.1.size]),(1,.live 5 (dP q.2.2.2.1)),(3,.live 3 [vi (q.2.1:Int)]),(4,.live 3 [vi (q.2.2.1:Int)]),(5,.live 34 [vi q.2.2.2.2]),(2,.unborn)]⟩) (fun q=>(q.2.2.2.2≠0∧unpackedP l ab=(ByteArray.empty,q.2.2.2.2))∨(q.2.2.2.2=0∧q.2.2.1≤l.length∧q.2.1≤q.2.2.1∧q.2.2.2.1.size≤5001*q.2.1∧unpackedP l ab=rL q.2.2.2.1 (segT l q.2.1 q.2.2.1) (segE l q.2.1 q.2.2.1))) ?_ (fun q hJ=>?_)
 ·refine G ?_;refine bS (Le.nameNilCell 0 1 1 1 5 rfl rfl rfl (by decide)) ?_
  refine bM (ι:=ag2) (fun q=>⟨[(1,bB ab),(2,.ptr (aK l)),(6,.own 0 0),(7,.clo 284 []),(8,.own 3 0),(9,.own 4 0),(10,.own 5 0),(11,.clo 285 [.ptr (aK l),.own 3 0,.own 4 0,.own 0 0,.own 5 0])],[(0,.live 275 [oB q.1,.osl 1 1 q.2.2.2.size]),(1,.live 5 (dP q.2.2.2)),(3,.live 3 [vi (q.2.1:Int)]),(4,.live 3 [vi (q.2.2.1:Int)]),(5,.live 34 [vi 0]),(2,.unborn)]⟩) (fun q=>q.2.1≤q.2.2.1∧q.2.2.1≤l.length∧q.2.2.2.size≤5001*q.2.1∧∃ f,l.length<f+q.2.2.1∧unpackedP l ab=unF l ab f q.2.1 q.2.2.1 q.2.2.2) (fun q=>l.length-q.2.2.1) (false,0,0,ByteArray.empty) (⟨Nat.le_refl _,Nat.zero_le _,Nat.zero_le _,l.length+1,by show _<_+0;omega,rfl⟩) (Le.sub ⟨.inr rfl,.inr rfl,.inr rfl,.inr rfl,.inr rfl,.inr rfl,.inr rfl,.inr rfl,trivial⟩ ⟨rfl,rfl,rfl,rfl,rfl,rfl,trivial⟩) ?_
  intro q hI;obtain ⟨h1,h2,h3,f,hf,hun⟩:=hI;refine Gd (fun hb=>?_) fun hb=>?_
  ·have hlt:q.2.2.1<l.length:=by have h0:=of_decide_eq_true hb;omega
   obtain ⟨f,rfl⟩:∃ g,f=g+1:=⟨f-1,by omega⟩
   have hwb:=aOU (l.getD q.2.2.1 0);refine G ?_;refine Z1 (kW rfl rfl (by kernel_rfl) (ag4 (l.getD q.2.2.1 0)) rfl (by simp only [bE,aN,and_self,cP,bV,oJ,qD,sQ,oP,implies_true]) (by simp only [bE,aN,and_self,cP,bV,oJ,qD,sQ,oP,implies_true])) ?_;refine Gd (fun hb=>?_) fun hb=>?_
   ·have hgt:l.length-q.2.2.1<eS (l.getD q.2.2.1 0):=by have h0:=of_decide_eq_true hb;omega
    have hts:=aEZ l (i:=q.2.1) (j:=l.length) (by omega) (Nat.le_refl _);refine G ?_;refine aZ rfl rfl (oI [2] rfl rfl (by kernel_rfl) (aBD q.1 l q.2.1 l.length 0 q.2.2.2 (by omega) (by omega) (Nat.le_refl _) (by omega)) rfl (by simp) (by simp [bQ]) (by simp) (by simp) (aBE l (by simp) (by simp) (by simp) (by simp)) ⟨by unfold oB;cases q.1<;>simp [bJ,aO,aH],by simp [bJ,aO,aH],by simp [bJ,aO,aH],by simp [bJ,aO,aH],jX _,trivial⟩ (by simp [aH]) ⟨by simp [bJ,aO,aH],by simp [bJ,aO,aH],by simp [bJ,aO,aH],by simp [bJ,aO,aH],jX _,trivial⟩) ⟨rfl,rfl,rfl,rfl,rfl,rfl,trivial⟩ ?_;refine G ?_
    refine bS (Le.trans (Le.swap (τ:=⟨[(1,bB ab),(2,.ptr (aK l)),(6,.own 0 0),(7,.clo 284 []),(8,.own 3 0),(9,.own 4 0),(10,.own 5 0),(11,.clo 285 [.ptr (aK l),.own 3 0,.own 4 0,.own 0 0,.own 5 0]),(34,vb ((segE l q.2.1 l.length)==0))],[(0,.live 275 [.own 0 0,.osl 1 1 (q.2.2.2++segT l q.2.1 l.length).size]),(1,.live 5 (dP (q.2.2.2++segT l q.2.1 l.length))),(3,.live 3 [vi (q.2.1:Int)]),(4,.live 3 [vi (l.length:Int)]),(5,.live 34 [vi (segE l q.2.1 l.length)])]⟩) 1 2 (by simp) (by simp) ⟨(iR _ _ (bV _)).symm,aKH l,rfl,rfl,rfl,rfl,rfl,aKG l,rfl,trivial⟩ ⟨rfl,by show aL _ 2=some (Hs.live _ ((dP (q.2.2.2++segT l q.2.1 l.length)).map _));rw [aFV];rfl,rfl,rfl,rfl,trivial⟩) (Le.reset (τ:=⟨[(1,bB ab),(2,.ptr (aK l)),(6,.own 0 0),(7,.clo 284 []),(8,.own 3 0),(9,.own 4 0),(10,.own 5 0),(11,.clo 285 [.ptr (aK l),.own 3 0,.own 4 0,.own 0 0,.own 5 0]),(34,vb ((segE l q.2.1 l.length)==0))],[(0,.live 275 [.own 0 0,.osl 1 1 (q.2.2.2++segT l q.2.1 l.length).size]),(1,.live 5 (dP (q.2.2.2++segT l q.2.1 l.length))),(3,.live 3 [vi (q.2.1:Int)]),(4,.live 3 [vi (l.length:Int)]),(5,.live 34 [vi (segE l q.2.1 l.length)]),(2,.unborn)]⟩) [2] (by simp) ⟨.inr rfl,.inr rfl,.inr rfl,.inr rfl,.inr rfl,.inr rfl,.inr rfl,.inr rfl,.inr rfl,trivial⟩ ⟨aE.of_pure _ (bV _),aE.of_pure _ (by unfold aN;exact cP l),by simp [aE],by simp [aE,dL],by simp [aE],by simp [aE],by simp [aE],aKF l (by simp) (by simp) (by simp) (by simp),by simp [aE],trivial⟩ ⟨by rw [if_neg (by decide)];exact ⟨rfl,by simp [aE]⟩,by rw [if_neg (by decide)];exact ⟨rfl,aFW _⟩,by rw [if_neg (by decide)];exact ⟨rfl,by simp [aE]⟩,by rw [if_neg (by decide)];exact ⟨rfl,by simp [aE]⟩,by rw [if_neg (by decide)];exact ⟨rfl,by simp [aE]⟩,by rw [if_pos (by decide)],trivial⟩)) ?_
    refine cd (fun hb=>?_) fun hb=>?_
    ·have he0:(segE l q.2.1 l.length)=0:=by simpa using hb
     refine G ?_;exact ⟨(true,q.2.1,l.length,q.2.2.2++segT l q.2.1 l.length,16),.inl ⟨by show (16:Int)≠0;decide,by rw [hun,vV hlt,if_pos hgt,if_pos he0]⟩,Le.sub ⟨.inr rfl,.inr rfl,.inr rfl,trivial⟩ ⟨rfl,rfl,rfl,rfl,rfl,rfl,trivial⟩⟩
    have he0:(segE l q.2.1 l.length)≠0:=by simpa using hb
    refine G ?_;exact ⟨(true,q.2.1,l.length,q.2.2.2++segT l q.2.1 l.length,(segE l q.2.1 l.length)),.inl ⟨he0,by rw [hun,vV hlt,if_pos hgt,if_neg he0]⟩,Le.sub ⟨.inr rfl,.inr rfl,.inr rfl,trivial⟩ ⟨rfl,rfl,rfl,rfl,rfl,rfl,trivial⟩⟩
   have hgt:¬ l.length-q.2.2.1<eS (l.getD q.2.2.1 0):=by have h0:=of_decide_eq_false hb;omega
   refine Gd (fun hb=>?_) fun hb=>?_
   ·have h30:(l.getD q.2.2.1 0)≠30:=by simpa using hb
    refine G ?_;exact ⟨(q.1,q.2.1,q.2.2.1+eS (l.getD q.2.2.1 0),q.2.2.2),⟨by show q.2.1≤q.2.2.1+_;omega,by show q.2.2.1+_≤_;omega,h3,f,by show _<f+(q.2.2.1+_);omega,by rw [hun,vV hlt,if_neg hgt,if_pos h30]⟩,by show l.length-(q.2.2.1+_)<_;omega,Le.sub ⟨.inr rfl,.inr rfl,.inr rfl,.inr rfl,.inr rfl,.inr rfl,.inr rfl,.inr rfl,trivial⟩ ⟨rfl,rfl,rfl,by show _=some (Hs.live _ [vi ((q.2.2.1+eS (l.getD q.2.2.1 0):Nat):Int)]);rw [Int.natCast_add];rfl,rfl,rfl,trivial⟩⟩
   have h30:(l.getD q.2.2.1 0)=30:=by simpa using hb
   have hw2:((eS (l.getD q.2.2.1 0):Nat):Int)=2:=by rw [h30];rfl
   have hw2n:eS (l.getD q.2.2.1 0)=2:=by rw [h30];rfl
   have hat2:(q.2.2.1:Int)+(eS (l.getD q.2.2.1 0):Int)=((q.2.2.1+2:Nat):Int):=by omega
   have hts:=aEZ l (i:=q.2.1) (j:=q.2.2.1) h1 h2;refine G ?_;refine aZ rfl rfl (oI [2] rfl rfl (by kernel_rfl) (aBD q.1 l q.2.1 q.2.2.1 0 q.2.2.2 (by omega) h1 h2 (by omega)) rfl (by simp) (by simp [bQ]) (by simp) (by simp) (aBE l (by simp) (by simp) (by simp) (by simp)) ⟨by unfold oB;cases q.1<;>simp [bJ,aO,aH],by simp [bJ,aO,aH],by simp [bJ,aO,aH],by simp [bJ,aO,aH],jX _,trivial⟩ (by simp [aH]) ⟨by simp [bJ,aO,aH],by simp [bJ,aO,aH],by simp [bJ,aO,aH],by simp [bJ,aO,aH],jX _,trivial⟩) ⟨rfl,rfl,rfl,rfl,rfl,rfl,trivial⟩ ?_;refine G ?_
   refine bS (Le.trans (Le.swap (τ:=⟨[(1,bB ab),(2,.ptr (aK l)),(6,.own 0 0),(7,.clo 284 []),(8,.own 3 0),(9,.own 4 0),(10,.own 5 0),(11,.clo 285 [.ptr (aK l),.own 3 0,.own 4 0,.own 0 0,.own 5 0]),(12,vi (eS (l.getD q.2.2.1 0):Int)),(44,vb (!((segE l q.2.1 q.2.2.1)==0)))],[(0,.live 275 [.own 0 0,.osl 1 1 (q.2.2.2++segT l q.2.1 q.2.2.1).size]),(1,.live 5 (dP (q.2.2.2++segT l q.2.1 q.2.2.1))),(3,.live 3 [vi (q.2.1:Int)]),(4,.live 3 [vi (q.2.2.1:Int)]),(5,.live 34 [vi (segE l q.2.1 q.2.2.1)])]⟩) 1 2 (by simp) (by simp) ⟨(iR _ _ (bV _)).symm,aKH l,rfl,rfl,rfl,rfl,rfl,aKG l,rfl,rfl,trivial⟩ ⟨rfl,by show aL _ 2=some (Hs.live _ ((dP (q.2.2.2++segT l q.2.1 q.2.2.1)).map _));rw [aFV];rfl,rfl,rfl,rfl,trivial⟩) (Le.reset (τ:=⟨[(1,bB ab),(2,.ptr (aK l)),(6,.own 0 0),(7,.clo 284 []),(8,.own 3 0),(9,.own 4 0),(10,.own 5 0),(11,.clo 285 [.ptr (aK l),.own 3 0,.own 4 0,.own 0 0,.own 5 0]),(12,vi (eS (l.getD q.2.2.1 0):Int)),(44,vb (!((segE l q.2.1 q.2.2.1)==0)))],[(0,.live 275 [.own 0 0,.osl 1 1 (q.2.2.2++segT l q.2.1 q.2.2.1).size]),(1,.live 5 (dP (q.2.2.2++segT l q.2.1 q.2.2.1))),(3,.live 3 [vi (q.2.1:Int)]),(4,.live 3 [vi (q.2.2.1:Int)]),(5,.live 34 [vi (segE l q.2.1 q.2.2.1)]),(2,.unborn)]⟩) [2] (by simp) ⟨.inr rfl,.inr rfl,.inr rfl,.inr rfl,.inr rfl,.inr rfl,.inr rfl,.inr rfl,.inr rfl,.inr rfl,trivial⟩ ⟨aE.of_pure _ (bV _),aE.of_pure _ (by unfold aN;exact cP l),by simp [aE],by simp [aE,dL],by simp [aE],by simp [aE],by simp [aE],aKF l (by simp) (by simp) (by simp) (by simp),by simp [aE],by simp [aE],trivial⟩ ⟨by rw [if_neg (by decide)];exact ⟨rfl,by simp [aE]⟩,by rw [if_neg (by decide)];exact ⟨rfl,aFW _⟩,by rw [if_neg (by decide)];exact ⟨rfl,by simp [aE]⟩,by rw [if_neg (by decide)];exact ⟨rfl,by simp [aE]⟩,by rw [if_neg (by decide)];exact ⟨rfl,by simp [aE]⟩,by rw [if_pos (by decide)],trivial⟩)) ?_
   refine cd (fun hb=>?_) fun hb=>?_
   ·have he0:(segE l q.2.1 q.2.2.1)≠0:=by simpa using hb
    refine G ?_;exact ⟨(true,q.2.1,q.2.2.1,q.2.2.2++segT l q.2.1 q.2.2.1,(segE l q.2.1 q.2.2.1)),.inl ⟨he0,by rw [hun,vV hlt,if_neg hgt,if_neg (fun hc=>hc h30),if_pos he0]⟩,Le.sub ⟨.inr rfl,.inr rfl,.inr rfl,trivial⟩ ⟨rfl,rfl,rfl,rfl,rfl,rfl,trivial⟩⟩
   have he0:(segE l q.2.1 q.2.2.1)=0:=by simpa using hb
   refine Gd (fun hb=>?_) fun hb=>?_
   ·have hab1:(l.getD (q.2.2.1+1) 0)≥(ab.length:Int):=of_decide_eq_true hb;refine G ?_;exact ⟨(true,q.2.1,q.2.2.1,q.2.2.2++segT l q.2.1 q.2.2.1,11),.inl ⟨by show (11:Int)≠0;decide,by rw [hun,vV hlt,if_neg hgt,if_neg (fun hc=>hc h30),if_neg (fun hc=>hc he0),if_pos hab1]⟩,Le.sub ⟨.inr rfl,.inr rfl,.inr rfl,trivial⟩ ⟨rfl,rfl,rfl,rfl,rfl,rfl,trivial⟩⟩
   have hab1:¬ (l.getD (q.2.2.1+1) 0)≥(ab.length:Int):=of_decide_eq_false hb;have hp1:=hpos (q.2.2.1+1);have hasz:=hab (l.getD (q.2.2.1+1) 0).toNat;refine aQ ?_;refine sq ?_;refine Z1 mo ?_;refine Z1 ld ?_;refine bG ?_;refine Z1 ba ?_;refine Z1 (mM (j:=q.2.2.1+1) rfl rfl rfl (by kernel_rfl) (by omega) (by omega) (by omega)) ?_;refine Z1 ld ?_;refine Z1 (mM (j:=(l.getD (q.2.2.1+1) 0).toNat) rfl rfl rfl (by kernel_rfl) (by omega) (by omega) rfl) ?_;refine Z1 ld ?_
   refine aZ rfl rfl (dB [2] rfl (by kernel_rfl) (aL1 true (q.2.2.2++segT l q.2.1 q.2.2.1) (ab.getD (l.getD (q.2.2.1+1) 0).toNat ByteArray.empty) (by rw [ByteArray.size_append];omega)) rfl (by simp) (by simp [bQ]) (by simp) (by simp) (by simp [aO,aH]) ⟨by simp [oB,bJ,aO,aH],jX _,trivial⟩ (by simp [aH,aO]) ⟨by simp [bJ,aO,aH],jX _,trivial⟩) ⟨rfl,rfl,rfl,trivial⟩ ?_;refine cn ?_
   refine bS (Le.trans (Le.swap (τ:=⟨[(1,bB ab),(2,.ptr (aK l)),(6,.own 0 0),(7,.clo 284 []),(8,.own 3 0),(9,.own 4 0),(10,.own 5 0),(11,.clo 285 [.ptr (aK l),.own 3 0,.own 4 0,.own 0 0,.own 5 0]),(12,vi (eS (l.getD q.2.2.1 0):Int))],[(0,.live 275 [.own 0 0,.osl 1 1 (((q.2.2.2++segT l q.2.1 q.2.2.1)++ab.getD (l.getD (q.2.2.1+1) 0).toNat ByteArray.empty)).size]),(1,.live 5 (dP (((q.2.2.2++segT l q.2.1 q.2.2.1)++ab.getD (l.getD (q.2.2.1+1) 0).toNat ByteArray.empty)))),(3,.live 3 [vi (q.2.1:Int)]),(4,.live 3 [vi (q.2.2.1:Int)]),(5,.live 34 [vi (segE l q.2.1 q.2.2.1)])]⟩) 1 2 (by simp) (by simp) ⟨(iR _ _ (bV _)).symm,aKH l,rfl,rfl,rfl,rfl,rfl,aKG l,rfl,trivial⟩ ⟨rfl,by show aL _ 2=some (Hs.live _ ((dP (((q.2.2.2++segT l q.2.1 q.2.2.1)++ab.getD (l.getD (q.2.2.1+1) 0).toNat ByteArray.empty))).map _));rw [aFV];rfl,rfl,rfl,rfl,trivial⟩) (Le.reset (τ:=⟨[(1,bB ab),(2,.ptr (aK l)),(6,.own 0 0),(7,.clo 284 []),(8,.own 3 0),(9,.own 4 0),(10,.own 5 0),(11,.clo 285 [.ptr (aK l),.own 3 0,.own 4 0,.own 0 0,.own 5 0]),(12,vi (eS (l.getD q.2.2.1 0):Int))],[(0,.live 275 [.own 0 0,.osl 1 1 (((q.2.2.2++segT l q.2.1 q.2.2.1)++ab.getD (l.getD (q.2.2.1+1) 0).toNat ByteArray.empty)).size]),(1,.live 5 (dP (((q.2.2.2++segT l q.2.1 q.2.2.1)++ab.getD (l.getD (q.2.2.1+1) 0).toNat ByteArray.empty)))),(3,.live 3 [vi (q.2.1:Int)]),(4,.live 3 [vi (q.2.2.1:Int)]),(5,.live 34 [vi (segE l q.2.1 q.2.2.1)]),(2,.unborn)]⟩) [2] (by simp) ⟨.inr rfl,.inr rfl,.inr rfl,.inr rfl,.inr rfl,.inr rfl,.inr rfl,.inr rfl,.inr rfl,trivial⟩ ⟨aE.of_pure _ (bV _),aE.of_pure _ (by unfold aN;exact cP l),by simp [aE],by simp [aE,dL],by simp [aE],by simp [aE],by simp [aE],aKF l (by simp) (by simp) (by simp) (by simp),by simp [aE],trivial⟩ ⟨by rw [if_neg (by decide)];exact ⟨rfl,by simp [aE]⟩,by rw [if_neg (by decide)];exact ⟨rfl,aFW _⟩,by rw [if_neg (by decide)];exact ⟨rfl,by simp [aE]⟩,by rw [if_neg (by decide)];exact ⟨rfl,by simp [aE]⟩,by rw [if_neg (by decide)];exact ⟨rfl,by simp [aE]⟩,by rw [if_pos (by decide)],trivial⟩)) ?_
   refine G ?_
   exact ⟨(true,q.2.2.1+2,q.2.2.1+2,((q.2.2.2++segT l q.2.1 q.2.2.1)++ab.getD (l.getD (q.2.2.1+1) 0).toNat ByteArray.empty)),⟨Nat.le_refl _,by show q.2.2.1+2≤_;omega,by show (((q.2.2.2++segT l q.2.1 q.2.2.1)++ab.getD (l.getD (q.2.2.1+1) 0).toNat ByteArray.empty)).size≤5001*(q.2.2.1+2);rw [ByteArray.size_append,ByteArray.size_append];omega,f,by show _<f+(q.2.2.1+2);omega,by rw [hun,vV hlt,if_neg hgt,if_neg (fun hc=>hc h30),if_neg (fun hc=>hc he0),if_neg hab1]⟩,by show l.length-(q.2.2.1+2)<_;omega,Le.sub ⟨.inr rfl,.inr rfl,.inr rfl,.inr rfl,.inr rfl,.inr rfl,.inr rfl,.inr rfl,trivial⟩ ⟨rfl,rfl,congrArg (fun z:Int=>some (Hs.live 3 [vi z])) hat2,congrArg (fun z:Int=>some (Hs.live 3 [vi z])) hat2,by rw [←he0];rfl,rfl,trivial⟩⟩
  have hge:q.2.2.1=l.length:=by have h0:=of_decide_eq_false hb;omega
  refine G ?_;exact ⟨(q.1,q.2.1,q.2.2.1,q.2.2.2,0),.inr ⟨rfl,h2,h1,h3,by rw [hun,aOV (by omega) (by omega),hge]⟩,Le.sub ⟨.inr rfl,.inr rfl,.inr rfl,trivial⟩ ⟨rfl,rfl,rfl,rfl,rfl,rfl,trivial⟩⟩
 refine aD ?_;refine aD ?_
 have hJ4:(q.2.2.2.2≠0∧unpackedP l ab=(ByteArray.empty,q.2.2.2.2))∨(q.2.2.2.2=0∧(segE l q.2.1 q.2.2.1)≠0∧q.2.2.1≤l.length∧q.2.1≤q.2.2.1∧q.2.2.2.1.size≤5001*q.2.1∧unpackedP l ab=(ByteArray.empty,(segE l q.2.1 q.2.2.1)))∨(q.2.2.2.2=0∧(segE l q.2.1 q.2.2.1)=0∧q.2.2.1≤l.length∧q.2.1≤q.2.2.1∧q.2.2.2.1.size≤5001*q.2.1∧(¬ cN (tB (q.2.2.2.1++(segT l q.2.1 q.2.2.1)))=true→unpackedP l ab=(ByteArray.empty,13))∧(cN (tB (q.2.2.2.1++(segT l q.2.1 q.2.2.1)))=true→unpackedP l ab=((q.2.2.2.1++(segT l q.2.1 q.2.2.1)),0))∧(q.2.2.2.1++(segT l q.2.1 q.2.2.1)).size=0)∨(q.2.2.2.2=0∧(segE l q.2.1 q.2.2.1)=0∧q.2.2.1≤l.length∧q.2.1≤q.2.2.1∧q.2.2.2.1.size≤5001*q.2.1∧(¬ cN (tB (q.2.2.2.1++(segT l q.2.1 q.2.2.1)))=true→unpackedP l ab=(ByteArray.empty,13))∧(cN (tB (q.2.2.2.1++(segT l q.2.1 q.2.2.1)))=true→unpackedP l ab=((q.2.2.2.1++(segT l q.2.1 q.2.2.1)),0))∧0<(q.2.2.2.1++(segT l q.2.1 q.2.2.1)).size):=by
  rcases hJ with h|⟨g1,g2,g3,g4,g5⟩
  ·exact .inl h
  refine .inr ?_;by_cases he:(segE l q.2.1 q.2.2.1)=0
  ·refine .inr ?_;unfold rL at g5;rw [if_neg (fun hc=>hc he)] at g5;rcases Nat.eq_zero_or_pos (q.2.2.2.1++(segT l q.2.1 q.2.2.1)).size with hz|hz
   ·exact .inl ⟨g1,he,g2,g3,g4,fun hn=>by rw [g5,if_neg hn],fun hy=>by rw [g5,if_pos hy],hz⟩
   exact .inr ⟨g1,he,g2,g3,g4,fun hn=>by rw [g5,if_neg hn],fun hy=>by rw [g5,if_pos hy],hz⟩
  exact .inl ⟨g1,he,g2,g3,g4,by rw [g5];unfold rL;rw [if_pos he]⟩
 have hts:q.2.1≤q.2.2.1→q.2.2.1≤l.length→(segT l q.2.1 q.2.2.1).size≤q.2.2.1-q.2.1:=fun a b=>aEZ l a b;rcases hJ4 with ⟨hw,hres⟩|⟨hw,he,hat,hrow,hsz,hres⟩|⟨hw,he,hat,hrow,hsz,hres,hres2,hz0⟩|⟨hw,he,hat,hrow,hsz,hres,hres2,hz0⟩
 ·refine tx ?_;refine bG ?_;refine Z1 (OC.cast bz (show vb (q.2.2.2.2==0)=vb false from by simp [hw])) ?_;refine Z1 mo ?_;refine uU rfl rfl rfl rfl ?_;refine uU rfl rfl rfl rfl ?_;refine Z1 (aKI rfl rfl rfl) ?_;refine G ?_;refine uU rfl rfl rfl rfl ?_;refine uU rfl rfl rfl rfl ?_;refine uU rfl rfl rfl rfl ?_;refine Z1 (aKI rfl rfl rfl) ?_;refine cn ?_;refine cd (fun hb=>?_) fun hb=>?_
  ·exact absurd hb (by decide)
  refine aQ ?_;refine aD ?_;refine sq ?_;refine bG ?_;refine Z1 bz ?_;refine cn ?_;refine cd (fun hb=>?_) fun hb=>?_
  ·refine G ?_;exact ⟨.inl rfl,by rw [hres,zK];exact aF.two rfl (aT.tmp rfl) (aT.tmp rfl),trivial⟩
  exact absurd hb (by (simp [hw]))
 ·refine tx ?_;refine bG ?_;refine Z1 (OC.cast bz (show vb (q.2.2.2.2==0)=vb true from by simp [hw])) ?_;refine Z1 mo ?_;refine pY (R:=[]) (U:=[]) rfl rfl rfl rfl (oM (x:=.clo _ _) rfl rfl) trivial ?_
  refine pY rfl rfl rfl rfl (OC.cast (oI [2] rfl rfl (by kernel_rfl) (aBD q.1 l q.2.1 q.2.2.1 q.2.2.2.2 q.2.2.2.1 (by omega) hrow hat (by omega)) rfl (by simp) (by simp [bQ]) (by simp) (by simp) (aBE l (by simp) (by simp) (by simp) (by simp)) ⟨by unfold oB;cases q.1<;>simp [bJ,aO,aH],by simp [bJ,aO,aH],by simp [bJ,aO,aH],by simp [bJ,aO,aH],jX _,trivial⟩ (by simp [aH]) ⟨by simp [bJ,aO,aH],by simp [bJ,aO,aH],by simp [bJ,aO,aH],by simp [bJ,aO,aH],jX _,trivial⟩) (show vb ((segE l q.2.1 q.2.2.1)==0)=vb false from by simp [he])) ⟨rfl,rfl,rfl,rfl,rfl,rfl,trivial⟩ ?_;refine Z1 (aBF rfl rfl rfl) ?_
  refine G ?_;refine uU rfl rfl rfl rfl ?_;refine uU rfl rfl rfl rfl ?_;refine uU rfl rfl rfl rfl ?_;refine Z1 (aKI rfl rfl rfl) ?_;refine cn ?_;refine cd (fun hb=>?_) fun hb=>?_
  ·exact absurd hb (by decide)
  refine aQ ?_;refine aD ?_;refine sq ?_;refine bG ?_;refine Z1 bz ?_;refine cn ?_;refine cd (fun hb=>?_) fun hb=>?_
  ·refine G ?_;exact ⟨.inl rfl,by rw [hres,zK];exact aF.two rfl (aT.tmp rfl) (aT.tmp rfl),trivial⟩
  exact absurd hb (by (simp [he]))
 ·have hts2:=hts hrow hat;have hem1:FC Tryz.prog 288 [.own 0 0] [(0,.live 275 [.own 0 0,.osl 1 2 (q.2.2.2.1++(segT l q.2.1 q.2.2.1)).size]),(2,.live 5 (dP (q.2.2.2.1++(segT l q.2.1 q.2.2.1))))] (vs (q.2.2.2.1++(segT l q.2.1 q.2.2.1))) [(0,.live 275 [.own 0 0,.osl 1 2 (q.2.2.2.1++(segT l q.2.1 q.2.2.1)).size]),(2,.live 5 (dP (q.2.2.2.1++(segT l q.2.1 q.2.2.1))))]:=by
   rw [ag6 hz0];exact fun E vs hG hA hR hB hU=>agZ (.own 0 0) E vs hG hA (by simpa using hR) hB (by simpa using hU)
  refine tx ?_;refine bG ?_;refine Z1 (OC.cast bz (show vb (q.2.2.2.2==0)=vb true from by simp [hw])) ?_;refine Z1 mo ?_;refine pY (R:=[]) (U:=[]) rfl rfl rfl rfl (oM (x:=.clo _ _) rfl rfl) trivial ?_
  refine pY rfl rfl rfl rfl (OC.cast (oI [2] rfl rfl (by kernel_rfl) (aBD q.1 l q.2.1 q.2.2.1 q.2.2.2.2 q.2.2.2.1 (by omega) hrow hat (by omega)) rfl (by simp) (by simp [bQ]) (by simp) (by simp) (aBE l (by simp) (by simp) (by simp) (by simp)) ⟨by unfold oB;cases q.1<;>simp [bJ,aO,aH],by simp [bJ,aO,aH],by simp [bJ,aO,aH],by simp [bJ,aO,aH],jX _,trivial⟩ (by simp [aH]) ⟨by simp [bJ,aO,aH],by simp [bJ,aO,aH],by simp [bJ,aO,aH],by simp [bJ,aO,aH],jX _,trivial⟩) (show vb ((segE l q.2.1 q.2.2.1)==0)=vb true from by simp [he])) ⟨rfl,rfl,rfl,rfl,rfl,rfl,trivial⟩ ?_;refine Z1 (aBF rfl rfl rfl) ?_
  refine G ?_;refine pY rfl rfl rfl rfl (dB [] rfl (by kernel_rfl) (FC.m hem1) rfl (by simp) (by simp [bQ]) (by simp) (by simp) (by simp [aO,aH]) ⟨by simp [bJ,aO,aH],jX _,trivial⟩ (by simp [aH,aO]) ⟨by simp [bJ,aO,aH],jX _,trivial⟩) ⟨rfl,rfl,trivial⟩ ?_;refine pY (R:=[]) (U:=[]) rfl rfl rfl rfl (jP rfl (by kernel_rfl) (aIM (q.2.2.2.1++(segT l q.2.1 q.2.2.1)) (by rw [ByteArray.size_append];omega)) rfl (by simp only [bE,aN,and_self,cP,bV,oJ,qD,sQ,oP,implies_true]) (by simp only [bE,aN,and_self,cP,bV,oJ,qD,sQ,oP,implies_true])) trivial ?_
  refine pY (R:=[]) (U:=[]) rfl rfl rfl rfl (aJF rfl rfl) trivial ?_;refine Z1 (aBF rfl rfl rfl) ?_;refine Gd (fun hb=>?_) fun hb=>?_
  ·have hit:cN (tB (q.2.2.2.1++(segT l q.2.1 q.2.2.1)))=false:=by simpa using hb
   refine tx ?_;refine cF [_] ?_;refine cn ?_;refine aD ?_;refine sq ?_;refine bG ?_;refine Z1 bz ?_;refine cn ?_;refine cd (fun hb=>?_) fun hb=>?_
   ·refine G ?_;exact ⟨.inl rfl,by rw [hres (by rw [hit];decide)];rw [zK];exact aF.two rfl (aT.tmp rfl) (aT.tmp rfl),trivial⟩
   exact absurd hb (by decide)
  have hit:cN (tB (q.2.2.2.1++(segT l q.2.1 q.2.2.1)))=true:=by simpa using hb
  refine Gd (fun hb=>?_) fun hb=>?_
  ·exact absurd hb (by (simp [he]))
  refine G ?_;refine aZ rfl rfl (dB [] rfl (by kernel_rfl) (FC.m hem1) rfl (by simp) (by simp [bQ]) (by simp) (by simp) (by simp [aO,aH]) ⟨by simp [bJ,aO,aH],jX _,trivial⟩ (by simp [aH,aO]) ⟨by simp [bJ,aO,aH],jX _,trivial⟩) ⟨rfl,rfl,trivial⟩ ?_;refine G ?_;exact ⟨.inl rfl,by rw [hres2 hit];exact aF.two rfl (aT.tmp rfl) (aT.tmp rfl),trivial⟩
 have hts2:=hts hrow hat;have hpos63:0<(q.2.2.2.1++(segT l q.2.1 q.2.2.1)).size∧(q.2.2.2.1++(segT l q.2.1 q.2.2.1)).size≤9223372036854775807:=⟨hz0,by rw [ByteArray.size_append];omega⟩
 refine tx ?_;refine bG ?_;refine Z1 (OC.cast bz (show vb (q.2.2.2.2==0)=vb true from by simp [hw])) ?_;refine Z1 mo ?_;refine pY (R:=[]) (U:=[]) rfl rfl rfl rfl (oM (x:=.clo _ _) rfl rfl) trivial ?_
 refine pY rfl rfl rfl rfl (OC.cast (oI [2] rfl rfl (by kernel_rfl) (aBD q.1 l q.2.1 q.2.2.1 q.2.2.2.2 q.2.2.2.1 (by omega) hrow hat (by omega)) rfl (by simp) (by simp [bQ]) (by simp) (by simp) (aBE l (by simp) (by simp) (by simp) (by simp)) ⟨by unfold oB;cases q.1<;>simp [bJ,aO,aH],by simp [bJ,aO,aH],by simp [bJ,aO,aH],by simp [bJ,aO,aH],jX _,trivial⟩ (by simp [aH]) ⟨by simp [bJ,aO,aH],by simp [bJ,aO,aH],by simp [bJ,aO,aH],by simp [bJ,aO,aH],jX _,trivial⟩) (show vb ((segE l q.2.1 q.2.2.1)==0)=vb true from by simp [he])) ⟨rfl,rfl,rfl,rfl,rfl,rfl,trivial⟩ ?_;refine Z1 (aBF rfl rfl rfl) ?_
 refine G ?_;refine pY rfl rfl rfl rfl (dB [] rfl (by kernel_rfl) (agY (.own 0 0) (q.2.2.2.1++(segT l q.2.1 q.2.2.1)) hpos63.1 hpos63.2) rfl (by simp) (by simp [bQ]) (by simp) (by simp) (by simp [aO,aH]) ⟨by simp [bJ,aO,aH],jX _,trivial⟩ (by simp [aH,aO]) ⟨by simp [bJ,aO,aH],trivial⟩) ⟨rfl,rfl,trivial⟩ ?_;refine pY (R:=[]) (U:=[]) rfl rfl rfl rfl (jP rfl (by kernel_rfl) (aIM (q.2.2.2.1++(segT l q.2.1 q.2.2.1)) (by rw [ByteArray.size_append];omega)) rfl (by simp only [bE,aN,and_self,cP,bV,oJ,qD,sQ,oP,implies_true]) (by simp only [bE,aN,and_self,cP,bV,oJ,qD,sQ,oP,implies_true])) trivial ?_
 refine pY (R:=[]) (U:=[]) rfl rfl rfl rfl (aJF rfl rfl) trivial ?_;refine Z1 (aBF rfl rfl rfl) ?_;refine Gd (fun hb=>?_) fun hb=>?_
 ·have hit:cN (tB (q.2.2.2.1++(segT l q.2.1 q.2.2.1)))=false:=by simpa using hb
  refine tx ?_;refine cF [_] ?_;refine cn ?_;refine aD ?_;refine sq ?_;refine bG ?_;refine Z1 bz ?_;refine cn ?_;refine cd (fun hb=>?_) fun hb=>?_
  ·refine G ?_;exact ⟨.inl rfl,by rw [hres (by rw [hit];decide)];rw [zK];exact aF.two rfl (aT.tmp rfl) (aT.tmp rfl),trivial⟩
  exact absurd hb (by decide)
 have hit:cN (tB (q.2.2.2.1++(segT l q.2.1 q.2.2.1)))=true:=by simpa using hb
 refine Gd (fun hb=>?_) fun hb=>?_
 ·exact absurd hb (by (simp [he]))
 refine G ?_;refine aZ rfl rfl (dB [] rfl (by kernel_rfl) (agX (.own 0 0) (q.2.2.2.1++(segT l q.2.1 q.2.2.1)) hpos63.1 hpos63.2) rfl (by simp) (by simp [bQ]) (by simp) (by simp) (by simp [aO,aH]) ⟨by simp [bJ,aO,aH],trivial⟩ (by simp [aH,aO]) ⟨by simp [bJ,aO,aH],trivial⟩) ⟨rfl,trivial⟩ ?_;refine G ?_;exact ⟨.inl rfl,by rw [hres2 hit];exact aF.two rfl (aT.tmp rfl) (aT.tmp rfl),trivial⟩
def tY (r:List Int):Nat→Nat→Nat
 | 0,n=>n
 | f+1,n=>if n<r.length∧r.getD n 0≠30 then tY r f (n+eS (r.getD n 0)) else n
def nF (r:List Int):Nat:=tY r (r.length+1) 0
noncomputable def saidF (ab:List ByteArray):Nat→List Int→ByteArray→ByteArray × Int
 | 0,r,s=>(ByteArray.empty,0)
 | f+1,r,s=>if 0<r.length then
  (
   if r.getD 0 0=30 then (if r.length<2 then (ByteArray.empty,16) else if r.getD 1 0≥(ab.length:Int) then (ByteArray.empty,11) else saidF ab f (r.drop 2) (s++ab.getD (r.getD 1 0).toNat ByteArray.empty))
   else if r.length<nF r then (ByteArray.empty,16)
   else if (aText (r.take (nF r))).2≠0 then (ByteArray.empty,16)
   else saidF ab f (r.drop (nF r)) (s++strOfNums (aText (r.take (nF r))).1))
  else (s,0)
noncomputable def saidP (l:List Int)(ab:List ByteArray):ByteArray × Int:=saidF ab (l.length+1) l ByteArray.empty
theorem tZ {ab:List ByteArray}{f:Nat}{r:List Int}{s:ByteArray}(h:0<r.length):saidF ab (f+1) r s=(if r.getD 0 0=30 then (if r.length<2 then (ByteArray.empty,16) else if r.getD 1 0≥(ab.length:Int) then (ByteArray.empty,11) else saidF ab f (r.drop 2) (s++ab.getD (r.getD 1 0).toNat ByteArray.empty))
 else if r.length<nF r then (ByteArray.empty,16)
 else if (aText (r.take (nF r))).2≠0 then (ByteArray.empty,16)
 else saidF ab f (r.drop (nF r)) (s++strOfNums (aText (r.take (nF r))).1)):=by
 show (if _ then _ else _)=_;rw [if_pos h]
theorem aC1 {ab:List ByteArray}{f:Nat}{r:List Int}{s:ByteArray}(h:¬ 0<r.length)(hf:f≠0):saidF ab f r s=(s,0):=by
 obtain ⟨g,rfl⟩:∃ g,f=g+1:=⟨f-1,by omega⟩
 unfold saidF;rw [if_neg h]
theorem aC0 (r:List Int)(n k:Nat):(r.drop n).getD k 0=r.getD (k+n) 0:=by
 rw [List.getD,List.getD,List.getElem?_drop];congr 2;omega
end Go.Proofs.YtgajclaoaphgoaaGreatDoor
namespace Go.Proofs.YtgajclaoaphgoaaGreatDoor
def tW (p:ByteArray × Int):ByteArray × Int:=if p.2≠0 then (ByteArray.empty,p.2) else if cN (tB p.1)=true then (p.1,0) else (ByteArray.empty,13)
theorem tX {e:Int}(h:e≠0):tW (ByteArray.empty,e)=(ByteArray.empty,e):=by unfold tW;rw [if_pos h]
theorem aCZ:aText []=([],0):=ad0 (by decide) rfl
theorem vU (s:ByteArray):s++strOfNums []=s:=by
 apply ByteArray.ext;rw [ByteArray.data_append];show s.data++#[]=s.data;simp
theorem aHG {r:List Int}{n g:Nat}(h:nF r=tY r g n)(hs:¬ (n<r.length∧r.getD n 0≠30)):nF r=n:=by
 rw [h];cases g with
 | zero=>rfl
 | succ g=>show (if _ then _ else _)=_;rw [if_neg hs]
theorem xN (l:List Int)(row n:Nat):nG l row (row+n)=(l.drop row).take n:=by
 unfold nG;rw [Nat.add_sub_cancel_left]
theorem aHH (l:List Int)(ab:List ByteArray):∀ (f row n g k:Nat) (out:ByteArray),row+n≤l.length→l.length<f+(row+n)→l.length-row<g→(l.drop row).length<k+n→nF (l.drop row)=tY (l.drop row) k n→(0<n→(l.drop row).getD 0 0≠30)→unF l ab f row (row+n) out=tW (saidF ab g (l.drop row) out)
 | 0,row,n,g,k,out,h1,h2,_,_,_,_=>by omega
 | f+1,row,n,g,k,out,h1,h2,h3,h4,h5,h6=>by
  have hrl:(l.drop row).length=l.length-row:=List.length_drop ..;have hget:∀ j,(l.drop row).getD j 0=l.getD (row+j) 0:=fun j=>by rw [aC0,Nat.add_comm]
  obtain ⟨g,rfl⟩:∃ g',g=g'+1:=⟨g-1,by omega⟩
  have hwb:=aOU (l.getD (row+n) 0);have key:¬ (n<(l.drop row).length∧(l.drop row).getD n 0≠30)→0<n→saidF ab (g+1) (l.drop row) out=if (aText ((l.drop row).take n)).2≠0 then (ByteArray.empty,16) else saidF ab g ((l.drop row).drop n) (out++strOfNums (aText ((l.drop row).take n)).1):=fun hs hn=>by
   have hr:=aHG h5 hs;rw [tZ (by omega),if_neg (h6 hn),hr,if_neg (by omega)]
  by_cases hlt:row+n<l.length
  ·rw [vV hlt];by_cases hw:l.length-(row+n)<eS (l.getD (row+n) 0)
   ·rw [if_pos hw];have e16:(if segE l row l.length=0 then (16:Int) else segE l row l.length)=16:=by
     rcases aHI l row l.length with h|h<;>rw [h]<;>decide
    rw [e16];by_cases hc:l.getD (row+n) 0=30
    ·rw [hc] at hw;have hw2:eS 30=2:=rfl;rcases Nat.eq_zero_or_pos n with hn|hn
     ·subst hn;rw [tZ (by omega),if_pos (by rw [hget];exact hc),if_pos (by omega),tX (by decide)]
     rw [key (fun hx=>hx.2 (by rw [hget];exact hc)) hn];by_cases he:(aText ((l.drop row).take n)).2≠0
     ·rw [if_pos he,tX (by decide)]
     rw [if_neg he];obtain ⟨g,rfl⟩:∃ g',g=g'+1:=⟨g-1,by omega⟩
     rw [tZ (by rw [List.length_drop];omega),if_pos (by rw [aC0,Nat.zero_add,hget];exact hc),if_pos (by rw [List.length_drop];omega),tX (by decide)]
    obtain ⟨k,rfl⟩:∃ k',k=k'+1:=⟨k-1,by omega⟩
    have hq:n<(l.drop row).length∧(l.drop row).getD n 0≠30:=⟨by omega,by rw [hget];exact hc⟩
    have h7:nF (l.drop row)=tY (l.drop row) k (n+eS (l.getD (row+n) 0)):=by
     rw [h5];show (if _ then _ else _)=_;rw [if_pos hq,hget]
    have hr:=aHG h7 (fun hx=>by omega);have h0:(l.drop row).getD 0 0≠30:=by
     rcases Nat.eq_zero_or_pos n with hn|hn
     ·subst hn;exact hq.2
     exact h6 hn
    rw [tZ (by omega),if_neg h0,hr,if_pos (by omega),tX (by decide)]
   rw [if_neg hw];by_cases hc:l.getD (row+n) 0=30
   ·rw [if_neg (fun hx=>hx hc)];rw [hc] at hw;have hw2:eS 30=2:=rfl;have hd2:∀ m,row+m+2≤l.length→(l.drop row).drop (m+2)=l.drop (row+m+2):=fun m _=>by rw [List.drop_drop];congr 1
    have fin:∀ (g:Nat) (o:ByteArray),l.length-(row+n+2)<g→unF l ab f (row+n+2) (row+n+2) o=tW (saidF ab g (l.drop (row+n+2)) o):=fun g o hg=>aHH l ab f (row+n+2) 0 g ((l.drop (row+n+2)).length+1) o (by omega) (by omega) hg (by omega) rfl (fun hx=>absurd hx (by omega));rcases Nat.eq_zero_or_pos n with hn|hn
    ·subst hn;have e1:nG l row (row+0)=[]:=by rw [xN];rfl
     have e2:segE l row (row+0)=0:=by unfold segE;rw [e1,aCZ]
     have e3:segT l row (row+0)=strOfNums []:=by unfold segT;rw [e1,aCZ]
     rw [e2,if_neg (by decide),e3,vU,tZ (by omega),if_pos (show (l.drop row).getD 0 0=30 from by rw [hget];exact hc),if_neg (show ¬ (l.drop row).length<2 from by omega),hget 1];by_cases ha:l.getD (row+0+1) 0≥(ab.length:Int)
     ·rw [if_pos ha,if_pos ha,tX (by decide)]
     rw [if_neg ha,if_neg ha,fin g _ (by omega)];have:=hd2 0 (by omega);rw [show (0:Nat)+2=2 from rfl] at this;rw [this]
    rw [key (fun hx=>hx.2 (by rw [hget];exact hc)) hn];have e2:segE l row (row+n)=(aText ((l.drop row).take n)).2:=by unfold segE;rw [xN]
    have e3:segT l row (row+n)=strOfNums (aText ((l.drop row).take n)).1:=by unfold segT;rw [xN]
    have e4:=aHI l row (row+n);rw [e2,e3];rw [e2] at e4;by_cases he:(aText ((l.drop row).take n)).2≠0
    ·rw [if_pos he,if_pos he,tX (by decide)];rcases e4 with e4|e4
     ·exact absurd e4 he
     rw [e4]
    rw [if_neg he,if_neg he];obtain ⟨g,rfl⟩:∃ g',g=g'+1:=⟨g-1,by omega⟩
    have hdd:(l.drop row).drop n=l.drop (row+n):=by rw [List.drop_drop]
    have hdl:(l.drop (row+n)).length=l.length-(row+n):=List.length_drop ..;rw [hdd,tZ (by omega),if_pos (show (l.drop (row+n)).getD 0 0=30 from by rw [aC0,Nat.zero_add];exact hc),if_neg (show ¬ (l.drop (row+n)).length<2 from by omega),aC0,show 1+(row+n)=row+n+1 from by omega];by_cases ha:l.getD (row+n+1) 0≥(ab.length:Int)
    ·rw [if_pos ha,if_pos ha,tX (by decide)]
    rw [if_neg ha,if_neg ha,fin g _ (by omega),List.drop_drop]
   rw [if_pos hc];obtain ⟨k,rfl⟩:∃ k',k=k'+1:=⟨k-1,by omega⟩
   have hq:n<(l.drop row).length∧(l.drop row).getD n 0≠30:=⟨by omega,by rw [hget];exact hc⟩
   have h7:nF (l.drop row)=tY (l.drop row) k (n+eS (l.getD (row+n) 0)):=by
    rw [h5];show (if _ then _ else _)=_;rw [if_pos hq,hget]
   have h0:(l.drop row).getD 0 0≠30:=by
    rcases Nat.eq_zero_or_pos n with hn|hn
    ·subst hn;exact hq.2
    exact h6 hn
   rw [Nat.add_assoc];exact aHH l ab f row (n+eS (l.getD (row+n) 0)) (g+1) k out (by omega) (by omega) h3 (by omega) h7 (fun _=>h0)
  have hen:row+n=l.length:=by omega
  rw [aOV hlt (by omega),←hen];rcases Nat.eq_zero_or_pos n with hn|hn
  ·subst hn;have e1:nG l row (row+0)=[]:=by rw [xN];rfl
   have e2:segE l row (row+0)=0:=by unfold segE;rw [e1,aCZ]
   have e3:segT l row (row+0)=strOfNums []:=by unfold segT;rw [e1,aCZ]
   rw [e2,e3,aC1 (by omega) (by omega)];unfold rL tW;rw [if_neg (by decide),if_neg (show ¬ ((out,(0:Int)).2≠0) from fun h=>h rfl),vU]
  rw [key (fun hx=>by omega) hn];have e2:segE l row (row+n)=(aText ((l.drop row).take n)).2:=by unfold segE;rw [xN]
  have e3:segT l row (row+n)=strOfNums (aText ((l.drop row).take n)).1:=by unfold segT;rw [xN]
  have e4:=aHI l row (row+n);rw [e2,e3];rw [e2] at e4;by_cases he:(aText ((l.drop row).take n)).2≠0
  ·rw [if_pos he,tX (by decide)];unfold rL;rw [if_pos he];rcases e4 with e4|e4
   ·exact absurd e4 he
   rw [e4]
  rw [if_neg he,aC1 (by rw [List.length_drop];omega) (by omega)];unfold rL tW;rw [if_neg he,if_neg (show ¬ ((out++strOfNums (aText (List.take n (List.drop row l))).1,(0:Int)).2≠0) from fun h=>h rfl)]
theorem aZE (l:List Int)(ab:List ByteArray):unpackedP l ab=tW (saidP l ab):=
 aHH l ab (l.length+1) 0 0 (l.length+1) (l.length+1) ByteArray.empty (by omega) (by omega) (by omega) (by simp) rfl (fun h=>absurd h (by omega))
def jA (p:PoolP)(i:Nat):Int:=p.at_.getD i 0
def jI (p:PoolP)(i:Nat):Int:=if i+1<p.at_.length then p.at_.getD (i+1) 0 else (p.bytes.length:Int)
def qG (p:PoolP)(i:Nat):List Int:=(p.bytes.drop (jA p i).toNat).take ((jI p i).toNat-(jA p i).toNat)
def eT (p:PoolP)(i:Int):List Int × Int:=
 if i<0∨i≥(p.at_.length:Int) then ([],11) else if jA p i.toNat<0∨jI p i.toNat<jA p i.toNat∨jI p i.toNat >(p.bytes.length:Int) then ([],5) else (qG p i.toNat,0)
noncomputable def poolTx (p:PoolP)(i:Int):ByteArray × Int:=
 if (eT p i).2≠0 then (ByteArray.empty,(eT p i).2) else if (gD (eT p i).1).2≠0 then (ByteArray.empty,(gD (eT p i).1).2) else unpackedP (gD (eT p i).1).1 p.abbrevs
theorem aZF {p:PoolP}(h:dC p.bytes)(i:Int):dC (eT p i).1:=by
 unfold eT
 repeat' split
 ·intro c hc;cases hc
 ·intro c hc;cases hc
 intro c hc;exact h c (List.mem_of_mem_drop (List.mem_of_mem_take hc))
theorem aZG (bs:List Int):(gD bs).1.length≤8*bs.length/5∧∀ k,0≤(gD bs).1.getD k 0:=by
 have hnil:([]:List Int).length≤8*bs.length/5∧∀ k,0≤([]:List Int).getD k 0:=⟨Nat.zero_le _,fun k=>by simp⟩
 unfold gD;split
 ·exact hnil
 rename_i j hj;have hjm:=List.mem_range.1 (List.mem_of_find?_eq_some hj);unfold sF;split
 ·exact hnil
 split
 ·exact hnil
 refine ⟨by show (lU bs j).length≤_;rw [aMG];omega,fun k=>?_⟩;show 0≤(lU bs j).getD k 0;unfold lU;rcases Nat.lt_or_ge k j with h|h
 ·simp [List.getD,List.getElem?_map,List.getElem?_range h];exact (aMA bs (5*k)).1
 rw [List.getD,List.getElem?_eq_none (by simpa using h)];simp
def qH (t:Int→ByteArray × Int):Nat→Nat→List ByteArray→List ByteArray × Int
 | 0,k,out=>(out,0)
 | n+1,k,out=>if (t k).2≠0 then ([],(t k).2) else qH t n (k+1) (out++[(t k).1])
noncomputable def allP (p:PoolP):List ByteArray × Int:=qH (poolTx p) p.at_.length 0 []
open Go.RowKit
theorem aZH {p:PoolP}{n:Nat}(h:0≤jA p n)(h':jA p n≤jI p n)(h2:jI p n≤(p.bytes.length:Int))(E:Env)(v:Value)(hr:aA E (.sl 1 ((jI p n).toNat-(jA p n).toNat) (fun j=>bv p.bytes (j+(jA p n).toNat))) v):aA E (bs (qG p n)) v:=by
 have hl:(qG p n).length=(jI p n).toNat-(jA p n).toNat:=by unfold qG;rw [List.length_take,List.length_drop];omega
 unfold bs;rw [hl];refine pI (fun E k hk v hv=>?_) E v hr;have e:(qG p n).getD k 0=p.bytes.getD (k+(jA p n).toNat) 0:=by
  unfold qG;rw [List.getD,List.getD,List.getElem?_take,if_pos hk,List.getElem?_drop];congr 2;omega
 unfold bv;rw [e];exact hv
theorem aOW {p:PoolP}{i:Int}(h:i<0∨i≥(p.at_.length:Int)):eT p i=([],11):=by unfold eT;rw [if_pos h]
theorem aZI {p:PoolP}{i:Int}(h:¬ (i<0∨i≥(p.at_.length:Int)))(h':jA p i.toNat<0∨jI p i.toNat<jA p i.toNat∨jI p i.toNat >(p.bytes.length:Int)):eT p i=([],5):=by unfold eT;rw [if_neg h,if_pos h']
theorem aOX {p:PoolP}{i:Int}(h:¬ (i<0∨i≥(p.at_.length:Int)))(h':¬ (jA p i.toNat<0∨jI p i.toNat<jA p i.toNat∨jI p i.toNat >(p.bytes.length:Int))):eT p i=(qG p i.toNat,0):=by unfold eT;rw [if_neg h,if_neg h']
theorem aZJ {p:PoolP}{i:Int}(h:(eT p i).2≠0):poolTx p i=(ByteArray.empty,(eT p i).2):=by unfold poolTx;rw [if_pos h]
theorem aZK {p:PoolP}{i:Int}(h:(eT p i).2=0)(h':(gD (eT p i).1).2≠0):poolTx p i=(ByteArray.empty,(gD (eT p i).1).2):=by unfold poolTx;rw [if_neg (fun hc=>hc h),if_pos h']
theorem aOY {p:PoolP}{i:Int}(h:(eT p i).2=0)(h':(gD (eT p i).1).2=0):poolTx p i=unpackedP (gD (eT p i).1).1 p.abbrevs:=by unfold poolTx;rw [if_neg (fun hc=>hc h),if_neg (fun hc=>hc h')]
theorem aHJ {p q:ByteArray × Int}(h:p=q):Av.tup [vs p.1,vi p.2]=.tup [vs q.1,vi q.2]:=by rw [h]
theorem dC.hid {l:List Int}(h:dC l):dC l:=h
theorem aZL (p:PoolP)(i:Int)(hal:p.at_.length≤5000000)(hbl:p.bytes.length≤100000000):PC Tryz.prog 256 [kO p,vi i] (.tup [bs (eT p i).1,vi (eT p i).2]):=by
 refine FB 4 56 Tryz.func256 ?_;refine Gd (fun hb=>?_) fun hb=>?_
 ·have hno:i<0∨i≥(p.at_.length:Int):=by simpa only [Bool.or_eq_true,decide_eq_true_eq] using hb
  refine G ?_;exact ⟨.inl rfl,by rw [aOW hno];exact aF.two rfl ((aT.tmp rfl).to fun E v h=>uA (by decide) E v h) (aT.tmp rfl),trivial⟩
 have hno:¬ (i<0∨i≥(p.at_.length:Int)):=by simpa only [Bool.or_eq_false_iff,decide_eq_false_iff_not,not_or] using hb
 refine G ?_;refine rM (τ:=⟨[(1,vi i),(2,.ptr (kO p)),(6,vi (jA p i.toNat)),(7,vi (jI p i.toNat))],[]⟩) ?_ ?_
 ·refine cd (fun hb=>?_) fun hb=>?_
  ·have h30:i.toNat+1<p.at_.length:=by have h0:=of_decide_eq_true hb;omega
   refine tx ?_;refine Z1 (fa 1) ?_;refine Z1 ld ?_;refine Z1 mo ?_;refine Z1 ba ?_;refine Z1 (mM (j:=i.toNat+1) rfl rfl rfl (by kernel_rfl) (by omega) (by omega) (by omega)) ?_;refine Z1 ld ?_;refine Z1 aB ?_;refine cn ?_;exact Le.sub ⟨.inr rfl,.inr rfl,.inr rfl,.inr (aR (by unfold jI;first|rw [if_pos h30]|rw [if_neg h30])),trivial⟩ trivial
  have h30:¬ i.toNat+1<p.at_.length:=by have h0:=of_decide_eq_false hb;omega
  refine G ?_;exact Le.sub ⟨.inr rfl,.inr rfl,.inr rfl,.inr (aR (by unfold jI;first|rw [if_pos h30]|rw [if_neg h30])),trivial⟩ trivial
 refine Gd (fun hb=>?_) fun hb=>?_
 ·have hrg:jA p i.toNat<0∨jI p i.toNat<jA p i.toNat∨jI p i.toNat >(p.bytes.length:Int):=by
   simp only [Bool.or_eq_true,decide_eq_true_eq] at hb;rcases hb with (h|h)|h
   ·exact .inl h
   ·exact .inr (.inl h)
   exact .inr (.inr h)
  refine G ?_;exact ⟨.inl rfl,by rw [aZI hno hrg];exact aF.two rfl ((aT.tmp rfl).to fun E v h=>uA (by decide) E v h) (aT.tmp rfl),trivial⟩
 have hrg:¬ (jA p i.toNat<0∨jI p i.toNat<jA p i.toNat∨jI p i.toNat >(p.bytes.length:Int)):=by
  simp only [Bool.or_eq_false_iff,decide_eq_false_iff_not] at hb;rintro (h|h|h)
  ·exact hb.1.1 h
  ·exact hb.1.2 h
  exact hb.2 h
 refine G ?_;refine Z1 (OC.to (aC2 (e:=5) (by_:=1) (zs:=[.int .u8 0]) (jA p i.toNat).toNat (jI p i.toNat).toNat rfl rfl (aR (by omega)) (aR (by omega)) (by kernel_rfl) (by kernel_rfl) (by omega) (by omega)) (aZH (by omega) (by omega) (by omega))) ?_;refine G ?_;exact ⟨.inl rfl,by rw [aOX hno hrg];exact aF.two rfl (aT.tmp rfl) (aT.tmp rfl),trivial⟩
theorem aZM (p:PoolP)(i:Int)(hal:p.at_.length≤5000000)(hbl:p.bytes.length≤100000000)(hBt:dC p.bytes)(hl:(eT p i).1.length≤5000)(hab:∀ k,(p.abbrevs.getD k ByteArray.empty).size≤5000)(habl:p.abbrevs.length≤1000000):PC Tryz.prog 221 [kO p,vi i] (.tup [vs (poolTx p i).1,vi (poolTx p i).2]):=by
 have hub:=aZG (eT p i).1;refine FB 4 32 Tryz.func221 ?_;refine C (aZL p i hal hbl) ?_;refine cd (fun hb=>?_) fun hb=>?_
 ·have he16:(eT p i).2≠0:=by simpa using hb
  refine G ?_;exact ⟨.inl rfl,by rw [aHJ (aZJ he16)];exact aF.two rfl (aT.tmp rfl) (aT.tmp rfl),trivial⟩
 have he16:(eT p i).2=0:=by simpa using hb
 refine C (aZN (eT p i).1 (by omega) (aZF hBt i)) ?_;refine cd (fun hb=>?_) fun hb=>?_
 ·have he24:(gD (eT p i).1).2≠0:=by simpa using hb
  refine G ?_;exact ⟨.inl rfl,by rw [aHJ (aZK he16 he24)];exact aF.two rfl (aT.tmp rfl) (aT.tmp rfl),trivial⟩
 have he24:(gD (eT p i).1).2=0:=by simpa using hb
 refine C (aZO (gD (eT p i).1).1 (by omega) hub.2 p.abbrevs hab habl) ?_;exact ⟨.inl rfl,by rw [aHJ (aOY he16 he24)];exact aF.two rfl (aT.tmp rfl) (aT.tmp rfl),trivial⟩
end Go.Proofs.YtgajclaoaphgoaaGreatDoor
