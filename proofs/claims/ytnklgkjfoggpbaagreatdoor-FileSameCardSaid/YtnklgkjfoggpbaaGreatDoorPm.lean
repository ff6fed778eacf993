/- Parts of the proof of a law of this seat: rules and contracts; no conditions. -/
import Derived.Test.YtnklgkjfoggpbaaGreatDoorWireSpec
import Derived.Test.YtnklgkjfoggpbaaGreatDoorPj
set_option maxHeartbeats 6400000
set_option maxRecDepth 100000
set_option linter.unusedVariables false
set_option linter.unusedSimpArgs false
namespace Go.Proofs.YtnklgkjfoggpbaaGreatDoor
theorem aFE {ab l:List ByteArray}:∀ (n k:Nat),k<n→(bT ab l n).1.getD k 0=((bT ab l k).2.length:Int)∧(bT ab l n).1.length=n
 | 0,k,h=>by omega
 | n+1,k,h=>by
  have hln:(bT ab l n).1.length=n:=by
   cases n with
   | zero=>rfl
   | succ n=>exact (aFE (n+1) 0 (by omega)).2
  refine ⟨?_,by show ((bT ab l n).1++_).length=_;rw [List.length_append,hln];rfl⟩
  show ((bT ab l n).1++[((bT ab l n).2.length:Int)]).getD k 0=_
  rcases Nat.lt_or_ge k n with h1|h1
  ·rw [List.getD,List.getElem?_append_left (by omega)]
   exact (aFE n k h1).1
  ·have:k=n:=by omega
   subst this
   rw [List.getD,List.getElem?_append_right (by omega),hln,Nat.sub_self]
   rfl
theorem aTP {ab l:List ByteArray}(k:Nat):∀ n,k≤n→∃ X,(bT ab l n).2=(bT ab l k).2++X
 | 0,h=>by
  have:k=0:=by omega
  subst this
  exact ⟨[],by rw [List.append_nil]⟩
 | n+1,h=>by
  rcases Nat.lt_or_ge k (n+1) with h1|h1
  ·obtain ⟨X,e⟩:=aTP (ab:=ab) (l:=l) k n (by omega)
   exact ⟨X++fW (gT (l.getD n ByteArray.empty) ab),by show (bT ab l n).2++_=_;rw [e,List.append_assoc]⟩
  ·have:k=n+1:=by omega
   subst this
   exact ⟨[],by rw [List.append_nil]⟩
theorem aTQ {ab l:List ByteArray}:∀ n,dC (bT ab l n).2
 | 0=>fun c hc=>by cases hc
 | n+1=>(aTQ n).append (aMM _)
theorem aTJ (l:List ByteArray):dC (makeP l).1.bytes:=by
 unfold makeP
 repeat' split
 ·exact fun c hc=>by cases hc
 ·exact aTQ _
 ·exact fun c hc=>by cases hc
structure Good8 (l:List ByteArray):Prop where
 wt:wt l≤5000000
 few:¬ (l.length:Int)>4096
 txt:∀ j,j<l.length→cN (tB (l.getD j ByteArray.empty))=true
section
variable {l:List ByteArray}(h:Good8 l)
include h
theorem aLD:makeP l=(⟨chooseP l 31,(bT (chooseP l 31) l l.length).1,(bT (chooseP l 31) l l.length).2⟩,0):=aAF h.few h.txt
theorem aTR:(makeP l).1.abbrevs=chooseP l 31:=by rw [aLD h]
theorem aLE:(makeP l).1.at_=(bT (chooseP l 31) l l.length).1:=by rw [aLD h]
theorem aFF:(makeP l).1.bytes=(bT (chooseP l 31) l l.length).2:=by rw [aLD h]
theorem aBM:(makeP l).1.at_.length=l.length∧(makeP l).1.bytes.length≤1922*l.length:=by
 rw [aLE h,aFF h]
 exact uH _ h.txt
theorem ai6:(∀ k,((makeP l).1.abbrevs.getD k ByteArray.empty).size≤8)∧(makeP l).1.abbrevs.length≤31:=by
 rw [aTR h]
 exact aDQ h.wt
theorem ai7 {k:Nat}(hk:k<l.length):jA (makeP l).1 k=((bT (chooseP l 31) l k).2.length:Int):=by
 unfold jA
 rw [aLE h]
 exact (aFE _ k hk).1
theorem ai8 {k:Nat}(hk:k<l.length):jI (makeP l).1 k=((bT (chooseP l 31) l (k+1)).2.length:Int):=by
 unfold jI
 rw [(aBM h).1,aLE h,aFF h]
 split
 ·rename_i h1
  exact (aFE _ (k+1) h1).1
 ·have:k+1=l.length:=by omega
  rw [this]
theorem aTS {k:Nat}(hk:k<l.length):eT (makeP l).1 (k:Int)=(fW (gT (l.getD k ByteArray.empty) (chooseP l 31)),0):=by
 have h1:=ai7 h hk
 have h2:=ai8 h hk
 obtain ⟨X,e⟩:=aTP (ab:=chooseP l 31) (l:=l) (k+1) l.length hk
 have e2:(bT (chooseP l 31) l (k+1)).2=(bT (chooseP l 31) l k).2++fW (gT (l.getD k ByteArray.empty) (chooseP l 31)):=rfl
 have hlen:(makeP l).1.bytes.length=(bT (chooseP l 31) l (k+1)).2.length+X.length:=by rw [aFF h,e,List.length_append]
 have hl2:(bT (chooseP l 31) l (k+1)).2.length=(bT (chooseP l 31) l k).2.length+(fW (gT (l.getD k ByteArray.empty) (chooseP l 31))).length:=by rw [e2,List.length_append]
 have hno:¬ ((k:Int)<0∨(k:Int)≥((makeP l).1.at_.length:Int)):=by rw [(aBM h).1];omega
 have hrg:¬ (jA (makeP l).1 (k:Int).toNat<0∨jI (makeP l).1 (k:Int).toNat<jA (makeP l).1 (k:Int).toNat∨jI (makeP l).1 (k:Int).toNat >((makeP l).1.bytes.length:Int)):=by
  rw [Int.toNat_natCast,h1,h2]
  omega
 rw [aOX hno hrg,Int.toNat_natCast]
 refine Prod.ext ?_ rfl
 show qG (makeP l).1 k=_
 unfold qG
 rw [h1,h2,Int.toNat_natCast,Int.toNat_natCast,aFF h,e,e2,List.append_assoc,List.drop_left,List.length_append,Nat.add_sub_cancel_left,List.take_left]
theorem ai9 {k:Nat}(hk:k<l.length):poolTx (makeP l).1 (k:Int)=(l.getD k ByteArray.empty,0):=by
 have ht:=h.txt k hk
 have hab:=(aDQ h.wt).2
 have hu:=aW2 (gT (l.getD k ByteArray.empty) (chooseP l 31)) (ah0 ht hab)
 have hp:=aTS h hk
 rw [aOY (by rw [hp]) (by rw [hp];show (gD _).2=0;rw [hu]),hp]
 show unpackedP (gD _).1 _=_
 rw [hu,aTR h]
 exact ah3 ht hab
theorem ajA (i:Int):(eT (makeP l).1 i).1.length≤1922:=by
 by_cases hno:i<0∨i≥((makeP l).1.at_.length:Int)
 ·rw [aOW hno];exact Nat.zero_le _
 ·have hl:=(aBM h).1
  have e:i=(i.toNat:Int):=by omega
  have hk:i.toNat<l.length:=by omega
  rw [e,aTS h hk]
  exact (aIL _ (h.txt _ hk)).2.2
theorem aK5:allP (makeP l).1=(l,0):=by
 have key:∀ (n k:Nat) (out:List ByteArray),k+n=l.length→qH (poolTx (makeP l).1) n k out=(out++l.drop k,0):=by
  intro n
  induction n with
  | zero=>
   intro k out hk
   rw [List.drop_of_length_le (by omega),List.append_nil]
   rfl
  | succ n ih=>
   intro k out hk
   have ht:=ai9 h (k:=k) (by omega)
   rw [aOZ (by rw [ht]),ih (k+1) _ (by omega),ht]
   refine Prod.ext ?_ rfl
   show out++[l.getD k ByteArray.empty]++l.drop (k+1)=out++l.drop k
   rw [List.append_assoc]
   congr 1
   rw [List.drop_eq_getElem_cons (show k<l.length by omega)]
   simp [List.getD,List.getElem?_eq_getElem (show k<l.length by omega)]
 unfold allP
 rw [(aBM h).1,key l.length 0 [] (by omega)]
 rfl
omit h in
end
end Go.Proofs.YtnklgkjfoggpbaaGreatDoor
