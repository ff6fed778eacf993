/- Parts of the proof of a law of this seat: rules and contracts; no conditions. -/
import Derived.Test.YtgajclaoaphgoaaGreatDoorVa
import Derived.Test.YtgajclaoaphgoaaGreatDoorWireP
import Derived.Test.YtgajclaoaphgoaaGreatDoorBt
import Derived.Test.YtgajclaoaphgoaaGreatDoorAlphaF
import Derived.Test.YtgajclaoaphgoaaGreatDoorProg
import Derived.KernelRfl
set_option maxHeartbeats 6400000
set_option maxRecDepth 100000
set_option linter.unusedVariables false
set_option linter.unusedSimpArgs false
namespace Go.Proofs.YtgajclaoaphgoaaGreatDoor
open Go.RowKit
theorem aXG {P:Program}{f:FuncId}{e:TypeId}{m:Int}{zs:List Int}(h:∀ w,Calls P f #[.int .u8 m] w (kG w e (cb .i64 zs))):PC P f [.val (.int .u8 m)] (aK zs):=by
 intro E vs hG hA _ _ _;unfold aG aG at hA;obtain ⟨v,us,rfl,hv,rfl⟩:=hA;unfold aA at hv;subst hv;refine (h E.w).mono ?_;rintro en w' ⟨B,n,cc,rfl,hown,hb⟩;exact ⟨{ E with w:=w' },_,rfl,rfl,hG.grow hb,(Step.grow hG hb).kept (by simp),aB5 hG hown hb,fun n y hn=>by simp [aL] at hn⟩
theorem aXH (m:Int)(h0:0≤m)(h1:m<256):PC Tryz.prog 196 [.val (.int .u8 m)] (aK (cS m)):=aXG fun w=>aMJ m w h0 h1
theorem aqW (m:Int)(h0:0≤m)(h1:m<256):PC Tryz.prog 253 [.val (.int .u8 m)] (aK (kN m)):=aXG fun w=>aoC m w h0 h1
def qA (s:ByteArray):Nat→Int
 | 0=>0
 | k+1=>qA s k+((cS ((tB s).getD k 0)).length:Int)
theorem aXI (s:ByteArray)(k:Nat):qA s (k+1)=qA s k+((cS ((tB s).getD k 0)).length:Int):=rfl
def fB (s:ByteArray):Int:=qA s s.size
theorem zJ (s:ByteArray):∀ k,0≤qA s k∧qA s k≤3*k
 | 0=>by simp [qA]
 | k+1=>by
  have:=zJ s k;have:=aB0 ((tB s).getD k 0);unfold qA;omega
theorem aXJ {s:ByteArray}{k:Nat}(h:k<s.size):0≤(tB s).getD k 0∧(tB s).getD k 0<256:=by
 have hl:k<(tB s).length:=by rw [fK];exact h
 rw [List.getD,List.getElem?_eq_getElem hl];have hm:(tB s)[k]∈tB s:=List.getElem_mem hl;generalize (tB s)[k]=x at hm;unfold tB at hm;rw [List.mem_map] at hm;obtain ⟨b,_,e⟩:=hm;have:=b.toNat_lt;show 0≤x∧x<256;omega
theorem aM6 (s:ByteArray)(hs:s.size≤100000000):PC Tryz.prog 192 [vs s] (vi (fB s)):=by
 refine FB 6 19 Tryz.func192 ?_;refine G ?_;refine LP (ι:=Nat) (fun k=>[(3,vi (qA s k)),(7,vi k)]) (fun _=>[]) (fun k=>k≤s.size) (fun k=>s.size-k) 0 (Nat.zero_le _) (hl:=(Le.sub (by repeat (first|trivial|refine ⟨.inr rfl,?_⟩|refine ⟨.inr (aR (by omega)),?_⟩)) (by repeat (first|trivial|refine ⟨rfl,?_⟩)))) ?_;intro k hI;refine Gd (fun hb=>?_) fun hb=>?_
 ·have hlt:k<s.size:=by have h0:=of_decide_eq_true hb;omega
  have hb0:=aXJ hlt;have hc0:=zJ s k;have hc1:=aB0 ((tB s).getD k 0);refine G ?_;refine Z1 (aGH rfl rfl rfl (by kernel_rfl) (by omega) (by omega) rfl) ?_;refine Z1 (ca (aXH _ hb0.1 hb0.2)) ?_;refine G ?_;exact ⟨k+1,by omega,by omega,Le.sub (by repeat (first|trivial|refine ⟨.inr rfl,?_⟩|refine ⟨.inr (aR (by omega)),?_⟩)) (by repeat (first|trivial|refine ⟨rfl,?_⟩))⟩
 have hge:k=s.size:=by have h0:=of_decide_eq_false hb;omega
 refine G ?_;exact Rx rfl (aR (by rw [hge];rfl))
theorem aqX:∀ c:Fin 256,(if uJ (c.val:Int)=true then (kN (c.val:Int)).length else 0)=(cS (c.val:Int)).length:=by decide +kernel
theorem aqY {c:Int}(h0:0≤c)(h1:c<256):(if uJ c=true then (kN c).length else 0)=(cS c).length:=by
 have:=aqX ⟨c.toNat,by omega⟩;have e:((c.toNat:Nat):Int)=c:=by omega
 simp only [e] at this;exact this
theorem aqZ {s:ByteArray}{k:Nat}(h:k<s.size):qN (s.extract (k:Int).toNat ((k:Int)+1).toNat)=uJ ((tB s).getD k 0):=by
 have e1:(k:Int).toNat=k:=by omega
 have e2:((k:Int)+1).toNat=k+1:=by omega
 have e3:(s.extract k (k+1)).size=1:=by rw [←fK,aYL s k h];rfl
 rw [e1,e2];unfold qN;rw [aYL s k h,e3,aR4 s k h];simp
theorem aq0 {s:ByteArray}{k:Nat}(h:k<s.size):(s.extract (k:Int).toNat ((k:Int)+1).toNat).size≤9223372036854775807:=by
 have e1:(k:Int).toNat=k:=by omega
 have e2:((k:Int)+1).toNat=k+1:=by omega
 have e3:(s.extract k (k+1)).size=1:=by rw [←fK,aYL s k h];rfl
 rw [e1,e2,e3];decide
theorem anB (s:ByteArray)(hs:s.size≤100000000):PC Tryz.prog 216 [vs s] (vi (fB s)):=by
 refine FB 6 25 Tryz.func216 ?_;refine G ?_;refine LP (ι:=Nat) (fun k=>[(3,vi (qA s k)),(4,vi k)]) (fun _=>[]) (fun k=>k≤s.size) (fun k=>s.size-k) 0 (Nat.zero_le _) (hl:=(Le.sub (by repeat (first|trivial|refine ⟨.inr rfl,?_⟩|refine ⟨.inr (aR (by omega)),?_⟩)) (by repeat (first|trivial|refine ⟨rfl,?_⟩)))) ?_;intro k hI;refine Gd (fun hb=>?_) fun hb=>?_
 ·have hlt:k<s.size:=by have h0:=of_decide_eq_true hb;omega
  have hb0:=aXJ hlt;have hc0:=zJ s k;have hc1:=am5 ((tB s).getD k 0);have hc2:=aqY hb0.1 hb0.2;have hot:=aqZ hlt;refine G ?_;refine Z1 (aGK rfl rfl rfl rfl (by kernel_rfl) (by omega) (by omega) (by omega)) ?_;refine Z1 (ca (aoL _ (aq0 hlt))) ?_;refine Gd (fun hb=>?_) fun hb=>?_
  ·have hstep:qA s (k+1)=qA s k+((kN ((tB s).getD k 0)).length:Int):=by rw [aXI,←hc2,if_pos (hot ▸ hb)]
   refine G ?_;refine Z1 (aGH rfl rfl rfl (by kernel_rfl) (by omega) (by omega) rfl) ?_;refine Z1 (ca (aqW _ hb0.1 hb0.2)) ?_;refine G ?_;exact ⟨k+1,by omega,by omega,Le.sub (by repeat (first|trivial|refine ⟨.inr rfl,?_⟩|refine ⟨.inr (aR (by omega)),?_⟩)) (by repeat (first|trivial|refine ⟨rfl,?_⟩))⟩
  have hstep:qA s (k+1)=qA s k:=by
   have hb2:uJ ((tB s).getD k 0)=false:=hot ▸ hb;rw [aXI,←hc2,if_neg (by rw [hb2];decide)];omega
  refine G ?_;exact ⟨k+1,by omega,by omega,Le.sub (by repeat (first|trivial|refine ⟨.inr rfl,?_⟩|refine ⟨.inr (aR (by omega)),?_⟩)) (by repeat (first|trivial|refine ⟨rfl,?_⟩))⟩
 have hge:k=s.size:=by have h0:=of_decide_eq_false hb;omega
 refine G ?_;exact Rx rfl (aR (by rw [hge];rfl))
structure FewT (l:List ByteArray):Prop where
 len:l.length≤5000000
 size:∀ k,(l.getD k ⟨#[]⟩).size≤5000000
theorem Sane.all {l:List ByteArray}(h:FewT l):∀ k,MI (dQ l k)∧Maps.size (dQ l k)≤35000000*k∧∀ t,0≤bO (dQ l k) t∧bO (dQ l k) t≤((35000000*k:Nat):Int)
 | 0=>⟨aMZ,Nat.zero_le _,fun t=>by show 0≤bO (.map []) t∧bO (.map []) t≤_;rw [aM0];omega⟩
 | k+1=>by
  obtain ⟨h1,h2,h3⟩:=Sane.all h k;have hs:=h.size k;have:=Sane.part h1 h2 h3 (p:=l.getD k ⟨#[]⟩) (by omega) (l.getD k ⟨#[]⟩).size;have:=this.more (c:=35000000*(k+1)) (by omega);exact ⟨this.m1,this.s1,this.g1⟩
theorem aXZ {p:ByteArray}{i:Nat}{s:MM}{j:Nat}(hj:j≤7)(h:¬ (j+2≤8∧i+(j+2)≤p.size)):fA p i s 7=fA p i s j:=by
 have key:∀ d,j+d≤7→fA p i s (j+d)=fA p i s j:=by
  intro d
  induction d with
  | zero=>intro _;rfl
  | succ d ih=>
   intro hd;rw [←Nat.add_assoc];show (if j+d+2≤8∧i+(j+d+2)≤p.size then _ else _)=_;rw [if_neg (by omega)];exact ih (by omega)
 have:=key (7-j) (by omega);rwa [show j+(7-j)=7 from by omega] at this
theorem aNI (p:ByteArray)(i n:Nat):p.extract (i:Int).toNat ((i:Int)+(n:Int)).toNat=p.extract i (i+n):=by
 have e1:(i:Int).toNat=i:=by omega
 have e2:((i:Int)+(n:Int)).toNat=i+n:=by omega
 rw [e1,e2]
theorem aCF (p:ByteArray)(i n:Nat)(h:i+n≤p.size):(p.extract i (i+n)).size=n:=by
 rw [←fK,lZ,List.length_drop,List.length_take,fK];omega
theorem aX0 (l:List ByteArray)(hl:FewT l):PC Tryz.prog 191 [bB l] (.fm Tryz.prog 9 3 (dQ l l.length)):=by
 refine FB 4 58 Tryz.func191 ?_;refine G ?_;refine Z2 (xJ (k:=9) (e:=3) 0 rfl (by kernel_rfl)) ?_;refine G ?_;refine bM (ι:=Nat) (fun k=>⟨[(3,.mp 0),(11,bB l),(12,vi l.length),(13,vi k)],[(0,.map Tryz.prog 9 3 (dQ l k)),(1,.unborn)]⟩) (fun k=>k≤l.length) (fun k=>l.length-k) 0 (Nat.zero_le _) (Le.sub (by repeat (first|trivial|refine ⟨.inr rfl,?_⟩|refine ⟨.inr (aR (by omega)),?_⟩)) (by repeat (first|trivial|refine ⟨rfl,?_⟩))) ?_;intro k hI;refine Gd (fun hb=>?_) fun hb=>?_
 ·have hlt:k<l.length:=by have h0:=of_decide_eq_true hb;omega
  have hk0:=Sane.all hl k;have hps:=hl.size k;have hll:=hl.len;have hp1:(l.getD k ⟨#[]⟩).size≤1000000000:=by omega
  refine G ?_;refine Z2 (xJ (k:=9) (e:=3) 1 rfl (by kernel_rfl)) ?_;refine G ?_
  refine bM (ι:=Nat) (fun i=>⟨[(3,.mp 0),(11,bB l),(12,vi l.length),(13,vi k),(5,vs (l.getD k ⟨#[]⟩)),(6,.mp 1),(19,vi (l.getD k ⟨#[]⟩).size),(20,vi i)],[(0,.map Tryz.prog 9 3 ((iY (l.getD k ⟨#[]⟩) (dQ l k) i).1)),(1,.map Tryz.prog 9 3 ((iY (l.getD k ⟨#[]⟩) (dQ l k) i).2))]⟩) (fun i=>i≤(l.getD k ⟨#[]⟩).size) (fun i=>(l.getD k ⟨#[]⟩).size-i) 0 (Nat.zero_le _) (Le.sub (by repeat (first|trivial|refine ⟨.inr rfl,?_⟩|refine ⟨.inr (aR (by omega)),?_⟩)) (by repeat (first|trivial|refine ⟨rfl,?_⟩))) ?_;intro i hI;refine Gd (fun hb=>?_) fun hb=>?_
  ·have hli:i<(l.getD k ⟨#[]⟩).size:=by have h0:=of_decide_eq_true hb;omega
   have hP:=(Sane.part hk0.1 hk0.2.1 hk0.2.2 (p:=(l.getD k ⟨#[]⟩)) hp1 i).more (c:=199999999999993) (by omega);refine G ?_
   refine bM (ι:=Nat) (fun j=>⟨[(3,.mp 0),(11,bB l),(12,vi l.length),(13,vi k),(5,vs (l.getD k ⟨#[]⟩)),(6,.mp 1),(19,vi (l.getD k ⟨#[]⟩).size),(20,vi i),(7,vi i),(8,vi ((j+2:Nat):Int))],[(0,.map Tryz.prog 9 3 ((fA (l.getD k ⟨#[]⟩) i (iY (l.getD k ⟨#[]⟩) (dQ l k) i) j).1)),(1,.map Tryz.prog 9 3 ((fA (l.getD k ⟨#[]⟩) i (iY (l.getD k ⟨#[]⟩) (dQ l k) i) j).2))]⟩) (fun j=>j≤7) (fun j=>7-j) 0 (Nat.zero_le _) (Le.sub (by repeat (first|trivial|refine ⟨.inr rfl,?_⟩|refine ⟨.inr (aR (by omega)),?_⟩)) (by repeat (first|trivial|refine ⟨rfl,?_⟩))) ?_;intro j hI
   have hS:=(hP.row (p:=(l.getD k ⟨#[]⟩)) (i:=i) hp1 j).more (c:=200000000000000) (by omega);refine Gd (fun hb=>?_) fun hb=>?_
   ·have hn:j+2≤8∧i+(j+2)≤(l.getD k ⟨#[]⟩).size:=by simp only [Bool.and_eq_true,decide_eq_true_eq] at hb;omega
    have hx:=aNI (l.getD k ⟨#[]⟩) i (j+2);have hsz:((l.getD k ⟨#[]⟩).extract i (i+(j+2))).size≤maxLen:=by rw [aCF _ _ _ hn.2];have:maxLen=9223372036854775807:=rfl;omega
    have hg1:=hS.g1 ((l.getD k ⟨#[]⟩).extract i (i+(j+2)));have hg2:=hS.g2 ((l.getD k ⟨#[]⟩).extract i (i+(j+2)));have hs1:=hS.s1;have hs2:=hS.s2;have hml:maxLen=9223372036854775807:=rfl;refine G ?_;refine Z1 (OC.cast (aGK rfl rfl rfl rfl (by kernel_rfl) (by omega) (by omega) (by omega)) (show Av.val (.string ((l.getD k ⟨#[]⟩).extract (i:Int).toNat ((i:Int)+((j+2:Nat):Int)).toNat))=vs ((l.getD k ⟨#[]⟩).extract i (i+(j+2))) from by rw [hx])) ?_;refine G ?_
    refine Z1 (aCG (k:=9) (e:=3) (Go.Maps.string_keyed Tryz.underlying9) rfl rfl rfl (by kernel_rfl) (by kernel_rfl) (by kernel_rfl) (aCH Tryz.underlying9 hsz) (hS.m2.2 _)) ?_;refine Gd (fun hb=>?_) fun hb=>?_
    ·have hge:bO (fA (l.getD k ⟨#[]⟩) i (iY (l.getD k ⟨#[]⟩) (dQ l k) i) j).2 ((l.getD k ⟨#[]⟩).extract i (i+(j+2)))≤i:=by have h0:=of_decide_eq_true hb;omega
     have e1:fA (l.getD k ⟨#[]⟩) i (iY (l.getD k ⟨#[]⟩) (dQ l k) i) (j+1)=((fA (l.getD k ⟨#[]⟩) i (iY (l.getD k ⟨#[]⟩) (dQ l k) i) j).1.put (kS ((l.getD k ⟨#[]⟩).extract i (i+(j+2)))) (iv (bO (fA (l.getD k ⟨#[]⟩) i (iY (l.getD k ⟨#[]⟩) (dQ l k) i) j).1 ((l.getD k ⟨#[]⟩).extract i (i+(j+2)))+1)),(fA (l.getD k ⟨#[]⟩) i (iY (l.getD k ⟨#[]⟩) (dQ l k) i) j).2.put (kS ((l.getD k ⟨#[]⟩).extract i (i+(j+2)))) (iv ((i+(j+2):Nat):Int))):=by
      show (if _ then jY _ _ _ _ else _)=_;rw [if_pos hn];unfold jY;rw [if_pos hge]
     refine G ?_;refine Z1 (aCG (k:=9) (e:=3) (Go.Maps.string_keyed Tryz.underlying9) rfl rfl rfl (by kernel_rfl) (by kernel_rfl) (by kernel_rfl) (aCH Tryz.underlying9 hsz) (hS.m1.2 _)) ?_;refine G ?_;refine fP rfl rfl (aCI (k:=9) (e:=3) (Go.Maps.string_keyed Tryz.underlying9) rfl rfl rfl rfl (by kernel_rfl) (by kernel_rfl) (aCH Tryz.underlying9 hsz) (mN (by omega)) (by omega)) ⟨rfl,trivial⟩ ?_;refine G ?_
     refine fP rfl rfl (aCI (k:=9) (e:=3) (Go.Maps.string_keyed Tryz.underlying9) rfl rfl rfl rfl (by kernel_rfl) (by kernel_rfl) (aCH Tryz.underlying9 hsz) (mN (by omega)) (by omega)) ⟨rfl,trivial⟩ ?_;refine G ?_;exact ⟨j+1,by omega,by omega,Le.sub (by repeat (first|trivial|refine ⟨.inr rfl,?_⟩|refine ⟨.inr (aR (by omega)),?_⟩)) ⟨by rw [e1];rfl,by rw [e1];rfl,trivial⟩⟩
    have hge:¬ bO (fA (l.getD k ⟨#[]⟩) i (iY (l.getD k ⟨#[]⟩) (dQ l k) i) j).2 ((l.getD k ⟨#[]⟩).extract i (i+(j+2)))≤i:=by have h0:=of_decide_eq_false hb;omega
    have e1:fA (l.getD k ⟨#[]⟩) i (iY (l.getD k ⟨#[]⟩) (dQ l k) i) (j+1)=fA (l.getD k ⟨#[]⟩) i (iY (l.getD k ⟨#[]⟩) (dQ l k) i) j:=by
     show (if _ then jY _ _ _ _ else _)=_;rw [if_pos hn];unfold jY;rw [if_neg hge]
    refine G ?_;exact ⟨j+1,by omega,by omega,Le.sub (by repeat (first|trivial|refine ⟨.inr rfl,?_⟩|refine ⟨.inr (aR (by omega)),?_⟩)) ⟨by rw [e1];rfl,by rw [e1];rfl,trivial⟩⟩
   have hn:¬ (j+2≤8∧i+(j+2)≤(l.getD k ⟨#[]⟩).size):=by intro hc;simp only [Bool.and_eq_false_iff,decide_eq_false_iff_not] at hb;omega
   have hend:iY (l.getD k ⟨#[]⟩) (dQ l k) (i+1)=fA (l.getD k ⟨#[]⟩) i (iY (l.getD k ⟨#[]⟩) (dQ l k) i) j:=aXZ hI hn;refine G ?_;exact ⟨i+1,by omega,by omega,Le.sub (by repeat (first|trivial|refine ⟨.inr rfl,?_⟩)) ⟨by rw [hend];rfl,by rw [hend];rfl,trivial⟩⟩
  have hie:i=(l.getD k ⟨#[]⟩).size:=by have h0:=of_decide_eq_false hb;omega
  refine G ?_;exact ⟨k+1,by omega,by omega,Le.reset [1] (by simp) (by repeat (first|trivial|refine ⟨.inr rfl,?_⟩)) ⟨by simp [aE],aE.of_pure _ (bV l),trivial,trivial,trivial⟩ ⟨by rw [if_neg (by decide),hie];exact ⟨rfl,trivial⟩,by rw [if_pos (by decide)],trivial⟩⟩
 have hge:k=l.length:=by have h0:=of_decide_eq_false hb;omega
 refine bU ?_;refine aD ?_;rw [hge];refine bS (Le.freezeMap 3 0 rfl rfl) ?_;refine G ?_;exact Rx rfl rfl
open Go.RowKit Go.Maps
open Op (bytesLess)
theorem aNM:∀ l:List UInt8,bytesLess l l=false
 | []=>rfl
 | a::l=>by simp [bytesLess,aNM l]
theorem aNN:∀ {a b c:List UInt8},bytesLess a b=true→bytesLess b c=true→bytesLess a c=true
 | _,[],_,h,_=>by cases ‹List UInt8›<;>simp [bytesLess] at h
 | [],b::y,[],_,h=>by simp [bytesLess] at h
 | [],b::y,c::z,_,_=>by simp [bytesLess]
 | a::x,b::y,[],_,h=>by simp [bytesLess] at h
 | a::x,b::y,c::z,h,k=>by
  simp only [bytesLess,Bool.or_eq_true,decide_eq_true_eq,Bool.and_eq_true,beq_iff_eq] at h k ⊢;rcases h with h|⟨h1,h2⟩<;>rcases k with k|⟨k1,k2⟩
  ·exact .inl (by rw [UInt8.lt_iff_toNat_lt] at *;omega)
  ·subst k1;exact .inl h
  ·subst h1;exact .inl k
  subst h1;subst k1;exact .inr ⟨rfl,aNN h2 k2⟩
theorem aNO:∀ {a b:List UInt8},a≠b→bytesLess a b=true∨bytesLess b a=true
 | [],[],h=>absurd rfl h
 | [],_::_,_=>.inl rfl
 | _::_,[],_=>.inr rfl
 | a::x,b::y,h=>by
  simp only [bytesLess,Bool.or_eq_true,decide_eq_true_eq,Bool.and_eq_true,beq_iff_eq];by_cases e:a=b
  ·subst e;rcases aNO (a:=x) (b:=y) (fun h'=>h (by rw [h'])) with h1|h1
   ·exact .inl (.inr ⟨rfl,h1⟩)
   exact .inr (.inr ⟨rfl,h1⟩)
  have:a.toNat≠b.toNat:=fun h'=>e (UInt8.toNat_inj.1 h');rcases Nat.lt_or_gt_of_ne this with h1|h1
  ·exact .inl (.inl (UInt8.lt_iff_toNat_lt.2 h1))
  exact .inr (.inl (UInt8.lt_iff_toNat_lt.2 h1))
abbrev fE:=ByteArray × Int
def oJ (r:fE):Av:=.agg [vs r.1,vi r.2]
def eO (a b:fE):Bool:=if a.2≠b.2 then decide (a.2>b.2) else if (a.1.size:Int)≠b.1.size then decide ((a.1.size:Int)>b.1.size) else bytesLess a.1.toList b.1.toList
theorem aGR {a b c:fE}(h:eO a b=true)(k:eO b c=true):eO a c=true:=by
 unfold eO at *;by_cases h1:a.2=b.2
 ·rw [if_neg (by omega)] at h;by_cases h2:b.2=c.2
  ·rw [if_neg (by omega)] at k;rw [if_neg (by omega)];by_cases h3:(a.1.size:Int)=b.1.size
   ·rw [if_neg (by omega)] at h;by_cases h4:(b.1.size:Int)=c.1.size
    ·rw [if_neg (by omega)] at k;rw [if_neg (by omega)];exact aNN h k
    rw [if_pos h4] at k;rw [if_pos (by omega)];simp at k ⊢;omega
   rw [if_pos h3] at h;by_cases h4:(b.1.size:Int)=c.1.size
   ·rw [if_pos (by omega)];simp at h ⊢;omega
   rw [if_pos h4] at k;simp at h k;rw [if_pos (by omega)];simp;omega
  rw [if_pos h2] at k;rw [if_pos (by omega)];simp at k ⊢;omega
 rw [if_pos h1] at h;by_cases h2:b.2=c.2
 ·rw [if_pos (by omega)];simp at h ⊢;omega
 rw [if_pos h2] at k;simp at h k;rw [if_pos (by omega)];simp;omega
theorem aNP {a b:fE}(h:a.1≠b.1):eO a b=true∨eO b a=true:=by
 by_cases h1:a.2=b.2
 ·by_cases h3:(a.1.size:Int)=b.1.size
  ·have f1:eO a b=bytesLess a.1.toList b.1.toList:=by unfold eO;rw [if_neg (by omega),if_neg (by omega)]
   have f2:eO b a=bytesLess b.1.toList a.1.toList:=by unfold eO;rw [if_neg (by omega),if_neg (by omega)]
   rw [f1,f2];exact aNO fun h4=>h (oF (toList_inj.1 h4))
  have f1:eO a b=decide ((a.1.size:Int)>b.1.size):=by unfold eO;rw [if_neg (by omega),if_pos h3]
  have f2:eO b a=decide ((b.1.size:Int)>a.1.size):=by unfold eO;rw [if_neg (by omega),if_pos (by omega)]
  rw [f1,f2,decide_eq_true_eq,decide_eq_true_eq];omega
 have f1:eO a b=decide (a.2>b.2):=by unfold eO;rw [if_pos h1]
 have f2:eO b a=decide (b.2>a.2):=by unfold eO;rw [if_pos (by omega)]
 rw [f1,f2,decide_eq_true_eq,decide_eq_true_eq];omega
theorem aX1 (a:fE):eO a a=false:=by
 unfold eO;rw [if_neg (by omega),if_neg (by omega),aNM]
theorem aX2 {a b:fE}(h:eO a b=true):eO b a=false:=by
 cases k:eO b a with
 | false=>rfl
 | true=>
  have:=aGR h k;rw [aX1] at this;cases this
def aO6 (D:DataW Unit)(s:ByteArray):fE:=(s,(fB s-2)*bO D s-fB s)
def kV (D:DataW Unit)(left:Lit→Bool)(r:fE):Prop:=
 (r=(⟨#[]⟩,0)∧∀ s,Maps.has D (kS s)=true→left (kS s)=true)∨
 (Maps.has D (kS r.1)=true∧left (kS r.1)=false∧r=aO6 D r.1∧∀ s,Maps.has D (kS s)=true→left (kS s)=false→s=r.1∨eO r (aO6 D s)=true)
theorem aX3 (D:DataW Unit):kV D (Maps.has D) (⟨#[]⟩,0):=.inl ⟨rfl,fun s h=>h⟩
theorem aGS {s t:ByteArray}:(kS t).sameKey (kS s)=decide (t=s):=by
 by_cases e:t=s
 ·subst e;rw [WideAt.sameKey_self (aB4 t)];simp
 rw [sameKey_ne fun h=>e (aGE h)];simp [e]
theorem aX4 {D:DataW Unit}{left:Lit→Bool}{r:fE}{sk:ByteArray}(h:kV D left r)(hs:Maps.has D (kS sk)=true)(hw:r.1=⟨#[]⟩→r=(⟨#[]⟩,0)∧∀ s,Maps.has D (kS s)=true→left (kS s)=true)(ht:(r.1=⟨#[]⟩)∨eO (aO6 D sk) r=true):
 kV D (fun z=>left z&&!z.sameKey (kS sk)) (aO6 D sk):=by
 refine .inr ⟨hs,by show (left (kS sk)&&!(kS sk).sameKey (kS sk))=false;rw [aGS];simp,rfl,fun s h1 h2=>?_⟩;have h2':(left (kS s)&&!(kS s).sameKey (kS sk))=false:=h2;rw [aGS] at h2';by_cases e:s=sk
 ·exact .inl e
 have hl:left (kS s)=false:=by simpa [e] using h2'
 refine .inr ?_;rcases ht with ht|ht
 ·rw [(hw ht).2 s h1] at hl;cases hl
 rcases h with ⟨h3,h4⟩|⟨h3,h4,h5,h6⟩
 ·rw [h4 s h1] at hl;cases hl
 rcases h6 s h1 hl with h7|h7
 ·have:aO6 D s=r:=by rw [h7,←h5]
  rw [this];exact ht
 exact aGR ht h7
theorem aX5 {D:DataW Unit}{left:Lit→Bool}{r:fE}{sk:ByteArray}(h:kV D left r)(hl:left (kS sk)=true)(h0:r.1≠⟨#[]⟩)(ht:eO (aO6 D sk) r=false):
 kV D (fun z=>left z&&!z.sameKey (kS sk)) r:=by
 rcases h with ⟨h3,_⟩|⟨h3,h4,h5,h6⟩
 ·rw [h3] at h0;exact absurd rfl h0
 refine .inr ⟨h3,by show (left (kS r.1)&&!(kS r.1).sameKey (kS sk))=false;rw [h4];rfl,h5,fun s h1 h2=>?_⟩;have h2':(left (kS s)&&!(kS s).sameKey (kS sk))=false:=h2;rw [aGS] at h2';by_cases e:s=sk
 ·subst e;by_cases e2:s=r.1
  ·exact .inl e2
  rcases aNP (a:=aO6 D s) (b:=r) e2 with h7|h7
  ·rw [ht] at h7;cases h7
  exact .inr h7
 exact h6 s h1 (by simpa [e] using h2')
theorem aX6 {D:DataW Unit}{r r':fE}(h:kV D (fun _=>false) r)(h':kV D (fun _=>false) r'):r=r':=by
 rcases h with ⟨h1,h2⟩|⟨h1,_,h2,h3⟩<;>rcases h' with ⟨k1,k2⟩|⟨k1,_,k2,k3⟩
 ·rw [h1,k1]
 ·have:=h2 _ k1;cases this
 ·have:=k2 _ h1;cases this
 rcases h3 r'.1 k1 rfl with e|e
 ·rw [h2,k2,e]
 rw [←k2] at e;rcases k3 r.1 h1 rfl with e'|e'
 ·rw [h2,k2,e']
 rw [←h2] at e';rw [aX2 e] at e';cases e'
open Classical in
noncomputable def bestR (D:DataW Unit):fE:=if h:∃ r,kV D (fun _=>false) r then h.choose else (⟨#[]⟩,0)
theorem aCJ {D:DataW Unit}{r:fE}(h:kV D (fun _=>false) r):bestR D=r:=by
 have hx:∃ r,kV D (fun _=>false) r:=⟨r,h⟩
 unfold bestR;rw [dif_pos hx];exact aX6 hx.choose_spec h
def sL (D:DataW Unit):Prop:=∀ s,Maps.has D (kS s)=true→2≤s.size∧s.size≤8
theorem aX7 {p:ByteArray}{i n:Nat}{s:MM}(h:MI s.1)(hk:sL s.1)(hn:2≤n∧n≤8)(hp:i+n≤p.size):sL (jY p i n s).1:=by
 unfold jY;split
 ·intro t ht;have ht':Maps.has (s.1.put (kS (p.extract i (i+n))) (iv (bO s.1 (p.extract i (i+n))+1))) (kS t)=true:=ht;rw [aM4 h,Bool.or_eq_true,decide_eq_true_eq] at ht';rcases ht' with e|e
  ·rw [e,aCF p i n hp];exact hn
  exact hk t e
 exact hk
theorem aNQ {p:ByteArray}{i b:Nat}{s:MM}(hp:p.size≤1000000000)(h:Sane b s)(hk:sL s.1):∀ k,k≤7→sL (fA p i s k).1
 | 0,_=>hk
 | k+1,hk7=>by
  have h1:=aNQ (i:=i) hp h hk k (by omega);unfold fA;split
  ·rename_i hc;exact aX7 (h.row hp k).m1 h1 ⟨by omega,hc.1⟩ hc.2
  exact h1
theorem aNR {p:ByteArray}{M:DataW Unit}{b:Nat}(hM:MI M)(hs:Maps.size M≤b)(hg:∀ t,0≤bO M t∧bO M t≤b)(hk:sL M)(hp:p.size≤1000000000):∀ k,sL (iY p M k).1
 | 0=>hk
 | k+1=>aNQ hp (Sane.part hM hs hg hp k) (aNR hM hs hg hk hp k) 7 (Nat.le_refl _)
theorem aCK {l:List ByteArray}(h:FewT l):∀ k,sL (dQ l k)
 | 0=>fun s hs=>by cases hs
 | k+1=>by
  obtain ⟨h1,h2,h3⟩:=Sane.all h k;have:=h.size k;exact aNR h1 h2 h3 (aCK h k) (by omega) _
theorem aX8 {s:ByteArray}(h:s.size≤8):0≤fB s∧fB s≤24:=by
 have:=zJ s s.size;unfold fB;omega
theorem aX9 {a c:Int}(h:-2≤a∧a≤22)(hc:0≤c∧c≤175000000000000):-4000000000000000≤a*c∧a*c≤4000000000000000:=by
 constructor
 ·have h1:(-2)*c≤a*c:=Int.mul_le_mul_of_nonneg_right h.1 hc.1;omega
 have h1:a*c≤22*c:=Int.mul_le_mul_of_nonneg_right h.2 hc.1;omega
instance (r:fE):Pu (oJ r):=⟨by unfold oJ;exact Pu.out⟩
end Go.Proofs.YtgajclaoaphgoaaGreatDoor
namespace Go.Proofs.YtgajclaoaphgoaaGreatDoor
open Go.RowKit
theorem aYA (a b:fE)(ha:a.1.size≤100)(hb0:b.1.size≤100):PC Tryz.prog 190 [oJ a,oJ b] (vb (eO a b)):=by
 refine FB 6 36 Tryz.func190 ?_;refine Gd (fun hb=>?_) fun hb=>?_
 ·have h1:a.2≠b.2:=by simpa using hb
  refine G ?_;exact Rx rfl (bP (by unfold eO;rw [if_pos h1]))
 have h1:a.2=b.2:=by simpa using hb
 refine Gd (fun hb=>?_) fun hb=>?_
 ·have h2:(a.1.size:Int)≠b.1.size:=by simpa using hb
  refine G ?_;exact Rx rfl (bP (by unfold eO;rw [if_neg (by omega),if_pos h2]))
 have h2:(a.1.size:Int)=b.1.size:=by simpa using hb
 refine G ?_;refine Z1 (aYB rfl rfl rfl) ?_;refine G ?_;exact Rx rfl (bP (by unfold eO;rw [if_neg (by omega),if_neg (by omega)]))
theorem aYC {D:DataW Unit}(hk:sL D){left:Lit→Bool}{r:fE}(h:kV D left r):r.1=⟨#[]⟩→r=(⟨#[]⟩,0)∧∀ s,Maps.has D (kS s)=true→left (kS s)=true:=fun e=>by
 rcases h with h|⟨h1,_⟩
 ·exact h
 have:=hk _ h1;rw [e] at this;exact absurd this.1 (by decide)
theorem aNS {D:DataW Unit}(hk:sL D){left:Lit→Bool}{r:fE}(h:kV D left r):r.1.size≤8:=by
 rcases h with ⟨h,_⟩|⟨h1,_⟩
 ·rw [h];decide
 exact (hk _ h1).2
theorem aYD {D:DataW Unit}{left:Lit→Bool}(hl:∀ kl,left kl=false){r:fE}(h:kV D left r):kV D (fun _=>false) r:=by
 have:left=fun _=>false:=funext hl;rwa [←this]
theorem aGT (s:ByteArray):(s.toList==(⟨#[]⟩:ByteArray).toList)=decide (s=⟨#[]⟩):=by
 rw [aNT];by_cases e:s=⟨#[]⟩
 ·subst e;simp
 have:¬ tB s=tB ⟨#[]⟩:=fun h=>e (oF h);simp [e,this]
abbrev BSt:=(Lit→Bool) × Nat × Option (Value × Value) × fE
theorem aYF (l:List ByteArray)(hl:FewT l):PC Tryz.prog 133 [bB l] (oJ (bestR (dQ l l.length))):=by
 refine FB 4 38 Tryz.func133 ?_;obtain ⟨hm,hms,hmg⟩:=Sane.all hl l.length;have hko:=aCK hl l.length;have hll:=hl.len;refine C (aX0 l hl) ?_;refine Z2 (aYG (k:=9) (e:=3) 2 (Go.Maps.string_keyed Tryz.underlying9) rfl rfl (by kernel_rfl)) ?_;refine G ?_
 refine bM (ι:=BSt) (fun q=>⟨[(2,.own 0 0),(3,.clo 190 []),(4,.own 1 0),(11,.own 2 0)],[(0,.live 172 [vs ⟨#[]⟩,vi 0]),(1,.live 172 [vs q.2.2.2.1,vi q.2.2.2.2]),(2,.iter Tryz.prog 9 3 (dQ l l.length) q.1 q.2.1 q.2.2.1),(3,.unborn)]⟩) (fun q=>kV (dQ l l.length) q.1 q.2.2.2) (fun q=>q.2.1) (Maps.has (dQ l l.length),Maps.size (dQ l l.length),none,(⟨#[]⟩,0)) (aX3 _) (Le.sub (by repeat (first|trivial|refine ⟨.inr rfl,?_⟩|refine ⟨.inr (aR (by omega)),?_⟩)) (by repeat (first|trivial|refine ⟨rfl,?_⟩))) ?_;intro q hI;refine aD ?_
 refine aYH (k:=9) (e:=3) (Go.Maps.string_keyed Tryz.underlying9) rfl rfl rfl (by kernel_rfl) rfl rfl (fun h0 hl=>?_) (fun key v kl y c' hk hlk hy hat hlt=>?_)
 ·refine Z1 ex ?_;refine cn ?_;refine aD ?_;refine cd (fun hb=>?_) fun hb=>?_
  ·exact absurd hb (by simp)
  refine G ?_;exact ⟨.inl rfl,(by rw [aCJ (aYD hl hI)];exact aF.cell rfl rfl rfl (by kernel_rfl) (by kernel_rfl) (Nat.le_of_ble_eq_true rfl)),trivial⟩
 obtain ⟨sk,rfl,rfl,hsk⟩:=aYI Tryz.underlying9 hk;obtain ⟨cv,rfl,rfl,hcv⟩:=plainElem_int_inv (H:=Unit) Tryz.underlying3 hy;have hk1:q.1 (kS sk)=true:=hlk;have hhas:Maps.has (dQ l l.length) (kS sk)=true:=Go.Maps.has_true_of_atKey hat;have hget:bO (dQ l l.length) sk=cv:=by
  have h1:=hm.2 sk;have h2:=hat (iv 0);have h3:iv (bO (dQ l l.length) sk)=iv cv:=h1.symm.trans h2;unfold iv at h3;injection h3 with h3
  injection h3 with _ h3
 have hz:=hko sk hhas;have hcs:=aX8 hz.2;have hgv:=hmg sk;rw [hget] at hgv;have hmul:=aX9 (a:=fB sk-2) (c:=cv) (by omega) (by omega);have hrow:aO6 (dQ l l.length) sk=(sk,(fB sk-2)*cv-fB sk):=by unfold aO6;rw [hget]
 have hbs:=aNS hko hI;refine Z1 ex ?_;refine cn ?_;refine aD ?_;refine cd (fun hb=>?_) fun hb=>?_
 ·refine aQ ?_;refine aU ?_;refine sq ?_;refine Z1 (aYJ rfl rfl) ?_;refine Z1 ex ?_;refine Z1 ex ?_;refine Z1 aB ?_;refine Z1 aB ?_;refine cn ?_;refine sq ?_;refine Z1 mo ?_;refine Z1 (ca (aM6 sk (by omega))) ?_;refine Z1 aB ?_;refine cn ?_;refine sq ?_;refine Z1 mo ?_;refine Z1 mo ?_;refine Z1 iP ?_;refine Z1 mo ?_;refine Z1 bml ?_;refine Z1 mo ?_;refine Z1 iP ?_;refine Z1 (bd [(0,1),(1,1)] [.string ⟨#[]⟩,.int .i64 0] [.val _,.val _]) ?_;refine Z2 (al 3 [.string ⟨#[]⟩,.int .i64 0]) ?_;refine bW [_,_] ?_;refine cn ?_;refine sq ?_;refine aS 0 1 false ?_;refine bG ?_
  refine Z1 (aGV rfl rfl rfl) ?_;refine Z1 mo ?_;refine Z4 (fun hC=>mo) ?_;refine Zg rfl rfl rfl eV (fun hC=>mA (k:=2) (ds:=[_,_]) rfl rfl (by kernel_rfl) (by kernel_rfl) rfl rfl (by decide)) ⟨rfl,trivial⟩ ?_;refine Zg rfl rfl rfl eV (fun hC=>mA (k:=2) (ds:=[_,_]) rfl rfl (by kernel_rfl) (by kernel_rfl) rfl rfl (by decide)) ⟨rfl,trivial⟩ ?_
  refine Zg rfl rfl rfl eV (fun hC=>kW rfl rfl (by kernel_rfl) (aYA (sk,(fB sk-2)*cv-fB sk) q.2.2.2 (by show sk.size≤100;omega) (by omega)) rfl (by simp only [bE,aN,and_self,cP,bV,oJ,implies_true]) (by simp only [bE,aN,and_self,cP,bV,oJ,implies_true])) trivial ?_;refine Gd (fun hb=>?_) fun hb=>?_
  ·have hta:(q.2.2.2.1=⟨#[]⟩)∨eO (aO6 (dQ l l.length) sk) q.2.2.2=true:=by rw [aGT,Bool.or_eq_true,decide_eq_true_eq] at hb;rw [hrow];exact hb
   refine G ?_;exact ⟨(fun z=>q.1 z&&!z.sameKey (kS sk),c',some (.string sk,.int .i64 cv),(sk,(fB sk-2)*cv-fB sk)),(by have h9:=aX4 hI hhas (aYC hko hI) hta;rw [hrow] at h9;exact h9),hlt,Le.reset [3] (by simp) (by repeat (first|trivial|refine ⟨.inr rfl,?_⟩)) ⟨by simp [aE],by simp [aE,dL],by simp [aE],by simp [aE],trivial⟩ ⟨by rw [if_neg (by decide)];exact ⟨rfl,by simp [aE]⟩,by rw [if_neg (by decide)];exact ⟨rfl,by simp [aE]⟩,by rw [if_neg (by decide)];exact ⟨rfl,trivial⟩,by rw [if_pos (by decide)],trivial⟩⟩
  have hne:q.2.2.2.1≠⟨#[]⟩:=by rw [aGT,Bool.or_eq_false_iff,decide_eq_false_iff_not] at hb;exact hb.1
  have htf:eO (aO6 (dQ l l.length) sk) q.2.2.2=false:=by rw [aGT,Bool.or_eq_false_iff] at hb;rw [hrow];exact hb.2
  refine G ?_;exact ⟨(fun z=>q.1 z&&!z.sameKey (kS sk),c',some (.string sk,.int .i64 cv),q.2.2.2),aX5 hI hk1 hne htf,hlt,Le.reset [3] (by simp) (by repeat (first|trivial|refine ⟨.inr rfl,?_⟩)) ⟨by simp [aE],by simp [aE,dL],by simp [aE],by simp [aE],trivial⟩ ⟨by rw [if_neg (by decide)];exact ⟨rfl,by simp [aE]⟩,by rw [if_neg (by decide)];exact ⟨rfl,by simp [aE]⟩,by rw [if_neg (by decide)];exact ⟨rfl,trivial⟩,by rw [if_pos (by decide)],trivial⟩⟩
 exact absurd hb (by simp)
theorem tT (s t:ByteArray):(s.toList==t.toList)=decide (s=t):=by
 rw [aNT];by_cases e:s=t
 ·subst e;simp
 have:¬ tB s=tB t:=fun h=>e (oF h);simp [e,this]
def vP (p r:ByteArray):Nat→Nat→Int→Int
 | 0,_,n=>n
 | f+1,i,n=>if i+r.size≤p.size then (if p.extract i (i+r.size)=r then vP p r f (i+r.size) (n+1) else vP p r f (i+1) n) else n
theorem anC (p r:ByteArray):∀ (f i:Nat) (n:Int),n≤vP p r f i n∧vP p r f i n≤n+f
 | 0,i,n=>by simp [vP]
 | f+1,i,n=>by
  unfold vP;split
  ·split
   ·have:=anC p r f (i+r.size) (n+1);omega
   have:=anC p r f (i+1) n;omega
  omega
theorem ad2 {p r:ByteArray}{f i:Nat}{n:Int}(h:¬ i+r.size≤p.size):vP p r f i n=n:=by
 cases f with
 | zero=>rfl
 | succ f=>unfold vP;rw [if_neg h]
theorem aj0 {p r:ByteArray}(hr:0<r.size):∀ {f f' i:Nat} {n:Int},p.size<f+i→p.size<f'+i→vP p r f i n=vP p r f' i n
 | 0,f',i,n,h,h'=>by rw [ad2 (by omega),ad2 (by omega)]
 | f+1,0,i,n,h,h'=>by rw [ad2 (by omega),ad2 (by omega)]
 | f+1,f'+1,i,n,h,h'=>by
  unfold vP;split
  ·split
   ·exact aj0 hr (by omega) (by omega)
   exact aj0 hr (by omega) (by omega)
  rfl
def nC (l:List ByteArray)(r:ByteArray):Nat→Int
 | 0=>0
 | k+1=>vP (l.getD k ⟨#[]⟩) r ((l.getD k ⟨#[]⟩).size+1) 0 (nC l r k)
theorem anD {l:List ByteArray}(h:FewT l)(r:ByteArray):∀ k,0≤nC l r k∧nC l r k≤5000001*k
 | 0=>by simp [nC]
 | k+1=>by
  have h1:=anD h r k;have h2:=h.size k;have h3:=anC (l.getD k ⟨#[]⟩) r ((l.getD k ⟨#[]⟩).size+1) 0 (nC l r k);unfold nC;omega
abbrev bX:=ByteArray × Int
def dJ:bX:=(⟨#[]⟩,0)
def vQ (p:bX):Av:=.agg [vs p.1,vi p.2]
def rH (l:List bX):Av:=.sl 2 l.length fun j=>vQ (l.getD j dJ)
theorem qD (l:List bX):aN (rH l):=by unfold rH aN;intro j;simp [vQ,aN,bE]
def qE (p:bX):Int:=if p.2>0 then 2 else fB p.1
def sO (l:List bX):Nat→Int
 | 0=>0
 | k+1=>sO l k+qE (l.getD k dJ)
theorem aYK (l:List bX)(k:Nat):sO l (k+1)=sO l k+qE (l.getD k dJ):=rfl
theorem aq2 (l:List ByteArray)(hl:FewT l)(r:ByteArray)(hr:0<r.size)(hr2:r.size≤5000000):PC Tryz.prog 281 [bB l,vs r] (vi (nC l r l.length)):=by
 refine FB 6 41 Tryz.func281 ?_;refine G ?_;refine bM (ι:=Nat) (fun k=>⟨[(1,vs r),(5,vi (nC l r k)),(9,bB l),(10,vi l.length),(11,vi k)],[]⟩) (fun k=>k≤l.length) (fun k=>l.length-k) 0 (Nat.zero_le _) (Le.sub (by repeat (first|trivial|refine ⟨.inr rfl,?_⟩|refine ⟨.inr (aR (by omega)),?_⟩)) (by repeat (first|trivial|refine ⟨rfl,?_⟩))) ?_;intro k hI;refine sq ?_;refine Z1 bz ?_;refine cn ?_;refine aD ?_;refine cd (fun hb=>?_) fun hb=>?_
 ·have hlt:k<l.length:=by have h0:=of_decide_eq_true hb;omega
  have hps:=hl.size k;have hll:=hl.len;have hca:=anD hl r k;refine aQ ?_;refine aD ?_;refine aU ?_;refine sq ?_;refine Z1 ia ?_;refine Z1 ld ?_;refine Z1 aB ?_;refine cn ?_;refine sq ?_;refine Z1 aB ?_;refine cn ?_;refine aU ?_
  refine bM (ι:=Nat × Int) (fun q=>⟨[(1,vs r),(5,vi q.2),(9,bB l),(10,vi l.length),(11,vi k),(7,vs (l.getD k ⟨#[]⟩)),(8,vi q.1)],[]⟩) (fun q=>q.1≤(l.getD k ⟨#[]⟩).size∧nC l r k≤q.2∧q.2≤nC l r k+q.1∧vP (l.getD k ⟨#[]⟩) r ((l.getD k ⟨#[]⟩).size+1) 0 (nC l r k)=vP (l.getD k ⟨#[]⟩) r ((l.getD k ⟨#[]⟩).size+1-q.1) q.1 q.2) (fun q=>(l.getD k ⟨#[]⟩).size-q.1) (0,nC l r k) (⟨Nat.zero_le _,Int.le_refl _,by simp,rfl⟩) (Le.sub (by repeat (first|trivial|refine ⟨.inr rfl,?_⟩|refine ⟨.inr (aR (by omega)),?_⟩)) (by repeat (first|trivial|refine ⟨rfl,?_⟩))) ?_;intro q hI;refine aD ?_;refine sq ?_
  refine Z1 mo ?_;refine Z1 mo ?_;refine Z1 oG ?_;refine Z1 ba ?_;refine Z1 mo ?_;refine Z1 oG ?_;refine Z1 bz ?_;refine cn ?_;refine cd (fun hb=>?_) fun hb=>?_
  ·have hin:q.1+r.size≤(l.getD k ⟨#[]⟩).size:=by have h0:=of_decide_eq_true hb;omega
   have hfu:(l.getD k ⟨#[]⟩).size+1-q.1=((l.getD k ⟨#[]⟩).size-q.1)+1:=by omega
   refine aQ ?_;refine aU ?_;refine sq ?_;refine Z1 mo ?_;refine Z1 mo ?_;refine Z1 mo ?_;refine Z1 mo ?_;refine Z1 oG ?_;refine Z1 ba ?_;refine Z1 (OC.cast (aGK rfl rfl rfl rfl (by kernel_rfl) (by omega) (by omega) (by omega)) (show Av.val (.string ((l.getD k ⟨#[]⟩).extract (q.1:Int).toNat ((q.1:Int)+(r.size:Int)).toNat))=vs ((l.getD k ⟨#[]⟩).extract q.1 (q.1+r.size)) from by rw [aNI])) ?_;refine Z1 mo ?_;refine Z1 (aGV rfl rfl rfl) ?_;refine cn ?_;refine cd (fun hb=>?_) fun hb=>?_
   ·have hat:(l.getD k ⟨#[]⟩).extract q.1 (q.1+r.size)=r:=by rw [tT] at hb;exact of_decide_eq_true hb
    refine G ?_;exact ⟨(q.1+r.size,q.2+1),⟨by show q.1+r.size≤_;omega,by show _≤q.2+1;omega,by show q.2+1≤_+((q.1+r.size:Nat):Int);omega,by rw [hI.2.2.2,hfu];show (if _ then _ else _)=_;rw [if_pos hin,if_pos hat];exact aj0 hr (by omega) (by show _<_+(q.1+r.size);omega)⟩,by show (l.getD k ⟨#[]⟩).size-(q.1+r.size)<_;omega,Le.sub (by repeat (first|trivial|refine ⟨.inr rfl,?_⟩|refine ⟨.inr (aR (by show (q.1:Int)+(r.size:Int)=((q.1+r.size:Nat):Int);omega)),?_⟩)) trivial⟩
   have hat:¬ (l.getD k ⟨#[]⟩).extract q.1 (q.1+r.size)=r:=by rw [tT] at hb;exact of_decide_eq_false hb
   refine G ?_;exact ⟨(q.1+1,q.2),⟨by show q.1+1≤_;omega,hI.2.1,by show q.2≤_+((q.1+1:Nat):Int);omega,by rw [hI.2.2.2,hfu];show (if _ then _ else _)=_;rw [if_pos hin,if_neg hat];exact aj0 hr (by omega) (by show _<_+(q.1+1);omega)⟩,by show (l.getD k ⟨#[]⟩).size-(q.1+1)<_;omega,Le.sub (by repeat (first|trivial|refine ⟨.inr rfl,?_⟩|refine ⟨.inr (aR (by show (q.1:Int)+1=((q.1+1:Nat):Int);omega)),?_⟩)) trivial⟩
  have hin:¬ q.1+r.size≤(l.getD k ⟨#[]⟩).size:=by have h0:=of_decide_eq_false hb;omega
  have hfin:nC l r (k+1)=q.2:=by show vP _ _ _ _ _=_;rw [hI.2.2.2,ad2 hin]
  refine bU ?_;refine tx ?_;refine Z1 ba ?_;refine Z1 mo ?_;refine cn ?_;exact ⟨k+1,by omega,by omega,Le.sub (by repeat (first|trivial|refine ⟨.inr rfl,?_⟩|refine ⟨.inr (aR (by first|omega|(show q.2=nC l r (k+1);exact hfin.symm))),?_⟩)) trivial⟩
 have hge:k=l.length:=by have h0:=of_decide_eq_false hb;omega
 refine G ?_;exact Rx rfl (aR (by rw [hge]))
instance (l:List bX):Pu (rH l):=⟨qD l⟩
instance (p:bX):Pu (vQ p):=⟨by unfold vQ;exact Pu.out⟩
def gM (s:ByteArray)(i:Nat)(ab:List ByteArray)(k:Nat):Bool:=decide (k<32)&&decide (0<(ab.getD k ByteArray.empty).size)&&decide (i+(ab.getD k ByteArray.empty).size≤s.size)&&decide (s.extract i (i+(ab.getD k ByteArray.empty).size)=ab.getD k ByteArray.empty)
theorem qB {s:ByteArray}{i:Nat}{ab:List ByteArray}{k:Nat}(h:gM s i ab k=true):k<32∧0<(ab.getD k ByteArray.empty).size∧i+(ab.getD k ByteArray.empty).size≤s.size:=by
 unfold gM at h;simp only [Bool.and_eq_true,decide_eq_true_eq] at h;exact ⟨h.1.1.1,h.1.1.2,h.1.2⟩
def cR (s:ByteArray)(ab:List ByteArray)(i:Nat)(A:List Int):Nat→Int
 | 0=>fB (s.extract i (i+1))+A.getD (i+1) 0
 | k+1=>if gM s i ab k=true∧2+A.getD (i+(ab.getD k ByteArray.empty).size) 0<cR s ab i A k then 2+A.getD (i+(ab.getD k ByteArray.empty).size) 0 else cR s ab i A k
def cD (s:ByteArray)(ab:List ByteArray):Nat→List Int
 | 0=>List.replicate (s.size+1) 0
 | d+1=>(cD s ab d).set (s.size-1-d) (cR s ab (s.size-1-d) (cD s ab d) ab.length)
theorem xH (s:ByteArray)(ab:List ByteArray):∀ d,(cD s ab d).length=s.size+1
 | 0=>by simp [cD]
 | d+1=>by unfold cD;rw [List.length_set,xH s ab d]
theorem aNG {s:ByteArray}{i:Nat}(h:i<s.size):(s.extract i (i+1)).size=1∧0≤fB (s.extract i (i+1))∧fB (s.extract i (i+1))≤3:=by
 have e:(s.extract i (i+1)).size=1:=by rw [←fK,aYL s i h];rfl
 have:=zJ (s.extract i (i+1)) 1;refine ⟨e,?_⟩;unfold fB;rw [e];omega
theorem aGQ {s:ByteArray}{ab:List ByteArray}{i:Nat}{A:List Int}{b:Int}(hi:i<s.size)(hA:∀ j,0≤A.getD j 0∧A.getD j 0≤b):∀ k,0≤cR s ab i A k∧cR s ab i A k≤b+3
 | 0=>by
  have h1:=aNG hi;have h2:=hA (i+1);unfold cR;omega
 | k+1=>by
  have h1:=aGQ hi hA (ab:=ab) k;have h2:=hA (i+(ab.getD k ByteArray.empty).size);unfold cR;split
  ·rename_i h;omega
  exact h1
theorem aQR (l:List Int)(i j:Nat)(x:Int):(l.set i x).getD j 0=if i=j∧i<l.length then x else l.getD j 0:=by
 rw [List.getD,List.getElem?_set];by_cases e:i=j
 ·by_cases h:i<l.length
  ·simp [e,e ▸ h]
  rw [if_pos e,if_neg h,if_neg (fun hc=>h hc.2)];rw [List.getD,List.getElem?_eq_none (by omega)]
 rw [if_neg e,if_neg (fun hc=>e hc.1)];rfl
theorem aNH (s:ByteArray)(ab:List ByteArray):∀ d,d≤s.size→∀ j,0≤(cD s ab d).getD j 0∧(cD s ab d).getD j 0≤3*(d:Int)
 | 0,_,j=>by
  have:(List.replicate (s.size+1) (0:Int)).getD j 0=0:=by
   rw [List.getD,List.getElem?_replicate];split<;>rfl
  unfold cD;omega
 | d+1,hd,j=>by
  have h1:=aNH s ab d (by omega);have h2:=aGQ (s:=s) (ab:=ab) (i:=s.size-1-d) (by omega) h1 ab.length;unfold cD;rw [aQR];split
  ·omega
  have:=h1 j;omega
def iQ (s:ByteArray)(ab:List ByteArray)(i:Nat)(A:List Int)(k:Nat):List Int:=A.set i (cR s ab i A k)
theorem aCB {s:ByteArray}{ab:List ByteArray}{i k j:Nat}{A:List Int}(h:i<A.length):(iQ s ab i A k).getD j 0=if i=j then cR s ab i A k else A.getD j 0:=by
 unfold iQ;rw [aQR];by_cases e:i=j
 ·rw [if_pos ⟨e,h⟩,if_pos e]
 rw [if_neg (fun hc=>e hc.1),if_neg e]
theorem aXY {s:ByteArray}{ab:List ByteArray}{i k:Nat}{A:List Int}:(iQ s ab i A k).set i (cR s ab i A (k+1))=iQ s ab i A (k+1):=by
 unfold iQ;rw [List.set_set]
theorem aCC (s:ByteArray)(ab:List ByteArray)(i k:Nat)(A:List Int):(iQ s ab i A k).length=A.length:=by unfold iQ;rw [List.length_set]
theorem aNK {s:ByteArray}{ab:List ByteArray}{i:Nat}(h:i<s.size):cD s ab (s.size-i)=iQ s ab i (cD s ab (s.size-(i+1))) ab.length:=by
 have e:s.size-i=(s.size-(i+1))+1:=by omega
 have e2:s.size-1-(s.size-(i+1))=i:=by omega
 rw [e];show (cD s ab (s.size-(i+1))).set (s.size-1-(s.size-(i+1))) _=_;rw [e2];rfl
theorem aq3 (l:List ByteArray)(hl:FewT l)(r:ByteArray)(hr:2≤r.size)(hr2:r.size≤8):PC Tryz.prog 252 [bB l,vs r] (vi ((fB r-2)*nC l r l.length-fB r)):=by
 refine FB 6 16 Tryz.func252 ?_;have hcs:=aX8 hr2;have hca:=anD hl r l.length;have hll:=hl.len;have hmul:=aX9 (a:=fB r-2) (c:=nC l r l.length) (by omega) (by omega);refine C (anB r (by omega)) ?_;refine C (aq2 l hl r (by omega) (by omega)) ?_;exact Rx rfl rfl
theorem aoK (s:ByteArray)(i:Nat)(ab:List ByteArray)(k:Nat)(hs:s.size≤1000000)(hi:i≤s.size)(hk:k<ab.length)(hb:(ab.getD k ByteArray.empty).size≤1000000):PC Tryz.prog 217 [vs s,vi i,bB ab,vi k] (vb (gM s i ab k)):=by
 refine FB 6 41 Tryz.func217 ?_;refine G ?_;refine Zg (R:=[]) rfl rfl rfl cA (fun hC=>by
  have hc:i+(ab.getD k ByteArray.empty).size≤s.size:=by simp only [Bool.and_eq_true,decide_eq_true_eq] at hC;omega
  exact OC.cast (aGK rfl rfl rfl rfl (by kernel_rfl) (by omega) (by omega) (by omega)) (show Av.val (.string (s.extract (i:Int).toNat ((i:Int)+((ab.getD k ByteArray.empty).size:Int)).toNat))=vs (s.extract i (i+(ab.getD k ByteArray.empty).size)) from by rw [aNI])) trivial ?_
 refine G ?_;refine Z4 (fun hC=>aGV rfl rfl rfl) ?_;refine G ?_;exact Rx rfl (bP (by unfold gM;rw [tT];congr 1;congr 1;(congr 1;(rw [decide_eq_decide];omega);(rw [decide_eq_decide];omega));(rw [decide_eq_decide];omega)))
theorem aqU (s:ByteArray)(ab:List ByteArray)(hs:s.size≤1000000)(hb2:∀ k,(ab.getD k ByteArray.empty).size≤1000000)(hbl:ab.length≤1000000):PC Tryz.prog 215 [vs s,bB ab] (aK (cD s ab s.size)):=by
 refine FB 3 78 Tryz.func215 ?_;refine G ?_;refine aZ rfl rfl (aGP (e:=3) (by_:=8) (z:=.int .i64 0) (m:=s.size+1) 0 rfl rfl rfl rfl (by kernel_rfl) (by kernel_rfl) rfl (by omega) (by omega)) ⟨rfl,trivial⟩ ?_;refine G ?_
 refine bM (ι:=Nat) (fun m=>⟨[(0,vs s),(1,bB ab),(5,.osl 1 0 (s.size+1)),(6,vi ((m:Int)-1))],[(0,.live 3 ((cD s ab (s.size-m)).map vi))]⟩) (fun m=>m≤s.size) (fun m=>m) s.size (Nat.le_refl _) (Le.sub (by repeat (first|trivial|refine ⟨.inr rfl,?_⟩)) ⟨by rw [Nat.sub_self];show _=some (Hs.live _ ((List.replicate (s.size+1) (0:Int)).map vi));rw [List.map_replicate];rfl,trivial⟩) ?_;intro m hI;refine Gd (fun hb=>?_) fun hb=>?_
 ·obtain ⟨i,rfl⟩:∃ i,m=i+1:=⟨m-1,by have h0:=of_decide_eq_true hb;omega⟩
  have h1:=aNG (s:=s) (i:=i) (by omega);have hbd:=aNH s ab (s.size-(i+1)) (by omega);have hal:=xH s ab (s.size-(i+1));refine bS (Le.sub (τ:=⟨[(0,vs s),(1,bB ab),(5,.osl 1 0 (s.size+1)),(6,vi (i:Int))],[(0,.live 3 ((cD s ab (s.size-(i+1))).map vi))]⟩) (by repeat (first|trivial|refine ⟨.inr rfl,?_⟩|refine ⟨.inr (aR (by omega)),?_⟩)) ⟨rfl,trivial⟩) ?_;have hb1:=hbd (i+1);refine G ?_
  refine Z1 (OC.cast (aGK rfl rfl rfl rfl (by kernel_rfl) (by omega) (by omega) (by omega)) (show Av.val (.string (s.extract (i:Int).toNat ((i:Int)+1).toNat))=vs (s.extract i (i+1)) from by have:=aNI s i 1;rw [←this];rfl)) ?_;refine Z1 (cq (anB _ (by rw [h1.1];omega)) rfl rfl) ?_;refine G ?_;refine eL (R:=[(_,.live _ _)]) rfl rfl (vL (j:=i+1) rfl rfl rfl (by kernel_rfl) (by omega) (by omega) (by omega)) ⟨rfl,trivial⟩ ?_;refine eL (R:=[(_,.live _ _)]) rfl rfl (fL (y:=vi ((cD s ab (s.size-(i+1))).getD (i+1) 0)) rfl rfl (by kernel_rfl) (vO (by rw [hal];omega))) ⟨rfl,trivial⟩ ?_;refine G ?_
  refine fP rfl rfl (lG (y:=vi (fB (s.extract i (i+1))+(cD s ab (s.size-(i+1))).getD (i+1) 0)) (cs':=(iQ s ab i (cD s ab (s.size-(i+1))) 0).map vi) rfl rfl rfl (by kernel_rfl) (by kernel_rfl) oH (by rw [List.length_map,hal];omega) (zQ _ _ _)) ⟨rfl,trivial⟩ ?_;refine G ?_;refine bM (ι:=Nat) (fun k=>⟨[(0,vs s),(1,bB ab),(5,.osl 1 0 (s.size+1)),(6,vi (i:Int)),(7,vi k)],[(0,.live 3 ((iQ s ab i (cD s ab (s.size-(i+1))) k).map vi))]⟩) (fun k=>k≤ab.length) (fun k=>ab.length-k) 0 (Nat.zero_le _) (Le.sub (by repeat (first|trivial|refine ⟨.inr rfl,?_⟩)) ⟨rfl,trivial⟩) ?_;intro k hI
  refine Gd (fun hb=>?_) fun hb=>?_
  ·have hlt:k<ab.length:=by have h0:=of_decide_eq_true hb;omega
   have hkb:=aGQ (s:=s) (ab:=ab) (i:=i) (A:=(cD s ab (s.size-(i+1)))) (by omega) hbd k;have hbk:=hb2 k;refine C (aoK s i ab k hs (by omega) hlt (hb2 k)) ?_;refine Zg (R:=[(_,.live _ _)]) rfl rfl rfl cA (fun hC=>by
    have hf:=qB hC;exact vL (t:=3) (cs:=(iQ s ab i (cD s ab (s.size-(i+1))) k).map vi) (j:=i+(ab.getD k ByteArray.empty).size) rfl rfl rfl (by kernel_rfl) (by omega) (by omega) (by omega)) ⟨rfl,trivial⟩ ?_
   refine Zg (R:=[(_,.live _ _)]) rfl rfl rfl cA (fun hC=>by
    have hf:=qB hC;have hat:(iQ s ab i (cD s ab (s.size-(i+1))) k).getD (i+(ab.getD k ByteArray.empty).size) 0=(cD s ab (s.size-(i+1))).getD (i+(ab.getD k ByteArray.empty).size) 0:=by rw [aCB (by omega),if_neg (by omega)]
    exact fL (t:=3) (cs:=(iQ s ab i (cD s ab (s.size-(i+1))) k).map vi) (y:=vi ((cD s ab (s.size-(i+1))).getD (i+(ab.getD k ByteArray.empty).size) 0)) rfl rfl (by kernel_rfl) (by rw [←hat];exact vO (by rw [aCC,xH];omega))) ⟨rfl,trivial⟩ ?_
   refine Zg (R:=[]) rfl rfl rfl cA (fun hC=>by
    have hbj:=hbd (i+(ab.getD k ByteArray.empty).size);exact xI rfl rfl rfl (by first|exact aNJ (by omega) (by omega)|rfl)) trivial ?_
   refine G ?_;refine Zg rfl rfl rfl cA (fun hC=>aCD rfl rfl rfl (by kernel_rfl) (by omega)) ⟨rfl,trivial⟩ ?_;refine Zg (R:=[(_,.live _ _)]) rfl rfl rfl cA (fun hC=>by
    have hat:(iQ s ab i (cD s ab (s.size-(i+1))) k).getD i 0=cR s ab i (cD s ab (s.size-(i+1))) k:=by rw [aCB (by omega),if_pos rfl]
    exact fL (t:=3) (cs:=(iQ s ab i (cD s ab (s.size-(i+1))) k).map vi) (y:=vi (cR s ab i (cD s ab (s.size-(i+1))) k)) rfl rfl (by kernel_rfl) (by rw [←hat];exact vO (by rw [aCC,xH];omega))) ⟨rfl,trivial⟩ ?_
   refine Gd (fun hb=>?_) fun hb=>?_
   ·have hq:=hb;simp only [Bool.and_eq_true,decide_eq_true_eq] at hq;have hf:=qB hq.1;have hbj:=hbd (i+(ab.getD k ByteArray.empty).size);have hat:(iQ s ab i (cD s ab (s.size-(i+1))) k).getD (i+(ab.getD k ByteArray.empty).size) 0=(cD s ab (s.size-(i+1))).getD (i+(ab.getD k ByteArray.empty).size) 0:=by rw [aCB (by omega),if_neg (by omega)]
    have hsk:cR s ab i (cD s ab (s.size-(i+1))) (k+1)=2+(cD s ab (s.size-(i+1))).getD (i+(ab.getD k ByteArray.empty).size) 0:=by show (if _ then _ else _)=_;rw [if_pos ⟨hq.1,hq.2⟩]
    have hst:iQ s ab i (cD s ab (s.size-(i+1))) (k+1)=(iQ s ab i (cD s ab (s.size-(i+1))) k).set i (2+(cD s ab (s.size-(i+1))).getD (i+(ab.getD k ByteArray.empty).size) 0):=by rw [←hsk,aXY]
    refine G ?_;refine eL (R:=[(_,.live _ _)]) rfl rfl (fL (t:=3) (cs:=(iQ s ab i (cD s ab (s.size-(i+1))) k).map vi) (y:=vi ((cD s ab (s.size-(i+1))).getD (i+(ab.getD k ByteArray.empty).size) 0)) rfl rfl (by kernel_rfl) (by rw [←hat];exact vO (by rw [aCC,xH];omega))) ⟨rfl,trivial⟩ ?_;refine G ?_
    refine fP rfl rfl (lG (y:=vi (2+(cD s ab (s.size-(i+1))).getD (i+(ab.getD k ByteArray.empty).size) 0)) (cs':=((iQ s ab i (cD s ab (s.size-(i+1))) k).set i (2+(cD s ab (s.size-(i+1))).getD (i+(ab.getD k ByteArray.empty).size) 0)).map vi) rfl rfl rfl (by kernel_rfl) (by kernel_rfl) oH (by rw [List.length_map,aCC,hal];omega) (zQ _ _ _)) ⟨rfl,trivial⟩ ?_;refine G ?_;exact ⟨k+1,by omega,by omega,Le.sub (by repeat (first|trivial|refine ⟨.inr rfl,?_⟩|refine ⟨.inr (aR (by omega)),?_⟩)) ⟨by rw [←hst];rfl,trivial⟩⟩
   have hst:iQ s ab i (cD s ab (s.size-(i+1))) (k+1)=iQ s ab i (cD s ab (s.size-(i+1))) k:=by
    have hsk:cR s ab i (cD s ab (s.size-(i+1))) (k+1)=cR s ab i (cD s ab (s.size-(i+1))) k:=by
     show (if _ then _ else _)=_;rw [if_neg (fun hc=>by rw [Bool.and_eq_false_iff,decide_eq_false_iff_not] at hb;rcases hb with hb|hb;(rw [hc.1] at hb;cases hb);exact hb hc.2)]
    unfold iQ;rw [hsk]
   refine G ?_;exact ⟨k+1,by omega,by omega,Le.sub (by repeat (first|trivial|refine ⟨.inr rfl,?_⟩|refine ⟨.inr (aR (by omega)),?_⟩)) ⟨by rw [←hst];rfl,trivial⟩⟩
  have hke:k=ab.length:=by have h0:=of_decide_eq_false hb;omega
  have hfin:=aNK (s:=s) (ab:=ab) (i:=i) (by omega);refine G ?_;exact ⟨i,by omega,by omega,Le.sub (by repeat (first|trivial|refine ⟨.inr rfl,?_⟩|refine ⟨.inr (aR (by omega)),?_⟩)) ⟨by rw [hfin,←hke];rfl,trivial⟩⟩
 have hm0:m=0:=by have h0:=of_decide_eq_false hb;omega
 refine bU ?_;refine aD ?_;subst hm0;refine bS (Le.freeze 5 0 (fun j=>vi ((cD s ab s.size).getD j 0)) rfl rfl (by rw [List.length_map,xH]) (fun j hj=>aUH _ j (by rw [xH];exact hj))) ?_;refine G ?_;exact Rx rfl (by unfold aK;rw [xH];rfl)
end Go.Proofs.YtgajclaoaphgoaaGreatDoor
