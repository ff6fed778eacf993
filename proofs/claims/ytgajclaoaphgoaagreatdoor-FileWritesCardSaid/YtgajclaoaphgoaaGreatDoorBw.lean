/- Parts of the proof of a law of this seat: rules and contracts; no conditions. -/
import Derived.Test.YtgajclaoaphgoaaGreatDoorVa
import Derived.Test.YtgajclaoaphgoaaGreatDoorWireP
import Derived.Test.YtgajclaoaphgoaaGreatDoorBm
import Derived.Test.YtgajclaoaphgoaaGreatDoorProg
import Derived.KernelRfl
import Derived.Laws.StructEq
set_option maxHeartbeats 6400000
set_option maxRecDepth 100000
set_option linter.unusedVariables false
set_option linter.unusedSimpArgs false
namespace Go.Proofs.YtgajclaoaphgoaaGreatDoor
open Go.RowKit
theorem aG1 {p:ByteArray}{a b:Nat}(h:a≤b)(hb:b≤p.size):(p.extract a b).size=b-a:=by rw [ByteArray.size_extract];omega
theorem aG2 {p r:ByteArray}(hr:0<r.size):∀ (f i fr:Nat) (out:List ByteArray),fr≤i→i≤p.size→wt (nE p r f i fr out)≤wt out+(p.size-fr)+1
 | 0,i,fr,out,h1,h2=>by
  have:=aG1 (p:=p) (a:=fr) (b:=p.size) (by omega) (Nat.le_refl _);unfold nE;rw [vR];simp only [wt];omega
 | f+1,i,fr,out,h1,h2=>by
  unfold nE;split
  ·split
   ·have h3:=aG2 (p:=p) hr f (i+r.size) (i+r.size) (out++[p.extract fr i]) (Nat.le_refl _) (by omega);have:=aG1 (p:=p) (a:=fr) (b:=i) h1 h2;rw [vR] at h3;simp only [wt] at h3;omega
   have:=aG2 (p:=p) hr f (i+1) fr out (by omega) (by omega);omega
  have:=aG1 (p:=p) (a:=fr) (b:=p.size) (by omega) (Nat.le_refl _);rw [vR];simp only [wt];omega
theorem aNZ {r:ByteArray}(hr:0<r.size)(l:List ByteArray):∀ k,k≤l.length→wt (tV l r k)≤wt (l.take k)
 | 0,_=>Nat.le_refl _
 | k+1,hk=>by
  have h1:=aNZ hr l k (by omega);have h2:=aG2 hr ((l.getD k ByteArray.empty).size+1) 0 0 (tV l r k) (p:=l.getD k ByteArray.empty) (Nat.le_refl _) (Nat.zero_le _);have e:l.take (k+1)=l.take k++[l.getD k ByteArray.empty]:=by rw [List.take_add_one];simp [show k<l.length from hk]
  unfold tV;rw [e,vR];have:wt [l.getD k ByteArray.empty]=(l.getD k ByteArray.empty).size+1:=by simp [wt]
  omega
theorem aYW {r:ByteArray}(hr:0<r.size)(l:List ByteArray):wt (tV l r l.length)≤wt l:=by
 have:=aNZ hr l l.length (Nat.le_refl _);rwa [List.take_length] at this
def adR (b:fE):Prop:=b.1.size=0∨(2≤b.1.size∧b.1.size≤8)
theorem aoN {l:List ByteArray}{p:ByteArray}{i:Nat}{b:fE}(h:adR b):∀ k,adR (vS l p i b k)
 | 0=>h
 | k+1=>by
  have h1:=aoN h (l:=l) (p:=p) (i:=i) k;unfold vS;split
  ·rename_i hc;unfold aNY;split
   ·right;show 2≤(p.extract i (i+(k+2))).size∧(p.extract i (i+(k+2))).size≤8;rw [aCF p i (k+2) hc.2];omega
   exact h1
  exact h1
theorem aoO {l:List ByteArray}{p:ByteArray}{b:fE}(h:adR b):∀ k,adR (aG0 l p b k)
 | 0=>h
 | k+1=>aoN (aoO h k) 7
theorem aoP (l:List ByteArray):∀ k,adR (rA l k)
 | 0=>.inl rfl
 | k+1=>aoO (aoP l k) _
def pC (l:List ByteArray):ByteArray:=(rA l l.length).1
def sE (most:Int):Nat→List ByteArray→List ByteArray→List ByteArray
 | 0,out,_=>out
 | f+1,out,parts=>if (out.length:Int)<most∧out.length<32 then (if pC parts=⟨#[]⟩ then out else sE most f (out++[pC parts]) (tV parts (pC parts) parts.length)) else out
def aYX (l:List ByteArray)(most:Int):List ByteArray:=sE most 33 [] l
theorem aq8 (l:List ByteArray)(hl:wt l≤5000000)(most:Int):PC Tryz.prog 147 [bB l,vi most] (bB (aYX l most)):=by
 refine FB 4 33 Tryz.func147 ?_;have hll0:=aCL l;refine G ?_;refine Z2 (aC5 (ps:=[]) (xs:=[]) (e:=9) (by_:=16) (zs:=[.string ⟨#[]⟩]) 2 rfl (by kernel_rfl) (by kernel_rfl) rfl rfl rfl rfl (by decide)) ?_;refine G ?_;refine aZ rfl rfl (iG (e:=9) (k:=1) (by_:=16) (zs:=[.string ⟨#[]⟩]) (cs:=[]) (ds:=l.map vs) 3 rfl rfl rfl (by kernel_rfl) (by kernel_rfl) rfl (by decide) (by decide) rfl (by simp) (aYP _) (by omega) (by omega)) ⟨rfl,rfl,trivial⟩ ?_;refine G ?_
 refine bS (Le.freeze 5 3 (fun j=>vs (l.getD j ByteArray.empty)) rfl rfl (by simp) (fun j hj=>aCN l j (by omega))) ?_;refine bS (Le.nameNil 6 0 1 9 rfl rfl) ?_;refine bS (Le.sub (τ:=⟨[(1,vi most),(5,bB l),(6,.osl 1 0 0)],[(0,.live 9 []),(1,.unborn)]⟩) (by refine ⟨.inr rfl,.inr (by show Av.sl 1 (0+l.length) _=bB l;rw [Nat.zero_add];rfl),.inr rfl,trivial⟩) ⟨rfl,rfl,trivial⟩) ?_
 refine LP (ι:=aYR) (fun q=>[(5,bB q.2),(6,.osl 1 0 q.1.length)]) (fun q=>[(0,.live 9 (q.1.map vs))]) (fun q=>aYX l most=sE most (33-q.1.length) q.1 q.2∧q.1.length≤32∧wt q.2≤5000000) (fun q=>33-q.1.length) ([],l) (⟨rfl,Nat.zero_le _,hl⟩) (hl:=(Le.sub (by repeat (first|trivial|refine ⟨.inr rfl,?_⟩|refine ⟨.inr (aR (by omega)),?_⟩)) (by repeat (first|trivial|refine ⟨rfl,?_⟩)))) ?_;intro q hI;refine G ?_;refine Zg rfl rfl rfl cA (fun hC=>aeB rfl rfl (by kernel_rfl)) ⟨rfl,trivial⟩ ?_;refine Gd (fun hb=>?_) fun hb=>?_
 ·have hlt:(q.1.length:Int)<most∧q.1.length<32:=by simp only [Bool.and_eq_true,decide_eq_true_eq] at hb;omega
  have hro:adR (rA q.2 q.2.length):=aoP _ _;refine C (aq7 q.2 (aGX hI.2.2)) ?_;refine Z1 (aGV rfl rfl rfl) ?_;refine Gd (fun hb=>?_) fun hb=>?_
  ·have hem:(pC q.2)=⟨#[]⟩:=by rw [show ((rA q.2 q.2.length).1.toList==(⟨#[]⟩:ByteArray).toList)=_ from aGT _] at hb;exact of_decide_eq_true hb
   have hfin:aYX l most=q.1:=by rw [hI.1,show 33-q.1.length=(32-q.1.length)+1 from by omega];show (if _ then _ else _)=_;rw [if_pos hlt,if_pos hem]
   refine aD ?_;refine bS (Le.freeze 6 0 (fun j=>vs (q.1.getD j ByteArray.empty)) rfl rfl (by simp) (aCN _)) ?_;refine G ?_;exact Rx rfl (by rw [hfin];rfl)
  have hem:¬ (pC q.2)=⟨#[]⟩:=by rw [show ((rA q.2 q.2.length).1.toList==(⟨#[]⟩:ByteArray).toList)=_ from aGT _] at hb;exact of_decide_eq_false hb
  have hx2:2≤(pC q.2).size∧(pC q.2).size≤8:=by
   rcases hro with h9|h9
   ·exact absurd (oF (List.eq_nil_of_length_eq_zero (by rw [fK];exact h9))) hem
   exact h9
  have hch:aYX l most=sE most (33-(q.1++[(pC q.2)]).length) (q.1++[(pC q.2)]) (tV q.2 (pC q.2) q.2.length):=by rw [hI.1,show 33-q.1.length=(32-q.1.length)+1 from by omega];show (if _ then _ else _)=_;rw [if_pos hlt,if_neg hem];congr 1;(first|(simp;done)|(simp;omega))
  refine aQ ?_;refine sq ?_;refine Z1 mo ?_;refine Z1 mo ?_;refine Z1 (fO (ps:=[.tmp 26]) (xs:=[.val _]) (e:=9) (k:=1) (by_:=16) (zs:=[.string ⟨#[]⟩]) rfl (by kernel_rfl) (by kernel_rfl) rfl rfl rfl (by decide) (by decide)) ?_;refine aZ rfl rfl (iG (e:=9) (k:=1) (by_:=16) (zs:=[.string ⟨#[]⟩]) (cs:=q.1.map vs) (ds:=[vs (pC q.2)]) 1 rfl rfl rfl (by kernel_rfl) (by kernel_rfl) rfl (by decide) (by decide) (by simp) rfl (aNV _) (by omega) (by omega)) ⟨rfl,rfl,trivial⟩ ?_;refine Z1 aB ?_;refine cn ?_
  refine bS (Le.trans (Le.swap (τ:=⟨[(1,vi most),(5,bB q.2),(6,.osl 1 0 (q.1.length+1)),(7,vs (pC q.2))],[(0,.live 9 ((q.1++[(pC q.2)]).map vs)),(1,.dead)]⟩) 0 1 (by simp) (by simp) ⟨rfl,(iR _ _ (bV _)).symm,rfl,rfl,trivial⟩ ⟨by show aL _ 1=some (Hs.live _ (((q.1++[(pC q.2)]).map vs).map _));rw [aCO,show ((q.1++[(pC q.2)]).map vs)=q.1.map vs++[vs (pC q.2)] from List.map_append];rfl,rfl,trivial⟩) (Le.reset (τ:=⟨[(1,vi most),(5,bB q.2),(6,.osl 1 0 (q.1.length+1)),(7,vs (pC q.2))],[(0,.live 9 ((q.1++[(pC q.2)]).map vs)),(1,.unborn)]⟩) [1] (by simp) (by repeat (first|trivial|refine ⟨.inr rfl,?_⟩)) ⟨by simp [aE],aE.of_pure _ (bV _),by simp [aE],by simp [aE],trivial⟩ ⟨by rw [if_neg (by decide)];exact ⟨rfl,aCP _⟩,by rw [if_pos (by decide)],trivial⟩)) ?_
  refine G ?_;refine Z1 (cq (aq5 q.2 (aGX hI.2.2) hI.2.2 _ (by omega) (by omega)) rfl rfl) ?_;refine G ?_;exact ⟨((q.1++[(pC q.2)]),tV q.2 (pC q.2) q.2.length),⟨hch,by show (q.1++[_]).length≤32;rw [List.length_append];simp;omega,by have h9:=aYW (r:=(pC q.2)) (by omega) q.2;show wt (tV _ _ _)≤_;omega⟩,by show 33-(q.1++[_]).length<_;rw [List.length_append];simp;omega,Le.sub (by repeat (first|trivial|refine ⟨.inr rfl,?_⟩|refine ⟨.inr (by show bN _ 6=Av.osl 1 0 (q.1++[(pC q.2)]).length;rw [List.length_append];rfl),?_⟩)) ⟨rfl,rfl,trivial⟩⟩
 have hge:¬ ((q.1.length:Int)<most∧q.1.length<32):=by intro hc;simp only [Bool.and_eq_false_iff,decide_eq_false_iff_not] at hb;omega
 have hfin:aYX l most=q.1:=by rw [hI.1];cases 33-q.1.length<;>simp [sE,hge]
 refine bU ?_;refine aD ?_;refine bS (Le.freeze 6 0 (fun j=>vs (q.1.getD j ByteArray.empty)) rfl rfl (by simp) (aCN _)) ?_;refine G ?_;exact Rx rfl (by rw [hfin];rfl)
open Go.RowKit Go.Maps
def stands (p r:ByteArray)(i:Nat):Prop:=i+r.size≤p.size∧p.extract i (i+r.size)=r
instance (p r:ByteArray) (i:Nat):Decidable (stands p r i):=by unfold stands;infer_instance
def eM (p r:ByteArray):Nat→Nat × Nat
 | 0=>(0,0)
 | i+1=>if stands p r i∧(eM p r i).2≤i then ((eM p r i).1+1,i+r.size) else eM p r i
theorem aN0 {p r:ByteArray}{i:Nat}(h:stands p r i)(he:(eM p r i).2≤i)(hr:0<r.size):∀ d,d<r.size→eM p r (i+1+d)=((eM p r i).1+1,i+r.size)
 | 0,_=>by
  show (if _ then _ else _)=_;rw [if_pos ⟨h,he⟩]
 | d+1,hd=>by
  have h1:=aN0 h he hr d (by omega);rw [←Nat.add_assoc];show (if stands p r (i+1+d)∧(eM p r (i+1+d)).2≤i+1+d then _ else eM p r (i+1+d))=_;rw [h1,if_neg (fun hc=>by have:=hc.2;simp at this;omega)]
theorem aN1 {p r:ByteArray}{i:Nat}(h:¬ i+r.size≤p.size):∀ d,eM p r (i+d)=eM p r i
 | 0=>rfl
 | d+1=>by
  rw [←Nat.add_assoc];show (if stands p r (i+d)∧_ then _ else eM p r (i+d))=_;rw [if_neg (fun hc=>by have:=hc.1.1;omega)];exact aN1 h d
theorem aCQ {p r:ByteArray}(hr:0<r.size):∀ (f i:Nat) (n:Int),p.size<f+i→(eM p r i).2≤i→i≤p.size→vP p r f i n+(eM p r i).1=n+(eM p r p.size).1
 | 0,i,n,h,_,hi=>by omega
 | f+1,i,n,h,he,hi=>by
  unfold vP;split
  ·rename_i hin;split
   ·rename_i hat;have hs:stands p r i:=⟨hin,hat⟩
    have h1:=aN0 hs he hr (r.size-1) (by omega);have e:i+1+(r.size-1)=i+r.size:=by omega
    rw [e] at h1;have h2:=aCQ (p:=p) hr f (i+r.size) (n+1) (by omega) (by rw [h1];exact Nat.le_refl _) hin;rw [h1] at h2;simp at h2 ⊢;omega
   rename_i hat;have h1:eM p r (i+1)=eM p r i:=by
    show (if _ then _ else _)=_;rw [if_neg (fun hc=>hat hc.1.2)]
   have h2:=aCQ (p:=p) hr f (i+1) n (by omega) (by rw [h1];omega) (by omega);rw [h1] at h2;exact h2
  rename_i hin;have h1:=aN1 (p:=p) (r:=r) hin (p.size-i);rw [show i+(p.size-i)=p.size from by omega] at h1;rw [h1]
theorem aG3 {p r:ByteArray}{i n:Nat}{s:MM}(h1:MI s.1)(h2:MI s.2)(hp:i+n≤p.size)(hn:n≠r.size):bO (jY p i n s).1 r=bO s.1 r∧bO (jY p i n s).2 r=bO s.2 r:=by
 unfold jY;have hne:¬ r=p.extract i (i+n):=fun e=>hn (by rw [e,aCF p i n hp]);split
 ·exact ⟨by rw [rG h1,if_neg hne],by rw [rG h2,if_neg hne]⟩
 exact ⟨rfl,rfl⟩
theorem aYY {p r:ByteArray}{i:Nat}{s:MM}(h1:MI s.1)(h2:MI s.2)(hc:stands p r i)(he:bO s.2 r≤i):
 bO (jY p i r.size s).1 r=bO s.1 r+1∧bO (jY p i r.size s).2 r=((i+r.size:Nat):Int):=by
 unfold jY;rw [hc.2,if_pos he];exact ⟨by show bO (s.1.put _ _) r=_;rw [rG h1,if_pos rfl],by show bO (s.2.put _ _) r=_;rw [rG h2,if_pos rfl]⟩
theorem aYZ {p r:ByteArray}{i:Nat}{s:MM}(h1:MI s.1)(h2:MI s.2)(hp:i+r.size≤p.size)(hc:¬ (stands p r i∧bO s.2 r≤i)):
 bO (jY p i r.size s).1 r=bO s.1 r∧bO (jY p i r.size s).2 r=bO s.2 r:=by
 unfold jY;by_cases hat:p.extract i (i+r.size)=r
 ·rw [hat,if_neg (fun he=>hc ⟨⟨hp,hat⟩,he⟩)];exact ⟨rfl,rfl⟩
 have hne:¬ r=p.extract i (i+r.size):=fun e=>hat e.symm;split
 ·exact ⟨by show bO (s.1.put _ _) r=_;rw [rG h1,if_neg hne],by show bO (s.2.put _ _) r=_;rw [rG h2,if_neg hne]⟩
 exact ⟨rfl,rfl⟩
theorem aN2 {p r:ByteArray}{i b:Nat}{s:MM}(hS:Sane b s)(hp:p.size≤1000000000)(h2:2≤r.size):∀ k,
 (k+1<r.size→bO (fA p i s k).1 r=bO s.1 r∧bO (fA p i s k).2 r=bO s.2 r)∧
 (r.size≤k+1→k≤7→(stands p r i∧bO s.2 r≤i→bO (fA p i s k).1 r=bO s.1 r+1∧bO (fA p i s k).2 r=((i+r.size:Nat):Int))∧
  (¬ (stands p r i∧bO s.2 r≤i)→bO (fA p i s k).1 r=bO s.1 r∧bO (fA p i s k).2 r=bO s.2 r))
 | 0=>⟨fun _=>⟨rfl,rfl⟩,fun h=>by omega⟩
 | k+1=>by
  obtain ⟨ih1,ih2⟩:=aN2 hS hp h2 (i:=i) k;have hT:=hS.row hp (i:=i) k;have hu:fA p i s (k+1)=if k+2≤8∧i+(k+2)≤p.size then jY p i (k+2) (fA p i s k) else fA p i s k:=rfl
  refine ⟨fun hk=>?_,fun hk hk7=>?_⟩
  ·obtain ⟨e1,e2⟩:=ih1 (by omega);rw [hu];split
   ·rename_i hc;obtain ⟨f1,f2⟩:=aG3 (r:=r) hT.m1 hT.m2 hc.2 (by omega);exact ⟨f1.trans e1,f2.trans e2⟩
   exact ⟨e1,e2⟩
  rcases Nat.lt_or_ge (k+1) r.size with h3|h3
  ·have hn:r.size=k+2:=by omega
   obtain ⟨e1,e2⟩:=ih1 h3;refine ⟨fun hc=>?_,fun hc=>?_⟩
   ·have hin:i+(k+2)≤p.size:=by have:=hc.1.1;omega
    rw [hu,if_pos ⟨by omega,hin⟩,←hn];obtain ⟨f1,f2⟩:=aYY hT.m1 hT.m2 hc.1 (by rw [e2];exact hc.2);exact ⟨by rw [f1,e1],f2⟩
   rw [hu];split
   ·rename_i hd;rw [←hn];obtain ⟨f1,f2⟩:=aYZ (p:=p) (r:=r) (i:=i) hT.m1 hT.m2 (by rw [hn];exact hd.2) (by rw [e2];exact hc);exact ⟨f1.trans e1,f2.trans e2⟩
   exact ⟨e1,e2⟩
  obtain ⟨g1,g2⟩:=ih2 h3 (by omega);refine ⟨fun hc=>?_,fun hc=>?_⟩
  ·obtain ⟨e1,e2⟩:=g1 hc;rw [hu];split
   ·rename_i hd;obtain ⟨f1,f2⟩:=aG3 (r:=r) hT.m1 hT.m2 hd.2 (by omega);exact ⟨f1.trans e1,f2.trans e2⟩
   exact ⟨e1,e2⟩
  obtain ⟨e1,e2⟩:=g2 hc;rw [hu];split
  ·rename_i hd;obtain ⟨f1,f2⟩:=aG3 (r:=r) hT.m1 hT.m2 hd.2 (by omega);exact ⟨f1.trans e1,f2.trans e2⟩
  exact ⟨e1,e2⟩
theorem aN3 {p r:ByteArray}{M:DataW Unit}{b:Nat}(hM:MI M)(hs:Maps.size M≤b)(hg:∀ t,0≤bO M t∧bO M t≤b)(hp:p.size≤1000000000)(h2:2≤r.size)(h8:r.size≤8):∀ i,bO (iY p M i).1 r=bO M r+((eM p r i).1:Int)∧bO (iY p M i).2 r=((eM p r i).2:Int)
 | 0=>⟨by show bO M r=_;simp [eM],rfl⟩
 | i+1=>by
  obtain ⟨e1,e2⟩:=aN3 hM hs hg hp h2 h8 i;have hS:=Sane.part hM hs hg hp i;obtain ⟨_,g⟩:=aN2 (i:=i) hS hp h2 7;obtain ⟨g1,g2⟩:=g (by omega) (Nat.le_refl _);show bO (fA p i (iY p M i) 7).1 r=_∧bO (fA p i (iY p M i) 7).2 r=_;have hgr:eM p r (i+1)=if stands p r i∧(eM p r i).2≤i then ((eM p r i).1+1,i+r.size) else eM p r i:=rfl
  by_cases hc:stands p r i∧(eM p r i).2≤i
  ·obtain ⟨f1,f2⟩:=g1 ⟨hc.1,by rw [e2];have:=hc.2;omega⟩;rw [hgr,if_pos hc,f1,f2,e1];exact ⟨by simp only [];omega,rfl⟩
  obtain ⟨f1,f2⟩:=g2 (fun hd=>hc ⟨hd.1,by have:=hd.2;rw [e2] at this;omega⟩);rw [hgr,if_neg hc,f1,f2];exact ⟨e1,e2⟩
theorem aCR {l:List ByteArray}(h:FewT l){r:ByteArray}(h2:2≤r.size)(h8:r.size≤8):∀ k,bO (dQ l k) r=nC l r k
 | 0=>rfl
 | k+1=>by
  have ih:=aCR h h2 h8 k;obtain ⟨m1,m2,m3⟩:=Sane.all h k;have hs:=h.size k;obtain ⟨e1,_⟩:=aN3 (r:=r) m1 m2 m3 (p:=l.getD k ⟨#[]⟩) (by omega) h2 h8 (l.getD k ⟨#[]⟩).size;have e2:=aCQ (p:=l.getD k ⟨#[]⟩) (r:=r) (by omega) ((l.getD k ⟨#[]⟩).size+1) 0 (nC l r k) (by omega) (Nat.le_refl _) (Nat.zero_le _);have e3:(eM (l.getD k ⟨#[]⟩) r 0).1=0:=rfl;show bO (iY (l.getD k ⟨#[]⟩) (dQ l k) (l.getD k ⟨#[]⟩).size).1 r=vP (l.getD k ⟨#[]⟩) r ((l.getD k ⟨#[]⟩).size+1) 0 (nC l r k);rw [e1,ih];rw [e3] at e2;omega
def vT (D:DataW Unit):Prop:=∀ s,Maps.has D (kS s)=decide (0<bO D s)
theorem aY0 {p:ByteArray}{i n b:Nat}{s:MM}(hS:Sane b s)(h:vT s.1):vT (jY p i n s).1:=by
 unfold jY;split
 ·intro t;show Maps.has (s.1.put (kS (p.extract i (i+n))) (iv (bO s.1 (p.extract i (i+n))+1))) (kS t)=decide (0<bO (s.1.put (kS (p.extract i (i+n))) (iv (bO s.1 (p.extract i (i+n))+1))) t);rw [aM4 hS.m1,rG hS.m1,h t];by_cases e:t=p.extract i (i+n)
  ·have:=hS.g1 (p.extract i (i+n));rw [if_pos e];simp [e];omega
  rw [if_neg e];simp [e]
 exact h
theorem aN4 {p:ByteArray}{i b:Nat}{s:MM}(hp:p.size≤1000000000)(hS:Sane b s)(h:vT s.1):∀ k,vT (fA p i s k).1
 | 0=>h
 | k+1=>by
  have h1:=aN4 hp hS h (i:=i) k;unfold fA;split
  ·exact aY0 (hS.row hp k) h1
  exact h1
theorem aN5 {p:ByteArray}{M:DataW Unit}{b:Nat}(hM:MI M)(hs:Maps.size M≤b)(hg:∀ t,0≤bO M t∧bO M t≤b)(h:vT M)(hp:p.size≤1000000000):∀ k,vT (iY p M k).1
 | 0=>h
 | k+1=>aN4 hp (Sane.part hM hs hg hp k) (aN5 hM hs hg h hp k) 7
theorem aG4 {l:List ByteArray}(h:FewT l):∀ k,vT (dQ l k)
 | 0=>fun s=>rfl
 | k+1=>by
  obtain ⟨h1,h2,h3⟩:=Sane.all h k;have:=h.size k;exact aN5 h1 h2 h3 (aG4 h k) (by omega) _
theorem aN6 {p r:ByteArray}:∀ i,(eM p r i).1=0→(eM p r i).2=0
 | 0,_=>rfl
 | i+1,h=>by
  have hu:eM p r (i+1)=if stands p r i∧(eM p r i).2≤i then ((eM p r i).1+1,i+r.size) else eM p r i:=rfl
  rw [hu] at h ⊢;split at h
  ·simp at h
  rename_i hc;rw [if_neg hc];exact aN6 i h
theorem aN7 {p r:ByteArray}:∀ n,(0<(eM p r n).1↔∃ i,i<n∧stands p r i)
 | 0=>by simp [eM]
 | n+1=>by
  have ih:=aN7 (p:=p) (r:=r) n;have hu:eM p r (n+1)=if stands p r n∧(eM p r n).2≤n then ((eM p r n).1+1,n+r.size) else eM p r n:=rfl
  constructor
  ·intro h;rw [hu] at h;split at h
   ·rename_i hc;exact ⟨n,by omega,hc.1⟩
   obtain ⟨i,h1,h2⟩:=ih.1 h;exact ⟨i,by omega,h2⟩
  rintro ⟨i,h1,h2⟩;rw [hu];split
  ·show 0<_+1;omega
  rename_i hc;rcases Nat.lt_or_ge i n with h3|h3
  ·exact ih.2 ⟨i,h3,h2⟩
  obtain rfl:i=n:=by omega
  refine Nat.pos_of_ne_zero fun h0=>hc ⟨h2,?_⟩;rw [aN6 i h0];omega
def Vis (l:List ByteArray)(k:Nat)(s:ByteArray):Prop:=∃ j,j<k∧∃ i,stands (l.getD j ⟨#[]⟩) s i
theorem aN8 {l:List ByteArray}{r:ByteArray}(hr:0<r.size)(k:Nat):nC l r (k+1)=nC l r k+((eM (l.getD k ⟨#[]⟩) r (l.getD k ⟨#[]⟩).size).1:Int):=by
 have e2:=aCQ (p:=l.getD k ⟨#[]⟩) (r:=r) hr ((l.getD k ⟨#[]⟩).size+1) 0 (nC l r k) (by omega) (Nat.le_refl _) (Nat.zero_le _);have e3:(eM (l.getD k ⟨#[]⟩) r 0).1=0:=rfl;rw [e3] at e2;show vP (l.getD k ⟨#[]⟩) r ((l.getD k ⟨#[]⟩).size+1) 0 (nC l r k)=_;omega
theorem aN9 {l:List ByteArray}{r:ByteArray}(hr:0<r.size):∀ k,0≤nC l r k
 | 0=>by simp [nC]
 | k+1=>by have:=aN9 (l:=l) hr k;rw [aN8 hr];omega
theorem aG6 {l:List ByteArray}{r:ByteArray}(hr:0<r.size):∀ k,(0<nC l r k↔Vis l k r)
 | 0=>⟨fun h=>by simp [nC] at h,fun ⟨j,h,_⟩=>by omega⟩
 | k+1=>by
  have ih:=aG6 (l:=l) hr k;have hn:=aN9 (l:=l) hr k;have hg:=aN7 (p:=l.getD k ⟨#[]⟩) (r:=r) (l.getD k ⟨#[]⟩).size;rw [aN8 hr];constructor
  ·intro h;by_cases h1:0<nC l r k
   ·obtain ⟨j,h2,h3⟩:=ih.1 h1;exact ⟨j,by omega,h3⟩
   obtain ⟨i,_,h3⟩:=hg.1 (by omega);exact ⟨k,by omega,i,h3⟩
  rintro ⟨j,h1,i,h2⟩;rcases Nat.lt_or_ge j k with h3|h3
  ·have:=ih.2 ⟨j,h3,i,h2⟩;omega
  obtain rfl:j=k:=by omega
  have hi:i<(l.getD j ⟨#[]⟩).size:=by have:=h2.1;omega
  have:=hg.2 ⟨i,hi,h2⟩;omega
theorem aG7 {l:List ByteArray}(h:FewT l){s:ByteArray}(k:Nat):Maps.has (dQ l k) (kS s)=true↔(2≤s.size∧s.size≤8)∧Vis l k s:=by
 constructor
 ·intro hh;have h1:=aCK h k s hh;rw [aG4 h k s,decide_eq_true_eq,aCR h h1.1 h1.2 k] at hh;exact ⟨h1,(aG6 (by omega) k).1 hh⟩
 rintro ⟨h1,h2⟩;rw [aG4 h k s,decide_eq_true_eq,aCR h h1.1 h1.2 k];exact (aG6 (by omega) k).2 h2
def oL (l:List ByteArray)(V:ByteArray→Prop)(b:fE):Prop:=
 (b=(⟨#[]⟩,0)∧∀ s,V s→iW l s≤0)∨(V b.1∧b.2=iW l b.1∧0<b.2∧∀ s,V s→0<iW l s→s=b.1∨eO b (s,iW l s)=true)
theorem aY1 {s:Int}{row:ByteArray}{b:fE}(hb:0<b.2):xM s row b=eO (row,s) b:=by
 unfold xM eO;by_cases h1:s=b.2
 ·rw [if_neg (by simpa using h1)];have e1:decide (s>b.2)=false:=by simp;omega
  have e2:(s==b.2)=true:=by simpa using h1
  have e3:decide (s>0)=true:=by simp;omega
  rw [e1,e2,e3];by_cases h2:(row.size:Int)=b.1.size
  ·rw [if_neg (by simpa using h2)];have e4:decide ((row.size:Int)>b.1.size)=false:=by simp;omega
   have e5:((row.size:Int)==(b.1.size:Int))=true:=by simpa using h2
   rw [e4,e5];simp
  rw [if_pos (by simpa using h2)];have e5:((row.size:Int)==(b.1.size:Int))=false:=by simpa using h2
  rw [e5];simp
 rw [if_pos (by simpa using h1)];have e2:(s==b.2)=false:=by simpa using h1
 rw [e2];simp
theorem aY2 {l:List ByteArray}{V:ByteArray→Prop}{b:fE}{row:ByteArray}(h:oL l V b):oL l (fun s=>V s∨s=row) (if xM (iW l row) row b=true then (row,iW l row) else b):=by
 rcases h with ⟨rfl,h2⟩|⟨h1,h2,h3,h4⟩
 ·have e:xM (iW l row) row (⟨#[]⟩,0)=decide (iW l row>0):=by
   unfold xM;by_cases h5:iW l row>0
   ·simp [h5]
   have:¬ iW l row>0:=h5;simp [this]
  rw [e];split
  ·rename_i h5;rw [decide_eq_true_eq] at h5;refine .inr ⟨.inr rfl,rfl,h5,fun s hs hp=>?_⟩;rcases hs with hs|hs
   ·have:=h2 s hs;omega
   exact .inl hs
  rename_i h5;rw [decide_eq_true_eq] at h5;refine .inl ⟨rfl,fun s hs=>?_⟩;rcases hs with hs|hs
  ·exact h2 s hs
  rw [hs];omega
 rw [aY1 h3];split
 ·rename_i h5;have hp:0<iW l row:=by
   unfold eO at h5;split at h5
   ·simp at h5;omega
   rename_i h6;have:iW l row=b.2:=by simpa using h6
   omega
  refine .inr ⟨.inr rfl,rfl,hp,fun s hs hsp=>?_⟩;rcases hs with hs|hs
  ·rcases h4 s hs hsp with h6|h6
   ·subst h6;rw [←h2];exact .inr h5
   exact .inr (aGR h5 h6)
  exact .inl hs
 rename_i h5;have h5':eO (row,iW l row) b=false:=by simpa using h5
 refine .inr ⟨.inl h1,h2,h3,fun s hs hsp=>?_⟩;rcases hs with hs|hs
 ·exact h4 s hs hsp
 subst hs;by_cases e:s=b.1
 ·exact .inl e
 rcases aNP (a:=(s,iW l s)) (b:=b) e with h6|h6
 ·rw [h5'] at h6;cases h6
 exact .inr h6
theorem oL.same {l:List ByteArray}{V W:ByteArray→Prop}{b:fE}(h:oL l V b)(hv:∀ s,V s↔W s):oL l W b:=by
 have e:V=W:=funext fun s=>propext (hv s);rwa [←e]
def aOA (p:ByteArray)(i k:Nat)(s:ByteArray):Prop:=∃ n,2≤n∧n<k+2∧n≤8∧i+n≤p.size∧s=p.extract i (i+n)
def aOB (p:ByteArray)(i:Nat)(s:ByteArray):Prop:=∃ j,j<i∧aOA p j 7 s
theorem aOC {l:List ByteArray}{p:ByteArray}{i:Nat}{b:fE}{V:ByteArray→Prop}(h:oL l V b):∀ k,oL l (fun s=>V s∨aOA p i k s) (vS l p i b k)
 | 0=>h.same fun s=>⟨.inl,fun hs=>hs.elim id fun ⟨n,h1,h2,_⟩=>by omega⟩
 | k+1=>by
  have h1:=aOC h (p:=p) (i:=i) k;have hu:vS l p i b (k+1)=if k+2≤8∧i+(k+2)≤p.size then aNY l p i (k+2) (vS l p i b k) else vS l p i b k:=rfl
  rw [hu];split
  ·rename_i hc;refine oL.same (aY2 (row:=p.extract i (i+(k+2))) h1) fun s=>?_;constructor
   ·rintro ((hs|⟨n,g1,g2,g3⟩)|hs)
    ·exact .inl hs
    ·exact .inr ⟨n,g1,by omega,g3⟩
    exact .inr ⟨k+2,by omega,by omega,hc.1,hc.2,hs⟩
   rintro (hs|⟨n,g1,g2,g3,g4,g5⟩)
   ·exact .inl (.inl hs)
   rcases Nat.lt_or_ge n (k+2) with h5|h5
   ·exact .inl (.inr ⟨n,g1,h5,g3,g4,g5⟩)
   obtain rfl:n=k+2:=by omega
   exact .inr g5
  rename_i hc;refine h1.same fun s=>?_;constructor
  ·rintro (hs|⟨n,g1,g2,g3⟩)
   ·exact .inl hs
   exact .inr ⟨n,g1,by omega,g3⟩
  rintro (hs|⟨n,g1,g2,g3,g4,g5⟩)
  ·exact .inl hs
  rcases Nat.lt_or_ge n (k+2) with h5|h5
  ·exact .inr ⟨n,g1,h5,g3,g4,g5⟩
  obtain rfl:n=k+2:=by omega
  exact absurd ⟨g3,g4⟩ hc
theorem aOD {l:List ByteArray}{p:ByteArray}{b:fE}{V:ByteArray→Prop}(h:oL l V b):∀ i,oL l (fun s=>V s∨aOB p i s) (aG0 l p b i)
 | 0=>h.same fun s=>⟨.inl,fun hs=>hs.elim id fun ⟨j,h1,_⟩=>by omega⟩
 | i+1=>by
  refine oL.same (aOC (aOD h i) (p:=p) (i:=i) 7) fun s=>?_;constructor
  ·rintro ((hs|⟨j,h1,h2⟩)|hs)
   ·exact .inl hs
   ·exact .inr ⟨j,by omega,h2⟩
   exact .inr ⟨i,by omega,hs⟩
  rintro (hs|⟨j,h1,h2⟩)
  ·exact .inl (.inl hs)
  rcases Nat.lt_or_ge j i with h3|h3
  ·exact .inl (.inr ⟨j,h3,h2⟩)
  obtain rfl:j=i:=by omega
  exact .inr h2
theorem aY3 {p s:ByteArray}:aOB p p.size s↔(2≤s.size∧s.size≤8)∧∃ i,stands p s i:=by
 constructor
 ·rintro ⟨i,_,n,h1,_,h3,h4,rfl⟩;have e:=aCF p i n h4;exact ⟨by rw [e];exact ⟨h1,h3⟩,i,by unfold stands;rw [e];exact ⟨h4,rfl⟩⟩
 rintro ⟨⟨h1,h2⟩,i,h3,h4⟩;exact ⟨i,by omega,s.size,h1,by omega,h2,h3,h4.symm⟩
theorem aFY {l:List ByteArray}:∀ k,oL l (fun s=>(2≤s.size∧s.size≤8)∧Vis l k s) (rA l k)
 | 0=>.inl ⟨rfl,fun s ⟨_,j,h,_⟩=>by omega⟩
 | k+1=>by
  refine oL.same (aOD (aFY k) (p:=l.getD k ByteArray.empty) (l.getD k ByteArray.empty).size) fun s=>?_;rw [aY3];constructor
  ·rintro (⟨h1,j,h2,h3⟩|⟨h1,h2⟩)
   ·exact ⟨h1,j,by omega,h3⟩
   exact ⟨h1,k,by omega,h2⟩
  rintro ⟨h1,j,h2,h3⟩;rcases Nat.lt_or_ge j k with h4|h4
  ·exact .inl ⟨h1,j,h4,h3⟩
  obtain rfl:j=k:=by omega
  exact .inr ⟨h1,h3⟩
theorem aY4 {l:List ByteArray}(h:FewT l):((bestL l).2≤0→pC l=⟨#[]⟩)∧(0<(bestL l).2→pC l=(bestL l).1∧pC l≠⟨#[]⟩):=by
 have hrow:∀ s,(2≤s.size∧s.size≤8)→aO6 (dQ l l.length) s=(s,iW l s):=fun s hs=>by
  unfold aO6 iW;rw [aCR h hs.1 hs.2]
 rcases aFY (l:=l) l.length with ⟨e,h2⟩|⟨⟨h1,hv⟩,h2,h3,h4⟩
 ·have e1:pC l=⟨#[]⟩:=by unfold pC;rw [e]
  refine ⟨fun _=>e1,fun hp=>?_⟩;exfalso;by_cases hx:∃ r,kV (dQ l l.length) (fun _=>false) r
  ·obtain ⟨r,hr⟩:=hx;have e2:bestL l=r:=aCJ hr;rw [e2] at hp;rcases hr with ⟨rfl,_⟩|⟨g1,_,g3,_⟩
   ·simp at hp
   have g4:=(aG7 h l.length).1 g1;rw [hrow _ g4.1] at g3;have:=h2 _ g4;have e5:r.2=iW l r.1:=by rw [g3]
   omega
  have e2:bestL l=(⟨#[]⟩,0):=by unfold bestL bestR;rw [dif_neg hx]
  rw [e2] at hp;simp at hp
 have hb:kV (dQ l l.length) (fun _=>false) (rA l l.length):=by
  refine .inr ⟨(aG7 h l.length).2 ⟨h1,hv⟩,rfl,?_,fun s hs _=>?_⟩
  ·rw [hrow _ h1,←h2]
  have g4:=(aG7 h l.length).1 hs;rw [hrow s g4.1];by_cases g5:0<iW l s
  ·exact h4 s g4 g5
  refine .inr ?_;unfold eO;rw [if_pos (by show (rA l l.length).2≠iW l s;omega)];show decide ((rA l l.length).2>iW l s)=true;simp;omega
 have e2:bestL l=rA l l.length:=aCJ hb;rw [e2];refine ⟨fun hle=>by omega,fun _=>⟨rfl,fun hem=>?_⟩⟩;have:(rA l l.length).1=⟨#[]⟩:=hem;rw [this] at h1;exact absurd h1.1 (by decide)
end Go.Proofs.YtgajclaoaphgoaaGreatDoor
namespace Go.Proofs.YtgajclaoaphgoaaGreatDoor
open Go.RowKit Go.Lib
theorem aG8 {p:ByteArray}{fr a b:Nat}(h:fr+b≤p.size):(p.extract fr p.size).extract a b=p.extract (fr+a) (fr+b):=by
 refine oF ?_;rw [lZ,lZ,lZ,List.take_of_length_le (l:=tB p) (by rw [fK];exact Nat.le_refl _),List.take_drop,List.drop_drop]
theorem aY5 {p:ByteArray}{fr:Nat}(h:fr≤p.size):(p.extract fr p.size).size=p.size-fr:=by rw [ByteArray.size_extract];omega
theorem aOE (s r:ByteArray):NoOccB s r 0:=fun j hj=>absurd hj (by omega)
theorem aG9 {p r:ByteArray}(hr:1≤r.size):∀ (f d fr:Nat) (out:List ByteArray),NoOccB (p.extract fr p.size) r d→p.size<f+(fr+d)→fr+d≤p.size→nE p r f (fr+d) fr out=out++splitB r 0 (countB (p.extract fr p.size) r) (p.extract fr p.size)
 | 0,d,fr,out,_,h1,h2=>by omega
 | f+1,d,fr,out,hno,h1,h2=>by
  have hq:=aY5 (p:=p) (fr:=fr) (by omega);unfold nE;split
  ·rename_i hin;have he:(p.extract fr p.size).extract d (d+r.size)=p.extract (fr+d) (fr+d+r.size):=by rw [aG8 (by omega)];congr 1;omega
   split
   ·rename_i hat;have hix:indexB (p.extract fr p.size) r=d:=hit _ _ d hno (by omega) (by rw [he,hat];simp);have e1:(p.extract fr p.size).extract 0 (d+0)=p.extract fr (fr+d):=by rw [aG8 (by omega)];congr 1
    have e2:(p.extract fr p.size).extract (d+r.size) (p.extract fr p.size).size=p.extract (fr+d+r.size) p.size:=by rw [hq,aG8 (by omega)];congr 1<;>omega
    have ih:=aG9 (p:=p) hr f 0 (fr+d+r.size) (out++[p.extract fr (fr+d)]) (aOE _ _) (by omega) (by omega);rw [Nat.add_zero] at ih;rw [ih,countB_hit _ r d hr hix,e2,Nat.add_comm 1,splitB_hit r 0 _ _ d hix,e1,e2];simp
   rename_i hat;have hno2:NoOccB (p.extract fr p.size) r (d+1):=miss_piece _ _ d hno (by omega) (by rw [he,tT];simpa using hat);have ih:=aG9 (p:=p) hr f (d+1) fr out hno2 (by omega) (by omega);exact ih
  rename_i hin;have hix:indexB (p.extract fr p.size) r=-1:=past _ _ d hno hr (by omega);rw [splitB_miss r 0 _ _ hix]
theorem aY6 {p r:ByteArray}(hr:1≤r.size):mB p r=nE p r (p.size+1) 0 0 []:=by
 have e:p.extract 0 p.size=p:=by
  refine oF ?_;rw [lZ,List.drop_zero,List.take_of_length_le (by rw [fK];exact Nat.le_refl _)]
 have h:=aG9 (p:=p) hr (p.size+1) 0 0 [] (aOE _ _) (by omega) (by omega);rw [e] at h;exact h.symm
theorem aCS (p r:ByteArray):∀ (f i fr:Nat) (out:List ByteArray),nE p r f i fr out=out++nE p r f i fr []
 | 0,i,fr,out=>by simp [nE]
 | f+1,i,fr,out=>by
  unfold nE;split
  ·split
   ·rw [aCS p r f _ _ (out++[p.extract fr i]),aCS p r f _ _ ([]++[p.extract fr i])];simp
   exact aCS p r f _ _ out
  simp
theorem aOF {r:ByteArray}(hr:1≤r.size)(l:List ByteArray):∀ k,iH l r k=tV l r k
 | 0=>rfl
 | k+1=>by
  show iH l r k++mB (l.getD k ByteArray.empty) r=nE (l.getD k ByteArray.empty) r ((l.getD k ByteArray.empty).size+1) 0 0 (tV l r k);rw [aCS,←aOF hr l k,aY6 hr]
theorem aOG (most:Int):∀ (f:Nat) (out parts:List ByteArray),wt parts≤5000000→chF most f out parts=sE most f out parts
 | 0,out,parts,_=>rfl
 | f+1,out,parts,hw=>by
  have hf:=aGX hw;obtain ⟨b1,b2⟩:=aY4 hf;have hbo:=aNU hf;unfold chF sE;have hiff:((out.length:Int)<min most 32)↔((out.length:Int)<most∧out.length<32):=by omega
  by_cases hc:(out.length:Int)<min most 32
  ·rw [if_pos hc,if_pos (hiff.1 hc)];by_cases hle:(bestL parts).2≤0
   ·rw [if_pos hle,if_pos (b1 hle)]
   obtain ⟨e1,e2⟩:=b2 (by omega);have hx2:=hbo.2 (by omega);rw [if_neg hle,if_neg e2,e1,aOF (by omega)];exact aOG most f _ _ (by have:=aYW (r:=(bestL parts).1) (by omega) parts;omega)
  rw [if_neg hc,if_neg (fun h=>hc (hiff.2 h))]
theorem aL4 {l:List ByteArray}(h:wt l≤5000000)(most:Int):chooseP l most=aYX l most:=aOG most 33 [] l h
end Go.Proofs.YtgajclaoaphgoaaGreatDoor
namespace Go.Proofs.YtgajclaoaphgoaaGreatDoor
open Go.RowKit
def pH (ab:List ByteArray)(p:bX):Bool:=decide (p.2<0)||decide (p.2>ab.length)||decide (p.2>32)
def mO (ab:List ByteArray)(p:bX):ByteArray:=if p.2>0 then ab.getD (p.2-1).toNat ByteArray.empty else p.1
def fX (s:ByteArray)(ab:List ByteArray)(i:Nat)(A:List Int):Nat→Nat
 | 0=>0
 | k+1=>if gM s i ab k=true∧2+A.getD (i+(ab.getD k ByteArray.empty).size) 0<cR s ab i A k then k+1 else fX s ab i A k
theorem aCT (s:ByteArray)(ab:List ByteArray)(i:Nat)(A:List Int)(k:Nat):∀ d,cR s ab i A (k+d)≤cR s ab i A k
 | 0=>Int.le_refl _
 | d+1=>by
  have h:=aCT s ab i A k d;rw [←Nat.add_assoc];show (if _ then _ else _)≤_;split
  ·rename_i hc;exact Int.le_trans (Int.le_of_lt hc.2) h
  exact h
theorem aOH (s:ByteArray)(ab:List ByteArray)(i:Nat)(A:List Int):∀ k,fX s ab i A k=0↔cR s ab i A k=cR s ab i A 0
 | 0=>by simp [fX]
 | k+1=>by
  have ih:=aOH s ab i A k;have hm:=aCT s ab i A 0 k;rw [Nat.zero_add] at hm;have hb:fX s ab i A (k+1)=if gM s i ab k=true∧2+A.getD (i+(ab.getD k ByteArray.empty).size) 0<cR s ab i A k then k+1 else fX s ab i A k:=rfl
  have hl:cR s ab i A (k+1)=if gM s i ab k=true∧2+A.getD (i+(ab.getD k ByteArray.empty).size) 0<cR s ab i A k then 2+A.getD (i+(ab.getD k ByteArray.empty).size) 0 else cR s ab i A k:=rfl
  rw [hb,hl];split
  ·rename_i hc;constructor
   ·intro h;omega
   intro h;omega
  exact ih
theorem aHA (s:ByteArray)(ab:List ByteArray)(i:Nat)(A:List Int):∀ k,fX s ab i A k≠0→
 fX s ab i A k≤k∧gM s i ab (fX s ab i A k-1)=true∧2+A.getD (i+(ab.getD (fX s ab i A k-1) ByteArray.empty).size) 0=cR s ab i A k∧
  ∀ j,j<fX s ab i A k-1→gM s i ab j=true→2+A.getD (i+(ab.getD j ByteArray.empty).size) 0≠cR s ab i A k
 | 0,h=>by simp [fX] at h
 | k+1,h=>by
  have hb:fX s ab i A (k+1)=if gM s i ab k=true∧2+A.getD (i+(ab.getD k ByteArray.empty).size) 0<cR s ab i A k then k+1 else fX s ab i A k:=rfl
  have hl:cR s ab i A (k+1)=if gM s i ab k=true∧2+A.getD (i+(ab.getD k ByteArray.empty).size) 0<cR s ab i A k then 2+A.getD (i+(ab.getD k ByteArray.empty).size) 0 else cR s ab i A k:=rfl
  by_cases hc:gM s i ab k=true∧2+A.getD (i+(ab.getD k ByteArray.empty).size) 0<cR s ab i A k
  ·rw [if_pos hc] at hb hl;rw [hb,hl];refine ⟨Nat.le_refl _,hc.1,rfl,fun j hj hf=>?_⟩;have hj':j<k:=by omega
   have h1:cR s ab i A (j+1)≤2+A.getD (i+(ab.getD j ByteArray.empty).size) 0:=by
    show (if _ then _ else _)≤_;split
    ·exact Int.le_refl _
    rename_i hn;have:¬ 2+A.getD (i+(ab.getD j ByteArray.empty).size) 0<cR s ab i A j:=fun h=>hn ⟨hf,h⟩;omega
   have h2:=aCT s ab i A (j+1) (k-(j+1));rw [show j+1+(k-(j+1))=k from by omega] at h2;have h3:=hc.2;omega
  rw [if_neg hc] at hb hl;rw [hb] at h;obtain ⟨g1,g2,g3,g4⟩:=aHA s ab i A k h;rw [hb,hl];exact ⟨by omega,g2,g3,g4⟩
theorem aHB {s:ByteArray}{ab:List ByteArray}{i:Nat}{A B:List Int}(h:∀ j,i<j→A.getD j 0=B.getD j 0):∀ k,cR s ab i A k=cR s ab i B k
 | 0=>by unfold cR;rw [h (i+1) (by omega)]
 | k+1=>by
  have ih:=aHB (s:=s) (ab:=ab) h k;have ea:cR s ab i A (k+1)=if gM s i ab k=true∧2+A.getD (i+(ab.getD k ByteArray.empty).size) 0<cR s ab i A k then 2+A.getD (i+(ab.getD k ByteArray.empty).size) 0 else cR s ab i A k:=rfl
  have eb:cR s ab i B (k+1)=if gM s i ab k=true∧2+B.getD (i+(ab.getD k ByteArray.empty).size) 0<cR s ab i B k then 2+B.getD (i+(ab.getD k ByteArray.empty).size) 0 else cR s ab i B k:=rfl
  rw [ea,eb,ih];by_cases hf:gM s i ab k=true
  ·rw [h (i+(ab.getD k ByteArray.empty).size) (by have:=(qB hf).2.1;omega)]
  rw [if_neg (fun hc=>hf hc.1),if_neg (fun hc=>hf hc.1)]
theorem aNC {s:ByteArray}{ab:List ByteArray}{i:Nat}{A B:List Int}(h:∀ j,i<j→A.getD j 0=B.getD j 0):∀ k,fX s ab i A k=fX s ab i B k
 | 0=>rfl
 | k+1=>by
  have ih:=aNC (s:=s) (ab:=ab) h k;have il:=aHB (s:=s) (ab:=ab) h k;have ea:fX s ab i A (k+1)=if gM s i ab k=true∧2+A.getD (i+(ab.getD k ByteArray.empty).size) 0<cR s ab i A k then k+1 else fX s ab i A k:=rfl
  have eb:fX s ab i B (k+1)=if gM s i ab k=true∧2+B.getD (i+(ab.getD k ByteArray.empty).size) 0<cR s ab i B k then k+1 else fX s ab i B k:=rfl
  rw [ea,eb,ih,il];by_cases hf:gM s i ab k=true
  ·rw [h (i+(ab.getD k ByteArray.empty).size) (by have:=(qB hf).2.1;omega)]
  rw [if_neg (fun hc=>hf hc.1),if_neg (fun hc=>hf hc.1)]
def iS (s:ByteArray)(ab:List ByteArray):List Int:=cD s ab s.size
theorem aOI {s:ByteArray}{ab:List ByteArray}{d j:Nat}(hj:s.size-d≤j):∀ e,d+e≤s.size→(cD s ab (d+e)).getD j 0=(cD s ab d).getD j 0
 | 0,_=>rfl
 | e+1,he=>by
  have ih:=aOI (ab:=ab) hj e (by omega);rw [←Nat.add_assoc];show ((cD s ab (d+e)).set (s.size-1-(d+e)) _).getD j 0=_;rw [aQR,if_neg (fun hc=>by omega)];exact ih
theorem aB7 {s:ByteArray}{ab:List ByteArray}{d j:Nat}(hd:d≤s.size)(hj:s.size-d≤j):(iS s ab).getD j 0=(cD s ab d).getD j 0:=by
 have:=aOI (s:=s) (ab:=ab) (d:=d) (j:=j) hj (s.size-d) (by omega);rw [show d+(s.size-d)=s.size from by omega] at this;exact this
theorem aCU {s:ByteArray}{ab:List ByteArray}{i:Nat}(h:i<s.size):(iS s ab).getD i 0=cR s ab i (iS s ab) ab.length:=by
 have h1:(iS s ab).getD i 0=(cD s ab (s.size-i)).getD i 0:=aB7 (by omega) (by omega);have hl:=xH s ab (s.size-(i+1));rw [h1,aNK h,aCB (by omega),if_pos rfl];exact aHB (fun j hj=>(aB7 (by omega) (by omega)).symm) _
def cG (s:ByteArray)(ab:List ByteArray)(i:Nat):Nat:=fX s ab i (iS s ab) ab.length
def eN (s:ByteArray)(fr i:Nat)(out:List bX):List bX:=if fr<i then out++[(s.extract fr i,0)] else out
def lT (s:ByteArray)(ab:List ByteArray):Nat→Nat→Nat→List bX→List bX
 | 0,i,fr,out=>eN s fr s.size out
 | f+1,i,fr,out=>if i<s.size then (if cG s ab i=0 then lT s ab f (i+1) fr out else lT s ab f (i+(ab.getD (cG s ab i-1) ByteArray.empty).size) (i+(ab.getD (cG s ab i-1) ByteArray.empty).size) (eN s fr i out++[(ByteArray.empty,(cG s ab i:Int))])) else eN s fr s.size out
def bL (s:ByteArray)(ab:List ByteArray):List bX:=lT s ab (s.size+1) 0 0 []
def aGJ (out:List bX)(c:ByteArray):List bX:=
 match out.getLast? with
 | none=>[(ByteArray.empty++c,0)]
 | some p=>if p.2>0 then out++[(ByteArray.empty++c,0)] else out.dropLast++[(p.1++c,p.2)]
def aCV (s:ByteArray)(ab:List ByteArray)(i:Nat):Nat→Nat→Nat
 | 0,k=>k
 | f+1,k=>if gM s i ab k=true∧2+(iS s ab).getD (i+(ab.getD k ByteArray.empty).size) 0=(iS s ab).getD i 0 then k else aCV s ab i f (k+1)
def aZ7 (s:ByteArray)(ab:List ByteArray):Nat→Nat→List bX→List bX
 | 0,i,out=>out
 | f+1,i,out=>if i<s.size then (if fB (s.extract i (i+1))+(iS s ab).getD (i+1) 0=(iS s ab).getD i 0 then aZ7 s ab f (i+1) (aGJ out (s.extract i (i+1))) else aZ7 s ab f (i+(ab.getD (aCV s ab i ab.length 0) ByteArray.empty).size) (out++[(ByteArray.empty,((aCV s ab i ab.length 0:Nat):Int)+1)])) else out
def ai1 (s:ByteArray)(ab:List ByteArray):List bX:=aZ7 s ab (s.size+1) 0 []
theorem aY7 {s:ByteArray}{ab:List ByteArray}{i:Nat}(h:i<s.size):cG s ab i=0↔fB (s.extract i (i+1))+(iS s ab).getD (i+1) 0=(iS s ab).getD i 0:=by
 rw [aCU h];unfold cG;rw [aOH];constructor
 ·intro e;rw [e];rfl
 intro e;rw [←e];rfl
theorem aOJ {s:ByteArray}{ab:List ByteArray}{i m:Nat}(h1:gM s i ab m=true)(h2:2+(iS s ab).getD (i+(ab.getD m ByteArray.empty).size) 0=(iS s ab).getD i 0)
 (h3:∀ j,j<m→gM s i ab j=true→2+(iS s ab).getD (i+(ab.getD j ByteArray.empty).size) 0≠(iS s ab).getD i 0):∀ f k,k≤m→m<f+k→aCV s ab i f k=m
 | 0,k,hk,hf=>by omega
 | f+1,k,hk,hf=>by
  unfold aCV;by_cases e:k=m
  ·subst e;rw [if_pos ⟨h1,h2⟩]
  rw [if_neg (fun hc=>h3 k (by omega) hc.1 hc.2)];exact aOJ h1 h2 h3 f (k+1) (by omega) (by omega)
theorem aCE {s:ByteArray}{ab:List ByteArray}{i:Nat}(h:i<s.size)(ht:cG s ab i≠0):gM s i ab (cG s ab i-1)=true∧cG s ab i≤ab.length∧aCV s ab i ab.length 0=cG s ab i-1:=by
 obtain ⟨g1,g2,g3,g4⟩:=aHA s ab i (iS s ab) ab.length ht;have e:=aCU (ab:=ab) h;have ht':0<cG s ab i:=by omega
 have g1':cG s ab i≤ab.length:=g1;exact ⟨g2,g1',aOJ g2 (by rw [e];exact g3) (fun j hj hf=>by rw [e];exact g4 j hj hf) ab.length 0 (by omega) (by omega)⟩
def aoI (out:List bX):Prop:=∀ p,out.getLast?=some p→p.2>0
theorem aqK {s:ByteArray}{fr i:Nat}{out:List bX}(hi:i<s.size)(hf:fr≤i)(he:aoI out):aGJ (eN s fr i out) (s.extract i (i+1))=eN s fr (i+1) out:=by
 unfold eN;by_cases h:fr<i
 ·rw [if_pos h,if_pos (by omega)];unfold aGJ;simp only [List.getLast?_append,List.getLast?_singleton,Option.some_or];rw [if_neg (by simp),List.dropLast_concat];congr 3;refine oF ?_;rw [aKU,lZ,lZ,lZ];have hl:(tB s).length=s.size:=fK s;refine List.ext_getElem? fun k=>?_;rw [List.getElem?_append];simp only [List.length_drop,List.length_take,List.getElem?_drop,List.getElem?_take];split
  ·rw [if_pos (by omega),if_pos (by omega)]
  rename_i hk;by_cases hk2:fr+k<i+1
  ·rw [if_pos (by omega),if_pos hk2];congr 1;omega
  rw [if_neg (by omega),if_neg hk2]
 have e:fr=i:=by omega
 subst e;rw [if_neg h,if_pos (by omega)];have e0:ByteArray.empty++s.extract fr (fr+1)=s.extract fr (fr+1):=by refine oF ?_;rw [aKU];rfl
 unfold aGJ;cases hg:out.getLast? with
 | none=>
  have:out=[]:=List.getLast?_eq_none_iff.1 hg;subst this;rw [e0];rfl
 | some p=>
  simp only [];rw [if_pos (he p hg),e0]
theorem anA {s:ByteArray}{ab:List ByteArray}:∀ (f i fr:Nat) (out:List bX),s.size<f+i→fr≤i→i≤s.size→aoI out→aZ7 s ab f i (eN s fr i out)=lT s ab f i fr out
 | 0,i,fr,out,h1,h2,h3,he=>by omega
 | f+1,i,fr,out,h1,h2,h3,he=>by
  unfold aZ7 lT;by_cases hi:i<s.size
  ·rw [if_pos hi,if_pos hi];by_cases ht:cG s ab i=0
   ·rw [if_pos ht,if_pos ((aY7 hi).1 ht),aqK hi h2 he];exact anA f (i+1) fr out (by omega) (by omega) (by omega) he
   obtain ⟨g1,g2,g3⟩:=aCE hi ht;have g4:=qB g1;rw [if_neg ht,if_neg (fun hc=>ht ((aY7 hi).2 hc)),g3];have e1:(((cG s ab i-1:Nat):Int)+1)=(cG s ab i:Int):=by omega
   rw [e1];have ih:=anA (ab:=ab) f (i+(ab.getD (cG s ab i-1) ByteArray.empty).size) (i+(ab.getD (cG s ab i-1) ByteArray.empty).size) (eN s fr i out++[(ByteArray.empty,(cG s ab i:Int))]) (by omega) (Nat.le_refl _) g4.2.2 (fun p hp=>by
    simp at hp;subst hp;show (cG s ab i:Int)>0;omega)
   have e2:∀ x o,eN s x x o=o:=fun x o=>by unfold eN;rw [if_neg (by omega)]
   rw [e2] at ih;exact ih
  rw [if_neg hi,if_neg hi];have:i=s.size:=by omega
  rw [this]
theorem aqL (s:ByteArray)(ab:List ByteArray):ai1 s ab=bL s ab:=anA (s:=s) (ab:=ab) (s.size+1) 0 0 [] (by omega) (Nat.le_refl _) (Nat.zero_le _) (fun p hp=>by simp at hp)
def mD (l:List bX):Int:=(l.map qE).sum
theorem aOK:∀ (l:List bX) (k:Nat),k≤l.length→sO l k=mD (l.take k)
 | l,0,_=>by simp [sO,mD]
 | l,k+1,hk=>by
  have e:l.take (k+1)=l.take k++[l.getD k dJ]:=by rw [List.take_add_one];simp [show k<l.length from hk]
  rw [aYK,aOK l k (by omega),e];unfold mD;simp
theorem aOL (l:List bX):sO l l.length=mD l:=by
 have:=aOK l l.length (Nat.le_refl _);rwa [List.take_length] at this
theorem aOM (a b:List bX):mD (a++b)=mD a+mD b:=by unfold mD;simp
def rK (l:List Int):Int:=(l.map fun c=>((cS c).length:Int)).sum
theorem aON (s:ByteArray):∀ k,k≤s.size→qA s k=rK ((tB s).take k)
 | 0,_=>by simp [qA,rK]
 | k+1,hk=>by
  have hl:k<(tB s).length:=by rw [fK];exact hk
  have e:(tB s).take (k+1)=(tB s).take k++[(tB s).getD k 0]:=by rw [List.take_add_one];simp [hl]
  rw [aXI,aON s k (by omega),e];unfold rK;simp
theorem ad1 (s:ByteArray):fB s=rK (tB s):=by
 unfold fB;rw [aON s s.size (Nat.le_refl _),List.take_of_length_le (by rw [fK];exact Nat.le_refl _)]
theorem aY8 (a b:List Int):rK (a++b)=rK a+rK b:=by unfold rK;simp
theorem aOO {s:ByteArray}{a b c:Nat}(h1:a≤b)(h2:b≤c)(h3:c≤s.size):fB (s.extract a c)=fB (s.extract a b)+fB (s.extract b c):=by
 rw [ad1,ad1,ad1,←aY8];congr 1;rw [lZ,lZ,lZ];have e:(tB s).take c=(tB s).take b++((tB s).take c).drop b:=by
  have:=List.take_append_drop b ((tB s).take c);rw [List.take_take,Nat.min_eq_left h2] at this;exact this.symm
 conv=>lhs;rw [e]
 rw [List.drop_append_of_le_length (by rw [List.length_take,fK];omega)]
theorem aCW {s:ByteArray}{a:Nat}:fB (s.extract a a)=0:=by
 rw [ad1,lZ,List.drop_of_length_le (by rw [List.length_take];omega)];rfl
theorem aOP {s:ByteArray}{fr i:Nat}{out:List bX}(h:fr≤i)(hi:i≤s.size):mD (eN s fr i out)=mD out+fB (s.extract fr i):=by
 unfold eN;split
 ·rw [aOM];congr 1;show ([(s.extract fr i,(0:Int))].map qE).sum=_;simp [qE]
 have:fr=i:=by omega
 subst this;rw [aCW];omega
theorem aOQ (s:ByteArray)(ab:List ByteArray):(iS s ab).getD s.size 0=0:=by
 have:=aB7 (s:=s) (ab:=ab) (d:=0) (j:=s.size) (Nat.zero_le _) (by omega);rw [this];show (List.replicate (s.size+1) (0:Int)).getD s.size 0=0;simp
theorem aHC {s:ByteArray}{ab:List ByteArray}:∀ (f i fr:Nat) (out:List bX),s.size<f+i→fr≤i→i≤s.size→mD (lT s ab f i fr out)=mD out+fB (s.extract fr i)+(iS s ab).getD i 0
 | 0,i,fr,out,h1,h2,h3=>by omega
 | f+1,i,fr,out,h1,h2,h3=>by
  unfold lT;by_cases hi:i<s.size
  ·rw [if_pos hi];by_cases ht:cG s ab i=0
   ·rw [if_pos ht,aHC (ab:=ab) f (i+1) fr out (by omega) (by omega) (by omega),←(aY7 (ab:=ab) hi).1 ht,aOO (s:=s) (a:=fr) (b:=i) (c:=i+1) h2 (by omega) (by omega)];omega
   obtain ⟨g1,g2,g3⟩:=aCE hi ht;have g4:=qB g1;obtain ⟨_,_,k3,_⟩:=aHA s ab i (iS s ab) ab.length ht;have k3':2+(iS s ab).getD (i+(ab.getD (cG s ab i-1) ByteArray.empty).size) 0=(iS s ab).getD i 0:=by rw [aCU hi];exact k3
   rw [if_neg ht,aHC (ab:=ab) f _ _ _ (by omega) (Nat.le_refl _) g4.2.2,aCW,aOM,aOP h2 h3,←k3'];have e:mD [(ByteArray.empty,(cG s ab i:Int))]=2:=by
    have h9:(cG s ab i:Int)>0:=by omega
    show (qE (ByteArray.empty,(cG s ab i:Int)))+0=2;unfold qE;rw [if_pos h9];rfl
   rw [e];omega
  rw [if_neg hi];have:i=s.size:=by omega
  subst this;rw [aOP h2 (Nat.le_refl _),aOQ];omega
theorem aY9 (s:ByteArray)(ab:List ByteArray):sO (bL s ab) (bL s ab).length=(iS s ab).getD 0 0:=by
 rw [aOL];unfold bL;rw [aHC (s.size+1) 0 0 [] (by omega) (Nat.le_refl _) (Nat.zero_le _),aCW];simp [mD]
theorem aOR {s:ByteArray}{ab:List ByteArray}:∀ d,d≤s.size→(iS s ab).getD (s.size-d) 0≤fB (s.extract (s.size-d) s.size)
 | 0,_=>by
  have h:=aOQ s ab;rw [Nat.sub_zero,h,aCW];exact Int.le_refl _
 | d+1,hd=>by
  have ih:=aOR (s:=s) (ab:=ab) d (by omega);have hi:s.size-(d+1)<s.size:=by omega
  have hm:=aCT s ab (s.size-(d+1)) (iS s ab) 0 ab.length;rw [Nat.zero_add] at hm;rw [aCU hi];have e:s.size-(d+1)+1=s.size-d:=by omega
  have h0:cR s ab (s.size-(d+1)) (iS s ab) 0=fB (s.extract (s.size-(d+1)) (s.size-(d+1)+1))+(iS s ab).getD (s.size-(d+1)+1) 0:=rfl;rw [h0,e] at hm;rw [aOO (s:=s) (a:=s.size-(d+1)) (b:=s.size-d) (c:=s.size) (by omega) (by omega) (Nat.le_refl _)];omega
theorem aZA (s:ByteArray):s.extract 0 s.size=s:=by
 refine oF ?_;rw [lZ,List.drop_zero,List.take_of_length_le (by rw [fK];exact Nat.le_refl _)]
theorem aZB (s:ByteArray)(ab:List ByteArray):(iS s ab).getD 0 0≤fB s:=by
 have:=aOR (s:=s) (ab:=ab) s.size (Nat.le_refl _);rw [Nat.sub_self,aZA] at this;exact this
end Go.Proofs.YtgajclaoaphgoaaGreatDoor
