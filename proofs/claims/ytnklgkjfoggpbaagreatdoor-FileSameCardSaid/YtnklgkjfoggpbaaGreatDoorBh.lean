/- Parts of the proof of a law of this seat: rules and contracts; no conditions. -/
import Derived.Test.YtnklgkjfoggpbaaGreatDoorWireSpec
import Derived.Test.YtnklgkjfoggpbaaGreatDoorMq
import Derived.Test.YtnklgkjfoggpbaaGreatDoorAlphaC
import Derived.Test.YtnklgkjfoggpbaaGreatDoorLt
import Derived.Test.YtnklgkjfoggpbaaGreatDoorProg
import Derived.KernelRfl
import Derived.Test.YtnklgkjfoggpbaaGreatDoorBlf
set_option maxHeartbeats 6400000
set_option maxRecDepth 100000
set_option linter.unusedVariables false
set_option linter.unusedSimpArgs false
namespace Go.Proofs.YtnklgkjfoggpbaaGreatDoor
open Go.RowKit Go.Maps
def kS (s:ByteArray):Lit:=.string s.data.toList
def iv (c:Int):DataW Unit:=.lit (.int .i64 c)
def bO (D:DataW Unit)(s:ByteArray):Int:=match D.atKey (kS s) (iv 0) with|.lit (.int _ c)=>c|_=>0
def MI (D:DataW Unit):Prop:=Tidy D∧∀ s,D.atKey (kS s) (iv 0)=iv (bO D s)
theorem aGE {s t:ByteArray}(h:kS s=kS t):s=t:=by
 unfold kS at h
 injection h with h
 cases s
 cases t
 simpa [Array.toList_inj] using h
theorem aB4 (s:ByteArray):WideAt.IsKeyLit (kS s):=trivial
theorem aMZ:MI (.map []):=⟨tidy_empty,fun s=>rfl⟩
theorem aM0 (s:ByteArray):bO (.map []) s=0:=rfl
theorem aM1 {D:DataW Unit}(h:MI D)(s:ByteArray)(c:Int)(t:ByteArray):(D.put (kS s) (iv c)).atKey (kS t) (iv 0)=iv (if t=s then c else bO D t):=by
 by_cases e:t=s
 ·subst e
  rw [if_pos rfl]
  exact atKey_put_same h.1.isMap (aB4 t) _ _
 ·rw [if_neg e,atKey_put_other (fun h'=>e (aGE h')),h.2 t]
theorem rG {D:DataW Unit}(h:MI D)(s:ByteArray)(c:Int)(t:ByteArray):bO (D.put (kS s) (iv c)) t=if t=s then c else bO D t:=by
 unfold bO
 rw [aM1 h s c t]
 rfl
theorem aM2 {D:DataW Unit}(h:MI D)(s:ByteArray)(c:Int):MI (D.put (kS s) (iv c)):=⟨h.1.put (aB4 s) _,fun t=>by rw [aM1 h s c t,rG h s c t]⟩
theorem aM3 {D:DataW Unit}(h:MI D)(s:ByteArray)(c:Int):Maps.size (D.put (kS s) (iv c))≤Maps.size D+1:=by
 rw [size_put h.1]
 split<;>omega
theorem aM4 {D:DataW Unit}(h:MI D)(s:ByteArray)(c:Int)(t:ByteArray):Maps.has (D.put (kS s) (iv c)) (kS t)=(decide (t=s)||Maps.has D (kS t)):=by
 by_cases e:t=s
 ·subst e
  rw [has_put_same h.1.isMap (aB4 t)]
  simp
 ·rw [has_put_other fun h'=>e (aGE h')]
  simp [e]
abbrev MM:=DataW Unit × DataW Unit
def jY (p:ByteArray)(i n:Nat)(s:MM):MM:=
 if bO s.2 (p.extract i (i+n))≤i then (s.1.put (kS (p.extract i (i+n))) (iv (bO s.1 (p.extract i (i+n))+1)),s.2.put (kS (p.extract i (i+n))) (iv ((i+n:Nat):Int))) else s
def fA (p:ByteArray)(i:Nat)(s:MM):Nat→MM
 | 0=>s
 | k+1=>if k+2≤8∧i+(k+2)≤p.size then jY p i (k+2) (fA p i s k) else fA p i s k
def iY (p:ByteArray)(M:DataW Unit):Nat→MM
 | 0=>(M,.map [])
 | i+1=>fA p i (iY p M i) 7
def dQ (l:List ByteArray):Nat→DataW Unit
 | 0=>.map []
 | k+1=>(iY (l.getD k ⟨#[]⟩) (dQ l k) (l.getD k ⟨#[]⟩).size).1
structure Sane (b:Nat) (s:MM):Prop where
 m1:MI s.1
 m2:MI s.2
 s1:Maps.size s.1≤b
 s2:Maps.size s.2≤b
 g1:∀ t,0≤bO s.1 t∧bO s.1 t≤b
 g2:∀ t,0≤bO s.2 t∧bO s.2 t≤2000000000
theorem Sane.step {b:Nat}{s:MM}(h:Sane b s)(p:ByteArray)(i n:Nat)(hin:i+n≤2000000000):Sane (b+1) (jY p i n s):=by
 unfold jY
 split
 ·refine ⟨aM2 h.m1 _ _,aM2 h.m2 _ _,?_,?_,fun t=>?_,fun t=>?_⟩
  ·have:=aM3 h.m1 (p.extract i (i+n)) (bO s.1 (p.extract i (i+n))+1);have:=h.s1;show Maps.size (s.1.put _ _)≤_;omega
  ·have:=aM3 h.m2 (p.extract i (i+n)) ((i+n:Nat):Int);have:=h.s2;show Maps.size (s.2.put _ _)≤_;omega
  ·show 0≤bO (s.1.put _ _) t∧bO (s.1.put _ _) t≤_
   rw [rG h.m1]
   have h1:=h.g1 (p.extract i (i+n))
   have h2:=h.g1 t
   split<;>omega
  ·show 0≤bO (s.2.put _ _) t∧bO (s.2.put _ _) t≤_
   rw [rG h.m2]
   have h2:=h.g2 t
   split<;>omega
 ·exact ⟨h.m1,h.m2,by have:=h.s1;omega,by have:=h.s2;omega,fun t=>by have:=h.g1 t;omega,h.g2⟩
theorem Sane.more {b c:Nat}{s:MM}(h:Sane b s)(hc:b≤c):Sane c s:=⟨h.m1,h.m2,by have:=h.s1;omega,by have:=h.s2;omega,fun t=>by have:=h.g1 t;omega,h.g2⟩
theorem Sane.row {b:Nat}{s:MM}(h:Sane b s){p:ByteArray}{i:Nat}(hp:p.size≤1000000000):∀ k,Sane (b+k) (fA p i s k)
 | 0=>h
 | k+1=>by
  have:=Sane.row h hp (i:=i) k
  unfold fA
  split
  ·exact this.step p i (k+2) (by omega)
  ·exact this.more (by omega)
theorem Sane.part {b:Nat}{M:DataW Unit}(hM:MI M)(hs:Maps.size M≤b)(hg:∀ t,0≤bO M t∧bO M t≤b){p:ByteArray}(hp:p.size≤1000000000):∀ k,Sane (b+7*k) (iY p M k)
 | 0=>⟨hM,aMZ,hs,Nat.zero_le _,hg,fun t=>by show 0≤bO (.map []) t∧bO (.map []) t≤_;rw [aM0];omega⟩
 | k+1=>((Sane.part hM hs hg hp k).row hp 7).more (by omega)
end Go.Proofs.YtnklgkjfoggpbaaGreatDoor
namespace Go.Proofs.YtnklgkjfoggpbaaGreatDoor
open Go.RowKit
theorem aXG {P:Program}{f:FuncId}{e:TypeId}{m:Int}{zs:List Int}(h:∀ w,Calls P f #[.int .u8 m] w (kG w e (cb .i64 zs))):PC P f [.val (.int .u8 m)] (aK zs):=by
 intro E vs hG hA _ _ _
 unfold aG aG at hA
 obtain ⟨v,us,rfl,hv,rfl⟩:=hA
 unfold aA at hv
 subst hv
 refine (h E.w).mono ?_
 rintro en w' ⟨B,n,cc,rfl,hown,hb⟩
 exact ⟨{ E with w:=w' },_,rfl,rfl,hG.grow hb,(Step.grow hG hb).kept (by simp),aB5 hG hown hb,fun n y hn=>by simp [aL] at hn⟩
theorem aXH (m:Int)(h0:0≤m)(h1:m<256):PC Tryz.prog 156 [.val (.int .u8 m)] (aK (cS m)):=aXG fun w=>aMJ m w h0 h1
def qA (s:ByteArray):Nat→Int
 | 0=>0
 | k+1=>qA s k+((cS ((tB s).getD k 0)).length:Int)
theorem aXI (s:ByteArray)(k:Nat):qA s (k+1)=qA s k+((cS ((tB s).getD k 0)).length:Int):=rfl
def fB (s:ByteArray):Int:=qA s s.size
theorem zJ (s:ByteArray):∀ k,0≤qA s k∧qA s k≤3*k
 | 0=>by simp [qA]
 | k+1=>by
  have:=zJ s k
  have:=aB0 ((tB s).getD k 0)
  unfold qA
  omega
theorem aXJ {s:ByteArray}{k:Nat}(h:k<s.size):0≤(tB s).getD k 0∧(tB s).getD k 0<256:=by
 have hl:k<(tB s).length:=by rw [fK];exact h
 rw [List.getD,List.getElem?_eq_getElem hl]
 have hm:(tB s)[k]∈tB s:=List.getElem_mem hl
 generalize (tB s)[k]=x at hm
 unfold tB at hm
 rw [List.mem_map] at hm
 obtain ⟨b,_,e⟩:=hm
 have:=b.toNat_lt
 show 0≤x∧x<256
 omega
theorem aM6 (s:ByteArray)(hs:s.size≤100000000):PC Tryz.prog 152 [vs s] (vi (fB s)):=by
 refine FC.body 6 19 Tryz.func152 rfl (by kernel_rfl) ?_
 refine W ?_
 refine bM (ι:=Nat) (fun k=>⟨[(0,vs s),(3,vi (qA s k)),(6,vi s.size),(7,vi k)],[]⟩) (fun k=>k≤s.size) (fun k=>s.size-k) 0 (Nat.zero_le _) (Le.sub (by repeat (first|trivial|refine ⟨.inr rfl,?_⟩|refine ⟨.inr (aR (by omega)),?_⟩)) (by repeat (first|trivial|refine ⟨rfl,?_⟩))) ?_
 intro k hI
 refine W ?_
 refine cd (fun hb=>?_) fun hb=>?_
 ·have hlt:k<s.size:=by have h0:=of_decide_eq_true hb;omega
  have hb0:=aXJ hlt
  have hc0:=zJ s k
  have hc1:=aB0 ((tB s).getD k 0)
  refine W ?_
  refine Z1 (aGH rfl rfl rfl (by kernel_rfl) (by omega) (by omega) rfl) ?_
  refine Z1 (ca (aXH _ hb0.1 hb0.2)) ?_
  refine W ?_
  exact ⟨k+1,by omega,by omega,Le.sub (by repeat (first|trivial|refine ⟨.inr rfl,?_⟩|refine ⟨.inr (aR (by omega)),?_⟩)) (by repeat (first|trivial|refine ⟨rfl,?_⟩))⟩
 ·have hge:k=s.size:=by have h0:=of_decide_eq_false hb;omega
  refine W ?_
  exact ⟨.inl rfl,aF.tmp rfl (aR (by rw [hge];rfl)),trivial⟩
structure FewT (l:List ByteArray):Prop where
 len:l.length≤5000000
 size:∀ k,(l.getD k ⟨#[]⟩).size≤5000000
theorem Sane.all {l:List ByteArray}(h:FewT l):∀ k,MI (dQ l k)∧Maps.size (dQ l k)≤35000000*k∧∀ t,0≤bO (dQ l k) t∧bO (dQ l k) t≤((35000000*k:Nat):Int)
 | 0=>⟨aMZ,Nat.zero_le _,fun t=>by show 0≤bO (.map []) t∧bO (.map []) t≤_;rw [aM0];omega⟩
 | k+1=>by
  obtain ⟨h1,h2,h3⟩:=Sane.all h k
  have hs:=h.size k
  have:=Sane.part h1 h2 h3 (p:=l.getD k ⟨#[]⟩) (by omega) (l.getD k ⟨#[]⟩).size
  have:=this.more (c:=35000000*(k+1)) (by omega)
  exact ⟨this.m1,this.s1,this.g1⟩
theorem aXZ {p:ByteArray}{i:Nat}{s:MM}{j:Nat}(hj:j≤7)(h:¬ (j+2≤8∧i+(j+2)≤p.size)):fA p i s 7=fA p i s j:=by
 have key:∀ d,j+d≤7→fA p i s (j+d)=fA p i s j:=by
  intro d
  induction d with
  | zero=>intro _;rfl
  | succ d ih=>
   intro hd
   rw [←Nat.add_assoc]
   show (if j+d+2≤8∧i+(j+d+2)≤p.size then _ else _)=_
   rw [if_neg (by omega)]
   exact ih (by omega)
 have:=key (7-j) (by omega)
 rwa [show j+(7-j)=7 from by omega] at this
theorem aNI (p:ByteArray)(i n:Nat):p.extract (i:Int).toNat ((i:Int)+(n:Int)).toNat=p.extract i (i+n):=by
 have e1:(i:Int).toNat=i:=by omega
 have e2:((i:Int)+(n:Int)).toNat=i+n:=by omega
 rw [e1,e2]
theorem aCF (p:ByteArray)(i n:Nat)(h:i+n≤p.size):(p.extract i (i+n)).size=n:=by
 rw [←fK,lZ,List.length_drop,List.length_take,fK]
 omega
theorem aX0 (l:List ByteArray)(hl:FewT l):PC Tryz.prog 151 [bB l] (.fm Tryz.prog 9 3 (dQ l l.length)):=by
 refine FC.body 4 58 Tryz.func151 rfl (by kernel_rfl) ?_
 refine sq ?_
 refine Z1 aB ?_
 refine cn ?_
 refine sq ?_
 refine aZ rfl rfl (xJ (k:=9) (e:=3) 0 rfl (by kernel_rfl)) ⟨rfl,trivial⟩ ?_
 refine Z1 aB ?_
 refine cn ?_
 refine aD ?_
 refine sq ?_
 refine Z1 mo ?_
 refine Z1 ln ?_
 refine Z1 mo ?_
 refine cn ?_
 refine aU ?_
 refine bM (ι:=Nat) (fun k=>⟨[(3,.mp 0),(11,bB l),(12,vi l.length),(13,vi k)],[(0,.map Tryz.prog 9 3 (dQ l k)),(1,.unborn)]⟩) (fun k=>k≤l.length) (fun k=>l.length-k) 0 (Nat.zero_le _) (Le.sub (by repeat (first|trivial|refine ⟨.inr rfl,?_⟩|refine ⟨.inr (aR (by omega)),?_⟩)) (by repeat (first|trivial|refine ⟨rfl,?_⟩))) ?_
 intro k hI
 refine sq ?_
 refine Z1 bz ?_
 refine cn ?_
 refine aD ?_
 refine cd (fun hb=>?_) fun hb=>?_
 ·have hlt:k<l.length:=by have h0:=of_decide_eq_true hb;omega
  have hk0:=Sane.all hl k
  have hps:=hl.size k
  have hll:=hl.len
  have hp1:(l.getD k ⟨#[]⟩).size≤1000000000:=by omega
  refine aQ ?_
  refine aD ?_
  refine aU ?_
  refine sq ?_
  refine Z1 ia ?_
  refine Z1 ld ?_
  refine Z1 aB ?_
  refine cn ?_
  refine sq ?_
  refine aZ rfl rfl (xJ (k:=9) (e:=3) 1 rfl (by kernel_rfl)) ⟨rfl,trivial⟩ ?_
  refine Z1 aB ?_
  refine cn ?_
  refine sq ?_
  refine Z1 mo ?_
  refine Z1 oG ?_
  refine Z1 mo ?_
  refine cn ?_
  refine aU ?_
  refine bM (ι:=Nat) (fun i=>⟨[(3,.mp 0),(11,bB l),(12,vi l.length),(13,vi k),(5,vs (l.getD k ⟨#[]⟩)),(6,.mp 1),(19,vi (l.getD k ⟨#[]⟩).size),(20,vi i)],[(0,.map Tryz.prog 9 3 ((iY (l.getD k ⟨#[]⟩) (dQ l k) i).1)),(1,.map Tryz.prog 9 3 ((iY (l.getD k ⟨#[]⟩) (dQ l k) i).2))]⟩) (fun i=>i≤(l.getD k ⟨#[]⟩).size) (fun i=>(l.getD k ⟨#[]⟩).size-i) 0 (Nat.zero_le _) (Le.sub (by repeat (first|trivial|refine ⟨.inr rfl,?_⟩|refine ⟨.inr (aR (by omega)),?_⟩)) (by repeat (first|trivial|refine ⟨rfl,?_⟩))) ?_
  intro i hI
  refine sq ?_
  refine Z1 bz ?_
  refine cn ?_
  refine aD ?_
  refine cd (fun hb=>?_) fun hb=>?_
  ·have hli:i<(l.getD k ⟨#[]⟩).size:=by have h0:=of_decide_eq_true hb;omega
   have hP:=(Sane.part hk0.1 hk0.2.1 hk0.2.2 (p:=(l.getD k ⟨#[]⟩)) hp1 i).more (c:=199999999999993) (by omega)
   refine aQ ?_
   refine aD ?_
   refine aU ?_
   refine sq ?_
   refine Z1 mo ?_
   refine Z1 aB ?_
   refine cn ?_
   refine sq ?_
   refine Z1 aB ?_
   refine cn ?_
   refine aU ?_
   refine bM (ι:=Nat) (fun j=>⟨[(3,.mp 0),(11,bB l),(12,vi l.length),(13,vi k),(5,vs (l.getD k ⟨#[]⟩)),(6,.mp 1),(19,vi (l.getD k ⟨#[]⟩).size),(20,vi i),(7,vi i),(8,vi ((j+2:Nat):Int))],[(0,.map Tryz.prog 9 3 ((fA (l.getD k ⟨#[]⟩) i (iY (l.getD k ⟨#[]⟩) (dQ l k) i) j).1)),(1,.map Tryz.prog 9 3 ((fA (l.getD k ⟨#[]⟩) i (iY (l.getD k ⟨#[]⟩) (dQ l k) i) j).2))]⟩) (fun j=>j≤7) (fun j=>7-j) 0 (Nat.zero_le _) (Le.sub (by repeat (first|trivial|refine ⟨.inr rfl,?_⟩|refine ⟨.inr (aR (by omega)),?_⟩)) (by repeat (first|trivial|refine ⟨rfl,?_⟩))) ?_
   intro j hI
   have hS:=(hP.row (p:=(l.getD k ⟨#[]⟩)) (i:=i) hp1 j).more (c:=200000000000000) (by omega)
   refine aD ?_
   refine sq ?_
   refine Z1 mo ?_
   refine Z1 bz ?_
   refine Z1 mo ?_
   refine Z4 (fun hC=>mo) ?_
   refine Z4 (fun hC=>mo) ?_
   refine Z4 (fun hC=>ba) ?_
   refine Z4 (fun hC=>mo) ?_
   refine Z4 (fun hC=>oG) ?_
   refine Z4 (fun hC=>bz) ?_
   refine Z1 an ?_
   refine cn ?_
   refine cd (fun hb=>?_) fun hb=>?_
   ·have hn:j+2≤8∧i+(j+2)≤(l.getD k ⟨#[]⟩).size:=by simp only [Bool.and_eq_true,decide_eq_true_eq] at hb;omega
    have hx:=aNI (l.getD k ⟨#[]⟩) i (j+2)
    have hsz:((l.getD k ⟨#[]⟩).extract i (i+(j+2))).size≤maxLen:=by rw [aCF _ _ _ hn.2];have:maxLen=9223372036854775807:=rfl;omega
    have hg1:=hS.g1 ((l.getD k ⟨#[]⟩).extract i (i+(j+2)))
    have hg2:=hS.g2 ((l.getD k ⟨#[]⟩).extract i (i+(j+2)))
    have hs1:=hS.s1
    have hs2:=hS.s2
    have hml:maxLen=9223372036854775807:=rfl
    refine aQ ?_
    refine aD ?_
    refine aU ?_
    refine sq ?_
    refine Z1 mo ?_
    refine Z1 mo ?_
    refine Z1 mo ?_
    refine Z1 mo ?_
    refine Z1 ba ?_
    refine Z1 (OC.cast (aGK rfl rfl rfl rfl (by kernel_rfl) (by omega) (by omega) (by omega)) (show Av.val (.string ((l.getD k ⟨#[]⟩).extract (i:Int).toNat ((i:Int)+((j+2:Nat):Int)).toNat))=vs ((l.getD k ⟨#[]⟩).extract i (i+(j+2))) from by rw [hx])) ?_
    refine Z1 aB ?_
    refine cn ?_
    refine sq ?_
    refine Z1 mo ?_
    refine Z1 mo ?_
    refine Z1 mo ?_
    refine eL (R:=[(_,.map _ _ _ _)]) rfl rfl (aCG (k:=9) (e:=3) (Go.Maps.string_keyed Tryz.underlying9) rfl rfl rfl (by kernel_rfl) (by kernel_rfl) (by kernel_rfl) (aCH Tryz.underlying9 hsz) (hS.m2.2 _)) ⟨rfl,trivial⟩ ?_
    refine Z1 bz ?_
    refine cn ?_
    refine cd (fun hb=>?_) fun hb=>?_
    ·have hge:bO (fA (l.getD k ⟨#[]⟩) i (iY (l.getD k ⟨#[]⟩) (dQ l k) i) j).2 ((l.getD k ⟨#[]⟩).extract i (i+(j+2)))≤i:=by have h0:=of_decide_eq_true hb;omega
     have e1:fA (l.getD k ⟨#[]⟩) i (iY (l.getD k ⟨#[]⟩) (dQ l k) i) (j+1)=((fA (l.getD k ⟨#[]⟩) i (iY (l.getD k ⟨#[]⟩) (dQ l k) i) j).1.put (kS ((l.getD k ⟨#[]⟩).extract i (i+(j+2)))) (iv (bO (fA (l.getD k ⟨#[]⟩) i (iY (l.getD k ⟨#[]⟩) (dQ l k) i) j).1 ((l.getD k ⟨#[]⟩).extract i (i+(j+2)))+1)),(fA (l.getD k ⟨#[]⟩) i (iY (l.getD k ⟨#[]⟩) (dQ l k) i) j).2.put (kS ((l.getD k ⟨#[]⟩).extract i (i+(j+2)))) (iv ((i+(j+2):Nat):Int))):=by
      show (if _ then jY _ _ _ _ else _)=_
      rw [if_pos hn]
      unfold jY
      rw [if_pos hge]
     refine sq ?_
     refine Z1 mo ?_
     refine Z1 mo ?_
     refine eL (R:=[(_,.map _ _ _ _)]) rfl rfl (aCG (k:=9) (e:=3) (Go.Maps.string_keyed Tryz.underlying9) rfl rfl rfl (by kernel_rfl) (by kernel_rfl) (by kernel_rfl) (aCH Tryz.underlying9 hsz) (hS.m1.2 _)) ⟨rfl,trivial⟩ ?_
     refine Z1 ba ?_
     refine fP rfl rfl (aCI (k:=9) (e:=3) (Go.Maps.string_keyed Tryz.underlying9) rfl rfl rfl rfl (by kernel_rfl) (by kernel_rfl) (aCH Tryz.underlying9 hsz) (mN (by omega)) (by omega)) ⟨rfl,trivial⟩ ?_
     refine cn ?_
     refine tx ?_
     refine Z1 mo ?_
     refine Z1 mo ?_
     refine Z1 mo ?_
     refine Z1 mo ?_
     refine Z1 ba ?_
     refine fP rfl rfl (aCI (k:=9) (e:=3) (Go.Maps.string_keyed Tryz.underlying9) rfl rfl rfl rfl (by kernel_rfl) (by kernel_rfl) (aCH Tryz.underlying9 hsz) (mN (by omega)) (by omega)) ⟨rfl,trivial⟩ ?_
     refine cn ?_
     refine tx ?_
     refine Z1 mo ?_
     refine Z1 ba ?_
     refine Z1 aB ?_
     refine cn ?_
     exact ⟨j+1,by omega,by omega,Le.sub (by repeat (first|trivial|refine ⟨.inr rfl,?_⟩|refine ⟨.inr (aR (by omega)),?_⟩)) ⟨by rw [e1];rfl,by rw [e1];rfl,trivial⟩⟩
    ·have hge:¬ bO (fA (l.getD k ⟨#[]⟩) i (iY (l.getD k ⟨#[]⟩) (dQ l k) i) j).2 ((l.getD k ⟨#[]⟩).extract i (i+(j+2)))≤i:=by have h0:=of_decide_eq_false hb;omega
     have e1:fA (l.getD k ⟨#[]⟩) i (iY (l.getD k ⟨#[]⟩) (dQ l k) i) (j+1)=fA (l.getD k ⟨#[]⟩) i (iY (l.getD k ⟨#[]⟩) (dQ l k) i) j:=by
      show (if _ then jY _ _ _ _ else _)=_
      rw [if_pos hn]
      unfold jY
      rw [if_neg hge]
     refine aQ ?_
     refine tx ?_
     refine Z1 mo ?_
     refine Z1 ba ?_
     refine Z1 aB ?_
     refine cn ?_
     exact ⟨j+1,by omega,by omega,Le.sub (by repeat (first|trivial|refine ⟨.inr rfl,?_⟩|refine ⟨.inr (aR (by omega)),?_⟩)) ⟨by rw [e1];rfl,by rw [e1];rfl,trivial⟩⟩
   ·have hn:¬ (j+2≤8∧i+(j+2)≤(l.getD k ⟨#[]⟩).size):=by intro hc;simp only [Bool.and_eq_false_iff,decide_eq_false_iff_not] at hb;omega
    have hend:iY (l.getD k ⟨#[]⟩) (dQ l k) (i+1)=fA (l.getD k ⟨#[]⟩) i (iY (l.getD k ⟨#[]⟩) (dQ l k) i) j:=aXZ hI hn
    refine bU ?_
    refine tx ?_
    refine Z1 ba ?_
    refine Z1 mo ?_
    refine cn ?_
    exact ⟨i+1,by omega,by omega,Le.sub (by repeat (first|trivial|refine ⟨.inr rfl,?_⟩)) ⟨by rw [hend];rfl,by rw [hend];rfl,trivial⟩⟩
  ·have hie:i=(l.getD k ⟨#[]⟩).size:=by have h0:=of_decide_eq_false hb;omega
   refine bU ?_
   refine tx ?_
   refine Z1 ba ?_
   refine Z1 mo ?_
   refine cn ?_
   exact ⟨k+1,by omega,by omega,Le.reset [1] (by simp) (by repeat (first|trivial|refine ⟨.inr rfl,?_⟩)) ⟨by simp [aE],aE.of_pure _ (bV l),trivial,trivial,trivial⟩ ⟨by rw [if_neg (by decide),hie];exact ⟨rfl,trivial⟩,by rw [if_pos (by decide)],trivial⟩⟩
 ·have hge:k=l.length:=by have h0:=of_decide_eq_false hb;omega
  refine bU ?_
  refine aD ?_
  rw [hge]
  refine bS (Le.freezeMap 3 0 rfl rfl) ?_
  refine tx ?_
  refine Z1 mo ?_
  refine Z1 aB ?_
  refine cn ?_
  refine aP ?_
  exact ⟨.inl rfl,aF.tmp rfl rfl,trivial⟩
open Go.RowKit Go.Maps
open Op (bytesLess)
theorem aNM:∀ l:List UInt8,bytesLess l l=false
 | []=>rfl
 | a::l=>by simp [bytesLess,aNM l]
theorem aNN:∀ {a b c:List UInt8},bytesLess a b=true→bytesLess b c=true→bytesLess a c=true
 | _,[],_,h,_=>by cases ‹List UInt8›<;>simp [bytesLess] at h
 | [],b::y,[],_,h=>by simp [bytesLess] at h
 | [],b::y,c::z,_,_=>by simp [bytesLess]
 | a::x,b::y,[],_,h=>by simp [bytesLess] at h
 | a::x,b::y,c::z,h,k=>by
  simp only [bytesLess,Bool.or_eq_true,decide_eq_true_eq,Bool.and_eq_true,beq_iff_eq] at h k ⊢
  rcases h with h|⟨h1,h2⟩<;>rcases k with k|⟨k1,k2⟩
  ·exact .inl (by rw [UInt8.lt_iff_toNat_lt] at *;omega)
  ·subst k1;exact .inl h
  ·subst h1;exact .inl k
  ·subst h1;subst k1;exact .inr ⟨rfl,aNN h2 k2⟩
theorem aNO:∀ {a b:List UInt8},a≠b→bytesLess a b=true∨bytesLess b a=true
 | [],[],h=>absurd rfl h
 | [],_::_,_=>.inl rfl
 | _::_,[],_=>.inr rfl
 | a::x,b::y,h=>by
  simp only [bytesLess,Bool.or_eq_true,decide_eq_true_eq,Bool.and_eq_true,beq_iff_eq]
  by_cases e:a=b
  ·subst e
   rcases aNO (a:=x) (b:=y) (fun h'=>h (by rw [h'])) with h1|h1
   ·exact .inl (.inr ⟨rfl,h1⟩)
   ·exact .inr (.inr ⟨rfl,h1⟩)
  ·have:a.toNat≠b.toNat:=fun h'=>e (UInt8.toNat_inj.1 h')
   rcases Nat.lt_or_gt_of_ne this with h1|h1
   ·exact .inl (.inl (UInt8.lt_iff_toNat_lt.2 h1))
   ·exact .inr (.inl (UInt8.lt_iff_toNat_lt.2 h1))
abbrev fE:=ByteArray × Int
def oJ (r:fE):Av:=.agg [vs r.1,vi r.2]
def eO (a b:fE):Bool:=if a.2≠b.2 then decide (a.2>b.2) else if (a.1.size:Int)≠b.1.size then decide ((a.1.size:Int)>b.1.size) else bytesLess a.1.toList b.1.toList
theorem aGR {a b c:fE}(h:eO a b=true)(k:eO b c=true):eO a c=true:=by
 unfold eO at *
 by_cases h1:a.2=b.2
 ·rw [if_neg (by omega)] at h
  by_cases h2:b.2=c.2
  ·rw [if_neg (by omega)] at k
   rw [if_neg (by omega)]
   by_cases h3:(a.1.size:Int)=b.1.size
   ·rw [if_neg (by omega)] at h
    by_cases h4:(b.1.size:Int)=c.1.size
    ·rw [if_neg (by omega)] at k
     rw [if_neg (by omega)]
     exact aNN h k
    ·rw [if_pos h4] at k
     rw [if_pos (by omega)]
     simp at k ⊢
     omega
   ·rw [if_pos h3] at h
    by_cases h4:(b.1.size:Int)=c.1.size
    ·rw [if_pos (by omega)]
     simp at h ⊢
     omega
    ·rw [if_pos h4] at k
     simp at h k
     rw [if_pos (by omega)]
     simp
     omega
  ·rw [if_pos h2] at k
   rw [if_pos (by omega)]
   simp at k ⊢
   omega
 ·rw [if_pos h1] at h
  by_cases h2:b.2=c.2
  ·rw [if_pos (by omega)]
   simp at h ⊢
   omega
  ·rw [if_pos h2] at k
   simp at h k
   rw [if_pos (by omega)]
   simp
   omega
theorem aNP {a b:fE}(h:a.1≠b.1):eO a b=true∨eO b a=true:=by
 by_cases h1:a.2=b.2
 ·by_cases h3:(a.1.size:Int)=b.1.size
  ·have f1:eO a b=bytesLess a.1.toList b.1.toList:=by unfold eO;rw [if_neg (by omega),if_neg (by omega)]
   have f2:eO b a=bytesLess b.1.toList a.1.toList:=by unfold eO;rw [if_neg (by omega),if_neg (by omega)]
   rw [f1,f2]
   exact aNO fun h4=>h (oF (toList_inj.1 h4))
  ·have f1:eO a b=decide ((a.1.size:Int)>b.1.size):=by unfold eO;rw [if_neg (by omega),if_pos h3]
   have f2:eO b a=decide ((b.1.size:Int)>a.1.size):=by unfold eO;rw [if_neg (by omega),if_pos (by omega)]
   rw [f1,f2,decide_eq_true_eq,decide_eq_true_eq]
   omega
 ·have f1:eO a b=decide (a.2>b.2):=by unfold eO;rw [if_pos h1]
  have f2:eO b a=decide (b.2>a.2):=by unfold eO;rw [if_pos (by omega)]
  rw [f1,f2,decide_eq_true_eq,decide_eq_true_eq]
  omega
theorem aX1 (a:fE):eO a a=false:=by
 unfold eO
 rw [if_neg (by omega),if_neg (by omega),aNM]
theorem aX2 {a b:fE}(h:eO a b=true):eO b a=false:=by
 cases k:eO b a with
 | false=>rfl
 | true=>
  have:=aGR h k
  rw [aX1] at this
  cases this
def oK (D:DataW Unit)(s:ByteArray):fE:=(s,(fB s-2)*bO D s-fB s)
def kV (D:DataW Unit)(left:Lit→Bool)(r:fE):Prop:=
 (r=(⟨#[]⟩,0)∧∀ s,Maps.has D (kS s)=true→left (kS s)=true)∨
 (Maps.has D (kS r.1)=true∧left (kS r.1)=false∧r=oK D r.1∧∀ s,Maps.has D (kS s)=true→left (kS s)=false→s=r.1∨eO r (oK D s)=true)
theorem aX3 (D:DataW Unit):kV D (Maps.has D) (⟨#[]⟩,0):=.inl ⟨rfl,fun s h=>h⟩
theorem aGS {s t:ByteArray}:(kS t).sameKey (kS s)=decide (t=s):=by
 by_cases e:t=s
 ·subst e
  rw [WideAt.sameKey_self (aB4 t)]
  simp
 ·rw [sameKey_ne fun h=>e (aGE h)]
  simp [e]
theorem aX4 {D:DataW Unit}{left:Lit→Bool}{r:fE}{sk:ByteArray}(h:kV D left r)(hs:Maps.has D (kS sk)=true)(hw:r.1=⟨#[]⟩→r=(⟨#[]⟩,0)∧∀ s,Maps.has D (kS s)=true→left (kS s)=true)(ht:(r.1=⟨#[]⟩)∨eO (oK D sk) r=true):
 kV D (fun z=>left z&&!z.sameKey (kS sk)) (oK D sk):=by
 refine .inr ⟨hs,by show (left (kS sk)&&!(kS sk).sameKey (kS sk))=false;rw [aGS];simp,rfl,fun s h1 h2=>?_⟩
 have h2':(left (kS s)&&!(kS s).sameKey (kS sk))=false:=h2
 rw [aGS] at h2'
 by_cases e:s=sk
 ·exact .inl e
 ·have hl:left (kS s)=false:=by simpa [e] using h2'
  refine .inr ?_
  rcases ht with ht|ht
  ·rw [(hw ht).2 s h1] at hl
   cases hl
  ·rcases h with ⟨h3,h4⟩|⟨h3,h4,h5,h6⟩
   ·rw [h4 s h1] at hl
    cases hl
   ·rcases h6 s h1 hl with h7|h7
    ·have:oK D s=r:=by rw [h7,←h5]
     rw [this]
     exact ht
    ·exact aGR ht h7
theorem aX5 {D:DataW Unit}{left:Lit→Bool}{r:fE}{sk:ByteArray}(h:kV D left r)(hl:left (kS sk)=true)(h0:r.1≠⟨#[]⟩)(ht:eO (oK D sk) r=false):
 kV D (fun z=>left z&&!z.sameKey (kS sk)) r:=by
 rcases h with ⟨h3,_⟩|⟨h3,h4,h5,h6⟩
 ·rw [h3] at h0
  exact absurd rfl h0
 ·refine .inr ⟨h3,by show (left (kS r.1)&&!(kS r.1).sameKey (kS sk))=false;rw [h4];rfl,h5,fun s h1 h2=>?_⟩
  have h2':(left (kS s)&&!(kS s).sameKey (kS sk))=false:=h2
  rw [aGS] at h2'
  by_cases e:s=sk
  ·subst e
   by_cases e2:s=r.1
   ·exact .inl e2
   ·rcases aNP (a:=oK D s) (b:=r) e2 with h7|h7
    ·rw [ht] at h7;cases h7
    ·exact .inr h7
  ·exact h6 s h1 (by simpa [e] using h2')
theorem aX6 {D:DataW Unit}{r r':fE}(h:kV D (fun _=>false) r)(h':kV D (fun _=>false) r'):r=r':=by
 rcases h with ⟨h1,h2⟩|⟨h1,_,h2,h3⟩<;>rcases h' with ⟨k1,k2⟩|⟨k1,_,k2,k3⟩
 ·rw [h1,k1]
 ·have:=h2 _ k1
  cases this
 ·have:=k2 _ h1
  cases this
 ·rcases h3 r'.1 k1 rfl with e|e
  ·rw [h2,k2,e]
  ·rw [←k2] at e
   rcases k3 r.1 h1 rfl with e'|e'
   ·rw [h2,k2,e']
   ·rw [←h2] at e'
    rw [aX2 e] at e'
    cases e'
open Classical in
noncomputable def bestR (D:DataW Unit):fE:=if h:∃ r,kV D (fun _=>false) r then h.choose else (⟨#[]⟩,0)
theorem aCJ {D:DataW Unit}{r:fE}(h:kV D (fun _=>false) r):bestR D=r:=by
 have hx:∃ r,kV D (fun _=>false) r:=⟨r,h⟩
 unfold bestR
 rw [dif_pos hx]
 exact aX6 hx.choose_spec h
def sL (D:DataW Unit):Prop:=∀ s,Maps.has D (kS s)=true→2≤s.size∧s.size≤8
theorem aX7 {p:ByteArray}{i n:Nat}{s:MM}(h:MI s.1)(hk:sL s.1)(hn:2≤n∧n≤8)(hp:i+n≤p.size):sL (jY p i n s).1:=by
 unfold jY
 split
 ·intro t ht
  have ht':Maps.has (s.1.put (kS (p.extract i (i+n))) (iv (bO s.1 (p.extract i (i+n))+1))) (kS t)=true:=ht
  rw [aM4 h,Bool.or_eq_true,decide_eq_true_eq] at ht'
  rcases ht' with e|e
  ·rw [e,aCF p i n hp]
   exact hn
  ·exact hk t e
 ·exact hk
theorem aNQ {p:ByteArray}{i b:Nat}{s:MM}(hp:p.size≤1000000000)(h:Sane b s)(hk:sL s.1):∀ k,k≤7→sL (fA p i s k).1
 | 0,_=>hk
 | k+1,hk7=>by
  have h1:=aNQ (i:=i) hp h hk k (by omega)
  unfold fA
  split
  ·rename_i hc
   exact aX7 (h.row hp k).m1 h1 ⟨by omega,hc.1⟩ hc.2
  ·exact h1
theorem aNR {p:ByteArray}{M:DataW Unit}{b:Nat}(hM:MI M)(hs:Maps.size M≤b)(hg:∀ t,0≤bO M t∧bO M t≤b)(hk:sL M)(hp:p.size≤1000000000):∀ k,sL (iY p M k).1
 | 0=>hk
 | k+1=>aNQ hp (Sane.part hM hs hg hp k) (aNR hM hs hg hk hp k) 7 (Nat.le_refl _)
theorem aCK {l:List ByteArray}(h:FewT l):∀ k,sL (dQ l k)
 | 0=>fun s hs=>by cases hs
 | k+1=>by
  obtain ⟨h1,h2,h3⟩:=Sane.all h k
  have:=h.size k
  exact aNR h1 h2 h3 (aCK h k) (by omega) _
theorem aX8 {s:ByteArray}(h:s.size≤8):0≤fB s∧fB s≤24:=by
 have:=zJ s s.size
 unfold fB
 omega
theorem aX9 {a c:Int}(h:-2≤a∧a≤22)(hc:0≤c∧c≤175000000000000):-4000000000000000≤a*c∧a*c≤4000000000000000:=by
 constructor
 ·have h1:(-2)*c≤a*c:=Int.mul_le_mul_of_nonneg_right h.1 hc.1
  omega
 ·have h1:a*c≤22*c:=Int.mul_le_mul_of_nonneg_right h.2 hc.1
  omega
instance (r:fE):Pu (oJ r):=⟨by unfold oJ;exact Pu.out⟩
end Go.Proofs.YtnklgkjfoggpbaaGreatDoor
namespace Go.Proofs.YtnklgkjfoggpbaaGreatDoor
open Go.RowKit
theorem aYA (a b:fE)(ha:a.1.size≤100)(hb0:b.1.size≤100):PC Tryz.prog 150 [oJ a,oJ b] (vb (eO a b)):=by
 refine FC.body 6 36 Tryz.func150 rfl (by kernel_rfl) ?_
 refine W ?_
 refine cd (fun hb=>?_) fun hb=>?_
 ·have h1:a.2≠b.2:=by simpa using hb
  refine W ?_
  exact ⟨.inl rfl,aF.tmp rfl (bP (by unfold eO;rw [if_pos h1])),trivial⟩
 ·have h1:a.2=b.2:=by simpa using hb
  refine W ?_
  refine cd (fun hb=>?_) fun hb=>?_
  ·have h2:(a.1.size:Int)≠b.1.size:=by simpa using hb
   refine W ?_
   exact ⟨.inl rfl,aF.tmp rfl (bP (by unfold eO;rw [if_neg (by omega),if_pos h2])),trivial⟩
  ·have h2:(a.1.size:Int)=b.1.size:=by simpa using hb
   refine W ?_
   refine Z1 (aYB rfl rfl rfl) ?_
   refine W ?_
   exact ⟨.inl rfl,aF.tmp rfl (bP (by unfold eO;rw [if_neg (by omega),if_neg (by omega)])),trivial⟩
theorem aYC {D:DataW Unit}(hk:sL D){left:Lit→Bool}{r:fE}(h:kV D left r):r.1=⟨#[]⟩→r=(⟨#[]⟩,0)∧∀ s,Maps.has D (kS s)=true→left (kS s)=true:=fun e=>by
 rcases h with h|⟨h1,_⟩
 ·exact h
 ·have:=hk _ h1
  rw [e] at this
  exact absurd this.1 (by decide)
theorem aNS {D:DataW Unit}(hk:sL D){left:Lit→Bool}{r:fE}(h:kV D left r):r.1.size≤8:=by
 rcases h with ⟨h,_⟩|⟨h1,_⟩
 ·rw [h];decide
 ·exact (hk _ h1).2
theorem aYD {D:DataW Unit}{left:Lit→Bool}(hl:∀ kl,left kl=false){r:fE}(h:kV D left r):kV D (fun _=>false) r:=by
 have:left=fun _=>false:=funext hl
 rwa [←this]
theorem aGT (s:ByteArray):(s.toList==(⟨#[]⟩:ByteArray).toList)=decide (s=⟨#[]⟩):=by
 rw [aNT]
 by_cases e:s=⟨#[]⟩
 ·subst e;simp
 ·have:¬ tB s=tB ⟨#[]⟩:=fun h=>e (oF h)
  simp [e,this]
abbrev BSt:=(Lit→Bool) × Nat × Option (Value × Value) × fE
theorem aYF (l:List ByteArray)(hl:FewT l):PC Tryz.prog 89 [bB l] (oJ (bestR (dQ l l.length))):=by
 refine FC.body 4 38 Tryz.func89 rfl (by kernel_rfl) ?_
 obtain ⟨hm,hms,hmg⟩:=Sane.all hl l.length
 have hko:=aCK hl l.length
 have hll:=hl.len
 refine sq ?_
 refine Z2 (al 0 [.string ⟨#[]⟩,.int .i64 0]) ?_
 refine cn ?_
 refine sq ?_
 refine Z1 aB ?_
 refine cn ?_
 refine sq ?_
 refine Z2 (al 1 [.string ⟨#[]⟩,.int .i64 0]) ?_
 refine cn ?_
 refine aD ?_
 refine sq ?_
 refine Z1 mo ?_
 refine Z1 (ca (aX0 l hl)) ?_
 refine aZ rfl rfl (aYG (k:=9) (e:=3) 2 (Go.Maps.string_keyed Tryz.underlying9) rfl rfl (by kernel_rfl)) ⟨rfl,trivial⟩ ?_
 refine cn ?_
 refine aU ?_
 refine bM (ι:=BSt) (fun q=>⟨[(2,.own 0 0),(3,.clo 150 []),(4,.own 1 0),(11,.own 2 0)],[(0,.live 142 [vs ⟨#[]⟩,vi 0]),(1,.live 142 [vs q.2.2.2.1,vi q.2.2.2.2]),(2,.iter Tryz.prog 9 3 (dQ l l.length) q.1 q.2.1 q.2.2.1),(3,.unborn)]⟩) (fun q=>kV (dQ l l.length) q.1 q.2.2.2) (fun q=>q.2.1) (Maps.has (dQ l l.length),Maps.size (dQ l l.length),none,(⟨#[]⟩,0)) (aX3 _) (Le.sub (by repeat (first|trivial|refine ⟨.inr rfl,?_⟩|refine ⟨.inr (aR (by omega)),?_⟩)) (by repeat (first|trivial|refine ⟨rfl,?_⟩))) ?_
 intro q hI
 refine aD ?_
 refine aYH (k:=9) (e:=3) (Go.Maps.string_keyed Tryz.underlying9) rfl rfl rfl (by kernel_rfl) rfl rfl (fun h0 hl=>?_) (fun key v kl y c' hk hlk hy hat hlt=>?_)
 ·refine Z1 ex ?_
  refine cn ?_
  refine aD ?_
  refine cd (fun hb=>?_) fun hb=>?_
  ·exact absurd hb (by simp)
  ·refine bU ?_
   refine sq ?_
   refine dE 2 [_,_] ?_
   refine bW [_,_] ?_
   refine cn ?_
   refine aP ?_
   exact ⟨.inl rfl,(by rw [aCJ (aYD hl hI)];exact aF.cell rfl rfl rfl (by kernel_rfl) (by kernel_rfl) (Nat.le_of_ble_eq_true rfl)),trivial⟩
 ·obtain ⟨sk,rfl,rfl,hsk⟩:=aYI Tryz.underlying9 hk
  obtain ⟨cv,rfl,rfl,hcv⟩:=plainElem_int_inv (H:=Unit) Tryz.underlying3 hy
  have hk1:q.1 (kS sk)=true:=hlk
  have hhas:Maps.has (dQ l l.length) (kS sk)=true:=Go.Maps.has_true_of_atKey hat
  have hget:bO (dQ l l.length) sk=cv:=by
   have h1:=hm.2 sk
   have h2:=hat (iv 0)
   have h3:iv (bO (dQ l l.length) sk)=iv cv:=h1.symm.trans h2
   unfold iv at h3
   injection h3 with h3
   injection h3 with _ h3
  have hz:=hko sk hhas
  have hcs:=aX8 hz.2
  have hgv:=hmg sk
  rw [hget] at hgv
  have hmul:=aX9 (a:=fB sk-2) (c:=cv) (by omega) (by omega)
  have hrow:oK (dQ l l.length) sk=(sk,(fB sk-2)*cv-fB sk):=by unfold oK;rw [hget]
  have hbs:=aNS hko hI
  refine Z1 ex ?_
  refine cn ?_
  refine aD ?_
  refine cd (fun hb=>?_) fun hb=>?_
  ·refine aQ ?_
   refine aU ?_
   refine sq ?_
   refine Z1 (aYJ rfl rfl) ?_
   refine Z1 ex ?_
   refine Z1 ex ?_
   refine Z1 aB ?_
   refine Z1 aB ?_
   refine cn ?_
   refine sq ?_
   refine Z1 mo ?_
   refine Z1 (ca (aM6 sk (by omega))) ?_
   refine Z1 aB ?_
   refine cn ?_
   refine sq ?_
   refine Z1 mo ?_
   refine Z1 mo ?_
   refine Z1 iP ?_
   refine Z1 mo ?_
   refine Z1 bml ?_
   refine Z1 mo ?_
   refine Z1 iP ?_
   refine Z1 (bd [(0,1),(1,1)] [.string ⟨#[]⟩,.int .i64 0] [.val _,.val _]) ?_
   refine Z2 (al 3 [.string ⟨#[]⟩,.int .i64 0]) ?_
   refine bW [_,_] ?_
   refine cn ?_
   refine sq ?_
   refine aS 0 1 false ?_
   refine bG ?_
   refine Z1 (aGV rfl rfl rfl) ?_
   refine Z1 mo ?_
   refine Z4 (fun hC=>mo) ?_
   refine aW (R:=[(_,.live _ _)]) rfl rfl rfl eV (fun hC=>mA (k:=2) (ds:=[_,_]) rfl rfl (by kernel_rfl) (by kernel_rfl) rfl rfl (by decide)) (fun hC=>⟨(by first|rfl|exact hC|(simp only [Bool.and_eq_true] at hC;first|exact hC.1|exact hC.1.1|exact hC.2)|simp_all),trivial⟩) ⟨rfl,trivial⟩ ?_
   refine aW (R:=[(_,.live _ _)]) rfl rfl rfl eV (fun hC=>mA (k:=2) (ds:=[_,_]) rfl rfl (by kernel_rfl) (by kernel_rfl) rfl rfl (by decide)) (fun hC=>⟨(by first|rfl|exact hC|(simp only [Bool.and_eq_true] at hC;first|exact hC.1|exact hC.1.1|exact hC.2)|simp_all),trivial⟩) ⟨rfl,trivial⟩ ?_
   refine aW (R:=[]) rfl rfl rfl eV (fun hC=>kW rfl rfl (by kernel_rfl) (aYA (sk,(fB sk-2)*cv-fB sk) q.2.2.2 (by show sk.size≤100;omega) (by omega)) rfl (by simp only [bE,aN,and_self,cP,bV,oJ,implies_true]) (by simp only [bE,aN,and_self,cP,bV,oJ,implies_true])) (fun hC=>⟨(by first|rfl|exact hC|(simp only [Bool.and_eq_true] at hC;first|exact hC.1|exact hC.1.1|exact hC.2)|simp_all),(by first|rfl|exact hC|(simp only [Bool.and_eq_true] at hC;first|exact hC.1|exact hC.1.1|exact hC.2)|simp_all),(by first|rfl|exact hC|(simp only [Bool.and_eq_true] at hC;first|exact hC.1|exact hC.1.1|exact hC.2)|simp_all),trivial⟩) trivial ?_
   refine Z1 cC ?_
   refine cn ?_
   refine cd (fun hb=>?_) fun hb=>?_
   ·have hta:(q.2.2.2.1=⟨#[]⟩)∨eO (oK (dQ l l.length) sk) q.2.2.2=true:=by rw [aGT,Bool.or_eq_true,decide_eq_true_eq] at hb;rw [hrow];exact hb
    refine tx ?_
    refine dE 2 [_,_] ?_
    refine bW [_,_] ?_
    refine cn ?_
    exact ⟨(fun z=>q.1 z&&!z.sameKey (kS sk),c',some (.string sk,.int .i64 cv),(sk,(fB sk-2)*cv-fB sk)),(by have h9:=aX4 hI hhas (aYC hko hI) hta;rw [hrow] at h9;exact h9),hlt,Le.reset [3] (by simp) (by repeat (first|trivial|refine ⟨.inr rfl,?_⟩)) ⟨by simp [aE],by simp [aE,dL],by simp [aE],by simp [aE],trivial⟩ ⟨by rw [if_neg (by decide)];exact ⟨rfl,by simp [aE]⟩,by rw [if_neg (by decide)];exact ⟨rfl,by simp [aE]⟩,by rw [if_neg (by decide)];exact ⟨rfl,trivial⟩,by rw [if_pos (by decide)],trivial⟩⟩
   ·have hne:q.2.2.2.1≠⟨#[]⟩:=by rw [aGT,Bool.or_eq_false_iff,decide_eq_false_iff_not] at hb;exact hb.1
    have htf:eO (oK (dQ l l.length) sk) q.2.2.2=false:=by rw [aGT,Bool.or_eq_false_iff] at hb;rw [hrow];exact hb.2
    refine aQ ?_
    exact ⟨(fun z=>q.1 z&&!z.sameKey (kS sk),c',some (.string sk,.int .i64 cv),q.2.2.2),aX5 hI hk1 hne htf,hlt,Le.reset [3] (by simp) (by repeat (first|trivial|refine ⟨.inr rfl,?_⟩)) ⟨by simp [aE],by simp [aE,dL],by simp [aE],by simp [aE],trivial⟩ ⟨by rw [if_neg (by decide)];exact ⟨rfl,by simp [aE]⟩,by rw [if_neg (by decide)];exact ⟨rfl,by simp [aE]⟩,by rw [if_neg (by decide)];exact ⟨rfl,trivial⟩,by rw [if_pos (by decide)],trivial⟩⟩
  ·exact absurd hb (by simp)
theorem tT (s t:ByteArray):(s.toList==t.toList)=decide (s=t):=by
 rw [aNT]
 by_cases e:s=t
 ·subst e;simp
 ·have:¬ tB s=tB t:=fun h=>e (oF h)
  simp [e,this]
def vP (p r:ByteArray):Nat→Nat→Int→Int
 | 0,_,n=>n
 | f+1,i,n=>if i+r.size≤p.size then (if p.extract i (i+r.size)=r then vP p r f (i+r.size) (n+1) else vP p r f (i+1) n) else n
def nC (l:List ByteArray)(r:ByteArray):Nat→Int
 | 0=>0
 | k+1=>vP (l.getD k ⟨#[]⟩) r ((l.getD k ⟨#[]⟩).size+1) 0 (nC l r k)
abbrev bX:=ByteArray × Int
def dJ:bX:=(⟨#[]⟩,0)
def vQ (p:bX):Av:=.agg [vs p.1,vi p.2]
def rH (l:List bX):Av:=.sl 2 l.length fun j=>vQ (l.getD j dJ)
theorem qD (l:List bX):aN (rH l):=by unfold rH aN;intro j;simp [vQ,aN,bE]
def qE (p:bX):Int:=if p.2>0 then 2 else fB p.1
def sO (l:List bX):Nat→Int
 | 0=>0
 | k+1=>sO l k+qE (l.getD k dJ)
theorem aYK (l:List bX)(k:Nat):sO l (k+1)=sO l k+qE (l.getD k dJ):=rfl
instance (l:List bX):Pu (rH l):=⟨qD l⟩
instance (p:bX):Pu (vQ p):=⟨by unfold vQ;exact Pu.out⟩
def gM (s:ByteArray)(i:Nat)(ab:List ByteArray)(k:Nat):Bool:=decide (k<32)&&decide (0<(ab.getD k ByteArray.empty).size)&&decide (i+(ab.getD k ByteArray.empty).size≤s.size)&&decide (s.extract i (i+(ab.getD k ByteArray.empty).size)=ab.getD k ByteArray.empty)
theorem qB {s:ByteArray}{i:Nat}{ab:List ByteArray}{k:Nat}(h:gM s i ab k=true):k<32∧0<(ab.getD k ByteArray.empty).size∧i+(ab.getD k ByteArray.empty).size≤s.size:=by
 unfold gM at h
 simp only [Bool.and_eq_true,decide_eq_true_eq] at h
 exact ⟨h.1.1.1,h.1.1.2,h.1.2⟩
def cR (s:ByteArray)(ab:List ByteArray)(i:Nat)(A:List Int):Nat→Int
 | 0=>fB (s.extract i (i+1))+A.getD (i+1) 0
 | k+1=>if gM s i ab k=true∧2+A.getD (i+(ab.getD k ByteArray.empty).size) 0<cR s ab i A k then 2+A.getD (i+(ab.getD k ByteArray.empty).size) 0 else cR s ab i A k
def cD (s:ByteArray)(ab:List ByteArray):Nat→List Int
 | 0=>List.replicate (s.size+1) 0
 | d+1=>(cD s ab d).set (s.size-1-d) (cR s ab (s.size-1-d) (cD s ab d) ab.length)
theorem xH (s:ByteArray)(ab:List ByteArray):∀ d,(cD s ab d).length=s.size+1
 | 0=>by simp [cD]
 | d+1=>by unfold cD;rw [List.length_set,xH s ab d]
theorem aNG {s:ByteArray}{i:Nat}(h:i<s.size):(s.extract i (i+1)).size=1∧0≤fB (s.extract i (i+1))∧fB (s.extract i (i+1))≤3:=by
 have e:(s.extract i (i+1)).size=1:=by rw [←fK,aYL s i h];rfl
 have:=zJ (s.extract i (i+1)) 1
 refine ⟨e,?_⟩
 unfold fB
 rw [e]
 omega
theorem aGQ {s:ByteArray}{ab:List ByteArray}{i:Nat}{A:List Int}{b:Int}(hi:i<s.size)(hA:∀ j,0≤A.getD j 0∧A.getD j 0≤b):∀ k,0≤cR s ab i A k∧cR s ab i A k≤b+3
 | 0=>by
  have h1:=aNG hi
  have h2:=hA (i+1)
  unfold cR
  omega
 | k+1=>by
  have h1:=aGQ hi hA (ab:=ab) k
  have h2:=hA (i+(ab.getD k ByteArray.empty).size)
  unfold cR
  split
  ·rename_i h;omega
  ·exact h1
theorem zM (l:List Int)(i j:Nat)(x:Int):(l.set i x).getD j 0=if i=j∧i<l.length then x else l.getD j 0:=by
 rw [List.getD,List.getElem?_set]
 by_cases e:i=j
 ·by_cases h:i<l.length
  ·simp [e,e ▸ h]
  ·rw [if_pos e,if_neg h,if_neg (fun hc=>h hc.2)]
   rw [List.getD,List.getElem?_eq_none (by omega)]
 ·rw [if_neg e,if_neg (fun hc=>e hc.1)]
  rfl
theorem aNH (s:ByteArray)(ab:List ByteArray):∀ d,d≤s.size→∀ j,0≤(cD s ab d).getD j 0∧(cD s ab d).getD j 0≤3*(d:Int)
 | 0,_,j=>by
  have:(List.replicate (s.size+1) (0:Int)).getD j 0=0:=by
   rw [List.getD,List.getElem?_replicate]
   split<;>rfl
  unfold cD
  omega
 | d+1,hd,j=>by
  have h1:=aNH s ab d (by omega)
  have h2:=aGQ (s:=s) (ab:=ab) (i:=s.size-1-d) (by omega) h1 ab.length
  unfold cD
  rw [zM]
  split
  ·omega
  ·have:=h1 j;omega
def iQ (s:ByteArray)(ab:List ByteArray)(i:Nat)(A:List Int)(k:Nat):List Int:=A.set i (cR s ab i A k)
theorem aCB {s:ByteArray}{ab:List ByteArray}{i k j:Nat}{A:List Int}(h:i<A.length):(iQ s ab i A k).getD j 0=if i=j then cR s ab i A k else A.getD j 0:=by
 unfold iQ
 rw [zM]
 by_cases e:i=j
 ·rw [if_pos ⟨e,h⟩,if_pos e]
 ·rw [if_neg (fun hc=>e hc.1),if_neg e]
theorem aXY {s:ByteArray}{ab:List ByteArray}{i k:Nat}{A:List Int}:(iQ s ab i A k).set i (cR s ab i A (k+1))=iQ s ab i A (k+1):=by
 unfold iQ
 rw [List.set_set]
theorem aCC (s:ByteArray)(ab:List ByteArray)(i k:Nat)(A:List Int):(iQ s ab i A k).length=A.length:=by unfold iQ;rw [List.length_set]
theorem aNK {s:ByteArray}{ab:List ByteArray}{i:Nat}(h:i<s.size):cD s ab (s.size-i)=iQ s ab i (cD s ab (s.size-(i+1))) ab.length:=by
 have e:s.size-i=(s.size-(i+1))+1:=by omega
 have e2:s.size-1-(s.size-(i+1))=i:=by omega
 rw [e]
 show (cD s ab (s.size-(i+1))).set (s.size-1-(s.size-(i+1))) _=_
 rw [e2]
 rfl
def wt:List ByteArray→Nat
 | []=>0
 | s::l=>s.size+1+wt l
theorem vR (a b:List ByteArray):wt (a++b)=wt a+wt b:=by
 induction a with
 | nil=>simp [wt]
 | cons x a ih=>simp only [List.cons_append,wt,ih];omega
theorem aCL (l:List ByteArray):l.length≤wt l:=by
 induction l with
 | nil=>exact Nat.le_refl _
 | cons x l ih=>simp only [List.length_cons,wt];omega
theorem aGW (l:List ByteArray):∀ k,(l.getD k ⟨#[]⟩).size≤wt l:=by
 induction l with
 | nil=>intro k;simp;exact Nat.zero_le _
 | cons x l ih=>
  intro k
  cases k with
  | zero=>simp only [List.getD_cons_zero,wt];omega
  | succ k=>have:=ih k;simp only [List.getD_cons_succ,wt];omega
theorem aGX {l:List ByteArray}(h:wt l≤5000000):FewT l:=⟨by have:=aCL l;omega,fun k=>by have:=aGW l k;omega⟩
theorem aGY {r:ByteArray}(hr:1≤r.size):∀ (k:Nat) (s:ByteArray),wt (Lib.splitB r 0 k s)≤s.size+1
 | 0,s=>by rw [Lib.splitB_zero];simp [wt]
 | k+1,s=>by
  rcases Lib.indexB_cases s r with h|⟨i,h,hi⟩
  ·rw [Lib.splitB_miss r 0 (k+1) s h];simp [wt]
  ·rw [Lib.splitB_hit r 0 k s i h]
   have h1:=aGY hr k (s.extract (i+r.size) s.size)
   have e1:(s.extract (i+r.size) s.size).size=s.size-(i+r.size):=by rw [ByteArray.size_extract];omega
   have e2:(s.extract 0 (i+0)).size=i:=by rw [ByteArray.size_extract];omega
   simp only [wt]
   omega
def iH (l:List ByteArray)(r:ByteArray):Nat→List ByteArray
 | 0=>[]
 | k+1=>iH l r k++mB (l.getD k ByteArray.empty) r
theorem aGZ {r:ByteArray}(hr:1≤r.size)(l:List ByteArray):∀ k,k≤l.length→wt (iH l r k)≤wt (l.take k)
 | 0,_=>Nat.le_refl _
 | k+1,hk=>by
  have h1:=aGZ hr l k (by omega)
  have h2:=aGY hr (Lib.countB (l.getD k ByteArray.empty) r) (l.getD k ByteArray.empty)
  have e:l.take (k+1)=l.take k++[l.getD k ByteArray.empty]:=by rw [List.take_add_one];simp [show k<l.length from hk]
  unfold iH
  rw [vR,e,vR]
  have:wt [l.getD k ByteArray.empty]=(l.getD k ByteArray.empty).size+1:=by simp [wt]
  unfold mB
  omega
theorem aYO {r:ByteArray}(hr:1≤r.size)(l:List ByteArray):wt (iH l r l.length)≤wt l:=by
 have:=aGZ hr l l.length (Nat.le_refl _)
 rwa [List.take_length] at this
noncomputable def bestL (l:List ByteArray):fE:=bestR (dQ l l.length)
noncomputable def chF (upto:Int):Nat→List ByteArray→List ByteArray→List ByteArray
 | 0,out,_=>out
 | f+1,out,parts=>if (out.length:Int)<min upto 32 then (if (bestL parts).2≤0 then out else chF upto f (out++[(bestL parts).1]) (iH parts (bestL parts).1 parts.length)) else out
noncomputable def chooseP (l:List ByteArray)(upto:Int):List ByteArray:=chF upto 33 [] l
theorem aNU {l:List ByteArray}(h:FewT l):(bestL l).1.size≤8∧((bestL l).2>0→2≤(bestL l).1.size):=by
 have hk:=aCK h l.length
 by_cases hx:∃ r,kV (dQ l l.length) (fun _=>false) r
 ·obtain ⟨r,hr⟩:=hx
  unfold bestL
  rw [aCJ hr]
  refine ⟨aNS hk hr,fun hp=>?_⟩
  rcases hr with ⟨h1,_⟩|⟨h1,_⟩
  ·rw [h1] at hp
   exact absurd hp (by decide)
  ·exact (hk _ h1).1
 ·have e:bestL l=(⟨#[]⟩,0):=by unfold bestL bestR;rw [dif_neg hx]
  rw [e]
  exact ⟨by decide,fun hp=>absurd hp (by decide)⟩
theorem aYP (l:List ByteArray):∀ j,j<l.length→eQ ((fun j=>vs (l.getD j ByteArray.empty)) j) 1=true∧∀ i y,i<1→(l.map vs)[j*1+i]?=some y→(cL ((fun j=>vs (l.getD j ByteArray.empty)) j))[i]?=some y:=aCM (fun j y hy=>by
 rw [List.getElem?_map] at hy
 cases h:l[j]? with
 | none=>rw [h] at hy;cases hy
 | some z=>rw [h] at hy;simp at hy;subst hy;simp [List.getD,h]) (fun j hj=>⟨rfl,rfl⟩)
theorem aNV (c:ByteArray):∀ j,j<1→eQ (gE [vs c] j) 1=true∧∀ i y,i<1→[vs c][j*1+i]?=some y→(cL (gE [vs c] j))[i]?=some y:=fun j hj=>by
 have:j=0:=by omega
 subst this
 refine ⟨rfl,fun i y hi hy=>?_⟩
 have:i=0:=by omega
 subst this
 exact hy
theorem aCN (l:List ByteArray):∀ j,j<l.length→(l.map vs)[j]?=some ((fun j=>vs (l.getD j ByteArray.empty)) j)∧sJ ((fun j=>vs (l.getD j ByteArray.empty)) j)=true:=fun j hj=>⟨by simp [hj],rfl⟩
end Go.Proofs.YtnklgkjfoggpbaaGreatDoor
