/- Parts of the proof of a law of this seat: rules and contracts; no conditions. -/
import Derived.Test.YtgajclaoaphgoaaGreatDoorWireP
import Derived.Test.YtgajclaoaphgoaaGreatDoorWrs
import Derived.Test.YtgajclaoaphgoaaGreatDoorVa
import Derived.Test.YtgajclaoaphgoaaGreatDoorHh
import Derived.Test.YtgajclaoaphgoaaGreatDoorPu
import Derived.Test.YtgajclaoaphgoaaGreatDoorHa
import Derived.Test.YtgajclaoaphgoaaGreatDoorWg
set_option maxHeartbeats 6400000
set_option maxRecDepth 100000
set_option linter.unusedVariables false
set_option linter.unusedSimpArgs false
namespace Go.Proofs.YtgajclaoaphgoaaGreatDoor
open Go.RowKit
theorem an6:∀ (n m:Nat) (g:Nat→Nat),(∀ i,i<m→g i<n)→(∀ i j,i<j→j<m→g i≠g j)→m≤n
 | 0,m,g,h1,h2=>by
  rcases Nat.eq_zero_or_pos m with h|h
  ·omega
  have:=h1 0 h;omega
 | n+1,m,g,h1,h2=>by
  rcases Nat.eq_zero_or_pos m with h|h
  ·omega
  by_cases hl:∃ k,k<m∧g k=n
  ·obtain ⟨k,hk,hg⟩:=hl;have:=an6 n (m-1) (fun i=>if i<k then g i else g (i+1)) (fun i hi=>by
    show (if i<k then g i else g (i+1))<n;by_cases hik:i<k
    ·rw [if_pos hik];have a:=h1 i (by omega);have b:=h2 i k hik hk;omega
    ·rw [if_neg hik];have a:=h1 (i+1) (by omega);have b:=h2 k (i+1) (by omega) (by omega);omega) (fun i j hij hj=>by
    show (if i<k then g i else g (i+1))≠(if j<k then g j else g (j+1));by_cases h3:i<k<;>by_cases h4:j<k
    ·rw [if_pos h3,if_pos h4];exact h2 i j hij (by omega)
    ·rw [if_pos h3,if_neg h4];exact h2 i (j+1) (by omega) (by omega)
    ·omega
    rw [if_neg h3,if_neg h4];exact h2 (i+1) (j+1) (by omega) (by omega))
   omega
  have:=an6 n m g (fun i hi=>by
   have a:=h1 i hi;have b:g i≠n:=fun e=>hl ⟨i,hi,e⟩;omega) h2
  omega
theorem adC (f:Int→Int)(a:Nat)(x:Int):∀ b,vD f (a+b) x=vD f b (vD f a x)
 | 0=>rfl
 | b+1=>by show f (vD f (a+b) x)=_;rw [adC f a x b];rfl
theorem apS {f:Int→Int}:∀ (m:Nat) (x:Int),x≠0→(nZ f m x≠0↔∃ i,i<m∧vD f (i+1) x=0)
 | 0,x,hx=>by simp [nZ]
 | m+1,x,hx=>by
  unfold nZ;by_cases h:f x=0
  ·rw [if_pos h];exact ⟨fun _=>⟨0,by omega,h⟩,fun _=>hx⟩
  rw [if_neg h,apS m (f x) h];constructor
  ·rintro ⟨i,hi,e⟩;exact ⟨i+1,by omega,by rw [show i+1+1=1+(i+1) from by omega,adC];exact e⟩
  rintro ⟨i,hi,e⟩;rcases i with _|i
  ·exact absurd e h
  exact ⟨i,by omega,by rw [show i+1+1=1+(i+1) from by omega,adC] at e;exact e⟩
theorem apT (t:TabP):∀ (m:Nat) (x:Int),aFP t m x=true↔∃ i,i<m∧vD (qW t) i x=0
 | 0,x=>by simp [aFP]
 | m+1,x=>by
  unfold aFP;by_cases h:x=0
  ·rw [if_pos h];exact ⟨fun _=>⟨0,by omega,h⟩,fun _=>rfl⟩
  rw [if_neg h,apT t m];constructor
  ·rintro ⟨i,hi,e⟩;exact ⟨i+1,by omega,by rw [show i+1=1+i from by omega,adC];exact e⟩
  rintro ⟨i,hi,e⟩;rcases i with _|i
  ·exact absurd e h
  exact ⟨i,by omega,by rw [show i+1=1+i from by omega,adC] at e;exact e⟩
theorem apU {t:TabP}(h:aZ6 t)(h0:qW t 0=0){x:Int}(hx:qV t x=true):∀ i,vD (qW t) i x=0∨qV t (vD (qW t) i x)=true
 | 0=>.inr hx
 | i+1=>by
  rcases apU h h0 hx i with h1|h1
  ·exact .inl (by show qW t (vD (qW t) i x)=0;rw [h1,h0])
  exact an7 h h1
theorem apV {p:Nat→Prop}[DecidablePred p]:∀ {n:Nat},p n→∃ m,m≤n∧p m∧∀ j,j<m→¬ p j
 | 0,h=>⟨0,Nat.le_refl _,h,fun j hj=>absurd hj (by omega)⟩
 | n+1,h=>by
  by_cases hp:∃ k,k<n+1∧p k
  ·obtain ⟨k,hk,hpk⟩:=hp;obtain ⟨m,h1,h2,h3⟩:=apV hpk;exact ⟨m,by omega,h2,h3⟩
  exact ⟨n+1,Nat.le_refl _,h,fun j hj hpj=>hp ⟨j,hj,hpj⟩⟩
 termination_by n=>n
theorem apW {t:TabP}(h:aZ6 t)(h0:qW t 0=0){x:Int}(hx:qV t x=true):(nZ (qW t) t.things.length x !=0)=aFP t t.things.length x:=by
 have hxb:=gH.1 (show among x 1 _=true from hx);rw [Bool.eq_iff_iff,bne_iff_ne,apS _ _ (by omega),apT];constructor
 ·rintro ⟨i,hi,e⟩;obtain ⟨d,hd,e1,h1⟩:=apV (p:=fun j=>vD (qW t) j x=0) e;refine ⟨d,?_,e1⟩;have h2:∀ j,j<d→qV t (vD (qW t) j x)=true:=fun j hj=>(apU h h0 hx j).resolve_left (h1 j hj);have:=an6 (t.things.length-1) d (fun j=>(vD (qW t) j x).toNat-1) (fun j hj=>by
   have:=gH.1 (show among _ 1 _=true from h2 j hj);show (vD (qW t) j x).toNat-1<t.things.length-1;omega) (fun i j hij hj e=>by
   have a:=gH.1 (show among _ 1 _=true from h2 i (by omega));have b:=gH.1 (show among _ 1 _=true from h2 j hj);have c:vD (qW t) i x=vD (qW t) j x:=by
    have:(vD (qW t) i x).toNat-1=(vD (qW t) j x).toNat-1:=e;omega
   have e2:vD (qW t) (d-(j-i)) x=0:=by
    have a1:=adC (qW t) j x (d-j);rw [show j+(d-j)=d from by omega,e1] at a1;have a2:=adC (qW t) i x (d-j);rw [c,←a1] at a2;rwa [show i+(d-j)=d-(j-i) from by omega] at a2
   exact h1 _ (by omega) e2)
  omega
 rintro ⟨i,hi,e⟩;rcases i with _|i
 ·exact absurd (show x=0 from e) (by omega)
 exact ⟨i,by omega,e⟩
theorem at2 (t:TabP):qV t 0=false:=by simp [qV,among]
theorem at3 (t:TabP)(m:Nat):aLQ t m 0=false:=by
 cases m with
 | zero=>rfl
 | succ m=>unfold aLQ;rw [at2];rfl
theorem an8 {t:TabP}(h:aZ6 t)(hr:∀ x,qV t x=true→(t.at_ x).room=true→qW t x=0):∀ (m:Nat) (x:Int),qV t x=true→nZ (qW t) m x≠0→aBH t (nZ (qW t) m x)=aLQ t m x
 | 0,x,hx,h1=>absurd rfl h1
 | m+1,x,hx,h1=>by
  unfold nZ at h1 ⊢;unfold aLQ;rw [hx,cond_true];by_cases hu:qW t x=0
  ·rw [if_pos hu];rw [hu,at3];unfold aBH;rw [hx];cases (t.at_ x).room<;>rfl
  rw [if_neg hu] at h1 ⊢;have:(t.at_ x).room=false:=by
   cases hq:(t.at_ x).room with
   | false=>rfl
   | true=>exact absurd (hr x hx hq) hu
  rw [this,cond_false];exact an8 h hr m _ ((an7 h hx).resolve_left hu) h1
theorem at4 (t:TabP):(aAM t&&yP t&&!(decide ((t.things.length:Int)<0)))=(aZ5 t&&!(decide ((t.things.length:Int)<0))):=by
 unfold aAM yP aZ5 rh1 rh2 aBI;rw [Bool.eq_iff_iff];simp only [Bool.and_eq_true,Bool.not_eq_true',Bool.or_eq_false_iff,decide_eq_true_eq,decide_eq_false_iff_not,Bool.false_and,Bool.or_false,bne_eq_false_iff_eq,Bool.not_eq_false',Int.not_lt,gt_iff_lt];constructor
 ·rintro ⟨⟨h1,h2⟩,h3⟩;simp_all;omega
 rintro ⟨h1,h3⟩;simp_all;omega
theorem at5 (t:TabP)(l:List WayP):yO t l=adV t l:=by
 have key:∀ k,(∀ j,j<k→uV t (qS l j) (l.getD j dD)=false)→0≤qS l k:=by
  intro k hk
  induction k with
  | zero=>exact Int.le_refl _
  | succ k ih=>
   have h1:=ih fun j hj=>hk j (by omega);have h2:=hk k (by omega);unfold uV at h2;simp only [Bool.or_eq_false_iff,decide_eq_false_iff_not] at h2;show 0≤(l.getD k dD).dir;omega
 have rkey:∀ k,(∀ j,j<k→aQW t l j=false)→0≤qS l k:=by
  intro k hk;cases k with
  | zero=>exact Int.le_refl _
  | succ k=>
   have h2:=hk k (by omega);unfold aQW at h2;simp only [Bool.or_eq_false_iff,Bool.not_eq_false'] at h2;have:=gH.1 h2.1.1.1.1.1;show 0≤(l.getD k dD).dir;omega
 have step:∀ k,0≤qS l k→uV t (qS l k) (l.getD k dD)=aQW t l k:=by
  intro k hk;unfold uV aQW aBH;have e1:(decide ((l.getD k dD).dir≤qS l k)||decide ((l.getD k dD).dir>12))=(!among (l.getD k dD).dir 1 12||(decide ((k:Int)>0)&&decide ((l.getD k dD).dir≤(l.getD (k-1) dD).dir))):=by
   cases k with
   | zero=>simp only [qS,among];rw [Bool.eq_iff_iff];simp;omega
   | succ k=>
    have:qS l (k+1)=(l.getD k dD).dir:=rfl;rw [this] at hk ⊢;simp only [among,Nat.add_sub_cancel];generalize (l.getD k dD).dir=A at *;generalize (l.getD (k+1) dD).dir=B;rw [Bool.eq_iff_iff];simp;omega
  rw [←e1];simp only [bne];generalize (decide ((l.getD k dD).dir≤qS l k)||decide ((l.getD k dD).dir>12))=A;generalize qV t (l.getD k dD).goal=B;generalize (t.at_ (l.getD k dD).goal).room=C;generalize tG t (l.getD k dD).cond=D;generalize wW t (l.getD k dD).els=E;generalize ((l.getD k dD).cond==-1)=F;generalize ((l.getD k dD).els==-1)=G;clear e1 hk key rkey
  revert A B C D E F G
  decide
 unfold yO adV;have same:∀ n,(∀ j,j<n→uV t (qS l j) (l.getD j dD)=false)↔(∀ j,j<n→aQW t l j=false):=by
  intro n
  induction n with
  | zero=>exact ⟨fun _ j hj=>absurd hj (by omega),fun _ j hj=>absurd hj (by omega)⟩
  | succ n ih=>
   constructor<;>intro h j hj<;>rcases Nat.lt_or_ge j n with h1|h1
   ·exact ih.1 (fun j hj=>h j (by omega)) j h1
   ·obtain rfl:j=n:=by omega
    rw [←step j (key j fun i hi=>h i (by omega))];exact h j hj
   ·exact ih.2 (fun j hj=>h j (by omega)) j h1
   obtain rfl:j=n:=by omega
   rw [step j (rkey j fun i hi=>h i (by omega))];exact h j hj
 rw [Bool.eq_iff_iff,List.all_eq_true,List.all_eq_true];constructor<;>intro H x hx
 ·have:=(same l.length).1 (fun j hj=>by simpa using H j (List.mem_range.2 hj)) x (List.mem_range.1 hx);rw [this];rfl
 have:=(same l.length).2 (fun j hj=>by simpa using H j (List.mem_range.2 hj)) x (List.mem_range.1 hx);rw [this];rfl
theorem at6 {n:Int}(h:among n 4 16=true):IntKind.i64.wrap (1*2^(min n.toNat IntKind.i64.bits))=aTM n:=by
 have:=gH.1 h;have h1:IntKind.i64.bits=64:=rfl;unfold aTM;rw [h1,show min n.toNat 64=n.toNat from by omega,show min n.toNat 16=n.toNat from by omega,Int.one_mul];have:=an3 (k:=n.toNat) (by omega);exact aFI _ (by omega) (by omega)
theorem at7 {t:TabP}(h:among t.flags 4 16=true)(x:ThingP):(!((x.props.length:Int) !=t.props.length)&&sA t x)=(!aiZ t x&&!aaX t x):=by
 have e1:aE5 t x=(!(wW t x.title||(false&&x.title==-1))||!(wW t x.text||(true&&x.text==-1))||!among x.flags 0 (aTM t.flags-1)||!x.props.all pW||!wV x.words 8||!wV x.adjs 8):=by
  unfold aE5;rw [at6 h];have e2:(decide (x.flags<0)||decide (x.flags≥aTM t.flags))=!among x.flags 0 (aTM t.flags-1):=by
   unfold among;rw [Bool.eq_iff_iff];simp;omega
  rw [←e2];cases wW t x.title<;>cases h3:(x.text==-1)<;>cases wW t x.text<;>simp [bne,h3,Bool.or_assoc]
 unfold sA aiZ aaX;rw [e1,←at5];have e3:x.ways=[]→yO t x.ways=true:=fun e=>by rw [e];rfl
 have e4:((x.ways.length:Int)==0)=!decide ((x.ways.length:Int)>0):=by rw [Bool.eq_iff_iff];simp
 have e5:yO t x.ways=true∨decide ((x.ways.length:Int)>0)=true:=by
  cases hw:x.ways with
  | nil=>exact .inl rfl
  | cons a l=>exact .inr (by simp)
 rw [e4];generalize (!(wW t x.title||(false&&x.title==-1))||!(wW t x.text||(true&&x.text==-1))||!among x.flags 0 (aTM t.flags-1))=A;generalize ((x.props.length:Int) !=t.props.length)=B;generalize x.props.all pW=C;generalize wV x.words 8=D;generalize wV x.adjs 8=E;generalize decide ((x.ways.length:Int)>0)=F at *;generalize yO t x.ways=G at *;generalize qV t x.parent=H;have e6:(x.parent !=0)=!(x.parent==0):=rfl;rw [e6];generalize (x.parent==0)=J;generalize x.room=K;clear e1 e3 e4 e6 h
 revert A B C D E F G H J K
 decide
theorem an9 {l:List SlotP}{k:Nat}:(!fT l k)=(!aKX l k&&(!(decide ((k:Int)=0))||(((l.getD k cH).kind==1)||((l.getD k cH).kind==5)))):=by
 unfold fT aKX;cases h1:((l.getD k cH).kind==1) with
 | true=>
  rw [cond_true];have h2:(l.getD k cH).kind=1:=by simpa using h1
  rw [h2];simp [among]
 | false=>
  rw [cond_false];have h2:(l.getD k cH).kind≠1:=by simpa using h1
  have e1:among (l.getD k cH).kind 2 5=among (l.getD k cH).kind 1 5:=by
   unfold among;generalize (l.getD k cH).kind=z at *;rw [Bool.eq_iff_iff];simp;omega
  rw [e1];have e2:((l.getD k cH).kind !=1)=true:=by simpa using h2
  rw [e2];have e3:decide (((l.getD k cH).words.length:Int)>0)=true∨wV (l.getD k cH).words 4=true:=by
   cases (l.getD k cH).words with
   | nil=>exact .inr rfl
   | cons a l=>exact .inl (by simp)
  have e4:((k:Int)==0)=decide ((k:Int)=0):=by rw [Bool.eq_iff_iff];simp
  rw [e4];have e5:((l.getD k cH).kind !=5)=!((l.getD k cH).kind==5):=rfl;rw [e5,Bool.false_and];generalize among (l.getD k cH).kind 1 5=A;generalize decide (((l.getD k cH).words.length:Int)>0)=B at *;generalize wV (l.getD k cH).words 4=C at *;generalize decide ((k:Int)=0)=D;generalize ((l.getD k cH).kind==5)=F;clear e1 e2 e4 e5 h1 h2
  revert A B C D F
  decide
theorem at8 (l:List SlotP):pP l=aUA l:=by
 unfold pP aUA;rw [Bool.eq_iff_iff];simp only [Bool.and_eq_true,List.all_eq_true,List.mem_range,decide_eq_true_eq];constructor
 ·rintro ⟨h1,⟨⟨h2,h3⟩,h4⟩,h5⟩;have hl:=gH.1 h2;refine ⟨fun k hk=>?_,⟨⟨⟨h2,?_⟩,h3⟩,h4⟩,h5⟩
  ·have:=h1 k hk;rw [an9] at this;rw [Bool.and_eq_true] at this;exact this.1
  have:=h1 0 (by omega);rw [an9,Bool.and_eq_true] at this;simpa using this.2
 rintro ⟨h1,⟨⟨⟨h2,h6⟩,h3⟩,h4⟩,h5⟩;refine ⟨fun k hk=>?_,⟨⟨h2,h3⟩,h4⟩,h5⟩;rw [an9,h1 k hk,Bool.true_and];rcases Nat.eq_zero_or_pos k with rfl|hp
 ·simpa using h6
 have:decide ((k:Int)=0)=false:=by simp;omega
 rw [this];rfl
theorem at9 (v:VerbP):aD0 v=aQ8 v:=by
 unfold aD0 aQ8;rw [show pP=aUA from funext at8]
theorem auA (t:TabP)(d:DeedP):aD2 t d=!aYE t d:=by
 unfold aD2 aYE aBK;have e1:(d.noun !=-1)=!(d.noun==-1):=rfl;have e2:(d.second !=-1)=!(d.second==-1):=rfl;rw [e1,e2];generalize among d.verb 0 ((t.acts.length:Int)-1)=A;generalize among d.phase 1 3=B;generalize (d.noun==-1)=C;generalize (d.second==-1)=D;generalize (d.cond==-1)=E;generalize (d.body==-1)=F;generalize qV t d.noun=G;generalize qV t d.second=H;generalize tG t d.cond=J;generalize tG t d.body=K
 revert A B C D E F G H J K
 decide
theorem apX (t:TabP)(x:ThingP):(!((x.props.length:Int) !=t.props.length)&&aE6 x)=aaC t x:=by
 unfold aE6 aaC ak7;simp only [bne];generalize (x.title==0)=A;generalize (x.text==-1)=B;generalize (x.parent==0)=C;generalize (x.flags==0)=D;generalize x.room=E;generalize ((x.props.length:Int)==t.props.length)=F;generalize (x.sum==0)=G;generalize (x.props.all fun z=>z==0)=H
 revert A B C D E F G H
 decide
theorem auB {t:TabP}(hf:among t.flags 4 16=true):wX t=aUW t:=by
 have hbad:∀ k,(t.things.getD k cY)=t.things.getD k cY:=fun _=>rfl;have hpos:∀ k:Nat,0<k→(!sB t k)=aHP t k:=fun k hk=>by
  have:=at7 hf (t.things.getD k cY);have e1:decide ((k:Int)>0)=true:=by simp;omega
  have e2:decide (k=0)=false:=by simp;omega
  unfold sB aHP;rw [e1,e2,Bool.false_or,←this,Bool.true_and,Bool.not_or,Bool.not_not]
 rw [Bool.eq_iff_iff];constructor
 ·intro h;unfold wX at h;simp only [Bool.and_eq_true,List.all_eq_true,List.mem_range] at h;obtain ⟨⟨⟨h1,h2⟩,h3⟩,h4,h5⟩:=h;unfold aBJ at h1;simp only [Bool.not_or,Bool.not_not,Bool.and_eq_true] at h1;obtain ⟨hn,h0⟩:=h1;have hl:=gH.1 hn;have hb0:=h2 0 (by omega);unfold sB at hb0;simp only [Bool.not_or,Bool.and_eq_true] at hb0;have hz:aaC t (t.things.getD 0 cY)=true:=by rw [←apX,hb0.1,h0];rfl
  have hok:∀ k,k<t.things.length→aHP t k=true:=fun k hk=>by
   rcases Nat.eq_zero_or_pos k with rfl|hp
   ·simp [aHP]
   rw [←hpos k hp];exact h2 k hk
  have hR:aZ6 t:=fun k hk hp=>an4 (hok k hk) hp;have hu0:qW t 0=0:=by
   unfold aE6 at h0;simp only [Bool.and_eq_true,beq_iff_eq] at h0;unfold qW;rw [TabP.at_getD t 0 |> fun _=>show t.at_ 0=t.things.getD 0 cY from rfl];exact h0.1.1.1.1.2
  have hroom:∀ x,qV t x=true→(t.at_ x).room=true→qW t x=0:=fun x hx hr=>by
   have hb:=gH.1 (show among x 1 _=true from hx);have:=hok x.toNat (by omega);unfold aHP aaX at this;have e2:decide (x.toNat=0)=false:=by simp;omega
   rw [e2,Bool.false_or,Bool.and_eq_true] at this;have h9:=this.2;have e3:(t.things.getD x.toNat cY).room=true:=hr;rw [e3] at h9;simp at h9;exact h9.1.2
  have h1t:qV t 1=true:=by unfold qV;rw [gH];omega
  have ht1:nZ (qW t) t.things.length 1≠0:=by
   have:=h3 1 (by omega);simpa using this
  unfold aUW adW;simp only [Bool.and_eq_true,List.all_eq_true,List.mem_range];refine ⟨⟨⟨by rw [hn,hz];simpa using h4,hok⟩,fun k hk=>?_⟩,?_⟩
  ·rcases Nat.eq_zero_or_pos k with rfl|hp
   ·rfl
   have h6:=h3 k hk;have e2:decide (k=0)=false:=by simp;omega
   rw [e2,Bool.false_or] at h6 ⊢;rw [←apW hR hu0 (by unfold qV;rw [gH];omega)];exact h6
  rw [←an8 hR hroom _ 1 h1t ht1];exact h5
 intro h;unfold aUW adW at h;simp only [Bool.and_eq_true,List.all_eq_true,List.mem_range] at h;obtain ⟨⟨⟨h1,hok⟩,h3⟩,h5⟩:=h;simp only [Bool.not_or,Bool.not_not,Bool.and_eq_true] at h1;obtain ⟨⟨hn,hz⟩,h4⟩:=h1;have hl:=gH.1 hn;rw [←apX,Bool.and_eq_true] at hz;have hR:aZ6 t:=fun k hk hp=>an4 (hok k hk) hp;have hu0:qW t 0=0:=by
  have h0:=hz.2;unfold aE6 at h0;simp only [Bool.and_eq_true,beq_iff_eq] at h0;exact h0.1.1.1.1.2
 have hroom:∀ x,qV t x=true→(t.at_ x).room=true→qW t x=0:=fun x hx hr=>by
  have hb:=gH.1 (show among x 1 _=true from hx);have:=hok x.toNat (by omega);unfold aHP aaX at this;have e2:decide (x.toNat=0)=false:=by simp;omega
  rw [e2,Bool.false_or,Bool.and_eq_true] at this;have h9:=this.2;have e3:(t.things.getD x.toNat cY).room=true:=hr;rw [e3] at h9;simp at h9;exact h9.1.2
 have h1t:qV t 1=true:=by unfold qV;rw [gH];omega
 have htop:∀ k:Nat,k<t.things.length→0<k→nZ (qW t) t.things.length k≠0:=fun k hk hp=>by
  have h6:=h3 k hk;have e2:decide (k=0)=false:=by simp;omega
  rw [e2,Bool.false_or,←apW hR hu0 (by unfold qV;rw [gH];omega)] at h6;simpa using h6
 unfold wX aBJ;simp only [Bool.and_eq_true,List.all_eq_true,List.mem_range];refine ⟨⟨⟨by rw [hn,hz.2];rfl,fun k hk=>?_⟩,fun k hk=>?_⟩,h4,?_⟩
 ·rcases Nat.eq_zero_or_pos k with rfl|hp
  ·unfold sB;have:=hz.1;simp_all
  rw [hpos k hp];exact hok k hk
 ·rcases Nat.eq_zero_or_pos k with rfl|hp
  ·rfl
  have:=htop k hk hp;simp only [Bool.or_eq_true,bne_iff_ne];exact .inr this
 rw [an8 hR hroom _ 1 h1t (htop 1 (by omega) (by omega))];exact h5
theorem as2 (t:TabP):iL t=an5 t:=by
 have hn:=at4 t;have e0:decide ((t.things.length:Int)<0)=false:=by simp
 rw [e0] at hn;simp only [Bool.not_false,Bool.and_true] at hn;have hr:aUG t=(!ai0 t&&(t.acts.all aD0&&t.deeds.all (aD2 t)&&t.funcs.all (fun n=>among n 0 ((t.params.length:Int)-1))&&t.daemons.all (tG t))):=by
  unfold aUG;rw [show aD0=aQ8 from funext at9,show aD2 t=(fun d=>!aYE t d) from funext (auA t)];simp only [Bool.false_and,Bool.false_or,Bool.and_assoc]
 unfold iL an5 aD1;rw [←hn,hr];unfold ai0;by_cases hf:among t.flags 4 16=true
 ·rw [←auB hf];cases aAM t<;>cases yP t<;>cases wX t<;>simp
 have:aAM t=false:=by unfold aAM;simp [hf]
 rw [this];simp
set_option maxHeartbeats 6400000
theorem asY (s:StoryP)(ht:tabG s.tab)(he:aIS s)(hc:s.code.length≤10000000):PC Tryz.prog 35 [cX s] (bs (iK s (makeP s.tab.texts).1)):=by
 have hp:=(aAL ht).2;have hm:=asZ s.tab.texts (aDZ ht);have hB:=aQE ht hp he hc;generalize (makeP s.tab.texts).2=mz at hm;generalize (makeP s.tab.texts).1=p at *;obtain ⟨Z,hZ⟩:∃ Z,Z=gU++aC s.tab.title++aC s.tab.by_++aC s.tab.release++aC s.tab.max++aC s.tab.flags++aJ aY p.abbrevs++aJ aC p.at_++aY (strOfNums p.bytes)++cZ s.tab.props++cZ s.tab.globals:=⟨_,rfl⟩
 have hE:iK s p=Z++aJ fH s.tab.things++aJ fS s.tab.acts++aJ gG s.tab.deeds++aJ aC s.tab.funcs++aJ aC s.tab.daemons++aJ aC s.tab.params++aJ aC s.tab.locals++aJ aC s.entry++aY (strOfNums s.code):=by
  simp only [hZ,iK,e5,e4,e3,e2,e1,cW,fD,List.flatMap_cons,List.flatMap_nil,List.append_nil,List.append_assoc]
 rw [hE] at hB ⊢;have hB0:=hB;rw [hZ] at hB0;simp only [List.length_append] at hB0 hB;have a1:∀ w∈p.abbrevs,w.size≤1000000:=fun w hw=>by have:=hp.abb.2 w hw;omega
 have a2:∀ z∈p.at_,z≤9223372036854775807:=fun w hw=>by have:=hp.at_.2 w hw;omega
 have a3:(strOfNums p.bytes).size≤100000000:=by rw [strOfNums_size];have:=hp.bytes;omega
 have a4:(strOfNums s.code).size≤100000000:=by rw [strOfNums_size];omega
 have a5:∀ z∈s.tab.funcs,z≤9223372036854775807:=fun w hw=>by have:=ht.funcs.2 w hw;omega
 have a6:∀ z∈s.tab.daemons,z≤9223372036854775807:=fun w hw=>by have:=ht.daemons.2 w hw;omega
 have a7:∀ z∈s.tab.params,z≤9223372036854775807:=fun w hw=>by have:=ht.params.2 w hw;omega
 have a8:∀ z∈s.tab.locals,z≤9223372036854775807:=fun w hw=>by have:=ht.locals.2 w hw;omega
 have a9:∀ z∈s.entry,z≤9223372036854775807:=fun w hw=>by have:=he.2 w hw;omega
 have b1:=hp.abb.1;have b2:=hp.at_.1;have b3:=ht.props.1;have b4:=ht.globals.1;have b5:=ht.funcs.1;have b6:=ht.daemons.1;have b7:=ht.params.1;have b8:=ht.locals.1;have b9:=he.1
 have c1:=ht.things.1;have c2:=ht.acts.1;have c3:=ht.deeds.1
 obtain ⟨d1,d2,d3,d4,d5⟩:s.tab.title≤4096∧s.tab.by_≤4096∧s.tab.release≤32767∧s.tab.max≤32767∧s.tab.flags≤16:=⟨ht.title.2,ht.by_.2,ht.release.2,ht.max.2,ht.flags.2⟩
 refine FB 3 135 Tryz.func35 ?_;refine G ?_;refine Z2 (aC5 (ps:=[_,_,_,_,_]) (xs:=[.val _,.val _,.val _,.val _,.val _]) (e:=5) (by_:=1) (zs:=[.int .u8 0]) 1 rfl (by kernel_rfl) (by kernel_rfl) rfl rfl rfl rfl (by decide)) ?_;refine aZ rfl rfl (aQM gU (by decide) rfl (fun j x h=>by have:=congrArg (Option.map fun x=>Av.val (.int .u8 x)) h;rw [←List.getElem?_map] at this;exact this)) ⟨rfl,trivial⟩ ?_;refine GX ?_;refine C hm ?_;refine GX ?_;refine Z1 (vX _ rfl rfl (by kernel_rfl)) ?_;refine GX ?_;rw [←hZ];clear hB0 hZ
 rw [aZ9 fH s.tab.things (Z++aC (s.tab.things.length:Int))];refine LP (ι:=Nat) (fun k=>[(4,bs (Z++aC (s.tab.things.length:Int)++(s.tab.things.take k).flatMap fH)),(7,vi k)]) (fun _=>[]) (fun k=>k≤s.tab.things.length) (fun k=>s.tab.things.length-k) 0 (Nat.zero_le _) ?_;intro k hI;refine Gd (fun hb=>?_) fun hb=>?_
 ·have hk:k<s.tab.things.length:=by have:=of_decide_eq_true hb;omega
  have hq:=(uF (d:=cY) (e:=fH) (zs:=Z++aC (s.tab.things.length:Int)) (aaB (by simp only [List.length_append];omega)) hk).2;refine C (asV _ (s.tab.things.getD k cY) (ht.things.2 _ (pR hk)) hq) ?_;exact NX (k+1) hk (hl:=by (try dsimp only);rw [mS (d:=cY) _ hk,←List.append_assoc];exact LS)
 obtain rfl:k=s.tab.things.length:=by have:=of_decide_eq_false hb;omega
 rw [aaA];refine GX ?_;rw [aZ9 fS s.tab.acts (Z++aJ fH s.tab.things++aC (s.tab.acts.length:Int))];refine LP (ι:=Nat) (fun k=>[(4,bs (Z++aJ fH s.tab.things++aC (s.tab.acts.length:Int)++(s.tab.acts.take k).flatMap fS)),(8,vi k)]) (fun _=>[]) (fun k=>k≤s.tab.acts.length) (fun k=>s.tab.acts.length-k) 0 (Nat.zero_le _) ?_;intro k hI;refine Gd (fun hb=>?_) fun hb=>?_
 ·have hk:k<s.tab.acts.length:=by have:=of_decide_eq_true hb;omega
  have hq:=(uF (d:=gO) (e:=fS) (zs:=Z++aJ fH s.tab.things++aC (s.tab.acts.length:Int)) (aaB (by simp only [List.length_append];omega)) hk).2;refine C (asX _ (s.tab.acts.getD k gO) (ht.acts.2 _ (pR hk)) hq) ?_;exact NX (k+1) hk (hl:=by (try dsimp only);rw [mS (d:=gO) _ hk,←List.append_assoc];exact LS)
 obtain rfl:k=s.tab.acts.length:=by have:=of_decide_eq_false hb;omega
 rw [aaA];refine GX ?_;rw [aZ9 gG s.tab.deeds (Z++aJ fH s.tab.things++aJ fS s.tab.acts++aC (s.tab.deeds.length:Int))];refine LP (ι:=Nat) (fun k=>[(4,bs (Z++aJ fH s.tab.things++aJ fS s.tab.acts++aC (s.tab.deeds.length:Int)++(s.tab.deeds.take k).flatMap gG)),(9,vi k)]) (fun _=>[]) (fun k=>k≤s.tab.deeds.length) (fun k=>s.tab.deeds.length-k) 0 (Nat.zero_le _) ?_;intro k hI;refine Gd (fun hb=>?_) fun hb=>?_
 ·have hk:k<s.tab.deeds.length:=by have:=of_decide_eq_true hb;omega
  have hq:=(uF (d:=fZ) (e:=gG) (zs:=Z++aJ fH s.tab.things++aJ fS s.tab.acts++aC (s.tab.deeds.length:Int)) (aaB (by simp only [List.length_append];omega)) hk).2;refine C (asW _ (s.tab.deeds.getD k fZ) (ht.deeds.2 _ (pR hk)) hq) ?_;exact NX (k+1) hk (hl:=by (try dsimp only);rw [mS (d:=fZ) _ hk,←List.append_assoc];exact LS)
 obtain rfl:k=s.tab.deeds.length:=by have:=of_decide_eq_false hb;omega
 rw [aaA];refine GX ?_;refine Z1 (vX _ rfl rfl (by kernel_rfl)) ?_;refine GX ?_;exact RS
def anS (s:StoryP):Bool:=iL s.tab&&((gV s).2==0)
theorem as0 (s:StoryP)(h0:SOk s):PC Tryz.prog 34 [cX s] (vb (anS s)):=by
 have hf:=as1 s.tab h0.wf;rw [←as2] at hf;refine FB 0 17 Tryz.func34 ?_;refine C (asL s h0.code h0.by_ h0.entry) ?_;refine C hf ?_;exact RB
theorem apI (s:StoryP)(h0:SOk s):PC Tryz.prog 9 [cX s] (.tup [bs (writeP s).1,vi (writeP s).2]):=by
 refine FB 0 10 Tryz.func9 ?_;refine C (as0 s h0) ?_;refine cd (fun hb=>?_) fun hb=>?_
 ·rw [show writeP s=([],18) from if_pos (by
   unfold anS at hb;cases h:iL s.tab
   ·exact .inr rfl
   rw [h] at hb;simp at hb;exact .inl hb)]
  refine G ?_;exact R2 rfl (aT.to (aT.tmp rfl) aI0)
 obtain ⟨hf,hv⟩:iL s.tab=true∧(gV s).2=0:=by unfold anS at hb;simpa using hb
 have hG:=aAO h0.first hf;have he:=aD4 h0.code hG hv;have hbl:=aQE hG (aAL hG).2 he h0.code;rw [show writeP s=(gY (iK s (makeP s.tab.texts).1),0) from if_neg (by rw [hf,hv];simp)];refine C (asY s hG he h0.code) ?_;refine C (akN (iK s (makeP s.tab.texts).1) (uM (aIR s _)) (by omega)) ?_;exact R2
theorem as3 (s:StoryP)(h0:SOk s):PC Tryz.prog 12 [cX s] (vw (idP s)):=by
 have hwl:=aI3 h0;refine FB 0 14 Tryz.func12 ?_;refine C (apI s h0) ?_;refine cd (fun hb=>?_) fun hb=>?_
 ·rw [show idP s=0 from if_pos (by simpa using hb)];refine G ?_;exact RT rfl
 rw [show idP s=nH 0 (dX (writeP s).1) from if_neg (by simpa using hb)];refine C (akM (writeP s).1 hwl.2 hwl.1) ?_;exact RT rfl
end Go.Proofs.YtgajclaoaphgoaaGreatDoor
namespace Go.Proofs.YtgajclaoaphgoaaGreatDoor
open Go.RowKit
set_option maxHeartbeats 6400000
theorem arH (s:StoryP)(hs:Stk s):PC Tryz.prog 3 [cX s] (vb true):=by
 refine FB 0 39 Tryz.func3 ?_;refine C (aI8 s) ?_;refine cd (fun hb=>?_) fun hb=>?_
 ·refine C uO ?_;exact RT rfl
 have ks:=hs.ok (show uN s=true by simpa using hb);have hw:=aI3 ks;refine C (aAN s ks) ?_;refine C (apI s ks) ?_;refine C (aaT (writeP s).1 (writeP s).1 (mV.1 hw.2) (mV.1 hw.2)) ?_;refine C (aD6 s ks) ?_;refine C (as3 s ks) ?_;refine C uO ?_;exact RB (h:=by simp)
end Go.Proofs.YtgajclaoaphgoaaGreatDoor
