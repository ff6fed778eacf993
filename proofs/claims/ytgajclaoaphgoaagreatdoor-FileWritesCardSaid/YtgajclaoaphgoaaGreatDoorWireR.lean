/- Parts of the proof of a law of this seat: rules and contracts; no conditions. -/
import Derived.Test.YtgajclaoaphgoaaGreatDoorWireP
import Derived.Test.YtgajclaoaphgoaaGreatDoorAlphaF
import Derived.Test.YtgajclaoaphgoaaGreatDoorProg
import Derived.KernelRfl
import Derived.Outline
import Derived.Laws.RangeAny
import Derived.Laws.RangeString
import Derived.Test.YtgajclaoaphgoaaGreatDoorMore
set_option maxHeartbeats 6400000
set_option maxRecDepth 100000
set_option linter.unusedVariables false
set_option linter.unusedSimpArgs false
namespace Go.Proofs.YtgajclaoaphgoaaGreatDoor
open Go.RowKit Go.IntWalk
def mW (ls:List Int)(i:Nat):Int:=if i<ls.length then ls.getD i 0%32 else 31
def nB (ls:List Int)(k:Nat):List Int:=(List.range k).flatMap fun i=>fJ (mW ls i)
theorem adZ (ls:List Int)(k:Nat):nB ls (k+1)=nB ls k++fJ (mW ls k):=by simp [nB,List.range_succ]
theorem ap3 (ls:List Int)(k:Nat):(nB ls k).length=5*k:=by
 induction k with
 | zero=>rfl
 | succ k ih=>rw [adZ,List.length_append,ih];simp [fJ];omega
theorem ap4 (ls:List Int)(k:Nat)(h:k≤ls.length):nB ls k=lF (ls.take k):=by
 induction k with
 | zero=>rfl
 | succ k ih=>
  rw [adZ,ih (by omega),aVY ls k (by omega)];congr 2;unfold mW;rw [if_pos (by omega)];simp [List.getD,List.getElem?_eq_getElem (show k<ls.length by omega)]
theorem ap5 (ls:List Int):nB ls (ls.length+1)=lF ls++fJ 31:=by
 rw [adZ,ap4 _ _ (Nat.le_refl _),List.take_of_length_le (Nat.le_refl _)];congr 2;unfold mW;rw [if_neg (by omega)]
theorem ap6 (ls:List Int)(k:Nat):0≤mW ls k∧mW ls k<32:=by unfold mW;split<;>omega
def aG5 (l:List Int)(n:Nat):List Int:=l++List.replicate n 0
theorem ap7 (l:List Int)(n:Nat):aG5 l (n+1)=aG5 l n++[0]:=by
 simp [aG5,List.replicate_succ']
theorem ap8 (l:List Int)(n i:Nat):(aG5 l n).getD i 0=l.getD i 0:=by
 unfold aG5;by_cases h:i<l.length
 ·rw [rC _ _ _ h]
 rw [lV l i (by omega)];simp only [List.getD,List.getElem?_append_right (Nat.le_of_not_lt h),List.getElem?_replicate];split<;>rfl
theorem ap9 (l:List Int)(n i:Nat):iF (aG5 l n) i=iF l i:=by simp only [iF,ap8]
def aO1 (l:List Int)(i:Nat):Nat→Int
 | 0=>0
 | k+1=>2*aO1 l i k+l.getD (8*i+k) 0
theorem aqA (l:List Int)(i:Nat):aO1 l i 8=iF l i:=by
 simp only [aO1,iF,Nat.add_zero];omega
theorem aoE (l:List Int)(hb:jN l)(i k:Nat):0≤aO1 l i k∧aO1 l i k<2^k:=by
 induction k with
 | zero=>simp [aO1]
 | succ k ih=>
  have:=hb.getD (8*i+k);rw [aO1,Int.pow_succ];omega
theorem aqB (l:List Int)(hb:jN l)(i k:Nat)(h:k≤8):aO1 l i k<256:=by
 have h1:=(aoE l hb i k).2;have h2:(2:Int)^k≤2^8:=by exact_mod_cast Nat.pow_le_pow_right (by omega) h
 omega
theorem aqC (ls:List Int)(k:Nat):jN (nB ls k):=by
 intro x hx;obtain ⟨n,_,h⟩:=List.mem_flatMap.1 hx;exact aL5 _ x h
theorem aqD (l:List Int)(h:jN l)(n:Nat):jN (aG5 l n):=h.append fun x hx=>.inl (List.eq_of_mem_replicate hx)
def aEI (k:Nat):Int:=if k<5 then 2^(4-k) else 0
theorem aoF (k:Nat)(h:k<5):aEI k/2=aEI (k+1):=by
 match k,h with
 | 0,_=>decide
 | 1,_=>decide
 | 2,_=>decide
 | 3,_=>decide
 | 4,_=>decide
theorem aoG (k:Nat):0≤aEI k∧aEI k≤16:=by
 unfold aEI;split
 ·rename_i h
  match k,h with
  | 0,_=>decide
  | 1,_=>decide
  | 2,_=>decide
  | 3,_=>decide
  | 4,_=>decide
 omega
theorem aoH (k:Nat)(h:k<5):0<aEI k:=by
 match k,h with
 | 0,_=>decide
 | 1,_=>decide
 | 2,_=>decide
 | 3,_=>decide
 | 4,_=>decide
def adQ (w w2:World)(F:List Int)(x:Int)(o i:Value):Prop:=
 ∃ (j:Nat) (A2:Option Addr) (n2 c2:Nat),j≤5∧i=.int .i64 (aEI j)∧o=.slice A2 n2 c2∧bA w2 w.heap.size 3 (.slice A2 n2 c2) (cb .i64 (F++(fJ x).take j))∧Below w.heap.size w w2
def am6 (w w2:World)(F:List Int)(o:Value):Prop:=
 ∃ (m:Nat) (A2:Option Addr) (n2 c2:Nat),m≤(8-F.length%8)%8∧o=.slice A2 n2 c2∧bA w2 w.heap.size 3 (.slice A2 n2 c2) (cb .i64 (aG5 F m))∧Below w.heap.size w w2
def am7 (w w2:World)(G:List Int)(n3 c3:Nat)(A3:Option Addr)(o i:Value):Prop:=
 ∃ (q:Nat) (A2:Option Addr) (n2 c2:Nat),8*q≤n3∧i=.int .i64 ((8*q:Nat):Int)∧o=.slice A2 n2 c2∧bA w2 w.heap.size 5 (.slice A2 n2 c2) (cb .u8 ((List.range q).map (iF G)))∧bA w2 w.heap.size 3 (.slice A3 n3 c3) (cb .i64 G)∧Below w.heap.size w w2
theorem aqE (A:Option Addr)(n c:Nat)(ls:List Int)(w:World)(hr:Rd w w.heap.size A (cb .i64 ls))(hn:n=ls.length)(hl:n≤1000000):
 Calls Tryz.prog 148 #[.slice A n c] w (kG w 5 (cb .u8 (fW ls))):=by
 have HN:=Lib.hid hn;clear hn;go_enter Tryz.func148,Tryz.ntmps148;go_wp2_with fail;go_loopw [3,4] (fun o i w2=>∃ (k:Nat) (A2:Option Addr) (n2 c2:Nat),k≤n+1∧i=.int .i64 k∧o=.slice A2 n2 c2∧bA w2 w.heap.size 3 (.slice A2 n2 c2) (cb .i64 (nB ls k))∧Below w.heap.size w w2) (fun _ i _=>n+1-(intOf i).toNat)
 case atStart=>exact ⟨0,none,0,0,by omega,rfl,rfl,bA.nil _ _ _,Below.refl _ _⟩
 case round=>
  obtain ⟨k,A2,n2,c2,hk,rfl,rfl,hown,hbel⟩:=hrel;have hb:=hbel.size;have hpl:=Lib.hid (ap3 ls k);obtain ⟨hc0,hc1⟩:=ap6 ls k;rcases Nat.lt_trichotomy k n with hlt|hlt|hlt
  ·have hkl:k<ls.length:=by have:=HN.out;omega
   obtain ⟨b,o,rfl,_,hc⟩:=(hr.below hbel).num hkl;have hC:Hid ((ls[k].tmod 32+32)%32=mW ls k):=by
    unfold Hid mW;rw [if_pos hkl];simp only [List.getD,List.getElem?_eq_getElem hkl,Option.getD_some];rcases adE ls[k] 32 with ⟨_,h⟩|⟨_,h⟩<;>omega
   have ht:-32<ls[k].tmod 32∧ls[k].tmod 32<32:=by
    rcases adE ls[k] 32 with ⟨_,h⟩|⟨_,h⟩<;>omega
   obtain ⟨ht1,ht2⟩:=ht;have e1:decide (k≤n)=true:=by simp;omega
   go_wp2_with fail;rw [hC.out];clear hC;go_loopw [3,6] (fun o i w2=>adQ w w2 (nB ls k) (mW ls k) o i) (fun _ i _=>(intOf i).toNat)
   case atStart=>unfold adQ;exact ⟨0,A2,n2,c2,by omega,rfl,rfl,by simpa using hown,hbel⟩
   case round=>
    obtain ⟨j,A3,n3,c3,hj,rfl,rfl,hown3,hbel3⟩:=hrel;have hb3:=hbel3.size;obtain ⟨h0,h16⟩:=aoG j;by_cases hj5:j<5
    ·have hp:=aoH j hj5;have hs:=Lib.hid (aoF j hj5);have hq0:0≤mW ls k/aEI j:=Int.ediv_nonneg hc0 h0;have hget:Hid ((fJ (mW ls k)).take (j+1)=(fJ (mW ls k)).take j++[mW ls k/aEI j%2]):=by
      unfold Hid;have hl:(fJ (mW ls k)).length=5:=rfl;rw [List.take_succ_eq_append_getElem (by omega),aVZ _ hc0 hc1 j hj5];unfold aEI;rw [if_pos hj5]
     have hlen3:Hid ((nB ls k++(fJ (mW ls k)).take j).length≤5*k+5):=by
      unfold Hid;rw [List.length_append,List.length_take,hpl.out];omega
     have hhalf:aEI j/2<aEI j:=by omega
     generalize aEI j=hh at *;go_wp2_with (at_builtin;refine rD aMH rfl _ _ rfl rfl (hown3.alloc _) rfl (Rd.new _ [_] _) rfl (vH _ _) (by have:=hlen3.out;rw [mL];simp only [List.length_cons,List.length_nil];omega) (by have:=hlen3.out;rw [mL];simp only [List.length_cons,List.length_nil];omega) (by simp;omega) ?_;intro A4 n4 c4 w4 hown4 hg4);go_roundw
     case rel=>unfold adQ;exact ⟨j+1,A4,n4,c4,by omega,by rw [hs.out],rfl,by rw [hget.out,←List.append_assoc,tP];exact hown4,pF (hbel3.alloc hb3 _) hg4 (hown3.alloc _) (Nat.le_refl _) (by simp;omega)⟩
     case measure=>simp [intOf];try omega
    obtain rfl:j=5:=by omega
    have h5:aEI 5=0:=rfl;have hall:Hid (nB ls k++(fJ (mW ls k)).take 5=nB ls (k+1)):=(adZ ls k).symm;rw [h5];clear h5;go_wp2_with fail;go_roundw
    case rel=>exact ⟨k+1,A3,n3,c3,by omega,by go_num,rfl,by rw [←hall.out];exact hown3,hbel3⟩
    case measure=>simp [intOf];try omega
  ·obtain rfl:n=k:=hlt.symm;clear hlt;have e1:decide (n≤n)=true:=by simp
   have hC:Hid (mW ls n=31):=by
    unfold Hid mW;rw [if_neg (by have:=HN.out;omega)]
   go_wp2_with fail;rw [←hC.out];go_loopw [3,6] (fun o i w2=>adQ w w2 (nB ls n) (mW ls n) o i) (fun _ i _=>(intOf i).toNat)
   case atStart=>unfold adQ;exact ⟨0,A2,n2,c2,by omega,rfl,rfl,by simpa using hown,hbel⟩
   case round=>
    obtain ⟨j,A3,n3,c3,hj,rfl,rfl,hown3,hbel3⟩:=hrel;have hb3:=hbel3.size;obtain ⟨h0,h16⟩:=aoG j;by_cases hj5:j<5
    ·have hp:=aoH j hj5;have hs:=Lib.hid (aoF j hj5);have hq0:0≤mW ls n/aEI j:=Int.ediv_nonneg hc0 h0;have hget:Hid ((fJ (mW ls n)).take (j+1)=(fJ (mW ls n)).take j++[mW ls n/aEI j%2]):=by
      unfold Hid;have hl:(fJ (mW ls n)).length=5:=rfl;rw [List.take_succ_eq_append_getElem (by omega),aVZ _ hc0 hc1 j hj5];unfold aEI;rw [if_pos hj5]
     have hlen3:Hid ((nB ls n++(fJ (mW ls n)).take j).length≤5*n+5):=by
      unfold Hid;rw [List.length_append,List.length_take,hpl.out];omega
     have hhalf:aEI j/2<aEI j:=by omega
     generalize aEI j=hh at *;go_wp2_with (at_builtin;refine rD aMH rfl _ _ rfl rfl (hown3.alloc _) rfl (Rd.new _ [_] _) rfl (vH _ _) (by have:=hlen3.out;rw [mL];simp only [List.length_cons,List.length_nil];omega) (by have:=hlen3.out;rw [mL];simp only [List.length_cons,List.length_nil];omega) (by simp;omega) ?_;intro A4 n4 c4 w4 hown4 hg4);go_roundw
     case rel=>unfold adQ;exact ⟨j+1,A4,n4,c4,by omega,by rw [hs.out],rfl,by rw [hget.out,←List.append_assoc,tP];exact hown4,pF (hbel3.alloc hb3 _) hg4 (hown3.alloc _) (Nat.le_refl _) (by simp;omega)⟩
     case measure=>simp [intOf];try omega
    obtain rfl:j=5:=by omega
    have h5:aEI 5=0:=rfl;have hall:Hid (nB ls n++(fJ (mW ls n)).take 5=nB ls (n+1)):=(adZ ls n).symm;rw [h5];clear h5;go_wp2_with fail;go_roundw
    case rel=>exact ⟨n+1,A3,n3,c3,by omega,by go_num,rfl,by rw [←hall.out];exact hown3,hbel3⟩
    case measure=>simp [intOf];try omega
  have HK:Hid (k=n+1):=by unfold Hid;omega
  rw [HK.out] at hown hpl;have hbt:=aqC ls (n+1);have hpk:Hid (kT (nB ls (n+1))=fW ls):=by
   unfold Hid fW;rw [HN.out,ap5]
  clear hc0 hc1;generalize nB ls (n+1)=F at *;have e1:decide (k≤n)=false:=by simp;omega
  have hF:F.length=5*(n+1):=hpl.out;have HF:=Lib.hid hF;clear hF;go_wp2_with fail;go_loopw [3] (fun o w2=>am6 w w2 F o) (fun o _=>(8-lenOf o%8)%8)
  case atStart=>unfold am6;exact ⟨0,A2,n2,c2,by omega,rfl,by simpa [aG5] using hown,hbel⟩
  case round=>
   obtain ⟨m,A3,n3,c3,hm,rfl,hown3,hbel3⟩:=hrel;have hb3:=hbel3.size;have hn3:Hid (n3=F.length+m):=by unfold Hid;rw [hown3.rd.1];simp [aG5]
   by_cases h8:n3%8=0
   ·have e8:(((n3:Int)%8) !=0)=false:=by simp;omega
    have hbt3:jN (aG5 F m):=aqD F hbt m;have hpk3:Hid ((List.range (n3/8)).map (iF (aG5 F m))=fW ls):=by
     unfold Hid;rw [←hpk.out,kT];have:n3/8=(F.length+7)/8:=by have:=hn3.out;omega
     rw [this];exact List.map_congr_left fun i _=>ap9 F m i
    have hl3:Hid ((aG5 F m).length=n3):=by unfold Hid;rw [hn3.out];simp [aG5]
    generalize aG5 F m=G at *;have hnb:n3≤6000000:=by have:=hn3.out;have:=HF.out;omega
    obtain ⟨w3,rfl⟩:∃ w3:World,w3=wr:=⟨_,rfl⟩
    go_wp2_with fail;go_loopw [7,8] (fun o i w2=>am7 w w2 G n3 c3 A3 o i) (fun _ i _=>n3-(intOf i).toNat)
    case atStart=>unfold am7;exact ⟨0,none,0,0,by omega,rfl,rfl,(bA.nil _ _ _).cast rfl,hown3,hbel3⟩
    case round=>
     obtain ⟨q,A4,n4,c4,hq,rfl,rfl,hown4,hbits,hbel4⟩:=hrel;have hb4:=hbel4.size;obtain ⟨w4,rfl⟩:∃ w4:World,w4=wr:=⟨_,rfl⟩
     by_cases hql:8*q<n3
     ·go_wp2_with fail;go_loop [9,10] (fun v i=>∃ j:Nat,j≤8∧i=.int .i64 j∧v=.int .i64 (aO1 G q j)) (fun _ i=>8-(intOf i).toNat)
      case atStart=>exact ⟨0,by omega,rfl,rfl⟩
      case round=>
       obtain ⟨j,hj,rfl,rfl⟩:=hrel;have hp0:=(aoE G hbt3 q j).1;have hp1:=aqB G hbt3 q j hj;by_cases hj8:j<8
       ·have hix:8*q+j<G.length:=by have:=hl3.out;omega
        obtain ⟨b,o,rfl,_,hc⟩:=hbits.rd.2.2.num hix;have g1:((8*q+j:Nat):Int)<(n3:Int):=by omega
        have hgd:Hid (aO1 G q (j+1)=2*aO1 G q j+G[8*q+j]):=by
         unfold Hid;rw [aO1];simp only [List.getD,List.getElem?_eq_getElem hix,Option.getD_some]
        have hbx:G[8*q+j]=0∨G[8*q+j]=1:=hbt3 _ (List.getElem_mem hix);have hb0:0≤G[8*q+j]∧G[8*q+j]≤1:=by omega
        obtain ⟨hb00,hb01⟩:=hb0;clear hbx;go_wp2;go_round
        case rel=>exact ⟨j+1,by omega,by go_num,by rw [hgd.out]⟩
        case measure=>simp [intOf];try omega
       obtain rfl:j=8:=by omega
       have h8a:=Lib.hid (aqA G q);have hlen4:Hid ((cb .u8 ((List.range q).map (iF G))).length=q):=by unfold Hid;simp
       go_wp2_with (at_builtin;refine rD rE rfl _ _ rfl rfl (hown4.alloc _) rfl (Rd.new _ [_] _) rfl (vH _ _) (by rw [hlen4.out];simp only [List.length_cons,List.length_nil];omega) (by rw [hlen4.out];simp only [List.length_cons,List.length_nil];omega) (by simp;omega) ?_;intro A5 n5 c5 w5 hown5 hg5);have hg6:(w4.alloc (.cells #[.int .u8 (aO1 G q 8)] 5)).grownBy w5 (Value.slice A4 n4 c4).ownBlock:=hg5;go_roundw
       case rel=>
        unfold am7;exact ⟨q+1,A5,n5,c5,by omega,by go_num,rfl,by rw [List.range_succ,List.map_append,tP,List.map_singleton,←h8a.out];exact hown5,(hbits.alloc _).grown hg6 (hbits.ne_own hown4 (by decide)),pF (hbel4.alloc hb4 _) hg6 (hown4.alloc _) (Nat.le_refl _) (by simp;omega)⟩
       case measure=>simp [intOf];try omega
     go_wp2;go_ret;have hq8:q=n3/8:=by omega
     exact ⟨A4,n4,c4,rfl,by rw [←hpk3.out,←hq8];exact hown4,hbel4⟩
   have e8:(((n3:Int)%8) !=0)=true:=by simp;omega
   have hlm:Hid ((aG5 F m).length≤6000000):=by unfold Hid;have:=HF.out;simp [aG5];omega
   have hm2:m<8:=by omega
   go_wp2_with (at_builtin;refine rD aMH rfl _ _ rfl rfl (hown3.alloc _) rfl (Rd.new _ [_] _) rfl (vH _ _) (by have:=hlm.out;rw [mL];simp only [List.length_cons,List.length_nil];omega) (by have:=hlm.out;rw [mL];simp only [List.length_cons,List.length_nil];omega) (by simp;omega) ?_;intro A5 n5 c5 w5 hown5 hg5);have hn5:n5=n3+1:=by rw [hown5.rd.1,hn3.out];simp [aG5]
   go_roundw
   case rel=>
    unfold am6;exact ⟨m+1,A5,n5,c5,by have:=hn3.out;omega,rfl,by rw [ap7,tP];exact hown5,pF (hbel3.alloc hb3 _) hg5 (hown3.alloc _) (Nat.le_refl _) (by simp;omega)⟩
   case measure=>simp [lenOf];omega
theorem aWN (m:Int)(w:World)(h0:0≤m)(h1:m<256):Calls Tryz.prog 131 #[.int .u8 m] w fun e w'=>e=.returned (.bool (eZ m))∧w=w':=by
 have key:Hid (eZ m=(decide (32≤m)&&decide (m≤126)||m==10)):=by
  unfold Hid eZ;rw [Bool.eq_iff_iff];simp
 go_enter Tryz.func131,Tryz.ntmps131;go_wp2
 all_goals
  go_ret;refine ⟨congrArg Ending.returned (congrArg Value.bool ?_:Value.bool _=Value.bool _),rfl⟩;rw [key.out,Bool.eq_iff_iff];simp;omega
theorem aoD (s:ByteArray)(w:World)(hs:s.size≤1000000000):Calls Tryz.prog 146 #[.string s] w fun e w'=>e=.returned (.bool (cN (tB s)))∧w=w':=by
 go_enter Tryz.func146,Tryz.ntmps146;go_wp2;go_loop [3] (fun i=>∃ k:Nat,k≤s.size∧i=.int .i64 k∧Hid (((tB s).take k).all eZ=true)) (fun i=>s.size-(intOf i).toNat)
 case atStart=>exact ⟨0,by omega,rfl,by unfold Hid;rfl⟩
 case round=>
  obtain ⟨k,hk,rfl,hq⟩:=hrel;by_cases hlt:k<s.size
  ·have hts:=Lib.hid (aF5 s k hlt);have hall:Hid (eZ s[k].toNat=true→((tB s).take (k+1)).all eZ=true):=fun h=>by
    rw [hts.out,List.all_append,hq.out];simpa using h
   have hno:Hid (eZ s[k].toNat=false→cN (tB s)=false):=fun h=>by
    cases hb:cN (tB s) with
    | false=>rfl
    | true=>
     have:=ap2 hb (k:=k) (by rw [fK];exact hlt);rw [zD s k hlt] at this;rw [this] at h;cases h
   have hbd:(s[k].toNat:Int)<256:=by have:=s[k].toNat_lt;omega
   rcases (show ((s[k].toNat:Int)<32∧(s[k].toNat:Int)≠10)∨(s[k].toNat:Int)=10∨126<(s[k].toNat:Int)∨(32≤(s[k].toNat:Int)∧(s[k].toNat:Int)≤126) by omega) with ⟨h1,h2⟩|h2|h1|⟨h1,h2⟩
   ·have e1:((s[k].toNat:Int) !=10)=true:=by simpa using h2
    have e2:Hid (eZ s[k].toNat=false):=by unfold Hid eZ;simp;omega
    clear h2;go_wp2;go_ret;exact ⟨by rw [hno.out e2.out];rfl,rfl⟩
   ·have e1:((s[k].toNat:Int) !=10)=false:=by simpa using h2
    have e2:Hid (eZ s[k].toNat=true):=by unfold Hid eZ;simp;omega
    have h3:(s[k].toNat:Int)<32:=by omega
    clear h2;go_wp2;go_round
    case rel=>exact ⟨k+1,by omega,by go_num,hall.out e2.out⟩
    case measure=>simp [intOf];omega
   ·have e1:((s[k].toNat:Int) !=10)=true:=by simp;omega
    have e2:Hid (eZ s[k].toNat=false):=by unfold Hid eZ;simp;omega
    have h3:32≤(s[k].toNat:Int):=by omega
    go_wp2;go_ret;exact ⟨by rw [hno.out e2.out];rfl,rfl⟩
   have e2:Hid (eZ s[k].toNat=true):=by unfold Hid eZ;simp;omega
   go_wp2;go_round
   case rel=>exact ⟨k+1,by omega,by go_num,hall.out e2.out⟩
   case measure=>simp [intOf];omega
  obtain rfl:k=s.size:=by omega
  have hq2:Hid (cN (tB s)=decide (s.size≤1024)):=by
   have:=hq.out;rw [List.take_of_length_le (by rw [fK];omega)] at this;unfold Hid cN;rw [this,fK,Bool.and_true]
  clear hq;go_wp2;go_ret;exact ⟨by rw [hq2.out];simp;omega,rfl⟩
theorem aWO (K:Nat)(P:Int→Bool)(hcall:∀ (args:Array Value) (w:World),Sem.run Tryz.prog (callFunc K args) w=.ok (.enter K args) w)(hK:∀ (m:Int) (w:World),0≤m→m<256→Calls Tryz.prog K #[.int .u8 m] w fun e w'=>e=.returned (.bool (P m))∧w=w')(s:ByteArray)(most:Int)(w:World)(hs:s.size≤1000000000)(h1:1≤s.size):
 Calls Tryz.prog 132 #[.string s,.int .i64 most,.func (.func K) #[] #[],.func (.func K) #[] #[]] w fun e w'=>e=.returned (.bool (decide ((s.size:Int)≤most)&&(tB s).all P))∧w=w':=by
 have HK:=Lib.hid hK;clear hK;by_cases hm:most<s.size
 ·go_enter Tryz.func132,Tryz.ntmps132;go_wp2;go_ret;exact ⟨by simp;omega,rfl⟩
 have hts0:=zD s 0 (by omega) (by rw [fK];omega);have hb0:(s[0].toNat:Int)<256:=by have:=s[0].toNat_lt;omega
 have hb00:(0:Int)≤s[0].toNat:=by omega
 cases hp0:P s[0].toNat with
 | false=>
  have hfin:Hid ((tB s).all P=false):=by
   unfold Hid;rw [List.all_eq_false];exact ⟨_,List.getElem_mem (n:=0) (by rw [fK];omega),by rw [hts0,hp0];simp⟩
  have HP:=Lib.hid hp0;clear hts0 hp0;go_enter Tryz.func132,Tryz.ntmps132;go_wp2_with fail;refine (HK.out (s[0].toNat:Int) w hb00 hb0).mono ?_;rw [HP.out];rintro e w' ⟨rfl,rfl⟩;go_wp2;go_ret;exact ⟨by rw [hfin.out];simp,rfl⟩
 | true=>
  have HP:=Lib.hid hp0;clear hts0 hp0;go_enter Tryz.func132,Tryz.ntmps132;go_wp2_with fail;refine (HK.out (s[0].toNat:Int) w hb00 hb0).mono ?_;rw [HP.out];rintro e w' ⟨rfl,rfl⟩;go_wp2_with fail;go_loop [28] (fun i=>∃ k:Nat,k≤s.size∧i=.int .i64 k∧Hid (((tB s).take k).all P=true)) (fun i=>s.size-(intOf i).toNat)
  case atStart=>exact ⟨0,by omega,rfl,by unfold Hid;rfl⟩
  case round=>
   obtain ⟨k,hk,rfl,hq⟩:=hrel;by_cases hlt:k<s.size
   ·have hts:=Lib.hid (aF5 s k hlt);have hgt:=Lib.hid (zD s k hlt (by rw [fK];omega));have hb1:(s[k].toNat:Int)<256:=by have:=s[k].toNat_lt;omega
    have hb10:(0:Int)≤s[k].toNat:=by omega
    cases hp1:P s[k].toNat with
    | false=>
     have hfin:Hid ((tB s).all P=false):=by
      unfold Hid;rw [List.all_eq_false];exact ⟨_,List.getElem_mem (n:=k) (by rw [fK];omega),by rw [hgt.out,hp1];simp⟩
     have HP1:=Lib.hid hp1;clear hp1;go_wp2_with fail;refine (HK.out (s[k].toNat:Int) w hb10 hb1).mono ?_;rw [HP1.out];rintro e w' ⟨rfl,rfl⟩;go_wp2;go_ret;exact ⟨by rw [hfin.out];simp,rfl⟩
    | true=>
     have HP1:=Lib.hid hp1;clear hp1;go_wp2_with fail;refine (HK.out (s[k].toNat:Int) w hb10 hb1).mono ?_;rw [HP1.out];rintro e w' ⟨rfl,rfl⟩;go_wp2_with fail;go_round
     case rel=>exact ⟨k+1,by omega,by go_num,by unfold Hid;rw [hts.out,List.all_append,hq.out];simpa using HP1.out⟩
     case measure=>simp [intOf];omega
   obtain rfl:k=s.size:=by omega
   have hfin:Hid ((tB s).all P=true):=by
    have:=hq.out;rwa [List.take_of_length_le (by rw [fK];omega)] at this
   go_wp2;go_ret;exact ⟨by rw [hfin.out];simp,rfl⟩
theorem aWP (args:Array Value)(w:World):Sem.run Tryz.prog (callFunc 131 args) w=.ok (.enter 131 args) w:=rfl
theorem aF6 (s:ByteArray)(w:World)(hs:s.size≤1000000000):Calls Tryz.prog 64 #[.string s] w fun e w'=>e=.returned (.bool (cN (tB s)))∧w=w':=by
 have hsl:=aF7 s;by_cases h0:s.toList=[]
 ·have hfin:Hid (cN (tB s)=true):=by
   unfold Hid;rw [aWQ.1 h0];decide
  go_enter Tryz.func64,Tryz.ntmps64;go_wp2_with fail;go_ret;exact ⟨by rw [hfin.out];rfl,rfl⟩
 have h1:1≤s.size:=by
  have:=List.length_pos_iff.2 h0;omega
 have hie:s.toList.isEmpty=false:=by simpa using h0
 have hfin:Hid (cN (tB s)=(decide ((s.size:Int)≤1024)&&(tB s).all eZ)):=by
  unfold Hid cN;rw [fK];congr 1;simp;omega
 clear hsl;go_enter Tryz.func64,Tryz.ntmps64;go_wp2_with fail;refine (aWO 131 eZ aWP aWN s 1024 w hs h1).mono ?_;rintro e w' ⟨rfl,rfl⟩;go_wp2;go_ret;exact ⟨by rw [hfin.out];rfl,rfl⟩
theorem aWR (s:ByteArray)(k:Nat)(h:k<s.size):bC ((tB s).take (k+1))=bC ((tB s).take k)++cS s[k].toNat:=by
 rw [aF5 s k h,aMI]
theorem aWS (s:ByteArray)(k:Nat):(bC ((tB s).take k)).length≤3*k:=by
 have:=aF8 ((tB s).take k);rw [List.length_take] at this;omega
theorem aBZ (s:ByteArray)(w:World)(hs:s.size≤100000000):
 Calls Tryz.prog 137 #[.string s] w fun e w'=>∃ A n c,e=.returned (.tuple #[.slice A n c,.int .i64 (jF (tB s)).2])∧bA w' w.heap.size 3 (.slice A n c) (cb .i64 (jF (tB s)).1)∧Below w.heap.size w w':=by
 cases ht:cN (tB s) with
 | false=>
  have hfin:Hid (jF (tB s)=([],13)):=by unfold Hid jF;rw [ht];rfl
  have hT:=Lib.hid ht;clear ht;go_enter Tryz.func137,Tryz.ntmps137;go_wp2_with fail;refine (aF6 s w (by omega)).mono ?_;rw [hT.out];rintro e w' ⟨rfl,rfl⟩;go_wp2;go_ret2;exact ⟨none,0,0,by rw [hfin.out];rfl,by rw [hfin.out];exact bA.nil _ _ _,Below.refl _ _⟩
 | true=>
  have hfin:Hid (jF (tB s)=(bC (tB s),0)):=by unfold Hid jF;rw [ht];rfl
  have hT:=Lib.hid ht;clear ht;go_enter Tryz.func137,Tryz.ntmps137;go_wp2_with fail;refine (aF6 s w (by omega)).mono ?_;rw [hT.out];rintro e w' ⟨rfl,rfl⟩;go_wp2_with fail;go_loopw [4,11] (fun o i w2=>∃ (k:Nat) (A:Option Addr) (n c:Nat),k≤s.size∧i=.int .i64 k∧o=.slice A n c∧bA w2 w.heap.size 3 (.slice A n c) (cb .i64 (bC ((tB s).take k)))∧Below w.heap.size w w2) (fun _ i _=>s.size-(intOf i).toNat)
  case atStart=>exact ⟨0,none,0,0,by omega,rfl,rfl,bA.nil _ _ _,Below.refl _ _⟩
  case round=>
   obtain ⟨k,A,n,c,hk,rfl,rfl,hown,hbel⟩:=hrel;have hb:=hbel.size;by_cases hlt:k<s.size
   ·have hts:=Lib.hid (aWR s k hlt);have hln:=aWS s k;have hl3:=aB0 (s[k].toNat:Int);have hb1:(s[k].toNat:Int)<256:=by have:=s[k].toNat_lt;omega
    have hb10:(0:Int)≤s[k].toNat:=by omega
    go_wp2_with fail;refine (aMJ (s[k].toNat:Int) _ hb10 hb1).mono ?_;rintro e w3 ⟨A3,n3,c3,rfl,hown3,hb3⟩;have hz:=Lib.hid hown3.rd.1;have hb4:=hb3.size;go_wp2_with (at_builtin;refine rD aMH rfl _ _ rfl rfl (hown.below hb3) rfl hown3.rd.2.2 hz.out (zE _ _) (by simp;omega) (by simp;omega) (by omega) ?_;intro A4 n4 c4 w4 hown4 hg4);go_roundw
    case rel=>exact ⟨k+1,A4,n4,c4,by omega,by go_num,rfl,by rw [hts.out,tP];exact hown4,pF (hbel.trans (hb3.mono hb)) hg4 (hown.below hb3) (Nat.le_refl _) (by omega)⟩
    case measure=>simp [intOf];omega
   obtain rfl:k=s.size:=by omega
   have hall:Hid ((tB s).take s.size=tB s):=List.take_of_length_le (by rw [fK];omega);go_wp2;go_ret2;exact ⟨A,n,c,by rw [hfin.out];rfl,by rw [hfin.out];rw [hall.out] at hown;exact hown,hbel⟩
theorem aqF (l:List Int)(h:∀ c∈l,eZ c=true):l.flatMap kN=bC l:=by
 induction l with
 | nil=>rfl
 | cons a l ih=>
  rw [bC,List.flatMap_cons,List.flatMap_cons,ih fun c hc=>h c (List.mem_cons_of_mem _ hc),ap1 a (h a List.mem_cons_self)];rfl
theorem aqG {l:List Int}(h:cN l=true):∀ c∈l,eZ c=true:=by
 simp only [cN,Bool.and_eq_true,List.all_eq_true] at h;exact h.2
theorem aqH (l:List Int)(k:Nat)(h:k<l.length):l.take (k+1)=l.take k++[l[k]]:=List.take_succ_eq_append_getElem h
def am8 (w w2:World)(s:ByteArray)(o i:Value):Prop:=
 ∃ (k:Nat) (A2:Option Addr) (n2 c2:Nat),k≤s.size∧i=.int .i64 k∧o=.slice A2 n2 c2∧bA w2 w.heap.size 3 (.slice A2 n2 c2) (cb .i64 (((tB s).take k).flatMap kN))∧Below w.heap.size w w2
def am9 (w w2:World)(s:ByteArray)(wo:World)(k:Nat)(L:List Int)(A3:Option Addr)(n3 c3:Nat)(o j:Value):Prop:=
 ∃ (q:Nat) (A2:Option Addr) (n2 c2:Nat),q≤n3∧j=.int .i64 q∧o=.slice A2 n2 c2∧bA w2 w.heap.size 3 (.slice A2 n2 c2) (cb .i64 (((tB s).take k).flatMap kN++L.take q))∧bA w2 wo.heap.size 3 (.slice A3 n3 c3) (cb .i64 L)∧yX (.slice A2 n2 c2) (.slice A3 n3 c3)∧Below w.heap.size w w2
theorem aqI (l:List Int):(l.flatMap kN).length≤3*l.length:=by
 induction l with
 | nil=>simp
 | cons a l ih=>
  have:=am5 a;simp only [List.flatMap_cons,List.length_append,List.length_cons] at *;omega
theorem aqJ (s:ByteArray)(w:World)(hs:s.size≤100000000):
 Calls Tryz.prog 214 #[.string s] w fun e w'=>∃ A n c,e=.returned (.tuple #[.slice A n c,.int .i64 (jF (tB s)).2])∧bA w' w.heap.size 3 (.slice A n c) (cb .i64 (jF (tB s)).1)∧Below w.heap.size w w':=by
 cases ht:cN (tB s) with
 | false=>
  have hfin:Hid (jF (tB s)=([],13)):=by unfold Hid jF;rw [ht];rfl
  have hT:=Lib.hid ht;clear ht;go_enter Tryz.func214,Tryz.ntmps214;go_wp2_with fail;refine (aoD s w (by omega)).mono ?_;rw [hT.out];rintro e w' ⟨rfl,rfl⟩;go_wp2;go_ret2;exact ⟨none,0,0,by rw [hfin.out];rfl,by rw [hfin.out];exact bA.nil _ _ _,Below.refl _ _⟩
 | true=>
  have hfin:Hid (jF (tB s)=((tB s).flatMap kN,0)):=by unfold Hid jF;rw [ht,aqF _ (aqG ht)];rfl
  have hT:=Lib.hid ht;clear ht;go_enter Tryz.func214,Tryz.ntmps214;go_wp2_with fail;refine (aoD s w (by omega)).mono ?_;rw [hT.out];rintro e w' ⟨rfl,rfl⟩;go_wp2_with fail;go_loopw [4,5,6,7] (fun o i _ _ w2=>am8 w w2 s o i) (fun _ i _ _ _=>s.size-(intOf i).toNat)
  case atStart=>unfold am8;exact ⟨0,none,0,0,by omega,rfl,rfl,bA.nil _ _ _,Below.refl _ _⟩
  case round=>
   obtain ⟨k,A,n,c,hk,rfl,rfl,hown,hbel⟩:=hrel;have hb:=hbel.size;obtain ⟨wo,rfl⟩:∃ wo:World,wo=wr:=⟨_,rfl⟩
   by_cases hlt:k<s.size
   ·have hts:Hid (((tB s).take (k+1)).flatMap kN=((tB s).take k).flatMap kN++kN s[k].toNat):=by
     unfold Hid;rw [aF5 s k hlt,List.flatMap_append];simp
    have hln:(((tB s).take k).flatMap kN).length≤3*k:=by
     have:=aqI ((tB s).take k);rw [List.length_take] at this;omega
    have hl3:=am5 (s[k].toNat:Int);have hb1:(s[k].toNat:Int)<256:=by have:=s[k].toNat_lt;omega
    have hb10:(0:Int)≤s[k].toNat:=by omega
    go_wp2_with fail;refine (aoC (s[k].toNat:Int) _ hb10 hb1).mono ?_;rintro e w3 ⟨A3,n3,c3,rfl,hown3,hb3⟩;have hz0:=hown3.rd.1;rw [mL] at hz0;have hz1:n3≤3:=by omega
    have hz:=Lib.hid hz0;clear hz0;have hb4:=hb3.size;have hbel3:=hbel.trans (hb3.mono hb);generalize kN (s[k].toNat:Int)=L at *;go_wp2_with fail;go_loopw [4,7] (fun o j w2=>am9 w w2 s wo k L A3 n3 c3 o j) (fun _ j _=>n3-(intOf j).toNat)
    case atStart=>unfold am9;exact ⟨0,A,n,c,by omega,rfl,rfl,by simpa using hown.below hb3,hown3,yX.older hown hown3 (Nat.le_refl _),hbel3⟩
    case round=>
     obtain ⟨q,A4,n4,c4,hq,rfl,rfl,hown4,hrd4,hap4,hbel4⟩:=hrel;have hb5:=hbel4.size;by_cases hql:q<n3
     ·have hqL:q<L.length:=by have:=hz.out;omega
      obtain ⟨b,o,rfl,_,hc⟩:=hrd4.rd.2.2.num hqL;have hst:Hid (L.take (q+1)=L.take q++[L[q]]):=aqH L q hqL;have hlen4:Hid ((((tB s).take k).flatMap kN++L.take q).length≤3*k+3):=by
       unfold Hid;rw [List.length_append,List.length_take];omega
      go_wp2_with (at_builtin;refine adK aMH rfl _ _ rfl rfl (hown4.alloc _) rfl (Rd.new _ [_] _) rfl (vH _ _) (by have:=hlen4.out;rw [mL];simp only [List.length_cons,List.length_nil];omega) (by have:=hlen4.out;rw [mL];simp only [List.length_cons,List.length_nil];omega) (by simp;omega) ?_;intro A6 n6 c6 w6 hown6 hg6 he6);have hg7:(wr.alloc (.cells #[.int .i64 L[q]] 3)).grownBy w6 (Value.slice A4 n4 c4).ownBlock:=hg6;have hbel6:=pF (hbel4.alloc hb5 _) hg7 (hown4.alloc _) (Nat.le_refl _) (by simp;omega);go_roundw
      case rel=>
       unfold am9;refine ⟨q+1,A6,n6,c6,by omega,by go_num,rfl,by rw [hst.out,←List.append_assoc,tP];exact hown6,(hrd4.alloc _).grown hg7 hap4.symm,hap4.grown he6 hrd4 (by simp),hbel6⟩
      case measure=>simp [intOf];omega
     obtain rfl:q=n3:=by omega
     have hall:Hid (L.take q=L):=by unfold Hid;rw [hz.out];simp
     go_wp2_with fail;go_roundw
     case rel=>unfold am8;exact ⟨k+1,A4,n4,c4,by omega,by go_num,rfl,by rw [hts.out];rw [hall.out] at hown4;exact hown4,hbel4⟩
     case measure=>simp [intOf];omega
   obtain rfl:k=s.size:=by omega
   have hall:Hid ((tB s).take s.size=tB s):=List.take_of_length_le (by rw [fK];omega);go_wp2;go_ret2;exact ⟨A,n,c,by rw [hfin.out];rfl,by rw [hfin.out];rw [hall.out] at hown;exact hown,hbel⟩
theorem atY (n:Int)(w:World):Calls Tryz.prog 218 #[.int .i64 n] w fun e w'=>e=.returned (.int .i64 (nX n))∧w=w':=by
 rcases adE n 65536 with ⟨hs,he⟩|⟨hs,he⟩
 all_goals
  go_enter Tryz.func218,Tryz.ntmps218;go_wp2
  all_goals
   go_ret;exact ⟨aGA (by unfold nX;omega),rfl⟩
theorem aFH (A:Option Addr)(n c:Nat)(zs:List Int)(m:Int)(w:World)(hr:Rd w w.heap.size A (cb .u8 zs))(hn:n=zs.length)(hl:zs.length≤300000000):
 Calls Tryz.prog 118 #[.slice A n c,.int .i64 m] w (kG w 5 (cb .u8 (zs++cQ m))):=by
 subst hn;have hb0:Below w.heap.size w (w.alloc (.cells #[] 5)):=(Below.refl _ _).alloc (Nat.le_refl _) _;rcases adE m 256 with ⟨hs,he⟩|⟨hs,he⟩
 all_goals
  go_enter Tryz.func118,Tryz.ntmps118;go_wp2_with (first
   | (at_builtin;refine rD rE rfl (.tmp 12) (.tmp 13) rfl rfl (bA.new w [] 5 0 rfl (Nat.le_refl _) (by omega)) rfl (hr.below hb0) (by simp) (zE _ _) (by simp;omega) (by simp;omega) (by simp) ?_;intro A2 n2 c2 w2 hown2 hg2;have hb2:=pF hb0 hg2 (bA.new (base:=w.heap.size) w [] 5 0 rfl (Nat.le_refl _) (by omega)) (Nat.le_refl _) (by simp);have hb:=hb2.size)
   | (at_builtin;refine rD rE rfl (.tmp 14) (.tmp 17) rfl rfl (hown2.alloc _) rfl (Rd.new _ [_] _) rfl (vH _ _) (by simp;omega) (by simp;omega) (by simp;omega) ?_;intro A3 n3 c3 w3 hown3 hg3))
  all_goals
   go_ret;exact ⟨A3,n3,c3,rfl,hown3.cast (by simp [cb,cQ];try omega),pF (hb2.alloc hb _) hg3 (hown2.alloc _) (Nat.le_refl _) (by simp;omega)⟩
theorem atZ (A:Option Addr)(n c:Nat)(zs:List Int)(m:Int)(w:World)(hr:Rd w w.heap.size A (cb .u8 zs))(hn:n=zs.length)(hl:zs.length≤200000000):
 Calls Tryz.prog 151 #[.slice A n c,.int .i64 m] w (kG w 5 (cb .u8 (zs++kD m))):=by
 have hw:-32768≤nX m∧nX m≤32767:=by unfold nX;omega
 have key:∀ W:Int,0≤W→W≤65535→W=m%65536→[W/256%256,W%256%256]=kD m:=by
  intro W h0 h1 h2;unfold kD;congr 1
  ·omega
  congr 1;omega
 have HK:=Lib.hid key;have HW:Hid (nX m%65536=m%65536):=amP m;have HC:=Lib.hid (fun w=>atY m w);clear key;subst hn;obtain ⟨h1,h2⟩:=hw;generalize nX m=W0 at *;by_cases hneg:W0<0
 all_goals
  go_enter Tryz.func151,Tryz.ntmps151;go_wp2_with fail;refine (HC.out w).mono ?_;rintro e w' ⟨rfl,rfl⟩;go_wp2_with fail;refine (aFH A _ c zs _ w hr rfl (by omega)).mono ?_;rintro e w1 ⟨A1,n1,c1,rfl,hown,hb1⟩;have hz:=Lib.hid hown.rd.1;go_wp2_with fail;refine (aFH A1 _ c1 _ _ w1 hown.rd.2.2 (by rw [hz.out];simp) (by simp [cQ];omega)).mono ?_;rintro e w2 ⟨A2,n2,c2,rfl,hown2,hb2⟩;go_wp2;go_ret;refine ⟨A2,n2,c2,rfl,(hown2.less hb1.size).cast ?_,hb1.trans (hb2.mono hb1.size)⟩;have hw:=HW.out
  first
   | rw [←HK.out (W0+65536) (by omega) (by omega) (by omega)];simp [cQ]
   | rw [←HK.out W0 (by omega) (by omega) (by omega)];simp [cQ]
theorem akG (A:Option Addr)(n c:Nat)(zs:List Int)(m:Int)(w:World)(hr:Rd w w.heap.size A (cb .u8 zs))(hn:n=zs.length)(hl:zs.length≤200000000)(h0:0≤m)(hm:m≤4294967295):
 Calls Tryz.prog 46 #[.slice A n c,.int .u32 m] w (kG w 5 (cb .u8 (zs++kX m))):=by
 subst hn;go_enter Tryz.func46,Tryz.ntmps46;go_wp2_with fail;refine (aFH A _ c zs _ w hr rfl (by omega)).mono ?_;rintro e w1 ⟨A1,n1,c1,rfl,hown,hb1⟩;have hz:=Lib.hid hown.rd.1;go_wp2_with fail;refine (aFH A1 _ c1 _ _ w1 hown.rd.2.2 (by rw [hz.out];simp) (by simp [cQ];omega)).mono ?_;rintro e w2 ⟨A2,n2,c2,rfl,hown2,hb2⟩;have hz2:=Lib.hid hown2.rd.1;go_wp2_with fail;refine (aFH A2 _ c2 _ _ w2 hown2.rd.2.2 (by rw [hz2.out];simp) (by simp [cQ];omega)).mono ?_;rintro e w3 ⟨A3,n3,c3,rfl,hown3,hb3⟩;have hz3:=Lib.hid hown3.rd.1;go_wp2_with fail
 refine (aFH A3 _ c3 _ _ w3 hown3.rd.2.2 (by rw [hz3.out];simp) (by simp [cQ];omega)).mono ?_;rintro e w4 ⟨A4,n4,c4,rfl,hown4,hb4⟩;go_wp2;go_ret;have b12:=hb1.trans (hb2.mono hb1.size);have b13:=b12.trans (hb3.mono b12.size);have b14:=b13.trans (hb4.mono b13.size);refine ⟨A4,n4,c4,rfl,(hown4.less b13.size).cast ?_,b14⟩;simp [cQ,kX]
theorem at1 (k:Nat):∀ (A:Option Addr) (n c:Nat) (zs:List Int) (N:Nat) (w:World),Rd w w.heap.size A (cb .u8 zs)→n=zs.length→zs.length+k≤100000100→N<128^(k+1)→N≤9223372036854775807→
 Calls Tryz.prog 84 #[.slice A n c,.int .i64 N] w (kG w 5 (cb .u8 (zs++kC N))):=by
 induction k with
 | zero=>
  intro A n c zs N w hr hn hl hN hm;subst hn;have hN':N<128:=by simpa using hN
  go_enter Tryz.func84,Tryz.ntmps84;go_wp2_with fail;refine (aFH A _ c zs _ w hr rfl (by omega)).mono ?_;rintro e w1 ⟨A1,n1,c1,rfl,hown,hb1⟩;go_wp2;go_ret;exact ⟨A1,n1,c1,rfl,hown.cast (by rw [aAH hN',cQ,Int.emod_eq_of_lt (by omega) (by omega)]),hb1⟩
 | succ k ih=>
  intro A n c zs N w hr hn hl hN hm;subst hn;have HN:=Lib.hid hN;have IH:=Lib.hid ih;clear hN ih;by_cases hN':N<128
  ·go_enter Tryz.func84,Tryz.ntmps84;go_wp2_with fail;refine (aFH A _ c zs _ w hr rfl (by omega)).mono ?_;rintro e w1 ⟨A1,n1,c1,rfl,hown,hb1⟩;go_wp2;go_ret;exact ⟨A1,n1,c1,rfl,hown.cast (by rw [aAH hN',cQ,Int.emod_eq_of_lt (by omega) (by omega)]),hb1⟩
  go_enter Tryz.func84,Tryz.ntmps84;go_wp2_with fail;refine (aFH A _ c zs _ w hr rfl (by omega)).mono ?_;rintro e w1 ⟨A1,n1,c1,rfl,hown,hb1⟩;go_wp2_with fail;have hz:=Lib.hid hown.rd.1;rw [show ((N:Int)/128)=((N/128:Nat):Int) from by omega];refine (IH.out A1 _ c1 _ (N/128) w1 hown.rd.2.2 (by rw [hz.out];simp) (by simp [cQ];omega) (by have h:=HN.out;rw [Nat.pow_succ] at h;omega) (by omega)).mono ?_;rintro e w2 ⟨A2,n2,c2,rfl,hown2,hb2⟩;go_wp2;go_ret;refine ⟨A2,n2,c2,rfl,(hown2.less hb1.size).cast ?_,hb1.trans (hb2.mono hb1.size)⟩;rw [aDT hN'];simp [cQ]
  congr 3;omega
theorem anR (A:Option Addr)(n c:Nat)(zs:List Int)(m:Int)(w:World)(hr:Rd w w.heap.size A (cb .u8 zs))(hn:n=zs.length)(hl:zs.length≤100000000)(hm:m≤9223372036854775807):
 Calls Tryz.prog 84 #[.slice A n c,.int .i64 m] w (kG w 5 (cb .u8 (zs++aC m))):=by
 by_cases h0:m<0
 ·subst hn;have hs:Hid (aC m=[0]):=by
   unfold Hid aC;rw [show m.toNat=0 from by omega,aAH (by omega)];rfl
  go_enter Tryz.func84,Tryz.ntmps84;go_wp2_with fail;refine (aFH A _ c zs _ w hr rfl (by omega)).mono ?_;rintro e w1 ⟨A1,n1,c1,rfl,hown,hb1⟩;go_wp2;go_ret;exact ⟨A1,n1,c1,rfl,hown.cast (by rw [hs.out];rfl),hb1⟩
 obtain ⟨N,rfl⟩:=Int.eq_ofNat_of_zero_le (show 0≤m by omega);refine at1 8 A n c zs N w hr hn (by omega) ?_ (by omega);have h2:128^(8+1)=9223372036854775808:=by decide
 omega
theorem asP (A:Option Addr)(n c:Nat)(zs:List Int)(s:ByteArray)(w:World)(hr:Rd w w.heap.size A (cb .u8 zs))(hn:n=zs.length)(hl:zs.length≤100000000)(hs:s.size≤100000000):
 Calls Tryz.prog 88 #[.slice A n c,.string s] w (kG w 5 (cb .u8 (zs++aY s))):=by
 subst hn;go_enter Tryz.func88,Tryz.ntmps88;go_wp2_with fail;refine (anR A _ c zs _ w hr rfl hl (by omega)).mono ?_;rintro e w1 ⟨A1,n1,c1,rfl,hown,hb1⟩;have hsl:=aVD (s.size:Int) (by omega);go_wp2_with (first
  | (with_reducible refine arK Tryz.underlying9 Tryz.underlying29 Tryz.underlying5 rfl _ rfl rfl ?_;intro A2 c2 w2 hr2 hb2;have hb12:=hb1.trans (hb2.mono hb1.size);have hb:=hb12.size)
  | (at_builtin;refine rD rE rfl _ _ rfl rfl (hown.below hb2) rfl hr2 (by simp [Lib.strCells_length]) (Lib.strCells_oneCell _) (by simp [Lib.strCells_length];omega) (by simp [Lib.strCells_length];omega) hb ?_;intro A3 n3 c3 w3 hown3 hg3))
 go_ret;exact ⟨A3,n3,c3,rfl,hown3.cast (by rw [aY,amO,←List.append_assoc,←tP]),pF hb12 hg3 (hown.below hb2) (Nat.le_refl _) hb⟩
theorem asR (A L:Option Addr)(n c m d:Nat)(zs ls:List Int)(w:World)(hr:Rd w w.heap.size A (cb .u8 zs))(hn:n=zs.length)(hl:zs.length≤100000000)(hL:Rd w w.heap.size L (cb .i64 ls))(hm:m=ls.length)(hs:ls.length≤1000000):
 Calls Tryz.prog 89 #[.slice A n c,.slice L m d] w (kG w 5 (cb .u8 (zs++cZ ls))):=by
 subst hn;subst hm
 go_enter Tryz.func89,Tryz.ntmps89;go_wp2_with fail;refine (anR A _ c zs _ w hr rfl (by omega) (by omega)).mono ?_;rintro e w1 ⟨A1,n1,c1,rfl,hown,hb1⟩;have hsl:=aVD (ls.length:Int) (by omega);go_wp2_with fail;go_loopw [5,6] (fun s i w2=>∃ (k:Nat) (A2:Option Addr) (n2 c2:Nat),k≤ls.length∧i=.int .i64 k∧s=.slice A2 n2 c2∧bA w2 w.heap.size 5 (.slice A2 n2 c2) (cb .u8 ((zs++aC ls.length)++(ls.take k).flatMap kD))∧Below w.heap.size w w2) (fun _ i _=>ls.length-(intOf i).toNat)
 case atStart=>exact ⟨0,A1,n1,c1,by omega,rfl,rfl,by simpa using hown,hb1⟩
 case round=>
  obtain ⟨k,A2,n2,c2,hk,rfl,rfl,hown2,hbel⟩:=hrel;have hb:=hbel.size;by_cases hlt:k<ls.length
  ·obtain ⟨b,o,rfl,_,hc⟩:=(hL.below hbel).num hlt;have hlen:Hid (((ls.take k).flatMap kD).length=2*k):=by unfold Hid;rw [amQ,List.length_take];omega
   have hz:=Lib.hid hown2.rd.1;go_wp2_with (go_at_call 151;refine (atZ A2 _ c2 _ _ wr hown2.rd.2.2 (by rw [hz.out];simp) (by simp [hlen.out];omega)).mono ?_;rintro e w3 ⟨A3,n3,c3,rfl,hown3,hb3⟩);go_roundw
   case rel=>exact ⟨k+1,A3,n3,c3,by omega,by go_num,rfl,by rw [amR _ _ hlt,←List.append_assoc];exact hown3.less hb,hbel.trans (hb3.mono hb)⟩
   case measure=>simp [intOf];omega
  obtain rfl:k=ls.length:=by omega
  go_wp2;go_ret;exact ⟨A2,n2,c2,rfl,by rw [cZ,←List.append_assoc];rw [List.take_length] at hown2;exact hown2,hbel⟩
end Go.Proofs.YtgajclaoaphgoaaGreatDoor
