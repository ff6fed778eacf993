/- Parts of the proof of a law of this seat: rules and contracts; no conditions. -/
import Derived.Test.YtgajclaoaphgoaaGreatDoorWireP
import Derived.Test.YtgajclaoaphgoaaGreatDoorOd
import Derived.Test.YtgajclaoaphgoaaGreatDoorProg
import Derived.KernelRfl
import Derived.Outline
import Derived.Laws.RangeAny
import Derived.Laws.RangeString
import Derived.Test.YtgajclaoaphgoaaGreatDoorMore
set_option maxHeartbeats 6400000
set_option maxRecDepth 100000
set_option linter.unusedVariables false
set_option linter.unusedSimpArgs false
namespace Go.Proofs.YtgajclaoaphgoaaGreatDoor
abbrev lX:ByteArray:=⟨#[48,49,50,51,52,53,54,55,56,57,46,44,33,63,39,34,45,58,59,40,41,47,38,42,43,61,37,35,36,10,60]⟩
def nA:List Int:=[48,49,50,51,52,53,54,55,56,57,46,44,33,63,39,34,45,58,59,40,41,47,38,42,43,61,37,35,36,10,60]
theorem aZ1 (k:Nat)(h:k<31):(lX[k]'h).toNat=nA.getD k 0∧(lX[k]'h).toNat<128:=by
 have:∀ r:Fin 31,((lX[r.val]'r.2).toNat:Int)=nA.getD r.val 0∧(lX[r.val]'r.2).toNat<128:=by decide
 exact this ⟨k,h⟩
def oC (c:Int):Option Nat:=nA.idxOf? c
theorem aXC (k:Nat)(h:k<31):oC (nA.getD k 0)=some k:=by
 have:∀ r:Fin 31,oC (nA.getD r.val 0)=some r.val:=by decide
 exact this ⟨k,h⟩
theorem aXD (c:Int)(h:∀ k,k<31→nA.getD k 0≠c):oC c=none:=by
 unfold oC;rw [List.idxOf?_eq_none_iff];intro hm;obtain ⟨k,hk,he⟩:=List.mem_iff_getElem.1 hm;exact h k hk (by simp only [List.getD,List.getElem?_eq_getElem hk,Option.getD_some];exact he)
def cS (c:Int):List Int:=
 if c=32 then [0] else if 97≤c∧c≤122 then [c-96] else if 65≤c∧c≤90 then [27,c-64] else
 match oC c with
 | some i=>[28,i]
 | none=>if c<32∨126<c then [] else [29,c/16,c%16]
def kN (c:Int):List Int:=
 if c=32 then [0] else if 97≤c∧c≤122 then [c-96] else if 65≤c∧c≤90 then [27,c-64] else
 match oC c with
 | some i=>[28,i]
 | none=>[29,c/16,c%16]
theorem aMO (c:Int)(h:97≤c)(h':c≤122):cS c=[c-96]:=by
 unfold cS;rw [if_neg (by omega),if_pos ⟨h,h'⟩]
theorem aMP (c:Int)(h:65≤c)(h':c≤90):cS c=[27,c-64]:=by
 unfold cS;rw [if_neg (by omega),if_neg (by omega),if_pos ⟨h,h'⟩]
theorem aMQ (c:Int)(h0:c≠32)(h1:¬ (97≤c∧c≤122))(h2:¬ (65≤c∧c≤90))(k:Nat)(h:oC c=some k):cS c=[28,(k:Int)]:=by
 unfold cS;rw [if_neg h0,if_neg h1,if_neg h2,h]
theorem aXE (c:Int)(h0:c≠32)(h1:¬ (97≤c∧c≤122))(h2:¬ (65≤c∧c≤90))(h:oC c=none)(h3:c<32∨126<c):cS c=[]:=by
 unfold cS;rw [if_neg h0,if_neg h1,if_neg h2,h];simp [h3]
theorem aMR (c:Int)(h0:c≠32)(h1:¬ (97≤c∧c≤122))(h2:¬ (65≤c∧c≤90))(h:oC c=none)(h3:¬ (c<32∨126<c)):cS c=[29,c/16,c%16]:=by
 unfold cS;rw [if_neg h0,if_neg h1,if_neg h2,h];simp only [if_neg h3]
theorem aB0 (c:Int):(cS c).length≤3:=by
 unfold cS;split
 ·simp
 split
 ·simp
 split
 ·simp
 split
 ·simp
 split<;>simp
theorem am5 (c:Int):(kN c).length≤3:=by
 unfold kN;split
 ·simp
 split
 ·simp
 split
 ·simp
 split<;>simp
theorem ap1 (c:Int)(h:eZ c=true):kN c=cS c:=by
 by_cases h0:c=10
 ·subst h0;decide
 have h1:32≤c∧c≤126:=by simpa [eZ,h0] using h
 unfold kN cS;simp only [if_neg (show ¬ (c<32∨126<c) by omega)]
def bC (l:List Int):List Int:=l.flatMap cS
theorem aMI (l:List Int)(c:Int):bC (l++[c])=bC l++cS c:=by simp [bC]
theorem aF8 (l:List Int):(bC l).length≤3*l.length:=by
 induction l with
 | nil=>simp [bC]
 | cons a l ih=>
  have:=aB0 a;simp only [bC,List.flatMap_cons,List.length_append,List.length_cons] at *;omega
def jF (l:List Int):List Int × Int:=if cN l=true then (bC l,0) else ([],13)
open Go.RowKit
def jD (bs:List Int)(i:Nat):Int:=bs.getD (i/8) 0/2^(7-i%8)%2
def fJ (n:Int):List Int:=[n/16%2,n/8%2,n/4%2,n/2%2,n%2]
def iF (l:List Int)(i:Nat):Int:=
 128*l.getD (8*i) 0+64*l.getD (8*i+1) 0+32*l.getD (8*i+2) 0+16*l.getD (8*i+3) 0+8*l.getD (8*i+4) 0+4*l.getD (8*i+5) 0+2*l.getD (8*i+6) 0+l.getD (8*i+7) 0
def kT (l:List Int):List Int:=(List.range ((l.length+7)/8)).map (iF l)
def lF (l:List Int):List Int:=l.flatMap fun n=>fJ (n%32)
def fW (l:List Int):List Int:=kT (lF l++fJ 31)
def jE (bs:List Int)(t:Nat):Int:=16*jD bs t+8*jD bs (t+1)+4*jD bs (t+2)+2*jD bs (t+3)+jD bs (t+4)
def sF (bs:List Int)(t:Nat)(out:List Int):List Int × Int:=
 if (t-1)/8+1<bs.length then ([],3) else if bs.getD ((t-1)/8) 0*2^(t-8*((t-1)/8))%256≠0 then ([],4) else (out,0)
def lU (bs:List Int)(k:Nat):List Int:=(List.range k).map fun i=>jE bs (5*i)
def gD (bs:List Int):List Int × Int:=
 match (List.range (8*bs.length/5)).find? (fun j=>jE bs (5*j)==31) with
 | none=>([],2)
 | some j=>sF bs (5*j+5) (lU bs j)
def jN (l:List Int):Prop:=∀ x∈l,x=0∨x=1
theorem jN.getD {l:List Int}(h:jN l)(i:Nat):l.getD i 0=0∨l.getD i 0=1:=by
 by_cases hi:i<l.length
 ·simp only [List.getD,List.getElem?_eq_getElem hi,Option.getD_some];exact h _ (List.getElem_mem hi)
 simp [List.getD,List.getElem?_eq_none (Nat.le_of_not_lt hi)]
theorem jN.append {l m:List Int}(h:jN l)(k:jN m):jN (l++m):=fun x hx=>by
 rcases List.mem_append.1 hx with hx|hx
 ·exact h x hx
 exact k x hx
theorem jN.take {l:List Int}(h:jN l)(n:Nat):jN (l.take n):=fun x hx=>h x (List.mem_of_mem_take hx)
theorem aL5 (n:Int):jN (fJ n):=by
 intro x hx;simp only [fJ,List.mem_cons,List.not_mem_nil,or_false] at hx;omega
theorem aVX (l:List Int):jN (lF l):=by
 intro x hx;obtain ⟨n,_,h⟩:=List.mem_flatMap.1 hx;exact aL5 _ x h
theorem aF0 (l:List Int):(lF l).length=5*l.length:=by
 induction l with
 | nil=>rfl
 | cons a l ih=>
  rw [lF,List.flatMap_cons,List.length_append];have:(l.flatMap fun n=>fJ (n%32)).length=5*l.length:=ih;rw [this,List.length_cons];simp [fJ];omega
theorem aVY (l:List Int)(k:Nat)(h:k<l.length):lF (l.take (k+1))=lF (l.take k)++fJ (l[k]%32):=by
 rw [List.take_succ_eq_append_getElem h,lF,lF,List.flatMap_append];simp
theorem aVZ (n:Int)(h0:0≤n)(h1:n<32)(k:Nat)(h:k<5)(h':k<(fJ n).length):(fJ n)[k]=n/2^(4-k)%2:=by
 match k,h with
 | 0,_=>rfl
 | 1,_=>rfl
 | 2,_=>rfl
 | 3,_=>simp [fJ]
 | 4,_=>simp [fJ]
theorem rC (l m:List Int)(i:Nat)(h:i<l.length):(l++m).getD i 0=l.getD i 0:=by
 simp [List.getD,List.getElem?_append_left h]
theorem aV0 (l:List Int)(b:Int):(l++[b]).getD l.length 0=b:=by simp [List.getD]
theorem lV (l:List Int)(i:Nat)(h:l.length≤i):l.getD i 0=0:=by simp [List.getD,List.getElem?_eq_none h]
theorem aV1 (l:List Int)(b:Int)(i:Nat)(h:l.length<i):(l++[b]).getD i 0=0:=lV _ _ (by simp;omega)
theorem aV2 (l m:List Int)(i:Nat)(h:8*i+7<l.length):iF (l++m) i=iF l i:=by
 simp only [iF,rC _ _ _ (show 8*i<l.length by omega),rC _ _ _ (show 8*i+1<l.length by omega),rC _ _ _ (show 8*i+2<l.length by omega),rC _ _ _ (show 8*i+3<l.length by omega),
  rC _ _ _ (show 8*i+4<l.length by omega),rC _ _ _ (show 8*i+5<l.length by omega),rC _ _ _ (show 8*i+6<l.length by omega),rC _ _ _ (show 8*i+7<l.length by omega)]
theorem aV3 (l:List Int)(b:Int)(i:Nat):(l++[b]).getD i 0=l.getD i 0+(if i=l.length then b else 0):=by
 rcases Nat.lt_trichotomy i l.length with h|h|h
 ·rw [rC _ _ _ h,if_neg (by omega)];omega
 ·subst h;rw [aV0,lV _ _ (Nat.le_refl _),if_pos rfl];omega
 rw [aV1 _ _ _ h,lV _ _ (by omega),if_neg (by omega)];rfl
theorem aV4 (l:List Int)(b:Int):iF (l++[b]) (l.length/8)=iF l (l.length/8)+b*2^(7-l.length%8):=by
 simp only [iF,aV3];have h:l.length%8<8:=Nat.mod_lt _ (by omega);have e:l.length=8*(l.length/8)+l.length%8:=by omega
 generalize l.length/8=q at *;generalize l.length%8=r at *;generalize hL:l.length=L at *;subst e
 match r,h with
 | 0,_=>simp;omega
 | 1,_=>simp;omega
 | 2,_=>simp;omega
 | 3,_=>simp;omega
 | 4,_=>simp;omega
 | 5,_=>simp;omega
 | 6,_=>simp;omega
 | 7,_=>simp;omega
def pD (l:List Int):List Int:=if l.length%8=0 then kT l++[0] else kT l
theorem sG (l:List Int):(kT l).length=(l.length+7)/8:=by simp [kT]
theorem aF1 (l:List Int):(pD l).length=l.length/8+1:=by
 unfold pD;split
 ·rw [List.length_append,sG];simp;omega
 rw [sG];omega
theorem zC (l:List Int)(i:Nat)(h:i<(kT l).length):(kT l)[i]=iF l i:=by simp [kT]
theorem aL6 (l:List Int)(i:Nat)(h:l.length≤8*i):iF l i=0:=by
 simp only [iF,lV _ _ (show l.length≤8*i by omega),lV _ _ (show l.length≤8*i+1 by omega),lV _ _ (show l.length≤8*i+2 by omega),lV _ _ (show l.length≤8*i+3 by omega),lV _ _ (show l.length≤8*i+4 by omega),lV _ _ (show l.length≤8*i+5 by omega),lV _ _ (show l.length≤8*i+6 by omega),lV _ _ (show l.length≤8*i+7 by omega)];rfl
theorem aV5 (l:List Int)(i:Nat)(h:i<(pD l).length):(pD l)[i]=iF l i:=by
 have hl:=aF1 l;by_cases h8:l.length%8=0
 ·simp only [pD,if_pos h8] at h ⊢;rw [List.getElem_append];split
  ·exact zC l i _
  rw [sG] at *;rw [aL6 l i (by omega)];simp
 simp only [pD,if_neg h8] at h ⊢;exact zC l i _
theorem aV6 (l:List Int)(b:Int):kT (l++[b])=(pD l).set (l.length/8) (iF l (l.length/8)+b*2^(7-l.length%8)):=by
 refine List.ext_getElem (by rw [List.length_set,aF1,sG];simp;omega) fun i h1 h2=>?_;rw [zC,List.getElem_set];rw [List.length_set,aF1] at h2;split
 ·rename_i h;rw [←h,aV4]
 rw [aV5,aV2 _ _ _ (by omega)]
theorem aV7 (l:List Int)(hb:jN l):0≤iF l (l.length/8)∧iF l (l.length/8)<256∧iF l (l.length/8)%2^(8-l.length%8)=0:=by
 have g:=hb.getD;have h:l.length%8<8:=Nat.mod_lt _ (by omega);have hge:=lV l;have e:l.length=8*(l.length/8)+l.length%8:=by omega
 simp only [iF];generalize l.length/8=q at *;generalize l.length%8=r at *;have g0:=g (8*q);have g1:=g (8*q+1);have g2:=g (8*q+2);have g3:=g (8*q+3);have g4:=g (8*q+4);have g5:=g (8*q+5);have g6:=g (8*q+6);have g7:=g (8*q+7)
 have z:∀ i,r≤i→l.getD (8*q+i) 0=0:=fun i hi=>hge _ (by omega);have z0:=z 0;have z1:=z 1;have z2:=z 2;have z3:=z 3;have z4:=z 4;have z5:=z 5;have z6:=z 6;have z7:=z 7
 rw [Nat.add_zero] at z0;generalize l.getD (8*q) 0=a0 at *;generalize l.getD (8*q+1) 0=a1 at *;generalize l.getD (8*q+2) 0=a2 at *;generalize l.getD (8*q+3) 0=a3 at *;generalize l.getD (8*q+4) 0=a4 at *;generalize l.getD (8*q+5) 0=a5 at *;generalize l.getD (8*q+6) 0=a6 at *;generalize l.getD (8*q+7) 0=a7 at *;clear z g hge hb e
 match r,h with
 | 0,_=>simp at *;omega
 | 1,_=>simp at *;omega
 | 2,_=>simp at *;omega
 | 3,_=>simp at *;omega
 | 4,_=>simp at *;omega
 | 5,_=>simp at *;omega
 | 6,_=>simp at *;omega
 | 7,_=>simp at *;omega
theorem aL7 (bs:List Int)(i:Nat):jD bs i=0∨jD bs i=1:=by unfold jD;omega
def pE (bs:List Int)(t:Nat):Nat→Int
 | 0=>0
 | k+1=>2*pE bs t k+jD bs (t+k)
theorem aL8 (bs:List Int)(t:Nat):pE bs t 5=jE bs t:=by
 simp only [pE,jE,Nat.add_zero];omega
theorem aF2 (bs:List Int)(t k:Nat):0≤pE bs t k∧pE bs t k<2^k:=by
 induction k with
 | zero=>simp [pE]
 | succ k ih=>
  have:=aL7 bs (t+k);rw [pE,Int.pow_succ];omega
theorem aL9 (bs:List Int)(t k:Nat)(h:k≤5):pE bs t k<32:=by
 have h1:=(aF2 bs t k).2;have h2:(2:Int)^k≤2^5:=by exact_mod_cast Nat.pow_le_pow_right (by omega) h
 omega
theorem aMA (bs:List Int)(t:Nat):0≤jE bs t∧jE bs t<32:=by
 rw [←aL8];exact ⟨(aF2 bs t 5).1,aL9 bs t 5 (by omega)⟩
theorem aMB (n:Int)(k:Nat)(hk:k≤60)(h:n%18446744073709551616=n%18446744073709551616):bits .and .i64 n ((2^k-1:Nat):Int)=n%2^k:=by
 have hp:2^k≤2^60:=Nat.pow_le_pow_right (by omega) hk;have hp1:1≤2^k:=Nat.one_le_two_pow;have h60:2^60=1152921504606846976:=by decide
 show IntKind.i64.wrap ((BitVec.ofInt 64 n&&& BitVec.ofInt 64 ((2^k-1:Nat):Int)).toNat:Int)=_;rw [BitVec.toNat_and,aF3 (2^k-1) (by omega),Nat.and_two_pow_sub_one_eq_mod,BitVec.toNat_ofInt,IntKind.wrap_i64];have h64:((2^64:Nat):Int)=18446744073709551616:=by decide
 rw [h64];have hd:(2^k)∣18446744073709551616:=by
  have e:(18446744073709551616:Nat)=2^64:=by decide
  rw [e];exact Nat.pow_dvd_pow 2 (by omega)
 have hN:((n%18446744073709551616).toNat%2^k:Nat)=(((n%18446744073709551616)%((2^k:Nat):Int)):Int):=by
  rw [Int.natCast_emod,Int.toNat_of_nonneg (by omega)]
 have hlt:(n%18446744073709551616).toNat%2^k<2^k:=Nat.mod_lt _ (by omega);have hm:n%18446744073709551616%((2^k:Nat):Int)=n%((2^k:Nat):Int):=Int.emod_emod_of_dvd _ (Int.natCast_dvd_natCast.2 hd:((2^k:Nat):Int)∣((18446744073709551616:Nat):Int));rw [hm] at hN;have hc:((2^k:Nat):Int)=2^k:=by rw [Int.natCast_pow];rfl
 rw [hc] at hN;omega
theorem aV8 (n:Int):bits .and .i64 n 31=n%32:=aMB n 5 (by omega) rfl
theorem aV9 (n:Int):bits .and .i64 n 1=n%2:=aMB n 1 (by omega) rfl
theorem aWA (m:Int)(h0:0≤m)(h1:m<256):bits .and .u8 m 1=m%2:=aWB (P:=fun m=>bits .and .u8 m 1=m%2) (by decide +kernel) m h0 h1
theorem aWC (x:Int)(h0:0≤x)(h1:x<256)(r:Nat)(hr:r<8)(hx:x%2^(8-r)=0)(b:Int)(hb:b=0∨b=1):bits .or .u8 x (b%256*2^(7-r)%256)=x+b*2^(7-r):=by
 have key:∀ (y:Fin 256) (s:Fin 8),(y.val:Int)%2^(8-s.val)=0→(bits .or .u8 (y.val:Int) (0%256*2^(7-s.val)%256)=(y.val:Int)+0*2^(7-s.val))∧(bits .or .u8 (y.val:Int) (1%256*2^(7-s.val)%256)=(y.val:Int)+1*2^(7-s.val)):=by decide +kernel
 have:=key ⟨x.toNat,by omega⟩ ⟨r,hr⟩ (by simpa [Int.toNat_of_nonneg h0] using hx);simp only [Int.toNat_of_nonneg h0] at this;rcases hb with rfl|rfl
 ·exact this.1
 exact this.2
open Go.RowKit Go.IntWalk
theorem aXF:(Tryz.prog.info? 3).map (fun i=>(i.zero,i.size,i.bytes))=some (some (.int .i64 0),1,8):=by kernel_rfl
theorem aMH:Elem Tryz.prog 23 3 (.int .i64 0) 8:=⟨Tryz.underlying23,info_parts aXF,rfl⟩
def aZ2 (c:Int):Int:=match oC c with|some i=>i|none=>-1
theorem aoB (m:Int)(w:World)(h0:0≤m)(h1:m<256):Calls Tryz.prog 282 #[.int .u8 m] w fun e w'=>e=.returned (.int .i64 (aZ2 m))∧w=w':=by
 go_enter Tryz.func282,Tryz.ntmps282;go_wp2;go_loop [3] (fun i=>∃ k:Nat,k≤31∧i=.int .i64 k∧Hid (∀ j,j<k→nA.getD j 0≠m)) (fun i=>31-(intOf i).toNat)
 case atStart=>exact ⟨0,by omega,rfl,by unfold Hid;intro j hj;omega⟩
 case round=>
  obtain ⟨k,hk,rfl,hq⟩:=hrel;by_cases hlt:k<31
  ·have hat:=Lib.hid (aZ1 k hlt);have hbd:=(aZ1 k hlt).2;by_cases he:nA.getD k 0=m
   ·have hb:(((lX[k]'hlt).toNat:Int)==m)=true:=by rw [beq_iff_eq,(aZ1 k hlt).1,he]
    have hfin:Hid (aZ2 m=(k:Int)):=by unfold Hid aZ2;rw [←he,aXC k hlt]
    clear he;go_wp2;go_ret;exact ⟨by rw [hfin.out];rfl,rfl⟩
   have hb:(((lX[k]'hlt).toNat:Int)==m)=false:=by rw [beq_eq_false_iff_ne,(aZ1 k hlt).1];exact he
   have hq2:Hid (∀ j,j<k+1→nA.getD j 0≠m):=by
    unfold Hid;intro j hj;rcases Nat.lt_or_ge j k with h|h
    ·exact hq.out j h
    obtain rfl:j=k:=by omega
    exact he
   clear he;go_wp2;go_round
   case rel=>exact ⟨k+1,by omega,by go_num,hq2⟩
   case measure=>simp [intOf];omega
  obtain rfl:k=31:=by omega
  have hfin:Hid (aZ2 m=-1):=by unfold Hid aZ2;rw [aXD m hq.out]
  go_wp2;go_ret;exact ⟨by rw [hfin.out];rfl,rfl⟩
theorem aGF {w:World}{e:TypeId}(cs:List Value)(n:Nat)(xs:List Value)(hn:n=cs.length)(hx:cs=xs)(hm:n≤9223372036854775807):kG w e xs (.returned (.slice (some ⟨w.heap.size,0,none⟩) n n)) (w.alloc (.cells cs.toArray e)):=by
 subst hx;exact ⟨_,_,_,rfl,bA.new w cs e n hn (Nat.le_refl _) hm,(Below.refl _ _).alloc (Nat.le_refl _) _⟩
theorem aGG {w W:World}{e:TypeId}(hb:Below w.heap.size w W)(cs:List Value)(n:Nat)(xs:List Value)(hn:n=cs.length)(hx:cs=xs)(hm:n≤9223372036854775807):kG w e xs (.returned (.slice (some ⟨W.heap.size,0,none⟩) n n)) (W.alloc (.cells cs.toArray e)):=by
 subst hx;exact ⟨_,_,_,rfl,bA.new W cs e n hn hb.size hm,hb.alloc hb.size _⟩
theorem aM5 {w W:World}{e:TypeId}(hb:Below w.heap.size w W)(xs:List Value)(hx:[]=xs):kG w e xs (.returned (.slice none 0 0)) W:=by
 subst hx;exact ⟨_,_,_,rfl,bA.nil _ _ _,hb⟩
theorem adY (w:World)(s:ByteArray)(k:Nat):Below w.heap.size w (w.iter s k):=(Below.refl _ _).alloc (Nat.le_refl _) _
theorem aoC (m:Int)(w:World)(h0:0≤m)(h1:m<256):Calls Tryz.prog 253 #[.int .u8 m] w (kG w 3 (cb .i64 (kN m))):=by
 by_cases c0:m=32
 ·subst c0;go_enter Tryz.func253,Tryz.ntmps253;go_wp2;go_ret;exact aGF [.int .i64 0] 1 _ rfl rfl (by omega)
 have e0:(m==32)=false:=by simpa using c0
 by_cases c1:97≤m∧m≤122
 ·have hfin:Hid (kN m=[m-96]):=by unfold Hid kN;rw [if_neg c0,if_pos c1]
  obtain ⟨a1,a2⟩:=c1;clear c0;go_enter Tryz.func253,Tryz.ntmps253;go_wp2;go_ret;exact aGF [.int .i64 (m-97+1)] 1 _ rfl (by rw [hfin.out];simp [cb];omega) (by omega)
 by_cases c2:65≤m∧m≤90
 ·have hfin:Hid (kN m=[27,m-64]):=by unfold Hid kN;rw [if_neg c0,if_neg c1,if_pos c2]
  obtain ⟨a1,a2⟩:=c2;clear c0 c1;go_enter Tryz.func253,Tryz.ntmps253;go_wp2;go_ret;exact aGF [.int .i64 27,.int .i64 (m-65+1)] 2 _ rfl (by rw [hfin.out];simp [cb];omega) (by omega)
 cases hs:oC m with
 | some k=>
  have hp:Hid (aZ2 m=(k:Int)):=by unfold Hid aZ2;rw [hs]
  have hfin:Hid (kN m=[28,(k:Int)]):=by unfold Hid kN;rw [if_neg c0,if_neg c1,if_neg c2,hs]
  have hC:=Lib.hid (fun w=>aoB m w h0 h1);have hk:(0:Int)≤(k:Int):=by omega
  have q:(32<m∧m<65)∨(90<m∧m<97)∨(122<m)∨m<32:=by omega
  clear hs c0 c1 c2;rcases q with ⟨q1,q2⟩|⟨q1,q2⟩|q1|q1
  all_goals
   go_enter Tryz.func253,Tryz.ntmps253;go_wp2_with fail;refine (hC.out w).mono ?_;rw [hp.out];rintro e w' ⟨rfl,rfl⟩;go_wp2_with fail;refine (hC.out w).mono ?_;rw [hp.out];rintro e w' ⟨rfl,rfl⟩;go_wp2;go_ret;exact aGF [.int .i64 28,.int .i64 k] 2 _ rfl (by rw [hfin.out];simp [cb]) (by omega)
 | none=>
  have hp:Hid (aZ2 m=-1):=by unfold Hid aZ2;rw [hs]
  have hfin:Hid (kN m=[29,m/16,m%16]):=by unfold Hid kN;rw [if_neg c0,if_neg c1,if_neg c2,hs]
  have hC:=Lib.hid (fun w=>aoB m w h0 h1);have q:(32<m∧m<65)∨(90<m∧m<97)∨(122<m)∨m<32:=by omega
  clear hs c0 c1 c2;rcases q with ⟨q1,q2⟩|⟨q1,q2⟩|q1|q1
  all_goals
   go_enter Tryz.func253,Tryz.ntmps253;go_wp2_with fail;refine (hC.out w).mono ?_;rw [hp.out];rintro e w' ⟨rfl,rfl⟩;go_wp2;go_ret;exact aGF [.int .i64 29,.int .i64 (m/16),.int .i64 (m%16)] 3 _ rfl (by rw [hfin.out];simp [cb]) (by omega)
theorem aMJ (m:Int)(w:World)(h0:0≤m)(h1:m<256):Calls Tryz.prog 196 #[.int .u8 m] w (kG w 3 (cb .i64 (cS m))):=by
 by_cases c0:m=32
 ·subst c0;go_enter Tryz.func196,Tryz.ntmps196;go_wp2;go_ret;exact aGF [.int .i64 0] 1 _ rfl rfl (by omega)
 have e0:(m==32)=false:=by simpa using c0
 by_cases c1:97≤m∧m≤122
 ·have hfin:Hid (cS m=[m-96]):=aMO m c1.1 c1.2;obtain ⟨a1,a2⟩:=c1;clear c0;go_enter Tryz.func196,Tryz.ntmps196;go_wp2;go_ret;exact aGF [.int .i64 (m-97+1)] 1 _ rfl (by rw [hfin.out];simp [cb];omega) (by omega)
 by_cases c2:65≤m∧m≤90
 ·have hfin:Hid (cS m=[27,m-64]):=aMP m c2.1 c2.2;obtain ⟨a1,a2⟩:=c2;clear c0 c1;go_enter Tryz.func196,Tryz.ntmps196;go_wp2;go_ret;exact aGF [.int .i64 27,.int .i64 (m-65+1)] 2 _ rfl (by rw [hfin.out];simp [cb];omega) (by omega)
 have HS:=Lib.hid (aMQ m c0 c1 c2);have HN:=Lib.hid (aXE m c0 c1 c2);have HW:=Lib.hid (aMR m c0 c1 c2);have q:(32<m∧m<65)∨(90<m∧m<97)∨(122<m)∨m<32:=by omega
 clear c0 c1 c2;rcases q with ⟨q1,q2⟩|⟨q1,q2⟩|q1|q1
 all_goals
  go_enter Tryz.func196,Tryz.ntmps196;go_wp2_with fail;go_loopw [3] (fun _ w'=>∃ k:Nat,k≤31∧w'=w.iter lX k∧Hid (∀ j,j<k→nA.getD j 0≠m)) (fun _ w'=>31-w'.iterPos w.heap.size)
  case atStart=>exact ⟨0,by omega,rfl,by unfold Hid;intro j hj;omega⟩
  case round=>
   obtain ⟨k,hk,rfl,hq⟩:=hrel;by_cases hlt:k<31
   ·have hat:=Lib.hid (aZ1 k hlt);have hbd:=(aZ1 k hlt).2;have hnx:∀ ty,(Instr.next (.pointer (some ⟨w.heap.size,0,none⟩)) true ty).run Tryz.prog (w.iter lX k)=_:=fun ty=>run_next_ascii w lX k ty hlt hbd;by_cases he:nA.getD k 0=m
    ·have hb:(((lX[k]'hlt).toNat:Int)==m)=true:=by rw [beq_iff_eq,(aZ1 k hlt).1,he]
     have hfin:Hid (cS m=[28,(k:Int)]):=HS.out k (by rw [←he];exact aXC k hlt);clear he;go_wp2;go_ret;exact aGG (adY w lX (k+1)) [.int .i64 28,.int .i64 k] 2 _ rfl (by rw [hfin.out];simp [cb]) (by omega)
    have hb:(((lX[k]'hlt).toNat:Int)==m)=false:=by rw [beq_eq_false_iff_ne,(aZ1 k hlt).1];exact he
    have hq2:Hid (∀ j,j<k+1→nA.getD j 0≠m):=by
     unfold Hid;intro j hj;rcases Nat.lt_or_ge j k with h|h
     ·exact hq.out j h
     obtain rfl:j=k:=by omega
     exact he
    clear he;go_wp2;go_roundw
    case rel=>exact ⟨k+1,by omega,rfl,hq2⟩
    case measure=>simp;omega
   obtain rfl:k=31:=by omega
   have hnx:∀ ty,(Instr.next (.pointer (some ⟨w.heap.size,0,none⟩)) true ty).run Tryz.prog (w.iter lX 31)=_:=fun ty=>run_next_end w lX 31 ty (by decide);have hno:=Lib.hid (aXD m hq.out)
   first
    | (
     have hfin:=Lib.hid (HN.out hno.out (by omega));go_wp2;go_ret;exact aM5 (adY w lX 31) _ (by rw [hfin.out];rfl))
    | (
     have hfin:=Lib.hid (HW.out hno.out (by omega));go_wp2;go_ret;exact aGG (adY w lX 31) [.int .i64 29,.int .i64 (m/16),.int .i64 (m%16)] 3 _ rfl (by rw [hfin.out];simp [cb]) (by omega))
    | (
     by_cases c4:126<m
     ·have hfin:=Lib.hid (HN.out hno.out (by omega));go_wp2;go_ret;exact aM5 (adY w lX 31) _ (by rw [hfin.out];rfl)
     have hfin:=Lib.hid (HW.out hno.out (by omega));go_wp2;go_ret;exact aGG (adY w lX 31) [.int .i64 29,.int .i64 (m/16),.int .i64 (m%16)] 3 _ rfl (by rw [hfin.out];simp [cb]) (by omega))
theorem aWD (k:Nat):(0:Int)<2^k:=by
 have:0<2^k:=Nat.two_pow_pos k;have h:((2^k:Nat):Int)=2^k:=by rw [Int.natCast_pow];rfl
 omega
theorem aWE (x:Int)(h0:0≤x)(h1:x<256)(k:Nat):0≤x/2^k∧x/2^k<256:=by
 have:=Int.ediv_le_self (2^k) h0;exact ⟨Int.ediv_nonneg h0 (by have:=aWD k;omega),by omega⟩
theorem aF4 (A:Option Addr)(n c:Nat)(bs:List Int)(t:Nat)(w:World)(B:Nat)(hr:Rd w B A (cb .u8 bs))(hn:n=bs.length)(hb:dC bs)(ht:t+5≤8*n)(hl:n≤100000000):
 Calls Tryz.prog 283 #[.slice A n c,.int .i64 t] w fun e w'=>e=.returned (.int .i64 (jE bs t))∧w=w':=by
 subst hn;go_enter Tryz.func283,Tryz.ntmps283;go_wp2;go_loop [5,6] (fun v i=>∃ k:Nat,k≤5∧i=.int .i64 ((t+k:Nat):Int)∧v=.int .i64 (pE bs t k)) (fun _ i=>t+5-(intOf i).toNat)
 case atStart=>exact ⟨0,by omega,rfl,rfl⟩
 case round=>
  obtain ⟨k,hk,rfl,rfl⟩:=hrel;have hx0:=(aF2 bs t k).1;have hx2:=aL9 bs t k hk;by_cases hlt:k<5
  ·obtain ⟨b,o,rfl,_,hc⟩:=hr.num (i:=(t+k)/8) (by omega);have g1:((t+k:Nat):Int)/8<(bs.length:Int):=by omega
   have hy:=Lib.hid (hb.get (i:=(t+k)/8) (by omega));have hfin:Hid (jD bs (t+k)=bs[(t+k)/8]/2^(7-(t+k)%8)%2):=by
    unfold Hid jD;simp only [List.getD,List.getElem?_eq_getElem (show (t+k)/8<bs.length by omega),Option.getD_some]
   have hand:Hid (wrap64 (2*pE bs t k+wrap64 (bits .and .u8 (bs[(t+k)/8]/2^(7-(t+k)%8)) 1))=pE bs t (k+1)):=by
    unfold Hid;obtain ⟨a,b⟩:=aWE _ hy.out.1 hy.out.2 (7-(t+k)%8);have h01:=aL7 bs (t+k);rw [aWA _ a b,←hfin.out,wrap64_in (jD bs (t+k)) ⟨by omega,by omega⟩,wrap64_in _ ⟨by omega,by omega⟩];rfl
   go_wp2;go_round
   case rel=>exact ⟨k+1,by omega,by go_num,by rw [hand.out]⟩
   case measure=>simp [intOf];omega
  obtain rfl:k=5:=by omega
  have h5:Hid (pE bs t 5=jE bs t):=aL8 bs t;go_wp2;go_ret;exact ⟨by rw [h5.out];rfl,rfl⟩
structure Put (w:World) (base Bo Bb:Nat) (l:List Int):Prop where
 out:∃ A n c,bI w Bo 29 [.slice A n c]∧bA w base 5 (.slice A n c) (cb .u8 (kT l))
 num:bI w Bb 3 [.int .i64 (l.length:Int)]
 bit:jN l
 lo:base≤Bo∧base≤Bb
 len:l.length≤100000000
theorem aMC {w3:World}{base g m3 c3 Bo Bb:Nat}{L:List Int}{b z:Int}{x:Value}(hown:bA w3 base 5 (.slice (some ⟨g,0,none⟩) m3 c3) (cb .u8 (pD L)))(ho:bI w3 Bo 29 [.slice (some ⟨g,0,none⟩) m3 c3])(hn:bI w3 Bb 3 [x])
 (hm:m3-1=L.length/8) (hz:z=iF L (L.length/8)+b*2^(7-L.length%8)) (hbit:jN (L++[b])) (hlo:base≤Bo∧base≤Bb) (hlen:L.length<100000000):
 Put ((w3.setCell ⟨g,m3-1,none⟩ (.int .u8 z)).setCell ⟨Bb,0,none⟩ (.int .i64 ((L.length:Int)+1))).drew base Bo Bb (L++[b]):=by
 have n1:=sH hown ho (by decide);have n2:=sH hown hn (by decide);have n3:Bo≠Bb:=ho.ne_ hn (by decide);have e1:g≠Bo:=fun h=>n1 (by rw [h];rfl);have e2:g≠Bb:=fun h=>n2 (by rw [h];rfl);refine ⟨⟨_,m3,c3,bI.drew ((ho.far (p:=⟨g,m3-1,none⟩) e1.symm _).far (p:=⟨Bb,0,none⟩) n3 _),?_⟩,?_,hbit,hlo,by simp;omega⟩
 ·rw [aV6,←aWF,←hz,←hm];exact bA.drew ((hown.set_ (m3-1) (.int .u8 z)).far (p:=⟨Bb,0,none⟩) n2 _)
 have:=((hn.far (p:=⟨g,m3-1,none⟩) e2.symm (.int .u8 z)).set_ 0 (.int .i64 ((L.length:Int)+1))).drew;simpa using this
theorem aMD (L:List Int)(hb:jN L)(n k:Nat):bits .or .u8 (iF L (L.length/8)) (bits .and .i64 ((n:Int)/2^(4-k)) 1%256*2^(7-L.length%8)%256)=iF L (L.length/8)+((n:Int)/2^(4-k)%2)*2^(7-L.length%8):=by
 obtain ⟨h0,h1,h2⟩:=aV7 L hb;rw [aV9];exact aWC _ h0 h1 _ (Nat.mod_lt _ (by omega)) h2 _ (by omega)
theorem aME (l:List Int)(n:Nat)(hn:n<32)(k:Nat)(hk:k<5):l++(fJ (n:Int)).take (k+1)=(l++(fJ (n:Int)).take k)++[(n:Int)/2^(4-k)%2]:=by
 have hl:(fJ (n:Int)).length=5:=rfl;rw [List.take_succ_eq_append_getElem (by omega),aVZ _ (by omega) (by omega) k hk,List.append_assoc]
theorem aWG (n:Nat)(hn:n<32)(w:World)(base Bo Bb:Nat)(l:List Int)(hP:Put w base Bo Bb l)(hbw:base≤w.heap.size)(hl:l.length≤90000000):
 Calls Tryz.prog 135 #[.int .i64 n,.pointer (some ⟨Bb,0,none⟩),.pointer (some ⟨Bo,0,none⟩)] w fun e w'=>e=.returned (.tuple #[])∧Put w' base Bo Bb (l++fJ n)∧Below base w w':=by
 go_enter Tryz.func135,Tryz.ntmps135;go_wp2;go_loopw [4] (fun i w2=>∃ k:Nat,k≤5∧i=.int .i64 (4-(k:Int))∧Put w2 base Bo Bb (l++(fJ n).take k)∧Below base w w2) (fun i _=>(intOf i+1).toNat)
 case atStart=>exact ⟨0,by omega,rfl,by simpa using hP,Below.refl _ _⟩
 case round=>
  obtain ⟨k,hk,rfl,hP2,hbel⟩:=hrel;by_cases hlt:k<5
  ·obtain ⟨⟨A,m,c,ho,hown⟩,hnum,hbit,hlo,hlen⟩:=hP2;obtain ⟨cn,fn⟩:=hnum.one;obtain ⟨co,fo⟩:=ho.one;generalize hL:l++(fJ n).take k=L at *;have HL:=Lib.hid hL;clear hL;by_cases h8:L.length%8=0
   ·have e8:(((L.length:Int)%8)==0)=true:=by simp;omega
    have HM:=Lib.hid hown.rd.1;have hpl:=Lib.hid (sG L);have n1:=sH hown ho (by decide);have n2:=sH hown hnum (by decide);have n3:Bo≠Bb:=ho.ne_ hnum (by decide);have n3':=n3.symm;have hbo:=ho.alloc (.cells #[.int .u8 0] 5);have hbn:=hnum.alloc (.cells #[.int .u8 0] 5);have hlt1:=hbo.lt
    go_wp2_with (at_builtin;refine rD rE rfl _ _ rfl rfl (hown.alloc _) rfl (Rd.new _ [_] _) rfl (vH _ _) (by rw [mL,hpl.out];simp;omega) (by rw [mL,hpl.out];simp;omega) (by have:=hbel.size;simp;omega) ?_;intro A3 m3 c3 w3 hown3 hg3;have hg4:(wr.alloc (.cells #[.int .u8 0] 5)).grownBy w3 (Value.slice A m c).ownBlock:=hg3;have hbo3:=hbo.grown hg4 n1;have hbn3:=hbn.grown hg4 n2;have HM3:=Lib.hid hown3.rd.1;have hm3:0<m3:=(by rw [HM3.out];simp);obtain ⟨g,rfl,hg0,hg1⟩:=hown3.addr hm3;obtain ⟨q0,q1⟩:=hbo3.one;have q2:=hbn3.one;have n4:g≠Bo:=(fun h=>sH hown3 hbo3 (by decide) (by rw [←h];rfl));have n5:g≠Bb:=(fun h=>sH hown3 hbn3 (by decide) (by rw [←h];rfl));have n4':=n4.symm;have n5':=n5.symm;obtain ⟨q3,q4⟩:=q2;have q5:w3.cell? ⟨g,m3-1,none⟩=some (.int .u8 0):=(by have hl:=HM3.out;rw [hown3.cellAt (m3-1) (by omega)];congr 1;rw [List.getElem_append_right (by rw [hl];simp)];simp [hl]);have q6:=hown3.free (m3-1);have hmb:m3≤20000000:=(by rw [HM3.out,List.length_append,mL,hpl.out];simp;omega))
    go_region;go_wp2;have hX:pD L=kT L++[0]:=by unfold pD;rw [if_pos h8]
    have hbt:iF L (L.length/8)=0:=aL6 L _ (by omega);have hpb:=aMD L hbit n k;rw [hbt,h8] at hpb;have hlen8:L.length<100000000:=by
     rw [←HL.out,List.length_append,List.length_take];omega
    go_roundw
    case rel=>
     refine ⟨k+1,by omega,by go_num,?_,?_⟩
     ·rw [aME l n hn k hlt,HL.out];refine aMC (c3:=c3) (x:=.int .i64 L.length) (hown:=?_) (ho:=?_) (hn:=hbn3.far (p:=⟨Bo,0,none⟩) n3' _) (by rw [HM3.out];simp [hpl.out];omega) (by rw [hbt,h8];exact hpb) (hbit.append (by intro x hx;simp at hx;omega)) hlo hlen8
      ·rw [hX,tP];exact hown3.far (p:=⟨Bo,0,none⟩) (sH hown3 hbo3 (by decide)) _
      exact (hbo3.set_ 0 _)
     exact ((((pF (hbel.alloc (Nat.le_trans hbw hbel.size) _) hg4 (hown.alloc _) (Nat.le_refl _) (by have:=hbel.size;simp;omega)).setCell (p:=⟨Bo,0,none⟩) hlo.1 _).setCell (p:=⟨g,m3-1,none⟩) hg0 _).setCell (p:=⟨Bb,0,none⟩) hlo.2 _).drew
    case measure=>simp [intOf];omega
   have e8:(((L.length:Int)%8)==0)=false:=by simp;omega
   have HM:=Lib.hid hown.rd.1;have hpl:=Lib.hid (sG L);have hm0:0<m:=by rw [HM.out,mL,hpl.out];omega
   have hmb:m≤20000000:=by rw [HM.out,mL,hpl.out];omega
   obtain ⟨g,rfl,hg0,hg1⟩:=hown.addr hm0;have n1:=sH hown ho (by decide);have n2:=sH hown hnum (by decide);have n3:Bo≠Bb:=ho.ne_ hnum (by decide);have n3':=n3.symm;have n4:g≠Bo:=fun h=>n1 (by rw [←h];rfl);have n5:g≠Bb:=fun h=>n2 (by rw [←h];rfl);have n4':=n4.symm;have n5':=n5.symm;have hX:Hid (pD L=kT L):=by unfold Hid pD;rw [if_neg h8]
   have hml:Hid (m-1=L.length/8):=by unfold Hid;rw [HM.out,mL,hpl.out];omega
   have q5:wr.cell? ⟨g,m-1,none⟩=some (.int .u8 (iF L (L.length/8))):=by
    have hl:m-1<(cb .u8 (kT L)).length:=by rw [←HM.out];omega
    rw [hown.cellAt (m-1) hl,aWH,zC,hml.out]
   have q6:=hown.free (m-1);have hpb:=Lib.hid (aMD L hbit n k);have hlen8:L.length<100000000:=by
    rw [←HL.out,List.length_append,List.length_take];omega
   go_wp2_with fail;go_region;go_wp2;go_roundw
   case rel=>
    refine ⟨k+1,by omega,by go_num,?_,?_⟩
    ·rw [aME l n hn k hlt,HL.out];exact aMC (x:=.int .i64 L.length) (by rw [hX.out];exact hown) ho hnum hml.out hpb.out (hbit.append (by intro x hx;simp at hx;omega)) hlo hlen8
    exact ((hbel.setCell (p:=⟨g,m-1,none⟩) hg0 _).setCell (p:=⟨Bb,0,none⟩) hlo.2 _).drew
   case measure=>simp [intOf];omega
  obtain rfl:k=5:=by omega
  have hall:(fJ (n:Int)).take 5=fJ (n:Int):=rfl;rw [hall] at hP2;go_wp2;go_end0;exact ⟨rfl,hP2,hbel⟩
theorem aMF (x:Int)(h0:0≤x)(h1:x<32)(w:World)(base Bo Bb:Nat)(l:List Int)(hP:Put w base Bo Bb l)(hbw:base≤w.heap.size)(hl:l.length≤90000000):
 Calls Tryz.prog 135 #[.int .i64 x,.pointer (some ⟨Bb,0,none⟩),.pointer (some ⟨Bo,0,none⟩)] w fun e w'=>e=.returned (.tuple #[])∧Put w' base Bo Bb (l++fJ x)∧Below base w w':=by
 obtain ⟨n,rfl⟩:=Int.eq_ofNat_of_zero_le h0;exact aWG n (by omega) w base Bo Bb l hP hbw hl
theorem aWI (A:Option Addr)(n c:Nat)(ls:List Int)(w:World)(hr:Rd w w.heap.size A (cb .i64 ls))(hn:n=ls.length)(hl:n≤10000000):
 Calls Tryz.prog 66 #[.slice A n c] w (kG w 5 (cb .u8 (fW ls))):=by
 have HN:=Lib.hid hn;clear hn;go_enter Tryz.func66,Tryz.ntmps66;go_wp2_with fail;go_loopw [11] (fun i w2=>∃ k:Nat,k≤n∧i=.int .i64 k∧Put w2 w.heap.size w.heap.size (w.heap.size+1) (lF (ls.take k))∧Below w.heap.size w w2) (fun i _=>n-(intOf i).toNat)
 case atStart=>
  have h0:bI (w.alloc (.cells #[.slice none 0 0] 29)) w.heap.size 29 [.slice none 0 0]:=bI.new _ _ _;have h1:bI ((w.alloc (.cells #[.slice none 0 0] 29)).alloc (.cells #[.int .i64 0] 3)) (w.heap.size+1) 3 [.int .i64 0]:=by
   simpa using bI.new (w.alloc (.cells #[.slice none 0 0] 29)) 3 [.int .i64 0]
  exact ⟨0,by omega,rfl,⟨⟨none,0,0,h0.alloc _,(bA.nil _ _ _).cast (by simp [lF,kT,cb])⟩,h1,(fun x hx=>absurd hx (by simp [lF])),⟨Nat.le_refl _,by omega⟩,by simp [lF]⟩,((Below.refl _ _).alloc (Nat.le_refl _) _).alloc (by simp) _⟩
 case round=>
  obtain ⟨k,hk,rfl,hP,hbel⟩:=hrel;have hb:=hbel.size;have hbl:=Lib.hid (aF0 (ls.take k));by_cases hlt:k<n
  ·have hkl:k<ls.length:=by have:=HN.out;omega
   have hs:=Lib.hid (aVY ls k hkl);obtain ⟨b,o,rfl,_,hc⟩:=(hr.below hbel).num (i:=k) hkl;go_wp2_with fail;rw [aV8];refine (aMF (ls[k]%32) (by omega) (by omega) wr w.heap.size _ _ _ hP hb (by rw [hbl.out,List.length_take];omega)).mono ?_;rw [←hs.out];rintro e w3 ⟨rfl,hP3,hb3⟩;go_wp2_with fail;go_roundw
   case rel=>exact ⟨k+1,by omega,by go_num,hP3,hbel.trans hb3⟩
   case measure=>simp [intOf];omega
  obtain rfl:k=n:=by omega
  have hall:ls.take k=ls:=List.take_of_length_le (by have:=HN.out;omega);rw [hall] at hP hbl;clear hall;go_wp2_with fail;refine (aMF 31 (by omega) (by omega) wr w.heap.size _ _ _ hP hb (by rw [hbl.out,←HN.out];omega)).mono ?_;rintro e w3 ⟨rfl,hP3,hb3⟩;obtain ⟨⟨A3,n3,c3,ho3,hown3⟩,_,_,_,_⟩:=hP3;obtain ⟨q1,q2⟩:=ho3.one;go_wp2;go_ret;exact ⟨A3,n3,c3,rfl,hown3,hbel.trans hb3⟩
theorem aWJ (bs:List Int)(k:Nat):lU bs (k+1)=lU bs k++[jE bs (5*k)]:=by
 simp [lU,List.range_succ]
theorem aMG (bs:List Int)(k:Nat):(lU bs k).length=k:=by simp [lU]
theorem aWK (bs:List Int)(h:∀ j,j<8*bs.length/5→jE bs (5*j)≠31):gD bs=([],2):=by
 unfold gD;have:(List.range (8*bs.length/5)).find? (fun j=>jE bs (5*j)==31)=none:=by
  rw [List.find?_eq_none];intro x hx;have:=h x (List.mem_range.1 hx);simpa using this
 rw [this]
theorem aWL (bs:List Int)(k:Nat)(hk:k<8*bs.length/5)(h:∀ j,j<k→jE bs (5*j)≠31)(he:jE bs (5*k)=31):gD bs=sF bs (5*k+5) (lU bs k):=by
 unfold gD;have:(List.range (8*bs.length/5)).find? (fun j=>jE bs (5*j)==31)=some k:=by
  rw [List.find?_range_eq_some];refine ⟨by simpa using he,List.mem_range.2 hk,fun j hj=>?_⟩;simpa using h j hj
 rw [this]
theorem aWM (A:Option Addr)(n c:Nat)(bs:List Int)(w:World)(hr:Rd w w.heap.size A (cb .u8 bs))(hn:n=bs.length)(hb:dC bs)(hl:n≤10000000):
 Calls Tryz.prog 257 #[.slice A n c] w fun e w'=>∃ A' n' c',e=.returned (.tuple #[.slice A' n' c',.int .i64 (gD bs).2])∧bA w' w.heap.size 3 (.slice A' n' c') (cb .i64 (gD bs).1)∧Below w.heap.size w w':=by
 have HN:=Lib.hid hn;clear hn;go_enter Tryz.func257,Tryz.ntmps257;go_wp2_with fail;go_loopw [4,5,6] (fun o i _ w2=>∃ (k:Nat) (A2:Option Addr) (n2 c2:Nat),5*k≤8*n∧i=.int .i64 ((5*k:Nat):Int)∧o=.slice A2 n2 c2∧bA w2 w.heap.size 3 (.slice A2 n2 c2) (cb .i64 (lU bs k))∧Below w.heap.size w w2∧Hid (∀ j,j<k→jE bs (5*j)≠31)) (fun _ i _ _=>8*n-(intOf i).toNat)
 case atStart=>exact ⟨0,none,0,0,by omega,rfl,rfl,bA.nil _ _ _,Below.refl _ _,by unfold Hid;intro j hj;omega⟩
 case round=>
  obtain ⟨k,A2,n2,c2,hk,rfl,rfl,hown,hbel,hq⟩:=hrel;have hbs:=hbel.size;have hol:=Lib.hid (aMG bs k);by_cases hlt:5*k+5≤8*n
  ·have hcd:=aMA bs (5*k);by_cases h31:jE bs (5*k)=31
   ·have hk5:k<8*bs.length/5:=by have:=HN.out;omega
    have hsm:=Lib.hid (aWL bs k hk5 hq.out h31);have H31:=Lib.hid h31;have hlast:(5*k+4)/8<bs.length:=by have:=HN.out;omega
    obtain ⟨b,o,rfl,_,hc⟩:=(hr.below hbel).num (i:=(5*k+4)/8) hlast;have hgd:Hid (bs.getD ((5*k+4)/8) 0=bs[(5*k+4)/8]):=by
     unfold Hid;simp only [List.getD,List.getElem?_eq_getElem hlast,Option.getD_some]
    have g1:(5*(k:Int)+5-1)/8<(n:Int):=by have:=HN.out;omega
    clear h31;by_cases hn1:(5*k+4)/8+1<n
    ·have hfin:Hid (gD bs=([],3)):=by
      unfold Hid;rw [hsm.out];unfold sF;rw [if_pos (by have:=HN.out;omega)]
     go_wp2_with fail;refine (aF4 _ n c bs (5*k) wr w.heap.size (hr.below hbel) HN.out hb hlt (by omega)).mono ?_;rw [H31.out];rintro e w' ⟨rfl,rfl⟩;go_wp2;go_ret2;exact ⟨none,0,0,by rw [hfin.out];rfl,by rw [hfin.out];exact bA.nil _ _ _,hbel⟩
    have g2:¬ ((5*(k:Int)+5-1)/8+1<(n:Int)):=by omega
    have HE:Hid (gD bs=if bs[(5*k+4)/8]*2^(5*k+5-8*((5*k+4)/8))%256≠0 then ([],4) else (lU bs k,0)):=by
     unfold Hid;rw [hsm.out];unfold sF;rw [if_neg (by have:=HN.out;omega),show 5*k+5-1=5*k+4 from rfl,hgd.out]
    go_wp2_with fail;refine (aF4 _ n c bs (5*k) wr w.heap.size (hr.below hbel) HN.out hb hlt (by omega)).mono ?_;rw [H31.out];rintro e w' ⟨rfl,rfl⟩;go_wp2
    ·have hh:(bs[(5*k+4)/8]*2^(5*k+5-8*((5*k+4)/8))%256 !=0)=true:=by assumption
     have hfin:gD bs=([],4):=by rw [HE.out,if_pos (by simpa using hh)]
     go_ret2;exact ⟨none,0,0,by rw [hfin];rfl,by rw [hfin];exact bA.nil _ _ _,hbel⟩
    have hh:(bs[(5*k+4)/8]*2^(5*k+5-8*((5*k+4)/8))%256 !=0)=false:=by assumption
    have hfin:gD bs=(lU bs k,0):=by rw [HE.out,if_neg (by simpa using hh)]
    go_ret2;exact ⟨A2,n2,c2,by rw [hfin];rfl,by rw [hfin];exact hown,hbel⟩
   have e31:(jE bs (5*k)==31)=false:=by simpa using h31
   have hq2:Hid (∀ j,j<k+1→jE bs (5*j)≠31):=by
    unfold Hid;intro j hj;rcases Nat.lt_or_ge j k with h|h
    ·exact hq.out j h
    obtain rfl:j=k:=by omega
    exact h31
   have hsu:=Lib.hid (aWJ bs k);clear h31;go_wp2_with fail;refine (aF4 A n c bs (5*k) wr w.heap.size (hr.below hbel) HN.out hb hlt (by omega)).mono ?_;rintro e w' ⟨rfl,rfl⟩;go_wp2_with (at_builtin;refine rD aMH rfl _ _ rfl rfl (hown.alloc _) rfl (Rd.new _ [_] _) rfl (vH _ _) (by simp [hol.out];omega) (by simp [hol.out];omega) (by simp;omega) ?_;intro A3 n3 c3 w3 hown3 hg3);go_roundw
   case rel=>exact ⟨k+1,A3,n3,c3,by omega,by go_num,rfl,by rw [hsu.out,tP];exact hown3,pF (hbel.alloc hbs _) hg3 (hown.alloc _) (Nat.le_refl _) (by simp;omega),hq2⟩
   case measure=>simp [intOf];omega
  have hfin:Hid (gD bs=([],2)):=aWK bs fun j hj=>hq.out j (by have:=HN.out;omega);go_wp2;go_ret2;exact ⟨none,0,0,by rw [hfin.out];rfl,by rw [hfin.out];exact bA.nil _ _ _,hbel⟩
end Go.Proofs.YtgajclaoaphgoaaGreatDoor
