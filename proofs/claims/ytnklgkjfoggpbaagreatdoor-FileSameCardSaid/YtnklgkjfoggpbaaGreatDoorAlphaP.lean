/- Parts of the proof of a law of this seat: rules and contracts; no conditions. -/
import Derived.Test.YtnklgkjfoggpbaaGreatDoorWireSpec
import Derived.Test.YtnklgkjfoggpbaaGreatDoorAlphaC
import Derived.Outline
import Derived.Test.YtnklgkjfoggpbaaGreatDoorTexts
import Derived.BigFrame
set_option maxHeartbeats 6400000
set_option maxRecDepth 100000
set_option linter.unusedVariables false
set_option linter.unusedSimpArgs false
namespace Go.Proofs.YtnklgkjfoggpbaaGreatDoor
open Go.RowKit
theorem jN.bd {l:List Int}(h:jN l)(i:Nat):0≤l.getD i 0∧l.getD i 0≤1:=by have:=h.getD i;omega
theorem aWT (l:List Int)(h:jN l)(q r:Nat)(hr:r<8):iF l q/2^(7-r)%2=l.getD (8*q+r) 0:=by
 have g0:=h.bd (8*q);have g1:=h.bd (8*q+1);have g2:=h.bd (8*q+2);have g3:=h.bd (8*q+3);have g4:=h.bd (8*q+4);have g5:=h.bd (8*q+5);have g6:=h.bd (8*q+6);have g7:=h.bd (8*q+7)
 unfold iF
 match r,hr with
 | 0,_=>simp only [Nat.add_zero];omega
 | 1,_=>simp only [show (7-1:Nat)=6 from rfl];omega
 | 2,_=>simp only [show (7-2:Nat)=5 from rfl];omega
 | 3,_=>simp only [show (7-3:Nat)=4 from rfl];omega
 | 4,_=>simp only [show (7-4:Nat)=3 from rfl];omega
 | 5,_=>simp only [show (7-5:Nat)=2 from rfl];omega
 | 6,_=>simp only [show (7-6:Nat)=1 from rfl];omega
 | 7,_=>simp only [show (7-7:Nat)=0 from rfl];omega
theorem aWU (l:List Int)(h:jN l)(q:Nat):0≤iF l q∧iF l q<256:=by
 have g0:=h.bd (8*q);have g1:=h.bd (8*q+1);have g2:=h.bd (8*q+2);have g3:=h.bd (8*q+3);have g4:=h.bd (8*q+4);have g5:=h.bd (8*q+5);have g6:=h.bd (8*q+6);have g7:=h.bd (8*q+7)
 unfold iF
 omega
theorem aWV (l:List Int)(h:jN l):dC (kT l):=by
 intro x hx
 obtain ⟨q,_,rfl⟩:=List.mem_map.1 hx
 exact aWU l h q
theorem aF9 (l:List Int)(h:jN l)(i:Nat):jD (kT l) i=l.getD i 0:=by
 unfold jD
 by_cases hi:i/8<(kT l).length
 ·simp only [List.getD,List.getElem?_eq_getElem hi,Option.getD_some]
  rw [zC,aWT l h _ _ (Nat.mod_lt _ (by omega)),show 8*(i/8)+i%8=i from by omega]
  rfl
 ·rw [sG] at hi
  rw [lV (kT l) _ (by rw [sG];omega),lV l i (by omega)]
  simp
theorem aWW (n:Int)(h0:0≤n)(h1:n<32):(fJ n).getD 0 0*16+(fJ n).getD 1 0*8+(fJ n).getD 2 0*4+(fJ n).getD 3 0*2+(fJ n).getD 4 0=n:=by
 simp [fJ];omega
theorem aWX (a:Int)(l:List Int):lF (a::l)=fJ (a%32)++lF l:=by simp [lF]
theorem xE (l m:List Int)(i:Nat)(h:l.length≤i):(l++m).getD i 0=m.getD (i-l.length) 0:=by
 simp [List.getD,List.getElem?_append_right h]
theorem aWY (l m:List Int)(j t:Nat)(hj:j<l.length)(ht:t<5):(lF l++m).getD (5*j+t) 0=(fJ (l[j]%32)).getD t 0:=by
 induction l generalizing j with
 | nil=>simp at hj
 | cons a l ih=>
  rw [aWX,List.append_assoc]
  match j,hj with
  | 0,_=>rw [rC _ _ _ (by simp [fJ];omega)];simp
  | j+1,hj=>
   rw [xE _ _ _ (by simp [fJ];omega)]
   have:=ih j (by simpa using hj)
   simp only [List.getElem_cons_succ]
   rw [←this]
   congr 1
   simp [fJ];omega
def sI (l:List Int):List Int:=lF l++fJ 31
theorem aB1 (l:List Int):jN (sI l):=(aVX l).append (aL5 31)
theorem aMK (l:List Int):(sI l).length=5*l.length+5:=by
 rw [sI,List.length_append,aF0];rfl
theorem aML (l:List Int):(fW l).length=(5*l.length+12)/8:=by
 have:=aMK l
 rw [fW,sG]
 unfold sI at this
 omega
theorem aMM (l:List Int):dC (fW l):=aWV _ (aB1 l)
theorem aMN (l:List Int)(j:Nat)(hj:j<l.length):jE (fW l) (5*j)=l[j]%32:=by
 have hp:∀ i,jD (fW l) i=(sI l).getD i 0:=aF9 _ (aB1 l)
 unfold jE
 simp only [hp]
 have e:=fun t ht=>aWY l (fJ 31) j t hj ht
 have e0:=e 0 (by omega);have e1:=e 1 (by omega);have e2:=e 2 (by omega);have e3:=e 3 (by omega);have e4:=e 4 (by omega)
 rw [Nat.add_zero] at e0
 unfold sI
 rw [e0,e1,e2,e3,e4]
 have:=aWW (l[j]%32) (by omega) (by omega)
 omega
theorem aWZ (l:List Int):jE (fW l) (5*l.length)=31:=by
 have hp:∀ i,jD (fW l) i=(sI l).getD i 0:=aF9 _ (aB1 l)
 unfold jE
 simp only [hp]
 unfold sI
 have hl:=aF0 l
 rw [xE _ _ _ (by omega),xE _ _ _ (by omega),xE _ _ _ (by omega),xE _ _ _ (by omega),xE _ _ _ (by omega),hl]
 simp only [Nat.sub_self,show 5*l.length+1-5*l.length=1 from by omega,show 5*l.length+2-5*l.length=2 from by omega,show 5*l.length+3-5*l.length=3 from by omega,show 5*l.length+4-5*l.length=4 from by omega]
 decide
theorem aW0 (x:Int)(h0:0≤x)(h1:x<256)(s:Nat)(hs:s≤8):x*2^s%256=0↔∀ j,s≤j→j<8→x/2^(7-j)%2=0:=by
 have key:∀ (y:Fin 256) (s:Fin 9),(y.val:Int)*2^s.val%256=0↔∀ j:Fin 8,s.val≤j.val→(y.val:Int)/2^(7-j.val)%2=0:=by decide +kernel
 have:=key ⟨x.toNat,by omega⟩ ⟨s,by omega⟩
 simp only [Int.toNat_of_nonneg h0] at this
 rw [this]
 exact ⟨fun h j h1 h2=>h ⟨j,h2⟩ h1,fun h j h1=>h j.val h1 j.2⟩
theorem aW1 (bs:List Int)(hb:dC bs)(t:Nat)(ht:0<t)(hl:t≤8*bs.length)(out:List Int):
 (bs.length=(t-1)/8+1∧(∀ j,t≤j→jD bs j=0)→sF bs t out=(out,0))∧((sF bs t out).2=0→bs.length=(t-1)/8+1∧(∀ j,t≤j→jD bs j=0)∧(sF bs t out).1=out):=by
 have hq:(t-1)/8<bs.length:=by omega
 have hx:=hb.get hq
 have hg:bs.getD ((t-1)/8) 0=bs[(t-1)/8]:=by simp only [List.getD,List.getElem?_eq_getElem hq,Option.getD_some]
 have htb:=aW0 _ hx.1 hx.2 (t-8*((t-1)/8)) (by omega)
 have key:bs.length=(t-1)/8+1→((∀ j,t≤j→jD bs j=0)↔bs[(t-1)/8]*2^(t-8*((t-1)/8))%256=0):=by
  intro hL
  rw [htb]
  constructor
  ·intro h j h1 h2
   have:=h (8*((t-1)/8)+j) (by omega)
   unfold jD at this
   rw [show (8*((t-1)/8)+j)/8=(t-1)/8 by omega,show (8*((t-1)/8)+j)%8=j by omega,hg] at this
   exact this
  ·intro h j h1
   by_cases h3:j<8*bs.length
   ·have:=h (j-8*((t-1)/8)) (by omega) (by omega)
    unfold jD
    rw [show j/8=(t-1)/8 by omega,show j%8=j-8*((t-1)/8) by omega,hg]
    exact this
   ·unfold jD
    rw [lV bs _ (by omega)]
    simp
 unfold sF
 rw [hg]
 constructor
 ·rintro ⟨hL,h0⟩
  rw [if_neg (by omega),if_neg (by simpa using (key hL).1 h0)]
 ·intro he
  by_cases c1:(t-1)/8+1<bs.length
  ·rw [if_pos c1] at he;simp at he
  ·rw [if_neg c1] at he ⊢
   have hL:bs.length=(t-1)/8+1:=by omega
   by_cases c2:bs[(t-1)/8]*2^(t-8*((t-1)/8))%256=0
   ·rw [if_neg (by simpa using c2)] at he ⊢
    exact ⟨hL,(key hL).2 c2,rfl⟩
   ·rw [if_pos c2] at he;simp at he
theorem aW2 (l:List Int)(h:∀ x∈l,0≤x∧x<31):gD (fW l)=(l,0):=by
 have hl:=aML l
 have hf:(List.range (8*(fW l).length/5)).find? (fun j=>jE (fW l) (5*j)==31)=some l.length:=by
  rw [List.find?_range_eq_some]
  refine ⟨by simpa using aWZ l,List.mem_range.2 (by omega),fun j hj=>?_⟩
  have h1:=h l[j] (List.getElem_mem hj)
  rw [aMN l j hj]
  simp;omega
 unfold gD
 rw [hf]
 have ho:lU (fW l) l.length=l:=by
  refine List.ext_getElem (by simp [lU]) fun j h1 h2=>?_
  have h3:=h l[j] (List.getElem_mem h2)
  simp only [lU,List.getElem_map,List.getElem_range]
  rw [aMN l j h2]
  omega
 simp only [ho]
 refine (aW1 (fW l) (aMM l) (5*l.length+5) (by omega) (by omega) l).1 ⟨by omega,fun j hj=>?_⟩
 have hp:jD (fW l) j=(sI l).getD j 0:=aF9 _ (aB1 l) j
 rw [hp,lV _ _ (by rw [aMK];omega)]
def gX (a b c:Int):Int × Nat:=
 if a=0 then (32,1) else if 1≤a∧a≤26 then (96+a,1) else if a=27∧1≤b∧b≤26 then (64+b,2) else
 if a=28∧0≤b∧b≤30 then (nA.getD b.toNat 0,2) else if a=29∧(0≤b∧b≤7)∧0≤c∧c≤15 then (16*b+c,3) else (0,0)
def gL (l:List Int):Int × Nat:=gX (l.getD 0 (-1)) (l.getD 1 (-1)) (l.getD 2 (-1))
theorem aW3 (c:Int)(k:Nat)(h:oC c=some k):k<31∧nA.getD k 0=c:=by
 unfold oC at h
 rw [List.idxOf?_eq_some_iff] at h
 obtain ⟨hk,he,_⟩:=h
 refine ⟨hk,?_⟩
 simp only [List.getD,List.getElem?_eq_getElem hk,Option.getD_some]
 simpa using he
theorem tQ (c:Int)(rest:List Int)(h:eZ c=true):gL (cS c++rest)=(c,(cS c).length):=by
 have hc:32≤c∧c≤126∨c=10:=by simpa [eZ] using h
 by_cases c0:c=32
 ·subst c0;rfl
 ·by_cases c1:97≤c∧c≤122
  ·rw [aMO c c1.1 c1.2]
   simp only [gL,gX,List.cons_append,List.getD_cons_zero,List.length_cons,List.length_nil]
   rw [if_neg (by omega),if_pos (by omega)]
   congr 1;omega
  ·by_cases c2:65≤c∧c≤90
   ·rw [aMP c c2.1 c2.2]
    simp only [gL,gX,List.cons_append,List.getD_cons_zero,List.getD_cons_succ,List.length_cons,List.length_nil]
    rw [if_neg (by omega),if_neg (by omega),if_pos (by refine ⟨by first|trivial|rfl,?_,?_⟩<;>omega)]
    congr 1;omega
   ·cases hs:oC c with
    | some k=>
     obtain ⟨hk,hg⟩:=aW3 c k hs
     rw [aMQ c c0 c1 c2 k hs]
     simp only [gL,gX,List.cons_append,List.getD_cons_zero,List.getD_cons_succ,List.length_cons,List.length_nil]
     rw [if_neg (by omega),if_neg (by omega),if_neg (fun h=>absurd h.1 (by decide)),if_pos (by refine ⟨by first|trivial|rfl,?_,?_⟩<;>omega),Int.toNat_natCast,hg]
    | none=>
     have h10:c≠10:=by rintro rfl;revert hs;decide
     rw [aMR c c0 c1 c2 hs (by omega)]
     simp only [gL,gX,List.cons_append,List.getD_cons_zero,List.getD_cons_succ,List.length_cons,List.length_nil]
     rw [if_neg (by omega),if_neg (by omega),if_neg (fun h=>absurd h.1 (by decide)),if_neg (fun h=>absurd h.1 (by decide)),if_pos (by refine ⟨by first|trivial|rfl,?_,?_⟩<;>omega)]
     congr 1;omega
theorem rF (c:Int)(h:eZ c=true):0<(cS c).length:=by
 rcases Nat.eq_zero_or_pos (cS c).length with h0|h0
 ·have h1:=tQ c [] h
  rw [List.eq_nil_of_length_eq_zero h0] at h1
  have:c=0:=by
   have:=congrArg Prod.fst h1
   simpa [gL,gX] using this.symm
  subst this
  revert h;decide
 ·exact h0
theorem aMS (l m:List Int)(hl:∀ c∈l,eZ c=true)(hm:∀ c∈m,eZ c=true)(h:bC l=bC m):l=m:=by
 induction l generalizing m with
 | nil=>
  cases m with
  | nil=>rfl
  | cons b m=>
   have:=rF b (hm b List.mem_cons_self)
   have e:=congrArg List.length h
   simp only [bC,List.flatMap_nil,List.flatMap_cons,List.length_append,List.length_nil] at e
   omega
 | cons a l ih=>
  cases m with
  | nil=>
   have:=rF a (hl a List.mem_cons_self)
   have e:=congrArg List.length h
   simp only [bC,List.flatMap_nil,List.flatMap_cons,List.length_append,List.length_nil] at e
   omega
  | cons b m=>
   have h':cS a++bC l=cS b++bC m:=h
   have e1:=tQ a (bC l) (hl a List.mem_cons_self)
   have e2:=tQ b (bC m) (hm b List.mem_cons_self)
   rw [h',e2] at e1
   obtain rfl:b=a:=congrArg Prod.fst e1
   rw [ih m (fun c hc=>hl c (List.mem_cons_of_mem _ hc)) (fun c hc=>hm c (List.mem_cons_of_mem _ hc)) (List.append_cancel_left h')]
open Go.RowKit Go.IntWalk
def jG (n lo hi:Int):Bool:=decide (lo≤n∧n≤hi)
theorem vI {n lo hi:Int}(h:lo≤n∧n≤hi):jG n lo hi=true:=by unfold jG;simpa using h
theorem nB {n lo hi:Int}(h:¬ (lo≤n∧n≤hi)):jG n lo hi=false:=by unfold jG;simpa using h
theorem kU (n lo hi:Int)(w:World):Calls Tryz.prog 219 #[.int .i64 n,.int .i64 lo,.int .i64 hi] w fun e w'=>e=.returned (.bool (jG n lo hi))∧w=w':=by
 by_cases h1:lo≤n
 ·by_cases h2:n≤hi
  ·have key:=Lib.hid (vI ⟨h1,h2⟩)
   go_enter Tryz.func219,Tryz.ntmps219
   go_wp2
   go_ret
   exact ⟨by rw [key.out];rfl,rfl⟩
  ·have key:=Lib.hid (nB (n:=n) (lo:=lo) (hi:=hi) (fun h=>h2 h.2))
   have h3:hi<n:=by omega
   go_enter Tryz.func219,Tryz.ntmps219
   go_wp2
   go_ret
   exact ⟨by rw [key.out];rfl,rfl⟩
 ·have key:=Lib.hid (nB (n:=n) (lo:=lo) (hi:=hi) (fun h=>h1 h.1))
  have h3:n<lo:=by omega
  go_enter Tryz.func219,Tryz.ntmps219
  go_wp2
  go_ret
  exact ⟨by rw [key.out];rfl,rfl⟩
theorem aW4 (i:Nat)(v:Int)(b:Nat)(A:Option Addr)(n c:Nat)(ls:List Int)(w:World)(hb:bI w b 25 [.slice A n c]){B:Nat}(hr:Rd w B A (cb .i64 ls))(hn:n=ls.length)(hi:i≤2)(hl:n≤1000000000)(hv:ls.getD i (-1)=v):
 Calls Tryz.prog 218 #[.int .i64 i,.pointer (some ⟨b,0,none⟩)] w fun e w'=>e=.returned (.int .i64 v)∧w=w':=by
 have HN:=Lib.hid hn
 have HV:=Lib.hid hv
 clear hn hv
 obtain ⟨q1,q2⟩:=hb.one
 by_cases h:i<n
 ·have hil:i<ls.length:=by have:=HN.out;omega
  obtain ⟨b',o,rfl,_,hc⟩:=hr.num hil
  have hfin:Hid (ls[i]=v):=by
   unfold Hid
   rw [←HV.out]
   simp only [List.getD,List.getElem?_eq_getElem hil,Option.getD_some]
  go_enter Tryz.func218,Tryz.ntmps218
  go_wp2
  go_ret
  exact ⟨aGA hfin.out,rfl⟩
 ·have hfin:Hid (-1=v):=by
   unfold Hid
   rw [←HV.out]
   simp [List.getD,List.getElem?_eq_none (show ls.length≤i by have:=HN.out;omega)]
  go_enter Tryz.func218,Tryz.ntmps218
  go_wp2
  go_ret
  exact ⟨aGA hfin.out,rfl⟩
theorem jH (i:Nat)(k v:Int)(b:Nat)(A:Option Addr)(n c:Nat)(ls:List Int)(w:World)(hb:bI w b 25 [.slice A n c]){B:Nat}(hr:Rd w B A (cb .i64 ls))(hn:n=ls.length)(hi:i≤2)(hl:n≤1000000000)(hv:ls.getD i (-1)=v)(hk:k=i):
 Calls Tryz.prog 218 #[.int .i64 k,.pointer (some ⟨b,0,none⟩)] w fun e w'=>e=.returned (.int .i64 v)∧w=w':=by
 subst hk;exact aW4 i v b A n c ls w hb hr hn hi hl hv
def aW5 (w:World)(r:Int × Nat)(e:Ending)(w':World):Prop:=e=.returned (.tuple #[.int .u8 r.1,.int .i64 r.2])∧Below w.heap.size w w'
theorem aMT (A:Option Addr)(n c:Nat)(ls:List Int)(w:World)(hr:Rd w w.heap.size A (cb .i64 ls))(hn:n=ls.length)(hl:n≤1000000000):
 Calls Tryz.prog 213 #[.slice A n c] w (aW5 w (gL ls)):=by
 obtain ⟨x,hx⟩:∃ x,ls.getD 0 (-1)=x:=⟨_,rfl⟩
 obtain ⟨y,hy⟩:∃ y,ls.getD 1 (-1)=y:=⟨_,rfl⟩
 obtain ⟨z,hz⟩:∃ z,ls.getD 2 (-1)=z:=⟨_,rfl⟩
 have hF:Hid (gL ls=gX x y z):=by unfold Hid gL;rw [hx,hy,hz]
 have hblk:bI (w.alloc (.cells #[.slice A n c] 25)) w.heap.size 25 [.slice A n c]:=bI.new _ _ _
 have hrd:=hr.alloc (Nat.le_refl _) (.cells #[.slice A n c] 25)
 have HX:=Lib.hid hx
 have HY:=Lib.hid hy
 have HZ:=Lib.hid hz
 have HN:=Lib.hid hn
 have hbel:Below w.heap.size w (w.alloc (.cells #[.slice A n c] 25)):=(Below.refl _ _).alloc (Nat.le_refl _) _
 clear hx hy hz hn
 by_cases c0:x=0
 ·have hfin:Hid (gX x y z=(32,1)):=by unfold Hid gX;rw [if_pos c0]
  have e0:(x==0)=true:=by simpa using c0
  have C0:=Lib.hid c0
  clear c0
  go_enter Tryz.func213,Tryz.ntmps213
  go_wp2_with fail
  refine (jH 0 0 x _ A n c ls _ hblk hrd HN.out (by omega) hl HX.out rfl).mono ?_
  rintro e w' ⟨rfl,rfl⟩
  go_wp2_with fail
  refine (jH 1 1 y _ A n c ls _ hblk hrd HN.out (by omega) hl HY.out rfl).mono ?_
  rintro e w' ⟨rfl,rfl⟩
  go_wp2_with fail
  go_ret2
  exact ⟨by rw [hF.out,hfin.out];rfl,hbel⟩
 ·by_cases c1:1≤x∧x≤26
  ·have hfin:Hid (gX x y z=(96+x,1)):=by unfold Hid gX;rw [if_neg (by omega),if_pos c1]
   have e0:(x==0)=false:=by simp;omega
   go_enter Tryz.func213,Tryz.ntmps213
   go_wp2_with fail
   refine (jH 0 0 x _ A n c ls _ hblk hrd HN.out (by omega) hl HX.out rfl).mono ?_
   rintro e w' ⟨rfl,rfl⟩
   go_wp2_with fail
   refine (jH 1 1 y _ A n c ls _ hblk hrd HN.out (by omega) hl HY.out rfl).mono ?_
   rintro e w' ⟨rfl,rfl⟩
   go_wp2_with fail
   refine (kU x 1 26 _).mono ?_
   rw [show jG x 1 26=true from vI (by omega)]
   rintro e w' ⟨rfl,rfl⟩
   go_wp2_with fail
   go_ret2
   exact ⟨by rw [hF.out,hfin.out];show _=Ending.returned (.tuple #[.int .u8 (96+x),.int .i64 1]);rw [show 96+x=97+x-1 from by omega];rfl,hbel⟩
  ·by_cases c2:x=27∧1≤y∧y≤26
   ·have hfin:Hid (gX x y z=(64+y,2)):=by unfold Hid gX;rw [if_neg (by omega),if_neg (by omega),if_pos c2]
    have e0:(x==0)=false:=by simp;omega
    have e27:(x==27)=true:=by simp;omega
    have g1:1≤y:=c2.2.1
    have g2:y≤26:=c2.2.2
    have G:=Lib.hid c2
    clear c2 c0 c1
    go_enter Tryz.func213,Tryz.ntmps213
    go_wp2_with fail
    refine (jH 0 0 x _ A n c ls _ hblk hrd HN.out (by omega) hl HX.out rfl).mono ?_
    rintro e w' ⟨rfl,rfl⟩
    go_wp2_with fail
    refine (jH 1 1 y _ A n c ls _ hblk hrd HN.out (by omega) hl HY.out rfl).mono ?_
    rintro e w' ⟨rfl,rfl⟩
    go_wp2_with fail
    refine (kU x 1 26 _).mono ?_
    rw [show jG x 1 26=false from nB (by have:=G.out;omega)]
    rintro e w' ⟨rfl,rfl⟩
    go_wp2_with fail
    refine (kU y 1 26 _).mono ?_
    rw [show jG y 1 26=true from vI (by omega)]
    rintro e w' ⟨rfl,rfl⟩
    go_wp2_with fail
    go_ret2
    exact ⟨by rw [hF.out,hfin.out];show _=Ending.returned (.tuple #[.int .u8 (64+y),.int .i64 2]);rw [show 64+y=65+y-1 from by omega];rfl,hbel⟩
   ·by_cases c3:x=28∧0≤y∧y≤30
    ·obtain ⟨c31,c32,c33⟩:=c3
     obtain ⟨q,rfl⟩:=Int.eq_ofNat_of_zero_le c32
     have hq:q<31:=by omega
     have hsg:=Lib.hid (zF q hq).1
     have G:=Lib.hid c31
     have hfin:Hid (gX x (q:Int) z=(nA.getD q 0,2)):=by unfold Hid gX;rw [if_neg (by omega),if_neg (by omega),if_neg (by omega),if_pos ⟨c31,by omega,by omega⟩,Int.toNat_natCast]
     have e0:(x==0)=false:=by simp;omega
     have e27:(x==27)=false:=by simp;omega
     have e28:(x==28)=true:=by simp;omega
     clear c31 c0 c1 c2
     go_enter Tryz.func213,Tryz.ntmps213
     go_wp2_with fail
     refine (jH 0 0 x _ A n c ls _ hblk hrd HN.out (by omega) hl HX.out rfl).mono ?_
     rintro e w' ⟨rfl,rfl⟩
     go_wp2_with fail
     refine (jH 1 1 (q:Int) _ A n c ls _ hblk hrd HN.out (by omega) hl HY.out rfl).mono ?_
     rintro e w' ⟨rfl,rfl⟩
     go_wp2_with fail
     refine (kU x 1 26 _).mono ?_
     rw [show jG x 1 26=false from nB (by have:=G.out;omega)]
     rintro e w' ⟨rfl,rfl⟩
     go_wp2_with fail
     refine (kU (q:Int) 0 30 _).mono ?_
     rw [show jG (q:Int) 0 30=true from vI (by omega)]
     rintro e w' ⟨rfl,rfl⟩
     go_wp2_with fail
     go_ret2
     exact ⟨by rw [hF.out,hfin.out];rw [←hsg.out];rfl,hbel⟩
    ·by_cases c4:x=29∧(0≤y∧y≤7)∧0≤z∧z≤15
     ·have g0:0≤y:=c4.2.1.1
      have g1:y≤7:=c4.2.1.2
      have g2:0≤z:=c4.2.2.1
      have g3:z≤15:=c4.2.2.2
      have G:=Lib.hid c4.1
      have hfin:Hid (gX x y z=(16*y+z,3)):=by unfold Hid gX;rw [if_neg (by omega),if_neg (by omega),if_neg (by omega),if_neg (by omega),if_pos c4]
      have e0:(x==0)=false:=by simp;omega
      have e27:(x==27)=false:=by simp;omega
      have e28:(x==28)=false:=by simp;omega
      have e29:(x==29)=true:=by simp;omega
      clear c4 c0 c1 c2 c3
      go_enter Tryz.func213,Tryz.ntmps213
      go_wp2_with fail
      refine (jH 0 0 x _ A n c ls _ hblk hrd HN.out (by omega) hl HX.out rfl).mono ?_
      rintro e w' ⟨rfl,rfl⟩
      go_wp2_with fail
      refine (jH 1 1 y _ A n c ls _ hblk hrd HN.out (by omega) hl HY.out rfl).mono ?_
      rintro e w' ⟨rfl,rfl⟩
      go_wp2_with fail
      refine (kU x 1 26 _).mono ?_
      rw [show jG x 1 26=false from nB (by have:=G.out;omega)]
      rintro e w' ⟨rfl,rfl⟩
      go_wp2_with fail
      refine (kU y 0 7 _).mono ?_
      rw [show jG y 0 7=true from vI (by omega)]
      rintro e w' ⟨rfl,rfl⟩
      go_wp2_with fail
      refine (jH 2 2 z _ A n c ls _ hblk hrd HN.out (by omega) hl HZ.out rfl).mono ?_
      rintro e w' ⟨rfl,rfl⟩
      go_wp2_with fail
      refine (kU z 0 15 _).mono ?_
      rw [show jG z 0 15=true from vI (by omega)]
      rintro e w' ⟨rfl,rfl⟩
      go_wp2_with fail
      refine (jH 2 2 z _ A n c ls _ hblk hrd HN.out (by omega) hl HZ.out rfl).mono ?_
      rintro e w' ⟨rfl,rfl⟩
      go_wp2_with fail
      go_ret2
      exact ⟨by rw [hF.out,hfin.out];rfl,hbel⟩
     ·rcases (show (x=27)∨(x=28)∨(x=29∧0≤y∧y≤7)∨(x=29∧¬ (0≤y∧y≤7))∨(x≠27∧x≠28∧x≠29) by omega) with d|d|d|d|d
      ·have hfin:Hid (gX x y z=(0,0)):=by unfold Hid gX;rw [if_neg c0,if_neg c1,if_neg c2,if_neg c3,if_neg c4]
       have e0:(x==0)=false:=by simp;omega
       have e27:(x==27)=true:=by simp;omega
       have e28:(x==28)=false:=by simp;omega
       have e29:(x==29)=false:=by simp;omega
       have G:=Lib.hid d
       have G1:=Lib.hid c1
       have G2:=Lib.hid c2
       have G3:=Lib.hid c3
       have G4:=Lib.hid c4
       clear d c0 c1 c2 c3 c4
       go_enter Tryz.func213,Tryz.ntmps213
       go_wp2_with fail
       refine (jH 0 0 x _ A n c ls _ hblk hrd HN.out (by omega) hl HX.out rfl).mono ?_
       rintro e w' ⟨rfl,rfl⟩
       go_wp2_with fail
       refine (jH 1 1 y _ A n c ls _ hblk hrd HN.out (by omega) hl HY.out rfl).mono ?_
       rintro e w' ⟨rfl,rfl⟩
       go_wp2_with fail
       refine (kU x 1 26 _).mono ?_
       rw [show jG x 1 26=false from nB (by have:=G.out;have:=G1.out;have:=G2.out;have:=G3.out;have:=G4.out;omega)]
       rintro e w' ⟨rfl,rfl⟩
       go_wp2_with fail
       refine (kU y 1 26 _).mono ?_
       rw [show jG y 1 26=false from nB (by have:=G.out;have:=G1.out;have:=G2.out;have:=G3.out;have:=G4.out;omega)]
       rintro e w' ⟨rfl,rfl⟩
       go_wp2_with fail
       go_ret2
       exact ⟨by rw [hF.out,hfin.out];rfl,hbel⟩
      ·have hfin:Hid (gX x y z=(0,0)):=by unfold Hid gX;rw [if_neg c0,if_neg c1,if_neg c2,if_neg c3,if_neg c4]
       have e0:(x==0)=false:=by simp;omega
       have e27:(x==27)=false:=by simp;omega
       have e28:(x==28)=true:=by simp;omega
       have e29:(x==29)=false:=by simp;omega
       have G:=Lib.hid d
       have G1:=Lib.hid c1
       have G2:=Lib.hid c2
       have G3:=Lib.hid c3
       have G4:=Lib.hid c4
       clear d c0 c1 c2 c3 c4
       go_enter Tryz.func213,Tryz.ntmps213
       go_wp2_with fail
       refine (jH 0 0 x _ A n c ls _ hblk hrd HN.out (by omega) hl HX.out rfl).mono ?_
       rintro e w' ⟨rfl,rfl⟩
       go_wp2_with fail
       refine (jH 1 1 y _ A n c ls _ hblk hrd HN.out (by omega) hl HY.out rfl).mono ?_
       rintro e w' ⟨rfl,rfl⟩
       go_wp2_with fail
       refine (kU x 1 26 _).mono ?_
       rw [show jG x 1 26=false from nB (by have:=G.out;have:=G1.out;have:=G2.out;have:=G3.out;have:=G4.out;omega)]
       rintro e w' ⟨rfl,rfl⟩
       go_wp2_with fail
       refine (kU y 0 30 _).mono ?_
       rw [show jG y 0 30=false from nB (by have:=G.out;have:=G1.out;have:=G2.out;have:=G3.out;have:=G4.out;omega)]
       rintro e w' ⟨rfl,rfl⟩
       go_wp2_with fail
       go_ret2
       exact ⟨by rw [hF.out,hfin.out];rfl,hbel⟩
      ·have hfin:Hid (gX x y z=(0,0)):=by unfold Hid gX;rw [if_neg c0,if_neg c1,if_neg c2,if_neg c3,if_neg c4]
       have e0:(x==0)=false:=by simp;omega
       have e27:(x==27)=false:=by simp;omega
       have e28:(x==28)=false:=by simp;omega
       have e29:(x==29)=true:=by simp;omega
       have G:=Lib.hid d
       have G1:=Lib.hid c1
       have G2:=Lib.hid c2
       have G3:=Lib.hid c3
       have G4:=Lib.hid c4
       clear d c0 c1 c2 c3 c4
       go_enter Tryz.func213,Tryz.ntmps213
       go_wp2_with fail
       refine (jH 0 0 x _ A n c ls _ hblk hrd HN.out (by omega) hl HX.out rfl).mono ?_
       rintro e w' ⟨rfl,rfl⟩
       go_wp2_with fail
       refine (jH 1 1 y _ A n c ls _ hblk hrd HN.out (by omega) hl HY.out rfl).mono ?_
       rintro e w' ⟨rfl,rfl⟩
       go_wp2_with fail
       refine (kU x 1 26 _).mono ?_
       rw [show jG x 1 26=false from nB (by have:=G.out;have:=G1.out;have:=G2.out;have:=G3.out;have:=G4.out;omega)]
       rintro e w' ⟨rfl,rfl⟩
       go_wp2_with fail
       refine (kU y 0 7 _).mono ?_
       rw [show jG y 0 7=true from vI (by have:=G.out;have:=G1.out;have:=G2.out;have:=G3.out;have:=G4.out;omega)]
       rintro e w' ⟨rfl,rfl⟩
       go_wp2_with fail
       refine (jH 2 2 z _ A n c ls _ hblk hrd HN.out (by have:=G.out;have:=G1.out;have:=G2.out;have:=G3.out;have:=G4.out;omega) hl HZ.out rfl).mono ?_
       rintro e w' ⟨rfl,rfl⟩
       go_wp2_with fail
       refine (kU z 0 15 _).mono ?_
       rw [show jG z 0 15=false from nB (by have:=G.out;have:=G1.out;have:=G2.out;have:=G3.out;have:=G4.out;omega)]
       rintro e w' ⟨rfl,rfl⟩
       go_wp2_with fail
       go_ret2
       exact ⟨by rw [hF.out,hfin.out];rfl,hbel⟩
      ·have hfin:Hid (gX x y z=(0,0)):=by unfold Hid gX;rw [if_neg c0,if_neg c1,if_neg c2,if_neg c3,if_neg c4]
       have e0:(x==0)=false:=by simp;omega
       have e27:(x==27)=false:=by simp;omega
       have e28:(x==28)=false:=by simp;omega
       have e29:(x==29)=true:=by simp;omega
       have G:=Lib.hid d
       have G1:=Lib.hid c1
       have G2:=Lib.hid c2
       have G3:=Lib.hid c3
       have G4:=Lib.hid c4
       clear d c0 c1 c2 c3 c4
       go_enter Tryz.func213,Tryz.ntmps213
       go_wp2_with fail
       refine (jH 0 0 x _ A n c ls _ hblk hrd HN.out (by omega) hl HX.out rfl).mono ?_
       rintro e w' ⟨rfl,rfl⟩
       go_wp2_with fail
       refine (jH 1 1 y _ A n c ls _ hblk hrd HN.out (by omega) hl HY.out rfl).mono ?_
       rintro e w' ⟨rfl,rfl⟩
       go_wp2_with fail
       refine (kU x 1 26 _).mono ?_
       rw [show jG x 1 26=false from nB (by have:=G.out;have:=G1.out;have:=G2.out;have:=G3.out;have:=G4.out;omega)]
       rintro e w' ⟨rfl,rfl⟩
       go_wp2_with fail
       refine (kU y 0 7 _).mono ?_
       rw [show jG y 0 7=false from nB (by have:=G.out;have:=G1.out;have:=G2.out;have:=G3.out;have:=G4.out;omega)]
       rintro e w' ⟨rfl,rfl⟩
       go_wp2_with fail
       go_ret2
       exact ⟨by rw [hF.out,hfin.out];rfl,hbel⟩
      ·have hfin:Hid (gX x y z=(0,0)):=by unfold Hid gX;rw [if_neg c0,if_neg c1,if_neg c2,if_neg c3,if_neg c4]
       have e0:(x==0)=false:=by simp;omega
       have e27:(x==27)=false:=by simp;omega
       have e28:(x==28)=false:=by simp;omega
       have e29:(x==29)=false:=by simp;omega
       have G:=Lib.hid d
       have G1:=Lib.hid c1
       have G2:=Lib.hid c2
       have G3:=Lib.hid c3
       have G4:=Lib.hid c4
       clear d c0 c1 c2 c3 c4
       go_enter Tryz.func213,Tryz.ntmps213
       go_wp2_with fail
       refine (jH 0 0 x _ A n c ls _ hblk hrd HN.out (by omega) hl HX.out rfl).mono ?_
       rintro e w' ⟨rfl,rfl⟩
       go_wp2_with fail
       refine (jH 1 1 y _ A n c ls _ hblk hrd HN.out (by omega) hl HY.out rfl).mono ?_
       rintro e w' ⟨rfl,rfl⟩
       go_wp2_with fail
       refine (kU x 1 26 _).mono ?_
       rw [show jG x 1 26=false from nB (by have:=G.out;have:=G1.out;have:=G2.out;have:=G3.out;have:=G4.out;omega)]
       rintro e w' ⟨rfl,rfl⟩
       go_wp2_with fail
       go_ret2
       exact ⟨by rw [hF.out,hfin.out];rfl,hbel⟩
end Go.Proofs.YtnklgkjfoggpbaaGreatDoor
namespace Go.Proofs.YtnklgkjfoggpbaaGreatDoor
open Go.RowKit
def aKJ (l t:List Int):Prop:=cN t=true∧bC t=l
open Classical in
noncomputable def aText (l:List Int):List Int × Int:=if h:∃ t,aKJ l t then (Classical.choose h,0) else ([],16)
theorem pA {l:List Int}(h:cN l=true):∀ c∈l,eZ c=true:=by
 simp only [cN,Bool.and_eq_true,List.all_eq_true] at h
 exact h.2
theorem zT {l t:List Int}(h:cN t=true)(h':bC t=l):aText l=(t,0):=by
 have hex:∃ t,aKJ l t:=⟨t,h,h'⟩
 have hc:=Classical.choose_spec hex
 have:=aMS _ _ (pA hc.1) (pA h) (hc.2.trans h'.symm)
 unfold aText
 rw [dif_pos hex,this]
theorem aE0 {l:List Int}(h:∀ t,cN t=true→bC t≠l):aText l=([],16):=by
 unfold aText
 rw [dif_neg]
 rintro ⟨t,h1,h2⟩
 exact h t h1 h2
theorem aSP (l:List Int):(∃ t,cN t=true∧bC t=l∧aText l=(t,0))∨aText l=([],16):=by
 by_cases h:∃ t,aKJ l t
 ·obtain ⟨t,h1,h2⟩:=h
  exact .inl ⟨t,h1,h2,zT h1 h2⟩
 ·exact .inr (by unfold aText;rw [dif_neg h])
theorem ag8 {l:List Int}(h:∀ c∈l,eZ c=true):dC l:=fun c hc=>by
 have:=h c hc
 simp [eZ] at this
 omega
def qR (l t0 rest:List Int):Prop:=∀ t,(∀ c∈t,eZ c=true)→bC t=l→∃ t',t=t0++t'∧rest=bC t'
theorem qR.start (l:List Int):qR l [] l:=fun t _ h=>⟨t,rfl,h.symm⟩
theorem ag9 (l:List Int)(hl:0<l.length):(gL l).2≤l.length∧0≤(gL l).1∧(gL l).1<256:=by
 have g:∀ k,0≤l.getD k (-1)→k<l.length:=by
  intro k hk
  rcases Nat.lt_or_ge k l.length with h|h
  ·exact h
  ·simp [List.getD,List.getElem?_eq_none h] at hk
 have g1:=g 1;have g2:=g 2
 unfold gL gX
 generalize l.getD 0 (-1)=x at *
 generalize l.getD 1 (-1)=y at *
 generalize l.getD 2 (-1)=z at *
 split
 ·simp;omega
 ·split
  ·simp;omega
  ·split
   ·simp;omega
   ·split
    ·rename_i h
     have hs:∀ r:Fin 31,0≤nA.getD r.val 0∧nA.getD r.val 0<256:=by decide
     have:=hs ⟨y.toNat,by omega⟩
     simp only at this ⊢
     omega
    ·split
     ·simp;omega
     ·simp
theorem qR.stop {l t0 rest:List Int}(h:qR l t0 rest)(hr:0<rest.length)(h0:(gL rest).2=0):aText l=([],16):=by
 refine aE0 fun t h1 h2=>?_
 obtain ⟨t',rfl,rfl⟩:=h t (pA h1) h2
 cases t' with
 | nil=>simp [bC] at hr
 | cons c t'=>
  have hc:=pA h1 c (by simp)
  have:=tQ c (bC t') hc
  have e:bC (c::t')=cS c++bC t':=rfl
  rw [e,this] at h0
  have:=rF c hc
  simp only at h0
  omega
theorem qR.step {l t0 rest:List Int}(h:qR l t0 rest)(hr:0<rest.length):qR l (t0++[(gL rest).1]) (rest.drop (gL rest).2):=by
 intro t h1 h2
 obtain ⟨t',rfl,rfl⟩:=h t h1 h2
 cases t' with
 | nil=>simp [bC] at hr
 | cons c t'=>
  have hc:=h1 c (by simp)
  have:=tQ c (bC t') hc
  have e:bC (c::t')=cS c++bC t':=rfl
  rw [e,this]
  exact ⟨t',by simp,by simp⟩
theorem qR.done {l t0:List Int}(h:qR l t0 []):(cN t0=true∧bC t0=l→aText l=(t0,0))∧(¬ (cN t0=true∧bC t0=l)→aText l=([],16)):=by
 refine ⟨fun ⟨h1,h2⟩=>zT h1 h2,fun hn=>aE0 fun t h1 h2=>?_⟩
 obtain ⟨t',rfl,ht⟩:=h t (pA h1) h2
 cases t' with
 | nil=>rw [List.append_nil] at h1 h2;exact hn ⟨h1,h2⟩
 | cons c t'=>
  have:=rF c (pA h1 c (by simp))
  have e:=congrArg List.length ht
  have e2:bC (c::t')=cS c++bC t':=rfl
  rw [e2,List.length_append] at e
  simp at e
  omega
def aBG (l cs:List Int):Bool:=l.take cs.length==cs
theorem aKK (l cs:List Int):aBG l cs=true↔∃ r,l=cs++r:=by
 unfold aBG
 rw [beq_iff_eq]
 constructor
 ·intro h;exact ⟨l.drop cs.length,by conv=>lhs;rw [←List.take_append_drop cs.length l,h]⟩
 ·rintro ⟨r,rfl⟩;simp
def nx (l:List Int):Int:=if eZ (gL l).1&&aBG l (cS (gL l).1)&&decide (0<(gL l).2) then (gL l).1 else -1
theorem aSQ {l:List Int}{c:Int}(hc:eZ c=true):aBG l (cS c)=true↔nx l=c:=by
 constructor
 ·intro h
  obtain ⟨r,rfl⟩:=(aKK _ _).1 h
  have h1:=tQ c r hc
  have h2:=rF c hc
  unfold nx
  rw [h1]
  simp only [hc,h,Bool.true_and,decide_eq_true_eq,h2,if_true]
 ·intro h
  unfold nx at h
  split at h
  ·rename_i h1
   rw [h] at h1
   simp only [Bool.and_eq_true] at h1
   exact h1.1.2
  ·rw [←h] at hc
   exact absurd hc (by decide)
def tF (l t0:List Int)(j:Nat):Prop:=(∀ c∈t0,eZ c=true)∧bC t0=l.take j∧j≤l.length
theorem ahA (t0 t r:List Int)(h0:∀ c∈t0,eZ c=true)(h:∀ c∈t,eZ c=true)(he:bC t=bC t0++r):∃ t',t=t0++t'∧r=bC t':=by
 induction t0 generalizing t with
 | nil=>exact ⟨t,rfl,by simpa [bC] using he.symm⟩
 | cons a t0 ih=>
  have ha:=h0 a List.mem_cons_self
  have e0:bC (a::t0)=cS a++bC t0:=rfl
  rw [e0,List.append_assoc] at he
  cases t with
  | nil=>
   have:=rF a ha
   have e:=congrArg List.length he
   simp only [bC,List.flatMap_nil,List.length_nil,List.length_append] at e
   omega
  | cons b t=>
   have hb:=h b List.mem_cons_self
   have e1:bC (b::t)=cS b++bC t:=rfl
   rw [e1] at he
   have f1:=tQ b (bC t) hb
   have f2:=tQ a (bC t0++r) ha
   rw [he,f2] at f1
   obtain rfl:a=b:=congrArg Prod.fst f1
   obtain ⟨t',rfl,hr⟩:=ih t (fun c hc=>h0 c (List.mem_cons_of_mem _ hc)) (fun c hc=>h c (List.mem_cons_of_mem _ hc)) (List.append_cancel_left he)
   exact ⟨t',rfl,hr⟩
theorem tF.start (l:List Int):tF l [] 0:=⟨(fun c hc=>by cases hc),by simp [bC],by omega⟩
theorem tF.stop {l t0:List Int}{j:Nat}(h:tF l t0 j)(hj:j<l.length)(hn:nx (l.drop j)=-1):aText l=([],16):=by
 refine aE0 fun t h1 h2=>?_
 have h3:bC t=bC t0++l.drop j:=by rw [h.2.1,List.take_append_drop,h2]
 obtain ⟨t',rfl,hr⟩:=ahA t0 t _ h.1 (pA h1) h3
 cases t' with
 | nil=>
  have e:=congrArg List.length hr
  rw [List.length_drop] at e
  simp [bC] at e
  omega
 | cons c t'=>
  have hc:=pA h1 c (by simp)
  have:aBG (l.drop j) (cS c)=true:=(aKK _ _).2 ⟨bC t',hr⟩
  rw [aSQ hc,hn] at this
  rw [←this] at hc
  revert hc;decide
theorem tF.step {l t0:List Int}{j:Nat}(h:tF l t0 j){c:Int}(hn:nx (l.drop j)=c)(hc:eZ c=true):tF l (t0++[c]) (j+(cS c).length):=by
 have hb:=(aSQ hc).2 hn
 obtain ⟨r,hr⟩:=(aKK _ _).1 hb
 have hl:=congrArg List.length hr
 rw [List.length_drop,List.length_append] at hl
 have hp:=rF c hc
 refine ⟨fun x hx=>?_,?_,by omega⟩
 ·rcases List.mem_append.1 hx with hx|hx
  ·exact h.1 x hx
  ·rw [List.mem_singleton] at hx;rw [hx];exact hc
 ·rw [aMI,h.2.1,List.take_add,hr]
  simp
theorem tF.done {l t0:List Int}(h:tF l t0 l.length):(cN t0=true→aText l=(t0,0))∧(cN t0=false→aText l=([],16)):=by
 have h2:bC t0=l:=by rw [h.2.1,List.take_length]
 refine ⟨fun h1=>zT h1 h2,fun h1=>aE0 fun t h3 h4=>?_⟩
 have:=aMS t t0 (pA h3) h.1 (h4.trans h2.symm)
 rw [this,h1] at h3
 cases h3
open Go.RowKit Go.BigFrame
section
variable {P:Program}{w:World}{ops:Array Oper}{rest:List Oper}{o:Oper}{a:Act}{Q:Exit→Act→World→Prop}
theorem ahB {t e:TypeId}{z:Value}{bytes:Nat}(E:Elem P t e z bytes){K:Act→World→Prop}{X:Prop}(hgd:Region.wanted o (yielded ops a.tmps)=true)(s x:Operand)
 (ho:o.op=.call { callee:=.builtin .append,args:=#[s,x],argTypes:=#[t,t] }) {base:Nat} {v:Value} {xs:List Value} (hs:a.eval s=v) (hown:bA w base e v xs) {B:Nat} {A:Option Addr} {m c:Nat} {news:List Value}
 (hx:a.eval x=.slice A m c) (hr:Rd w B A news) (hm:m=news.length) (h1:∀ u∈news,u.oneCell'=true) (hb:(xs.length+news.length)*bytes≤140737488355328) (h63:xs.length+news.length≤9223372036854775807) (hbase:base≤w.heap.size)
 (h:∀ A' n' c' w',bA w' base e (.slice A' n' c') (xs++news)→w.grownBy w' v.ownBlock→((Value.slice A' n' c').ownBlock=v.ownBlock∨(Value.slice A' n' c').ownBlock=some w.heap.size)→K (a.put o.dst (.slice A' n' c')) w'):
 if Region.wanted o (yielded ops a.tmps)=true then Oper.wp P o a w K Q else X:=by
 obtain ⟨v',w',hrun,h2,h3,h4⟩:=aQT (ty:=o.type) E hown (c:=c) hr hm h1 hb h63 hbase
 rw [if_pos hgd]
 unfold Oper.wp execOp
 simp only [ho,resolve,invoke,builtin,Sem.run_bind,Sem.run_pure,Result.andThen_ok,List.map_toArray,List.map_cons,List.map_nil,hs,hx,hrun]
 obtain ⟨A',c',rfl,_⟩:=h2.form
 exact h A' _ c' w' h2 h3 h4
end
end Go.Proofs.YtnklgkjfoggpbaaGreatDoor
namespace Go.Proofs.YtnklgkjfoggpbaaGreatDoor
open Go.RowKit Go.IntWalk
theorem aSR (A A':Option Addr)(n n' c c':Nat)(xs ys:List Int)(b:Bool)(w:World)(hr:Rd w w.heap.size A (cb .i64 xs))(hr':Rd w w.heap.size A' (cb .i64 ys))(hx:n=xs.length)(hy:n'=ys.length)(hm:xs.length≤1000000000)(hb:(xs==ys)=b):
 Calls Tryz.prog 63 #[.slice A n c,.slice A' n' c'] w fun e w'=>e=.returned (.bool b)∧Below w.heap.size w w':=by
 have HBB:=Lib.hid hb
 clear hb
 rw [←HBB.out]
 subst hx
 by_cases hl:xs.length=n'
 ·have hb0:((xs.length:Int) !=(n':Int))=false:=by simp;omega
  have HY:=Lib.hid hy
  have HL:=Lib.hid hl
  clear hy hl
  go_enter Tryz.func63,Tryz.ntmps63
  go_wp2
  go_loopw [13] (fun i w2=>∃ k:Nat,k≤xs.length∧i=.int .i64 k∧Hid (∀ j,j<k→xs.getD j 0=ys.getD j 0)∧Hid (∃ m,w2=w.drewN m)) (fun i _=>xs.length-(intOf i).toNat)
  case atStart=>exact ⟨0,by omega,rfl,by unfold Hid;intro j hj;omega,by unfold Hid;exact ⟨0,rfl⟩⟩
  case round=>
   obtain ⟨k,hk,rfl,hq,hw⟩:=hrel
   obtain ⟨m,rfl⟩:=hw.out
   by_cases hlt:k<xs.length
   ·have hly:k<ys.length:=by have:=HY.out;have:=HL.out;omega
    have hln:k<n':=by have:=HL.out;omega
    obtain ⟨b,o,rfl,_,hc1⟩:=hr.num hlt
    obtain ⟨b',o',rfl,_,hc2⟩:=hr'.num hly
    have hx0:xs.getD k 0=xs[k]:=by simp [List.getD,List.getElem?_eq_getElem hlt]
    have hy0:ys.getD k 0=ys[k]:=by simp [List.getD,List.getElem?_eq_getElem hly]
    have g1:(k:Int)<(xs.length:Int):=by omega
    have g2:(k:Int)<(n':Int):=by omega
    by_cases he:xs[k]=ys[k]
    ·have e1:(xs[k] !=ys[k])=false:=by simpa using he
     have hq2:Hid (∀ j,j<k+1→xs.getD j 0=ys.getD j 0):=by
      unfold Hid
      intro j hj
      rcases Nat.lt_or_ge j k with h|h
      ·exact hq.out j h
      ·obtain rfl:j=k:=by omega
       rw [hx0,hy0,he]
     clear hx0 hy0 he
     go_wp2_with fail
     go_quiet (fail)
     go_wp2
     go_roundw
     case rel=>exact ⟨k+1,by omega,by go_num,hq2,by unfold Hid;exact ⟨m+nq,rfl⟩⟩
     case measure=>simp [intOf];omega
    ·have e1:(xs[k] !=ys[k])=true:=by simpa using he
     have hfin:Hid ((xs==ys)=false):=by
      unfold Hid
      rw [beq_eq_false_iff_ne]
      rintro rfl
      exact he rfl
     clear hx0 hy0 he
     go_wp2_with fail
     go_quiet (fail)
     go_wp2
     go_ret
     exact ⟨by rw [hfin.out];rfl,by rw [World.drewN_drewN];exact aQR (Below.refl _ _) _⟩
   ·obtain rfl:k=xs.length:=by omega
    have hfin:Hid ((xs==ys)=true):=by
     unfold Hid
     rw [beq_iff_eq]
     refine List.ext_getElem (by have:=HY.out;have:=HL.out;omega) fun j h1 h2=>?_
     have:=hq.out j h1
     simpa [List.getD,List.getElem?_eq_getElem h1,List.getElem?_eq_getElem h2] using this
    go_wp2
    go_ret
    exact ⟨by rw [hfin.out];rfl,aQR (Below.refl _ _) _⟩
 ·have hb0:((xs.length:Int) !=(n':Int))=true:=by simp;omega
  have hfin:Hid ((xs==ys)=false):=by
   unfold Hid
   rw [beq_eq_false_iff_ne]
   rintro rfl
   exact hl hy.symm
  clear hy hl
  go_enter Tryz.func63,Tryz.ntmps63
  go_wp2
  go_ret
  exact ⟨by rw [hfin.out];rfl,Below.refl _ _⟩
theorem aE1 {w W:World}{A:Option Addr}{xs:List Value}(h:Rd w w.heap.size A xs)(hb:Below w.heap.size w W):Rd W W.heap.size A xs:=(h.below hb).more hb.size
def aKL (w w2:World)(ls:List Int)(o r:Value):Prop:=
 ∃ (t0 rest:List Int) (A2 A3:Option Addr) (n2 c2 n3 c3:Nat),qR ls t0 rest∧dC t0∧t0.length+rest.length≤ls.length∧o=.slice A2 n2 c2∧bA w2 w.heap.size 5 (.slice A2 n2 c2) (cb .u8 t0)∧r=.slice A3 n3 c3∧Rd w w.heap.size A3 (cb .i64 rest)∧n3=rest.length∧n3≤c3∧c3≤9223372036854775807∧Below w.heap.size w w2
theorem ahC (A:Option Addr)(n c:Nat)(ls:List Int)(w:World)(hr:Rd w w.heap.size A (cb .i64 ls))(hn:n=ls.length)(hnc:n≤c)(hc:c≤9223372036854775807)(hl:n≤10000000):
 Calls Tryz.prog 204 #[.slice A n c] w fun e w'=>e=.returned (.tuple #[.string (strOfNums (aText ls).1),.int .i64 (aText ls).2])∧Below w.heap.size w w':=by
 have HN:=Lib.hid hn
 clear hn
 go_enter Tryz.func204,Tryz.ntmps204
 go_wp2_with fail
 go_loopw [4,5,6,7] (fun o r _ _ w2=>aKL w w2 ls o r) (fun _ r _ _ _=>lenOf r)
 case atStart=>unfold aKL;exact ⟨[],ls,none,A,0,0,n,c,qR.start ls,dC.nil,by simp,rfl,bA.nil _ _ _,rfl,hr,HN.out,hnc,hc,Below.refl _ _⟩
 case round=>
  obtain ⟨t0,rest,A2,A3,n2,c2,n3,c3,hmid,hbt,hlen,rfl,hown,rfl,hrd,hn3,hnc3,hc3,hbel⟩:=hrel
  have hb:=hbel.size
  have HN3:=Lib.hid hn3
  have hmb:n3≤n:=by have:=HN.out;omega
  by_cases h0:0<n3
  ·have hr0:0<rest.length:=by omega
   have hfl:=ag9 rest hr0
   obtain ⟨hf1,hf2,hf3⟩:=hfl
   have hf1':(gL rest).2≤n3:=by omega
   by_cases hz:(gL rest).2=0
   ·have hfin:=Lib.hid (hmid.stop hr0 hz)
    have HZ:=Lib.hid hz
    clear hz hn3
    go_wp2_with fail
    refine (aMT A3 n3 c3 rest wr (aE1 hrd hbel) HN3.out (by omega)).mono ?_
    rintro e w3 ⟨rfl,hb3⟩
    rw [HZ.out]
    go_wp2
    go_ret2
    exact ⟨by rw [hfin.out];rfl,hbel.trans (hb3.mono hb)⟩
   ·have e0:(((gL rest).2:Int)==0)=false:=by simp;omega
    have hst:=hmid.step hr0
    have hbt2:dC (t0++[(gL rest).1]):=hbt.append (by intro x hx;rw [List.mem_singleton] at hx;subst hx;exact ⟨hf2,hf3⟩)
    have hp:0<(gL rest).2:=by omega
    have hdl:Hid ((rest.drop (gL rest).2).length=n3-(gL rest).2):=by unfold Hid;rw [List.length_drop,HN3.out]
    have hdr:=hrd.drop (gL rest).2 c3 (by simp;omega) (by simp;omega)
    rw [aQQ] at hdr
    have htl:t0.length≤10000000:=by have:=HN.out;omega
    clear hz hn3
    go_wp2_with fail
    refine (aMT A3 n3 c3 rest wr (aE1 hrd hbel) HN3.out (by omega)).mono ?_
    rintro e w3 ⟨rfl,hb3⟩
    have hbel3:=hbel.trans (hb3.mono hb)
    have hb3s:=hbel3.size
    have hown3:=hown.below hb3
    generalize gL rest=F at *
    obtain ⟨F1,F2⟩:=F
    simp only at *
    obtain ⟨A5,hA5⟩:∃ A5,(if c3=F2 then A3 else Option.map (fun x=>x.add F2) A3)=A5:=⟨_,rfl⟩
    rw [hA5] at hdr
    go_wp2_with fail
    go_region_law (refine ahB rE rfl _ _ rfl rfl (hown3.drew.alloc _) rfl (Rd.new _ [_] _) rfl (vH _ _) (by simp;omega) (by simp;omega) (by simp;omega) ?_;intro A4 n4 c4 w4 hown4 hg4 _)
    have hg5:(w3.alloc (.cells #[.int .u8 F1] 5)).drew.grownBy w4 (Value.slice A2 n2 c2).ownBlock:=hg4
    have hown5:bA w4 w.heap.size 5 (.slice A4 n4 c4) (cb .u8 (t0++[F1])):=by rw [tP];exact hown4
    have hbel5:=pF (hbel3.alloc hb3s (.cells #[.int .u8 F1] 5)).drew hg5 (hown3.drew.alloc _) (Nat.le_refl _) (by simp;omega)
    clear hown4 hg4 hg5
    simp only [List.getElem_toArray,List.getElem_cons_succ,List.getElem_cons_zero]
    go_frame
    go_roundw
    case rel=>(repeat apply Exists.intro);refine ⟨?_,rfl⟩;unfold aKL;exact ⟨t0++[F1],rest.drop F2,A4,_,n4,c4,n3-F2,c3-F2,hst,hbt2,by rw [List.length_append,List.length_drop];simp only [List.length_singleton];omega,rfl,hown5,rfl,hdr,hdl.out.symm,by omega,by omega,hbel5⟩
    case measure=>simp [lenOf];omega
  ·have hrest:rest=[]:=List.eq_nil_of_length_eq_zero (by omega)
   subst hrest
   have hdn:=hmid.done
   have hcv:=fun e=>aAP (P:=Tryz.prog) Tryz.underlying22 Tryz.underlying5 Tryz.underlying9 hown.rd.2.2 (c:=c2) (n:=n2) e
   have hcv1:=hcv (by rw [hown.rd.1];simp)
   have htB:Hid (tB (strOfNums t0)=t0):=pJ hbt
   have hsz:(strOfNums t0).size≤100000000:=by rw [←fK,pJ hbt];have:=HN.out;simp at hlen;omega
   have hlt:t0.length≤10000000:=by have:=HN.out;simp at hlen;omega
   have hdn1:=Lib.hid hdn.1
   have hdn2:=Lib.hid hdn.2
   clear hdn hcv hn3
   cases hok:cN t0 with
   | false=>
    have hfin:=Lib.hid (hdn2.out (fun h=>by rw [hok] at h;cases h.1))
    have hco:Hid (jF t0=([],13)):=by unfold Hid jF;rw [hok];rfl
    clear hok
    go_wp2_with fail
    refine (aBZ (strOfNums t0) _ hsz).mono ?_
    rw [htB.out,hco.out]
    rintro e w3 ⟨A5,n5,c5,rfl,hown5,hb3⟩
    go_wp2_with fail
    go_ret2
    exact ⟨by rw [hfin.out];rfl,hbel.trans (hb3.mono hb)⟩
   | true=>
    have hco:Hid (jF t0=(bC t0,0)):=by unfold Hid jF;rw [hok];rfl
    cases heq:(bC t0==ls) with
    | false=>
     have hfin:=Lib.hid (hdn2.out (fun h=>by rw [h.2] at heq;simp at heq))
     have HE:=Lib.hid heq
     clear hok heq
     go_wp2_with fail
     refine (aBZ (strOfNums t0) _ hsz).mono ?_
     rw [htB.out,hco.out]
     rintro e w3 ⟨A5,n5,c5,rfl,hown5,hb3⟩
     have hbel3:=hbel.trans (hb3.mono hb)
     have hz5:Hid (n5=(bC t0).length):=by unfold Hid;rw [hown5.rd.1];simp
     have hle5:(bC t0).length≤1000000000:=by have:=aF8 t0;omega
     go_wp2_with fail
     refine (aSR A5 A n5 n c5 c (bC t0) ls false _ hown5.rd.2.2 (aE1 hr hbel3) hz5.out HN.out hle5 HE.out).mono ?_
     rintro e w4 ⟨rfl,hb4⟩
     go_wp2_with fail
     go_ret2
     exact ⟨by rw [hfin.out];rfl,hbel3.trans (hb4.mono hbel3.size)⟩
    | true=>
     have hfin:=Lib.hid (hdn1.out ⟨hok,by simpa using heq⟩)
     have HE:=Lib.hid heq
     clear hok heq
     go_wp2_with fail
     refine (aBZ (strOfNums t0) _ hsz).mono ?_
     rw [htB.out,hco.out]
     rintro e w3 ⟨A5,n5,c5,rfl,hown5,hb3⟩
     have hbel3:=hbel.trans (hb3.mono hb)
     have hz5:Hid (n5=(bC t0).length):=by unfold Hid;rw [hown5.rd.1];simp
     have hle5:(bC t0).length≤1000000000:=by have:=aF8 t0;omega
     go_wp2_with fail
     refine (aSR A5 A n5 n c5 c (bC t0) ls true _ hown5.rd.2.2 (aE1 hr hbel3) hz5.out HN.out hle5 HE.out).mono ?_
     rintro e w4 ⟨rfl,hb4⟩
     have hcv2:=aAP (P:=Tryz.prog) Tryz.underlying22 Tryz.underlying5 Tryz.underlying9 ((hown.below hb3).below hb4).rd.2.2 (c:=c2) (n:=n2) (by rw [hown.rd.1];simp)
     go_wp2_with fail
     go_ret2
     exact ⟨by rw [hfin.out];rfl,hbel3.trans (hb4.mono hbel3.size)⟩
end Go.Proofs.YtnklgkjfoggpbaaGreatDoor
