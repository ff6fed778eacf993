/- Parts of the proof of a law of this seat: rules and contracts; no conditions. -/
import Derived.Test.YtnklgkjfoggpbaaGreatDoorWireSpec
import Derived.Test.YtnklgkjfoggpbaaGreatDoorLt
import Derived.Test.YtnklgkjfoggpbaaGreatDoorVo
import Derived.Test.YtnklgkjfoggpbaaGreatDoorProg
import Derived.KernelRfl
set_option maxHeartbeats 6400000
set_option maxRecDepth 100000
set_option linter.unusedVariables false
set_option linter.unusedSimpArgs false
namespace Go.Proofs.YtnklgkjfoggpbaaGreatDoor
open Go.RowKit
theorem abT (C:List bK)(hl:C.length≤1000000000)(hC:∀ k,-9223372036854775808≤(C.getD k aI).2∧(C.getD k aI).2<9223372036854775808):PC Tryz.prog 145 [iU C] (.fm Tryz.prog 3 3 (gF C C.length)):=by
 refine FC.body 3 36 Tryz.func145 rfl (by kernel_rfl) ?_
 refine W ?_
 refine aZ rfl rfl (xJ (k:=3) (e:=3) 0 rfl (by kernel_rfl)) ⟨rfl,trivial⟩ ?_
 refine W ?_
 refine bM (ι:=Nat) (fun k=>⟨[(3,.mp 0),(9,iU C),(10,vi (C.length:Int)),(11,vi k)],[(0,.map Tryz.prog 3 3 (gF C k)),(1,.unborn)]⟩) (fun k=>k≤C.length) (fun k=>C.length-k) 0 (Nat.zero_le _) (Le.sub ⟨.inr rfl,.inr rfl,.inr rfl,.inr rfl,trivial⟩ ⟨rfl,rfl,trivial⟩) ?_
 intro k hI
 refine W ?_
 refine cd (fun hb=>?_) fun hb=>?_
 ·have hlt:k<C.length:=by have h0:=of_decide_eq_true hb;omega
  have hx2:=hC k
  have hok:=aJV (C:=C) k (by omega)
  have hsz:=hok.size
  refine W ?_
  refine Z2 (al 1 [.int .i64 0,.int .i64 0]) ?_
  refine W ?_
  refine bW [_,_] ?_
  refine W ?_
  refine aS 1 1 false ?_
  refine W ?_
  refine eL (R:=[(_,.map _ _ _ _)]) rfl rfl (afQ (k:=3) (e:=3) (Go.Maps.int_keyed Tryz.underlying3) rfl rfl rfl (by kernel_rfl) (by kernel_rfl) (by kernel_rfl) (Go.Maps.keyOf_int_mk Tryz.underlying3 (mN hx2)) (hok.at_ _)) ⟨rfl,trivial⟩ ?_
  refine W ?_
  refine aS 0 1 false ?_
  refine W ?_
  refine cd (fun hb=>?_) fun hb=>?_
  ·have hb:((C.getD k aI).1==38&&!Go.Maps.has (gF C k) (kI (C.getD k aI).2))=true:=hb
   have hc:(C.getD k aI).1=38∧Go.Maps.has (gF C k) (kI (C.getD k aI).2)=false:=by
    rw [Bool.and_eq_true,Bool.not_eq_true'] at hb
    exact ⟨by simpa using hb.1,hb.2⟩
   have e1:gF C (k+1)=(gF C k).put (kI (C.getD k aI).2) (mI (k:Int)):=by
    show (if _ then _ else _)=_
    rw [if_pos hc]
   refine W ?_
   refine aS 1 1 false ?_
   refine W ?_
   refine fP rfl rfl (aCI (k:=3) (e:=3) (Go.Maps.int_keyed Tryz.underlying3) rfl rfl rfl rfl (by kernel_rfl) (by kernel_rfl) (Go.Maps.keyOf_int_mk Tryz.underlying3 (mN hx2)) (mN (by omega)) (by have:maxLen=9223372036854775807:=rfl;omega)) ⟨rfl,trivial⟩ ?_
   refine W ?_
   exact ⟨k+1,by omega,by omega,Le.reset [1] (by simp) ⟨.inr rfl,.inr rfl,.inr rfl,.inr (aR (by omega)),trivial⟩ ⟨by simp [aE],aE.of_pure _ (sU C),by simp [aE],by simp [aE],trivial⟩ ⟨by rw [if_neg (by decide),e1];exact ⟨rfl,trivial⟩,by rw [if_pos (by decide)],trivial⟩⟩
  ·have hb:((C.getD k aI).1==38&&!Go.Maps.has (gF C k) (kI (C.getD k aI).2))=false:=hb
   have hc:¬ ((C.getD k aI).1=38∧Go.Maps.has (gF C k) (kI (C.getD k aI).2)=false):=by
    rintro ⟨h1,h2⟩
    rw [h1,show Go.Maps.has (gF C k) (kI (C.getD k aI).2)=false from h2] at hb
    simp at hb
   have e1:gF C (k+1)=gF C k:=by
    show (if _ then _ else _)=_
    rw [if_neg hc]
   refine W ?_
   exact ⟨k+1,by omega,by omega,Le.reset [1] (by simp) ⟨.inr rfl,.inr rfl,.inr rfl,.inr (aR (by omega)),trivial⟩ ⟨by simp [aE],aE.of_pure _ (sU C),by simp [aE],by simp [aE],trivial⟩ ⟨by rw [if_neg (by decide),e1];exact ⟨rfl,trivial⟩,by rw [if_pos (by decide)],trivial⟩⟩
 ·have hge:k=C.length:=by have h0:=of_decide_eq_false hb;omega
  refine bU ?_
  refine aD ?_
  rw [hge]
  refine bS (Le.freezeMap 3 0 rfl rfl) ?_
  refine W ?_
  exact ⟨.inl rfl,aF.tmp rfl rfl,trivial⟩
theorem zW (l:List bK)(E:Env)(v:Value)(h:aA E (.sl 2 l.length (gE (l.map iV))) v):aA E (iU l) v:=pI (fun E j hj v hv=>by
 have e:gE (l.map iV) j=iV (l.getD j aI):=by
  show (l.map iV).getD j .any=_
  rw [List.getD,List.getElem?_map,List.getD,List.getElem?_eq_getElem hj]
  rfl
 rwa [e] at hv) E v h
theorem pL {Z:Nat→Prop}(l:List bK):aH Z (iU l):=aH.of_pure _ (sU l)
theorem lC {Z:Nat→Prop}:∀ l:List bK,aO Z (cT l)
 | []=>by unfold cT;simp [aO]
 | p::l=>by
  have h:=lC (Z:=Z) l
  unfold cT at h ⊢
  simp [aO,aH,h]
def nM (out:List Int):Nat:=out.countP (·==-1)
theorem aPU:∀ {out:List Int} {i:Nat} {x:Int},out.getD i 0=-1→x≠-1→nM (out.set i x)+1=nM out
 | [],i,x,h,_=>by simp at h
 | y::l,0,x,h,hx=>by
  simp at h
  subst h
  unfold nM
  simp [hx]
 | y::l,i+1,x,h,hx=>by
  have:=aPU (out:=l) (i:=i) (x:=x) (by simpa using h) hx
  unfold nM at this ⊢
  rw [List.set_cons_succ,List.countP_cons,List.countP_cons]
  omega
theorem abX (n:Nat):nM (List.replicate n (-1))=n:=by unfold nM;simp [List.countP_replicate]
def oR (n k:Nat):List Int:=List.replicate k (-1)++List.replicate (n-k) 0
theorem aPQ {n k:Nat}(h:k≤n):(oR n k).length=n:=by unfold oR;simp;omega
theorem abU (n:Nat):List.replicate n (vi 0)=(oR n 0).map vi:=by unfold oR;simp
theorem aPS (n:Nat):oR n n=List.replicate n (-1):=by unfold oR;simp
theorem abV {n k:Nat}(h:k<n):(oR n k).set k (-1)=oR n (k+1):=by
 refine List.ext_getElem? fun i=>?_
 unfold oR
 rw [List.getElem?_set]
 simp only [List.length_append,List.length_replicate,List.getElem?_append,List.getElem?_replicate]
 by_cases e:k=i
 ·subst e
  simp
  omega
 ·rw [if_neg e]
  by_cases h1:i<k
  ·simp [h1,show i<k+1 by omega]
  ·by_cases h2:i<n
   ·simp [h1,show ¬ i<k+1 by omega,show i-k<n-k by omega,show i-(k+1)<n-(k+1) by omega]
   ·simp [h1,show ¬ i<k+1 by omega,show ¬ i-k<n-k by omega,show ¬ i-(k+1)<n-(k+1) by omega]
def td2 (l:List (Nat × Int)):List bK:=l.map fun p=>((p.1:Int),p.2)
def kA (l:List (Nat × Int)):List Av:=cT (td2 l)
theorem aH9 (l:List (Nat × Int)):(kA l).length=l.length*2:=by unfold kA td2;rw [oO,List.length_map]
theorem zY (a b:List (Nat × Int)):kA (a++b)=kA a++kA b:=by unfold kA td2;rw [List.map_append,aAC]
theorem alS (rest:List (Nat × Int))(x:Nat × Int):((kA (rest++[x])).drop (rest.length*2)).take 2=[vi x.1,vi x.2]:=by
 rw [zY,←aH9,List.drop_left]
 rfl
theorem alT (rest:List (Nat × Int))(x:Nat × Int):∀ (i:Nat) (y:Av),(kA rest)[i]?=some y→(kA (rest++[x]))[i]?=some y:=fun i y h=>by
 rw [zY,List.getElem?_append_left (List.getElem?_eq_some_iff.1 h).1,h]
theorem zZ {Z:List Nat}(l:List (Nat × Int)):∀ z∈kA l,aE Z z:=aP1 _
theorem abY (t:TabP)(C:List bK)(f:Nat)(out:List Int)(rest:List (Nat × Int))(x:Nat × Int):pN t C (f+1) out (rest++[x])=
 if x.1≥C.length then ([],2) else if out.getD x.1 0=x.2 then pN t C f out rest else if out.getD x.1 0≠-1 then ([],17)
 else if (gS t (C.getD x.1 aI) x.2 (fG C (C.getD x.1 aI).2).isSome).2≠0 then ([],(gS t (C.getD x.1 aI) x.2 (fG C (C.getD x.1 aI).2).isSome).2) else pN t C f (out.set x.1 x.2) (aH8 C (C.getD x.1 aI) x.1 (gS t (C.getD x.1 aI) x.2 (fG C (C.getD x.1 aI).2).isSome).1 rest):=by
 conv=>lhs;unfold pN
 rw [if_neg (show ¬ rest++[x]=[] by simp)]
 simp only [List.getLastD_concat,List.dropLast_concat]
theorem ab5 (t:TabP)(C:List bK)(f:Nat)(out:List Int):pN t C f out []=(out,0):=by
 cases f with
 | zero=>rfl
 | succ f=>unfold pN;rw [if_pos rfl]
theorem ab2 {t:TabP}{x:bK}{h:Int}{is_:Bool}(h0:0≤h∧h≤256)(he:(gS t x h is_).2=0):0≤(gS t x h is_).1∧(gS t x h is_).1≤256:=by
 unfold gS at he ⊢
 by_cases h1:x.1=38
 ·rw [if_pos h1];exact h0
 ·rw [if_neg h1] at he ⊢
  by_cases h2:oZ t x=false∨(x.1=24∨x.1=25)∧is_=false
  ·rw [if_pos h2] at he;cases he
  ·rw [if_neg h2] at he ⊢
   by_cases h3:h<jM t x∨x.1=27∧h≠1∨jM t x<h+lQ x-256
   ·rw [if_pos h3] at he;cases he
   ·rw [if_neg h3]
    have:=aUU x
    show 0≤h-jM t x+lQ x∧h-jM t x+lQ x≤256
    omega
theorem aDI {p q:List Int × Int}(h:p=q):Av.tup [aK p.1,vi p.2]=.tup [aK q.1,vi q.2]:=by rw [h]
theorem pM {Z:Nat→Prop}(l:List (Nat × Int)):aO Z (kA l):=lC _
theorem ab4:FC Tryz.prog 146 [.own 2 0] ([(2,.live 195 [.osl 2 1 (([]:List (Nat × Int))).length]),(1,.live 194 (kA (([]:List (Nat × Int)))))]) (.tup [.agg [vi 0,vi 0],vb false]) ([(2,.live 195 [.osl 2 1 (([]:List (Nat × Int))).length]),(1,.live 194 (kA (([]:List (Nat × Int)))))]):=by
 refine FC.body 5 20 Tryz.func146 rfl (by kernel_rfl) ?_
 refine W ?_
 refine Z2 (al 0 [.int .i64 0,.int .i64 0]) ?_
 refine W ?_
 refine cd (fun hb=>?_) fun hb=>?_
 ·refine W ?_
  refine Z1 (bd [(0,1),(1,1)] [.int .i64 0,.int .i64 0] [.val _,.val _]) ?_
  refine bW [_,_] ?_
  refine W ?_
  exact ⟨.inl rfl,aF.two rfl (aT.row rfl rfl (by kernel_rfl) (by kernel_rfl) (by simp)) (aT.tmp rfl),⟨rfl,rfl,trivial⟩⟩
 ·exact absurd hb (by cases hb)
theorem aPR (rest:List (Nat × Int))(x:Nat × Int)(hl:rest.length≤1000000000000):FC Tryz.prog 146 [.own 2 0] ([(2,.live 195 [.osl 2 1 (rest++[x]).length]),(1,.live 194 (kA (rest++[x])))]) (.tup [.agg [vi x.1,vi x.2],vb true]) ([(2,.live 195 [.osl 2 1 (rest).length]),(1,.live 194 (kA (rest)))]):=by
 have hlen:(rest++[x]).length=rest.length+1:=by simp
 refine FC.body 5 20 Tryz.func146 rfl (by kernel_rfl) ?_
 refine sq ?_
 refine Z2 (al 0 [.int .i64 0,.int .i64 0]) ?_
 refine Z1 aB ?_
 refine cn ?_
 refine aD ?_
 refine sq ?_
 refine bG ?_
 refine Z1 sT ?_
 refine Z1 bz ?_
 refine cn ?_
 refine cd (fun hb=>?_) fun hb=>?_
 ·exact absurd hb (by 
   rw [show ((((rest++[x]).length:Nat):Int)==0)=false by rw [List.length_append,List.length_singleton,beq_eq_false_iff_ne];omega] at hb
   cases hb)
 ·refine aQ ?_
  refine sq ?_
  refine bG ?_
  refine bG ?_
  refine Z1 sT ?_
  refine Z1 iP ?_
  refine eL (R:=[(_,.live _ _)]) rfl rfl (vL (j:=rest.length*2) rfl rfl rfl (by kernel_rfl) (by omega) (by omega) (by omega)) ⟨rfl,trivial⟩ ?_
  refine eL (R:=[(_,.live _ _)]) rfl rfl (mA (k:=2) (ds:=[vi x.1,vi x.2]) rfl rfl (by kernel_rfl) (by kernel_rfl) (alS rest x) rfl (by decide)) ⟨rfl,trivial⟩ ?_
  refine Z2 (al 3 [.int .i64 0,.int .i64 0]) ?_
  refine bW [_,_] ?_
  refine cn ?_
  refine sq ?_
  refine bG ?_
  refine bG ?_
  refine Z1 sT ?_
  refine Z1 iP ?_
  refine eL (R:=[(_,.live _ _)]) rfl rfl (aeM (e:=194) (by_:=16) (zs:=[.int .i64 0,.int .i64 0]) rest.length rfl rfl (by show Av.val _=Av.val _;rw [hlen,show ((rest.length+1:Nat):Int)-1=(rest.length:Int) by omega]) (by kernel_rfl) (by kernel_rfl) (by omega)) ⟨rfl,trivial⟩ ?_
  refine fP rfl rfl (lG (y:=.osl _ _ _) rfl rfl rfl (by kernel_rfl) (by kernel_rfl) aED (by first|decide|(simp;done)|(simp;omega)) rfl) ⟨rfl,trivial⟩ ?_
  refine cn ?_
  refine aD ?_
  refine bS (Le.cut 1 (kA rest) rfl (alT rest x)) ?_
  refine tx ?_
  refine dE 2 [_,_] ?_
  refine bW [_,_] ?_
  refine Z1 aB ?_
  refine cn ?_
  refine aP ?_
  exact ⟨.inl rfl,aF.two rfl (aT.row rfl rfl (by kernel_rfl) (by kernel_rfl) (by simp)) (aT.tmp rfl),⟨rfl,rfl,trivial⟩⟩
theorem abS (t:TabP)(C:List bK)(hl:C.length≤100000000)(hC:∀ k,-9223372036854775808≤(C.getD k aI).2∧(C.getD k aI).2<9223372036854775808)(hf:t.funcs.length≤140737488355328)(hp:t.params.length≤140737488355328):PC Tryz.prog 86 [bR t,iU C] (.tup [aK (wA t C).1,vi (wA t C).2]):=by
 refine FC.body 8 124 Tryz.func86 rfl (by kernel_rfl) ?_
 refine sq ?_
 refine Z1 bx ?_
 refine Z1 aB ?_
 refine Z1 aB ?_
 refine cn ?_
 refine sq ?_
 refine Z1 mo ?_
 refine Z1 (ca (abT C (by omega) hC)) ?_
 refine Z1 aB ?_
 refine cn ?_
 refine sq ?_
 refine Z1 mo ?_
 refine Z1 ln ?_
 refine aZ rfl rfl (aGP (e:=3) (by_:=8) (z:=.int .i64 0) (m:=C.length) 0 rfl rfl rfl rfl (by kernel_rfl) (by kernel_rfl) rfl (by omega) (by omega)) ⟨rfl,trivial⟩ ?_
 refine Z1 aB ?_
 refine cn ?_
 refine aD ?_
 refine sq ?_
 refine Z1 mo ?_
 refine Z1 sT ?_
 refine Z1 mo ?_
 refine cn ?_
 refine aU ?_
 refine bM (ι:=Nat) (fun k=>⟨[(1,iU C),(2,.ptr (bR t)),(6,.fm Tryz.prog 3 3 (gF C C.length)),(7,.osl 1 0 C.length),(24,vi (C.length:Int)),(25,vi k)],[(0,.live 3 ((oR C.length k).map vi)),(1,.unborn),(2,.unborn),(3,.unborn),(4,.unborn),(5,.unborn),(6,.unborn),(7,.unborn)]⟩) (fun k=>k≤C.length) (fun k=>C.length-k) 0 (Nat.zero_le _) (Le.sub ⟨.inr rfl,.inr rfl,.inr rfl,.inr rfl,.inr rfl,.inr rfl,trivial⟩ ⟨by show some (Hs.live _ (List.replicate C.length (vi 0)))=_;rw [abU],rfl,rfl,rfl,rfl,rfl,rfl,rfl,trivial⟩) ?_
 intro k hI
 refine sq ?_
 refine Z1 bz ?_
 refine cn ?_
 refine aD ?_
 refine cd (fun hb=>?_) fun hb=>?_
 ·have hlt:k<C.length:=by have h0:=of_decide_eq_true hb;omega
  refine aQ ?_
  refine aD ?_
  refine aU ?_
  refine sq ?_
  refine Z1 mo ?_
  refine Z1 aB ?_
  refine cn ?_
  refine tx ?_
  refine Z1 mo ?_
  refine Z1 mo ?_
  refine Z1 sK ?_
  refine fP rfl rfl (lG (y:=vi (-1)) (cs':=(oR C.length (k+1)).map vi) rfl rfl rfl (by kernel_rfl) (by kernel_rfl) oH (by rw [List.length_map,aPQ (by omega)];exact hlt) (by rw [zQ,abV hlt])) ⟨rfl,trivial⟩ ?_
  refine cn ?_
  refine tx ?_
  refine Z1 ba ?_
  refine Z1 mo ?_
  refine cn ?_
  exact ⟨k+1,by omega,by omega,Le.sub ⟨.inr rfl,.inr rfl,.inr rfl,.inr rfl,.inr rfl,.inr (aR (by omega)),trivial⟩ ⟨rfl,rfl,rfl,rfl,rfl,rfl,rfl,rfl,trivial⟩⟩
 ·have hge:k=C.length:=by have h0:=of_decide_eq_false hb;omega
  subst hge
  refine bU ?_
  refine sq ?_
  refine Z1 (bd [(0,1),(1,1)] [.int .i64 0,.int .i64 0] [.val _,.val _]) ?_
  refine aZ rfl rfl (abW (ps:=[.tmp 32]) (xs:=[.agg _]) (e:=194) (k:=2) (by_:=16) (zs:=[.int .i64 0,.int .i64 0]) 1 rfl (by kernel_rfl) (by kernel_rfl) rfl rfl (by decide) (fun z hz=>by first|(cases hz;done)|(simp only [List.mem_cons,List.not_mem_nil,or_false] at hz;subst hz;rfl)) rfl (by decide) (by decide)) ⟨rfl,trivial⟩ ?_
  refine Z2 (al 2 [.slice none 0 0]) ?_
  refine cF [_] ?_
  refine cn ?_
  refine sq ?_
  refine Z1 (qC (cs:=[.own _ _]) rfl rfl) ?_
  refine Z1 aB ?_
  refine cn ?_
  refine aD ?_
  refine sq ?_
  refine Z1 mo ?_
  refine aZ rfl rfl (oI [] rfl rfl (by kernel_rfl) ((aPR [] (0,0) (by simp)).m) rfl (by simp) (by simp [bQ]) (by simp) (by simp) (by simp [aO,aH,pL,lC,pM]) (by simp [jR,bJ,aO,aH,pL,lC,pM]) (by simp [aH,aO,pL,lC,pM]) (by simp [jR,bJ,aO,aH,pL,lC,pM])) ⟨rfl,rfl,trivial⟩ ?_
  refine Z1 mo ?_
  refine Z1 ex ?_
  refine Z1 ex ?_
  refine Z2 (al 3 [.int .i64 0,.int .i64 0]) ?_
  refine bW [_,_] ?_
  refine Z1 aB ?_
  refine cn ?_
  refine aU ?_
  refine bM (ι:=(Nat × List Int × List (Nat × Int) × (Nat × Int) × Bool)) (fun q=>⟨[(1,iU C),(2,.ptr (bR t)),(6,.fm Tryz.prog 3 3 (gF C C.length)),(7,.osl 1 0 C.length),(9,.own 2 0),(10,.clo 146 [.own 2 0]),(11,.own 3 0),(12,vb q.2.2.2.2)],[(0,.live 3 (q.2.1.map vi)),(1,.live 194 (kA q.2.2.1)),(2,.live 195 [.osl 2 1 q.2.2.1.length]),(3,.live 194 [vi (q.2.2.2.1.1:Int),vi q.2.2.2.1.2]),(4,.unborn),(5,.unborn),(6,.unborn),(7,.unborn)]⟩) (fun q=>(q.2.2.2.2=false→wA t C=(q.2.1,0)∧q.2.1.length=C.length)∧(q.2.2.2.2=true→wA t C=pN t C q.1 q.2.1 (q.2.2.1++[q.2.2.2.1])∧q.2.1.length=C.length∧3*nM q.2.1+(q.2.2.1.length+1)<q.1∧(∀ z∈q.2.2.1++[q.2.2.2.1],0≤z.2∧z.2≤256)∧q.1≤3*C.length+2)) (fun q=>q.1) (3*C.length+2,oR C.length C.length,[],(0,0),true) (⟨fun h=>(by cases h),fun _=>⟨by rw [aPS];rfl,aPQ (Nat.le_refl _),by show 3*nM (oR C.length C.length)+(0+1)<3*C.length+2;rw [aPS,abX];omega,by simp,Nat.le_refl _⟩⟩) (Le.sub ⟨.inr rfl,.inr rfl,.inr rfl,.inr rfl,.inr rfl,.inr rfl,.inr rfl,.inr rfl,trivial⟩ ⟨rfl,rfl,rfl,rfl,rfl,rfl,rfl,rfl,trivial⟩) ?_
  intro q hI
  obtain ⟨hI0,hI⟩:=hI
  refine aD ?_
  refine sq ?_
  refine Z1 mo ?_
  refine cn ?_
  refine cd (fun hb=>?_) fun hb=>?_
  ·have hmo:q.2.2.2.2=true:=hb
   have hinv:wA t C=pN t C q.1 q.2.1 (q.2.2.1++[q.2.2.2.1])∧q.2.1.length=C.length∧3*nM q.2.1+(q.2.2.1.length+1)<q.1∧(∀ z∈q.2.2.1++[q.2.2.2.1],0≤z.2∧z.2≤256)∧q.1≤3*C.length+2:=hI hmo
   obtain ⟨g1,g2,g3,g4,g5⟩:=hinv
   obtain ⟨f0,hf0⟩:∃ f0,q.1=f0+1:=⟨q.1-1,by omega⟩
   rw [hf0,abY] at g1
   have hx:=g4 q.2.2.2.1 (by simp)
   refine aQ ?_
   refine aD ?_
   refine abZ (ι:=(List Int × List (Nat × Int))) (fun p=>⟨[(1,iU C),(2,.ptr (bR t)),(6,.fm Tryz.prog 3 3 (gF C C.length)),(7,.osl 1 0 C.length),(9,.own 2 0),(10,.clo 146 [.own 2 0]),(11,.own 3 0)],[(0,.live 3 (p.1.map vi)),(1,.live 194 (kA p.2)),(2,.live 195 [.osl 2 1 p.2.length]),(3,.live 194 [vi (q.2.2.2.1.1:Int),vi q.2.2.2.1.2]),(7,.unborn)]⟩) (fun p=>wA t C=pN t C f0 p.1 p.2∧p.1.length=C.length∧3*nM p.1+p.2.length<f0∧(∀ z∈p.2,0≤z.2∧z.2≤256)) ?_ (fun p hJ=>?_)
   ·refine aU ?_
    refine aD ?_
    refine aU ?_
    refine sq ?_
    refine aS 0 1 false ?_
    refine bG ?_
    refine Z1 mo ?_
    refine Z1 ln ?_
    refine Z1 bz ?_
    refine Z1 aB ?_
    refine cn ?_
    refine cd (fun hb=>?_) fun hb=>?_
    ·have h1:q.2.2.2.1.1≥C.length:=by have h0:=of_decide_eq_true hb;omega
     rw [if_pos h1] at g1
     refine sq ?_
     refine Z1 aB ?_
     refine Z1 aB ?_
     refine cn ?_
     refine aP ?_
     exact ⟨.inl rfl,by rw [aDI g1];exact aF.two rfl (aT.to (aT.tmp rfl) (fun E v h=>qI (k:=1) E v h)) (aT.tmp rfl),trivial⟩
    ·have h1:¬ q.2.2.2.1.1≥C.length:=by have h0:=of_decide_eq_false hb;omega
     rw [if_neg h1] at g1
     refine aD ?_
     refine dw ?_
     refine Z1 mo ?_
     refine aS 0 1 false ?_
     refine bG ?_
     refine Z1 sK ?_
     refine eL (R:=[(_,.live _ _)]) rfl rfl (fL rfl rfl (by kernel_rfl) (vO (by omega))) ⟨rfl,trivial⟩ ?_
     refine aS 1 1 false ?_
     refine bG ?_
     refine Z1 bz ?_
     refine Z1 aB ?_
     refine cn (dn ?_)
     refine cd (fun hb=>?_) fun hb=>?_
     ·have h2:q.2.1.getD q.2.2.2.1.1 0=q.2.2.2.1.2:=by simpa using hb
      rw [if_pos h2] at g1
      refine bU ?_
      exact ⟨(q.2.1,q.2.2.1),⟨g1,g2,by show 3*nM q.2.1+q.2.2.1.length<f0;omega,fun z hz=>g4 z (by simp [hz])⟩,Le.sub ⟨.inr rfl,.inr rfl,.inr rfl,.inr rfl,.inr rfl,.inr rfl,.inr rfl,trivial⟩ ⟨rfl,rfl,rfl,rfl,rfl,trivial⟩⟩
     ·have h2:¬ q.2.1.getD q.2.2.2.1.1 0=q.2.2.2.1.2:=by simpa using hb
      rw [if_neg h2] at g1
      refine sq ?_
      refine Z1 mo ?_
      refine aS 0 1 false ?_
      refine bG ?_
      refine Z1 sK ?_
      refine eL (R:=[(_,.live _ _)]) rfl rfl (fL rfl rfl (by kernel_rfl) (vO (by omega))) ⟨rfl,trivial⟩ ?_
      refine Z1 bz ?_
      refine Z1 aB ?_
      refine cn ?_
      refine cd (fun hb=>?_) fun hb=>?_
      ·have h3:q.2.1.getD q.2.2.2.1.1 0≠-1:=by simpa using hb
       rw [if_pos h3] at g1
       refine sq ?_
       refine Z1 aB ?_
       refine Z1 aB ?_
       refine cn ?_
       refine aP ?_
       exact ⟨.inl rfl,by rw [aDI g1];exact aF.two rfl (aT.to (aT.tmp rfl) (fun E v h=>qI (k:=1) E v h)) (aT.tmp rfl),trivial⟩
      ·have h3:¬ q.2.1.getD q.2.2.2.1.1 0≠-1:=by simpa using hb
       rw [if_neg h3] at g1
       refine aQ ?_
       refine sq ?_
       refine Z1 mo ?_
       refine aS 0 1 false ?_
       refine bG ?_
       refine Z1 ia ?_
       refine Z1 lr ?_
       refine Z2 (al 4 [.int .i64 0,.int .i64 0]) ?_
       refine bW [_,_] ?_
       refine cn ?_
       refine sq ?_
       refine Z1 mo ?_
       refine aS 1 1 false ?_
       refine bG ?_
       refine Z1 (OC.cast (ab0 (k:=3) (e:=3) (Go.Maps.int_keyed Tryz.underlying3) rfl rfl rfl (by kernel_rfl) (by kernel_rfl) (by kernel_rfl) (Go.Maps.keyOf_int_mk Tryz.underlying3 (mN (hC q.2.2.2.1.1))) ((aPT C).2 _)) (by rw [show Go.Maps.has (gF C C.length) (Lit.int IntKind.i64 (C.getD q.2.2.2.1.1 aI).2)=_ from (aPT C).1 (C.getD q.2.2.2.1.1 aI).2])) ?_
       refine Z1 mo ?_
       refine Z1 ex ?_
       refine Z1 ex ?_
       refine Z1 aB ?_
       refine Z1 aB ?_
       refine cn ?_
       refine sq ?_
       refine Z1 lr ?_
       refine dE 2 [_,_] ?_
       refine aS 1 1 false ?_
       refine bG ?_
       refine Z1 mo ?_
       refine Z1 (ca (ab1 t (C.getD q.2.2.2.1.1 aI) q.2.2.2.1.2 (fG C (C.getD q.2.2.2.1.1 aI).2).isSome hf hp (by omega))) ?_
       refine Z1 mo ?_
       refine Z1 ex ?_
       refine Z1 ex ?_
       refine Z1 aB ?_
       refine Z1 aB ?_
       refine cn ?_
       refine aD ?_
       refine sq ?_
       refine Z1 mo ?_
       refine Z1 bz ?_
       refine cn ?_
       refine cd (fun hb=>?_) fun hb=>?_
       ·have h4:(gS t (C.getD q.2.2.2.1.1 aI) q.2.2.2.1.2 (fG C (C.getD q.2.2.2.1.1 aI).2).isSome).2≠0:=by simpa using hb
        rw [if_pos h4] at g1
        refine sq ?_
        refine Z1 mo ?_
        refine Z1 aB ?_
        refine Z1 aB ?_
        refine cn ?_
        refine aP ?_
        exact ⟨.inl rfl,by rw [aDI g1];exact aF.two rfl (aT.to (aT.tmp rfl) (fun E v h=>qI (k:=1) E v h)) (aT.tmp rfl),trivial⟩
       ·have h4:¬ (gS t (C.getD q.2.2.2.1.1 aI) q.2.2.2.1.2 (fG C (C.getD q.2.2.2.1.1 aI).2).isSome).2≠0:=by simpa using hb
        rw [if_neg h4] at g1
        have hbd:=ab2 hx (Classical.not_not.1 h4)
        obtain ⟨td1,htd1⟩:∃ td1,td1=(if (C.getD q.2.2.2.1.1 aI).1=24∨(C.getD q.2.2.2.1.1 aI).1=25 then q.2.2.1++[((fG C (C.getD q.2.2.2.1.1 aI).2).getD 0,(gS t (C.getD q.2.2.2.1.1 aI) q.2.2.2.1.2 (fG C (C.getD q.2.2.2.1.1 aI).2).isSome).1)] else q.2.2.1):=⟨_,rfl⟩
        obtain ⟨td2_,htd2⟩:∃ td2_,td2_=(if (C.getD q.2.2.2.1.1 aI).1≠24∧¬ ((C.getD q.2.2.2.1.1 aI).1=27∨(C.getD q.2.2.2.1.1 aI).1=28∨(C.getD q.2.2.2.1.1 aI).1=29∨(C.getD q.2.2.2.1.1 aI).1=30) then td1++[(q.2.2.2.1.1+1,(gS t (C.getD q.2.2.2.1.1 aI) q.2.2.2.1.2 (fG C (C.getD q.2.2.2.1.1 aI).2).isSome).1)] else td1):=⟨_,rfl⟩
        have hpush:aH8 C (C.getD q.2.2.2.1.1 aI) q.2.2.2.1.1 (gS t (C.getD q.2.2.2.1.1 aI) q.2.2.2.1.2 (fG C (C.getD q.2.2.2.1.1 aI).2).isSome).1 q.2.2.1=td2_:=by rw [htd2,htd1];rfl
        have hl1:td1.length≤q.2.2.1.length+1:=by rw [htd1];split<;>simp
        have hl2:td2_.length≤td1.length+1:=by rw [htd2];split<;>simp
        have hun:=aPU (out:=q.2.1) (i:=q.2.2.2.1.1) (x:=q.2.2.2.1.2) (Classical.not_not.1 h3) (by omega)
        have hin:∀ z∈td2_,0≤z.2∧z.2≤256:=by
         have hr:∀ z∈q.2.2.1,0≤z.2∧z.2≤256:=fun z hz=>g4 z (by simp [hz])
         have h1:∀ z∈td1,0≤z.2∧z.2≤256:=fun z hz=>by
          rw [htd1] at hz
          split at hz
          ·rcases List.mem_append.1 hz with hz|hz
           ·exact hr z hz
           ·rw [List.mem_singleton] at hz;subst hz;exact hbd
          ·exact hr z hz
         intro z hz
         rw [htd2] at hz
         split at hz
         ·rcases List.mem_append.1 hz with hz|hz
          ·exact h1 z hz
          ·rw [List.mem_singleton] at hz;subst hz;exact hbd
         ·exact h1 z hz
        refine aQ ?_
        refine sq ?_
        refine Z1 mo ?_
        refine aS 0 1 false ?_
        refine bG ?_
        refine aS 1 1 false ?_
        refine bG ?_
        refine Z1 sK ?_
        refine fP rfl rfl (lG (y:=vi q.2.2.2.1.2) (cs':=(q.2.1.set q.2.2.2.1.1 q.2.2.2.1.2).map vi) rfl rfl rfl (by kernel_rfl) (by kernel_rfl) oH (by rw [List.length_map];omega) (by rw [zQ])) ⟨rfl,trivial⟩ ?_
        refine cn ?_
        refine aD ?_
        refine sq ?_
        refine dE 2 [_,_] ?_
        refine Z1 (ca (aPV (C.getD q.2.2.2.1.1 aI))) ?_
        refine cn ?_
        refine rM (τ:=⟨[(1,iU C),(2,.ptr (bR t)),(6,.fm Tryz.prog 3 3 (gF C C.length)),(7,.osl 1 0 C.length),(9,.own 2 0),(10,.clo 146 [.own 2 0]),(11,.own 3 0),(13,.own 4 0),(16,vi (gS t (C.getD q.2.2.2.1.1 aI) q.2.2.2.1.2 (fG C (C.getD q.2.2.2.1.1 aI).2).isSome).1)],[(0,.live 3 ((q.2.1.set q.2.2.2.1.1 q.2.2.2.1.2).map vi)),(1,.live 194 (kA td1)),(2,.live 195 [.osl 2 1 td1.length]),(3,.live 194 [vi (q.2.2.2.1.1:Int),vi q.2.2.2.1.2]),(4,.live 136 [vi (C.getD q.2.2.2.1.1 aI).1,vi (C.getD q.2.2.2.1.1 aI).2]),(6,.unborn),(7,.unborn)]⟩) ?_ ?_
        ·refine cd (fun hb=>?_) fun hb=>?_
         ·have h5:(C.getD q.2.2.2.1.1 aI).1=24∨(C.getD q.2.2.2.1.1 aI).1=25:=by simpa using hb
          rw [if_pos h5] at htd1
          subst htd1
          refine tx ?_
          refine bG ?_
          refine Z1 mo ?_
          refine Z1 mo ?_
          refine Z1 (bd [(0,1),(1,1)] [.int .i64 0,.int .i64 0] [.val _,.val _]) ?_
          refine Z1 (OC.to (fO (ps:=[.tmp 103]) (xs:=[.agg _]) (e:=194) (k:=2) (by_:=16) (zs:=[.int .i64 0,.int .i64 0]) rfl (by kernel_rfl) (by kernel_rfl) rfl rfl rfl (by decide) (by decide)) (zW [(((((fG C (C.getD q.2.2.2.1.1 aI).2).getD 0:Nat):Int)),(gS t (C.getD q.2.2.2.1.1 aI) q.2.2.2.1.2 (fG C (C.getD q.2.2.2.1.1 aI).2).isSome).1)])) ?_
          refine aZ rfl rfl (iG (e:=194) (k:=2) (by_:=16) (zs:=[.int .i64 0,.int .i64 0]) (cs:=kA q.2.2.1) (ds:=cT [(((((fG C (C.getD q.2.2.2.1.1 aI).2).getD 0:Nat):Int)),(gS t (C.getD q.2.2.2.1.1 aI) q.2.2.2.1.2 (fG C (C.getD q.2.2.2.1.1 aI).2).isSome).1)]) 5 rfl rfl rfl (by kernel_rfl) (by kernel_rfl) rfl (by decide) (by decide) (by rw [aH9]) (by rw [oO]) (zX _) (by simp only [List.length_cons,List.length_nil];omega) (by simp only [List.length_cons,List.length_nil];omega)) ⟨rfl,rfl,trivial⟩ ?_
          refine cF [_] ?_
          refine cn ?_
          exact (by first|exact Le.turn 1 5 [5,6,7] (by simp) (by simp) (by decide) (by decide) ⟨qM rfl (sU C),qM rfl (by unfold aN;exact dG t),gZ rfl (by simp [aE]),gZ rfl (by simp [aE]),gZ rfl (by simp [aE]),gZ rfl (by simp [aE,dL]),gZ rfl (by simp [aE]),gZ rfl (by simp [aE]),aIA rfl,trivial⟩ ⟨iJ (by decide) (by decide) (by decide) rfl (uG _),mF (by rw [zY];rfl) (zZ _),aAA (by decide) (by decide) (by decide) rfl ⟨xR (by simp),trivial⟩,iJ (by decide) (by decide) (by decide) rfl (by simp [aE]),iJ (by decide) (by decide) (by decide) rfl (by simp [aE]),iD (by decide) (by decide),iD (by decide) (by decide),trivial⟩|exact Le.sub ⟨.inr rfl,.inr rfl,.inr rfl,.inr rfl,.inr rfl,.inr rfl,.inr rfl,.inr rfl,.inr rfl,trivial⟩ ⟨rfl,rfl,rfl,rfl,rfl,rfl,rfl,trivial⟩)
         ·have h5:¬ ((C.getD q.2.2.2.1.1 aI).1=24∨(C.getD q.2.2.2.1.1 aI).1=25):=by simpa using hb
          rw [if_neg h5] at htd1
          subst htd1
          refine aQ ?_
          exact (by first|exact Le.turn 1 5 [5,6,7] (by simp) (by simp) (by decide) (by decide) ⟨qM rfl (sU C),qM rfl (by unfold aN;exact dG t),gZ rfl (by simp [aE]),gZ rfl (by simp [aE]),gZ rfl (by simp [aE]),gZ rfl (by simp [aE,dL]),gZ rfl (by simp [aE]),gZ rfl (by simp [aE]),aIA rfl,trivial⟩ ⟨iJ (by decide) (by decide) (by decide) rfl (uG _),mF (by rw [zY];rfl) (zZ _),aAA (by decide) (by decide) (by decide) rfl ⟨xR (by simp),trivial⟩,iJ (by decide) (by decide) (by decide) rfl (by simp [aE]),iJ (by decide) (by decide) (by decide) rfl (by simp [aE]),iD (by decide) (by decide),iD (by decide) (by decide),trivial⟩|exact Le.sub ⟨.inr rfl,.inr rfl,.inr rfl,.inr rfl,.inr rfl,.inr rfl,.inr rfl,.inr rfl,.inr rfl,trivial⟩ ⟨rfl,rfl,rfl,rfl,rfl,rfl,rfl,trivial⟩)
        ·refine sq ?_
         refine aS 0 1 false ?_
         refine bG ?_
         refine Z1 bz ?_
         refine Z1 mo ?_
         refine aW (R:=[(_,.live _ _)]) rfl rfl rfl cA (fun hC=>mA (k:=2) (ds:=[_,_]) rfl rfl (by kernel_rfl) (by kernel_rfl) rfl rfl (by decide)) (fun hC=>⟨(by first|rfl|exact hC|(simp only [Bool.and_eq_true] at hC;first|exact hC.1|exact hC.1.1|exact hC.2)|simp_all),trivial⟩) ⟨rfl,trivial⟩ ?_
         refine Z4 (fun hC=>ca (ab3 (C.getD q.2.2.2.1.1 aI))) ?_
         refine Z4 (fun hC=>nt) ?_
         refine Z1 an ?_
         refine cn ?_
         refine cd (fun hb=>?_) fun hb=>?_
         ·have h6:(C.getD q.2.2.2.1.1 aI).1≠24∧¬ ((C.getD q.2.2.2.1.1 aI).1=27∨(C.getD q.2.2.2.1.1 aI).1=28∨(C.getD q.2.2.2.1.1 aI).1=29∨(C.getD q.2.2.2.1.1 aI).1=30):=by
           simp only [Bool.and_eq_true,bne_iff_ne,Bool.not_eq_true',Bool.or_eq_false_iff,beq_eq_false_iff_ne,ne_eq] at hb
           omega
          rw [if_pos h6] at htd2
          subst htd2
          refine tx ?_
          refine bG ?_
          refine aS 0 1 false ?_
          refine bG ?_
          refine Z1 ba ?_
          refine Z1 mo ?_
          refine Z1 (bd [(0,1),(1,1)] [.int .i64 0,.int .i64 0] [.val _,.val _]) ?_
          refine Z1 (OC.to (fO (ps:=[.tmp 119]) (xs:=[.agg _]) (e:=194) (k:=2) (by_:=16) (zs:=[.int .i64 0,.int .i64 0]) rfl (by kernel_rfl) (by kernel_rfl) rfl rfl rfl (by decide) (by decide)) (zW [((q.2.2.2.1.1:Int)+1,(gS t (C.getD q.2.2.2.1.1 aI) q.2.2.2.1.2 (fG C (C.getD q.2.2.2.1.1 aI).2).isSome).1)])) ?_
          refine aZ rfl rfl (iG (e:=194) (k:=2) (by_:=16) (zs:=[.int .i64 0,.int .i64 0]) (cs:=kA td1) (ds:=cT [((q.2.2.2.1.1:Int)+1,(gS t (C.getD q.2.2.2.1.1 aI) q.2.2.2.1.2 (fG C (C.getD q.2.2.2.1.1 aI).2).isSome).1)]) 6 rfl rfl rfl (by kernel_rfl) (by kernel_rfl) rfl (by decide) (by decide) (by rw [aH9]) (by rw [oO]) (zX _) (by simp only [List.length_cons,List.length_nil];omega) (by simp only [List.length_cons,List.length_nil];omega)) ⟨rfl,rfl,trivial⟩ ?_
          refine cF [_] ?_
          refine cn ?_
          exact ⟨((q.2.1.set q.2.2.2.1.1 q.2.2.2.1.2),(td1++[(q.2.2.2.1.1+1,(gS t (C.getD q.2.2.2.1.1 aI) q.2.2.2.1.2 (fG C (C.getD q.2.2.2.1.1 aI).2).isSome).1)])),⟨by rw [g1,hpush],by show List.length (List.set _ _ _)=_;rw [List.length_set];exact g2,by show 3*nM (q.2.1.set q.2.2.2.1.1 q.2.2.2.1.2)+(td1++[(q.2.2.2.1.1+1,(gS t (C.getD q.2.2.2.1.1 aI) q.2.2.2.1.2 (fG C (C.getD q.2.2.2.1.1 aI).2).isSome).1)]).length<f0;omega,hin⟩,Le.turn 1 6 [6,7] (by simp) (by simp) (by decide) (by decide) ⟨qM rfl (sU C),qM rfl (by unfold aN;exact dG t),gZ rfl (by simp [aE]),gZ rfl (by simp [aE]),gZ rfl (by simp [aE]),gZ rfl (by simp [aE,dL]),gZ rfl (by simp [aE]),trivial⟩ ⟨iJ (by decide) (by decide) (by decide) rfl (uG _),mF (by rw [zY];rfl) (zZ _),aAA (by decide) (by decide) (by decide) rfl ⟨xR (by simp),trivial⟩,iJ (by decide) (by decide) (by decide) rfl (by simp [aE]),iD (by decide) (by decide),trivial⟩⟩
         ·have h6:¬ ((C.getD q.2.2.2.1.1 aI).1≠24∧¬ ((C.getD q.2.2.2.1.1 aI).1=27∨(C.getD q.2.2.2.1.1 aI).1=28∨(C.getD q.2.2.2.1.1 aI).1=29∨(C.getD q.2.2.2.1.1 aI).1=30)):=by
           rintro ⟨k1,k2⟩
           rw [Bool.and_eq_false_iff] at hb
           simp only [bne_eq_false_iff_eq,Bool.not_eq_false',Bool.or_eq_true,beq_iff_eq] at hb
           omega
          rw [if_neg h6] at htd2
          subst htd2
          refine aQ ?_
          exact ⟨((q.2.1.set q.2.2.2.1.1 q.2.2.2.1.2),td2_),⟨by rw [g1,hpush],by show List.length (List.set _ _ _)=_;rw [List.length_set];exact g2,by show 3*nM (q.2.1.set q.2.2.2.1.1 q.2.2.2.1.2)+td2_.length<f0;omega,hin⟩,Le.sub ⟨.inr rfl,.inr rfl,.inr rfl,.inr rfl,.inr rfl,.inr rfl,.inr rfl,trivial⟩ ⟨rfl,rfl,rfl,rfl,rfl,trivial⟩⟩
   ·obtain ⟨o2,td⟩:=p
    obtain ⟨j1,j2,j3,j4⟩:=hJ
    refine aD ?_
    refine sq ?_
    refine dE 2 [_,_] ?_
    refine cn ?_
    refine tx ?_
    refine Z2 (al 7 [.int .i64 0,.int .i64 0]) ?_
    refine bW [_,_] ?_
    refine cn ?_
    rcases List.eq_nil_or_concat td with hn|⟨r2,x2,hn⟩
    ·subst hn
     refine tx ?_
     refine Z1 mo ?_
     refine aZ rfl rfl (oI [] rfl rfl (by kernel_rfl) ((ab4).m) rfl (by simp) (by simp [bQ]) (by simp) (by simp) (by simp [aO,aH,pL,lC,pM]) (by simp [jR,bJ,aO,aH,pL,lC,pM]) (by simp [aH,aO,pL,lC,pM]) (by simp [jR,bJ,aO,aH,pL,lC,pM])) ⟨rfl,rfl,trivial⟩ ?_
     refine Z1 mo ?_
     refine Z1 ex ?_
     refine Z1 ex ?_
     refine bW [_,_] ?_
     refine Z1 aB ?_
     refine cn ?_
     exact ⟨(f0,o2,[],(0,0),false),⟨fun _=>⟨by rw [j1,ab5],j2⟩,fun h=>by cases h⟩,by show f0<_;omega,Le.turn 3 7 [4,5,6,7] (by simp) (by simp) (by decide) (by decide) ⟨qM rfl (sU C),qM rfl (by unfold aN;exact dG t),gZ rfl (by simp [aE]),gZ rfl (by simp [aE]),gZ rfl (by simp [aE]),gZ rfl (by simp [aE,dL]),aIB,gZ rfl (by simp [aE]),trivial⟩ ⟨iJ (by decide) (by decide) (by decide) rfl (uG _),iJ (by decide) (by decide) (by decide) rfl (zZ _),iJ (by decide) (by decide) (by decide) rfl (by simp [aE]),mF rfl (by simp [aE]),iD (by decide) (by decide),iD (by decide) (by decide),iD (by decide) (by decide),iD (by decide) (by decide),trivial⟩⟩
    ·rw [List.concat_eq_append] at hn
     subst hn
     refine tx ?_
     refine Z1 mo ?_
     refine aZ rfl rfl (oI [] rfl rfl (by kernel_rfl) ((aPR r2 x2 (by have:=j3;simp at this;omega)).m) rfl (by simp) (by simp [bQ]) (by simp) (by simp) (by simp [aO,aH,pL,lC,pM]) (by simp [jR,bJ,aO,aH,pL,lC,pM]) (by simp [aH,aO,pL,lC,pM]) (by simp [jR,bJ,aO,aH,pL,lC,pM])) ⟨rfl,rfl,trivial⟩ ?_
     refine Z1 mo ?_
     refine Z1 ex ?_
     refine Z1 ex ?_
     refine bW [_,_] ?_
     refine Z1 aB ?_
     refine cn ?_
     exact ⟨(f0,o2,r2,x2,true),⟨fun h=>(by cases h),fun _=>⟨j1,j2,by show 3*nM o2+(r2.length+1)<f0;simp at j3;omega,j4,by show f0≤_;omega⟩⟩,by show f0<_;omega,Le.turn 3 7 [4,5,6,7] (by simp) (by simp) (by decide) (by decide) ⟨qM rfl (sU C),qM rfl (by unfold aN;exact dG t),gZ rfl (by simp [aE]),gZ rfl (by simp [aE]),gZ rfl (by simp [aE]),gZ rfl (by simp [aE,dL]),aIB,gZ rfl (by simp [aE]),trivial⟩ ⟨iJ (by decide) (by decide) (by decide) rfl (uG _),iJ (by decide) (by decide) (by decide) rfl (zZ _),iJ (by decide) (by decide) (by decide) rfl (by simp [aE]),mF rfl (by simp [aE]),iD (by decide) (by decide),iD (by decide) (by decide),iD (by decide) (by decide),iD (by decide) (by decide),trivial⟩⟩
  ·have hmo:q.2.2.2.2=false:=hb
   refine bU ?_
   refine aD ?_
   obtain ⟨e1,e2⟩:=hI0 hmo
   refine bS (Le.freeze 7 0 (fun j=>vi (q.2.1.getD j 0)) rfl rfl (by rw [List.length_map,e2]) (fun j hj=>zN q.2.1 j (by omega))) ?_
   refine tx ?_
   refine Z1 mo ?_
   refine Z1 aB ?_
   refine Z1 aB ?_
   refine cn ?_
   refine aP ?_
   exact ⟨.inl rfl,by rw [aDI e1];exact aF.two rfl (aT.tmp (by show Av.sl 1 C.length _=Av.sl 1 (List.length _) _;rw [e2])) (aT.tmp rfl),trivial⟩
end Go.Proofs.YtnklgkjfoggpbaaGreatDoor
