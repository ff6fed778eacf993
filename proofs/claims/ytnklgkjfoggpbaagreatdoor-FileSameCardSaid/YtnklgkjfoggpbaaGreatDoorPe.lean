/- Parts of the proof of a law of this seat: rules and contracts; no conditions. -/
import Derived.Test.YtnklgkjfoggpbaaGreatDoorLt
import Derived.Test.YtnklgkjfoggpbaaGreatDoorWireSpec
import Derived.Test.YtnklgkjfoggpbaaGreatDoorBlg
import Derived.Test.YtnklgkjfoggpbaaGreatDoorAlphaC
import Derived.Test.YtnklgkjfoggpbaaGreatDoorTexts
import Derived.Test.YtnklgkjfoggpbaaGreatDoorAlphaP
import Derived.Test.YtnklgkjfoggpbaaGreatDoorProg
import Derived.KernelRfl
import Derived.Test.YtnklgkjfoggpbaaGreatDoorPk
set_option maxHeartbeats 6400000
set_option maxRecDepth 100000
set_option linter.unusedVariables false
set_option linter.unusedSimpArgs false
namespace Go.Proofs.YtnklgkjfoggpbaaGreatDoor
open Go.RowKit
theorem aIM (s:ByteArray)(hs:s.size≤1000000000):PC Tryz.prog 25 [vs s] (vb (cN (tB s))):=by
 intro E vs' hG hA _ _ _
 unfold aG aG at hA
 obtain ⟨v,us,rfl,hv,rfl⟩:=hA
 unfold aA at hv
 subst hv
 refine (aF6 s E.w hs).mono ?_
 rintro en w' ⟨rfl,rfl⟩
 exact ⟨E,_,rfl,rfl,hG,(Step.refl E).kept (by simp),by unfold aA;rfl,fun n y hn=>by simp [aL] at hn⟩
theorem ahD {f:FuncId}{e:TypeId}{ls zs:List Int}{P:Program}(h:∀ A c w,Rd w w.heap.size A (cb .i64 ls)→ls.length≤c→Calls P f #[.slice A ls.length c] w (kG w e (cb .u8 zs))):PC P f [aK ls] (bs zs):=by
 intro E vs hG hA _ _ _
 unfold aG aG at hA
 obtain ⟨v,us,rfl,hv,rfl⟩:=hA
 obtain ⟨A,c,rfl,h1,_,h2⟩:=aKM hv
 refine (h A c E.w h2 h1).mono ?_
 rintro en w' ⟨B,n,cc,rfl,hown,hb⟩
 exact ⟨{ E with w:=w' },_,rfl,rfl,hG.grow hb,(Step.grow hG hb).kept (by simp),aKB hG hown hb,fun n y hn=>by simp [aL] at hn⟩
theorem aSS {E:Env}{zs:List Int}{k:Int}{v:Value}(h:aA E (aK zs) v):aA E (.tup [aK zs,vi k]) (.tuple #[v,.int .i64 k]):=by
 unfold aA
 refine ⟨[_,_],rfl,?_⟩
 unfold aG aG aG
 exact ⟨_,_,rfl,h,_,_,rfl,by unfold aA;rfl,rfl⟩
theorem ahE {f:FuncId}{e:TypeId}{s:ByteArray}{zs:List Int}{k:Int}{P:Program}(h:∀ w,Calls P f #[.string s] w fun en w'=>∃ A n c,en=.returned (.tuple #[.slice A n c,.int .i64 k])∧bA w' w.heap.size e (.slice A n c) (cb .i64 zs)∧Below w.heap.size w w'):PC P f [vs s] (.tup [aK zs,vi k]):=by
 intro E us hG hA _ _ _
 unfold aG aG at hA
 obtain ⟨v,us,rfl,hv,rfl⟩:=hA
 unfold aA at hv
 subst hv
 refine (h E.w).mono ?_
 rintro en w' ⟨A,n,c,rfl,hown,hb⟩
 exact ⟨{ E with w:=w' },_,rfl,rfl,hG.grow hb,(Step.grow hG hb).kept (by simp),aSS (aB5 hG hown hb),fun n y hn=>by simp [aL] at hn⟩
theorem ahF {f:FuncId}{e:TypeId}{xs zs:List Int}{k:Int}{P:Program}(h:∀ A c w,Rd w w.heap.size A (cb .u8 xs)→xs.length≤c→Calls P f #[.slice A xs.length c] w fun en w'=>∃ A n c,en=.returned (.tuple #[.slice A n c,.int .i64 k])∧bA w' w.heap.size e (.slice A n c) (cb .i64 zs)∧Below w.heap.size w w'):PC P f [bs xs] (.tup [aK zs,vi k]):=by
 intro E us hG hA _ _ _
 unfold aG aG at hA
 obtain ⟨v,us,rfl,hv,rfl⟩:=hA
 obtain ⟨A,c,rfl,h1,_,h2⟩:=aBC hv
 refine (h A c E.w h2 h1).mono ?_
 rintro en w' ⟨A',n,c',rfl,hown,hb⟩
 exact ⟨{ E with w:=w' },_,rfl,rfl,hG.grow hb,(Step.grow hG hb).kept (by simp),aSS (aB5 hG hown hb),fun n y hn=>by simp [aL] at hn⟩
theorem ahG {f:FuncId}{ls:List Int}{s:ByteArray}{k:Int}{P:Program}(h:∀ A c w,Rd w w.heap.size A (cb .i64 ls)→ls.length≤c→c≤9223372036854775807→Calls P f #[.slice A ls.length c] w fun en w'=>en=.returned (.tuple #[.string s,.int .i64 k])∧Below w.heap.size w w'):PC P f [aK ls] (.tup [vs s,vi k]):=by
 intro E us hG hA _ _ _
 unfold aG aG at hA
 obtain ⟨v,us,rfl,hv,rfl⟩:=hA
 obtain ⟨A,c,rfl,h1,h3,h2⟩:=aKM hv
 refine (h A c E.w h2 h1 h3).mono ?_
 rintro en w' ⟨rfl,hb⟩
 refine ⟨{ E with w:=w' },_,rfl,rfl,hG.grow hb,(Step.grow hG hb).kept (by simp),?_,fun n y hn=>by simp [aL] at hn⟩
 unfold aA
 refine ⟨[_,_],rfl,?_⟩
 unfold aG aG aG
 exact ⟨_,_,rfl,by unfold aA;rfl,_,_,rfl,by unfold aA;rfl,rfl⟩
theorem acJ (ls:List Int)(hl:ls.length≤1000000):PC Tryz.prog 27 [aK ls] (bs (fW ls)):=ahD (e:=5) fun A c w h1 h2=>aWI A _ c ls w h1 rfl (by omega)
theorem ahH (s:ByteArray)(hs:s.size≤100000000):PC Tryz.prog 93 [vs s] (.tup [aK (jF (tB s)).1,vi (jF (tB s)).2]):=ahE (e:=3) fun w=>aBZ s w hs
theorem aZN (xs:List Int)(hl:xs.length≤1000000)(hb:dC xs):PC Tryz.prog 193 [bs xs] (.tup [aK (gD xs).1,vi (gD xs).2]):=ahF (e:=3) fun A c w h1 h2=>aWM A _ c xs w h1 rfl hb (by omega)
theorem ag5 (ls:List Int)(hl:ls.length≤1000000):PC Tryz.prog 204 [aK ls] (.tup [vs (strOfNums (aText ls).1),vi (aText ls).2]):=ahG fun A c w h1 h2 h3=>ahC A _ c ls w h1 rfl h2 h3 (by omega)
structure PoolP where
 abbrevs:List ByteArray
 at_:List Int
 bytes:List Int
def aAE:PoolP:=⟨[],[],[]⟩
def kO (p:PoolP):Av:=.agg [bB p.abbrevs,aK p.at_,bs p.bytes]
theorem sQ (p:PoolP):aN (kO p):=by unfold kO aN;simp [bE,bV,cP,oP]
def iM (p:bX):List Int:=if p.2>0 then [30,p.2-1] else (jF (tB p.1)).1
def gJ (l:List bX):Nat→List Int
 | 0=>[]
 | k+1=>gJ l k++iM (l.getD k dJ)
def gT (s:ByteArray)(ab:List ByteArray):List Int:=gJ (bL s ab) (bL s ab).length
theorem ahI (c:Int):(cS c).length≤3:=by
 unfold cS
 repeat' split
 all_goals first|(simp;done)|(simp;omega)
theorem aST:∀ l:List Int,(bC l).length≤3*l.length
 | []=>by simp [bC]
 | c::l=>by
  have:=aST l
  have h:=ahI c
  show (cS c++bC l).length≤_
  rw [List.length_append,List.length_cons]
  omega
theorem aSU (p:bX)(n:Nat)(h:p.1.size≤n):(iM p).length≤3*n+2:=by
 unfold iM jF
 split
 ·simp
 ·split
  ·have:=aST (tB p.1)
   rw [fK] at this
   show (bC (tB p.1)).length≤_
   omega
  ·simp
theorem aSV {l:List bX}{n:Nat}(h:iX n l):∀ k,(gJ l k).length≤(3*n+2)*k
 | 0=>Nat.zero_le _
 | k+1=>by
  have h1:=aSV h k
  have h2:=aSU (l.getD k dJ) n (h k)
  show (gJ l k++iM (l.getD k dJ)).length≤_
  rw [List.length_append,Nat.mul_succ]
  omega
theorem ahJ {s:ByteArray}(ab:List ByteArray):iX s.size (bL s ab)∧(bL s ab).length≤2*s.size+3:=by
 have:=aFZ (s:=s) (ab:=ab) (s.size+1) 0 0 [] (iX.nil _)
 refine ⟨this.1,?_⟩
 have h2:=this.2
 show (lT s ab (s.size+1) 0 0 []).length≤_
 simp only [List.length_nil] at h2
 omega
theorem ahK {s:ByteArray}(ab:List ByteArray):∀ k,0≤((bL s ab).getD k dJ).2∧((bL s ab).getD k dJ).2≤32:=fun k=>by
 rcases Nat.lt_or_ge k (bL s ab).length with h|h
 ·have hm:(bL s ab).getD k dJ∈bL s ab:=by rw [List.getD,List.getElem?_eq_getElem h];exact List.getElem_mem h
  have:=aCX (s:=s) (ab:=ab) (s.size+1) 0 0 [] (fun p hp=>by simp at hp) _ hm
  unfold pH at this
  simp only [Bool.or_eq_false_iff,decide_eq_false_iff_not] at this
  omega
 ·rw [List.getD,List.getElem?_eq_none h]
  decide
theorem ahL {a b c d:Nat}(h:a≤c)(h':b≤d):a*b≤c*d:=Nat.mul_le_mul h h'
theorem ahM (a b:Int):∀ j,j<2→eQ (gE [vi a,vi b] j) 1=true∧∀ i y,i<1→[vi a,vi b][j*1+i]?=some y→(cL (gE [vi a,vi b] j))[i]?=some y:=fun j hj=>by
 rcases j with _|_|j
 ·refine ⟨rfl,fun i y hi hy=>?_⟩
  have:i=0:=by omega
  subst this
  exact hy
 ·refine ⟨rfl,fun i y hi hy=>?_⟩
  have:i=0:=by omega
  subst this
  exact hy
 ·omega
theorem aP3 (c:Int):∀ j,j<1→eQ (gE [vi c] j) 1=true∧∀ i y,i<1→[vi c][j*1+i]?=some y→(cL (gE [vi c] j))[i]?=some y:=fun j hj=>by
 have:j=0:=by omega
 subst this
 refine ⟨rfl,fun i y hi hy=>?_⟩
 have:i=0:=by omega
 subst this
 exact hy
instance (p:PoolP):Pu (kO p):=⟨sQ p⟩
theorem aDR (π:Nat→Nat)(l:List Int):(l.map vi).map (Av.ren π)=l.map vi:=by rw [List.map_map];rfl
theorem aKN {l:List bX}{k:Nat}:gJ l (k+1)=gJ l k++iM (l.getD k dJ):=rfl
theorem acI (s:ByteArray)(ab:List ByteArray)(hs:s.size≤2000)(hb2:∀ k,(ab.getD k ByteArray.empty).size≤1000000)(hbl:ab.length≤1000000):PC Tryz.prog 28 [vs s,bB ab] (aK (gT s ab)):=by
 obtain ⟨hz,hzl⟩:=ahJ (s:=s) ab
 have hca:=ahK (s:=s) ab
 refine FC.body 3 38 Tryz.func28 rfl (by kernel_rfl) ?_
 refine W ?_
 refine Z1 (ca (aXV s ab (by omega) hb2 hbl)) ?_
 refine V ?_
 refine aU ?_
 refine bS (Le.nameNil 5 0 1 3 rfl rfl) ?_
 refine bM (ι:=Nat) (fun k=>⟨[(5,.osl 1 0 (gJ (bL s ab) k).length),(12,rH (bL s ab)),(13,vi ((bL s ab).length:Int)),(14,vi k)],[(0,.live 3 ((gJ (bL s ab) k).map vi)),(1,.unborn),(2,.unborn)]⟩) (fun k=>k≤(bL s ab).length) (fun k=>(bL s ab).length-k) 0 (Nat.zero_le _) (Le.sub ⟨.inr rfl,.inr rfl,.inr rfl,.inr rfl,trivial⟩ ⟨rfl,rfl,rfl,trivial⟩) ?_
 intro k hI
 refine W ?_
 refine cd (fun hb=>?_) fun hb=>?_
 ·have hlt:k<(bL s ab).length:=by have h0:=of_decide_eq_true hb;omega
  have hps:=hz k
  have hka:=hca k
  have hcl:=aSV hz k
  have hcb:(gJ (bL s ab) k).length≤100000000:=by have:=ahL (a:=3*s.size+2) (b:=k) (c:=6002) (d:=4003) (by omega) (by omega);omega
  have hpl:=aSU ((bL s ab).getD k dJ) s.size (hz k)
  refine W ?_
  refine Z2 (al 2 [.string ⟨#[]⟩,.int .i64 0]) ?_
  refine bW [_,_] ?_
  refine W ?_
  refine aS 1 1 false ?_
  refine W ?_
  refine cd (fun hb=>?_) fun hb=>?_
  ·have hpos:((bL s ab).getD k dJ).2>0:=of_decide_eq_true hb
   have hst:gJ (bL s ab) (k+1)=(gJ (bL s ab) k)++[30,((bL s ab).getD k dJ).2-1]:=by rw [aKN];unfold iM;rw [if_pos hpos]
   refine W ?_
   refine aS 1 1 false ?_
   refine W ?_
   refine Z1 (fO (ps:=[_,.tmp 24]) (xs:=[.val _,.val _]) (e:=3) (k:=1) (by_:=8) (zs:=[.int .i64 0]) rfl (by kernel_rfl) (by kernel_rfl) rfl rfl rfl (by decide) (by decide)) ?_
   refine aZ rfl rfl (iG (e:=3) (k:=1) (by_:=8) (zs:=[.int .i64 0]) (cs:=(gJ (bL s ab) k).map vi) (ds:=[vi 30,vi (((bL s ab).getD k dJ).2-1)]) 1 rfl rfl rfl (by kernel_rfl) (by kernel_rfl) rfl (by decide) (by decide) (by simp) rfl (ahM _ _) (by omega) (by omega)) ⟨rfl,rfl,trivial⟩ ?_
   refine V ?_
   refine bS (Le.trans (Le.swap (τ:=⟨[(5,.osl 1 0 ((gJ (bL s ab) k)++[30,((bL s ab).getD k dJ).2-1]).length),(12,rH (bL s ab)),(13,vi ((bL s ab).length:Int)),(14,vi k)],[(0,.live 3 (((gJ (bL s ab) k)++[30,((bL s ab).getD k dJ).2-1]).map vi))]⟩) 0 1 (by simp) (by simp) ⟨by rw [List.length_append];rfl,(iR _ _ (qD _)).symm,rfl,rfl,trivial⟩ ⟨by show aL _ 1=some (Hs.live _ ((((gJ (bL s ab) k)++[30,((bL s ab).getD k dJ).2-1]).map vi).map _));rw [aDR];simp only [List.map_append];rfl,trivial⟩) (Le.reset (τ:=⟨[(5,.osl 1 0 ((gJ (bL s ab) k)++[30,((bL s ab).getD k dJ).2-1]).length),(12,rH (bL s ab)),(13,vi ((bL s ab).length:Int)),(14,vi k)],[(0,.live 3 (((gJ (bL s ab) k)++[30,((bL s ab).getD k dJ).2-1]).map vi)),(1,.unborn),(2,.unborn)]⟩) [1,2] (by simp) ⟨.inr rfl,.inr rfl,.inr rfl,.inr rfl,trivial⟩ ⟨by simp [aE],aE.of_pure _ (qD _),by simp [aE],by simp [aE],trivial⟩ ⟨by rw [if_neg (by decide)];exact ⟨rfl,uG _⟩,by rw [if_pos (by decide)],by rw [if_pos (by decide)],trivial⟩)) ?_
   refine W ?_
   exact ⟨k+1,by omega,by omega,Le.sub ⟨.inr (by show bN _ 5=Av.osl 1 0 (gJ (bL s ab) (k+1)).length;rw [hst];rfl),.inr rfl,.inr rfl,.inr (aR (by omega)),trivial⟩ ⟨by rw [hst];rfl,rfl,rfl,trivial⟩⟩
  ·have hpos:¬ ((bL s ab).getD k dJ).2>0:=of_decide_eq_false hb
   have hpc:iM ((bL s ab).getD k dJ)=(jF (tB ((bL s ab).getD k dJ).1)).1:=by unfold iM;rw [if_neg hpos]
   rw [hpc] at hpl
   have hst:gJ (bL s ab) (k+1)=(gJ (bL s ab) k)++(jF (tB ((bL s ab).getD k dJ).1)).1:=by rw [aKN,hpc]
   refine W ?_
   refine aS 0 1 false ?_
   refine W ?_
   refine Z1 (ca (ahH ((bL s ab).getD k dJ).1 (by omega))) ?_
   refine W ?_
   refine aZ rfl rfl (iG (e:=3) (k:=1) (by_:=8) (zs:=[.int .i64 0]) (cs:=(gJ (bL s ab) k).map vi) (ds:=((jF (tB ((bL s ab).getD k dJ).1)).1).map vi) 1 rfl rfl rfl (by kernel_rfl) (by kernel_rfl) rfl (by decide) (by decide) (by simp) (by simp) (ad3 _) (by omega) (by omega)) ⟨rfl,rfl,trivial⟩ ?_
   refine V ?_
   refine bS (Le.trans (Le.swap (τ:=⟨[(5,.osl 1 0 ((gJ (bL s ab) k)++(jF (tB ((bL s ab).getD k dJ).1)).1).length),(12,rH (bL s ab)),(13,vi ((bL s ab).length:Int)),(14,vi k)],[(0,.live 3 (((gJ (bL s ab) k)++(jF (tB ((bL s ab).getD k dJ).1)).1).map vi))]⟩) 0 1 (by simp) (by simp) ⟨by rw [List.length_append];rfl,(iR _ _ (qD _)).symm,rfl,rfl,trivial⟩ ⟨by show aL _ 1=some (Hs.live _ ((((gJ (bL s ab) k)++(jF (tB ((bL s ab).getD k dJ).1)).1).map vi).map _));rw [aDR];simp only [List.map_append];rfl,trivial⟩) (Le.reset (τ:=⟨[(5,.osl 1 0 ((gJ (bL s ab) k)++(jF (tB ((bL s ab).getD k dJ).1)).1).length),(12,rH (bL s ab)),(13,vi ((bL s ab).length:Int)),(14,vi k)],[(0,.live 3 (((gJ (bL s ab) k)++(jF (tB ((bL s ab).getD k dJ).1)).1).map vi)),(1,.unborn),(2,.unborn)]⟩) [1,2] (by simp) ⟨.inr rfl,.inr rfl,.inr rfl,.inr rfl,trivial⟩ ⟨by simp [aE],aE.of_pure _ (qD _),by simp [aE],by simp [aE],trivial⟩ ⟨by rw [if_neg (by decide)];exact ⟨rfl,uG _⟩,by rw [if_pos (by decide)],by rw [if_pos (by decide)],trivial⟩)) ?_
   refine W ?_
   exact ⟨k+1,by omega,by omega,Le.sub ⟨.inr (by show bN _ 5=Av.osl 1 0 (gJ (bL s ab) (k+1)).length;rw [hst];rfl),.inr rfl,.inr rfl,.inr (aR (by omega)),trivial⟩ ⟨by rw [hst];rfl,rfl,rfl,trivial⟩⟩
 ·have hge:k=(bL s ab).length:=by have h0:=of_decide_eq_false hb;omega
  refine bU ?_
  refine aD ?_
  refine bS (Le.freeze 5 0 (fun j=>vi ((gJ (bL s ab) k).getD j 0)) rfl rfl (by simp) (zN _)) ?_
  refine W ?_
  exact ⟨.inl rfl,aF.tmp rfl (by rw [hge];rfl),trivial⟩
def eS (c:Int):Nat:=if c=27∨c=28∨c=30 then 2 else if c=29 then 3 else 1
theorem aOU (c:Int):1≤eS c∧eS c≤3:=by
 unfold eS
 repeat' split
 all_goals omega
def nG (l:List Int)(i j:Nat):List Int:=(l.drop i).take (j-i)
noncomputable def segT (l:List Int)(i j:Nat):ByteArray:=strOfNums (aText (nG l i j)).1
noncomputable def segE (l:List Int)(i j:Nat):Int:=(aText (nG l i j)).2
theorem aKD (l:List Int){i j:Nat}(h:i≤j)(hj:j≤l.length):(nG l i j).length=j-i:=by
 unfold nG
 rw [List.length_take,List.length_drop]
 omega
theorem ag0 (l:List Int):(strOfNums l).size=l.length:=by
 have:(strOfNums l).data.toList.length=(strOfNums l).size:=by rw [Array.length_toList];rfl
 rw [←this]
 unfold strOfNums
 simp
theorem aKE:∀ l:List Int,(∀ c∈l,eZ c=true)→l.length≤(bC l).length
 | [],_=>Nat.zero_le _
 | c::l,h=>by
  have h1:=aKE l fun x hx=>h x (List.mem_cons_of_mem _ hx)
  have h2:=rF c (h c (List.mem_cons_self ..))
  show _≤(cS c++bC l).length
  rw [List.length_append,List.length_cons]
  omega
theorem aEZ (l:List Int){i j:Nat}(h:i≤j)(hj:j≤l.length):(segT l i j).size≤j-i:=by
 unfold segT
 rw [ag0]
 rcases aSP (nG l i j) with ⟨t,h1,h2,h3⟩|h3
 ·rw [h3]
  have h4:=aKE t (pA h1)
  rw [h2,aKD l h hj] at h4
  exact h4
 ·rw [h3];exact Nat.zero_le _
theorem aHI (l:List Int)(i j:Nat):segE l i j=0∨segE l i j=16:=by
 unfold segE
 rcases aSP (nG l i j) with ⟨t,_,_,h⟩|h
 ·rw [h];exact .inl rfl
 ·rw [h];exact .inr rfl
def rL (out t:ByteArray)(e:Int):ByteArray × Int:=if e≠0 then (ByteArray.empty,e) else if cN (tB (out++t))=true then (out++t,0) else (ByteArray.empty,13)
noncomputable def unF (l:List Int)(ab:List ByteArray):Nat→Nat→Nat→ByteArray→ByteArray × Int
 | 0,row,at_,out=>(ByteArray.empty,0)
 | f+1,row,at_,out=>if at_<l.length then
  (
   if l.length-at_<eS (l.getD at_ 0) then (ByteArray.empty,if segE l row l.length=0 then 16 else segE l row l.length)
   else if l.getD at_ 0≠30 then unF l ab f row (at_+eS (l.getD at_ 0)) out
   else if segE l row at_≠0 then (ByteArray.empty,segE l row at_)
   else if l.getD (at_+1) 0≥(ab.length:Int) then (ByteArray.empty,11)
   else unF l ab f (at_+2) (at_+2) ((out++segT l row at_)++ab.getD (l.getD (at_+1) 0).toNat ByteArray.empty))
  else rL out (segT l row l.length) (segE l row l.length)
noncomputable def unpackedP (l:List Int)(ab:List ByteArray):ByteArray × Int:=unF l ab (l.length+1) 0 0 ByteArray.empty
theorem ag1 {l:List Int}{i j:Nat}(h:i≤j)(hj:j≤l.length)(E:Env)(v:Value)(hr:aA E (.sl 1 (j-i) (fun k=>(fun n=>vi (l.getD n 0)) (k+i))) v):aA E (aK (nG l i j)) v:=by
 unfold aK
 rw [aKD l h hj]
 refine pI (fun E k hk v hv=>?_) E v hr
 have e:(nG l i j).getD k 0=l.getD (k+i) 0:=by
  unfold nG
  rw [List.getD,List.getD,List.getElem?_take,if_pos hk,List.getElem?_drop]
  congr 2
  omega
 rw [e]
 exact hv
abbrev ag2:=Bool × Nat × Nat × ByteArray
abbrev UnJ:=Bool × Nat × Nat × ByteArray × Int
theorem ag4 (c:Int):PC Tryz.prog 202 [vi c] (vi (eS c:Int)):=by
 refine FC.body 6 10 Tryz.func202 rfl (by kernel_rfl) ?_
 refine W ?_
 refine cd (fun hb=>?_) fun hb=>?_
 ·refine W ?_
  refine cd (fun hb=>?_) fun hb=>?_
  ·refine W ?_
   exact ⟨.inl rfl,aF.tmp rfl (aR (by unfold eS;(repeat (any_goals split))<;>first|rfl|(exfalso;simp_all;done)|(exfalso;simp_all;omega))),trivial⟩
  ·refine W ?_
   refine cd (fun hb=>?_) fun hb=>?_
   ·refine W ?_
    exact ⟨.inl rfl,aF.tmp rfl (aR (by unfold eS;(repeat (any_goals split))<;>first|rfl|(exfalso;simp_all;done)|(exfalso;simp_all;omega))),trivial⟩
   ·refine W ?_
    exact ⟨.inl rfl,aF.tmp rfl (aR (by unfold eS;(repeat (any_goals split))<;>first|rfl|(exfalso;simp_all;done)|(exfalso;simp_all;omega))),trivial⟩
 ·refine W ?_
  refine cd (fun hb=>?_) fun hb=>?_
  ·refine W ?_
   refine cd (fun hb=>?_) fun hb=>?_
   ·refine W ?_
    exact ⟨.inl rfl,aF.tmp rfl (aR (by unfold eS;(repeat (any_goals split))<;>first|rfl|(exfalso;simp_all;done)|(exfalso;simp_all;omega))),trivial⟩
   ·refine W ?_
    refine cd (fun hb=>?_) fun hb=>?_
    ·refine W ?_
     exact ⟨.inl rfl,aF.tmp rfl (aR (by unfold eS;(repeat (any_goals split))<;>first|rfl|(exfalso;simp_all;done)|(exfalso;simp_all;omega))),trivial⟩
    ·refine W ?_
     exact ⟨.inl rfl,aF.tmp rfl (aR (by unfold eS;(repeat (any_goals split))<;>first|rfl|(exfalso;simp_all;done)|(exfalso;simp_all;omega))),trivial⟩
  ·refine W ?_
   refine cd (fun hb=>?_) fun hb=>?_
   ·refine W ?_
    exact ⟨.inl rfl,aF.tmp rfl (aR (by unfold eS;(repeat (any_goals split))<;>first|rfl|(exfalso;simp_all;done)|(exfalso;simp_all;omega))),trivial⟩
   ·refine W ?_
    refine cd (fun hb=>?_) fun hb=>?_
    ·refine W ?_
     exact ⟨.inl rfl,aF.tmp rfl (aR (by unfold eS;(repeat (any_goals split))<;>first|rfl|(exfalso;simp_all;done)|(exfalso;simp_all;omega))),trivial⟩
    ·refine W ?_
     exact ⟨.inl rfl,aF.tmp rfl (aR (by unfold eS;(repeat (any_goals split))<;>first|rfl|(exfalso;simp_all;done)|(exfalso;simp_all;omega))),trivial⟩
theorem aBD (u:Bool)(l:List Int)(row at_:Nat)(w:Int)(out:ByteArray)(hl:l.length≤100000)(h1:row≤at_)(h2:at_≤l.length)(ho:out.size≤1000000000):iO Tryz.prog 203 [.ptr (aK l),.own 3 0,.own 4 0,.own 0 0,.own 5 0] [(0,.live 248 [oB u,.osl 1 1 out.size]),(3,.live 3 [vi (row:Int)]),(4,.live 3 [vi (at_:Int)]),(5,.live 33 [vi w])] [(1,.live 5 (dP out))] (vb (segE l row at_==0)) [(0,.live 248 [.own 0 0,.osl 1 2 (out++segT l row at_).size]),(3,.live 3 [vi (row:Int)]),(4,.live 3 [vi (at_:Int)]),(5,.live 33 [vi (segE l row at_)]),(2,.live 5 (dP (out++segT l row at_)))]:=by
 refine iO.body 6 21 Tryz.func203 rfl (by kernel_rfl) ?_
 refine W ?_
 refine Z1 (OC.to (aC2 (e:=3) (by_:=8) (zs:=[.int .i64 0]) row at_ rfl rfl rfl rfl (by kernel_rfl) (by kernel_rfl) h1 h2) (ag1 h1 h2)) ?_
 refine Z1 (ca (ag5 (nG l row at_) (by rw [aKD l h1 h2];omega))) ?_
 refine W ?_
 refine aZ rfl rfl (dB [2] rfl (by kernel_rfl) (aL1 u out (segT l row at_) (by have:=aEZ l h1 h2;omega)) rfl (by simp) (by simp [bQ]) (by simp) (by simp) (by simp [aO,aH]) ⟨by unfold oB;cases u<;>simp [bJ,aO,aH],jX _,trivial⟩ (by simp [aH,aO]) ⟨by simp [bJ,aO,aH],jX _,trivial⟩) ⟨rfl,rfl,rfl,trivial⟩ ?_
 refine W ?_
 refine cF [_] ?_
 refine W ?_
 exact ⟨.inl rfl,aF.tmp rfl rfl,⟨rfl,rfl,rfl,rfl,rfl,trivial⟩⟩
theorem aBE {Z:Nat→Prop}(l:List Int)(h0:Z 0)(h3:Z 3)(h4:Z 4)(h5:Z 5):aO Z [.ptr (aK l),.own 3 0,.own 4 0,.own 0 0,.own 5 0]:=by
 unfold aO aO aO aO aO aO
 exact ⟨aH.of_pure _ (by unfold aN;exact cP l),by unfold aH;exact h3,by unfold aH;exact h4,by unfold aH;exact h0,by unfold aH;exact h5,trivial⟩
theorem aKF {Z:List Nat}(l:List Int)(h0:0∉Z)(h3:3∉Z)(h4:4∉Z)(h5:5∉Z):aE Z (.clo 203 [.ptr (aK l),.own 3 0,.own 4 0,.own 0 0,.own 5 0]):=by
 unfold aE dL dL dL dL dL dL
 exact ⟨aE.of_pure _ (by unfold aN;exact cP l),by unfold aE;exact h3,by unfold aE;exact h4,by unfold aE;exact h0,by unfold aE;exact h5,trivial⟩
theorem aKG (l:List Int):(Av.clo 203 [.ptr (aK l),.own 3 0,.own 4 0,.own 0 0,.own 5 0])=(Av.clo 203 [.ptr (aK l),.own 3 0,.own 4 0,.own 0 0,.own 5 0]).ren (fI 1 2):=by
 simp only [Av.ren,mY]
 rw [iR _ _ (cP l)]
 rfl
theorem aKH (l:List Int):(Av.ptr (aK l))=(Av.ptr (aK l)).ren (fI 1 2):=(iR _ _ (by unfold aN;exact cP l)).symm
theorem aOV {l:List Int}{ab:List ByteArray}{f row at_:Nat}{out:ByteArray}(h:¬ at_<l.length)(hf:f≠0):unF l ab f row at_ out=rL out (segT l row l.length) (segE l row l.length):=by
 obtain ⟨g,rfl⟩:∃ g,f=g+1:=⟨f-1,by omega⟩
 unfold unF
 rw [if_neg h]
theorem vV {l:List Int}{ab:List ByteArray}{f row at_:Nat}{out:ByteArray}(h:at_<l.length):unF l ab (f+1) row at_ out=(if l.length-at_<eS (l.getD at_ 0) then (ByteArray.empty,if segE l row l.length=0 then 16 else segE l row l.length)
 else if l.getD at_ 0≠30 then unF l ab f row (at_+eS (l.getD at_ 0)) out
 else if segE l row at_≠0 then (ByteArray.empty,segE l row at_)
 else if l.getD (at_+1) 0≥(ab.length:Int) then (ByteArray.empty,11)
 else unF l ab f (at_+2) (at_+2) ((out++segT l row at_)++ab.getD (l.getD (at_+1) 0).toNat ByteArray.empty)):=by
 show (if _ then _ else _)=_
 rw [if_pos h]
theorem ag6 {s:ByteArray}(h:s.size=0):s=ByteArray.empty:=by
 have hl:s.data.toList.length=0:=by rw [Array.length_toList];exact h
 exact ByteArray.ext (Array.toList_inj.1 (List.eq_nil_of_length_eq_zero hl))
theorem aZO (l:List Int)(hl:l.length≤10000)(hpos:∀ k,0≤l.getD k 0)(ab:List ByteArray)(hab:∀ k,(ab.getD k ByteArray.empty).size≤5000)(habl:ab.length≤1000000):PC Tryz.prog 194 [aK l,bB ab] (.tup [vs (unpackedP l ab).1,vi (unpackedP l ab).2]):=by
 refine FC.body 6 85 Tryz.func194 rfl (by kernel_rfl) ?_
 refine sq ?_
 refine Z1 (aCA (x:=.sl _ _ _) rfl rfl) ?_
 refine Z1 aB ?_
 refine Z1 aB ?_
 refine cn ?_
 refine af2 ?_
 refine sq ?_
 refine Z2 (al 0 [.pointer none,.slice none 0 0]) ?_
 refine cn ?_
 refine sq ?_
 refine Z1 aB ?_
 refine cn ?_
 refine sq ?_
 refine Z2 (al 3 [.int .i64 0]) ?_
 refine Z2 (al 4 [.int .i64 0]) ?_
 refine cF [_] ?_
 refine cF [_] ?_
 refine cn ?_
 refine sq ?_
 refine Z2 (al 5 [.int .i64 0]) ?_
 refine cF [_] ?_
 refine cn ?_
 refine sq ?_
 refine Z1 (qC (cs:=[.ptr _,.own _ _,.own _ _,.own _ _,.own _ _]) rfl rfl) ?_
 refine Z1 aB ?_
 refine cn ?_
 refine aD ?_
 refine af3 ?_
 refine ag7 (ι:=UnJ) (fun q=>⟨[(6,.own 0 0),(10,.own 5 0),(11,.clo 203 [.ptr (aK l),.own 3 0,.own 4 0,.own 0 0,.own 5 0])],[(0,.live 248 [oB q.1,.osl 1 1 q.2.2.2.1.size]),(1,.live 5 (dP q.2.2.2.1)),(3,.live 3 [vi (q.2.1:Int)]),(4,.live 3 [vi (q.2.2.1:Int)]),(5,.live 33 [vi q.2.2.2.2]),(2,.unborn)]⟩) (fun q=>(q.2.2.2.2≠0∧unpackedP l ab=(ByteArray.empty,q.2.2.2.2))∨(q.2.2.2.2=0∧q.2.2.1≤l.length∧q.2.1≤q.2.2.1∧q.2.2.2.1.size≤5001*q.2.1∧unpackedP l ab=rL q.2.2.2.1 (segT l q.2.1 q.2.2.1) (segE l q.2.1 q.2.2.1))) ?_ (fun q hJ=>?_)
 ·refine aU ?_
  refine bS (Le.nameNilCell 0 1 1 1 5 rfl rfl rfl (by decide)) ?_
  refine bM (ι:=ag2) (fun q=>⟨[(1,bB ab),(2,.ptr (aK l)),(6,.own 0 0),(7,.clo 202 []),(8,.own 3 0),(9,.own 4 0),(10,.own 5 0),(11,.clo 203 [.ptr (aK l),.own 3 0,.own 4 0,.own 0 0,.own 5 0])],[(0,.live 248 [oB q.1,.osl 1 1 q.2.2.2.size]),(1,.live 5 (dP q.2.2.2)),(3,.live 3 [vi (q.2.1:Int)]),(4,.live 3 [vi (q.2.2.1:Int)]),(5,.live 33 [vi 0]),(2,.unborn)]⟩) (fun q=>q.2.1≤q.2.2.1∧q.2.2.1≤l.length∧q.2.2.2.size≤5001*q.2.1∧∃ f,l.length<f+q.2.2.1∧unpackedP l ab=unF l ab f q.2.1 q.2.2.1 q.2.2.2) (fun q=>l.length-q.2.2.1) (false,0,0,ByteArray.empty) (⟨Nat.le_refl _,Nat.zero_le _,Nat.zero_le _,l.length+1,by show _<_+0;omega,rfl⟩) (Le.sub ⟨.inr rfl,.inr rfl,.inr rfl,.inr rfl,.inr rfl,.inr rfl,.inr rfl,.inr rfl,trivial⟩ ⟨rfl,rfl,rfl,rfl,rfl,rfl,trivial⟩) ?_
  intro q hI
  obtain ⟨h1,h2,h3,f,hf,hun⟩:=hI
  refine aD ?_
  refine sq ?_
  refine bG ?_
  refine Z1 ld ?_
  refine Z1 ln ?_
  refine Z1 bz ?_
  refine cn ?_
  refine cd (fun hb=>?_) fun hb=>?_
  ·have hlt:q.2.2.1<l.length:=by have h0:=of_decide_eq_true hb;omega
   obtain ⟨f,rfl⟩:∃ g,f=g+1:=⟨f-1,by omega⟩
   have hwb:=aOU (l.getD q.2.2.1 0)
   refine aQ ?_
   refine aU ?_
   refine sq ?_
   refine Z1 mo ?_
   refine Z1 ld ?_
   refine bG ?_
   refine Z1 ia ?_
   refine Z1 ld ?_
   refine Z1 (kW rfl rfl (by kernel_rfl) (ag4 (l.getD q.2.2.1 0)) rfl (by simp only [bE,aN,and_self,cP,bV,oJ,qD,sQ,oP,implies_true]) (by simp only [bE,aN,and_self,cP,bV,oJ,qD,sQ,oP,implies_true])) ?_
   refine Z1 aB ?_
   refine cn ?_
   refine aD ?_
   refine aU ?_
   refine sq ?_
   refine Z1 mo ?_
   refine Z1 ld ?_
   refine Z1 ln ?_
   refine bG ?_
   refine Z1 iP ?_
   refine Z1 bz ?_
   refine Z1 aB ?_
   refine cn ?_
   refine cd (fun hb=>?_) fun hb=>?_
   ·have hgt:l.length-q.2.2.1<eS (l.getD q.2.2.1 0):=by have h0:=of_decide_eq_true hb;omega
    have hts:=aEZ l (i:=q.2.1) (j:=l.length) (by omega) (Nat.le_refl _)
    refine sq ?_
    refine Z1 ld ?_
    refine Z1 ln ?_
    refine cF [_] ?_
    refine cn ?_
    refine aD ?_
    refine sq ?_
    refine Z1 mo ?_
    refine aZ rfl rfl (oI [2] rfl rfl (by kernel_rfl) (aBD q.1 l q.2.1 l.length 0 q.2.2.2 (by omega) (by omega) (Nat.le_refl _) (by omega)) rfl (by simp) (by simp [bQ]) (by simp) (by simp) (aBE l (by simp) (by simp) (by simp) (by simp)) ⟨by unfold oB;cases q.1<;>simp [bJ,aO,aH],by simp [bJ,aO,aH],by simp [bJ,aO,aH],by simp [bJ,aO,aH],jX _,trivial⟩ (by simp [aH]) ⟨by simp [bJ,aO,aH],by simp [bJ,aO,aH],by simp [bJ,aO,aH],by simp [bJ,aO,aH],jX _,trivial⟩) ⟨rfl,rfl,rfl,rfl,rfl,rfl,trivial⟩ ?_
    refine cn ?_
    refine bS (Le.trans (Le.swap (τ:=⟨[(1,bB ab),(2,.ptr (aK l)),(6,.own 0 0),(7,.clo 202 []),(8,.own 3 0),(9,.own 4 0),(10,.own 5 0),(11,.clo 203 [.ptr (aK l),.own 3 0,.own 4 0,.own 0 0,.own 5 0]),(34,vb ((segE l q.2.1 l.length)==0))],[(0,.live 248 [.own 0 0,.osl 1 1 (q.2.2.2++segT l q.2.1 l.length).size]),(1,.live 5 (dP (q.2.2.2++segT l q.2.1 l.length))),(3,.live 3 [vi (q.2.1:Int)]),(4,.live 3 [vi (l.length:Int)]),(5,.live 33 [vi (segE l q.2.1 l.length)])]⟩) 1 2 (by simp) (by simp) ⟨(iR _ _ (bV _)).symm,aKH l,rfl,rfl,rfl,rfl,rfl,aKG l,rfl,trivial⟩ ⟨rfl,by show aL _ 2=some (Hs.live _ ((dP (q.2.2.2++segT l q.2.1 l.length)).map _));rw [aFV];rfl,rfl,rfl,rfl,trivial⟩) (Le.reset (τ:=⟨[(1,bB ab),(2,.ptr (aK l)),(6,.own 0 0),(7,.clo 202 []),(8,.own 3 0),(9,.own 4 0),(10,.own 5 0),(11,.clo 203 [.ptr (aK l),.own 3 0,.own 4 0,.own 0 0,.own 5 0]),(34,vb ((segE l q.2.1 l.length)==0))],[(0,.live 248 [.own 0 0,.osl 1 1 (q.2.2.2++segT l q.2.1 l.length).size]),(1,.live 5 (dP (q.2.2.2++segT l q.2.1 l.length))),(3,.live 3 [vi (q.2.1:Int)]),(4,.live 3 [vi (l.length:Int)]),(5,.live 33 [vi (segE l q.2.1 l.length)]),(2,.unborn)]⟩) [2] (by simp) ⟨.inr rfl,.inr rfl,.inr rfl,.inr rfl,.inr rfl,.inr rfl,.inr rfl,.inr rfl,.inr rfl,trivial⟩ ⟨aE.of_pure _ (bV _),aE.of_pure _ (by unfold aN;exact cP l),by simp [aE],by simp [aE,dL],by simp [aE],by simp [aE],by simp [aE],aKF l (by simp) (by simp) (by simp) (by simp),by simp [aE],trivial⟩ ⟨by rw [if_neg (by decide)];exact ⟨rfl,by simp [aE]⟩,by rw [if_neg (by decide)];exact ⟨rfl,aFW _⟩,by rw [if_neg (by decide)];exact ⟨rfl,by simp [aE]⟩,by rw [if_neg (by decide)];exact ⟨rfl,by simp [aE]⟩,by rw [if_neg (by decide)];exact ⟨rfl,by simp [aE]⟩,by rw [if_pos (by decide)],trivial⟩)) ?_
    refine cd (fun hb=>?_) fun hb=>?_
    ·have he0:(segE l q.2.1 l.length)=0:=by simpa using hb
     refine tx ?_
     refine cF [_] ?_
     refine cn ?_
     refine bU ?_
     exact ⟨(true,q.2.1,l.length,q.2.2.2++segT l q.2.1 l.length,16),.inl ⟨by show (16:Int)≠0;decide,by rw [hun,vV hlt,if_pos hgt,if_pos he0]⟩,Le.sub ⟨.inr rfl,.inr rfl,.inr rfl,trivial⟩ ⟨rfl,rfl,rfl,rfl,rfl,rfl,trivial⟩⟩
    ·have he0:(segE l q.2.1 l.length)≠0:=by simpa using hb
     refine aQ ?_
     refine bU ?_
     exact ⟨(true,q.2.1,l.length,q.2.2.2++segT l q.2.1 l.length,(segE l q.2.1 l.length)),.inl ⟨he0,by rw [hun,vV hlt,if_pos hgt,if_neg he0]⟩,Le.sub ⟨.inr rfl,.inr rfl,.inr rfl,trivial⟩ ⟨rfl,rfl,rfl,rfl,rfl,rfl,trivial⟩⟩
   ·have hgt:¬ l.length-q.2.2.1<eS (l.getD q.2.2.1 0):=by have h0:=of_decide_eq_false hb;omega
    refine sq ?_
    refine Z1 ld ?_
    refine bG ?_
    refine Z1 ia ?_
    refine Z1 ld ?_
    refine Z1 bz ?_
    refine Z1 aB ?_
    refine cn ?_
    refine cd (fun hb=>?_) fun hb=>?_
    ·have h30:(l.getD q.2.2.1 0)≠30:=by simpa using hb
     refine sq ?_
     refine bG ?_
     refine Z1 mo ?_
     refine Z1 ba ?_
     refine cF [_] ?_
     refine cn ?_
     refine bU ?_
     exact ⟨(q.1,q.2.1,q.2.2.1+eS (l.getD q.2.2.1 0),q.2.2.2),⟨by show q.2.1≤q.2.2.1+_;omega,by show q.2.2.1+_≤_;omega,h3,f,by show _<f+(q.2.2.1+_);omega,by rw [hun,vV hlt,if_neg hgt,if_pos h30]⟩,by show l.length-(q.2.2.1+_)<_;omega,Le.sub ⟨.inr rfl,.inr rfl,.inr rfl,.inr rfl,.inr rfl,.inr rfl,.inr rfl,.inr rfl,trivial⟩ ⟨rfl,rfl,rfl,by show _=some (Hs.live _ [vi ((q.2.2.1+eS (l.getD q.2.2.1 0):Nat):Int)]);rw [Int.natCast_add];rfl,rfl,rfl,trivial⟩⟩
    ·have h30:(l.getD q.2.2.1 0)=30:=by simpa using hb
     have hw2:((eS (l.getD q.2.2.1 0):Nat):Int)=2:=by rw [h30];rfl
     have hw2n:eS (l.getD q.2.2.1 0)=2:=by rw [h30];rfl
     have hat2:(q.2.2.1:Int)+(eS (l.getD q.2.2.1 0):Int)=((q.2.2.1+2:Nat):Int):=by omega
     have hts:=aEZ l (i:=q.2.1) (j:=q.2.2.1) h1 h2
     refine sq ?_
     refine Z1 mo ?_
     refine aZ rfl rfl (oI [2] rfl rfl (by kernel_rfl) (aBD q.1 l q.2.1 q.2.2.1 0 q.2.2.2 (by omega) h1 h2 (by omega)) rfl (by simp) (by simp [bQ]) (by simp) (by simp) (aBE l (by simp) (by simp) (by simp) (by simp)) ⟨by unfold oB;cases q.1<;>simp [bJ,aO,aH],by simp [bJ,aO,aH],by simp [bJ,aO,aH],by simp [bJ,aO,aH],jX _,trivial⟩ (by simp [aH]) ⟨by simp [bJ,aO,aH],by simp [bJ,aO,aH],by simp [bJ,aO,aH],by simp [bJ,aO,aH],jX _,trivial⟩) ⟨rfl,rfl,rfl,rfl,rfl,rfl,trivial⟩ ?_
     refine Z1 nt ?_
     refine Z1 aB ?_
     refine cn ?_
     refine bS (Le.trans (Le.swap (τ:=⟨[(1,bB ab),(2,.ptr (aK l)),(6,.own 0 0),(7,.clo 202 []),(8,.own 3 0),(9,.own 4 0),(10,.own 5 0),(11,.clo 203 [.ptr (aK l),.own 3 0,.own 4 0,.own 0 0,.own 5 0]),(12,vi (eS (l.getD q.2.2.1 0):Int)),(44,vb (!((segE l q.2.1 q.2.2.1)==0)))],[(0,.live 248 [.own 0 0,.osl 1 1 (q.2.2.2++segT l q.2.1 q.2.2.1).size]),(1,.live 5 (dP (q.2.2.2++segT l q.2.1 q.2.2.1))),(3,.live 3 [vi (q.2.1:Int)]),(4,.live 3 [vi (q.2.2.1:Int)]),(5,.live 33 [vi (segE l q.2.1 q.2.2.1)])]⟩) 1 2 (by simp) (by simp) ⟨(iR _ _ (bV _)).symm,aKH l,rfl,rfl,rfl,rfl,rfl,aKG l,rfl,rfl,trivial⟩ ⟨rfl,by show aL _ 2=some (Hs.live _ ((dP (q.2.2.2++segT l q.2.1 q.2.2.1)).map _));rw [aFV];rfl,rfl,rfl,rfl,trivial⟩) (Le.reset (τ:=⟨[(1,bB ab),(2,.ptr (aK l)),(6,.own 0 0),(7,.clo 202 []),(8,.own 3 0),(9,.own 4 0),(10,.own 5 0),(11,.clo 203 [.ptr (aK l),.own 3 0,.own 4 0,.own 0 0,.own 5 0]),(12,vi (eS (l.getD q.2.2.1 0):Int)),(44,vb (!((segE l q.2.1 q.2.2.1)==0)))],[(0,.live 248 [.own 0 0,.osl 1 1 (q.2.2.2++segT l q.2.1 q.2.2.1).size]),(1,.live 5 (dP (q.2.2.2++segT l q.2.1 q.2.2.1))),(3,.live 3 [vi (q.2.1:Int)]),(4,.live 3 [vi (q.2.2.1:Int)]),(5,.live 33 [vi (segE l q.2.1 q.2.2.1)]),(2,.unborn)]⟩) [2] (by simp) ⟨.inr rfl,.inr rfl,.inr rfl,.inr rfl,.inr rfl,.inr rfl,.inr rfl,.inr rfl,.inr rfl,.inr rfl,trivial⟩ ⟨aE.of_pure _ (bV _),aE.of_pure _ (by unfold aN;exact cP l),by simp [aE],by simp [aE,dL],by simp [aE],by simp [aE],by simp [aE],aKF l (by simp) (by simp) (by simp) (by simp),by simp [aE],by simp [aE],trivial⟩ ⟨by rw [if_neg (by decide)];exact ⟨rfl,by simp [aE]⟩,by rw [if_neg (by decide)];exact ⟨rfl,aFW _⟩,by rw [if_neg (by decide)];exact ⟨rfl,by simp [aE]⟩,by rw [if_neg (by decide)];exact ⟨rfl,by simp [aE]⟩,by rw [if_neg (by decide)];exact ⟨rfl,by simp [aE]⟩,by rw [if_pos (by decide)],trivial⟩)) ?_
     refine cd (fun hb=>?_) fun hb=>?_
     ·have he0:(segE l q.2.1 q.2.2.1)≠0:=by simpa using hb
      refine bU ?_
      exact ⟨(true,q.2.1,q.2.2.1,q.2.2.2++segT l q.2.1 q.2.2.1,(segE l q.2.1 q.2.2.1)),.inl ⟨he0,by rw [hun,vV hlt,if_neg hgt,if_neg (fun hc=>hc h30),if_pos he0]⟩,Le.sub ⟨.inr rfl,.inr rfl,.inr rfl,trivial⟩ ⟨rfl,rfl,rfl,rfl,rfl,rfl,trivial⟩⟩
     ·have he0:(segE l q.2.1 q.2.2.1)=0:=by simpa using hb
      refine sq ?_
      refine Z1 ld ?_
      refine bG ?_
      refine Z1 ba ?_
      refine Z1 (mM (j:=q.2.2.1+1) rfl rfl rfl (by kernel_rfl) (by omega) (by omega) (by omega)) ?_
      refine Z1 ld ?_
      refine Z1 mo ?_
      refine Z1 ln ?_
      refine Z1 bz ?_
      refine Z1 aB ?_
      refine cn ?_
      refine cd (fun hb=>?_) fun hb=>?_
      ·have hab1:(l.getD (q.2.2.1+1) 0)≥(ab.length:Int):=of_decide_eq_true hb
       refine sq ?_
       refine cF [_] ?_
       refine cn ?_
       refine bU ?_
       exact ⟨(true,q.2.1,q.2.2.1,q.2.2.2++segT l q.2.1 q.2.2.1,11),.inl ⟨by show (11:Int)≠0;decide,by rw [hun,vV hlt,if_neg hgt,if_neg (fun hc=>hc h30),if_neg (fun hc=>hc he0),if_pos hab1]⟩,Le.sub ⟨.inr rfl,.inr rfl,.inr rfl,trivial⟩ ⟨rfl,rfl,rfl,rfl,rfl,rfl,trivial⟩⟩
      ·have hab1:¬ (l.getD (q.2.2.1+1) 0)≥(ab.length:Int):=of_decide_eq_false hb
       have hp1:=hpos (q.2.2.1+1)
       have hasz:=hab (l.getD (q.2.2.1+1) 0).toNat
       refine aQ ?_
       refine sq ?_
       refine Z1 mo ?_
       refine Z1 ld ?_
       refine bG ?_
       refine Z1 ba ?_
       refine Z1 (mM (j:=q.2.2.1+1) rfl rfl rfl (by kernel_rfl) (by omega) (by omega) (by omega)) ?_
       refine Z1 ld ?_
       refine Z1 (mM (j:=(l.getD (q.2.2.1+1) 0).toNat) rfl rfl rfl (by kernel_rfl) (by omega) (by omega) rfl) ?_
       refine Z1 ld ?_
       refine aZ rfl rfl (dB [2] rfl (by kernel_rfl) (aL1 true (q.2.2.2++segT l q.2.1 q.2.2.1) (ab.getD (l.getD (q.2.2.1+1) 0).toNat ByteArray.empty) (by rw [ByteArray.size_append];omega)) rfl (by simp) (by simp [bQ]) (by simp) (by simp) (by simp [aO,aH]) ⟨by simp [oB,bJ,aO,aH],jX _,trivial⟩ (by simp [aH,aO]) ⟨by simp [bJ,aO,aH],jX _,trivial⟩) ⟨rfl,rfl,rfl,trivial⟩ ?_
       refine cn ?_
       refine bS (Le.trans (Le.swap (τ:=⟨[(1,bB ab),(2,.ptr (aK l)),(6,.own 0 0),(7,.clo 202 []),(8,.own 3 0),(9,.own 4 0),(10,.own 5 0),(11,.clo 203 [.ptr (aK l),.own 3 0,.own 4 0,.own 0 0,.own 5 0]),(12,vi (eS (l.getD q.2.2.1 0):Int))],[(0,.live 248 [.own 0 0,.osl 1 1 (((q.2.2.2++segT l q.2.1 q.2.2.1)++ab.getD (l.getD (q.2.2.1+1) 0).toNat ByteArray.empty)).size]),(1,.live 5 (dP (((q.2.2.2++segT l q.2.1 q.2.2.1)++ab.getD (l.getD (q.2.2.1+1) 0).toNat ByteArray.empty)))),(3,.live 3 [vi (q.2.1:Int)]),(4,.live 3 [vi (q.2.2.1:Int)]),(5,.live 33 [vi (segE l q.2.1 q.2.2.1)])]⟩) 1 2 (by simp) (by simp) ⟨(iR _ _ (bV _)).symm,aKH l,rfl,rfl,rfl,rfl,rfl,aKG l,rfl,trivial⟩ ⟨rfl,by show aL _ 2=some (Hs.live _ ((dP (((q.2.2.2++segT l q.2.1 q.2.2.1)++ab.getD (l.getD (q.2.2.1+1) 0).toNat ByteArray.empty))).map _));rw [aFV];rfl,rfl,rfl,rfl,trivial⟩) (Le.reset (τ:=⟨[(1,bB ab),(2,.ptr (aK l)),(6,.own 0 0),(7,.clo 202 []),(8,.own 3 0),(9,.own 4 0),(10,.own 5 0),(11,.clo 203 [.ptr (aK l),.own 3 0,.own 4 0,.own 0 0,.own 5 0]),(12,vi (eS (l.getD q.2.2.1 0):Int))],[(0,.live 248 [.own 0 0,.osl 1 1 (((q.2.2.2++segT l q.2.1 q.2.2.1)++ab.getD (l.getD (q.2.2.1+1) 0).toNat ByteArray.empty)).size]),(1,.live 5 (dP (((q.2.2.2++segT l q.2.1 q.2.2.1)++ab.getD (l.getD (q.2.2.1+1) 0).toNat ByteArray.empty)))),(3,.live 3 [vi (q.2.1:Int)]),(4,.live 3 [vi (q.2.2.1:Int)]),(5,.live 33 [vi (segE l q.2.1 q.2.2.1)]),(2,.unborn)]⟩) [2] (by simp) ⟨.inr rfl,.inr rfl,.inr rfl,.inr rfl,.inr rfl,.inr rfl,.inr rfl,.inr rfl,.inr rfl,trivial⟩ ⟨aE.of_pure _ (bV _),aE.of_pure _ (by unfold aN;exact cP l),by simp [aE],by simp [aE,dL],by simp [aE],by simp [aE],by simp [aE],aKF l (by simp) (by simp) (by simp) (by simp),by simp [aE],trivial⟩ ⟨by rw [if_neg (by decide)];exact ⟨rfl,by simp [aE]⟩,by rw [if_neg (by decide)];exact ⟨rfl,aFW _⟩,by rw [if_neg (by decide)];exact ⟨rfl,by simp [aE]⟩,by rw [if_neg (by decide)];exact ⟨rfl,by simp [aE]⟩,by rw [if_neg (by decide)];exact ⟨rfl,by simp [aE]⟩,by rw [if_pos (by decide)],trivial⟩)) ?_
       refine sq ?_
       refine bG ?_
       refine Z1 mo ?_
       refine Z1 ba ?_
       refine cF [_] ?_
       refine cn ?_
       refine tx ?_
       refine bG ?_
       refine cF [_] ?_
       refine cn ?_
       exact ⟨(true,q.2.2.1+2,q.2.2.1+2,((q.2.2.2++segT l q.2.1 q.2.2.1)++ab.getD (l.getD (q.2.2.1+1) 0).toNat ByteArray.empty)),⟨Nat.le_refl _,by show q.2.2.1+2≤_;omega,by show (((q.2.2.2++segT l q.2.1 q.2.2.1)++ab.getD (l.getD (q.2.2.1+1) 0).toNat ByteArray.empty)).size≤5001*(q.2.2.1+2);rw [ByteArray.size_append,ByteArray.size_append];omega,f,by show _<f+(q.2.2.1+2);omega,by rw [hun,vV hlt,if_neg hgt,if_neg (fun hc=>hc h30),if_neg (fun hc=>hc he0),if_neg hab1]⟩,by show l.length-(q.2.2.1+2)<_;omega,Le.sub ⟨.inr rfl,.inr rfl,.inr rfl,.inr rfl,.inr rfl,.inr rfl,.inr rfl,.inr rfl,trivial⟩ ⟨rfl,rfl,congrArg (fun z:Int=>some (Hs.live 3 [vi z])) hat2,congrArg (fun z:Int=>some (Hs.live 3 [vi z])) hat2,by rw [←he0];rfl,rfl,trivial⟩⟩
  ·have hge:q.2.2.1=l.length:=by have h0:=of_decide_eq_false hb;omega
   refine bU ?_
   exact ⟨(q.1,q.2.1,q.2.2.1,q.2.2.2,0),.inr ⟨rfl,h2,h1,h3,by rw [hun,aOV (by omega) (by omega),hge]⟩,Le.sub ⟨.inr rfl,.inr rfl,.inr rfl,trivial⟩ ⟨rfl,rfl,rfl,rfl,rfl,rfl,trivial⟩⟩
 ·refine aD ?_
  refine aD ?_
  have hJ4:(q.2.2.2.2≠0∧unpackedP l ab=(ByteArray.empty,q.2.2.2.2))∨(q.2.2.2.2=0∧(segE l q.2.1 q.2.2.1)≠0∧q.2.2.1≤l.length∧q.2.1≤q.2.2.1∧q.2.2.2.1.size≤5001*q.2.1∧unpackedP l ab=(ByteArray.empty,(segE l q.2.1 q.2.2.1)))∨(q.2.2.2.2=0∧(segE l q.2.1 q.2.2.1)=0∧q.2.2.1≤l.length∧q.2.1≤q.2.2.1∧q.2.2.2.1.size≤5001*q.2.1∧(¬ cN (tB (q.2.2.2.1++(segT l q.2.1 q.2.2.1)))=true→unpackedP l ab=(ByteArray.empty,13))∧(cN (tB (q.2.2.2.1++(segT l q.2.1 q.2.2.1)))=true→unpackedP l ab=((q.2.2.2.1++(segT l q.2.1 q.2.2.1)),0))∧(q.2.2.2.1++(segT l q.2.1 q.2.2.1)).size=0)∨(q.2.2.2.2=0∧(segE l q.2.1 q.2.2.1)=0∧q.2.2.1≤l.length∧q.2.1≤q.2.2.1∧q.2.2.2.1.size≤5001*q.2.1∧(¬ cN (tB (q.2.2.2.1++(segT l q.2.1 q.2.2.1)))=true→unpackedP l ab=(ByteArray.empty,13))∧(cN (tB (q.2.2.2.1++(segT l q.2.1 q.2.2.1)))=true→unpackedP l ab=((q.2.2.2.1++(segT l q.2.1 q.2.2.1)),0))∧0<(q.2.2.2.1++(segT l q.2.1 q.2.2.1)).size):=by
   rcases hJ with h|⟨g1,g2,g3,g4,g5⟩
   ·exact .inl h
   ·refine .inr ?_
    by_cases he:(segE l q.2.1 q.2.2.1)=0
    ·refine .inr ?_
     unfold rL at g5
     rw [if_neg (fun hc=>hc he)] at g5
     rcases Nat.eq_zero_or_pos (q.2.2.2.1++(segT l q.2.1 q.2.2.1)).size with hz|hz
     ·exact .inl ⟨g1,he,g2,g3,g4,fun hn=>by rw [g5,if_neg hn],fun hy=>by rw [g5,if_pos hy],hz⟩
     ·exact .inr ⟨g1,he,g2,g3,g4,fun hn=>by rw [g5,if_neg hn],fun hy=>by rw [g5,if_pos hy],hz⟩
    ·exact .inl ⟨g1,he,g2,g3,g4,by rw [g5];unfold rL;rw [if_pos he]⟩
  have hts:q.2.1≤q.2.2.1→q.2.2.1≤l.length→(segT l q.2.1 q.2.2.1).size≤q.2.2.1-q.2.1:=fun a b=>aEZ l a b
  rcases hJ4 with ⟨hw,hres⟩|⟨hw,he,hat,hrow,hsz,hres⟩|⟨hw,he,hat,hrow,hsz,hres,hres2,hz0⟩|⟨hw,he,hat,hrow,hsz,hres,hres2,hz0⟩
  ·refine tx ?_
   refine bG ?_
   refine Z1 (OC.cast bz (show vb (q.2.2.2.2==0)=vb false from by simp [hw])) ?_
   refine Z1 mo ?_
   refine uU rfl rfl rfl rfl ?_
   refine uU rfl rfl rfl rfl ?_
   refine Z1 (aKI rfl rfl rfl) ?_
   refine Z1 mo ?_
   refine uU rfl rfl rfl rfl ?_
   refine uU rfl rfl rfl rfl ?_
   refine uU rfl rfl rfl rfl ?_
   refine Z1 (aKI rfl rfl rfl) ?_
   refine cn ?_
   refine cd (fun hb=>?_) fun hb=>?_
   ·exact absurd hb (by decide)
   ·refine aQ ?_
    refine aD ?_
    refine sq ?_
    refine bG ?_
    refine Z1 bz ?_
    refine cn ?_
    refine cd (fun hb=>?_) fun hb=>?_
    ·refine aD ?_
     refine dw ?_
     refine bG ?_
     refine Z1 aB ?_
     refine Z1 aB ?_
     refine cn (dn ?_)
     refine aP ?_
     exact ⟨.inl rfl,by rw [hres,zK];exact aF.two rfl (aT.tmp rfl) (aT.tmp rfl),trivial⟩
    ·exact absurd hb (by (simp [hw]))
  ·refine tx ?_
   refine bG ?_
   refine Z1 (OC.cast bz (show vb (q.2.2.2.2==0)=vb true from by simp [hw])) ?_
   refine Z1 mo ?_
   refine pY (R:=[]) (U:=[]) rfl rfl rfl rfl (oM (x:=.clo _ _) rfl rfl) trivial ?_
   refine pY rfl rfl rfl rfl (OC.cast (oI [2] rfl rfl (by kernel_rfl) (aBD q.1 l q.2.1 q.2.2.1 q.2.2.2.2 q.2.2.2.1 (by omega) hrow hat (by omega)) rfl (by simp) (by simp [bQ]) (by simp) (by simp) (aBE l (by simp) (by simp) (by simp) (by simp)) ⟨by unfold oB;cases q.1<;>simp [bJ,aO,aH],by simp [bJ,aO,aH],by simp [bJ,aO,aH],by simp [bJ,aO,aH],jX _,trivial⟩ (by simp [aH]) ⟨by simp [bJ,aO,aH],by simp [bJ,aO,aH],by simp [bJ,aO,aH],by simp [bJ,aO,aH],jX _,trivial⟩) (show vb ((segE l q.2.1 q.2.2.1)==0)=vb false from by simp [he])) ⟨rfl,rfl,rfl,rfl,rfl,rfl,trivial⟩ ?_
   refine Z1 (aBF rfl rfl rfl) ?_
   refine Z1 mo ?_
   refine uU rfl rfl rfl rfl ?_
   refine uU rfl rfl rfl rfl ?_
   refine uU rfl rfl rfl rfl ?_
   refine Z1 (aKI rfl rfl rfl) ?_
   refine cn ?_
   refine cd (fun hb=>?_) fun hb=>?_
   ·exact absurd hb (by decide)
   ·refine aQ ?_
    refine aD ?_
    refine sq ?_
    refine bG ?_
    refine Z1 bz ?_
    refine cn ?_
    refine cd (fun hb=>?_) fun hb=>?_
    ·refine aD ?_
     refine dw ?_
     refine bG ?_
     refine Z1 aB ?_
     refine Z1 aB ?_
     refine cn (dn ?_)
     refine aP ?_
     exact ⟨.inl rfl,by rw [hres,zK];exact aF.two rfl (aT.tmp rfl) (aT.tmp rfl),trivial⟩
    ·exact absurd hb (by (simp [he]))
  ·have hts2:=hts hrow hat
   have hem1:FC Tryz.prog 206 [.own 0 0] [(0,.live 248 [.own 0 0,.osl 1 2 (q.2.2.2.1++(segT l q.2.1 q.2.2.1)).size]),(2,.live 5 (dP (q.2.2.2.1++(segT l q.2.1 q.2.2.1))))] (vs (q.2.2.2.1++(segT l q.2.1 q.2.2.1))) [(0,.live 248 [.own 0 0,.osl 1 2 (q.2.2.2.1++(segT l q.2.1 q.2.2.1)).size]),(2,.live 5 (dP (q.2.2.2.1++(segT l q.2.1 q.2.2.1))))]:=by
    rw [ag6 hz0]
    exact fun E vs hG hA hR hB hU=>agZ (.own 0 0) E vs hG hA (by simpa using hR) hB (by simpa using hU)
   refine tx ?_
   refine bG ?_
   refine Z1 (OC.cast bz (show vb (q.2.2.2.2==0)=vb true from by simp [hw])) ?_
   refine Z1 mo ?_
   refine pY (R:=[]) (U:=[]) rfl rfl rfl rfl (oM (x:=.clo _ _) rfl rfl) trivial ?_
   refine pY rfl rfl rfl rfl (OC.cast (oI [2] rfl rfl (by kernel_rfl) (aBD q.1 l q.2.1 q.2.2.1 q.2.2.2.2 q.2.2.2.1 (by omega) hrow hat (by omega)) rfl (by simp) (by simp [bQ]) (by simp) (by simp) (aBE l (by simp) (by simp) (by simp) (by simp)) ⟨by unfold oB;cases q.1<;>simp [bJ,aO,aH],by simp [bJ,aO,aH],by simp [bJ,aO,aH],by simp [bJ,aO,aH],jX _,trivial⟩ (by simp [aH]) ⟨by simp [bJ,aO,aH],by simp [bJ,aO,aH],by simp [bJ,aO,aH],by simp [bJ,aO,aH],jX _,trivial⟩) (show vb ((segE l q.2.1 q.2.2.1)==0)=vb true from by simp [he])) ⟨rfl,rfl,rfl,rfl,rfl,rfl,trivial⟩ ?_
   refine Z1 (aBF rfl rfl rfl) ?_
   refine Z1 mo ?_
   refine pY rfl rfl rfl rfl (dB [] rfl (by kernel_rfl) (FC.m hem1) rfl (by simp) (by simp [bQ]) (by simp) (by simp) (by simp [aO,aH]) ⟨by simp [bJ,aO,aH],jX _,trivial⟩ (by simp [aH,aO]) ⟨by simp [bJ,aO,aH],jX _,trivial⟩) ⟨rfl,rfl,trivial⟩ ?_
   refine pY (R:=[]) (U:=[]) rfl rfl rfl rfl (jP rfl (by kernel_rfl) (aIM (q.2.2.2.1++(segT l q.2.1 q.2.2.1)) (by rw [ByteArray.size_append];omega)) rfl (by simp only [bE,aN,and_self,cP,bV,oJ,qD,sQ,oP,implies_true]) (by simp only [bE,aN,and_self,cP,bV,oJ,qD,sQ,oP,implies_true])) trivial ?_
   refine pY (R:=[]) (U:=[]) rfl rfl rfl rfl (aJF rfl rfl) trivial ?_
   refine Z1 (aBF rfl rfl rfl) ?_
   refine cn ?_
   refine cd (fun hb=>?_) fun hb=>?_
   ·have hit:cN (tB (q.2.2.2.1++(segT l q.2.1 q.2.2.1)))=false:=by simpa using hb
    refine tx ?_
    refine cF [_] ?_
    refine cn ?_
    refine aD ?_
    refine sq ?_
    refine bG ?_
    refine Z1 bz ?_
    refine cn ?_
    refine cd (fun hb=>?_) fun hb=>?_
    ·refine aD ?_
     refine dw ?_
     refine bG ?_
     refine Z1 aB ?_
     refine Z1 aB ?_
     refine cn (dn ?_)
     refine aP ?_
     exact ⟨.inl rfl,by rw [hres (by rw [hit];decide)];rw [zK];exact aF.two rfl (aT.tmp rfl) (aT.tmp rfl),trivial⟩
    ·exact absurd hb (by decide)
   ·have hit:cN (tB (q.2.2.2.1++(segT l q.2.1 q.2.2.1)))=true:=by simpa using hb
    refine aQ ?_
    refine aD ?_
    refine sq ?_
    refine bG ?_
    refine Z1 bz ?_
    refine cn ?_
    refine cd (fun hb=>?_) fun hb=>?_
    ·exact absurd hb (by (simp [he]))
    ·refine aQ ?_
     refine sq ?_
     refine aZ rfl rfl (dB [] rfl (by kernel_rfl) (FC.m hem1) rfl (by simp) (by simp [bQ]) (by simp) (by simp) (by simp [aO,aH]) ⟨by simp [bJ,aO,aH],jX _,trivial⟩ (by simp [aH,aO]) ⟨by simp [bJ,aO,aH],jX _,trivial⟩) ⟨rfl,rfl,trivial⟩ ?_
     refine Z1 aB ?_
     refine Z1 aB ?_
     refine cn ?_
     refine aP ?_
     exact ⟨.inl rfl,by rw [hres2 hit];exact aF.two rfl (aT.tmp rfl) (aT.tmp rfl),trivial⟩
  ·have hts2:=hts hrow hat
   have hpos63:0<(q.2.2.2.1++(segT l q.2.1 q.2.2.1)).size∧(q.2.2.2.1++(segT l q.2.1 q.2.2.1)).size≤9223372036854775807:=⟨hz0,by rw [ByteArray.size_append];omega⟩
   refine tx ?_
   refine bG ?_
   refine Z1 (OC.cast bz (show vb (q.2.2.2.2==0)=vb true from by simp [hw])) ?_
   refine Z1 mo ?_
   refine pY (R:=[]) (U:=[]) rfl rfl rfl rfl (oM (x:=.clo _ _) rfl rfl) trivial ?_
   refine pY rfl rfl rfl rfl (OC.cast (oI [2] rfl rfl (by kernel_rfl) (aBD q.1 l q.2.1 q.2.2.1 q.2.2.2.2 q.2.2.2.1 (by omega) hrow hat (by omega)) rfl (by simp) (by simp [bQ]) (by simp) (by simp) (aBE l (by simp) (by simp) (by simp) (by simp)) ⟨by unfold oB;cases q.1<;>simp [bJ,aO,aH],by simp [bJ,aO,aH],by simp [bJ,aO,aH],by simp [bJ,aO,aH],jX _,trivial⟩ (by simp [aH]) ⟨by simp [bJ,aO,aH],by simp [bJ,aO,aH],by simp [bJ,aO,aH],by simp [bJ,aO,aH],jX _,trivial⟩) (show vb ((segE l q.2.1 q.2.2.1)==0)=vb true from by simp [he])) ⟨rfl,rfl,rfl,rfl,rfl,rfl,trivial⟩ ?_
   refine Z1 (aBF rfl rfl rfl) ?_
   refine Z1 mo ?_
   refine pY rfl rfl rfl rfl (dB [] rfl (by kernel_rfl) (agY (.own 0 0) (q.2.2.2.1++(segT l q.2.1 q.2.2.1)) hpos63.1 hpos63.2) rfl (by simp) (by simp [bQ]) (by simp) (by simp) (by simp [aO,aH]) ⟨by simp [bJ,aO,aH],jX _,trivial⟩ (by simp [aH,aO]) ⟨by simp [bJ,aO,aH],trivial⟩) ⟨rfl,rfl,trivial⟩ ?_
   refine pY (R:=[]) (U:=[]) rfl rfl rfl rfl (jP rfl (by kernel_rfl) (aIM (q.2.2.2.1++(segT l q.2.1 q.2.2.1)) (by rw [ByteArray.size_append];omega)) rfl (by simp only [bE,aN,and_self,cP,bV,oJ,qD,sQ,oP,implies_true]) (by simp only [bE,aN,and_self,cP,bV,oJ,qD,sQ,oP,implies_true])) trivial ?_
   refine pY (R:=[]) (U:=[]) rfl rfl rfl rfl (aJF rfl rfl) trivial ?_
   refine Z1 (aBF rfl rfl rfl) ?_
   refine cn ?_
   refine cd (fun hb=>?_) fun hb=>?_
   ·have hit:cN (tB (q.2.2.2.1++(segT l q.2.1 q.2.2.1)))=false:=by simpa using hb
    refine tx ?_
    refine cF [_] ?_
    refine cn ?_
    refine aD ?_
    refine sq ?_
    refine bG ?_
    refine Z1 bz ?_
    refine cn ?_
    refine cd (fun hb=>?_) fun hb=>?_
    ·refine aD ?_
     refine dw ?_
     refine bG ?_
     refine Z1 aB ?_
     refine Z1 aB ?_
     refine cn (dn ?_)
     refine aP ?_
     exact ⟨.inl rfl,by rw [hres (by rw [hit];decide)];rw [zK];exact aF.two rfl (aT.tmp rfl) (aT.tmp rfl),trivial⟩
    ·exact absurd hb (by decide)
   ·have hit:cN (tB (q.2.2.2.1++(segT l q.2.1 q.2.2.1)))=true:=by simpa using hb
    refine aQ ?_
    refine aD ?_
    refine sq ?_
    refine bG ?_
    refine Z1 bz ?_
    refine cn ?_
    refine cd (fun hb=>?_) fun hb=>?_
    ·exact absurd hb (by (simp [he]))
    ·refine aQ ?_
     refine sq ?_
     refine aZ rfl rfl (dB [] rfl (by kernel_rfl) (agX (.own 0 0) (q.2.2.2.1++(segT l q.2.1 q.2.2.1)) hpos63.1 hpos63.2) rfl (by simp) (by simp [bQ]) (by simp) (by simp) (by simp [aO,aH]) ⟨by simp [bJ,aO,aH],trivial⟩ (by simp [aH,aO]) ⟨by simp [bJ,aO,aH],trivial⟩) ⟨rfl,trivial⟩ ?_
     refine Z1 aB ?_
     refine Z1 aB ?_
     refine cn ?_
     refine aP ?_
     exact ⟨.inl rfl,by rw [hres2 hit];exact aF.two rfl (aT.tmp rfl) (aT.tmp rfl),trivial⟩
end Go.Proofs.YtnklgkjfoggpbaaGreatDoor
