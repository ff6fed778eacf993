/- Parts of the proof of a law of this seat: rules and contracts; no conditions. -/
import Derived.Test.YtgajclaoaphgoaaGreatDoorWireP
import Derived.Test.YtgajclaoaphgoaaGreatDoorBt
import Derived.Test.YtgajclaoaphgoaaGreatDoorShelf
import Derived.Test.YtgajclaoaphgoaaGreatDoorBf
import Derived.Test.YtgajclaoaphgoaaGreatDoorVa
import Derived.Test.YtgajclaoaphgoaaGreatDoorProg
import Derived.KernelRfl
set_option maxHeartbeats 6400000
set_option maxRecDepth 100000
set_option linter.unusedVariables false
set_option linter.unusedSimpArgs false
namespace Go.Proofs.YtgajclaoaphgoaaGreatDoor
open Go.RowKit
theorem aYM {E:Env}(hG:Good E){t:TypeId}{l:List ByteArray}(hl:l.length≤maxLen):aA { E with w:=E.w.alloc (.cells (l.map Value.string).toArray t) } (bB l) (.slice (some ⟨E.w.heap.size,0,none⟩) l.length l.length):=by
 have hnew:(E.w.alloc (.cells (l.map Value.string).toArray t)).heap[E.w.heap.size]?=some (.cells (l.map Value.string).toArray t (0,0)):=heap_alloc_new _ _;unfold bB aA;refine ⟨_,_,rfl,Nat.le_refl _,hl,fun h0=>⟨E.w.heap.size,0,rfl,⟨by simp,fun hbad=>by have:=hG.old _ hbad;omega,fun n hn=>by have:=(hG.lt n _ hn).1;omega⟩,fun j hj=>⟨.string (l.getD j ByteArray.empty),by unfold aA;rfl,rfl,fun i u hu=>?_⟩⟩⟩;have hi:i=0∧u=.string (l.getD j ByteArray.empty):=by
  cases i with
  | zero=>simp [Value.cells] at hu;exact ⟨rfl,hu.symm⟩
  | succ i=>simp [Value.cells] at hu
 obtain ⟨rfl,rfl⟩:=hi;rw [pG hnew];simp [hj]
def mB (s r:ByteArray):List ByteArray:=Lib.splitB r 0 (Lib.countB s r) s
theorem aYN (s r:ByteArray)(hs:s.size<4294967281)(hr:1≤r.size):PC Tryz.prog 134 [vs s,vs r] (bB (mB s r)):=by
 intro E vs hG hA _ _ _;unfold aG aG aG at hA;obtain ⟨v,us,rfl,hv,v',us',rfl,hv',rfl⟩:=hA;unfold aA at hv hv';subst hv;subst hv';obtain ⟨_,m,hm⟩:=hG.shp 0 (by simp [aBS]);have hlen:(mB s r).length=Lib.countB s r+1:=Lib.splitB_all r hr 0 _ s rfl;have hle:=Lib.countB_le r hr s.size s (Nat.le_refl _);refine (Tryz.strings_Split s r m E.w hs hm hr).mono ?_;rintro en w' ⟨rfl,rfl⟩;have hb:Below E.w.heap.size E.w (E.w.alloc (.cells ((mB s r).map Value.string).toArray 9)):=(Below.refl _ _).alloc (Nat.le_refl _) _;have hml:maxLen=9223372036854775807:=rfl
 have hrep:=aYM hG (t:=9) (l:=mB s r) (by omega);rw [hlen] at hrep;exact ⟨{ E with w:=E.w.alloc (.cells ((mB s r).map Value.string).toArray 9) },_,rfl,rfl,hG.grow hb,(Step.grow hG hb).kept (by simp),hrep,fun n y hn=>by simp [aL] at hn⟩
def wt:List ByteArray→Nat
 | []=>0
 | s::l=>s.size+1+wt l
theorem vR (a b:List ByteArray):wt (a++b)=wt a+wt b:=by
 induction a with
 | nil=>simp [wt]
 | cons x a ih=>simp only [List.cons_append,wt,ih];omega
theorem aCL (l:List ByteArray):l.length≤wt l:=by
 induction l with
 | nil=>exact Nat.le_refl _
 | cons x l ih=>simp only [List.length_cons,wt];omega
theorem aGW (l:List ByteArray):∀ k,(l.getD k ⟨#[]⟩).size≤wt l:=by
 induction l with
 | nil=>intro k;simp;exact Nat.zero_le _
 | cons x l ih=>
  intro k;cases k with
  | zero=>simp only [List.getD_cons_zero,wt];omega
  | succ k=>have:=ih k;simp only [List.getD_cons_succ,wt];omega
theorem aGX {l:List ByteArray}(h:wt l≤5000000):FewT l:=⟨by have:=aCL l;omega,fun k=>by have:=aGW l k;omega⟩
theorem aGY {r:ByteArray}(hr:1≤r.size):∀ (k:Nat) (s:ByteArray),wt (Lib.splitB r 0 k s)≤s.size+1
 | 0,s=>by rw [Lib.splitB_zero];simp [wt]
 | k+1,s=>by
  rcases Lib.indexB_cases s r with h|⟨i,h,hi⟩
  ·rw [Lib.splitB_miss r 0 (k+1) s h];simp [wt]
  rw [Lib.splitB_hit r 0 k s i h];have h1:=aGY hr k (s.extract (i+r.size) s.size);have e1:(s.extract (i+r.size) s.size).size=s.size-(i+r.size):=by rw [ByteArray.size_extract];omega
  have e2:(s.extract 0 (i+0)).size=i:=by rw [ByteArray.size_extract];omega
  simp only [wt];omega
def iH (l:List ByteArray)(r:ByteArray):Nat→List ByteArray
 | 0=>[]
 | k+1=>iH l r k++mB (l.getD k ByteArray.empty) r
theorem aGZ {r:ByteArray}(hr:1≤r.size)(l:List ByteArray):∀ k,k≤l.length→wt (iH l r k)≤wt (l.take k)
 | 0,_=>Nat.le_refl _
 | k+1,hk=>by
  have h1:=aGZ hr l k (by omega);have h2:=aGY hr (Lib.countB (l.getD k ByteArray.empty) r) (l.getD k ByteArray.empty);have e:l.take (k+1)=l.take k++[l.getD k ByteArray.empty]:=by rw [List.take_add_one];simp [show k<l.length from hk]
  unfold iH;rw [vR,e,vR];have:wt [l.getD k ByteArray.empty]=(l.getD k ByteArray.empty).size+1:=by simp [wt]
  unfold mB;omega
theorem aYO {r:ByteArray}(hr:1≤r.size)(l:List ByteArray):wt (iH l r l.length)≤wt l:=by
 have:=aGZ hr l l.length (Nat.le_refl _);rwa [List.take_length] at this
noncomputable def bestL (l:List ByteArray):fE:=bestR (dQ l l.length)
noncomputable def chF (upto:Int):Nat→List ByteArray→List ByteArray→List ByteArray
 | 0,out,_=>out
 | f+1,out,parts=>if (out.length:Int)<min upto 32 then (if (bestL parts).2≤0 then out else chF upto f (out++[(bestL parts).1]) (iH parts (bestL parts).1 parts.length)) else out
noncomputable def chooseP (l:List ByteArray)(upto:Int):List ByteArray:=chF upto 33 [] l
theorem aNU {l:List ByteArray}(h:FewT l):(bestL l).1.size≤8∧((bestL l).2>0→2≤(bestL l).1.size):=by
 have hk:=aCK h l.length;by_cases hx:∃ r,kV (dQ l l.length) (fun _=>false) r
 ·obtain ⟨r,hr⟩:=hx;unfold bestL;rw [aCJ hr];refine ⟨aNS hk hr,fun hp=>?_⟩;rcases hr with ⟨h1,_⟩|⟨h1,_⟩
  ·rw [h1] at hp;exact absurd hp (by decide)
  exact (hk _ h1).1
 have e:bestL l=(⟨#[]⟩,0):=by unfold bestL bestR;rw [dif_neg hx]
 rw [e];exact ⟨by decide,fun hp=>absurd hp (by decide)⟩
theorem aYP (l:List ByteArray):∀ j,j<l.length→eQ ((fun j=>vs (l.getD j ByteArray.empty)) j) 1=true∧∀ i y,i<1→(l.map vs)[j*1+i]?=some y→(cL ((fun j=>vs (l.getD j ByteArray.empty)) j))[i]?=some y:=aCM (fun j y hy=>by
 rw [List.getElem?_map] at hy;cases h:l[j]? with
 | none=>rw [h] at hy;cases hy
 | some z=>rw [h] at hy;simp at hy;subst hy;simp [List.getD,h]) (fun j hj=>⟨rfl,rfl⟩)
theorem aNV (c:ByteArray):∀ j,j<1→eQ (gE [vs c] j) 1=true∧∀ i y,i<1→[vs c][j*1+i]?=some y→(cL (gE [vs c] j))[i]?=some y:=fun j hj=>by
 have:j=0:=by omega
 subst this;refine ⟨rfl,fun i y hi hy=>?_⟩;have:i=0:=by omega
 subst this;exact hy
theorem aCN (l:List ByteArray):∀ j,j<l.length→(l.map vs)[j]?=some ((fun j=>vs (l.getD j ByteArray.empty)) j)∧sJ ((fun j=>vs (l.getD j ByteArray.empty)) j)=true:=fun j hj=>⟨by simp [hj],rfl⟩
theorem aYQ {l:List ByteArray}{k b:Nat}(h:wt l≤b):wt (l.take k)≤b:=by
 have e:=List.take_append_drop k l;have:=vR (l.take k) (l.drop k);rw [e] at this;omega
abbrev aYR:=List ByteArray × List ByteArray
theorem aCO (π:Nat→Nat)(l:List ByteArray):(l.map vs).map (Av.ren π)=l.map vs:=by
 rw [List.map_map];exact List.map_congr_left fun x _=>by simp [Av.ren]
theorem aCP {Z:List Nat}(l:List ByteArray):∀ z∈l.map vs,aE Z z:=fun z hz=>by
 obtain ⟨u,_,rfl⟩:=List.mem_map.1 hz;simp [aE]
theorem aYS (l:List ByteArray)(hl:wt l≤5000000)(upto:Int):PC Tryz.prog 65 [bB l,vi upto] (bB (chooseP l upto)):=by
 refine FB 5 42 Tryz.func65 ?_;refine G ?_;refine bS (Le.nameNil 5 0 1 9 rfl rfl) ?_;refine bM (ι:=aYR) (fun q=>⟨[(1,vi upto),(5,.osl 1 0 q.1.length),(6,bB q.2)],[(0,.live 9 (q.1.map vs)),(1,.unborn),(2,.unborn),(3,.unborn),(4,.unborn)]⟩) (fun q=>chooseP l upto=chF upto (33-q.1.length) q.1 q.2∧q.1.length≤32∧wt q.2≤5000000) (fun q=>33-q.1.length) ([],l) (⟨rfl,Nat.zero_le _,hl⟩) (Le.sub (by repeat (first|trivial|refine ⟨.inr rfl,?_⟩|refine ⟨.inr (aR (by omega)),?_⟩)) (by repeat (first|trivial|refine ⟨rfl,?_⟩))) ?_;intro q hI;refine aD ?_;refine sq ?_
 refine Z1 mo ?_;refine Z1 sT ?_;refine Z1 mo ?_;refine Z1 (aNF rfl rfl rfl) ?_;refine Z1 bz ?_;refine cn ?_;refine cd (fun hb=>?_) fun hb=>?_
 ·have hlt:(q.1.length:Int)<min upto 32:=of_decide_eq_true hb;have hfw:=aGX hI.2.2;have hwt:=hI.2.2;have hll:=hfw.len;have hbo:=aNU hfw;have hul:q.1.length<32:=by omega
  refine aQ ?_;refine aU ?_;refine sq ?_;refine Z1 mo ?_;refine Z1 (ca (aYF q.2 (aGX hI.2.2))) ?_;refine Z2 (al 1 [.string ⟨#[]⟩,.int .i64 0]) ?_;refine bW [_,_] ?_;refine cn ?_;refine aD ?_;refine sq ?_;refine aS 1 1 false ?_;refine bG ?_;refine Z1 bz ?_;refine cn ?_;refine cd (fun hb=>?_) fun hb=>?_
  ·have hle:(bestL q.2).2≤0:=of_decide_eq_true hb;have hfin:chooseP l upto=q.1:=by rw [hI.1,show 33-q.1.length=(32-q.1.length)+1 from by omega];show (if _ then _ else _)=_;rw [if_pos hlt,if_pos hle]
   refine bU ?_;refine aD ?_;refine bS (Le.freeze 5 0 (fun j=>vs (q.1.getD j ByteArray.empty)) rfl rfl (by simp) (aCN _)) ?_;refine tx ?_;refine Z1 mo ?_;refine Z1 aB ?_;refine cn ?_;refine aP ?_;exact Rx rfl (by rw [hfin];rfl)
  have hle:¬ (bestL q.2).2≤0:=of_decide_eq_false hb;have hx2:=hbo.2 (by omega);have hch:chooseP l upto=chF upto (33-(q.1++[(bestL q.2).1]).length) (q.1++[(bestL q.2).1]) (iH q.2 (bestL q.2).1 q.2.length):=by rw [hI.1,show 33-q.1.length=(32-q.1.length)+1 from by omega];show (if _ then _ else _)=_;rw [if_pos hlt,if_neg hle];congr 1;(first|(simp;done)|(simp;omega))
  refine aQ ?_;refine sq ?_;refine Z1 mo ?_;refine aS 0 1 false ?_;refine bG ?_;refine Z1 (fO (ps:=[.tmp 24]) (xs:=[.val _]) (e:=9) (k:=1) (by_:=16) (zs:=[.string ⟨#[]⟩]) rfl (by kernel_rfl) (by kernel_rfl) rfl rfl rfl (by decide) (by decide)) ?_;refine aZ rfl rfl (iG (e:=9) (k:=1) (by_:=16) (zs:=[.string ⟨#[]⟩]) (cs:=q.1.map vs) (ds:=[vs (bestL q.2).1]) 3 rfl rfl rfl (by kernel_rfl) (by kernel_rfl) rfl (by decide) (by decide) (by simp) rfl (aNV _) (by omega) (by omega)) ⟨rfl,rfl,trivial⟩ ?_;refine Z1 aB ?_;refine cn ?_
  refine bS (Le.trans (Le.swap (τ:=⟨[(1,vi upto),(5,.osl 1 0 (q.1.length+1)),(6,bB q.2),(7,.own 1 0)],[(0,.live 9 ((q.1++[(bestL q.2).1]).map vs)),(1,.live 172 [vs (bestL q.2).1,vi (bestL q.2).2]),(2,.unborn),(3,.dead),(4,.unborn)]⟩) 0 3 (by simp) (by simp) ⟨rfl,rfl,(iR _ _ (bV _)).symm,rfl,trivial⟩ ⟨by show aL _ 3=some (Hs.live _ (((q.1++[(bestL q.2).1]).map vs).map _));rw [aCO,List.map_append]<;>rfl,rfl,rfl,rfl,rfl,trivial⟩) (Le.reset (τ:=⟨[(1,vi upto),(5,.osl 1 0 (q.1.length+1)),(6,bB q.2),(7,.own 1 0)],[(0,.live 9 ((q.1++[(bestL q.2).1]).map vs)),(1,.live 172 [vs (bestL q.2).1,vi (bestL q.2).2]),(2,.unborn),(3,.unborn),(4,.unborn)]⟩) [3] (by simp) (by repeat (first|trivial|refine ⟨.inr rfl,?_⟩)) ⟨by simp [aE],by simp [aE],aE.of_pure _ (bV _),by simp [aE],trivial⟩ ⟨by rw [if_neg (by decide)];exact ⟨rfl,aCP _⟩,by rw [if_neg (by decide)];exact ⟨rfl,by simp [aE]⟩,by rw [if_neg (by decide)];exact ⟨rfl,trivial⟩,by rw [if_pos (by decide)],by rw [if_neg (by decide)];exact ⟨rfl,trivial⟩,trivial⟩)) ?_
  refine sq ?_;refine Z1 aB ?_;refine cn ?_;refine aD ?_;refine sq ?_;refine Z1 mo ?_;refine Z1 ln ?_;refine Z1 mo ?_;refine cn ?_;refine aU ?_;refine bS (Le.nameNil 8 2 1 9 rfl rfl) ?_
  refine bM (ι:=Nat) (fun k=>⟨[(1,vi upto),(5,.osl 1 0 (q.1.length+1)),(7,.own 1 0),(8,.osl 1 2 (iH q.2 (bestL q.2).1 k).length),(27,bB q.2),(28,vi q.2.length),(29,vi k)],[(0,.live 9 ((q.1++[(bestL q.2).1]).map vs)),(1,.live 172 [vs (bestL q.2).1,vi (bestL q.2).2]),(2,.live 9 ((iH q.2 (bestL q.2).1 k).map vs)),(3,.unborn),(4,.unborn)]⟩) (fun k=>k≤q.2.length) (fun k=>q.2.length-k) 0 (Nat.zero_le _) (Le.sub (by repeat (first|trivial|refine ⟨.inr rfl,?_⟩|refine ⟨.inr (aR (by omega)),?_⟩)) (by repeat (first|trivial|refine ⟨rfl,?_⟩))) ?_;intro k hI;refine sq ?_
  refine Z1 bz ?_;refine cn ?_;refine aD ?_;refine cd (fun hb=>?_) fun hb=>?_
  ·have hk:k<q.2.length:=by have h0:=of_decide_eq_true hb;omega
   have hs1:(iH q.2 (bestL q.2).1 (k+1))=(iH q.2 (bestL q.2).1 k)++mB (q.2.getD k ByteArray.empty) (bestL q.2).1:=rfl;have hm1:((iH q.2 (bestL q.2).1 k)++mB (q.2.getD k ByteArray.empty) (bestL q.2).1).map vs=(iH q.2 (bestL q.2).1 k).map vs++(mB (q.2.getD k ByteArray.empty) (bestL q.2).1).map vs:=List.map_append;have hl1:(iH q.2 (bestL q.2).1 (k+1)).length=(iH q.2 (bestL q.2).1 k).length+(mB (q.2.getD k ByteArray.empty) (bestL q.2).1).length:=by rw [hs1,List.length_append]
   have hsz:=aGW q.2 k;have hwl:=aGZ (r:=(bestL q.2).1) (by omega) q.2 k (by omega);have hws:=aGY (r:=(bestL q.2).1) (by omega) (Lib.countB (q.2.getD k ByteArray.empty) (bestL q.2).1) (q.2.getD k ByteArray.empty);have hln:=aCL (iH q.2 (bestL q.2).1 k);have hln2:=aCL (mB (q.2.getD k ByteArray.empty) (bestL q.2).1);have hszk:(q.2.getD k ByteArray.empty).size≤wt q.2:=hsz;have htk:wt (q.2.take k)≤5000000:=aYQ hwt;have hsp:wt (mB (q.2.getD k ByteArray.empty) (bestL q.2).1)≤(q.2.getD k ByteArray.empty).size+1:=hws;refine aQ ?_;refine aD ?_;refine aU ?_;refine sq ?_;refine Z1 ia ?_;refine Z1 ld ?_
   refine Z1 aB ?_;refine cn ?_;refine tx ?_;refine Z1 mo ?_;refine Z1 mo ?_;refine aS 0 1 false ?_;refine bG ?_;refine Z1 (cq (aYN _ _ (by omega) (by omega)) rfl rfl) ?_;refine aZ rfl rfl (iG (e:=9) (k:=1) (by_:=16) (zs:=[.string ⟨#[]⟩]) (cs:=(iH q.2 (bestL q.2).1 k).map vs) (ds:=(mB (q.2.getD k ByteArray.empty) (bestL q.2).1).map vs) 4 rfl rfl rfl (by kernel_rfl) (by kernel_rfl) rfl (by decide) (by decide) (by simp) (by simp) (aYP _) (by omega) (by omega)) ⟨rfl,rfl,trivial⟩ ?_;refine Z1 aB ?_;refine cn ?_
   refine bS (Le.trans (Le.swap (τ:=⟨[(1,vi upto),(5,.osl 1 0 (q.1.length+1)),(7,.own 1 0),(8,.osl 1 2 (iH q.2 (bestL q.2).1 (k+1)).length),(27,bB q.2),(28,vi q.2.length),(29,vi k)],[(0,.live 9 ((q.1++[(bestL q.2).1]).map vs)),(1,.live 172 [vs (bestL q.2).1,vi (bestL q.2).2]),(2,.live 9 ((iH q.2 (bestL q.2).1 (k+1)).map vs)),(3,.unborn),(4,.dead)]⟩) 2 4 (by simp) (by simp) ⟨rfl,rfl,rfl,by rw [hl1];rfl,(iR _ _ (bV _)).symm,rfl,rfl,trivial⟩ ⟨by show aL _ 0=some (Hs.live _ (((q.1++[(bestL q.2).1]).map vs).map _));rw [aCO];rfl,rfl,by show aL _ 4=some (Hs.live _ (((iH q.2 (bestL q.2).1 (k+1)).map vs).map _));rw [aCO,hs1,hm1];rfl,rfl,rfl,trivial⟩) (Le.reset (τ:=⟨[(1,vi upto),(5,.osl 1 0 (q.1.length+1)),(7,.own 1 0),(8,.osl 1 2 (iH q.2 (bestL q.2).1 (k+1)).length),(27,bB q.2),(28,vi q.2.length),(29,vi k)],[(0,.live 9 ((q.1++[(bestL q.2).1]).map vs)),(1,.live 172 [vs (bestL q.2).1,vi (bestL q.2).2]),(2,.live 9 ((iH q.2 (bestL q.2).1 (k+1)).map vs)),(3,.unborn),(4,.unborn)]⟩) [4] (by simp) (by repeat (first|trivial|refine ⟨.inr rfl,?_⟩)) ⟨by simp [aE],by simp [aE],by simp [aE],by simp [aE],aE.of_pure _ (bV _),by simp [aE],by simp [aE],trivial⟩ ⟨by rw [if_neg (by decide)];exact ⟨rfl,aCP _⟩,by rw [if_neg (by decide)];exact ⟨rfl,by simp [aE]⟩,by rw [if_neg (by decide)];exact ⟨rfl,aCP _⟩,by rw [if_neg (by decide)];exact ⟨rfl,trivial⟩,by rw [if_pos (by decide)],trivial⟩)) ?_
   refine tx ?_;refine Z1 ba ?_;refine Z1 mo ?_;refine cn ?_;exact ⟨k+1,by omega,by omega,Le.sub (by repeat (first|trivial|refine ⟨.inr rfl,?_⟩|refine ⟨.inr (aR (by omega)),?_⟩)) ⟨rfl,rfl,rfl,rfl,rfl,trivial⟩⟩
  have hke:k=q.2.length:=by have h0:=of_decide_eq_false hb;omega
  subst hke;refine bU ?_;refine bS (Le.freeze 8 2 (fun j=>vs ((iH q.2 (bestL q.2).1 q.2.length).getD j ByteArray.empty)) rfl rfl (by simp) (aCN _)) ?_;refine tx ?_;refine Z1 mo ?_;refine Z1 aB ?_;refine cn ?_
  exact ⟨(q.1++[(bestL q.2).1],iH q.2 (bestL q.2).1 q.2.length),⟨hch,by simp;omega,by have h9:=aYO (r:=(bestL q.2).1) (by omega) q.2;show wt (iH _ _ _)≤_;omega⟩,by simp;omega,Le.reset [1,2] (by simp) (by repeat (first|trivial|refine ⟨.inr rfl,?_⟩|refine ⟨.inr (by show bN _ 5=Av.osl 1 0 (q.1++[(bestL q.2).1]).length;rw [List.length_append];rfl),?_⟩)) ⟨by simp [aE],by simp [aE],aE.of_pure _ (bV _),trivial⟩ ⟨by rw [if_neg (by decide)];exact ⟨rfl,by intro z hz;obtain ⟨u,_,rfl⟩:=List.mem_map.1 hz;simp [aE]⟩,by rw [if_pos (by decide)],by rw [if_pos (by decide)],by rw [if_neg (by decide)];exact ⟨rfl,trivial⟩,by rw [if_neg (by decide)];exact ⟨rfl,trivial⟩,trivial⟩⟩
 have hge:¬ (q.1.length:Int)<min upto 32:=of_decide_eq_false hb;have hfin:chooseP l upto=q.1:=by rw [hI.1];cases 33-q.1.length<;>simp [chF,hge]
 refine bU ?_;refine aD ?_;refine bS (Le.freeze 5 0 (fun j=>vs (q.1.getD j ByteArray.empty)) rfl rfl (by simp) (aCN _)) ?_;refine G ?_;exact Rx rfl (by rw [hfin];rfl)
theorem aYT (s p:ByteArray):Lib.hasPrefix s.data.toList p.data.toList=(decide (p.size≤s.size)&&decide (s.extract 0 p.size=p)):=by
 rw [Bool.eq_iff_iff];unfold Lib.hasPrefix;rw [List.isPrefixOf_iff_prefix,Bool.and_eq_true,decide_eq_true_eq,decide_eq_true_eq];have hs:s.data.toList.length=s.size:=by rw [Array.length_toList];rfl
 have hp:p.data.toList.length=p.size:=by rw [Array.length_toList];rfl
 have key:(s.extract 0 p.size).data.toList=s.data.toList.take p.size:=by
  rw [ByteArray.data_extract,Array.toList_extract,List.extract_eq_take_drop];simp
 constructor
 ·intro h;have hl:=h.length_le;refine ⟨by omega,?_⟩;have e:=List.prefix_iff_eq_take.1 h;rw [hp] at e;have:(s.extract 0 p.size).data.toList=p.data.toList:=by rw [key,←e]
  exact ByteArray.ext (Array.toList_inj.1 this)
 intro h;rw [List.prefix_iff_eq_take,hp,←key,h.2]
theorem aXX (s p:ByteArray):PC Tryz.prog 194 [vs s,vs p] (vb (decide (p.size≤s.size)&&decide (s.extract 0 p.size=p))):=by
 intro E vs hG hA _ _ _;unfold aG aG aG at hA;obtain ⟨v,us,rfl,hv,v',us',rfl,hv',rfl⟩:=hA;unfold aA at hv hv';subst hv;subst hv';refine (Tryz.strings_HasPrefix s p E.w).mono ?_;rintro en w' ⟨rfl,rfl⟩;have hb:Below E.w.heap.size E.w E.w:=Below.refl _ _;exact ⟨E,_,rfl,rfl,hG,(Step.refl E).kept (by simp),by rw [aYT];unfold aA;rfl,fun n y hn=>by simp [aL] at hn⟩
theorem aXS {s a:ByteArray}{i:Nat}(hi:i≤s.size):(decide (a.size≤(s.extract i s.size).size)&&decide ((s.extract i s.size).extract 0 a.size=a))=(decide (i+a.size≤s.size)&&decide (s.extract i (i+a.size)=a)):=by
 have e1:(s.extract i s.size).size=s.size-i:=by rw [ByteArray.size_extract];omega
 rw [e1];by_cases h:i+a.size≤s.size
 ·have e2:(s.extract i s.size).extract 0 a.size=s.extract i (i+a.size):=by
   refine oF ?_;rw [lZ,lZ,lZ];rw [List.drop_zero,List.take_of_length_le (l:=tB s) (by rw [fK];exact Nat.le_refl _),List.drop_take];congr 1;omega
  rw [e2];congr 1;rw [decide_eq_decide];omega
 have f2:decide (i+a.size≤s.size)=false:=by simp;omega
 have f3:decide (a.size≤s.size-i)=false:=by simp;omega
 rw [f2,f3];rfl
def tU (l:List ByteArray):Nat→Int
 | 0=>0
 | k+1=>tU l k+((l.getD k ByteArray.empty).size:Int)
theorem aNW (l:List ByteArray)(k:Nat):tU l (k+1)=tU l k+((l.getD k ByteArray.empty).size:Int):=rfl
def xK (l:List ByteArray)(n most:Int):Bool:=decide ((l.length:Int)≤n)&&((List.range l.length).all fun k=>decide (((l.getD k ByteArray.empty).size:Int)≤most))&&decide (tU l l.length≤most)
theorem aNX {l:List ByteArray}{most:Int}(hm:0≤most):∀ k,(∀ j,j<k→((l.getD j ByteArray.empty).size:Int)≤most)→0≤tU l k∧tU l k≤most*k
 | 0,_=>by simp [tU]
 | k+1,h=>by
  have h1:=aNX hm k fun j hj=>h j (by omega);have h2:=h k (by omega);rw [aNW];have h3:most*((k+1:Nat):Int)=most*k+most:=by rw [Int.natCast_add,Int.mul_add];simp
  rw [h3];omega
def xL (a b:List ByteArray):Bool:=(a.length:Int)==b.length&&(List.range a.length).all fun k=>decide (a.getD k ByteArray.empty=b.getD k ByteArray.empty)
theorem aYU (l:List ByteArray)(n most:Int)(hn:n≤1000)(hm:0≤most)(hm2:most≤100000):PC Tryz.prog 17 [bB l,vi n,vi most] (vb (xK l n most)):=by
 refine FB 6 36 Tryz.func17 ?_;refine Gd (fun hb=>?_) fun hb=>?_
 ·have hlong:¬ (l.length:Int)≤n:=by have h0:=of_decide_eq_true hb;omega
  refine G ?_;exact Rx rfl (bP (by unfold xK;simp [hlong]))
 have hlen:(l.length:Int)≤n:=by have h0:=of_decide_eq_false hb;omega
 refine G ?_;refine bM (ι:=Nat) (fun k=>⟨[(0,bB l),(2,vi most),(7,vi (tU l k)),(8,vi k)],[]⟩) (fun k=>k≤l.length∧∀ j,j<k→((l.getD j ByteArray.empty).size:Int)≤most) (fun k=>l.length-k) 0 (⟨Nat.zero_le _,fun j hj=>absurd hj (by omega)⟩) (Le.sub (by repeat (first|trivial|refine ⟨.inr rfl,?_⟩|refine ⟨.inr (aR (by omega)),?_⟩)) (by repeat (first|trivial|refine ⟨rfl,?_⟩))) ?_;intro k hI;refine Gd (fun hb=>?_) fun hb=>?_
 ·have hlt:k<l.length:=by have h0:=of_decide_eq_true hb;omega
  have hbk:=aNX hm k hI.2;have hmk:most*(k:Int)≤100000*(k:Int):=Int.mul_le_mul_of_nonneg_right hm2 (by omega);refine Gd (fun hb=>?_) fun hb=>?_
  ·have hsz:¬ (((l.getD k ByteArray.empty)).size:Int)≤most:=by have h0:=of_decide_eq_true hb;omega
   refine G ?_;exact Rx rfl (bP (by unfold xK;rw [nD (p:=fun k=>decide (((l.getD k ByteArray.empty).size:Int)≤most)) hlt (by simpa using hsz)];simp))
  have hsz:(((l.getD k ByteArray.empty)).size:Int)≤most:=by have h0:=of_decide_eq_false hb;omega
  have hsu:=aNW l k;refine G ?_;exact ⟨k+1,⟨by omega,fun j hj=>by rcases Nat.lt_or_ge j k with h1|h1;(exact hI.2 j h1);(obtain rfl:j=k:=by omega);exact hsz⟩,by omega,Le.sub (by repeat (first|trivial|refine ⟨.inr rfl,?_⟩|refine ⟨.inr (aR (by omega)),?_⟩)) trivial⟩
 have hge:k=l.length:=by have h0:=of_decide_eq_false hb;omega
 refine G ?_;exact Rx rfl (bP (by unfold xK;rw [sP (p:=fun k=>decide (((l.getD k ByteArray.empty).size:Int)≤most)) (fun j hj=>by simpa using hI.2 j (by omega)),←hge];simp [show (k:Int)≤n from by omega]))
theorem aYV (a b:List ByteArray):PC Tryz.prog 116 [bB a,bB b] (vb (xL a b)):=by
 refine FB 6 26 Tryz.func116 ?_;refine dM (t:=0) (x:=bB a) rfl eR fun ha=>?_;refine Gd (fun hb=>?_) fun hb=>?_
 ·have hne:¬ (a.length:Int)=b.length:=by simpa using hb
  refine G ?_;exact Rx rfl (bP (by unfold xL;simp only [beq_eq_false_iff_ne.2 hne];rfl))
 have hll:(a.length:Int)=b.length:=by simpa using hb
 refine G ?_;refine bM (ι:=Nat) (fun k=>⟨[(0,bB a),(1,bB b),(5,vi k)],[]⟩) (fun k=>k≤a.length∧∀ j,j<k→decide (a.getD j ByteArray.empty=b.getD j ByteArray.empty)=true) (fun k=>a.length-k) 0 (⟨Nat.zero_le _,qF⟩) (Le.sub (by repeat (first|trivial|refine ⟨.inr rfl,?_⟩|refine ⟨.inr (aR (by omega)),?_⟩)) (by repeat (first|trivial|refine ⟨rfl,?_⟩))) ?_;intro k hI;refine Gd (fun hb=>?_) fun hb=>?_
 ·have hlt:k<a.length:=by have h0:=of_decide_eq_true hb;omega
  refine G ?_;refine Z1 (zR rfl rfl rfl) ?_;refine Gd (fun hb=>?_) fun hb=>?_
  ·have heq:¬ a.getD k ByteArray.empty=b.getD k ByteArray.empty:=by rw [show ((a.getD k ByteArray.empty).toList !=(b.getD k ByteArray.empty).toList)=!((a.getD k ByteArray.empty).toList==(b.getD k ByteArray.empty).toList) from rfl,tT] at hb;simpa using hb
   refine G ?_;exact Rx rfl (bP (by unfold xL;rw [nD (p:=fun k=>decide (a.getD k ByteArray.empty=b.getD k ByteArray.empty)) hlt (by simpa using heq),Bool.and_false]))
  have heq:a.getD k ByteArray.empty=b.getD k ByteArray.empty:=by rw [show ((a.getD k ByteArray.empty).toList !=(b.getD k ByteArray.empty).toList)=!((a.getD k ByteArray.empty).toList==(b.getD k ByteArray.empty).toList) from rfl,tT] at hb;simpa using hb
  refine G ?_;exact ⟨k+1,⟨by omega,mC (p:=fun j=>decide (a.getD j ByteArray.empty=b.getD j ByteArray.empty)) hI.2 (by simpa using heq)⟩,by omega,Le.sub (by repeat (first|trivial|refine ⟨.inr rfl,?_⟩|refine ⟨.inr (aR (by omega)),?_⟩)) trivial⟩
 have hge:k=a.length:=by have h0:=of_decide_eq_false hb;omega
 refine G ?_;exact Rx rfl (bP (by unfold xL;rw [sP (p:=fun k=>decide (a.getD k ByteArray.empty=b.getD k ByteArray.empty)) (fun j hj=>hI.2 j (by omega)),hll];simp))
def nE (p r:ByteArray):Nat→Nat→Nat→List ByteArray→List ByteArray
 | 0,_,fr,out=>out++[p.extract fr p.size]
 | f+1,i,fr,out=>if i+r.size≤p.size then (if p.extract i (i+r.size)=r then nE p r f (i+r.size) (i+r.size) (out++[p.extract fr i]) else nE p r f (i+1) fr out) else out++[p.extract fr p.size]
theorem ae2 {p r:ByteArray}{f i fr:Nat}{out:List ByteArray}(h:¬ i+r.size≤p.size):nE p r f i fr out=out++[p.extract fr p.size]:=by
 cases f with
 | zero=>rfl
 | succ f=>unfold nE;rw [if_neg h]
theorem akS {p r:ByteArray}(hr:0<r.size):∀ {f f' i fr:Nat} {out:List ByteArray},p.size<f+i→p.size<f'+i→nE p r f i fr out=nE p r f' i fr out
 | 0,f',i,fr,out,h,h'=>by rw [ae2 (by omega),ae2 (by omega)]
 | f+1,0,i,fr,out,h,h'=>by rw [ae2 (by omega),ae2 (by omega)]
 | f+1,f'+1,i,fr,out,h,h'=>by
  unfold nE;split
  ·split
   ·exact akS hr (by omega) (by omega)
   exact akS hr (by omega) (by omega)
  rfl
theorem anE (p r:ByteArray):∀ (f i fr:Nat) (out:List ByteArray),(nE p r f i fr out).length≤out.length+f+1
 | 0,i,fr,out=>by simp [nE]
 | f+1,i,fr,out=>by
  unfold nE;split
  ·split
   ·have:=anE p r f (i+r.size) (i+r.size) (out++[p.extract fr i]);simp at this;omega
   have:=anE p r f (i+1) fr out;omega
  first|(simp;done)|(simp;omega)
def tV (l:List ByteArray)(r:ByteArray):Nat→List ByteArray
 | 0=>[]
 | k+1=>nE (l.getD k ByteArray.empty) r ((l.getD k ByteArray.empty).size+1) 0 0 (tV l r k)
theorem aoM {l:List ByteArray}(r:ByteArray):∀ k,k≤l.length→(tV l r k).length≤2*wt (l.take k)
 | 0,_=>by simp [tV]
 | k+1,hk=>by
  have h1:=aoM (l:=l) r k (by omega);have h3:=anE (l.getD k ByteArray.empty) r ((l.getD k ByteArray.empty).size+1) 0 0 (tV l r k);have e:l.take (k+1)=l.take k++[l.getD k ByteArray.empty]:=by rw [List.take_add_one];simp [show k<l.length from hk]
  have h4:wt [l.getD k ByteArray.empty]=(l.getD k ByteArray.empty).size+1:=by simp [wt]
  unfold tV;rw [e,vR];omega
abbrev aq4:=Nat × Nat × List ByteArray
theorem aq5 (l:List ByteArray)(hl:FewT l)(hw:wt l≤5000000)(r:ByteArray)(hr:0<r.size)(hr2:r.size≤5000000):PC Tryz.prog 213 [bB l,vs r] (bB (tV l r l.length)):=by
 refine FB 2 54 Tryz.func213 ?_;refine G ?_;refine bS (Le.nameNil 5 0 1 9 rfl rfl) ?_;refine bM (ι:=Nat) (fun k=>⟨[(1,vs r),(5,.osl 1 0 (tV l r k).length),(10,bB l),(11,vi l.length),(12,vi k)],[(0,.live 9 ((tV l r k).map vs)),(1,.unborn)]⟩) (fun k=>k≤l.length) (fun k=>l.length-k) 0 (Nat.zero_le _) (Le.sub (by repeat (first|trivial|refine ⟨.inr rfl,?_⟩|refine ⟨.inr (aR (by omega)),?_⟩)) (by repeat (first|trivial|refine ⟨rfl,?_⟩))) ?_;intro k hI;refine sq ?_;refine Z1 bz ?_;refine cn ?_;refine aD ?_;refine cd (fun hb=>?_) fun hb=>?_
 ·have hlt:k<l.length:=by have h0:=of_decide_eq_true hb;omega
  have hps:(l.getD k ByteArray.empty).size≤5000000:=hl.size k;have hll:=hl.len;have hwl:=aoM (l:=l) r k (by omega);have hwt:wt (l.take k)≤5000000:=aYQ hw;refine aQ ?_;refine aD ?_;refine aU ?_;refine sq ?_;refine Z1 ia ?_;refine Z1 ld ?_;refine Z1 aB ?_;refine cn ?_;refine sq ?_;refine Z1 aB ?_;refine cn ?_;refine aD ?_;refine sq ?_;refine Z1 aB ?_;refine cn ?_;refine aU ?_
  refine bM (ι:=aq4) (fun q=>⟨[(1,vs r),(5,.osl 1 0 q.2.2.length),(10,bB l),(11,vi l.length),(12,vi k),(7,vs (l.getD k ByteArray.empty)),(8,vi q.2.1),(9,vi q.1)],[(0,.live 9 (q.2.2.map vs)),(1,.unborn)]⟩) (fun q=>q.2.1≤q.1∧q.1≤(l.getD k ByteArray.empty).size∧q.2.2.length≤(tV l r k).length+q.1∧tV l r (k+1)=nE (l.getD k ByteArray.empty) r ((l.getD k ByteArray.empty).size+1-q.1) q.1 q.2.1 q.2.2) (fun q=>(l.getD k ByteArray.empty).size-q.1) (0,0,tV l r k) (⟨Nat.le_refl _,Nat.zero_le _,by simp,rfl⟩) (Le.sub (by repeat (first|trivial|refine ⟨.inr rfl,?_⟩|refine ⟨.inr (aR (by omega)),?_⟩)) (by repeat (first|trivial|refine ⟨rfl,?_⟩))) ?_
  intro q hI;refine aD ?_;refine sq ?_;refine Z1 mo ?_;refine Z1 mo ?_;refine Z1 oG ?_;refine Z1 ba ?_;refine Z1 mo ?_;refine Z1 oG ?_;refine Z1 bz ?_;refine cn ?_;refine cd (fun hb=>?_) fun hb=>?_
  ·have hin:q.1+r.size≤(l.getD k ByteArray.empty).size:=by have h0:=of_decide_eq_true hb;omega
   have hfu:(l.getD k ByteArray.empty).size+1-q.1=((l.getD k ByteArray.empty).size-q.1)+1:=by omega
   refine aQ ?_;refine aU ?_;refine sq ?_;refine Z1 mo ?_;refine Z1 mo ?_;refine Z1 mo ?_;refine Z1 mo ?_;refine Z1 oG ?_;refine Z1 ba ?_;refine Z1 (OC.cast (aGK rfl rfl rfl rfl (by kernel_rfl) (by omega) (by omega) (by omega)) (show Av.val (.string ((l.getD k ByteArray.empty).extract (q.1:Int).toNat ((q.1:Int)+(r.size:Int)).toNat))=vs ((l.getD k ByteArray.empty).extract q.1 (q.1+r.size)) from by rw [aNI])) ?_;refine Z1 mo ?_;refine Z1 (aGV rfl rfl rfl) ?_;refine cn ?_;refine cd (fun hb=>?_) fun hb=>?_
   ·have hat:(l.getD k ByteArray.empty).extract q.1 (q.1+r.size)=r:=by rw [tT] at hb;exact of_decide_eq_true hb
    refine sq ?_;refine Z1 mo ?_;refine Z1 mo ?_;refine Z1 mo ?_;refine Z1 mo ?_;refine Z1 (OC.cast (aGK rfl rfl rfl rfl (by kernel_rfl) (by omega) (by omega) (by omega)) (show Av.val (.string ((l.getD k ByteArray.empty).extract (q.2.1:Int).toNat (q.1:Int).toNat))=vs ((l.getD k ByteArray.empty).extract q.2.1 q.1) from by rw [Int.toNat_natCast,Int.toNat_natCast])) ?_;refine Z1 (fO (ps:=[.tmp 36]) (xs:=[.val _]) (e:=9) (k:=1) (by_:=16) (zs:=[.string ⟨#[]⟩]) rfl (by kernel_rfl) (by kernel_rfl) rfl rfl rfl (by decide) (by decide)) ?_
    refine aZ rfl rfl (iG (e:=9) (k:=1) (by_:=16) (zs:=[.string ⟨#[]⟩]) (cs:=q.2.2.map vs) (ds:=[vs ((l.getD k ByteArray.empty).extract q.2.1 q.1)]) 1 rfl rfl rfl (by kernel_rfl) (by kernel_rfl) rfl (by decide) (by decide) (by simp) rfl (aNV _) (by omega) (by omega)) ⟨rfl,rfl,trivial⟩ ?_;refine Z1 aB ?_;refine cn ?_
    refine bS (Le.trans (Le.swap (τ:=⟨[(1,vs r),(5,.osl 1 0 (q.2.2.length+1)),(10,bB l),(11,vi l.length),(12,vi k),(7,vs (l.getD k ByteArray.empty)),(8,vi q.2.1),(9,vi q.1)],[(0,.live 9 ((q.2.2++[((l.getD k ByteArray.empty).extract q.2.1 q.1)]).map vs)),(1,.dead)]⟩) 0 1 (by simp) (by simp) ⟨rfl,rfl,(iR _ _ (bV _)).symm,rfl,rfl,rfl,rfl,rfl,trivial⟩ ⟨by show aL _ 1=some (Hs.live _ (((q.2.2++[((l.getD k ByteArray.empty).extract q.2.1 q.1)]).map vs).map _));rw [aCO,show ((q.2.2++[((l.getD k ByteArray.empty).extract q.2.1 q.1)]).map vs)=q.2.2.map vs++[vs ((l.getD k ByteArray.empty).extract q.2.1 q.1)] from List.map_append];rfl,rfl,trivial⟩) (Le.reset (τ:=⟨[(1,vs r),(5,.osl 1 0 (q.2.2.length+1)),(10,bB l),(11,vi l.length),(12,vi k),(7,vs (l.getD k ByteArray.empty)),(8,vi q.2.1),(9,vi q.1)],[(0,.live 9 ((q.2.2++[((l.getD k ByteArray.empty).extract q.2.1 q.1)]).map vs)),(1,.unborn)]⟩) [1] (by simp) (by repeat (first|trivial|refine ⟨.inr rfl,?_⟩)) ⟨by simp [aE],by simp [aE],aE.of_pure _ (bV _),by simp [aE],by simp [aE],by simp [aE],by simp [aE],by simp [aE],trivial⟩ ⟨by rw [if_neg (by decide)];exact ⟨rfl,aCP _⟩,by rw [if_pos (by decide)],trivial⟩)) ?_
    refine G ?_
    exact ⟨(q.1+r.size,q.1+r.size,q.2.2++[((l.getD k ByteArray.empty).extract q.2.1 q.1)]),⟨Nat.le_refl _,by show q.1+r.size≤_;omega,by show (q.2.2++[_]).length≤_+(q.1+r.size);rw [List.length_append];simp;omega,by rw [hI.2.2.2,hfu];show (if _ then _ else _)=_;rw [if_pos hin,if_pos hat];exact akS hr (by omega) (by show _<_+(q.1+r.size);omega)⟩,by show (l.getD k ByteArray.empty).size-(q.1+r.size)<_;omega,Le.sub (by repeat (first|trivial|refine ⟨.inr rfl,?_⟩|refine ⟨.inr (aR (by first|omega|(show (q.1:Int)+(r.size:Int)=((q.1+r.size:Nat):Int);omega)|(show (q.1:Int)+1=((q.1+1:Nat):Int);omega))),?_⟩|refine ⟨.inr (by show bN _ 5=Av.osl 1 0 (q.2.2++[((l.getD k ByteArray.empty).extract q.2.1 q.1)]).length;rw [List.length_append];rfl),?_⟩)) ⟨rfl,rfl,trivial⟩⟩
   have hat:¬ (l.getD k ByteArray.empty).extract q.1 (q.1+r.size)=r:=by rw [tT] at hb;exact of_decide_eq_false hb
   refine G ?_
   exact ⟨(q.1+1,q.2.1,q.2.2),⟨by show q.2.1≤q.1+1;omega,by show q.1+1≤_;omega,by show q.2.2.length≤_+(q.1+1);omega,by rw [hI.2.2.2,hfu];show (if _ then _ else _)=_;rw [if_pos hin,if_neg hat];exact akS hr (by omega) (by show _<_+(q.1+1);omega)⟩,by show (l.getD k ByteArray.empty).size-(q.1+1)<_;omega,Le.sub (by repeat (first|trivial|refine ⟨.inr rfl,?_⟩|refine ⟨.inr (aR (by first|omega|(show (q.1:Int)+(r.size:Int)=((q.1+r.size:Nat):Int);omega)|(show (q.1:Int)+1=((q.1+1:Nat):Int);omega))),?_⟩|refine ⟨.inr (by show bN _ 5=Av.osl 1 0 (q.2.2++[((l.getD k ByteArray.empty).extract q.2.1 q.1)]).length;rw [List.length_append];rfl),?_⟩)) ⟨rfl,rfl,trivial⟩⟩
  have hin:¬ q.1+r.size≤(l.getD k ByteArray.empty).size:=by have h0:=of_decide_eq_false hb;omega
  have hfin:tV l r (k+1)=q.2.2++[((l.getD k ByteArray.empty).extract q.2.1 (l.getD k ByteArray.empty).size)]:=by rw [hI.2.2.2,ae2 hin]
  refine bU ?_;refine tx ?_;refine Z1 mo ?_;refine Z1 mo ?_;refine Z1 mo ?_;refine Z1 (OC.cast (aXW rfl rfl rfl (by kernel_rfl) (by omega) (by omega)) (show Av.val (.string ((l.getD k ByteArray.empty).extract (q.2.1:Int).toNat (l.getD k ByteArray.empty).size))=vs ((l.getD k ByteArray.empty).extract q.2.1 (l.getD k ByteArray.empty).size) from by rw [Int.toNat_natCast])) ?_;refine Z1 (fO (ps:=[.tmp 49]) (xs:=[.val _]) (e:=9) (k:=1) (by_:=16) (zs:=[.string ⟨#[]⟩]) rfl (by kernel_rfl) (by kernel_rfl) rfl rfl rfl (by decide) (by decide)) ?_
  refine aZ rfl rfl (iG (e:=9) (k:=1) (by_:=16) (zs:=[.string ⟨#[]⟩]) (cs:=q.2.2.map vs) (ds:=[vs ((l.getD k ByteArray.empty).extract q.2.1 (l.getD k ByteArray.empty).size)]) 1 rfl rfl rfl (by kernel_rfl) (by kernel_rfl) rfl (by decide) (by decide) (by simp) rfl (aNV _) (by omega) (by omega)) ⟨rfl,rfl,trivial⟩ ?_;refine Z1 aB ?_;refine cn ?_
  refine bS (Le.trans (Le.swap (τ:=⟨[(1,vs r),(5,.osl 1 0 (q.2.2.length+1)),(10,bB l),(11,vi l.length),(12,vi k)],[(0,.live 9 ((q.2.2++[((l.getD k ByteArray.empty).extract q.2.1 (l.getD k ByteArray.empty).size)]).map vs)),(1,.dead)]⟩) 0 1 (by simp) (by simp) ⟨rfl,rfl,(iR _ _ (bV _)).symm,rfl,rfl,trivial⟩ ⟨by show aL _ 1=some (Hs.live _ (((q.2.2++[((l.getD k ByteArray.empty).extract q.2.1 (l.getD k ByteArray.empty).size)]).map vs).map _));rw [aCO,show ((q.2.2++[((l.getD k ByteArray.empty).extract q.2.1 (l.getD k ByteArray.empty).size)]).map vs)=q.2.2.map vs++[vs ((l.getD k ByteArray.empty).extract q.2.1 (l.getD k ByteArray.empty).size)] from List.map_append];rfl,rfl,trivial⟩) (Le.reset (τ:=⟨[(1,vs r),(5,.osl 1 0 (q.2.2.length+1)),(10,bB l),(11,vi l.length),(12,vi k)],[(0,.live 9 ((q.2.2++[((l.getD k ByteArray.empty).extract q.2.1 (l.getD k ByteArray.empty).size)]).map vs)),(1,.unborn)]⟩) [1] (by simp) (by repeat (first|trivial|refine ⟨.inr rfl,?_⟩)) ⟨by simp [aE],by simp [aE],aE.of_pure _ (bV _),by simp [aE],by simp [aE],trivial⟩ ⟨by rw [if_neg (by decide)];exact ⟨rfl,aCP _⟩,by rw [if_pos (by decide)],trivial⟩)) ?_
  refine tx ?_;refine Z1 ba ?_;refine Z1 mo ?_;refine cn ?_;exact ⟨k+1,by omega,by omega,Le.sub (by repeat (first|trivial|refine ⟨.inr rfl,?_⟩|refine ⟨.inr (aR (by omega)),?_⟩|refine ⟨.inr (by show bN _ 5=Av.osl 1 0 (tV l r (k+1)).length;rw [hfin,List.length_append];rfl),?_⟩)) ⟨by rw [hfin];rfl,rfl,trivial⟩⟩
 have hge:k=l.length:=by have h0:=of_decide_eq_false hb;omega
 refine bU ?_;refine aD ?_;refine bS (Le.freeze 5 0 (fun j=>vs ((tV l r k).getD j ByteArray.empty)) rfl rfl (by simp) (aCN _)) ?_;refine G ?_;exact Rx rfl (by rw [←hge];rfl)
def iW (l:List ByteArray)(r:ByteArray):Int:=(fB r-2)*nC l r l.length-fB r
def xM (s:Int)(row:ByteArray)(b:fE):Bool:=decide (s>b.2)||(((s==b.2)&&decide (s>0))&&(decide ((row.size:Int)>b.1.size)||(((row.size:Int)==(b.1.size:Int))&&Op.bytesLess row.toList b.1.toList)))
def aNY (l:List ByteArray)(p:ByteArray)(i n:Nat)(b:fE):fE:=if xM (iW l (p.extract i (i+n))) (p.extract i (i+n)) b=true then (p.extract i (i+n),iW l (p.extract i (i+n))) else b
def vS (l:List ByteArray)(p:ByteArray)(i:Nat)(b:fE):Nat→fE
 | 0=>b
 | k+1=>if k+2≤8∧i+(k+2)≤p.size then aNY l p i (k+2) (vS l p i b k) else vS l p i b k
def aG0 (l:List ByteArray)(p:ByteArray)(b:fE):Nat→fE
 | 0=>b
 | i+1=>vS l p i (aG0 l p b i) 7
def rA (l:List ByteArray):Nat→fE
 | 0=>(⟨#[]⟩,0)
 | k+1=>aG0 l (l.getD k ByteArray.empty) (rA l k) (l.getD k ByteArray.empty).size
theorem aq6 {l:List ByteArray}{p:ByteArray}{i:Nat}{b:fE}{j:Nat}(hj:j≤7)(h:¬ (j+2≤8∧i+(j+2)≤p.size)):vS l p i b 7=vS l p i b j:=by
 have key:∀ d,j+d≤7→vS l p i b (j+d)=vS l p i b j:=by
  intro d
  induction d with
  | zero=>intro _;rfl
  | succ d ih=>
   intro hd;rw [←Nat.add_assoc];show (if j+d+2≤8∧i+(j+d+2)≤p.size then _ else _)=_;rw [if_neg (by omega)];exact ih (by omega)
 have:=key (7-j) (by omega);rwa [show j+(7-j)=7 from by omega] at this
theorem aq7 (l:List ByteArray)(hl:FewT l):PC Tryz.prog 212 [bB l] (vs (rA l l.length).1):=by
 refine FB 6 79 Tryz.func212 ?_;refine G ?_;refine bM (ι:=Nat) (fun k=>⟨[(0,bB l),(3,vs (rA l k).1),(4,vi (rA l k).2),(11,bB l),(12,vi l.length),(13,vi k)],[]⟩) (fun k=>k≤l.length) (fun k=>l.length-k) 0 (Nat.zero_le _) (Le.sub (by repeat (first|trivial|refine ⟨.inr rfl,?_⟩|refine ⟨.inr (aR (by omega)),?_⟩)) (by repeat (first|trivial|refine ⟨rfl,?_⟩))) ?_;intro k hI;refine sq ?_;refine Z1 bz ?_;refine cn ?_;refine aD ?_;refine cd (fun hb=>?_) fun hb=>?_
 ·have hlt:k<l.length:=by have h0:=of_decide_eq_true hb;omega
  have hps:(l.getD k ByteArray.empty).size≤5000000:=hl.size k;have hll:=hl.len;refine aQ ?_;refine aD ?_;refine aU ?_;refine sq ?_;refine Z1 ia ?_;refine Z1 ld ?_;refine Z1 aB ?_;refine cn ?_;refine sq ?_;refine Z1 aB ?_;refine cn ?_;refine aU ?_
  refine bM (ι:=Nat) (fun i=>⟨[(0,bB l),(3,vs (aG0 l (l.getD k ByteArray.empty) (rA l k) i).1),(4,vi (aG0 l (l.getD k ByteArray.empty) (rA l k) i).2),(11,bB l),(12,vi l.length),(13,vi k),(6,vs (l.getD k ByteArray.empty)),(7,vi i)],[]⟩) (fun i=>i≤(l.getD k ByteArray.empty).size) (fun i=>(l.getD k ByteArray.empty).size-i) 0 (Nat.zero_le _) (Le.sub (by repeat (first|trivial|refine ⟨.inr rfl,?_⟩|refine ⟨.inr (aR (by omega)),?_⟩)) (by repeat (first|trivial|refine ⟨rfl,?_⟩))) ?_;intro i hI;refine aD ?_;refine sq ?_;refine Z1 mo ?_;refine Z1 mo ?_;refine Z1 oG ?_;refine Z1 bz ?_;refine cn ?_
  refine cd (fun hb=>?_) fun hb=>?_
  ·have hli:i<(l.getD k ByteArray.empty).size:=by have h0:=of_decide_eq_true hb;omega
   refine aQ ?_;refine aD ?_;refine aU ?_;refine sq ?_;refine Z1 aB ?_;refine cn ?_;refine aU ?_
   refine bM (ι:=Nat) (fun j=>⟨[(0,bB l),(3,vs (vS l (l.getD k ByteArray.empty) i (aG0 l (l.getD k ByteArray.empty) (rA l k) i) j).1),(4,vi (vS l (l.getD k ByteArray.empty) i (aG0 l (l.getD k ByteArray.empty) (rA l k) i) j).2),(11,bB l),(12,vi l.length),(13,vi k),(6,vs (l.getD k ByteArray.empty)),(7,vi i),(8,vi ((j+2:Nat):Int))],[]⟩) (fun j=>j≤7) (fun j=>7-j) 0 (Nat.zero_le _) (Le.sub (by repeat (first|trivial|refine ⟨.inr rfl,?_⟩|refine ⟨.inr (aR (by omega)),?_⟩)) (by repeat (first|trivial|refine ⟨rfl,?_⟩))) ?_;intro j hI;refine aD ?_;refine sq ?_;refine Z1 mo ?_;refine Z1 bz ?_
   refine Z1 mo ?_;refine Z4 (fun hC=>mo) ?_;refine Z4 (fun hC=>mo) ?_;refine Z4 (fun hC=>ba) ?_;refine Z4 (fun hC=>mo) ?_;refine Z4 (fun hC=>oG) ?_;refine Z4 (fun hC=>bz) ?_;refine Z1 an ?_;refine cn ?_;refine cd (fun hb=>?_) fun hb=>?_
   ·have hn:j+2≤8∧i+(j+2)≤(l.getD k ByteArray.empty).size:=by simp only [Bool.and_eq_true,decide_eq_true_eq] at hb;omega
    have hx:=aNI (l.getD k ByteArray.empty) i (j+2);have hxs:=aCF (l.getD k ByteArray.empty) i (j+2) hn.2;refine aQ ?_;refine aD ?_;refine aU ?_;refine sq ?_;refine Z1 mo ?_;refine Z1 mo ?_;refine Z1 mo ?_;refine Z1 mo ?_;refine Z1 ba ?_;refine Z1 (OC.cast (aGK rfl rfl rfl rfl (by kernel_rfl) (by omega) (by omega) (by omega)) (show Av.val (.string ((l.getD k ByteArray.empty).extract (i:Int).toNat ((i:Int)+((j+2:Nat):Int)).toNat))=vs ((l.getD k ByteArray.empty).extract i (i+(j+2))) from by rw [hx])) ?_;refine Z1 aB ?_;refine cn ?_;refine sq ?_;refine Z1 mo ?_;refine Z1 mo ?_
    refine Z1 (ca (aq3 l hl ((l.getD k ByteArray.empty).extract i (i+(j+2))) (by rw [hxs];omega) (by rw [hxs];omega))) ?_;refine Z1 aB ?_;refine cn ?_;refine sq ?_;refine Z1 mo ?_;refine Z1 mo ?_;refine Z1 bz ?_;refine Z1 mo ?_;refine Z4 (fun hC=>mo) ?_;refine Z4 (fun hC=>mo) ?_;refine Z4 (fun hC=>bz) ?_;refine Z4 (fun hC=>mo) ?_;refine Z4 (fun hC=>mo) ?_;refine Z4 (fun hC=>bz) ?_;refine Z5 ?_;refine Z4 (fun hC=>mo) ?_;refine Z4 (fun hC=>mo) ?_;refine Z4 (fun hC=>oG) ?_;refine Z4 (fun hC=>mo) ?_;refine Z4 (fun hC=>oG) ?_;refine Z4 (fun hC=>bz) ?_;refine Z4 (fun hC=>mo) ?_
    refine Z4 (fun hC=>mo) ?_;refine Z4 (fun hC=>oG) ?_;refine Z4 (fun hC=>mo) ?_;refine Z4 (fun hC=>oG) ?_;refine Z4 (fun hC=>bz) ?_;refine Z4 (fun hC=>mo) ?_;refine Z4 (fun hC=>mo) ?_;refine Z4 (fun hC=>mo) ?_;refine Z4 (fun hC=>aYB rfl rfl rfl) ?_;refine Z5 ?_;refine Z6 ?_;refine Z5 ?_;refine Z1 cC ?_;refine cn ?_;refine cd (fun hb=>?_) fun hb=>?_
    ·have hbt:xM (iW l ((l.getD k ByteArray.empty).extract i (i+(j+2)))) ((l.getD k ByteArray.empty).extract i (i+(j+2))) (vS l (l.getD k ByteArray.empty) i (aG0 l (l.getD k ByteArray.empty) (rA l k) i) j)=true:=hb;have e1:vS l (l.getD k ByteArray.empty) i (aG0 l (l.getD k ByteArray.empty) (rA l k) i) (j+1)=(((l.getD k ByteArray.empty).extract i (i+(j+2))),iW l ((l.getD k ByteArray.empty).extract i (i+(j+2)))):=by
      show (if _ then aNY _ _ _ _ _ else _)=_;rw [if_pos hn];unfold aNY;rw [if_pos hbt]
     refine G ?_;exact ⟨j+1,by omega,by omega,Le.sub (by repeat (first|trivial|refine ⟨.inr rfl,?_⟩|refine ⟨.inr (aR (by omega)),?_⟩|refine ⟨.inr (by rw [e1];rfl),?_⟩)) trivial⟩
    have hbt:¬ xM (iW l ((l.getD k ByteArray.empty).extract i (i+(j+2)))) ((l.getD k ByteArray.empty).extract i (i+(j+2))) (vS l (l.getD k ByteArray.empty) i (aG0 l (l.getD k ByteArray.empty) (rA l k) i) j)=true:=by intro hc;have:xM (iW l ((l.getD k ByteArray.empty).extract i (i+(j+2)))) ((l.getD k ByteArray.empty).extract i (i+(j+2))) (vS l (l.getD k ByteArray.empty) i (aG0 l (l.getD k ByteArray.empty) (rA l k) i) j)=false:=hb;rw [hc] at this;cases this
    have e1:vS l (l.getD k ByteArray.empty) i (aG0 l (l.getD k ByteArray.empty) (rA l k) i) (j+1)=(vS l (l.getD k ByteArray.empty) i (aG0 l (l.getD k ByteArray.empty) (rA l k) i) j):=by
     show (if _ then aNY _ _ _ _ _ else _)=_;rw [if_pos hn];unfold aNY;rw [if_neg hbt]
    refine G ?_;exact ⟨j+1,by omega,by omega,Le.sub (by repeat (first|trivial|refine ⟨.inr rfl,?_⟩|refine ⟨.inr (aR (by omega)),?_⟩|refine ⟨.inr (by rw [e1];rfl),?_⟩)) trivial⟩
   have hn:¬ (j+2≤8∧i+(j+2)≤(l.getD k ByteArray.empty).size):=by intro hc;simp only [Bool.and_eq_false_iff,decide_eq_false_iff_not] at hb;omega
   have hend:aG0 l (l.getD k ByteArray.empty) (rA l k) (i+1)=(vS l (l.getD k ByteArray.empty) i (aG0 l (l.getD k ByteArray.empty) (rA l k) i) j):=aq6 hI hn;refine bU ?_;refine tx ?_;refine Z1 mo ?_;refine Z1 ba ?_;refine Z1 aB ?_;refine cn ?_;exact ⟨i+1,by omega,by omega,Le.sub (by repeat (first|trivial|refine ⟨.inr rfl,?_⟩|refine ⟨.inr (aR (by omega)),?_⟩|refine ⟨.inr (by rw [hend];rfl),?_⟩)) trivial⟩
  have hie:i=(l.getD k ByteArray.empty).size:=by have h0:=of_decide_eq_false hb;omega
  have hp1:rA l (k+1)=(aG0 l (l.getD k ByteArray.empty) (rA l k) i):=by show aG0 _ _ _ _=_;rw [hie]
  refine bU ?_;refine tx ?_;refine Z1 ba ?_;refine Z1 mo ?_;refine cn ?_;exact ⟨k+1,by omega,by omega,Le.sub (by repeat (first|trivial|refine ⟨.inr rfl,?_⟩|refine ⟨.inr (aR (by omega)),?_⟩|refine ⟨.inr (by rw [hp1];rfl),?_⟩)) trivial⟩
 have hge:k=l.length:=by have h0:=of_decide_eq_false hb;omega
 refine G ?_;exact Rx rfl (by rw [hge];rfl)
end Go.Proofs.YtgajclaoaphgoaaGreatDoor
