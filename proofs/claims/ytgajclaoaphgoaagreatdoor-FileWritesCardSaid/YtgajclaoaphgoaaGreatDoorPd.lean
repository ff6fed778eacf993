/- Parts of the proof of a law of this seat: rules and contracts; no conditions. -/
import Derived.Test.YtgajclaoaphgoaaGreatDoorVa
import Derived.Test.YtgajclaoaphgoaaGreatDoorWireP
import Derived.Test.YtgajclaoaphgoaaGreatDoorAtx
import Derived.Test.YtgajclaoaphgoaaGreatDoorProg
import Derived.KernelRfl
import Derived.Test.YtgajclaoaphgoaaGreatDoorMp
import Derived.Test.YtgajclaoaphgoaaGreatDoorCr
set_option maxHeartbeats 6400000
set_option maxRecDepth 100000
set_option linter.unusedVariables false
set_option linter.unusedSimpArgs false
namespace Go.Proofs.YtgajclaoaphgoaaGreatDoor
open Go.RowKit
theorem aDR (π:Nat→Nat)(l:List Int):(l.map vi).map (Av.ren π)=l.map vi:=by rw [List.map_map];rfl
theorem aKN {l:List bX}{k:Nat}:gJ l (k+1)=gJ l k++iM (l.getD k dJ):=rfl
theorem acI (s:ByteArray)(ab:List ByteArray)(hs:s.size≤2000)(hb2:∀ k,(ab.getD k ByteArray.empty).size≤1000000)(hbl:ab.length≤1000000):PC Tryz.prog 67 [vs s,bB ab] (aK (gT s ab)):=by
 obtain ⟨hz,hzl⟩:=ahJ (s:=s) ab;have hca:=ahK (s:=s) ab;refine FB 3 38 Tryz.func67 ?_;refine C (aXV s ab (by omega) hb2 hbl) ?_;refine bS (Le.nameNil 5 0 1 3 rfl rfl) ?_;refine bM (ι:=Nat) (fun k=>⟨[(5,.osl 1 0 (gJ (bL s ab) k).length),(12,rH (bL s ab)),(13,vi ((bL s ab).length:Int)),(14,vi k)],[(0,.live 3 ((gJ (bL s ab) k).map vi)),(1,.unborn),(2,.unborn)]⟩) (fun k=>k≤(bL s ab).length) (fun k=>(bL s ab).length-k) 0 (Nat.zero_le _) (Le.sub ⟨.inr rfl,.inr rfl,.inr rfl,.inr rfl,trivial⟩ ⟨rfl,rfl,rfl,trivial⟩) ?_;intro k hI;refine sq ?_;refine Z1 bz ?_;refine cn ?_
 refine aD ?_;refine cd (fun hb=>?_) fun hb=>?_
 ·have hlt:k<(bL s ab).length:=by have h0:=of_decide_eq_true hb;omega
  have hps:=hz k;have hka:=hca k;have hcl:=aSV hz k;have hcb:(gJ (bL s ab) k).length≤100000000:=by have:=ahL (a:=3*s.size+2) (b:=k) (c:=6002) (d:=4003) (by omega) (by omega);omega
  have hpl:=aSU ((bL s ab).getD k dJ) s.size (hz k);refine aQ ?_;refine aD ?_;refine aU ?_;refine sq ?_;refine Z1 ia ?_;refine Z1 lr ?_;refine Z2 (al 2 [.string ⟨#[]⟩,.int .i64 0]) ?_;refine bW [_,_] ?_;refine cn ?_;refine aD ?_;refine sq ?_;refine aS 1 1 false ?_;refine bG ?_;refine Z1 bz ?_;refine cn ?_;refine cd (fun hb=>?_) fun hb=>?_
  ·have hpos:((bL s ab).getD k dJ).2>0:=of_decide_eq_true hb;have hst:gJ (bL s ab) (k+1)=(gJ (bL s ab) k)++[30,((bL s ab).getD k dJ).2-1]:=by rw [aKN];unfold iM;rw [if_pos hpos]
   refine sq ?_;refine Z1 mo ?_;refine aS 1 1 false ?_;refine bG ?_;refine Z1 iP ?_;refine Z1 (fO (ps:=[_,.tmp 24]) (xs:=[.val _,.val _]) (e:=3) (k:=1) (by_:=8) (zs:=[.int .i64 0]) rfl (by kernel_rfl) (by kernel_rfl) rfl rfl rfl (by decide) (by decide)) ?_;refine aZ rfl rfl (iG (e:=3) (k:=1) (by_:=8) (zs:=[.int .i64 0]) (cs:=(gJ (bL s ab) k).map vi) (ds:=[vi 30,vi (((bL s ab).getD k dJ).2-1)]) 1 rfl rfl rfl (by kernel_rfl) (by kernel_rfl) rfl (by decide) (by decide) (by simp) rfl (ahM _ _) (by omega) (by omega)) ⟨rfl,rfl,trivial⟩ ?_;refine Z1 aB ?_;refine cn ?_
   refine bS (Le.trans (Le.swap (τ:=⟨[(5,.osl 1 0 ((gJ (bL s ab) k)++[30,((bL s ab).getD k dJ).2-1]).length),(12,rH (bL s ab)),(13,vi ((bL s ab).length:Int)),(14,vi k)],[(0,.live 3 (((gJ (bL s ab) k)++[30,((bL s ab).getD k dJ).2-1]).map vi))]⟩) 0 1 (by simp) (by simp) ⟨by rw [List.length_append];rfl,(iR _ _ (qD _)).symm,rfl,rfl,trivial⟩ ⟨by show aL _ 1=some (Hs.live _ ((((gJ (bL s ab) k)++[30,((bL s ab).getD k dJ).2-1]).map vi).map _));rw [aDR];simp only [List.map_append];rfl,trivial⟩) (Le.reset (τ:=⟨[(5,.osl 1 0 ((gJ (bL s ab) k)++[30,((bL s ab).getD k dJ).2-1]).length),(12,rH (bL s ab)),(13,vi ((bL s ab).length:Int)),(14,vi k)],[(0,.live 3 (((gJ (bL s ab) k)++[30,((bL s ab).getD k dJ).2-1]).map vi)),(1,.unborn),(2,.unborn)]⟩) [1,2] (by simp) ⟨.inr rfl,.inr rfl,.inr rfl,.inr rfl,trivial⟩ ⟨by simp [aE],aE.of_pure _ (qD _),by simp [aE],by simp [aE],trivial⟩ ⟨by rw [if_neg (by decide)];exact ⟨rfl,uG _⟩,by rw [if_pos (by decide)],by rw [if_pos (by decide)],trivial⟩)) ?_
   refine bU ?_;refine tx ?_;refine Z1 ba ?_;refine Z1 mo ?_;refine cn ?_;exact ⟨k+1,by omega,by omega,Le.sub ⟨.inr (by show bN _ 5=Av.osl 1 0 (gJ (bL s ab) (k+1)).length;rw [hst];rfl),.inr rfl,.inr rfl,.inr (aR (by omega)),trivial⟩ ⟨by rw [hst];rfl,rfl,rfl,trivial⟩⟩
  have hpos:¬ ((bL s ab).getD k dJ).2>0:=of_decide_eq_false hb;have hpc:iM ((bL s ab).getD k dJ)=(jF (tB ((bL s ab).getD k dJ).1)).1:=by unfold iM;rw [if_neg hpos]
  rw [hpc] at hpl;have hst:gJ (bL s ab) (k+1)=(gJ (bL s ab) k)++(jF (tB ((bL s ab).getD k dJ).1)).1:=by rw [aKN,hpc]
  refine aQ ?_;refine sq ?_;refine aS 0 1 false ?_;refine bG ?_;refine Z1 (ca (ahH ((bL s ab).getD k dJ).1 (by omega))) ?_;refine Z1 mo ?_;refine Z1 ex ?_;refine Z1 ex ?_;refine Z1 aB ?_;refine Z1 aB ?_;refine cn ?_;refine tx ?_;refine Z1 mo ?_;refine Z1 mo ?_;refine aZ rfl rfl (iG (e:=3) (k:=1) (by_:=8) (zs:=[.int .i64 0]) (cs:=(gJ (bL s ab) k).map vi) (ds:=((jF (tB ((bL s ab).getD k dJ).1)).1).map vi) 1 rfl rfl rfl (by kernel_rfl) (by kernel_rfl) rfl (by decide) (by decide) (by simp) (by simp) (ad3 _) (by omega) (by omega)) ⟨rfl,rfl,trivial⟩ ?_;refine Z1 aB ?_;refine cn ?_
  refine bS (Le.trans (Le.swap (τ:=⟨[(5,.osl 1 0 ((gJ (bL s ab) k)++(jF (tB ((bL s ab).getD k dJ).1)).1).length),(12,rH (bL s ab)),(13,vi ((bL s ab).length:Int)),(14,vi k)],[(0,.live 3 (((gJ (bL s ab) k)++(jF (tB ((bL s ab).getD k dJ).1)).1).map vi))]⟩) 0 1 (by simp) (by simp) ⟨by rw [List.length_append];rfl,(iR _ _ (qD _)).symm,rfl,rfl,trivial⟩ ⟨by show aL _ 1=some (Hs.live _ ((((gJ (bL s ab) k)++(jF (tB ((bL s ab).getD k dJ).1)).1).map vi).map _));rw [aDR];simp only [List.map_append];rfl,trivial⟩) (Le.reset (τ:=⟨[(5,.osl 1 0 ((gJ (bL s ab) k)++(jF (tB ((bL s ab).getD k dJ).1)).1).length),(12,rH (bL s ab)),(13,vi ((bL s ab).length:Int)),(14,vi k)],[(0,.live 3 (((gJ (bL s ab) k)++(jF (tB ((bL s ab).getD k dJ).1)).1).map vi)),(1,.unborn),(2,.unborn)]⟩) [1,2] (by simp) ⟨.inr rfl,.inr rfl,.inr rfl,.inr rfl,trivial⟩ ⟨by simp [aE],aE.of_pure _ (qD _),by simp [aE],by simp [aE],trivial⟩ ⟨by rw [if_neg (by decide)];exact ⟨rfl,uG _⟩,by rw [if_pos (by decide)],by rw [if_pos (by decide)],trivial⟩)) ?_
  refine G ?_;exact ⟨k+1,by omega,by omega,Le.sub ⟨.inr (by show bN _ 5=Av.osl 1 0 (gJ (bL s ab) (k+1)).length;rw [hst];rfl),.inr rfl,.inr rfl,.inr (aR (by omega)),trivial⟩ ⟨by rw [hst];rfl,rfl,rfl,trivial⟩⟩
 have hge:k=(bL s ab).length:=by have h0:=of_decide_eq_false hb;omega
 refine bU ?_;refine aD ?_;refine bS (Le.freeze 5 0 (fun j=>vi ((gJ (bL s ab) k).getD j 0)) rfl rfl (by simp) (aUH _)) ?_;refine G ?_;exact Rx rfl (by rw [hge];rfl)
theorem atD (l:List bX)(n:Nat)(hn:n≤2000)(hz:iX n l)(hca:∀ k,0≤(l.getD k dJ).2∧(l.getD k dJ).2≤32)(hl:l.length≤10000):PC Tryz.prog 149 [rH l] (aK (gJ l l.length)):=by
 refine FB 2 44 Tryz.func149 ?_;refine G ?_;refine bS (Le.nameNil 3 0 1 3 rfl rfl) ?_;refine bM (ι:=Nat) (fun k=>⟨[(0,rH l),(3,.osl 1 0 (gJ l k).length),(4,vi k)],[(0,.live 3 ((gJ l k).map vi)),(1,.unborn)]⟩) (fun k=>k≤l.length) (fun k=>l.length-k) 0 (Nat.zero_le _) (Le.sub ⟨.inr rfl,.inr rfl,.inr rfl,trivial⟩ ⟨rfl,rfl,trivial⟩) ?_;intro k hI;refine Gd (fun hb=>?_) fun hb=>?_
 ·have hlt:k<l.length:=by have h0:=of_decide_eq_true hb;omega
  have hps:=hz k;have hka:=hca k;have hcl:=aSV hz k;have hcb:(gJ l k).length≤100000000:=by have:=ahL (a:=3*n+2) (b:=k) (c:=6002) (d:=10000) (by omega) (by omega);omega
  have hpl:=aSU (l.getD k dJ) n (hz k);refine Gd (fun hb=>?_) fun hb=>?_
  ·have hpos:(l.getD k dJ).2>0:=of_decide_eq_true hb;have hst:gJ l (k+1)=((gJ l k)++[30])++[(l.getD k dJ).2-1]:=by rw [aKN];unfold iM;rw [if_pos hpos,List.append_assoc];rfl
   refine sq ?_;refine Z1 mo ?_;refine Z1 (fO (ps:=[_]) (xs:=[.val _]) (e:=3) (k:=1) (by_:=8) (zs:=[.int .i64 0]) rfl (by kernel_rfl) (by kernel_rfl) rfl rfl rfl (by decide) (by decide)) ?_;refine aZ rfl rfl (iG (e:=3) (k:=1) (by_:=8) (zs:=[.int .i64 0]) (cs:=(gJ l k).map vi) (ds:=[vi 30]) 1 rfl rfl rfl (by kernel_rfl) (by kernel_rfl) rfl (by decide) (by decide) (by simp) rfl (aP3 _) (by omega) (by omega)) ⟨rfl,rfl,trivial⟩ ?_;refine Z1 aB ?_;refine cn ?_
   refine bS (Le.trans (Le.swap (τ:=⟨[(0,rH l),(3,.osl 1 0 ((gJ l k)++[30]).length),(4,vi k)],[(0,.live 3 (((gJ l k)++[30]).map vi))]⟩) 0 1 (by simp) (by simp) ⟨(iR _ _ (qD _)).symm,by first|(rw [List.length_append];rfl)|(simp only [List.length_append];rfl),rfl,trivial⟩ ⟨by show aL _ 1=some (Hs.live _ ((((gJ l k)++[30]).map vi).map _));rw [aDR];simp only [List.map_append];rfl,trivial⟩) (Le.reset (τ:=⟨[(0,rH l),(3,.osl 1 0 ((gJ l k)++[30]).length),(4,vi k)],[(0,.live 3 (((gJ l k)++[30]).map vi)),(1,.unborn)]⟩) [1] (by simp) ⟨.inr rfl,.inr rfl,.inr rfl,trivial⟩ ⟨aE.of_pure _ (qD _),by simp [aE],by simp [aE],trivial⟩ ⟨by rw [if_neg (by decide)];exact ⟨rfl,uG _⟩,by rw [if_pos (by decide)],trivial⟩)) ?_
   refine sq ?_;refine Z1 mo ?_;refine Z1 mo ?_;refine Z1 mo ?_;refine Z1 ia ?_;refine Z1 (fa 1) ?_;refine Z1 ld ?_;refine Z1 iP ?_;refine Z1 (fO (ps:=[.tmp 28]) (xs:=[.val _]) (e:=3) (k:=1) (by_:=8) (zs:=[.int .i64 0]) rfl (by kernel_rfl) (by kernel_rfl) rfl rfl rfl (by decide) (by decide)) ?_;refine aZ rfl rfl (iG (e:=3) (k:=1) (by_:=8) (zs:=[.int .i64 0]) (cs:=((gJ l k)++[30]).map vi) (ds:=[vi ((l.getD k dJ).2-1)]) 1 rfl rfl rfl (by kernel_rfl) (by kernel_rfl) rfl (by decide) (by decide) (by simp) rfl (aP3 _) (by simp;omega) (by simp;omega)) ⟨rfl,rfl,trivial⟩ ?_
   refine Z1 aB ?_;refine cn ?_
   refine bS (Le.trans (Le.swap (τ:=⟨[(0,rH l),(3,.osl 1 0 (((gJ l k)++[30])++[(l.getD k dJ).2-1]).length),(4,vi k)],[(0,.live 3 ((((gJ l k)++[30])++[(l.getD k dJ).2-1]).map vi))]⟩) 0 1 (by simp) (by simp) ⟨(iR _ _ (qD _)).symm,by first|(rw [List.length_append];rfl)|(simp only [List.length_append];rfl),rfl,trivial⟩ ⟨by show aL _ 1=some (Hs.live _ (((((gJ l k)++[30])++[(l.getD k dJ).2-1]).map vi).map _));rw [aDR];simp only [List.map_append];rfl,trivial⟩) (Le.reset (τ:=⟨[(0,rH l),(3,.osl 1 0 (((gJ l k)++[30])++[(l.getD k dJ).2-1]).length),(4,vi k)],[(0,.live 3 ((((gJ l k)++[30])++[(l.getD k dJ).2-1]).map vi)),(1,.unborn)]⟩) [1] (by simp) ⟨.inr rfl,.inr rfl,.inr rfl,trivial⟩ ⟨aE.of_pure _ (qD _),by simp [aE],by simp [aE],trivial⟩ ⟨by rw [if_neg (by decide)];exact ⟨rfl,uG _⟩,by rw [if_pos (by decide)],trivial⟩)) ?_
   refine G ?_;exact ⟨k+1,by omega,by omega,Le.sub ⟨.inr rfl,.inr (by show bN _ 3=Av.osl 1 0 (gJ l (k+1)).length;rw [hst];rfl),.inr (aR (by omega)),trivial⟩ ⟨by rw [hst];rfl,rfl,trivial⟩⟩
  have hpos:¬ (l.getD k dJ).2>0:=of_decide_eq_false hb;have hpc:iM (l.getD k dJ)=(jF (tB (l.getD k dJ).1)).1:=by unfold iM;rw [if_neg hpos]
  rw [hpc] at hpl;have hst:gJ l (k+1)=(gJ l k)++(jF (tB (l.getD k dJ).1)).1:=by rw [aKN,hpc]
  refine aQ ?_;refine sq ?_;refine Z1 mo ?_;refine Z1 mo ?_;refine Z1 ia ?_;refine Z1 (fa 0) ?_;refine Z1 ld ?_;refine Z1 (ca (atC (l.getD k dJ).1 (by omega))) ?_;refine Z1 mo ?_;refine Z1 ex ?_;refine Z1 ex ?_;refine Z1 aB ?_;refine Z1 aB ?_;refine cn ?_;refine tx ?_;refine Z1 mo ?_;refine Z1 mo ?_;refine aZ rfl rfl (iG (e:=3) (k:=1) (by_:=8) (zs:=[.int .i64 0]) (cs:=(gJ l k).map vi) (ds:=((jF (tB (l.getD k dJ).1)).1).map vi) 1 rfl rfl rfl (by kernel_rfl) (by kernel_rfl) rfl (by decide) (by decide) (by simp) (by simp) (ad3 _) (by omega) (by omega)) ⟨rfl,rfl,trivial⟩ ?_;refine Z1 aB ?_
  refine cn ?_
  refine bS (Le.trans (Le.swap (τ:=⟨[(0,rH l),(3,.osl 1 0 ((gJ l k)++(jF (tB (l.getD k dJ).1)).1).length),(4,vi k)],[(0,.live 3 (((gJ l k)++(jF (tB (l.getD k dJ).1)).1).map vi))]⟩) 0 1 (by simp) (by simp) ⟨(iR _ _ (qD _)).symm,by first|(rw [List.length_append];rfl)|(simp only [List.length_append];rfl),rfl,trivial⟩ ⟨by show aL _ 1=some (Hs.live _ ((((gJ l k)++(jF (tB (l.getD k dJ).1)).1).map vi).map _));rw [aDR];simp only [List.map_append];rfl,trivial⟩) (Le.reset (τ:=⟨[(0,rH l),(3,.osl 1 0 ((gJ l k)++(jF (tB (l.getD k dJ).1)).1).length),(4,vi k)],[(0,.live 3 (((gJ l k)++(jF (tB (l.getD k dJ).1)).1).map vi)),(1,.unborn)]⟩) [1] (by simp) ⟨.inr rfl,.inr rfl,.inr rfl,trivial⟩ ⟨aE.of_pure _ (qD _),by simp [aE],by simp [aE],trivial⟩ ⟨by rw [if_neg (by decide)];exact ⟨rfl,uG _⟩,by rw [if_pos (by decide)],trivial⟩)) ?_
  refine G ?_;exact ⟨k+1,by omega,by omega,Le.sub ⟨.inr rfl,.inr (by show bN _ 3=Av.osl 1 0 (gJ l (k+1)).length;rw [hst];rfl),.inr (aR (by omega)),trivial⟩ ⟨by rw [hst];rfl,rfl,trivial⟩⟩
 have hge:k=l.length:=by have h0:=of_decide_eq_false hb;omega
 refine bU ?_;refine aD ?_;refine bS (Le.freeze 3 0 (fun j=>vi ((gJ l k).getD j 0)) rfl rfl (by simp) (aUH _)) ?_;refine G ?_;exact Rx rfl (by rw [hge];rfl)
section
variable {P:Program}{o:Oper}{ρ:Operand→Av}{p q:Operand}{T:TypeId}
theorem aSN {w:World}{g n:Nat}{cur:Array Value}{t:TypeId}{z:Nat × Nat}(h:w.heap[g]?=some (.cells cur t z))(hn:n≠0)(hz:z=(0,0)∨z=(0,n)):(w.freeze ⟨g,0,none⟩ n).heap[g]?=some (.cells cur t (0,n)):=by
 unfold World.freeze;rw [if_neg hn];show (w.heap.modify g _)[g]?=_;rw [Array.getElem?_modify,if_pos rfl,h];rcases hz with rfl|rfl
 ·simp
 have:(0==n)=false:=by simp;omega
 simp [this]
theorem aSO {E:Env}{a:Act}{e T2 ty:TypeId}{b:Nat}{s:ByteArray}{cur:Array Value}{z:Nat × Nat}(hT:pZ P T=some e)(hc:P.cellsOf e=1)(h0:0<s.size)(h63:s.size≤9223372036854775807)(hb:E.w.heap[b]?=some (.cells cur e z))(hcell:∀ (j:Nat) (u:Value),(Lib.strCells s)[j]?=some u→cur[j]?=some u):
 (Builtin.unsafeString_ #[T,T2] ty #[.pointer (some ⟨b,0,none⟩),.int .i64 s.size]).run P E.w=.ok (.string s) (E.w.freeze ⟨b,0,none⟩ s.size):=by
 have hls:s.data.toList.length=s.size:=by rw [Array.length_toList];rfl
 have hcell':∀ (j:Nat) (x:UInt8),s.data.toList[j]?=some x→cur[j]?=some (Value.int .u8 x.toNat):=fun j x hx=>hcell j _ (by unfold Lib.strCells;rw [List.getElem?_map,hx];rfl);have hsz:s.size≤cur.size:=by
  have hlt:s.size-1<s.data.toList.length:=by omega
  have:=(Array.getElem?_eq_some_iff.1 (hcell' (s.size-1) _ (List.getElem?_eq_getElem hlt))).1;omega
 have:=Lib.run_unsafeString_row (P:=P) E.w T T2 ty e (vJ hT) hc b cur.size (by simp [World.shape?,hb]) s.data.toList (fun hz=>by rw [hz] at hls;simp at hls;omega) (by omega) (by omega) fun j x hx=>by
  rw [Addr.add_lit];show E.w.cell? ⟨b,0+j,none⟩=_;simp only [World.cell?,hb,Nat.zero_add];rw [hcell' j x hx];rfl
 rwa [hls] at this
theorem agR {E:Env}{s:ByteArray}{cur:Array Value}(h:∀ (i:Nat) (y:Av),(dP s)[i]?=some y→∃ u:Value,cur[i]?=some u∧u.oneCell'=true∧aA E y u):∀ (j:Nat) (u:Value),(Lib.strCells s)[j]?=some u→cur[j]?=some u:=fun j u hu=>by
 unfold Lib.strCells at hu;rw [List.getElem?_map] at hu;cases hx:s.data.toList[j]? with
 | none=>rw [hx] at hu;cases hu
 | some x=>
  rw [hx] at hu;simp only [Option.map_some,Option.some.injEq] at hu;obtain ⟨u',h1,_,h2⟩:=h j (.val (.int .u8 x.toNat)) (by unfold dP;rw [List.getElem?_map,hx];rfl);unfold aA at h2;rw [h1,h2,←hu]
theorem agS {T2 e T0:TypeId}{m n0 n:Nat}{x:Av}{s:ByteArray}(ho:o.op=.call { callee:=.builtin .unsafeString,args:=#[p,q],argTypes:=#[T,T2] })(hp:ρ p=.own m 0)(hq:ρ q=vi (n:Int))(hT:pZ P T=some e)(hc:P.cellsOf e=1)(hn:n=s.size)(h0:0<s.size)(h63:s.size≤9223372036854775807)(hnm:n0≠m):OC P o ρ [(m,.live e (dP s)),(n0,.live T0 [x,.osl 1 m s.size])] (vs s) [(m,.dead),(n0,.live T0 [x,.frz false e (Lib.strCells s)])]:=by
 intro E a hG hr hH;have h1:=hr p (by simp [ho,Op.operands,Call.operands]);have h2:=hr q (by simp [ho,Op.operands,Call.operands]);rw [hp] at h1;rw [hq] at h2;have h2':a.eval q=.int .i64 (n:Int):=by unfold aA at h2;exact h2
 unfold aA at h1;rcases hH m (.live e (dP s)) (by simp) with ⟨_,h3⟩|⟨b,cur,h3,h4,h5⟩
 ·have:=aFX s;rw [h3] at this;simp at this;omega
 rcases hH n0 (.live T0 [x,.osl 1 m s.size]) (by simp) with ⟨_,k3⟩|⟨b0,cur0,k3,k4,k5⟩
 ·cases k3
 have h6:=h1.2 b h3;have hcell:=agR h5;have hrun:=aSO (P:=P) (E:=E) (a:=a) (T:=T) (T2:=T2) (ty:=o.type) hT hc h0 h63 h4 hcell;have hls:(Lib.strCells s).length=s.size:=Lib.strCells_length s;unfold eK;rw [aGD ho (by rw [h6,h2',hn];exact hrun)];obtain ⟨f1,f2,f3,f4⟩:=aMY (w:=E.w) (g:=b) (n:=s.size)
 let E':Env:={ w:=E.w.freeze ⟨b,0,none⟩ s.size,loc:=fun i=>if i=m then .dead else E.loc i,bad:=E.bad }
 have hne:∀ i c,E'.loc i=.at c→i≠m∧E.loc i=.at c:=fun i c hi=>by
  by_cases e:i=m
  ·simp [E',e] at hi
  simp [E',e] at hi;exact ⟨e,hi⟩
 have hob:∀ i c,i≠m→E.loc i=.at c→c≠b:=fun i c hi hc e=>hi (hG.inj i m b (by rw [←e];exact hc) h3);have hS:Step E E' [m]:=by
  refine ⟨f2,f3,f4,by rw [show E'.w.heap.size=E.w.heap.size from f1];exact Nat.le_refl _,rfl,fun c hlt hno=>xG (fun e=>hno m (by rw [e];exact h3)),fun i hi=>?_,fun i hi=>?_,fun i c hi=>.inl (hne i c hi).2,fun i hi=>?_,fun i c cur' t' hi hi' hcc=>?_⟩
  ·have hi:i≠m:=by simpa using hi
   exact ⟨by simp [E',hi],fun c hc=>xG (hob i c hi hc)⟩
  ·by_cases e:i=m
   ·simp [E',e]
   simpa [E',e] using hi
  ·by_cases e:i=m
   ·simp [E',e] at hi
   simp [E',e] at hi;exact .inl hi
  exact ⟨cur',(xG (hob i c (hne i c hi).1 hi')).trans hcc,rfl⟩
 refine ⟨E',rfl,hS.more (by simp),⟨fun c hc=>by rw [show E'.w.heap.size=E.w.heap.size from f1];exact hG.old c hc,fun i j c hi hj=>hG.inj i j c (hne i c hi).2 (hne j c hj).2,fun i c hi=>?_,hG.shp.same fun c hc=>⟨⟨?_,hc.2.1,fun i hi=>hc.2.2 i (hne i c hi).2⟩,?_⟩⟩,?_,fun i y hi=>?_⟩
 ·have:=hG.lt i c (hne i c hi).2;exact ⟨by rw [show E'.w.heap.size=E.w.heap.size from f1];exact this.1,this.2⟩
 ·rw [show E'.w.heap.size=E.w.heap.size from f1];exact hc.1
 ·exact xG (fun e=>hc.2.2 m (by rw [e];exact h3))
 ·unfold aA;rfl
 simp only [aL] at hi;by_cases e1:m=i
 ·subst e1;simp at hi;subst hi;show E'.loc m=.dead;simp [E']
 simp only [eY e1,cond_false] at hi;by_cases e2:n0=i
 ·subst e2;simp at hi;subst hi;refine .inr ⟨b0,cur0,by simp [E',hnm,k3],(xG (hob n0 b0 hnm k3)).trans k4,fun j y hy=>?_⟩;rcases j with _|_|j
  ·obtain ⟨u,g1,g2,g3⟩:=k5 0 x rfl;simp at hy;subst hy;exact ⟨u,g1,g2,aA.step hS _ _ g3⟩
  ·obtain ⟨u,g1,g2,g3⟩:=k5 1 _ rfl;simp at hy;subst hy;refine ⟨u,g1,g2,?_⟩;unfold aA at g3;obtain ⟨c,cur',t',g4,g5,g6,g7,g8⟩:=g3.2 b h3;unfold aA;refine ⟨c,b,cur,by rw [hls];exact g4,by rw [hls];exact g5,⟨by rw [show E'.w.heap.size=E.w.heap.size from f1];exact (hG.lt m b h3).1,(hG.lt m b h3).2,fun i hi=>?_⟩,?_,hcell⟩
   ·obtain ⟨q1,q2⟩:=hne i b hi;exact q1 (hG.inj i m b q2 h3)
   rw [hls];exact aSN h4 (by omega) (.inl rfl)
  simp at hy
 simp [eY e2] at hi
theorem agT {e:TypeId}{xs:List Value}(ho:o.op=.call { callee:=.builtin .unsafeSliceData,args:=#[p],argTypes:=#[T] })(hp:ρ p=.frz false e xs)(h0:0<xs.length):OC P o ρ [] (.frz true e xs) []:=bZ fun E a hG hr _=>by
 have h1:=hr p (by simp [ho,Op.operands,Call.operands]);rw [hp] at h1;unfold aA at h1;obtain ⟨c,g,cur,h2,h3,h4,h5,h6⟩:=h1;simp only [cond_false] at h2;refine ⟨.pointer (some ⟨g,0,none⟩),zH ho ?_,?_⟩
 ·rw [h2];exact Lib.run_unsafeSliceData_row _ _ _ _ _ _ (by omega)
 unfold aA;exact ⟨c,g,cur,by simp,h3,h4,h5,h6⟩
theorem agU {e:TypeId}{xs:List Value}{n:Nat}(ho:o.op=.call { callee:=.builtin .len,args:=#[p],argTypes:=#[T] })(hp:ρ p=.frz false e xs)(hn:xs.length=n)(hT:tS P T=true):OC P o ρ [] (.val (.int .i64 n)) []:=bZ fun E a hG hr _=>by
 have h1:=hr p (by simp [ho,Op.operands,Call.operands]);rw [hp] at h1;unfold aA at h1;obtain ⟨c,g,cur,h2,_⟩:=h1;simp only [cond_false] at h2;obtain ⟨e',he⟩:=aB3 hT;refine ⟨.int .i64 n,?_,by unfold aA;rfl⟩;simp [execOp,ho,resolve,invoke,builtin,Builtin.len_,Sem.run_bind,run_underlying he,h2,goInt,hn]
theorem agV {T2 e:TypeId}{n:Nat}{s:ByteArray}(ho:o.op=.call { callee:=.builtin .unsafeString,args:=#[p,q],argTypes:=#[T,T2] })(hp:ρ p=.frz true e (Lib.strCells s))(hq:ρ q=vi (n:Int))(hT:pZ P T=some e)(hc:P.cellsOf e=1)(hn:n=s.size)(h0:0<s.size)(h63:s.size≤9223372036854775807):OC P o ρ [] (vs s) []:=aEP fun E a hG hr=>by
 have h1:=hr p (by simp [ho,Op.operands,Call.operands]);have h2:=hr q (by simp [ho,Op.operands,Call.operands]);rw [hp] at h1;rw [hq] at h2;have h2':a.eval q=.int .i64 (n:Int):=by unfold aA at h2;exact h2
 unfold aA at h1;obtain ⟨c,g,cur,h3,h4,h5,h6,h7⟩:=h1;simp only [cond_true] at h3;have hls:(Lib.strCells s).length=s.size:=Lib.strCells_length s;rw [hls] at h6;obtain ⟨f1,f2,f3,f4⟩:=aMY (w:=E.w) (g:=g) (n:=s.size);refine ⟨.string s,E.w.freeze ⟨g,0,none⟩ s.size,aGD ho (by rw [h3,h2',hn];exact aSO (a:=a) hT hc h0 h63 h6 h7),⟨f2,f3,f4,by rw [f1];exact Nat.le_refl _,fun k hk=>?_⟩,by unfold aA;rfl⟩;by_cases e:k=g
 ·subst e;rw [aSN h6 (by omega) (.inr rfl),h6]
 exact xG e
theorem Step.dead_name {E:Env}{n:Nat}(hn:E.loc n=.unborn):Step E (E.re n .dead) [n]:=by
 refine ⟨rfl,rfl,rfl,Nat.le_refl _,rfl,fun _ _ _=>rfl,fun m hm=>?_,fun m hm=>?_,fun m b hb=>?_,fun m hm=>?_,fun m b cur t hb hb' hc=>⟨cur,hc,rfl⟩⟩
 ·have hm:m≠n:=by simpa using hm
  exact ⟨by simp [Env.re,hm],fun _ _=>rfl⟩
 ·by_cases e:m=n
  ·simp [Env.re,e]
  simpa [Env.re,e] using hm
 ·by_cases e:m=n
  ·simp [Env.re,e] at hb
  simp [Env.re,e] at hb;exact .inl hb
 by_cases e:m=n
 ·subst e;exact .inr hn
 simp [Env.re,e] at hm;exact .inl hm
theorem agW {t e:TypeId}{m:Nat}(k:Nat)(ho:o.op=.call { callee:=.builtin .unsafeSliceData,args:=#[p],argTypes:=#[T] })(hp:ρ p=.osl 1 m 0)(ht:pZ P o.type=some e):OC P o ρ [(m,.live t []),(k,.unborn)] (.own k 0) [(k,.dead)]:=by
 intro E a hG hr hH;have h1:=hr p (by simp [ho,Op.operands,Call.operands]);rw [hp] at h1;unfold aA at h1;have hu:E.loc k=.unborn:=hH k .unborn (by simp);have fin:∀ (v:Value) (w':World),(execOp a.eval o).run P E.w=.ok (.value v) w'→Below E.w.heap.size E.w w'→(∃ x,v=.pointer x)→eK P o a E.w (mZ E (.own k 0) [(k,.dead)]):=fun v w' hr hb hv=>by
  unfold eK;rw [hr];have hg:=Step.grow hG hb;have hS:=hg.trans (Step.dead_name (E:={ E with w:=w' }) hu);refine ⟨_,rfl,hS,(hG.grow hb).re (by simp),?_,fun n y hn=>?_⟩
  ·unfold aA;refine ⟨⟨by simp [Env.re],hv⟩,fun b hb=>?_⟩;simp [Env.re] at hb
  simp only [aL] at hn;by_cases e:k=n
  ·subst e;simp at hn;subst hn;show (Env.re _ k .dead).loc k=.dead;simp [Env.re]
  simp [eY e] at hn
 rcases hH m (.live t []) (by simp) with ⟨h2,_⟩|⟨b,cur,h2,h3,_⟩
 ·obtain ⟨hv,_⟩:=h1.1.2.2 h2;exact fin _ _ (zH ho (by rw [hv];exact Lib.run_unsafeSliceData_nil _ _ _ _ _)) (Below.refl _ _) ⟨_,rfl⟩
 obtain ⟨c,cur',t',h6,h7,_⟩:=h1.2 b h2;by_cases hc:c=0
 ·subst hc;exact fin _ _ (zH ho (by rw [h6];exact Lib.run_unsafeSliceData_zero _ _ _ e (vJ ht) _ _ (t,cur.size) (by simp [World.shape?,h3]))) ((Below.refl _ _).alloc (Nat.le_refl _) _) ⟨_,rfl⟩
 exact fin _ _ (zH ho (by rw [h6];exact Lib.run_unsafeSliceData_row _ _ _ _ _ _ hc)) (Below.refl _ _) ⟨_,rfl⟩
end
theorem agX (x:Av)(s:ByteArray)(h0:0<s.size)(h63:s.size≤9223372036854775807):iO Tryz.prog 288 [.own 0 0] [(0,.live 275 [x,.frz false 5 (Lib.strCells s)])] [] (vs s) [(0,.live 275 [x,.frz false 5 (Lib.strCells s)])]:=by
 refine iO.body 4 14 Tryz.func288 rfl (by kernel_rfl) ?_;refine sq ?_;refine Z1 aB ?_;refine cn ?_;refine aD ?_;refine dw ?_;refine Z1 mo ?_;refine dO ?_;refine aS 1 1 false ?_;refine bG ?_;refine Z1 (agT rfl rfl (by rw [Lib.strCells_length];exact h0)) ?_;refine Z1 mo ?_;refine dO ?_;refine aS 1 1 false ?_;refine bG ?_;refine Z1 (agU (n:=s.size) rfl rfl (Lib.strCells_length s) (by kernel_rfl)) ?_;refine Z1 (agV (e:=5) (n:=s.size) rfl rfl rfl (by kernel_rfl) (by kernel_rfl) rfl h0 h63) ?_;refine Z1 aB ?_;refine cn (dn ?_);refine aP ?_;exact Rx rfl rfl
theorem agY (x:Av)(s:ByteArray)(h0:0<s.size)(h63:s.size≤9223372036854775807):iO Tryz.prog 288 [.own 0 0] [(0,.live 275 [x,.osl 1 2 s.size])] [(2,.live 5 (dP s))] (vs s) [(0,.live 275 [x,.frz false 5 (Lib.strCells s)])]:=by
 refine iO.body 4 14 Tryz.func288 rfl (by kernel_rfl) ?_;refine sq ?_;refine Z1 aB ?_;refine cn ?_;refine aD ?_;refine dw ?_;refine Z1 mo ?_;refine dO ?_;refine aS 1 1 false ?_;refine bG ?_;refine eL (R:=[(_,.live _ _)]) rfl rfl (aXA (t:=5) (cs:=dP s) rfl rfl (by rw [aFX];exact h0) h0) ⟨rfl,trivial⟩ ?_;refine Z1 mo ?_;refine dO ?_;refine aS 1 1 false ?_;refine bG ?_;refine Z1 (aMX rfl rfl (by kernel_rfl)) ?_
 refine Z2 (agS (e:=5) (T0:=275) (n0:=0) (n:=s.size) (x:=x) rfl rfl rfl (by kernel_rfl) (by kernel_rfl) rfl h0 h63 (by decide)) ?_;refine Z1 aB ?_;refine cn (dn ?_);refine aP ?_;exact Rx rfl rfl
theorem agZ (x:Av):iO Tryz.prog 288 [.own 0 0] [(0,.live 275 [x,.osl 1 2 ByteArray.empty.size]),(2,.live 5 (dP ByteArray.empty))] [] (vs ByteArray.empty) [(0,.live 275 [x,.osl 1 2 ByteArray.empty.size]),(2,.live 5 (dP ByteArray.empty))]:=by
 refine iO.body 4 14 Tryz.func288 rfl (by kernel_rfl) ?_;refine sq ?_;refine Z1 aB ?_;refine cn ?_;refine aD ?_;refine dw ?_;refine Z1 mo ?_;refine dO ?_;refine aS 1 1 false ?_;refine bG ?_;refine Z2 (agW (t:=5) (e:=5) 3 rfl rfl (by kernel_rfl)) ?_;refine Z1 mo ?_;refine dO ?_;refine aS 1 1 false ?_;refine bG ?_;refine Z1 (aMX rfl rfl (by kernel_rfl)) ?_;refine Z1 (aXB rfl rfl rfl) ?_;refine Z1 aB ?_;refine cn (dn ?_);refine aP ?_;exact ⟨.inl rfl,aF.tmp rfl rfl,⟨rfl,rfl,trivial⟩⟩
def eS (c:Int):Nat:=if c=27∨c=28∨c=30 then 2 else if c=29 then 3 else 1
theorem aOU (c:Int):1≤eS c∧eS c≤3:=by
 unfold eS
 repeat' split
 all_goals omega
def nG (l:List Int)(i j:Nat):List Int:=(l.drop i).take (j-i)
noncomputable def segT (l:List Int)(i j:Nat):ByteArray:=strOfNums (aText (nG l i j)).1
noncomputable def segE (l:List Int)(i j:Nat):Int:=(aText (nG l i j)).2
theorem aKD (l:List Int){i j:Nat}(h:i≤j)(hj:j≤l.length):(nG l i j).length=j-i:=by
 unfold nG;rw [List.length_take,List.length_drop];omega
theorem ag0 (l:List Int):(strOfNums l).size=l.length:=by
 have:(strOfNums l).data.toList.length=(strOfNums l).size:=by rw [Array.length_toList];rfl
 rw [←this];unfold strOfNums;simp
theorem aKE:∀ l:List Int,(∀ c∈l,eZ c=true)→l.length≤(bC l).length
 | [],_=>Nat.zero_le _
 | c::l,h=>by
  have h1:=aKE l fun x hx=>h x (List.mem_cons_of_mem _ hx);have h2:=rF c (h c (List.mem_cons_self ..));show _≤(cS c++bC l).length;rw [List.length_append,List.length_cons];omega
theorem aEZ (l:List Int){i j:Nat}(h:i≤j)(hj:j≤l.length):(segT l i j).size≤j-i:=by
 unfold segT;rw [ag0];rcases aSP (nG l i j) with ⟨t,h1,h2,h3⟩|h3
 ·rw [h3];have h4:=aKE t (pA h1);rw [h2,aKD l h hj] at h4;exact h4
 rw [h3];exact Nat.zero_le _
theorem aHI (l:List Int)(i j:Nat):segE l i j=0∨segE l i j=16:=by
 unfold segE;rcases aSP (nG l i j) with ⟨t,_,_,h⟩|h
 ·rw [h];exact .inl rfl
 rw [h];exact .inr rfl
def rL (out t:ByteArray)(e:Int):ByteArray × Int:=if e≠0 then (ByteArray.empty,e) else if cN (tB (out++t))=true then (out++t,0) else (ByteArray.empty,13)
noncomputable def unF (l:List Int)(ab:List ByteArray):Nat→Nat→Nat→ByteArray→ByteArray × Int
 | 0,row,at_,out=>(ByteArray.empty,0)
 | f+1,row,at_,out=>if at_<l.length then
  (
   if l.length-at_<eS (l.getD at_ 0) then (ByteArray.empty,if segE l row l.length=0 then 16 else segE l row l.length)
   else if l.getD at_ 0≠30 then unF l ab f row (at_+eS (l.getD at_ 0)) out
   else if segE l row at_≠0 then (ByteArray.empty,segE l row at_)
   else if l.getD (at_+1) 0≥(ab.length:Int) then (ByteArray.empty,11)
   else unF l ab f (at_+2) (at_+2) ((out++segT l row at_)++ab.getD (l.getD (at_+1) 0).toNat ByteArray.empty))
  else rL out (segT l row l.length) (segE l row l.length)
noncomputable def unpackedP (l:List Int)(ab:List ByteArray):ByteArray × Int:=unF l ab (l.length+1) 0 0 ByteArray.empty
theorem ag1 {l:List Int}{i j:Nat}(h:i≤j)(hj:j≤l.length)(E:Env)(v:Value)(hr:aA E (.sl 1 (j-i) (fun k=>(fun n=>vi (l.getD n 0)) (k+i))) v):aA E (aK (nG l i j)) v:=by
 unfold aK;rw [aKD l h hj];refine pI (fun E k hk v hv=>?_) E v hr;have e:(nG l i j).getD k 0=l.getD (k+i) 0:=by
  unfold nG;rw [List.getD,List.getD,List.getElem?_take,if_pos hk,List.getElem?_drop];congr 2;omega
 rw [e];exact hv
abbrev ag2:=Bool × Nat × Nat × ByteArray
abbrev UnJ:=Bool × Nat × Nat × ByteArray × Int
theorem ag4 (c:Int):PC Tryz.prog 284 [vi c] (vi (eS c:Int)):=by
 refine FB 6 10 Tryz.func284 ?_;refine Gd (fun hb=>?_) fun hb=>?_
 ·refine aQ ?_;refine cd (fun hb=>?_) fun hb=>?_
  ·refine G ?_;exact Rx rfl (aR (by unfold eS;(repeat (any_goals split))<;>first|rfl|(exfalso;simp_all;done)|(exfalso;simp_all;omega)))
  refine Gd (fun hb=>?_) fun hb=>?_
  ·refine G ?_;exact Rx rfl (aR (by unfold eS;(repeat (any_goals split))<;>first|rfl|(exfalso;simp_all;done)|(exfalso;simp_all;omega)))
  refine G ?_;exact Rx rfl (aR (by unfold eS;(repeat (any_goals split))<;>first|rfl|(exfalso;simp_all;done)|(exfalso;simp_all;omega)))
 refine Gd (fun hb=>?_) fun hb=>?_
 ·refine aQ ?_;refine cd (fun hb=>?_) fun hb=>?_
  ·refine G ?_;exact Rx rfl (aR (by unfold eS;(repeat (any_goals split))<;>first|rfl|(exfalso;simp_all;done)|(exfalso;simp_all;omega)))
  refine Gd (fun hb=>?_) fun hb=>?_
  ·refine G ?_;exact Rx rfl (aR (by unfold eS;(repeat (any_goals split))<;>first|rfl|(exfalso;simp_all;done)|(exfalso;simp_all;omega)))
  refine G ?_;exact Rx rfl (aR (by unfold eS;(repeat (any_goals split))<;>first|rfl|(exfalso;simp_all;done)|(exfalso;simp_all;omega)))
 refine Gd (fun hb=>?_) fun hb=>?_
 ·refine G ?_;exact Rx rfl (aR (by unfold eS;(repeat (any_goals split))<;>first|rfl|(exfalso;simp_all;done)|(exfalso;simp_all;omega)))
 refine Gd (fun hb=>?_) fun hb=>?_
 ·refine G ?_;exact Rx rfl (aR (by unfold eS;(repeat (any_goals split))<;>first|rfl|(exfalso;simp_all;done)|(exfalso;simp_all;omega)))
 refine G ?_;exact Rx rfl (aR (by unfold eS;(repeat (any_goals split))<;>first|rfl|(exfalso;simp_all;done)|(exfalso;simp_all;omega)))
theorem aBD (u:Bool)(l:List Int)(row at_:Nat)(w:Int)(out:ByteArray)(hl:l.length≤100000)(h1:row≤at_)(h2:at_≤l.length)(ho:out.size≤1000000000):iO Tryz.prog 285 [.ptr (aK l),.own 3 0,.own 4 0,.own 0 0,.own 5 0] [(0,.live 275 [oB u,.osl 1 1 out.size]),(3,.live 3 [vi (row:Int)]),(4,.live 3 [vi (at_:Int)]),(5,.live 34 [vi w])] [(1,.live 5 (dP out))] (vb (segE l row at_==0)) [(0,.live 275 [.own 0 0,.osl 1 2 (out++segT l row at_).size]),(3,.live 3 [vi (row:Int)]),(4,.live 3 [vi (at_:Int)]),(5,.live 34 [vi (segE l row at_)]),(2,.live 5 (dP (out++segT l row at_)))]:=by
 refine iO.body 6 21 Tryz.func285 rfl (by kernel_rfl) ?_;refine W ?_;refine Z1 (OC.to (aC2 (e:=3) (by_:=8) (zs:=[.int .i64 0]) row at_ rfl rfl rfl rfl (by kernel_rfl) (by kernel_rfl) h1 h2) (ag1 h1 h2)) ?_;refine Z1 (ca (ag5 (nG l row at_) (by rw [aKD l h1 h2];omega))) ?_;refine W ?_
 refine aZ rfl rfl (dB [2] rfl (by kernel_rfl) (aL1 u out (segT l row at_) (by have:=aEZ l h1 h2;omega)) rfl (by simp) (by simp [bQ]) (by simp) (by simp) (by simp [aO,aH]) ⟨by unfold oB;cases u<;>simp [bJ,aO,aH],jX _,trivial⟩ (by simp [aH,aO]) ⟨by simp [bJ,aO,aH],jX _,trivial⟩) ⟨rfl,rfl,rfl,trivial⟩ ?_;refine W ?_;refine cF [_] ?_;refine W ?_;exact ⟨.inl rfl,aF.tmp rfl rfl,⟨rfl,rfl,rfl,rfl,rfl,trivial⟩⟩
end Go.Proofs.YtgajclaoaphgoaaGreatDoor
