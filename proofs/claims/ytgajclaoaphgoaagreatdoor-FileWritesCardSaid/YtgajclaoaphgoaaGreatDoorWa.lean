/- Parts of the proof of a law of this seat: rules and contracts; no conditions. -/
import Derived.Test.YtgajclaoaphgoaaGreatDoorVa
import Derived.Test.YtgajclaoaphgoaaGreatDoorAtx
import Derived.Test.YtgajclaoaphgoaaGreatDoorWireP
import Derived.Test.YtgajclaoaphgoaaGreatDoorPh
import Derived.Test.YtgajclaoaphgoaaGreatDoorProg
import Derived.KernelRfl
import Derived.Test.YtgajclaoaphgoaaGreatDoorBt
import Derived.Test.YtgajclaoaphgoaaGreatDoorOl
import Derived.Laws.StructEq
import Derived.ChangeKeysEq
set_option maxHeartbeats 6400000
set_option maxRecDepth 100000
set_option linter.unusedVariables false
set_option linter.unusedSimpArgs false
namespace Go.Proofs.YtgajclaoaphgoaaGreatDoor
open Go.RowKit
theorem aZP {α:Type}{d:α}{a b:List α}(hl:a.length=b.length)(h:∀ j,j<a.length→a.getD j d=b.getD j d):a=b:=List.ext_getElem hl fun k h1 h2=>by
 have:=h k h1;rwa [List.getD,List.getD,List.getElem?_eq_getElem h1,List.getElem?_eq_getElem h2] at this
theorem aHK {α:Type}[DecidableEq α]{a b:List α}(h:¬ (a.length:Int)=b.length):decide (a=b)=false:=decide_eq_false fun e=>h (by rw [e])
theorem aHL {α:Type}[DecidableEq α]{d:α}{a b:List α}{k:Nat}(h:¬ a.getD k d=b.getD k d):decide (a=b)=false:=decide_eq_false fun e=>h (by rw [e])
theorem aHM {α:Type}[DecidableEq α]{d:α}{a b:List α}{k:Nat}(hl:(a.length:Int)=b.length)(hk:k=a.length)(h:∀ j,j<k→a.getD j d=b.getD j d):decide (a=b)=true:=decide_eq_true (aZP (d:=d) (by omega) (by rw [←hk];exact h))
theorem aC3 {k:Nat}{p:Nat→Prop}(h:∀ j,j<k→p j)(hp:p k):∀ j,j<k+1→p j:=fun j hj=>by
 rcases Nat.lt_or_ge j k with h1|h1
 ·exact h j h1
 have:j=k:=by omega
 subst this;exact hp
def aZQ (p q:PoolP):Bool:=decide (p.abbrevs=q.abbrevs)&&decide (p.at_=q.at_)&&decide (p.bytes=q.bytes)
theorem aZR {t:Int→ByteArray × Int}{n k:Nat}{out:List ByteArray}(h:(t k).2≠0):qH t (n+1) k out=([],(t k).2):=by unfold qH;rw [if_pos h]
theorem aOZ {t:Int→ByteArray × Int}{n k:Nat}{out:List ByteArray}(h:(t k).2=0):qH t (n+1) k out=qH t n (k+1) (out++[(t k).1]):=by
 conv=>lhs;unfold qH
 rw [if_neg (fun hc=>hc h)]
theorem aO0 {p q:List ByteArray × Int}(h:p=q):Av.tup [bB p.1,vi p.2]=.tup [bB q.1,vi q.2]:=by rw [h]
theorem aO2 (a b:List Int):PC Tryz.prog 96 [bs a,bs b] (vb (decide (a=b))):=by
 refine FB 3 26 Tryz.func96 ?_;refine dM (t:=0) (x:=bs a) rfl eR fun ha=>?_;refine Gd (fun hb=>?_) fun hb=>?_
 ·have hne:¬ (a.length:Int)=b.length:=by simpa using hb
  refine G ?_;exact Rx rfl (by rw [aHK hne];rfl)
 have hll:(a.length:Int)=b.length:=by simpa using hb
 refine G ?_;refine bM (ι:=Nat) (fun k=>⟨[(0,bs a),(1,bs b),(12,vi (a.length:Int)),(13,vi k)],[]⟩) (fun k=>k≤a.length∧∀ j,j<k→a.getD j 0=b.getD j 0) (fun k=>a.length-k) 0 (⟨Nat.zero_le _,fun j hj=>absurd hj (by omega)⟩) (Le.sub (by repeat (first|trivial|refine ⟨.inr rfl,?_⟩|refine ⟨.inr (aR (by omega)),?_⟩)) (by repeat (first|trivial|refine ⟨rfl,?_⟩))) ?_;intro k hI;refine Gd (fun hb=>?_) fun hb=>?_
 ·have hlt:k<a.length:=by have h0:=of_decide_eq_true hb;omega
  refine Gd (fun hb=>?_) fun hb=>?_
  ·have heq:¬ (a.getD k 0)=(b.getD k 0):=by simpa using hb
   refine G ?_;exact Rx rfl (by rw [aHL heq];rfl)
  have heq:(a.getD k 0)=(b.getD k 0):=by simpa using hb
  refine G ?_;exact ⟨k+1,⟨by omega,aC3 (p:=fun j=>a.getD j 0=b.getD j 0) hI.2 heq⟩,by omega,Le.sub (by repeat (first|trivial|refine ⟨.inr rfl,?_⟩|refine ⟨.inr (aR (by omega)),?_⟩)) trivial⟩
 have hge:k=a.length:=by have h0:=of_decide_eq_false hb;omega
 refine G ?_;exact Rx rfl (by rw [aHM hll hge hI.2];rfl)
theorem aO3 (p:PoolP)(hal:p.at_.length≤5000000)(hbl:p.bytes.length≤100000000)(hBt:dC p.bytes)(hl:∀ i,(eT p i).1.length≤5000)(hab:∀ k,(p.abbrevs.getD k ByteArray.empty).size≤5000)(habl:p.abbrevs.length≤1000000):PC Tryz.prog 160 [kO p] (.tup [bB (allP p).1,vi (allP p).2]):=by
 refine FB 2 29 Tryz.func160 ?_;refine G ?_;refine bS (Le.nameNil 4 0 1 9 rfl rfl) ?_;refine bM (ι:=(Nat × List ByteArray)) (fun q=>⟨[(1,.ptr (kO p)),(4,.osl 1 0 q.2.length),(10,vi (p.at_.length:Int)),(11,vi q.1)],[(0,.live 9 (q.2.map vs)),(1,.unborn)]⟩) (fun q=>q.1≤p.at_.length∧q.2.length=q.1∧allP p=qH (poolTx p) (p.at_.length-q.1) q.1 q.2) (fun q=>p.at_.length-q.1) (0,[]) (⟨Nat.zero_le _,rfl,rfl⟩) (Le.sub (by repeat (first|trivial|refine ⟨.inr rfl,?_⟩)) ⟨rfl,rfl,trivial⟩) ?_;intro q hI;obtain ⟨g1,g2,g3⟩:=hI;refine Gd (fun hb=>?_) fun hb=>?_
 ·have hlt:q.1<p.at_.length:=by have h0:=of_decide_eq_true hb;omega
  refine G ?_;refine Z1 (ca (aZM p (q.1:Int) hal hbl hBt (hl _) hab habl)) ?_;refine Gd (fun hb=>?_) fun hb=>?_
  ·have he0:(poolTx p (q.1:Int)).2≠0:=by simpa using hb
   refine G ?_;exact ⟨.inl rfl,by rw [aO0 (show allP p=([],(poolTx p (q.1:Int)).2) from by rw [g3,show p.at_.length-q.1=(p.at_.length-(q.1+1))+1 from by omega];exact aZR he0)];exact aF.two rfl ((aT.tmp rfl).to fun E v h=>uA (by decide) E v h) (aT.tmp rfl),trivial⟩
  have he0:(poolTx p (q.1:Int)).2=0:=by simpa using hb
  refine aQ ?_;refine tx ?_;refine Z1 mo ?_;refine Z1 mo ?_;refine Z1 (fO (ps:=[.tmp 24]) (xs:=[.val _]) (e:=9) (k:=1) (by_:=16) (zs:=[.string ⟨#[]⟩]) rfl (by kernel_rfl) (by kernel_rfl) rfl rfl rfl (by decide) (by decide)) ?_;refine aZ rfl rfl (iG (e:=9) (k:=1) (by_:=16) (zs:=[.string ⟨#[]⟩]) (cs:=q.2.map vs) (ds:=[vs (poolTx p (q.1:Int)).1]) 1 rfl rfl rfl (by kernel_rfl) (by kernel_rfl) rfl (by decide) (by decide) (by simp) rfl (aNV _) (by omega) (by omega)) ⟨rfl,rfl,trivial⟩ ?_;refine Z1 aB ?_;refine cn ?_
  refine bS (Le.trans (Le.swap (τ:=⟨[(1,.ptr (kO p)),(4,.osl 1 0 (q.2.length+1)),(10,vi (p.at_.length:Int)),(11,vi q.1)],[(0,.live 9 ((q.2++[(poolTx p (q.1:Int)).1]).map vs)),(1,.dead)]⟩) 0 1 (by simp) (by simp) ⟨(iR _ _ (by unfold aN;exact sQ p)).symm,rfl,rfl,rfl,trivial⟩ ⟨by show aL _ 1=some (Hs.live _ (((q.2++[(poolTx p (q.1:Int)).1]).map vs).map _));rw [aCO,show ((q.2++[(poolTx p (q.1:Int)).1]).map vs)=q.2.map vs++[vs (poolTx p (q.1:Int)).1] from List.map_append];rfl,rfl,trivial⟩) (Le.reset (τ:=⟨[(1,.ptr (kO p)),(4,.osl 1 0 (q.2.length+1)),(10,vi (p.at_.length:Int)),(11,vi q.1)],[(0,.live 9 ((q.2++[(poolTx p (q.1:Int)).1]).map vs)),(1,.unborn)]⟩) [1] (by simp) ⟨.inr rfl,.inr rfl,.inr rfl,.inr rfl,trivial⟩ ⟨aE.of_pure _ (by unfold aN;exact sQ p),by simp [aE],by simp [aE],by simp [aE],trivial⟩ ⟨by rw [if_neg (by decide)];exact ⟨rfl,aCP _⟩,by rw [if_pos (by decide)],trivial⟩)) ?_
  refine G ?_;exact ⟨(q.1+1,(q.2++[(poolTx p (q.1:Int)).1])),⟨by show q.1+1≤_;omega,by show (q.2++[_]).length=q.1+1;rw [List.length_append,g2];rfl,by rw [g3,show p.at_.length-q.1=(p.at_.length-(q.1+1))+1 from by omega];exact aOZ he0⟩,by show _-(q.1+1)<_;omega,Le.sub (by repeat (first|trivial|refine ⟨.inr rfl,?_⟩|refine ⟨.inr (aR (by show (q.1:Int)+1=((q.1+1:Nat):Int);omega)),?_⟩|refine ⟨.inr (by show bN _ 4=Av.osl 1 0 (q.2++[(poolTx p (q.1:Int)).1]).length;rw [List.length_append];rfl),?_⟩)) ⟨rfl,rfl,trivial⟩⟩
 have hge:q.1=p.at_.length:=by have h0:=of_decide_eq_false hb;omega
 have hfin:allP p=(q.2,0):=by rw [g3,hge,Nat.sub_self];rfl
 refine bU ?_;refine aD ?_;refine bS (Le.freeze 4 0 (fun j=>vs (q.2.getD j ByteArray.empty)) rfl rfl (by simp) (aCN _)) ?_;refine G ?_;exact ⟨.inl rfl,by rw [aO0 hfin];exact aF.two rfl (aT.tmp rfl) (aT.tmp rfl),trivial⟩
theorem aZS (c:Nat):PC Tryz.prog 95 [.val (.slice none 0 c)] (bs []):=by
 refine FB 6 8 Tryz.func95 ?_;refine sq ?_;refine Z1 aB ?_;refine cn ?_;refine aD ?_;refine sq ?_;refine Z1 mo ?_;refine Z1 (aZT (e:=5) rfl rfl rfl (by kernel_rfl)) ?_;refine cn ?_;refine cd (fun hb=>?_) fun hb=>?_
 ·refine G ?_;exact ⟨.inl rfl,aF.to (aF.tmp rfl rfl) (uA (by decide)),trivial⟩
 exact absurd hb (by cases hb)
theorem aZU (l:List Int)(hl:l.length≤17592186044416):PC Tryz.prog 95 [.nz (bs l)] (bs l):=by
 refine FB 6 8 Tryz.func95 ?_;refine sq ?_;refine Z1 aB ?_;refine cn ?_;refine aD ?_;refine sq ?_;refine Z1 (oM (x:=.nz _) rfl rfl) ?_;refine Z1 (aZV (e:=5) rfl rfl rfl (by kernel_rfl)) ?_;refine cn ?_;refine cd (fun hb=>?_) fun hb=>?_
 ·exact absurd hb (by cases hb)
 refine aQ ?_;refine sq ?_;refine Z2 (aC5 (ps:=[]) (xs:=[]) (e:=5) (by_:=1) (zs:=[.int .u8 0]) 0 rfl (by kernel_rfl) (by kernel_rfl) rfl rfl rfl rfl (by decide)) ?_;refine Z1 (aZW rfl rfl) ?_
 refine aZ rfl rfl (iG (e:=5) (k:=1) (by_:=1) (zs:=[.int .u8 0]) (cs:=[]) (ds:=l.map (fun z=>Av.val (.int .u8 z))) 1 rfl rfl rfl (by kernel_rfl) (by kernel_rfl) rfl (by decide) (by decide) rfl (by simp) (aCM (fun j y hy=>by rw [List.getElem?_map] at hy;cases h:l[j]? with|none=>rw [h] at hy;cases hy|some z=>rw [h] at hy;simp at hy;subst hy;simp [bv,List.getD,h]) (fun j hj=>⟨rfl,rfl⟩)) (by omega) (by omega)) ⟨rfl,rfl,trivial⟩ ?_;refine Z1 aB ?_;refine cn ?_;refine bS (Le.freeze 2 1 (len:=0+l.length) (bv l) rfl rfl (by simp) (fun j hj=>⟨by simp at hj ⊢;simp [bv,List.getD,hj],rfl⟩)) ?_
 refine G ?_;exact Rx rfl (by show Av.sl 1 (0+l.length) _=_;rw [Nat.zero_add];rfl)
theorem aZX (l:List Int)(hl:l.length≤17592186044416):PC Tryz.prog 95 [bs l] (bs l):=
 PC.nil_or (fun h c=>by rw [List.eq_nil_of_length_eq_zero h];exact aZS c) (aZU l hl)
def gY (xs:List Int):List Int:=xs++kX ((nH 0 (dX xs):Nat):Int)
def lH (xs:List Int):List Int:=xs.take (xs.length-4)
def cB (xs:List Int):List Int × Int:=if xs.length<4 then ([],2) else if gY (lH xs)=xs then (lH xs,0) else ([],14)
theorem aZY {xs:List Int}(h:dF xs)(n:Nat):dF (xs.take n):=fun j=>by
 by_cases hj:j<(xs.take n).length
 ·have h1:=h j;rw [List.getD,List.getElem?_eq_getElem (by rw [List.length_take] at hj;omega)] at h1;rw [List.getD,List.getElem?_eq_getElem hj,List.getElem_take];exact h1
 rw [List.getD,List.getElem?_eq_none (by omega)];decide
theorem aZZ {xs:List Int}{n:Nat}(h:n≤xs.length)(E:Env)(v:Value)(hv:aA E (.sl 1 n (bv xs)) v):aA E (bs (xs.take n)) v:=by
 have h1:bs (xs.take n)=.sl 1 n (bv (xs.take n)):=by unfold bs;rw [List.length_take,Nat.min_eq_left h]
 rw [h1];refine pI (fun E j hj v hv=>?_) E v hv;have h2:bv (xs.take n) j=bv xs j:=by unfold bv;rw [List.getD,List.getD,List.getElem?_take,if_pos hj]
 rw [h2];exact hv
theorem aO4 (xs:List Int)(hby:dF xs)(hl:xs.length≤100000000):PC Tryz.prog 33 [bs xs] (bs (gY xs)):=by
 refine FB 1 7 Tryz.func33 ?_;refine C (aHN xs hby (by omega)) ?_;refine C (aZ0 xs (nH 0 (dX xs)) hl (aC6 (by decide) (aC7 hby))) ?_;exact Rx rfl rfl
theorem aHO {xs:List Int}{p:List Int × Int}(h:cB xs=p):Av.tup [bs (cB xs).1,vi (cB xs).2]=.tup [bs p.1,vi p.2]:=by rw [h]
theorem aO5 (xs:List Int)(hby:dF xs)(hl:xs.length≤100000000):PC Tryz.prog 38 [bs xs] (.tup [bs (cB xs).1,vi (cB xs).2]):=by
 refine FB 1 20 Tryz.func38 ?_;refine Gd (fun hb=>?_) fun hb=>?_
 ·have h4:xs.length<4:=by have h0:=of_decide_eq_true hb;omega
  refine G ?_;exact ⟨.inl rfl,by rw [aHO (p:=([],2)) (by unfold cB;rw [if_pos h4])];exact aF.two rfl (aT.to (aT.tmp rfl) (fun E v h=>qI (k:=1) E v h)) (aT.tmp rfl),trivial⟩
 have h4:¬ xs.length<4:=by have h0:=of_decide_eq_false hb;omega
 refine aQ ?_;refine sq ?_;refine Z1 mo ?_;refine Z1 mo ?_;refine Z1 ln ?_;refine Z1 (OC.cast iP (show vi _=vi ((xs.length-4:Nat):Int) from aR (by omega))) ?_;refine Z1 (OC.to (aGO (e:=5) (by_:=1) (zs:=[.int .u8 0]) (xs.length-4) rfl rfl rfl (by kernel_rfl) (by kernel_rfl) (by omega)) ((aZZ (Nat.sub_le ..)))) ?_;refine Z1 (ca (aZX (lH xs) (by unfold lH;rw [List.length_take];omega))) ?_;refine Z1 aB ?_;refine cn ?_;refine aD ?_;refine sq ?_;refine Z1 mo ?_;refine Z1 (cq (aO4 (lH xs) (aZY hby _) (by unfold lH;rw [List.length_take];omega)) rfl rfl) ?_;refine C (aO2 (gY (lH xs)) xs) ?_
 refine cd (fun hb=>?_) fun hb=>?_
 ·have h5:¬ gY (lH xs)=xs:=by simpa using hb
  refine G ?_;exact ⟨.inl rfl,by rw [aHO (p:=([],14)) (by unfold cB;rw [if_neg h4,if_neg h5])];exact aF.two rfl (aT.to (aT.tmp rfl) (fun E v h=>qI (k:=1) E v h)) (aT.tmp rfl),trivial⟩
 have h5:gY (lH xs)=xs:=by simpa using hb
 refine G ?_;exact ⟨.inl rfl,by rw [aHO (p:=(lH xs,0)) (by unfold cB;rw [if_neg h4,if_pos h5])];exact aF.two rfl (aT.tmp rfl) (aT.tmp rfl),trivial⟩
def aFM (P:Program):Nat→List Field→Bool
 | _,[]=>true
 | i, f :: fs => f.name != "_" && f.offset == i && jK P f.type == some false && (wQ P f.type).isSome && aFM P (i + 1) fs
theorem aUV {P:Program}(w:World)(d:Nat)(xs ys:Array Value):∀ (fs:List Field) (i:Nat) (us ws:List Int),aFM P i fs=true→us.length=fs.length→ws.length=fs.length→
 (∀ j,j<us.length→xs[i+j]?=some (.int .i64 (us.getD j 0)))→(∀ j,j<ws.length→ys[i+j]?=some (.int .i64 (ws.getD j 0)))→(Op.eqFields (d+1) xs ys fs).run P w=.ok (us==ws) w
 | [],i,us,ws,h,ha,hb,hx,hy=>by
  rw [List.eq_nil_of_length_eq_zero ha,List.eq_nil_of_length_eq_zero hb];rfl
 | f::fs,i,[],ws,h,ha,hb,hx,hy=>by cases ha
 | f::fs,i,a::us,[],h,ha,hb,hx,hy=>by cases hb
 | f::fs,i,a::us,b::ws,h,ha,hb,hx,hy=>by
  simp only [aFM,Bool.and_eq_true,bne_iff_ne,beq_iff_eq] at h;obtain ⟨⟨⟨⟨h1,h2⟩,h3⟩,h4⟩,h5⟩:=h;obtain ⟨k,hk⟩:=Option.isSome_iff_exists.1 h4;have hr:=aEA h3 w;have ih:=aUV w d xs ys fs (i+1) us ws h5 (by simpa using ha) (by simpa using hb) (fun j hj=>by have:=hx (j+1) (by simp;omega);rw [show i+(j+1)=i+1+j by omega] at this;simpa using this) (fun j hj=>by have:=hy (j+1) (by simp;omega);rw [show i+(j+1)=i+1+j by omega] at this;simpa using this);have hx0:=hx 0 (by simp);have hy0:=hy 0 (by simp);simp only [Nat.add_zero,List.getD_cons_zero] at hx0 hy0;rw [←h2] at hx0 hy0
  have px:(part f.type xs f.offset).run P w=.ok (.int .i64 a) w:=by simp [part,Sem.run_bind,hr,hx0]
  have py:(part f.type ys f.offset).run P w=.ok (.int .i64 b) w:=by simp [part,Sem.run_bind,hr,hy0]
  simp only [Op.eqFields,h1,ne_eq,not_false_eq_true,if_true,Sem.run_bind,px,py,Result.andThen_ok,run_equalIn_int w d f.type .i64 k a b (aER hk)];by_cases hab:a=b
  ·subst hab;simp [Sem.run_ite,ih]
  simp [hab]
def aBO (P:Program)(T:TypeId)(n:Nat):Bool:=(match P.underlying T with|some (.struct fs)=>fs.toList.length==n&&aFM P 0 fs.toList|_=>false)&&!P.stoodInHeld T&&!P.eqGuardType P.depth T
theorem alU {P:Program}{T:TypeId}{us ws:List Int}(w:World)(h:aBO P T us.length=true)(hl:ws.length=us.length):(Op.equalIn 10000 T (.agg (us.map (Value.int .i64)).toArray) (.agg (ws.map (Value.int .i64)).toArray)).run P w=.ok (us==ws) w:=by
 unfold aBO at h;simp only [Bool.and_eq_true,Bool.not_eq_true'] at h;obtain ⟨⟨h1,h2⟩,h3⟩:=h;split at h1
 ·rename_i fs hu;simp only [Bool.and_eq_true,beq_iff_eq] at h1;obtain ⟨h4,h5⟩:=h1;have hf:P.fieldsOf T=fs:=by unfold Program.fieldsOf;rw [hu]
  rw [run_equalIn_struct w 9999 _ _ _ (by rw [hf];exact hu) h2,hf];exact aUV w 9998 _ _ fs.toList 0 us ws h5 h4.symm (by omega) (fun j hj=>by simp [List.getD,hj]) (fun j hj=>by simp [List.getD,hj])
 cases h1
theorem alV {P:Program}{T:TypeId}{n:Nat}(h:aBO P T n=true):P.eqGuardType P.depth T=false:=by
 unfold aBO at h;simp only [Bool.and_eq_true,Bool.not_eq_true'] at h;exact h.2
theorem aUX {E:Env}:∀ {us:List Int} {l:List Value},aG E (us.map vi) l→l=us.map (Value.int .i64)
 | [],l,h=>by unfold aG at h;exact h
 | u::us,l,h=>by
  simp only [List.map_cons] at h;unfold aG at h;obtain ⟨v,r,rfl,h1,h2⟩:=h;unfold aA at h1;subst h1;rw [aUX h2];rfl
theorem aFN {E:Env}{us:List Int}{v:Value}(h:aA E (.agg (us.map vi)) v):v=.agg (us.map (Value.int .i64)).toArray:=by
 unfold aA at h;obtain ⟨l,rfl,h1,_⟩:=h;rw [aUX h1]
section
variable {P:Program}{o:Oper}{ρ:Operand→Av}{p q:Operand}{T T':TypeId}
theorem aC8 (us ws:List Int)(ho:o.op=.binOp .neq T p q T')(hp:ρ p=.agg (us.map vi))(hq:ρ q=.agg (ws.map vi))(hT:aBO P T us.length=true)(hl:ws.length=us.length):OC P o ρ [] (vb (!(us==ws))) []:=bZ fun E c hG hr _=>by
 have h1:=hr p (by simp [ho,Op.operands]);have h2:=hr q (by simp [ho,Op.operands]);rw [hp] at h1;rw [hq] at h2;have hg:=run_eqGuard_agg (P:=P) E.w .neq T p q (us.map (Value.int .i64)).toArray (ws.map (Value.int .i64)).toArray (alV hT);refine ⟨.bool (!(us==ws)),?_,by unfold aA;rfl⟩;unfold execOp;simp only [ho,aFN h1,aFN h2,Sem.run_bind,hg,Result.andThen_ok,run_neq_struct,alU E.w hT hl,Sem.run_pure]
end
theorem apM {α:Type}(d:α)(l:List α)(p:α→Bool):(List.range l.length).all (fun i=>p (l.getD i d))=l.all p:=by
 rw [Bool.eq_iff_iff,List.all_eq_true,List.all_eq_true];constructor
 ·intro H x hx;obtain ⟨i,hi,rfl⟩:=List.getElem_of_mem hx;have:=H i (List.mem_range.2 hi);simpa [hi] using this
 intro H i hi;have hi':i<l.length:=List.mem_range.1 hi;have:=H l[i] (List.getElem_mem hi');simpa [hi'] using this
theorem aLP {α:Type}{d:α}{l:List α}{p:α→Bool}(h:∀ j,j<l.length→p (l.getD j d)=true):l.all p=true:=by rw [←apM d];exact sP h
theorem aKW {α:Type}{d:α}{l:List α}{p:α→Bool}{k:Nat}(hk:k<l.length)(h:p (l.getD k d)=false):l.all p=false:=by rw [←apM d];exact nD (p:=fun i=>p (l.getD i d)) hk h
theorem pR {α:Type}{d:α}{l:List α}{k:Nat}(h:k<l.length):l.getD k d∈l:=by simp [h]
def SW (l:List ByteArray):Prop:=∀ s∈l,s.size≤9223372036854775807
def SlotP.wf (x:SlotP):Prop:=SW x.words
def ThingP.wf (x:ThingP):Prop:=SW x.words∧SW x.adjs
def VerbP.wf (x:VerbP):Prop:=∀ l∈x.lines,∀ y∈l,SlotP.wf y
structure TabP.wf (t:TabP):Prop where
 texts:SW t.texts
 things:∀ x∈t.things,x.wf
 acts:∀ x∈t.acts,x.wf
def wV (l:List ByteArray)(most:Int):Bool:=decide ((l.length:Int)≤most)&&l.all aE3
def aAM (t:TabP):Bool:=decide ((t.texts.length:Int)≤4096)&&t.texts.all qN&&wW t t.title&&wW t t.by_&&among t.release 0 32767&&among t.max 0 32767&&among t.flags 4 16&&decide ((t.props.length:Int)≤16)&&decide ((t.globals.length:Int)≤64)&&t.props.all pW&&t.globals.all pW
def aBI (t:TabP):Bool:=((t.params.length:Int) !=t.locals.length)||decide ((t.params.length:Int)>2048)
def uW (t:TabP)(k:Nat):Bool:=!among (t.params.getD k 0) 0 8||!among (t.locals.getD k 0) (t.params.getD k 0) 24
def yP (t:TabP):Bool:=!aBI t&&(List.range t.params.length).all fun k=>!uW t k
def ThingP.sum (x:ThingP):Int:=IntKind.i64.wrap (IntKind.i64.wrap ((x.words.length:Int)+x.adjs.length)+x.ways.length)
def aE6 (x:ThingP):Bool:=x.title==0&&x.text==-1&&x.parent==0&&x.flags==0&&!x.room&&x.props.all (fun z=>z==0)&&x.sum==0
def qS (l:List WayP):Nat→Int
 | 0=>0
 | k+1=>(l.getD k dD).dir
def uV (t:TabP)(last:Int)(y:WayP):Bool:=decide (y.dir≤last)||decide (y.dir>12)||!aBH t y.goal||(y.cond !=-1&&!tG t y.cond)||(y.els !=-1&&!wW t y.els)
def yO (t:TabP)(l:List WayP):Bool:=(List.range l.length).all fun k=>!uV t (qS l k) (l.getD k dD)
def aE5 (t:TabP)(x:ThingP):Bool:=!wW t x.title||(x.text !=-1&&!wW t x.text)||decide (x.flags<0)||decide (x.flags≥IntKind.i64.wrap (1*2^(min t.flags.toNat IntKind.i64.bits)))||!x.props.all pW||!wV x.words 8||!wV x.adjs 8
def sA (t:TabP)(x:ThingP):Bool:=!aE5 t x&&(bif x.room then x.parent==0&&yO t x.ways else ((x.ways.length:Int)==0&&(x.parent==0||qV t x.parent)))
def nZ (f:Int→Int):Nat→Int→Int
 | 0,_=>0
 | m+1,n=>if f n=0 then n else nZ f m (f n)
def qW (t:TabP)(n:Int):Int:=(t.at_ n).parent
def vD (f:Int→Int):Nat→Int→Int
 | 0,n=>n
 | k+1,n=>f (vD f k n)
theorem aUZ {f:Int→Int}{M k:Nat}{n:Int}(hk:k<M)(h:nZ f M n=nZ f (M-k) (vD f k n)):nZ f M n=if f (vD f k n)=0 then vD f k n else nZ f (M-(k+1)) (vD f (k+1) n):=by
 rw [h,show M-k=(M-(k+1))+1 from by omega];rfl
theorem TabP.at_getD (t:TabP)(k:Nat):t.at_ k=t.things.getD k cY:=by simp [TabP.at_]
def sB (t:TabP)(k:Nat):Bool:=(((t.things.getD k cY).props.length:Int) !=t.props.length)||(decide ((k:Int)>0)&&!sA t (t.things.getD k cY))
def aBJ (t:TabP):Bool:=!among t.things.length 3 128||!aE6 (t.things.getD 0 cY)
def wX (t:TabP):Bool:=!aBJ t&&((List.range t.things.length).all fun k=>!sB t k)&&((List.range t.things.length).all fun k=>decide (k=0)||nZ (qW t) t.things.length k !=0)&&(!(t.things.getD 1 cY).room&&aBH t (nZ (qW t) t.things.length 1))
def fT (l:List SlotP)(k:Nat):Bool:=bif (l.getD k cH).kind==1 then ((l.getD k cH).words.length:Int)==0||!wV (l.getD k cH).words 4 else !among (l.getD k cH).kind 2 5||(decide (((l.getD k cH).words.length:Int)>0)||((k:Int)==0&&(l.getD k cH).kind !=5))
def pQ (p:Int→Bool)(l:List SlotP)(k:Nat):Int:=((l.take k).countP fun s=>p s.kind:Nat)
def oT (k:Int):Bool:=k==2||k==3
def pP (l:List SlotP):Bool:=((List.range l.length).all fun k=>!fT l k)&&(among l.length 1 8&&decide (pQ oT l l.length≤2)&&decide (pQ (fun k=>k==4) l l.length≤1)&&decide (pQ (fun k=>k==5) l l.length≤1))
def aBK (t:TabP)(n:Int):Bool:=n==-1||qV t n
def aD0 (v:VerbP):Bool:=among v.lines.length 1 8&&v.lines.all pP
def aD2 (t:TabP)(d:DeedP):Bool:=among d.verb 0 ((t.acts.length:Int)-1)&&among d.phase 1 3&&aBK t d.noun&&aBK t d.second&&(d.cond==-1||tG t d.cond)&&tG t d.body
def aD1 (t:TabP):Bool:=!aAM t||!yP t||!wX t||decide ((t.acts.length:Int)>64)||decide ((t.deeds.length:Int)>512)||decide ((t.funcs.length:Int)>64)||decide ((t.daemons.length:Int)>16)
def iL (t:TabP):Bool:=!aD1 t&&(t.acts.all aD0&&t.deeds.all (aD2 t)&&t.funcs.all (fun n=>among n 0 ((t.params.length:Int)-1))&&t.daemons.all (tG t))
theorem alY {t:TabP}{x:ThingP}(h:sA t x=true):x.parent=0∨qV t x.parent=true:=by
 unfold sA at h;rw [Bool.and_eq_true] at h;have h2:=h.2;cases hr:x.room<;>simp [hr] at h2
 ·exact h2.2
 exact .inl h2.1
def ak7 (t:TabP)(x:ThingP):Bool:=x.title !=0||x.text !=-1||x.parent !=0||x.flags !=0||x.room||(x.props.length:Int) !=t.props.length||x.sum !=0
def aaC (t:TabP)(x:ThingP):Bool:=!ak7 t x&&x.props.all (fun z=>z==0)
def Led (t:TabP):Prop:=∀ k,k<t.things.length→0<k→sA t (t.things.getD k cY)=true
theorem aU0 {t:TabP}(h:Led t){n:Int}(hn:qV t n=true):qW t n=0∨qV t (qW t n)=true:=by
 have h1:=gH.1 (show among n 1 _=true from hn);have h2:=h n.toNat (by omega) (by omega);exact alY h2
theorem alZ {t:TabP}(h:∀ j,j<t.things.length→(!sB t j)=true):Led t:=fun k hk h0=>by
 have h1:=h k hk;unfold sB at h1;simp only [Bool.not_or,Bool.and_eq_true,Bool.not_eq_true',Bool.and_eq_false_iff,decide_eq_false_iff_not] at h1;rcases h1.2 with h2|h2
 ·omega
 simpa using h2
theorem aQH {l:List SlotP}{k:Nat}(h:(l.getD k cH).kind=1):fT l k=(((l.getD k cH).words.length:Int)==0||!wV (l.getD k cH).words 4):=by
 unfold fT;rw [h];rfl
theorem uL {l:List SlotP}{k:Nat}{n:Int}(h:(l.getD k cH).kind=n)(h1:n≠1)(h2:among n 2 5=true):fT l k=(decide (((l.getD k cH).words.length:Int)>0)||((k:Int)==0&&(l.getD k cH).kind !=5)):=by
 unfold fT;have:((l.getD k cH).kind==1)=false:=by rw [h];simpa using h1
 rw [this,cond_false,h,h2,Bool.not_true,Bool.false_or]
theorem acW {l:List SlotP}{k:Nat}(h1:(l.getD k cH).kind≠1)(h2:among (l.getD k cH).kind 2 5=false):fT l k=true:=by
 unfold fT;have:((l.getD k cH).kind==1)=false:=by simpa using h1
 rw [this,cond_false,h2];rfl
theorem aIV (p:Int→Bool)(l:List SlotP)(k:Nat):0≤pQ p l k∧pQ p l k≤k:=by
 unfold pQ;have h1:=List.countP_le_length (p:=fun s:SlotP=>p s.kind) (l:=l.take k);have h2:(l.take k).length≤k:=by rw [List.length_take];omega
 omega
theorem mU (p:Int→Bool){l:List SlotP}{k:Nat}(h:k<l.length):pQ p l (k+1)=pQ p l k+(if p (l.getD k cH).kind=true then 1 else 0):=by
 unfold pQ;have e:l.take (k+1)=l.take k++[l.getD k cH]:=by rw [List.take_add_one];simp [h]
 rw [e,List.countP_append];cases hp:p (l.getD k cH).kind<;>simp_all
end Go.Proofs.YtgajclaoaphgoaaGreatDoor
namespace Go.Proofs.YtgajclaoaphgoaaGreatDoor
open Go.RowKit
theorem aFK (n lo hi:Int):PC Tryz.prog 55 [vi n,vi lo,vi hi] (vb (among n lo hi)):=by
 refine FB 6 15 Tryz.func55 ?_;refine G ?_;exact Rx rfl rfl
theorem aJP (n lo hi:Int):PC Tryz.prog 201 [vi n,vi lo,vi hi] (vb (among n lo hi)):=by
 refine FB 6 15 Tryz.func201 ?_;refine G ?_;exact Rx rfl rfl
theorem aoX (n:Int):PC Tryz.prog 250 [vi n] (vb (pW n)):=by
 refine FB 6 9 Tryz.func250 ?_;refine G ?_;exact Rx rfl rfl
theorem al0 (n:Int):PC Tryz.prog 187 [vi n] (vb (n==0)):=by
 refine FB 6 5 Tryz.func187 ?_;refine G ?_;exact Rx rfl rfl
theorem al1 (n:Int):PC Tryz.prog 239 [.val (.int .u8 n)] (vb (tL n)):=by
 refine FB 6 9 Tryz.func239 ?_;refine G ?_;exact Rx rfl rfl
theorem al2 (n:Int):PC Tryz.prog 240 [.val (.int .u8 n)] (vb (tM n)):=by
 refine FB 6 9 Tryz.func240 ?_;refine G ?_;exact Rx rfl rfl
theorem apN (n:Int):PC Tryz.prog 277 [.val (.int .u8 n)] (vb (tL n)):=by
 refine FB 6 9 Tryz.func277 ?_;refine G ?_;exact Rx rfl rfl
theorem apO (n:Int):PC Tryz.prog 278 [.val (.int .u8 n)] (vb (tM n)):=by
 refine FB 6 9 Tryz.func278 ?_;refine G ?_;exact Rx rfl rfl
theorem apP (n:Int):PC Tryz.prog 280 [.val (.int .u8 n)] (vb (alW n)):=by
 refine FB 6 9 Tryz.func280 ?_;refine G ?_;exact Rx rfl rfl
theorem atG (n:Int):PC Tryz.prog 279 [.val (.int .u8 n)] (vb (anY n)):=by
 refine FB 6 21 Tryz.func279 ?_;refine G ?_;refine Z1 (ca (apN _)) ?_;refine G ?_;refine Z4 (fun hC=>ca (apP _)) ?_;refine G ?_;refine Z4 (fun hC=>ca (apO _)) ?_;refine G ?_;exact Rx rfl rfl
theorem aU1 (n:Int):PC Tryz.prog 131 [.val (.int .u8 n)] (vb (uJ n)):=by
 refine FB 6 13 Tryz.func131 ?_;refine G ?_;exact Rx rfl rfl
theorem aU2 (n:Int):PC Tryz.prog 238 [.val (.int .u8 n)] (vb (tL n||tM n)):=by
 refine FB 6 9 Tryz.func238 ?_;refine G ?_;refine Z1 (ca (al1 _)) ?_;refine G ?_;refine Z4 (fun hC=>ca (al2 _)) ?_;refine G ?_;exact Rx rfl rfl
theorem aLR (n:Int):PC Tryz.prog 124 [vi n] (vb (pW n)):=by
 refine FB 6 8 Tryz.func124 ?_;refine G ?_;exact Rx rfl (bP (aUR n))
theorem aFO (t:TabP)(n:Int):PC Tryz.prog 60 [bR t,vi n] (vb (tG t n)):=by
 refine FB 6 19 Tryz.func60 ?_;refine dM (t:=0) (x:=bR t) rfl (qO t) fun hf=>?_;have hf1:=hf.params;have hf2:=hf.texts;have hf3:=hf.things;have hf4:=hf.acts;refine G ?_;refine Z1 (ca (aFK _ _ _)) ?_;refine G ?_;refine Zg (R:=[]) rfl rfl rfl cA (fun hC=>by
  have h1:=gH.1 hC;exact (by first|exact rJ rfl rfl rfl (by kernel_rfl) (by omega)|exact mM rfl rfl rfl (by kernel_rfl) (by omega) (by omega) rfl)) trivial ?_
 refine G ?_;exact Rx rfl rfl
theorem aBQ (t:TabP)(n:Int):PC Tryz.prog 123 [bR t,vi n] (vb (wW t n)):=by
 refine FB 6 11 Tryz.func123 ?_;refine dM (t:=0) (x:=bR t) rfl (qO t) fun hf=>?_;have hf1:=hf.params;have hf2:=hf.texts;have hf3:=hf.things;have hf4:=hf.acts;refine G ?_;refine Z1 (ca (aFK _ _ _)) ?_;refine G ?_;exact Rx rfl rfl
theorem aLS (t:TabP)(n:Int):PC Tryz.prog 52 [bR t,vi n] (vb (qV t n)):=by
 refine FB 6 11 Tryz.func52 ?_;refine dM (t:=0) (x:=bR t) rfl (qO t) fun hf=>?_;have hf1:=hf.params;have hf2:=hf.texts;have hf3:=hf.things;have hf4:=hf.acts;refine G ?_;refine Z1 (ca (aFK _ _ _)) ?_;refine G ?_;exact Rx rfl rfl
theorem afB (t:TabP)(n:Int):PC Tryz.prog 206 [bR t,vi n] (vb (qV t n)):=by
 refine FB 6 11 Tryz.func206 ?_;refine dM (t:=0) (x:=bR t) rfl (qO t) fun hf=>?_;have hf1:=hf.params;have hf2:=hf.texts;have hf3:=hf.things;have hf4:=hf.acts;refine G ?_;refine Z1 (ca (aJP _ _ _)) ?_;refine G ?_;exact Rx rfl rfl
theorem aU3 (t:TabP)(n:Int):PC Tryz.prog 129 [bR t,vi n] (vb (aBH t n)):=by
 refine FB 6 16 Tryz.func129 ?_;refine dM (t:=0) (x:=bR t) rfl (qO t) fun hf=>?_;have hf1:=hf.params;have hf2:=hf.texts;have hf3:=hf.things;have hf4:=hf.acts;refine G ?_;refine Z1 (ca (aLS t _)) ?_;refine G ?_;refine Zg (R:=[]) rfl rfl rfl cA (fun hC=>by
  have h1:=gH.1 (show among _ _ _=true from hC);exact (by first|exact rJ rfl rfl rfl (by kernel_rfl) (by omega)|exact mM rfl rfl rfl (by kernel_rfl) (by omega) (by omega) rfl)) trivial ?_
 refine G ?_;exact Rx rfl rfl
theorem afC (t:TabP)(n:Int)(q:Bool):PC Tryz.prog 200 [bR t,vi n,vb q] (vb (wW t n||(q&&n==-1))):=by
 refine FB 6 20 Tryz.func200 ?_;refine dM (t:=0) (x:=bR t) rfl (qO t) fun hf=>?_;have hf1:=hf.params;have hf2:=hf.texts;have hf3:=hf.things;have hf4:=hf.acts;refine G ?_;refine Z1 (ca (aJP _ _ _)) ?_;refine G ?_;exact Rx rfl rfl
theorem alX (t:TabP)(n:Int)(q:Bool):PC Tryz.prog 211 [bR t,vi n,vb q] (vb ((q&&n==-1)||tG t n)):=by
 refine FB 6 28 Tryz.func211 ?_;refine dM (t:=0) (x:=bR t) rfl (qO t) fun hf=>?_;have hf1:=hf.params;have hf2:=hf.texts;have hf3:=hf.things;have hf4:=hf.acts;refine G ?_;refine Z4 (fun hC=>ca (aJP _ _ _)) ?_;refine G ?_;refine Zg (R:=[]) rfl rfl rfl lO (fun hC=>by
  have h1:=gH.1 (by simpa using (Bool.and_eq_true _ _ ▸ hC:_∧_).2);exact (by first|exact rJ rfl rfl rfl (by kernel_rfl) (by omega)|exact mM rfl rfl rfl (by kernel_rfl) (by omega) (by omega) rfl)) trivial ?_
 refine G ?_;exact Rx rfl rfl
theorem anZ {s:ByteArray}{p:Int→Bool}{k:Nat}(hk:k=s.size)(h:∀ j,j<k→p ((tB s).getD j 0)=true):(tB s).all p=true:=aLP (d:=0) fun j hj=>h j (by rw [fK] at hj;omega)
theorem an0 {s:ByteArray}{p:Int→Bool}{k:Nat}(hk:k<s.size)(h:p ((tB s).getD k 0)=false):(tB s).all p=false:=aKW (d:=0) (by rw [fK];exact hk) h
theorem atH (s:ByteArray)(hs:s.size≤9223372036854775807):PC Tryz.prog 146 [vs s] (vb (qN s)):=by
 refine FB 6 29 Tryz.func146 ?_;refine G ?_;refine LP (ι:=Nat) (fun k=>[(3,vi k)]) (fun _=>[]) (fun k=>k≤s.size∧∀ j,j<k→uJ ((tB s).getD j 0)=true) (fun k=>s.size-k) 0 (⟨Nat.zero_le _,qF⟩) (hl:=(Le.sub (by repeat (first|trivial|refine ⟨.inr rfl,?_⟩|refine ⟨.inr (aR (by omega)),?_⟩)) (by repeat (first|trivial|refine ⟨rfl,?_⟩)))) ?_;intro k hI;refine Gd (fun hb=>?_) fun hb=>?_
 ·have hlt:k<s.size:=by simpa using hb
  refine G ?_;refine Z1 (aGH rfl rfl rfl (by kernel_rfl) (by omega) (by omega) rfl) ?_;refine G ?_;refine Zg rfl rfl rfl eV (fun hC=>aGH rfl rfl rfl (by kernel_rfl) (by omega) (by omega) rfl) trivial ?_;refine G ?_;refine Zg rfl rfl rfl cA (fun hC=>aGH rfl rfl rfl (by kernel_rfl) (by omega) (by omega) rfl) trivial ?_;refine Gd (fun hb=>?_) fun hb=>?_
  ·refine G ?_;exact Rx rfl (bP (by unfold qN;rw [an0 hlt (by have h1:=(aj1 ((tB s).getD k 0)).symm.trans hb;simpa using h1)];rfl))
  refine G ?_;exact ⟨k+1,⟨by omega,mC (p:=fun j=>uJ ((tB s).getD j 0)) hI.2 (by have h1:=(aj1 ((tB s).getD k 0)).symm.trans hb;simpa using h1)⟩,by omega,Le.sub (by repeat (first|trivial|refine ⟨.inr rfl,?_⟩|refine ⟨.inr (aR (by omega)),?_⟩)) (by repeat (first|trivial|refine ⟨rfl,?_⟩))⟩
 have hge:k=s.size:=by simp at hb;omega
 refine G ?_;exact Rx rfl (bP (by unfold qN;rw [anZ hge hI.2];rfl))
theorem atI (s:ByteArray)(hs:s.size≤9223372036854775807):PC Tryz.prog 251 [vs s] (vb (aE3 s)):=by
 refine FB 6 41 Tryz.func251 ?_;refine G ?_;refine Zg (R:=[]) rfl rfl rfl eV (fun hC=>by
  have hh:=hC;simp only [Bool.and_eq_true,Bool.not_eq_true',Bool.or_eq_false_iff,decide_eq_false_iff_not] at hh;exact aGH rfl rfl rfl (by kernel_rfl) (by omega) (by omega) rfl) trivial ?_
 refine Z4 (fun hC=>ca (apN _)) ?_;refine G ?_;refine Zg (R:=[]) rfl rfl rfl lO (fun hC=>by
  have hh:=hC;simp only [Bool.and_eq_true,Bool.not_eq_true',Bool.or_eq_false_iff,decide_eq_false_iff_not] at hh;exact aGH rfl rfl rfl (by kernel_rfl) (by omega) (by omega) rfl) trivial ?_
 refine Z4 (fun hC=>ca (apO _)) ?_;refine Gd (fun hb=>?_) fun hb=>?_
 ·have hw:yN s=false:=by have h1:=(al7 s).symm.trans hb;simpa using h1
  refine G ?_;exact Rx rfl (bP (by unfold aE3;rw [hw];rfl))
 have hw:yN s=true:=by have h1:=(al7 s).symm.trans hb;simpa using h1
 refine G ?_;refine LP (ι:=Nat) (fun k=>[(3,vi k)]) (fun _=>[]) (fun k=>k≤s.size∧∀ j,j<k→aLT ((tB s).getD j 0)=true) (fun k=>s.size-k) 0 (⟨Nat.zero_le _,qF⟩) (hl:=(Le.sub (by repeat (first|trivial|refine ⟨.inr rfl,?_⟩|refine ⟨.inr (aR (by omega)),?_⟩)) (by repeat (first|trivial|refine ⟨rfl,?_⟩)))) ?_;intro k hI;refine Gd (fun hb=>?_) fun hb=>?_
 ·have hlt:k<s.size:=by simpa using hb
  refine G ?_;refine Z1 (aGH rfl rfl rfl (by kernel_rfl) (by omega) (by omega) rfl) ?_;refine Z1 (ca (atG _)) ?_;refine G ?_;refine Zg rfl rfl rfl eV (fun hC=>aGH rfl rfl rfl (by kernel_rfl) (by omega) (by omega) rfl) trivial ?_;refine Z4 (fun hC=>ca (apP _)) ?_;refine Gd (fun hb=>?_) fun hb=>?_
  ·refine G ?_;exact Rx rfl (bP (by unfold aE3;rw [an0 hlt (by have h1:=(apQ ((tB s).getD k 0)).symm.trans hb;simpa using h1),Bool.and_false]))
  refine G ?_;exact ⟨k+1,⟨by omega,mC (p:=fun j=>aLT ((tB s).getD j 0)) hI.2 (by have h1:=(apQ ((tB s).getD k 0)).symm.trans hb;simpa using h1)⟩,by omega,Le.sub (by repeat (first|trivial|refine ⟨.inr rfl,?_⟩|refine ⟨.inr (aR (by omega)),?_⟩)) (by repeat (first|trivial|refine ⟨rfl,?_⟩))⟩
 have hge:k=s.size:=by simp at hb;omega
 refine G ?_;exact Rx rfl (bP (by unfold aE3;rw [anZ hge hI.2,hw];rfl))
def xB (s:ByteArray)(most:Int)(P:Int→Bool):Bool:=decide ((s.size:Int)<1)||decide ((s.size:Int)>most)||!P ((tB s).getD 0 0)
theorem aU4 (s:ByteArray)(hs:s.size≤9223372036854775807)(most:Int)(K1 K2:Nat)(c1 c2:List Av)(P1 P2:Int→Bool)(hK1:dN Tryz.prog K1=true)(hK2:dN Tryz.prog K2=true)(hp1:bE c1)(hp2:bE c2)(H1:∀ n,PC Tryz.prog K1 ([.val (.int .u8 n)]++c1) (vb (P1 n)))(H2:∀ n,PC Tryz.prog K2 ([.val (.int .u8 n)]++c2) (vb (P2 n))):PC Tryz.prog 132 [vs s,vi most,.clo K1 c1,.clo K2 c2] (vb (!xB s most P1&&(tB s).all P2)):=by
 refine FB 6 38 Tryz.func132 ?_;refine G ?_;refine Zg (R:=[]) rfl rfl rfl eV (fun hC=>by
  have hh:=hC;simp only [Bool.and_eq_true,Bool.not_eq_true',Bool.or_eq_false_iff,decide_eq_false_iff_not] at hh;exact aGH rfl rfl rfl (by kernel_rfl) (by omega) (by omega) rfl) trivial ?_
 refine Z4 (fun hC=>kW (f:=K1) (caps:=c1) rfl rfl hK1 (H1 ((tB s).getD 0 0)) rfl ⟨trivial,hp1⟩ trivial) ?_;refine Gd (fun hb=>?_) fun hb=>?_
 ·have hw:xB s most P1=true:=hb;refine G ?_;exact Rx rfl (bP (by rw [hw];rfl))
 have hw:xB s most P1=false:=hb;refine G ?_;refine LP (ι:=Nat) (fun k=>[(28,vi k)]) (fun _=>[]) (fun k=>k≤s.size∧∀ j,j<k→P2 ((tB s).getD j 0)=true) (fun k=>s.size-k) 0 (⟨Nat.zero_le _,qF⟩) (hl:=(Le.sub (by repeat (first|trivial|refine ⟨.inr rfl,?_⟩|refine ⟨.inr (aR (by omega)),?_⟩)) (by repeat (first|trivial|refine ⟨rfl,?_⟩)))) ?_;intro k hI;refine Gd (fun hb=>?_) fun hb=>?_
 ·have hlt:k<s.size:=by simpa using hb
  refine G ?_;refine Z1 (aGH rfl rfl rfl (by kernel_rfl) (by omega) (by omega) rfl) ?_;refine Z1 (kW (f:=K2) (caps:=c2) rfl rfl hK2 (H2 ((tB s).getD k 0)) rfl ⟨trivial,hp2⟩ trivial) ?_;refine Gd (fun hb=>?_) fun hb=>?_
  ·refine G ?_;exact Rx rfl (bP (by rw [an0 hlt (by simpa using hb),Bool.and_false]))
  refine G ?_;exact ⟨k+1,⟨by omega,mC (p:=fun j=>P2 ((tB s).getD j 0)) hI.2 (by simpa using hb)⟩,by omega,Le.sub (by repeat (first|trivial|refine ⟨.inr rfl,?_⟩|refine ⟨.inr (aR (by omega)),?_⟩)) (by repeat (first|trivial|refine ⟨rfl,?_⟩))⟩
 have hge:k=s.size:=by simp at hb;omega
 refine G ?_;exact Rx rfl (bP (by rw [anZ hge hI.2,hw];rfl))
theorem al5 (n:Int):PC Tryz.prog 241 [.val (.int .u8 n),.ptr (.clo 238 [])] (vb (aLT n)):=by
 refine FB 6 15 Tryz.func241 ?_;refine G ?_;refine Z1 (kW rfl rfl (by kernel_rfl) (aU2 n) rfl ⟨trivial,trivial⟩ trivial) ?_;refine G ?_;exact Rx rfl rfl
end Go.Proofs.YtgajclaoaphgoaaGreatDoor
