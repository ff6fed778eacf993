/- Parts of the proof of a law of this seat: rules and contracts; no conditions. -/
import Derived.Test.YtgajclaoaphgoaaGreatDoorOd
import Derived.Laws.OwnMore
import Derived.ChangeKeysEq
set_option maxHeartbeats 6400000
set_option maxRecDepth 100000
set_option linter.unusedVariables false
set_option linter.unusedSimpArgs false
namespace Go.Proofs.YtgajclaoaphgoaaGreatDoor
open Go.RowKit
section
variable {P:Program}{o:Oper}{x y:Av}{R U:List (Nat × Hs)}{ρ:Operand→Av}{p q:Operand}{T:TypeId}
def aEQ (P:Program)(T:TypeId):Bool:=match P.underlying T with|some .bool=>true|_=>false
theorem aPD {T':TypeId}{a b:Bool}(ho:o.op=.binOp .neq T p q T')(hp:ρ p=.val (.bool a))(hq:ρ q=.val (.bool b))(hT:aEQ P T=true):OC P o ρ [] (.val (.bool (a !=b))) []:=bZ fun E c hG hr _=>by
 have h1:=hr p (by simp [ho,Op.operands]);have h2:=hr q (by simp [ho,Op.operands]);rw [hp] at h1;rw [hq] at h2;unfold aA at h1 h2;have hu:P.underlying T=some .bool:=by
  unfold aEQ at hT;split at hT
  ·assumption
  cases hT
 have he:∀ d,(Op.equalIn (d+1) T (.bool a) (.bool b)).run P E.w=.ok (a==b) E.w:=fun d=>by
  unfold Op.equalIn;rw [Sem.run_bind,run_underlying hu E.w];rfl
 refine ⟨.bool (a !=b),?_,by unfold aA;rfl⟩;simp only [execOp,ho,h1,h2,eqGuard,binOp,Op.equal,Sem.run_bind];have:=he 9999;simp [Op.maxDepth,this,bne]
theorem aGV {T':TypeId}{a b:ByteArray}(ho:o.op=.binOp .eql T p q T')(hp:ρ p=.val (.string a))(hq:ρ q=.val (.string b)):OC P o ρ [] (.val (.bool (a.toList==b.toList))) []:=bZ fun E c hG hr _=>by
 have h1:=hr p (by simp [ho,Op.operands]);have h2:=hr q (by simp [ho,Op.operands]);rw [hp] at h1;rw [hq] at h2;unfold aA at h1 h2;exact ⟨.bool (a.toList==b.toList),by simp [execOp,ho,h1,h2,eqGuard,binOp,Op.stringOp],by unfold aA;rfl⟩
theorem zR {T':TypeId}{a b:ByteArray}(ho:o.op=.binOp .neq T p q T')(hp:ρ p=.val (.string a))(hq:ρ q=.val (.string b)):OC P o ρ [] (.val (.bool (a.toList !=b.toList))) []:=bZ fun E c hG hr _=>by
 have h1:=hr p (by simp [ho,Op.operands]);have h2:=hr q (by simp [ho,Op.operands]);rw [hp] at h1;rw [hq] at h2;unfold aA at h1 h2;exact ⟨.bool (a.toList !=b.toList),by simp [execOp,ho,h1,h2,eqGuard,binOp,Op.stringOp,bne],by unfold aA;rfl⟩
theorem aqV {T':TypeId}{a b:ByteArray}(ho:o.op=.binOp .add T p q T')(hp:ρ p=.val (.string a))(hq:ρ q=.val (.string b))(hs:a.size+b.size≤9223372036854775807):OC P o ρ [] (.val (.string (a++b))) []:=bZ fun E c hG hr _=>by
 have h1:=hr p (by simp [ho,Op.operands]);have h2:=hr q (by simp [ho,Op.operands]);rw [hp] at h1;rw [hq] at h2;unfold aA at h1 h2;have:¬ ((a.size+b.size:Nat):Int)>IntKind.i64.max:=by simp [IntKind.max,IntKind.bits,IntKind.signed];omega
 refine ⟨.string (a++b),?_,by unfold aA;rfl⟩;simp only [execOp,ho,h1,h2,eqGuard,binOp,Op.stringOp,Sem.run_bind];rw [if_neg this];simp
theorem aDL {op:BinOp}{T':TypeId}{a b z:Value}(ho:o.op=.binOp op T p q T')(hp:ρ p=.val a)(hq:ρ q=.val b)(hg:∀ w,(eqGuard op T p q a b).run P w=.ok () w)(hz:∀ w,(binOp op T a b).run P w=.ok z w):OC P o ρ [] (.val z) []:=bZ fun E c hG hr _=>by
 have h1:=hr p (by simp [ho,Op.operands]);have h2:=hr q (by simp [ho,Op.operands]);rw [hp] at h1;rw [hq] at h2;unfold aA at h1 h2;exact ⟨z,by simp only [execOp,ho,h1,h2,Sem.run_bind,hg,hz,Result.andThen_ok,Sem.run_pure],by unfold aA;rfl⟩
def wQ (P:Program)(T:TypeId):Option IntKind:=match P.underlying T with|some (.int k)=>some k|_=>none
theorem aER {k:IntKind}(h:wQ P T=some k):P.underlying T=some (.int k):=by
 unfold wQ at h;split at h
 ·injection h with h;subst h;assumption
 cases h
theorem mH {S:TypeId}{k k':IntKind}{n:Int}(kd:IntKind)(ho:o.op=.convert S T p)(hp:ρ p=.val (.int k' n))(hS:wQ P S=some k)(hT:wQ P T=some kd):OC P o ρ [] (.val (.int kd (kd.wrap n))) []:=bZ fun E c hG hr _=>by
 have h1:=hr p (by simp [ho,Op.operands]);rw [hp] at h1;unfold aA at h1;refine ⟨.int kd (kd.wrap n),?_,by unfold aA;rfl⟩;simp [execOp,ho,h1,convert,Sem.run_bind,run_underlying (aER hS),run_underlying (aER hT),Conv.intToInt]
theorem aPX {T':TypeId}{k k':IntKind}{a b:Int}(ho:o.op=.binOp .shl T p q T')(hp:ρ p=.val (.int k a))(hq:ρ q=.val (.int k' b))(h0:0≤b):OC P o ρ [] (.val (.int k (k.wrap (a*2^(min b.toNat k.bits))))) []:=bZ fun E c hG hr _=>by
 have h1:=hr p (by simp [ho,Op.operands]);have h2:=hr q (by simp [ho,Op.operands]);rw [hp] at h1;rw [hq] at h2;unfold aA at h1 h2;have:¬ b<0:=by omega
 refine ⟨_,?_,by unfold aA;rfl⟩;simp [execOp,ho,h1,h2,eqGuard,binOp,Op.shift,this]
theorem afW {T':TypeId}{k k':IntKind}{a b:Int}(ho:o.op=.binOp .shr T p q T')(hp:ρ p=.val (.int k a))(hq:ρ q=.val (.int k' b))(h0:0≤b):OC P o ρ [] (.val (.int k (a.fdiv (2^(min b.toNat k.bits))))) []:=bZ fun E c hG hr _=>by
 have h1:=hr p (by simp [ho,Op.operands]);have h2:=hr q (by simp [ho,Op.operands]);rw [hp] at h1;rw [hq] at h2;unfold aA at h1 h2;have:¬ b<0:=by omega
 refine ⟨_,?_,by unfold aA;rfl⟩;simp [execOp,ho,h1,h2,eqGuard,binOp,Op.shift,this]
theorem aID {T':TypeId}{k:IntKind}{a b:Int}(ho:o.op=.binOp .quo T p q T')(hp:ρ p=.val (.int k a))(hq:ρ q=.val (.int k b))(h0:b≠0):OC P o ρ [] (.val (.int k (k.wrap (a.tdiv b)))) []:=bZ fun E c hG hr _=>by
 have h1:=hr p (by simp [ho,Op.operands]);have h2:=hr q (by simp [ho,Op.operands]);rw [hp] at h1;rw [hq] at h2;unfold aA at h1 h2;refine ⟨_,?_,by unfold aA;rfl⟩;simp [execOp,ho,h1,h2,eqGuard,binOp,Op.intDiv,h0]
theorem aDK {T':TypeId}{k:IntKind}{a b:Int}(ho:o.op=.binOp .rem T p q T')(hp:ρ p=.val (.int k a))(hq:ρ q=.val (.int k b))(h0:b≠0):OC P o ρ [] (.val (.int k (a.tmod b))) []:=bZ fun E c hG hr _=>by
 have h1:=hr p (by simp [ho,Op.operands]);have h2:=hr q (by simp [ho,Op.operands]);rw [hp] at h1;rw [hq] at h2;unfold aA at h1 h2;refine ⟨_,?_,by unfold aA;rfl⟩;simp [execOp,ho,h1,h2,eqGuard,binOp,Op.intDiv,h0]
theorem OC.cast (h:OC P o ρ R x U)(e:x=y):OC P o ρ R y U:=e ▸ h
theorem aeF {z:Av}(ho:o.op=.nilCheck p)(hp:ρ p=.ptr z):OC P o ρ [] (.ptr z) []:=bZ fun E c hG hr _=>by
 have h1:=hr p (by simp [ho,Op.operands]);rw [hp] at h1;have h2:=h1;unfold aA at h2;obtain ⟨b,off,u,h3,_⟩:=h2;exact ⟨c.eval p,by simp [execOp,ho,h3],h1⟩
theorem ad9 {cs:List Av}{i:Nat}(ho:o.op=.extract p i)(hp:ρ p=.tup cs)(hy:cs[i]?=some y):OC P o ρ [] y []:=bZ fun E c hG hr _=>by
 have h1:=hr p (by simp [ho,Op.operands]);rw [hp] at h1;unfold aA at h1;obtain ⟨vs,h2,h3⟩:=h1;obtain ⟨v,h4,h5⟩:=h3.get i y hy;exact ⟨v,by simp [execOp,ho,h2,Instr.extract,h4],h5⟩
theorem pU {E:Env}{n off:Nat}{t:TypeId}{cs:List Av}{v:Value}(h:aA E (.own n off) v)(hn:dI E n (.live t cs))(hne:off<cs.length):∃ b cur,v=.pointer (some ⟨b,off,none⟩)∧E.loc n=.at b∧E.w.heap[b]?=some (.cells cur t (0,0))∧∀ (i:Nat) (y:Av),cs[i]?=some y→∃ u:Value,cur[i]?=some u∧u.oneCell'=true∧aA E y u:=by
 rcases hn with ⟨_,rfl⟩|⟨b,cur,h1,h2,h3⟩
 ·simp at hne
 unfold aA at h;exact ⟨b,cur,h.2 b h1,h1,h2,h3⟩
theorem pG {w:World}{b:Nat}{cur:Array Value}{t:TypeId}{i:Nat}(h:w.heap[b]?=some (.cells cur t (0,0))):w.cell? ⟨b,i,none⟩=cur[i]?:=by simp [World.cell?,h]
theorem fL {n off:Nat}{t:TypeId}{cs:List Av}(ho:o.op=.load T p)(hp:ρ p=.own n off)(hT:jK P T=some false)(hy:cs[off]?=some y):OC P o ρ [(n,.live t cs)] y []:=bZ fun E a hG hr hH=>by
 have h1:=hr p (by simp [ho,Op.operands]);rw [hp] at h1;obtain ⟨b,cur,h2,h3,h4,h5⟩:=pU h1 (hH n (.live t cs) (by simp)) (List.getElem?_eq_some_iff.1 hy).1;obtain ⟨u,h6,_,h7⟩:=h5 off y hy;refine ⟨u,?_,h7⟩;simp only [execOp,ho,h2,Sem.run_bind,aR1 hT (show E.w.cell? ⟨b,off,none⟩=some u by rw [pG h4,h6]),Result.andThen_ok,Sem.run_pure]
theorem wI {E:Env}{cur:Array Value}:∀ (ds:List Av) (off:Nat),(∀ (i:Nat) (y:Av),ds[i]?=some y→∃ u:Value,cur[off+i]?=some u∧u.oneCell'=true∧aA E y u)→∃ vs:List Value,aG E ds vs∧(∀ u∈vs,u.oneCell'=true)∧∀ j u,vs[j]?=some u→cur[off+j]?=some u
 | [],off,_=>⟨[],by unfold aG;rfl,by simp,by simp⟩
 | d::ds,off,h=>by
  obtain ⟨u,h1,h2,h3⟩:=h 0 d rfl;obtain ⟨vs,h4,h5,h6⟩:=wI ds (off+1) fun i y hy=>by have:=h (i+1) y (by simpa using hy);rwa [show off+1+i=off+(i+1) from by omega]
  refine ⟨u::vs,by unfold aG;exact ⟨u,vs,rfl,h3,h4⟩,?_,?_⟩
  ·intro v hv;rcases List.mem_cons.1 hv with rfl|hv
   ·exact h2
   exact h5 v hv
  intro j v hv;cases j with
  | zero=>simp at hv;subst hv;exact h1
  | succ j=>have:=h6 j v (by simpa using hv);rwa [show off+1+j=off+(j+1) from by omega] at this
theorem mA {n off k:Nat}{t:TypeId}{cs ds:List Av}(ho:o.op=.load T p)(hp:ρ p=.own n off)(hT:jK P T=some true)(hs:mX P T=some k)(hds:(cs.drop off).take k=ds)(hk:ds.length=k)(h0:0<k):OC P o ρ [(n,.live t cs)] (.agg ds) []:=bZ fun E a hG hr hH=>by
 have h1:=hr p (by simp [ho,Op.operands]);rw [hp] at h1;have hlt:off<cs.length:=by
  have:((cs.drop off).take k).length=k:=by rw [hds,hk]
  rw [List.length_take,List.length_drop] at this;omega
 obtain ⟨b,cur,h2,h3,h4,h5⟩:=pU h1 (hH n (.live t cs) (by simp)) hlt;obtain ⟨vs,h6,h7,h8⟩:=wI (E:=E) (cur:=cur) ds off fun i y hy=>by
  refine h5 (off+i) y ?_;rw [←hds,List.getElem?_take] at hy;split at hy
  ·rwa [List.getElem?_drop] at hy
  cases hy
 refine ⟨.agg vs.toArray,?_,by unfold aA;exact ⟨vs,rfl,h6,h7⟩⟩;have hr:E.w.rangeAt b off vs:=fun j u hu=>by rw [pG h4];exact h8 j u hu
 simp only [execOp,ho,h2,Sem.run_bind,aR2 hT (by rw [hs,h6.length,hk]) hr,Result.andThen_ok,Sem.run_pure]
theorem eU {i off n k sz:Nat}{r:Bool}{t:TypeId}{cs:List Av}(ho:o.op=.fieldAddr T p i)(hp:ρ p=.own n k)(hk:k<cs.length)(hf:rR P T i=some (off,sz,r))(hz:sz≠0):OC P o ρ [(n,.live t cs)] (.own n (k+off)) []:=bZ fun E a hG hr hH=>by
 have h1:=hr p (by simp [ho,Op.operands]);rw [hp] at h1;obtain ⟨b,cur,h2,h3,h4,h5⟩:=pU h1 (hH n (.live t cs) (by simp)) hk;refine ⟨.pointer (some ⟨b,k+off,none⟩),by simp only [execOp,ho,h2,Sem.run_bind,aJZ hf hz,Result.andThen_ok,Sem.run_pure],?_⟩;unfold aA;exact ⟨⟨by rw [h3];simp,_,rfl⟩,fun b' hb'=>by rw [h3] at hb';injection hb' with hb';rw [hb']⟩
theorem qP {n k:Nat}{t:TypeId}{cs:List Av}(ho:o.op=.nilCheck p)(hp:ρ p=.own n k)(hk:k<cs.length):OC P o ρ [(n,.live t cs)] (.own n k) []:=bZ fun E a hG hr hH=>by
 have h1:=hr p (by simp [ho,Op.operands]);rw [hp] at h1;obtain ⟨b,cur,h2,h3,h4,h5⟩:=pU h1 (hH n (.live t cs) (by simp)) hk;exact ⟨a.eval p,by simp [execOp,ho,h2],h1⟩
theorem vL {n k len j:Nat}{t:TypeId}{cs:List Av}{kk:IntKind}{i:Int}(ho:o.op=.indexAddr T p q)(hp:ρ p=.osl k n len)(hq:ρ q=.val (.int kk i))(hT:sZ P T=some k)(h0:0≤i)(h1:i<len)(hj:i.toNat*k=j):OC P o ρ [(n,.live t cs)] (.own n j) []:=bZ fun E a hG hr hH=>by
 have h2:=hr p (by simp [ho,Op.operands]);have h3:=hr q (by simp [ho,Op.operands]);rw [hp] at h2;rw [hq] at h3;unfold aA at h2 h3;rcases hH n (.live t cs) (by simp) with ⟨h4,_⟩|⟨b,cur,h4,h5,h6⟩
 ·obtain ⟨_,h5⟩:=h2.1.2.2 h4;omega
 obtain ⟨c,cur',t',h7,h8,h9,h10,h11⟩:=h2.2 b h4;refine ⟨.pointer (some ⟨b,j,none⟩),?_,by unfold aA;exact ⟨⟨h2.1.1,_,rfl⟩,fun b' hb'=>by rw [h4] at hb';injection hb' with hb';rw [hb']⟩⟩;simp only [execOp,ho,h7,h3,Sem.run_bind,aR3 hT E.w h0 h1,Result.andThen_ok,Sem.run_pure,Nat.zero_add,hj]
theorem aCD {n len j:Nat}{t:TypeId}{cs:List Av}{kk:IntKind}(ho:o.op=.indexAddr T p q)(hp:ρ p=.osl 1 n len)(hq:ρ q=.val (.int kk ((j:Nat):Int)))(hT:sZ P T=some 1)(h1:j<len):OC P o ρ [(n,.live t cs)] (.own n j) []:=
 vL ho hp hq hT (by omega) (by omega) (by simp)
theorem Step.set {E:Env}(hG:Good E){n b:Nat}{cur cur':Array Value}{t:TypeId}(hn:E.loc n=.at b)(hb:E.w.heap[b]?=some (.cells cur t (0,0))){w':World}(h1:w'.os=E.w.os)(h2:w'.tape=E.w.tape)(h3:w'.output=E.w.output)(h4:w'.heap.size=E.w.heap.size)
 (h5:∀ c,c≠b→w'.heap[c]?=E.w.heap[c]?) (h6:w'.heap[b]?=some (.cells cur' t (0,0))) (h7:cur'.size=cur.size):Step E { E with w:=w' } [n]∧Good { E with w:=w' }:=by
 refine ⟨⟨h1,h2,h3,Nat.le_of_eq h4.symm,rfl,fun c hc hno=>h5 c fun e=>hno n (e ▸ hn),fun m hm=>⟨rfl,fun c hc=>h5 c fun e=>?_⟩,fun m h=>h,fun m c h=>.inl h,fun m h=>.inl h,fun m c cur0 t0 hc hc' hcur=>?_⟩,fun c hc=>by rw [h4];exact hG.old c hc,hG.inj,fun m c hc=>by rw [h4];exact hG.lt m c hc,hG.shp.same fun c hc=>⟨⟨by show c<w'.heap.size;rw [h4];exact hc.1,hc.2.1,hc.2.2⟩,h5 c fun e=>hc.2.2 n (e ▸ hn)⟩⟩
 ·have hm:m≠n:=by simpa using hm
  exact hm (hG.inj m n b (e ▸ hc) hn)
 by_cases e:c=b
 ·subst e;rw [hb] at hcur;injection hcur with hcur
  injection hcur with hcur ht
  subst hcur;subst ht
  exact ⟨cur',h6,h7⟩
 exact ⟨cur0,(h5 c e).trans hcur,rfl⟩
theorem aR6 {w:World}{b off:Nat}{cur:Array Value}{t:TypeId}(h:w.heap[b]?=some (.cells cur t (0,0)))(v:Value):(w.setCell ⟨b,off,none⟩ v).heap[b]?=some (.cells (cur.setIfInBounds off v) t (0,0)):=by
 simp [World.setCell,Array.getElem?_modify,h]
theorem lG {n off:Nat}{t:TypeId}{cs cs':List Av}(ho:o.op=.store T p q)(hp:ρ p=.own n off)(hq:ρ q=y)(hT:jK P T=some false)(hs:mX P T=some 1)(hy:∀ E v,aA E y v→v.oneCell'=true)(hlt:off<cs.length)(hcs:cs.set off y=cs'):OC P o ρ [(n,.live t cs)] .any [(n,.live t cs')]:=by
 subst hcs;intro E a hG hr hH;have h1:=hr p (by simp [ho,Op.operands]);have h2:=hr q (by simp [ho,Op.operands]);rw [hp] at h1;rw [hq] at h2;obtain ⟨b,cur,h3,h4,h5,h6⟩:=pU h1 (hH n (.live t cs) (by simp)) hlt;obtain ⟨u,h7,_,_⟩:=h6 off cs[off] (List.getElem?_eq_getElem hlt);have hoc:=hy E _ h2;have hcell:E.w.cell? ⟨b,off,none⟩=some u:=by rw [pG h5,h7]
 have hfz:E.w.frozen? ⟨b,off,none⟩=false:=by simp [World.frozen?,h5]
 have hrun:(Instr.storeAt T (.pointer (some ⟨b,off,none⟩)) (a.eval q)).run P E.w=.ok () (E.w.setCell ⟨b,off,none⟩ (a.eval q)):=by
  cases hi:P.info? T with
  | none=>simp [mX,hi] at hs
  | some i=>
   have hsz:i.size=1:=by simpa [mX,hi] using hs
   have hc1:(a.eval q).cells=#[a.eval q]:=tN hoc;simp [Instr.storeAt,Instr.sureAddr,storeVar,Sem.run_bind,sizeOf,typeInfo,hi,hsz,hc1,storeCells,run_store P _ _ _ _ hoc,hcell,hfz,Addr.add]
 unfold eK execOp;simp only [ho,h3,Sem.run_bind,hrun,Result.andThen_ok,Sem.run_pure,fM];have hset:=aR6 (off:=off) h5 (a.eval q);obtain ⟨hS,hG'⟩:=Step.set hG h4 h5 (w':=E.w.setCell ⟨b,off,none⟩ (a.eval q)) rfl rfl rfl (by simp [World.setCell]) (fun c hc=>Below.heap_setCell _ _ _ _ hc) hset (by simp);refine ⟨_,rfl,hS,hG',by unfold aA;trivial,fun m z hz=>?_⟩;have hm:m=n∧z=.live t (cs.set off y):=by
  simp only [aL] at hz;cases hb:Nat.beq n m with
  | true=>rw [hb] at hz;simp at hz;exact ⟨(Nat.eq_of_beq_eq_true hb).symm,hz.symm⟩
  | false=>rw [hb] at hz;simp at hz
 obtain ⟨rfl,rfl⟩:=hm;refine .inr ⟨b,_,h4,hset,fun i z hz=>?_⟩;rw [List.getElem?_set] at hz;by_cases e:off=i
 ·subst e;simp [hlt] at hz;subst hz;have:off<cur.size:=(Array.getElem?_eq_some_iff.1 h7).1;exact ⟨a.eval q,by simp [this],hoc,aA.step hS _ _ h2⟩
 rw [if_neg e] at hz;obtain ⟨u,h8,h9,h10⟩:=h6 i z hz;exact ⟨u,by rw [Array.getElem?_setIfInBounds_ne e];exact h8,h9,aA.step hS _ _ h10⟩
def nV (cs:List Av)(off:Nat)(ds:List Av):List Av:=cs.take off++ds++cs.drop (off+ds.length)
theorem aR7 {b:Nat}{t:TypeId}:∀ (vs:List Value) (off:Nat) (w:World) (cur:Array Value),w.heap[b]?=some (.cells cur t (0,0))→off+vs.length≤cur.size→
 (w.setCells b off vs).os=w.os∧(w.setCells b off vs).tape=w.tape∧(w.setCells b off vs).output=w.output∧(w.setCells b off vs).heap.size=w.heap.size∧(∀ c,c≠b→(w.setCells b off vs).heap[c]?=w.heap[c]?)∧
 ∃ cur':Array Value,(w.setCells b off vs).heap[b]?=some (.cells cur' t (0,0))∧cur'.size=cur.size∧(∀ i,i<off∨off+vs.length≤i→cur'[i]?=cur[i]?)∧∀ j u,vs[j]?=some u→cur'[off+j]?=some u
 | [],off,w,cur,h,hl=>⟨rfl,rfl,rfl,rfl,fun _ _=>rfl,cur,h,rfl,fun _ _=>rfl,by simp⟩
 | v::vs,off,w,cur,h,hl=>by
  simp only [List.length_cons] at hl;have h1:=aR6 (off:=off) h v;obtain ⟨h2,h3,h4,h5,h6,cur',h7,h8,h9,h10⟩:=aR7 vs (off+1) (w.setCell ⟨b,off,none⟩ v) _ h1 (by simp;omega);unfold World.setCells;refine ⟨h2,h3,h4,h5.trans (by simp [World.setCell]),fun c hc=>(h6 c hc).trans (Below.heap_setCell _ _ _ _ hc),cur',h7,by simpa using h8,fun i hi=>?_,fun j u hu=>?_⟩
  ·rw [h9 i (by simp at hi;omega),Array.getElem?_setIfInBounds_ne (by simp at hi;omega)]
  cases j with
  | zero=>
   simp at hu;subst hu;rw [h9 _ (by omega)];simp [show off<cur.size from by omega]
  | succ j=>
   have:=h10 j u (by simpa using hu);rwa [show off+1+j=off+(j+1) from by omega] at this
theorem sY {n off:Nat}{t:TypeId}{cs cs' ds:List Av}(ho:o.op=.store T p q)(hp:ρ p=.own n off)(hq:ρ q=x)(hx:x=.agg ds)(hs:mX P T=some ds.length)(hlt:off+ds.length≤cs.length)(h0:0<ds.length)(hcs:nV cs off ds=cs'):OC P o ρ [(n,.live t cs)] .any [(n,.live t cs')]:=by
 subst hcs;intro E a hG hr hH;have h1:=hr p (by simp [ho,Op.operands]);have h2:=hr q (by simp [ho,Op.operands]);rw [hp] at h1;rw [hq,hx] at h2;obtain ⟨b,cur,h3,h4,h5,h6⟩:=pU h1 (hH n (.live t cs) (by simp)) (by omega);unfold aA at h2;obtain ⟨vs,h7,h8,h9⟩:=h2;have hlen:=h8.length;have hcur:∀ i,i<cs.length→∃ u,cur[i]?=some u:=fun i hi=>by
  obtain ⟨u,h10,_⟩:=h6 i cs[i] (List.getElem?_eq_getElem hi);exact ⟨u,h10⟩
 have hsz:off+vs.length≤cur.size:=by
  obtain ⟨u,hu⟩:=hcur (off+ds.length-1) (by omega);have:=(Array.getElem?_eq_some_iff.1 hu).1;omega
 have hth:E.w.there b off vs.toArray.size:=fun j hj=>by
  simp at hj;obtain ⟨u,hu⟩:=hcur (off+j) (by omega);exact ⟨by rw [pG h5,hu];rfl,by simp [World.frozen?,h5]⟩
 have hrun:=run_storeAt_mid (P:=P) E.w b off T vs.toArray hth (by simpa [mX,hlen] using hs) (all_oneCell_toArray h9);unfold eK execOp;simp only [ho,h3,h7,Sem.run_bind,hrun,Result.andThen_ok,Sem.run_pure,fM];obtain ⟨k1,k2,k3,k4,k5,cur',k6,k7,k8,k9⟩:=aR7 vs off E.w cur h5 hsz;obtain ⟨hS,hG'⟩:=Step.set hG h4 h5 (w':=E.w.setCells b off vs) k1 k2 k3 k4 k5 k6 k7;refine ⟨_,rfl,hS,hG',by unfold aA;trivial,fun m z hz=>?_⟩;have hm:m=n∧z=.live t (nV cs off ds):=by
  simp only [aL] at hz;cases hb:Nat.beq n m with
  | true=>rw [hb] at hz;simp at hz;exact ⟨(Nat.eq_of_beq_eq_true hb).symm,hz.symm⟩
  | false=>rw [hb] at hz;simp at hz
 obtain ⟨rfl,rfl⟩:=hm;refine .inr ⟨b,cur',h4,k6,fun i z hz=>?_⟩;unfold nV at hz;rcases Nat.lt_or_ge i off with hi|hi
 ·rw [List.append_assoc,List.getElem?_append_left (by rw [List.length_take];omega),List.getElem?_take,if_pos hi] at hz;obtain ⟨u,h10,h11,h12⟩:=h6 i z hz;exact ⟨u,by rw [k8 i (.inl hi)];exact h10,h11,aA.step hS _ _ h12⟩
 rw [List.append_assoc,List.getElem?_append_right (by rw [List.length_take];omega),List.length_take,Nat.min_eq_left (by omega)] at hz;rcases Nat.lt_or_ge i (off+ds.length) with hi'|hi'
 ·rw [List.getElem?_append_left (by omega)] at hz;obtain ⟨u,h10,h11⟩:=h8.get _ z hz;have:=k9 _ u h10;rw [show off+(i-off)=i from by omega] at this;exact ⟨u,this,h9 u (List.mem_of_getElem? h10),aA.step hS _ _ h11⟩
 rw [List.getElem?_append_right (by omega),List.getElem?_drop] at hz;obtain ⟨u,h10,h11,h12⟩:=h6 i z (by rw [←hz];congr 1;omega);exact ⟨u,by rw [k8 i (.inr (by omega))];exact h10,h11,aA.step hS _ _ h12⟩
theorem aA6 {E:Env}(hG:Good E){n b:Nat}(hn:E.loc n=.unborn){w':World}(h:Below E.w.heap.size E.w w')(hb:E.w.heap.size≤b){cur:Array Value}{t:TypeId}(hc:w'.heap[b]?=some (.cells cur t (0,0))){cs:List Av}{v:Value}
 (hcs:∀ (i:Nat) (y:Av),cs[i]?=some y→∃ u:Value,cur[i]?=some u∧u.oneCell'=true∧aA E y u) (hx:aA (E.give w' n b) x v):mZ E x [(n,.live t cs)] v w':=by
 have hS:=Step.give hG h hn hb;refine ⟨E.give w' n b,rfl,hS,hG.give h hb (Array.getElem?_eq_some_iff.1 hc).1,hx,fun m z hz=>?_⟩;have hm:m=n∧z=.live t cs:=by
  simp only [aL] at hz;cases hb:Nat.beq n m with
  | true=>rw [hb] at hz;simp at hz;exact ⟨(Nat.eq_of_beq_eq_true hb).symm,hz.symm⟩
  | false=>rw [hb] at hz;simp at hz
 obtain ⟨rfl,rfl⟩:=hm;refine .inr ⟨b,cur,by simp [Env.give],hc,fun i y hy=>?_⟩;obtain ⟨u,h1,h2,h3⟩:=hcs i y hy;exact ⟨u,h1,h2,aA.step hS _ _ h3⟩
def rU:Value→Bool
 | .agg _=>false
 | .tuple _=>false
 | _=>true
theorem aA8 {v:Value}(h:rU v=true):v.oneCell'=true:=by cases v<;>first|rfl|(simp [rU] at h)
def nT (P:Program)(T:TypeId):Option (List Value):=((P.info? T).bind (·.zero)).map (·.cells.toList)
theorem aJG {zs:List Value}{cs:List Av}(n:Nat)(ho:o.op=.alloc T)(hz:nT P T=some zs)(ha:zs.all rU=true)(hcs:zs.map .val=cs):OC P o ρ [(n,.unborn)] (.own n 0) [(n,.live T cs)]:=by
 subst hcs;intro E a hG hr hH;have hn:E.loc n=.unborn:=hH n .unborn (by simp);cases hi:P.info? T with
 | none=>simp [nT,hi] at hz
 | some i=>
  cases hz0:i.zero with
  | none=>simp [nT,hi,hz0] at hz
  | some z=>
   simp [nT,hi,hz0] at hz;unfold eK execOp;have hrun:(Instr.alloc T true (.tuple #[])).run P E.w=.ok (.pointer (some ⟨E.w.heap.size,0,none⟩)) (E.w.alloc (.cells z.cells T)):=by
    simp [Instr.alloc,Sem.run_bind,zeroValue,typeInfo,hi,hz0,newVar,newRow]
   simp only [ho,Sem.run_bind,hrun,Result.andThen_ok,Sem.run_pure,fM];refine aA6 hG hn ((Below.refl _ _).alloc (Nat.le_refl _) _) (Nat.le_refl _) (heap_alloc_new _ _) (fun k y hy=>?_) ?_
   ·rw [List.getElem?_map] at hy;cases hk:zs[k]? with
    | none=>simp [hk] at hy
    | some u=>
     simp [hk] at hy;subst hy;refine ⟨u,?_,aA8 ((List.all_eq_true.1 ha) u (List.mem_of_getElem? hk)),by unfold aA;rfl⟩;rw [←hz] at hk;simpa using hk
   unfold aA;exact ⟨⟨by simp [Env.give],_,rfl⟩,fun b hb=>by simp [Env.give] at hb;subst hb;rfl⟩
theorem aQN {ds:List Av}(n:Nat)(ho:o.op=.box T p)(hp:ρ p=x)(hx:x=.agg ds):OC P o ρ [(n,.unborn)] (.own n 0) [(n,.live T ds)]:=by
 intro E a hG hr hH;have hn:E.loc n=.unborn:=hH n .unborn (by simp);have h2:=hr p (by simp [ho,Op.operands]);rw [hp,hx] at h2;unfold aA at h2;obtain ⟨vs,h3,h4,h5⟩:=h2;unfold eK execOp;have hrun:(Instr.box T (a.eval p)).run P E.w=.ok (.pointer (some ⟨E.w.heap.size,0,none⟩)) (E.w.alloc (.cells (a.eval p).cells T)):=by
  simp [Instr.box,newVar,newRow]
 simp only [ho,Sem.run_bind,hrun,Result.andThen_ok,Sem.run_pure,fM];refine aA6 hG hn ((Below.refl _ _).alloc (Nat.le_refl _) _) (Nat.le_refl _) (heap_alloc_new _ _) (fun k y hy=>?_) ?_
 ·obtain ⟨u,h6,h7⟩:=h4.get k y hy;exact ⟨u,by rw [h3];simpa [Value.cells] using h6,h5 u (List.mem_of_getElem? h6),h7⟩
 unfold aA;exact ⟨⟨by simp [Env.give],_,rfl⟩,fun b hb=>by simp [Env.give] at hb;subst hb;rfl⟩
theorem aR8 (e:TypeId)(cs:Array Value)(w:World):(newRow e cs).run P w=.ok ⟨w.heap.size,0,none⟩ (w.alloc (.cells cs e)):=by simp [newRow]
end
section
variable {P:Program}{o:Oper}{x y:Av}{R U:List (Nat × Hs)}{ρ:Operand→Av}{p q:Operand}{T:TypeId}
def eQ:Av→Nat→Bool
 | .agg ds,n=>Nat.beq ds.length n
 | .val v,n=>rU v&&Nat.beq n 1
 | .sl ..,n|.ptr _,n|.clo ..,n|.bm ..,n|.own ..,n|.osl ..,n=>Nat.beq n 1
 | _,_=>false
def cL:Av→List Av
 | .agg ds=>ds
 | y=>[y]
def tE (E:Env)(cs:List Av)(cells:Array Value):Prop:=cs.length=cells.size∧∀ (i:Nat) (y:Av),cs[i]?=some y→∃ u:Value,cells[i]?=some u∧u.oneCell'=true∧aA E y u
theorem wP {E:Env}{y:Av}{v:Value}{n:Nat}(h:aA E y v)(hs:eQ y n=true):v.cells.size=n∧(cL y).length=n∧tE E (cL y) v.cells:=by
 have one:v.oneCell'=true→n=1→cL y=[y]→v.cells.size=n∧(cL y).length=n∧tE E (cL y) v.cells:=fun h1 h2 h3=>by
  rw [h3,tN h1,h2];refine ⟨rfl,rfl,rfl,fun i z hz=>?_⟩;cases i with
  | zero=>simp at hz;subst hz;exact ⟨v,rfl,h1,h⟩
  | succ i=>simp at hz
 cases y with
 | agg ds=>
  unfold aA at h;obtain ⟨vs,rfl,h2,h3⟩:=h;have hl:=h2.length;have hn:ds.length=n:=by simpa [eQ] using hs
  refine ⟨by simp [Value.cells,hl,hn],by simpa [cL] using hn,by simp [cL,Value.cells,hl],fun i z hz=>?_⟩;obtain ⟨u,h4,h5⟩:=h2.get i z (by simpa [cL] using hz);exact ⟨u,by simpa [Value.cells] using h4,h3 u (List.mem_of_getElem? h4),h5⟩
 | val u=>
  simp only [eQ,Bool.and_eq_true] at hs;have h':=h;unfold aA at h';exact one (by rw [h'];exact aA8 hs.1) (Nat.eq_of_beq_eq_true hs.2) rfl
 | sl k m row=>exact one (aAT E v h) (Nat.eq_of_beq_eq_true (by simpa [eQ] using hs)) rfl
 | ptr z=>exact one (aEC E v h) (Nat.eq_of_beq_eq_true (by simpa [eQ] using hs)) rfl
 | clo f cs=>exact one (aAU E v h) (Nat.eq_of_beq_eq_true (by simpa [eQ] using hs)) rfl
 | bm f cs=>exact one (afU E v h) (Nat.eq_of_beq_eq_true (by simpa [eQ] using hs)) rfl
 | own m off=>exact one (nU E v h) (Nat.eq_of_beq_eq_true (by simpa [eQ] using hs)) rfl
 | osl k m len=>exact one (aED E v h) (Nat.eq_of_beq_eq_true (by simpa [eQ] using hs)) rfl
 | _=>simp [eQ] at hs
theorem aJ0:∀ (vs:List Value) (k off:Nat) (cells:Array Value),off+k+vs.length≤cells.size→
 ((vs.zipIdx k).foldl (fun cs (c:Value × Nat)=>cs.setIfInBounds (off+c.2) c.1) cells).size=cells.size∧
 (∀ i,i<off+k∨off+k+vs.length≤i→((vs.zipIdx k).foldl (fun cs (c:Value × Nat)=>cs.setIfInBounds (off+c.2) c.1) cells)[i]?=cells[i]?)∧
 ∀ j u,vs[j]?=some u→((vs.zipIdx k).foldl (fun cs (c:Value × Nat)=>cs.setIfInBounds (off+c.2) c.1) cells)[off+k+j]?=some u
 | [],k,off,cells,h=>⟨rfl,fun _ _=>rfl,by simp⟩
 | v::vs,k,off,cells,h=>by
  simp only [List.length_cons] at h;simp only [List.zipIdx_cons,List.foldl_cons];obtain ⟨h1,h2,h3⟩:=aJ0 vs (k+1) off (cells.setIfInBounds (off+k) v) (by simp;omega);refine ⟨by simpa using h1,fun i hi=>?_,fun j u hu=>?_⟩
  ·simp only [List.length_cons] at hi;rw [h2 i (by omega),Array.getElem?_setIfInBounds_ne (by omega)]
  cases j with
  | zero=>
   simp at hu;subst hu;rw [h2 _ (by omega)];simp [show off+k<cells.size from by omega]
  | succ j=>
   have:=h3 j u (by simpa using hu);rwa [show off+(k+1)+j=off+k+(j+1) from by omega] at this
theorem afX {E:Env}{cs ds:List Av}{cells dc:Array Value}{off:Nat}(h:tE E cs cells)(hd:tE E ds dc)(hl:off+ds.length≤cs.length):tE E (nV cs off ds) (dc.zipIdx.foldl (fun cs (c,j)=>cs.setIfInBounds (off+j) c) cells):=by
 have hdl:=hd.1;have hcl:=h.1;obtain ⟨h1,h2,h3⟩:=aJ0 dc.toList 0 off cells (by simp;omega);have e:dc.zipIdx.foldl (fun cs (c,j)=>cs.setIfInBounds (off+j) c) cells=((dc.toList.zipIdx 0).foldl (fun cs (c:Value × Nat)=>cs.setIfInBounds (off+c.2) c.1) cells):=by
  rw [←Array.foldl_toList,Array.toList_zipIdx]
 rw [e];refine ⟨by unfold nV;simp;omega,fun i y hy=>?_⟩;unfold nV at hy;rcases Nat.lt_or_ge i off with hi|hi
 ·rw [List.append_assoc,List.getElem?_append_left (by rw [List.length_take];omega),List.getElem?_take,if_pos hi] at hy;rw [h2 i (.inl (by omega))];exact h.2 i y hy
 rw [List.append_assoc,List.getElem?_append_right (by rw [List.length_take];omega),List.length_take,Nat.min_eq_left (by omega)] at hy;rcases Nat.lt_or_ge i (off+ds.length) with hi'|hi'
 ·rw [List.getElem?_append_left (by omega)] at hy;obtain ⟨u,h4,h5⟩:=hd.2 _ y hy;have:=h3 (i-off) u (by simpa using h4);rw [show off+0+(i-off)=i from by omega] at this;exact ⟨u,this,h5⟩
 rw [List.getElem?_append_right (by omega),List.getElem?_drop] at hy;rw [h2 i (.inr (by simp;omega))];exact h.2 i y (by rw [←hy];congr 1;omega)
def yB (place:Nat→Option (Nat × Nat)):List Av→List (Nat × Av)→List Av
 | cs,[]=>cs
 | cs,(i,y)::r=>match place i with|some (off,_)=>yB place (nV cs off (cL y)) r|none=>cs
def yA (place:Nat→Option (Nat × Nat))(N:Nat):List (Nat × Av)→Bool
 | []=>true
 | (i,y)::r=>(match place i with|some (off,sz)=>eQ y sz&&Nat.ble (off+sz) N|none=>false)&&yA place N r
theorem afY {cs ds:List Av}{off:Nat}(h:off+ds.length≤cs.length):(nV cs off ds).length=cs.length:=by unfold nV;simp;omega
theorem aJ1 {E:Env}{a:Act}{place:Nat→Option (Nat × Nat)}{N:Nat}:∀ (parts:List (Nat × Operand)) (cs:List Av) (cells:Array Value),tE E cs cells→cs.length=N→(∀ ip∈parts,aA E (ρ ip.2) (a.eval ip.2))→yA place N (parts.map fun ip=>(ip.1,ρ ip.2))=true→
 ∃ cells',Instr.fill place cells (parts.map fun ip=>(ip.1,a.eval ip.2))=some cells'∧tE E (yB place cs (parts.map fun ip=>(ip.1,ρ ip.2))) cells'
 | [],cs,cells,h,_,_,_=>⟨cells,rfl,h⟩
 | (i,p)::r,cs,cells,h,hN,hr,hp=>by
  simp only [List.map_cons,yA,Bool.and_eq_true] at hp;obtain ⟨hp1,hp2⟩:=hp;cases hpl:place i with
  | none=>simp [hpl] at hp1
  | some os=>
   obtain ⟨off,sz⟩:=os;simp only [hpl,Bool.and_eq_true] at hp1;have hle:=Nat.le_of_ble_eq_true hp1.2;obtain ⟨h1,h2,h3⟩:=wP (y:=ρ p) (v:=a.eval p) (hr (i,p) (by simp)) hp1.1;have hput:=afX h h3 (off:=off) (by omega);obtain ⟨cells',h4,h5⟩:=aJ1 r _ _ hput (by rw [afY (by omega),hN]) (fun ip hip=>hr ip (by simp [hip])) hp2;refine ⟨cells',?_,by simpa [yB,hpl] using h5⟩;simp only [List.map_cons,Instr.fill,hpl];rw [if_neg (by simp only [Bool.or_eq_true,decide_eq_true_eq];have:=h.1;omega)];exact h4
def aJH (P:Program)(T:TypeId):Option (List (Nat × Nat)):=
 match P.underlying T with
 | some (.struct fs)=>fs.toList.mapM fun f=>(P.info? f.type).map fun i=>(f.offset,i.size)
 | _=>none
theorem aR9 {w:World}:∀ (l:List Field) (pl:List (Nat × Nat)),(l.mapM fun f=>(P.info? f.type).map fun i=>(f.offset,i.size))=some pl→(l.mapM fun f=>(do pure (f.offset,←sizeOf f.type):Sem (Nat × Nat))).run P w=.ok pl w
 | [],pl,h=>by simp at h;subst h;rfl
 | f::l,pl,h=>by
  cases hi:P.info? f.type with
  | none=>simp [hi] at h
  | some i=>
   cases hl:(l.mapM fun f=>(P.info? f.type).map fun i=>(f.offset,i.size)) with
   | none=>simp [hi,hl] at h
   | some r=>
    simp [hi,hl] at h;subst h;have hs:(do pure (f.offset,←sizeOf f.type):Sem (Nat × Nat)).run P w=.ok (f.offset,i.size) w:=by simp [Sem.run_bind,sizeOf,typeInfo,hi]
    rw [List.mapM_cons,Sem.run_bind,hs,Result.andThen_ok,Sem.run_bind,aR9 l r hl];rfl
theorem aeG {parts:List (Nat × Operand)}{pl:List (Nat × Nat)}{zs:List Value}{ds:List Av}(ho:o.op=.build T parts.toArray)(hz:nT P T=some zs)(ha:zs.all rU=true)(hpl:aJH P T=some pl)(hp:yA (pl[·]?) zs.length (parts.map fun ip=>(ip.1,ρ ip.2))=true)
 (hds:yB (pl[·]?) (zs.map .val) (parts.map fun ip=>(ip.1,ρ ip.2))=ds):OC P o ρ [] (.agg ds) []:=bZ fun E a hG hr _=>by
 cases hi:P.info? T with
 | none=>simp [nT,hi] at hz
 | some i=>
  cases hz0:i.zero with
  | none=>simp [nT,hi,hz0] at hz
  | some z=>
   simp [nT,hi,hz0] at hz;subst hz;have hRC:tE E (z.cells.toList.map .val) z.cells:=⟨by simp,fun k y hy=>by
    rw [List.getElem?_map] at hy;cases hk:z.cells.toList[k]? with
    | none=>simp [hk] at hy
    | some u=>
     simp [hk] at hy;subst hy;exact ⟨u,by simpa using hk,aA8 ((List.all_eq_true.1 ha) u (List.mem_of_getElem? hk)),by unfold aA;rfl⟩⟩
   obtain ⟨cells',h1,h2⟩:=aJ1 (a:=a) (N:=z.cells.toList.length) parts _ _ hRC (by simp) (fun ip hip=>hr ip.2 (by simp [ho,Op.operands];exact ⟨_,hip⟩)) (by simpa using hp);rw [hds] at h2;unfold aJH at hpl;cases hu:P.underlying T with
   | none=>simp [hu] at hpl
   | some d=>
    cases d with
    | struct fs=>
     simp only [hu] at hpl;have hpr:=aR9 (w:=E.w) fs.toList pl hpl;refine ⟨.agg cells',?_,?_⟩
     ·have hm:(fs.mapM fun f=>(do pure (f.offset,←sizeOf f.type):Sem (Nat × Nat))).run P E.w=.ok pl.toArray E.w:=by
       rw [Array.mapM_eq_mapM_toList,map_eq_pure_bind,Sem.run_bind,hpr];rfl
      have hfill:Instr.fill (pl.toArray[·]?) z.cells ((parts.toArray.map fun (i,x)=>(i,a.eval x)).toList)=some cells':=by
       have:(fun (n:Nat)=>pl.toArray[n]?)=(fun (n:Nat)=>pl[n]?):=by funext n;simp
       rw [this];simpa using h1
      have hzr:(zeroValue T).run P E.w=.ok z E.w:=by simp [zeroValue,Sem.run_bind,typeInfo,hi,hz0]
      simp only [execOp,ho,Instr.build,Sem.run_bind,hzr,Sem.run_pure,Result.andThen_ok,run_underlying hu,hm,hfill]
     unfold aA;refine ⟨cells'.toList,by simp,?_,?_⟩
     ·have gen:∀ (ds:List Av) (vs:List Value),ds.length=vs.length→(∀ (i:Nat) (y:Av),ds[i]?=some y→∃ u:Value,vs[i]?=some u∧aA E y u)→aG E ds vs:=by
       intro ds
       induction ds with
       | nil=>intro vs hl _;unfold aG;cases vs with|nil=>rfl|cons=>simp at hl
       | cons d ds ih=>
        intro vs hl hh;cases vs with
        | nil=>simp at hl
        | cons v vs=>
         unfold aG;refine ⟨v,vs,rfl,?_,ih vs (by simpa using hl) fun i y hy=>by simpa using hh (i+1) y (by simpa using hy)⟩;obtain ⟨u,hu,h3⟩:=hh 0 d rfl;simp at hu;subst hu;exact h3
      refine gen ds _ (by simpa using h2.1) fun i y hy=>?_;obtain ⟨u,h3,h4,h5⟩:=h2.2 i y hy;exact ⟨u,by simpa using h3,h5⟩
     intro u hu;obtain ⟨i,hi',rfl⟩:=List.getElem_of_mem hu;have hlt:i<ds.length:=by have:=h2.1;simp at hi';omega
     obtain ⟨u',h3,h4,h5⟩:=h2.2 i ds[i] (List.getElem?_eq_getElem hlt);have:cells'[i]?=some cells'.toList[i]:=by simp at hi' ⊢
     rw [this] at h3;injection h3 with h3
     rw [h3];exact h4
    | _=>simp [hu] at hpl
def eB (P:Program)(T:TypeId):Option TypeId:=match P.underlying T with|some (.slice e)=>some e|_=>none
theorem tR {e:TypeId}(h:eB P T=some e):P.underlying T=some (.slice e):=by
 unfold eB at h;split at h
 ·injection h with h;subst h;assumption
 cases h
def lW (P:Program)(e:TypeId):Option (Nat × Nat × List Value):=(P.info? e).bind fun i=>i.zero.map fun z=>(i.size,i.bytes,z.cells.toList)
theorem vK {e:TypeId}{k by_:Nat}{zs:List Value}(h:lW P e=some (k,by_,zs)):∃ i z,P.info? e=some i∧i.zero=some z∧i.size=k∧i.bytes=by_∧z.cells.toList=zs:=by
 unfold lW at h;cases hi:P.info? e with
 | none=>simp [hi] at h
 | some i=>
  cases hz:i.zero with
  | none=>simp [hi,hz] at h
  | some z=>
   simp [hi,hz] at h;obtain ⟨rfl,rfl,rfl⟩:=h;exact ⟨i,z,rfl,hz,rfl,rfl,rfl⟩
def lR (k:Nat):List Operand→List (Nat × Operand)
 | []=>[]
 | p::r=>(k,p)::lR (k+1) r
def pX (k:Nat):List Av→Bool
 | []=>true
 | y::r=>eQ y k&&pX k r
theorem aSA {E:Env}{a:Act}{k:Nat}:∀ (ps:List Operand) (j:Nat) (cells:Array Value),cells.size=(j+ps.length)*k→(∀ p∈ps,aA E (ρ p) (a.eval p))→pX k (ps.map ρ)=true→
 ∃ cells',Instr.fill (fun i=>some (i*k,k)) cells ((lR j ps).map fun ip=>(ip.1,a.eval ip.2))=some cells'∧cells'.size=cells.size∧(∀ i,i<j*k→cells'[i]?=cells[i]?)∧
  ∀ m p,ps[m]?=some p→∀ i u,(a.eval p).cells[i]?=some u→cells'[(j+m)*k+i]?=some u
 | [],j,cells,_,_,_=>⟨cells,rfl,rfl,fun _ _=>rfl,by simp⟩
 | p::ps,j,cells,hc,hr,hs=>by
  simp only [List.map_cons,pX,Bool.and_eq_true] at hs;obtain ⟨h1,h2,h3⟩:=wP (y:=ρ p) (v:=a.eval p) (hr p (by simp)) hs.1;simp only [List.length_cons] at hc;have hle:j*k+k≤cells.size:=by rw [hc,←Nat.succ_mul];exact Nat.mul_le_mul_right _ (by omega)
  obtain ⟨f1,f2,f3⟩:=aJ0 (a.eval p).cells.toList 0 (j*k) cells (by simp;omega);have e:(a.eval p).cells.zipIdx.foldl (fun cs (c,i)=>cs.setIfInBounds (j*k+i) c) cells=(((a.eval p).cells.toList.zipIdx 0).foldl (fun cs (c:Value × Nat)=>cs.setIfInBounds (j*k+c.2) c.1) cells):=by
   rw [←Array.foldl_toList,Array.toList_zipIdx]
  rw [←e] at f1 f2 f3;obtain ⟨cells',g1,g2,g3,g4⟩:=aSA ps (j+1) _ (by rw [f1,hc];congr 1;omega) (fun q hq=>hr q (by simp [hq])) hs.2;refine ⟨cells',?_,by rw [g2,f1],fun i hi=>?_,fun m q hq i u hu=>?_⟩
  ·simp only [lR,List.map_cons,Instr.fill];rw [if_neg (by simp only [Bool.or_eq_true,decide_eq_true_eq];omega)];exact g1
  ·rw [g3 i (by rw [Nat.succ_mul];omega),f2 i (.inl (by omega))]
  cases m with
  | zero=>
   simp at hq;subst hq;have hi:i<k:=by have:=(Array.getElem?_eq_some_iff.1 hu).1;omega
   rw [Nat.add_zero,g3 _ (by rw [Nat.succ_mul];omega)];have:=f3 i u (by simpa using hu);rwa [Nat.add_zero] at this
  | succ m=>
   have:=g4 m q (by simpa using hq) i u hu;rwa [show j+1+m=j+(m+1) from by omega] at this
theorem aJU {E:Env}{a:Act}{ps:List Operand}{e:TypeId}{k by_:Nat}{zs:List Value}(w:World)(hT:eB P T=some e)(hi:lW P e=some (k,by_,zs))(hr:∀ p∈ps,aA E (ρ p) (a.eval p))(hs:pX k (ps.map ρ)=true)(hn:ps.length*k≤16777216):
 ∃ cells':Array Value,(Instr.buildSlice T ps.length ((lR 0 ps).map fun ip=>(ip.1,a.eval ip.2)).toArray).run P w=.ok (.slice (some ⟨w.heap.size,0,none⟩) ps.length ps.length) (w.alloc (.cells cells' e))∧cells'.size=ps.length*k∧
  ∀ m p,ps[m]?=some p→∀ i u,(a.eval p).cells[i]?=some u→cells'[m*k+i]?=some u:=by
 obtain ⟨i,z,h1,h2,rfl,rfl,rfl⟩:=vK hi;have hsz:(sizeOf e).run P w=.ok i.size w:=by simp [sizeOf,Sem.run_bind,typeInfo,h1]
 have hzr:(zeroValue e).run P w=.ok z w:=by simp [zeroValue,Sem.run_bind,typeInfo,h1,h2]
 have fin:∀ z0:Array Value,∃ cells':Array Value,Instr.fill (fun j=>some (j*i.size,i.size)) ((Array.range (ps.length*i.size)).map (z0[· % z0.size]!)) (((lR 0 ps).map fun ip=>(ip.1,a.eval ip.2)).toArray.toList)=some cells'∧cells'.size=ps.length*i.size∧
  ∀ m p,ps[m]?=some p→∀ j u,(a.eval p).cells[j]?=some u→cells'[m*i.size+j]?=some u:=fun z0=>by
  obtain ⟨c,g1,g2,g3,g4⟩:=aSA (ρ:=ρ) (k:=i.size) ps 0 ((Array.range (ps.length*i.size)).map (z0[· % z0.size]!)) (by simp) hr hs;exact ⟨c,by simpa using g1,by simpa using g2,fun m p hp j u hu=>by simpa using g4 m p hp j u hu⟩
 have hlim:¬ ps.length*i.size>2^24:=by omega
 by_cases h0:ps.length*i.size=0
 ·obtain ⟨c,g1,g2,g3⟩:=fin #[];refine ⟨c,?_,g2,g3⟩;simp only [Instr.buildSlice,Sem.run_bind,run_underlying (tR hT),Result.andThen_ok,hsz,if_neg hlim,if_pos h0,Sem.run_pure,g1,aR8]
 obtain ⟨c,g1,g2,g3⟩:=fin z.cells;refine ⟨c,?_,g2,g3⟩;simp only [Instr.buildSlice,Sem.run_bind,run_underlying (tR hT),Result.andThen_ok,hsz,if_neg hlim,if_neg h0,hzr,Sem.run_pure,g1,aR8]
def gE (l:List Av):Nat→Av:=fun j=>l.getD j .any
theorem aEM {p:Operand}:∀ (ps:List Operand) (j:Nat),p∈ps→∃ i,(i,p)∈lR j ps
 | [],j,h=>by simp at h
 | q::r,j,h=>by
  rcases List.mem_cons.1 h with rfl|h
  ·exact ⟨j,by simp [lR]⟩
  obtain ⟨i,hi⟩:=aEM r (j+1) h;exact ⟨i,by simp [lR,hi]⟩
theorem aEN {k:Nat}:∀ (l:List Av),pX k l=true→∀ y∈l,eQ y k=true
 | z::l,h,y,hy=>by
  simp only [pX,Bool.and_eq_true] at h;rcases List.mem_cons.1 hy with rfl|hy
  ·exact h.1
  exact aEN l h.2 y hy
theorem fO {ps:List Operand}{xs:List Av}{e:TypeId}{k by_ n:Nat}{zs:List Value}(ho:o.op=.buildSlice T n (lR 0 ps).toArray)(hT:eB P T=some e)(hi:lW P e=some (k,by_,zs))(hxs:ps.map ρ=xs)(hs:pX k xs=true)(hn:ps.length=n)(hl:n*k≤16777216)(hm:n≤16777216):OC P o ρ [] (.sl k n (gE xs)) []:=aEP fun E a hG hr=>by
 subst hxs hn;have hr':∀ p∈ps,aA E (ρ p) (a.eval p):=fun p hp=>hr p (by
  obtain ⟨i,hi⟩:=aEM ps 0 hp;simp [ho,Op.operands];exact ⟨i,hi⟩)
 obtain ⟨cells',h1,h2,h3⟩:=aJU E.w hT hi hr' hs hl;have hB:Below E.w.heap.size E.w (E.w.alloc (.cells cells' e)):=(Below.refl _ _).alloc (Nat.le_refl _) _;refine ⟨.slice (some ⟨E.w.heap.size,0,none⟩) ps.length ps.length,E.w.alloc (.cells cells' e),?_,hB,?_⟩
 ·have:((lR 0 ps).toArray.map fun (i,x)=>(i,a.eval x))=((lR 0 ps).map fun ip=>(ip.1,a.eval ip.2)).toArray:=by simp
  simp only [execOp,ho,this,Sem.run_bind,h1,Result.andThen_ok,Sem.run_pure]
 unfold aA;refine ⟨some ⟨E.w.heap.size,0,none⟩,ps.length,rfl,Nat.le_refl _,by unfold maxLen;omega,fun hn=>⟨E.w.heap.size,0,rfl,⟨by simp,fun hb=>?_,fun n hn=>?_⟩,fun j hj=>?_⟩⟩
 ·have:=hG.old _ hb;omega
 ·have:=(hG.lt n _ hn).1;omega
 obtain ⟨p,hp⟩:∃ p,ps[j]?=some p:=⟨ps[j],List.getElem?_eq_getElem hj⟩
 have hpm:=List.mem_of_getElem? hp;have hrow:gE (ps.map ρ) j=ρ p:=by simp [gE,hp]
 obtain ⟨h4,h5,h6⟩:=wP (hr' p hpm) (aEN _ hs _ (List.mem_map.2 ⟨p,hpm,rfl⟩));rw [hrow];refine ⟨a.eval p,aA.step (Step.grow hG hB) _ _ (hr' p hpm),h4,fun i u hu=>?_⟩;rw [Nat.zero_add,pG (heap_alloc_new _ _)];exact h3 j p hp i u (by simpa using hu)
theorem aC5 {ps:List Operand}{xs:List Av}{e:TypeId}{by_ n:Nat}{zs:List Value}(m:Nat)(ho:o.op=.buildSlice T n (lR 0 ps).toArray)(hT:eB P T=some e)(hi:lW P e=some (1,by_,zs))(hxs:ps.map ρ=xs)(hs:pX 1 xs=true)(hf:xs.all (fun y=>Nat.beq (cL y).length 1)=true)(hn:ps.length=n)(hm:n≤16777216):
 OC P o ρ [(m,.unborn)] (.osl 1 m n) [(m,.live e (xs.flatMap cL))]:=by
 intro E a hG hr hH;have hu:E.loc m=.unborn:=hH m .unborn (by simp);subst hxs hn;have hr':∀ p∈ps,aA E (ρ p) (a.eval p):=fun p hp=>hr p (by
  obtain ⟨i,hi⟩:=aEM ps 0 hp;simp [ho,Op.operands];exact ⟨i,hi⟩)
 obtain ⟨cells',h1,h2,h3⟩:=aJU E.w hT hi hr' hs (by omega);have hB:Below E.w.heap.size E.w (E.w.alloc (.cells cells' e)):=(Below.refl _ _).alloc (Nat.le_refl _) _;have:((lR 0 ps).toArray.map fun (i,x)=>(i,a.eval x))=((lR 0 ps).map fun ip=>(ip.1,a.eval ip.2)).toArray:=by simp
 unfold eK execOp;simp only [ho,this,Sem.run_bind,h1,Result.andThen_ok,Sem.run_pure,fM];have flat1:∀ (l:List Av),pX 1 l=true→l.flatMap cL=l∨True:=fun _ _=>.inr trivial;refine aA6 hG hu hB (Nat.le_refl _) (heap_alloc_new _ _) (fun j y hy=>?_) ?_
 ·have idx:∀ (l:List Av),pX 1 l=true→∀ (j:Nat) (y:Av),(l.flatMap cL)[j]?=some y→∃ z,l[j]?=some z∧cL z=[y]:=by
   intro l
   induction l with
   | nil=>intro _ j y h;simp at h
   | cons z l ih=>
    intro h j y hy;simp only [pX,Bool.and_eq_true] at h;have hz:(cL z).length=1:=by
     cases z<;>simp_all [eQ,cL]
    obtain ⟨z',hz'⟩:=List.length_eq_one_iff.1 hz;rw [List.flatMap_cons,hz'] at hy;cases j with
    | zero=>simp at hy;subst hy;exact ⟨z,rfl,hz'⟩
    | succ j=>simpa using ih h.2 j y (by simpa using hy)
  obtain ⟨z,hz,hzy⟩:=idx _ hs j y hy;rw [List.getElem?_map] at hz;cases hp:ps[j]? with
  | none=>simp [hp] at hz
  | some p=>
   simp [hp] at hz;subst hz;have hpm:=List.mem_of_getElem? hp;obtain ⟨h4,h5,h6,h7⟩:=wP (hr' p hpm) (aEN _ hs _ (List.mem_map.2 ⟨p,hpm,rfl⟩));obtain ⟨u,h8,h9,h10⟩:=h7 0 y (by rw [hzy];rfl);exact ⟨u,by have:=h3 j p hp 0 u h8;simpa using this,h9,h10⟩
 unfold aA;refine ⟨⟨by simp [Env.give],⟨_,_,rfl⟩,fun hn=>by simp [Env.give] at hn⟩,fun b hb=>?_⟩;simp [Env.give] at hb;subst hb;exact ⟨ps.length,cells',e,rfl,Nat.le_refl _,by unfold maxLen;omega,heap_alloc_new _ _,by omega⟩
theorem aGP {e:TypeId}{by_ m:Nat}{z:Value}{k1 k2:IntKind}{l:Int}(n:Nat)(ho:o.op=.makeSlice T p q)(hp:ρ p=.val (.int k1 l))(hq:ρ q=.val (.int k2 l))(hl:l=(m:Int))(hT:eB P T=some e)(hi:lW P e=some (1,by_,[z]))(hz:rU z=true)(hb:by_*m≤281474976710656)(hm:m≤9223372036854775807):
 OC P o ρ [(n,.unborn)] (.osl 1 n m) [(n,.live e (List.replicate m (.val z)))]:=by
 intro E a hG hr hH;have hu:E.loc n=.unborn:=hH n .unborn (by simp);have h1:=hr p (by simp [ho,Op.operands]);have h2:=hr q (by simp [ho,Op.operands]);rw [hp] at h1;rw [hq] at h2;unfold aA at h1 h2;subst hl;obtain ⟨i,z',g1,g2,g3,g4,g5⟩:=vK hi;have hb':(i.bytes:Int)*(m:Int)≤281474976710656:=by
  have:((i.bytes*m:Nat):Int)≤281474976710656:=by rw [g4];omega
  rwa [Int.natCast_mul] at this
 have hrun:=run_make (P:=P) E.w T e i z' (tR hT) g1 g2 k1 k2 m m (by omega) (Int.le_refl _) hb' (by omega);unfold eK execOp;simp only [ho,h1,h2,Sem.run_bind,hrun,Result.andThen_ok,Sem.run_pure,fM,Int.toNat_natCast,g3,Nat.mul_one];have hzc:z'.cells=#[z]:=by rw [←Array.toList_inj];exact g5
 refine aA6 hG hu ((Below.refl _ _).alloc (Nat.le_refl _) _) (Nat.le_refl _) (heap_alloc_new _ _) (fun j y hy=>?_) ?_
 ·rw [List.getElem?_replicate] at hy;split at hy
  ·rename_i hj;injection hy with hy
   subst hy;exact ⟨z,by simp [madeCells,hzc,hj,Nat.mod_one],aA8 hz,by unfold aA;rfl⟩
  cases hy
 unfold aA;refine ⟨⟨by simp [Env.give],⟨_,_,rfl⟩,fun hn=>by simp [Env.give] at hn⟩,fun b hb=>?_⟩;simp [Env.give] at hb;subst hb;exact ⟨m,_,e,rfl,Nat.le_refl _,by unfold maxLen;omega,heap_alloc_new _ _,by rw [size_madeCells,Nat.mul_one]⟩
end
end Go.Proofs.YtgajclaoaphgoaaGreatDoor
