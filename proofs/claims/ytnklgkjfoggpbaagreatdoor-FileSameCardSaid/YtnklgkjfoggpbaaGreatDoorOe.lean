/- Parts of the proof of a law of this seat: rules and contracts; no conditions. -/
import Derived.Test.YtnklgkjfoggpbaaGreatDoorOd
import Derived.Laws.OwnMore
import Derived.ChangeKeysEq
set_option maxHeartbeats 6400000
set_option maxRecDepth 100000
set_option linter.unusedVariables false
set_option linter.unusedSimpArgs false
namespace Go.Proofs.YtnklgkjfoggpbaaGreatDoor
open Go.RowKit
section
variable {P:Program}{o:Oper}{x y:Av}{R U:List (Nat × Hs)}{ρ:Operand→Av}{p q:Operand}{T:TypeId}
def aEQ (P:Program)(T:TypeId):Bool:=match P.underlying T with|some .bool=>true|_=>false
theorem aHP {T':TypeId}{a b:Bool}(ho:o.op=.binOp .eql T p q T')(hp:ρ p=.val (.bool a))(hq:ρ q=.val (.bool b))(hT:aEQ P T=true):OC P o ρ [] (.val (.bool (a==b))) []:=bZ fun E c hG hr _=>by
 have h1:=hr p (by simp [ho,Op.operands])
 have h2:=hr q (by simp [ho,Op.operands])
 rw [hp] at h1
 rw [hq] at h2
 unfold aA at h1 h2
 have hu:P.underlying T=some .bool:=by
  unfold aEQ at hT
  split at hT
  ·assumption
  ·cases hT
 have he:∀ d,(Op.equalIn (d+1) T (.bool a) (.bool b)).run P E.w=.ok (a==b) E.w:=fun d=>by
  unfold Op.equalIn
  rw [Sem.run_bind,run_underlying hu E.w]
  rfl
 refine ⟨.bool (a==b),?_,by unfold aA;rfl⟩
 simp only [execOp,ho,h1,h2,eqGuard,binOp,Op.equal,Sem.run_bind]
 have:=he 9999
 simp [Op.maxDepth,this]
theorem aPD {T':TypeId}{a b:Bool}(ho:o.op=.binOp .neq T p q T')(hp:ρ p=.val (.bool a))(hq:ρ q=.val (.bool b))(hT:aEQ P T=true):OC P o ρ [] (.val (.bool (a !=b))) []:=bZ fun E c hG hr _=>by
 have h1:=hr p (by simp [ho,Op.operands])
 have h2:=hr q (by simp [ho,Op.operands])
 rw [hp] at h1
 rw [hq] at h2
 unfold aA at h1 h2
 have hu:P.underlying T=some .bool:=by
  unfold aEQ at hT
  split at hT
  ·assumption
  ·cases hT
 have he:∀ d,(Op.equalIn (d+1) T (.bool a) (.bool b)).run P E.w=.ok (a==b) E.w:=fun d=>by
  unfold Op.equalIn
  rw [Sem.run_bind,run_underlying hu E.w]
  rfl
 refine ⟨.bool (a !=b),?_,by unfold aA;rfl⟩
 simp only [execOp,ho,h1,h2,eqGuard,binOp,Op.equal,Sem.run_bind]
 have:=he 9999
 simp [Op.maxDepth,this,bne]
theorem aGV {T':TypeId}{a b:ByteArray}(ho:o.op=.binOp .eql T p q T')(hp:ρ p=.val (.string a))(hq:ρ q=.val (.string b)):OC P o ρ [] (.val (.bool (a.toList==b.toList))) []:=bZ fun E c hG hr _=>by
 have h1:=hr p (by simp [ho,Op.operands])
 have h2:=hr q (by simp [ho,Op.operands])
 rw [hp] at h1
 rw [hq] at h2
 unfold aA at h1 h2
 exact ⟨.bool (a.toList==b.toList),by simp [execOp,ho,h1,h2,eqGuard,binOp,Op.stringOp],by unfold aA;rfl⟩
theorem zR {T':TypeId}{a b:ByteArray}(ho:o.op=.binOp .neq T p q T')(hp:ρ p=.val (.string a))(hq:ρ q=.val (.string b)):OC P o ρ [] (.val (.bool (a.toList !=b.toList))) []:=bZ fun E c hG hr _=>by
 have h1:=hr p (by simp [ho,Op.operands])
 have h2:=hr q (by simp [ho,Op.operands])
 rw [hp] at h1
 rw [hq] at h2
 unfold aA at h1 h2
 exact ⟨.bool (a.toList !=b.toList),by simp [execOp,ho,h1,h2,eqGuard,binOp,Op.stringOp,bne],by unfold aA;rfl⟩
theorem aDL {op:BinOp}{T':TypeId}{a b z:Value}(ho:o.op=.binOp op T p q T')(hp:ρ p=.val a)(hq:ρ q=.val b)(hg:∀ w,(eqGuard op T p q a b).run P w=.ok () w)(hz:∀ w,(binOp op T a b).run P w=.ok z w):OC P o ρ [] (.val z) []:=bZ fun E c hG hr _=>by
 have h1:=hr p (by simp [ho,Op.operands])
 have h2:=hr q (by simp [ho,Op.operands])
 rw [hp] at h1
 rw [hq] at h2
 unfold aA at h1 h2
 exact ⟨z,by simp only [execOp,ho,h1,h2,Sem.run_bind,hg,hz,Result.andThen_ok,Sem.run_pure],by unfold aA;rfl⟩
def wQ (P:Program)(T:TypeId):Option IntKind:=match P.underlying T with|some (.int k)=>some k|_=>none
theorem aER {k:IntKind}(h:wQ P T=some k):P.underlying T=some (.int k):=by
 unfold wQ at h
 split at h
 ·injection h with h;subst h;assumption
 ·cases h
theorem mH {S:TypeId}{k k':IntKind}{n:Int}(kd:IntKind)(ho:o.op=.convert S T p)(hp:ρ p=.val (.int k' n))(hS:wQ P S=some k)(hT:wQ P T=some kd):OC P o ρ [] (.val (.int kd (kd.wrap n))) []:=bZ fun E c hG hr _=>by
 have h1:=hr p (by simp [ho,Op.operands])
 rw [hp] at h1
 unfold aA at h1
 refine ⟨.int kd (kd.wrap n),?_,by unfold aA;rfl⟩
 simp [execOp,ho,h1,convert,Sem.run_bind,run_underlying (aER hS),run_underlying (aER hT),Conv.intToInt]
theorem aPX {T':TypeId}{k k':IntKind}{a b:Int}(ho:o.op=.binOp .shl T p q T')(hp:ρ p=.val (.int k a))(hq:ρ q=.val (.int k' b))(h0:0≤b):OC P o ρ [] (.val (.int k (k.wrap (a*2^(min b.toNat k.bits))))) []:=bZ fun E c hG hr _=>by
 have h1:=hr p (by simp [ho,Op.operands])
 have h2:=hr q (by simp [ho,Op.operands])
 rw [hp] at h1
 rw [hq] at h2
 unfold aA at h1 h2
 have:¬ b<0:=by omega
 refine ⟨_,?_,by unfold aA;rfl⟩
 simp [execOp,ho,h1,h2,eqGuard,binOp,Op.shift,this]
theorem afW {T':TypeId}{k k':IntKind}{a b:Int}(ho:o.op=.binOp .shr T p q T')(hp:ρ p=.val (.int k a))(hq:ρ q=.val (.int k' b))(h0:0≤b):OC P o ρ [] (.val (.int k (a.fdiv (2^(min b.toNat k.bits))))) []:=bZ fun E c hG hr _=>by
 have h1:=hr p (by simp [ho,Op.operands])
 have h2:=hr q (by simp [ho,Op.operands])
 rw [hp] at h1
 rw [hq] at h2
 unfold aA at h1 h2
 have:¬ b<0:=by omega
 refine ⟨_,?_,by unfold aA;rfl⟩
 simp [execOp,ho,h1,h2,eqGuard,binOp,Op.shift,this]
theorem aID {T':TypeId}{k:IntKind}{a b:Int}(ho:o.op=.binOp .quo T p q T')(hp:ρ p=.val (.int k a))(hq:ρ q=.val (.int k b))(h0:b≠0):OC P o ρ [] (.val (.int k (k.wrap (a.tdiv b)))) []:=bZ fun E c hG hr _=>by
 have h1:=hr p (by simp [ho,Op.operands])
 have h2:=hr q (by simp [ho,Op.operands])
 rw [hp] at h1
 rw [hq] at h2
 unfold aA at h1 h2
 refine ⟨_,?_,by unfold aA;rfl⟩
 simp [execOp,ho,h1,h2,eqGuard,binOp,Op.intDiv,h0]
theorem aDK {T':TypeId}{k:IntKind}{a b:Int}(ho:o.op=.binOp .rem T p q T')(hp:ρ p=.val (.int k a))(hq:ρ q=.val (.int k b))(h0:b≠0):OC P o ρ [] (.val (.int k (a.tmod b))) []:=bZ fun E c hG hr _=>by
 have h1:=hr p (by simp [ho,Op.operands])
 have h2:=hr q (by simp [ho,Op.operands])
 rw [hp] at h1
 rw [hq] at h2
 unfold aA at h1 h2
 refine ⟨_,?_,by unfold aA;rfl⟩
 simp [execOp,ho,h1,h2,eqGuard,binOp,Op.intDiv,h0]
theorem OC.cast (h:OC P o ρ R x U)(e:x=y):OC P o ρ R y U:=e ▸ h
theorem aeF {z:Av}(ho:o.op=.nilCheck p)(hp:ρ p=.ptr z):OC P o ρ [] (.ptr z) []:=bZ fun E c hG hr _=>by
 have h1:=hr p (by simp [ho,Op.operands])
 rw [hp] at h1
 have h2:=h1
 unfold aA at h2
 obtain ⟨b,off,u,h3,_⟩:=h2
 exact ⟨c.eval p,by simp [execOp,ho,h3],h1⟩
theorem ad9 {cs:List Av}{i:Nat}(ho:o.op=.extract p i)(hp:ρ p=.tup cs)(hy:cs[i]?=some y):OC P o ρ [] y []:=bZ fun E c hG hr _=>by
 have h1:=hr p (by simp [ho,Op.operands])
 rw [hp] at h1
 unfold aA at h1
 obtain ⟨vs,h2,h3⟩:=h1
 obtain ⟨v,h4,h5⟩:=h3.get i y hy
 exact ⟨v,by simp [execOp,ho,h2,Instr.extract,h4],h5⟩
theorem pU {E:Env}{n off:Nat}{t:TypeId}{cs:List Av}{v:Value}(h:aA E (.own n off) v)(hn:dI E n (.live t cs))(hne:off<cs.length):∃ b cur,v=.pointer (some ⟨b,off,none⟩)∧E.loc n=.at b∧E.w.heap[b]?=some (.cells cur t (0,0))∧∀ (i:Nat) (y:Av),cs[i]?=some y→∃ u:Value,cur[i]?=some u∧u.oneCell'=true∧aA E y u:=by
 rcases hn with ⟨_,rfl⟩|⟨b,cur,h1,h2,h3⟩
 ·simp at hne
 ·unfold aA at h
  exact ⟨b,cur,h.2 b h1,h1,h2,h3⟩
theorem pG {w:World}{b:Nat}{cur:Array Value}{t:TypeId}{i:Nat}(h:w.heap[b]?=some (.cells cur t (0,0))):w.cell? ⟨b,i,none⟩=cur[i]?:=by simp [World.cell?,h]
theorem fL {n off:Nat}{t:TypeId}{cs:List Av}(ho:o.op=.load T p)(hp:ρ p=.own n off)(hT:jK P T=some false)(hy:cs[off]?=some y):OC P o ρ [(n,.live t cs)] y []:=bZ fun E a hG hr hH=>by
 have h1:=hr p (by simp [ho,Op.operands])
 rw [hp] at h1
 obtain ⟨b,cur,h2,h3,h4,h5⟩:=pU h1 (hH n (.live t cs) (by simp)) (List.getElem?_eq_some_iff.1 hy).1
 obtain ⟨u,h6,_,h7⟩:=h5 off y hy
 refine ⟨u,?_,h7⟩
 simp only [execOp,ho,h2,Sem.run_bind,aR1 hT (show E.w.cell? ⟨b,off,none⟩=some u by rw [pG h4,h6]),Result.andThen_ok,Sem.run_pure]
theorem wI {E:Env}{cur:Array Value}:∀ (ds:List Av) (off:Nat),(∀ (i:Nat) (y:Av),ds[i]?=some y→∃ u:Value,cur[off+i]?=some u∧u.oneCell'=true∧aA E y u)→∃ vs:List Value,aG E ds vs∧(∀ u∈vs,u.oneCell'=true)∧∀ j u,vs[j]?=some u→cur[off+j]?=some u
 | [],off,_=>⟨[],by unfold aG;rfl,by simp,by simp⟩
 | d::ds,off,h=>by
  obtain ⟨u,h1,h2,h3⟩:=h 0 d rfl
  obtain ⟨vs,h4,h5,h6⟩:=wI ds (off+1) fun i y hy=>by have:=h (i+1) y (by simpa using hy);rwa [show off+1+i=off+(i+1) from by omega]
  refine ⟨u::vs,by unfold aG;exact ⟨u,vs,rfl,h3,h4⟩,?_,?_⟩
  ·intro v hv
   rcases List.mem_cons.1 hv with rfl|hv
   ·exact h2
   ·exact h5 v hv
  ·intro j v hv
   cases j with
   | zero=>simp at hv;subst hv;exact h1
   | succ j=>have:=h6 j v (by simpa using hv);rwa [show off+1+j=off+(j+1) from by omega] at this
theorem mA {n off k:Nat}{t:TypeId}{cs ds:List Av}(ho:o.op=.load T p)(hp:ρ p=.own n off)(hT:jK P T=some true)(hs:mX P T=some k)(hds:(cs.drop off).take k=ds)(hk:ds.length=k)(h0:0<k):OC P o ρ [(n,.live t cs)] (.agg ds) []:=bZ fun E a hG hr hH=>by
 have h1:=hr p (by simp [ho,Op.operands])
 rw [hp] at h1
 have hlt:off<cs.length:=by
  have:((cs.drop off).take k).length=k:=by rw [hds,hk]
  rw [List.length_take,List.length_drop] at this
  omega
 obtain ⟨b,cur,h2,h3,h4,h5⟩:=pU h1 (hH n (.live t cs) (by simp)) hlt
 obtain ⟨vs,h6,h7,h8⟩:=wI (E:=E) (cur:=cur) ds off fun i y hy=>by
  refine h5 (off+i) y ?_
  rw [←hds,List.getElem?_take] at hy
  split at hy
  ·rwa [List.getElem?_drop] at hy
  ·cases hy
 refine ⟨.agg vs.toArray,?_,by unfold aA;exact ⟨vs,rfl,h6,h7⟩⟩
 have hr:E.w.rangeAt b off vs:=fun j u hu=>by rw [pG h4];exact h8 j u hu
 simp only [execOp,ho,h2,Sem.run_bind,aR2 hT (by rw [hs,h6.length,hk]) hr,Result.andThen_ok,Sem.run_pure]
theorem eU {i off n k sz:Nat}{r:Bool}{t:TypeId}{cs:List Av}(ho:o.op=.fieldAddr T p i)(hp:ρ p=.own n k)(hk:k<cs.length)(hf:rR P T i=some (off,sz,r))(hz:sz≠0):OC P o ρ [(n,.live t cs)] (.own n (k+off)) []:=bZ fun E a hG hr hH=>by
 have h1:=hr p (by simp [ho,Op.operands])
 rw [hp] at h1
 obtain ⟨b,cur,h2,h3,h4,h5⟩:=pU h1 (hH n (.live t cs) (by simp)) hk
 refine ⟨.pointer (some ⟨b,k+off,none⟩),by simp only [execOp,ho,h2,Sem.run_bind,aJZ hf hz,Result.andThen_ok,Sem.run_pure],?_⟩
 unfold aA
 exact ⟨⟨by rw [h3];simp,_,rfl⟩,fun b' hb'=>by rw [h3] at hb';injection hb' with hb';rw [hb']⟩
theorem qP {n k:Nat}{t:TypeId}{cs:List Av}(ho:o.op=.nilCheck p)(hp:ρ p=.own n k)(hk:k<cs.length):OC P o ρ [(n,.live t cs)] (.own n k) []:=bZ fun E a hG hr hH=>by
 have h1:=hr p (by simp [ho,Op.operands])
 rw [hp] at h1
 obtain ⟨b,cur,h2,h3,h4,h5⟩:=pU h1 (hH n (.live t cs) (by simp)) hk
 exact ⟨a.eval p,by simp [execOp,ho,h2],h1⟩
theorem vL {n k len j:Nat}{t:TypeId}{cs:List Av}{kk:IntKind}{i:Int}(ho:o.op=.indexAddr T p q)(hp:ρ p=.osl k n len)(hq:ρ q=.val (.int kk i))(hT:sZ P T=some k)(h0:0≤i)(h1:i<len)(hj:i.toNat*k=j):OC P o ρ [(n,.live t cs)] (.own n j) []:=bZ fun E a hG hr hH=>by
 have h2:=hr p (by simp [ho,Op.operands])
 have h3:=hr q (by simp [ho,Op.operands])
 rw [hp] at h2
 rw [hq] at h3
 unfold aA at h2 h3
 rcases hH n (.live t cs) (by simp) with ⟨h4,_⟩|⟨b,cur,h4,h5,h6⟩
 ·obtain ⟨_,h5⟩:=h2.1.2.2 h4
  omega
 ·obtain ⟨c,cur',t',h7,h8,h9,h10,h11⟩:=h2.2 b h4
  refine ⟨.pointer (some ⟨b,j,none⟩),?_,by unfold aA;exact ⟨⟨h2.1.1,_,rfl⟩,fun b' hb'=>by rw [h4] at hb';injection hb' with hb';rw [hb']⟩⟩
  simp only [execOp,ho,h7,h3,Sem.run_bind,aR3 hT E.w h0 h1,Result.andThen_ok,Sem.run_pure,Nat.zero_add,hj]
theorem aCD {n len j:Nat}{t:TypeId}{cs:List Av}{kk:IntKind}(ho:o.op=.indexAddr T p q)(hp:ρ p=.osl 1 n len)(hq:ρ q=.val (.int kk ((j:Nat):Int)))(hT:sZ P T=some 1)(h1:j<len):OC P o ρ [(n,.live t cs)] (.own n j) []:=
 vL ho hp hq hT (by omega) (by omega) (by simp)
theorem Step.set {E:Env}(hG:Good E){n b:Nat}{cur cur':Array Value}{t:TypeId}(hn:E.loc n=.at b)(hb:E.w.heap[b]?=some (.cells cur t (0,0))){w':World}(h1:w'.os=E.w.os)(h2:w'.tape=E.w.tape)(h3:w'.output=E.w.output)(h4:w'.heap.size=E.w.heap.size)
 (h5:∀ c,c≠b→w'.heap[c]?=E.w.heap[c]?) (h6:w'.heap[b]?=some (.cells cur' t (0,0))) (h7:cur'.size=cur.size):Step E { E with w:=w' } [n]∧Good { E with w:=w' }:=by
 refine ⟨⟨h1,h2,h3,Nat.le_of_eq h4.symm,rfl,fun c hc hno=>h5 c fun e=>hno n (e ▸ hn),fun m hm=>⟨rfl,fun c hc=>h5 c fun e=>?_⟩,fun m h=>h,fun m c h=>.inl h,fun m h=>.inl h,fun m c cur0 t0 hc hc' hcur=>?_⟩,fun c hc=>by rw [h4];exact hG.old c hc,hG.inj,fun m c hc=>by rw [h4];exact hG.lt m c hc,hG.shp.same fun c hc=>⟨⟨by show c<w'.heap.size;rw [h4];exact hc.1,hc.2.1,hc.2.2⟩,h5 c fun e=>hc.2.2 n (e ▸ hn)⟩⟩
 ·have hm:m≠n:=by simpa using hm
  exact hm (hG.inj m n b (e ▸ hc) hn)
 ·by_cases e:c=b
  ·subst e
   rw [hb] at hcur
   injection hcur with hcur
   injection hcur with hcur ht
   subst hcur;subst ht
   exact ⟨cur',h6,h7⟩
  ·exact ⟨cur0,(h5 c e).trans hcur,rfl⟩
theorem aR6 {w:World}{b off:Nat}{cur:Array Value}{t:TypeId}(h:w.heap[b]?=some (.cells cur t (0,0)))(v:Value):(w.setCell ⟨b,off,none⟩ v).heap[b]?=some (.cells (cur.setIfInBounds off v) t (0,0)):=by
 simp [World.setCell,Array.getElem?_modify,h]
theorem lG {n off:Nat}{t:TypeId}{cs cs':List Av}(ho:o.op=.store T p q)(hp:ρ p=.own n off)(hq:ρ q=y)(hT:jK P T=some false)(hs:mX P T=some 1)(hy:∀ E v,aA E y v→v.oneCell'=true)(hlt:off<cs.length)(hcs:cs.set off y=cs'):OC P o ρ [(n,.live t cs)] .any [(n,.live t cs')]:=by
 subst hcs
 intro E a hG hr hH
 have h1:=hr p (by simp [ho,Op.operands])
 have h2:=hr q (by simp [ho,Op.operands])
 rw [hp] at h1
 rw [hq] at h2
 obtain ⟨b,cur,h3,h4,h5,h6⟩:=pU h1 (hH n (.live t cs) (by simp)) hlt
 obtain ⟨u,h7,_,_⟩:=h6 off cs[off] (List.getElem?_eq_getElem hlt)
 have hoc:=hy E _ h2
 have hcell:E.w.cell? ⟨b,off,none⟩=some u:=by rw [pG h5,h7]
 have hfz:E.w.frozen? ⟨b,off,none⟩=false:=by simp [World.frozen?,h5]
 have hrun:(Instr.storeAt T (.pointer (some ⟨b,off,none⟩)) (a.eval q)).run P E.w=.ok () (E.w.setCell ⟨b,off,none⟩ (a.eval q)):=by
  cases hi:P.info? T with
  | none=>simp [mX,hi] at hs
  | some i=>
   have hsz:i.size=1:=by simpa [mX,hi] using hs
   have hc1:(a.eval q).cells=#[a.eval q]:=tN hoc
   simp [Instr.storeAt,Instr.sureAddr,storeVar,Sem.run_bind,sizeOf,typeInfo,hi,hsz,hc1,storeCells,run_store P _ _ _ _ hoc,hcell,hfz,Addr.add]
 unfold eK execOp
 simp only [ho,h3,Sem.run_bind,hrun,Result.andThen_ok,Sem.run_pure,fM]
 have hset:=aR6 (off:=off) h5 (a.eval q)
 obtain ⟨hS,hG'⟩:=Step.set hG h4 h5 (w':=E.w.setCell ⟨b,off,none⟩ (a.eval q)) rfl rfl rfl (by simp [World.setCell]) (fun c hc=>Below.heap_setCell _ _ _ _ hc) hset (by simp)
 refine ⟨_,rfl,hS,hG',by unfold aA;trivial,fun m z hz=>?_⟩
 have hm:m=n∧z=.live t (cs.set off y):=by
  simp only [aL] at hz
  cases hb:Nat.beq n m with
  | true=>rw [hb] at hz;simp at hz;exact ⟨(Nat.eq_of_beq_eq_true hb).symm,hz.symm⟩
  | false=>rw [hb] at hz;simp at hz
 obtain ⟨rfl,rfl⟩:=hm
 refine .inr ⟨b,_,h4,hset,fun i z hz=>?_⟩
 rw [List.getElem?_set] at hz
 by_cases e:off=i
 ·subst e
  simp [hlt] at hz
  subst hz
  have:off<cur.size:=(Array.getElem?_eq_some_iff.1 h7).1
  exact ⟨a.eval q,by simp [this],hoc,aA.step hS _ _ h2⟩
 ·rw [if_neg e] at hz
  obtain ⟨u,h8,h9,h10⟩:=h6 i z hz
  exact ⟨u,by rw [Array.getElem?_setIfInBounds_ne e];exact h8,h9,aA.step hS _ _ h10⟩
def nV (cs:List Av)(off:Nat)(ds:List Av):List Av:=cs.take off++ds++cs.drop (off+ds.length)
theorem aR7 {b:Nat}{t:TypeId}:∀ (vs:List Value) (off:Nat) (w:World) (cur:Array Value),w.heap[b]?=some (.cells cur t (0,0))→off+vs.length≤cur.size→
 (w.setCells b off vs).os=w.os∧(w.setCells b off vs).tape=w.tape∧(w.setCells b off vs).output=w.output∧(w.setCells b off vs).heap.size=w.heap.size∧(∀ c,c≠b→(w.setCells b off vs).heap[c]?=w.heap[c]?)∧
 ∃ cur':Array Value,(w.setCells b off vs).heap[b]?=some (.cells cur' t (0,0))∧cur'.size=cur.size∧(∀ i,i<off∨off+vs.length≤i→cur'[i]?=cur[i]?)∧∀ j u,vs[j]?=some u→cur'[off+j]?=some u
 | [],off,w,cur,h,hl=>⟨rfl,rfl,rfl,rfl,fun _ _=>rfl,cur,h,rfl,fun _ _=>rfl,by simp⟩
 | v::vs,off,w,cur,h,hl=>by
  simp only [List.length_cons] at hl
  have h1:=aR6 (off:=off) h v
  obtain ⟨h2,h3,h4,h5,h6,cur',h7,h8,h9,h10⟩:=aR7 vs (off+1) (w.setCell ⟨b,off,none⟩ v) _ h1 (by simp;omega)
  unfold World.setCells
  refine ⟨h2,h3,h4,h5.trans (by simp [World.setCell]),fun c hc=>(h6 c hc).trans (Below.heap_setCell _ _ _ _ hc),cur',h7,by simpa using h8,fun i hi=>?_,fun j u hu=>?_⟩
  ·rw [h9 i (by simp at hi;omega),Array.getElem?_setIfInBounds_ne (by simp at hi;omega)]
  ·cases j with
   | zero=>
    simp at hu
    subst hu
    rw [h9 _ (by omega)]
    simp [show off<cur.size from by omega]
   | succ j=>
    have:=h10 j u (by simpa using hu)
    rwa [show off+1+j=off+(j+1) from by omega] at this
theorem sY {n off:Nat}{t:TypeId}{cs cs' ds:List Av}(ho:o.op=.store T p q)(hp:ρ p=.own n off)(hq:ρ q=x)(hx:x=.agg ds)(hs:mX P T=some ds.length)(hlt:off+ds.length≤cs.length)(h0:0<ds.length)(hcs:nV cs off ds=cs'):OC P o ρ [(n,.live t cs)] .any [(n,.live t cs')]:=by
 subst hcs
 intro E a hG hr hH
 have h1:=hr p (by simp [ho,Op.operands])
 have h2:=hr q (by simp [ho,Op.operands])
 rw [hp] at h1
 rw [hq,hx] at h2
 obtain ⟨b,cur,h3,h4,h5,h6⟩:=pU h1 (hH n (.live t cs) (by simp)) (by omega)
 unfold aA at h2
 obtain ⟨vs,h7,h8,h9⟩:=h2
 have hlen:=h8.length
 have hcur:∀ i,i<cs.length→∃ u,cur[i]?=some u:=fun i hi=>by
  obtain ⟨u,h10,_⟩:=h6 i cs[i] (List.getElem?_eq_getElem hi)
  exact ⟨u,h10⟩
 have hsz:off+vs.length≤cur.size:=by
  obtain ⟨u,hu⟩:=hcur (off+ds.length-1) (by omega)
  have:=(Array.getElem?_eq_some_iff.1 hu).1
  omega
 have hth:E.w.there b off vs.toArray.size:=fun j hj=>by
  simp at hj
  obtain ⟨u,hu⟩:=hcur (off+j) (by omega)
  exact ⟨by rw [pG h5,hu];rfl,by simp [World.frozen?,h5]⟩
 have hrun:=run_storeAt_mid (P:=P) E.w b off T vs.toArray hth (by simpa [mX,hlen] using hs) (all_oneCell_toArray h9)
 unfold eK execOp
 simp only [ho,h3,h7,Sem.run_bind,hrun,Result.andThen_ok,Sem.run_pure,fM]
 obtain ⟨k1,k2,k3,k4,k5,cur',k6,k7,k8,k9⟩:=aR7 vs off E.w cur h5 hsz
 obtain ⟨hS,hG'⟩:=Step.set hG h4 h5 (w':=E.w.setCells b off vs) k1 k2 k3 k4 k5 k6 k7
 refine ⟨_,rfl,hS,hG',by unfold aA;trivial,fun m z hz=>?_⟩
 have hm:m=n∧z=.live t (nV cs off ds):=by
  simp only [aL] at hz
  cases hb:Nat.beq n m with
  | true=>rw [hb] at hz;simp at hz;exact ⟨(Nat.eq_of_beq_eq_true hb).symm,hz.symm⟩
  | false=>rw [hb] at hz;simp at hz
 obtain ⟨rfl,rfl⟩:=hm
 refine .inr ⟨b,cur',h4,k6,fun i z hz=>?_⟩
 unfold nV at hz
 rcases Nat.lt_or_ge i off with hi|hi
 ·rw [List.append_assoc,List.getElem?_append_left (by rw [List.length_take];omega),List.getElem?_take,if_pos hi] at hz
  obtain ⟨u,h10,h11,h12⟩:=h6 i z hz
  exact ⟨u,by rw [k8 i (.inl hi)];exact h10,h11,aA.step hS _ _ h12⟩
 ·rw [List.append_assoc,List.getElem?_append_right (by rw [List.length_take];omega),List.length_take,Nat.min_eq_left (by omega)] at hz
  rcases Nat.lt_or_ge i (off+ds.length) with hi'|hi'
  ·rw [List.getElem?_append_left (by omega)] at hz
   obtain ⟨u,h10,h11⟩:=h8.get _ z hz
   have:=k9 _ u h10
   rw [show off+(i-off)=i from by omega] at this
   exact ⟨u,this,h9 u (List.mem_of_getElem? h10),aA.step hS _ _ h11⟩
  ·rw [List.getElem?_append_right (by omega),List.getElem?_drop] at hz
   obtain ⟨u,h10,h11,h12⟩:=h6 i z (by rw [←hz];congr 1;omega)
   exact ⟨u,by rw [k8 i (.inr (by omega))];exact h10,h11,aA.step hS _ _ h12⟩
theorem aA6 {E:Env}(hG:Good E){n b:Nat}(hn:E.loc n=.unborn){w':World}(h:Below E.w.heap.size E.w w')(hb:E.w.heap.size≤b){cur:Array Value}{t:TypeId}(hc:w'.heap[b]?=some (.cells cur t (0,0))){cs:List Av}{v:Value}
 (hcs:∀ (i:Nat) (y:Av),cs[i]?=some y→∃ u:Value,cur[i]?=some u∧u.oneCell'=true∧aA E y u) (hx:aA (E.give w' n b) x v):mZ E x [(n,.live t cs)] v w':=by
 have hS:=Step.give hG h hn hb
 refine ⟨E.give w' n b,rfl,hS,hG.give h hb (Array.getElem?_eq_some_iff.1 hc).1,hx,fun m z hz=>?_⟩
 have hm:m=n∧z=.live t cs:=by
  simp only [aL] at hz
  cases hb:Nat.beq n m with
  | true=>rw [hb] at hz;simp at hz;exact ⟨(Nat.eq_of_beq_eq_true hb).symm,hz.symm⟩
  | false=>rw [hb] at hz;simp at hz
 obtain ⟨rfl,rfl⟩:=hm
 refine .inr ⟨b,cur,by simp [Env.give],hc,fun i y hy=>?_⟩
 obtain ⟨u,h1,h2,h3⟩:=hcs i y hy
 exact ⟨u,h1,h2,aA.step hS _ _ h3⟩
def rU:Value→Bool
 | .agg _=>false
 | .tuple _=>false
 | _=>true
theorem aA8 {v:Value}(h:rU v=true):v.oneCell'=true:=by cases v<;>first|rfl|(simp [rU] at h)
def nT (P:Program)(T:TypeId):Option (List Value):=((P.info? T).bind (·.zero)).map (·.cells.toList)
theorem aJG {zs:List Value}{cs:List Av}(n:Nat)(ho:o.op=.alloc T)(hz:nT P T=some zs)(ha:zs.all rU=true)(hcs:zs.map .val=cs):OC P o ρ [(n,.unborn)] (.own n 0) [(n,.live T cs)]:=by
 subst hcs
 intro E a hG hr hH
 have hn:E.loc n=.unborn:=hH n .unborn (by simp)
 cases hi:P.info? T with
 | none=>simp [nT,hi] at hz
 | some i=>
  cases hz0:i.zero with
  | none=>simp [nT,hi,hz0] at hz
  | some z=>
   simp [nT,hi,hz0] at hz
   unfold eK execOp
   have hrun:(Instr.alloc T true (.tuple #[])).run P E.w=.ok (.pointer (some ⟨E.w.heap.size,0,none⟩)) (E.w.alloc (.cells z.cells T)):=by
    simp [Instr.alloc,Sem.run_bind,zeroValue,typeInfo,hi,hz0,newVar,newRow]
   simp only [ho,Sem.run_bind,hrun,Result.andThen_ok,Sem.run_pure,fM]
   refine aA6 hG hn ((Below.refl _ _).alloc (Nat.le_refl _) _) (Nat.le_refl _) (heap_alloc_new _ _) (fun k y hy=>?_) ?_
   ·rw [List.getElem?_map] at hy
    cases hk:zs[k]? with
    | none=>simp [hk] at hy
    | some u=>
     simp [hk] at hy
     subst hy
     refine ⟨u,?_,aA8 ((List.all_eq_true.1 ha) u (List.mem_of_getElem? hk)),by unfold aA;rfl⟩
     rw [←hz] at hk
     simpa using hk
   ·unfold aA
    exact ⟨⟨by simp [Env.give],_,rfl⟩,fun b hb=>by simp [Env.give] at hb;subst hb;rfl⟩
theorem aQN {ds:List Av}(n:Nat)(ho:o.op=.box T p)(hp:ρ p=x)(hx:x=.agg ds):OC P o ρ [(n,.unborn)] (.own n 0) [(n,.live T ds)]:=by
 intro E a hG hr hH
 have hn:E.loc n=.unborn:=hH n .unborn (by simp)
 have h2:=hr p (by simp [ho,Op.operands])
 rw [hp,hx] at h2
 unfold aA at h2
 obtain ⟨vs,h3,h4,h5⟩:=h2
 unfold eK execOp
 have hrun:(Instr.box T (a.eval p)).run P E.w=.ok (.pointer (some ⟨E.w.heap.size,0,none⟩)) (E.w.alloc (.cells (a.eval p).cells T)):=by
  simp [Instr.box,newVar,newRow]
 simp only [ho,Sem.run_bind,hrun,Result.andThen_ok,Sem.run_pure,fM]
 refine aA6 hG hn ((Below.refl _ _).alloc (Nat.le_refl _) _) (Nat.le_refl _) (heap_alloc_new _ _) (fun k y hy=>?_) ?_
 ·obtain ⟨u,h6,h7⟩:=h4.get k y hy
  exact ⟨u,by rw [h3];simpa [Value.cells] using h6,h5 u (List.mem_of_getElem? h6),h7⟩
 ·unfold aA
  exact ⟨⟨by simp [Env.give],_,rfl⟩,fun b hb=>by simp [Env.give] at hb;subst hb;rfl⟩
theorem aR8 (e:TypeId)(cs:Array Value)(w:World):(newRow e cs).run P w=.ok ⟨w.heap.size,0,none⟩ (w.alloc (.cells cs e)):=by simp [newRow]
end
end Go.Proofs.YtnklgkjfoggpbaaGreatDoor
