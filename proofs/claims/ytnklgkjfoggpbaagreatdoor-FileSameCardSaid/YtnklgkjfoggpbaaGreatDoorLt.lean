/- Parts of the proof of a law of this seat: rules and contracts; no conditions. -/
import Derived.Test.YtnklgkjfoggpbaaGreatDoorOn
import Derived.Test.YtnklgkjfoggpbaaGreatDoorProg
import Derived.KernelRfl
set_option maxHeartbeats 6400000
set_option maxRecDepth 100000
set_option linter.unusedVariables false
set_option linter.unusedSimpArgs false
namespace Go.Proofs.YtnklgkjfoggpbaaGreatDoor
open Go.RowKit
def oU (rv:ResultVar)(tm:Array Value):Sem Value:=match rv with|.tmp t=>pure (tm.getD t undef)|.cell a t=>do loadVar t (←asAddr (tm.getD a undef))
def aT (P:Program)(Γ:Ctx)(rv:ResultVar)(x:Av):Prop:=∀ (E:Env) (a:Act),Good E→mK E a.tmps Γ→∃ v,(oU rv a.tmps).run P E.w=.ok v E.w∧aA E x v
section
variable {P:Program}{fn:Func}{Γ:Ctx}{x y z:Av}{r1 r2 r3:ResultVar}
theorem aT.tmp {t:Nat}(hx:bN Γ.s t=x):aT P Γ (.tmp t) x:=fun E a hG hH=>by
 subst hx
 exact ⟨_,by simp [oU],hH.1 t⟩
theorem aT.to (h:aT P Γ r1 x)(hxy:∀ E v,aA E x v→aA E y v):aT P Γ r1 y:=fun E a hG hH=>by
 obtain ⟨v,h1,h2⟩:=h E a hG hH
 exact ⟨v,h1,hxy E v h2⟩
theorem aT.row {t n:Nat}{T ty:TypeId}{cs:List Av}(hs:bN Γ.s t=.own n 0)(hn:aL Γ.h n=some (.live ty cs))(hT:jK P T=some true)(hz:mX P T=some cs.length)(h0:0<cs.length):aT P Γ (.cell t T) (.agg cs):=fun E a hG hH=>by
 have hv:=hH.1 t
 rw [hs] at hv
 obtain ⟨b,cur,h1,h2,h3,h4⟩:=pU hv (hH.2 n _ hn) h0
 obtain ⟨vs,h5,h6,h7⟩:=wI (E:=E) (cur:=cur) cs 0 fun i y hy=>by simpa using h4 i y hy
 refine ⟨.agg vs.toArray,?_,by unfold aA;exact ⟨vs,rfl,h5,h6⟩⟩
 obtain ⟨d,hd1,hd2⟩:=aD9 hT
 have hl:=run_loadVar_mid (P:=P) E.w b 0 T vs d (fun j u hu=>by rw [pG h3];exact h7 j u hu) hd1 hd2 (by rw [h5.length];exact hz)
 simp [oU,asAddr,Sem.run_bind,hl,h1]
theorem aT.one {t n:Nat}{T ty:TypeId}{cs:List Av}(hs:bN Γ.s t=.own n 0)(hn:aL Γ.h n=some (.live ty (x::cs)))(hT:jK P T=some false):aT P Γ (.cell t T) x:=fun E a hG hH=>by
 have hv:=hH.1 t
 rw [hs] at hv
 obtain ⟨b,cur,h1,h2,h3,h4⟩:=pU hv (hH.2 n _ hn) (by simp)
 obtain ⟨u,h5,h6,h7⟩:=h4 0 x rfl
 refine ⟨u,?_,h7⟩
 have hc:E.w.cell? ⟨b,0,none⟩=some u:=by rw [pG h3,h5]
 simp [oU,asAddr,Sem.run_bind,h1,loadVar,aEA hT,hc]
theorem aF.two (h:fn.results=#[r1,r2])(h1:aT P Γ r1 x)(h2:aT P Γ r2 y):aF P fn Γ (.tup [x,y]):=fun E a hG hH=>by
 obtain ⟨v1,k1,l1⟩:=h1 E a hG hH
 obtain ⟨v2,k2,l2⟩:=h2 E a hG hH
 refine ⟨.tuple #[v1,v2],?_,by unfold aA;refine ⟨[v1,v2],rfl,?_⟩;unfold aG aG aG;exact ⟨_,_,rfl,l1,_,_,rfl,l2,rfl⟩⟩
 have e:fn.results.mapM (fun rv=>oU rv a.tmps)=(do let x←oU r1 a.tmps;let y←oU r2 a.tmps;pure #[x,y]):=by rw [h];simp
 unfold results
 show (do let vs←fn.results.mapM (fun rv=>oU rv a.tmps);pure (if h:vs.size=1 then vs[0] else .tuple vs):Sem Value).run P E.w=_
 rw [e]
 simp [Sem.run_bind,k1,k2]
theorem aF.three (h:fn.results=#[r1,r2,r3])(h1:aT P Γ r1 x)(h2:aT P Γ r2 y)(h3:aT P Γ r3 z):aF P fn Γ (.tup [x,y,z]):=fun E a hG hH=>by
 obtain ⟨v1,k1,l1⟩:=h1 E a hG hH
 obtain ⟨v2,k2,l2⟩:=h2 E a hG hH
 obtain ⟨v3,k3,l3⟩:=h3 E a hG hH
 refine ⟨.tuple #[v1,v2,v3],?_,by unfold aA;refine ⟨[v1,v2,v3],rfl,?_⟩;unfold aG aG aG aG;exact ⟨_,_,rfl,l1,_,_,rfl,l2,_,_,rfl,l3,rfl⟩⟩
 have e:fn.results.mapM (fun rv=>oU rv a.tmps)=(do let x←oU r1 a.tmps;let y←oU r2 a.tmps;let z←oU r3 a.tmps;pure #[x,y,z]):=by rw [h];simp
 unfold results
 show (do let vs←fn.results.mapM (fun rv=>oU rv a.tmps);pure (if h:vs.size=1 then vs[0] else .tuple vs):Sem Value).run P E.w=_
 rw [e]
 simp [Sem.run_bind,k1,k2,k3]
end
section
variable {ro:Option Nat}{P:Program}{N:Nat}{D:List Nat}{c x y:Code}{Q R:Exit→Ctx→Prop}{Γ τ:Ctx}
theorem aJC (h:dW ro P N D c Q Γ)(hm:∀ e Γ,Q e Γ→R e Γ):dW ro P N D c R Γ:=fun E a hF=>wpIn_mono (h E a hF) fun e a' w' ⟨E',Γ',h1,h2,h3,h5,h4⟩=>⟨E',Γ',h1,h2,h3,h5,hm _ _ h4⟩
theorem rM (h1:dW ro P N D x (wJ (fun Γ'=>Le N D Γ' τ) Q) Γ)(h2:dW ro P N D y Q τ):dW ro P N D x (wJ (dW ro P N D y Q) Q) Γ:=aJC h1 fun e Γ' h=>by
 cases e
 case normal=>exact bS h h2
 all_goals exact h
end
theorem PC.to {P:Program}{f:Nat}{xs:List Av}{y z:Av}(h:PC P f xs y)(hyz:∀ E v,aA E y v→aA E z v):PC P f xs z:=fun E vs hG hA hR hB hU=>(h E vs hG hA hR hB hU).mono fun e w' ⟨E',v,h1,h2,h3,h4,h5,h6⟩=>⟨E',v,h1,h2,h3,h4,hyz E' v h5,h6⟩
theorem aQ5 {E:Env}:∀ {xs ys:List Av} {vs:List Value},(∀ (i:Nat) (x y:Av),xs[i]?=some x→ys[i]?=some y→∀ v,aA E x v→aA E y v)→xs.length=ys.length→aG E xs vs→aG E ys vs
 | [],[],vs,_,_,h=>by unfold aG at h ⊢;exact h
 | [],_::_,_,_,hl,_=>by simp at hl
 | _::_,[],_,_,hl,_=>by simp at hl
 | x::xs,y::ys,vs,hp,hl,h=>by
  unfold aG at h ⊢
  obtain ⟨v,us,h1,h2,h3⟩:=h
  exact ⟨v,us,h1,hp 0 x y rfl rfl v h2,aQ5 (fun i a b ha hb=>hp (i+1) a b (by simpa using ha) (by simpa using hb)) (by simpa using hl) h3⟩
theorem aAG {xs ys:List Av}{E:Env}{v:Value}(h:aA E (.agg xs) v)(hl:xs.length=ys.length)(hp:∀ (E:Env) (i:Nat) (x y:Av),xs[i]?=some x→ys[i]?=some y→∀ v,aA E x v→aA E y v):aA E (.agg ys) v:=by
 unfold aA at h ⊢
 obtain ⟨vs,h1,h2,h3⟩:=h
 exact ⟨vs,h1,aQ5 (hp E) hl h2,h3⟩
theorem pI {k n:Nat}{r r':Nat→Av}(hp:∀ E j,j<n→∀ v,aA E (r j) v→aA E (r' j) v)(E:Env)(v:Value)(h:aA E (.sl k n r) v):aA E (.sl k n r') v:=by
 unfold aA at h ⊢
 obtain ⟨A,c,h1,h2,h3,h4⟩:=h
 refine ⟨A,c,h1,h2,h3,fun h0=>?_⟩
 obtain ⟨b,o,h5,h6,h7⟩:=h4 h0
 refine ⟨b,o,h5,h6,fun j hj=>?_⟩
 obtain ⟨u,h8,h9⟩:=h7 j hj
 exact ⟨u,hp E j hj u h8,h9⟩
theorem qI {k:Nat}{row:Nat→Av}(E:Env)(v:Value)(h:aA E (.val (.slice none 0 0)) v):aA E (.sl k 0 row) v:=uA (by decide) E v h
theorem vO {l:List Int}{i:Nat}(h:i<l.length):(l.map vi)[i]?=some (vi (l.getD i 0)):=by simp [h]
theorem zQ (l:List Int)(i:Nat)(x:Int):(l.map vi).set i (vi x)=(l.set i x).map vi:=by rw [List.map_set]
theorem zN (l:List Int):∀ j,j<l.length→(l.map vi)[j]?=some ((fun j=>vi (l.getD j 0)) j)∧sJ ((fun j=>vi (l.getD j 0)) j)=true:=fun j hj=>⟨vO hj,rfl⟩
theorem ad3 (l:List Int):∀ j,j<l.length→eQ ((fun j=>vi (l.getD j 0)) j) 1=true∧∀ i y,i<1→(l.map vi)[j*1+i]?=some y→(cL ((fun j=>vi (l.getD j 0)) j))[i]?=some y:=aCM (fun j y hy=>by
 rw [List.getElem?_map] at hy
 cases h:l[j]? with
 | none=>rw [h] at hy;cases hy
 | some z=>rw [h] at hy;simp at hy;subst hy;simp [List.getD,h]) (fun j hj=>⟨rfl,rfl⟩)
theorem PC.arg {P:Program}{f:Nat}{x y z:Av}(h:PC P f [x] z)(hxy:∀ E v,aA E y v→aA E x v):PC P f [y] z:=fun E vs hG hA hR hB hU=>h E vs hG (by
 unfold aG at hA ⊢
 obtain ⟨v,us,h1,h2,h3⟩:=hA
 exact ⟨v,us,h1,hxy E v h2,h3⟩) hR hB hU
end Go.Proofs.YtnklgkjfoggpbaaGreatDoor
namespace Go.Proofs.YtnklgkjfoggpbaaGreatDoor
theorem mixed:Tryz.prog.follows .mixedOrders=true:=by kernel_rfl
open Go.RowKit
class Pu (x:Av):Prop where
 out:aN x
class PuL (xs:List Av):Prop where
 out:bE xs
instance:Pu .any:=⟨by unfold aN;trivial⟩
instance (v:Value):Pu (.val v):=⟨by unfold aN;trivial⟩
instance:PuL []:=⟨by unfold bE;trivial⟩
instance (x:Av) (xs:List Av) [a:Pu x] [b:PuL xs]:PuL (x::xs):=⟨by unfold bE;exact ⟨a.out,b.out⟩⟩
instance (cs:List Av) [a:PuL cs]:Pu (.agg cs):=⟨by unfold aN;exact a.out⟩
instance (cs:List Av) [a:PuL cs]:Pu (.tup cs):=⟨by unfold aN;exact a.out⟩
instance (f:Nat) (cs:List Av) [a:PuL cs]:Pu (.clo f cs):=⟨by unfold aN;exact a.out⟩
instance (f:Nat) (cs:List Av) [a:PuL cs]:Pu (.bm f cs):=⟨by unfold aN;exact a.out⟩
instance (x:Av) [a:Pu x]:Pu (.ptr x):=⟨by unfold aN;exact a.out⟩
instance (x:Av) [a:Pu x]:Pu (.nz x):=⟨by unfold aN;exact a.out⟩
instance (k n:Nat) (r:Nat→Av) [a:∀ j,Pu (r j)]:Pu (.sl k n r):=⟨by unfold aN;exact fun j=>(a j).out⟩
instance (P:Program) (k e:TypeId) (D:DataW Unit):Pu (.fm P k e D):=⟨by unfold aN;trivial⟩
instance (xs:List Int) (j:Nat):Pu (bv xs j):=⟨by unfold bv aN;trivial⟩
instance (xs:List Int):Pu (bs xs):=⟨oP xs⟩
section
variable {P:Program}{bb:Bool}{ops:Array Oper}{o:Oper}{l:List Oper}{s:List (Nat × Av)}{h:List (Nat × Hs)}{K:Ctx→List (List Nat × List Nat)→Prop}{d:Nat}{x y:Av}{R U:List (Nat × Hs)}{p q r:Operand}{ρ:Operand→Av}{T T' S:TypeId}
theorem Z1 (hop:OC P o (dA s) R x [])(h':Ck bb P ops l ⟨(d,x)::s,h⟩ fun Γ' F=>K Γ' ((R.map (·.1),[])::F))(hg:o.guard=none:=by rfl)(hd:o.dst=some d:=by rfl)(hR:jU h R:=by first|trivial|exact ⟨rfl,trivial⟩):Ck bb P ops (o::l) ⟨s,h⟩ K:=eL hg hd hop hR h'
theorem Z2 (hop:OC P o (dA s) R x U)(h':Ck bb P ops l ⟨(d,x)::s,U++h⟩ fun Γ' F=>K Γ' ((R.map (·.1),U.map (·.1))::F))(hg:o.guard=none:=by rfl)(hd:o.dst=some d:=by rfl)(hR:jU h R:=by first|exact ⟨rfl,trivial⟩|exact ⟨rfl,rfl,trivial⟩|trivial):Ck bb P ops (o::l) ⟨s,h⟩ K:=aZ hg hd hop hR h'
theorem Z4 {g t:Nat}{pol C:Bool}(hop:C=true→OC P o (fun p=>xZ (dA s p)) R x [])(h':Ck bb P ops l ⟨(d,.gd C x)::s,h⟩ fun Γ' F=>K Γ' ((R.map (·.1),[])::F))(hg:o.guard=some (g,pol):=by rfl)(hs:(ops[g]?).bind (·.dst)=some t:=by rfl)(hd:o.dst=some d:=by rfl)
 (hG:oV (bN s t) pol C:=by first|exact cA|exact eV|exact lO|exact aAS) (hc:C=true→aEB s o.op.operands.toList:=by (intro hC;first|exact trivial|(repeat' (first|exact trivial|refine ⟨?_,?_⟩));all_goals (first|rfl|exact hC|(simp only [Bool.and_eq_true] at hC;first|exact hC.1|exact hC.1.1|exact hC.2)|simp_all))) (hR:jU h R:=by first|trivial|exact ⟨rfl,trivial⟩):Ck bb P ops (o::l) ⟨s,h⟩ K:=aW hg hs hd hG hop hc hR h'
theorem mo (ho:o.op=.move p:=by rfl)(hx:ρ p=x:=by first|exact (rfl:_=Av.val _)|exact (rfl:_=Av.sl _ _ _)|exact (rfl:_=Av.ptr _)|exact (rfl:_=Av.own _ _)|exact (rfl:_=Av.osl _ _ _)|exact (rfl:_=Av.agg _)|exact (rfl:_=Av.tup _)|exact (rfl:_=Av.clo _ _)|exact (rfl:_=Av.mp _)|exact (rfl:_=Av.fm _ _ _ _)|rfl):OC P o ρ [] x []:=oM ho hx
theorem aB (ho:o.op=.assign p:=by rfl)(hx:ρ p=x:=by first|exact (rfl:_=Av.val _)|exact (rfl:_=Av.sl _ _ _)|exact (rfl:_=Av.ptr _)|exact (rfl:_=Av.own _ _)|exact (rfl:_=Av.osl _ _ _)|exact (rfl:_=Av.agg _)|exact (rfl:_=Av.tup _)|exact (rfl:_=Av.clo _ _)|exact (rfl:_=Av.mp _)|exact (rfl:_=Av.fm _ _ _ _)|rfl):OC P o ρ [] x []:=ad4 ho hx
theorem bz {op:BinOp}{k:IntKind}{m n:Int}{z:Value}(ho:o.op=.binOp op T p q T':=by rfl)(hp:ρ p=.val (.int k m):=by rfl)(hq:ρ q=.val (.int k n):=by rfl)(hz:nR op k m n=some z:=by rfl):OC P o ρ [] (.val z) []:=xI ho hp hq hz
theorem ba {m n:Int}{z:Value}(ho:o.op=.binOp .add T p q T':=by rfl)(hp:ρ p=.val (.int .i64 m):=by rfl)(hq:ρ q=.val (.int .i64 n):=by rfl)(hz:nR .add .i64 m n=some z:=by first|exact aNJ (by omega) (by omega)|rfl):OC P o ρ [] (.val z) []:=xI ho hp hq hz
theorem iP {m n:Int}{z:Value}(ho:o.op=.binOp .sub T p q T':=by rfl)(hp:ρ p=.val (.int .i64 m):=by rfl)(hq:ρ q=.val (.int .i64 n):=by rfl)(hz:nR .sub .i64 m n=some z:=by first|exact ad5 (by omega) (by omega)|rfl):OC P o ρ [] (.val z) []:=xI ho hp hq hz
theorem bml {m n:Int}{z:Value}(ho:o.op=.binOp .mul T p q T':=by rfl)(hp:ρ p=.val (.int .i64 m):=by rfl)(hq:ρ q=.val (.int .i64 n):=by rfl)(hz:nR .mul .i64 m n=some z:=by first|exact ad6 (by omega) (by omega)|rfl):OC P o ρ [] (.val z) []:=xI ho hp hq hz
theorem fa (off:Nat){i:Nat}{cs:List Av}(ho:o.op=.fieldAddr T p i:=by rfl)(hp:ρ p=.ptr x:=by rfl)(hx:x=.agg cs:=by rfl)(hf:rR P T i=some (off,1,false):=by kernel_rfl)(hy:cs[off]?=some y:=by rfl):OC P o ρ [] (.ptr y) []:=aQ6 ho hp hx hf hy
theorem qK (off sz:Nat){i:Nat}{cs:List Av}(ho:o.op=.fieldAddr T p i:=by rfl)(hp:ρ p=.ptr x:=by rfl)(hx:x=.agg cs:=by rfl)(hf:rR P T i=some (off,sz,true):=by kernel_rfl)(hz:sz≠0:=by decide):OC P o ρ [] (.ptr (.agg ((cs.drop off).take sz))) []:=ad7 ho hp hx hf hz
theorem fo (off sz:Nat)(r:Bool){n k i:Nat}{t:TypeId}{cs:List Av}(ho:o.op=.fieldAddr T p i:=by rfl)(hp:ρ p=.own n k:=by rfl)(hk:k<cs.length:=by first|decide|simp)(hf:rR P T i=some (off,sz,r):=by kernel_rfl)(hz:sz≠0:=by decide):OC P o ρ [(n,.live t cs)] (.own n (k+off)) []:=eU ho hp hk hf hz
theorem ld (ho:o.op=.load T p:=by rfl)(hp:ρ p=.ptr x:=by rfl)(hT:jK P T=some false:=by kernel_rfl)(hx:∀ E v,aA E x v→v.oneCell'=true:=by first|exact oH|exact aAT|exact aJD|exact aJE|exact aEC|exact aAU|exact aQ7):OC P o ρ [] x []:=pV ho hp hT hx
theorem lr {cs:List Av}(ho:o.op=.load T p:=by rfl)(hp:ρ p=.ptr x:=by rfl)(hT:jK P T=some true:=by kernel_rfl)(hs:mX P T=some cs.length:=by kernel_rfl)(hx:x=.agg cs:=by rfl):OC P o ρ [] (.agg cs) []:=(ad8 ho hp hT hs hx).cast hx
theorem lo {n off:Nat}{t:TypeId}{cs:List Av}(ho:o.op=.load T p:=by rfl)(hp:ρ p=.own n off:=by rfl)(hT:jK P T=some false:=by kernel_rfl)(hy:cs[off]?=some y:=by rfl):OC P o ρ [(n,.live t cs)] y []:=fL ho hp hT hy
theorem ca {f:Nat}{args:List Operand}{tys:Array TypeId}{xs:List Av}(hc:PC P f xs x)(ho:o.op=.call { callee:=.value (.func f),args:=args.toArray,argTypes:=tys }:=by rfl)(hf:dN P f=true:=by kernel_rfl)(hxs:args.map ρ=xs:=by rfl)(a:PuL xs:=by infer_instance)(b:Pu x:=by infer_instance):OC P o ρ [] x []:=jP ho hf hc hxs a.out b.out
theorem cq {f:Nat}{args:List Operand}{tys:Array TypeId}{xs:List Av}(hc:PC P f xs x)(ho:o.op=.call { callee:=.value (.func f),args:=args.toArray,argTypes:=tys })(hxs:args.map ρ=xs)(hf:dN P f=true:=by kernel_rfl)(a:PuL xs:=by infer_instance)(b:Pu x:=by infer_instance):OC P o ρ [] x []:=jP ho hf hc hxs a.out b.out
theorem ex {cs:List Av}{i:Nat}(ho:o.op=.extract p i:=by rfl)(hp:ρ p=.tup cs:=by rfl)(hy:cs[i]?=some y:=by rfl):OC P o ρ [] y []:=ad9 ho hp hy
theorem ln {k n:Nat}{row:Nat→Av}(ho:o.op=.call { callee:=.builtin .len,args:=#[p],argTypes:=#[T] }:=by rfl)(hp:ρ p=.sl k n row:=by rfl)(hT:tS P T=true:=by kernel_rfl):OC P o ρ [] (.val (.int .i64 n)) []:=aeA ho hp hT
theorem sT {k n m:Nat}{t:TypeId}{cs:List Av}(ho:o.op=.call { callee:=.builtin .len,args:=#[p],argTypes:=#[T] }:=by rfl)(hp:ρ p=.osl k m n:=by rfl)(hT:tS P T=true:=by kernel_rfl):OC P o ρ [(m,.live t cs)] (.val (.int .i64 n)) []:=aeB ho hp hT
theorem oG {s:ByteArray}(ho:o.op=.call { callee:=.builtin .len,args:=#[p],argTypes:=#[T] }:=by rfl)(hp:ρ p=.val (.string s):=by rfl)(hT:oD P T=true:=by kernel_rfl):OC P o ρ [] (.val (.int .i64 s.size)) []:=aeC ho hp hT
theorem an {c p:Operand}{A C B:Bool}(hi:A=true→C=true:=by first|exact fun h=>h|simp_all)(ho:o.op=.pick c p (.const (.bool false)):=by rfl)(hq:ρ (.const (.bool false))=.val (.bool false):=by rfl)(hc:ρ c=.val (.bool A):=by rfl)(hp:ρ p=.gd C (.val (.bool B)):=by rfl):OC P o ρ [] (.val (.bool (A&&B))) []:=aeD ho hq hc hp hi
theorem cC {c p:Operand}{A C B:Bool}(hi:(!A)=true→C=true:=by first|exact fun h=>h|simp_all)(ho:o.op=.pick c (.const (.bool true)) p:=by rfl)(hc:ρ c=.val (.bool A):=by rfl)(hp:ρ p=.gd C (.val (.bool B)):=by rfl):OC P o ρ [] (.val (.bool (A||B))) []:=aeE ho hc hp hi
theorem nt {B:Bool}(ho:o.op=.unOp .not T p:=by rfl)(hp:ρ p=.val (.bool B):=by rfl):OC P o ρ [] (.val (.bool (!B))) []:=aJF ho hp
theorem bx {cs:List Av}(ho:o.op=.box T p:=by rfl)(hp:ρ p=.agg cs:=by rfl):OC P o ρ [] (.ptr (.agg cs)) []:=aCA ho hp
theorem ix {k n j:Nat}{row:Nat→Av}{kk:IntKind}(ho:o.op=.indexAddr T p q:=by rfl)(hp:ρ p=.sl k n row:=by rfl)(hq:ρ q=.val (.int kk ((j:Nat):Int)):=by rfl)(hT:sZ P T=some k:=by kernel_rfl)(h1:j<n:=by omega):OC P o ρ [] (.ptr (row j)) []:=rJ ho hp hq hT h1
theorem sK {n len j:Nat}{t:TypeId}{cs:List Av}{kk:IntKind}(ho:o.op=.indexAddr T p q:=by rfl)(hp:ρ p=.osl 1 n len:=by rfl)(hq:ρ q=.val (.int kk ((j:Nat):Int)):=by rfl)(hT:sZ P T=some 1:=by kernel_rfl)(h1:j<len:=by omega):OC P o ρ [(n,.live t cs)] (.own n j) []:=aCD ho hp hq hT h1
theorem nc {z:Av}(ho:o.op=.nilCheck p:=by rfl)(hp:ρ p=.ptr z:=by rfl):OC P o ρ [] (.ptr z) []:=aeF ho hp
theorem al (n:Nat)(zs:List Value)(ho:o.op=.alloc T:=by rfl)(hz:nT P T=some zs:=by kernel_rfl)(ha:zs.all rU=true:=by rfl):OC P o ρ [(n,.unborn)] (.own n 0) [(n,.live T (zs.map .val))]:=aJG n ho hz ha rfl
theorem ia (h:OC P o ρ [] (.ptr y) []:=by first|exact rJ rfl rfl rfl (by kernel_rfl) (by omega)|exact mM rfl rfl rfl (by kernel_rfl) (by omega) (by omega) rfl):OC P o ρ [] (.ptr y) []:=h
theorem so (cs':List Av){n off:Nat}{t:TypeId}{cs:List Av}(ho:o.op=.store T p q:=by rfl)(hp:ρ p=.own n off:=by rfl)(hq:ρ q=y:=by first|exact (rfl:_=Av.val _)|exact (rfl:_=Av.osl _ _ _)|exact (rfl:_=Av.sl _ _ _)|exact (rfl:_=Av.own _ _)|exact (rfl:_=Av.ptr _)|exact (rfl:_=Av.clo _ _)|rfl)(hT:jK P T=some false:=by kernel_rfl)(hs:mX P T=some 1:=by kernel_rfl)
 (hy:∀ E v,aA E y v→v.oneCell'=true:=by first|exact oH|exact aAT|exact aED|exact nU|exact aJE|exact aJD|exact aEC|exact aAU|exact fun E v h=>by unfold aA at h;subst h;rfl) (hlt:off<cs.length:=by first|decide|(simp;done)|(simp;omega)) (hcs:cs.set off y=cs':=by rfl):OC P o ρ [(n,.live t cs)] .any [(n,.live t cs')]:=lG ho hp hq hT hs hy hlt hcs
theorem bd (pl:List (Nat × Nat))(zs:List Value)(ds:List Av){parts:List (Nat × Operand)}(ho:o.op=.build T parts.toArray:=by rfl)(hz:nT P T=some zs:=by kernel_rfl)(ha:zs.all rU=true:=by rfl)(hpl:aJH P T=some pl:=by kernel_rfl)(hp:yA (pl[·]?) zs.length (parts.map fun ip=>(ip.1,ρ ip.2))=true:=by first|rfl|decide)(hds:yB (pl[·]?) (zs.map .val) (parts.map fun ip=>(ip.1,ρ ip.2))=ds:=by rfl):OC P o ρ [] (.agg ds) []:=aeG ho hz ha hpl hp hds
theorem Z5 {g t:Nat}{pol C A B C':Bool}{c:Operand}(h':Ck bb P ops l ⟨(d,.gd C (.val (.bool (A&&B))))::s,h⟩ fun Γ' F=>K Γ' (([],[])::F))(ho:o.op=.pick c p (.const (.bool false)):=by rfl)(hg:o.guard=some (g,pol):=by rfl)(hs:(ops[g]?).bind (·.dst)=some t:=by rfl)(hd:o.dst=some d:=by rfl)(hG:oV (bN s t) pol C:=by first|exact cA|exact eV|exact lO|exact aAS)
 (hcc:C=true→yC (dA s c)=true:=by (intro hC;first|rfl|exact hC|(simp only [Bool.and_eq_true] at hC;first|exact hC.1|exact hC.1.1|exact hC.2)|simp_all)) (hA:xZ (dA s c)=.val (.bool A):=by rfl) (hy:dA s p=.gd C' (.val (.bool B)):=by rfl) (hi:C=true→A=true→C'=true:=by (intro hC;first|exact fun h=>tt2 hC h|exact fun h=>h|simp_all)):Ck bb P ops (o::l) ⟨s,h⟩ K:=
 aQ9 ho hg hs hd hG hcc hA (fun hC E a hp hq=>aeH hy (hi hC) hp) h'
theorem Z6 {g t:Nat}{pol C A B C':Bool}{c:Operand}(h':Ck bb P ops l ⟨(d,.gd C (.val (.bool (A||B))))::s,h⟩ fun Γ' F=>K Γ' (([],[])::F))(ho:o.op=.pick c (.const (.bool true)) p:=by rfl)(hg:o.guard=some (g,pol):=by rfl)(hs:(ops[g]?).bind (·.dst)=some t:=by rfl)(hd:o.dst=some d:=by rfl)(hG:oV (bN s t) pol C:=by first|exact cA|exact eV|exact lO|exact aAS)
 (hcc:C=true→yC (dA s c)=true:=by (intro hC;first|rfl|exact hC|(simp only [Bool.and_eq_true] at hC;first|exact hC.1|exact hC.1.1|exact hC.2)|simp_all)) (hA:xZ (dA s c)=.val (.bool A):=by rfl) (hy:dA s p=.gd C' (.val (.bool B)):=by rfl) (hi:C=true→(!A)=true→C'=true:=by (intro hC;first|exact fun h=>tt2 hC h|exact fun h=>h|simp_all)):Ck bb P ops (o::l) ⟨s,h⟩ K:=
 aQ9 ho hg hs hd hG hcc hA (fun hC E a hp hq=>aeI hy (hi hC) hq) h'
theorem cF (cs':List Av){n off:Nat}{t:TypeId}{cs:List Av}(h':Ck bb P ops l ⟨s,[(n,Hs.live t cs')]++h⟩ fun Γ' F=>K Γ' ((([(n,Hs.live t cs)]:List (Nat × Hs)).map (·.1),([(n,Hs.live t cs')]:List (Nat × Hs)).map (·.1))::F))(ho:o.op=.store T p q:=by rfl)(hg:o.guard=none:=by rfl)(hd:o.dst=none:=by rfl)(hp:dA s p=.own n off:=by rfl)(hR:jU h [(n,Hs.live t cs)]:=by exact ⟨rfl,trivial⟩)(hq:dA s q=y:=by first|exact (rfl:_=Av.val _)|exact (rfl:_=Av.osl _ _ _)|exact (rfl:_=Av.sl _ _ _)|exact (rfl:_=Av.own _ _)|exact (rfl:_=Av.ptr _)|exact (rfl:_=Av.clo _ _)|rfl)(hT:jK P T=some false:=by kernel_rfl)(hs:mX P T=some 1:=by kernel_rfl)
 (hy:∀ E v,aA E y v→v.oneCell'=true:=by first|exact oH|exact aAT|exact aED|exact nU|exact aJE|exact aJD|exact aEC|exact aAU|exact fun E v h=>by unfold aA at h;subst h;rfl) (hlt:off<cs.length:=by first|decide|(simp;done)|(simp;omega)) (hcs:cs.set off y=cs':=by rfl):Ck bb P ops (o::l) ⟨s,h⟩ K:=fP hg hd (lG ho hp hq hT hs hy hlt hcs) hR h'
theorem bW (cs':List Av){n off:Nat}{t:TypeId}{cs ds:List Av}(h':Ck bb P ops l ⟨s,[(n,Hs.live t cs')]++h⟩ fun Γ' F=>K Γ' ((([(n,Hs.live t cs)]:List (Nat × Hs)).map (·.1),([(n,Hs.live t cs')]:List (Nat × Hs)).map (·.1))::F))(ho:o.op=.store T p q:=by rfl)(hg:o.guard=none:=by rfl)(hd:o.dst=none:=by rfl)(hp:dA s p=.own n off:=by rfl)(hR:jU h [(n,Hs.live t cs)]:=by exact ⟨rfl,trivial⟩)(hq:dA s q=.agg ds:=by rfl)(hs:mX P T=some ds.length:=by kernel_rfl)(hlt:off+ds.length≤cs.length:=by first|decide|exact Nat.le_of_ble_eq_true rfl|simp)(h0:0<ds.length:=by first|decide|exact Nat.le_of_ble_eq_true rfl|simp)(hcs:nV cs off ds=cs':=by rfl):Ck bb P ops (o::l) ⟨s,h⟩ K:=fP hg hd (sY ho hp hq rfl hs hlt h0 hcs) hR h'
theorem bG {n off:Nat}{t:TypeId}{cs:List Av}(h':Ck bb P ops l ⟨(d,y)::s,h⟩ fun Γ' F=>K Γ' ((([(n,Hs.live t cs)]:List (Nat × Hs)).map (·.1),[])::F))(ho:o.op=.load T p:=by rfl)(hg:o.guard=none:=by rfl)(hd:o.dst=some d:=by rfl)(hp:dA s p=.own n off:=by rfl)(hR:jU h [(n,Hs.live t cs)]:=by exact ⟨rfl,trivial⟩)(hT:jK P T=some false:=by kernel_rfl)(hy:cs[off]?=some y:=by rfl):Ck bb P ops (o::l) ⟨s,h⟩ K:=eL hg hd (fL ho hp hT hy) hR h'
theorem dE (k:Nat)(ds:List Av){n off:Nat}{t:TypeId}{cs:List Av}(h':Ck bb P ops l ⟨(d,.agg ds)::s,h⟩ fun Γ' F=>K Γ' ((([(n,Hs.live t cs)]:List (Nat × Hs)).map (·.1),[])::F))(ho:o.op=.load T p:=by rfl)(hg:o.guard=none:=by rfl)(hd:o.dst=some d:=by rfl)(hp:dA s p=.own n off:=by rfl)(hR:jU h [(n,Hs.live t cs)]:=by exact ⟨rfl,trivial⟩)(hT:jK P T=some true:=by kernel_rfl)(hs:mX P T=some k:=by kernel_rfl)(hds:(cs.drop off).take k=ds:=by rfl)(hk:ds.length=k:=by rfl)(h0:0<k:=by decide):Ck bb P ops (o::l) ⟨s,h⟩ K:=eL hg hd (mA ho hp hT hs hds hk h0) hR h'
theorem aS (off sz:Nat)(r:Bool){n k i:Nat}{t:TypeId}{cs:List Av}(h':Ck bb P ops l ⟨(d,.own n (k+off))::s,h⟩ fun Γ' F=>K Γ' ((([(n,Hs.live t cs)]:List (Nat × Hs)).map (·.1),[])::F))(ho:o.op=.fieldAddr T p i:=by rfl)(hg:o.guard=none:=by rfl)(hd:o.dst=some d:=by rfl)(hp:dA s p=.own n k:=by rfl)(hR:jU h [(n,Hs.live t cs)]:=by exact ⟨rfl,trivial⟩)(hk:k<cs.length:=by first|decide|simp)(hf:rR P T i=some (off,sz,r):=by kernel_rfl)(hz:sz≠0:=by decide):Ck bb P ops (o::l) ⟨s,h⟩ K:=eL hg hd (eU ho hp hk hf hz) hR h'
theorem dO {n k:Nat}{t:TypeId}{cs:List Av}(h':Ck bb P ops l ⟨(d,.own n k)::s,h⟩ fun Γ' F=>K Γ' ((([(n,Hs.live t cs)]:List (Nat × Hs)).map (·.1),[])::F))(ho:o.op=.nilCheck p:=by rfl)(hg:o.guard=none:=by rfl)(hd:o.dst=some d:=by rfl)(hp:dA s p=.own n k:=by rfl)(hR:jU h [(n,Hs.live t cs)]:=by exact ⟨rfl,trivial⟩)(hk:k<cs.length:=by first|decide|simp):Ck bb P ops (o::l) ⟨s,h⟩ K:=eL hg hd (qP ho hp hk) hR h'
end
section
variable {P:Program}{N:Nat}{D:List Nat}{Q:Exit→Ctx→Prop}{Γ:Ctx}{ro:Option Nat}{l:List Oper}{id:Nat}{y c:Code}{ops:Array Oper}{bb:Bool}{K:Ctx→List (List Nat × List Nat)→Prop}
theorem sq (h:Ck true P l.toArray l Γ fun Γ' _=>dW ro P N D y Q Γ')(hd:oA N l=true:=by rfl):dW ro P N D (.seq (.region id l.toArray false) y) Q Γ:=aD (aRA hd h)
theorem tx (h:Ck true P l.toArray l Γ fun Γ' _=>Q .normal Γ')(hd:oA N l=true:=by rfl):dW ro P N D (.region id l.toArray false) Q Γ:=aRA hd h
theorem cn (h:K Γ []):Ck bb P ops [] Γ K:=aeJ h
theorem dw {l:List Oper}(h:Ck true Tryz.prog l.toArray l Γ fun Γ' F=>aAV N l F=true∧Q .normal Γ'):dW ro Tryz.prog N D (.region id l.toArray true) Q Γ:=aeK mixed h
theorem dn {l:List Oper}{F:List (List Nat × List Nat)}{A:Prop}(h:A)(hc:aAV N l F=true:=by kernel_rfl):aAV N l F=true∧A:=⟨hc,h⟩
theorem cd {p:Operand}{x:Code}{b:Bool}(h1:b=true→dW ro P N D x Q Γ)(h2:b=false→dW ro P N D y Q Γ)(hp:dA Γ.s p=.val (.bool b):=by rfl):dW ro P N D (.cond p x y) Q Γ:=aeL hp h1 h2
end
mutual
theorem yD {Z:List Nat}{a b:Nat}(ha:a∈Z)(hb:b∈Z):∀ x:Av,aE Z x→x.ren (fI a b)=x
 | .any,_=>by unfold Av.ren;rfl
 | .val v,_=>by unfold Av.ren;rfl
 | .sl k n row,h=>by unfold aE at h;unfold Av.ren;congr 1;funext j;exact yD ha hb (row j) (h j)
 | .ptr x,h=>by unfold aE at h;unfold Av.ren;rw [yD ha hb x h]
 | .agg cs,h=>by unfold aE at h;unfold Av.ren;rw [aAW ha hb cs h]
 | .tup cs,h=>by unfold aE at h;unfold Av.ren;rw [aAW ha hb cs h]
 | .clo _ cs,h=>by unfold aE at h;unfold Av.ren;rw [aAW ha hb cs h]
 | .bm _ cs,h=>by unfold aE at h;unfold Av.ren;rw [aAW ha hb cs h]
 | .own n off,h=>by unfold aE at h;unfold Av.ren;rw [tA (a:=a) (b:=b) (fun e=>h (by rw [e];exact ha)) (fun e=>h (by rw [e];exact hb))]
 | .osl k n len,h=>by unfold aE at h;unfold Av.ren;rw [tA (a:=a) (b:=b) (fun e=>h (by rw [e];exact ha)) (fun e=>h (by rw [e];exact hb))]
 | .oss n off len,h=>by unfold aE at h;unfold Av.ren;rw [tA (a:=a) (b:=b) (fun e=>h (by rw [e];exact ha)) (fun e=>h (by rw [e];exact hb))]
 | .mp n,h=>by unfold aE at h;unfold Av.ren;rw [tA (a:=a) (b:=b) (fun e=>h (by rw [e];exact ha)) (fun e=>h (by rw [e];exact hb))]
 | .fm P k e D,_=>by unfold Av.ren;rfl
 | .frz q T xs,_=>by unfold Av.ren;rfl
 | .gd c x,h=>by unfold aE at h;unfold Av.ren;rw [yD ha hb x h]
 | .nz x,h=>by unfold aE at h;unfold Av.ren;rw [yD ha hb x h]
theorem aAW {Z:List Nat}{a b:Nat}(ha:a∈Z)(hb:b∈Z):∀ xs:List Av,dL Z xs→mY (fI a b) xs=xs
 | [],_=>by unfold mY;rfl
 | x::xs,h=>by unfold dL at h;unfold mY;rw [yD ha hb x h.1,aAW ha hb xs h.2]
end
mutual
theorem yE {a:Nat}{Z:List Nat}:∀ x:Av,aE (a::Z) x→aE Z x
 | .any,_=>by unfold aE;trivial
 | .val v,_=>by unfold aE;trivial
 | .sl k n row,h=>by unfold aE at h ⊢;exact fun j=>yE (row j) (h j)
 | .ptr x,h=>by unfold aE at h ⊢;exact yE x h
 | .agg cs,h=>by unfold aE at h ⊢;exact aAX cs h
 | .tup cs,h=>by unfold aE at h ⊢;exact aAX cs h
 | .clo _ cs,h=>by unfold aE at h ⊢;exact aAX cs h
 | .bm _ cs,h=>by unfold aE at h ⊢;exact aAX cs h
 | .own n off,h=>by unfold aE at h ⊢;exact fun hn=>h (List.mem_cons_of_mem _ hn)
 | .osl k n len,h=>by unfold aE at h ⊢;exact fun hn=>h (List.mem_cons_of_mem _ hn)
 | .oss n off len,h=>by unfold aE at h ⊢;exact fun hn=>h (List.mem_cons_of_mem _ hn)
 | .mp n,h=>by unfold aE at h ⊢;exact fun hn=>h (List.mem_cons_of_mem _ hn)
 | .fm P k e D,_=>by unfold aE;trivial
 | .frz q T xs,_=>by unfold aE;trivial
 | .gd c x,h=>by unfold aE at h ⊢;exact yE x h
 | .nz x,h=>by unfold aE at h ⊢;exact yE x h
theorem aAX {a:Nat}{Z:List Nat}:∀ xs:List Av,dL (a::Z) xs→dL Z xs
 | [],_=>by unfold dL;trivial
 | x::xs,h=>by unfold dL at h ⊢;exact ⟨yE x h.1,aAX xs h.2⟩
end
def rV (a b:Nat)(Z:List Nat)(x' x:Av):Prop:=(x'=x∧aE (a::Z) x)∨((∃ k len,x=.osl k a len∧x'=.osl k b len)∨∃ off,x=.own a off∧x'=.own b off)
def uP (a b:Nat)(Z:List Nat):List Av→List Av→Prop
 | [],[]=>True
 | x::xs,y::ys=>rV a b Z x y∧uP a b Z xs ys
 | _,_=>False
theorem aJI {a b:Nat}{Z:List Nat}:∀ {xs:List Av},(∀ z∈xs,aE (a::Z) z)→uP a b Z xs xs
 | [],_=>trivial
 | x::xs,h=>⟨.inl ⟨rfl,h x (by simp)⟩,aJI fun z hz=>h z (by simp [hz])⟩
theorem aRB {a b:Nat}{Z:List Nat}:∀ {xs ys:List Av},uP a b Z xs ys→∀ (i:Nat) (y:Av),ys[i]?=some y→∃ x,xs[i]?=some x∧rV a b Z x y
 | [],[],_,i,y,h=>by simp at h
 | x::xs,y::ys,h,0,z,hz=>by simp at hz;subst hz;exact ⟨x,rfl,h.1⟩
 | x::xs,y::ys,h,i+1,z,hz=>by
  obtain ⟨u,h1,h2⟩:=aRB h.2 i z (by simpa using hz)
  exact ⟨u,by simpa using h1,h2⟩
 | [],_::_,h,_,_,_=>h.elim
 | _::_,[],h,_,_,_=>h.elim
theorem aRC {a b:Nat}{Z:List Nat}:∀ {xs ys:List Av},uP a b Z xs ys→xs.length=ys.length
 | [],[],_=>rfl
 | x::xs,y::ys,h=>by simp [aRC h.2]
 | [],_::_,h=>h.elim
 | _::_,[],h=>h.elim
def aEE (a b:Nat)(Z:List Nat)(σ:List (Nat × Av)):List (Nat × Av)→Prop
 | []=>True
 | (t,x)::r=>rV a b Z (bN σ t) x∧aEE a b Z σ r
def uQ (a b:Nat)(Z:List Nat)(η:List (Nat × Hs))(n:Nat)(y:Hs):Prop:=
 (n=a∧∃ T cs cs',y=.live T cs∧aL η b=some (.live T cs')∧uP a b Z cs' cs)∨(n∈Z∧n≠a∧y=.unborn)∨(n≠a∧n≠b∧n∉Z∧((∃ T cs cs',y=.live T cs∧aL η n=some (.live T cs')∧uP a b Z cs' cs)∨(y=.dead∧aL η n=some .dead)∨∃ P k e D,y=.map P k e D∧aL η n=some y))
def aEF (a b:Nat)(Z:List Nat)(η:List (Nat × Hs)):List (Nat × Hs)→Prop
 | []=>True
 | (n,y)::r=>uQ a b Z η n y∧aEF a b Z η r
theorem aRD {a b:Nat}{Z:List Nat}{σ:List (Nat × Av)}:∀ {τ:List (Nat × Av)},aEE a b Z σ τ→∀ t,bN τ t=.any∨rV a b Z (bN σ t) (bN τ t)
 | [],_,t=>.inl rfl
 | (u,x)::r,h,t=>by
  by_cases e:u=t
  ·subst e;rw [lE];exact .inr h.1
  ·rw [lS _ _ e];exact aRD h.2 t
theorem aRE {a b:Nat}{Z:List Nat}{η:List (Nat × Hs)}:∀ {τ:List (Nat × Hs)},aEF a b Z η τ→∀ n y,aL τ n=some y→uQ a b Z η n y
 | [],_,n,y,h=>by simp [aL] at h
 | (u,x)::r,h,n,y,hy=>by
  by_cases e:u=n
  ·subst e
   simp [aL] at hy
   subst hy
   exact h.1
  ·simp only [aL,eY e,cond_false] at hy
   exact aRE h.2 n y hy
theorem aJJ (a b:Nat):fI a b a=b:=by simp [fI]
theorem aRF {E:Env}{a b:Nat}{Z:List Nat}(haZ:a∉Z)(hbZ:b∈Z){x' x:Av}(h:rV a b Z x' x){v:Value}(hv:aA E x' v):aA ((E.ren (fI a b)).reset Z) x v:=by
 rcases h with ⟨rfl,h⟩|⟨k,len,rfl,rfl⟩|⟨off,rfl,rfl⟩
 ·refine aA.reset _ _ (yE _ h) (aA.ren _ _ ?_)
  rwa [yD (by simp) (List.mem_cons_of_mem _ hbZ) _ h]
 ·refine aA.reset _ _ (by unfold aE;exact haZ) (aA.ren _ _ ?_)
  unfold Av.ren
  rwa [aJJ]
 ·refine aA.reset _ _ (by unfold aE;exact haZ) (aA.ren _ _ ?_)
  unfold Av.ren
  rwa [aJJ]
theorem Le.turn {N:Nat}{D:List Nat}{Γ τ:Ctx}(a b:Nat)(Z:List Nat)(ha:a∉D)(hD:∀ n∈D,n∉Z)(haZ:a∉Z)(hbZ:b∈Z)(hs:aEE a b Z Γ.s τ.s)(hh:aEF a b Z Γ.h τ.h):Le N D Γ τ:=fun E x hF=>by
 have hb:b∉D:=fun h=>hD b h hbZ
 have hDs:∀ n∈D,fI a b n=n:=fun n hn=>tA (fun e=>ha (e ▸ hn)) (fun e=>hb (e ▸ hn))
 have hl:∀ n∈D,((E.ren (fI a b)).reset Z).loc n=E.loc n:=fun n hn=>by simp [Env.ren,Env.reset,hDs n hn,hD n hn]
 have hr:∀ {n c:Nat},((E.ren (fI a b)).reset Z).loc n=.at c→E.loc (fI a b n)=.at c:=fun {n c} h=>(wK h:(E.ren (fI a b)).loc n=.at c)
 have keepL:∀ n,n≠a→n≠b→n∉Z→((E.ren (fI a b)).reset Z).loc n=E.loc n:=fun n h1 h2 h3=>by simp [Env.ren,Env.reset,tA h1 h2,h3]
 have newL:((E.ren (fI a b)).reset Z).loc a=E.loc b:=by simp [Env.ren,Env.reset,aJJ,haZ]
 have live:∀ {n m T cs cs'},((E.ren (fI a b)).reset Z).loc n=E.loc m→dI E m (.live T cs')→uP a b Z cs' cs→dI ((E.ren (fI a b)).reset Z) n (.live T cs):=fun {n m T cs cs'} he hm ht=>by
  rcases hm with ⟨h2,h3⟩|⟨c,cur,h2,h3,h4⟩
  ·refine .inl ⟨he.trans h2,?_⟩
   have:=aRC ht
   rw [h3] at this
   exact List.eq_nil_of_length_eq_zero this.symm
  ·refine .inr ⟨c,cur,he.trans h2,h3,fun i z hz=>?_⟩
   obtain ⟨z',h5,h6⟩:=aRB ht i z hz
   obtain ⟨u,h7,h8,h9⟩:=h4 i z' h5
   exact ⟨u,h7,h8,aRF haZ hbZ h6 h9⟩
 refine ⟨(E.ren (fI a b)).reset Z,rfl,⟨rfl,rfl,rfl,Nat.le_refl _,rfl,fun _ _ _=>rfl,fun n c hc=>.inr ⟨_,hr hc⟩,fun n hn=>by rw [hl n hn];exact hF.born n hn,fun n hn h=>by rwa [hl n hn] at h,fun n hn c hc=>⟨by rwa [hl n hn] at hc,fun cur t hc=>⟨cur,hc,rfl⟩⟩⟩,
  ⟨⟨hF.good.old,fun n m c hn hm=>aRG a b n m (hF.good.inj _ _ c (hr hn) (hr hm)),fun n c hn=>hF.good.lt _ c (hr hn),hF.good.shp.same fun c hc=>⟨⟨hc.1,hc.2.1,fun n hn=>hc.2.2 _ (hr hn)⟩,rfl⟩⟩,hF.size,fun n hn=>by rw [hl n hn];exact hF.born n hn,fun t=>?_,fun n y hy=>?_⟩⟩
 ·rcases aRD hs t with h1|h1
  ·rw [h1];unfold aA;trivial
  ·exact aRF haZ hbZ h1 (hF.holds.1 t)
 ·rcases aRE hh n y hy with ⟨rfl,T,cs,cs',rfl,h2,h3⟩|⟨h1,_,rfl⟩|⟨h1,h2,h3,⟨T,cs,cs',rfl,h4,h5⟩|⟨rfl,h4⟩|⟨P,k,e,M,rfl,h4⟩⟩
  ·exact live newL (hF.holds.2 _ _ h2) h3
  ·show ((E.ren (fI a b)).reset Z).loc n=.unborn
   simp [Env.reset,h1]
  ·exact live (keepL n h1 h2 h3) (hF.holds.2 _ _ h4) h5
  ·exact (keepL n h1 h2 h3).trans (hF.holds.2 _ _ h4)
  ·obtain ⟨c,m,h5,h6⟩:=hF.holds.2 _ _ h4
   exact ⟨c,m,(keepL n h1 h2 h3).trans h5,h6⟩
theorem gZ {a b:Nat}{Z:List Nat}{x' x:Av}(e:x'=x)(h:aE (a::Z) x):rV a b Z x' x:=.inl ⟨e,h⟩
theorem qM {a b:Nat}{Z:List Nat}{x' x:Av}(e:x'=x)(h:aN x):rV a b Z x' x:=.inl ⟨e,aE.of_pure _ h⟩
theorem aIA {a b:Nat}{Z:List Nat}{m n:Int}(e:m=n):rV a b Z (vi m) (vi n):=.inl ⟨by rw [e],by simp [aE]⟩
theorem xR {a b:Nat}{Z:List Nat}{k m n:Nat}(e:m=n):rV a b Z (.osl k b m) (.osl k a n):=.inr (.inl ⟨k,n,rfl,by rw [e]⟩)
theorem mF {a b:Nat}{Z:List Nat}{η:List (Nat × Hs)}{T:TypeId}{cs:List Av}(h:aL η b=some (.live T cs))(hn:∀ z∈cs,aE (a::Z) z):uQ a b Z η a (.live T cs):=.inl ⟨rfl,T,cs,cs,rfl,h,aJI hn⟩
theorem iD {a b:Nat}{Z:List Nat}{η:List (Nat × Hs)}{n:Nat}(h:n∈Z)(hn:n≠a):uQ a b Z η n .unborn:=.inr (.inl ⟨h,hn,rfl⟩)
theorem iJ {a b:Nat}{Z:List Nat}{η:List (Nat × Hs)}{n:Nat}{T:TypeId}{cs:List Av}(h1:n≠a)(h2:n≠b)(h3:n∉Z)(h:aL η n=some (.live T cs))(hn:∀ z∈cs,aE (a::Z) z):uQ a b Z η n (.live T cs):=.inr (.inr ⟨h1,h2,h3,.inl ⟨T,cs,cs,rfl,h,aJI hn⟩⟩)
theorem aAA {a b:Nat}{Z:List Nat}{η:List (Nat × Hs)}{n:Nat}{T:TypeId}{cs cs':List Av}(h1:n≠a)(h2:n≠b)(h3:n∉Z)(h:aL η n=some (.live T cs'))(hn:uP a b Z cs' cs):uQ a b Z η n (.live T cs):=.inr (.inr ⟨h1,h2,h3,.inl ⟨T,cs,cs',rfl,h,hn⟩⟩)
theorem aP4 {a b:Nat}{Z:List Nat}{η:List (Nat × Hs)}{n:Nat}(h1:n≠a)(h2:n≠b)(h3:n∉Z)(h:aL η n=some .dead):uQ a b Z η n .dead:=.inr (.inr ⟨h1,h2,h3,.inr (.inl ⟨rfl,h⟩)⟩)
theorem aDO {a b:Nat}{Z:List Nat}{η:List (Nat × Hs)}{n:Nat}{P:Program}{k e:TypeId}{D:DataW Unit}(h1:n≠a)(h2:n≠b)(h3:n∉Z)(h:aL η n=some (.map P k e D)):uQ a b Z η n (.map P k e D):=.inr (.inr ⟨h1,h2,h3,.inr (.inr ⟨P,k,e,D,rfl,h⟩)⟩)
theorem aIB {a b:Nat}{Z:List Nat}{off:Nat}:rV a b Z (.own b off) (.own a off):=.inr (.inr ⟨off,rfl,rfl⟩)
theorem Le.cut {N:Nat}{D:List Nat}{s:List (Nat × Av)}{h:List (Nat × Hs)}(n:Nat){T:TypeId}{cs:List Av}(cs':List Av)(hn:aL h n=some (.live T cs))(hc:∀ (i:Nat) (y:Av),cs'[i]?=some y→cs[i]?=some y):Le N D ⟨s,h⟩ ⟨s,(n,.live T cs')::h⟩:=fun E a hF=>⟨E,rfl,Kept.refl hF.born,⟨hF.good,hF.size,hF.born,hF.holds.1,fun m y hy=>by
 by_cases e:n=m
 ·subst e
  simp [aL] at hy
  subst hy
  rcases hF.holds.2 n _ hn with ⟨h1,h2⟩|⟨b,cur,h1,h2,h3⟩
  ·refine .inl ⟨h1,?_⟩
   cases cs' with
   | nil=>rfl
   | cons z r=>
    have:=hc 0 z rfl
    rw [h2] at this
    simp at this
  ·exact .inr ⟨b,cur,h1,h2,fun i z hz=>h3 i z (hc i z hz)⟩
 ·simp only [aL,eY e,cond_false] at hy
  exact hF.holds.2 m y hy⟩⟩
theorem abZ {P:Program}{N:Nat}{D:List Nat}{x y:Code}{Q:Exit→Ctx→Prop}{Γ:Ctx}{ro:Option Nat}{ι:Type}(F:ι→Ctx)(I:ι→Prop)(h1:dW ro P N D x (wJ (fun Γ'=>∃ i,I i∧Le N D Γ' (F i)) Q) Γ)(h2:∀ i,I i→dW ro P N D y Q (F i)):dW ro P N D x (wJ (dW ro P N D y Q) Q) Γ:=aJC h1 fun e Γ' h=>by
 cases e
 case normal=>
  obtain ⟨i,hi,hl⟩:=h
  exact bS hl (h2 i hi)
 all_goals exact h
theorem aeM {P:Program}{o:Oper}{ρ:Operand→Av}{p q:Operand}{T e t:TypeId}{k by_ n len:Nat}{zs:List Value}{kk:IntKind}{cs:List Av}(h:Nat)(ho:o.op=.slice T p none (some q) none)(hp:ρ p=.osl k n len)(hq:ρ q=.val (.int kk (h:Int)))(hT:eB P T=some e)(hi:lW P e=some (k,by_,zs))(hl:h≤len):OC P o ρ [(n,.live t cs)] (.osl k n h) []:=bZ fun E a hG hr hH=>by
 have h1:=hr p (by simp [ho,Op.operands])
 have h2:=hr q (by simp [ho,Op.operands])
 rw [hp] at h1
 rw [hq] at h2
 unfold aA at h1 h2
 have hform:∃ A c,a.eval p=.slice A len c∧len≤c∧(E.loc n=.nil→A=none∧c=0)∧∀ b,E.loc n=.at b→A=some ⟨b,0,none⟩∧c≤maxLen∧∃ cur t,E.w.heap[b]?=some (.cells cur t (0,0))∧cur.size=c*k:=by
  rcases hH n (.live t cs) (by simp) with ⟨h3,_⟩|⟨b,cur,h3,_⟩
  ·obtain ⟨h4,rfl⟩:=h1.1.2.2 h3
   exact ⟨none,0,h4,Nat.le_refl _,fun _=>⟨rfl,rfl⟩,fun b hb=>by rw [h3] at hb;cases hb⟩
  ·obtain ⟨c,cur,t,h4,h5,h6,h7,h8⟩:=h1.2 b h3
   exact ⟨_,c,h4,h5,(fun (hn:E.loc n=.nil)=>by rw [h3] at hn;cases hn),fun b' hb=>by rw [h3] at hb;injection hb with hb;subst hb;exact ⟨rfl,h6,cur,t,h7,h8⟩⟩
 obtain ⟨A,c,h3,h4,h5,h6⟩:=hform
 have hs:sliced A 0 h c k=.slice A h c:=by
  unfold sliced
  cases A with
  | none=>simp
  | some ad=>by_cases e0:c=0<;>simp [e0,Addr.add]
 refine ⟨_,aJK ho hT hi h3 h4 (.inl ⟨rfl,rfl⟩) (.inr ⟨q,kk,rfl,h2⟩) (Nat.zero_le _) hl,?_⟩
 rw [hs]
 unfold aA
 refine ⟨⟨h1.1.1,⟨_,_,rfl⟩,fun hn=>?_⟩,fun b hb=>?_⟩
 ·obtain ⟨rfl,rfl⟩:=h5 hn
  have:h=0:=by omega
  subst this
  exact ⟨rfl,rfl⟩
 ·obtain ⟨rfl,h7,cur,t,h8,h9⟩:=h6 b hb
  exact ⟨c,cur,t,rfl,by omega,h7,h8,h9⟩
end Go.Proofs.YtnklgkjfoggpbaaGreatDoor
