/- Parts of the proof of a law of this seat: rules and contracts; no conditions. -/
import Derived.Test.YtgajclaoaphgoaaGreatDoorMp
import Derived.Test.YtgajclaoaphgoaaGreatDoorWireP
import Derived.Lib.Builder
import Derived.Lib.UnsafeStr
import Derived.Laws.Externs
import Derived.Laws.IdiomStrings
import Derived.Test.YtgajclaoaphgoaaGreatDoorMx
import Derived.Test.YtgajclaoaphgoaaGreatDoorOl
set_option maxHeartbeats 6400000
set_option maxRecDepth 100000
set_option linter.unusedVariables false
set_option linter.unusedSimpArgs false
namespace Go.Proofs.YtgajclaoaphgoaaGreatDoor
open Go.RowKit
theorem xF {P:Program}{T:TypeId}(h:oD P T=true):P.underlying T=some .string:=by
 unfold oD at h;split at h
 ·assumption
 cases h
section
variable {P:Program}{o:Oper}{x y:Av}{R M U:List (Nat × Hs)}{ρ:Operand→Av}{p q r:Operand}{T:TypeId}
theorem aGK {s:ByteArray}{k k':IntKind}{i j:Int}(ho:o.op=.slice T p (some q) (some r) none)(hp:ρ p=.val (.string s))(hq:ρ q=.val (.int k i))(hr':ρ r=.val (.int k' j))(hT:oD P T=true)(h0:0≤i)(h1:i≤j)(h2:j≤s.size):OC P o ρ [] (.val (.string (s.extract i.toNat j.toNat))) []:=bZ fun E a hG hr _=>by
 have h3:=hr p (by simp [ho,Op.operands]);have h4:=hr q (by simp [ho,Op.operands]);have h5:=hr r (by simp [ho,Op.operands]);rw [hp] at h3;rw [hq] at h4;rw [hr'] at h5;unfold aA at h3 h4 h5;refine ⟨.string (s.extract i.toNat j.toNat),?_,by unfold aA;rfl⟩;have hrun:=run_slice_string E.w T s k k' i j (xF hT) h0 h1 h2;unfold execOp;simp only [ho,Option.map_some,Option.map_none,h3,h4,h5,Sem.run_bind,(run_sliceAt_string (w:=E.w) T _ _ _ _ (xF hT)).trans hrun,Result.andThen_ok,Sem.run_pure]
theorem aXW {s:ByteArray}{k:IntKind}{i:Int}(ho:o.op=.slice T p (some q) none none)(hp:ρ p=.val (.string s))(hq:ρ q=.val (.int k i))(hT:oD P T=true)(h0:0≤i)(h1:i≤s.size):OC P o ρ [] (.val (.string (s.extract i.toNat s.size))) []:=bZ fun E a hG hr _=>by
 have h3:=hr p (by simp [ho,Op.operands]);have h4:=hr q (by simp [ho,Op.operands]);rw [hp] at h3;rw [hq] at h4;unfold aA at h3 h4;refine ⟨.string (s.extract i.toNat s.size),?_,by unfold aA;rfl⟩;have hrun:=run_slice_string_from_if E.w T s k i (xF hT);rw [if_pos ⟨h0,h1⟩] at hrun;unfold execOp;simp only [ho,Option.map_some,Option.map_none,h3,h4,Sem.run_bind,(run_sliceAt_string (w:=E.w) T _ _ _ _ (xF hT)).trans hrun,Result.andThen_ok,Sem.run_pure]
theorem aYB {T':TypeId}{a b:ByteArray}(ho:o.op=.binOp .lss T p q T')(hp:ρ p=.val (.string a))(hq:ρ q=.val (.string b)):OC P o ρ [] (.val (.bool (Op.bytesLess a.toList b.toList))) []:=bZ fun E c hG hr _=>by
 have h1:=hr p (by simp [ho,Op.operands]);have h2:=hr q (by simp [ho,Op.operands]);rw [hp] at h1;rw [hq] at h2;unfold aA at h1 h2;exact ⟨.bool (Op.bytesLess a.toList b.toList),by simp [execOp,ho,h1,h2,eqGuard,binOp,Op.stringOp],by unfold aA;rfl⟩
theorem oI {f:Nat}{g:Operand}{args:List Operand}{tys:Array TypeId}{ys caps:List Av}(V:List Nat)(ho:o.op=.call { callee:=.value g,args:=args.toArray,argTypes:=tys })(hg:ρ g=.clo f caps)(hf:dN P f=true)(hc:iO P f ys R M x U)(hxs:args.map ρ++caps=ys)
 (hV:∀ n∈U.map (·.1),n∈R.map (·.1)∨n∈V) (hb:bQ (R++M)) (hRU:∀ n∈R.map (·.1),n∈U.map (·.1)) (hMU:∀ n∈M.map (·.1),n∉U.map (·.1)) (hIA:aO (·∈(R++M).map (·.1)) ys) (hIR:jR (·∈(R++M).map (·.1)) (R++M)) (hIx:aH (·∈U.map (·.1)) x) (hIU:jR (·∈U.map (·.1)) U):OC P o ρ ((R++M)++V.map fun n=>(n,.unborn)) x (U++tD M):=by
 intro E a hG hr hH;subst hxs;have hA:=aA3 (ρ:=ρ) (E:=E) (a:=a) (l:=args) fun p hp=>hr p (by simp [ho,Op.operands,Call.operands,hp]);have h1:=hr g (by simp [ho,Op.operands,Call.operands]);rw [hg] at h1;unfold aA at h1;obtain ⟨vs,h2,h3⟩:=h1;have app:∀ (xs:List Av) (us:List Value),aG E xs us→aG E (xs++caps) (us++vs):=by
  intro xs
  induction xs with
  | nil=>intro us h;unfold aG at h;subst h;exact h3
  | cons x xs ih=>
   intro us h;unfold aG at h;obtain ⟨v,us',rfl,h4,h5⟩:=h;rw [List.cons_append,List.cons_append];unfold aG;exact ⟨v,us'++vs,rfl,h4,ih us' h5⟩
 have:=iO.post hc hG (app _ _ hA) (fun n y hn=>hH n y (List.mem_append_left _ hn)) (fun n hn hn'=>hH n .unborn (List.mem_append_right _ (List.mem_map.2 ⟨n,(hV n hn).resolve_left hn',rfl⟩))) hb hRU hMU hIA hIR hIx hIU;unfold eK execOp;simp only [ho,resolve,Deferred.ofValue,h2,Sem.run_bind,Sem.run_pure,Result.andThen_ok,invoke,Array.append_empty,Array.empty_append,List.map_toArray,List.append_toArray,aA4 hf,fM];exact this
theorem sS {f:Nat}{g:Operand}{args:List Operand}{tys:Array TypeId}{ys caps:List Av}(V:List Nat)(ho:o.op=.call { callee:=.value g,args:=args.toArray,argTypes:=tys })(hg:ρ g=.bm f caps)(hf:dN P f=true)(hc:iO P f ys R M x U)(hxs:caps++args.map ρ=ys)
 (hV:∀ n∈U.map (·.1),n∈R.map (·.1)∨n∈V) (hb:bQ (R++M)) (hRU:∀ n∈R.map (·.1),n∈U.map (·.1)) (hMU:∀ n∈M.map (·.1),n∉U.map (·.1)) (hIA:aO (·∈(R++M).map (·.1)) ys) (hIR:jR (·∈(R++M).map (·.1)) (R++M)) (hIx:aH (·∈U.map (·.1)) x) (hIU:jR (·∈U.map (·.1)) U):OC P o ρ ((R++M)++V.map fun n=>(n,.unborn)) x (U++tD M):=by
 intro E a hG hr hH;subst hxs;have hA:=aA3 (ρ:=ρ) (E:=E) (a:=a) (l:=args) fun p hp=>hr p (by simp [ho,Op.operands,Call.operands,hp]);have h1:=hr g (by simp [ho,Op.operands,Call.operands]);rw [hg] at h1;unfold aA at h1;obtain ⟨vs,h2,h3⟩:=h1;have:=iO.post hc hG (aRP h3 hA) (fun n y hn=>hH n y (List.mem_append_left _ hn)) (fun n hn hn'=>hH n .unborn (List.mem_append_right _ (List.mem_map.2 ⟨n,(hV n hn).resolve_left hn',rfl⟩))) hb hRU hMU hIA hIR hIx hIU;unfold eK execOp
 simp only [ho,resolve,Deferred.ofValue,h2,Sem.run_bind,Sem.run_pure,Result.andThen_ok,invoke,Array.append_empty,Array.empty_append,List.map_toArray,List.append_toArray,aA4 hf,fM];exact this
end
def wrC:Code→List Nat
 | .region _ ops _=>ops.toList.filterMap (·.dst)
 | .seq a b=>wrC a++wrC b
 | .cond _ a b=>wrC a++wrC b
 | .block _ c=>wrC c
 | .loop c=>wrC c
 | .scope c=>wrC c
 | _=>[]
inductive KS {ι:Type} (u:ι→List (Nat × Av)):List Nat→List (Nat × Av)→(ι→List (Nat × Av))→Prop
 | nil {wr:List Nat}:KS u wr [] u
 | skip {wr:List Nat} {t:Nat} {x:Av} {s:List (Nat × Av)} {σ:ι→List (Nat × Av)} (h:wr.elem t=true) (k:KS u wr s σ):KS u wr ((t,x)::s) σ
 | keep {wr:List Nat} {t:Nat} {x:Av} {s:List (Nat × Av)} {σ:ι→List (Nat × Av)} (k:KS u (t::wr) s σ):KS u wr ((t,x)::s) fun i=>(t,x)::σ i
inductive KH {ι:Type} (u:ι→List (Nat × Hs)):List Nat→List (Nat × Hs)→(ι→List (Nat × Hs))→Prop
 | nil {wr:List Nat}:KH u wr [] u
 | skip {wr:List Nat} {t:Nat} {x:Hs} {s:List (Nat × Hs)} {σ:ι→List (Nat × Hs)} (h:wr.elem t=true) (k:KH u wr s σ):KH u wr ((t,x)::s) σ
 | keep {wr:List Nat} {t:Nat} {x:Hs} {s:List (Nat × Hs)} {σ:ι→List (Nat × Hs)} (k:KH u (t::wr) s σ):KH u wr ((t,x)::s) fun i=>(t,x)::σ i
inductive SetAt:List Av→Nat→Av→List Av→Prop
 | z {x y:Av} {r:List Av}:SetAt (x::r) 0 y (y::r)
 | s {x y:Av} {r r':List Av} {n:Nat} (h:SetAt r n y r'):SetAt (x::r) (n+1) y (x::r')
theorem SetAt.eq {cs:List Av}{n:Nat}{y:Av}{cs':List Av}(h:SetAt cs n y cs'):cs.set n y=cs':=by
 induction h with
 | z=>rfl
 | s _ ih=>rw [List.set_cons_succ,ih]
theorem SetAt.lt {cs:List Av}{n:Nat}{y:Av}{cs':List Av}(h:SetAt cs n y cs'):n<cs.length:=by
 induction h with
 | z=>simp
 | s _ ih=>simp;exact ih
section
variable {P:Program}{N:Nat}{D:List Nat}{Q:Exit→Ctx→Prop}{Γ:Ctx}{ro:Option Nat}{c:Code}
theorem LP {ι:Type}{σ:ι→List (Nat × Av)}{η:ι→List (Nat × Hs)}(u:ι→List (Nat × Av))(v:ι→List (Nat × Hs))(I:ι→Prop)(μ:ι→Nat)(i0:ι)(h0:I i0)
 (round:∀ i,I i→dW ro P N D c (wJ (fun Γ'=>∃ j,I j∧μ j<μ i∧Le N D Γ' ⟨σ j,η j⟩) Q) ⟨σ i,η i⟩)
 (hK:KS u ((u i0).map (·.1)++wrC c) Γ.s σ:=by repeat (first|exact KS.nil|(apply KS.skip;rfl)|apply KS.keep))
 (hH:KH v ((v i0).map (·.1)) Γ.h η:=by repeat (first|exact KH.nil|(apply KH.skip;rfl)|apply KH.keep))
 (hl:Le N D Γ ⟨σ i0,η i0⟩:=by exact LS):dW ro P N D (.loop c) Q Γ:=bM (fun i=>⟨σ i,η i⟩) I μ i0 h0 hl round
theorem NX {ι:Type}{I:ι→Prop}{μ:ι→Nat}{i:ι}{F:ι→Ctx}(j:ι)(h:I j)(hm:μ j<μ i:=by first|omega|(simp only [];omega)|(show _<_;simp;omega))(hl:Le N D Γ (F j):=by first|exact LS|(apply LS)):∃ j,I j∧μ j<μ i∧Le N D Γ (F j):=⟨j,h,hm,hl⟩
theorem FB {f:FuncId}{fn:Func}{args:List Av}{R U:List (Nat × Hs)}{x:Av}(K N:Nat)(hf:P.funcs[f]?=some fn)
 (h:AW P N (R.map (·.1)) c (fun e Γ=>(e=.ret∨e=.normal)∧aF P fn Γ x∧jU Γ.h U) ⟨yL args 0,R++wU K⟩) (hb:fn.body=some c:=by rfl) (hN:max fn.ntmps args.length=N:=by kernel_rfl):FC P f args R x U:=FC.body K N hf hb hN h
theorem RT {e:Exit}{fn:Func}{x:Av}{t:Nat}{U:List (Nat × Hs)}(hx:bN Γ.s t=x)(hr:fn.results=#[.tmp t]:=by rfl)(he:e=.ret∨e=.normal:=by first|exact .inl rfl|exact .inr rfl)(hu:jU Γ.h U:=by first|exact trivial|exact ⟨rfl,trivial⟩):(e=.ret∨e=.normal)∧aF P fn Γ x∧jU Γ.h U:=⟨he,aF.tmp hr hx,hu⟩
theorem RI {e:Exit}{fn:Func}{m n:Int}{t:Nat}{U:List (Nat × Hs)}(hr:fn.results=#[.tmp t]:=by rfl)(hx:bN Γ.s t=vi m:=by rfl)(h:m=n:=by rfl)(he:e=.ret∨e=.normal:=by first|exact .inl rfl|exact .inr rfl)(hu:jU Γ.h U:=by first|exact trivial|exact ⟨rfl,trivial⟩):(e=.ret∨e=.normal)∧aF P fn Γ (vi n)∧jU Γ.h U:=⟨he,aF.tmp hr (by rw [hx,h]),hu⟩
theorem RB {e:Exit}{fn:Func}{m n:Bool}{t:Nat}{U:List (Nat × Hs)}(hr:fn.results=#[.tmp t]:=by rfl)(hx:bN Γ.s t=vb m:=by rfl)(h:m=n:=by rfl)(he:e=.ret∨e=.normal:=by first|exact .inl rfl|exact .inr rfl)(hu:jU Γ.h U:=by first|exact trivial|exact ⟨rfl,trivial⟩):(e=.ret∨e=.normal)∧aF P fn Γ (vb n)∧jU Γ.h U:=⟨he,aF.tmp hr (by rw [hx,h]),hu⟩
end
section
variable {P:Program}{bb:Bool}{ops:Array Oper}{o:Oper}{l:List Oper}{s:List (Nat × Av)}{h:List (Nat × Hs)}{K:Ctx→List (List Nat × List Nat)→Prop}{d:Nat}{x y:Av}{R U:List (Nat × Hs)}{p q r:Operand}{ρ:Operand→Av}{T T' S:TypeId}
theorem Yss {n off:Nat}{t:TypeId}{cs cs':List Av}(h':Ck bb P ops l ⟨s,[(n,Hs.live t cs')]++h⟩ fun Γ' F=>K Γ' ((([(n,Hs.live t cs)]:List (Nat × Hs)).map (·.1),([(n,Hs.live t cs')]:List (Nat × Hs)).map (·.1))::F))(ho:o.op=.store T p q:=by rfl)(hg:o.guard=none:=by rfl)(hd:o.dst=none:=by rfl)(hp:dA s p=.own n off:=by rfl)(hR:jU h [(n,Hs.live t cs)]:=by exact ⟨rfl,trivial⟩)(hq:dA s q=y:=by first|exact (rfl:_=Av.val _)|exact (rfl:_=Av.osl _ _ _)|exact (rfl:_=Av.sl _ _ _)|exact (rfl:_=Av.own _ _)|exact (rfl:_=Av.ptr _)|exact (rfl:_=Av.clo _ _)|rfl)(hT:jK P T=some false:=by kernel_rfl)(hs:mX P T=some 1:=by kernel_rfl)
 (hy:∀ E v,aA E y v→v.oneCell'=true:=by first|exact oH|exact aAT|exact aED|exact nU|exact aJE|exact aJD|exact aEC|exact aAU|exact fun E v h=>by unfold aA at h;subst h;rfl) (hcs:SetAt cs off y cs':=by repeat (first|exact SetAt.z|apply SetAt.s)):Ck bb P ops (o::l) ⟨s,h⟩ K:=fP hg hd (lG ho hp hq hT hs hy hcs.lt hcs.eq) hR h'
theorem cv {k k' kd:IntKind}{m n:Int}(ho:o.op=.convert S T p:=by rfl)(hp:ρ p=.val (.int k' n):=by rfl)(hS:wQ P S=some k:=by rfl)(hT:wQ P T=some kd:=by rfl)(hw:kd.wrap n=m:=by first|exact aFI _ (by omega) (by omega)|rfl):OC P o ρ [] (.val (.int kd m)) []:=hw ▸ mH kd ho hp hS hT
end
section
variable {P:Program}{bb:Bool}{ops:Array Oper}{o:Oper}{l:List Oper}{s:List (Nat × Av)}{h:List (Nat × Hs)}{K:Ctx→List (List Nat × List Nat)→Prop}{d:Nat}{x y:Av}{R U:List (Nat × Hs)}{p q r:Operand}{ρ:Operand→Av}{T T' S:TypeId}
theorem alA (n:Nat){zs:List Value}{cs:List Av}(ho:o.op=.alloc T:=by rfl)(hz:nT P T=some zs:=by first|exact (rfl:_=some [_])|exact (rfl:_=some [_,_])|exact (rfl:_=some [_,_,_])|exact (rfl:_=some [_,_,_,_])|exact (rfl:_=some [_,_,_,_,_])|exact (rfl:_=some [_,_,_,_,_,_])|exact (rfl:_=some [_,_,_,_,_,_,_])|exact (rfl:_=some [_,_,_,_,_,_,_,_])|exact (rfl:_=some [_,_,_,_,_,_,_,_,_])|exact (rfl:_=some [_,_,_,_,_,_,_,_,_,_])|exact (rfl:_=some [_,_,_,_,_,_,_,_,_,_,_])|exact (rfl:_=some [_,_,_,_,_,_,_,_,_,_,_,_])|exact (rfl:_=some [_,_,_,_,_,_,_,_,_,_,_,_,_])|exact (rfl:_=some [_,_,_,_,_,_,_,_,_,_,_,_,_,_])|exact (rfl:_=some [_,_,_,_,_,_,_,_,_,_,_,_,_,_,_])|exact (rfl:_=some [_,_,_,_,_,_,_,_,_,_,_,_,_,_,_,_])|exact (rfl:_=some [_,_,_,_,_,_,_,_,_,_,_,_,_,_,_,_,_]))(ha:zs.all rU=true:=by rfl)(hc:zs.map .val=cs:=by first|exact (rfl:_=[_])|exact (rfl:_=[_,_])|exact (rfl:_=[_,_,_])|exact (rfl:_=[_,_,_,_])|exact (rfl:_=[_,_,_,_,_])|exact (rfl:_=[_,_,_,_,_,_])|exact (rfl:_=[_,_,_,_,_,_,_])|exact (rfl:_=[_,_,_,_,_,_,_,_])|exact (rfl:_=[_,_,_,_,_,_,_,_,_])|exact (rfl:_=[_,_,_,_,_,_,_,_,_,_])|exact (rfl:_=[_,_,_,_,_,_,_,_,_,_,_])|exact (rfl:_=[_,_,_,_,_,_,_,_,_,_,_,_])|exact (rfl:_=[_,_,_,_,_,_,_,_,_,_,_,_,_])|exact (rfl:_=[_,_,_,_,_,_,_,_,_,_,_,_,_,_])|exact (rfl:_=[_,_,_,_,_,_,_,_,_,_,_,_,_,_,_])|exact (rfl:_=[_,_,_,_,_,_,_,_,_,_,_,_,_,_,_,_])|exact (rfl:_=[_,_,_,_,_,_,_,_,_,_,_,_,_,_,_,_,_])):OC P o ρ [(n,.unborn)] (.own n 0) [(n,.live T cs)]:=aJG n ho hz ha hc
theorem bdA {pl:List (Nat × Nat)}{zs:List Value}{ds:List Av}{parts:List (Nat × Operand)}(ho:o.op=.build T parts.toArray:=by rfl)(hz:nT P T=some zs:=by first|exact (rfl:_=some [_])|exact (rfl:_=some [_,_])|exact (rfl:_=some [_,_,_])|exact (rfl:_=some [_,_,_,_])|exact (rfl:_=some [_,_,_,_,_])|exact (rfl:_=some [_,_,_,_,_,_])|exact (rfl:_=some [_,_,_,_,_,_,_])|exact (rfl:_=some [_,_,_,_,_,_,_,_])|exact (rfl:_=some [_,_,_,_,_,_,_,_,_])|exact (rfl:_=some [_,_,_,_,_,_,_,_,_,_])|exact (rfl:_=some [_,_,_,_,_,_,_,_,_,_,_])|exact (rfl:_=some [_,_,_,_,_,_,_,_,_,_,_,_])|exact (rfl:_=some [_,_,_,_,_,_,_,_,_,_,_,_,_])|exact (rfl:_=some [_,_,_,_,_,_,_,_,_,_,_,_,_,_])|exact (rfl:_=some [_,_,_,_,_,_,_,_,_,_,_,_,_,_,_])|exact (rfl:_=some [_,_,_,_,_,_,_,_,_,_,_,_,_,_,_,_])|exact (rfl:_=some [_,_,_,_,_,_,_,_,_,_,_,_,_,_,_,_,_]))(ha:zs.all rU=true:=by rfl)(hpl:aJH P T=some pl:=by rfl)(hp:yA (pl[·]?) zs.length (parts.map fun ip=>(ip.1,ρ ip.2))=true:=by first|rfl|decide)(hds:yB (pl[·]?) (zs.map .val) (parts.map fun ip=>(ip.1,ρ ip.2))=ds:=by first|exact (rfl:_=[_])|exact (rfl:_=[_,_])|exact (rfl:_=[_,_,_])|exact (rfl:_=[_,_,_,_])|exact (rfl:_=[_,_,_,_,_])|exact (rfl:_=[_,_,_,_,_,_])|exact (rfl:_=[_,_,_,_,_,_,_])|exact (rfl:_=[_,_,_,_,_,_,_,_])|exact (rfl:_=[_,_,_,_,_,_,_,_,_])|exact (rfl:_=[_,_,_,_,_,_,_,_,_,_])|exact (rfl:_=[_,_,_,_,_,_,_,_,_,_,_])|exact (rfl:_=[_,_,_,_,_,_,_,_,_,_,_,_])|exact (rfl:_=[_,_,_,_,_,_,_,_,_,_,_,_,_])|exact (rfl:_=[_,_,_,_,_,_,_,_,_,_,_,_,_,_])|exact (rfl:_=[_,_,_,_,_,_,_,_,_,_,_,_,_,_,_])|exact (rfl:_=[_,_,_,_,_,_,_,_,_,_,_,_,_,_,_,_])|exact (rfl:_=[_,_,_,_,_,_,_,_,_,_,_,_,_,_,_,_,_])):OC P o ρ [] (.agg ds) []:=aeG ho hz ha hpl hp hds
theorem YrA {n off:Nat}{t:TypeId}{cs ds cs':List Av}(h':Ck bb P ops l ⟨s,[(n,Hs.live t cs')]++h⟩ fun Γ' F=>K Γ' ((([(n,Hs.live t cs)]:List (Nat × Hs)).map (·.1),([(n,Hs.live t cs')]:List (Nat × Hs)).map (·.1))::F))(ho:o.op=.store T p q:=by rfl)(hg:o.guard=none:=by rfl)(hd:o.dst=none:=by rfl)(hp:dA s p=.own n off:=by rfl)(hR:jU h [(n,Hs.live t cs)]:=by exact ⟨rfl,trivial⟩)(hq:dA s q=.agg ds:=by rfl)(hs:mX P T=some ds.length:=by rfl)(hlt:off+ds.length≤cs.length:=by first|decide|exact Nat.le_of_ble_eq_true rfl|simp)(h0:0<ds.length:=by first|decide|exact Nat.le_of_ble_eq_true rfl|simp)(hcs:nV cs off ds=cs':=by first|exact (rfl:_=[_])|exact (rfl:_=[_,_])|exact (rfl:_=[_,_,_])|exact (rfl:_=[_,_,_,_])|exact (rfl:_=[_,_,_,_,_])|exact (rfl:_=[_,_,_,_,_,_])|exact (rfl:_=[_,_,_,_,_,_,_])|exact (rfl:_=[_,_,_,_,_,_,_,_])|exact (rfl:_=[_,_,_,_,_,_,_,_,_])|exact (rfl:_=[_,_,_,_,_,_,_,_,_,_])|exact (rfl:_=[_,_,_,_,_,_,_,_,_,_,_])|exact (rfl:_=[_,_,_,_,_,_,_,_,_,_,_,_])|exact (rfl:_=[_,_,_,_,_,_,_,_,_,_,_,_,_])|exact (rfl:_=[_,_,_,_,_,_,_,_,_,_,_,_,_,_])|exact (rfl:_=[_,_,_,_,_,_,_,_,_,_,_,_,_,_,_])|exact (rfl:_=[_,_,_,_,_,_,_,_,_,_,_,_,_,_,_,_])|exact (rfl:_=[_,_,_,_,_,_,_,_,_,_,_,_,_,_,_,_,_])):Ck bb P ops (o::l) ⟨s,h⟩ K:=fP hg hd (sY ho hp hq rfl hs hlt h0 hcs) hR h'
theorem YlA {k n off:Nat}{t:TypeId}{cs ds:List Av}(h':Ck bb P ops l ⟨(d,.agg ds)::s,h⟩ fun Γ' F=>K Γ' ((([(n,Hs.live t cs)]:List (Nat × Hs)).map (·.1),[])::F))(ho:o.op=.load T p:=by rfl)(hg:o.guard=none:=by rfl)(hd:o.dst=some d:=by rfl)(hp:dA s p=.own n off:=by rfl)(hR:jU h [(n,Hs.live t cs)]:=by exact ⟨rfl,trivial⟩)(hT:jK P T=some true:=by rfl)(hs:mX P T=some k:=by rfl)(hds:(cs.drop off).take k=ds:=by first|exact (rfl:_=[_])|exact (rfl:_=[_,_])|exact (rfl:_=[_,_,_])|exact (rfl:_=[_,_,_,_])|exact (rfl:_=[_,_,_,_,_])|exact (rfl:_=[_,_,_,_,_,_])|exact (rfl:_=[_,_,_,_,_,_,_])|exact (rfl:_=[_,_,_,_,_,_,_,_])|exact (rfl:_=[_,_,_,_,_,_,_,_,_])|exact (rfl:_=[_,_,_,_,_,_,_,_,_,_])|exact (rfl:_=[_,_,_,_,_,_,_,_,_,_,_])|exact (rfl:_=[_,_,_,_,_,_,_,_,_,_,_,_])|exact (rfl:_=[_,_,_,_,_,_,_,_,_,_,_,_,_])|exact (rfl:_=[_,_,_,_,_,_,_,_,_,_,_,_,_,_])|exact (rfl:_=[_,_,_,_,_,_,_,_,_,_,_,_,_,_,_])|exact (rfl:_=[_,_,_,_,_,_,_,_,_,_,_,_,_,_,_,_])|exact (rfl:_=[_,_,_,_,_,_,_,_,_,_,_,_,_,_,_,_,_]))(hk:ds.length=k:=by rfl)(h0:0<k:=by decide):Ck bb P ops (o::l) ⟨s,h⟩ K:=eL hg hd (mA ho hp hT hs hds hk h0) hR h'
end
section
variable {P:Program}{N:Nat}{D:List Nat}{Q:Exit→Ctx→Prop}{Γ:Ctx}{ro:Option Nat}{x y:Code}{p:Operand}{b:Bool}
theorem cdT (h:dW ro P N D x Q Γ)(hp:dA Γ.s p=.val (.bool b):=by rfl)(hb:b=true:=by first|assumption|exact rfl):dW ro P N D (.cond p x y) Q Γ:=aeL hp (fun _=>h) fun h=>by rw [hb] at h;cases h
theorem cdF (h:dW ro P N D y Q Γ)(hp:dA Γ.s p=.val (.bool b):=by rfl)(hb:b=false:=by first|assumption|exact rfl):dW ro P N D (.cond p x y) Q Γ:=aeL hp (fun h=>by rw [hb] at h;cases h) fun _=>h
end
section
variable {P:Program}{bb:Bool}{ops:Array Oper}{o:Oper}{l:List Oper}{s:List (Nat × Av)}{h:List (Nat × Hs)}{K:Ctx→List (List Nat × List Nat)→Prop}{d:Nat}{x y:Av}{p q r:Operand}{ρ:Operand→Av}{T:TypeId}
theorem faA {i off:Nat}{cs:List Av}(ho:o.op=.fieldAddr T p i:=by rfl)(hp:ρ p=.ptr x:=by rfl)(hx:x=.agg cs:=by rfl)(hf:rR P T i=some (off,1,false):=by rfl)(hy:cs[off]?=some y:=by rfl):OC P o ρ [] (.ptr y) []:=aQ6 ho hp hx hf hy
theorem fRA {i off sz:Nat}{cs ds:List Av}(ho:o.op=.fieldAddr T p i:=by rfl)(hp:ρ p=.ptr x:=by rfl)(hx:x=.agg cs:=by rfl)(hf:rR P T i=some (off,sz,true):=by rfl)(hds:(cs.drop off).take sz=ds:=by first|exact (rfl:_=[_,_])|exact (rfl:_=[_,_,_])|exact (rfl:_=[_,_,_,_])|exact (rfl:_=[_,_,_,_,_])|exact (rfl:_=[_,_,_,_,_,_])|exact (rfl:_=[_,_,_,_,_,_,_])|exact (rfl:_=[_,_,_,_,_,_,_,_])|exact (rfl:_=[_,_,_,_,_,_,_,_,_])|exact (rfl:_=[_,_,_,_,_,_,_,_,_,_])|exact (rfl:_=[_,_,_,_,_,_,_,_,_,_,_])|exact (rfl:_=[_,_,_,_,_,_,_,_,_,_,_,_])|exact (rfl:_=[_,_,_,_,_,_,_,_,_,_,_,_,_])|exact (rfl:_=[_,_,_,_,_,_,_,_,_,_,_,_,_,_])|exact (rfl:_=[_,_,_,_,_,_,_,_,_,_,_,_,_,_,_])|exact (rfl:_=[_,_,_,_,_,_,_,_,_,_,_,_,_,_,_,_]))(hz:sz≠0:=by decide):OC P o ρ [] (.ptr (.agg ds)) []:=hds ▸ ad7 ho hp hx hf hz
theorem vI (off sz:Nat)(r:Bool){n k i:Nat}{t:TypeId}{cs:List Av}(h':Ck bb P ops l ⟨(d,.own n (k+off))::s,h⟩ fun Γ' F=>K Γ' ((([(n,Hs.live t cs)]:List (Nat × Hs)).map (·.1),[])::F))(ho:o.op=.fieldAddr T p i:=by rfl)(hg:o.guard=none:=by rfl)(hd:o.dst=some d:=by rfl)(hp:dA s p=.own n k:=by rfl)(hR:jU h [(n,Hs.live t cs)]:=by exact ⟨rfl,trivial⟩)(hf:rR P T i=some (off,sz,r):=by rfl)(hk:k<cs.length:=by first|decide|simp)(hz:sz≠0:=by decide):Ck bb P ops (o::l) ⟨s,h⟩ K:=eL hg hd (eU ho hp hk hf hz) hR h'
end
section
variable {P:Program}{bb:Bool}{ops:Array Oper}{o:Oper}{l:List Oper}{s:List (Nat × Av)}{h:List (Nat × Hs)}{K:Ctx→List (List Nat × List Nat)→Prop}{d:Nat}{x y:Av}{p q r:Operand}{T:TypeId}{g u:Nat}{pol C:Bool}{n:Nat}{t:TypeId}{cs ds:List Av}
theorem Zlo {off:Nat}(h':Ck bb P ops l ⟨(d,.gd C y)::s,h⟩ fun Γ' F=>K Γ' ((([(n,Hs.live t cs)]:List (Nat × Hs)).map (·.1),[])::F))(ho:o.op=.load T p:=by rfl)(hg:o.guard=some (g,pol):=by rfl)(hs:(ops[g]?).bind (·.dst)=some u:=by rfl)(hd:o.dst=some d:=by rfl)(hG:oV (bN s u) pol C:=by first|exact cA|exact eV|exact lO|exact aAS)(hp:xZ (dA s p)=.own n off:=by rfl)(hR:jU h [(n,Hs.live t cs)]:=by exact ⟨rfl,trivial⟩)(hT:jK P T=some false:=by rfl)(hy:cs[off]?=some y:=by rfl)(hc:C=true→aEB s o.op.operands.toList:=by (intro hC;first|exact trivial|(repeat' (first|exact trivial|refine ⟨?_,?_⟩));all_goals (first|rfl|exact hC|(simp only [Bool.and_eq_true] at hC;first|exact hC.1|exact hC.1.1|exact hC.2)|simp_all))):Ck bb P ops (o::l) ⟨s,h⟩ K:=aW hg hs hd hG (fun _=>fL ho hp hT hy) hc hR h'
theorem ZlA {k off:Nat}(h':Ck bb P ops l ⟨(d,.gd C (.agg ds))::s,h⟩ fun Γ' F=>K Γ' ((([(n,Hs.live t cs)]:List (Nat × Hs)).map (·.1),[])::F))(ho:o.op=.load T p:=by rfl)(hg:o.guard=some (g,pol):=by rfl)(hs:(ops[g]?).bind (·.dst)=some u:=by rfl)(hd:o.dst=some d:=by rfl)(hG:oV (bN s u) pol C:=by first|exact cA|exact eV|exact lO|exact aAS)(hp:xZ (dA s p)=.own n off:=by rfl)(hR:jU h [(n,Hs.live t cs)]:=by exact ⟨rfl,trivial⟩)(hT:jK P T=some true:=by rfl)(hz:mX P T=some k:=by rfl)(hds:(cs.drop off).take k=ds:=by first|exact (rfl:_=[_])|exact (rfl:_=[_,_])|exact (rfl:_=[_,_,_])|exact (rfl:_=[_,_,_,_])|exact (rfl:_=[_,_,_,_,_])|exact (rfl:_=[_,_,_,_,_,_])|exact (rfl:_=[_,_,_,_,_,_,_])|exact (rfl:_=[_,_,_,_,_,_,_,_])|exact (rfl:_=[_,_,_,_,_,_,_,_,_])|exact (rfl:_=[_,_,_,_,_,_,_,_,_,_])|exact (rfl:_=[_,_,_,_,_,_,_,_,_,_,_])|exact (rfl:_=[_,_,_,_,_,_,_,_,_,_,_,_])|exact (rfl:_=[_,_,_,_,_,_,_,_,_,_,_,_,_])|exact (rfl:_=[_,_,_,_,_,_,_,_,_,_,_,_,_,_])|exact (rfl:_=[_,_,_,_,_,_,_,_,_,_,_,_,_,_,_])|exact (rfl:_=[_,_,_,_,_,_,_,_,_,_,_,_,_,_,_,_])|exact (rfl:_=[_,_,_,_,_,_,_,_,_,_,_,_,_,_,_,_,_]))(hk:ds.length=k:=by rfl)(h0:0<k:=by decide)(hc:C=true→aEB s o.op.operands.toList:=by (intro hC;first|exact trivial|(repeat' (first|exact trivial|refine ⟨?_,?_⟩));all_goals (first|rfl|exact hC|(simp only [Bool.and_eq_true] at hC;first|exact hC.1|exact hC.1.1|exact hC.2)|simp_all))):Ck bb P ops (o::l) ⟨s,h⟩ K:=aW hg hs hd hG (fun _=>mA ho hp hT hz hds hk h0) hc hR h'
theorem Zfo (off sz:Nat)(r:Bool){k i:Nat}(h':Ck bb P ops l ⟨(d,.gd C (.own n (k+off)))::s,h⟩ fun Γ' F=>K Γ' ((([(n,Hs.live t cs)]:List (Nat × Hs)).map (·.1),[])::F))(ho:o.op=.fieldAddr T p i:=by rfl)(hg:o.guard=some (g,pol):=by rfl)(hs:(ops[g]?).bind (·.dst)=some u:=by rfl)(hd:o.dst=some d:=by rfl)(hG:oV (bN s u) pol C:=by first|exact cA|exact eV|exact lO|exact aAS)(hp:xZ (dA s p)=.own n k:=by rfl)(hR:jU h [(n,Hs.live t cs)]:=by exact ⟨rfl,trivial⟩)(hf:rR P T i=some (off,sz,r):=by rfl)(hk:k<cs.length:=by first|decide|simp)(hz:sz≠0:=by decide)(hc:C=true→aEB s o.op.operands.toList:=by (intro hC;first|exact trivial|(repeat' (first|exact trivial|refine ⟨?_,?_⟩));all_goals (first|rfl|exact hC|(simp only [Bool.and_eq_true] at hC;first|exact hC.1|exact hC.1.1|exact hC.2)|simp_all))):Ck bb P ops (o::l) ⟨s,h⟩ K:=aW hg hs hd hG (fun _=>eU ho hp hk hf hz) hc hR h'
end
theorem G {G R:Prop}(h:R)(w:Bx R→G:=by
 intro h
 repeat (first
  | refine Z1 mo ?_|refine Z1 aB ?_|refine cn (dn ?_)|refine cn ?_|refine sq ?_|refine Z1 ld ?_|refine Z1 faA ?_|refine Z1 fRA ?_|refine Z4 (fun hC=>mo) ?_|refine Z1 ln ?_|refine Z1 lr ?_|refine Z1 ba ?_|refine Z1 iP ?_|refine Z1 bml ?_|refine Z1 bz ?_|refine Z1 ia ?_|refine tx ?_|refine Z1 bx ?_|refine Z1 ex ?_|refine Z1 an ?_|refine Z1 cC ?_|refine Z1 nt ?_|refine Z5 ?_|refine Z6 ?_
  | refine YlA ?_|refine bG ?_|refine dO ?_|refine Z1 nc ?_|refine Z1 oG ?_|refine Z1 sT ?_|refine Z1 sK ?_|refine Z4 (fun hC=>ld) ?_|refine Z4 (fun hC=>faA) ?_|refine Z4 (fun hC=>fRA) ?_|refine Z4 (fun hC=>ba) ?_|refine Z4 (fun hC=>iP) ?_|refine Z4 (fun hC=>bz) ?_|refine Z4 (fun hC=>ln) ?_|refine Z4 (fun hC=>nt) ?_
  | refine vI 0 1 false ?_|refine vI 1 1 false ?_|refine vI 2 1 false ?_|refine vI 3 1 false ?_|refine vI 4 1 false ?_|refine vI 5 1 false ?_|refine vI 6 1 false ?_|refine vI 7 1 false ?_|refine vI 8 1 false ?_|refine vI 9 1 false ?_|refine vI 10 1 false ?_|refine vI 11 1 false ?_|refine vI 12 1 false ?_|refine vI 13 1 false ?_|refine vI 14 1 false ?_
  | refine Yss ?_|refine Z1 cv ?_|refine Z1 bdA ?_|refine YrA ?_|refine Z2 (alA 0) ?_|refine Z2 (alA 1) ?_|refine Z2 (alA 2) ?_
  | refine ZlA ?_|refine Zlo ?_|refine Zfo 0 1 false ?_|refine Zfo 1 1 false ?_|refine Zfo 2 1 false ?_|refine Zfo 3 1 false ?_|refine Zfo 4 1 false ?_|refine Zfo 5 1 false ?_|refine Z4 (fun hC=>ia) ?_|refine Z4 (fun hC=>by (simp only [Bool.and_eq_true,Bool.or_eq_false_iff,decide_eq_true_eq,decide_eq_false_iff_not,Bool.not_eq_true',Bool.not_eq_false',beq_iff_eq,bne_iff_ne,ne_eq] at hC;exact ia)) ?_|refine Z4 (fun hC=>oG) ?_|refine Z4 (fun hC=>lr) ?_
  | refine aQ ?_|refine bU ?_|refine aP ?_|refine cdT ?_|refine cdF ?_|refine aU ?_|refine aD ?_|refine dw ?_)
 exact h.out):G:=w ⟨h⟩
theorem C {A G R:Prop}(hc:A)(h:R)(w:Bx A→Bx R→G:=by
 intro hc h;refine G ?_
 first|refine Z1 (ca hc.out) ?_|refine Z4 (fun hC=>ca hc.out) ?_
 refine G ?_;exact h.out):G:=w ⟨hc⟩ ⟨h⟩
section
variable {P:Program}{fn:Func}{Γ:Ctx}{e:Exit}{x y z:Av}{r1 r2 r3:ResultVar}{U:List (Nat × Hs)}
theorem R2 (h:fn.results=#[r1,r2]:=by rfl)(h1:aT P Γ r1 x:=by first|exact aT.tmp rfl|exact aT.row rfl rfl (by kernel_rfl) (by kernel_rfl) (Nat.le_of_ble_eq_true rfl))(h2:aT P Γ r2 y:=by first|exact aT.tmp rfl|exact aT.row rfl rfl (by kernel_rfl) (by kernel_rfl) (Nat.le_of_ble_eq_true rfl))(he:e=.ret∨e=.normal:=by first|exact .inl rfl|exact .inr rfl)(hu:jU Γ.h U:=by first|exact trivial|exact ⟨rfl,trivial⟩):(e=.ret∨e=.normal)∧aF P fn Γ (.tup [x,y])∧jU Γ.h U:=⟨he,aF.two h h1 h2,hu⟩
theorem R3 (h:fn.results=#[r1,r2,r3]:=by rfl)(h1:aT P Γ r1 x:=by first|exact aT.tmp rfl|exact aT.row rfl rfl (by kernel_rfl) (by kernel_rfl) (Nat.le_of_ble_eq_true rfl))(h2:aT P Γ r2 y:=by first|exact aT.tmp rfl|exact aT.tmp (aR (by omega)))(h3:aT P Γ r3 z:=by first|exact aT.tmp rfl|exact aT.tmp (aR (by omega)))(he:e=.ret∨e=.normal:=by first|exact .inl rfl|exact .inr rfl)(hu:jU Γ.h U:=by first|exact trivial|exact ⟨rfl,trivial⟩):(e=.ret∨e=.normal)∧aF P fn Γ (.tup [x,y,z])∧jU Γ.h U:=⟨he,aF.three h h1 h2 h3,hu⟩
end
section
variable {P:Program}{bb:Bool}{ops:Array Oper}{o:Oper}{l:List Oper}{s:List (Nat × Av)}{h:List (Nat × Hs)}{K:Ctx→List (List Nat × List Nat)→Prop}{d:Nat}{x:Av}{R:List (Nat × Hs)}
theorem Zg {g t:Nat}{pol C:Bool}(hg:o.guard=some (g,pol))(hs:(ops[g]?).bind (·.dst)=some t)(hd:o.dst=some d)(hG:oV (bN s t) pol C)(hop:C=true→OC P o (fun p=>xZ (dA s p)) R x [])(hR:jU h R)(h':Ck bb P ops l ⟨(d,.gd C x)::s,h⟩ fun Γ' F=>K Γ' ((R.map (·.1),[])::F))
 (hc:C=true→aEB s o.op.operands.toList:=by (intro hC;first|exact trivial|(repeat' (first|exact trivial|refine ⟨?_,?_⟩));all_goals (first|rfl|exact hC|(simp only [Bool.and_eq_true] at hC;first|exact hC.1|exact hC.1.1|exact hC.2)|simp_all))):Ck bb P ops (o::l) ⟨s,h⟩ K:=aW hg hs hd hG hop hc hR h'
end
theorem Gd {G' A B:Prop}(h1:A)(h2:B)(w:Bx A→Bx B→G':=by
 intro h1 h2;refine G ?_;exact cd h1.out h2.out):G':=w ⟨h1⟩ ⟨h2⟩
theorem Rx {P:Program}{Γ:Ctx}{e:Exit}{fn:Func}{x:Av}{t:Nat}{U:List (Nat × Hs)}(hr:fn.results=#[.tmp t])(hx:bN Γ.s t=x)(he:e=.ret∨e=.normal:=by first|exact .inl rfl|exact .inr rfl)(hu:jU Γ.h U:=by first|exact trivial|exact ⟨rfl,trivial⟩):(e=.ret∨e=.normal)∧aF P fn Γ x∧jU Γ.h U:=⟨he,aF.tmp hr hx,hu⟩
section
variable {P:Program}{o:Oper}{ρ:Operand→Av}{p q:Operand}{T:TypeId}
def pZ (P:Program)(T:TypeId):Option TypeId:=match P.underlying T with|some (.pointer e)=>some e|_=>none
theorem vJ {e:TypeId}(h:pZ P T=some e):P.underlying T=some (.pointer e):=by
 unfold pZ at h;split at h
 ·injection h with h;subst h;assumption
 cases h
def aB2 (P:Program)(T:TypeId):Bool:=match P.underlying T with|some .unsafePointer=>true|_=>false
theorem aMU (h:aB2 P T=true):P.underlying T=some .unsafePointer:=by
 unfold aB2 at h;split at h
 ·assumption
 cases h
def zG (P:Program)(e:TypeId):Bool:=match P.info? e with|some i=>i.size !=0|none=>false
theorem aGB {e:TypeId}(h:zG P e=true):∃ i,P.info? e=some i∧i.size≠0:=by
 unfold zG at h;split at h
 ·rename_i i hi;exact ⟨i,hi,by simpa using h⟩
 cases h
theorem aVK {T':TypeId}(ho:o.op=.binOp .eql T p (.const (.pointer none)) T')(hp:ρ p=.val (.pointer none))(hT:(pZ P T).isSome=true):OC P o ρ [] (vb true) []:=bZ fun E c hG hr _=>by
 obtain ⟨e,he⟩:=Option.isSome_iff_exists.1 hT;have h1:=hr p (by simp [ho,Op.operands]);rw [hp] at h1;unfold aA at h1;have hq:∀ d,(Op.equalIn (d+1) T (.pointer none) (.pointer none)).run P E.w=.ok true E.w:=fun d=>by
  unfold Op.equalIn;rw [Sem.run_bind,run_underlying (vJ he) E.w];rfl
 refine ⟨.bool true,?_,by unfold aA;rfl⟩;have h2:c.eval (.const (.pointer none))=.pointer none:=rfl;simp only [execOp,ho,h1,h2,eqGuard,binOp,Op.equal,Sem.run_bind];have:=hq 9999;simp [Op.maxDepth,this]
theorem aVP {T' t:TypeId}{n off:Nat}{y:Av}{cs:List Av}(ho:o.op=.binOp .eql T p (.const (.pointer none)) T')(hp:ρ p=.own n off)(hT:(pZ P T).isSome=true):OC P o ρ [(n,.live t (y::cs))] (vb false) []:=bZ fun E c hG hr hH=>by
 obtain ⟨e,he⟩:=Option.isSome_iff_exists.1 hT;have h1:=hr p (by simp [ho,Op.operands]);rw [hp] at h1;unfold aA at h1;rcases hH n _ (List.mem_singleton.2 rfl) with ⟨_,h2⟩|⟨b,cur,h2,h3,h4⟩
 ·cases h2
 have h5:=h1.2 b h2;have hq:∀ d,(Op.equalIn (d+1) T (.pointer (some ⟨b,off,none⟩)) (.pointer none)).run P E.w=.ok false E.w:=fun d=>by
  unfold Op.equalIn;rw [Sem.run_bind,run_underlying (vJ he) E.w];rfl
 refine ⟨.bool false,?_,by unfold aA;rfl⟩;have h6:c.eval (.const (.pointer none))=.pointer none:=rfl;simp only [execOp,ho,h5,h6,eqGuard,binOp,Op.equal,Sem.run_bind];have:=hq 9999;simp [Op.maxDepth,this]
theorem aVQ {T' t e:TypeId}{n off:Nat}{y:Av}{cs:List Av}(ho:o.op=.binOp .neq T p q T')(hp:ρ p=.own n off)(hq:ρ q=.own n off)(hT:pZ P T=some e)(hs:zG P e=true):OC P o ρ [(n,.live t (y::cs))] (vb false) []:=bZ fun E c hG hr hH=>by
 have h1:=hr p (by simp [ho,Op.operands]);have h2:=hr q (by simp [ho,Op.operands]);rw [hp] at h1;rw [hq] at h2;unfold aA at h1 h2;rcases hH n _ (List.mem_singleton.2 rfl) with ⟨_,h3⟩|⟨b,cur,h3,_,_⟩
 ·cases h3
 obtain ⟨j,hj,_⟩:=aGB hs;refine ⟨.bool false,?_,by unfold aA;rfl⟩;simp only [execOp,ho,h1.2 b h3,h2.2 b h3,eqGuard,Sem.run_bind];have:=Lib.run_neq_ptr_same (P:=P) E.w (⟨b,off,none⟩:Addr) (vJ hT) hj;simp [this]
theorem aGC {E:Env}{n:Nat}{t:TypeId}{cs:List Av}{y:Av}(h:dI E n (.live t (y::cs))):∃ (b:Nat) (cur:Array Value),E.loc n=.at b∧E.w.heap[b]?=some (.cells cur t (0,0))∧E.w.shape? b=some (t,cur.size)∧(y::cs).length≤cur.size:=by
 rcases h with ⟨_,h2⟩|⟨b,cur,h2,h3,h4⟩
 ·cases h2
 refine ⟨b,cur,h2,h3,by simp [World.shape?,h3],?_⟩;have hl:(y::cs).length-1<(y::cs).length:=by simp
 obtain ⟨u,hu,_⟩:=h4 ((y::cs).length-1) _ (List.getElem?_eq_getElem hl);have:=(Array.getElem?_eq_some_iff.1 hu).1;omega
theorem aVL {S t e:TypeId}{n:Nat}{y:Av}{cs:List Av}(ho:o.op=.convert S T p)(hp:ρ p=.own n 0)(hS:pZ P S=some e)(hT:aB2 P T=true)(he:zG P e=true):OC P o ρ [(n,.live t (y::cs))] (.own n 0) []:=bZ fun E c hG hr hH=>by
 have h1:=hr p (by simp [ho,Op.operands]);rw [hp] at h1;have h1':=h1;unfold aA at h1;obtain ⟨b,cur,h2,h3,h4,h5⟩:=aGC (hH n _ (List.mem_singleton.2 rfl));obtain ⟨j,hj,hj0⟩:=aGB he;have h6:=h1.2 b h2;refine ⟨.pointer (some ⟨b,0,none⟩),?_,by rw [←h6];exact h1'⟩;have:=Lib.run_to_unsafe (P:=P) E.w ⟨b,0,none⟩ (vJ hS) (aMU hT) hj hj0 h4 (by simp at h5;show 0<_;omega);simp [execOp,ho,h6,Sem.run_bind,this]
theorem aW6 {e:TypeId}{s:Nat}(hc:P.cellsOf e=s)(h0:s≠0)(count:Nat)(hn:1≤count):liesAt P P.depth e count 0 e 1=true:=by
 have hd:P.depth=(2*(P.types.size+Made.depth)+1)+1:=rfl;rw [hd];simp only [liesAt,Bool.or_eq_true];left;rw [hd];simp [rowAt,hc,hn,h0,sameLayout]
theorem aVN {S t:TypeId}{n:Nat}{y:Av}{cs:List Av}(ho:o.op=.convert S T p)(hp:ρ p=.own n 0)(hS:aB2 P S=true)(hT:pZ P T=some t)(he:zG P t=true)(hk:Nat.ble (P.cellsOf t) (y::cs).length=true)(hk0:P.cellsOf t≠0):OC P o ρ [(n,.live t (y::cs))] (.own n 0) []:=bZ fun E c hG hr hH=>by
 have h1:=hr p (by simp [ho,Op.operands]);rw [hp] at h1;have h1':=h1;unfold aA at h1;obtain ⟨b,cur,h2,h3,h4,h5⟩:=aGC (hH n _ (List.mem_singleton.2 rfl));obtain ⟨j,hj,hj0⟩:=aGB he;have h6:=h1.2 b h2;refine ⟨.pointer (some ⟨b,0,none⟩),?_,by rw [←h6];exact h1'⟩;have hcount:1≤cur.size/P.cellsOf t:=by
  have:=Nat.le_of_ble_eq_true hk;exact (Nat.one_le_div_iff (by omega)).2 (by omega)
 have:=Lib.run_from_unsafe (P:=P) E.w ⟨b,0,none⟩ (aMU hS) (vJ hT) hj h4 (aW6 rfl hk0 _ hcount);simp [execOp,ho,h6,Sem.run_bind,this]
theorem aVM {f : Nat} {fn : Func} {tys : Array TypeId} {x : Av} (ho : o.op = .call { callee := .value (.func f), args := #[p], argTypes := tys }) (hp : ρ p = x) (hf : P.funcs[f]? = some fn) (h1 : (fn.name == "runtime.NumGoroutine") = false) (h2 : fn.body.isNone = true) (h3 : Extern.findNext fn = none) (h4 : Extern.find fn = some Extern.AbiNoEscape.same) : OC P o ρ [] x [] := bZ fun E c hG hr _ => by
 have hx:=hr p (by simp [ho,Op.operands,Call.operands]);rw [hp] at hx;refine ⟨c.eval p,?_,hx⟩;have:=run_callFunc_extern (P:=P) hf h1 h2 h3 h4 #[c.eval p] E.w;rw [Lib.run_noEscape] at this;simp only [Result.andThen] at this;unfold execOp;simp only [ho,resolve,Deferred.ofValue,Act.eval,Sem.run_bind,Sem.run_pure,Result.andThen_ok,invoke,Array.append_empty,Array.empty_append,List.map_toArray,List.map_cons,List.map_nil];exact this
def dP (s:ByteArray):List Av:=s.data.toList.map fun c=>.val (.int .u8 c.toNat)
theorem aFX (s:ByteArray):(dP s).length=s.size:=by unfold dP;rw [List.length_map,Array.length_toList];rfl
theorem aVT (a b:ByteArray):dP (a++b)=dP a++dP b:=by unfold dP;rw [ByteArray.data_append,Array.toList_append,List.map_append]
theorem aW7 {E:Env}(s:ByteArray):aG E (dP s) (Lib.strCells s):=by
 unfold dP Lib.strCells
 induction s.data.toList with
 | nil=>unfold List.map aG;rfl
 | cons c l ih=>
  rw [List.map_cons,List.map_cons];unfold aG;exact ⟨_,_,rfl,by unfold aA;rfl,ih⟩
theorem aW8 {t u e ty:TypeId}{w:World}{i:TypeInfo}(ht:P.underlying t=some (.slice e))(hu:P.underlying u=some .string)(hi:P.info? e=some i)(hz:i.zero=some (.int .u8 0))(hsize:i.size=1)(hby:i.bytes=1)
 {v:Value} {n:Nat} {xs:List Value} (hown:w.ownsRow 0 e 1 v n xs) (s:ByteArray) (hb:n+s.size≤140737488355328):
 ∃ v' w',(Builtin.append_ #[t,u] ty #[v,.string s]).run P w=.ok v' w'∧w'.ownsRow 0 e 1 v' (n+s.size) (xs++Lib.strCells s)∧w.grownBy w' v.ownBlock∧(v'.ownBlock=v.ownBlock∨v'.ownBlock=some w.heap.size):=by
 obtain ⟨v',w',r,h2,h3,h4⟩:=Lib.run_append_own_string (P:=P) w 0 t u ty e i ht hu hi hz hsize hby v n xs hown s (by simp only [maxLen];omega) hb (Nat.zero_le _);refine ⟨v',w',r,h2,h3,?_⟩;have hxl:xs.length=n:=by simpa using hown.1
 rcases hown.2 with ⟨rfl,rfl⟩|⟨g,cap,cur,rfl,_,hg,hnc,hcm,hcs,_⟩
 ·by_cases hm:s.size=0
  ·exact .inl (by rw [h4.2 ⟨rfl,hm⟩])
  have hr:=run_append_nil_string (P:=P) w t u ty e i (.int .u8 0) ht hu hi hz s (by omega) (by omega) (by rw [hby];omega);rw [hr] at r;injection r with r1 r2
  exact .inr (by rw [←r1];rfl)
 by_cases hroom:n+s.size≤cap
 ·have hr:=Lib.run_append_room_string (P:=P) w t u ty e i ht hu hi hsize g n cap cur hg s hroom (by omega);rw [hr] at r;injection r with r1 r2
  exact .inl (by rw [←r1];rfl)
 have hr:=Lib.run_append_grow_string (P:=P) w t u ty e i (.int .u8 0) ht hu hi hz ⟨g,0,none⟩ n cap xs (by rw [hsize];simpa using hxl) (hown.cells (g:=g) rfl) s (by omega) (by omega) (by rw [hby];exact growslice_fits (by omega) (by omega));rw [hr] at r;injection r with r1 r2
 exact .inr (by rw [←r1];rfl)
theorem aW9 {t u:TypeId}{a:Act}{w:World}(ho:o.op=.call { callee:=.builtin .append,args:=#[p,q],argTypes:=#[t,u] }){v':Value}{w':World}(hrun:(Builtin.append_ #[t,u] o.type #[a.eval p,a.eval q]).run P w=.ok v' w'):(execOp a.eval o).run P w=.ok (.value v') w':=by
 unfold execOp;simp only [ho,resolve,invoke,builtin,Sem.run_bind,Sem.run_pure,Result.andThen_ok,List.map_toArray,List.map_cons,List.map_nil,hrun]
theorem aVS {e T2:TypeId}{n len:Nat}{cs:List Av}{s:ByteArray}(m:Nat)(ho:o.op=.call { callee:=.builtin .append,args:=#[p,q],argTypes:=#[T,T2] })(hp:ρ p=.osl 1 n len)(hq:ρ q=vs s)(hT:eB P T=some e)(hT2:oD P T2=true)(hi:lW P e=some (1,1,[.int .u8 0]))(hz0:(P.info? e).bind (·.zero)=some (.int .u8 0))(hnm:n≠m)(hl:cs.length=len)(hb:len+s.size≤140737488355328):
 OC P o ρ [(n,.live e cs),(m,.unborn)] (.osl 1 m (len+s.size)) [(n,.dead),(m,.live e (cs++dP s))]:=by
 intro E a hG hr hH;have h1:=hr p (by simp [ho,Op.operands,Call.operands]);have h2:=hr q (by simp [ho,Op.operands,Call.operands]);rw [hp] at h1;rw [hq] at h2;have h2':a.eval q=.string s:=by unfold aA at h2;exact h2
 have hn:=hH n (.live e cs) (by simp);have hu:E.loc m=.unborn:=hH m .unborn (by simp);obtain ⟨xs,g1,g2,g3,g4⟩:=aMV h1 hn (by rw [hl,Nat.mul_one]);obtain ⟨i,z,i1,i2,i3,i4,i5⟩:=vK hi;have hz:z=.int .u8 0:=by
  rw [i1] at hz0;simp only [Option.bind_some,i2] at hz0;exact Option.some.inj hz0
 subst hz;obtain ⟨v',w',r1,r2,r3,r4⟩:=aW8 (ty:=o.type) (tR hT) (xF hT2) i1 i2 i3 i4 g1 s hb;unfold eK;rw [aW9 ho (by rw [h2'];exact r1)];have hn0:E.loc n≠.unborn:=by unfold aA at h1;exact h1.1.1
 exact aMW hG hnm hu hn0 g2 (aW7 s) g3 (fun u hu=>by obtain ⟨c,_,rfl⟩:=List.mem_map.1 hu;rfl) g4 r2 r3 r4
theorem aMX {k m n:Nat}(ho:o.op=.call { callee:=.builtin .len,args:=#[p],argTypes:=#[T] })(hp:ρ p=.osl k m n)(hT:tS P T=true):OC P o ρ [] (.val (.int .i64 n)) []:=bZ fun E a hG hr _=>by
 have h1:=hr p (by simp [ho,Op.operands,Call.operands]);rw [hp] at h1;unfold aA at h1;obtain ⟨⟨_,⟨A,c,hv⟩,_⟩,_⟩:=h1;obtain ⟨e,he⟩:=aB3 hT;refine ⟨.int .i64 n,?_,by unfold aA;rfl⟩;simp [execOp,ho,resolve,invoke,builtin,Builtin.len_,Sem.run_bind,run_underlying he,hv,goInt]
theorem zH {a:Act}{w w':World}{v:Value}(ho:o.op=.call { callee:=.builtin .unsafeSliceData,args:=#[p],argTypes:=#[T] })(hrun:(Builtin.unsafeSliceData_ #[T] o.type #[a.eval p]).run P w=.ok v w'):(execOp a.eval o).run P w=.ok (.value v) w':=by
 unfold execOp;simp only [ho,resolve,invoke,builtin,Sem.run_bind,Sem.run_pure,Result.andThen_ok,List.map_toArray,List.map_cons,List.map_nil,hrun]
theorem aGD {T2:TypeId}{a:Act}{w w':World}{v:Value}(ho:o.op=.call { callee:=.builtin .unsafeString,args:=#[p,q],argTypes:=#[T,T2] })(hrun:(Builtin.unsafeString_ #[T,T2] o.type #[a.eval p,a.eval q]).run P w=.ok v w'):(execOp a.eval o).run P w=.ok (.value v) w':=by
 unfold execOp;simp only [ho,resolve,invoke,builtin,Sem.run_bind,Sem.run_pure,Result.andThen_ok,List.map_toArray,List.map_cons,List.map_nil,hrun]
theorem aXA {t:TypeId}{m len:Nat}{cs:List Av}(ho:o.op=.call { callee:=.builtin .unsafeSliceData,args:=#[p],argTypes:=#[T] })(hp:ρ p=.osl 1 m len)(hc0:0<cs.length)(h0:0<len):OC P o ρ [(m,.live t cs)] (.own m 0) []:=bZ fun E a hG hr hH=>by
 cases cs with
 | nil=>simp at hc0
 | cons y cs=>
 have h1:=hr p (by simp [ho,Op.operands,Call.operands]);rw [hp] at h1;unfold aA at h1;obtain ⟨b,cur,h2,h3,h4,h5⟩:=aGC (hH m _ (List.mem_singleton.2 rfl));obtain ⟨c,cur',t',h6,h7,_⟩:=h1.2 b h2;refine ⟨.pointer (some ⟨b,0,none⟩),zH ho ?_,?_⟩
 ·rw [h6];exact Lib.run_unsafeSliceData_row _ _ _ _ _ _ (by omega)
 unfold aA;exact ⟨⟨h1.1.1,_,rfl⟩,fun b' hb'=>by rw [h2] at hb';injection hb' with hb';rw [hb']⟩
theorem aXB {T2:TypeId}{m:Nat}(ho:o.op=.call { callee:=.builtin .unsafeString,args:=#[p,q],argTypes:=#[T,T2] })(hp:ρ p=.own m 0)(hq:ρ q=vi 0):OC P o ρ [] (vs ByteArray.empty) []:=bZ fun E a hG hr _=>by
 have h1:=hr p (by simp [ho,Op.operands,Call.operands]);have h2:=hr q (by simp [ho,Op.operands,Call.operands]);rw [hp] at h1;rw [hq] at h2;unfold aA at h1 h2;obtain ⟨⟨_,x,hx⟩,_⟩:=h1;exact ⟨.string .empty,aGD ho (by rw [hx,h2];exact Lib.run_unsafeString_none _ _ _ _ _),by unfold aA;rfl⟩
theorem xG {w:World}{g k n:Nat}(h:k≠g):(w.freeze ⟨g,0,none⟩ n).heap[k]?=w.heap[k]?:=by
 unfold World.freeze;split
 ·rfl
 show (w.heap.modify g _)[k]?=_;rw [Array.getElem?_modify,if_neg (fun e=>h e.symm)]
theorem aMY {w:World}{g n:Nat}:(w.freeze ⟨g,0,none⟩ n).heap.size=w.heap.size∧(w.freeze ⟨g,0,none⟩ n).os=w.os∧(w.freeze ⟨g,0,none⟩ n).tape=w.tape∧(w.freeze ⟨g,0,none⟩ n).output=w.output:=by
 unfold World.freeze;split
 ·exact ⟨rfl,rfl,rfl,rfl⟩
 exact ⟨by simp,rfl,rfl,rfl⟩
end
section
variable {P:Program}{o:Oper}{ρ:Operand→Av}{p:Operand}{T T':TypeId}
def svB (P:Program)(T T':TypeId):Bool:=oD P T&&(match P.underlying T' with|some (.slice e)=>(match P.underlying e with|some (.int .u8)=>true|_=>false)|_=>false)
theorem ah8 (h:svB P T T'=true):P.underlying T=some .string∧∃ e,P.underlying T'=some (.slice e)∧P.underlying e=some (.int .u8):=by
 unfold svB at h;rw [Bool.and_eq_true] at h;refine ⟨xF h.1,?_⟩;have h2:=h.2;split at h2
 ·rename_i e he;split at h2
  ·rename_i h3;exact ⟨e,he,h3⟩
  cases h2
 cases h2
theorem aS5 {s:ByteArray}(hs:s.size≤9223372036854775807)(ho:o.op=.convert T T' p:=by rfl)(hp:ρ p=vs s:=by rfl)(hT:svB P T T'=true:=by kernel_rfl):OC P o ρ [] (bs (jZ s)) []:=aEP fun E a hG hr=>by
 have h1:=hr p (by simp [ho,Op.operands]);rw [hp] at h1;unfold aA at h1;obtain ⟨t1,e,t2,t3⟩:=ah8 hT;have hrun:=run_bytes_of_string (P:=P) E.w T T' e s t1 t2 t3;have hlen:(jZ s).length=s.size:=by unfold jZ;rw [List.length_map,Array.length_toList];rfl
 have hmx:maxLen=9223372036854775807:=rfl;refine ⟨_,_,by simp only [execOp,ho,h1,Sem.run_bind,hrun,Result.andThen_ok,Sem.run_pure];rfl,((Below.refl _ _).drew.alloc (Nat.le_refl _) _),?_⟩;rw [←hlen];refine aEX (fun hl=>⟨E.w.heap.size,0,rfl,⟨by simp,fun hb=>?_,fun n hn=>?_⟩,fun j u hu=>?_⟩) (by rw [hlen];exact grownCap_ge _ _ _ _) (grownCap_le_maxLen _ _ _ _ (by rw [hlen,hmx];exact hs))
 ·have:=hG.old _ hb;omega
 ·have:=(hG.lt n _ hn).1;omega
 have hj:j<s.data.size:=by
  have:=(List.getElem?_eq_some_iff.1 hu).1;rw [mL,hlen] at this;exact this
 rw [Nat.zero_add,cell_of_row _ E.w.heap.size j _ e _ (heap_alloc_new E.w.drew _),hlen,bytesRow_at _ _ _ hj,←hu];unfold cb jZ;rw [List.getElem?_map,List.getElem?_map,Array.getElem?_toList,Array.getElem?_eq_getElem hj];rfl
theorem aE9 {w:World}{g k m:Nat}(h:k≠g):(w.freeze ⟨g,m,none⟩ 1).heap[k]?=w.heap[k]?:=by
 unfold World.freeze;rw [if_neg (by decide)];show (w.heap.modify g _)[k]?=_;rw [Array.getElem?_modify,if_neg (fun e=>h e.symm)]
theorem ah9 {w:World}{g m:Nat}{cur:Array Value}{t:TypeId}(h:w.heap[g]?=some (.cells cur t (0,0))):(w.freeze ⟨g,m,none⟩ 1).heap[g]?=some (.cells cur t (m,m+1)):=by
 unfold World.freeze;rw [if_neg (by decide)];show (w.heap.modify g _)[g]?=_;rw [Array.getElem?_modify,if_pos rfl,h];rfl
theorem aiA {w:World}{g m:Nat}:(w.freeze ⟨g,m,none⟩ 1).heap.size=w.heap.size∧(w.freeze ⟨g,m,none⟩ 1).os=w.os∧(w.freeze ⟨g,m,none⟩ 1).tape=w.tape∧(w.freeze ⟨g,m,none⟩ 1).output=w.output:=by
 unfold World.freeze;rw [if_neg (by decide)];exact ⟨by simp,rfl,rfl,rfl⟩
def b2B (P:Program)(T:TypeId):Bool:=match P.underlying T with|some (.slice e)=>(match P.underlying e with|some (.int .u8)=>true|_=>false)|_=>false
theorem aiB (h:b2B P T=true):∃ e,P.underlying T=some (.slice e)∧P.underlying e=some (.int .u8):=by
 unfold b2B at h;split at h
 ·rename_i e he;split at h
  ·rename_i h3;exact ⟨e,he,h3⟩
  cases h
 cases h
theorem aQM {n len:Nat}{t:TypeId}{cs:List Av}(xs:List Int)(hl:0<len)(hx:xs.length=len)(hc:∀ (j:Nat) (x:Int),xs[j]?=some x→cs[j]?=some (Av.val (.int .u8 x)))(ho:o.op=.convert T T p:=by rfl)(hp:ρ p=.osl 1 n len:=by rfl)(hT:b2B P T=true:=by kernel_rfl):OC P o ρ [(n,.live t cs)] (bs xs) [(n,.dead)]:=by
 intro E a hG hr hH;have h1:=hr p (by simp [ho,Op.operands]);rw [hp] at h1;unfold aA at h1;obtain ⟨e,t1,t2⟩:=aiB hT;rcases hH n (.live t cs) (by simp) with ⟨h3,_⟩|⟨b,cur,h3,h4,h5⟩
 ·obtain ⟨_,h6⟩:=h1.1.2.2 h3;omega
 obtain ⟨c,cur',t',h6,h7,h8,h9,h10⟩:=h1.2 b h3;have hsh:E.w.shape? b=some (t,cur.size):=by simp [World.shape?,h4]
 have hrun:(convert T T (a.eval p)).run P E.w=.ok (a.eval p) (E.w.freeze ⟨b,cur.size,none⟩ 1):=by
  rw [h6];simp only [convert,Sem.run_bind,run_underlying t1,run_underlying t2,Result.andThen_ok,beq_self_eq_true,markStringish,run_shape,hsh,run_freeze,Sem.run_pure]
 unfold eK execOp;simp only [ho,Sem.run_bind,hrun,Result.andThen_ok,Sem.run_pure,fM];obtain ⟨f1,f2,f3,f4⟩:=aiA (w:=E.w) (g:=b) (m:=cur.size)
 let E':Env:={ w:=E.w.freeze ⟨b,cur.size,none⟩ 1,loc:=fun i=>if i=n then .dead else E.loc i,bad:=E.bad }
 have hne:∀ i c,E'.loc i=.at c→i≠n∧E.loc i=.at c:=fun i c hi=>by
  by_cases e:i=n
  ·simp [E',e] at hi
  simp [E',e] at hi;exact ⟨e,hi⟩
 have hob:∀ i c,i≠n→E.loc i=.at c→c≠b:=fun i c hi hc e=>hi (hG.inj i n b (by rw [←e];exact hc) h3)
 refine ⟨E',rfl,⟨f2,f3,f4,by rw [show E'.w.heap.size=E.w.heap.size from f1];exact Nat.le_refl _,rfl,fun c hlt hno=>aE9 (fun e=>hno n (by rw [e];exact h3)),fun i hi=>?_,fun i hi=>?_,fun i c hi=>.inl (hne i c hi).2,fun i hi=>?_,fun i c cur' t' hi hi' hcc=>?_⟩,⟨fun c hc=>by rw [show E'.w.heap.size=E.w.heap.size from f1];exact hG.old c hc,fun i j c hi hj=>hG.inj i j c (hne i c hi).2 (hne j c hj).2,fun i c hi=>?_,hG.shp.same fun c hc=>⟨⟨?_,hc.2.1,fun i hi=>hc.2.2 i (hne i c hi).2⟩,?_⟩⟩,?_,fun i y hi=>?_⟩
 ·have hi:i≠n:=by simpa using hi
  exact ⟨by simp [E',hi],fun c hc=>aE9 (hob i c hi hc)⟩
 ·by_cases e:i=n
  ·simp [E',e]
  simpa [E',e] using hi
 ·by_cases e:i=n
  ·simp [E',e] at hi
  simp [E',e] at hi;exact .inl hi
 ·exact ⟨cur',(aE9 (hob i c (hne i c hi).1 hi')).trans hcc,rfl⟩
 ·have:=hG.lt i c (hne i c hi).2;exact ⟨by rw [show E'.w.heap.size=E.w.heap.size from f1];exact this.1,this.2⟩
 ·rw [show E'.w.heap.size=E.w.heap.size from f1];exact hc.1
 ·exact aE9 (fun e=>hc.2.2 n (by rw [e];exact h3))
 ·rw [h6,←hx];refine aEX (fun _=>⟨b,0,rfl,⟨by rw [show E'.w.heap.size=E.w.heap.size from f1];exact (hG.lt n b h3).1,(hG.lt n b h3).2,fun i hi=>hob i b (hne i b hi).1 (hne i b hi).2 rfl⟩,fun j u hu=>?_⟩) (by omega) h8;rw [Nat.zero_add,cell_of_row _ b j _ t _ (ah9 h4)];unfold cb at hu;rw [List.getElem?_map] at hu;cases hx':xs[j]? with
  | none=>rw [hx'] at hu;cases hu
  | some x=>
   rw [hx'] at hu;simp at hu;obtain ⟨u',h11,_,h12⟩:=h5 j _ (hc j x hx');unfold aA at h12;rw [h11,h12,hu]
 simp only [aL] at hi;by_cases e:n=i
 ·subst e;simp at hi;subst hi;show E'.loc n=.dead;simp [E']
 rw [eY e,cond_false] at hi;cases hi
end
theorem uZ {x:Av}{k:Nat}(h:eQ x k=true):∀ j,j<1→eQ (gE [x] j) k=true∧∀ i y,i<k→(cL x)[j*k+i]?=some y→(cL (gE [x] j))[i]?=some y:=fun j hj=>by
 have:j=0:=by omega
 subst this;exact ⟨h,fun i y _ hy=>by rw [Nat.zero_mul,Nat.zero_add] at hy;exact hy⟩
abbrev bK:=Int × Int
def aI:bK:=(0,0)
def iV (x:bK):Av:=.agg [vi x.1,vi x.2]
def iU (l:List bK):Av:=.sl 2 l.length fun j=>iV (l.getD j aI)
theorem sU (l:List bK):aN (iU l):=by unfold iU aN;intro j;simp [iV,aN,bE]
instance (l:List bK):Pu (iU l):=⟨sU l⟩
instance (x:bK):Pu (iV x):=⟨by unfold iV;exact Pu.out⟩
end Go.Proofs.YtgajclaoaphgoaaGreatDoor
