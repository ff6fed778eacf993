/- Parts of the proof of a law of this seat: rules and contracts; no conditions. -/
import Derived.Test.YtgajclaoaphgoaaGreatDoorMx
import Derived.KernelRfl
import Derived.Test.YtgajclaoaphgoaaGreatDoorAv
import Derived.Test.YtgajclaoaphgoaaGreatDoorProg
import Derived.Lib.AppendZeros
set_option maxHeartbeats 6400000
set_option maxRecDepth 100000
set_option linter.unusedVariables false
set_option linter.unusedSimpArgs false
namespace Go.Proofs.YtgajclaoaphgoaaGreatDoor
open Go.RowKit
class Pu (x:Av):Prop where
 out:aN x
class PuL (xs:List Av):Prop where
 out:bE xs
instance:Pu .any:=⟨by unfold aN;trivial⟩
instance (v:Value):Pu (.val v):=⟨by unfold aN;trivial⟩
instance:PuL []:=⟨by unfold bE;trivial⟩
instance (x:Av) (xs:List Av) [a:Pu x] [b:PuL xs]:PuL (x::xs):=⟨by unfold bE;exact ⟨a.out,b.out⟩⟩
instance (cs:List Av) [a:PuL cs]:Pu (.agg cs):=⟨by unfold aN;exact a.out⟩
instance (cs:List Av) [a:PuL cs]:Pu (.tup cs):=⟨by unfold aN;exact a.out⟩
instance (f:Nat) (cs:List Av) [a:PuL cs]:Pu (.clo f cs):=⟨by unfold aN;exact a.out⟩
instance (f:Nat) (cs:List Av) [a:PuL cs]:Pu (.bm f cs):=⟨by unfold aN;exact a.out⟩
instance (x:Av) [a:Pu x]:Pu (.ptr x):=⟨by unfold aN;exact a.out⟩
instance (x:Av) [a:Pu x]:Pu (.nz x):=⟨by unfold aN;exact a.out⟩
instance (k n:Nat) (r:Nat→Av) [a:∀ j,Pu (r j)]:Pu (.sl k n r):=⟨by unfold aN;exact fun j=>(a j).out⟩
instance (P:Program) (k e:TypeId) (D:DataW Unit):Pu (.fm P k e D):=⟨by unfold aN;trivial⟩
instance (xs:List Int) (j:Nat):Pu (bv xs j):=⟨by unfold bv aN;trivial⟩
instance (xs:List Int):Pu (bs xs):=⟨oP xs⟩
section
variable {P:Program}{bb:Bool}{ops:Array Oper}{o:Oper}{l:List Oper}{s:List (Nat × Av)}{h:List (Nat × Hs)}{K:Ctx→List (List Nat × List Nat)→Prop}{d:Nat}{x y:Av}{R U:List (Nat × Hs)}{p q r:Operand}{ρ:Operand→Av}{T T' S:TypeId}
theorem Z1 (hop:OC P o (dA s) R x [])(h':Ck bb P ops l ⟨(d,x)::s,h⟩ fun Γ' F=>K Γ' ((R.map (·.1),[])::F))(hg:o.guard=none:=by rfl)(hd:o.dst=some d:=by rfl)(hR:jU h R:=by first|trivial|exact ⟨rfl,trivial⟩):Ck bb P ops (o::l) ⟨s,h⟩ K:=eL hg hd hop hR h'
theorem Z2 (hop:OC P o (dA s) R x U)(h':Ck bb P ops l ⟨(d,x)::s,U++h⟩ fun Γ' F=>K Γ' ((R.map (·.1),U.map (·.1))::F))(hg:o.guard=none:=by rfl)(hd:o.dst=some d:=by rfl)(hR:jU h R:=by first|exact ⟨rfl,trivial⟩|exact ⟨rfl,rfl,trivial⟩|trivial):Ck bb P ops (o::l) ⟨s,h⟩ K:=aZ hg hd hop hR h'
theorem Z4 {g t:Nat}{pol C:Bool}(hop:C=true→OC P o (fun p=>xZ (dA s p)) R x [])(h':Ck bb P ops l ⟨(d,.gd C x)::s,h⟩ fun Γ' F=>K Γ' ((R.map (·.1),[])::F))(hg:o.guard=some (g,pol):=by rfl)(hs:(ops[g]?).bind (·.dst)=some t:=by rfl)(hd:o.dst=some d:=by rfl)
 (hG:oV (bN s t) pol C:=by first|exact cA|exact eV|exact lO|exact aAS) (hc:C=true→aEB s o.op.operands.toList:=by (intro hC;first|exact trivial|(repeat' (first|exact trivial|refine ⟨?_,?_⟩));all_goals (first|rfl|exact hC|(simp only [Bool.and_eq_true] at hC;first|exact hC.1|exact hC.1.1|exact hC.2)|simp_all))) (hR:jU h R:=by first|trivial|exact ⟨rfl,trivial⟩):Ck bb P ops (o::l) ⟨s,h⟩ K:=aW hg hs hd hG hop hc hR h'
theorem mo (ho:o.op=.move p:=by rfl)(hx:ρ p=x:=by first|exact (rfl:_=Av.val _)|exact (rfl:_=Av.sl _ _ _)|exact (rfl:_=Av.ptr _)|exact (rfl:_=Av.own _ _)|exact (rfl:_=Av.osl _ _ _)|exact (rfl:_=Av.agg _)|exact (rfl:_=Av.tup _)|exact (rfl:_=Av.clo _ _)|exact (rfl:_=Av.mp _)|exact (rfl:_=Av.fm _ _ _ _)|rfl):OC P o ρ [] x []:=oM ho hx
theorem aB (ho:o.op=.assign p:=by rfl)(hx:ρ p=x:=by first|exact (rfl:_=Av.val _)|exact (rfl:_=Av.sl _ _ _)|exact (rfl:_=Av.ptr _)|exact (rfl:_=Av.own _ _)|exact (rfl:_=Av.osl _ _ _)|exact (rfl:_=Av.agg _)|exact (rfl:_=Av.tup _)|exact (rfl:_=Av.clo _ _)|exact (rfl:_=Av.mp _)|exact (rfl:_=Av.fm _ _ _ _)|rfl):OC P o ρ [] x []:=ad4 ho hx
theorem bz {op:BinOp}{k:IntKind}{m n:Int}{z:Value}(ho:o.op=.binOp op T p q T':=by rfl)(hp:ρ p=.val (.int k m):=by rfl)(hq:ρ q=.val (.int k n):=by rfl)(hz:nR op k m n=some z:=by rfl):OC P o ρ [] (.val z) []:=xI ho hp hq hz
theorem ba {m n:Int}{z:Value}(ho:o.op=.binOp .add T p q T':=by rfl)(hp:ρ p=.val (.int .i64 m):=by rfl)(hq:ρ q=.val (.int .i64 n):=by rfl)(hz:nR .add .i64 m n=some z:=by first|exact aNJ (by omega) (by omega)|rfl):OC P o ρ [] (.val z) []:=xI ho hp hq hz
theorem iP {m n:Int}{z:Value}(ho:o.op=.binOp .sub T p q T':=by rfl)(hp:ρ p=.val (.int .i64 m):=by rfl)(hq:ρ q=.val (.int .i64 n):=by rfl)(hz:nR .sub .i64 m n=some z:=by first|exact ad5 (by omega) (by omega)|rfl):OC P o ρ [] (.val z) []:=xI ho hp hq hz
theorem bml {m n:Int}{z:Value}(ho:o.op=.binOp .mul T p q T':=by rfl)(hp:ρ p=.val (.int .i64 m):=by rfl)(hq:ρ q=.val (.int .i64 n):=by rfl)(hz:nR .mul .i64 m n=some z:=by first|exact ad6 (by omega) (by omega)|rfl):OC P o ρ [] (.val z) []:=xI ho hp hq hz
theorem fa (off:Nat){i:Nat}{cs:List Av}(ho:o.op=.fieldAddr T p i:=by rfl)(hp:ρ p=.ptr x:=by rfl)(hx:x=.agg cs:=by rfl)(hf:rR P T i=some (off,1,false):=by kernel_rfl)(hy:cs[off]?=some y:=by rfl):OC P o ρ [] (.ptr y) []:=aQ6 ho hp hx hf hy
theorem qK (off sz:Nat){i:Nat}{cs:List Av}(ho:o.op=.fieldAddr T p i:=by rfl)(hp:ρ p=.ptr x:=by rfl)(hx:x=.agg cs:=by rfl)(hf:rR P T i=some (off,sz,true):=by kernel_rfl)(hz:sz≠0:=by decide):OC P o ρ [] (.ptr (.agg ((cs.drop off).take sz))) []:=ad7 ho hp hx hf hz
theorem fo (off sz:Nat)(r:Bool){n k i:Nat}{t:TypeId}{cs:List Av}(ho:o.op=.fieldAddr T p i:=by rfl)(hp:ρ p=.own n k:=by rfl)(hk:k<cs.length:=by first|decide|simp)(hf:rR P T i=some (off,sz,r):=by kernel_rfl)(hz:sz≠0:=by decide):OC P o ρ [(n,.live t cs)] (.own n (k+off)) []:=eU ho hp hk hf hz
theorem ld (ho:o.op=.load T p:=by rfl)(hp:ρ p=.ptr x:=by rfl)(hT:jK P T=some false:=by kernel_rfl)(hx:∀ E v,aA E x v→v.oneCell'=true:=by first|exact oH|exact aAT|exact aJD|exact aJE|exact aEC|exact aAU|exact aQ7):OC P o ρ [] x []:=pV ho hp hT hx
theorem lr {cs:List Av}(ho:o.op=.load T p:=by rfl)(hp:ρ p=.ptr x:=by rfl)(hT:jK P T=some true:=by kernel_rfl)(hs:mX P T=some cs.length:=by kernel_rfl)(hx:x=.agg cs:=by rfl):OC P o ρ [] (.agg cs) []:=(ad8 ho hp hT hs hx).cast hx
theorem lo {n off:Nat}{t:TypeId}{cs:List Av}(ho:o.op=.load T p:=by rfl)(hp:ρ p=.own n off:=by rfl)(hT:jK P T=some false:=by kernel_rfl)(hy:cs[off]?=some y:=by rfl):OC P o ρ [(n,.live t cs)] y []:=fL ho hp hT hy
theorem ca {f:Nat}{args:List Operand}{tys:Array TypeId}{xs:List Av}(hc:PC P f xs x)(ho:o.op=.call { callee:=.value (.func f),args:=args.toArray,argTypes:=tys }:=by rfl)(hf:dN P f=true:=by kernel_rfl)(hxs:args.map ρ=xs:=by rfl)(a:PuL xs:=by infer_instance)(b:Pu x:=by infer_instance):OC P o ρ [] x []:=jP ho hf hc hxs a.out b.out
theorem cq {f:Nat}{args:List Operand}{tys:Array TypeId}{xs:List Av}(hc:PC P f xs x)(ho:o.op=.call { callee:=.value (.func f),args:=args.toArray,argTypes:=tys })(hxs:args.map ρ=xs)(hf:dN P f=true:=by kernel_rfl)(a:PuL xs:=by infer_instance)(b:Pu x:=by infer_instance):OC P o ρ [] x []:=jP ho hf hc hxs a.out b.out
theorem ex {cs:List Av}{i:Nat}(ho:o.op=.extract p i:=by rfl)(hp:ρ p=.tup cs:=by rfl)(hy:cs[i]?=some y:=by rfl):OC P o ρ [] y []:=ad9 ho hp hy
theorem ln {k n:Nat}{row:Nat→Av}(ho:o.op=.call { callee:=.builtin .len,args:=#[p],argTypes:=#[T] }:=by rfl)(hp:ρ p=.sl k n row:=by rfl)(hT:tS P T=true:=by kernel_rfl):OC P o ρ [] (.val (.int .i64 n)) []:=aeA ho hp hT
theorem sT {k n m:Nat}{t:TypeId}{cs:List Av}(ho:o.op=.call { callee:=.builtin .len,args:=#[p],argTypes:=#[T] }:=by rfl)(hp:ρ p=.osl k m n:=by rfl)(hT:tS P T=true:=by kernel_rfl):OC P o ρ [(m,.live t cs)] (.val (.int .i64 n)) []:=aeB ho hp hT
theorem oG {s:ByteArray}(ho:o.op=.call { callee:=.builtin .len,args:=#[p],argTypes:=#[T] }:=by rfl)(hp:ρ p=.val (.string s):=by rfl)(hT:oD P T=true:=by kernel_rfl):OC P o ρ [] (.val (.int .i64 s.size)) []:=aeC ho hp hT
theorem an {c p:Operand}{A C B:Bool}(hi:A=true→C=true:=by first|exact fun h=>h|simp_all)(ho:o.op=.pick c p (.const (.bool false)):=by rfl)(hq:ρ (.const (.bool false))=.val (.bool false):=by rfl)(hc:ρ c=.val (.bool A):=by rfl)(hp:ρ p=.gd C (.val (.bool B)):=by rfl):OC P o ρ [] (.val (.bool (A&&B))) []:=aeD ho hq hc hp hi
theorem cC {c p:Operand}{A C B:Bool}(hi:(!A)=true→C=true:=by first|exact fun h=>h|simp_all)(ho:o.op=.pick c (.const (.bool true)) p:=by rfl)(hc:ρ c=.val (.bool A):=by rfl)(hp:ρ p=.gd C (.val (.bool B)):=by rfl):OC P o ρ [] (.val (.bool (A||B))) []:=aeE ho hc hp hi
theorem nt {B:Bool}(ho:o.op=.unOp .not T p:=by rfl)(hp:ρ p=.val (.bool B):=by rfl):OC P o ρ [] (.val (.bool (!B))) []:=aJF ho hp
theorem bx {cs:List Av}(ho:o.op=.box T p:=by rfl)(hp:ρ p=.agg cs:=by rfl):OC P o ρ [] (.ptr (.agg cs)) []:=aCA ho hp
theorem ix {k n j:Nat}{row:Nat→Av}{kk:IntKind}(ho:o.op=.indexAddr T p q:=by rfl)(hp:ρ p=.sl k n row:=by rfl)(hq:ρ q=.val (.int kk ((j:Nat):Int)):=by rfl)(hT:sZ P T=some k:=by kernel_rfl)(h1:j<n:=by omega):OC P o ρ [] (.ptr (row j)) []:=rJ ho hp hq hT h1
theorem sK {n len j:Nat}{t:TypeId}{cs:List Av}{kk:IntKind}(ho:o.op=.indexAddr T p q:=by rfl)(hp:ρ p=.osl 1 n len:=by rfl)(hq:ρ q=.val (.int kk ((j:Nat):Int)):=by rfl)(hT:sZ P T=some 1:=by kernel_rfl)(h1:j<len:=by omega):OC P o ρ [(n,.live t cs)] (.own n j) []:=aCD ho hp hq hT h1
theorem nc {z:Av}(ho:o.op=.nilCheck p:=by rfl)(hp:ρ p=.ptr z:=by rfl):OC P o ρ [] (.ptr z) []:=aeF ho hp
theorem al (n:Nat)(zs:List Value)(ho:o.op=.alloc T:=by rfl)(hz:nT P T=some zs:=by kernel_rfl)(ha:zs.all rU=true:=by rfl):OC P o ρ [(n,.unborn)] (.own n 0) [(n,.live T (zs.map .val))]:=aJG n ho hz ha rfl
theorem ia (h:OC P o ρ [] (.ptr y) []:=by first|exact rJ rfl rfl rfl (by kernel_rfl) (by omega)|exact mM rfl rfl rfl (by kernel_rfl) (by omega) (by omega) rfl):OC P o ρ [] (.ptr y) []:=h
theorem so (cs':List Av){n off:Nat}{t:TypeId}{cs:List Av}(ho:o.op=.store T p q:=by rfl)(hp:ρ p=.own n off:=by rfl)(hq:ρ q=y:=by first|exact (rfl:_=Av.val _)|exact (rfl:_=Av.osl _ _ _)|exact (rfl:_=Av.sl _ _ _)|exact (rfl:_=Av.own _ _)|exact (rfl:_=Av.ptr _)|exact (rfl:_=Av.clo _ _)|rfl)(hT:jK P T=some false:=by kernel_rfl)(hs:mX P T=some 1:=by kernel_rfl)
 (hy:∀ E v,aA E y v→v.oneCell'=true:=by first|exact oH|exact aAT|exact aED|exact nU|exact aJE|exact aJD|exact aEC|exact aAU|exact fun E v h=>by unfold aA at h;subst h;rfl) (hlt:off<cs.length:=by first|decide|(simp;done)|(simp;omega)) (hcs:cs.set off y=cs':=by rfl):OC P o ρ [(n,.live t cs)] .any [(n,.live t cs')]:=lG ho hp hq hT hs hy hlt hcs
theorem bd (pl:List (Nat × Nat))(zs:List Value)(ds:List Av){parts:List (Nat × Operand)}(ho:o.op=.build T parts.toArray:=by rfl)(hz:nT P T=some zs:=by kernel_rfl)(ha:zs.all rU=true:=by rfl)(hpl:aJH P T=some pl:=by kernel_rfl)(hp:yA (pl[·]?) zs.length (parts.map fun ip=>(ip.1,ρ ip.2))=true:=by first|rfl|decide)(hds:yB (pl[·]?) (zs.map .val) (parts.map fun ip=>(ip.1,ρ ip.2))=ds:=by rfl):OC P o ρ [] (.agg ds) []:=aeG ho hz ha hpl hp hds
theorem Z5 {g t:Nat}{pol C A B C':Bool}{c:Operand}(h':Ck bb P ops l ⟨(d,.gd C (.val (.bool (A&&B))))::s,h⟩ fun Γ' F=>K Γ' (([],[])::F))(ho:o.op=.pick c p (.const (.bool false)):=by rfl)(hg:o.guard=some (g,pol):=by rfl)(hs:(ops[g]?).bind (·.dst)=some t:=by rfl)(hd:o.dst=some d:=by rfl)(hG:oV (bN s t) pol C:=by first|exact cA|exact eV|exact lO|exact aAS)
 (hcc:C=true→yC (dA s c)=true:=by (intro hC;first|rfl|exact hC|(simp only [Bool.and_eq_true] at hC;first|exact hC.1|exact hC.1.1|exact hC.2)|simp_all)) (hA:xZ (dA s c)=.val (.bool A):=by rfl) (hy:dA s p=.gd C' (.val (.bool B)):=by rfl) (hi:C=true→A=true→C'=true:=by (intro hC;first|exact fun h=>tt2 hC h|exact fun h=>h|simp_all)):Ck bb P ops (o::l) ⟨s,h⟩ K:=
 aQ9 ho hg hs hd hG hcc hA (fun hC E a hp hq=>aeH hy (hi hC) hp) h'
theorem Z6 {g t:Nat}{pol C A B C':Bool}{c:Operand}(h':Ck bb P ops l ⟨(d,.gd C (.val (.bool (A||B))))::s,h⟩ fun Γ' F=>K Γ' (([],[])::F))(ho:o.op=.pick c (.const (.bool true)) p:=by rfl)(hg:o.guard=some (g,pol):=by rfl)(hs:(ops[g]?).bind (·.dst)=some t:=by rfl)(hd:o.dst=some d:=by rfl)(hG:oV (bN s t) pol C:=by first|exact cA|exact eV|exact lO|exact aAS)
 (hcc:C=true→yC (dA s c)=true:=by (intro hC;first|rfl|exact hC|(simp only [Bool.and_eq_true] at hC;first|exact hC.1|exact hC.1.1|exact hC.2)|simp_all)) (hA:xZ (dA s c)=.val (.bool A):=by rfl) (hy:dA s p=.gd C' (.val (.bool B)):=by rfl) (hi:C=true→(!A)=true→C'=true:=by (intro hC;first|exact fun h=>tt2 hC h|exact fun h=>h|simp_all)):Ck bb P ops (o::l) ⟨s,h⟩ K:=
 aQ9 ho hg hs hd hG hcc hA (fun hC E a hp hq=>aeI hy (hi hC) hq) h'
theorem cF (cs':List Av){n off:Nat}{t:TypeId}{cs:List Av}(h':Ck bb P ops l ⟨s,[(n,Hs.live t cs')]++h⟩ fun Γ' F=>K Γ' ((([(n,Hs.live t cs)]:List (Nat × Hs)).map (·.1),([(n,Hs.live t cs')]:List (Nat × Hs)).map (·.1))::F))(ho:o.op=.store T p q:=by rfl)(hg:o.guard=none:=by rfl)(hd:o.dst=none:=by rfl)(hp:dA s p=.own n off:=by rfl)(hR:jU h [(n,Hs.live t cs)]:=by exact ⟨rfl,trivial⟩)(hq:dA s q=y:=by first|exact (rfl:_=Av.val _)|exact (rfl:_=Av.osl _ _ _)|exact (rfl:_=Av.sl _ _ _)|exact (rfl:_=Av.own _ _)|exact (rfl:_=Av.ptr _)|exact (rfl:_=Av.clo _ _)|rfl)(hT:jK P T=some false:=by kernel_rfl)(hs:mX P T=some 1:=by kernel_rfl)
 (hy:∀ E v,aA E y v→v.oneCell'=true:=by first|exact oH|exact aAT|exact aED|exact nU|exact aJE|exact aJD|exact aEC|exact aAU|exact fun E v h=>by unfold aA at h;subst h;rfl) (hlt:off<cs.length:=by first|decide|(simp;done)|(simp;omega)) (hcs:cs.set off y=cs':=by rfl):Ck bb P ops (o::l) ⟨s,h⟩ K:=fP hg hd (lG ho hp hq hT hs hy hlt hcs) hR h'
theorem bW (cs':List Av){n off:Nat}{t:TypeId}{cs ds:List Av}(h':Ck bb P ops l ⟨s,[(n,Hs.live t cs')]++h⟩ fun Γ' F=>K Γ' ((([(n,Hs.live t cs)]:List (Nat × Hs)).map (·.1),([(n,Hs.live t cs')]:List (Nat × Hs)).map (·.1))::F))(ho:o.op=.store T p q:=by rfl)(hg:o.guard=none:=by rfl)(hd:o.dst=none:=by rfl)(hp:dA s p=.own n off:=by rfl)(hR:jU h [(n,Hs.live t cs)]:=by exact ⟨rfl,trivial⟩)(hq:dA s q=.agg ds:=by rfl)(hs:mX P T=some ds.length:=by kernel_rfl)(hlt:off+ds.length≤cs.length:=by first|decide|exact Nat.le_of_ble_eq_true rfl|simp)(h0:0<ds.length:=by first|decide|exact Nat.le_of_ble_eq_true rfl|simp)(hcs:nV cs off ds=cs':=by rfl):Ck bb P ops (o::l) ⟨s,h⟩ K:=fP hg hd (sY ho hp hq rfl hs hlt h0 hcs) hR h'
theorem bG {n off:Nat}{t:TypeId}{cs:List Av}(h':Ck bb P ops l ⟨(d,y)::s,h⟩ fun Γ' F=>K Γ' ((([(n,Hs.live t cs)]:List (Nat × Hs)).map (·.1),[])::F))(ho:o.op=.load T p:=by rfl)(hg:o.guard=none:=by rfl)(hd:o.dst=some d:=by rfl)(hp:dA s p=.own n off:=by rfl)(hR:jU h [(n,Hs.live t cs)]:=by exact ⟨rfl,trivial⟩)(hT:jK P T=some false:=by kernel_rfl)(hy:cs[off]?=some y:=by rfl):Ck bb P ops (o::l) ⟨s,h⟩ K:=eL hg hd (fL ho hp hT hy) hR h'
theorem Ylw (k:Nat)(ds:List Av){n off:Nat}{t:TypeId}{cs:List Av}(h':Ck bb P ops l ⟨(d,.agg ds)::s,h⟩ fun Γ' F=>K Γ' ((([(n,Hs.live t cs)]:List (Nat × Hs)).map (·.1),[])::F))(ho:o.op=.load T p:=by rfl)(hg:o.guard=none:=by rfl)(hd:o.dst=some d:=by rfl)(hp:dA s p=.own n off:=by rfl)(hR:jU h [(n,Hs.live t cs)]:=by exact ⟨rfl,trivial⟩)(hT:jK P T=some true:=by kernel_rfl)(hs:mX P T=some k:=by kernel_rfl)(hds:(cs.drop off).take k=ds:=by rfl)(hk:ds.length=k:=by rfl)(h0:0<k:=by decide):Ck bb P ops (o::l) ⟨s,h⟩ K:=eL hg hd (mA ho hp hT hs hds hk h0) hR h'
theorem aS (off sz:Nat)(r:Bool){n k i:Nat}{t:TypeId}{cs:List Av}(h':Ck bb P ops l ⟨(d,.own n (k+off))::s,h⟩ fun Γ' F=>K Γ' ((([(n,Hs.live t cs)]:List (Nat × Hs)).map (·.1),[])::F))(ho:o.op=.fieldAddr T p i:=by rfl)(hg:o.guard=none:=by rfl)(hd:o.dst=some d:=by rfl)(hp:dA s p=.own n k:=by rfl)(hR:jU h [(n,Hs.live t cs)]:=by exact ⟨rfl,trivial⟩)(hk:k<cs.length:=by first|decide|simp)(hf:rR P T i=some (off,sz,r):=by kernel_rfl)(hz:sz≠0:=by decide):Ck bb P ops (o::l) ⟨s,h⟩ K:=eL hg hd (eU ho hp hk hf hz) hR h'
theorem dO {n k:Nat}{t:TypeId}{cs:List Av}(h':Ck bb P ops l ⟨(d,.own n k)::s,h⟩ fun Γ' F=>K Γ' ((([(n,Hs.live t cs)]:List (Nat × Hs)).map (·.1),[])::F))(ho:o.op=.nilCheck p:=by rfl)(hg:o.guard=none:=by rfl)(hd:o.dst=some d:=by rfl)(hp:dA s p=.own n k:=by rfl)(hR:jU h [(n,Hs.live t cs)]:=by exact ⟨rfl,trivial⟩)(hk:k<cs.length:=by first|decide|simp):Ck bb P ops (o::l) ⟨s,h⟩ K:=eL hg hd (qP ho hp hk) hR h'
end
section
variable {P:Program}{N:Nat}{D:List Nat}{Q:Exit→Ctx→Prop}{Γ:Ctx}{ro:Option Nat}{l:List Oper}{id:Nat}{y c:Code}{ops:Array Oper}{bb:Bool}{K:Ctx→List (List Nat × List Nat)→Prop}
theorem sq (h:Ck true P l.toArray l Γ fun Γ' _=>dW ro P N D y Q Γ')(hd:aLU N l=true:=by rfl):dW ro P N D (.seq (.region id l.toArray false) y) Q Γ:=aD (aRA hd h)
theorem tx (h:Ck true P l.toArray l Γ fun Γ' _=>Q .normal Γ')(hd:aLU N l=true:=by rfl):dW ro P N D (.region id l.toArray false) Q Γ:=aRA hd h
theorem cn (h:K Γ []):Ck bb P ops [] Γ K:=aeJ h
theorem dw {l:List Oper}(h:Ck true Tryz.prog l.toArray l Γ fun Γ' F=>aAV N l F=true∧Q .normal Γ'):dW ro Tryz.prog N D (.region id l.toArray true) Q Γ:=aeK mixed h
theorem dn {l:List Oper}{F:List (List Nat × List Nat)}{A:Prop}(h:A)(hc:aAV N l F=true:=by kernel_rfl):aAV N l F=true∧A:=⟨hc,h⟩
theorem cd {p:Operand}{x:Code}{b:Bool}(h1:b=true→dW ro P N D x Q Γ)(h2:b=false→dW ro P N D y Q Γ)(hp:dA Γ.s p=.val (.bool b):=by rfl):dW ro P N D (.cond p x y) Q Γ:=aeL hp h1 h2
end
def aK (l:List Int):Av:=.sl 1 l.length fun j=>vi (l.getD j 0)
def bB (l:List ByteArray):Av:=.sl 1 l.length fun j=>vs (l.getD j ByteArray.empty)
structure WayP where
 dir:Int
 goal:Int
 cond:Int
 els:Int
def dD:WayP:=⟨0,0,0,0⟩
def oQ (y:WayP):Av:=.agg [vi y.dir,vi y.goal,vi y.cond,vi y.els]
structure ThingP where
 title:Int
 text:Int
 parent:Int
 flags:Int
 room:Bool
 props:List Int
 words:List ByteArray
 adjs:List ByteArray
 ways:List WayP
def cY:ThingP:=⟨0,0,0,0,false,[],[],[],[]⟩
def kZ (l:List WayP):Av:=.sl 4 l.length fun j=>oQ (l.getD j dD)
def iT (x:ThingP):Av:=.agg [vi x.title,vi x.text,vi x.parent,vi x.flags,vb x.room,aK x.props,bB x.words,bB x.adjs,kZ x.ways]
structure SlotP where
 kind:Int
 words:List ByteArray
def cH:SlotP:=⟨0,[]⟩
def lJ (x:SlotP):Av:=.agg [vi x.kind,bB x.words]
def fQ (l:List SlotP):Av:=.sl 2 l.length fun j=>lJ (l.getD j cH)
structure VerbP where
 meta_:Bool
 lines:List (List SlotP)
def gO:VerbP:=⟨false,[]⟩
def lB (l:List (List SlotP)):Av:=.sl 1 l.length fun j=>fQ (l.getD j [])
def iC (x:VerbP):Av:=.agg [vb x.meta_,lB x.lines]
structure DeedP where
 verb:Int
 phase:Int
 noun:Int
 second:Int
 cond:Int
 body:Int
def fZ:DeedP:=⟨0,0,0,0,0,0⟩
def mT (x:DeedP):Av:=.agg [vi x.verb,vi x.phase,vi x.noun,vi x.second,vi x.cond,vi x.body]
structure TabP where
 title:Int
 by_:Int
 release:Int
 max:Int
 texts:List ByteArray
 flags:Int
 props:List Int
 globals:List Int
 things:List ThingP
 acts:List VerbP
 deeds:List DeedP
 funcs:List Int
 daemons:List Int
 params:List Int
 locals:List Int
def gA (l:List ThingP):Av:=.sl 9 l.length fun j=>iT (l.getD j cY)
def gB (l:List VerbP):Av:=.sl 2 l.length fun j=>iC (l.getD j gO)
def fY (l:List DeedP):Av:=.sl 6 l.length fun j=>mT (l.getD j fZ)
def bR (t:TabP):Av:=.agg [vi t.title,vi t.by_,vi t.release,vi t.max,bB t.texts,vi t.flags,aK t.props,aK t.globals,gA t.things,gB t.acts,fY t.deeds,aK t.funcs,aK t.daemons,aK t.params,aK t.locals]
structure WorldP where
 globals:List Int
 parent:List Int
 child:List Int
 next:List Int
 flags:List Int
 props:List Int
 timers:List Int
 seed:Int
 score:Int
 turns:Int
 over:Int
 it:Int
 go:Int
def WorldP.row (w:WorldP)(k:Nat):List Int:=[w.globals,w.parent,w.child,w.next,w.flags,w.props,w.timers].getD k []
theorem cP (l:List Int):aN (aK l):=by unfold aK;simp [aN]
theorem bV (l:List ByteArray):aN (bB l):=by unfold bB;simp [aN]
theorem eA (y:WayP):aN (oQ y):=by unfold oQ;simp [aN,bE]
theorem dZ (l:List WayP):aN (kZ l):=by unfold kZ;simp [aN,eA]
theorem dY (x:ThingP):aN (iT x):=by unfold iT;simp [aN,bE,cP,bV,dZ]
theorem eE (x:SlotP):aN (lJ x):=by unfold lJ;simp [aN,bE,bV]
theorem eC (l:List SlotP):aN (fQ l):=by unfold fQ;simp [aN,eE]
theorem eD (l:List (List SlotP)):aN (lB l):=by unfold lB;simp [aN,eC]
theorem eF (x:VerbP):aN (iC x):=by unfold iC;simp [aN,bE,eD]
theorem eG (x:DeedP):aN (mT x):=by unfold mT;simp [aN,bE]
theorem eH (l:List ThingP):aN (gA l):=by unfold gA;simp [aN,dY]
theorem eI (l:List VerbP):aN (gB l):=by unfold gB;simp [aN,eF]
theorem eJ (l:List DeedP):aN (fY l):=by unfold fY;simp [aN,eG]
theorem dG (t:TabP):aN (bR t):=by unfold bR;simp [aN,bE,cP,bV,eH,eI,eJ]
theorem dM {P:Program}{N:Nat}{D:List Nat}{c:Code}{Q:Exit→Ctx→Prop}{Γ:Ctx}{t:Nat}{x:Av}{φ:Prop}(hx:bN Γ.s t=x)(hφ:∀ E v,aA E x v→φ)(h:φ→AW P N D c Q Γ):AW P N D c Q Γ:=fun E a hF=>by
 have:=hF.holds.1 t;rw [hx] at this;exact h (hφ E _ this) E a hF
theorem eR {k n:Nat}{row:Nat→Av}(E:Env)(v:Value)(h:aA E (.sl k n row) v):n≤9223372036854775807:=by
 unfold aA at h;obtain ⟨A,c,_,h1,h2,_⟩:=h;unfold maxLen at h2;omega
structure TabP.Few (t:TabP):Prop where
 texts:t.texts.length≤9223372036854775807
 things:t.things.length≤9223372036854775807
 acts:t.acts.length≤9223372036854775807
 deeds:t.deeds.length≤9223372036854775807
 funcs:t.funcs.length≤9223372036854775807
 daemons:t.daemons.length≤9223372036854775807
 params:t.params.length≤9223372036854775807
 locals:t.locals.length≤9223372036854775807
theorem aG.at_ {E:Env}{xs:List Av}{vs:List Value}(h:aG E xs vs)(i:Nat)(y:Av)(hy:xs[i]?=some y):∃ v,aA E y v:=by
 obtain ⟨u,_,h2⟩:=h.get i y hy;exact ⟨u,h2⟩
theorem qO (t:TabP)(E:Env)(v:Value)(h:aA E (bR t) v):t.Few:=by
 unfold bR aA at h;obtain ⟨vs,_,h,_⟩:=h;have g:=fun i y hy=>h.at_ i y hy;obtain ⟨_,h4⟩:=g 4 _ rfl;obtain ⟨_,h8⟩:=g 8 _ rfl;obtain ⟨_,h9⟩:=g 9 _ rfl;obtain ⟨_,h10⟩:=g 10 _ rfl;obtain ⟨_,h11⟩:=g 11 _ rfl;obtain ⟨_,h12⟩:=g 12 _ rfl;obtain ⟨_,h13⟩:=g 13 _ rfl;obtain ⟨_,h14⟩:=g 14 _ rfl;exact ⟨eR E _ h4,eR E _ h8,eR E _ h9,eR E _ h10,eR E _ h11,eR E _ h12,eR E _ h13,eR E _ h14⟩
def among (n lo hi:Int):Bool:=decide (lo≤n)&&decide (n≤hi)
theorem gH {n lo hi:Int}:among n lo hi=true↔lo≤n∧n≤hi:=by simp [among]
def pW (n:Int):Bool:=among n (-32768) 32767
def nW (l:List Int)(n:Int):Int:=l.getD n.toNat 0
def tG (t:TabP)(n:Int):Bool:=among n 0 ((t.params.length:Int)-1)&&(nW t.params n==0)
def wW (t:TabP)(n:Int):Bool:=among n 0 ((t.texts.length:Int)-1)
def qV (t:TabP)(n:Int):Bool:=among n 1 ((t.things.length:Int)-1)
def TabP.at_ (t:TabP)(n:Int):ThingP:=t.things.getD n.toNat cY
def aBH (t:TabP)(n:Int):Bool:=qV t n&&(t.at_ n).room
def tL (n:Int):Bool:=decide (97≤n)&&decide (n≤122)
def alW (n:Int):Bool:=decide (65≤n)&&decide (n≤90)
def tM (n:Int):Bool:=decide (48≤n)&&decide (n≤57)
def anY (n:Int):Bool:=tL n||alW n||tM n||n==45||n==39
def uJ (n:Int):Bool:=(decide (32≤n)&&decide (n≤126))||n==10
theorem amH {s:ByteArray}{k:Nat}(h:k<s.size):(tB s)[k]?=some (s[k].toNat:Int):=by
 rw [List.getElem?_eq_getElem (by rw [fK];exact h),zD s k h]
theorem al9 {s:ByteArray}{k:Nat}(h:k<s.size):(s[k].toNat:Int)∈tB s:=List.mem_of_getElem? (amH h)
def qN (s:ByteArray):Bool:=(tB s).all uJ&&decide ((s.size:Int)≤1024)
def aLT (c:Int):Bool:=tL c||tM c||c==45||c==39
def yN (s:ByteArray):Bool:=decide (1≤(s.size:Int))&&decide ((s.size:Int)≤9)&&(tL ((tB s).getD 0 0)||tM ((tB s).getD 0 0))
def aE3 (s:ByteArray):Bool:=yN s&&(tB s).all aLT
theorem al7 (s:ByteArray):(decide ((s.size:Int)<1)||decide (9<(s.size:Int))||(!tL ((tB s).getD 0 0)&&!tM ((tB s).getD 0 0)))=!yN s:=by
 unfold yN;cases tL ((tB s).getD 0 0)<;>cases tM ((tB s).getD 0 0)<;>simp<;>rw [Bool.eq_iff_iff]<;>simp<;>omega
theorem aj1 (c:Int):((decide (c<32)||decide (126<c))&&c !=10)=!uJ c:=by
 unfold uJ;rw [Bool.eq_iff_iff];simp
 try omega
theorem apQ (c:Int):(!anY c||alW c)=!aLT c:=by
 unfold aLT anY alW tL tM;rw [Bool.eq_iff_iff];simp
 try omega
instance (l:List Int):Pu (aK l):=⟨cP l⟩
instance (l:List ByteArray):Pu (bB l):=⟨bV l⟩
instance (y:WayP):Pu (oQ y):=⟨eA y⟩
instance (l:List WayP):Pu (kZ l):=⟨dZ l⟩
instance (x:ThingP):Pu (iT x):=⟨dY x⟩
instance (x:SlotP):Pu (lJ x):=⟨eE x⟩
instance (l:List SlotP):Pu (fQ l):=⟨eC l⟩
instance (l:List (List SlotP)):Pu (lB l):=⟨eD l⟩
instance (x:VerbP):Pu (iC x):=⟨eF x⟩
instance (x:DeedP):Pu (mT x):=⟨eG x⟩
instance (l:List ThingP):Pu (gA l):=⟨eH l⟩
instance (l:List VerbP):Pu (gB l):=⟨eI l⟩
instance (l:List DeedP):Pu (fY l):=⟨eJ l⟩
instance (t:TabP):Pu (bR t):=⟨dG t⟩
end Go.Proofs.YtgajclaoaphgoaaGreatDoor
namespace Go.Proofs.YtgajclaoaphgoaaGreatDoor
open Go.RowKit
theorem sP {n:Nat}{p:Nat→Bool}(h:∀ j,j<n→p j=true):(List.range n).all p=true:=by
 rw [List.all_eq_true];intro x hx;exact h x (List.mem_range.1 hx)
theorem nD {n k:Nat}{p:Nat→Bool}(h:k<n)(hp:p k=false):(List.range n).all p=false:=by
 rw [List.all_eq_false];exact ⟨k,List.mem_range.2 h,by simp [hp]⟩
theorem mC {k:Nat}{p:Nat→Bool}(h:∀ j,j<k→p j=true)(hp:p k=true):∀ j,j<k+1→p j=true:=fun j hj=>by
 rcases Nat.lt_or_ge j k with h1|h1
 ·exact h j h1
 obtain rfl:j=k:=by omega
 exact hp
theorem qF {p:Nat→Bool}:∀ j,j<0→p j=true:=fun j hj=>absurd hj (by omega)
theorem mN {c:Int}(h:-9223372036854775808≤c∧c<9223372036854775808):(Lit.int .i64 c).wf=true:=by
 have h2:IntKind.i64.min=-9223372036854775808:=rfl;have h3:IntKind.i64.max=9223372036854775807:=rfl;simp [Lit.wf,h2,h3];omega
theorem aUR (n:Int):(n==IntKind.i64.wrap (IntKind.i16.wrap n))=pW n:=by
 have h:=aQS n;rw [aFI _ (by omega) (by omega),h];unfold pW among;rw [Bool.eq_iff_iff];simp;omega
theorem aT4 {P:Program}{o:Oper}{a:Act}{w:World}{K K':Value→World→Prop}(h:eK P o a w K)(hk:∀ v w',K v w'→K' v w'):eK P o a w K':=by
 unfold eK at h ⊢;generalize (execOp a.eval o).run P w=r at *;cases r with
 | ok n w'=>
  cases n<;>simp only [fM] at h ⊢
  case value u=>exact hk _ _ h
  case skip=>exact hk _ _ h
  case enter f args=>exact h.mono fun e w'' ⟨v,he,hh⟩=>⟨v,he,hk _ _ hh⟩
 | halt x w'=>simp only [fM] at h
theorem OC.to {P:Program}{o:Oper}{ρ:Operand→Av}{R U:List (Nat × Hs)}{x y:Av}(h:OC P o ρ R x U)(hxy:∀ E v,aA E x v→aA E y v):OC P o ρ R y U:=fun E a hG hp hR=>aT4 (h E a hG hp hR) fun v w' ⟨E',h1,h2,h3,h4,h5⟩=>⟨E',h1,h2,h3,hxy _ _ h4,h5⟩
end Go.Proofs.YtgajclaoaphgoaaGreatDoor
namespace Go.Proofs.YtgajclaoaphgoaaGreatDoor
def nX (n:Int):Int:=(n+32768)%65536-32768
def cQ (n:Int):List Int:=[n%256]
def kD (n:Int):List Int:=[n%65536/256,n%256]
def kX (n:Int):List Int:=[n/16777216%256,n/65536%256,n/256%256,n%256]
def kC (n:Nat):List Int:=if n<128 then [(n:Int)] else ((128+n%128:Nat):Int)::kC (n/128)
termination_by n
decreasing_by omega
def aC (n:Int):List Int:=kC n.toNat
def jZ (s:ByteArray):List Int:=s.data.toList.map fun b=>(b.toNat:Int)
def aY (s:ByteArray):List Int:=aC s.size++jZ s
def cZ (l:List Int):List Int:=aC l.length++l.flatMap kD
theorem aAH {n:Nat}(h:n<128):kC n=[(n:Int)]:=by rw [kC,if_pos h]
theorem aDT {n:Nat}(h:¬ n<128):kC n=((128+n%128:Nat):Int)::kC (n/128):=by rw [kC,if_neg h]
theorem aDV (n:Nat)(k:Nat)(h:n<128^(k+1)):(kC n).length≤k+1:=by
 induction k generalizing n with
 | zero=>rw [aAH (by simpa using h)];simp
 | succ k ih=>
  by_cases hn:n<128
  ·rw [aAH hn];simp
  rw [aDT hn,List.length_cons];have:=ih (n/128) (by rw [Nat.pow_succ] at h;omega);omega
theorem aVD (n:Int)(h:n≤9223372036854775807):(aC n).length≤9:=by
 refine aDV n.toNat 8 ?_;have h1:n.toNat≤9223372036854775807:=by omega
 have h2:128^(8+1)=9223372036854775808:=by decide
 omega
theorem amO (s:ByteArray):Lib.strCells s=cb .u8 (jZ s):=adD s
theorem amP (n:Int):nX n%65536=n%65536:=by unfold nX;omega
theorem amQ (l:List Int):(l.flatMap kD).length=2*l.length:=by
 induction l with
 | nil=>rfl
 | cons a l ih=>rw [List.flatMap_cons,List.length_append,ih,List.length_cons];simp [kD];omega
theorem amR (l:List Int)(k:Nat)(h:k<l.length):(l.take (k+1)).flatMap kD=(l.take k).flatMap kD++kD l[k]:=by
 rw [List.take_succ_eq_append_getElem h,List.flatMap_append];simp
theorem amS (m:Int):[Value.int .u8 (IntKind.u16.wrap (nX m)/256%256),Value.int .u8 (IntKind.u16.wrap (nX m)%256)]=cb .u8 (kD m):=by
 simp only [adG,cb,kD,List.map];rw [amP];have h1:m%65536/256%256=m%65536/256:=by omega
 have h2:m%65536%256=m%256:=by omega
 rw [h1,h2]
theorem amT (m:Int)(h0:0≤m)(hm:m≤4294967295):[Value.int .u8 (m/16777216),Value.int .u8 (m/65536%256),Value.int .u8 (m/256%256),Value.int .u8 (m%256)]=cb .u8 (kX m):=by
 simp only [cb,kX,List.map];rw [Int.emod_eq_of_lt (a:=m/16777216) (by omega) (by omega)]
def cI (xs:List Int):Prop:=∀ x∈xs,0≤x∧x<256
theorem cI.get {xs:List Int}(h:cI xs){i:Nat}(hi:i<xs.length):0≤xs[i]∧xs[i]<256:=h _ (List.getElem_mem hi)
theorem cI.take {xs:List Int}(h:cI xs)(n:Nat):cI (xs.take n):=fun x hx=>h x (List.mem_of_mem_take hx)
theorem cI.drop {xs:List Int}(h:cI xs)(n:Nat):cI (xs.drop n):=fun x hx=>h x (List.mem_of_mem_drop hx)
theorem cI.nil:cI []:=fun x hx=>by cases hx
def kM (n:Nat)(at_ k:Int):Prop:=at_<0∨n<at_∨n-at_<k
instance (n:Nat) (at_ k:Int):Decidable (kM n at_ k):=by unfold kM;infer_instance
def eX (xs:List Int)(at_ err:Int)(k:Nat):List Int × Int × Int:=
 if err≠0 then ([],at_,err) else if kM xs.length at_ k then ([],at_,2) else ((xs.drop at_.toNat).take k,at_+k,0)
theorem aUD (xs:List Int)(at_ err:Int)(k:Nat)(h:cI xs):cI (eX xs at_ err k).1:=by
 unfold eX;split
 ·exact cI.nil
 split
 ·exact cI.nil
 exact (h.drop _).take _
theorem akY (xs:List Int)(at_ err:Int)(k:Nat):(eX xs at_ err k).1.length≤k:=by
 unfold eX;split
 ·simp
 split
 ·simp
 exact List.length_take_le _ _
def gI (xs:List Int):Int:=xs.foldl (fun n x=>n*256+x) 0
theorem amU (xs:List Int)(x:Int):gI (xs++[x])=gI xs*256+x:=by simp [gI]
theorem aVE (xs:List Int)(k:Nat)(h:k<xs.length):gI (xs.take (k+1))=gI (xs.take k)*256+xs[k]:=by
 rw [List.take_succ_eq_append_getElem h,amU]
theorem aVF (xs:List Int)(h:cI xs)(k:Nat)(hk:k≤xs.length):0≤gI (xs.take k)∧gI (xs.take k)<256^k:=by
 induction k with
 | zero=>simp [gI]
 | succ k ih=>
  have h1:=ih (by omega);have h2:=h.get (i:=k) (by omega);rw [aVE xs k (by omega),Int.pow_succ];omega
theorem akZ (xs:List Int)(h:cI xs)(k:Nat)(hk:xs.length≤k):0≤gI xs∧gI xs<256^k:=by
 have h1:=aVF xs h xs.length (Nat.le_refl _);rw [List.take_length] at h1;have e:∀ m:Nat,(256:Int)^m=((256^m:Nat):Int):=fun m=>by rw [Int.natCast_pow];rfl
 have h2:256^xs.length≤256^k:=Nat.pow_le_pow_right (by omega) hk;rw [e] at h1 ⊢;omega
theorem amV (xs:List Int)(at_:Int)(k:Nat)(h:kM xs.length at_ k):eX xs at_ 0 k=([],at_,2):=by simp [eX,h]
theorem aTV (xs:List Int)(at_:Int)(h:¬ kM xs.length at_ 1):at_.toNat<xs.length∧eX xs at_ 0 1=([xs.getD at_.toNat 0],at_+1,0):=by
 have h':=h;unfold kM at h';have hl:at_.toNat<xs.length:=by omega
 refine ⟨hl,?_⟩;have h2:¬ kM xs.length at_ ((1:Nat):Int):=h;simp only [eX,if_neg h2];rw [if_neg (by omega)];rw [List.drop_eq_getElem_cons hl,List.take_succ_cons,List.take_zero];simp [List.getD,List.getElem?_eq_getElem hl]
def kE (xs:List Int)(at0 most:Int):Nat→Nat→Int→Int × Int × Int
 | 0,_,_=>(0,at0,4)
 | f+1,k,n=>
  if kM xs.length (at0+k) 1 then (0,at0,2)
  else if k=5∨(0<k∧xs.getD (at0+k).toNat 0=0) then (0,at0,4)
  else if xs.getD (at0+k).toNat 0<128 then (if most<n+xs.getD (at0+k).toNat 0%128*128^k then (0,at0,5) else (n+xs.getD (at0+k).toNat 0%128*128^k,at0+k+1,0))
  else kE xs at0 most f (k+1) (n+xs.getD (at0+k).toNat 0%128*128^k)
def bY (xs:List Int)(at_ err most:Int):Int × Int × Int:=if err≠0 then (0,at_,err) else kE xs at_ most 6 0 0
def tC (n:Nat)(at_ err:Int):Int:=if err=0∧at_<n then 3 else err
open Go.RowKit
theorem amJ:(Tryz.prog.info? 5).map (fun i=>(i.zero,i.size,i.bytes))=some (some (.int .u8 0),1,1):=by kernel_rfl
theorem rE:Elem Tryz.prog 29 5 (.int .u8 0) 1:=⟨Tryz.underlying29,info_parts amJ,rfl⟩
theorem amK (n:Nat)(w:World)(hn:n≤1000000000):
 Calls Tryz.prog 197 #[.slice none 0 0,.int .i64 n] w fun e w'=>∃ A c,e=.returned (.slice A 0 c)∧bA w' w.heap.size 5 (.slice A 0 c) []∧Below w.heap.size w w':=by
 by_cases h0:n=0
 ·subst h0;go_enter Tryz.func197,Tryz.ntmps197;go_wp2;go_ret;exact ⟨none,0,rfl,bA.nil _ _ _,Below.refl _ _⟩
 have hp:0<n:=by omega
 go_enter Tryz.func197,Tryz.ntmps197;go_wp2_with (at_builtin;refine adL rE Tryz.underlying3 rfl _ _ rfl rfl rfl hp (by omega) (by omega) ?_;intro A c w1 hown hb);go_ret;exact ⟨A,c,rfl,by simpa using hown.take 0 (by omega),hb⟩
structure Part where
 A:Option Addr
 c:Nat
 xs:List Value
def Part.val (p:Part):Value:=.slice p.A p.xs.length p.c
def qX (ps:List Part):Nat:=(ps.map fun p=>p.xs.length).sum
theorem aLV (ps:List Part)(k:Nat)(h:k<ps.length):qX (ps.take (k+1))=qX (ps.take k)+ps[k].xs.length:=by
 unfold qX;rw [List.take_succ_eq_append_getElem h,List.map_append,List.sum_append];simp
theorem aLW (ps:List Part)(k:Nat):qX (ps.take k)≤qX ps:=by
 unfold qX
 conv=>rhs;rw [←List.take_append_drop k ps]
 rw [List.map_append,List.sum_append];omega
theorem amL (ps:List Part)(k:Nat)(h:k<ps.length):(ps.take (k+1)).flatMap Part.xs=(ps.take k).flatMap Part.xs++ps[k].xs:=by
 rw [List.take_succ_eq_append_getElem h,List.flatMap_append];simp
theorem amM (ps:List Part):(ps.flatMap Part.xs).length=qX ps:=by
 unfold qX;rw [List.length_flatMap]
theorem amN (ps:List Part)(A:Option Addr)(m c:Nat)(w:World)(hm:m=ps.length)(hr:Rd w w.heap.size A (ps.map Part.val))(hps:∀ p∈ps,Rd w w.heap.size p.A p.xs)(h1:∀ p∈ps,∀ u∈p.xs,u.oneCell'=true)(hl:qX ps≤1000000000)(hml:m≤1000000000):
 Calls Tryz.prog 138 #[.slice A m c] w (kG w 5 (ps.flatMap Part.xs)):=by
 subst hm;go_enter Tryz.func138,Tryz.ntmps138;go_wp2;go_loop [3,11] (fun s i=>∃ k:Nat,k≤ps.length∧i=.int .i64 k∧s=.int .i64 (qX (ps.take k))) (fun _ i=>ps.length-(intOf i).toNat)
 case atStart=>exact ⟨0,by omega,rfl,rfl⟩
 case round=>
  obtain ⟨k,hk,rfl,rfl⟩:=hrel;have hle:=aLW ps k;by_cases hlt:k<ps.length
  ·obtain ⟨b,o,rfl,hb,hc⟩:=hr.get (k:=k) (by simp;omega);have hst:=Lib.hid (aLV ps k (by omega));have hle':=aLW ps (k+1);simp only [List.getElem_map,Part.val] at hc;rw [aLV ps k (by omega)] at hle';go_wp2;go_round
   case rel=>exact ⟨k+1,by omega,by go_num,by rw [hst.out];go_num⟩
   case measure=>simp [intOf];omega
  obtain rfl:k=ps.length:=by omega
  rw [List.take_length] at *;go_wp2_with (go_at_call 197;refine (amK _ _ hl).mono ?_;rintro e w1 ⟨A1,c1,rfl,hown1,hb1⟩);have hr1:=hr.below hb1;go_loopw [6,27] (fun s i w2=>∃ k A2 n2 c2,k≤ps.length∧i=.int .i64 (k:Nat)∧s=.slice A2 n2 c2∧bA w2 w.heap.size 5 (.slice A2 n2 c2) ((ps.take k).flatMap Part.xs)∧Below w.heap.size w w2) (fun _ i _=>ps.length-(intOf i).toNat)
  case atStart=>exact ⟨0,A1,0,c1,by omega,rfl,rfl,hown1,hb1⟩
  case round=>
   obtain ⟨k,A2,n2,c2,hk,rfl,rfl,hown,hbel⟩:=hrel;by_cases hlt:k<ps.length
   ·have hr2:=hr.below hbel;obtain ⟨b,o,rfl,hb,hc⟩:=hr2.get (k:=k) (by simp;omega);have hrk:=(hps ps[k] (List.getElem_mem hlt)).below hbel;have hst:=aLV ps k hlt;have hfl:=Lib.hid (amM (ps.take k));have hft:=Lib.hid (amL ps k hlt);have h1k:=h1 ps[k] (List.getElem_mem hlt);have hle':=aLW ps (k+1);rw [hst] at hle';clear hst;simp only [List.getElem_map,Part.val] at hc;have hsz:=hbel.size;go_wp2_with (at_builtin;refine rD rE rfl _ _ rfl rfl hown rfl hrk rfl h1k (by rw [hfl.out];omega) (by rw [hfl.out];omega) hsz ?_;intro A3 n3 c3 w3 hown3 hg3);go_roundw
    case rel=>exact ⟨k+1,A3,n3,c3,by omega,by go_num,rfl,by rw [hft.out];exact hown3,pF hbel hg3 hown (Nat.le_refl _) hsz⟩
    case measure=>simp [intOf];omega
   obtain rfl:k=ps.length:=by omega
   rw [List.take_length] at *;go_wp2;go_ret;exact ⟨A2,n2,c2,rfl,hown,hbel⟩
theorem aVB (A A':Option Addr)(n n' c c':Nat)(xs ys:List Value)(w:World)(hx:Rd w w.heap.size A xs)(hy:Rd w w.heap.size A' ys)(hn:n=xs.length)(hn':n'=ys.length)(h1:∀ u∈xs,u.oneCell'=true)(h2:∀ u∈ys,u.oneCell'=true)(hl:xs.length+ys.length≤1000000000):
 Calls Tryz.prog 68 #[.slice A n c,.slice A' n' c'] w (kG w 5 (xs++ys)):=by
 subst hn;subst hn'
 go_enter Tryz.func68,Tryz.ntmps68;go_wp2_with fail;have hb:Below w.heap.size w (w.alloc (.cells #[.slice A xs.length c,.slice A' ys.length c'] 29)):=(Below.refl _ _).alloc (Nat.le_refl _) _;refine (amN [⟨A,c,xs⟩,⟨A',c',ys⟩] _ 2 _ _ rfl (Rd.new w _ _) ?_ ?_ (by simp [qX];omega) (by omega)).mono ?_
 ·intro p hp;simp only [List.mem_cons,List.not_mem_nil,or_false] at hp;rcases hp with rfl|rfl
  ·exact (hx.below hb).more (by simp)
  exact (hy.below hb).more (by simp)
 ·intro p hp;simp only [List.mem_cons,List.not_mem_nil,or_false] at hp;rcases hp with rfl|rfl
  ·exact h1
  exact h2
 rintro e w1 ⟨A1,n1,c1,rfl,hown,hb1⟩;go_wp2;go_ret;exact ⟨A1,n1,c1,rfl,by simpa using hown.less (B:=w.heap.size) (by simp),hb.trans (hb1.mono (by simp))⟩
theorem aVC (A:Option Addr)(c:Nat)(zs ys:List Int)(vs:List Value)(m:Nat)(w:World)(hr:Rd w w.heap.size A (cb .u8 zs))(hv:vs=cb .u8 ys)(hm:m=ys.length)(hl:zs.length+ys.length≤1000000000):
 Calls Tryz.prog 68 #[.slice A zs.length c,.slice (some ⟨w.heap.size,0,none⟩) m m] (w.alloc (.cells vs.toArray 5)) (kG w 5 (cb .u8 (zs++ys))):=by
 subst hv;subst hm
 have hb:Below w.heap.size w (w.alloc (.cells (cb .u8 ys).toArray 5)):=(Below.refl _ _).alloc (Nat.le_refl _) _;refine (aVB A _ _ _ c ys.length (cb .u8 zs) (cb .u8 ys) _ ((hr.below hb).more (by simp)) (Rd.new w _ _) (by simp) (by simp) (zE _ _) (zE _ _) (by simpa using hl)).mono ?_;rintro e w1 ⟨A1,n1,c1,rfl,hown,hb1⟩;exact ⟨A1,n1,c1,rfl,by rw [tP];exact hown.less (by simp),hb.trans (hb1.mono (by simp))⟩
open Go.RowKit Go.IntWalk
theorem aUB (n:Int)(w:World):Calls Tryz.prog 139 #[.int .i64 n] w fun e w'=>e=.returned (.int .i64 (nX n))∧w=w':=by
 go_enter Tryz.func139,Tryz.ntmps139;go_wp2;go_ret;exact ⟨aGA (by rw [aQS,wrap64_in _ (by omega)];rfl),rfl⟩
theorem aeW (A:Option Addr)(n c:Nat)(zs:List Int)(m:Int)(w:World)(hr:Rd w w.heap.size A (cb .u8 zs))(hn:n=zs.length)(hl:zs.length≤200000000):
 Calls Tryz.prog 21 #[.slice A n c,.int .i64 m] w (kG w 5 (cb .u8 (zs++cQ m))):=by
 subst hn;go_enter Tryz.func21,Tryz.ntmps21;go_wp2_with (go_at_call 68;refine (aVC A c zs (cQ m) _ 1 w hr rfl rfl (by simp [cQ];omega)).mono ?_;rintro e w1 ⟨A1,n1,c1,rfl,hown,hb1⟩);go_ret;exact ⟨A1,n1,c1,rfl,hown,hb1⟩
theorem ae0 (A:Option Addr)(n c:Nat)(zs:List Int)(m:Int)(w:World)(hr:Rd w w.heap.size A (cb .u8 zs))(hn:n=zs.length)(hl:zs.length≤200000000)(h0:0≤m)(hm:m≤4294967295):
 Calls Tryz.prog 81 #[.slice A n c,.int .u32 m] w (kG w 5 (cb .u8 (zs++kX m))):=by
 subst hn;go_enter Tryz.func81,Tryz.ntmps81;go_wp2_with (go_at_call 68;refine (aVC A c zs (kX m) _ 4 w hr (amT m h0 hm) rfl (by simp [kX];omega)).mono ?_;rintro e w1 ⟨A1,n1,c1,rfl,hown,hb1⟩);go_ret;exact ⟨A1,n1,c1,rfl,hown,hb1⟩
theorem amY (q:Nat):bits .or .u8 ((q:Int)%256) 128=((128+q%128:Nat):Int):=by
 have h:∀ r:Fin 256,bits .or .u8 (r.val:Int) 128=((128+r.val%128:Nat):Int):=by decide +kernel
 have:=h ⟨q%256,by omega⟩;simp only [Int.natCast_emod,Int.cast_ofNat_Int] at this;rw [this];congr 2;omega
theorem arG (A:Option Addr)(n c:Nat)(zs:List Int)(m:Int)(N:Nat)(hN:m=N∨(m<0∧N=0))(w:World)(hr:Rd w w.heap.size A (cb .u8 zs))(hn:n=zs.length)(hl:zs.length≤100000000)(hm:N≤9223372036854775807):
 Calls Tryz.prog 69 #[.slice A n c,.int .i64 m] w (kG w 5 (cb .u8 (zs++kC N))):=by
 subst hn;rcases hN with rfl|⟨h0,hN0⟩
 all_goals
  first|have HN:=Lib.hid hN0;clear hN0|skip
  go_enter Tryz.func69,Tryz.ntmps69;go_wp2_with fail;refine (aVB A none _ _ c _ (cb .u8 zs) [] w hr (Rd.nil _ _ _) (by simp) rfl (zE _ _) (by simp) (by simp;omega)).mono ?_;rw [List.append_nil];rintro e w1 ⟨A1,n1,c1,rfl,hown,hb1⟩;go_wp2_with fail;have HM:=Lib.hid hm;clear hm;go_loopw [5,6] (fun u s w2=>∃ (q:Nat) (ys:List Int) (A2:Option Addr) (n2 c2:Nat),u=.int .u64 q∧s=.slice A2 n2 c2∧bA w2 w.heap.size 5 (.slice A2 n2 c2) (cb .u8 (zs++ys))∧Below w.heap.size w w2∧Hid (ys++kC q=kC N)∧Hid (q≤9223372036854775807)) (fun u _ _=>(intOf u).toNat)
  case atStart=>first|exact ⟨N,[],A1,n1,c1,rfl,rfl,by simpa using hown,hb1,rfl,HM⟩|exact ⟨0,[],A1,n1,c1,rfl,rfl,by simpa using hown,hb1,by rw [HN.out];exact rfl,by unfold Hid;omega⟩
  case round=>
   obtain ⟨q,ys,A2,n2,c2,rfl,rfl,hown2,hbel,hsz,hq⟩:=hrel;have hyl:ys.length≤9:=by
    have h1:=aDV N 8 (by
     have h2:128^(8+1)=9223372036854775808:=by decide
     have h3:=HM.out;omega)
    rw [←hsz.out,List.length_append] at h1;omega
   have hb:=hbel.size;by_cases hlt:128≤q
   ·go_wp2_with (at_builtin;refine rD rE rfl _ _ rfl rfl (hown2.alloc _) rfl (Rd.new _ [_] _) rfl (vH _ _) (by simp;omega) (by simp;omega) (by simp;omega) ?_;intro A3 n3 c3 w3 hown3 hg3);rw [amY] at hown3;go_roundw
    case rel=>exact ⟨q/128,ys++[((128+q%128:Nat):Int)],A3,n3,c3,by go_num,rfl,by simpa [cb] using hown3,pF (hbel.alloc hb _) hg3 (hown2.alloc _) (Nat.le_refl _) (by simp;omega),by
     unfold Hid;rw [←hsz.out,aDT (n:=q) (by omega)];simp,by have:=hq.out;unfold Hid;omega⟩
    case measure=>simp [intOf];omega
   go_wp2_with (at_builtin;refine rD rE rfl _ _ rfl rfl (hown2.alloc _) rfl (Rd.new _ [_] _) rfl (vH _ _) (by simp;omega) (by simp;omega) (by simp;omega) ?_;intro A3 n3 c3 w3 hown3 hg3);go_ret;exact ⟨A3,n3,c3,rfl,by rw [←hsz.out,aAH (by omega)];simpa [cb] using hown3,pF (hbel.alloc hb _) hg3 (hown2.alloc _) (Nat.le_refl _) (by simp;omega)⟩
theorem aJO (A:Option Addr)(n c:Nat)(zs:List Int)(m:Int)(w:World)(hr:Rd w w.heap.size A (cb .u8 zs))(hn:n=zs.length)(hl:zs.length≤100000000)(hm:m≤9223372036854775807):
 Calls Tryz.prog 69 #[.slice A n c,.int .i64 m] w (kG w 5 (cb .u8 (zs++aC m))):=
 arG A n c zs m m.toNat (by omega) w hr hn hl (by omega)
theorem aeX (A:Option Addr)(n c:Nat)(zs:List Int)(s:ByteArray)(w:World)(hr:Rd w w.heap.size A (cb .u8 zs))(hn:n=zs.length)(hl:zs.length≤100000000)(hs:s.size≤100000000):
 Calls Tryz.prog 72 #[.slice A n c,.string s] w (kG w 5 (cb .u8 (zs++aY s))):=by
 subst hn;go_enter Tryz.func72,Tryz.ntmps72;go_wp2_with fail;refine (aJO A _ c zs _ w hr rfl hl (by omega)).mono ?_;rintro e w1 ⟨A1,n1,c1,rfl,hown,hb1⟩;have hsl:=aVD (s.size:Int) (by omega);have hb:=hb1.size;go_wp2_with (at_builtin;refine adM rE Tryz.underlying9 rfl _ _ rfl rfl hown rfl (by simp;omega) hb ?_;intro A3 n3 c3 w3 hown3 hg3);go_ret;exact ⟨A3,n3,c3,rfl,by rw [aY,←List.append_assoc,tP,←amO];exact hown3,pF hb1 hg3 hown (Nat.le_refl _) hb⟩
theorem aeZ (A L:Option Addr)(n c m d:Nat)(zs ls:List Int)(w:World)(hr:Rd w w.heap.size A (cb .u8 zs))(hn:n=zs.length)(hl:zs.length≤100000000)(hL:Rd w w.heap.size L (cb .i64 ls))(hm:m=ls.length)(hs:ls.length≤100000000):
 Calls Tryz.prog 73 #[.slice A n c,.slice L m d] w (kG w 5 (cb .u8 (zs++cZ ls))):=by
 subst hn;subst hm
 go_enter Tryz.func73,Tryz.ntmps73;go_wp2_with fail;refine (aJO A _ c zs _ w hr rfl hl (by omega)).mono ?_;rintro e w1 ⟨A1,n1,c1,rfl,hown,hb1⟩;have hsl:=aVD (ls.length:Int) (by omega);go_wp2_with fail;go_loopw [5,15] (fun s i w2=>∃ (k:Nat) (A2:Option Addr) (n2 c2:Nat),k≤ls.length∧i=.int .i64 k∧s=.slice A2 n2 c2∧bA w2 w.heap.size 5 (.slice A2 n2 c2) (cb .u8 ((zs++aC ls.length)++(ls.take k).flatMap kD))∧Below w.heap.size w w2) (fun _ i _=>ls.length-(intOf i).toNat)
 case atStart=>exact ⟨0,A1,n1,c1,by omega,rfl,rfl,by simpa using hown,hb1⟩
 case round=>
  obtain ⟨k,A2,n2,c2,hk,rfl,rfl,hown2,hbel⟩:=hrel;have hb:=hbel.size;by_cases hlt:k<ls.length
  ·obtain ⟨b,o,rfl,_,hc⟩:=(hL.below hbel).num hlt;have hlen:((ls.take k).flatMap kD).length=2*k:=by rw [amQ,List.length_take];omega
   go_wp2_with (first|(go_at_call 139;refine (aUB _ _).mono ?_;rintro e w' ⟨rfl,rfl⟩)|(at_builtin;refine rD rE rfl _ _ rfl rfl (hown2.alloc _) rfl (Rd.new _ [_,_] _) rfl (adF _ _ _) (by simp [hlen];omega) (by simp [hlen];omega) (by simp;omega) ?_;intro A3 n3 c3 w3 hown3 hg3));rw [amS] at hown3;go_roundw
   case rel=>exact ⟨k+1,A3,n3,c3,by omega,by go_num,rfl,by rw [amR _ _ hlt,←List.append_assoc,tP];exact hown3,pF (hbel.alloc hb _) hg3 (hown2.alloc _) (Nat.le_refl _) (by simp;omega)⟩
   case measure=>simp [intOf];omega
  obtain rfl:k=ls.length:=by omega
  go_wp2;go_ret;exact ⟨A2,n2,c2,rfl,by rw [cZ,←List.append_assoc];rw [List.take_length] at hown2;exact hown2,hbel⟩
end Go.Proofs.YtgajclaoaphgoaaGreatDoor
