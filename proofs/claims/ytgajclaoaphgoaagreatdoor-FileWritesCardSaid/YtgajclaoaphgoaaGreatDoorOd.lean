/- Parts of the proof of a law of this seat: rules and contracts; no conditions. -/
import Derived.Test.YtgajclaoaphgoaaGreatDoorAv
import Derived.Test.YtgajclaoaphgoaaGreatDoorMore
import Derived.Deep.MidRow
set_option maxHeartbeats 6400000
set_option maxRecDepth 100000
set_option linter.unusedVariables false
set_option linter.unusedSimpArgs false
namespace Go.Proofs.YtgajclaoaphgoaaGreatDoor
def tB (s:ByteArray):List Int:=s.data.toList.map fun b=>(b.toNat:Int)
theorem fK (s:ByteArray):(tB s).length=s.size:=by
 rw [tB,List.length_map,Array.length_toList];rfl
theorem zD (s:ByteArray)(k:Nat)(h:k<s.size)(h':k<(tB s).length):(tB s)[k]=(s[k].toNat:Int):=by
 simp [tB];rfl
theorem aR4 (s:ByteArray)(k:Nat)(h:k<s.size):(tB s).getD k 0=(s[k].toNat:Int):=by
 have h':k<(tB s).length:=by rw [fK];exact h
 simp only [List.getD,List.getElem?_eq_getElem h',Option.getD_some];exact zD s k h h'
def dC (xs:List Int):Prop:=∀ x∈xs,0≤x∧x<256
theorem yQ (s:ByteArray):dC (tB s):=by
 intro x hx;rw [tB,List.mem_map] at hx;obtain ⟨b,_,rfl⟩:=hx;have:=b.toNat_lt;omega
theorem aF5 (s:ByteArray)(k:Nat)(h:k<s.size):(tB s).take (k+1)=(tB s).take k++[(s[k].toNat:Int)]:=by
 have h':k<(tB s).length:=by rw [fK];exact h
 rw [List.take_succ_eq_append_getElem h',zD s k h h']
theorem lZ (s:ByteArray)(i j:Nat):tB (s.extract i j)=((tB s).take j).drop i:=by
 rw [tB,tB,ByteArray.data_extract,Array.toList_extract,List.extract_eq_take_drop,List.map_take,List.map_drop,List.drop_take]
theorem aYL (s:ByteArray)(k:Nat)(h:k<s.size):tB (s.extract k (k+1))=[(s[k].toNat:Int)]:=by
 rw [lZ,aF5 s k h,List.drop_append_of_le_length (by rw [List.length_take,fK];omega),List.drop_of_length_le (by rw [List.length_take,fK];omega),List.nil_append]
theorem aKU (s t:ByteArray):tB (s++t)=tB s++tB t:=by simp [tB]
theorem oF {s t:ByteArray}(h:tB s=tB t):s=t:=by
 have:s.data.toList=t.data.toList:=by
  unfold tB at h;refine List.map_inj_right (fun a b hab=>?_) |>.1 h
  have:a.toNat=b.toNat:=Int.ofNat.inj hab;exact UInt8.toNat_inj.1 this
 cases s;cases t
 simp at this;simp [this]
theorem pJ {xs:List Int}(h:dC xs):tB (strOfNums xs)=xs:=by
 rw [tB,strOfNums_data,List.map_map]
 conv=>rhs;rw [←List.map_id xs]
 refine List.map_congr_left fun x hx=>?_;have:=h x hx;simp only [Function.comp,id];rw [UInt8.toNat_ofNat'];omega
theorem aKV (s:ByteArray):strOfNums (tB s)=s:=oF (pJ (yQ s))
theorem dC.nil:dC []:=fun x hx=>by cases hx
theorem dC.append {xs ys:List Int}(h:dC xs)(k:dC ys):dC (xs++ys):=fun x hx=>by
 rcases List.mem_append.1 hx with hx|hx
 ·exact h x hx
 exact k x hx
theorem dC.take {xs:List Int}(h:dC xs)(n:Nat):dC (xs.take n):=fun x hx=>h x (List.mem_of_mem_take hx)
theorem dC.drop {xs:List Int}(h:dC xs)(n:Nat):dC (xs.drop n):=fun x hx=>h x (List.mem_of_mem_drop hx)
theorem dC.get {xs:List Int}(h:dC xs){i:Nat}(hi:i<xs.length):0≤xs[i]∧xs[i]<256:=h _ (List.getElem_mem hi)
theorem aWB {P:Int→Prop}(h:∀ r:Fin 256,P (r.val:Int))(m:Int)(h0:0≤m)(h1:m<256):P m:=by
 have:=h ⟨m.toNat,by omega⟩;simpa [Int.toNat_of_nonneg h0] using this
theorem alD (s:ByteArray):s.toList.map (fun b=>(b.toNat:Int))=tB s:=by rw [ByteArray.toList_eq];rfl
theorem aF7 (s:ByteArray):s.toList.length=s.size:=by rw [ByteArray.toList_eq,Array.length_toList];rfl
theorem toList_inj {s t:ByteArray}:s.toList=t.toList↔tB s=tB t:=by
 rw [ByteArray.toList_eq,ByteArray.toList_eq];constructor
 ·intro h;unfold tB;rw [h]
 intro h;rw [oF h]
theorem aWQ {s:ByteArray}:s.toList=[]↔tB s=[]:=by rw [←alD];simp
theorem aNT (s t:ByteArray):(s.toList==t.toList)=(tB s==tB t):=by
 rw [Bool.eq_iff_iff,beq_iff_eq,beq_iff_eq,toList_inj]
def eZ (c:Int):Bool:=decide (32≤c∧c≤126∨c=10)
def cN (l:List Int):Bool:=decide (l.length≤1024)&&l.all eZ
theorem ap2 {l:List Int}(h:cN l=true){k:Nat}(hk:k<l.length):eZ l[k]=true:=by
 simp only [cN,Bool.and_eq_true,List.all_eq_true] at h;exact h.2 _ (List.getElem_mem hk)
open Go.RowKit
theorem aFI (x:Int)(h:-9223372036854775808≤x)(h':x<9223372036854775808):IntKind.i64.wrap x=x:=by
 simp only [IntKind.wrap,IntKind.bits,IntKind.signed];simp;omega
def OC (P:Program)(o:Oper)(ρ:Operand→Av)(R:List (Nat × Hs))(x:Av)(U:List (Nat × Hs)):Prop:=
 ∀ (E:Env) (a:Act),Good E→(∀ p∈o.op.operands.toList,aA E (ρ p) (a.eval p))→(∀ n y,(n,y)∈R→dI E n y)→eK P o a E.w (mZ E x U)
section
variable {bb:Bool}{P:Program}{ops:Array Oper}{o:Oper}{l:List Oper}{s:List (Nat × Av)}{h:List (Nat × Hs)}{K:Ctx→List (List Nat × List Nat)→Prop}{x:Av}{R U:List (Nat × Hs)}{d:Nat}{ρ:Operand→Av}
theorem yJ {η:List (Nat × Hs)}:∀ {R:List (Nat × Hs)},jU η R→∀ n y,(n,y)∈R→aL η n=some y
 | [],_,n,y,h=>by simp at h
 | (m,z)::R,h,n,y,hm=>by
  simp only [List.mem_cons,Prod.mk.injEq] at hm;rcases hm with ⟨rfl,rfl⟩|hm
  ·exact h.1
  exact yJ h.2 n y hm
theorem aJX {E:Env}{a:Act}(ht:∀ t∈tO ops o,aA E (bN s t) (a.tmps.getD t undef)):∀ p∈o.op.operands.toList,aA E (dA s p) (a.eval p):=by
 intro p hp;cases p with
 | tmp t=>
  refine ht t ?_;unfold tO;rw [List.mem_append,List.mem_flatMap];exact .inl ⟨_,hp,by simp [aLY]⟩
 | const v=>unfold dA aA;rfl
 | func f=>unfold dA aA;exact ⟨[],rfl,by unfold aG;rfl⟩
 | global g=>unfold dA aA;trivial
theorem aJY (hg:o.guard=none)(h:OC P o (dA s) R x U):OS bb P ops o s R x U:=by
 intro E a hG ht hR;have hw:Region.wanted o (yielded ops a.tmps)=true:=by simp [Region.wanted,hg]
 rw [if_pos hw];exact .inl (h E a hG (aJX ht) hR)
def oV (G:Av)(pol:Bool)(C:Bool):Prop:=∀ (E:Env) (v:Value),aA E G v→((match v with|.bool b=>some b|_=>none)==some pol)=C
theorem cA {B:Bool}:oV (.val (.bool B)) true B:=fun E v h=>by unfold aA at h;subst h;cases B<;>rfl
theorem eV {B:Bool}:oV (.val (.bool B)) false (!B):=fun E v h=>by unfold aA at h;subst h;cases B<;>rfl
theorem lO {C B:Bool}:oV (.gd C (.val (.bool B))) true (C&&B):=fun E v h=>by
 unfold aA aA at h;cases C with
 | true=>rw [h.1 rfl];cases B<;>rfl
 | false=>rw [h.2 rfl];rfl
theorem aAS {C B:Bool}:oV (.gd C (.val (.bool B))) false (C&&!B):=fun E v h=>by
 unfold aA aA at h;cases C with
 | true=>rw [h.1 rfl];cases B<;>rfl
 | false=>rw [h.2 rfl];rfl
def xZ:Av→Av
 | .gd _ y=>y
 | y=>y
def yC:Av→Bool
 | .gd c _=>c
 | _=>true
theorem aRY {E:Env}{y:Av}{v:Value}(h:aA E y v)(hc:yC y=true):aA E (xZ y) v:=by
 cases y
 case gd c y=>unfold aA at h;exact h.1 hc
 all_goals exact h
def aEB (s:List (Nat × Av)):List Operand→Prop
 | []=>True
 | p::l=>yC (dA s p)=true∧aEB s l
theorem aRZ {s:List (Nat × Av)}:∀ {l:List Operand},aEB s l→∀ p∈l,yC (dA s p)=true
 | q::l,h,p,hp=>by
  rcases List.mem_cons.1 hp with rfl|hp
  ·exact h.1
  exact aRZ h.2 p hp
theorem aR0 {g t:Nat}{pol C:Bool}(hg:o.guard=some (g,pol))(hs:(ops[g]?).bind (·.dst)=some t)(hG:oV (bN s t) pol C)(hC:C=true→OC P o ρ R x [])(hρ:∀ (E:Env) (a:Act),C=true→∀ p∈o.op.operands.toList,aA E (dA s p) (a.eval p)→aA E (ρ p) (a.eval p)):OS bb P ops o s R (.gd C x) []:=by
 intro E a hGd ht hR;have hgt:aA E (bN s t) (a.tmps.getD t undef):=ht t (by simp [tO,aFQ,hg,hs]);have hy:(yielded ops a.tmps g==some pol)=C:=by
  have h1:=hG E _ hgt;unfold yielded;rw [hs,Option.bind_some];rw [←h1];by_cases hlt:t<a.tmps.size
  ·simp [Array.getD,hlt];split<;>simp_all
  simp [Array.getD,hlt,undef]
 have hw:Region.wanted o (yielded ops a.tmps)=C:=by simp only [Region.wanted,hg];exact hy
 rw [hw];cases C with
 | false=>
  rw [if_neg (by simp)];exact ⟨E,rfl,Step.refl E,hGd,by unfold aA;exact ⟨fun h=>(by cases h),fun _=>rfl⟩,fun n y hn=>by simp [aL] at hn⟩
 | true=>
  rw [if_pos rfl];have:=hC rfl E a hGd (fun p hp=>hρ E a rfl p hp (aJX ht p hp)) hR;refine .inl ?_;unfold eK at this ⊢;generalize (execOp a.eval o).run P E.w=r at *;have go:∀ v w',mZ E x [] v w'→mZ E (.gd true x) [] v w':=by
   rintro v w' ⟨E',h1,h2,h3,h4,h5⟩;exact ⟨E',h1,h2,h3,by unfold aA;exact ⟨fun _=>h4,fun h=>(by cases h)⟩,h5⟩
  cases r with
  | ok n w'=>
   cases n<;>simp only [fM] at this ⊢
   case value u=>exact go _ _ this
   case skip=>exact go _ _ this
   case enter f args=>exact this.mono fun e w'' ⟨v,he,hh⟩=>⟨v,he,go _ _ hh⟩
  | halt x w'=>simp only [fM] at this
theorem eL (hg:o.guard=none)(hd:o.dst=some d)(hop:OC P o (dA s) R x [])(hR:jU h R)(h':Ck bb P ops l ⟨(d,x)::s,h⟩ fun Γ' F=>K Γ' ((R.map (·.1),[])::F)):Ck bb P ops (o::l) ⟨s,h⟩ K:=
 let ⟨Γ',F,h1,h2⟩:=h'
 ⟨Γ',_,Ch.cons (U:=[]) (aJY hg hop) (yJ hR) (by rw [hd];exact h1),h2⟩
theorem aZ (hg:o.guard=none)(hd:o.dst=some d)(hop:OC P o (dA s) R x U)(hR:jU h R)(h':Ck bb P ops l ⟨(d,x)::s,U++h⟩ fun Γ' F=>K Γ' ((R.map (·.1),U.map (·.1))::F)):Ck bb P ops (o::l) ⟨s,h⟩ K:=
 let ⟨Γ',F,h1,h2⟩:=h'
 ⟨Γ',_,Ch.cons (aJY hg hop) (yJ hR) (by rw [hd];exact h1),h2⟩
theorem fP (hg:o.guard=none)(hd:o.dst=none)(hop:OC P o (dA s) R x U)(hR:jU h R)(h':Ck bb P ops l ⟨s,U++h⟩ fun Γ' F=>K Γ' ((R.map (·.1),U.map (·.1))::F)):Ck bb P ops (o::l) ⟨s,h⟩ K:=
 let ⟨Γ',F,h1,h2⟩:=h'
 ⟨Γ',_,Ch.cons (aJY hg hop) (yJ hR) (by rw [hd];exact h1),h2⟩
theorem aW {g t:Nat}{pol C:Bool}(hg:o.guard=some (g,pol))(hs:(ops[g]?).bind (·.dst)=some t)(hd:o.dst=some d)(hG:oV (bN s t) pol C)(hop:C=true→OC P o (fun p=>xZ (dA s p)) R x [])(hc:C=true→aEB s o.op.operands.toList)(hR:jU h R)(h':Ck bb P ops l ⟨(d,.gd C x)::s,h⟩ fun Γ' F=>K Γ' ((R.map (·.1),[])::F)):
 Ck bb P ops (o::l) ⟨s,h⟩ K:=
 let ⟨Γ',F,h1,h2⟩:=h'
 ⟨Γ',_,Ch.cons (U:=[]) (aR0 hg hs hG hop fun E a hC p hp hr=>aRY hr (aRZ (hc hC) p hp)) (yJ hR) (by rw [hd];exact h1),h2⟩
theorem tt2 {a b:Bool}(h:a=true)(k:b=true):(a&&b)=true:=by rw [h,k];rfl
theorem aQ9 {g t:Nat}{pol C A:Bool}{c p q:Operand}(ho:o.op=.pick c p q)(hg:o.guard=some (g,pol))(hs:(ops[g]?).bind (·.dst)=some t)(hd:o.dst=some d)(hG:oV (bN s t) pol C)(hcc:C=true→yC (dA s c)=true)(hA:xZ (dA s c)=.val (.bool A))
 (hop:C=true→∀ (E:Env) (a:Act),aA E (dA s p) (a.eval p)→aA E (dA s q) (a.eval q)→aA E x (if A=true then a.eval p else a.eval q)) (h':Ck bb P ops l ⟨(d,.gd C x)::s,h⟩ fun Γ' F=>K Γ' (([],[])::F)):
 Ck bb P ops (o::l) ⟨s,h⟩ K:=by
 obtain ⟨Γ',F,h1,h2⟩:=h';refine ⟨Γ',_,?_,h2⟩;refine Ch.cons (R:=[]) (U:=[]) (aR0 (R:=[]) (ρ:=dA s) hg hs hG (fun hC=>?_) fun E a hC p hp hr=>hr) (fun n y hn=>by simp at hn) (by rw [hd];exact h1);intro E a hGd hp _;have h1:=aRY (hp c (by simp [ho,Op.operands])) (hcc hC);rw [hA] at h1;unfold aA at h1;have h2:=hop hC E a (hp p (by simp [ho,Op.operands])) (hp q (by simp [ho,Op.operands]));unfold eK execOp;simp only [ho,h1,Sem.run_bind,asBool,Sem.run_pure,Result.andThen_ok,fM];exact ⟨E,rfl,Step.refl E,hGd,h2,fun n y hn=>by simp [aL] at hn⟩
theorem afT {E:Env}(hG:Good E){v:Value}(h:aA E x v):mZ E x [] v E.w:=⟨E,rfl,Step.refl E,hG,h,fun n y hn=>by simp [aL] at hn⟩
theorem bZ (h:∀ (E:Env) (a:Act),Good E→(∀ p∈o.op.operands.toList,aA E (ρ p) (a.eval p))→(∀ n y,(n,y)∈R→dI E n y)→∃ v,(execOp a.eval o).run P E.w=.ok (.value v) E.w∧aA E x v):OC P o ρ R x []:=by
 intro E a hG hp hR;obtain ⟨v,h1,h2⟩:=h E a hG hp hR;unfold eK;rw [h1];exact afT hG h2
theorem aEP (h:∀ (E:Env) (a:Act),Good E→(∀ p∈o.op.operands.toList,aA E (ρ p) (a.eval p))→∃ v w',(execOp a.eval o).run P E.w=.ok (.value v) w'∧Below E.w.heap.size E.w w'∧aA { E with w:=w' } x v):OC P o ρ R x []:=by
 intro E a hG hp _;obtain ⟨v,w',h1,h2,h3⟩:=h E a hG hp;unfold eK;rw [h1];exact ⟨{ E with w:=w' },rfl,Step.grow hG h2,hG.grow h2,h3,fun n y hn=>by simp [aL] at hn⟩
theorem oM {p:Operand}(ho:o.op=.move p)(hx:ρ p=x):OC P o ρ [] x []:=bZ fun E a hG hp _=>by
 subst hx;exact ⟨a.eval p,by simp [execOp,ho],hp p (by simp [ho,Op.operands])⟩
theorem ad4 {p:Operand}(ho:o.op=.assign p)(hx:ρ p=x):OC P o ρ [] x []:=bZ fun E a hG hp _=>by
 subst hx;exact ⟨a.eval p,by simp [execOp,ho],hp p (by simp [ho,Op.operands])⟩
theorem aeD {c p:Operand}{A C B:Bool}(ho:o.op=.pick c p (.const (.bool false)))(hq:ρ (.const (.bool false))=.val (.bool false))(hc:ρ c=.val (.bool A))(hp:ρ p=.gd C (.val (.bool B)))(hi:A=true→C=true):OC P o ρ [] (.val (.bool (A&&B))) []:=bZ fun E a hG hr _=>by
 have h1:=hr c (by simp [ho,Op.operands]);have h2:=hr p (by simp [ho,Op.operands]);rw [hc] at h1;rw [hp] at h2;unfold aA at h1;unfold aA aA at h2;have h3:a.eval (.const (.bool false))=.bool false:=rfl;refine ⟨if A=true then a.eval p else .bool false,by simp [execOp,ho,h1,asBool,h3],?_⟩;unfold aA;cases A with
 | false=>rfl
 | true=>rw [if_pos rfl,h2.1 (hi rfl)];rfl
theorem aeE {c p:Operand}{A C B:Bool}(ho:o.op=.pick c (.const (.bool true)) p)(hc:ρ c=.val (.bool A))(hp:ρ p=.gd C (.val (.bool B)))(hi:(!A)=true→C=true):OC P o ρ [] (.val (.bool (A||B))) []:=bZ fun E a hG hr _=>by
 have h1:=hr c (by simp [ho,Op.operands]);have h2:=hr p (by simp [ho,Op.operands]);rw [hc] at h1;rw [hp] at h2;unfold aA at h1;unfold aA aA at h2;have h3:a.eval (.const (.bool true))=.bool true:=rfl;refine ⟨if A=true then .bool true else a.eval p,by simp [execOp,ho,h1,asBool,h3],?_⟩;unfold aA;cases A with
 | true=>rfl
 | false=>rw [if_neg (by simp),h2.1 (hi rfl)];rfl
theorem aeH {E:Env}{a:Act}{A C B:Bool}{p:Operand}{y:Av}(hy:y=.gd C (.val (.bool B)))(hi:A=true→C=true)(h:aA E y (a.eval p)):aA E (.val (.bool (A&&B))) (if A=true then a.eval p else a.eval (.const (.bool false))):=by
 subst hy;unfold aA aA at h;have h3:a.eval (.const (.bool false))=.bool false:=rfl;unfold aA;cases A with
 | false=>exact h3
 | true=>rw [if_pos rfl,h.1 (hi rfl)];rfl
theorem aeI {E:Env}{a:Act}{A C B:Bool}{p:Operand}{y:Av}(hy:y=.gd C (.val (.bool B)))(hi:(!A)=true→C=true)(h:aA E y (a.eval p)):aA E (.val (.bool (A||B))) (if A=true then a.eval (.const (.bool true)) else a.eval p):=by
 subst hy;unfold aA aA at h;have h3:a.eval (.const (.bool true))=.bool true:=rfl;unfold aA;cases A with
 | true=>exact h3
 | false=>rw [if_neg (by simp),h.1 (hi rfl)];rfl
theorem aJF {p:Operand}{T:TypeId}{B:Bool}(ho:o.op=.unOp .not T p)(hp:ρ p=.val (.bool B)):OC P o ρ [] (.val (.bool (!B))) []:=bZ fun E a hG hr _=>by
 have h1:=hr p (by simp [ho,Op.operands]);rw [hp] at h1;unfold aA at h1;exact ⟨.bool (!B),by simp [execOp,ho,h1,Op.unary],by unfold aA;rfl⟩
def nR (op:BinOp)(k:IntKind)(x y:Int):Option Value:=
 match op with
 | .add=>some (.int k (k.wrap (x+y)))
 | .sub=>some (.int k (k.wrap (x-y)))
 | .mul=>some (.int k (k.wrap (x*y)))
 | .eql=>some (.bool (x==y))
 | .neq=>some (.bool (x !=y))
 | .lss=>some (.bool (decide (x<y)))
 | .leq=>some (.bool (decide (x≤y)))
 | .gtr=>some (.bool (decide (x>y)))
 | .geq=>some (.bool (decide (x≥y)))
 | _=>none
theorem xI {p q:Operand}{T T':TypeId}{op:BinOp}{k:IntKind}{m n:Int}{z:Value}(ho:o.op=.binOp op T p q T')(hp:ρ p=.val (.int k m))(hq:ρ q=.val (.int k n))(hz:nR op k m n=some z):OC P o ρ [] (.val z) []:=bZ fun E a hG hr _=>by
 have h1:=hr p (by simp [ho,Op.operands]);have h2:=hr q (by simp [ho,Op.operands]);rw [hp] at h1;rw [hq] at h2;unfold aA at h1 h2;refine ⟨z,?_,by unfold aA;rfl⟩;cases op<;>simp only [nR,Option.some.injEq,reduceCtorEq] at hz<;>subst hz<;>simp [execOp,ho,h1,h2,eqGuard,binOp,Op.intArith,Op.intCmp]
theorem aNJ {m n:Int}(h:-9223372036854775808≤m+n)(h':m+n<9223372036854775808):nR .add .i64 m n=some (.int .i64 (m+n)):=by simp only [nR,aFI _ h h']
theorem ad5 {m n:Int}(h:-9223372036854775808≤m-n)(h':m-n<9223372036854775808):nR .sub .i64 m n=some (.int .i64 (m-n)):=by simp only [nR,aFI _ h h']
theorem ad6 {m n:Int}(h:-9223372036854775808≤m*n)(h':m*n<9223372036854775808):nR .mul .i64 m n=some (.int .i64 (m*n)):=by simp only [nR,aFI _ h h']
end
abbrev vi (n:Int):Av:=.val (.int .i64 n)
abbrev vb (b:Bool):Av:=.val (.bool b)
theorem aR {a b:Int}(h:a=b):vi a=vi b:=by rw [h]
theorem bP {a b:Bool}(h:a=b):vb a=vb b:=by rw [h]
abbrev vs (s:ByteArray):Av:=.val (.string s)
def jK (P:Program)(T:TypeId):Option Bool:=(P.underlying T).map TypeDesc.isRow
def mX (P:Program)(T:TypeId):Option Nat:=(P.info? T).map (·.size)
def sZ (P:Program)(T:TypeId):Option Nat:=match P.underlying T with|some (.slice e)=>(P.info? e).map fun i=>i.size|_=>none
def rR (P:Program)(T:TypeId)(i:Nat):Option (Nat × Nat × Bool):=
 match P.underlying T with
 | some (.struct fs)=>(fs[i]?).bind fun f=>(P.info? f.type).bind fun inf=>(P.underlying f.type).map fun d=>(f.offset,inf.size,d.isRow)
 | _=>none
def oD (P:Program)(T:TypeId):Bool:=match P.underlying T with|some .string=>true|_=>false
section
variable {P:Program}{o:Oper}{x y:Av}{R U:List (Nat × Hs)}{ρ:Operand→Av}{p q:Operand}{T:TypeId}
theorem aD9 {b:Bool}(h:jK P T=some b):∃ d,P.underlying T=some d∧d.isRow=b:=by
 unfold jK at h;cases hd:P.underlying T with
 | none=>simp [hd] at h
 | some d=>exact ⟨d,rfl,by simpa [hd] using h⟩
theorem aEA {b:Bool}(h:jK P T=some b)(w:World):(isAgg T).run P w=.ok b w:=by
 obtain ⟨d,h1,h2⟩:=aD9 h;unfold isAgg;rw [Sem.run_bind,run_underlying h1 w];cases d<;>simp_all
theorem aR1 {w:World}{b off:Nat}{u:Value}(hT:jK P T=some false)(hc:w.cell? ⟨b,off,none⟩=some u):(Instr.loadAt T (.pointer (some ⟨b,off,none⟩))).run P w=.ok u w:=by
 simp [Instr.loadAt,Instr.sureAddr,Sem.run_bind,loadVar,aEA hT,hc]
theorem aR2 {w:World}{b off:Nat}{cs:List Value}(hT:jK P T=some true)(hs:mX P T=some cs.length)(hc:w.rangeAt b off cs):(Instr.loadAt T (.pointer (some ⟨b,off,none⟩))).run P w=.ok (.agg cs.toArray) w:=by
 obtain ⟨d,h1,h2⟩:=aD9 hT;exact run_loadAt_mid w b off T cs d hc h1 h2 hs
theorem pV (ho:o.op=.load T p)(hp:ρ p=.ptr x)(hT:jK P T=some false)(hx:∀ E v,aA E x v→v.oneCell'=true):OC P o ρ [] x []:=bZ fun E a hG hr _=>by
 have h1:=hr p (by simp [ho,Op.operands]);rw [hp] at h1;unfold aA at h1;obtain ⟨b,off,u,h2,h3,h4,h5⟩:=h1;have hc:E.w.cell? ⟨b,off,none⟩=some u:=by
  have:=h5 0 u (by rw [tN (hx E u h4)];rfl);simpa using this
 refine ⟨u,?_,h4⟩;simp only [execOp,ho,h2,Sem.run_bind,aR1 hT hc,Result.andThen_ok,Sem.run_pure]
theorem oH {k:IntKind}{n:Int}(E:Env)(v:Value)(h:aA E (.val (.int k n)) v):v.oneCell'=true:=by unfold aA at h;subst h;rfl
theorem aJE {b:Bool}(E:Env)(v:Value)(h:aA E (.val (.bool b)) v):v.oneCell'=true:=by unfold aA at h;subst h;rfl
theorem aJD {s:ByteArray}(E:Env)(v:Value)(h:aA E (.val (.string s)) v):v.oneCell'=true:=by unfold aA at h;subst h;rfl
theorem aAT {k n:Nat}{row:Nat→Av}(E:Env)(v:Value)(h:aA E (.sl k n row) v):v.oneCell'=true:=by unfold aA at h;obtain ⟨A,c,rfl,_⟩:=h;rfl
theorem aEC {z:Av}(E:Env)(v:Value)(h:aA E (.ptr z) v):v.oneCell'=true:=by unfold aA at h;obtain ⟨b,off,u,rfl,_⟩:=h;rfl
theorem afU {f:Nat}{cs:List Av}(E:Env)(v:Value)(h:aA E (.bm f cs) v):v.oneCell'=true:=by unfold aA at h;obtain ⟨vs,rfl,_⟩:=h;rfl
theorem aAU {f:Nat}{cs:List Av}(E:Env)(v:Value)(h:aA E (.clo f cs) v):v.oneCell'=true:=by unfold aA at h;obtain ⟨vs,rfl,_⟩:=h;rfl
theorem nU {n off:Nat}(E:Env)(v:Value)(h:aA E (.own n off) v):v.oneCell'=true:=by unfold aA at h;obtain ⟨⟨_,p,rfl⟩,_⟩:=h;rfl
theorem aED {k n len:Nat}(E:Env)(v:Value)(h:aA E (.osl k n len) v):v.oneCell'=true:=by unfold aA at h;obtain ⟨⟨_,⟨a,c,rfl⟩,_⟩,_⟩:=h;rfl
theorem aQ7 {f:Nat}(E:Env)(v:Value)(h:aA E (.val (.func (.func f) #[] #[])) v):v.oneCell'=true:=by unfold aA at h;subst h;rfl
theorem ad8 {cs:List Av}(ho:o.op=.load T p)(hp:ρ p=.ptr x)(hT:jK P T=some true)(hs:mX P T=some cs.length)(hx:x=.agg cs):OC P o ρ [] x []:=bZ fun E a hG hr _=>by
 have h1:=hr p (by simp [ho,Op.operands]);rw [hp] at h1;unfold aA at h1;obtain ⟨b,off,u,h2,h3,h4,h5⟩:=h1;have h4':=h4;rw [hx] at h4';unfold aA at h4';obtain ⟨vs,rfl,h6,_⟩:=h4';refine ⟨.agg vs.toArray,?_,h4⟩;have h5:E.w.rangeAt b off vs:=h5;simp only [execOp,ho,h2,Sem.run_bind,aR2 hT (by rw [hs,h6.length]) h5,Result.andThen_ok,Sem.run_pure]
theorem aG.get {E:Env}:∀ {xs:List Av} {vs:List Value},aG E xs vs→∀ (i:Nat) (y:Av),xs[i]?=some y→∃ u:Value,vs[i]?=some u∧aA E y u
 | [],vs,_,i,y,h=>by simp at h
 | x::xs,vs,hr,0,y,h=>by
  unfold aG at hr;obtain ⟨v,us,rfl,h1,h2⟩:=hr;simp at h;subst h;exact ⟨v,rfl,h1⟩
 | x::xs,vs,hr,i+1,y,h=>by
  unfold aG at hr;obtain ⟨v,us,rfl,h1,h2⟩:=hr;simpa using h2.get i y (by simpa using h)
theorem aG.dropTake {E:Env}{k m:Nat}:∀ {xs:List Av} {vs:List Value},aG E xs vs→aG E ((xs.drop k).take m) ((vs.drop k).take m):=by
 have tk:∀ (m:Nat) (xs:List Av) (vs:List Value),aG E xs vs→aG E (xs.take m) (vs.take m):=by
  intro m
  induction m with
  | zero=>intro xs vs _;simp [aG]
  | succ m ih=>
   intro xs vs h;cases xs with
   | nil=>unfold aG at h;subst h;simp [aG]
   | cons x xs=>
    unfold aG at h;obtain ⟨v,us,rfl,h1,h2⟩:=h;simp only [List.take_succ_cons];unfold aG;exact ⟨v,_,rfl,h1,ih _ _ h2⟩
 induction k with
 | zero=>intro xs vs h;exact tk m _ _ h
 | succ k ih=>
  intro xs vs h;cases xs with
  | nil=>unfold aG at h;subst h;simp [aG]
  | cons x xs=>
   unfold aG at h;obtain ⟨v,us,rfl,h1,h2⟩:=h;exact ih h2
theorem aJZ {i off sz:Nat}{r:Bool}(h:rR P T i=some (off,sz,r))(hz:sz≠0)(w:World)(b k:Nat):(Instr.fieldAt T (.pointer (some ⟨b,k,none⟩)) i).run P w=.ok (.pointer (some ⟨b,k+off,none⟩)) w:=by
 unfold rR at h;cases hu:P.underlying T with
 | none=>simp [hu] at h
 | some d=>
  cases d with
  | struct fs=>
   simp only [hu] at h;cases hf:fs[i]? with
   | none=>simp [hf] at h
   | some f=>
    simp only [hf,Option.bind_some] at h;cases hi:P.info? f.type with
    | none=>simp [hi] at h
    | some inf=>
     cases hd:P.underlying f.type with
     | none=>simp [hi,hd] at h
     | some d=>
      simp [hi,hd] at h;obtain ⟨rfl,rfl,rfl⟩:=h;simp [Instr.fieldAt,Sem.run_bind,run_underlying hu,hf,Instr.sureAddr,fieldPlace,sizeOf,typeInfo,hi,hz,Addr.add_mid]
  | _=>simp [hu] at h
theorem aQ6 {i off:Nat}{cs:List Av}(ho:o.op=.fieldAddr T p i)(hp:ρ p=.ptr x)(hx:x=.agg cs)(hf:rR P T i=some (off,1,false))(hy:cs[off]?=some y):OC P o ρ [] (.ptr y) []:=bZ fun E a hG hr _=>by
 have h1:=hr p (by simp [ho,Op.operands]);rw [hp,hx] at h1;unfold aA aA at h1;obtain ⟨b,k,u,h2,h3,⟨vs,rfl,h6,h7⟩,h5⟩:=h1;obtain ⟨v,h8,h9⟩:=h6.get off y hy;refine ⟨.pointer (some ⟨b,k+off,none⟩),by simp only [execOp,ho,h2,Sem.run_bind,aJZ hf (by decide),Result.andThen_ok,Sem.run_pure],?_⟩;unfold aA;refine ⟨b,k+off,v,rfl,h3,h9,fun j u hu=>?_⟩;rw [tN (h7 v (List.mem_of_getElem? h8))] at hu;have hj:j=0:=by
  have:=(List.getElem?_eq_some_iff.1 hu).1;simpa using this
 subst hj;simp at hu;subst hu;have:=h5 off v h8;simpa using this
theorem ad7 {i off sz:Nat}{cs:List Av}(ho:o.op=.fieldAddr T p i)(hp:ρ p=.ptr x)(hx:x=.agg cs)(hf:rR P T i=some (off,sz,true))(hz:sz≠0):OC P o ρ [] (.ptr (.agg ((cs.drop off).take sz))) []:=bZ fun E a hG hr _=>by
 have h1:=hr p (by simp [ho,Op.operands]);rw [hp,hx] at h1;unfold aA aA at h1;obtain ⟨b,k,u,h2,h3,⟨vs,rfl,h6,h7⟩,h5⟩:=h1;refine ⟨.pointer (some ⟨b,k+off,none⟩),by simp only [execOp,ho,h2,Sem.run_bind,aJZ hf hz,Result.andThen_ok,Sem.run_pure],?_⟩;unfold aA aA;refine ⟨b,k+off,.agg ((vs.drop off).take sz).toArray,rfl,h3,⟨_,rfl,h6.dropTake,fun u hu=>h7 u (List.mem_of_mem_drop (List.mem_of_mem_take hu))⟩,fun j u hu=>?_⟩;have hu:((vs.drop off).take sz)[j]?=some u:=hu;rw [List.getElem?_take] at hu;split at hu
 ·rw [List.getElem?_drop] at hu;have:=h5 (off+j) u hu;rwa [←Nat.add_assoc] at this
 cases hu
theorem afV {k:Nat}(h:sZ P T=some k):∃ e,P.underlying T=some (.slice e)∧∃ i,P.info? e=some i∧i.size=k:=by
 unfold sZ at h;cases hu:P.underlying T with
 | none=>simp [hu] at h
 | some d=>
  cases d with
  | slice e'=>
   simp only [hu] at h;cases hi:P.info? e' with
   | none=>simp [hi] at h
   | some i=>
    simp [hi] at h;exact ⟨e',rfl,i,hi,h⟩
  | _=>simp [hu] at h
theorem aR3 {k n c b off:Nat}{q:IntKind}{i:Int}(h:sZ P T=some k)(w:World)(h0:0≤i)(h1:i<n):
 (Instr.indexAt T (.slice (some ⟨b,off,none⟩) n c) (.int q i)).run P w=.ok (.pointer (some ⟨b,off+i.toNat*k,none⟩)) w:=by
 obtain ⟨e,hu,inf,hi,rfl⟩:=afV h;simp [Instr.indexAt,asIntOf,Sem.run_bind,run_underlying hu,h0,h1,sizeOf,typeInfo,hi,Addr.add_mid]
theorem mM {k n j:Nat}{row:Nat→Av}{kk:IntKind}{i:Int}(ho:o.op=.indexAddr T p q)(hp:ρ p=.sl k n row)(hq:ρ q=.val (.int kk i))(hT:sZ P T=some k)(h0:0≤i)(h1:i<n)(hj:i.toNat=j):OC P o ρ [] (.ptr (row j)) []:=bZ fun E a hG hr _=>by
 have h2:=hr p (by simp [ho,Op.operands]);have h3:=hr q (by simp [ho,Op.operands]);rw [hp] at h2;rw [hq] at h3;unfold aA at h2 h3;obtain ⟨A,c,h4,h5,h6,h7⟩:=h2;obtain ⟨b,off,rfl,h8,h9⟩:=h7 (by omega);obtain ⟨u,h10,h11,h12⟩:=h9 j (by omega);refine ⟨.pointer (some ⟨b,off+i.toNat*k,none⟩),by simp only [execOp,ho,h4,h3,Sem.run_bind,aR3 hT E.w h0 h1,Result.andThen_ok,Sem.run_pure],?_⟩;unfold aA;exact ⟨b,off+j*k,u,by rw [hj],h8,h10,h12⟩
theorem rJ {k n j:Nat}{row:Nat→Av}{kk:IntKind}(ho:o.op=.indexAddr T p q)(hp:ρ p=.sl k n row)(hq:ρ q=.val (.int kk ((j:Nat):Int)))(hT:sZ P T=some k)(h1:j<n):OC P o ρ [] (.ptr (row j)) []:=
 mM ho hp hq hT (by omega) (by omega) (by simp)
theorem aGH {s:ByteArray}{kk:IntKind}{i:Int}{z:Int}(ho:o.op=.index T p q)(hp:ρ p=.val (.string s))(hq:ρ q=.val (.int kk i))(hT:oD P T=true)(h0:0≤i)(h1:i<s.size)(hz:(tB s).getD i.toNat 0=z):OC P o ρ [] (.val (.int .u8 z)) []:=bZ fun E a hG hr _=>by
 have h2:=hr p (by simp [ho,Op.operands]);have h3:=hr q (by simp [ho,Op.operands]);rw [hp] at h2;rw [hq] at h3;unfold aA at h2 h3;have hu:P.underlying T=some .string:=by
  unfold oD at hT;split at hT
  ·assumption
  cases hT
 refine ⟨.int .u8 z,?_,by unfold aA;rfl⟩;have hlt:i.toNat<s.size:=by omega
 have hg:s[i.toNat]?=some s[i.toNat]:=by simp [hlt]
 rw [aR4 s i.toNat hlt] at hz;simp [execOp,ho,h2,h3,Instr.index,asIntOf,Sem.run_bind,run_underlying hu,h0,hg,hz]
def tS (P:Program)(T:TypeId):Bool:=match P.underlying T with|some (.slice _)=>true|_=>false
theorem aB3 (h:tS P T=true):∃ e,P.underlying T=some (.slice e):=by
 unfold tS at h;split at h
 ·exact ⟨_,by assumption⟩
 cases h
theorem aeA {k n:Nat}{row:Nat→Av}(ho:o.op=.call { callee:=.builtin .len,args:=#[p],argTypes:=#[T] })(hp:ρ p=.sl k n row)(hT:tS P T=true):OC P o ρ [] (.val (.int .i64 n)) []:=bZ fun E a hG hr _=>by
 have h2:=hr p (by simp [ho,Op.operands,Call.operands]);rw [hp] at h2;unfold aA at h2;obtain ⟨A,c,h4,_⟩:=h2;obtain ⟨e,hu⟩:=aB3 hT;refine ⟨.int .i64 n,?_,by unfold aA;rfl⟩;simp only [execOp,ho,resolve,invoke,builtin,Builtin.len_,h4,Sem.run_bind,Sem.run_pure,Result.andThen_ok,List.map_toArray,List.map_cons,List.map_nil,List.getElem?_toArray,List.getElem?_cons_zero,run_underlying hu,goInt]
theorem aeB {k n m:Nat}{t:TypeId}{cs:List Av}(ho:o.op=.call { callee:=.builtin .len,args:=#[p],argTypes:=#[T] })(hp:ρ p=.osl k m n)(hT:tS P T=true):OC P o ρ [(m,.live t cs)] (.val (.int .i64 n)) []:=bZ fun E a hG hr hH=>by
 have h2:=hr p (by simp [ho,Op.operands,Call.operands]);rw [hp] at h2;unfold aA at h2;obtain ⟨e,hu⟩:=aB3 hT;refine ⟨.int .i64 n,?_,by unfold aA;rfl⟩;have h4:∃ A c,a.eval p=.slice A n c:=by
  rcases hH m (.live t cs) (by simp) with ⟨h3,_⟩|⟨b,cur,h3,_⟩
  ·obtain ⟨h4,rfl⟩:=h2.1.2.2 h3;exact ⟨_,_,h4⟩
  obtain ⟨c,cur,t,h4,_⟩:=h2.2 b h3;exact ⟨_,_,h4⟩
 obtain ⟨A,c,h4⟩:=h4;simp only [execOp,ho,resolve,invoke,builtin,Builtin.len_,h4,Sem.run_bind,Sem.run_pure,Result.andThen_ok,List.map_toArray,List.map_cons,List.map_nil,List.getElem?_toArray,List.getElem?_cons_zero,run_underlying hu,goInt]
theorem aeC {s:ByteArray}(ho:o.op=.call { callee:=.builtin .len,args:=#[p],argTypes:=#[T] })(hp:ρ p=.val (.string s))(hT:oD P T=true):OC P o ρ [] (.val (.int .i64 s.size)) []:=bZ fun E a hG hr _=>by
 have h2:=hr p (by simp [ho,Op.operands,Call.operands]);rw [hp] at h2;unfold aA at h2;have hu:P.underlying T=some .string:=by
  unfold oD at hT;split at hT
  ·assumption
  cases hT
 refine ⟨.int .i64 s.size,?_,by unfold aA;rfl⟩;simp only [execOp,ho,resolve,invoke,builtin,Builtin.len_,h2,Sem.run_bind,Sem.run_pure,Result.andThen_ok,List.map_toArray,List.map_cons,List.map_nil,List.getElem?_toArray,List.getElem?_cons_zero,run_underlying hu,goInt]
theorem aCA (ho:o.op=.box T p)(hp:ρ p=x):OC P o ρ [] (.ptr x) []:=aEP fun E a hG hr=>by
 have h2:=hr p (by simp [ho,Op.operands]);rw [hp] at h2;have hB:Below E.w.heap.size E.w (E.w.alloc (.cells (a.eval p).cells T)):=(Below.refl _ _).alloc (Nat.le_refl _) _;refine ⟨.pointer (some ⟨E.w.heap.size,0,none⟩),E.w.alloc (.cells (a.eval p).cells T),?_,hB,?_⟩
 ·simp [execOp,ho,Instr.box,newVar,newRow]
 unfold aA;refine ⟨E.w.heap.size,0,a.eval p,rfl,⟨by simp,fun hb=>?_,fun n hn=>?_⟩,aA.step (Step.grow hG hB) _ _ h2,fun j v hv=>?_⟩
 ·have:=hG.old _ hb;omega
 ·have:=(hG.lt n _ hn).1;omega
 have:=(bI.new E.w T (a.eval p).cells.toList).cell (0+j);simp only [Nat.zero_add] at this ⊢;rw [←hv];simp
theorem iE {f:Nat}{caps:List Operand}{cs:List Av}(ho:o.op=.makeFunc (.func f) caps.toArray #[])(hcs:caps.map ρ=cs):OC P o ρ [] (.bm f cs) []:=bZ fun E a hG hr _=>by
 subst hcs;refine ⟨.func (.func f) (caps.map a.eval).toArray #[],by simp [execOp,ho,Instr.makeFunc],?_⟩;unfold aA;refine ⟨_,rfl,?_⟩;have:∀ l:List Operand,(∀ p∈l,p∈caps)→aG E (l.map ρ) (l.map a.eval):=by
  intro l
  induction l with
  | nil=>intro _;simp [aG]
  | cons p l ih=>
   intro hl;simp only [List.map_cons];unfold aG;exact ⟨_,_,rfl,hr p (by simp [ho,Op.operands];exact hl p (by simp)),ih fun q hq=>hl q (by simp [hq])⟩
 exact this caps fun _ h=>h
theorem qC {f:Nat}{caps:List Operand}{cs:List Av}(ho:o.op=.makeFunc (.func f) #[] caps.toArray)(hcs:caps.map ρ=cs):OC P o ρ [] (.clo f cs) []:=bZ fun E a hG hr _=>by
 subst hcs;refine ⟨.func (.func f) #[] (caps.map a.eval).toArray,by simp [execOp,ho,Instr.makeFunc],?_⟩;unfold aA;refine ⟨_,rfl,?_⟩;have:∀ l:List Operand,(∀ p∈l,p∈caps)→aG E (l.map ρ) (l.map a.eval):=by
  intro l
  induction l with
  | nil=>intro _;simp [aG]
  | cons p l ih=>
   intro hl;simp only [List.map_cons];unfold aG;exact ⟨_,_,rfl,hr p (by simp [ho,Op.operands];exact hl p (by simp)),ih fun q hq=>hl q (by simp [hq])⟩
 exact this caps fun _ h=>h
mutual
def aN:Av→Prop
 | .any|.val _|.fm _ _ _ _|.frz _ _ _=>True
 | .sl _ _ row=>∀ j,aN (row j)
 | .ptr x=>aN x
 | .agg cs|.tup cs|.clo _ cs|.bm _ cs=>bE cs
 | .own _ _|.osl _ _ _|.oss _ _ _|.mp _=>False
 | .gd _ x|.nz x=>aN x
def bE:List Av→Prop
 | []=>True
 | x::xs=>aN x∧bE xs
end
mutual
theorem aA.pure {E E':Env}(hok:∀ b,E.ok b→E'.ok b∧E'.w.heap[b]?=E.w.heap[b]?):∀ (x:Av) (v:Value),aN x→aA E x v→aA E' x v
 | .any,_,_,_=>by unfold aA;trivial
 | .val x,v,_,hr=>by unfold aA at hr ⊢;exact hr
 | .sl k n row,v,hp,hr=>by
  unfold aN at hp;unfold aA at hr ⊢;obtain ⟨A,c,h1,h2,h3,h4⟩:=hr;refine ⟨A,c,h1,h2,h3,fun hn=>?_⟩;obtain ⟨b,o,h5,h6,h7⟩:=h4 hn;refine ⟨b,o,h5,(hok b h6).1,fun j hj=>?_⟩;obtain ⟨u,h8,h9,h10⟩:=h7 j hj;exact ⟨u,aA.pure hok (row j) u (hp j) h8,h9,aBT (hok b h6).2 h10⟩
 | .ptr x,v,hp,hr=>by
  unfold aN at hp;unfold aA at hr ⊢;obtain ⟨b,o,u,h1,h2,h3,h4⟩:=hr;exact ⟨b,o,u,h1,(hok b h2).1,aA.pure hok x u hp h3,aBT (hok b h2).2 h4⟩
 | .agg cs,v,hp,hr=>by
  unfold aN at hp;unfold aA at hr ⊢;obtain ⟨vs,h1,h2,h3⟩:=hr;exact ⟨vs,h1,aG.pure hok cs vs hp h2,h3⟩
 | .tup cs,v,hp,hr=>by
  unfold aN at hp;unfold aA at hr ⊢;obtain ⟨vs,h1,h2⟩:=hr;exact ⟨vs,h1,aG.pure hok cs vs hp h2⟩
 | .clo f cs,v,hp,hr=>by
  unfold aN at hp;unfold aA at hr ⊢;obtain ⟨vs,h1,h2⟩:=hr;exact ⟨vs,h1,aG.pure hok cs vs hp h2⟩
 | .bm f cs,v,hp,hr=>by
  unfold aN at hp;unfold aA at hr ⊢;obtain ⟨vs,h1,h2⟩:=hr;exact ⟨vs,h1,aG.pure hok cs vs hp h2⟩
 | .own n off,v,hp,_=>by unfold aN at hp;exact hp.elim
 | .osl k n len,v,hp,_=>by unfold aN at hp;exact hp.elim
 | .oss n off len,v,hp,_=>by unfold aN at hp;exact hp.elim
 | .mp n,v,hp,_=>by unfold aN at hp;exact hp.elim
 | .fm P k e D,v,_,hr=>by
  unfold aA at hr ⊢;obtain ⟨b,n,h1,h2,h3⟩:=hr;exact ⟨b,n,h1,(hok b h2).1,aBU (hok b h2).2 h3⟩
 | .frz q T xs,v,_,hr=>by
  unfold aA at hr ⊢;obtain ⟨c,g,cur,h1,h2,h3,h4,h5⟩:=hr;exact ⟨c,g,cur,h1,h2,(hok g h3).1,(hok g h3).2.trans h4,h5⟩
 | .gd c x,v,hp,hr=>by
  unfold aN at hp;unfold aA at hr ⊢;exact ⟨fun hc=>aA.pure hok x v hp (hr.1 hc),hr.2⟩
 | .nz x,v,hp,hr=>by
  unfold aN at hp;unfold aA at hr ⊢;exact ⟨aA.pure hok x v hp hr.1,hr.2⟩
theorem aG.pure {E E':Env}(hok:∀ b,E.ok b→E'.ok b∧E'.w.heap[b]?=E.w.heap[b]?):∀ (xs:List Av) (vs:List Value),bE xs→aG E xs vs→aG E' xs vs
 | [],vs,_,hr=>by unfold aG at hr ⊢;exact hr
 | x::xs,vs,hp,hr=>by
  unfold bE at hp;unfold aG at hr ⊢;obtain ⟨v,us,h1,h2,h3⟩:=hr;exact ⟨v,us,h1,aA.pure hok x v hp.1 h2,aG.pure hok xs us hp.2 h3⟩
end
def PC (P:Program)(f:FuncId)(args:List Av)(x:Av):Prop:=FC P f args [] x []
def Env.hide (E:Env):Env:={ w:=E.w,loc:=fun _=>.unborn,bad:=fun b=>E.bad b∨∃ n,E.loc n=.at b }
theorem aR5 {E:Env}{b:Nat}(h:E.ok b):E.hide.ok b∧E.hide.w.heap[b]?=E.w.heap[b]?:=
 ⟨⟨h.1,fun hb=>by
  rcases hb with hb|⟨n,hn⟩
  ·exact h.2.1 hb
  exact h.2.2 n hn,fun n hn=>(by cases hn)⟩,rfl⟩
theorem Good.hide {E:Env}(hG:Good E):Good E.hide:=⟨fun b hb=>by
 rcases hb with hb|⟨n,hn⟩
 ·exact hG.old b hb
 exact (hG.lt n b hn).1,fun n m b h=>(by cases h),fun n b h=>(by cases h),hG.shp.same fun b hb=>aR5 hb⟩
theorem PC.post {f:Nat}{args:List Av}{E:Env}{vs:List Value}(hc:PC P f args x)(hG:Good E)(hA:aG E args vs)(hpa:bE args)(hpx:aN x):Calls P f vs.toArray E.w fun e w'=>∃ v,e=.returned v∧mZ E x [] v w':=by
 refine (hc E.hide vs hG.hide (aG.pure (fun b hb=>aR5 hb) _ _ hpa hA) (fun n y hn=>by simp [aL] at hn) (by simp) (fun _ _=>rfl)).mono ?_;rintro e w' ⟨E',v,rfl,rfl,hG',hK,hx,_⟩;have hB:Below E.w.heap.size E.w E'.w:=⟨hK.os,hK.tape,hK.output,hK.size,fun b hb=>hK.keep b hb fun n hn=>(by cases hn)⟩
 refine ⟨v,rfl,{ E with w:=E'.w },rfl,Step.grow hG hB,hG.grow hB,?_,fun n y hn=>by simp [aL] at hn⟩;refine aA.pure (E:=E') (E':={ E with w:=E'.w }) (fun b hb=>⟨⟨hb.1,fun hbad=>hb.2.1 ?_,fun n hn=>hb.2.1 ?_⟩,rfl⟩) x v hpx hx
 ·rw [hK.bad];exact .inl hbad
 rw [hK.bad];exact .inr ⟨n,hn⟩
def dN (P : Program) (f : FuncId) : Bool := match P.funcs[f]? with | some fn => fn.name != "runtime.NumGoroutine" && fn.body.isSome | none => false
theorem aA4 {f:FuncId}(h:dN P f=true)(args:Array Value)(w:World):(callFunc f args).run P w=.ok (.enter f args) w:=by
 unfold dN at h;unfold callFunc;cases hf:P.funcs[f]? with
 | none=>simp [hf] at h
 | some fn=>
  simp only [hf,Bool.and_eq_true,bne_iff_ne,ne_eq] at h;cases hb:fn.body with
  | none=>simp [hb] at h
  | some c=>
   have h1 : (fn.name == "runtime.NumGoroutine") = false := by simpa using h.1
   show ((match P.funcs[f]? with|none=>_|some fn=>_:Sem Next)).run P w=_;rw [hf];simp only [h1,hb];rfl
theorem aA3 {E:Env}{a:Act}{l:List Operand}(h:∀ p∈l,aA E (ρ p) (a.eval p)):aG E (l.map ρ) (l.map a.eval):=by
 induction l with
 | nil=>simp [aG]
 | cons p l ih=>
  simp only [List.map_cons];unfold aG;exact ⟨_,_,rfl,h p (by simp),ih fun q hq=>h q (by simp [hq])⟩
theorem jP {f:Nat}{args:List Operand}{tys:Array TypeId}{xs:List Av}(ho:o.op=.call { callee:=.value (.func f),args:=args.toArray,argTypes:=tys })(hf:dN P f=true)(hc:PC P f xs x)(hxs:args.map ρ=xs)(hpa:bE xs)(hpx:aN x):OC P o ρ [] x []:=by
 intro E a hG hr _;subst hxs;have hA:=aA3 (ρ:=ρ) (E:=E) (a:=a) (l:=args) fun p hp=>hr p (by simp [ho,Op.operands,Call.operands,hp]);have:=PC.post hc hG hA hpa hpx;unfold eK execOp;simp only [ho,resolve,Deferred.ofValue,Act.eval,Sem.run_bind,Sem.run_pure,Result.andThen_ok,invoke,Array.append_empty,Array.empty_append,List.map_toArray,aA4 hf,fM];exact this
theorem kW {f:Nat}{g:Operand}{args:List Operand}{tys:Array TypeId}{ys caps:List Av}(ho:o.op=.call { callee:=.value g,args:=args.toArray,argTypes:=tys })(hg:ρ g=.clo f caps)(hf:dN P f=true)(hc:PC P f ys x)(hxs:args.map ρ++caps=ys)(hpa:bE ys)(hpx:aN x):OC P o ρ [] x []:=by
 intro E a hG hr _;subst hxs;have hA:=aA3 (ρ:=ρ) (E:=E) (a:=a) (l:=args) fun p hp=>hr p (by simp [ho,Op.operands,Call.operands,hp]);have h1:=hr g (by simp [ho,Op.operands,Call.operands]);rw [hg] at h1;unfold aA at h1;obtain ⟨vs,h2,h3⟩:=h1;have app:∀ (xs:List Av) (us:List Value),aG E xs us→aG E (xs++caps) (us++vs):=by
  intro xs
  induction xs with
  | nil=>intro us h;unfold aG at h;subst h;exact h3
  | cons x xs ih=>
   intro us h;unfold aG at h;obtain ⟨v,us',rfl,h4,h5⟩:=h;simp only [List.cons_append];unfold aG;exact ⟨v,_,rfl,h4,ih _ h5⟩
 have:=PC.post hc hG (app _ _ hA) hpa hpx;unfold eK execOp;simp only [ho,resolve,Deferred.ofValue,h2,Sem.run_bind,Sem.run_pure,Result.andThen_ok,invoke,Array.append_empty,Array.empty_append,List.map_toArray,List.append_toArray,aA4 hf,fM];exact this
theorem aRP {E:Env}:∀ {xs ys:List Av} {us ws:List Value},aG E xs us→aG E ys ws→aG E (xs++ys) (us++ws)
 | [],ys,us,ws,h,h2=>by unfold aG at h;subst h;exact h2
 | x::xs,ys,us,ws,h,h2=>by
  unfold aG at h;obtain ⟨v,r,rfl,h3,h4⟩:=h;rw [List.cons_append,List.cons_append];unfold aG;exact ⟨v,_,rfl,h3,aRP h4 h2⟩
end
end Go.Proofs.YtgajclaoaphgoaaGreatDoor
