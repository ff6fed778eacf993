/- Parts of the proof of a law of this seat: rules and contracts; no conditions. -/
import Derived.Test.YtgajclaoaphgoaaGreatDoorAv
import Derived.TacticsIn
import Derived.RangeFuncCalls
import Derived.OrdersIn
import Derived.Sort.LoopGhostIn
import Derived.RangeFuncLeaves
import Derived.RangeFuncRecord
set_option maxHeartbeats 6400000
set_option maxRecDepth 100000
set_option linter.unusedVariables false
set_option linter.unusedSimpArgs false
namespace Go.Proofs.YtgajclaoaphgoaaGreatDoor
open Go.RowKit
structure Ctx where
 s:List (Nat × Av)
 h:List (Nat × Hs)
def aL:List (Nat × Hs)→Nat→Option Hs
 | [],_=>none
 | (t,x)::r,u=>bif Nat.beq t u then some x else aL r u
theorem eY {a b:Nat}(h:a≠b):Nat.beq a b=false:=by
 cases hb:Nat.beq a b with
 | false=>rfl
 | true=>exact absurd (Nat.eq_of_beq_eq_true hb) h
theorem aVI {a b:Nat}(h:Nat.beq a b=false):a≠b:=by
 intro e;subst e;have:Nat.beq a a=true:=by simp
 rw [this] at h;cases h
theorem lE (t:Nat)(x:Av)(r:List (Nat × Av)):bN ((t,x)::r) t=x:=by simp [bN]
theorem lS {t u:Nat}(x:Av)(r:List (Nat × Av))(h:t≠u):bN ((t,x)::r) u=bN r u:=by
 have:Nat.beq t u=false:=eY h;simp [bN,this]
theorem vF (U h:List (Nat × Hs))(n:Nat):aL (U++h) n=(aL U n).or (aL h n):=by
 induction U with
 | nil=>rfl
 | cons p U ih=>
  obtain ⟨m,y⟩:=p;simp only [List.cons_append,aL];cases Nat.beq m n<;>simp [ih]
theorem adX {U:List (Nat × Hs)}{n:Nat}(h:n∉U.map (·.1)):aL U n=none:=by
 induction U with
 | nil=>rfl
 | cons p U ih=>
  obtain ⟨m,y⟩:=p;simp only [List.map_cons,List.mem_cons,not_or] at h;have:Nat.beq m n=false:=eY fun e=>h.1 e.symm;simp [aL,this,ih h.2]
theorem vG {U:List (Nat × Hs)}{n:Nat}(h:n∈U.map (·.1)):∃ y,aL U n=some y:=by
 induction U with
 | nil=>simp at h
 | cons p U ih=>
  obtain ⟨m,y⟩:=p;simp only [aL];cases hb:Nat.beq m n with
  | true=>exact ⟨y,by simp⟩
  | false=>
   have hne:m≠n:=aVI hb;simp only [List.map_cons,List.mem_cons] at h;rcases h with h|h
   ·exact absurd h.symm hne
   simpa using ih h
def Ctx.put (Γ:Ctx)(d:Option Nat)(x:Av)(U:List (Nat × Hs)):Ctx:=⟨match d with|some d=>(d,x)::Γ.s|none=>Γ.s,U++Γ.h⟩
def mK (E:Env)(tm:Array Value)(Γ:Ctx):Prop:=(∀ t,aA E (bN Γ.s t) (tm.getD t undef))∧∀ n x,aL Γ.h n=some x→dI E n x
def mZ (E:Env)(x:Av)(U:List (Nat × Hs))(v:Value)(w':World):Prop:=
 ∃ E':Env,E'.w=w'∧Step E E' (U.map (·.1))∧Good E'∧aA E' x v∧∀ n y,aL U n=some y→dI E' n y
def aLY:Operand→List Nat
 | .tmp t=>[t]
 | _=>[]
def aFQ (ops:Array Oper)(o:Oper):List Nat:=
 match o.guard with
 | none=>[]
 | some (g,_)=>match (ops[g]?).bind (·.dst) with|some t=>[t]|none=>[]
def tO (ops:Array Oper)(o:Oper):List Nat:=o.op.operands.toList.flatMap aLY++aFQ ops o
def xD (b:Bool)(P:Program)(o:Oper)(a:Act)(w:World)(K:Value→World→Prop):Prop:=
 eK P o a w K∨(b=true∧∃ l f tmps assign body w',(execOp a.eval o).run P w=.ok (.round l f tmps assign body) w'∧RoundIn Fence.wide 0 P l f tmps assign body w' fun e w''=>∃ v,e=.returned v∧K v w'')
theorem xD.mono {b:Bool}{P:Program}{o:Oper}{a:Act}{w:World}{K K':Value→World→Prop}(h:xD b P o a w K)(hk:∀ v w',K v w'→K' v w'):xD b P o a w K':=by
 rcases h with h|⟨hb,l,f,tmps,assign,body,w',h1,h2⟩
 ·refine .inl ?_;unfold eK at h ⊢;generalize (execOp a.eval o).run P w=r at *;cases r with
  | ok n w'=>
   cases n<;>simp only [fM] at h ⊢
   case value u=>exact hk _ _ h
   case skip=>exact hk _ _ h
   case enter f args=>exact h.mono fun e w'' ⟨v,he,hh⟩=>⟨v,he,hk _ _ hh⟩
  | halt x w'=>simp only [fM] at h
 exact .inr ⟨hb,l,f,tmps,assign,body,w',h1,h2.mono fun e w'' ⟨v,he,hh⟩=>⟨v,he,hk _ _ hh⟩⟩
def pB (ro:Option Nat):Fence:={ Fence.wide with round:=ro }
theorem aFR {b:Bool}{ro:Option Nat}{k:Nat}{P:Program}{o:Oper}{a:Act}{w:World}{K:Act→World→Prop}{Q:Exit→Act→World→Prop}(h:xD b P o a w fun v w'=>K (a.put o.dst v) w'):o.wpIn (pB ro) k P a w K Q:=by
 refine ⟨fun _ _=>trivial,?_⟩;have hs:∀ (Z:Result Next→Prop),(∀ d w',¬ Z (.ok (.defer d) w'))→(∀ x w',¬ Z (.halt x w'))→Z ((execOp a.eval o).run P w)→(o.semAt (pB ro).round a.eval).run P w=(execOp a.eval o).run P w:=by
  intro Z hd hh hz;cases hro:(pB ro).round with
  | none=>rfl
  | some l=>
   rw [Oper.semAt_some l a.eval o];intro c hc;unfold execOp at hz;simp only [hc] at hz
   revert hz
   simp only [Sem.run_bind];cases h1:Sem.run P (resolve a.eval c o.type) w with
   | ok d w'=>simp only [Result.andThen_ok,Sem.run_pure];exact hd d w'
   | halt x w'=>simp only [Result.andThen];exact hh x w'
 rcases h with h|⟨_,l,f,tmps,assign,body,w',h1,h2⟩
 ·unfold eK at h;rw [hs _ (fun d w' hx=>by simp only [fM] at hx) (fun x w' hx=>by simp only [fM] at hx) h];generalize (execOp a.eval o).run P w=r at *;cases r with
  | ok n w'=>
   cases n<;>simp only [fM] at h
   case value u=>exact h
   case skip=>exact h
   case enter f args=>
    refine ⟨fun hd=>by simp [pB,Fence.wide] at hd,?_⟩;refine (show CallsIn (pB ro) (k-1) P f args w' _ from (callsIn_wide (n:=k-1)).2 h).mono ?_;rintro e w'' ⟨v,rfl,hk⟩;exact hk
  | halt x w'=>simp only [fM] at h
 rw [hs (fun x=>x=.ok (.round l f tmps assign body) w') (fun d w' hx=>by cases hx) (fun x w' hx=>by cases hx) h1,h1];refine ⟨fun hd=>by simp [pB,Fence.wide] at hd,?_⟩;have h3:RoundIn (pB ro) (k-1) P l f tmps assign body w' fun e w''=>∃ v,e=.returned v∧K (a.put o.dst v) w'':=⟨trivial,fun c cs _=>h2.2 c cs (room_wide _)⟩
 refine h3.mono ?_;rintro e w'' ⟨v,rfl,hk⟩;exact hk
def OS (bb:Bool)(P:Program)(ops:Array Oper)(o:Oper)(σ:List (Nat × Av))(R:List (Nat × Hs))(x:Av)(U:List (Nat × Hs)):Prop:=
 ∀ (E:Env) (a:Act),Good E→(∀ t∈tO ops o,aA E (bN σ t) (a.tmps.getD t undef))→(∀ n y,(n,y)∈R→dI E n y)→
  if Region.wanted o (yielded ops a.tmps) then xD bb P o a E.w (mZ E x U) else mZ E x U undef E.w
inductive Ch (bb:Bool) (P:Program) (ops:Array Oper):List Oper→Ctx→Ctx→List (List Nat × List Nat)→Prop
 | nil (Γ:Ctx):Ch bb P ops [] Γ Γ []
 | cons {o:Oper} {l:List Oper} {Γ Γ':Ctx} {F:List (List Nat × List Nat)} {x:Av} {R U:List (Nat × Hs)} (h:OS bb P ops o Γ.s R x U) (hR:∀ n y,(n,y)∈R→aL Γ.h n=some y) (h':Ch bb P ops l (Γ.put o.dst x U) Γ' F):
  Ch bb P ops (o::l) Γ Γ' ((R.map (·.1),U.map (·.1))::F)
theorem aLZ (tm:Array Value)(d:Nat)(v:Value)(h:d<tm.size):(tm.setIfInBounds d v).getD d undef=v:=by
 simp [Array.getD,h]
theorem aL0 (tm:Array Value){d t:Nat}(v:Value)(h:d≠t):(tm.setIfInBounds d v).getD t undef=tm.getD t undef:=by
 by_cases ht:t<tm.size
 ·simp [Array.getD,ht,h]
 simp [Array.getD,ht]
theorem aFS (a:Act)(d:Option Nat)(v:Value):(a.put d v).tmps.size=a.tmps.size:=by
 cases d<;>simp [Act.put]
theorem aFT (a:Act)(d:Option Nat)(v:Value):(a.put d v).defers=a.defers:=by
 cases d<;>rfl
theorem mK.put {E E':Env}{tm:Array Value}{Γ:Ctx}{x:Av}{U:List (Nat × Hs)}{v:Value}{d:Option Nat}{a:Act}(h:mK E a.tmps Γ)(hS:Step E E' (U.map (·.1)))(hx:aA E' x v)(hU:∀ n y,aL U n=some y→dI E' n y)
 (hd:∀ t,d=some t→t<a.tmps.size):mK E' (a.put d v).tmps (Γ.put d x U):=by
 refine ⟨fun t=>?_,fun n y hn=>?_⟩
 ·cases d with
  | none=>exact aA.step hS _ _ (h.1 t)
  | some d=>
   show aA E' (bN ((d,x)::Γ.s) t) ((a.tmps.setIfInBounds d v).getD t undef);by_cases e:d=t
   ·subst e;rw [lE,aLZ _ _ _ (hd d rfl)];exact hx
   rw [lS _ _ e,aL0 _ _ e];exact aA.step hS _ _ (h.1 t)
 have hn:aL (U++Γ.h) n=some y:=hn;rw [vF] at hn;by_cases hm:n∈U.map (·.1)
 ·obtain ⟨z,hz⟩:=vG hm;rw [hz] at hn;simp at hn;subst hn;exact hU n z hz
 rw [adX hm] at hn;exact dI.step hS hm (h.2 n y (by simpa using hn))
def aLU (N:Nat)(l:List Oper):Bool:=l.all fun o=>match o.dst with|some d=>decide (d<N)|none=>true
section
variable {P:Program}{Q:Exit→Act→World→Prop}
theorem Ch.text {bb:Bool}{ro:Option Nat}{kk:Nat}{ops:Array Oper}{N:Nat}:∀ {l:List Oper} {Γ Γ':Ctx} {F:List (List Nat × List Nat)},Ch bb P ops l Γ Γ' F→aLU N l=true→∀ (E:Env) (a:Act),Good E→mK E a.tmps Γ→a.tmps.size=N→
 (∀ (E':Env) (a':Act) (M:List Nat),Good E'→Step E E' M→mK E' a'.tmps Γ'→a'.tmps.size=N→a'.defers=a.defers→Q .normal a' E'.w)→wpListIn (pB ro) kk P ops Q l a E.w:=by
 intro l Γ Γ' F h
 induction h with
 | nil Γ=>intro _ E a hG hH hN hk;exact hk E a [] hG (Step.refl E) hH hN rfl
 | @cons o l Γ Γ' F x R U h hR h' ih=>
  intro hd E a hG hH hN hk;simp only [aLU,List.all_cons,Bool.and_eq_true] at hd;have hdt:∀ t,o.dst=some t→t<a.tmps.size:=fun t ht=>by
   have:=hd.1;rw [ht] at this;rw [hN];simpa using this
  have hop:=h E a hG (fun t _=>hH.1 t) (fun n y hn=>hH.2 n y (hR n y hn));have go:∀ v w',mZ E x U v w'→wpListIn (pB ro) kk P ops Q l (a.put o.dst v) w':=by
   rintro v w' ⟨E',rfl,hS,hG',hx,hU⟩;refine ih (by simpa [aLU] using hd.2) E' (a.put o.dst v) hG' (hH.put (tm:=#[]) hS hx hU hdt) (by rw [aFS,hN]) fun E'' a'' M hG'' hS' hH' hN' hdf=>hk E'' a'' _ hG'' (hS.trans hS') hH' hN' (by rw [hdf,aFT])
  unfold wpListIn;split
  ·rename_i hw;rw [if_pos hw] at hop;exact aFR (hop.mono go)
  rename_i hw;rw [if_neg hw] at hop;exact ⟨fun _ _=>trivial,go _ _ hop⟩
end
structure Spec where
 d:Option Nat
 x:Av
 R:List (Nat × Hs)
 U:List (Nat × Hs)
def eP (L:Nat→Bool):List Spec→Nat→Ctx→Ctx
 | [],_,Γ=>Γ
 | e::l,k,Γ=>eP L l (k+1) (if L k then Γ.put e.d e.x e.U else Γ)
def Spec.wS (e:Spec)(t:Nat):Prop:=e.d=some t
def Spec.wH (e:Spec)(n:Nat):Prop:=n∈e.U.map (·.1)
theorem aBV {L L':Nat→Bool}{t:Nat}:∀ (l:List Spec) (k:Nat) (Γ Γ':Ctx),(∀ j e,l[j]?=some e→e.wS t→L (k+j)=L' (k+j))→bN Γ.s t=bN Γ'.s t→bN (eP L l k Γ).s t=bN (eP L' l k Γ').s t
 | [],_,_,_,_,h=>h
 | e::l,k,Γ,Γ',hL,h=>by
  unfold eP;refine aBV l (k+1) _ _ (fun j e' he hw=>by have:=hL (j+1) e' (by simpa using he) hw;rwa [show k+1+j=k+(j+1) from by omega]) ?_;by_cases hw:e.wS t
  ·have:=hL 0 e rfl hw;simp only [Nat.add_zero] at this;unfold Spec.wS at hw;rw [this];cases L' k
   ·exact h
   simp [Ctx.put,hw,lE]
  have hs:∀ Γ:Ctx,bN (Γ.put e.d e.x e.U).s t=bN Γ.s t:=fun Γ=>by
   unfold Spec.wS at hw;cases hd:e.d with
   | none=>rfl
   | some d=>exact lS _ _ (fun e'=>hw (by rw [hd,e']))
  have h1:∀ (b:Bool) (Γ:Ctx),bN (if b=true then Γ.put e.d e.x e.U else Γ).s t=bN Γ.s t:=fun b Γ=>by cases b<;>simp [hs]
  rw [h1,h1,h]
theorem aBW {L L':Nat→Bool}{n:Nat}:∀ (l:List Spec) (k:Nat) (Γ Γ':Ctx),(∀ j e,l[j]?=some e→e.wH n→L (k+j)=L' (k+j))→aL Γ.h n=aL Γ'.h n→aL (eP L l k Γ).h n=aL (eP L' l k Γ').h n
 | [],_,_,_,_,h=>h
 | e::l,k,Γ,Γ',hL,h=>by
  unfold eP;refine aBW l (k+1) _ _ (fun j e' he hw=>by have:=hL (j+1) e' (by simpa using he) hw;rwa [show k+1+j=k+(j+1) from by omega]) ?_;by_cases hw:e.wH n
  ·have:=hL 0 e rfl hw;simp only [Nat.add_zero] at this;obtain ⟨y,hy⟩:=vG hw;rw [this];cases L' k
   ·exact h
   simp [Ctx.put,vF,hy]
  have hs:∀ Γ:Ctx,aL (Γ.put e.d e.x e.U).h n=aL Γ.h n:=fun Γ=>by simp [Ctx.put,vF,adX hw]
  have h1:∀ (b:Bool) (Γ:Ctx),aL (if b=true then Γ.put e.d e.x e.U else Γ).h n=aL Γ.h n:=fun b Γ=>by cases b<;>simp [hs]
  rw [h1,h1,h]
theorem aBX (l:List Spec):∀ (k:Nat) (Γ:Ctx) (L:Nat→Bool),(∀ j,j<l.length→L (k+j)=false)→eP L l k Γ=Γ:=by
 induction l with
 | nil=>intros;rfl
 | cons e l ih=>
  intro k Γ L h;unfold eP;have:=h 0 (by simp);simp only [Nat.add_zero] at this;rw [this,if_neg (by simp)];exact ih (k+1) Γ L fun j hj=>by rw [show k+1+j=k+(j+1) from by omega];exact h (j+1) (by simp;omega)
theorem aFU {L:Nat→Bool}:∀ (l:List Spec) (k:Nat) (Γ:Ctx) (i:Nat) (e:Spec),l[i]?=some e→L (k+i)=true→(∀ t,e.wS t→(∀ j e',l[j]?=some e'→i<j→e'.wS t→L (k+j)=false)→bN (eP L l k Γ).s t=e.x)∧
 (∀ n y,aL e.U n=some y→(∀ j e',l[j]?=some e'→i<j→e'.wH n→L (k+j)=false)→aL (eP L l k Γ).h n=some y)
 | [],_,_,i,e,h,_=>by simp at h
 | e0::l,k,Γ,0,e,h,hL=>by
  simp at h;subst h;simp only [Nat.add_zero] at hL;unfold eP;rw [hL,if_pos rfl];refine ⟨fun t hw hno=>?_,fun n y hy hno=>?_⟩
  ·rw [aBV (L':=fun _=>false) l (k+1) _ (Γ.put e0.d e0.x e0.U) (fun j e' he hw'=>by have:=hno (j+1) e' (by simpa using he) (by omega) hw';rwa [show k+1+j=k+(j+1) from by omega]) rfl,aBX _ _ _ _ (fun _ _=>rfl)];unfold Spec.wS at hw;simp [Ctx.put,hw,lE]
  rw [aBW (L':=fun _=>false) l (k+1) _ (Γ.put e0.d e0.x e0.U) (fun j e' he hw'=>by have:=hno (j+1) e' (by simpa using he) (by omega) hw';rwa [show k+1+j=k+(j+1) from by omega]) rfl,aBX _ _ _ _ (fun _ _=>rfl)];simp [Ctx.put,vF,hy]
 | e0::l,k,Γ,i+1,e,h,hL=>by
  unfold eP;have:=aFU (L:=L) l (k+1) (if L k then Γ.put e0.d e0.x e0.U else Γ) i e (by simpa using h) (by rwa [show k+1+i=k+(i+1) from by omega]);refine ⟨fun t hw hno=>this.1 t hw fun j e' he hj hw'=>?_,fun n y hy hno=>this.2 n y hy fun j e' he hj hw'=>?_⟩
  ·have:=hno (j+1) e' (by simpa using he) (by omega) hw';rwa [show k+1+j=k+(j+1) from by omega]
  have:=hno (j+1) e' (by simpa using he) (by omega) hw';rwa [show k+1+j=k+(j+1) from by omega]
def qZ (bb:Bool)(P:Program)(ops:Array Oper):List Oper→List Spec→Ctx→Prop
 | [],[],_=>True
 | o::l,e::s,Γ=>(e.d=o.dst∧OS bb P ops o Γ.s e.R e.x e.U∧∀ n y,(n,y)∈e.R→aL Γ.h n=some y)∧qZ bb P ops l s (Γ.put e.d e.x e.U)
 | _,_,_=>False
def fp (e:Spec):List Nat × List Nat:=(e.R.map (·.1),e.U.map (·.1))
theorem Ch.specs {bb:Bool}{P:Program}{ops:Array Oper}{l:List Oper}{Γ Γ':Ctx}{F:List (List Nat × List Nat)}(h:Ch bb P ops l Γ Γ' F):∃ s:List Spec,qZ bb P ops l s Γ∧s.map fp=F∧eP (fun _=>true) s 0 Γ=Γ':=by
 suffices H:∀ k,∃ s:List Spec,qZ bb P ops l s Γ∧s.map fp=F∧eP (fun _=>true) s k Γ=Γ' from H 0
 induction h with
 | nil Γ=>exact fun k=>⟨[],trivial,rfl,rfl⟩
 | @cons o l Γ Γ' F x R U h hR h' ih=>
  intro k;obtain ⟨s,h1,h2,h3⟩:=ih (k+1);refine ⟨⟨o.dst,x,R,U⟩::s,⟨⟨rfl,h,hR⟩,h1⟩,by simp [h2,fp],?_⟩;unfold eP;simpa using h3
theorem qZ.len {bb:Bool}{P:Program}{ops:Array Oper}:∀ {l:List Oper} {s:List Spec} {Γ:Ctx},qZ bb P ops l s Γ→s.length=l.length
 | [],[],_,_=>rfl
 | o::l,e::s,Γ,h=>by simp [qZ.len h.2]
 | [],_::_,_,h=>h.elim
 | _::_,[],_,h=>h.elim
theorem qZ.get {bb:Bool}{P:Program}{ops:Array Oper}:∀ {l:List Oper} {s:List Spec} {Γ:Ctx} (k:Nat),qZ bb P ops l s Γ→∀ i o e,l[i]?=some o→s[i]?=some e→
 e.d=o.dst∧OS bb P ops o (eP (fun j=>decide (j<k+i)) s k Γ).s e.R e.x e.U∧∀ n y,(n,y)∈e.R→aL (eP (fun j=>decide (j<k+i)) s k Γ).h n=some y
 | [],[],_,_,_,i,o,e,h,_=>by simp at h
 | o::l,e::s,Γ,k,H,0,o',e',h,h'=>by
  simp at h h';subst h;subst h'
  have hn:∀ Γ,eP (fun j=>decide (j<k+0)) s (k+1) Γ=Γ:=fun Γ=>aBX s (k+1) Γ _ fun j hj=>by simp;omega
  unfold eP;rw [hn,if_neg (by simp)];exact H.1
 | o::l,e::s,Γ,k,H,i+1,o',e',h,h'=>by
  have:=qZ.get (k+1) H.2 i o' e' (by simpa using h) (by simpa using h');unfold eP;rw [if_pos (by simp),show k+(i+1)=k+1+i from by omega];exact this
 | [],_::_,_,_,h,_,_,_,_,_=>h.elim
 | _::_,[],_,_,h,_,_,_,_,_=>h.elim
def aLN (ms:List Nat)(o:Oper):Nat:=o.after.toList.foldl (fun acc e=>bif Region.binds .any e then acc||| (1 <<< e.on)||| ms.getD e.on 0 else acc) 0
def qU:List Oper→List Nat→List Nat
 | [],ms=>ms
 | o::l,ms=>qU l (ms++[aLN ms o])
def nY (ms:List Nat)(i k:Nat):Bool:=(ms.getD i 0).testBit k
theorem aUM {ms:List Nat}{k:Nat}:∀ (l:List Edge) (acc:Nat),(l.foldl (fun acc e=>bif Region.binds .any e then acc||| (1 <<< e.on)||| ms.getD e.on 0 else acc) acc).testBit k=true→
 acc.testBit k=true∨∃ e∈l,Region.binds .any e=true∧(e.on=k∨nY ms e.on k=true)
 | [],acc,h=>.inl h
 | e::l,acc,h=>by
  simp only [List.foldl_cons] at h;rcases aUM l _ h with h1|⟨e',he,h1⟩
  ·cases hb:Region.binds .any e with
   | false=>rw [hb] at h1;exact .inl h1
   | true=>
    rw [hb,cond_true,Nat.testBit_or,Nat.testBit_or,Bool.or_eq_true,Bool.or_eq_true] at h1;rcases h1 with (h1|h1)|h1
    ·exact .inl h1
    ·refine .inr ⟨e,by simp,hb,.inl ?_⟩;rw [Nat.one_shiftLeft,Nat.testBit_two_pow] at h1;simpa using h1
    exact .inr ⟨e,by simp,hb,.inr h1⟩
  exact .inr ⟨e',by simp [he],h1⟩
def MP (l0:List Oper)(ms:List Nat):Prop:=∀ i,i<ms.length→∃ o,l0[i]?=some o∧∀ k,nY ms i k=true→∃ e∈o.after.toList,Region.binds .any e=true∧(e.on=k∨(e.on<i∧nY ms e.on k=true))
theorem aUN {l0:List Oper}:∀ (l:List Oper) (ms:List Nat),(∀ j,l[j]?=l0[ms.length+j]?)→MP l0 ms→MP l0 (qU l ms)
 | [],ms,_,h=>h
 | o::l,ms,hl,h=>by
  unfold qU;refine aUN l _ (fun j=>by have:=hl (j+1);simp at this;rw [this];simp;congr 1;omega) fun i hi=>?_;have hb:∀ j k,j<ms.length→nY (ms++[aLN ms o]) j k=nY ms j k:=fun j k hj=>by
   unfold nY;rw [List.getD_eq_getElem?_getD,List.getD_eq_getElem?_getD,List.getElem?_append_left hj]
  rcases Nat.lt_or_ge i ms.length with h1|h1
  ·obtain ⟨o',h2,h3⟩:=h i h1;refine ⟨o',h2,fun k hk=>?_⟩;rw [hb i k h1] at hk;obtain ⟨e,he,h4,h5⟩:=h3 k hk;refine ⟨e,he,h4,?_⟩;rcases h5 with h5|⟨h5,h6⟩
   ·exact .inl h5
   exact .inr ⟨h5,by rw [hb _ _ (by omega)];exact h6⟩
  have hi':i=ms.length:=by simp at hi;omega
  subst hi';refine ⟨o,by have:=hl 0;simpa using this.symm,fun k hk=>?_⟩;unfold nY at hk;rw [List.getD_eq_getElem?_getD,List.getElem?_append_right (Nat.le_refl _)] at hk;simp at hk;unfold aLN at hk;rcases aUM _ _ hk with h2|⟨e,he,h2,h3⟩
  ·simp at h2
  refine ⟨e,he,h2,?_⟩;rcases h3 with h3|h3
  ·exact .inl h3
  have hlt:e.on<ms.length:=by
   rcases Nat.lt_or_ge e.on ms.length with h4|h4
   ·exact h4
   unfold nY at h3;rw [List.getD_eq_getElem?_getD,List.getElem?_eq_none h4] at h3;simp at h3
  exact .inr ⟨hlt,by rw [hb _ _ hlt];exact h3⟩
def xA (ops:Array Oper)(o:Oper)(F:List Nat × List Nat)(p:Oper)(G:List Nat × List Nat):Bool:=
 (match p.dst with|some d=>(tO ops o).contains d||o.dst==some d|none=>false)||G.2.any fun n=>F.1.contains n||F.2.contains n
def cM (l:List Oper)(F:List (List Nat × List Nat)):Bool:=
 let Z:=(l.zip F).zipIdx
 let ms:=qU l []
 Z.all fun x=>Z.all fun y=>x.2==y.2||!xA l.toArray x.1.1 x.1.2 y.1.1 y.1.2||(if y.2<x.2 then nY ms x.2 y.2 else nY ms y.2 x.2)
theorem alB {l:List Oper}{F:List (List Nat × List Nat)}(h:cM l F=true){i k:Nat}{o p:Oper}{f g:List Nat × List Nat}(ho:l[i]?=some o)(hf:F[i]?=some f)(hp:l[k]?=some p)(hg:F[k]?=some g)(hne:i≠k)(hc:xA l.toArray o f p g=true):
 (k<i∧nY (qU l []) i k=true)∨(i<k∧nY (qU l []) k i=true):=by
 unfold cM at h;rw [List.all_eq_true] at h;have hx:((o,f),i)∈(l.zip F).zipIdx:=by
  rw [List.mem_zipIdx_iff_getElem?];simp [List.getElem?_zip_eq_some,ho,hf]
 have hy:((p,g),k)∈(l.zip F).zipIdx:=by
  rw [List.mem_zipIdx_iff_getElem?];simp [List.getElem?_zip_eq_some,hp,hg]
 have:=h _ hx;rw [List.all_eq_true] at this;have:=this _ hy;simp only [hc,Bool.not_true,Bool.or_false,Bool.or_eq_true,beq_iff_eq] at this;rcases this with h1|h1
 ·exact absurd h1 hne
 split at h1
 ·exact .inl ⟨by assumption,h1⟩
 exact .inr ⟨by omega,h1⟩
theorem aUO {L L':Nat→Bool}:∀ (l:List Spec) (k:Nat) (Γ:Ctx),(∀ j,j<l.length→L (k+j)=L' (k+j))→eP L l k Γ=eP L' l k Γ
 | [],_,_,_=>rfl
 | e::l,k,Γ,h=>by
  unfold eP;have:=h 0 (by simp);simp only [Nat.add_zero] at this;rw [this];exact aUO l (k+1) _ fun j hj=>by rw [show k+1+j=k+(j+1) from by omega];exact h (j+1) (by simp;omega)
section
variable {P:Program}{Q:Exit→Act→World→Prop}{l:List Oper}{Γ Γ':Ctx}{F:List (List Nat × List Nat)}{N:Nat}
def aUP (l:List Oper)(L:Nat→Bool):Prop:=∀ i o,l[i]?=some o→L i=true→∀ e∈o.after.toList,Region.binds .any e=true→L e.on=true
theorem aUQ {L:Nat→Bool}(hD:aUP l L):∀ (i:Nat) (o:Oper),l[i]?=some o→(∀ e∈o.after.toList,Region.binds .any e=true→L e.on=true)→∀ k,nY (qU l []) i k=true→L k=true:=by
 have hM:MP l (qU l []):=aUN l [] (fun j=>by simp) (fun i hi=>by simp at hi);intro i
 induction i using Nat.strongRecOn with
 | _ i ih=>
  intro o ho hdep k hk;have hlen:i<(qU l []).length:=by
   rcases Nat.lt_or_ge i (qU l []).length with h|h
   ·exact h
   unfold nY at hk;rw [List.getD_eq_getElem?_getD,List.getElem?_eq_none h] at hk;simp at hk
  obtain ⟨o',ho',h1⟩:=hM i hlen;rw [ho] at ho';injection ho' with ho'
  subst ho';obtain ⟨e,he,h2,h3⟩:=h1 k hk;have h4:=hdep e he h2;rcases h3 with h3|⟨h3,h5⟩
  ·rw [←h3];exact h4
  have hlen':e.on<(qU l []).length:=by omega
  obtain ⟨o2,ho2,_⟩:=hM e.on hlen';exact ih e.on h3 o2 ho2 (fun e' he' hb'=>hD e.on o2 ho2 h4 e' he' hb') k h5
theorem Ch.any {bb:Bool}{ro:Option Nat}{kk:Nat}(h:Ch bb P l.toArray l Γ Γ' F)(hd:aLU N l=true)(hl:wE .any l 0=true)(hc:cM l F=true)(E0:Env)(df:List Deferred)
 (hk:∀ (E':Env) (a':Act) (M:List Nat),Good E'→Step E0 E' M→mK E' a'.tmps Γ'→a'.tmps.size=N→a'.defers=df→Q .normal a' E'.w):
 ∀ (s:List Spec),qZ bb P l.toArray l s Γ→s.map fp=F→eP (fun _=>true) s 0 Γ=Γ'→∀ (fuel:Nat) (listed:Array Bool) (E:Env) (a:Act) (M:List Nat),listed.size=l.length→left listed=fuel→aUP l (fun k=>listed.getD k false)→Good E→Step E0 E M→
  mK E a.tmps (eP (fun k=>listed.getD k false) s 0 Γ)→a.tmps.size=N→a.defers=df→wpAnyIn (pB ro) kk P .any l.toArray Q fuel listed a E.w:=by
 intro s hs hF hE fuel;have hlen:=hs.len;have fin:∀ (listed:Array Bool) (E:Env) (a:Act) (M:List Nat),(∀ j,j<l.length→listed.getD j false=true)→Good E→Step E0 E M→mK E a.tmps (eP (fun k=>listed.getD k false) s 0 Γ)→a.tmps.size=N→a.defers=df→Q .normal a E.w:=by
  intro listed E a M hall hG hS hH hN hdf;refine hk E a M hG hS ?_ hN hdf;rw [←hE,aUO (L:=fun _=>true) (L':=fun k=>listed.getD k false) s 0 Γ fun j hj=>by rw [Nat.zero_add];exact (hall j (by omega)).symm];exact hH
 induction fuel with
 | zero=>
  intro listed E a M hsz h0 hD hG hS hH hN hdf;have hall:=adP h0;refine ⟨?_,fin listed E a M (fun j hj=>hall j (by omega)) hG hS hH hN hdf⟩;apply List.eq_nil_iff_forall_not_mem.2;intro j hj;obtain ⟨h1,o,ho,_⟩:=mem_ready.1 hj;have hjl:j<l.length:=by
   simp at ho;exact (List.getElem?_eq_some_iff.1 ho).1
  have h2:=hall j (by omega);have hj':j<listed.size:=by omega
  simp [hj'] at h1 h2;rw [h1] at h2;cases h2
 | succ fuel ih=>
  intro listed E a M hsz h0 hD hG hS hH hN hdf;refine ⟨fun hnil=>fin listed E a M (fun j hj=>adN hsz hl hnil j hj) hG hS hH hN hdf,fun i hi=>?_⟩;obtain ⟨h1,o,ho,hdeps⟩:=mem_ready.1 hi;have ho':l[i]?=some o:=by simpa using ho
  have hil:i<l.length:=(List.getElem?_eq_some_iff.1 ho').1;have hi':i<listed.size:=by omega
  have hno:listed.getD i false=false:=by simpa [Array.getD,hi'] using h1
  have hdeps':∀ e∈o.after.toList,Region.binds .any e=true→listed.getD e.on false=true:=fun e he hb=>hdeps e (by simpa using he) hb;obtain ⟨e,he⟩:∃ e,s[i]?=some e:=⟨s[i],List.getElem?_eq_getElem (by omega)⟩
  have hFi:F[i]?=some (fp e):=by rw [←hF];simp [he]
  obtain ⟨hed,hOS,hR⟩:=hs.get 0 i o e ho' he;simp only [Nat.zero_add] at hOS hR;have before:∀ j p g,l[j]?=some p→F[j]?=some g→j≠i→xA l.toArray o (fp e) p g=true→listed.getD j false=decide (j<i):=by
   intro j p g hp hg hne hcf;rcases alB hc ho' hFi hp hg (Ne.symm hne) hcf with ⟨h2,h3⟩|⟨h2,h3⟩
   ·rw [show decide (j<i)=true from by simpa using h2];exact aUQ (L:=fun k=>listed.getD k false) hD i o ho' hdeps' j h3
   rw [show decide (j<i)=false from by simp;omega];cases hj:listed.getD j false with
   | false=>rfl
   | true=>
    have:=aUQ (L:=fun k=>listed.getD k false) hD j p hp (hD j p hp hj) i h3;rw [show listed.getD i false=true from this] at hno;cases hno
  have spec:∀ (j:Nat) (e':Spec),s[j]?=some e'→∃ p:Oper,l[j]?=some p∧F[j]?=some (fp e')∧e'.d=p.dst:=by
   intro j e' he';have hj:j<l.length:=by rw [←hlen];exact (List.getElem?_eq_some_iff.1 he').1
   exact ⟨l[j],List.getElem?_eq_getElem hj,by rw [←hF];simp [he'],(hs.get 0 j _ e' (List.getElem?_eq_getElem hj) he').1⟩
  have rdS:∀ t,t∈tO l.toArray o→bN (eP (fun k=>listed.getD k false) s 0 Γ).s t=bN (eP (fun j=>decide (j<i)) s 0 Γ).s t:=by
   intro t ht;refine aBV s 0 Γ Γ (fun j e' he' hw=>?_) rfl;rw [Nat.zero_add];obtain ⟨p,hp,hg,hd'⟩:=spec j e' he';by_cases hji:j=i
   ·subst hji;rw [hno];simp
   refine before j p _ hp hg hji ?_;unfold Spec.wS at hw;unfold xA;rw [←hd',hw];simp [ht]
  have rdH:∀ n,n∈e.R.map (·.1)→aL (eP (fun k=>listed.getD k false) s 0 Γ).h n=aL (eP (fun j=>decide (j<i)) s 0 Γ).h n:=by
   intro n hn;refine aBW s 0 Γ Γ (fun j e' he' hw=>?_) rfl;rw [Nat.zero_add];obtain ⟨p,hp,hg,hd'⟩:=spec j e' he';by_cases hji:j=i
   ·subst hji;rw [hno];simp
   refine before j p _ hp hg hji ?_;unfold xA;rw [Bool.or_eq_true];refine .inr ?_;rw [List.any_eq_true];exact ⟨n,hw,by rw [Bool.or_eq_true];exact .inl (by simpa [fp] using hn)⟩
  have hop:=hOS E a hG (fun t ht=>by rw [←rdS t ht];exact hH.1 t) (fun n y hn=>hH.2 n y (by rw [rdH n (List.mem_map.2 ⟨_,hn,rfl⟩)];exact hR n y hn))
  let L':Nat→Bool:=fun k=>(listed.setIfInBounds i true).getD k false
  have hL':∀ k,L' k=(if k=i then true else listed.getD k false):=fun k=>by
   by_cases hk:k=i
   ·subst hk;simp [L',Array.getD,hi']
   rw [if_neg hk];exact getD_set_ne false (fun e=>hk e.symm)
  have go:∀ v w',mZ E e.x e.U v w'→wpAnyIn (pB ro) kk P .any l.toArray Q fuel (listed.setIfInBounds i true) (a.put o.dst v) w':=by
   rintro v w' ⟨E',rfl,hSt,hG',hx,hU⟩;refine ih _ E' _ (M++e.U.map (·.1)) (by simpa using hsz) (by have:=adO h1;omega) ?_ hG' (hS.trans hSt) ⟨fun t=>?_,fun n y hn=>?_⟩ (by rw [aFS,hN]) (by rw [aFT,hdf])
   ·intro j p hp hj e' he' hb';have hj:L' j=true:=hj;show L' e'.on=true;rw [hL'] at hj ⊢;by_cases hji:j=i
    ·subst hji;rw [ho'] at hp;injection hp with hp
     subst hp;rw [hdeps' e' he' hb'];simp
    rw [if_neg hji] at hj;have:=hD j p hp hj e' he' hb';simp only at this;rw [this];simp
   ·show aA E' (bN (eP L' s 0 Γ).s t) _;by_cases hw:e.wS t
    ·have:=(aFU (L:=L') s 0 Γ i e he (by rw [Nat.zero_add,hL',if_pos rfl])).1 t hw fun j e' he' hj hw'=>by
      obtain ⟨p,hp,hg,hd'⟩:=spec j e' he';rw [Nat.zero_add,hL',if_neg (by omega)];have:=before j p _ hp hg (by omega) (by
       unfold Spec.wS at hw hw';unfold xA;rw [←hd',hw',←hed,hw];simp)
      rw [this];simp;omega
     rw [this];unfold Spec.wS at hw;rw [←hed,hw];show aA E' e.x ((a.tmps.setIfInBounds t v).getD t undef);rw [aLZ _ _ _ (by
      rw [hN];unfold aLU at hd;rw [List.all_eq_true] at hd;have:=hd o (List.mem_of_getElem? ho');rw [←hed,hw] at this;simpa using this)]
     exact hx
    have:bN (eP L' s 0 Γ).s t=bN (eP (fun k=>listed.getD k false) s 0 Γ).s t:=by
     refine aBV s 0 Γ Γ (fun j e' he' hw'=>?_) rfl;rw [Nat.zero_add,hL'];by_cases hji:j=i
     ·subst hji;rw [he] at he';injection he' with he'
      subst he';exact absurd hw' hw
     rw [if_neg hji]
    rw [this];have hv:(a.put o.dst v).tmps.getD t undef=a.tmps.getD t undef:=by
     unfold Spec.wS at hw;rw [←hed];cases hd2:e.d with
     | none=>rfl
     | some d=>exact aL0 _ _ fun e2=>hw (by rw [hd2,e2])
    rw [hv];exact aA.step hSt _ _ (hH.1 t)
   have hn:aL (eP L' s 0 Γ).h n=some y:=hn;by_cases hw:e.wH n
   ·obtain ⟨z,hz⟩:=vG hw;have:=(aFU (L:=L') s 0 Γ i e he (by rw [Nat.zero_add,hL',if_pos rfl])).2 n z hz fun j e' he' hj hw'=>by
     obtain ⟨p,hp,hg,hd'⟩:=spec j e' he';rw [Nat.zero_add,hL',if_neg (by omega)];have:=before j p _ hp hg (by omega) (by
      unfold xA;rw [Bool.or_eq_true];refine .inr ?_;rw [List.any_eq_true];exact ⟨n,hw',by rw [Bool.or_eq_true];exact .inr (by simpa [fp,Spec.wH] using hw)⟩)
     rw [this];simp;omega
    rw [this] at hn;injection hn with hn
    subst hn;exact hU n z hz
   have:aL (eP L' s 0 Γ).h n=aL (eP (fun k=>listed.getD k false) s 0 Γ).h n:=by
    refine aBW s 0 Γ Γ (fun j e' he' hw'=>?_) rfl;rw [Nat.zero_add,hL'];by_cases hji:j=i
    ·subst hji;rw [he] at he';injection he' with he'
     subst he';exact absurd hw' hw
    rw [if_neg hji]
   rw [this] at hn;exact dI.step hSt hw (hH.2 n y hn)
  unfold wpOpIn;simp only [ho];split
  ·rename_i hw;rw [if_pos hw] at hop;exact aFR (hop.mono go)
  rename_i hw;rw [if_neg hw] at hop;exact ⟨fun _ _=>trivial,go _ _ hop⟩
end
structure Kept (D:List Nat) (E E':Env):Prop where
 os:E'.w.os=E.w.os
 tape:E'.w.tape=E.w.tape
 output:E'.w.output=E.w.output
 size:E.w.heap.size≤E'.w.heap.size
 bad:E'.bad=E.bad
 keep:∀ b,b<E.w.heap.size→(∀ n,E.loc n≠.at b)→E'.w.heap[b]?=E.w.heap[b]?
 from_:∀ n b,E'.loc n=.at b→E.w.heap.size≤b∨∃ m,E.loc m=.at b
 born:∀ n∈D,E'.loc n≠.unborn
 nil_:∀ n∈D,E'.loc n=.nil→E.loc n=.nil
 same:∀ n∈D,∀ b,E'.loc n=.at b→E.loc n=.at b∧∀ cur t,E.w.heap[b]?=some (.cells cur t (0,0))→∃ cur',E'.w.heap[b]?=some (.cells cur' t (0,0))∧cur'.size=cur.size
theorem Kept.refl {D:List Nat}{E:Env}(h:∀ n∈D,E.loc n≠.unborn):Kept D E E:=
 ⟨rfl,rfl,rfl,Nat.le_refl _,rfl,fun _ _ _=>rfl,fun n b h=>.inr ⟨n,h⟩,h,fun n _ h=>h,fun n _ b hb=>⟨hb,fun cur t hc=>⟨cur,hc,rfl⟩⟩⟩
theorem Kept.trans {D:List Nat}{E E' E'':Env}(h:Kept D E E')(k:Kept D E' E''):Kept D E E'' where
 os:=k.os.trans h.os
 tape:=k.tape.trans h.tape
 output:=k.output.trans h.output
 size:=Nat.le_trans h.size k.size
 bad:=k.bad.trans h.bad
 keep b hb hn:=by
  refine (k.keep b (Nat.lt_of_lt_of_le hb h.size) fun n hn'=>?_).trans (h.keep b hb hn);rcases h.from_ n b hn' with h1|⟨m,h1⟩
  ·omega
  exact hn m h1
 from_ n b hb:=by
  rcases k.from_ n b hb with h1|⟨m,h1⟩
  ·exact .inl (Nat.le_trans h.size h1)
  exact h.from_ m b h1
 born:=k.born
 nil_ n hn hl:=h.nil_ n hn (k.nil_ n hn hl)
 same n hn b hb:=by
  obtain ⟨h1,h2⟩:=k.same n hn b hb;obtain ⟨h3,h4⟩:=h.same n hn b h1;refine ⟨h3,fun cur t hc=>?_⟩;obtain ⟨cur',h5,h6⟩:=h4 cur t hc;obtain ⟨cur'',h7,h8⟩:=h2 cur' t h5;exact ⟨cur'',h7,h8.trans h6⟩
theorem Step.kept {D N:List Nat}{E E':Env}(h:Step E E' N)(hD:∀ n∈D,E.loc n≠.unborn):Kept D E E' where
 os:=h.os
 tape:=h.tape
 output:=h.output
 size:=h.size
 bad:=h.bad
 keep:=h.keep
 from_ n b hb:=by
  rcases h.from_ n b hb with h1|⟨_,h1⟩
  ·exact .inr ⟨n,h1⟩
  exact h1
 born n hn:=h.born n (hD n hn)
 nil_ n hn hl:=by
  rcases h.nil_ n hl with h1|h1
  ·exact h1
  exact absurd h1 (hD n hn)
 same n hn b hb:=by
  rcases h.from_ n b hb with h1|⟨h1,_⟩
  ·exact ⟨h1,fun cur t hc=>h.shape n b cur t hb h1 hc⟩
  exact absurd h1 (hD n hn)
structure Fit (N:Nat) (D:List Nat) (E:Env) (a:Act) (Γ:Ctx):Prop where
 good:Good E
 size:a.tmps.size=N
 born:∀ n∈D,E.loc n≠.unborn
 holds:mK E a.tmps Γ
def dW (ro:Option Nat)(P:Program)(N:Nat)(D:List Nat)(c:Code)(Q:Exit→Ctx→Prop)(Γ:Ctx):Prop:=
 ∀ (E:Env) (a:Act),Fit N D E a Γ→c.wpIn (pB ro) 0 P (fun e a' w'=>∃ E' Γ',E'.w=w'∧Kept D E E'∧Fit N D E' a' Γ'∧a'.defers=a.defers∧Q e Γ') a E.w
abbrev AW:=dW none
section
variable {P:Program}{N:Nat}{D:List Nat}{Q:Exit→Ctx→Prop}{Γ:Ctx}{ro:Option Nat}
theorem aQ (h:Q .normal Γ):dW ro P N D .skip Q Γ:=fun E a hF=>wpIn_skip ⟨E,Γ,rfl,Kept.refl hF.born,hF,rfl,h⟩
theorem bU {id:Nat}(h:Q (.exit id) Γ):dW ro P N D (.exit id) Q Γ:=fun E a hF=>wpIn_exit ⟨E,Γ,rfl,Kept.refl hF.born,hF,rfl,h⟩
theorem aP (h:Q .ret Γ):dW ro P N D .ret Q Γ:=fun E a hF=>wpIn_ret ⟨E,Γ,rfl,Kept.refl hF.born,hF,rfl,h⟩
def wJ (next:Ctx→Prop)(Q:Exit→Ctx→Prop):Exit→Ctx→Prop
 | .normal,Γ=>next Γ
 | e,Γ=>Q e Γ
theorem aD {x y:Code}(h:dW ro P N D x (wJ (dW ro P N D y Q) Q) Γ):dW ro P N D (.seq x y) Q Γ:=fun E a hF=>by
 refine wpIn_seq (wpIn_mono (h E a hF) ?_);rintro e a' w' ⟨E',Γ',rfl,hK,hF',hd,hq⟩;cases e
 case normal=>
  exact wpIn_mono ((show dW ro P N D y Q Γ' from hq) E' a' hF') fun e a'' w'' ⟨E'',Γ'',h1,h2,h3,h5,h4⟩=>⟨E'',Γ'',h1,hK.trans h2,h3,h5.trans hd,h4⟩
 all_goals exact ⟨E',Γ',rfl,hK,hF',hd,hq⟩
def aLO (id:Nat)(Q:Exit→Ctx→Prop):Exit→Ctx→Prop
 | .exit id',Γ=>bif Nat.beq id' id then Q .normal Γ else Q (.exit id') Γ
 | e,Γ=>Q e Γ
theorem aU {id:Nat}{c:Code}(h:dW ro P N D c (aLO id Q) Γ):dW ro P N D (.block id c) Q Γ:=fun E a hF=>by
 refine wpIn_block (wpIn_mono (h E a hF) ?_);rintro e a' w' ⟨E',Γ',rfl,hK,hF',hd,hq⟩;cases e
 case exit id'=>
  by_cases hid:id'=id
  ·subst hid;simp only [Exit.inBlock,if_true];exact ⟨E',Γ',rfl,hK,hF',hd,by simpa [aLO] using hq⟩
  simp only [Exit.inBlock,hid,if_false];exact ⟨E',Γ',rfl,hK,hF',hd,by simpa [aLO,eY hid] using hq⟩
 all_goals exact ⟨E',Γ',rfl,hK,hF',hd,hq⟩
def dA (σ:List (Nat × Av)):Operand→Av
 | .tmp t=>bN σ t
 | .const v=>.val v
 | .func f=>.clo f []
 | .global _=>.any
theorem alC {E:Env}{a:Act}(h:∀ t,aA E (bN Γ.s t) (a.tmps.getD t undef))(p:Operand):aA E (dA Γ.s p) (a.eval p):=by
 cases p with
 | tmp t=>exact h t
 | const v=>unfold dA aA;rfl
 | func f=>unfold dA aA;exact ⟨[],rfl,by unfold aG;rfl⟩
 | global g=>unfold dA aA;trivial
theorem aeL {p:Operand}{x y:Code}{b:Bool}(hp:dA Γ.s p=.val (.bool b))(h1:b=true→dW ro P N D x Q Γ)(h2:b=false→dW ro P N D y Q Γ):dW ro P N D (.cond p x y) Q Γ:=fun E a hF=>by
 have:=alC hF.holds.1 p;rw [hp] at this;unfold aA at this;exact wpIn_cond_split this (fun hb=>h1 hb E a hF) (fun hb=>h2 hb E a hF)
def Ck (bb:Bool)(P:Program)(ops:Array Oper)(l:List Oper)(Γ:Ctx)(K:Ctx→List (List Nat × List Nat)→Prop):Prop:=∃ Γ' F,Ch bb P ops l Γ Γ' F∧K Γ' F
theorem aeJ {bb:Bool}{ops:Array Oper}{K:Ctx→List (List Nat × List Nat)→Prop}(h:K Γ []):Ck bb P ops [] Γ K:=⟨Γ,[],Ch.nil Γ,h⟩
theorem aRA {l:List Oper}{id:Nat}(hd:aLU N l=true)(hc:Ck true P l.toArray l Γ fun Γ' _=>Q .normal Γ'):dW ro P N D (.region id l.toArray false) Q Γ:=fun E a hF=>by
 obtain ⟨Γ',F,h,hq⟩:=hc;refine wpIn_region_lit (l:=l) ?_;exact h.text hd E a hF.good hF.holds hF.size fun E' a' M hG hS hH hN hdf=>⟨E',Γ',rfl,hS.kept hF.born,⟨hG,hN,fun n hn=>(hS.kept hF.born).born n hn,hH⟩,hdf,hq⟩
def aAV (N:Nat)(l:List Oper)(F:List (List Nat × List Nat)):Bool:=aLU N l&&wE .any l 0&&cM l F
theorem aeK {l:List Oper}{id:Nat}(hm:P.follows .mixedOrders=true)(hck:Ck true P l.toArray l Γ fun Γ' F=>aAV N l F=true∧Q .normal Γ'):dW ro P N D (.region id l.toArray true) Q Γ:=fun E a hF=>by
 obtain ⟨Γ',F,h,hc,hq⟩:=hck;unfold aAV at hc;rw [Bool.and_eq_true,Bool.and_eq_true] at hc;obtain ⟨⟨hd,hl⟩,hc⟩:=hc;obtain ⟨s,hs,hF',hE⟩:=h.specs;have hb:Below E.w.heap.size E.w E.w.drew:=(Below.refl _ _).drew;have hS:=Step.grow hF.good hb;have:=h.any (ro:=ro) (kk:=0) (Q:=fun e a' w'=>∃ E' Γ',E'.w=w'∧Kept D E E'∧Fit N D E' a' Γ'∧a'.defers=a.defers∧Q e Γ') hd hl hc { E with w:=E.w.drew } a.defers (fun E' a' M hG hS' hH hN hdf=>by
  have hK:=(hS.trans hS').kept hF.born;exact ⟨E',Γ',rfl,hK,⟨hG,hN,fun n hn=>hK.born n hn,hH⟩,hdf,hq⟩) s hs hF' hE l.toArray.size (Array.replicate l.toArray.size false) { E with w:=E.w.drew } a [] (by simp) (by simp [left,List.countP_replicate])
   (fun i o _ hi=>by by_cases h:i<l.length<;>simp [Array.getD,h] at hi) (hF.good.grow hb) (Step.refl _) (by
    rw [aBX _ _ _ _ fun j hj=>by by_cases h:j<l.length<;>simp [Array.getD,h]];exact ⟨fun t=>aA.step hS _ _ (hF.holds.1 t),fun n x hx=>dI.step hS (by simp) (hF.holds.2 n x hx)⟩) hF.size rfl
 exact wpIn_region_any hm this
def Le (N:Nat)(D:List Nat)(Γ τ:Ctx):Prop:=∀ (E:Env) (a:Act),Fit N D E a Γ→∃ E',E'.w=E.w∧Kept D E E'∧Fit N D E' a τ
theorem Le.refl:Le N D Γ Γ:=fun E a h=>⟨E,rfl,Kept.refl h.born,h⟩
theorem bS {τ:Ctx}{c:Code}(hl:Le N D Γ τ)(h:dW ro P N D c Q τ):dW ro P N D c Q Γ:=fun E a hF=>by
 obtain ⟨E',hw,hK,hF'⟩:=hl E a hF;rw [←hw];exact wpIn_mono (h E' a hF') fun e a' w' ⟨E'',Γ',h1,h2,h3,h4⟩=>⟨E'',Γ',h1,hK.trans h2,h3,h4⟩
theorem bM {ι:Type}{c:Code}(F:ι→Ctx)(I:ι→Prop)(μ:ι→Nat)(i0:ι)(h0:I i0)(hl:Le N D Γ (F i0))
 (round:∀ i,I i→dW ro P N D c (wJ (fun Γ'=>∃ j,I j∧μ j<μ i∧Le N D Γ' (F j)) Q) (F i)):dW ro P N D (.loop c) Q Γ:=fun E a hF=>by
 obtain ⟨E0,hw0,hK0,hF0⟩:=hl E a hF;refine wpIn_loop_ghost (fun n b w=>∃ E' i,E'.w=w∧I i∧μ i=n∧Kept D E E'∧Fit N D E' b (F i)∧b.defers=a.defers) (μ i0) ⟨E0,i0,hw0,h0,rfl,hK0,hF0,rfl⟩ ?_;rintro n b w ⟨E',i,rfl,hi,rfl,hK,hF',hd⟩;refine wpIn_mono (round i hi E' b hF') ?_;rintro e a' w' ⟨E'',Γ',rfl,hK',hF'',hd',hq⟩;cases e
 case normal=>
  obtain ⟨j,hj,hlt,hle⟩:=hq;obtain ⟨E3,h1,h2,h3⟩:=hle E'' a' hF'';exact ⟨μ j,hlt,E3,j,h1,hj,rfl,(hK.trans hK').trans h2,h3,hd'.trans hd⟩
 all_goals exact ⟨E'',Γ',rfl,hK.trans hK',hF'',hd'.trans hd,hq⟩
def wT (σ:List (Nat × Av)):List (Nat × Av)→Prop
 | []=>True
 | (t,x)::r=>(x=.any∨bN σ t=x)∧wT σ r
def jU (η:List (Nat × Hs)):List (Nat × Hs)→Prop
 | []=>True
 | (n,y)::r=>aL η n=some y∧jU η r
theorem aJ3 {σ:List (Nat × Av)}:∀ {τ:List (Nat × Av)},wT σ τ→∀ t,bN τ t=.any∨bN σ t=bN τ t
 | [],_,t=>.inl rfl
 | (u,x)::r,h,t=>by
  by_cases e:u=t
  ·subst e;rw [lE];exact h.1
  rw [lS _ _ e];exact aJ3 h.2 t
theorem aEV {η:List (Nat × Hs)}:∀ {τ:List (Nat × Hs)},jU η τ→∀ n y,aL τ n=some y→aL η n=some y
 | [],_,n,y,h=>by simp [aL] at h
 | (u,x)::r,h,n,y,hy=>by
  by_cases e:u=n
  ·subst e;simp [aL] at hy;subst hy;exact h.1
  simp only [aL,eY e,cond_false] at hy;exact aEV h.2 n y hy
theorem mK.weaken {E:Env}{tm:Array Value}{τ:Ctx}(h:mK E tm Γ)(hs:wT Γ.s τ.s)(hh:jU Γ.h τ.h):mK E tm τ:=by
 refine ⟨fun t=>?_,fun n y hy=>h.2 n y (aEV hh n y hy)⟩;rcases aJ3 hs t with h1|h1
 ·rw [h1];unfold aA;trivial
 rw [←h1];exact h.1 t
theorem Le.sub {τ:Ctx}(hs:wT Γ.s τ.s)(hh:jU Γ.h τ.h):Le N D Γ τ:=fun E a h=>⟨E,rfl,Kept.refl h.born,⟨h.good,h.size,h.born,h.holds.weaken hs hh⟩⟩
theorem Le.trans {τ υ:Ctx}(h:Le N D Γ τ)(k:Le N D τ υ):Le N D Γ υ:=fun E a hF=>by
 obtain ⟨E1,h1,h2,h3⟩:=h E a hF;obtain ⟨E2,k1,k2,k3⟩:=k E1 a h3;exact ⟨E2,k1.trans h1,h2.trans k2,k3⟩
end
def FC (P:Program)(f:FuncId)(args:List Av)(R:List (Nat × Hs))(x:Av)(U:List (Nat × Hs)):Prop:=
 ∀ (E:Env) (vs:List Value),Good E→aG E args vs→(∀ n y,aL R n=some y→dI E n y)→(∀ n∈R.map (·.1),E.loc n≠.unborn)→(∀ n,n∉R.map (·.1)→E.loc n=.unborn)→
  Calls P f vs.toArray E.w fun e w'=>∃ E' v,e=.returned v∧E'.w=w'∧Good E'∧Kept (R.map (·.1)) E E'∧aA E' x v∧∀ n y,aL U n=some y→dI E' n y
def aF (P:Program)(fn:Func)(Γ:Ctx)(x:Av):Prop:=∀ (E:Env) (a:Act),Good E→mK E a.tmps Γ→∃ v,(results fn a.tmps).run P E.w=.ok v E.w∧aA E x v
def yL:List Av→Nat→List (Nat × Av)
 | [],_=>[]
 | x::r,k=>(k,x)::yL r (k+1)
def wU:Nat→List (Nat × Hs)
 | 0=>[]
 | n+1=>(n,.unborn)::wU n
theorem aJ6 {E:Env}:∀ (xs:List Av) (vs:List Value) (k:Nat) (tm:Array Value),aG E xs vs→(∀ i v,vs[i]?=some v→tm.getD (k+i) undef=v)→∀ t,aA E (bN (yL xs k) t) (tm.getD t undef)
 | [],vs,k,tm,_,_,t=>by unfold yL bN aA;trivial
 | x::xs,vs,k,tm,h,hv,t=>by
  unfold aG at h;obtain ⟨v,us,rfl,h1,h2⟩:=h;unfold yL;by_cases e:k=t
  ·subst e;rw [lE];have:=hv 0 v rfl;rw [Nat.add_zero] at this;rw [this];exact h1
  rw [lS _ _ e];exact aJ6 xs us (k+1) tm h2 (fun i u hu=>by have:=hv (i+1) u (by simpa using hu);rwa [show k+1+i=k+(i+1) from by omega]) t
theorem aJ7 {n:Nat}{y:Hs}:∀ {K:Nat},aL (wU K) n=some y→y=.unborn
 | 0,h=>by simp [wU,aL] at h
 | K+1,h=>by
  unfold wU aL at h;cases hb:Nat.beq K n with
  | true=>rw [hb,cond_true] at h;injection h with h;exact h.symm
  | false=>rw [hb,cond_false] at h;exact aJ7 h
theorem aG.length {E:Env}:∀ {xs:List Av} {vs:List Value},aG E xs vs→vs.length=xs.length
 | [],vs,h=>by unfold aG at h;subst h;rfl
 | x::xs,vs,h=>by
  unfold aG at h;obtain ⟨v,us,rfl,_,h2⟩:=h;simp [h2.length]
theorem FC.body {P:Program}{f:FuncId}{fn:Func}{c:Code}{args:List Av}{R U:List (Nat × Hs)}{x:Av}(K:Nat)(N:Nat)(hf:P.funcs[f]?=some fn)(hb:fn.body=some c)(hN:max fn.ntmps args.length=N)
 (h:AW P N (R.map (·.1)) c (fun e Γ=>(e=.ret∨e=.normal)∧aF P fn Γ x∧jU Γ.h U) ⟨yL args 0,R++wU K⟩):FC P f args R x U:=by
 intro E vs hG hA hR hB hU;refine calls_of_wp hf hb ?_;have hlen:=hA.length;refine wp_mono (wpIn_wide.1 (h E _ ⟨hG,?_,hB,fun t=>aJ6 args vs 0 _ hA (fun i v hv=>?_) t,fun n y hn=>?_⟩)) ?_
 ·simp [hlen];omega
 ·have hi:=(List.getElem?_eq_some_iff.1 hv)
  obtain ⟨hi1,hi2⟩:=hi;rw [Array.getD_eq_getD_getElem?,Nat.zero_add,Array.getElem?_append_left (by simpa using hi1)];simp [hv]
 ·rw [vF] at hn;by_cases hm:n∈R.map (·.1)
  ·obtain ⟨z,hz⟩:=vG hm;rw [hz] at hn;simp at hn;subst hn;exact hR n z hz
  rw [adX hm] at hn;have:=aJ7 (n:=n) (y:=y) (K:=K) (by simpa using hn);subst this;exact hU n hm
 rintro e a' w' ⟨E',Γ',rfl,hK,hF,hdf,he,hres,hsub⟩;obtain ⟨v,hr,hx⟩:=hres E' a' hF.good hF.holds;have fin:∃ E'' v',Ending.returned v=.returned v'∧E''.w=E'.w∧Good E''∧Kept (R.map (·.1)) E E''∧aA E'' x v'∧∀ n y,aL U n=some y→dI E'' n y:=
  ⟨E',v,rfl,rfl,hF.good,hK,hx,fun n y hy=>hF.holds.2 n y (aEV hsub n y hy)⟩
 rcases he with rfl|rfl
 ·exact ⟨hdf,v,hr,fin⟩
 exact ⟨hdf,v,hr,fin⟩
theorem aF.tmp {P:Program}{fn:Func}{Γ:Ctx}{x:Av}{t:Nat}(h:fn.results=#[.tmp t])(hx:bN Γ.s t=x):aF P fn Γ x:=fun E a hG hH=>by
 subst hx;exact ⟨_,results_tmp h _ _ _,hH.1 t⟩
theorem sH {w:World}{base g:Nat}{e t:TypeId}{v:Value}{xs cs:List Value}(h:bA w base e v xs)(hb:bI w g t cs)(hne:e≠t):v.ownBlock≠some g:=by
 rcases h.2 with ⟨rfl,_⟩|⟨g',cap,cur,rfl,_,hh,_⟩
 ·simp [Value.ownBlock]
 intro he;simp [Value.ownBlock] at he;subst he;unfold bI at hb;rw [hh] at hb;injection hb with hb
 injection hb with _ ht
 exact hne ht
theorem bI.grown {w w':World}{g:Nat}{t:TypeId}{cs:List Value}{row:Option Nat}(h:bI w g t cs)(hg:w.grownBy w' row)(hne:row≠some g):bI w' g t cs:=
 (hg.block g h.lt (fun e=>hne e.symm)).trans h
theorem bI.ne_ {w:World}{g g':Nat}{t t':TypeId}{cs cs':List Value}(h:bI w g t cs)(h':bI w g' t' cs')(hne:t≠t'):g≠g':=by
 rintro rfl;unfold bI at h h';rw [h] at h';injection h' with h'
 injection h' with _ ht
 exact hne ht
section
variable {w:World}{base:Nat}{e:TypeId}{A:Option Addr}{n c g:Nat}{xs:List Value}
theorem bA.addr (h:bA w base e (.slice A n c) xs)(hx:0<n):∃ g,A=some ⟨g,0,none⟩∧base≤g∧g<w.heap.size:=by
 have hn:=h.rd.1;rcases h.2 with ⟨hv,h0⟩|⟨g,cap,cur,hv,hb,hh,_⟩
 ·omega
 injection hv with h1
 exact ⟨g,h1,hb,(Array.getElem?_eq_some_iff.1 hh).1⟩
theorem bA.cellAt (h:bA w base e (.slice (some ⟨g,0,none⟩) n c) xs)(j:Nat)(hj:j<xs.length):w.cell? ⟨g,j,none⟩=some xs[j]:=by
 have hn:=h.rd.1;subst hn;rw [World.ownsRow.cellAt h j (by omega),List.getElem?_eq_getElem hj]
theorem bA.free (h:bA w base e (.slice (some ⟨g,0,none⟩) n c) xs)(j:Nat):w.frozen? ⟨g,j,none⟩=false:=by
 have hn:=h.rd.1;subst hn;exact World.ownsRow.frozenAt h j
theorem bA.set_ (h:bA w base e (.slice (some ⟨g,0,none⟩) n c) xs)(j:Nat)(u:Value):bA (w.setCell ⟨g,j,none⟩ u) base e (.slice (some ⟨g,0,none⟩) n c) (xs.set j u):=by
 have hn:=h.rd.1;subst hn;have:=(World.ownsRow.stored h j u).1;simpa [bA] using this
theorem bA.far {v:Value}(h:bA w base e v xs){p:Addr}(hp:v.ownBlock≠some p.block)(u:Value):bA (w.setCell p u) base e v xs:=
 h.keep fun g hg=>Below.heap_setCell w p u g (fun hh=>hp (by rw [hg,hh]))
end
theorem bA.ne_own {w:World}{base base':Nat}{e e':TypeId}{v v':Value}{xs xs':List Value}(h:bA w base e v xs)(h':bA w base' e' v' xs')(hne:e≠e'):∀ g,v.ownBlock=some g→v'.ownBlock≠some g:=by
 intro g hg hg';rcases h.2 with ⟨rfl,_⟩|⟨g1,cap,cur,rfl,_,hh,_⟩
 ·simp [Value.ownBlock] at hg
 rcases h'.2 with ⟨rfl,_⟩|⟨g2,cap',cur',rfl,_,hh',_⟩
 ·simp [Value.ownBlock] at hg'
 simp [Value.ownBlock] at hg hg';subst hg;subst hg';rw [hh] at hh';injection hh' with hh'
 injection hh' with _ ht
 exact hne ht
def yX (v v':Value):Prop:=∀ g,v.ownBlock=some g→v'.ownBlock≠some g
theorem yX.older {w w':World}{base base':Nat}{e e':TypeId}{v v':Value}{xs xs':List Value}(h:bA w base e v xs)(h':bA w' base' e' v' xs')(hb:w.heap.size≤base'):yX v v':=by
 intro g hg hg';have h1:=(h.block g hg).2;have h2:=(h'.block g hg').1;omega
theorem yX.grown {w w':World}{base':Nat}{e':TypeId}{v v' v2:Value}{xs':List Value}(h:yX v v')(hg:v2.ownBlock=v.ownBlock∨v2.ownBlock=some w.heap.size)(h':bA w' base' e' v' xs')(hb:w'.heap.size≤w.heap.size):yX v2 v':=by
 intro g hg1 hg2;rcases hg with he|he
 ·exact h g (he ▸ hg1) hg2
 have h2:=(h'.block g hg2).2;rw [he] at hg1;injection hg1 with hg1
 omega
theorem yX.symm {v v':Value}(h:yX v v'):yX v' v:=fun g h1 h2=>h g h2 h1
def lenOf (v:Value):Nat:=match v with|.slice _ n _=>n|_=>0
theorem aWF (k:IntKind)(zs:List Int)(j:Nat)(z:Int):(cb k zs).set j (.int k z)=cb k (zs.set j z):=by simp [cb,List.map_set]
theorem aWH (k:IntKind)(zs:List Int)(j:Nat)(h:j<(cb k zs).length):(cb k zs)[j]=.int k (zs[j]'(by simpa using h)):=by simp [cb]
end Go.Proofs.YtgajclaoaphgoaaGreatDoor
