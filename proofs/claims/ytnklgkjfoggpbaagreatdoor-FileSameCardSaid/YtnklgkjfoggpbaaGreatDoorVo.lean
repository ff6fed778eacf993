/- Parts of the proof of a law of this seat: rules and contracts; no conditions. -/
import Derived.Test.YtnklgkjfoggpbaaGreatDoorLt
import Derived.Test.YtnklgkjfoggpbaaGreatDoorWireSpec
import Derived.Test.YtnklgkjfoggpbaaGreatDoorPk
import Derived.Test.YtnklgkjfoggpbaaGreatDoorMq
import Derived.Maps.OwnSet
import Derived.Test.YtnklgkjfoggpbaaGreatDoorProg
import Derived.KernelRfl
import Derived.Test.YtnklgkjfoggpbaaGreatDoorGs
set_option maxHeartbeats 6400000
set_option maxRecDepth 100000
set_option linter.unusedVariables false
set_option linter.unusedSimpArgs false
namespace Go.Proofs.YtnklgkjfoggpbaaGreatDoor
open Go.RowKit
abbrev bK:=Int × Int
def aI:bK:=(0,0)
def iV (x:bK):Av:=.agg [vi x.1,vi x.2]
def iU (l:List bK):Av:=.sl 2 l.length fun j=>iV (l.getD j aI)
theorem sU (l:List bK):aN (iU l):=by unfold iU aN;intro j;simp [iV,aN,bE]
instance (l:List bK):Pu (iU l):=⟨sU l⟩
instance (x:bK):Pu (iV x):=⟨by unfold iV;exact Pu.out⟩
def jM (t:TabP)(x:bK):Int:=
 if x.1∈[(8:Int),14,17] then 2
 else if x.1∈[(2:Int),4,6,9,10,11,12,13,15,16,18,19,20,22,23,25,27,31,32,34,36] then 1
 else if x.1≠26∨x.2<0∨x.2≥(t.funcs.length:Int) then 0
 else if nW t.funcs x.2<0∨nW t.funcs x.2≥(t.params.length:Int) then 0
 else nW t.params (nW t.funcs x.2)
def lQ (x:bK):Int:=if x.1∈[(1:Int),3,5,7,8,9,10,11,12,13,19,20,26] then 1 else 0
def oZ (t:TabP)(x:bK):Bool:=
 if x.1=1∨x.1=24∨x.1=25 then pW x.2
 else if x.1=12∨x.1=15∨x.1=16 then decide (x.2≥0)&&decide (x.2<t.flags)
 else
  let p:Int × Int:=if x.1=3∨x.1=4 then (0,(t.globals.length:Int)-1) else if x.1=5∨x.1=6 then (0,23) else if x.1=7 then (1,6) else if x.1=8 then (3,14) else if x.1=19 then (1,3) else if x.1=13∨x.1=14 then (0,(t.props.length:Int)-1) else if x.1=21 then (0,(t.texts.length:Int)-1) else if x.1=26 then (0,(t.funcs.length:Int)-1) else if x.1=32∨x.1=33 then (0,(t.daemons.length:Int)-1) else (0,0)
  (decide (x.1≥1)&&decide (x.1<38))&&(decide (x.2≥p.1)&&decide (x.2≤p.2))
def afO (x:bK):Prop:=x.1=24∨x.1=25
def afP (x:bK):Prop:=x.1=27∨x.1=28∨x.1=29∨x.1=30
def aA5 (t:TabP)(L:Int→Int)(S:Int→Prop)(x:bK)(h b:Int):Prop:=
 0≤h∧if x.1=38 then L x.2=h∧b=h
 else oZ t x=true∧jM t x≤h∧(x.1=27→h=1)∧h+lQ x-jM t x≤256∧(x.1=37→h=0)∧(afO x→S x.2∧L x.2=h-jM t x+lQ x)∧(x.1≠24→¬ afP x→b=h-jM t x+lQ x)
inductive Frag (t:TabP) (L:Int→Int) (S:Int→Prop):Int→List bK→List Int→Int→Prop where
 | nil (a:Int):Frag t L S a [] [] a
 | cons {x:bK} {h b c:Int} {C:List bK} {H:List Int}:aA5 t L S x h b→Frag t L S b C H c→Frag t L S h (x::C) (h::H) c
structure GoodX (t:TabP) (X:List (Int × Int)) (C:List bK) (n m a b:Int):Prop where
 le:n≤m
 ex:∃ (H:List Int) (B:List (Int × Int)),(∀ p∈B,n≤p.1∧p.1<m)∧B.Pairwise (fun p q=>p.1≠q.1)∧(∀ p∈B,(38,p.1)∈C)∧
  ∀ L S,(∀ p∈B,L p.1=p.2∧S p.1)→(∀ p∈X,L p.1=p.2∧S p.1)→Frag t L S a C H b
theorem GoodX.nil {t:TabP}{X:List (Int × Int)}(n a:Int):GoodX t X [] n n a a:=⟨Int.le_refl _,[],[],fun p hp=>(by cases hp),.nil,fun p hp=>(by cases hp),fun L S _ _=>.nil a⟩
theorem GoodX.one {t:TabP}{X:List (Int × Int)}{x:bK}{n a b:Int}(h:∀ L S,(∀ p∈X,L p.1=p.2∧S p.1)→aA5 t L S x a b):GoodX t X [x] n n a b:=
 ⟨Int.le_refl _,[a],[],fun p hp=>(by cases hp),.nil,fun p hp=>(by cases hp),fun L S _ hX=>.cons (h L S hX) (.nil b)⟩
def fG (C:List bK)(k:Int):Option Nat:=C.findIdx? fun x=>x.1==38&&x.2==k
def gS (t:TabP)(x:bK)(h:Int)(is:Bool):Int × Int:=
 if x.1=38 then (h,0)
 else if oZ t x=false∨(x.1=24∨x.1=25)∧is=false then (0,16)
 else if h<jM t x∨x.1=27∧h≠1∨jM t x<h+lQ x-256 then (0,17)
 else (h-jM t x+lQ x,0)
def aH8 (C:List bK)(x:bK)(at_:Nat)(b:Int)(r:List (Nat × Int)):List (Nat × Int):=
 let r1:=if x.1=24∨x.1=25 then r++[((fG C x.2).getD 0,b)] else r
 if x.1≠24∧¬ (x.1=27∨x.1=28∨x.1=29∨x.1=30) then r1++[(at_+1,b)] else r1
def pN (t:TabP)(C:List bK):Nat→List Int→List (Nat × Int)→List Int × Int
 | 0,out,_=>(out,0)
 | f+1,out,todo=>if todo=[] then (out,0) else
  let x:=todo.getLastD (0,0);let r:=todo.dropLast
  if x.1≥C.length then ([],2)
  else if out.getD x.1 0=x.2 then pN t C f out r
  else if out.getD x.1 0≠-1 then ([],17)
  else
   let i:=C.getD x.1 aI
   let b:=gS t i x.2 (fG C i.2).isSome
   if b.2≠0 then ([],b.2) else pN t C f (out.set x.1 x.2) (aH8 C i x.1 b.1 r)
def wA (t:TabP)(C:List bK):List Int × Int:=pN t C (3*C.length+2) (List.replicate C.length (-1)) [(0,0)]
theorem Frag.at_ {t:TabP}{L:Int→Int}{S:Int→Prop}{a b:Int}{C:List bK}{H:List Int}(h:Frag t L S a C H b):(0<C.length→H.getD 0 0=a)∧∀ i,i<C.length→aA5 t L S (C.getD i aI) (H.getD i 0) (if i+1<C.length then H.getD (i+1) 0 else b):=by
 induction h with
 | nil a=>exact ⟨fun h=>absurd h (Nat.lt_irrefl 0),fun i h=>absurd h (Nat.not_lt_zero i)⟩
 | @cons x h b c C H h1 h2 ih=>
  refine ⟨fun _=>rfl,fun i hi=>?_⟩
  cases i with
  | zero=>
   show aA5 t L S x h _
   by_cases hc:0<C.length
   ·rw [if_pos (by rw [List.length_cons];omega)]
    show aA5 t L S x h (H.getD 0 0)
    rw [ih.1 hc]
    exact h1
   ·rw [if_neg (by rw [List.length_cons];omega)]
    have:C=[]:=List.eq_nil_of_length_eq_zero (by omega)
    subst this
    cases h2
    exact h1
  | succ i=>
   have:=ih.2 i (by rw [List.length_cons] at hi;omega)
   by_cases hc:i+1<C.length
   ·rw [if_pos hc] at this
    rw [if_pos (by rw [List.length_cons];omega)]
    exact this
   ·rw [if_neg hc] at this
    rw [if_neg (by rw [List.length_cons];omega)]
    exact this
theorem aRU {k:Nat}(hk:0<k):∀ (l:List Av),(∀ z∈l,(cL z).length=k)→∀ (j:Nat) (y:Av),(l.flatMap cL)[j]?=some y→∃ m i z,j=m*k+i∧i<k∧l[m]?=some z∧(cL z)[i]?=some y
 | [],_,j,y,hy=>by simp at hy
 | z::l,hl,j,y,hy=>by
  have hz:=hl z (List.mem_cons_self ..)
  rw [List.flatMap_cons] at hy
  rcases Nat.lt_or_ge j k with h|h
  ·rw [List.getElem?_append_left (by omega)] at hy
   exact ⟨0,j,z,by omega,h,rfl,hy⟩
  ·rw [List.getElem?_append_right (by omega),hz] at hy
   obtain ⟨m,i,z',h1,h2,h3,h4⟩:=aRU hk l (fun x hx=>hl x (List.mem_cons_of_mem _ hx)) (j-k) y hy
   exact ⟨m+1,i,z',by rw [Nat.succ_mul];omega,h2,h3,h4⟩
section
variable {P:Program}{o:Oper}{ρ:Operand→Av}{T:TypeId}
theorem abW {ps:List Operand}{xs:List Av}{e:TypeId}{k by_ n:Nat}{zs:List Value}(m:Nat)(ho:o.op=.buildSlice T n (lR 0 ps).toArray)(hT:eB P T=some e)(hi:lW P e=some (k,by_,zs))(hxs:ps.map ρ=xs)(hs:pX k xs=true)(hk:0<k)(hf:∀ z∈xs,(cL z).length=k)(hn:ps.length=n)(hm:n≤16777216)(hm2:n*k≤16777216):
 OC P o ρ [(m,.unborn)] (.osl k m n) [(m,.live e (xs.flatMap cL))]:=by
 intro E a hG hr hH
 have hu:E.loc m=.unborn:=hH m .unborn (by simp)
 subst hxs hn
 have hr':∀ p∈ps,aA E (ρ p) (a.eval p):=fun p hp=>hr p (by
  obtain ⟨i,hi⟩:=aEM ps 0 hp
  simp [ho,Op.operands]
  exact ⟨i,hi⟩)
 obtain ⟨cells',h1,h2,h3⟩:=aJU E.w hT hi hr' hs hm2
 have hB:Below E.w.heap.size E.w (E.w.alloc (.cells cells' e)):=(Below.refl _ _).alloc (Nat.le_refl _) _
 have:((lR 0 ps).toArray.map fun (i,x)=>(i,a.eval x))=((lR 0 ps).map fun ip=>(ip.1,a.eval ip.2)).toArray:=by simp
 unfold eK execOp
 simp only [ho,this,Sem.run_bind,h1,Result.andThen_ok,Sem.run_pure,fM]
 refine aA6 hG hu hB (Nat.le_refl _) (heap_alloc_new _ _) (fun j y hy=>?_) ?_
 ·obtain ⟨q,i,z,rfl,hi',hz,hzy⟩:=aRU hk _ hf j y hy
  rw [List.getElem?_map] at hz
  cases hp:ps[q]? with
  | none=>simp [hp] at hz
  | some p=>
   simp [hp] at hz
   subst hz
   have hpm:=List.mem_of_getElem? hp
   obtain ⟨h4,h5,h6,h7⟩:=wP (hr' p hpm) (aEN _ hs _ (List.mem_map.2 ⟨p,hpm,rfl⟩))
   obtain ⟨u,h8,h9,h10⟩:=h7 i y hzy
   exact ⟨u,h3 q p hp i u h8,h9,h10⟩
 ·unfold aA
  refine ⟨⟨by simp [Env.give],⟨_,_,rfl⟩,fun hn=>by simp [Env.give] at hn⟩,fun b hb=>?_⟩
  simp [Env.give] at hb
  subst hb
  exact ⟨ps.length,cells',e,rfl,Nat.le_refl _,by unfold maxLen;omega,heap_alloc_new _ _,by omega⟩
end
def cT (l:List bK):List Av:=l.flatMap fun p=>[vi p.1,vi p.2]
theorem oO (l:List bK):(cT l).length=l.length*2:=by
 induction l with
 | nil=>rfl
 | cons p l ih=>
  show ([vi p.1,vi p.2]++cT l).length=_
  rw [List.length_append,ih]
  simp only [List.length_cons,List.length_nil]
  omega
theorem aAC (a b:List bK):cT (a++b)=cT a++cT b:=by unfold cT;simp
theorem aH6 {l:List bK}:∀ {j:Nat},j<l.length→(cT l)[j*2]?=some (vi (l.getD j aI).1):=by
 induction l with
 | nil=>intro j h;simp at h
 | cons p l ih=>
  intro j h
  cases j with
  | zero=>rfl
  | succ j=>
   show (vi p.1::vi p.2::cT l)[(j+1)*2]?=_
   rw [show (j+1)*2=j*2+1+1 from by omega,List.getElem?_cons_succ,List.getElem?_cons_succ,ih (by simpa using h)]
   rfl
theorem aH7 {l:List bK}:∀ {j:Nat},j<l.length→(cT l)[j*2+1]?=some (vi (l.getD j aI).2):=by
 induction l with
 | nil=>intro j h;simp at h
 | cons p l ih=>
  intro j h
  cases j with
  | zero=>rfl
  | succ j=>
   show (vi p.1::vi p.2::cT l)[(j+1)*2+1]?=_
   rw [show (j+1)*2+1=j*2+1+1+1 from by omega,List.getElem?_cons_succ,List.getElem?_cons_succ,ih (by simpa using h)]
   rfl
theorem zX (l:List bK):∀ j,j<l.length→eQ ((fun j=>iV (l.getD j aI)) j) 2=true∧∀ i y,i<2→(cT l)[j*2+i]?=some y→(cL ((fun j=>iV (l.getD j aI)) j))[i]?=some y:=fun j hj=>by
 refine ⟨rfl,fun i y hi hy=>?_⟩
 rcases i with _|_|i
 ·rw [Nat.add_zero,aH6 hj] at hy;exact hy
 ·rw [aH7 hj] at hy;exact hy
 ·omega
theorem acA (π:Nat→Nat)(l:List bK):(cT l).map (Av.ren π)=cT l:=by
 induction l with
 | nil=>rfl
 | cons p l ih=>
  show ([vi p.1,vi p.2]++cT l).map (Av.ren π)=[vi p.1,vi p.2]++cT l
  rw [List.map_append,ih]
  simp [Av.ren]
theorem aP1 {Z:List Nat}(l:List bK):∀ z∈cT l,aE Z z:=fun z hz=>by
 obtain ⟨p,_,hp⟩:=List.mem_flatMap.1 hz
 simp at hp
 rcases hp with rfl|rfl<;>simp [aE]
theorem Le.freezeI {N:Nat}{D:List Nat}{s:List (Nat × Av)}{h:List (Nat × Hs)}(t n:Nat){ty:TypeId}(l:List bK)(hs:bN s t=.osl 2 n l.length)(hn:aL h n=some (.live ty (cT l))):Le N D ⟨s,h⟩ ⟨(t,iU l)::s,(n,.dead)::h⟩:=Le.step fun E a hF=>by
 have hv:=hF.holds.1 t
 rw [hs] at hv
 have hH:=hF.holds.2 n _ hn
 have hn0:E.loc n≠.unborn:=by unfold aA at hv;exact hv.1.1
 have hS:=Step.kill E n hn0
 refine ⟨E.re n .dead,[n],rfl,hS,hF.good.re (by simp),fun u=>?_,fun m y hy=>?_⟩
 ·by_cases e:t=u
  ·subst e
   rw [lE]
   refine aCY hF.good hv hH (oO l) (fun j hj=>⟨rfl,fun i y hy=>?_⟩) (fun j hj us hus h1=>?_)
   ·have hy':[vi (l.getD j aI).1,vi (l.getD j aI).2][i]?=some y:=hy
    rcases i with _|_|i
    ·simp at hy';subst hy';rw [Nat.add_zero,aH6 hj];simp
    ·simp at hy';subst hy';rw [aH7 hj];simp
    ·simp at hy'
   ·refine ⟨.agg us.toArray,?_,?_⟩
    ·unfold iV aA
     exact ⟨us,rfl,hus,h1⟩
    ·have hus':aG (E.re n .dead) [vi (l.getD j aI).1,vi (l.getD j aI).2] us:=hus
     unfold aG aG aG at hus'
     obtain ⟨u,us',rfl,h3,u',us'',rfl,h4,rfl⟩:=hus'
     unfold aA at h3 h4
     subst h3
     subst h4
     rfl
  ·rw [lS _ _ e]
   exact aA.step hS _ _ (hF.holds.1 u)
 ·by_cases e:n=m
  ·subst e
   simp [aL] at hy
   subst hy
   show (E.re n .dead).loc n=.dead
   simp [Env.re]
  ·simp only [aL,eY e,cond_false] at hy
   exact dI.step hS (by simp [Ne.symm e]) (hF.holds.2 m y hy)
open Go.RowKit Go.Maps
section
variable {P:Program}{o:Oper}{ρ:Operand→Av}{T k e:TypeId}{p q:Operand}{kk:IntKind}{D:DataW Unit}
theorem aRV {E:World}{b m:Nat}{key:Value}{kl:Lit}{c:Int}(h5:E.ownsMap P k (plainElem P e) b m D)(K:Keyed P k)(hT:oX P T=some (k,e))(he:wM P e=some kk)(hz:(P.info? e).bind (·.zero)=some (.int kk 0))(hkey:keyOf P k key=some kl)(hat:D.atKey kl (.lit (.int kk 0))=.lit (.int kk c)):(Instr.lookup T (.map (some b)) key true).run P E=.ok (.tuple #[.int kk c,.bool (Maps.has D kl)]) E:=by
 obtain ⟨v,ps,hrun,hv⟩:=h5.look_ok K (wL hT) (aJQ hz E) (plainElem_int (aEJ he) (by cases kk<;>decide)) hkey
 obtain ⟨c',rfl,hc,_⟩:=plainElem_int_inv (aEJ he) hv
 simp only [Prod.mk.injEq] at hc
 rw [hat] at hc
 have h1:=hc.1
 injection h1 with h1
 injection h1 with _ h1
 subst h1
 exact hrun
theorem aRW {E:Env}{c:Int}{is_:Bool}:aA E (.tup [.val (.int kk c),vb is_]) (.tuple #[.int kk c,.bool is_]):=by
 unfold aA
 refine ⟨[_,_],rfl,?_⟩
 unfold aG aG aG
 exact ⟨_,_,rfl,by unfold aA;rfl,_,_,rfl,by unfold aA;rfl,rfl⟩
theorem afQ {n:Nat}{key:Value}{kl:Lit}{c:Int}(K:Keyed P k)(ho:o.op=.lookup T p q true)(hp:ρ p=.mp n)(hq:ρ q=.val key)(hT:oX P T=some (k,e))(he:wM P e=some kk)(hz:(P.info? e).bind (·.zero)=some (.int kk 0))(hkey:keyOf P k key=some kl)(hat:D.atKey kl (.lit (.int kk 0))=.lit (.int kk c)):
 OC P o ρ [(n,.map P k e D)] (.tup [.val (.int kk c),vb (Maps.has D kl)]) []:=bZ fun E a hG hr hH=>by
 have h1:=hr p (by simp [ho,Op.operands])
 have h2:=hr q (by simp [ho,Op.operands])
 rw [hp] at h1
 rw [hq] at h2
 unfold aA at h1 h2
 obtain ⟨b,m,h4,h5⟩:=hH n (.map P k e D) (by simp)
 refine ⟨_,?_,aRW⟩
 unfold execOp
 simp only [ho,h1.2 b h4,h2,Sem.run_bind,aRV h5 K hT he hz hkey hat,Result.andThen_ok,Sem.run_pure]
theorem ab0 {key:Value}{kl:Lit}{c:Int}(K:Keyed P k)(ho:o.op=.lookup T p q true)(hp:ρ p=.fm P k e D)(hq:ρ q=.val key)(hT:oX P T=some (k,e))(he:wM P e=some kk)(hz:(P.info? e).bind (·.zero)=some (.int kk 0))(hkey:keyOf P k key=some kl)(hat:D.atKey kl (.lit (.int kk 0))=.lit (.int kk c)):
 OC P o ρ [] (.tup [.val (.int kk c),vb (Maps.has D kl)]) []:=bZ fun E a hG hr hH=>by
 have h1:=hr p (by simp [ho,Op.operands])
 have h2:=hr q (by simp [ho,Op.operands])
 rw [hp] at h1
 rw [hq] at h2
 unfold aA at h1 h2
 obtain ⟨b,m,h3,_,h5⟩:=h1
 refine ⟨_,?_,aRW⟩
 unfold execOp
 simp only [ho,h3,h2,Sem.run_bind,aRV h5 K hT he hz hkey hat,Result.andThen_ok,Sem.run_pure]
end
def kI (y:Int):Lit:=.int .i64 y
def mI (c:Int):DataW Unit:=.lit (.int .i64 c)
theorem aA7 {a b:Int}(h:kI a=kI b):a=b:=by
 unfold kI at h
 injection h
theorem sV (a:Int):WideAt.IsKeyLit (kI a):=trivial
def gF (C:List bK):Nat→DataW Unit
 | 0=>.map []
 | k+1=>if (C.getD k aI).1=38∧Maps.has (gF C k) (kI (C.getD k aI).2)=false then (gF C k).put (kI (C.getD k aI).2) (mI (k:Int)) else gF C k
structure LabOk (C:List bK) (n:Nat):Prop where
 tidy:Tidy (gF C n)
 size:Maps.size (gF C n)≤n
 has:∀ y,Maps.has (gF C n) (kI y)=(fG (C.take n) y).isSome
 at_:∀ y,(gF C n).atKey (kI y) (mI 0)=mI (((fG (C.take n) y).getD 0:Nat):Int)
theorem afR {C:List bK}{n:Nat}(h:n<C.length)(y:Int):fG (C.take (n+1)) y=(match fG (C.take n) y with|some j=>some j|none=>if (C.getD n aI).1=38∧(C.getD n aI).2=y then some n else none):=by
 unfold fG
 rw [List.take_succ_eq_append_getElem h,List.findIdx?_append,List.getD,List.getElem?_eq_getElem h,Option.getD_some]
 cases (C.take n).findIdx? fun x=>x.1==38&&x.2==y with
 | some j=>rfl
 | none=>
  show (List.findIdx? _ [C[n]]).map _=_
  rw [List.findIdx?_singleton]
  by_cases hc:(C[n]).1=38∧(C[n]).2=y
  ·rw [if_pos hc,if_pos (by simp [hc.1,hc.2])]
   simp
   omega
  ·rw [if_neg hc,if_neg (by simpa using hc)]
   rfl
theorem aJV {C:List bK}:∀ n,n≤C.length→LabOk C n
 | 0,_=>⟨tidy_empty,Nat.le_refl _,fun y=>rfl,fun y=>rfl⟩
 | n+1,h=>by
  have ih:=aJV (C:=C) n (by omega)
  have hm:=afR (C:=C) (n:=n) (by omega)
  by_cases hc:(C.getD n aI).1=38∧Maps.has (gF C n) (kI (C.getD n aI).2)=false
  ·have e:gF C (n+1)=(gF C n).put (kI (C.getD n aI).2) (mI (n:Int)):=by
    show (if _ then _ else _)=_
    rw [if_pos hc]
   have hno:fG (C.take n) (C.getD n aI).2=none:=by
    have:=hc.2
    rw [ih.has] at this
    simpa using this
   refine ⟨by rw [e];exact ih.tidy.put (sV _) _,?_,fun y=>?_,fun y=>?_⟩
   ·rw [e,size_put ih.tidy]
    have:=ih.size
    split<;>omega
   ·rw [e,hm y]
    by_cases ey:y=(C.getD n aI).2
    ·subst ey
     rw [has_put_same ih.tidy.isMap (sV _),hno]
     show true=(if (C.getD n aI).1=38∧(C.getD n aI).2=(C.getD n aI).2 then some n else none:Option Nat).isSome
     rw [if_pos ⟨hc.1,rfl⟩]
     rfl
    ·rw [has_put_other fun h'=>ey (aA7 h'),ih.has]
     cases fG (C.take n) y with
     | some j=>rfl
     | none=>
      show _=(if (C.getD n aI).1=38∧(C.getD n aI).2=y then some n else none:Option Nat).isSome
      rw [if_neg fun hq=>ey hq.2.symm]
   ·rw [e,hm y]
    by_cases ey:y=(C.getD n aI).2
    ·subst ey
     rw [atKey_put_same ih.tidy.isMap (sV _),hno]
     show mI (n:Int)=mI ((((if (C.getD n aI).1=38∧(C.getD n aI).2=(C.getD n aI).2 then some n else none:Option Nat)).getD 0:Nat):Int)
     rw [if_pos ⟨hc.1,rfl⟩]
     rfl
    ·rw [atKey_put_other (fun h'=>ey (aA7 h')),ih.at_]
     cases fG (C.take n) y with
     | some j=>rfl
     | none=>
      show _=mI ((((if (C.getD n aI).1=38∧(C.getD n aI).2=y then some n else none:Option Nat)).getD 0:Nat):Int)
      rw [if_neg fun hq=>ey hq.2.symm]
  ·have e:gF C (n+1)=gF C n:=by
    show (if _ then _ else _)=_
    rw [if_neg hc]
   have hs:∀ y,fG (C.take (n+1)) y=fG (C.take n) y:=fun y=>by
    rw [hm y]
    cases hz:fG (C.take n) y with
    | some j=>rfl
    | none=>
     show (if _ then _ else _)=_
     rw [if_neg]
     rintro ⟨h1,h2⟩
     refine hc ⟨h1,?_⟩
     rw [ih.has,h2,hz]
     rfl
   exact ⟨by rw [e];exact ih.tidy,by rw [e];have:=ih.size;omega,fun y=>by rw [e,hs y];exact ih.has y,fun y=>by rw [e,hs y];exact ih.at_ y⟩
theorem aPT (C:List bK):(∀ y,Maps.has (gF C C.length) (kI y)=(fG C y).isSome)∧∀ y,(gF C C.length).atKey (kI y) (mI 0)=mI (((fG C y).getD 0:Nat):Int):=by
 have:=aJV (C:=C) C.length (Nat.le_refl _)
 have h1:=this.has
 have h2:=this.at_
 rw [List.take_length] at h1 h2
 exact ⟨h1,h2⟩
end Go.Proofs.YtnklgkjfoggpbaaGreatDoor
namespace Go.Proofs.YtnklgkjfoggpbaaGreatDoor
open Go.RowKit
theorem aAB (l:List Int)(E:Env)(v:Value)(h:aA E (.sl 1 l.length (gE (l.map vi))) v):aA E (aK l) v:=pI (fun E j hj v hv=>by
 have e:gE (l.map vi) j=vi (l.getD j 0):=by
  show (l.map vi).getD j .any=_
  rw [List.getD,List.getElem?_map,List.getD,List.getElem?_eq_getElem hj]
  rfl
 rwa [e] at hv) E v h
theorem aPV (x:bK):PC Tryz.prog 148 [iV x] (vb (x.1==24||x.1==25)):=by
 refine FC.body 2 11 Tryz.func148 rfl (by kernel_rfl) ?_
 refine W ?_
 exact ⟨.inl rfl,aF.tmp rfl rfl,trivial⟩
theorem ab3 (x:bK):PC Tryz.prog 149 [iV x] (vb (((x.1==27||x.1==28)||x.1==29)||x.1==30)):=by
 refine FC.body 2 21 Tryz.func149 rfl (by kernel_rfl) ?_
 refine W ?_
 exact ⟨.inl rfl,aF.tmp rfl rfl,trivial⟩
theorem aPW (n:Int):PC Tryz.prog 175 [vi n] (vb (decide (n≥1)&&decide (n≤38))):=by
 refine FC.body 2 9 Tryz.func175 rfl (by kernel_rfl) ?_
 refine W ?_
 exact ⟨.inl rfl,aF.tmp rfl rfl,trivial⟩
def mG (n lo hi:Int):Bool:=decide (n≥lo)&&decide (n<hi)
theorem alH {l:List Int}{n:Int}(h:¬ (!mG n 0 (l.length:Int))=true):0≤n∧n<l.length:=by
 unfold mG at h
 simp at h
 exact h
theorem alI (n:Int):PC Tryz.prog 96 [vi n] (vb (pW n)):=by
 refine FC.body 2 8 Tryz.func96 rfl (by kernel_rfl) ?_
 refine W ?_
 refine Z1 (mH (k:=.i64) .i16 rfl rfl (by kernel_rfl) (by kernel_rfl)) ?_
 refine Z1 (mH (k:=.i16) .i64 rfl rfl (by kernel_rfl) (by kernel_rfl)) ?_
 refine W ?_
 exact ⟨.inl rfl,aF.tmp rfl (bP (aUR n)),trivial⟩
theorem oS (n lo hi:Int):PC Tryz.prog 174 [vi n,vi lo,vi hi] (vb (mG n lo hi)):=by
 refine FC.body 2 15 Tryz.func174 rfl (by kernel_rfl) ?_
 refine W ?_
 exact ⟨.inl rfl,aF.tmp rfl rfl,trivial⟩
theorem alJ (l:List Int)(n:Int)(hl:l.length≤1000000)(k:Int)(hi:PC Tryz.prog 215 [aK l,vi n] (vi k))(hk:decide (k≥0)=decide (n∈l)):PC Tryz.prog 207 [aK l,vi n] (vb (decide (n∈l))):=by
 refine FC.body 2 9 Tryz.func207 rfl (by kernel_rfl) ?_
 refine W ?_
 refine Z1 (ca (hi)) ?_
 refine W ?_
 exact ⟨.inl rfl,aF.tmp rfl (bP hk),trivial⟩
def tJ (n:Int):List Int→Nat→Int
 | [],_=>-1
 | x::l,k=>if n=x then (k:Int) else tJ n l (k+1)
theorem aUS (n:Int):∀ (l:List Int) (k:Nat),decide (tJ n l k≥0)=decide (n∈l)
 | [],k=>by simp [tJ]
 | x::l,k=>by
  unfold tJ
  by_cases h:n=x
  ·rw [if_pos h]
   simp [h]
  ·rw [if_neg h,aUS n l (k+1)]
   simp [h]
theorem aUT {n:Int}{l:List Int}{k:Nat}(h:k<l.length):tJ n (l.drop k) k=if n=l.getD k 0 then (k:Int) else tJ n (l.drop (k+1)) (k+1):=by
 rw [List.drop_eq_getElem_cons h,List.getD,List.getElem?_eq_getElem h]
 rfl
theorem alK (l:List Int)(n:Int)(hl:l.length≤1000000):PC Tryz.prog 215 [aK l,vi n] (vi (tJ n l 0)):=by
 refine FC.body 2 19 Tryz.func215 rfl (by kernel_rfl) ?_
 refine W ?_
 refine bM (ι:=Nat) (fun k=>⟨[(0,aK l),(1,vi n),(7,vi (l.length:Int)),(8,vi k)],[]⟩) (fun k=>k≤l.length∧tJ n l 0=tJ n (l.drop k) k) (fun k=>l.length-k) 0 (⟨Nat.zero_le _,rfl⟩) (Le.sub (by repeat (first|trivial|refine ⟨.inr rfl,?_⟩|refine ⟨.inr (aR (by omega)),?_⟩)) (by repeat (first|trivial|refine ⟨rfl,?_⟩))) ?_
 intro k hI
 refine W ?_
 refine cd (fun hb=>?_) fun hb=>?_
 ·have hlt:k<l.length:=by have h0:=of_decide_eq_true hb;omega
  refine W ?_
  refine cd (fun hb=>?_) fun hb=>?_
  ·have heq:n=l.getD k 0:=by simpa using hb
   refine W ?_
   exact ⟨.inl rfl,aF.tmp rfl (aR (by rw [hI.2,aUT hlt,if_pos heq])),trivial⟩
  ·have hne:¬ n=l.getD k 0:=by simpa using hb
   refine W ?_
   exact ⟨k+1,⟨by omega,by rw [hI.2,aUT hlt,if_neg hne]⟩,by omega,Le.sub (by repeat (first|exact trivial|refine ⟨.inr rfl,?_⟩|refine ⟨.inr (aR (by omega)),?_⟩)) trivial⟩
 ·have hge:k=l.length:=by have h0:=of_decide_eq_false hb;omega
  refine W ?_
  exact ⟨.inl rfl,aF.tmp rfl (aR (by rw [hI.2,hge,List.drop_length];rfl)),trivial⟩
theorem aDJ (n:Int)(l:List Int)(hl:l.length≤1000000):PC Tryz.prog 195 [vi n,aK l] (vb (decide (n∈l))):=by
 refine FC.body 2 8 Tryz.func195 rfl (by kernel_rfl) ?_
 refine W ?_
 refine Z1 (ca (alJ l n hl _ (alK l n hl) (aUS n l 0))) ?_
 refine W ?_
 exact ⟨.inl rfl,aF.tmp rfl rfl,trivial⟩
theorem alL (x:bK):PC Tryz.prog 180 [iV x] (vi (lQ x)):=by
 refine FC.body 2 7 Tryz.func180 rfl (by kernel_rfl) ?_
 refine W ?_
 refine Z1 (OC.to (fO (ps:=[_,_,_,_,_,_,_,_,_,_,_,_,_]) (xs:=[.val _,.val _,.val _,.val _,.val _,.val _,.val _,.val _,.val _,.val _,.val _,.val _,.val _]) (e:=3) (k:=1) (by_:=8) (zs:=[.int .i64 0]) rfl (by kernel_rfl) (by kernel_rfl) rfl rfl rfl (by decide) (by decide)) (aAB [(1:Int),3,5,7,8,9,10,11,12,13,19,20,26])) ?_
 refine Z1 (ca (aDJ x.1 [(1:Int),3,5,7,8,9,10,11,12,13,19,20,26] (by decide))) ?_
 refine W ?_
 refine cd (fun hb=>?_) fun hb=>?_
 ·have h1:x.1∈[(1:Int),3,5,7,8,9,10,11,12,13,19,20,26]:=of_decide_eq_true hb
  refine W ?_
  exact ⟨.inl rfl,aF.tmp rfl (aR (by unfold lQ;rw [if_pos h1])),trivial⟩
 ·have h1:¬ x.1∈[(1:Int),3,5,7,8,9,10,11,12,13,19,20,26]:=of_decide_eq_false hb
  refine W ?_
  exact ⟨.inl rfl,aF.tmp rfl (aR (by unfold lQ;rw [if_neg h1])),trivial⟩
def aBN (t:TabP)(f:Int):Int:=if mG f 0 (t.funcs.length:Int)=true∧mG (nW t.funcs f) 0 (t.params.length:Int)=true then nW t.params (nW t.funcs f) else 0
theorem yY {n lo hi:Int}:mG n lo hi=true↔lo≤n∧n<hi:=by unfold mG;simp
theorem alM (t:TabP)(f:Int)(hf:t.funcs.length≤140737488355328)(hp:t.params.length≤140737488355328):PC Tryz.prog 196 [bR t,vi f] (vi (aBN t f)):=by
 refine FC.body 2 32 Tryz.func196 rfl (by kernel_rfl) ?_
 refine sq ?_
 refine Z1 bx ?_
 refine Z1 aB ?_
 refine cn ?_
 refine aD ?_
 refine aD ?_
 refine dw ?_
 refine Z1 mo ?_
 refine Z1 (fa 11) ?_
 refine Z1 ld ?_
 refine Z1 ln ?_
 refine Z1 (ca (oS f 0 (t.funcs.length:Int))) ?_
 refine Z1 nt ?_
 refine Z1 mo ?_
 refine Z4 (fun hC=>fa 11) ?_
 refine Z4 (fun hC=>ld) ?_
 refine Z4 (fun hC=>mo) ?_
 refine aW (R:=[]) rfl rfl rfl eV (fun hC=>by
  have hr:=alH (l:=t.funcs) (n:=f) (by simpa using hC)
  exact mM (j:=f.toNat) rfl rfl rfl (by kernel_rfl) (by omega) (by omega) rfl) (fun hC=>⟨(by first|rfl|exact hC|(simp only [Bool.and_eq_true] at hC;first|exact hC.1|exact hC.1.1|exact hC.2)|simp_all),(by first|rfl|exact hC|(simp only [Bool.and_eq_true] at hC;first|exact hC.1|exact hC.1.1|exact hC.2)|simp_all),trivial⟩) trivial ?_
 refine Z4 (fun hC=>ld) ?_
 refine Z4 (fun hC=>fa 13) ?_
 refine Z4 (fun hC=>ld) ?_
 refine Z4 (fun hC=>ln) ?_
 refine Z4 (fun hC=>ca (oS (t.funcs.getD f.toNat 0) 0 (t.params.length:Int))) ?_
 refine Z4 (fun hC=>nt) ?_
 refine Z1 cC ?_
 refine cn (dn ?_)
 refine cd (fun hb=>?_) fun hb=>?_
 ·have hn:¬ (mG f 0 (t.funcs.length:Int)=true∧mG (nW t.funcs f) 0 (t.params.length:Int)=true):=by
   rintro ⟨h1,h2⟩
   unfold nW at h2
   rw [h1,h2] at hb
   cases hb
  refine sq ?_
  refine Z1 aB ?_
  refine cn ?_
  refine aP ?_
  exact ⟨.inl rfl,aF.tmp rfl (aR (by unfold aBN;rw [if_neg hn])),trivial⟩
 ·have hy:mG f 0 (t.funcs.length:Int)=true∧mG (nW t.funcs f) 0 (t.params.length:Int)=true:=by
   unfold nW
   simpa using hb
  have hr1:=yY.1 hy.1
  have hr2:0≤t.funcs.getD f.toNat 0∧t.funcs.getD f.toNat 0<(t.params.length:Int):=yY.1 hy.2
  refine aQ ?_
  refine aD ?_
  refine dw ?_
  refine Z1 (fa 13) ?_
  refine Z1 ld ?_
  refine Z1 (fa 11) ?_
  refine Z1 ld ?_
  refine Z1 mo ?_
  refine Z1 (mM (j:=f.toNat) rfl rfl rfl (by kernel_rfl) (by omega) (by omega) rfl) ?_
  refine Z1 ld ?_
  refine Z1 (mM (j:=(t.funcs.getD f.toNat 0).toNat) rfl rfl rfl (by kernel_rfl) (by omega) (by omega) rfl) ?_
  refine Z1 ld ?_
  refine Z1 aB ?_
  refine cn (dn ?_)
  refine aP ?_
  exact ⟨.inl rfl,aF.tmp rfl (aR (by unfold aBN;rw [if_pos hy];rfl)),trivial⟩
theorem alN {t:TabP}{x:bK}(h1:¬ x.1∈[(8:Int),14,17])(h2:¬ x.1∈[(2:Int),4,6,9,10,11,12,13,15,16,18,19,20,22,23,25,27,31,32,34,36])(h3:x.1=26):aBN t x.2=jM t x:=by
 unfold aBN jM
 rw [if_neg h1,if_neg h2]
 by_cases h:x.2<0∨x.2≥(t.funcs.length:Int)
 ·rw [if_neg (fun hc=>by have:=yY.1 hc.1;omega),if_pos (by omega)]
 ·rw [if_neg (show ¬ (x.1≠26∨x.2<0∨x.2≥(t.funcs.length:Int)) by omega)]
  by_cases h5:nW t.funcs x.2<0∨nW t.funcs x.2≥(t.params.length:Int)
  ·rw [if_neg (fun hc=>by have:=yY.1 hc.2;omega),if_pos h5]
  ·rw [if_pos ⟨yY.2 (by omega),yY.2 (by omega)⟩,if_neg h5]
theorem alO {t:TabP}{x:bK}(h1:¬ x.1∈[(8:Int),14,17])(h2:¬ x.1∈[(2:Int),4,6,9,10,11,12,13,15,16,18,19,20,22,23,25,27,31,32,34,36])(h3:¬ x.1=26):0=jM t x:=by
 unfold jM
 rw [if_neg h1,if_neg h2,if_pos (.inl h3)]
theorem alP (t:TabP)(x:bK)(hf:t.funcs.length≤140737488355328)(hp:t.params.length≤140737488355328):PC Tryz.prog 179 [bR t,iV x] (vi (jM t x)):=by
 refine FC.body 2 23 Tryz.func179 rfl (by kernel_rfl) ?_
 refine W ?_
 refine Z1 (OC.to (fO (ps:=[_,_,_]) (xs:=[.val _,.val _,.val _]) (e:=3) (k:=1) (by_:=8) (zs:=[.int .i64 0]) rfl (by kernel_rfl) (by kernel_rfl) rfl rfl rfl (by decide) (by decide)) (aAB [(8:Int),14,17])) ?_
 refine Z1 (ca (aDJ x.1 [(8:Int),14,17] (by decide))) ?_
 refine W ?_
 refine cd (fun hb=>?_) fun hb=>?_
 ·have h1:x.1∈[(8:Int),14,17]:=of_decide_eq_true hb
  refine W ?_
  exact ⟨.inl rfl,aF.tmp rfl (aR (by unfold jM;rw [if_pos h1])),trivial⟩
 ·have h1:¬ x.1∈[(8:Int),14,17]:=of_decide_eq_false hb
  refine W ?_
  refine Z1 (OC.to (fO (ps:=[_,_,_,_,_,_,_,_,_,_,_,_,_,_,_,_,_,_,_,_,_]) (xs:=[.val _,.val _,.val _,.val _,.val _,.val _,.val _,.val _,.val _,.val _,.val _,.val _,.val _,.val _,.val _,.val _,.val _,.val _,.val _,.val _,.val _]) (e:=3) (k:=1) (by_:=8) (zs:=[.int .i64 0]) rfl (by kernel_rfl) (by kernel_rfl) rfl rfl rfl (by decide) (by decide)) (aAB [(2:Int),4,6,9,10,11,12,13,15,16,18,19,20,22,23,25,27,31,32,34,36])) ?_
  refine Z1 (ca (aDJ x.1 [(2:Int),4,6,9,10,11,12,13,15,16,18,19,20,22,23,25,27,31,32,34,36] (by decide))) ?_
  refine W ?_
  refine cd (fun hb=>?_) fun hb=>?_
  ·have h2:x.1∈[(2:Int),4,6,9,10,11,12,13,15,16,18,19,20,22,23,25,27,31,32,34,36]:=of_decide_eq_true hb
   refine W ?_
   exact ⟨.inl rfl,aF.tmp rfl (aR (by unfold jM;rw [if_neg h1,if_pos h2])),trivial⟩
  ·have h2:¬ x.1∈[(2:Int),4,6,9,10,11,12,13,15,16,18,19,20,22,23,25,27,31,32,34,36]:=of_decide_eq_false hb
   refine W ?_
   refine cd (fun hb=>?_) fun hb=>?_
   ·have h3:x.1=26:=by simpa using hb
    refine W ?_
    refine Z1 (ca (alM t x.2 hf hp)) ?_
    refine W ?_
    exact ⟨.inl rfl,aF.tmp rfl (aR (alN h1 h2 h3)),trivial⟩
   ·have h3:¬ x.1=26:=by simpa using hb
    refine W ?_
    exact ⟨.inl rfl,aF.tmp rfl (aR (alO h1 h2 h3)),trivial⟩
theorem tK {t:TabP}{x:bK}{lo hi h':Int}(h1:¬ (x.1=1∨x.1=24∨x.1=25))(h2:¬ (x.1=12∨x.1=15∨x.1=16))(hp:(if x.1=3∨x.1=4 then ((0:Int),(t.globals.length:Int)-1) else if x.1=5∨x.1=6 then (0,23) else if x.1=7 then (1,6) else if x.1=8 then (3,14) else if x.1=19 then (1,3) else if x.1=13∨x.1=14 then (0,(t.props.length:Int)-1) else if x.1=21 then (0,(t.texts.length:Int)-1) else if x.1=26 then (0,(t.funcs.length:Int)-1) else if x.1=32∨x.1=33 then (0,(t.daemons.length:Int)-1) else (0,0))=(lo,hi))(hc:1≤x.1∧x.1<38)(hh:h'=hi+1):mG x.2 lo h'=oZ t x:=by
 unfold oZ
 rw [if_neg h1,if_neg h2]
 simp only [hp]
 unfold mG
 rw [decide_eq_true (show x.1≥1 from hc.1),decide_eq_true hc.2,Bool.true_and,Bool.true_and,hh]
 congr 1
 rw [decide_eq_decide]
 omega
theorem alQ {t:TabP}{x:bK}(h1:¬ (x.1=1∨x.1=24∨x.1=25))(h2:¬ (x.1=12∨x.1=15∨x.1=16))(h38:¬ x.1=38)(h3:¬ (x.1=3∨x.1=4))(h5:¬ (x.1=5∨x.1=6))(h7:¬ x.1=7)(h8:¬ x.1=8)(h19:¬ x.1=19)(h13:¬ (x.1=13∨x.1=14))(h21:¬ x.1=21)(h26:¬ x.1=26)(h32:¬ (x.1=32∨x.1=33)):((decide (x.1≥1)&&decide (x.1≤38))&&(x.2==0))=oZ t x:=by
 unfold oZ
 rw [if_neg h1,if_neg h2]
 simp only [if_neg h3,if_neg h5,if_neg h7,if_neg h8,if_neg h19,if_neg h13,if_neg h21,if_neg h26,if_neg h32]
 rw [Bool.eq_iff_iff]
 simp only [Bool.and_eq_true,decide_eq_true_eq,beq_iff_eq]
 omega
theorem alR (t:TabP)(x:bK):PC Tryz.prog 178 [bR t,iV x] (vb (oZ t x)):=by
 refine FC.body 2 97 Tryz.func178 rfl (by kernel_rfl) ?_
 refine W ?_
 refine cd (fun hb=>?_) fun hb=>?_
 ·have k38:x.1=38:=by simpa using hb
  refine W ?_
  exact ⟨.inl rfl,aF.tmp rfl (bP (by unfold oZ;rw [if_neg (by omega),if_neg (by omega),decide_eq_false (show ¬ x.1<38 by omega),Bool.and_false,Bool.false_and])),trivial⟩
 ·have k38:¬ x.1=38:=by simpa using hb
  refine aD ?_
  refine sq ?_
  refine V ?_
  refine rM (τ:=⟨[(2,.ptr (bR t)),(3,.ptr (iV x)),(6,vi x.1),(9,vb ((x.1==1||((x.1==24||(x.1==25))))))],[]⟩) ?_ ?_
  ·refine cd (fun hb=>?_) fun hb=>?_
   ·refine W ?_
    exact Le.sub ⟨.inr rfl,.inr rfl,.inr rfl,.inr (bP (by first|(rw [q0,q1,Bool.false_or,Bool.false_or];done)|simp_all)),trivial⟩ trivial
   ·have q0:(x.1==1)=false:=hb
    refine W ?_
    refine cd (fun hb=>?_) fun hb=>?_
    ·refine W ?_
     exact Le.sub ⟨.inr rfl,.inr rfl,.inr rfl,.inr (bP (by first|(rw [q0,q1,Bool.false_or,Bool.false_or];done)|simp_all)),trivial⟩ trivial
    ·have q1:(x.1==24)=false:=hb
     refine W ?_
     exact Le.sub ⟨.inr rfl,.inr rfl,.inr rfl,.inr (bP (by first|(rw [q0,q1,Bool.false_or,Bool.false_or];done)|simp_all)),trivial⟩ trivial
  ·refine cd (fun hb=>?_) fun hb=>?_
   ·have k1:x.1=1∨x.1=24∨x.1=25:=by simpa using hb
    refine W ?_
    refine Z1 (ca (alI x.2)) ?_
    refine W ?_
    exact ⟨.inl rfl,aF.tmp rfl (bP (by unfold oZ;rw [if_pos k1])),trivial⟩
   ·have k1:¬ (x.1=1∨x.1=24∨x.1=25):=by simpa using hb
    refine aD ?_
    refine sq ?_
    refine V ?_
    refine rM (τ:=⟨[(2,.ptr (bR t)),(3,.ptr (iV x)),(6,vi x.1),(16,vb ((x.1==3||(x.1==4))))],[]⟩) ?_ ?_
    ·refine cd (fun hb=>?_) fun hb=>?_
     ·refine W ?_
      exact Le.sub ⟨.inr rfl,.inr rfl,.inr rfl,.inr (bP (by first|(rw [q0,q1,Bool.false_or,Bool.false_or];done)|simp_all)),trivial⟩ trivial
     ·refine W ?_
      exact Le.sub ⟨.inr rfl,.inr rfl,.inr rfl,.inr (bP (by first|(rw [q0,q1,Bool.false_or,Bool.false_or];done)|simp_all)),trivial⟩ trivial
    ·refine cd (fun hb=>?_) fun hb=>?_
     ·have k3:x.1=3∨x.1=4:=by simpa using hb
      refine W ?_
      refine Z1 (ca (oS x.2 0 (t.globals.length:Int))) ?_
      refine W ?_
      exact ⟨.inl rfl,aF.tmp rfl (bP (by exact tK (lo:=0) (hi:=(t.globals.length:Int)-1) k1 (by omega) (by rw [if_pos k3]) (by omega) (by omega))),trivial⟩
     ·have k3:¬ (x.1=3∨x.1=4):=by simpa using hb
      refine aD ?_
      refine sq ?_
      refine V ?_
      refine rM (τ:=⟨[(2,.ptr (bR t)),(3,.ptr (iV x)),(6,vi x.1),(25,vb ((x.1==5||(x.1==6))))],[]⟩) ?_ ?_
      ·refine cd (fun hb=>?_) fun hb=>?_
       ·refine W ?_
        exact Le.sub ⟨.inr rfl,.inr rfl,.inr rfl,.inr (bP (by first|(rw [q0,q1,Bool.false_or,Bool.false_or];done)|simp_all)),trivial⟩ trivial
       ·refine W ?_
        exact Le.sub ⟨.inr rfl,.inr rfl,.inr rfl,.inr (bP (by first|(rw [q0,q1,Bool.false_or,Bool.false_or];done)|simp_all)),trivial⟩ trivial
      ·refine cd (fun hb=>?_) fun hb=>?_
       ·have k5:x.1=5∨x.1=6:=by simpa using hb
        refine W ?_
        refine Z1 (ca (oS x.2 0 24)) ?_
        refine W ?_
        exact ⟨.inl rfl,aF.tmp rfl (bP (by exact tK (lo:=0) (hi:=23) k1 (by omega) (by rw [if_neg (by omega),if_pos k5]) (by omega) (by omega))),trivial⟩
       ·have k5:¬ (x.1=5∨x.1=6):=by simpa using hb
        refine W ?_
        refine cd (fun hb=>?_) fun hb=>?_
        ·have k7:x.1=7:=by simpa using hb
         refine W ?_
         refine Z1 (ca (oS x.2 1 7)) ?_
         refine W ?_
         exact ⟨.inl rfl,aF.tmp rfl (bP (by exact tK (lo:=1) (hi:=6) k1 (by omega) (by rw [if_neg (by omega),if_neg (by omega),if_pos k7]) (by omega) (by omega))),trivial⟩
        ·have k7:¬ (x.1=7):=by simpa using hb
         refine W ?_
         refine cd (fun hb=>?_) fun hb=>?_
         ·have k19:x.1=19:=by simpa using hb
          refine W ?_
          refine Z1 (ca (oS x.2 1 4)) ?_
          refine W ?_
          exact ⟨.inl rfl,aF.tmp rfl (bP (by exact tK (lo:=1) (hi:=3) k1 (by omega) (by rw [if_neg (by omega),if_neg (by omega),if_neg (by omega),if_neg (by omega),if_pos k19]) (by omega) (by omega))),trivial⟩
         ·have k19:¬ (x.1=19):=by simpa using hb
          refine W ?_
          refine cd (fun hb=>?_) fun hb=>?_
          ·have k8:x.1=8:=by simpa using hb
           refine W ?_
           refine Z1 (ca (oS x.2 3 15)) ?_
           refine W ?_
           exact ⟨.inl rfl,aF.tmp rfl (bP (by exact tK (lo:=3) (hi:=14) k1 (by omega) (by rw [if_neg (by omega),if_neg (by omega),if_neg (by omega),if_pos k8]) (by omega) (by omega))),trivial⟩
          ·have k8:¬ (x.1=8):=by simpa using hb
           refine aD ?_
           refine sq ?_
           refine V ?_
           refine rM (τ:=⟨[(2,.ptr (bR t)),(3,.ptr (iV x)),(6,vi x.1),(46,vb ((x.1==12||((x.1==15||(x.1==16))))))],[]⟩) ?_ ?_
           ·refine cd (fun hb=>?_) fun hb=>?_
            ·refine W ?_
             exact Le.sub ⟨.inr rfl,.inr rfl,.inr rfl,.inr (bP (by first|(rw [q0,q1,Bool.false_or,Bool.false_or];done)|simp_all)),trivial⟩ trivial
            ·have q0:(x.1==12)=false:=hb
             refine W ?_
             refine cd (fun hb=>?_) fun hb=>?_
             ·refine W ?_
              exact Le.sub ⟨.inr rfl,.inr rfl,.inr rfl,.inr (bP (by first|(rw [q0,q1,Bool.false_or,Bool.false_or];done)|simp_all)),trivial⟩ trivial
             ·have q1:(x.1==15)=false:=hb
              refine W ?_
              exact Le.sub ⟨.inr rfl,.inr rfl,.inr rfl,.inr (bP (by first|(rw [q0,q1,Bool.false_or,Bool.false_or];done)|simp_all)),trivial⟩ trivial
           ·refine cd (fun hb=>?_) fun hb=>?_
            ·have k12:x.1=12∨x.1=15∨x.1=16:=by simpa using hb
             refine W ?_
             refine Z1 (ca (oS x.2 0 t.flags)) ?_
             refine W ?_
             exact ⟨.inl rfl,aF.tmp rfl (bP (by unfold oZ mG;rw [if_neg k1,if_pos k12])),trivial⟩
            ·have k12:¬ (x.1=12∨x.1=15∨x.1=16):=by simpa using hb
             refine aD ?_
             refine sq ?_
             refine V ?_
             refine rM (τ:=⟨[(2,.ptr (bR t)),(3,.ptr (iV x)),(6,vi x.1),(55,vb ((x.1==13||(x.1==14))))],[]⟩) ?_ ?_
             ·refine cd (fun hb=>?_) fun hb=>?_
              ·refine W ?_
               exact Le.sub ⟨.inr rfl,.inr rfl,.inr rfl,.inr (bP (by first|(rw [q0,q1,Bool.false_or,Bool.false_or];done)|simp_all)),trivial⟩ trivial
              ·refine W ?_
               exact Le.sub ⟨.inr rfl,.inr rfl,.inr rfl,.inr (bP (by first|(rw [q0,q1,Bool.false_or,Bool.false_or];done)|simp_all)),trivial⟩ trivial
             ·refine cd (fun hb=>?_) fun hb=>?_
              ·have k13:x.1=13∨x.1=14:=by simpa using hb
               refine W ?_
               refine Z1 (ca (oS x.2 0 (t.props.length:Int))) ?_
               refine W ?_
               exact ⟨.inl rfl,aF.tmp rfl (bP (by exact tK (lo:=0) (hi:=(t.props.length:Int)-1) k1 (by omega) (by rw [if_neg (by omega),if_neg (by omega),if_neg (by omega),if_neg (by omega),if_neg (by omega),if_pos k13]) (by omega) (by omega))),trivial⟩
              ·have k13:¬ (x.1=13∨x.1=14):=by simpa using hb
               refine W ?_
               refine cd (fun hb=>?_) fun hb=>?_
               ·have k21:x.1=21:=by simpa using hb
                refine W ?_
                refine Z1 (ca (oS x.2 0 (t.texts.length:Int))) ?_
                refine W ?_
                exact ⟨.inl rfl,aF.tmp rfl (bP (by exact tK (lo:=0) (hi:=(t.texts.length:Int)-1) k1 (by omega) (by rw [if_neg (by omega),if_neg (by omega),if_neg (by omega),if_neg (by omega),if_neg (by omega),if_neg (by omega),if_pos k21]) (by omega) (by omega))),trivial⟩
               ·have k21:¬ (x.1=21):=by simpa using hb
                refine W ?_
                refine cd (fun hb=>?_) fun hb=>?_
                ·have k26:x.1=26:=by simpa using hb
                 refine W ?_
                 refine Z1 (ca (oS x.2 0 (t.funcs.length:Int))) ?_
                 refine W ?_
                 exact ⟨.inl rfl,aF.tmp rfl (bP (by exact tK (lo:=0) (hi:=(t.funcs.length:Int)-1) k1 (by omega) (by rw [if_neg (by omega),if_neg (by omega),if_neg (by omega),if_neg (by omega),if_neg (by omega),if_neg (by omega),if_neg (by omega),if_pos k26]) (by omega) (by omega))),trivial⟩
                ·have k26:¬ (x.1=26):=by simpa using hb
                 refine aD ?_
                 refine sq ?_
                 refine V ?_
                 refine rM (τ:=⟨[(2,.ptr (bR t)),(3,.ptr (iV x)),(6,vi x.1),(80,vb ((x.1==32||(x.1==33))))],[]⟩) ?_ ?_
                 ·refine cd (fun hb=>?_) fun hb=>?_
                  ·refine W ?_
                   exact Le.sub ⟨.inr rfl,.inr rfl,.inr rfl,.inr (bP (by first|(rw [q0,q1,Bool.false_or,Bool.false_or];done)|simp_all)),trivial⟩ trivial
                  ·refine W ?_
                   exact Le.sub ⟨.inr rfl,.inr rfl,.inr rfl,.inr (bP (by first|(rw [q0,q1,Bool.false_or,Bool.false_or];done)|simp_all)),trivial⟩ trivial
                 ·refine cd (fun hb=>?_) fun hb=>?_
                  ·have k32:x.1=32∨x.1=33:=by simpa using hb
                   refine W ?_
                   refine Z1 (ca (oS x.2 0 (t.daemons.length:Int))) ?_
                   refine W ?_
                   exact ⟨.inl rfl,aF.tmp rfl (bP (by exact tK (lo:=0) (hi:=(t.daemons.length:Int)-1) k1 (by omega) (by rw [if_neg (by omega),if_neg (by omega),if_neg (by omega),if_neg (by omega),if_neg (by omega),if_neg (by omega),if_neg (by omega),if_neg (by omega),if_pos k32]) (by omega) (by omega))),trivial⟩
                  ·have k32:¬ (x.1=32∨x.1=33):=by simpa using hb
                   refine W ?_
                   refine Z1 (ca (aPW x.1)) ?_
                   refine W ?_
                   exact ⟨.inl rfl,aF.tmp rfl (bP (alQ k1 k12 k38 k3 k5 k7 k8 k19 k13 k21 k26 k32)),trivial⟩
theorem aFL {p q:Int × Int}(h:p=q):Av.tup [vi p.1,vi p.2]=.tup [vi q.1,vi q.2]:=by rw [h]
theorem aUU (x:bK):0≤lQ x∧lQ x≤1:=by unfold lQ;split<;>omega
theorem ab1 (t:TabP)(x:bK)(h:Int)(is_:Bool)(hf:t.funcs.length≤140737488355328)(hp:t.params.length≤140737488355328)(hh:-1000000≤h∧h≤1000000):PC Tryz.prog 147 [bR t,iV x,vi h,vb is_] (.tup [vi (gS t x h is_).1,vi (gS t x h is_).2]):=by
 have hpb:=aUU x
 refine FC.body 2 58 Tryz.func147 rfl (by kernel_rfl) ?_
 refine sq ?_
 refine Z1 bx ?_
 refine Z1 bx ?_
 refine Z1 aB ?_
 refine Z1 aB ?_
 refine cn ?_
 refine aD ?_
 refine sq ?_
 refine Z1 (fa 0) ?_
 refine Z1 ld ?_
 refine Z1 bz ?_
 refine cn ?_
 refine cd (fun hb=>?_) fun hb=>?_
 ·have k1:x.1=38:=by simpa using hb
  refine sq ?_
  refine Z1 mo ?_
  refine Z1 aB ?_
  refine Z1 aB ?_
  refine cn ?_
  refine aP ?_
  exact ⟨.inl rfl,by rw [aFL (show gS t x h is_=(h,0) from if_pos k1)];exact aF.two rfl (aT.tmp rfl) (aT.tmp rfl),trivial⟩
 ·have k1:¬ x.1=38:=by simpa using hb
  refine aQ ?_
  refine aD ?_
  refine sq ?_
  refine Z1 lr ?_
  refine Z1 lr ?_
  refine Z1 (ca (alR t x)) ?_
  refine Z1 nt ?_
  refine Z1 mo ?_
  refine Z4 (fun hC=>lr) ?_
  refine Z4 (fun hC=>ca (aPV x)) ?_
  refine Z4 (fun hC=>mo) ?_
  refine Z4 (fun hC=>mo) ?_
  refine Z4 (fun hC=>nt) ?_
  refine Z5 ?_
  refine Z1 cC ?_
  refine cn ?_
  refine cd (fun hb=>?_) fun hb=>?_
  ·have k2:oZ t x=false∨(x.1=24∨x.1=25)∧is_=false:=by simpa using hb
   refine sq ?_
   refine Z1 aB ?_
   refine Z1 aB ?_
   refine cn ?_
   refine aP ?_
   exact ⟨.inl rfl,by rw [aFL (show gS t x h is_=(0,16) by unfold gS;rw [if_neg k1,if_pos k2])];exact aF.two rfl (aT.tmp rfl) (aT.tmp rfl),trivial⟩
  ·have k2:¬ (oZ t x=false∨(x.1=24∨x.1=25)∧is_=false):=by
    rintro (h1|⟨h1,h2⟩)
    ·rw [h1] at hb;cases hb
    ·rw [h2] at hb
     rcases h1 with h1|h1<;>simp [h1] at hb
   refine aQ ?_
   refine aD ?_
   refine dw ?_
   refine Z1 lr ?_
   refine Z1 lr ?_
   refine Z1 (ca (alP t x hf hp)) ?_
   refine Z1 lr ?_
   refine Z1 (ca (alL x)) ?_
   refine Z1 aB ?_
   refine Z1 aB ?_
   refine cn (dn ?_)
   refine aD ?_
   refine sq ?_
   refine Z1 mo ?_
   refine Z1 mo ?_
   refine Z1 bz ?_
   refine Z1 mo ?_
   refine Z4 (fun hC=>fa 0) ?_
   refine Z4 (fun hC=>ld) ?_
   refine Z4 (fun hC=>bz) ?_
   refine Z4 (fun hC=>mo) ?_
   refine Z4 (fun hC=>mo) ?_
   refine Z4 (fun hC=>bz) ?_
   refine Z5 ?_
   refine Z1 cC ?_
   refine Z1 mo ?_
   refine Z4 (fun hC=>mo) ?_
   refine Z4 (fun hC=>mo) ?_
   refine Z4 (fun hC=>mo) ?_
   refine Z4 (fun hC=>ba) ?_
   refine Z4 (fun hC=>iP) ?_
   refine Z4 (fun hC=>bz) ?_
   refine Z1 cC ?_
   refine cn ?_
   refine cd (fun hb=>?_) fun hb=>?_
   ·have k3:h<jM t x∨x.1=27∧h≠1∨jM t x<h+lQ x-256:=by
     simp only [Bool.or_eq_true,Bool.and_eq_true,decide_eq_true_eq,beq_iff_eq,bne_iff_ne,ne_eq] at hb
     rcases hb with (h1|h1)|h1
     ·exact .inl h1
     ·exact .inr (.inl h1)
     ·exact .inr (.inr h1)
    refine sq ?_
    refine Z1 aB ?_
    refine Z1 aB ?_
    refine cn ?_
    refine aP ?_
    exact ⟨.inl rfl,by rw [aFL (show gS t x h is_=(0,17) by unfold gS;rw [if_neg k1,if_neg k2,if_pos k3])];exact aF.two rfl (aT.tmp rfl) (aT.tmp rfl),trivial⟩
   ·have k3:¬ (h<jM t x∨x.1=27∧h≠1∨jM t x<h+lQ x-256):=by
     simp only [Bool.or_eq_false_iff,Bool.and_eq_false_iff,decide_eq_false_iff_not,beq_eq_false_iff_ne,bne_eq_false_iff_eq,ne_eq] at hb
     rintro (h1|⟨h1,h2⟩|h1)
     ·exact hb.1.1 h1
     ·rcases hb.1.2 with h3|h3
      ·exact h3 h1
      ·exact h2 h3
     ·exact hb.2 h1
    refine aQ ?_
    refine sq ?_
    refine Z1 mo ?_
    refine Z1 mo ?_
    refine Z1 iP ?_
    refine Z1 mo ?_
    refine Z1 ba ?_
    refine Z1 aB ?_
    refine Z1 aB ?_
    refine cn ?_
    refine aP ?_
    exact ⟨.inl rfl,by rw [aFL (show gS t x h is_=(h-jM t x+lQ x,0) by unfold gS;rw [if_neg k1,if_neg k2,if_neg k3])];exact aF.two rfl (aT.tmp rfl) (aT.tmp rfl),trivial⟩
end Go.Proofs.YtnklgkjfoggpbaaGreatDoor
