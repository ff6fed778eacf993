/- Parts of the proof of a law of this seat: rules and contracts; no conditions. -/
import Derived.Test.YtnklgkjfoggpbaaGreatDoorLt
import Derived.Test.YtnklgkjfoggpbaaGreatDoorOl
import Derived.Test.YtnklgkjfoggpbaaGreatDoorGs
import Derived.Test.YtnklgkjfoggpbaaGreatDoorProg
import Derived.Lib.AppendZeros
import Derived.KernelRfl
set_option maxHeartbeats 6400000
set_option maxRecDepth 100000
set_option linter.unusedVariables false
set_option linter.unusedSimpArgs false
namespace Go.Proofs.YtnklgkjfoggpbaaGreatDoor
open Go.RowKit
section
variable {P:Program}{o:Oper}{x y:Av}{p q:Operand}{ρ:Operand→Av}{T:TypeId}
theorem faI {i:Nat}{cs:List Av}(ho:o.op=.fieldAddr T p i:=by rfl)(hp:ρ p=.ptr x:=by rfl)(hx:x=.agg cs:=by rfl)(hf:rR P T i=some (i,1,false):=by kernel_rfl)(hy:cs[i]?=some y:=by rfl):OC P o ρ [] (.ptr y) []:=aQ6 ho hp hx hf hy
end
structure Bx (R:Prop):Prop where
 out:R
theorem V {G R:Prop}(h:R)(w:Bx R→G:=by
 intro h
 repeat (first
  | refine Z1 mo ?_|refine Z1 aB ?_|refine cn ?_|refine Z1 ld ?_|refine Z1 faI ?_|refine Z4 (fun hC=>mo) ?_|refine Z1 ln ?_|refine Z1 lr ?_|refine Z1 ba ?_|refine Z1 iP ?_|refine Z1 bml ?_|refine Z1 bz ?_|refine Z1 ia ?_|refine Z1 bx ?_|refine Z1 ex ?_|refine Z1 an ?_|refine Z1 cC ?_|refine Z1 nt ?_|refine Z5 ?_|refine Z6 ?_
  | refine bG ?_|refine dO ?_|refine Z1 nc ?_|refine Z1 oG ?_|refine Z1 sT ?_|refine Z1 sK ?_|refine Z4 (fun hC=>ld) ?_|refine Z4 (fun hC=>faI) ?_|refine Z4 (fun hC=>bz) ?_|refine Z4 (fun hC=>ln) ?_|refine Z4 (fun hC=>nt) ?_)
 exact h.out):G:=w ⟨h⟩
theorem W {G R:Prop}(h:R)(w:Bx R→G:=by
 intro h
 repeat (first
  | refine Z1 mo ?_|refine Z1 aB ?_|refine cn ?_|refine sq ?_|refine Z1 ld ?_|refine Z1 faI ?_|refine Z4 (fun hC=>mo) ?_|refine Z1 ln ?_|refine Z1 lr ?_|refine Z1 ba ?_|refine Z1 iP ?_|refine Z1 bml ?_|refine Z1 bz ?_|refine Z1 ia ?_|refine tx ?_|refine Z1 bx ?_|refine Z1 ex ?_|refine Z1 an ?_|refine Z1 cC ?_|refine Z1 nt ?_|refine Z5 ?_|refine Z6 ?_
  | refine bG ?_|refine dO ?_|refine Z1 nc ?_|refine Z1 oG ?_|refine Z1 sT ?_|refine Z1 sK ?_|refine Z4 (fun hC=>ld) ?_|refine Z4 (fun hC=>faI) ?_|refine Z4 (fun hC=>bz) ?_|refine Z4 (fun hC=>ln) ?_|refine Z4 (fun hC=>nt) ?_|refine aQ ?_|refine bU ?_|refine aP ?_|refine aU ?_|refine aD ?_)
 exact h.out):G:=w ⟨h⟩
class Nn (cs:List Av):Prop where
 out:∀ Z:List Nat,∀ z∈cs,aE Z z
instance:Nn []:=⟨fun Z z h=>by cases h⟩
instance (x:Av) (cs:List Av) [a:Pu x] [b:Nn cs]:Nn (x::cs):=⟨fun Z z h=>by
 rcases List.mem_cons.1 h with rfl|h
 ·exact aE.of_pure _ a.out
 ·exact b.out Z z h⟩
instance {α:Type} (f:α→Av) (l:List α) [a:∀ u,Pu (f u)]:Nn (l.map f):=⟨fun Z z h=>by
 obtain ⟨u,_,rfl⟩:=List.mem_map.1 h
 exact aE.of_pure _ (a u).out⟩
instance (cs ds:List Av) [a:Nn cs] [b:Nn ds]:Nn (cs++ds):=⟨fun Z z h=>by
 rcases List.mem_append.1 h with h|h
 ·exact a.out Z z h
 ·exact b.out Z z h⟩
section
variable {N:Nat}{D:List Nat}{Γ τ:Ctx}
theorem LS (hs:wT Γ.s τ.s:=by repeat (first|exact trivial|refine ⟨.inr rfl,?_⟩|refine ⟨.inr (aR (by omega)),?_⟩))(hh:jU Γ.h τ.h:=by repeat (first|exact trivial|refine ⟨rfl,?_⟩)):Le N D Γ τ:=Le.sub hs hh
theorem LT (a b:Nat)(Z:List Nat)(ha:a∉D:=by simp)(hD:∀ n∈D,n∉Z:=by simp)(haZ:a∉Z:=by decide)(hbZ:b∈Z:=by decide)
 (hs:aEE a b Z Γ.s τ.s:=by repeat (first|exact trivial|refine ⟨qM rfl Pu.out,?_⟩|refine ⟨aIB,?_⟩|refine ⟨xR (by simp),?_⟩|refine ⟨aIA (by omega),?_⟩|refine ⟨gZ rfl (by simp [aE,dL]),?_⟩))
 (hh:aEF a b Z Γ.h τ.h:=by repeat (first|exact trivial|refine ⟨iD (by decide) (by decide),?_⟩|refine ⟨mF rfl (by first|exact Nn.out _|simp [aE]),?_⟩|refine ⟨iJ (by decide) (by decide) (by decide) rfl (by first|exact Nn.out _|simp [aE]),?_⟩|refine ⟨aDO (by decide) (by decide) (by decide) rfl,?_⟩|refine ⟨aP4 (by decide) (by decide) (by decide) rfl,?_⟩|refine ⟨aAA (by decide) (by decide) (by decide) rfl ⟨xR (by simp),trivial⟩,?_⟩)):Le N D Γ τ:=Le.turn a b Z ha hD haZ hbZ hs hh
theorem aAD {Z:List Nat}{η:List (Nat × Hs)}{n:Nat}(h:n∈Z):if n∈Z then Hs.unborn=.unborn else aL η n=some .unborn∧True:=by rw [if_pos h]
theorem sX {Z:List Nat}{η:List (Nat × Hs)}{n:Nat}{T:TypeId}{cs:List Av}(h:n∉Z)(h1:aL η n=some (.live T cs))(h2:∀ z∈cs,aE Z z):if n∈Z then Hs.live T cs=.unborn else aL η n=some (.live T cs)∧∀ z∈cs,aE Z z:=by rw [if_neg h];exact ⟨h1,h2⟩
theorem sW {Z:List Nat}{η:List (Nat × Hs)}{n:Nat}{y:Hs}(h:n∉Z)(h1:aL η n=some y):if n∈Z then y=.unborn else aL η n=some y∧True:=by rw [if_neg h];exact ⟨h1,trivial⟩
theorem LR (Z:List Nat)(hD:∀ n∈D,n∉Z:=by simp)(hs:wT Γ.s τ.s:=by repeat (first|exact trivial|refine ⟨.inr rfl,?_⟩|refine ⟨.inr (aR (by omega)),?_⟩))(hS:wR Z τ.s:=by repeat (first|exact trivial|refine ⟨aE.of_pure _ Pu.out,?_⟩|refine ⟨by simp [aE,dL],?_⟩))
 (hH:lK Γ.h Z τ.h:=by repeat (first|exact trivial|refine ⟨aAD (by decide),?_⟩|refine ⟨sX (by decide) rfl (by first|exact Nn.out _|simp [aE]),?_⟩|refine ⟨sW (by decide) rfl,?_⟩)):Le N D Γ τ:=Le.reset Z hD hs hS hH
end
def aK (l:List Int):Av:=.sl 1 l.length fun j=>vi (l.getD j 0)
def bB (l:List ByteArray):Av:=.sl 1 l.length fun j=>vs (l.getD j ByteArray.empty)
structure WayP where
 dir:Int
 goal:Int
 cond:Int
 els:Int
def dD:WayP:=⟨0,0,0,0⟩
def oQ (y:WayP):Av:=.agg [vi y.dir,vi y.goal,vi y.cond,vi y.els]
structure ThingP where
 title:Int
 text:Int
 parent:Int
 flags:Int
 room:Bool
 props:List Int
 words:List ByteArray
 adjs:List ByteArray
 ways:List WayP
def cY:ThingP:=⟨0,0,0,0,false,[],[],[],[]⟩
def kZ (l:List WayP):Av:=.sl 4 l.length fun j=>oQ (l.getD j dD)
def iT (x:ThingP):Av:=.agg [vi x.title,vi x.text,vi x.parent,vi x.flags,vb x.room,aK x.props,bB x.words,bB x.adjs,kZ x.ways]
structure SlotP where
 kind:Int
 words:List ByteArray
def cH:SlotP:=⟨0,[]⟩
def lJ (x:SlotP):Av:=.agg [vi x.kind,bB x.words]
def fQ (l:List SlotP):Av:=.sl 2 l.length fun j=>lJ (l.getD j cH)
structure VerbP where
 meta_:Bool
 lines:List (List SlotP)
def gO:VerbP:=⟨false,[]⟩
def lB (l:List (List SlotP)):Av:=.sl 1 l.length fun j=>fQ (l.getD j [])
def iC (x:VerbP):Av:=.agg [vb x.meta_,lB x.lines]
structure DeedP where
 verb:Int
 phase:Int
 noun:Int
 second:Int
 cond:Int
 body:Int
def fZ:DeedP:=⟨0,0,0,0,0,0⟩
def mT (x:DeedP):Av:=.agg [vi x.verb,vi x.phase,vi x.noun,vi x.second,vi x.cond,vi x.body]
structure TabP where
 title:Int
 by_:Int
 release:Int
 max:Int
 texts:List ByteArray
 flags:Int
 props:List Int
 globals:List Int
 things:List ThingP
 acts:List VerbP
 deeds:List DeedP
 funcs:List Int
 daemons:List Int
 params:List Int
 locals:List Int
def gA (l:List ThingP):Av:=.sl 9 l.length fun j=>iT (l.getD j cY)
def gB (l:List VerbP):Av:=.sl 2 l.length fun j=>iC (l.getD j gO)
def fY (l:List DeedP):Av:=.sl 6 l.length fun j=>mT (l.getD j fZ)
def bR (t:TabP):Av:=.agg [vi t.title,vi t.by_,vi t.release,vi t.max,bB t.texts,vi t.flags,aK t.props,aK t.globals,gA t.things,gB t.acts,fY t.deeds,aK t.funcs,aK t.daemons,aK t.params,aK t.locals]
structure WorldP where
 globals:List Int
 parent:List Int
 child:List Int
 next:List Int
 flags:List Int
 props:List Int
 timers:List Int
 seed:Int
 score:Int
 turns:Int
 over:Int
 it:Int
 go:Int
def WorldP.row (w:WorldP)(k:Nat):List Int:=[w.globals,w.parent,w.child,w.next,w.flags,w.props,w.timers].getD k []
theorem cP (l:List Int):aN (aK l):=by unfold aK;simp [aN]
theorem bV (l:List ByteArray):aN (bB l):=by unfold bB;simp [aN]
theorem eA (y:WayP):aN (oQ y):=by unfold oQ;simp [aN,bE]
theorem dZ (l:List WayP):aN (kZ l):=by unfold kZ;simp [aN,eA]
theorem dY (x:ThingP):aN (iT x):=by unfold iT;simp [aN,bE,cP,bV,dZ]
theorem eE (x:SlotP):aN (lJ x):=by unfold lJ;simp [aN,bE,bV]
theorem eC (l:List SlotP):aN (fQ l):=by unfold fQ;simp [aN,eE]
theorem eD (l:List (List SlotP)):aN (lB l):=by unfold lB;simp [aN,eC]
theorem eF (x:VerbP):aN (iC x):=by unfold iC;simp [aN,bE,eD]
theorem eG (x:DeedP):aN (mT x):=by unfold mT;simp [aN,bE]
theorem eH (l:List ThingP):aN (gA l):=by unfold gA;simp [aN,dY]
theorem eI (l:List VerbP):aN (gB l):=by unfold gB;simp [aN,eF]
theorem eJ (l:List DeedP):aN (fY l):=by unfold fY;simp [aN,eG]
theorem dG (t:TabP):aN (bR t):=by unfold bR;simp [aN,bE,cP,bV,eH,eI,eJ]
theorem dM {P:Program}{N:Nat}{D:List Nat}{c:Code}{Q:Exit→Ctx→Prop}{Γ:Ctx}{t:Nat}{x:Av}{φ:Prop}(hx:bN Γ.s t=x)(hφ:∀ E v,aA E x v→φ)(h:φ→AW P N D c Q Γ):AW P N D c Q Γ:=fun E a hF=>by
 have:=hF.holds.1 t
 rw [hx] at this
 exact h (hφ E _ this) E a hF
theorem eR {k n:Nat}{row:Nat→Av}(E:Env)(v:Value)(h:aA E (.sl k n row) v):n≤9223372036854775807:=by
 unfold aA at h
 obtain ⟨A,c,_,h1,h2,_⟩:=h
 unfold maxLen at h2
 omega
structure TabP.Few (t:TabP):Prop where
 texts:t.texts.length≤9223372036854775807
 things:t.things.length≤9223372036854775807
 acts:t.acts.length≤9223372036854775807
 deeds:t.deeds.length≤9223372036854775807
 funcs:t.funcs.length≤9223372036854775807
 daemons:t.daemons.length≤9223372036854775807
 params:t.params.length≤9223372036854775807
 locals:t.locals.length≤9223372036854775807
theorem aG.at_ {E:Env}{xs:List Av}{vs:List Value}(h:aG E xs vs)(i:Nat)(y:Av)(hy:xs[i]?=some y):∃ v,aA E y v:=by
 obtain ⟨u,_,h2⟩:=h.get i y hy
 exact ⟨u,h2⟩
theorem qO (t:TabP)(E:Env)(v:Value)(h:aA E (bR t) v):t.Few:=by
 unfold bR aA at h
 obtain ⟨vs,_,h,_⟩:=h
 have g:=fun i y hy=>h.at_ i y hy
 obtain ⟨_,h4⟩:=g 4 _ rfl
 obtain ⟨_,h8⟩:=g 8 _ rfl
 obtain ⟨_,h9⟩:=g 9 _ rfl
 obtain ⟨_,h10⟩:=g 10 _ rfl
 obtain ⟨_,h11⟩:=g 11 _ rfl
 obtain ⟨_,h12⟩:=g 12 _ rfl
 obtain ⟨_,h13⟩:=g 13 _ rfl
 obtain ⟨_,h14⟩:=g 14 _ rfl
 exact ⟨eR E _ h4,eR E _ h8,eR E _ h9,eR E _ h10,eR E _ h11,eR E _ h12,eR E _ h13,eR E _ h14⟩
def among (n lo hi:Int):Bool:=decide (lo≤n)&&decide (n≤hi)
theorem gH {n lo hi:Int}:among n lo hi=true↔lo≤n∧n≤hi:=by simp [among]
def pW (n:Int):Bool:=among n (-32768) 32767
def nW (l:List Int)(n:Int):Int:=l.getD n.toNat 0
def tG (t:TabP)(n:Int):Bool:=among n 0 ((t.params.length:Int)-1)&&(nW t.params n==0)
def wW (t:TabP)(n:Int):Bool:=among n 0 ((t.texts.length:Int)-1)
def qV (t:TabP)(n:Int):Bool:=among n 1 ((t.things.length:Int)-1)
def TabP.at_ (t:TabP)(n:Int):ThingP:=t.things.getD n.toNat cY
def aBH (t:TabP)(n:Int):Bool:=qV t n&&(t.at_ n).room
def tL (n:Int):Bool:=decide (97≤n)&&decide (n≤122)
def tM (n:Int):Bool:=decide (48≤n)&&decide (n≤57)
def uJ (n:Int):Bool:=(decide (32≤n)&&decide (n≤126))||n==10
theorem amH {s:ByteArray}{k:Nat}(h:k<s.size):(tB s)[k]?=some (s[k].toNat:Int):=by
 rw [List.getElem?_eq_getElem (by rw [fK];exact h),zD s k h]
theorem al9 {s:ByteArray}{k:Nat}(h:k<s.size):(s[k].toNat:Int)∈tB s:=List.mem_of_getElem? (amH h)
def qN (s:ByteArray):Bool:=(tB s).all uJ&&decide ((s.size:Int)≤1024)
def aLT (c:Int):Bool:=tL c||tM c||c==45||c==39
def yN (s:ByteArray):Bool:=decide (1≤(s.size:Int))&&decide ((s.size:Int)≤9)&&(tL ((tB s).getD 0 0)||tM ((tB s).getD 0 0))
def aE3 (s:ByteArray):Bool:=yN s&&(tB s).all aLT
theorem al7 (s:ByteArray):(decide ((s.size:Int)<1)||decide (9<(s.size:Int))||(!tL ((tB s).getD 0 0)&&!tM ((tB s).getD 0 0)))=!yN s:=by
 unfold yN
 cases tL ((tB s).getD 0 0)<;>cases tM ((tB s).getD 0 0)<;>simp<;>rw [Bool.eq_iff_iff]<;>simp<;>omega
instance (l:List Int):Pu (aK l):=⟨cP l⟩
instance (l:List ByteArray):Pu (bB l):=⟨bV l⟩
instance (y:WayP):Pu (oQ y):=⟨eA y⟩
instance (l:List WayP):Pu (kZ l):=⟨dZ l⟩
instance (x:ThingP):Pu (iT x):=⟨dY x⟩
instance (x:SlotP):Pu (lJ x):=⟨eE x⟩
instance (l:List SlotP):Pu (fQ l):=⟨eC l⟩
instance (l:List (List SlotP)):Pu (lB l):=⟨eD l⟩
instance (x:VerbP):Pu (iC x):=⟨eF x⟩
instance (x:DeedP):Pu (mT x):=⟨eG x⟩
instance (l:List ThingP):Pu (gA l):=⟨eH l⟩
instance (l:List VerbP):Pu (gB l):=⟨eI l⟩
instance (l:List DeedP):Pu (fY l):=⟨eJ l⟩
instance (t:TabP):Pu (bR t):=⟨dG t⟩
end Go.Proofs.YtnklgkjfoggpbaaGreatDoor
namespace Go.Proofs.YtnklgkjfoggpbaaGreatDoor
open Go.RowKit
theorem aKM {E:Env}{xs:List Int}{v:Value}(h:aA E (aK xs) v):∃ A c,v=.slice A xs.length c∧xs.length≤c∧c≤maxLen∧Rd E.w E.w.heap.size A (cb .i64 xs):=by
 unfold aK aA at h
 obtain ⟨A,c,h1,h2,h3,h4⟩:=h
 refine ⟨A,c,h1,h2,h3,fun hl=>?_⟩
 rw [mL] at hl
 obtain ⟨b,o,h5,h6,h7⟩:=h4 hl
 refine ⟨b,o,h5,h6.1,fun j u hu=>?_⟩
 have hj:j<xs.length:=by have:=(List.getElem?_eq_some_iff.1 hu).1;rwa [mL] at this
 obtain ⟨u',h8,h9,h10⟩:=h7 j hj
 unfold aA at h8
 subst h8
 have:=h10 0 (.int .i64 (xs.getD j 0)) (by simp [Value.cells])
 have hu':u=.int .i64 (xs.getD j 0):=by
  unfold cb at hu
  rw [List.getElem?_map,List.getElem?_eq_getElem hj] at hu
  simp at hu
  rw [←hu]
  simp [List.getD,hj]
 rw [hu']
 simpa using this
theorem aVA {E:Env}{xs:List Int}{A:Option Addr}{c:Nat}(h:0<xs.length→∃ b o,A=some ⟨b,o,none⟩∧E.ok b∧∀ j u,(cb .i64 xs)[j]?=some u→E.w.cell? ⟨b,o+j,none⟩=some u)(h1:xs.length≤c)(h2:c≤maxLen):aA E (aK xs) (.slice A xs.length c):=by
 unfold aK aA
 refine ⟨A,c,rfl,h1,h2,fun hl=>?_⟩
 obtain ⟨b,o,h3,h4,h5⟩:=h hl
 refine ⟨b,o,h3,h4,fun j hj=>⟨.int .i64 (xs.getD j 0),by unfold aA;rfl,rfl,fun i u hu=>?_⟩⟩
 have hi:i=0:=by
  cases i with
  | zero=>rfl
  | succ i=>simp [Value.cells] at hu
 subst hi
 simp [Value.cells] at hu
 subst hu
 have:=h5 j (.int .i64 (xs.getD j 0)) (by unfold cb;rw [List.getElem?_map,List.getElem?_eq_getElem hj];simp [List.getD,hj])
 simpa using this
theorem aB5 {E:Env}(hG:Good E){w':World}{e:TypeId}{A:Option Addr}{n c:Nat}{zs:List Int}(ho:bA w' E.w.heap.size e (.slice A n c) (cb .i64 zs))(hb:Below E.w.heap.size E.w w'):aA { E with w:=w' } (aK zs) (.slice A n c):=by
 obtain ⟨h1,h2,h3⟩:=ho.rd
 rw [mL] at h1
 subst h1
 rcases ho.2 with ⟨h4,_⟩|⟨g,cap,cur,h4,h5,h6,h7,h8,_⟩
 ·injection h4 with h4 h5 h6
  subst h6
  exact aVA (fun hl=>by omega) h2 (Nat.zero_le _)
 ·injection h4 with h4 h9 h10
  subst h10
  refine aVA (fun hl=>?_) h2 h8
  obtain ⟨b,o,h11,_,h12⟩:=h3 (by rwa [mL])
  rw [h4] at h11
  injection h11 with h11
  injection h11 with h11 h13
  subst h11;subst h13
  exact ⟨g,0,h4,⟨(Array.getElem?_eq_some_iff.1 h6).1,fun hbad=>by have:=hG.old g hbad;omega,fun n hn=>by have:=(hG.lt n g hn).1;omega⟩,h12⟩
theorem aA2 {f:FuncId}{e:TypeId}{u:Value}{xs zs:List Int}{P:Program}(h:∀ A c w,Rd w w.heap.size A (cb .u8 xs)→xs.length≤c→Calls P f #[.slice A xs.length c,u] w (kG w e (cb .u8 zs))):PC P f [bs xs,.val u] (bs zs):=by
 intro E vs hG hA _ _ _
 unfold aG aG aG at hA
 obtain ⟨v,us,rfl,hv,v',us',rfl,hv',rfl⟩:=hA
 obtain ⟨A,c,rfl,h1,_,h2⟩:=aBC hv
 unfold aA at hv'
 subst hv'
 refine (h A c E.w h2 h1).mono ?_
 rintro en w' ⟨B,n,cc,rfl,hown,hb⟩
 exact ⟨{ E with w:=w' },_,rfl,rfl,hG.grow hb,(Step.grow hG hb).kept (by simp),aKB hG hown hb,fun n y hn=>by simp [aL] at hn⟩
theorem aeY {f:FuncId}{e:TypeId}{xs ls zs:List Int}{P:Program}(h:∀ A c L d w,Rd w w.heap.size A (cb .u8 xs)→xs.length≤c→Rd w w.heap.size L (cb .i64 ls)→ls.length≤d→Calls P f #[.slice A xs.length c,.slice L ls.length d] w (kG w e (cb .u8 zs))):PC P f [bs xs,aK ls] (bs zs):=by
 intro E vs hG hA _ _ _
 unfold aG aG aG at hA
 obtain ⟨v,us,rfl,hv,v',us',rfl,hv',rfl⟩:=hA
 obtain ⟨A,c,rfl,h1,_,h2⟩:=aBC hv
 obtain ⟨L,d,rfl,h1',_,h2'⟩:=aKM hv'
 refine (h A c L d E.w h2 h1 h2' h1').mono ?_
 rintro en w' ⟨B,n,cc,rfl,hown,hb⟩
 exact ⟨{ E with w:=w' },_,rfl,rfl,hG.grow hb,(Step.grow hG hb).kept (by simp),aKB hG hown hb,fun n y hn=>by simp [aL] at hn⟩
def jV (xs:List Int)(s:Int × Int):Av:=.agg [bs xs,vi s.1,vi s.2]
theorem aEI {E:Env}{xs:List Int}{s:Int × Int}{v:Value}(h:aA E (jV xs s) v):∃ A c,v=.agg #[.slice A xs.length c,.int .i64 s.1,.int .i64 s.2]∧aA E (bs xs) (.slice A xs.length c)∧xs.length≤c∧Rd E.w E.w.heap.size A (cb .u8 xs):=by
 unfold jV aA at h
 obtain ⟨vs,rfl,h1,_⟩:=h
 unfold aG aG aG aG at h1
 obtain ⟨v,us,rfl,h2,v1,us1,rfl,h3,v2,us2,rfl,h4,rfl⟩:=h1
 obtain ⟨A,c,rfl,h5,_,h6⟩:=aBC h2
 unfold aA at h3 h4
 subst h3;subst h4
 exact ⟨A,c,rfl,h2,h5,h6⟩
theorem aJN {E:Env}{xs:List Int}{s:Int × Int}{A:Option Addr}{c:Nat}(h:aA E (bs xs) (.slice A xs.length c)):aA E (jV xs s) (.agg #[.slice A xs.length c,.int .i64 s.1,.int .i64 s.2]):=by
 unfold jV aA
 refine ⟨[_,_,_],rfl,?_,by simp [Value.oneCell']⟩
 unfold aG aG aG aG
 exact ⟨_,_,rfl,h,_,_,rfl,by unfold aA;rfl,_,_,rfl,by unfold aA;rfl,rfl⟩
theorem ae2 {f:FuncId}{xs:List Int}{s s':Int × Int}{u:Value}{P:Program}(h:∀ A c w,Rd w w.heap.size A (cb .u8 xs)→xs.length≤c→Calls P f #[.agg #[.slice A xs.length c,.int .i64 s.1,.int .i64 s.2]] w fun e w'=>e=.returned (.tuple #[u,.agg #[.slice A xs.length c,.int .i64 s'.1,.int .i64 s'.2]])∧Below w.heap.size w w'):PC P f [jV xs s] (.tup [.val u,jV xs s']):=by
 intro E vs hG hA _ _ _
 unfold aG aG at hA
 obtain ⟨v,us,rfl,hv,rfl⟩:=hA
 obtain ⟨A,c,rfl,h1,h2,h3⟩:=aEI hv
 refine (h A c E.w h3 h2).mono ?_
 rintro en w' ⟨rfl,hb⟩
 refine ⟨{ E with w:=w' },_,rfl,rfl,hG.grow hb,(Step.grow hG hb).kept (by simp),?_,fun n y hn=>by simp [aL] at hn⟩
 unfold aA
 refine ⟨[_,_],rfl,?_⟩
 unfold aG aG aG
 exact ⟨_,_,rfl,by unfold aA;rfl,_,_,rfl,aJN (aA.step (Step.grow hG hb) _ _ h1),rfl⟩
theorem ae8 {f:FuncId}{e:TypeId}{xs zs:List Int}{s s':Int × Int}{u:Value}{P:Program}(h:∀ A c w,Rd w w.heap.size A (cb .u8 xs)→xs.length≤c→Calls P f #[.agg #[.slice A xs.length c,.int .i64 s.1,.int .i64 s.2],u] w fun en w'=>∃ A' m' c',en=.returned (.tuple #[.slice A' m' c',.agg #[.slice A xs.length c,.int .i64 s'.1,.int .i64 s'.2]])∧bA w' w.heap.size e (.slice A' m' c') (cb .i64 zs)∧Below w.heap.size w w'):PC P f [jV xs s,.val u] (.tup [aK zs,jV xs s']):=by
 intro E vs hG hA _ _ _
 unfold aG aG aG at hA
 obtain ⟨v,us,rfl,hv,v',us',rfl,hv',rfl⟩:=hA
 obtain ⟨A,c,rfl,h1,h2,h3⟩:=aEI hv
 unfold aA at hv'
 subst hv'
 refine (h A c E.w h3 h2).mono ?_
 rintro en w' ⟨A',m',c',rfl,hown,hb⟩
 refine ⟨{ E with w:=w' },_,rfl,rfl,hG.grow hb,(Step.grow hG hb).kept (by simp),?_,fun n y hn=>by simp [aL] at hn⟩
 unfold aA
 refine ⟨[_,_],rfl,?_⟩
 unfold aG aG aG
 exact ⟨_,_,rfl,aB5 hG hown hb,_,_,rfl,aJN (aA.step (Step.grow hG hb) _ _ h1),rfl⟩
theorem afB {f:FuncId}{xs:List Int}{s:Int × Int}{u:Value}{P:Program}(h:∀ A c w,Calls P f #[.agg #[.slice A xs.length c,.int .i64 s.1,.int .i64 s.2]] w fun e w'=>e=.returned u∧Below w.heap.size w w'):PC P f [jV xs s] (.val u):=by
 intro E vs hG hA _ _ _
 unfold aG aG at hA
 obtain ⟨v,us,rfl,hv,rfl⟩:=hA
 obtain ⟨A,c,rfl,h1,h2,h3⟩:=aEI hv
 refine (h A c E.w).mono ?_
 rintro en w' ⟨rfl,hb⟩
 exact ⟨{ E with w:=w' },_,rfl,rfl,hG.grow hb,(Step.grow hG hb).kept (by simp),by unfold aA;rfl,fun n y hn=>by simp [aL] at hn⟩
section
variable {P:Program}{o:Oper}{x y:Av}{R U:List (Nat × Hs)}{ρ:Operand→Av}{p q:Operand}{T:TypeId}
def aLU (P:Program)(T:TypeId):Option (Nat × TypeId):=match P.underlying T with|some (.array n e)=>some (n,e)|_=>none
theorem amI {n:Nat}{e:TypeId}(h:aLU P T=some (n,e)):P.underlying T=some (.array n e):=by
 unfold aLU at h
 split at h
 ·injection h with h;injection h with h1 h2;subst h1;subst h2;assumption
 ·cases h
theorem aC9 {parts:List (Nat × Operand)}{k n by_:Nat}{e:TypeId}{zs ez:List Value}{ds:List Av}(ho:o.op=.build T parts.toArray)(hz:nT P T=some zs)(ha:zs.all rU=true)(hT:aLU P T=some (n,e))(hi:lW P e=some (k,by_,ez))(hp:yA (fun i=>some (i*k,k)) zs.length (parts.map fun ip=>(ip.1,ρ ip.2))=true)
 (hds:yB (fun i=>some (i*k,k)) (zs.map .val) (parts.map fun ip=>(ip.1,ρ ip.2))=ds):OC P o ρ [] (.agg ds) []:=bZ fun E a hG hr _=>by
 obtain ⟨ie,ze,j1,j2,j3,j4,j5⟩:=vK hi
 cases hi0:P.info? T with
 | none=>simp [nT,hi0] at hz
 | some i=>
  cases hz0:i.zero with
  | none=>simp [nT,hi0,hz0] at hz
  | some z=>
   simp [nT,hi0,hz0] at hz
   subst hz
   have hRC:tE E (z.cells.toList.map .val) z.cells:=⟨by simp,fun k y hy=>by
    rw [List.getElem?_map] at hy
    cases hk:z.cells.toList[k]? with
    | none=>simp [hk] at hy
    | some u=>
     simp [hk] at hy
     subst hy
     exact ⟨u,by simpa using hk,aA8 ((List.all_eq_true.1 ha) u (List.mem_of_getElem? hk)),by unfold aA;rfl⟩⟩
   obtain ⟨cells',h1,h2⟩:=aJ1 (a:=a) (N:=z.cells.toList.length) parts _ _ hRC (by simp) (fun ip hip=>hr ip.2 (by simp [ho,Op.operands];exact ⟨_,hip⟩)) (by simpa using hp)
   rw [hds] at h2
   refine ⟨.agg cells',?_,?_⟩
   ·have hfill:Instr.fill (fun i=>some (i*k,k)) z.cells ((parts.toArray.map fun (i,x)=>(i,a.eval x)).toList)=some cells':=by
     rw [←h1]
     congr 1
     simp
    unfold execOp
    simp only [ho,Instr.build,Sem.run_bind]
    have hzv:(zeroValue T).run P E.w=.ok z E.w:=by simp [zeroValue,typeInfo,hi0,hz0,Sem.run_bind]
    have hsz:(sizeOf e).run P E.w=.ok k E.w:=by simp [sizeOf,typeInfo,j1,j3,Sem.run_bind]
    simp only [hzv,Result.andThen_ok,run_underlying (amI hT),Sem.run_bind,hsz,Sem.run_pure,hfill]
   ·unfold aA
    refine ⟨cells'.toList,by simp,?_,?_⟩
    ·have gen:∀ (ds:List Av) (vs:List Value),ds.length=vs.length→(∀ (i:Nat) (y:Av),ds[i]?=some y→∃ u:Value,vs[i]?=some u∧aA E y u)→aG E ds vs:=by
      intro ds
      induction ds with
      | nil=>intro vs hl _;unfold aG;cases vs with|nil=>rfl|cons=>simp at hl
      | cons d ds ih=>
       intro vs hl hh
       cases vs with
       | nil=>simp at hl
       | cons v vs=>
        unfold aG
        refine ⟨v,vs,rfl,?_,ih vs (by simpa using hl) fun i y hy=>by simpa using hh (i+1) y (by simpa using hy)⟩
        obtain ⟨u,hu,h3⟩:=hh 0 d rfl
        simp at hu
        subst hu
        exact h3
     refine gen ds _ (by simpa using h2.1) fun i y hy=>?_
     obtain ⟨u,h3,h4,h5⟩:=h2.2 i y hy
     exact ⟨u,by simpa using h3,h5⟩
    ·intro u hu
     obtain ⟨i,hi',rfl⟩:=List.getElem_of_mem hu
     have hlt:i<ds.length:=by have:=h2.1;simp at hi';omega
     obtain ⟨u',h3,h4,h5⟩:=h2.2 i ds[i] (List.getElem?_eq_getElem hlt)
     have:cells'[i]?=some cells'.toList[i]:=by simp at hi' ⊢
     rw [this] at h3
     injection h3 with h3
     rw [h3];exact h4
end
instance (xs:List Int) (s:Int × Int):Pu (jV xs s):=⟨by unfold jV;exact Pu.out⟩
theorem sP {n:Nat}{p:Nat→Bool}(h:∀ j,j<n→p j=true):(List.range n).all p=true:=by
 rw [List.all_eq_true]
 intro x hx
 exact h x (List.mem_range.1 hx)
theorem nD {n k:Nat}{p:Nat→Bool}(h:k<n)(hp:p k=false):(List.range n).all p=false:=by
 rw [List.all_eq_false]
 exact ⟨k,List.mem_range.2 h,by simp [hp]⟩
theorem mC {k:Nat}{p:Nat→Bool}(h:∀ j,j<k→p j=true)(hp:p k=true):∀ j,j<k+1→p j=true:=fun j hj=>by
 rcases Nat.lt_or_ge j k with h1|h1
 ·exact h j h1
 ·obtain rfl:j=k:=by omega
  exact hp
theorem qF {p:Nat→Bool}:∀ j,j<0→p j=true:=fun j hj=>absurd hj (by omega)
theorem mN {c:Int}(h:-9223372036854775808≤c∧c<9223372036854775808):(Lit.int .i64 c).wf=true:=by
 have h2:IntKind.i64.min=-9223372036854775808:=rfl
 have h3:IntKind.i64.max=9223372036854775807:=rfl
 simp [Lit.wf,h2,h3]
 omega
theorem aUR (n:Int):(n==IntKind.i64.wrap (IntKind.i16.wrap n))=pW n:=by
 have h:=aQS n
 rw [i64_in _ (by omega) (by omega),h]
 unfold pW among
 rw [Bool.eq_iff_iff]
 simp
 omega
theorem aT4 {P:Program}{o:Oper}{a:Act}{w:World}{K K':Value→World→Prop}(h:eK P o a w K)(hk:∀ v w',K v w'→K' v w'):eK P o a w K':=by
 unfold eK at h ⊢
 generalize (execOp a.eval o).run P w=r at *
 cases r with
 | ok n w'=>
  cases n<;>simp only [fM] at h ⊢
  case value u=>exact hk _ _ h
  case skip=>exact hk _ _ h
  case enter f args=>exact h.mono fun e w'' ⟨v,he,hh⟩=>⟨v,he,hk _ _ hh⟩
 | halt x w'=>simp only [fM] at h
theorem OC.to {P:Program}{o:Oper}{ρ:Operand→Av}{R U:List (Nat × Hs)}{x y:Av}(h:OC P o ρ R x U)(hxy:∀ E v,aA E x v→aA E y v):OC P o ρ R y U:=fun E a hG hp hR=>aT4 (h E a hG hp hR) fun v w' ⟨E',h1,h2,h3,h4,h5⟩=>⟨E',h1,h2,h3,hxy _ _ h4,h5⟩
theorem amJ:(Tryz.prog.info? 5).map (fun i=>(i.zero,i.size,i.bytes))=some (some (.int .u8 0),1,1):=by kernel_rfl
theorem rE:Elem Tryz.prog 22 5 (.int .u8 0) 1:=⟨Tryz.underlying22,info_parts amJ,rfl⟩
theorem amK (n:Nat)(w:World)(hn:n≤1000000000):
 Calls Tryz.prog 189 #[.slice none 0 0,.int .i64 n] w fun e w'=>∃ A c,e=.returned (.slice A 0 c)∧bA w' w.heap.size 5 (.slice A 0 c) []∧Below w.heap.size w w':=by
 by_cases h0:n=0
 ·subst h0
  go_enter Tryz.func189,Tryz.ntmps189
  go_wp2
  go_ret
  exact ⟨none,0,rfl,bA.nil _ _ _,Below.refl _ _⟩
 ·have hp:0<n:=by omega
  go_enter Tryz.func189,Tryz.ntmps189
  go_wp2_with (at_builtin;refine adL rE Tryz.underlying3 rfl _ _ rfl rfl rfl hp (by omega) (by omega) ?_;intro A c w1 hown hb)
  go_ret
  exact ⟨A,c,rfl,by simpa using hown.take 0 (by omega),hb⟩
structure Part where
 A:Option Addr
 c:Nat
 xs:List Value
def Part.val (p:Part):Value:=.slice p.A p.xs.length p.c
def qX (ps:List Part):Nat:=(ps.map fun p=>p.xs.length).sum
theorem aLV (ps:List Part)(k:Nat)(h:k<ps.length):qX (ps.take (k+1))=qX (ps.take k)+ps[k].xs.length:=by
 unfold qX
 rw [List.take_succ_eq_append_getElem h,List.map_append,List.sum_append]
 simp
theorem aLW (ps:List Part)(k:Nat):qX (ps.take k)≤qX ps:=by
 unfold qX
 conv=>rhs;rw [←List.take_append_drop k ps]
 rw [List.map_append,List.sum_append]
 omega
theorem amL (ps:List Part)(k:Nat)(h:k<ps.length):(ps.take (k+1)).flatMap Part.xs=(ps.take k).flatMap Part.xs++ps[k].xs:=by
 rw [List.take_succ_eq_append_getElem h,List.flatMap_append]
 simp
theorem amM (ps:List Part):(ps.flatMap Part.xs).length=qX ps:=by
 unfold qX
 rw [List.length_flatMap]
theorem amN (ps:List Part)(A:Option Addr)(m c:Nat)(w:World)(hm:m=ps.length)(hr:Rd w w.heap.size A (ps.map Part.val))(hps:∀ p∈ps,Rd w w.heap.size p.A p.xs)(h1:∀ p∈ps,∀ u∈p.xs,u.oneCell'=true)(hl:qX ps≤1000000000)(hml:m≤1000000000):
 Calls Tryz.prog 160 #[.slice A m c] w (kG w 5 (ps.flatMap Part.xs)):=by
 subst hm
 go_enter Tryz.func160,Tryz.ntmps160
 go_wp2
 go_loop [3,11] (fun s i=>∃ k:Nat,k≤ps.length∧i=.int .i64 k∧s=.int .i64 (qX (ps.take k))) (fun _ i=>ps.length-(intOf i).toNat)
 case atStart=>exact ⟨0,by omega,rfl,rfl⟩
 case round=>
  obtain ⟨k,hk,rfl,rfl⟩:=hrel
  have hle:=aLW ps k
  by_cases hlt:k<ps.length
  ·obtain ⟨b,o,rfl,hb,hc⟩:=hr.get (k:=k) (by simp;omega)
   have hst:=Lib.hid (aLV ps k (by omega))
   have hle':=aLW ps (k+1)
   simp only [List.getElem_map,Part.val] at hc
   rw [aLV ps k (by omega)] at hle'
   go_wp2
   go_round
   case rel=>exact ⟨k+1,by omega,by go_num,by rw [hst.out];go_num⟩
   case measure=>simp [intOf];omega
  ·obtain rfl:k=ps.length:=by omega
   rw [List.take_length] at *
   go_wp2_with (go_at_call 189;refine (amK _ _ hl).mono ?_;rintro e w1 ⟨A1,c1,rfl,hown1,hb1⟩)
   have hr1:=hr.below hb1
   go_loopw [6,27] (fun s i w2=>∃ k A2 n2 c2,k≤ps.length∧i=.int .i64 (k:Nat)∧s=.slice A2 n2 c2∧bA w2 w.heap.size 5 (.slice A2 n2 c2) ((ps.take k).flatMap Part.xs)∧Below w.heap.size w w2) (fun _ i _=>ps.length-(intOf i).toNat)
   case atStart=>exact ⟨0,A1,0,c1,by omega,rfl,rfl,hown1,hb1⟩
   case round=>
    obtain ⟨k,A2,n2,c2,hk,rfl,rfl,hown,hbel⟩:=hrel
    by_cases hlt:k<ps.length
    ·have hr2:=hr.below hbel
     obtain ⟨b,o,rfl,hb,hc⟩:=hr2.get (k:=k) (by simp;omega)
     have hrk:=(hps ps[k] (List.getElem_mem hlt)).below hbel
     have hst:=aLV ps k hlt
     have hfl:=Lib.hid (amM (ps.take k))
     have hft:=Lib.hid (amL ps k hlt)
     have h1k:=h1 ps[k] (List.getElem_mem hlt)
     have hle':=aLW ps (k+1)
     rw [hst] at hle'
     clear hst
     simp only [List.getElem_map,Part.val] at hc
     have hsz:=hbel.size
     go_wp2_with (at_builtin;refine rD rE rfl _ _ rfl rfl hown rfl hrk rfl h1k (by rw [hfl.out];omega) (by rw [hfl.out];omega) hsz ?_;intro A3 n3 c3 w3 hown3 hg3)
     go_roundw
     case rel=>exact ⟨k+1,A3,n3,c3,by omega,by go_num,rfl,by rw [hft.out];exact hown3,pF hbel hg3 hown (Nat.le_refl _) hsz⟩
     case measure=>simp [intOf];omega
    ·obtain rfl:k=ps.length:=by omega
     rw [List.take_length] at *
     go_wp2
     go_ret
     exact ⟨A2,n2,c2,rfl,hown,hbel⟩
theorem aVB (A A':Option Addr)(n n' c c':Nat)(xs ys:List Value)(w:World)(hx:Rd w w.heap.size A xs)(hy:Rd w w.heap.size A' ys)(hn:n=xs.length)(hn':n'=ys.length)(h1:∀ u∈xs,u.oneCell'=true)(h2:∀ u∈ys,u.oneCell'=true)(hl:xs.length+ys.length≤1000000000):
 Calls Tryz.prog 104 #[.slice A n c,.slice A' n' c'] w (kG w 5 (xs++ys)):=by
 subst hn;subst hn'
 go_enter Tryz.func104,Tryz.ntmps104
 go_wp2_with fail
 have hb:Below w.heap.size w (w.alloc (.cells #[.slice A xs.length c,.slice A' ys.length c'] 22)):=(Below.refl _ _).alloc (Nat.le_refl _) _
 refine (amN [⟨A,c,xs⟩,⟨A',c',ys⟩] _ 2 _ _ rfl (Rd.new w _ _) ?_ ?_ (by simp [qX];omega) (by omega)).mono ?_
 ·intro p hp
  simp only [List.mem_cons,List.not_mem_nil,or_false] at hp
  rcases hp with rfl|rfl
  ·exact (hx.below hb).more (by simp)
  ·exact (hy.below hb).more (by simp)
 ·intro p hp
  simp only [List.mem_cons,List.not_mem_nil,or_false] at hp
  rcases hp with rfl|rfl
  ·exact h1
  ·exact h2
 rintro e w1 ⟨A1,n1,c1,rfl,hown,hb1⟩
 go_wp2
 go_ret
 exact ⟨A1,n1,c1,rfl,by simpa using hown.less (B:=w.heap.size) (by simp),hb.trans (hb1.mono (by simp))⟩
theorem aVC (A:Option Addr)(c:Nat)(zs ys:List Int)(vs:List Value)(m:Nat)(w:World)(hr:Rd w w.heap.size A (cb .u8 zs))(hv:vs=cb .u8 ys)(hm:m=ys.length)(hl:zs.length+ys.length≤1000000000):
 Calls Tryz.prog 104 #[.slice A zs.length c,.slice (some ⟨w.heap.size,0,none⟩) m m] (w.alloc (.cells vs.toArray 5)) (kG w 5 (cb .u8 (zs++ys))):=by
 subst hv;subst hm
 have hb:Below w.heap.size w (w.alloc (.cells (cb .u8 ys).toArray 5)):=(Below.refl _ _).alloc (Nat.le_refl _) _
 refine (aVB A _ _ _ c ys.length (cb .u8 zs) (cb .u8 ys) _ ((hr.below hb).more (by simp)) (Rd.new w _ _) (by simp) (by simp) (zE _ _) (zE _ _) (by simpa using hl)).mono ?_
 rintro e w1 ⟨A1,n1,c1,rfl,hown,hb1⟩
 exact ⟨A1,n1,c1,rfl,by rw [tP];exact hown.less (by simp),hb.trans (hb1.mono (by simp))⟩
end Go.Proofs.YtnklgkjfoggpbaaGreatDoor
namespace Go.Proofs.YtnklgkjfoggpbaaGreatDoor
def nX (n:Int):Int:=(n+32768)%65536-32768
def cQ (n:Int):List Int:=[n%256]
def kD (n:Int):List Int:=[n%65536/256,n%256]
def kX (n:Int):List Int:=[n/16777216%256,n/65536%256,n/256%256,n%256]
def kC (n:Nat):List Int:=if n<128 then [(n:Int)] else ((128+n%128:Nat):Int)::kC (n/128)
termination_by n
decreasing_by omega
def aC (n:Int):List Int:=kC n.toNat
def jZ (s:ByteArray):List Int:=s.data.toList.map fun b=>(b.toNat:Int)
def aY (s:ByteArray):List Int:=aC s.size++jZ s
def cZ (l:List Int):List Int:=aC l.length++l.flatMap kD
theorem aAH {n:Nat}(h:n<128):kC n=[(n:Int)]:=by rw [kC,if_pos h]
theorem aDT {n:Nat}(h:¬ n<128):kC n=((128+n%128:Nat):Int)::kC (n/128):=by rw [kC,if_neg h]
theorem aDV (n:Nat)(k:Nat)(h:n<128^(k+1)):(kC n).length≤k+1:=by
 induction k generalizing n with
 | zero=>rw [aAH (by simpa using h)];simp
 | succ k ih=>
  by_cases hn:n<128
  ·rw [aAH hn];simp
  ·rw [aDT hn,List.length_cons]
   have:=ih (n/128) (by rw [Nat.pow_succ] at h;omega)
   omega
theorem aVD (n:Int)(h:n≤9223372036854775807):(aC n).length≤9:=by
 refine aDV n.toNat 8 ?_
 have h1:n.toNat≤9223372036854775807:=by omega
 have h2:128^(8+1)=9223372036854775808:=by decide
 omega
theorem amO (s:ByteArray):Lib.strCells s=cb .u8 (jZ s):=adD s
theorem amP (n:Int):nX n%65536=n%65536:=by unfold nX;omega
theorem amQ (l:List Int):(l.flatMap kD).length=2*l.length:=by
 induction l with
 | nil=>rfl
 | cons a l ih=>rw [List.flatMap_cons,List.length_append,ih,List.length_cons];simp [kD];omega
theorem amR (l:List Int)(k:Nat)(h:k<l.length):(l.take (k+1)).flatMap kD=(l.take k).flatMap kD++kD l[k]:=by
 rw [List.take_succ_eq_append_getElem h,List.flatMap_append]
 simp
theorem amS (m:Int):[Value.int .u8 (IntKind.u16.wrap (nX m)/256%256),Value.int .u8 (IntKind.u16.wrap (nX m)%256)]=cb .u8 (kD m):=by
 simp only [adG,cb,kD,List.map]
 rw [amP]
 have h1:m%65536/256%256=m%65536/256:=by omega
 have h2:m%65536%256=m%256:=by omega
 rw [h1,h2]
theorem amT (m:Int)(h0:0≤m)(hm:m≤4294967295):[Value.int .u8 (m/16777216),Value.int .u8 (m/65536%256),Value.int .u8 (m/256%256),Value.int .u8 (m%256)]=cb .u8 (kX m):=by
 simp only [cb,kX,List.map]
 rw [Int.emod_eq_of_lt (a:=m/16777216) (by omega) (by omega)]
def cI (xs:List Int):Prop:=∀ x∈xs,0≤x∧x<256
theorem cI.get {xs:List Int}(h:cI xs){i:Nat}(hi:i<xs.length):0≤xs[i]∧xs[i]<256:=h _ (List.getElem_mem hi)
theorem cI.take {xs:List Int}(h:cI xs)(n:Nat):cI (xs.take n):=fun x hx=>h x (List.mem_of_mem_take hx)
theorem cI.drop {xs:List Int}(h:cI xs)(n:Nat):cI (xs.drop n):=fun x hx=>h x (List.mem_of_mem_drop hx)
theorem cI.nil:cI []:=fun x hx=>by cases hx
def kM (n:Nat)(at_ k:Int):Prop:=at_<0∨n<at_∨n-at_<k
instance (n:Nat) (at_ k:Int):Decidable (kM n at_ k):=by unfold kM;infer_instance
def eX (xs:List Int)(at_ err:Int)(k:Nat):List Int × Int × Int:=
 if err≠0 then ([],at_,err) else if kM xs.length at_ k then ([],at_,2) else ((xs.drop at_.toNat).take k,at_+k,0)
theorem aUD (xs:List Int)(at_ err:Int)(k:Nat)(h:cI xs):cI (eX xs at_ err k).1:=by
 unfold eX
 split
 ·exact cI.nil
 ·split
  ·exact cI.nil
  ·exact (h.drop _).take _
theorem akY (xs:List Int)(at_ err:Int)(k:Nat):(eX xs at_ err k).1.length≤k:=by
 unfold eX
 split
 ·simp
 ·split
  ·simp
  ·exact List.length_take_le _ _
def gI (xs:List Int):Int:=xs.foldl (fun n x=>n*256+x) 0
theorem amU (xs:List Int)(x:Int):gI (xs++[x])=gI xs*256+x:=by simp [gI]
theorem aVE (xs:List Int)(k:Nat)(h:k<xs.length):gI (xs.take (k+1))=gI (xs.take k)*256+xs[k]:=by
 rw [List.take_succ_eq_append_getElem h,amU]
theorem aVF (xs:List Int)(h:cI xs)(k:Nat)(hk:k≤xs.length):0≤gI (xs.take k)∧gI (xs.take k)<256^k:=by
 induction k with
 | zero=>simp [gI]
 | succ k ih=>
  have h1:=ih (by omega)
  have h2:=h.get (i:=k) (by omega)
  rw [aVE xs k (by omega),Int.pow_succ]
  omega
theorem akZ (xs:List Int)(h:cI xs)(k:Nat)(hk:xs.length≤k):0≤gI xs∧gI xs<256^k:=by
 have h1:=aVF xs h xs.length (Nat.le_refl _)
 rw [List.take_length] at h1
 have e:∀ m:Nat,(256:Int)^m=((256^m:Nat):Int):=fun m=>by rw [Int.natCast_pow];rfl
 have h2:256^xs.length≤256^k:=Nat.pow_le_pow_right (by omega) hk
 rw [e] at h1 ⊢
 omega
theorem amV (xs:List Int)(at_:Int)(k:Nat)(h:kM xs.length at_ k):eX xs at_ 0 k=([],at_,2):=by simp [eX,h]
theorem aTV (xs:List Int)(at_:Int)(h:¬ kM xs.length at_ 1):at_.toNat<xs.length∧eX xs at_ 0 1=([xs.getD at_.toNat 0],at_+1,0):=by
 have h':=h
 unfold kM at h'
 have hl:at_.toNat<xs.length:=by omega
 refine ⟨hl,?_⟩
 have h2:¬ kM xs.length at_ ((1:Nat):Int):=h
 simp only [eX,if_neg h2]
 rw [if_neg (by omega)]
 rw [List.drop_eq_getElem_cons hl,List.take_succ_cons,List.take_zero]
 simp [List.getD,List.getElem?_eq_getElem hl]
def kE (xs:List Int)(at0 most:Int):Nat→Nat→Int→Int × Int × Int
 | 0,_,_=>(0,at0,4)
 | f+1,k,n=>
  if kM xs.length (at0+k) 1 then (0,at0,2)
  else if k=5∨(0<k∧xs.getD (at0+k).toNat 0=0) then (0,at0,4)
  else if xs.getD (at0+k).toNat 0<128 then (if most<n+xs.getD (at0+k).toNat 0%128*128^k then (0,at0,5) else (n+xs.getD (at0+k).toNat 0%128*128^k,at0+k+1,0))
  else kE xs at0 most f (k+1) (n+xs.getD (at0+k).toNat 0%128*128^k)
def bY (xs:List Int)(at_ err most:Int):Int × Int × Int:=if err≠0 then (0,at_,err) else kE xs at_ most 6 0 0
def tC (n:Nat)(at_ err:Int):Int:=if err=0∧at_<n then 3 else err
end Go.Proofs.YtnklgkjfoggpbaaGreatDoor
