/- Parts of the proof of a law of this seat: rules and contracts; no conditions. -/
import Derived.WalkKit
import Derived.WalkSpells
import Derived.WalkLawsBesides
import Derived.Maps.AppendAt
import Derived.Deep.AppendLies
import Derived.Lib.AppendStr
import Derived.Lib.AppendZeros
import Derived.Lib.Hide
import Derived.Deep.RegionWith
import Derived.Deep.QuietTactic
import Derived.BigQuiet
import Derived.StillTailTactics
import Derived.Deep.LoopGhost
import Derived.Deep.DeepCutAuto
import Derived.Deep.DeepFit
import Derived.Deep.DeepMust
import Derived.Deep.RegionHeld3
import Derived.Deep.RegionLaw
import Derived.Laws.BytesArg
import Derived.Laws.IdiomStrings
set_option maxHeartbeats 6400000
set_option maxRecDepth 100000
set_option linter.unusedVariables false
set_option linter.unusedSimpArgs false
namespace Go.Proofs.YtnklgkjfoggpbaaGreatDoor
open Go.RowKit
def Rd (w:World)(B:Nat)(A:Option Addr)(xs:List Value):Prop:=
 0<xs.length→∃ b o,A=some ⟨b,o,none⟩∧b<B∧∀ j u,xs[j]?=some u→w.cell? ⟨b,o+j,none⟩=some u
def bA (w:World)(base:Nat)(e:TypeId)(v:Value)(xs:List Value):Prop:=w.ownsRow base e 1 v xs.length xs
section
variable {w w':World}{B B' base:Nat}{e:TypeId}{A:Option Addr}{xs ys:List Value}{v:Value}
theorem Rd.nil (w:World)(B:Nat)(A:Option Addr):Rd w B A []:=fun h=>absurd h (by simp)
theorem Rd.get (h:Rd w B A xs){k:Nat}(hk:k<xs.length):∃ b o,A=some ⟨b,o,none⟩∧b<B∧w.cell? ⟨b,o+k,none⟩=some xs[k]:=by
 obtain ⟨b,o,e,hb,hc⟩:=h (by omega)
 exact ⟨b,o,e,hb,hc k _ (List.getElem?_eq_getElem hk)⟩
theorem Rd.keep (h:Rd w B A xs)(hk:∀ b o,b<B→w'.cell? ⟨b,o,none⟩=w.cell? ⟨b,o,none⟩):Rd w' B A xs:=fun hn=>by
 obtain ⟨b,o,e,hb,hc⟩:=h hn
 exact ⟨b,o,e,hb,fun j u hu=>(hk b _ hb).trans (hc j u hu)⟩
theorem Rd.more (h:Rd w B A xs)(hB:B≤B'):Rd w B' A xs:=fun hn=>by
 obtain ⟨b,o,e,hb,hc⟩:=h hn
 exact ⟨b,o,e,by omega,hc⟩
theorem Rd.below (h:Rd w B A xs)(hb:Below B w w'):Rd w' B A xs:=h.keep fun _ _ hp=>hb.cell hp
theorem Rd.drew (h:Rd w B A xs):Rd w.drew B A xs:=h
theorem Rd.alloc (h:Rd w B A xs)(hB:B≤w.heap.size)(o:Obj):Rd (w.alloc o) B A xs:=h.keep fun _ _ hp=>World.cell?_alloc_lt w o _ (by simp;omega)
theorem Rd.new (w:World)(cs:List Value)(t:TypeId):Rd (w.alloc (.cells cs.toArray t)) (w.alloc (.cells cs.toArray t)).heap.size (some ⟨w.heap.size,0,none⟩) cs:=fun _=>
 ⟨w.heap.size,0,rfl,by simp,fun j u hu=>by
  rw [Nat.zero_add,cell_of_row (w.alloc (.cells cs.toArray t)) w.heap.size j cs.toArray t (0,0) (heap_alloc_new w _)]
  simpa using hu⟩
theorem Rd.setCell (h:Rd w B A xs){p:Addr}(hB:B≤p.block)(u:Value):Rd (w.setCell p u) B A xs:=
 h.keep fun b o hq=>World.cell?_setCell_other w p ⟨b,o,none⟩ u (fun e=>by subst e;simp at hB;omega)
theorem Rd.grown (h:Rd w B A xs){row:Option Nat}(hg:w.grownBy w' row)(hB:B≤w.heap.size)(hr:∀ g,row=some g→B≤g):Rd w' B A xs:=
 h.keep fun b o hp=>World.cell?_of_block (a:=⟨b,o,none⟩) (hg.block b (by omega) (fun e=>by have:=hr _ e.symm;omega))
theorem Rd.drop (h:Rd w B A xs)(k cap:Nat)(hk:k≤xs.length)(hc:xs.length≤cap):Rd w B (if cap=k then A else A.map (·.add k)) (xs.drop k):=fun hn=>by
 rw [List.length_drop] at hn
 obtain ⟨b,o,rfl,hb,hcell⟩:=h (by omega)
 rw [if_neg (by omega)]
 refine ⟨b,o+k,by simp [Addr.add_lit],hb,fun j u hu=>?_⟩
 rw [List.getElem?_drop] at hu
 have:=hcell _ _ hu
 rwa [←Nat.add_assoc] at this
theorem Rd.take (h:Rd w B A xs)(k:Nat):Rd w B A (xs.take k):=fun hn=>by
 rw [List.length_take] at hn
 obtain ⟨b,o,rfl,hb,hcell⟩:=h (by omega)
 refine ⟨b,o,rfl,hb,fun j u hu=>hcell j u ?_⟩
 rw [List.getElem?_take] at hu
 split at hu
 ·exact hu
 ·cases hu
theorem bA.nil (w:World)(base:Nat)(e:TypeId):bA w base e (.slice none 0 0) []:=⟨by simp,.inl ⟨rfl,rfl⟩⟩
theorem bA.form (h:bA w base e v xs):∃ A c,v=.slice A xs.length c∧xs.length≤c∧c≤maxLen∧Rd w w.heap.size A xs∧(∀ g,v.ownBlock=some g→base≤g∧g<w.heap.size):=by
 rcases h.2 with ⟨rfl,h0⟩|⟨g,cap,cur,rfl,hb,hg,hn,hc,hs,ht⟩
 ·have:xs=[]:=List.eq_nil_of_length_eq_zero h0
  subst this
  exact ⟨none,0,rfl,by simp,by simp [maxLen],Rd.nil _ _ _,fun g hg=>by simp [Value.ownBlock] at hg⟩
 ·refine ⟨some ⟨g,0,none⟩,cap,rfl,hn,hc,fun _=>⟨g,0,rfl,(Array.getElem?_eq_some_iff.1 hg).1,fun j u hu=>?_⟩,fun g' hg'=>?_⟩
  ·rw [cell_of_row w g (0+j) cur e (0,0) hg,Nat.zero_add]
   rw [←ht,List.getElem?_take] at hu
   split at hu
   ·simpa using hu
   ·cases hu
  ·simp [Value.ownBlock] at hg'
   subst hg'
   exact ⟨hb,(Array.getElem?_eq_some_iff.1 hg).1⟩
theorem bA.cast (h:bA w base e v xs)(he:xs=ys):bA w base e v ys:=he ▸ h
theorem bA.rd {n c:Nat}(h:bA w base e (.slice A n c) xs):n=xs.length∧n≤c∧Rd w w.heap.size A xs:=by
 obtain ⟨A',c',hv,hc,_,hr,_⟩:=h.form
 injection hv with h1 h2 h3
 subst h1;subst h2;subst h3
 exact ⟨rfl,hc,hr⟩
theorem bA.block (h:bA w base e v xs):∀ g,v.ownBlock=some g→base≤g∧g<w.heap.size:=by
 obtain ⟨_,_,_,_,_,_,h⟩:=h.form
 exact h
theorem bA.keep (h:bA w base e v xs)(hk:∀ g,v.ownBlock=some g→w'.heap[g]?=w.heap[g]?):bA w' base e v xs:=by
 refine ⟨h.1,?_⟩
 rcases h.2 with hn|⟨g,cap,cur,rfl,hb,hg,r⟩
 ·exact .inl hn
 ·exact .inr ⟨g,cap,cur,rfl,hb,(hk g rfl).trans hg,r⟩
theorem bA.below (h:bA w base e v xs)(hb:Below w.heap.size w w'):bA w' base e v xs:=h.keep fun g hg=>hb.block g (h.block g hg).2
theorem bA.less (h:bA w base e v xs)(hb:B≤base):bA w B e v xs:=by
 refine ⟨h.1,?_⟩
 rcases h.2 with hn|⟨g,cap,cur,rfl,hb',r⟩
 ·exact .inl hn
 ·exact .inr ⟨g,cap,cur,rfl,by omega,r⟩
theorem bA.take {n c:Nat}(h:bA w base e (.slice A n c) xs)(k:Nat)(hk:k≤n):bA w base e (.slice A k c) (xs.take k):=by
 have hn:=h.rd.1
 subst hn
 rcases h.2 with ⟨hv,h0⟩|⟨g,cap,cur,hv,hb,hg,hn,hc,hs,ht⟩
 ·have:xs=[]:=List.eq_nil_of_length_eq_zero h0
  subst this
  obtain rfl:k=0:=by simpa using hk
  obtain ⟨rfl,_,rfl⟩:=Value.slice.inj hv
  exact bA.nil _ _ _
 ·obtain ⟨rfl,_,rfl⟩:=Value.slice.inj hv
  have hl:(xs.take k).length=k:=by rw [List.length_take];omega
  refine ⟨by omega,.inr ⟨g,c,cur,by rw [hl],hb,hg,by omega,hc,hs,?_⟩⟩
  rw [hl,Nat.mul_one,←ht,List.take_take,Nat.mul_one,Nat.min_eq_left hk]
theorem bA.drew (h:bA w base e v xs):bA w.drew base e v xs:=h
theorem bA.alloc (h:bA w base e v xs)(o:Obj):bA (w.alloc o) base e v xs:=World.ownsRow.alloc h o
theorem bA.grown (h:bA w base e v xs){row:Option Nat}(hg:w.grownBy w' row)(hne:∀ g,v.ownBlock=some g→row≠some g):bA w' base e v xs:=
 h.keep fun g hb=>hg.block g (h.block g hb).2 (fun e=>hne g hb e.symm)
def cb (k:IntKind)(zs:List Int):List Value:=zs.map (Value.int k)
@[simp] theorem mL (k:IntKind)(zs:List Int):(cb k zs).length=zs.length:=by simp [cb]
theorem tP (k:IntKind)(xs ys:List Int):cb k (xs++ys)=cb k xs++cb k ys:=by simp [cb]
theorem zE (k:IntKind)(zs:List Int):∀ u∈cb k zs,u.oneCell'=true:=ints_oneCell k zs
theorem adC (k:IntKind)(zs:List Int)(n:Nat):(cb k zs).take n=cb k (zs.take n):=by simp [cb]
theorem aQQ (k:IntKind)(zs:List Int)(n:Nat):(cb k zs).drop n=cb k (zs.drop n):=by simp [cb]
theorem adD (s:ByteArray):Lib.strCells s=cb .u8 (s.data.toList.map fun b=>(b.toNat:Int)):=by simp [Lib.strCells,cb]
theorem Rd.num {k:IntKind}{zs:List Int}(h:Rd w B A (cb k zs)){i:Nat}(hi:i<zs.length):∃ b o,A=some ⟨b,o,none⟩∧b<B∧w.cell? ⟨b,o+i,none⟩=some (.int k zs[i]):=by
 obtain ⟨b,o,e,hb,hc⟩:=h.get (k:=i) (by simpa using hi)
 refine ⟨b,o,e,hb,hc.trans ?_⟩
 simp [cb]
def kG (w:World)(e:TypeId)(xs:List Value)(en:Ending)(w':World):Prop:=∃ A n c,en=.returned (.slice A n c)∧bA w' w.heap.size e (.slice A n c) xs∧Below w.heap.size w w'
theorem bA.new (w:World)(cs:List Value)(e:TypeId)(n:Nat)(hn:n=cs.length)(hb:base≤w.heap.size)(hm:n≤9223372036854775807):bA (w.alloc (.cells cs.toArray e)) base e (.slice (some ⟨w.heap.size,0,none⟩) n n) cs:=by
 subst hn
 have:=World.ownsRow_lit (base:=base) (e:=e) (size:=1) w cs.toArray cs.length hb (by simp only [maxLen];omega) (by simp)
 simpa [bA] using this
def bI (w:World)(g:Nat)(t:TypeId)(cs:List Value):Prop:=w.heap[g]?=some (.cells cs.toArray t (0,0))
section
variable {g:Nat}{t:TypeId}{cs:List Value}
theorem bI.lt (h:bI w g t cs):g<w.heap.size:=(Array.getElem?_eq_some_iff.1 h).1
theorem bI.cell (h:bI w g t cs)(i:Nat):w.cell? ⟨g,i,none⟩=cs[i]?:=by
 rw [cell_of_row w g i cs.toArray t (0,0) h];simp
theorem bI.frozen (h:bI w g t cs)(i:Nat):w.frozen? ⟨g,i,none⟩=false:=by
 unfold bI at h
 simp [World.frozen?,h]
theorem bI.new (w:World)(t:TypeId)(cs:List Value):bI (w.alloc (.cells cs.toArray t)) w.heap.size t cs:=heap_alloc_new w _
theorem bI.drew (h:bI w g t cs):bI w.drew g t cs:=h
theorem bI.alloc (h:bI w g t cs)(o:Obj):bI (w.alloc o) g t cs:=(Below.heap_alloc w o g h.lt).trans h
theorem bI.below (h:bI w g t cs)(hb:Below B w w')(hg:g<B):bI w' g t cs:=(hb.block g hg).trans h
theorem bI.far (h:bI w g t cs){p:Addr}(hp:g≠p.block)(u:Value):bI (w.setCell p u) g t cs:=(Below.heap_setCell w p u g hp).trans h
theorem bI.set_ (h:bI w g t cs)(i:Nat)(u:Value):bI (w.setCell ⟨g,i,none⟩ u) g t (cs.set i u):=by
 unfold bI at h ⊢
 simp [World.setCell,Array.getElem?_modify,h]
theorem bI.cast {ds:List Value}(h:bI w g t cs)(e:cs=ds):bI w g t ds:=e ▸ h
theorem bI.one {a:Value}(h:bI w g t [a]):w.cell? ⟨g,0,none⟩=some a∧w.frozen? ⟨g,0,none⟩=false:=⟨h.cell 0,h.frozen 0⟩
theorem bI.two {a b:Value}(h:bI w g t [a,b]):w.cell? ⟨g,0,none⟩=some a∧w.cell? ⟨g,1,none⟩=some b∧w.frozen? ⟨g,0,none⟩=false∧w.frozen? ⟨g,1,none⟩=false:=⟨h.cell 0,h.cell 1,h.frozen 0,h.frozen 1⟩
theorem bI.three {a b c:Value}(h:bI w g t [a,b,c]):w.cell? ⟨g,0,none⟩=some a∧w.cell? ⟨g,1,none⟩=some b∧w.cell? ⟨g,2,none⟩=some c∧w.frozen? ⟨g,0,none⟩=false∧w.frozen? ⟨g,1,none⟩=false∧w.frozen? ⟨g,2,none⟩=false:=
 ⟨h.cell 0,h.cell 1,h.cell 2,h.frozen 0,h.frozen 1,h.frozen 2⟩
end
theorem bI.threeA {g:Nat}{t:TypeId}{a b c:Value}(h:bI w g t [a,b,c]):(∀ o,(w.alloc o).cell? ⟨g,0,none⟩=some a)∧(∀ o,(w.alloc o).cell? ⟨g,1,none⟩=some b)∧(∀ o,(w.alloc o).cell? ⟨g,2,none⟩=some c)∧(∀ o,(w.alloc o).frozen? ⟨g,0,none⟩=false)∧(∀ o,(w.alloc o).frozen? ⟨g,1,none⟩=false)∧(∀ o,(w.alloc o).frozen? ⟨g,2,none⟩=false):=
 ⟨fun o=>(h.alloc o).cell 0,fun o=>(h.alloc o).cell 1,fun o=>(h.alloc o).cell 2,fun o=>(h.alloc o).frozen 0,fun o=>(h.alloc o).frozen 1,fun o=>(h.alloc o).frozen 2⟩
theorem dS {a:World}(h:Below B a w){g:Nat}(hg:B≤g)(x y z:Value):Below B a (((w.setCell ⟨g,0,none⟩ x).setCell ⟨g,1,none⟩ y).setCell ⟨g,2,none⟩ z):=
 ((h.setCell (p:=⟨g,0,none⟩) hg x).setCell (p:=⟨g,1,none⟩) hg y).setCell (p:=⟨g,2,none⟩) hg z
theorem aQR {a w:World}(h:Below B a w)(n:Nat):Below B a (w.drewN n):=⟨h.os,h.tape,h.output,h.size,h.block⟩
theorem pF {a:World}(h:Below B a w)(hg:w.grownBy w' v.ownBlock)(ho:bA w base e v xs)(hB:B≤base)(hs:B≤w.heap.size):Below B a w':=
 h.grown hg hs fun k hk=>by have:=(ho.block k hk).1;omega
end
theorem adE (n k:Int):(0≤n∧n.tmod k=n%k)∨(n<0∧n.tmod k=-((-n)%k)):=by
 by_cases h:0≤n
 ·exact .inl ⟨h,Int.tmod_eq_emod_of_nonneg h⟩
 ·refine .inr ⟨by omega,?_⟩
  have:n.tmod k=-((-n).tmod k):=by rw [Int.neg_tmod,Int.neg_neg]
  rw [this,Int.tmod_eq_emod_of_nonneg (by omega)]
theorem vH (k:IntKind)(n:Int):∀ u∈[Value.int k n],u.oneCell'=true:=by
 intro u hu
 rw [List.mem_singleton] at hu
 subst hu;rfl
theorem adF (k:IntKind)(n m:Int):∀ u∈[Value.int k n,Value.int k m],u.oneCell'=true:=by
 intro u hu
 simp only [List.mem_cons,List.not_mem_nil,or_false] at hu
 rcases hu with rfl|rfl<;>rfl
theorem adG (n:Int):IntKind.u16.wrap n=n%65536:=by simp [IntKind.wrap,IntKind.bits,IntKind.signed]
theorem aQS (n:Int):IntKind.i16.wrap n=(n+32768)%65536-32768:=by simp only [IntKind.wrap,IntKind.bits,IntKind.signed];simp;split<;>omega
theorem wD (n:Int):IntKind.u64.wrap n=n%18446744073709551616:=by simp [IntKind.wrap,IntKind.bits,IntKind.signed]
theorem aGA {k:IntKind}{a b:Int}(h:a=b):Ending.returned (.int k a)=.returned (.int k b):=by rw [h]
theorem aH1 (a b i:Nat)(h:b<2^i):(2^i*a||| b)=2^i*a+b:=(Nat.two_pow_add_eq_or_of_lt h a).symm
theorem adH (a b i:Nat)(hb:b<2^i)(h:2^i*a+b<18446744073709551616):bits .or .u64 ((2^i*a:Nat):Int) (b:Int)=((2^i*a+b:Nat):Int):=by
 rw [u64_or_nat _ _ (by omega) (by omega),aH1 a b i hb]
theorem aF3 (a:Nat)(ha:a<9223372036854775808):(BitVec.ofInt 64 (a:Int)).toNat=a:=by
 rw [BitVec.ofInt_natCast,BitVec.toNat_ofNat];exact Nat.mod_eq_of_lt (by omega)
theorem adI (a b:Nat)(ha:a<9223372036854775808)(hb:b<9223372036854775808):bits .or .i64 (a:Int) (b:Int)=((a||| b:Nat):Int):=by
 have hx:a||| b<2^63:=Nat.or_lt_two_pow (by omega) (by omega)
 show IntKind.i64.wrap ((BitVec.ofInt 64 (a:Int)||| BitVec.ofInt 64 (b:Int)).toNat:Int)=_
 rw [BitVec.toNat_or,aF3 a ha,aF3 b hb,IntKind.wrap_i64]
 omega
theorem adJ (a b i:Nat)(hb:b<2^i)(h:2^i*a+b<9223372036854775808):bits .or .i64 (b:Int) ((2^i*a:Nat):Int)=((b+2^i*a:Nat):Int):=by
 rw [adI _ _ (by omega) (by omega),Nat.or_comm,aH1 a b i hb,Nat.add_comm]
section
variable {P:Program}{w:World}{ops:Array Oper}{rest:List Oper}{o:Oper}{a:Act}{Q:Exit→Act→World→Prop}
structure Elem (P:Program) (t e:TypeId) (z:Value) (bytes:Nat):Prop where
 slice:P.underlying t=some (.slice e)
 info:∃ i,P.info? e=some i∧i.zero=some z∧i.size=1∧i.bytes=bytes
 one:z.cells=#[z]
theorem aQT {t e ty:TypeId}{z:Value}{bytes:Nat}(E:Elem P t e z bytes){base:Nat}{v:Value}{xs:List Value}(hown:bA w base e v xs){B:Nat}{A:Option Addr}{m c:Nat}{news:List Value}
 (hr:Rd w B A news) (hm:m=news.length) (h1:∀ u∈news,u.oneCell'=true) (hb:(xs.length+news.length)*bytes≤140737488355328) (h63:xs.length+news.length≤9223372036854775807) (hbase:base≤w.heap.size):
 ∃ v' w',(Builtin.append_ #[t,t] ty #[v,.slice A m c]).run P w=.ok v' w'∧bA w' base e v' (xs++news)∧w.grownBy w' v.ownBlock∧(v'.ownBlock=v.ownBlock∨v'.ownBlock=some w.heap.size):=by
 obtain ⟨i,hi,hz,hsz,hby⟩:=E.info
 subst hm
 by_cases h0:news.length=0
 ·have hn:news=[]:=List.eq_nil_of_length_eq_zero h0
  subst hn
  refine ⟨v,w,?_,by simpa [bA] using hown,World.grownBy.refl w _,.inl rfl⟩
  rcases A with _|ad
  ·rcases hown.2 with ⟨rfl,_⟩|⟨g,cap,cur,rfl,_,_,hnc,_⟩
   ·simp [Builtin.append_,run_underlying E.slice,sizeOf,typeInfo,hi,Builtin.lenOf,Builtin.firstCells]
   ·simp [Builtin.append_,run_underlying E.slice,sizeOf,typeInfo,hi,Builtin.lenOf,Builtin.firstCells,hnc,storeCells]
  ·have hf:∀ s:Nat,(Builtin.firstCells s 0 (.slice (some ad) 0 c)).run P w=.ok #[] w:=fun s=>by
    have:=run_firstCells_some (P:=P) w s 0 ad 0 c [] (by simp) (by simp)
    simpa using this
   have hn:∀ s:Nat,(Builtin.firstCells s 0 (.slice none 0 0)).run P w=.ok #[] w:=fun s=>run_firstCells_none w s 0 0 0
   rcases hown.2 with ⟨rfl,_⟩|⟨g,cap,cur,rfl,_,_,hnc,_⟩
   ·simp [Builtin.append_,run_underlying E.slice,sizeOf,typeInfo,hi,Builtin.lenOf,hf]
   ·simp [Builtin.append_,run_underlying E.slice,sizeOf,typeInfo,hi,Builtin.lenOf,hf,hnc,storeCells]
 ·obtain ⟨b,off,rfl,_,hc⟩:=hr (by omega)
  obtain ⟨v',w',r,h2,h3,_,h5⟩:=run_append_own_at (P:=P) w base t ty e i z 1 bytes E.slice hi hz hsz hby (by rw [E.one];rfl) (by omega) v xs.length xs hown ⟨b,off,none⟩ news.length c news (by omega)
   (fun j u hu=>by rw [Addr.add_lit];exact hc j u hu) h1 (by simp only [maxLen];omega) hb hbase
  exact ⟨v',w',r,by simpa [bA] using h2,h3,h5⟩
theorem adK {t e:TypeId}{z:Value}{bytes:Nat}(E:Elem P t e z bytes)(hgd:o.guard=none)(s x:Operand)
 (ho:o.op=.call { callee:=.builtin .append,args:=#[s,x],argTypes:=#[t,t] }) {base:Nat} {v:Value} {xs:List Value} (hs:a.eval s=v) (hown:bA w base e v xs) {B:Nat} {A:Option Addr} {m c:Nat} {news:List Value}
 (hx:a.eval x=.slice A m c) (hr:Rd w B A news) (hm:m=news.length) (h1:∀ u∈news,u.oneCell'=true) (hb:(xs.length+news.length)*bytes≤140737488355328) (h63:xs.length+news.length≤9223372036854775807) (hbase:base≤w.heap.size)
 (h:∀ A' n' c' w',bA w' base e (.slice A' n' c') (xs++news)→w.grownBy w' v.ownBlock→((Value.slice A' n' c').ownBlock=v.ownBlock∨(Value.slice A' n' c').ownBlock=some w.heap.size)→
  wpList P ops Q rest (a.put o.dst (.slice A' n' c')) w'):wpList P ops Q (o::rest) a w:=by
 obtain ⟨v',w',hrun,h2,h3,h4⟩:=aQT (ty:=o.type) E hown (c:=c) hr hm h1 hb h63 hbase
 refine wpList_plain hgd fun K hK=>?_
 unfold Oper.wp execOp
 simp only [ho,resolve,invoke,builtin,Sem.run_bind,Sem.run_pure,Result.andThen_ok,List.map_toArray,List.map_cons,List.map_nil,hs,hx,hrun]
 obtain ⟨A',c',rfl,_⟩:=h2.form
 exact hK _ _ (h A' _ c' w' h2 h3 h4)
theorem rD {t e:TypeId}{z:Value}{bytes:Nat}(E:Elem P t e z bytes)(hgd:o.guard=none)(s x:Operand)
 (ho:o.op=.call { callee:=.builtin .append,args:=#[s,x],argTypes:=#[t,t] }) {base:Nat} {v:Value} {xs:List Value} (hs:a.eval s=v) (hown:bA w base e v xs) {B:Nat} {A:Option Addr} {m c:Nat} {news:List Value}
 (hx:a.eval x=.slice A m c) (hr:Rd w B A news) (hm:m=news.length) (h1:∀ u∈news,u.oneCell'=true) (hb:(xs.length+news.length)*bytes≤140737488355328) (h63:xs.length+news.length≤9223372036854775807) (hbase:base≤w.heap.size)
 (h:∀ A' n' c' w',bA w' base e (.slice A' n' c') (xs++news)→w.grownBy w' v.ownBlock→wpList P ops Q rest (a.put o.dst (.slice A' n' c')) w'):wpList P ops Q (o::rest) a w:=
 adK E hgd s x ho hs hown hx hr hm h1 hb h63 hbase fun A' n' c' w' h2 h3 _=>h A' n' c' w' h2 h3
theorem adL {t e tn:TypeId}{kn:IntKind}{z:Value}{bytes:Nat}(E:Elem P t e z bytes)(htn:P.underlying tn=some (.int kn))(hgd:o.guard=none)(s x:Operand)
 (ho:o.op=.call { callee:=.builtin .append,args:=#[s,x],argTypes:=#[t,tn] }) (hs:a.eval s=.slice none 0 0) {k:IntKind} {n:Nat} (hx:a.eval x=.int k n) (h0:0<n) (hb:n*bytes≤281474976710656) (h63:n≤9223372036854775807)
 (h:∀ A c w',bA w' w.heap.size e (.slice A n c) (List.replicate n z)→Below w.heap.size w w'→wpList P ops Q rest (a.put o.dst (.slice A n c)) w'):wpList P ops Q (o::rest) a w:=by
 obtain ⟨i,hi,hz,hsz,hby⟩:=E.info
 have hrun:=Lib.run_append_nil_zeros (P:=P) w t tn o.type e i z k kn E.slice htn hi hz n h0 (by omega) (by omega) (by rw [hby];exact hb)
 refine Lib.wpList_append_run w hgd s x t tn ho _ _ hs hx _ _ hrun (h _ _ _ ?_ ?_)
 ·have hc:=grownCap_ge w n 0 e
  have hm:=grownCap_le_maxLen w n 0 e (by simp only [maxLen];omega)
  have hl:∀ m,(Builtin.zeroCells z.cells m).toList=List.replicate m z:=by
   intro m
   rw [E.one]
   apply List.ext_getElem?
   intro j
   by_cases hj:j<m
   ·simp [Builtin.zeroCells,hj,Nat.mod_one]
   ·simp [Builtin.zeroCells,hj]
  refine ⟨by simp,.inr ⟨w.heap.size,grownCap w n 0 e,_,by simp,Nat.le_refl _,heap_alloc_new _ _,by simpa using hc,hm,?_,?_⟩⟩
  ·simp [size_zeroCells,E.one];omega
  ·rw [Array.toList_append,hl,hl,List.length_replicate,Nat.mul_one,List.take_append_of_le_length (by simp),List.take_of_length_le (by simp)]
 ·exact (Below.refl _ _).drew.alloc (Nat.le_refl _) _
theorem adM {t e u:TypeId}(E:Elem P t e (.int .u8 0) 1)(hu:P.underlying u=some .string)(hgd:o.guard=none)(sl x:Operand)
 (ho:o.op=.call { callee:=.builtin .append,args:=#[sl,x],argTypes:=#[t,u] }) {base:Nat} {v:Value} {xs:List Value} (hs:a.eval sl=v) (hown:bA w base e v xs) {s:ByteArray} (hx:a.eval x=.string s)
 (hb:xs.length+s.size≤140737488355328) (hbase:base≤w.heap.size)
 (h:∀ A' n' c' w',bA w' base e (.slice A' n' c') (xs++Lib.strCells s)→w.grownBy w' v.ownBlock→wpList P ops Q rest (a.put o.dst (.slice A' n' c')) w'):wpList P ops Q (o::rest) a w:=by
 obtain ⟨i,hi,hz,hsz,hby⟩:=E.info
 obtain ⟨v',w',hrun,h2,h3,_⟩:=Lib.run_append_own_string (P:=P) w base t u o.type e i E.slice hu hi hz hsz hby v xs.length xs hown s (by simp only [maxLen];omega) hb hbase
 have h2':bA w' base e v' (xs++Lib.strCells s):=by simpa [bA,Lib.strCells_length] using h2
 refine wpList_plain hgd fun K hK=>?_
 unfold Oper.wp execOp
 simp only [ho,resolve,invoke,builtin,Sem.run_bind,Sem.run_pure,Result.andThen_ok,List.map_toArray,List.map_cons,List.map_nil,hs,hx,hrun]
 obtain ⟨A',c',rfl,_⟩:=h2'.form
 exact hK _ _ (h A' _ c' w' h2' h3)
theorem aAP {src e dst:TypeId}(hs:P.underlying src=some (.slice e))(he:P.underlying e=some (.int .u8))(hd:P.underlying dst=some .string){B:Nat}{A:Option Addr}{n c:Nat}{xs:List Int}(hr:Rd w B A (cb .u8 xs))(hn:n=xs.length):
 (convert src dst (.slice A n c)).run P w=.ok (.string (strOfNums xs)) w:=by
 subst hn
 by_cases h0:xs.length=0
 ·have hx:xs=[]:=List.eq_nil_of_length_eq_zero h0
  subst hx
  rcases A with _|ad
  ·exact run_convert_bytes_nil w src e hs he _ c dst hd
  ·rw [run_convert_bytes_string w src dst e _ _ c hs he hd]
   have:=run_bytesToString (P:=P) w ad 0 c [] (by
    have:=run_loadCells_list (P:=P) w ad [] (by simp)
    simpa using this)
   exact this
 ·obtain ⟨b,o,rfl,_,hc⟩:=hr (by simp;omega)
  refine run_convert_bytes_arg w src e hs he b o _ c xs rfl (fun i hi=>?_) dst hd
  rw [hc i (.int .u8 xs[i]) (by simp [cb,List.getElem?_eq_getElem hi])]
  simp [List.getD,List.getElem?_eq_getElem hi]
end
def fM (P:Program)(K:Value→World→Prop):Result Next→Prop
 | .ok (.value v) w'=>K v w'
 | .ok .skip w'=>K undef w'
 | .ok (.enter f args) w'=>Calls P f args w' fun e w''=>∃ v,e=.returned v∧K v w''
 | _=>False
def eK (P:Program)(o:Oper)(a:Act)(w:World)(K:Value→World→Prop):Prop:=fM P K ((execOp a.eval o).run P w)
attribute [go_sem] eK fM
def wE (md:Region.Mode):List Oper→Nat→Bool
 | [],_=>true
 | o::l,k=>o.after.all (fun e=>!Region.binds md e||decide (e.on<k))&&wE md l (k+1)
def aI4 (S:Nat→Value→World→Prop)(f:Nat→Value)(w:World):List Nat→Prop
 | []=>True
 | j::l=>S j (f j) w∧aI4 S f w l
def aI5:List Edge→List Nat
 | []=>[]
 | e::l=>if Region.binds .any e=true then e.on::aI5 l else aI5 l
def aAQ (o:Oper):List Nat:=aI5 o.after.toList
def xX (P:Program)(ops:Array Oper)(A:(Nat→Value)→Act)(S:Nat→Value→World→Prop)(W:World):List Oper→Nat→Prop
 | [],_=>True
 | o::l,k=>(∀ (f:Nat→Value) (w:World) (K:Value→World→Prop),Below W.heap.size W w→aI4 S f w (aAQ o)→
  (∀ v w',Below w.heap.size w w'→S k v w'→K v w')→if Region.wanted o (yielded ops (A f).tmps) then eK P o (A f) w K else K undef w)∧xX P ops A S W l (k+1)
theorem xX.nil_ {P:Program}{ops:Array Oper}{A:(Nat→Value)→Act}{S:Nat→Value→World→Prop}{W:World}{k:Nat}:xX P ops A S W [] k:=trivial
theorem xX.get {P:Program}{ops:Array Oper}{A:(Nat→Value)→Act}{S:Nat→Value→World→Prop}{W:World}:∀ (l:List Oper) (k:Nat),xX P ops A S W l k→∀ j o,l[j]?=some o→
 ∀ (f:Nat→Value) (w:World) (K:Value→World→Prop),Below W.heap.size W w→aI4 S f w (aAQ o)→
  (∀ v w',Below w.heap.size w w'→S (k+j) v w'→K v w')→if Region.wanted o (yielded ops (A f).tmps) then eK P o (A f) w K else K undef w
 | [],_,_,j,_,h=>by simp at h
 | o::l,k,H,0,o',h=>by
  simp at h
  subst h
  exact H.1
 | o::l,k,H,j+1,o',h=>by
  have:=xX.get l (k+1) H.2 j o' (by simpa using h)
  rwa [show k+1+j=k+(j+1) from by omega] at this
theorem aQU {md:Region.Mode}:∀ (l:List Oper) (k:Nat),wE md l k=true→∀ j o,l[j]?=some o→∀ e∈o.after,Region.binds md e=true→e.on<k+j
 | [],_,_,j,_,h=>by simp at h
 | o::l,k,H,0,o',h=>by
  simp at h
  subst h
  unfold wE at H
  rw [Bool.and_eq_true,Array.all_eq_true_iff_forall_mem] at H
  intro e he hb
  have:=H.1 e he
  simpa [hb] using this
 | o::l,k,H,j+1,o',h=>by
  unfold wE at H
  rw [Bool.and_eq_true] at H
  have:=aQU l (k+1) H.2 j o' (by simpa using h)
  rwa [show k+1+j=k+(j+1) from by omega] at this
theorem adN {md:Region.Mode}{l:List Oper}{listed:Array Bool}(hs:listed.size=l.length)(hl:wE md l 0=true)(h:Region.ready md l.toArray listed=[]):∀ j,j<l.length→listed.getD j false=true:=by
 intro j
 induction j using Nat.strongRecOn with
 | _ j ih=>
  intro hj
  by_cases hc:listed.getD j false=true
  ·exact hc
  ·exfalso
   have:j∈Region.ready md l.toArray listed:=by
    rw [mem_ready]
    refine ⟨?_,l[j],by simp [hj],?_⟩
    ·have hj':j<listed.size:=by omega
     simp [hj'] at hc ⊢
     exact hc
    ·intro e he hb
     have hlt:=aQU l 0 hl j l[j] (by simp [hj]) e he hb
     exact ih e.on (by omega) (by omega)
   rw [h] at this
   simp at this
def left (listed:Array Bool):Nat:=listed.toList.countP (fun b=>!b)
theorem adO {listed:Array Bool}{i:Nat}(h:listed.getD i true=false):left listed=left (listed.setIfInBounds i true)+1:=by
 have hi:i<listed.size:=by
  rcases Nat.lt_or_ge i listed.size with h'|h'
  ·exact h'
  ·simp [Array.getD,Nat.not_lt.2 h'] at h
 have hv:listed.toList[i]'(by simpa using hi)=false:=by simpa [Array.getD,hi] using h
 unfold left
 rw [Array.toList_setIfInBounds,List.countP_set (by simpa using hi)]
 simp only [hv,Bool.not_false,Bool.not_true,if_true,Bool.false_eq_true,if_false]
 have hp:0<listed.toList.countP (fun b=>!b):=List.countP_pos_iff.2 ⟨false,by rw [←hv];exact List.getElem_mem _,rfl⟩
 omega
theorem adP {listed:Array Bool}(h:left listed=0):∀ j,j<listed.size→listed.getD j false=true:=by
 intro j hj
 unfold left at h
 rw [List.countP_eq_zero] at h
 have:=h (listed.toList[j]'(by simpa using hj)) (List.getElem_mem _)
 simpa [Array.getD,hj] using this
section
variable {P:Program}{l:List Oper}{A:(Nat→Value)→Act}{S:Nat→Value→World→Prop}{W:World}{Q:Exit→Act→World→Prop}
end
end Go.Proofs.YtnklgkjfoggpbaaGreatDoor
namespace Go.Proofs.YtnklgkjfoggpbaaGreatDoor
def aBS:List Nat:=[
  0
 ]
end Go.Proofs.YtnklgkjfoggpbaaGreatDoor
