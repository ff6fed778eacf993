/- Parts of the proof of a law of this seat: rules and contracts; no conditions. -/
import Derived.WalkKit
import Derived.WalkSpells
import Derived.WalkLawsBesides
import Derived.Maps.AppendAt
import Derived.Deep.AppendLies
import Derived.Lib.AppendStr
import Derived.Lib.AppendZeros
import Derived.Lib.Hide
import Derived.Deep.RegionWith
import Derived.Deep.QuietTactic
import Derived.BigQuiet
import Derived.StillTailTactics
import Derived.Deep.LoopGhost
import Derived.Deep.DeepCutAuto
import Derived.Deep.DeepFit
import Derived.Deep.DeepMust
import Derived.Deep.RegionHeld3
import Derived.Deep.RegionLaw
import Derived.Laws.BytesArg
import Derived.Laws.IdiomStrings
import Derived.Maps.Range
set_option maxHeartbeats 6400000
set_option maxRecDepth 100000
set_option linter.unusedVariables false
set_option linter.unusedSimpArgs false
namespace Go.Proofs.YtgajclaoaphgoaaGreatDoor
open Go.RowKit
def Rd (w:World)(B:Nat)(A:Option Addr)(xs:List Value):Prop:=
 0<xs.length→∃ b o,A=some ⟨b,o,none⟩∧b<B∧∀ j u,xs[j]?=some u→w.cell? ⟨b,o+j,none⟩=some u
def bA (w:World)(base:Nat)(e:TypeId)(v:Value)(xs:List Value):Prop:=w.ownsRow base e 1 v xs.length xs
section
variable {w w':World}{B B' base:Nat}{e:TypeId}{A:Option Addr}{xs ys:List Value}{v:Value}
theorem Rd.nil (w:World)(B:Nat)(A:Option Addr):Rd w B A []:=fun h=>absurd h (by simp)
theorem Rd.get (h:Rd w B A xs){k:Nat}(hk:k<xs.length):∃ b o,A=some ⟨b,o,none⟩∧b<B∧w.cell? ⟨b,o+k,none⟩=some xs[k]:=by
 obtain ⟨b,o,e,hb,hc⟩:=h (by omega);exact ⟨b,o,e,hb,hc k _ (List.getElem?_eq_getElem hk)⟩
theorem Rd.keep (h:Rd w B A xs)(hk:∀ b o,b<B→w'.cell? ⟨b,o,none⟩=w.cell? ⟨b,o,none⟩):Rd w' B A xs:=fun hn=>by
 obtain ⟨b,o,e,hb,hc⟩:=h hn;exact ⟨b,o,e,hb,fun j u hu=>(hk b _ hb).trans (hc j u hu)⟩
theorem Rd.more (h:Rd w B A xs)(hB:B≤B'):Rd w B' A xs:=fun hn=>by
 obtain ⟨b,o,e,hb,hc⟩:=h hn;exact ⟨b,o,e,by omega,hc⟩
theorem Rd.below (h:Rd w B A xs)(hb:Below B w w'):Rd w' B A xs:=h.keep fun _ _ hp=>hb.cell hp
theorem Rd.drew (h:Rd w B A xs):Rd w.drew B A xs:=h
theorem Rd.alloc (h:Rd w B A xs)(hB:B≤w.heap.size)(o:Obj):Rd (w.alloc o) B A xs:=h.keep fun _ _ hp=>World.cell?_alloc_lt w o _ (by simp;omega)
theorem Rd.new (w:World)(cs:List Value)(t:TypeId):Rd (w.alloc (.cells cs.toArray t)) (w.alloc (.cells cs.toArray t)).heap.size (some ⟨w.heap.size,0,none⟩) cs:=fun _=>
 ⟨w.heap.size,0,rfl,by simp,fun j u hu=>by
  rw [Nat.zero_add,cell_of_row (w.alloc (.cells cs.toArray t)) w.heap.size j cs.toArray t (0,0) (heap_alloc_new w _)];simpa using hu⟩
theorem Rd.setCell (h:Rd w B A xs){p:Addr}(hB:B≤p.block)(u:Value):Rd (w.setCell p u) B A xs:=
 h.keep fun b o hq=>World.cell?_setCell_other w p ⟨b,o,none⟩ u (fun e=>by subst e;simp at hB;omega)
theorem Rd.grown (h:Rd w B A xs){row:Option Nat}(hg:w.grownBy w' row)(hB:B≤w.heap.size)(hr:∀ g,row=some g→B≤g):Rd w' B A xs:=
 h.keep fun b o hp=>World.cell?_of_block (a:=⟨b,o,none⟩) (hg.block b (by omega) (fun e=>by have:=hr _ e.symm;omega))
theorem Rd.drop (h:Rd w B A xs)(k cap:Nat)(hk:k≤xs.length)(hc:xs.length≤cap):Rd w B (if cap=k then A else A.map (·.add k)) (xs.drop k):=fun hn=>by
 rw [List.length_drop] at hn;obtain ⟨b,o,rfl,hb,hcell⟩:=h (by omega);rw [if_neg (by omega)];refine ⟨b,o+k,by simp [Addr.add_lit],hb,fun j u hu=>?_⟩;rw [List.getElem?_drop] at hu;have:=hcell _ _ hu;rwa [←Nat.add_assoc] at this
theorem Rd.take (h:Rd w B A xs)(k:Nat):Rd w B A (xs.take k):=fun hn=>by
 rw [List.length_take] at hn;obtain ⟨b,o,rfl,hb,hcell⟩:=h (by omega);refine ⟨b,o,rfl,hb,fun j u hu=>hcell j u ?_⟩;rw [List.getElem?_take] at hu;split at hu
 ·exact hu
 cases hu
theorem bA.nil (w:World)(base:Nat)(e:TypeId):bA w base e (.slice none 0 0) []:=⟨by simp,.inl ⟨rfl,rfl⟩⟩
theorem bA.form (h:bA w base e v xs):∃ A c,v=.slice A xs.length c∧xs.length≤c∧c≤maxLen∧Rd w w.heap.size A xs∧(∀ g,v.ownBlock=some g→base≤g∧g<w.heap.size):=by
 rcases h.2 with ⟨rfl,h0⟩|⟨g,cap,cur,rfl,hb,hg,hn,hc,hs,ht⟩
 ·have:xs=[]:=List.eq_nil_of_length_eq_zero h0;subst this;exact ⟨none,0,rfl,by simp,by simp [maxLen],Rd.nil _ _ _,fun g hg=>by simp [Value.ownBlock] at hg⟩
 refine ⟨some ⟨g,0,none⟩,cap,rfl,hn,hc,fun _=>⟨g,0,rfl,(Array.getElem?_eq_some_iff.1 hg).1,fun j u hu=>?_⟩,fun g' hg'=>?_⟩
 ·rw [cell_of_row w g (0+j) cur e (0,0) hg,Nat.zero_add];rw [←ht,List.getElem?_take] at hu;split at hu
  ·simpa using hu
  cases hu
 simp [Value.ownBlock] at hg';subst hg';exact ⟨hb,(Array.getElem?_eq_some_iff.1 hg).1⟩
theorem bA.cast (h:bA w base e v xs)(he:xs=ys):bA w base e v ys:=he ▸ h
theorem bA.rd {n c:Nat}(h:bA w base e (.slice A n c) xs):n=xs.length∧n≤c∧Rd w w.heap.size A xs:=by
 obtain ⟨A',c',hv,hc,_,hr,_⟩:=h.form;injection hv with h1 h2 h3
 subst h1;subst h2;subst h3
 exact ⟨rfl,hc,hr⟩
theorem bA.block (h:bA w base e v xs):∀ g,v.ownBlock=some g→base≤g∧g<w.heap.size:=by
 obtain ⟨_,_,_,_,_,_,h⟩:=h.form;exact h
theorem bA.keep (h:bA w base e v xs)(hk:∀ g,v.ownBlock=some g→w'.heap[g]?=w.heap[g]?):bA w' base e v xs:=by
 refine ⟨h.1,?_⟩;rcases h.2 with hn|⟨g,cap,cur,rfl,hb,hg,r⟩
 ·exact .inl hn
 exact .inr ⟨g,cap,cur,rfl,hb,(hk g rfl).trans hg,r⟩
theorem bA.below (h:bA w base e v xs)(hb:Below w.heap.size w w'):bA w' base e v xs:=h.keep fun g hg=>hb.block g (h.block g hg).2
theorem bA.less (h:bA w base e v xs)(hb:B≤base):bA w B e v xs:=by
 refine ⟨h.1,?_⟩;rcases h.2 with hn|⟨g,cap,cur,rfl,hb',r⟩
 ·exact .inl hn
 exact .inr ⟨g,cap,cur,rfl,by omega,r⟩
theorem bA.take {n c:Nat}(h:bA w base e (.slice A n c) xs)(k:Nat)(hk:k≤n):bA w base e (.slice A k c) (xs.take k):=by
 have hn:=h.rd.1;subst hn;rcases h.2 with ⟨hv,h0⟩|⟨g,cap,cur,hv,hb,hg,hn,hc,hs,ht⟩
 ·have:xs=[]:=List.eq_nil_of_length_eq_zero h0;subst this;obtain rfl:k=0:=by simpa using hk
  obtain ⟨rfl,_,rfl⟩:=Value.slice.inj hv;exact bA.nil _ _ _
 obtain ⟨rfl,_,rfl⟩:=Value.slice.inj hv;have hl:(xs.take k).length=k:=by rw [List.length_take];omega
 refine ⟨by omega,.inr ⟨g,c,cur,by rw [hl],hb,hg,by omega,hc,hs,?_⟩⟩;rw [hl,Nat.mul_one,←ht,List.take_take,Nat.mul_one,Nat.min_eq_left hk]
theorem bA.drew (h:bA w base e v xs):bA w.drew base e v xs:=h
theorem bA.alloc (h:bA w base e v xs)(o:Obj):bA (w.alloc o) base e v xs:=World.ownsRow.alloc h o
theorem bA.grown (h:bA w base e v xs){row:Option Nat}(hg:w.grownBy w' row)(hne:∀ g,v.ownBlock=some g→row≠some g):bA w' base e v xs:=
 h.keep fun g hb=>hg.block g (h.block g hb).2 (fun e=>hne g hb e.symm)
def cb (k:IntKind)(zs:List Int):List Value:=zs.map (Value.int k)
@[simp] theorem mL (k:IntKind)(zs:List Int):(cb k zs).length=zs.length:=by simp [cb]
theorem tP (k:IntKind)(xs ys:List Int):cb k (xs++ys)=cb k xs++cb k ys:=by simp [cb]
theorem zE (k:IntKind)(zs:List Int):∀ u∈cb k zs,u.oneCell'=true:=ints_oneCell k zs
theorem adD (s:ByteArray):Lib.strCells s=cb .u8 (s.data.toList.map fun b=>(b.toNat:Int)):=by simp [Lib.strCells,cb]
theorem Rd.num {k:IntKind}{zs:List Int}(h:Rd w B A (cb k zs)){i:Nat}(hi:i<zs.length):∃ b o,A=some ⟨b,o,none⟩∧b<B∧w.cell? ⟨b,o+i,none⟩=some (.int k zs[i]):=by
 obtain ⟨b,o,e,hb,hc⟩:=h.get (k:=i) (by simpa using hi);refine ⟨b,o,e,hb,hc.trans ?_⟩;simp [cb]
def kG (w:World)(e:TypeId)(xs:List Value)(en:Ending)(w':World):Prop:=∃ A n c,en=.returned (.slice A n c)∧bA w' w.heap.size e (.slice A n c) xs∧Below w.heap.size w w'
theorem bA.new (w:World)(cs:List Value)(e:TypeId)(n:Nat)(hn:n=cs.length)(hb:base≤w.heap.size)(hm:n≤9223372036854775807):bA (w.alloc (.cells cs.toArray e)) base e (.slice (some ⟨w.heap.size,0,none⟩) n n) cs:=by
 subst hn;have:=World.ownsRow_lit (base:=base) (e:=e) (size:=1) w cs.toArray cs.length hb (by simp only [maxLen];omega) (by simp);simpa [bA] using this
def bI (w:World)(g:Nat)(t:TypeId)(cs:List Value):Prop:=w.heap[g]?=some (.cells cs.toArray t (0,0))
section
variable {g:Nat}{t:TypeId}{cs:List Value}
theorem bI.lt (h:bI w g t cs):g<w.heap.size:=(Array.getElem?_eq_some_iff.1 h).1
theorem bI.cell (h:bI w g t cs)(i:Nat):w.cell? ⟨g,i,none⟩=cs[i]?:=by
 rw [cell_of_row w g i cs.toArray t (0,0) h];simp
theorem bI.frozen (h:bI w g t cs)(i:Nat):w.frozen? ⟨g,i,none⟩=false:=by
 unfold bI at h;simp [World.frozen?,h]
theorem bI.new (w:World)(t:TypeId)(cs:List Value):bI (w.alloc (.cells cs.toArray t)) w.heap.size t cs:=heap_alloc_new w _
theorem bI.drew (h:bI w g t cs):bI w.drew g t cs:=h
theorem bI.alloc (h:bI w g t cs)(o:Obj):bI (w.alloc o) g t cs:=(Below.heap_alloc w o g h.lt).trans h
theorem bI.below (h:bI w g t cs)(hb:Below B w w')(hg:g<B):bI w' g t cs:=(hb.block g hg).trans h
theorem bI.far (h:bI w g t cs){p:Addr}(hp:g≠p.block)(u:Value):bI (w.setCell p u) g t cs:=(Below.heap_setCell w p u g hp).trans h
theorem bI.set_ (h:bI w g t cs)(i:Nat)(u:Value):bI (w.setCell ⟨g,i,none⟩ u) g t (cs.set i u):=by
 unfold bI at h ⊢;simp [World.setCell,Array.getElem?_modify,h]
theorem bI.cast {ds:List Value}(h:bI w g t cs)(e:cs=ds):bI w g t ds:=e ▸ h
theorem bI.one {a:Value}(h:bI w g t [a]):w.cell? ⟨g,0,none⟩=some a∧w.frozen? ⟨g,0,none⟩=false:=⟨h.cell 0,h.frozen 0⟩
theorem bI.two {a b:Value}(h:bI w g t [a,b]):w.cell? ⟨g,0,none⟩=some a∧w.cell? ⟨g,1,none⟩=some b∧w.frozen? ⟨g,0,none⟩=false∧w.frozen? ⟨g,1,none⟩=false:=⟨h.cell 0,h.cell 1,h.frozen 0,h.frozen 1⟩
theorem bI.three {a b c:Value}(h:bI w g t [a,b,c]):w.cell? ⟨g,0,none⟩=some a∧w.cell? ⟨g,1,none⟩=some b∧w.cell? ⟨g,2,none⟩=some c∧w.frozen? ⟨g,0,none⟩=false∧w.frozen? ⟨g,1,none⟩=false∧w.frozen? ⟨g,2,none⟩=false:=
 ⟨h.cell 0,h.cell 1,h.cell 2,h.frozen 0,h.frozen 1,h.frozen 2⟩
end
theorem pF {a:World}(h:Below B a w)(hg:w.grownBy w' v.ownBlock)(ho:bA w base e v xs)(hB:B≤base)(hs:B≤w.heap.size):Below B a w':=
 h.grown hg hs fun k hk=>by have:=(ho.block k hk).1;omega
end
theorem adE (n k:Int):(0≤n∧n.tmod k=n%k)∨(n<0∧n.tmod k=-((-n)%k)):=by
 by_cases h:0≤n
 ·exact .inl ⟨h,Int.tmod_eq_emod_of_nonneg h⟩
 refine .inr ⟨by omega,?_⟩;have:n.tmod k=-((-n).tmod k):=by rw [Int.neg_tmod,Int.neg_neg]
 rw [this,Int.tmod_eq_emod_of_nonneg (by omega)]
theorem vH (k:IntKind)(n:Int):∀ u∈[Value.int k n],u.oneCell'=true:=by
 intro u hu;rw [List.mem_singleton] at hu;subst hu;rfl
theorem adF (k:IntKind)(n m:Int):∀ u∈[Value.int k n,Value.int k m],u.oneCell'=true:=by
 intro u hu;simp only [List.mem_cons,List.not_mem_nil,or_false] at hu;rcases hu with rfl|rfl<;>rfl
theorem adG (n:Int):IntKind.u16.wrap n=n%65536:=by simp [IntKind.wrap,IntKind.bits,IntKind.signed]
theorem aQS (n:Int):IntKind.i16.wrap n=(n+32768)%65536-32768:=by simp only [IntKind.wrap,IntKind.bits,IntKind.signed];simp;split<;>omega
theorem wD (n:Int):IntKind.u64.wrap n=n%18446744073709551616:=by simp [IntKind.wrap,IntKind.bits,IntKind.signed]
theorem aGA {k:IntKind}{a b:Int}(h:a=b):Ending.returned (.int k a)=.returned (.int k b):=by rw [h]
theorem aH1 (a b i:Nat)(h:b<2^i):(2^i*a||| b)=2^i*a+b:=(Nat.two_pow_add_eq_or_of_lt h a).symm
theorem adH (a b i:Nat)(hb:b<2^i)(h:2^i*a+b<18446744073709551616):bits .or .u64 ((2^i*a:Nat):Int) (b:Int)=((2^i*a+b:Nat):Int):=by
 rw [u64_or_nat _ _ (by omega) (by omega),aH1 a b i hb]
theorem aF3 (a:Nat)(ha:a<9223372036854775808):(BitVec.ofInt 64 (a:Int)).toNat=a:=by
 rw [BitVec.ofInt_natCast,BitVec.toNat_ofNat];exact Nat.mod_eq_of_lt (by omega)
theorem adI (a b:Nat)(ha:a<9223372036854775808)(hb:b<9223372036854775808):bits .or .i64 (a:Int) (b:Int)=((a||| b:Nat):Int):=by
 have hx:a||| b<2^63:=Nat.or_lt_two_pow (by omega) (by omega)
 show IntKind.i64.wrap ((BitVec.ofInt 64 (a:Int)||| BitVec.ofInt 64 (b:Int)).toNat:Int)=_;rw [BitVec.toNat_or,aF3 a ha,aF3 b hb,IntKind.wrap_i64];omega
theorem adJ (a b i:Nat)(hb:b<2^i)(h:2^i*a+b<9223372036854775808):bits .or .i64 (b:Int) ((2^i*a:Nat):Int)=((b+2^i*a:Nat):Int):=by
 rw [adI _ _ (by omega) (by omega),Nat.or_comm,aH1 a b i hb,Nat.add_comm]
section
variable {P:Program}{w:World}{ops:Array Oper}{rest:List Oper}{o:Oper}{a:Act}{Q:Exit→Act→World→Prop}
structure Elem (P:Program) (t e:TypeId) (z:Value) (bytes:Nat):Prop where
 slice:P.underlying t=some (.slice e)
 info:∃ i,P.info? e=some i∧i.zero=some z∧i.size=1∧i.bytes=bytes
 one:z.cells=#[z]
theorem aQT {t e ty:TypeId}{z:Value}{bytes:Nat}(E:Elem P t e z bytes){base:Nat}{v:Value}{xs:List Value}(hown:bA w base e v xs){B:Nat}{A:Option Addr}{m c:Nat}{news:List Value}
 (hr:Rd w B A news) (hm:m=news.length) (h1:∀ u∈news,u.oneCell'=true) (hb:(xs.length+news.length)*bytes≤140737488355328) (h63:xs.length+news.length≤9223372036854775807) (hbase:base≤w.heap.size):
 ∃ v' w',(Builtin.append_ #[t,t] ty #[v,.slice A m c]).run P w=.ok v' w'∧bA w' base e v' (xs++news)∧w.grownBy w' v.ownBlock∧(v'.ownBlock=v.ownBlock∨v'.ownBlock=some w.heap.size):=by
 obtain ⟨i,hi,hz,hsz,hby⟩:=E.info;subst hm;by_cases h0:news.length=0
 ·have hn:news=[]:=List.eq_nil_of_length_eq_zero h0;subst hn;refine ⟨v,w,?_,by simpa [bA] using hown,World.grownBy.refl w _,.inl rfl⟩;rcases A with _|ad
  ·rcases hown.2 with ⟨rfl,_⟩|⟨g,cap,cur,rfl,_,_,hnc,_⟩
   ·simp [Builtin.append_,run_underlying E.slice,sizeOf,typeInfo,hi,Builtin.lenOf,Builtin.firstCells]
   simp [Builtin.append_,run_underlying E.slice,sizeOf,typeInfo,hi,Builtin.lenOf,Builtin.firstCells,hnc,storeCells]
  have hf:∀ s:Nat,(Builtin.firstCells s 0 (.slice (some ad) 0 c)).run P w=.ok #[] w:=fun s=>by
   have:=run_firstCells_some (P:=P) w s 0 ad 0 c [] (by simp) (by simp);simpa using this
  have hn:∀ s:Nat,(Builtin.firstCells s 0 (.slice none 0 0)).run P w=.ok #[] w:=fun s=>run_firstCells_none w s 0 0 0;rcases hown.2 with ⟨rfl,_⟩|⟨g,cap,cur,rfl,_,_,hnc,_⟩
  ·simp [Builtin.append_,run_underlying E.slice,sizeOf,typeInfo,hi,Builtin.lenOf,hf]
  simp [Builtin.append_,run_underlying E.slice,sizeOf,typeInfo,hi,Builtin.lenOf,hf,hnc,storeCells]
 obtain ⟨b,off,rfl,_,hc⟩:=hr (by omega);obtain ⟨v',w',r,h2,h3,_,h5⟩:=run_append_own_at (P:=P) w base t ty e i z 1 bytes E.slice hi hz hsz hby (by rw [E.one];rfl) (by omega) v xs.length xs hown ⟨b,off,none⟩ news.length c news (by omega)
  (fun j u hu=>by rw [Addr.add_lit];exact hc j u hu) h1 (by simp only [maxLen];omega) hb hbase
 exact ⟨v',w',r,by simpa [bA] using h2,h3,h5⟩
theorem adK {t e:TypeId}{z:Value}{bytes:Nat}(E:Elem P t e z bytes)(hgd:o.guard=none)(s x:Operand)
 (ho:o.op=.call { callee:=.builtin .append,args:=#[s,x],argTypes:=#[t,t] }) {base:Nat} {v:Value} {xs:List Value} (hs:a.eval s=v) (hown:bA w base e v xs) {B:Nat} {A:Option Addr} {m c:Nat} {news:List Value}
 (hx:a.eval x=.slice A m c) (hr:Rd w B A news) (hm:m=news.length) (h1:∀ u∈news,u.oneCell'=true) (hb:(xs.length+news.length)*bytes≤140737488355328) (h63:xs.length+news.length≤9223372036854775807) (hbase:base≤w.heap.size)
 (h:∀ A' n' c' w',bA w' base e (.slice A' n' c') (xs++news)→w.grownBy w' v.ownBlock→((Value.slice A' n' c').ownBlock=v.ownBlock∨(Value.slice A' n' c').ownBlock=some w.heap.size)→
  wpList P ops Q rest (a.put o.dst (.slice A' n' c')) w'):wpList P ops Q (o::rest) a w:=by
 obtain ⟨v',w',hrun,h2,h3,h4⟩:=aQT (ty:=o.type) E hown (c:=c) hr hm h1 hb h63 hbase;refine wpList_plain hgd fun K hK=>?_;unfold Oper.wp execOp;simp only [ho,resolve,invoke,builtin,Sem.run_bind,Sem.run_pure,Result.andThen_ok,List.map_toArray,List.map_cons,List.map_nil,hs,hx,hrun];obtain ⟨A',c',rfl,_⟩:=h2.form;exact hK _ _ (h A' _ c' w' h2 h3 h4)
theorem rD {t e:TypeId}{z:Value}{bytes:Nat}(E:Elem P t e z bytes)(hgd:o.guard=none)(s x:Operand)
 (ho:o.op=.call { callee:=.builtin .append,args:=#[s,x],argTypes:=#[t,t] }) {base:Nat} {v:Value} {xs:List Value} (hs:a.eval s=v) (hown:bA w base e v xs) {B:Nat} {A:Option Addr} {m c:Nat} {news:List Value}
 (hx:a.eval x=.slice A m c) (hr:Rd w B A news) (hm:m=news.length) (h1:∀ u∈news,u.oneCell'=true) (hb:(xs.length+news.length)*bytes≤140737488355328) (h63:xs.length+news.length≤9223372036854775807) (hbase:base≤w.heap.size)
 (h:∀ A' n' c' w',bA w' base e (.slice A' n' c') (xs++news)→w.grownBy w' v.ownBlock→wpList P ops Q rest (a.put o.dst (.slice A' n' c')) w'):wpList P ops Q (o::rest) a w:=
 adK E hgd s x ho hs hown hx hr hm h1 hb h63 hbase fun A' n' c' w' h2 h3 _=>h A' n' c' w' h2 h3
theorem adL {t e tn:TypeId}{kn:IntKind}{z:Value}{bytes:Nat}(E:Elem P t e z bytes)(htn:P.underlying tn=some (.int kn))(hgd:o.guard=none)(s x:Operand)
 (ho:o.op=.call { callee:=.builtin .append,args:=#[s,x],argTypes:=#[t,tn] }) (hs:a.eval s=.slice none 0 0) {k:IntKind} {n:Nat} (hx:a.eval x=.int k n) (h0:0<n) (hb:n*bytes≤281474976710656) (h63:n≤9223372036854775807)
 (h:∀ A c w',bA w' w.heap.size e (.slice A n c) (List.replicate n z)→Below w.heap.size w w'→wpList P ops Q rest (a.put o.dst (.slice A n c)) w'):wpList P ops Q (o::rest) a w:=by
 obtain ⟨i,hi,hz,hsz,hby⟩:=E.info;have hrun:=Lib.run_append_nil_zeros (P:=P) w t tn o.type e i z k kn E.slice htn hi hz n h0 (by omega) (by omega) (by rw [hby];exact hb);refine Lib.wpList_append_run w hgd s x t tn ho _ _ hs hx _ _ hrun (h _ _ _ ?_ ?_)
 ·have hc:=grownCap_ge w n 0 e;have hm:=grownCap_le_maxLen w n 0 e (by simp only [maxLen];omega);have hl:∀ m,(Builtin.zeroCells z.cells m).toList=List.replicate m z:=by
   intro m;rw [E.one];apply List.ext_getElem?;intro j;by_cases hj:j<m
   ·simp [Builtin.zeroCells,hj,Nat.mod_one]
   simp [Builtin.zeroCells,hj]
  refine ⟨by simp,.inr ⟨w.heap.size,grownCap w n 0 e,_,by simp,Nat.le_refl _,heap_alloc_new _ _,by simpa using hc,hm,?_,?_⟩⟩
  ·simp [size_zeroCells,E.one];omega
  rw [Array.toList_append,hl,hl,List.length_replicate,Nat.mul_one,List.take_append_of_le_length (by simp),List.take_of_length_le (by simp)]
 exact (Below.refl _ _).drew.alloc (Nat.le_refl _) _
theorem adM {t e u:TypeId}(E:Elem P t e (.int .u8 0) 1)(hu:P.underlying u=some .string)(hgd:o.guard=none)(sl x:Operand)
 (ho:o.op=.call { callee:=.builtin .append,args:=#[sl,x],argTypes:=#[t,u] }) {base:Nat} {v:Value} {xs:List Value} (hs:a.eval sl=v) (hown:bA w base e v xs) {s:ByteArray} (hx:a.eval x=.string s)
 (hb:xs.length+s.size≤140737488355328) (hbase:base≤w.heap.size)
 (h:∀ A' n' c' w',bA w' base e (.slice A' n' c') (xs++Lib.strCells s)→w.grownBy w' v.ownBlock→wpList P ops Q rest (a.put o.dst (.slice A' n' c')) w'):wpList P ops Q (o::rest) a w:=by
 obtain ⟨i,hi,hz,hsz,hby⟩:=E.info;obtain ⟨v',w',hrun,h2,h3,_⟩:=Lib.run_append_own_string (P:=P) w base t u o.type e i E.slice hu hi hz hsz hby v xs.length xs hown s (by simp only [maxLen];omega) hb hbase;have h2':bA w' base e v' (xs++Lib.strCells s):=by simpa [bA,Lib.strCells_length] using h2
 refine wpList_plain hgd fun K hK=>?_;unfold Oper.wp execOp;simp only [ho,resolve,invoke,builtin,Sem.run_bind,Sem.run_pure,Result.andThen_ok,List.map_toArray,List.map_cons,List.map_nil,hs,hx,hrun];obtain ⟨A',c',rfl,_⟩:=h2'.form;exact hK _ _ (h A' _ c' w' h2' h3)
theorem aAP {src e dst:TypeId}(hs:P.underlying src=some (.slice e))(he:P.underlying e=some (.int .u8))(hd:P.underlying dst=some .string){B:Nat}{A:Option Addr}{n c:Nat}{xs:List Int}(hr:Rd w B A (cb .u8 xs))(hn:n=xs.length):
 (convert src dst (.slice A n c)).run P w=.ok (.string (strOfNums xs)) w:=by
 subst hn;by_cases h0:xs.length=0
 ·have hx:xs=[]:=List.eq_nil_of_length_eq_zero h0;subst hx;rcases A with _|ad
  ·exact run_convert_bytes_nil w src e hs he _ c dst hd
  rw [run_convert_bytes_string w src dst e _ _ c hs he hd];have:=run_bytesToString (P:=P) w ad 0 c [] (by
   have:=run_loadCells_list (P:=P) w ad [] (by simp);simpa using this)
  exact this
 obtain ⟨b,o,rfl,_,hc⟩:=hr (by simp;omega);refine run_convert_bytes_arg w src e hs he b o _ c xs rfl (fun i hi=>?_) dst hd;rw [hc i (.int .u8 xs[i]) (by simp [cb,List.getElem?_eq_getElem hi])];simp [List.getD,List.getElem?_eq_getElem hi]
theorem arJ {src e dst:TypeId}(hs:P.underlying src=some .string)(hd:P.underlying dst=some (.slice e))(he:P.underlying e=some (.int .u8))(w:World)(s:ByteArray):
 ∃ A c w',(convert src dst (.string s)).run P w=.ok (.slice A s.size c) w'∧Rd w' w'.heap.size A (Lib.strCells s)∧Below w.heap.size w w':=by
 have hrun:=run_bytes_of_string (P:=P) w src dst e s hs hd he;refine ⟨_,_,_,hrun,fun _=>⟨w.heap.size,0,rfl,by simp,fun j u hu=>?_⟩,((Below.refl _ _).drew.alloc (Nat.le_refl _) _)⟩;have hj:j<s.data.size:=by
  have:=(List.getElem?_eq_some_iff.1 hu).1;rw [Lib.strCells_length] at this;exact this
 rw [Nat.zero_add,cell_of_row (w.drew.alloc _) w.heap.size j _ e _ (heap_alloc_new w.drew _),bytesRow_at _ _ _ hj];rw [←hu,Lib.strCells,List.getElem?_map,Array.getElem?_toList,Array.getElem?_eq_getElem hj];rfl
theorem arK {src e dst:TypeId}(hs:P.underlying src=some .string)(hd:P.underlying dst=some (.slice e))(he:P.underlying e=some (.int .u8))(hgd:o.guard=none)(x:Operand)
 (ho:o.op=.convert src dst x) {s:ByteArray} (hx:a.eval x=.string s)
 (h:∀ A c w',Rd w' w'.heap.size A (Lib.strCells s)→Below w.heap.size w w'→wpList P ops Q rest (a.put o.dst (.slice A s.size c)) w'):wpList P ops Q (o::rest) a w:=by
 obtain ⟨A,c,w',hrun,h2,h3⟩:=arJ (P:=P) hs hd he w s;refine wpList_plain hgd fun K hK=>?_;unfold Oper.wp execOp;simp only [ho,hx,hrun,Sem.run_bind,Result.andThen_ok];exact hK _ _ (h A c w' h2 h3)
end
def fM (P:Program)(K:Value→World→Prop):Result Next→Prop
 | .ok (.value v) w'=>K v w'
 | .ok .skip w'=>K undef w'
 | .ok (.enter f args) w'=>Calls P f args w' fun e w''=>∃ v,e=.returned v∧K v w''
 | _=>False
def eK (P:Program)(o:Oper)(a:Act)(w:World)(K:Value→World→Prop):Prop:=fM P K ((execOp a.eval o).run P w)
attribute [go_sem] eK fM
def wE (md:Region.Mode):List Oper→Nat→Bool
 | [],_=>true
 | o::l,k=>o.after.all (fun e=>!Region.binds md e||decide (e.on<k))&&wE md l (k+1)
def aI4 (S:Nat→Value→World→Prop)(f:Nat→Value)(w:World):List Nat→Prop
 | []=>True
 | j::l=>S j (f j) w∧aI4 S f w l
def aI5:List Edge→List Nat
 | []=>[]
 | e::l=>if Region.binds .any e=true then e.on::aI5 l else aI5 l
def aAQ (o:Oper):List Nat:=aI5 o.after.toList
def xX (P:Program)(ops:Array Oper)(A:(Nat→Value)→Act)(S:Nat→Value→World→Prop)(W:World):List Oper→Nat→Prop
 | [],_=>True
 | o::l,k=>(∀ (f:Nat→Value) (w:World) (K:Value→World→Prop),Below W.heap.size W w→aI4 S f w (aAQ o)→
  (∀ v w',Below w.heap.size w w'→S k v w'→K v w')→if Region.wanted o (yielded ops (A f).tmps) then eK P o (A f) w K else K undef w)∧xX P ops A S W l (k+1)
theorem xX.nil_ {P:Program}{ops:Array Oper}{A:(Nat→Value)→Act}{S:Nat→Value→World→Prop}{W:World}{k:Nat}:xX P ops A S W [] k:=trivial
theorem xX.get {P:Program}{ops:Array Oper}{A:(Nat→Value)→Act}{S:Nat→Value→World→Prop}{W:World}:∀ (l:List Oper) (k:Nat),xX P ops A S W l k→∀ j o,l[j]?=some o→
 ∀ (f:Nat→Value) (w:World) (K:Value→World→Prop),Below W.heap.size W w→aI4 S f w (aAQ o)→
  (∀ v w',Below w.heap.size w w'→S (k+j) v w'→K v w')→if Region.wanted o (yielded ops (A f).tmps) then eK P o (A f) w K else K undef w
 | [],_,_,j,_,h=>by simp at h
 | o::l,k,H,0,o',h=>by
  simp at h;subst h;exact H.1
 | o::l,k,H,j+1,o',h=>by
  have:=xX.get l (k+1) H.2 j o' (by simpa using h);rwa [show k+1+j=k+(j+1) from by omega] at this
theorem aQU {md:Region.Mode}:∀ (l:List Oper) (k:Nat),wE md l k=true→∀ j o,l[j]?=some o→∀ e∈o.after,Region.binds md e=true→e.on<k+j
 | [],_,_,j,_,h=>by simp at h
 | o::l,k,H,0,o',h=>by
  simp at h;subst h;unfold wE at H;rw [Bool.and_eq_true,Array.all_eq_true_iff_forall_mem] at H;intro e he hb;have:=H.1 e he;simpa [hb] using this
 | o::l,k,H,j+1,o',h=>by
  unfold wE at H;rw [Bool.and_eq_true] at H;have:=aQU l (k+1) H.2 j o' (by simpa using h);rwa [show k+1+j=k+(j+1) from by omega] at this
theorem adN {md:Region.Mode}{l:List Oper}{listed:Array Bool}(hs:listed.size=l.length)(hl:wE md l 0=true)(h:Region.ready md l.toArray listed=[]):∀ j,j<l.length→listed.getD j false=true:=by
 intro j
 induction j using Nat.strongRecOn with
 | _ j ih=>
  intro hj;by_cases hc:listed.getD j false=true
  ·exact hc
  exfalso;have:j∈Region.ready md l.toArray listed:=by
   rw [mem_ready];refine ⟨?_,l[j],by simp [hj],?_⟩
   ·have hj':j<listed.size:=by omega
    simp [hj'] at hc ⊢;exact hc
   intro e he hb;have hlt:=aQU l 0 hl j l[j] (by simp [hj]) e he hb;exact ih e.on (by omega) (by omega)
  rw [h] at this;simp at this
def left (listed:Array Bool):Nat:=listed.toList.countP (fun b=>!b)
theorem adO {listed:Array Bool}{i:Nat}(h:listed.getD i true=false):left listed=left (listed.setIfInBounds i true)+1:=by
 have hi:i<listed.size:=by
  rcases Nat.lt_or_ge i listed.size with h'|h'
  ·exact h'
  simp [Array.getD,Nat.not_lt.2 h'] at h
 have hv:listed.toList[i]'(by simpa using hi)=false:=by simpa [Array.getD,hi] using h
 unfold left;rw [Array.toList_setIfInBounds,List.countP_set (by simpa using hi)];simp only [hv,Bool.not_false,Bool.not_true,if_true,Bool.false_eq_true,if_false];have hp:0<listed.toList.countP (fun b=>!b):=List.countP_pos_iff.2 ⟨false,by rw [←hv];exact List.getElem_mem _,rfl⟩;omega
theorem adP {listed:Array Bool}(h:left listed=0):∀ j,j<listed.size→listed.getD j false=true:=by
 intro j hj;unfold left at h;rw [List.countP_eq_zero] at h;have:=h (listed.toList[j]'(by simpa using hj)) (List.getElem_mem _);simpa [Array.getD,hj] using this
section
variable {P:Program}{l:List Oper}{A:(Nat→Value)→Act}{S:Nat→Value→World→Prop}{W:World}{Q:Exit→Act→World→Prop}
end
end Go.Proofs.YtgajclaoaphgoaaGreatDoor
namespace Go.Proofs.YtgajclaoaphgoaaGreatDoor
def aBS:List Nat:=[
  0
 ]
open Go.RowKit
inductive Loc where
 | unborn
 | dead
 | nil
 | at (b:Nat)
structure Env where
 w:World
 loc:Nat→Loc
 bad:Nat→Prop
def Env.ok (E:Env)(b:Nat):Prop:=b<E.w.heap.size∧¬ E.bad b∧∀ n,E.loc n≠.at b
inductive Av where
 | any
 | val (v:Value)
 | sl (k n:Nat) (row:Nat→Av)
 | ptr (x:Av)
 | agg (cs:List Av)
 | tup (cs:List Av)
 | clo (f:Nat) (caps:List Av)
 | bm (f:Nat) (first:List Av)
 | own (n off:Nat)
 | osl (k n len:Nat)
 | oss (n off len:Nat)
 | mp (n:Nat)
 | fm (P:Program) (k e:TypeId) (D:DataW Unit)
 | gd (c:Bool) (x:Av)
 | nz (x:Av)
 | frz (q:Bool) (T:TypeId) (xs:List Value)
mutual
def aA (E:Env):Av→Value→Prop
 | .any,_=>True
 | .val x,v=>v=x
 | .sl k n row,v=>∃ A c,v=.slice A n c∧n≤c∧c≤maxLen∧(0<n→∃ b o,A=some ⟨b,o,none⟩∧E.ok b∧∀ j,j<n→∃ u,aA E (row j) u∧u.cells.size=k∧E.w.rangeAt b (o+j*k) u.cells.toList)
 | .ptr x,v=>∃ b o u,v=.pointer (some ⟨b,o,none⟩)∧E.ok b∧aA E x u∧E.w.rangeAt b o u.cells.toList
 | .agg cs,v=>∃ vs:List Value,v=.agg vs.toArray∧aG E cs vs∧∀ u∈vs,u.oneCell'=true
 | .tup cs,v=>∃ vs:List Value,v=.tuple vs.toArray∧aG E cs vs
 | .clo f cs,v=>∃ vs:List Value,v=.func (.func f) #[] vs.toArray∧aG E cs vs
 | .bm f cs,v=>∃ vs:List Value,v=.func (.func f) vs.toArray #[]∧aG E cs vs
 | .own n off,v=>(E.loc n≠.unborn∧∃ p,v=.pointer p)∧∀ b,E.loc n=.at b→v=.pointer (some ⟨b,off,none⟩)
 | .osl k n len,v=>(E.loc n≠.unborn∧(∃ a c,v=.slice a len c)∧(E.loc n=.nil→v=.slice none 0 0∧len=0))∧∀ b,E.loc n=.at b→∃ c cur t,v=.slice (some ⟨b,0,none⟩) len c∧len≤c∧c≤maxLen∧E.w.heap[b]?=some (.cells cur t (0,0))∧cur.size=c*k
 | .oss n off len,v=>(E.loc n≠.unborn∧∃ a c,v=.slice a len c)∧∀ b,E.loc n=.at b→∃ A c cur t,v=.slice A len c∧len≤c∧c≤maxLen∧(0<len→A=some ⟨b,off,none⟩)∧E.w.heap[b]?=some (.cells cur t (0,0))∧off+len≤cur.size
 | .mp n,v=>(E.loc n≠.unborn∧∃ b,v=.map b)∧∀ b,E.loc n=.at b→v=.map (some b)
 | .fm P k e D,v=>∃ b n,v=.map (some b)∧E.ok b∧E.w.ownsMap P k (plainElem P e) b n D
 | .frz q T xs,v=>∃ c g cur,v=(bif q then .pointer (some ⟨g,0,none⟩) else .slice (some ⟨g,0,none⟩) xs.length c)∧xs.length≤c∧E.ok g∧E.w.heap[g]?=some (.cells cur T (0,xs.length))∧∀ (j:Nat) (u:Value),xs[j]?=some u→cur[j]?=some u
 | .gd c x,v=>(c=true→aA E x v)∧(c=false→v=undef)
 | .nz x,v=>aA E x v∧∀ n c,v≠.slice none n c
def aG (E:Env):List Av→List Value→Prop
 | [],vs=>vs=[]
 | x::xs,vs=>∃ v us,vs=v::us∧aA E x v∧aG E xs us
end
def bN:List (Nat × Av)→Nat→Av
 | [],_=>.any
 | (t,x)::r,u=>bif Nat.beq t u then x else bN r u
inductive Hs where
 | unborn
 | dead
 | live (t:TypeId) (cells:List Av)
 | map (P:Program) (k e:TypeId) (D:DataW Unit)
 | iter (P:Program) (k e:TypeId) (D:DataW Unit) (left:Lit→Bool) (cnt:Nat) (last:Option (Value × Value))
 | loop (l N:Nat) (ps:Array Tmp) (assign body:Code) (pe:Option Code) (σ:List (Nat × Av))
def xC (P:Program)(w:World)(r:Nat)(kv:Value × Value):Prop:=(Instr.entry (.pointer (some ⟨r,0,none⟩))).run P w=.ok (.tuple #[kv.1,kv.2]) w
def dI (E:Env)(n:Nat):Hs→Prop
 | .unborn=>E.loc n=.unborn
 | .dead=>E.loc n=.dead
 | .live t cells=>(E.loc n=.nil∧cells=[])∨∃ (b:Nat) (cur:Array Value),E.loc n=.at b∧E.w.heap[b]?=some (.cells cur t (0,0))∧∀ (i:Nat) (y:Av),cells[i]?=some y→∃ u:Value,cur[i]?=some u∧u.oneCell'=true∧aA E y u
 | .map P k e D=>∃ b m,E.loc n=.at b∧E.w.ownsMap P k (plainElem P e) b m D
 | .iter P k e D left cnt last=>∃ b r m,E.loc n=.at r∧E.ok b∧E.w.ranges P k (plainElem P e) b r m D left cnt∧∀ kv,last=some kv→xC P E.w r kv
 | .loop l N ps assign body pe σ=>E.loc n=.at l∧∃ r:Loop,E.w.heap[l]?=some (.loop r)∧r.params=ps∧r.assign=assign∧r.body=body∧r.tmps.size=N∧r.pending=pe∧r.state=(if pe.isNone then .ready else .done)∧∀ t,aA E (bN σ t) (r.tmps.getD t undef)
theorem tN {v:Value}(h:v.oneCell'=true):v.cells=#[v]:=by
 cases v<;>first|rfl|(simp [Value.oneCell'] at h)
def qY (E:Env):Prop:=∀ g∈aBS,E.ok g∧∃ m,E.w.cell? ⟨g,0,none⟩=some (.int .i64 m)
structure Good (E:Env):Prop where
 old:∀ b,E.bad b→b<E.w.heap.size
 inj:∀ n m b,E.loc n=.at b→E.loc m=.at b→n=m
 lt:∀ n b,E.loc n=.at b→b<E.w.heap.size∧¬ E.bad b
 shp:qY E
structure Step (E E':Env) (N:List Nat):Prop where
 os:E'.w.os=E.w.os
 tape:E'.w.tape=E.w.tape
 output:E'.w.output=E.w.output
 size:E.w.heap.size≤E'.w.heap.size
 bad:E'.bad=E.bad
 keep:∀ b,b<E.w.heap.size→(∀ n,E.loc n≠.at b)→E'.w.heap[b]?=E.w.heap[b]?
 same:∀ n,n∉N→E'.loc n=E.loc n∧∀ b,E.loc n=.at b→E'.w.heap[b]?=E.w.heap[b]?
 born:∀ n,E.loc n≠.unborn→E'.loc n≠.unborn
 from_:∀ n b,E'.loc n=.at b→E.loc n=.at b∨(E.loc n=.unborn∧(E.w.heap.size≤b∨∃ m,E.loc m=.at b))
 nil_:∀ n,E'.loc n=.nil→E.loc n=.nil∨E.loc n=.unborn
 shape:∀ n b cur t,E'.loc n=.at b→E.loc n=.at b→E.w.heap[b]?=some (.cells cur t (0,0))→∃ cur',E'.w.heap[b]?=some (.cells cur' t (0,0))∧cur'.size=cur.size
theorem Step.ok {E E':Env}{N:List Nat}(h:Step E E' N){b:Nat}(hb:E.ok b):E'.ok b∧E'.w.heap[b]?=E.w.heap[b]?:=by
 obtain ⟨h1,h2,h3⟩:=hb;refine ⟨⟨Nat.lt_of_lt_of_le h1 h.size,by rwa [h.bad],fun n hn=>?_⟩,h.keep b h1 h3⟩;rcases h.from_ n b hn with h4|⟨_,h4|⟨m,h4⟩⟩
 ·exact h3 n h4
 ·omega
 exact h3 m h4
theorem qY.same {E E':Env}(h:qY E)(hk:∀ b,E.ok b→E'.ok b∧E'.w.heap[b]?=E.w.heap[b]?):qY E':=fun g hg=>by
 obtain ⟨h1,m,h2⟩:=h g hg;exact ⟨(hk g h1).1,m,(World.cell?_of_block (a:=⟨g,0,none⟩) (hk g h1).2).trans h2⟩
theorem qY.step {E E':Env}{N:List Nat}(h:qY E)(hS:Step E E' N):qY E':=h.same fun b hb=>hS.ok hb
theorem aBT {w w':World}{b o:Nat}{cs:List Value}(h:w'.heap[b]?=w.heap[b]?)(hr:w.rangeAt b o cs):w'.rangeAt b o cs:=fun j v hv=>(World.cell?_of_block (w:=w) (a:=⟨b,o+j,none⟩) h).trans (hr j v hv)
theorem aBU {w w':World}{P:Program}{k e:TypeId}{b n:Nat}{D:DataW Unit}(h:w'.heap[b]?=w.heap[b]?)(ho:w.ownsMap P k (plainElem P e) b n D):w'.ownsMap P k (plainElem P e) b n D:=by
 obtain ⟨es,clock,h1,h2⟩:=ho;exact ⟨es,clock,h.trans h1,h2⟩
theorem aLX {w w':World}{P:Program}{k e:TypeId}{b r n c:Nat}{D:DataW Unit}{left:Lit→Bool}(h:w'.heap[b]?=w.heap[b]?)(h':w'.heap[r]?=w.heap[r]?)(ho:w.ranges P k (plainElem P e) b r n D left c):w'.ranges P k (plainElem P e) b r n D left c:=by
 obtain ⟨es,clock,since,seen,c0,h1,h2,h3,h4,h5,h6⟩:=ho;exact ⟨es,clock,since,seen,c0,h.trans h1,h2,h3,h4,h'.trans h5,h6⟩
theorem aVH {P:Program}{w w':World}{b r since c0:Nat}{seen:Array Nat}{t:Value}(hr:w.heap[r]?=some (.mapIter (some b) since seen c0))(h:w'.heap[b]?=w.heap[b]?)(h':w'.heap[r]?=w.heap[r]?)
 (hrun:(Instr.entry (.pointer (some ⟨r,0,none⟩))).run P w=.ok t w):(Instr.entry (.pointer (some ⟨r,0,none⟩))).run P w'=.ok t w':=by
 simp only [Instr.entry,getObj,Sem.run_bind,Sem.run,h',hr,h,Result.andThen] at hrun ⊢;cases hs:seen.back? with
 | none=>rw [hs] at hrun;simp [stuck,Sem.run] at hrun
 | some stamp=>
  simp only [hs,Sem.run_bind,Sem.run] at hrun ⊢;rw [h];cases hb:w.heap[b]? with
  | none=>simp [hb] at hrun
  | some ob=>
   cases ob<;>simp only [hb,Result.andThen] at hrun ⊢<;>first|(simp [stuck,Sem.run] at hrun;done)|skip
   split
   ·rename_i hc;rw [if_pos hc] at hrun;simp [unsupported,Sem.run,Result.andThen] at hrun
   rename_i hc;rw [if_neg hc] at hrun
   revert hrun
   generalize Array.find? _ _=F;intro hrun;cases F with
   | none=>simp [unsupported] at hrun
   | some e=>
    simp only [Sem.run_pure,Result.ok.injEq,and_true] at hrun ⊢;exact hrun
theorem xC.same {P P':Program}{w w':World}{k e:TypeId}{b r n c:Nat}{D:DataW Unit}{left:Lit→Bool}{kv:Value × Value}(hrg:w.ranges P' k (plainElem P' e) b r n D left c)(h:w'.heap[b]?=w.heap[b]?)(h':w'.heap[r]?=w.heap[r]?)(ho:xC P w r kv):xC P w' r kv:=by
 obtain ⟨es,clock,since,seen,c0,_,_,_,_,h5,_⟩:=hrg;exact aVH h5 h h' ho
mutual
theorem aA.step {E E':Env}{N:List Nat}(h:Step E E' N):∀ (x:Av) (v:Value),aA E x v→aA E' x v
 | .any,_,_=>by unfold aA;trivial
 | .val x,v,hr=>by unfold aA at hr ⊢;exact hr
 | .sl k n row,v,hr=>by
  unfold aA at hr ⊢;obtain ⟨A,c,h1,h2,h3,h4⟩:=hr;refine ⟨A,c,h1,h2,h3,fun hn=>?_⟩;obtain ⟨b,o,h5,h6,h7⟩:=h4 hn;refine ⟨b,o,h5,(h.ok h6).1,fun j hj=>?_⟩;obtain ⟨u,h8,h9,h10⟩:=h7 j hj;exact ⟨u,aA.step h (row j) u h8,h9,aBT (h.ok h6).2 h10⟩
 | .ptr x,v,hr=>by
  unfold aA at hr ⊢;obtain ⟨b,o,u,h1,h2,h3,h4⟩:=hr;exact ⟨b,o,u,h1,(h.ok h2).1,aA.step h x u h3,aBT (h.ok h2).2 h4⟩
 | .agg cs,v,hr=>by
  unfold aA at hr ⊢;obtain ⟨vs,h1,h2,h3⟩:=hr;exact ⟨vs,h1,aG.step h cs vs h2,h3⟩
 | .tup cs,v,hr=>by
  unfold aA at hr ⊢;obtain ⟨vs,h1,h2⟩:=hr;exact ⟨vs,h1,aG.step h cs vs h2⟩
 | .clo f cs,v,hr=>by
  unfold aA at hr ⊢;obtain ⟨vs,h1,h2⟩:=hr;exact ⟨vs,h1,aG.step h cs vs h2⟩
 | .bm f cs,v,hr=>by
  unfold aA at hr ⊢;obtain ⟨vs,h1,h2⟩:=hr;exact ⟨vs,h1,aG.step h cs vs h2⟩
 | .own n off,v,hr=>by
  unfold aA at hr ⊢;refine ⟨⟨h.born n hr.1.1,hr.1.2⟩,fun b hb=>?_⟩;rcases h.from_ n b hb with h1|⟨h1,_⟩
  ·exact hr.2 b h1
  exact absurd h1 hr.1.1
 | .osl k n len,v,hr=>by
  unfold aA at hr ⊢;refine ⟨⟨h.born n hr.1.1,hr.1.2.1,fun hn=>?_⟩,fun b hb=>?_⟩
  ·rcases h.nil_ n hn with h1|h1
   ·exact hr.1.2.2 h1
   exact absurd h1 hr.1.1
  rcases h.from_ n b hb with h1|⟨h1,_⟩
  ·obtain ⟨c,cur,t,h2,h3,h4,h5,h6⟩:=hr.2 b h1;obtain ⟨cur',h7,h8⟩:=h.shape n b cur t hb h1 h5;exact ⟨c,cur',t,h2,h3,h4,h7,by rw [h8,h6]⟩
  exact absurd h1 hr.1.1
 | .oss n off len,v,hr=>by
  unfold aA at hr ⊢;refine ⟨⟨h.born n hr.1.1,hr.1.2⟩,fun b hb=>?_⟩;rcases h.from_ n b hb with h1|⟨h1,_⟩
  ·obtain ⟨A,c,cur,t,h2,h3,h4,h9,h5,h6⟩:=hr.2 b h1;obtain ⟨cur',h7,h8⟩:=h.shape n b cur t hb h1 h5;exact ⟨A,c,cur',t,h2,h3,h4,h9,h7,by rw [h8];exact h6⟩
  exact absurd h1 hr.1.1
 | .mp n,v,hr=>by
  unfold aA at hr ⊢;refine ⟨⟨h.born n hr.1.1,hr.1.2⟩,fun b hb=>?_⟩;rcases h.from_ n b hb with h1|⟨h1,_⟩
  ·exact hr.2 b h1
  exact absurd h1 hr.1.1
 | .fm P k e D,v,hr=>by
  unfold aA at hr ⊢;obtain ⟨b,n,h1,h2,h3⟩:=hr;exact ⟨b,n,h1,(h.ok h2).1,aBU (h.ok h2).2 h3⟩
 | .frz q T xs,v,hr=>by
  unfold aA at hr ⊢;obtain ⟨c,g,cur,h1,h2,h3,h4,h5⟩:=hr;exact ⟨c,g,cur,h1,h2,(h.ok h3).1,(h.ok h3).2.trans h4,h5⟩
 | .gd c x,v,hr=>by
  unfold aA at hr ⊢;exact ⟨fun hc=>aA.step h x v (hr.1 hc),hr.2⟩
 | .nz x,v,hr=>by
  unfold aA at hr ⊢;exact ⟨aA.step h x v hr.1,hr.2⟩
theorem aG.step {E E':Env}{N:List Nat}(h:Step E E' N):∀ (xs:List Av) (vs:List Value),aG E xs vs→aG E' xs vs
 | [],vs,hr=>by unfold aG at hr ⊢;exact hr
 | x::xs,vs,hr=>by
  unfold aG at hr ⊢;obtain ⟨v,us,h1,h2,h3⟩:=hr;exact ⟨v,us,h1,aA.step h x v h2,aG.step h xs us h3⟩
end
theorem dI.step {E E':Env}{N:List Nat}(h:Step E E' N){n:Nat}(hn:n∉N){x:Hs}(hx:dI E n x):dI E' n x:=by
 obtain ⟨h1,h2⟩:=h.same n hn;cases x with
 | unborn=>exact h1.trans (show E.loc n=.unborn from hx)
 | dead=>exact h1.trans (show E.loc n=.dead from hx)
 | live t cells=>
  rcases hx with ⟨h3,h4⟩|⟨b,cur,h3,h4,h5⟩
  ·exact .inl ⟨h1.trans h3,h4⟩
  refine .inr ⟨b,cur,h1.trans h3,(h2 b h3).trans h4,fun i y hy=>?_⟩;obtain ⟨u,h6,h8,h7⟩:=h5 i y hy;exact ⟨u,h6,h8,aA.step h y u h7⟩
 | map P k e D=>
  obtain ⟨b,m,h3,h4⟩:=hx;exact ⟨b,m,h1.trans h3,aBU (h2 b h3) h4⟩
 | iter P k e D left cnt last=>
  obtain ⟨b,r,m,h3,h4,h5,h6⟩:=hx;exact ⟨b,r,m,h1.trans h3,(h.ok h4).1,aLX (h.ok h4).2 (h2 r h3) h5,fun kv hk=>xC.same h5 (h.ok h4).2 (h2 r h3) (h6 kv hk)⟩
 | loop l N ps assign body pe σ=>
  obtain ⟨h3,r,h4,h5,h6,h7,h8,h9,h10,h11⟩:=hx;exact ⟨h1.trans h3,r,(h2 l h3).trans h4,h5,h6,h7,h8,h9,h10,fun t=>aA.step h _ _ (h11 t)⟩
theorem Step.refl (E:Env):Step E E []:=⟨rfl,rfl,rfl,Nat.le_refl _,rfl,fun _ _ _=>rfl,fun _ _=>⟨rfl,fun _ _=>rfl⟩,fun _ h=>h,fun _ _ h=>.inl h,fun _ h=>.inl h,fun _ _ cur _ _ _ h=>⟨cur,h,rfl⟩⟩
theorem Step.trans {E E' E'':Env}{N M:List Nat}(h:Step E E' N)(k:Step E' E'' M):Step E E'' (N++M) where
 os:=k.os.trans h.os
 tape:=k.tape.trans h.tape
 output:=k.output.trans h.output
 size:=Nat.le_trans h.size k.size
 bad:=k.bad.trans h.bad
 keep b hb hn:=by
  refine (k.keep b (Nat.lt_of_lt_of_le hb h.size) fun n hn'=>?_).trans (h.keep b hb hn);rcases h.from_ n b hn' with h1|⟨_,h1|⟨m,h1⟩⟩
  ·exact hn n h1
  ·omega
  exact hn m h1
 same n hn:=by
  rw [List.mem_append,not_or] at hn;obtain ⟨h1,h2⟩:=h.same n hn.1;obtain ⟨h3,h4⟩:=k.same n hn.2;exact ⟨h3.trans h1,fun b hb=>(h4 b (h1.trans hb)).trans (h2 b hb)⟩
 born n hn:=k.born n (h.born n hn)
 from_ n b hb:=by
  rcases k.from_ n b hb with h1|⟨h1,h2⟩
  ·exact h.from_ n b h1
  refine .inr ⟨Classical.byContradiction fun hu=>h.born n hu h1,?_⟩;rcases h2 with h2|⟨m,h2⟩
  ·exact .inl (Nat.le_trans h.size h2)
  rcases h.from_ m b h2 with h3|⟨_,h3⟩
  ·exact .inr ⟨m,h3⟩
  exact h3
 nil_ n hn:=by
  rcases k.nil_ n hn with h1|h1
  ·exact h.nil_ n h1
  exact .inr (Classical.byContradiction fun hu=>h.born n hu h1)
 shape n b cur t hb hb0 hc:=by
  have h1:E'.loc n=.at b:=by
   rcases k.from_ n b hb with h1|⟨h1,_⟩
   ·exact h1
   exact absurd h1 (h.born n (by rw [hb0];intro hx;cases hx))
  obtain ⟨cur',h2,h3⟩:=h.shape n b cur t h1 hb0 hc;obtain ⟨cur'',h4,h5⟩:=k.shape n b cur' t hb h1 h2;exact ⟨cur'',h4,h5.trans h3⟩
theorem Step.more {E E':Env}{N M:List Nat}(h:Step E E' N)(hs:∀ n∈N,n∈M):Step E E' M:={ h with same:=fun n hn=>h.same n (fun hm=>hn (hs n hm)) }
theorem Step.grow {E:Env}(hG:Good E){w':World}(h:Below E.w.heap.size E.w w'):Step E { E with w:=w' } [] where
 os:=h.os
 tape:=h.tape
 output:=h.output
 size:=h.size
 bad:=rfl
 keep b hb _:=h.block b hb
 same n _:=⟨rfl,fun b hb=>h.block b (hG.lt n b hb).1⟩
 born n hn:=hn
 from_ n b hb:=.inl hb
 nil_ n hn:=.inl hn
 shape n b cur t _ _ hc:=⟨cur,(h.block b (Array.getElem?_eq_some_iff.1 hc).1).trans hc,rfl⟩
theorem Good.grow {E:Env}(hG:Good E){w':World}(h:Below E.w.heap.size E.w w'):Good { E with w:=w' }:=
 ⟨fun c hc=>Nat.lt_of_lt_of_le (hG.old c hc) h.size,hG.inj,fun n b hb=>⟨Nat.lt_of_lt_of_le (hG.lt n b hb).1 h.size,(hG.lt n b hb).2⟩,hG.shp.step (Step.grow hG h)⟩
def Env.give (E:Env)(w':World)(n b:Nat):Env:={ w:=w',loc:=fun m=>if m=n then .at b else E.loc m,bad:=E.bad }
theorem Step.give {E:Env}(hG:Good E){w':World}(h:Below E.w.heap.size E.w w'){n b:Nat}(hn:E.loc n=.unborn)(hb:E.w.heap.size≤b):Step E (E.give w' n b) [n] where
 os:=h.os
 tape:=h.tape
 output:=h.output
 size:=h.size
 bad:=rfl
 keep b hb _:=h.block b hb
 same m hm:=by
  have hm:m≠n:=by simpa using hm
  exact ⟨by simp [Env.give,hm],fun b hb=>h.block b (hG.lt m b hb).1⟩
 born m hm:=by
  by_cases e:m=n
  ·subst e;exact absurd hn hm
  simpa [Env.give,e] using hm
 from_ m c hc:=by
  by_cases e:m=n
  ·subst e;simp [Env.give] at hc;subst hc;exact .inr ⟨hn,.inl hb⟩
  simp [Env.give,e] at hc;exact .inl hc
 nil_ m hc:=by
  by_cases e:m=n
  ·subst e;exact .inr hn
  simp [Env.give,e] at hc;exact .inl hc
 shape n b cur t _ _ hc:=⟨cur,(h.block b (Array.getElem?_eq_some_iff.1 hc).1).trans hc,rfl⟩
theorem Good.give {E:Env}(hG:Good E){w':World}(h:Below E.w.heap.size E.w w'){n b:Nat}(hb:E.w.heap.size≤b)(hb':b<w'.heap.size):Good (E.give w' n b) where
 shp:=hG.shp.same fun c hc=>⟨⟨Nat.lt_of_lt_of_le hc.1 h.size,hc.2.1,fun m hm=>by
  by_cases e:m=n
  ·simp [Env.give,e] at hm;have:=hc.1;omega
  simp [Env.give,e] at hm;exact hc.2.2 m hm⟩,h.block c hc.1⟩
 old c hc:=Nat.lt_of_lt_of_le (hG.old c hc) h.size
 inj m l c hm hl:=by
  by_cases e:m=n<;>by_cases e':l=n
  ·rw [e,e']
  ·simp [Env.give,e,e'] at hm hl;have:=(hG.lt l c hl).1;omega
  ·simp [Env.give,e,e'] at hm hl;have:=(hG.lt m c hm).1;omega
  simp [Env.give,e,e'] at hm hl;exact hG.inj m l c hm hl
 lt m c hm:=by
  by_cases e:m=n
  ·simp [Env.give,e] at hm;subst hm;exact ⟨hb',fun hbad=>by have:=hG.old b hbad;omega⟩
  simp [Env.give,e] at hm;exact ⟨Nat.lt_of_lt_of_le (hG.lt m c hm).1 h.size,(hG.lt m c hm).2⟩
end Go.Proofs.YtgajclaoaphgoaaGreatDoor
