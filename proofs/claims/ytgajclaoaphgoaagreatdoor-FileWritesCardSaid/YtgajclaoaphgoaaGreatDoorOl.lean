/- Parts of the proof of a law of this seat: rules and contracts; no conditions. -/
import Derived.Test.YtgajclaoaphgoaaGreatDoorOf
import Derived.Scope
set_option maxHeartbeats 6400000
set_option maxRecDepth 100000
set_option linter.unusedVariables false
set_option linter.unusedSimpArgs false
namespace Go.Proofs.YtgajclaoaphgoaaGreatDoor
open Go.RowKit
section
variable {P:Program}{o:Oper}{x y:Av}{R U:List (Nat × Hs)}{ρ:Operand→Av}{p q:Operand}{T:TypeId}
theorem aMV {E:Env}{k n len:Nat}{t:TypeId}{cs:List Av}{v:Value}(hv:aA E (.osl k n len) v)(hn:dI E n (.live t cs))(hl:cs.length=len*k):
 ∃ xs:List Value,E.w.ownsRow 0 t k v len xs∧aG E cs xs∧(∀ u∈xs,u.oneCell'=true)∧((E.loc n=.nil∧v=.slice none 0 0)∨∃ b,E.loc n=.at b∧v.ownBlock=some b):=by
 unfold aA at hv;rcases hn with ⟨h1,rfl⟩|⟨b,cur,h1,h2,h3⟩
 ·obtain ⟨rfl,rfl⟩:=hv.1.2.2 h1;exact ⟨[],⟨by simp,.inl ⟨rfl,rfl⟩⟩,by unfold aG;rfl,by simp,.inl ⟨h1,rfl⟩⟩
 obtain ⟨c,cur',t',h4,h5,h6,h7,h8⟩:=hv.2 b h1;rw [h2] at h7;injection h7 with h7
 injection h7 with h7 h9
 subst h7;subst h9
 obtain ⟨xs,g1,g2,g3⟩:=wI (E:=E) (cur:=cur) cs 0 fun i y hy=>by simpa using h3 i y hy
 have hle:len*k≤cur.size:=by rw [h8];exact Nat.mul_le_mul_right _ h5
 have hxs:cur.toList.take (len*k)=xs:=by
  apply List.ext_getElem?;intro i;rw [List.getElem?_take];by_cases hi:i<len*k
  ·rw [if_pos hi];have hx:i<xs.length:=by rw [g1.length];omega
   have:=g3 i xs[i] (List.getElem?_eq_getElem hx);rw [List.getElem?_eq_getElem hx,←this];simp
  rw [if_neg hi,List.getElem?_eq_none (by rw [g1.length];omega)]
 exact ⟨xs,⟨by rw [g1.length,hl],.inr ⟨b,c,cur,h4,Nat.zero_le _,h2,h5,h6,h8,hxs⟩⟩,g1,g2,.inr ⟨b,h1,by rw [h4];rfl⟩⟩
theorem aG.stepL {E E':Env}{N:List Nat}(h:Step E E' N){xs:List Av}{vs:List Value}(hr:aG E xs vs):aG E' xs vs:=aG.step h _ _ hr
theorem aG.append {E:Env}:∀ {xs ys:List Av} {us vs:List Value},aG E xs us→aG E ys vs→aG E (xs++ys) (us++vs)
 | [],ys,us,vs,h,k=>by unfold aG at h;subst h;exact k
 | x::xs,ys,us,vs,h,k=>by
  unfold aG at h;obtain ⟨v,us',rfl,h1,h2⟩:=h;simp only [List.cons_append];unfold aG;exact ⟨v,_,rfl,h1,h2.append k⟩
theorem aMW {E:Env}(hG:Good E){k n m len':Nat}{t:TypeId}{cs ds:List Av}{v v':Value}{xs ys:List Value}{w':World}(hnm:n≠m)(hm:E.loc m=.unborn)(hn0:E.loc n≠.unborn)(hx:aG E cs xs)(hy:aG E ds ys)(hx1:∀ u∈xs,u.oneCell'=true)(hy1:∀ u∈ys,u.oneCell'=true)
 (hv:(E.loc n=.nil∧v=.slice none 0 0)∨∃ b,E.loc n=.at b∧v.ownBlock=some b) (hown:w'.ownsRow 0 t k v' len' (xs++ys)) (hg:E.w.grownBy w' v.ownBlock) (hb:v'.ownBlock=v.ownBlock∨v'.ownBlock=some E.w.heap.size):
 mZ E (.osl k m len') [(n,.dead),(m,.live t (cs++ds))] v' w':=by
 let L:Loc:=match v'.ownBlock with|some b=>.at b|none=>.nil
 let E':Env:={ w:=w',loc:=fun i=>if i=m then L else if i=n then .dead else E.loc i,bad:=E.bad }
 have hLn:L=.nil↔v'.ownBlock=none:=by
  show (match v'.ownBlock with|some b=>Loc.at b|none=>.nil)=.nil↔_;cases v'.ownBlock<;>simp
 have hLa:∀ b,L=.at b↔v'.ownBlock=some b:=fun b=>by
  show (match v'.ownBlock with|some b=>Loc.at b|none=>.nil)=.at b↔_;cases v'.ownBlock<;>simp
 have hem:E'.loc m=L:=by simp [E']
 have hen:E'.loc n=.dead:=by simp [E',hnm]
 have heo:∀ i,i≠m→i≠n→E'.loc i=E.loc i:=fun i h1 h2=>by simp [E',h1,h2]
 have hvb:∀ b,v.ownBlock=some b→E.loc n=.at b:=fun b hb=>by
  rcases hv with ⟨_,rfl⟩|⟨c,h1,h2⟩
  ·simp [Value.ownBlock] at hb
  rw [h2] at hb;injection hb with hb;rw [←hb];exact h1
 have hnew:∀ b,L=.at b→E.loc n=.at b∨b=E.w.heap.size:=fun b hL=>by
  rcases hb with h1|h1
  ·exact .inl (hvb b (by rw [←h1];exact (hLa b).1 hL))
  have:=(hLa b).1 hL;rw [h1] at this;injection this with this
  exact .inr this.symm
 have hS:Step E E' [n,m]:=by
  refine ⟨hg.os,hg.tape,hg.output,hg.size,rfl,fun b hlt hno=>hg.block b hlt fun e=>hno n (hvb b e.symm),fun i hi=>?_,fun i hi=>?_,fun i b hi=>?_,fun i hi=>?_,fun i b cur t0 hi hi' hc=>?_⟩
  ·simp only [List.mem_cons,List.not_mem_nil,or_false,not_or] at hi;refine ⟨heo i hi.2 hi.1,fun b hb=>hg.block b (hG.lt i b hb).1 fun e=>hi.1 (hG.inj i n b hb (hvb b e.symm))⟩
  ·by_cases h1:i=m
   ·subst h1;exact absurd hm hi
   by_cases h2:i=n
   ·subst h2;rw [hen];simp
   rw [heo i h1 h2];exact hi
  ·by_cases h1:i=m
   ·subst h1;rw [hem] at hi;refine .inr ⟨hm,?_⟩;rcases hnew b hi with h3|h3
    ·exact .inr ⟨n,h3⟩
    exact .inl (by omega)
   by_cases h2:i=n
   ·subst h2;rw [hen] at hi;cases hi
   rw [heo i h1 h2] at hi;exact .inl hi
  ·by_cases h1:i=m
   ·subst h1;exact .inr hm
   by_cases h2:i=n
   ·subst h2;rw [hen] at hi;cases hi
   rw [heo i h1 h2] at hi;exact .inl hi
  by_cases h1:i=m
  ·subst h1;rw [hm] at hi';cases hi'
  by_cases h2:i=n
  ·subst h2;rw [hen] at hi;cases hi
  exact ⟨cur,(hg.block b (hG.lt i b hi').1 fun e=>h2 (hG.inj i n b hi' (hvb b e.symm))).trans hc,rfl⟩
 have hform:(v'=.slice none 0 0∧len'=0)∨∃ g cap cur,v'=.slice (some ⟨g,0,none⟩) len' cap∧0≤g∧w'.heap[g]?=some (.cells cur t (0,0))∧len'≤cap∧cap≤maxLen∧cur.size=cap*k∧cur.toList.take (len'*k)=xs++ys:=hown.2;refine ⟨E',rfl,hS,⟨fun b hbad=>Nat.lt_of_lt_of_le (hG.old b hbad) hg.size,fun i j b hi hj=>?_,fun i b hi=>?_,hG.shp.step hS⟩,?_,fun i z hz=>?_⟩
 ·have key:∀ i,i≠m→E'.loc i=.at b→E'.loc m=.at b→False:=fun i h1 hi hmm=>by
   rw [hem] at hmm;by_cases h2:i=n
   ·subst h2;rw [hen] at hi;cases hi
   rw [heo i h1 h2] at hi;rcases hnew b hmm with h3|h3
   ·exact h2 (hG.inj i n b hi h3)
   have:=(hG.lt i b hi).1;omega
  by_cases h1:i=m
  ·by_cases h2:j=m
   ·rw [h1,h2]
   exact (key j h2 hj (h1 ▸ hi)).elim
  by_cases h2:j=m
  ·exact (key i h1 hi (h2 ▸ hj)).elim
  by_cases h3:i=n
  ·subst h3;rw [hen] at hi;cases hi
  by_cases h4:j=n
  ·subst h4;rw [hen] at hj;cases hj
  rw [heo i h1 h3] at hi;rw [heo j h2 h4] at hj;exact hG.inj i j b hi hj
 ·by_cases h1:i=m
  ·subst h1;rw [hem] at hi;have hvb':=(hLa b).1 hi;rcases hform with ⟨h2,_⟩|⟨g,cap,cur,h2,_,h3,_⟩
   ·rw [h2] at hvb';simp [Value.ownBlock] at hvb'
   rw [h2] at hvb';simp [Value.ownBlock] at hvb';subst hvb';refine ⟨(Array.getElem?_eq_some_iff.1 h3).1,fun hbad=>?_⟩;rcases hnew g hi with h4|h4
   ·exact (hG.lt n g h4).2 hbad
   have:=hG.old g hbad;omega
  by_cases h2:i=n
  ·subst h2;rw [hen] at hi;cases hi
  rw [heo i h1 h2] at hi;exact ⟨Nat.lt_of_lt_of_le (hG.lt i b hi).1 hg.size,(hG.lt i b hi).2⟩
 ·unfold aA;rw [hem];rcases hform with ⟨h2,h3⟩|⟨g,cap,cur,h2,_,h3,h4,h5,h6,_⟩
  ·have hno:v'.ownBlock=none:=by rw [h2];rfl
   refine ⟨⟨fun h=>?_,⟨none,0,by rw [h2,h3]⟩,fun _=>⟨h2,h3⟩⟩,fun b hL=>?_⟩
   ·rw [hLn.2 hno] at h;cases h
   rw [hLn.2 hno] at hL;cases hL
  have hso:v'.ownBlock=some g:=by rw [h2];rfl
  have hLg:=(hLa g).2 hso;refine ⟨⟨fun h=>(by rw [hLg] at h;cases h),⟨_,_,h2⟩,fun h=>(by rw [hLg] at h;cases h)⟩,fun b hL=>?_⟩;rw [hLg] at hL;injection hL with hL
  subst hL;exact ⟨cap,cur,t,h2,h4,h5,h3,h6⟩
 have hall:=(aG.append hx hy).stepL hS;simp only [aL] at hz;cases h1:Nat.beq n i with
 | true=>
  rw [h1] at hz;simp at hz;subst hz;obtain rfl:=Nat.eq_of_beq_eq_true h1;exact hen
 | false=>
  rw [h1] at hz;cases h2:Nat.beq m i with
  | false=>rw [h2] at hz;simp at hz
  | true=>
   rw [h2] at hz;simp at hz;subst hz;obtain rfl:=Nat.eq_of_beq_eq_true h2;rcases hform with ⟨h3,h4⟩|⟨g,cap,cur,h3,_,h4,h5,h6,h7,h8⟩
   ·have hno:v'.ownBlock=none:=by rw [h3];rfl
    refine .inl ⟨by rw [hem];exact hLn.2 hno,?_⟩;have hl:=hown.1;rw [h4,Nat.zero_mul] at hl;have:=(aG.append hx hy).length;exact List.eq_nil_of_length_eq_zero (by omega)
   have hso:v'.ownBlock=some g:=by rw [h3];rfl
   refine .inr ⟨g,cur,by rw [hem];exact (hLa g).2 hso,h4,fun j z hz=>?_⟩;obtain ⟨u,h9,h10⟩:=hall.get j z hz;refine ⟨u,?_,?_,h10⟩
   ·rw [←h8,List.getElem?_take] at h9;split at h9
    ·simpa using h9
    cases h9
   rcases List.mem_append.1 (List.mem_of_getElem? h9) with h11|h11
   ·exact hx1 u h11
   exact hy1 u h11
theorem afZ {t e ty:TypeId}{w:World}{i:TypeInfo}{z:Value}{k by_:Nat}(hT:P.underlying t=some (.slice e))(hi:P.info? e=some i)(hz:i.zero=some z)(hk:i.size=k)(hby:i.bytes=by_)(hzk:z.cells.size=k)(h0:0<k){v:Value}{n:Nat}{xs:List Value}(hown:w.ownsRow 0 e k v n xs)
 {A:Option Addr} {m c:Nat} {news:List Value} (hl:news.length=m*k) (hA:0<m→∃ b off,A=some ⟨b,off,none⟩∧∀ j u,news[j]?=some u→w.cell? ⟨b,off+j,none⟩=some u) (h1:∀ u∈news,u.oneCell'=true) (hb:(n+m)*by_≤140737488355328) (h63:n+m≤9223372036854775807):
 ∃ v' w',(Builtin.append_ #[t,t] ty #[v,.slice A m c]).run P w=.ok v' w'∧w'.ownsRow 0 e k v' (n+m) (xs++news)∧w.grownBy w' v.ownBlock∧(v'.ownBlock=v.ownBlock∨v'.ownBlock=some w.heap.size):=by
 by_cases hm:m=0
 ·subst hm;have hn:news=[]:=List.eq_nil_of_length_eq_zero (by simpa using hl);subst hn;refine ⟨v,w,?_,by simpa using hown,World.grownBy.refl w _,.inl rfl⟩;rcases A with _|ad
  ·rcases hown.2 with ⟨rfl,_⟩|⟨g,cap,cur,rfl,_,_,hnc,_⟩
   ·simp [Builtin.append_,run_underlying hT,sizeOf,typeInfo,hi,Builtin.lenOf,Builtin.firstCells]
   simp [Builtin.append_,run_underlying hT,sizeOf,typeInfo,hi,Builtin.lenOf,Builtin.firstCells,hnc,storeCells]
  have hf:∀ s:Nat,(Builtin.firstCells s 0 (.slice (some ad) 0 c)).run P w=.ok #[] w:=fun s=>by
   have:=run_firstCells_some (P:=P) w s 0 ad 0 c [] (by simp) (by simp);simpa using this
  have hn:∀ s:Nat,(Builtin.firstCells s 0 (.slice none 0 0)).run P w=.ok #[] w:=fun s=>run_firstCells_none w s 0 0 0;rcases hown.2 with ⟨rfl,_⟩|⟨g,cap,cur,rfl,_,_,hnc,_⟩
  ·simp [Builtin.append_,run_underlying hT,sizeOf,typeInfo,hi,Builtin.lenOf,hf]
  simp [Builtin.append_,run_underlying hT,sizeOf,typeInfo,hi,Builtin.lenOf,hf,hnc,storeCells]
 obtain ⟨b,off,rfl,hc⟩:=hA (by omega);obtain ⟨v',w',r,h2,h3,_,h5⟩:=run_append_own_at (P:=P) w 0 t ty e i z k by_ hT hi hz hk hby hzk h0 v n xs hown ⟨b,off,none⟩ m c news hl
  (fun j u hu=>by rw [Addr.add_lit];exact hc j u hu) h1 (by simp only [maxLen];omega) hb (Nat.zero_le _)
 exact ⟨v',w',r,h2,h3,h5⟩
theorem af0 {t:TypeId}{a:Act}{w:World}(ho:o.op=.call { callee:=.builtin .append,args:=#[p,q],argTypes:=#[t,t] }){v':Value}{w':World}(hrun:(Builtin.append_ #[t,t] o.type #[a.eval p,a.eval q]).run P w=.ok v' w'):(execOp a.eval o).run P w=.ok (.value v') w':=by
 unfold execOp;simp only [ho,resolve,invoke,builtin,Sem.run_bind,Sem.run_pure,Result.andThen_ok,List.map_toArray,List.map_cons,List.map_nil,hrun]
theorem iG {e:TypeId}{k by_ n len l:Nat}{row:Nat→Av}{cs ds:List Av}{zs:List Value}(m:Nat)(ho:o.op=.call { callee:=.builtin .append,args:=#[p,q],argTypes:=#[T,T] })(hp:ρ p=.osl k n len)(hq:ρ q=.sl k l row)(hT:eB P T=some e)(hi:lW P e=some (k,by_,zs))(hzl:zs.length=k)(h0:0<k)(hnm:n≠m)(hl:cs.length=len*k)
 (hds:ds.length=l*k) (hrow:∀ j,j<l→eQ (row j) k=true∧∀ i y,i<k→ds[j*k+i]?=some y→(cL (row j))[i]?=some y) (hb:(len+l)*by_≤140737488355328) (h63:len+l≤9223372036854775807):OC P o ρ [(n,.live e cs),(m,.unborn)] (.osl k m (len+l)) [(n,.dead),(m,.live e (cs++ds))]:=by
 intro E a hG hr hH;have h1:=hr p (by simp [ho,Op.operands,Call.operands]);have h2:=hr q (by simp [ho,Op.operands,Call.operands]);rw [hp] at h1;rw [hq] at h2;have hn:=hH n (.live e cs) (by simp);have hu:E.loc m=.unborn:=hH m .unborn (by simp);obtain ⟨xs,g1,g2,g3,g4⟩:=aMV h1 hn hl;obtain ⟨i,z,i1,i2,i3,i4,i5⟩:=vK hi;unfold aA at h2;obtain ⟨A,c,h3,h4,h5,h6⟩:=h2;obtain ⟨ys,y1,y2,y3⟩:∃ ys:List Value,aG E ds ys∧(∀ u∈ys,u.oneCell'=true)∧(0<l→∃ b off,A=some ⟨b,off,none⟩∧∀ j u,ys[j]?=some u→E.w.cell? ⟨b,off+j,none⟩=some u):=by
  by_cases hl0:l=0
  ·subst hl0;have:ds=[]:=List.eq_nil_of_length_eq_zero (by simpa using hds);subst this;exact ⟨[],by unfold aG;rfl,by simp,fun h=>by omega⟩
  obtain ⟨b,off,hA,hok,hel⟩:=h6 (by omega);have cell:∀ (j:Nat) (y:Av),ds[j]?=some y→∃ u,E.w.cell? ⟨b,off+j,none⟩=some u∧u.oneCell'=true∧aA E y u:=fun j y hy=>by
   have hj:=(List.getElem?_eq_some_iff.1 hy).1;have hjl:j/k<l:=by rw [Nat.div_lt_iff_lt_mul h0];omega
   have hji:j%k<k:=Nat.mod_lt _ h0;have hjj:j/k*k+j%k=j:=by rw [Nat.mul_comm];exact Nat.div_add_mod j k
   obtain ⟨hs,hf⟩:=hrow (j/k) hjl;have hfy:=hf (j%k) y hji (by rw [hjj];exact hy);obtain ⟨u,h8,h9,h10⟩:=hel (j/k) hjl;obtain ⟨_,_,_,h11⟩:=wP h8 hs;obtain ⟨u',h12,h13,h14⟩:=h11 _ y hfy;refine ⟨u',?_,h13,h14⟩;have:=h10 (j%k) u' (by simpa using h12);rwa [Nat.add_assoc,hjj] at this
  have build:∀ (ds:List Av) (s:Nat),(∀ (j:Nat) (y:Av),ds[j]?=some y→∃ u,E.w.cell? ⟨b,off+(s+j),none⟩=some u∧u.oneCell'=true∧aA E y u)→∃ ys:List Value,aG E ds ys∧(∀ u∈ys,u.oneCell'=true)∧∀ j u,ys[j]?=some u→E.w.cell? ⟨b,off+(s+j),none⟩=some u:=by
   intro ds
   induction ds with
   | nil=>intro s _;exact ⟨[],by unfold aG;rfl,by simp,by simp⟩
   | cons d ds ih=>
    intro s hh;obtain ⟨u,k1,k2,k3⟩:=hh 0 d rfl;obtain ⟨ys,k4,k5,k6⟩:=ih (s+1) fun j y hy=>by have:=hh (j+1) y (by simpa using hy);rwa [show s+1+j=s+(j+1) from by omega]
    refine ⟨u::ys,by unfold aG;exact ⟨u,ys,rfl,k3,k4⟩,fun v hv=>?_,fun j v hv=>?_⟩
    ·rcases List.mem_cons.1 hv with rfl|hv
     ·exact k2
     exact k5 v hv
    cases j with
    | zero=>simp at hv;subst hv;exact k1
    | succ j=>have:=k6 j v (by simpa using hv);rwa [show s+1+j=s+(j+1) from by omega] at this
  obtain ⟨ys,k1,k2,k3⟩:=build ds 0 fun j y hy=>by simpa using cell j y hy
  exact ⟨ys,k1,k2,fun _=>⟨b,off,hA,fun j u hu=>by simpa using k3 j u hu⟩⟩
 obtain ⟨v',w',r1,r2,r3,r4⟩:=afZ (ty:=o.type) (c:=c) (tR hT) i1 i2 i3 i4 (by rw [←hzl,←i5];simp) h0 g1 (by rw [y1.length,hds]) y3 y2 hb h63;unfold eK;rw [af0 ho (by rw [h3];exact r1)];have hn0:E.loc n≠.unborn:=by unfold aA at h1;exact h1.1.1
 exact aMW hG hnm hu hn0 g2 y1 g3 y2 g4 r2 r3 r4
theorem aCM {l:Nat}{row:Nat→Av}{ds:List Av}(h:∀ j y,ds[j]?=some y→y=row j)(hs:∀ j,j<l→eQ (row j) 1=true∧cL (row j)=[row j]):∀ j,j<l→eQ (row j) 1=true∧∀ i y,i<1→ds[j*1+i]?=some y→(cL (row j))[i]?=some y:=fun j hj=>by
 obtain ⟨h1,h2⟩:=hs j hj;refine ⟨h1,fun i y hi hy=>?_⟩;obtain rfl:i=0:=by omega
 rw [h2];simp at hy;rw [h j y hy];rfl
end
def Env.re (E:Env)(n:Nat)(L:Loc):Env:={ w:=E.w,loc:=fun m=>if m=n then L else E.loc m,bad:=E.bad }
theorem Step.nil_name {E:Env}{n:Nat}(hn:E.loc n=.unborn):Step E (E.re n .nil) [n]:=by
 refine ⟨rfl,rfl,rfl,Nat.le_refl _,rfl,fun _ _ _=>rfl,fun m hm=>?_,fun m hm=>?_,fun m b hb=>?_,fun m hm=>?_,fun m b cur t hb hb' hc=>⟨cur,hc,rfl⟩⟩
 ·have hm:m≠n:=by simpa using hm
  exact ⟨by simp [Env.re,hm],fun _ _=>rfl⟩
 ·by_cases e:m=n
  ·simp [Env.re,e]
  simpa [Env.re,e] using hm
 ·by_cases e:m=n
  ·simp [Env.re,e] at hb
  simp [Env.re,e] at hb;exact .inl hb
 by_cases e:m=n
 ·subst e;exact .inr hn
 simp [Env.re,e] at hm;exact .inl hm
theorem Step.kill (E:Env)(n:Nat)(hn:E.loc n≠.unborn):Step E (E.re n .dead) [n]:=by
 refine ⟨rfl,rfl,rfl,Nat.le_refl _,rfl,fun _ _ _=>rfl,fun m hm=>?_,fun m hm=>?_,fun m b hb=>?_,fun m hm=>?_,fun m b cur t hb hb' hc=>⟨cur,hc,rfl⟩⟩
 ·have hm:m≠n:=by simpa using hm
  exact ⟨by simp [Env.re,hm],fun _ _=>rfl⟩
 ·by_cases e:m=n
  ·simp [Env.re,e]
  simpa [Env.re,e] using hm
 ·by_cases e:m=n
  ·simp [Env.re,e] at hb
  simp [Env.re,e] at hb;exact .inl hb
 by_cases e:m=n
 ·simp [Env.re,e] at hm
 simp [Env.re,e] at hm;exact .inl hm
theorem Good.re {E:Env}(hG:Good E){n:Nat}{L:Loc}(hL:∀ b,L≠.at b):Good (E.re n L):=by
 refine ⟨hG.old,fun i j b hi hj=>?_,fun i b hi=>?_,hG.shp.same fun b hb=>⟨⟨hb.1,hb.2.1,fun m hm=>?_⟩,rfl⟩⟩
 ·have key:∀ i b,(E.re n L).loc i=.at b→i≠n∧E.loc i=.at b:=fun i b hi=>by
   by_cases e:i=n
   ·simp [Env.re,e] at hi;exact absurd hi (hL b)
   simp [Env.re,e] at hi;exact ⟨e,hi⟩
  exact hG.inj i j b (key i b hi).2 (key j b hj).2
 ·by_cases e:i=n
  ·simp [Env.re,e] at hi;exact absurd hi (hL b)
  simp [Env.re,e] at hi;exact hG.lt i b hi
 by_cases e:m=n
 ·simp [Env.re,e] at hm;exact absurd hm (hL b)
 simp [Env.re,e] at hm;exact hb.2.2 m hm
theorem aEK {E:Env}(hG:Good E){n b:Nat}(hb:E.loc n=.at b):(E.re n .dead).ok b:=by
 refine ⟨(hG.lt n b hb).1,(hG.lt n b hb).2,fun m hm=>?_⟩;by_cases e:m=n
 ·simp [Env.re,e] at hm
 simp [Env.re,e] at hm;exact e (hG.inj m n b hm hb)
section
variable {N:Nat}{D:List Nat}{Γ:Ctx}
theorem Le.step {τ:Ctx}(h:∀ (E:Env) (a:Act),Fit N D E a Γ→∃ E' M,E'.w=E.w∧Step E E' M∧Good E'∧mK E' a.tmps τ):Le N D Γ τ:=fun E a hF=>by
 obtain ⟨E',M,h1,h2,h3,h4⟩:=h E a hF;have hK:=h2.kept hF.born;exact ⟨E',h1,hK,⟨h3,hF.size,fun n hn=>hK.born n hn,h4⟩⟩
theorem Le.nameNil {s:List (Nat × Av)}{h:List (Nat × Hs)}(t n k:Nat)(ty:TypeId)(hs:bN s t=.val (.slice none 0 0))(hn:aL h n=some .unborn):Le N D ⟨s,h⟩ ⟨(t,.osl k n 0)::s,(n,.live ty [])::h⟩:=Le.step fun E a hF=>by
 have hu:E.loc n=.unborn:=hF.holds.2 n .unborn hn;have hS:=Step.nil_name hu;refine ⟨E.re n .nil,[n],rfl,hS,hF.good.re (by simp),fun u=>?_,fun m y hy=>?_⟩
 ·by_cases e:t=u
  ·subst e;rw [lE];have:=hF.holds.1 t;rw [hs] at this;unfold aA at this ⊢;exact ⟨⟨by simp [Env.re],⟨none,0,this⟩,fun _=>⟨this,rfl⟩⟩,fun b hb=>by simp [Env.re] at hb⟩
  rw [lS _ _ e];exact aA.step hS _ _ (hF.holds.1 u)
 by_cases e:n=m
 ·subst e;simp [aL] at hy;subst hy;exact .inl ⟨by simp [Env.re],rfl⟩
 simp only [aL,eY e,cond_false] at hy;exact dI.step hS (by simp [Ne.symm e]) (hF.holds.2 m y hy)
theorem aCY {E:Env}(hG:Good E){n k len:Nat}{t:TypeId}{cs:List Av}{row:Nat→Av}{v:Value}(hv:aA E (.osl k n len) v)(hn:dI E n (.live t cs))(hl:cs.length=len*k)(hrow:∀ j,j<len→eQ (row j) k=true∧∀ i y,(cL (row j))[i]?=some y→cs[j*k+i]?=some y)
 (hval:∀ j,j<len→∀ (us:List Value),aG (E.re n .dead) (cL (row j)) us→(∀ u∈us,u.oneCell'=true)→∃ u,aA (E.re n .dead) (row j) u∧u.cells.toList=us):aA (E.re n .dead) (.sl k len row) v:=by
 have hn0:E.loc n≠.unborn:=by unfold aA at hv;exact hv.1.1
 have hS:=Step.kill E n hn0;unfold aA at hv ⊢;rcases hn with ⟨h1,rfl⟩|⟨b,cur,h1,h2,h3⟩
 ·obtain ⟨rfl,rfl⟩:=hv.1.2.2 h1;exact ⟨none,0,rfl,Nat.le_refl _,Nat.zero_le _,fun h=>absurd h (by simp)⟩
 obtain ⟨c,cur',t',h4,h5,h6,h7,h8⟩:=hv.2 b h1;rw [h2] at h7;injection h7 with h7
 injection h7 with h7 h9
 subst h7;subst h9
 refine ⟨some ⟨b,0,none⟩,c,h4,h5,h6,fun _=>⟨b,0,rfl,aEK hG h1,fun j hj=>?_⟩⟩;obtain ⟨hr1,hr2⟩:=hrow j hj;obtain ⟨us,g1,g2,g3⟩:=wI (E:=E.re n .dead) (cur:=cur) (cL (row j)) (j*k) fun i y hy=>by
  obtain ⟨u,k1,k2,k3⟩:=h3 _ y (hr2 i y hy);exact ⟨u,k1,k2,aA.step hS _ _ k3⟩
 obtain ⟨u,k1,k2⟩:=hval j hj us g1 g2;refine ⟨u,k1,?_,fun i u' hu'=>?_⟩
 ·exact (wP k1 hr1).1
 rw [k2] at hu';rw [Nat.zero_add,show (E.re n .dead).w=E.w from rfl,pG h2];exact g3 i u' hu'
def sJ:Av→Bool
 | .agg _=>false
 | .val v=>rU v
 | .sl ..|.ptr _|.clo ..|.bm ..=>true
 | _=>false
theorem aSB {y:Av}(h:sJ y=true):cL y=[y]∧eQ y 1=true:=by
 cases y<;>simp_all [sJ,cL,eQ]
theorem aSC {E:Env}(hG:Good E){n len:Nat}{t:TypeId}{cs:List Av}{row:Nat→Av}{v:Value}(hv:aA E (.osl 1 n len) v)(hn:dI E n (.live t cs))(hl:cs.length=len)(hrow:∀ j,j<len→cs[j]?=some (row j)∧sJ (row j)=true):aA (E.re n .dead) (.sl 1 len row) v:=by
 refine aCY hG hv hn (by omega) (fun j hj=>?_) (fun j hj us hus h1=>?_)
 ·obtain ⟨h1,h2⟩:=hrow j hj;obtain ⟨h3,h4⟩:=aSB h2;refine ⟨h4,fun i y hy=>?_⟩;rw [h3] at hy;cases i with
  | zero=>simp at hy;subst hy;simpa using h1
  | succ i=>simp at hy
 obtain ⟨h3,h4⟩:=hrow j hj;rw [(aSB h4).1] at hus;unfold aG aG at hus;obtain ⟨u,us',rfl,h5,rfl⟩:=hus;exact ⟨u,h5,by rw [tN (h1 u (by simp))]⟩
theorem Le.freeze {s:List (Nat × Av)}{h:List (Nat × Hs)}(t n:Nat){len:Nat}{ty:TypeId}{cs:List Av}(row:Nat→Av)(hs:bN s t=.osl 1 n len)(hn:aL h n=some (.live ty cs))(hl:cs.length=len)(hrow:∀ j,j<len→cs[j]?=some (row j)∧sJ (row j)=true):Le N D ⟨s,h⟩ ⟨(t,.sl 1 len row)::s,(n,.dead)::h⟩:=Le.step fun E a hF=>by
 have hv:=hF.holds.1 t;rw [hs] at hv;have hH:=hF.holds.2 n _ hn;have hn0:E.loc n≠.unborn:=by unfold aA at hv;exact hv.1.1
 have hS:=Step.kill E n hn0;refine ⟨E.re n .dead,[n],rfl,hS,hF.good.re (by simp),fun u=>?_,fun m y hy=>?_⟩
 ·by_cases e:t=u
  ·subst e;rw [lE];exact aSC hF.good hv hH hl hrow
  rw [lS _ _ e];exact aA.step hS _ _ (hF.holds.1 u)
 by_cases e:n=m
 ·subst e;simp [aL] at hy;subst hy;show (E.re n .dead).loc n=.dead;simp [Env.re]
 simp only [aL,eY e,cond_false] at hy;exact dI.step hS (by simp [Ne.symm e]) (hF.holds.2 m y hy)
theorem Le.freezeCell {s:List (Nat × Av)}{h:List (Nat × Hs)}(m i n:Nat){len:Nat}{T ty:TypeId}{ds cs:List Av}(row:Nat→Av)(hm:aL h m=some (.live T ds))(hi:ds[i]?=some (.osl 1 n len))(hn:aL h n=some (.live ty cs))(hmn:m≠n)(hl:cs.length=len)(hrow:∀ j,j<len→cs[j]?=some (row j)∧sJ (row j)=true):
 Le N D ⟨s,h⟩ ⟨s,(m,.live T (ds.set i (.sl 1 len row)))::(n,.dead)::h⟩:=Le.step fun E a hF=>by
 have hM:=hF.holds.2 m _ hm;have hH:=hF.holds.2 n _ hn;have hn0:E.loc n≠.unborn:=by
  rcases hH with ⟨h1,_⟩|⟨b,cur,h1,_⟩<;>rw [h1]<;>simp
 have hS:=Step.kill E n hn0;refine ⟨E.re n .dead,[n],rfl,hS,hF.good.re (by simp),fun u=>aA.step hS _ _ (hF.holds.1 u),fun j y hy=>?_⟩;by_cases e:m=j
 ·subst e;simp [aL] at hy;subst hy;rcases hM with ⟨h1,rfl⟩|⟨b,cur,h1,h2,h3⟩
  ·simp at hi
  refine .inr ⟨b,cur,by simp [Env.re,hmn,h1],h2,fun j y hy=>?_⟩;rw [List.getElem?_set] at hy;by_cases e:i=j
  ·subst e;have hlt:=(List.getElem?_eq_some_iff.1 hi).1;simp [hlt] at hy;subst hy;obtain ⟨u,h4,h5,h6⟩:=h3 i _ hi;exact ⟨u,h4,h5,aSC hF.good h6 hH hl hrow⟩
  rw [if_neg e] at hy;obtain ⟨u,h4,h5,h6⟩:=h3 j y hy;exact ⟨u,h4,h5,aA.step hS _ _ h6⟩
 simp only [aL,eY e,cond_false] at hy;by_cases e':n=j
 ·subst e';simp at hy;subst hy;show (E.re n .dead).loc n=.dead;simp [Env.re]
 rw [eY e',cond_false] at hy;exact dI.step hS (by simp [Ne.symm e']) (hF.holds.2 j y hy)
theorem Le.freezeVar {s:List (Nat × Av)}{h:List (Nat × Hs)}(t n:Nat){ty:TypeId}{x:Av}(hs:bN s t=.own n 0)(hn:aL h n=some (.live ty [x])):Le N D ⟨s,h⟩ ⟨(t,.ptr x)::s,(n,.dead)::h⟩:=Le.step fun E a hF=>by
 have hv:=hF.holds.1 t;rw [hs] at hv;have hH:=hF.holds.2 n _ hn;obtain ⟨b,cur,h1,h2,h3,h4⟩:=pU hv hH (by simp);have hS:=Step.kill E n (by rw [h2];simp);obtain ⟨u,h5,h6,h7⟩:=h4 0 x rfl;refine ⟨E.re n .dead,[n],rfl,hS,hF.good.re (by simp),fun j=>?_,fun m y hy=>?_⟩
 ·by_cases e:t=j
  ·subst e;rw [lE,h1];unfold aA;refine ⟨b,0,u,rfl,aEK hF.good h2,aA.step hS _ _ h7,fun j v hj=>?_⟩;rw [tN h6] at hj;cases j with
   | zero=>simp at hj;subst hj;rw [show (E.re n .dead).w=E.w from rfl,pG h3];exact h5
   | succ j=>simp at hj
  rw [lS _ _ e];exact aA.step hS _ _ (hF.holds.1 j)
 by_cases e:n=m
 ·subst e;simp [aL] at hy;subst hy;show (E.re n .dead).loc n=.dead;simp [Env.re]
 simp only [aL,eY e,cond_false] at hy;exact dI.step hS (by simp [Ne.symm e]) (hF.holds.2 m y hy)
theorem Le.freezeRow {s:List (Nat × Av)}{h:List (Nat × Hs)}(t n:Nat){ty:TypeId}{ds:List Av}(hs:bN s t=.own n 0)(hn:aL h n=some (.live ty ds))(h0:0<ds.length):Le N D ⟨s,h⟩ ⟨(t,.ptr (.agg ds))::s,(n,.dead)::h⟩:=Le.step fun E a hF=>by
 have hv:=hF.holds.1 t;rw [hs] at hv;have hH:=hF.holds.2 n _ hn;obtain ⟨b,cur,h1,h2,h3,h4⟩:=pU hv hH h0;have hS:=Step.kill E n (by rw [h2];simp);obtain ⟨vs,h5,h6,h7⟩:=wI (E:=E.re n .dead) (cur:=cur) ds 0 fun i y hy=>by
  obtain ⟨u,g1,g2,g3⟩:=h4 i y hy;exact ⟨u,by simpa using g1,g2,aA.step hS _ _ g3⟩
 refine ⟨E.re n .dead,[n],rfl,hS,hF.good.re (by simp),fun j=>?_,fun m y hy=>?_⟩
 ·by_cases e:t=j
  ·subst e;rw [lE,h1];unfold aA;refine ⟨b,0,.agg vs.toArray,rfl,aEK hF.good h2,by unfold aA;exact ⟨vs,rfl,h5,h6⟩,fun j v hj=>?_⟩;rw [show (E.re n .dead).w=E.w from rfl,pG h3];exact h7 j v hj
  rw [lS _ _ e];exact aA.step hS _ _ (hF.holds.1 j)
 by_cases e:n=m
 ·subst e;simp [aL] at hy;subst hy;show (E.re n .dead).loc n=.dead;simp [Env.re]
 simp only [aL,eY e,cond_false] at hy;exact dI.step hS (by simp [Ne.symm e]) (hF.holds.2 m y hy)
end
mutual
def aE (Z:List Nat):Av→Prop
 | .any|.val _|.fm _ _ _ _|.frz _ _ _=>True
 | .sl _ _ row=>∀ j,aE Z (row j)
 | .ptr x=>aE Z x
 | .agg cs|.tup cs|.clo _ cs|.bm _ cs=>dL Z cs
 | .own n _|.osl _ n _|.oss n _ _|.mp n=>n∉Z
 | .gd _ x|.nz x=>aE Z x
def dL (Z:List Nat):List Av→Prop
 | []=>True
 | x::xs=>aE Z x∧dL Z xs
end
mutual
theorem aE.of_pure {Z:List Nat}:∀ x:Av,aN x→aE Z x
 | .any,_=>by unfold aE;trivial
 | .val _,_=>by unfold aE;trivial
 | .sl _ _ row,h=>by unfold aN at h;unfold aE;exact fun j=>aE.of_pure (row j) (h j)
 | .ptr x,h=>by unfold aN at h;unfold aE;exact aE.of_pure x h
 | .agg cs,h=>by unfold aN at h;unfold aE;exact dL.of_pure cs h
 | .tup cs,h=>by unfold aN at h;unfold aE;exact dL.of_pure cs h
 | .clo _ cs,h=>by unfold aN at h;unfold aE;exact dL.of_pure cs h
 | .bm _ cs,h=>by unfold aN at h;unfold aE;exact dL.of_pure cs h
 | .own _ _,h=>by unfold aN at h;exact h.elim
 | .osl _ _ _,h=>by unfold aN at h;exact h.elim
 | .oss _ _ _,h=>by unfold aN at h;exact h.elim
 | .mp _,h=>by unfold aN at h;exact h.elim
 | .fm _ _ _ _,_=>by unfold aE;trivial
 | .frz _ _ _,_=>by unfold aE;trivial
 | .gd _ x,h=>by unfold aN at h;unfold aE;exact aE.of_pure x h
 | .nz x,h=>by unfold aN at h;unfold aE;exact aE.of_pure x h
theorem dL.of_pure {Z:List Nat}:∀ xs:List Av,bE xs→dL Z xs
 | [],_=>by unfold dL;trivial
 | x::xs,h=>by unfold bE at h;unfold dL;exact ⟨aE.of_pure x h.1,dL.of_pure xs h.2⟩
end
def Env.reset (E:Env)(Z:List Nat):Env:={ w:=E.w,loc:=fun m=>if m∈Z then .unborn else E.loc m,bad:=E.bad }
theorem wK {E:Env}{Z:List Nat}{n b:Nat}(h:(E.reset Z).loc n=.at b):E.loc n=.at b:=by
 by_cases e:n∈Z
 ·simp [Env.reset,e] at h
 simpa [Env.reset,e] using h
theorem yK {E:Env}{Z:List Nat}{b:Nat}(h:E.ok b):(E.reset Z).ok b:=⟨h.1,h.2.1,fun n hn=>h.2.2 n (wK hn)⟩
mutual
theorem aA.reset {E:Env}{Z:List Nat}:∀ (x:Av) (v:Value),aE Z x→aA E x v→aA (E.reset Z) x v
 | .any,_,_,_=>by unfold aA;trivial
 | .val x,v,_,hr=>by unfold aA at hr ⊢;exact hr
 | .sl k n row,v,hp,hr=>by
  unfold aE at hp;unfold aA at hr ⊢;obtain ⟨A,c,h1,h2,h3,h4⟩:=hr;refine ⟨A,c,h1,h2,h3,fun hn=>?_⟩;obtain ⟨b,o,h5,h6,h7⟩:=h4 hn;refine ⟨b,o,h5,yK h6,fun j hj=>?_⟩;obtain ⟨u,h8,h9,h10⟩:=h7 j hj;exact ⟨u,aA.reset (row j) u (hp j) h8,h9,h10⟩
 | .ptr x,v,hp,hr=>by
  unfold aE at hp;unfold aA at hr ⊢;obtain ⟨b,o,u,h1,h2,h3,h4⟩:=hr;exact ⟨b,o,u,h1,yK h2,aA.reset x u hp h3,h4⟩
 | .agg cs,v,hp,hr=>by
  unfold aE at hp;unfold aA at hr ⊢;obtain ⟨vs,h1,h2,h3⟩:=hr;exact ⟨vs,h1,aG.reset cs vs hp h2,h3⟩
 | .tup cs,v,hp,hr=>by
  unfold aE at hp;unfold aA at hr ⊢;obtain ⟨vs,h1,h2⟩:=hr;exact ⟨vs,h1,aG.reset cs vs hp h2⟩
 | .clo f cs,v,hp,hr=>by
  unfold aE at hp;unfold aA at hr ⊢;obtain ⟨vs,h1,h2⟩:=hr;exact ⟨vs,h1,aG.reset cs vs hp h2⟩
 | .bm f cs,v,hp,hr=>by
  unfold aE at hp;unfold aA at hr ⊢;obtain ⟨vs,h1,h2⟩:=hr;exact ⟨vs,h1,aG.reset cs vs hp h2⟩
 | .own n off,v,hp,hr=>by
  unfold aE at hp;unfold aA at hr ⊢;simpa [Env.reset,hp] using hr
 | .osl k n len,v,hp,hr=>by
  unfold aE at hp;unfold aA at hr ⊢;simpa [Env.reset,hp] using hr
 | .oss n off len,v,hp,hr=>by
  unfold aE at hp;unfold aA at hr ⊢;simpa [Env.reset,hp] using hr
 | .mp n,v,hp,hr=>by
  unfold aE at hp;unfold aA at hr ⊢;simpa [Env.reset,hp] using hr
 | .fm P k e D,v,_,hr=>by
  unfold aA at hr ⊢;obtain ⟨b,n,h1,h2,h3⟩:=hr;exact ⟨b,n,h1,yK h2,h3⟩
 | .frz q T xs,v,_,hr=>by
  unfold aA at hr ⊢;obtain ⟨c,g,cur,h1,h2,h3,h4,h5⟩:=hr;exact ⟨c,g,cur,h1,h2,yK h3,h4,h5⟩
 | .gd c x,v,hp,hr=>by
  unfold aE at hp;unfold aA at hr ⊢;exact ⟨fun hc=>aA.reset x v hp (hr.1 hc),hr.2⟩
 | .nz x,v,hp,hr=>by
  unfold aE at hp;unfold aA at hr ⊢;exact ⟨aA.reset x v hp hr.1,hr.2⟩
theorem aG.reset {E:Env}{Z:List Nat}:∀ (xs:List Av) (vs:List Value),dL Z xs→aG E xs vs→aG (E.reset Z) xs vs
 | [],vs,_,hr=>by unfold aG at hr ⊢;exact hr
 | x::xs,vs,hp,hr=>by
  unfold dL at hp;unfold aG at hr ⊢;obtain ⟨v,us,h1,h2,h3⟩:=hr;exact ⟨v,us,h1,aA.reset x v hp.1 h2,aG.reset xs us hp.2 h3⟩
end
def wR (Z:List Nat):List (Nat × Av)→Prop
 | []=>True
 | (_,x)::r=>aE Z x∧wR Z r
def lK (η:List (Nat × Hs))(Z:List Nat):List (Nat × Hs)→Prop
 | []=>True
 | (n,y)::r=>(if n∈Z then y=.unborn else aL η n=some y∧(match y with|.live _ cs=>∀ z∈cs,aE Z z|.loop _ _ _ _ _ _ σ=>wR Z σ|_=>True))∧lK η Z r
theorem aJ2 {Z:List Nat}:∀ {τ:List (Nat × Av)},wR Z τ→∀ t,aE Z (bN τ t)
 | [],_,t=>by unfold bN aE;trivial
 | (u,x)::r,h,t=>by
  by_cases e:u=t
  ·subst e;rw [lE];exact h.1
  rw [lS _ _ e];exact aJ2 h.2 t
theorem aSD {η:List (Nat × Hs)}{Z:List Nat}:∀ {τ:List (Nat × Hs)},lK η Z τ→∀ n y,aL τ n=some y→if n∈Z then y=.unborn else aL η n=some y∧(match y with|.live _ cs=>∀ z∈cs,aE Z z|.loop _ _ _ _ _ _ σ=>wR Z σ|_=>True)
 | [],_,n,y,h=>by simp [aL] at h
 | (u,x)::r,h,n,y,hy=>by
  by_cases e:u=n
  ·subst e;simp [aL] at hy;subst hy;exact h.1
  simp only [aL,eY e,cond_false] at hy;exact aSD h.2 n y hy
theorem Le.reset {N:Nat}{D:List Nat}{Γ τ:Ctx}(Z:List Nat)(hD:∀ n∈D,n∉Z)(hs:wT Γ.s τ.s)(hS:wR Z τ.s)(hH:lK Γ.h Z τ.h):Le N D Γ τ:=fun E a hF=>by
 have hloc:∀ n,n∉Z→(E.reset Z).loc n=E.loc n:=fun n hn=>by simp [Env.reset,hn]
 refine ⟨E.reset Z,rfl,⟨rfl,rfl,rfl,Nat.le_refl _,rfl,fun _ _ _=>rfl,fun n b hb=>.inr ⟨n,wK hb⟩,fun n hn=>by rw [hloc n (hD n hn)];exact hF.born n hn,fun n hn hl=>by rwa [hloc n (hD n hn)] at hl,fun n hn b hb=>⟨wK hb,fun cur t hc=>⟨cur,hc,rfl⟩⟩⟩,
  ⟨⟨hF.good.old,fun n m b hn hm=>hF.good.inj n m b (wK hn) (wK hm),fun n b hn=>hF.good.lt n b (wK hn),hF.good.shp.same fun b hb=>⟨yK hb,rfl⟩⟩,hF.size,fun n hn=>by rw [hloc n (hD n hn)];exact hF.born n hn,fun t=>?_,fun n y hy=>?_⟩⟩
 ·refine aA.reset _ _ (aJ2 hS t) ?_;rcases aJ3 hs t with h1|h1
  ·rw [h1];unfold aA;trivial
  rw [←h1];exact hF.holds.1 t
 have:=aSD hH n y hy;by_cases e:n∈Z
 ·rw [if_pos e] at this;subst this;show (E.reset Z).loc n=.unborn;simp [Env.reset,e]
 rw [if_neg e] at this;have h1:=hF.holds.2 n y this.1;cases y with
 | unborn=>exact (hloc n e).trans h1
 | dead=>exact (hloc n e).trans h1
 | live t cs=>
  rcases h1 with ⟨h2,h3⟩|⟨b,cur,h2,h3,h4⟩
  ·exact .inl ⟨(hloc n e).trans h2,h3⟩
  refine .inr ⟨b,cur,(hloc n e).trans h2,h3,fun i z hz=>?_⟩;obtain ⟨u,h5,h6,h7⟩:=h4 i z hz;exact ⟨u,h5,h6,aA.reset _ _ (this.2 z (List.mem_of_getElem? hz)) h7⟩
 | map P k e' D=>
  obtain ⟨b,m,h2,h3⟩:=h1;exact ⟨b,m,(hloc n e).trans h2,h3⟩
 | iter P k e' D left cnt last=>
  obtain ⟨b,r,m,h2,h3,h4⟩:=h1;exact ⟨b,r,m,(hloc n e).trans h2,yK h3,h4⟩
 | loop l N' ps assign body pe σ=>
  obtain ⟨h3,r,h4,h5,h6,h7,h8,h9,h10,h11⟩:=h1;exact ⟨(hloc n e).trans h3,r,h4,h5,h6,h7,h8,h9,h10,fun t=>aA.reset _ _ (aJ2 this.2 t) (h11 t)⟩
def pS:List (Nat × Av)→Prop
 | []=>True
 | (_,x)::r=>aN x∧pS r
theorem nJ {Z:List Nat}:∀ {τ:List (Nat × Av)},pS τ→wR Z τ
 | [],_=>trivial
 | (_,x)::r,h=>⟨aE.of_pure x h.1,nJ h.2⟩
mutual
def Av.ren (π:Nat→Nat):Av→Av
 | .any=>.any
 | .val v=>.val v
 | .sl k n row=>.sl k n fun j=>(row j).ren π
 | .ptr x=>.ptr (x.ren π)
 | .agg cs=>.agg (mY π cs)
 | .tup cs=>.tup (mY π cs)
 | .clo f cs=>.clo f (mY π cs)
 | .bm f cs=>.bm f (mY π cs)
 | .own n off=>.own (π n) off
 | .osl k n len=>.osl k (π n) len
 | .oss n off len=>.oss (π n) off len
 | .mp n=>.mp (π n)
 | .fm P k e D=>.fm P k e D
 | .frz q T xs=>.frz q T xs
 | .gd c x=>.gd c (x.ren π)
 | .nz x=>.nz (x.ren π)
def mY (π:Nat→Nat):List Av→List Av
 | []=>[]
 | x::xs=>x.ren π::mY π xs
end
mutual
theorem iR (π:Nat→Nat):∀ x:Av,aN x→x.ren π=x
 | .any,_=>by unfold Av.ren;rfl
 | .val _,_=>by unfold Av.ren;rfl
 | .sl k n row,h=>by unfold aN at h;unfold Av.ren;congr 1;funext j;exact iR π (row j) (h j)
 | .ptr x,h=>by unfold aN at h;unfold Av.ren;rw [iR π x h]
 | .agg cs,h=>by unfold aN at h;unfold Av.ren;rw [aA9 π cs h]
 | .tup cs,h=>by unfold aN at h;unfold Av.ren;rw [aA9 π cs h]
 | .clo _ cs,h=>by unfold aN at h;unfold Av.ren;rw [aA9 π cs h]
 | .bm _ cs,h=>by unfold aN at h;unfold Av.ren;rw [aA9 π cs h]
 | .own _ _,h=>by unfold aN at h;exact h.elim
 | .osl _ _ _,h=>by unfold aN at h;exact h.elim
 | .oss _ _ _,h=>by unfold aN at h;exact h.elim
 | .mp _,h=>by unfold aN at h;exact h.elim
 | .fm _ _ _ _,_=>by unfold Av.ren;rfl
 | .frz _ _ _,_=>by unfold Av.ren;rfl
 | .gd _ x,h=>by unfold aN at h;unfold Av.ren;rw [iR π x h]
 | .nz x,h=>by unfold aN at h;unfold Av.ren;rw [iR π x h]
theorem aA9 (π:Nat→Nat):∀ xs:List Av,bE xs→mY π xs=xs
 | [],_=>by unfold mY;rfl
 | x::xs,h=>by unfold bE at h;unfold mY;rw [iR π x h.1,aA9 π xs h.2]
end
def Env.ren (E:Env)(π:Nat→Nat):Env:={ w:=E.w,loc:=fun n=>E.loc (π n),bad:=E.bad }
mutual
theorem aA.ren {E:Env}{π:Nat→Nat}:∀ (x:Av) (v:Value),aA E (x.ren π) v→aA (E.ren π) x v
 | .any,_,_=>by unfold aA;trivial
 | .val x,v,hr=>by unfold Av.ren at hr;unfold aA at hr ⊢;exact hr
 | .sl k n row,v,hr=>by
  unfold Av.ren at hr;unfold aA at hr ⊢;obtain ⟨A,c,h1,h2,h3,h4⟩:=hr;refine ⟨A,c,h1,h2,h3,fun hn=>?_⟩;obtain ⟨b,o,h5,h6,h7⟩:=h4 hn;refine ⟨b,o,h5,⟨h6.1,h6.2.1,fun n hn=>h6.2.2 _ hn⟩,fun j hj=>?_⟩;obtain ⟨u,h8,h9,h10⟩:=h7 j hj;exact ⟨u,aA.ren (row j) u h8,h9,h10⟩
 | .ptr x,v,hr=>by
  unfold Av.ren at hr;unfold aA at hr ⊢;obtain ⟨b,o,u,h1,h2,h3,h4⟩:=hr;exact ⟨b,o,u,h1,⟨h2.1,h2.2.1,fun n hn=>h2.2.2 _ hn⟩,aA.ren x u h3,h4⟩
 | .agg cs,v,hr=>by
  unfold Av.ren at hr;unfold aA at hr ⊢;obtain ⟨vs,h1,h2,h3⟩:=hr;exact ⟨vs,h1,aG.ren cs vs h2,h3⟩
 | .tup cs,v,hr=>by
  unfold Av.ren at hr;unfold aA at hr ⊢;obtain ⟨vs,h1,h2⟩:=hr;exact ⟨vs,h1,aG.ren cs vs h2⟩
 | .clo f cs,v,hr=>by
  unfold Av.ren at hr;unfold aA at hr ⊢;obtain ⟨vs,h1,h2⟩:=hr;exact ⟨vs,h1,aG.ren cs vs h2⟩
 | .bm f cs,v,hr=>by
  unfold Av.ren at hr;unfold aA at hr ⊢;obtain ⟨vs,h1,h2⟩:=hr;exact ⟨vs,h1,aG.ren cs vs h2⟩
 | .own n off,v,hr=>by
  unfold Av.ren at hr;unfold aA at hr ⊢;exact hr
 | .osl k n len,v,hr=>by
  unfold Av.ren at hr;unfold aA at hr ⊢;exact hr
 | .oss n off len,v,hr=>by
  unfold Av.ren at hr;unfold aA at hr ⊢;exact hr
 | .mp n,v,hr=>by
  unfold Av.ren at hr;unfold aA at hr ⊢;exact hr
 | .fm P k e D,v,hr=>by
  unfold Av.ren at hr;unfold aA at hr ⊢;obtain ⟨b,n,h1,h2,h3⟩:=hr;exact ⟨b,n,h1,⟨h2.1,h2.2.1,fun n hn=>h2.2.2 _ hn⟩,h3⟩
 | .frz q T xs,v,hr=>by
  unfold Av.ren at hr;unfold aA at hr ⊢;obtain ⟨c,g,cur,h1,h2,h3,h4,h5⟩:=hr;exact ⟨c,g,cur,h1,h2,⟨h3.1,h3.2.1,fun n hn=>h3.2.2 _ hn⟩,h4,h5⟩
 | .gd c x,v,hr=>by
  unfold Av.ren at hr;unfold aA at hr ⊢;exact ⟨fun hc=>aA.ren x v (hr.1 hc),hr.2⟩
 | .nz x,v,hr=>by
  unfold Av.ren at hr;unfold aA at hr ⊢;exact ⟨aA.ren x v hr.1,hr.2⟩
theorem aG.ren {E:Env}{π:Nat→Nat}:∀ (xs:List Av) (vs:List Value),aG E (mY π xs) vs→aG (E.ren π) xs vs
 | [],vs,hr=>by unfold mY at hr;unfold aG at hr ⊢;exact hr
 | x::xs,vs,hr=>by
  unfold mY at hr;unfold aG at hr ⊢;obtain ⟨v,us,h1,h2,h3⟩:=hr;exact ⟨v,us,h1,aA.ren x v h2,aG.ren xs us h3⟩
end
def Hs.ren (π:Nat→Nat):Hs→Hs
 | .unborn=>.unborn
 | .dead=>.dead
 | .live t cs=>.live t (cs.map (Av.ren π))
 | .map P k e D=>.map P k e D
 | .iter P k e D left cnt last=>.iter P k e D left cnt last
 | .loop l N ps assign body pe σ=>.loop l N ps assign body pe (σ.map fun p=>(p.1,p.2.ren π))
def fI (a b:Nat)(n:Nat):Nat:=bif Nat.beq n a then b else bif Nat.beq n b then a else n
theorem tA {a b n:Nat}(h1:n≠a)(h2:n≠b):fI a b n=n:=by simp [fI,eY h1,eY h2]
theorem aRG (a b:Nat):∀ n m,fI a b n=fI a b m→n=m:=by
 have l:fI a b a=b:=by simp [fI]
 have r:fI a b b=a:=by
  by_cases e:b=a
  ·subst e;exact l
  simp [fI,eY e]
 have inv:∀ n,fI a b (fI a b n)=n:=fun n=>by
  by_cases h1:n=a
  ·rw [h1,l,r]
  by_cases h2:n=b
  ·rw [h2,r,l]
  rw [tA h1 h2,tA h1 h2]
 intro n m h;rw [←inv n,h,inv m]
def aJ4 (π:Nat→Nat)(σ:List (Nat × Av)):List (Nat × Av)→Prop
 | []=>True
 | (t,x)::r=>bN σ t=x.ren π∧aJ4 π σ r
def aJ5 (π:Nat→Nat)(η:List (Nat × Hs)):List (Nat × Hs)→Prop
 | []=>True
 | (n,y)::r=>aL η (π n)=some (y.ren π)∧aJ5 π η r
theorem aSE {π:Nat→Nat}{σ:List (Nat × Av)}:∀ {τ:List (Nat × Av)},aJ4 π σ τ→∀ t,bN τ t=.any∨bN σ t=(bN τ t).ren π
 | [],_,t=>.inl rfl
 | (u,x)::r,h,t=>by
  by_cases e:u=t
  ·subst e;rw [lE];exact .inr h.1
  rw [lS _ _ e];exact aSE h.2 t
theorem aSF {π:Nat→Nat}{η:List (Nat × Hs)}:∀ {τ:List (Nat × Hs)},aJ5 π η τ→∀ n y,aL τ n=some y→aL η (π n)=some (y.ren π)
 | [],_,n,y,h=>by simp [aL] at h
 | (u,x)::r,h,n,y,hy=>by
  by_cases e:u=n
  ·subst e;simp [aL] at hy;subst hy;exact h.1
  simp only [aL,eY e,cond_false] at hy;exact aSF h.2 n y hy
theorem aSG {π:Nat→Nat}(t:Nat):∀ σ:List (Nat × Av),bN (σ.map fun p=>(p.1,p.2.ren π)) t=(bN σ t).ren π
 | []=>by simp [bN,Av.ren]
 | (u,x)::r=>by
  simp only [List.map_cons,bN];cases Nat.beq u t with
  | true=>rfl
  | false=>exact aSG t r
theorem Le.swap {N:Nat}{D:List Nat}{Γ τ:Ctx}(a b:Nat)(ha:a∉D)(hb:b∉D)(hs:aJ4 (fI a b) Γ.s τ.s)(hh:aJ5 (fI a b) Γ.h τ.h):Le N D Γ τ:=fun E x hF=>by
 have hD:∀ n∈D,fI a b n=n:=fun n hn=>tA (fun e=>ha (e ▸ hn)) (fun e=>hb (e ▸ hn));have hl:∀ n∈D,(E.ren (fI a b)).loc n=E.loc n:=fun n hn=>by simp [Env.ren,hD n hn]
 refine ⟨E.ren (fI a b),rfl,⟨rfl,rfl,rfl,Nat.le_refl _,rfl,fun _ _ _=>rfl,fun n b hb=>.inr ⟨_,hb⟩,fun n hn=>by rw [hl n hn];exact hF.born n hn,fun n hn h=>by rwa [hl n hn] at h,fun n hn c hc=>⟨by rwa [hl n hn] at hc,fun cur t hc=>⟨cur,hc,rfl⟩⟩⟩,
  ⟨⟨hF.good.old,fun n m c hn hm=>aRG a b n m (hF.good.inj _ _ c hn hm),fun n c hn=>hF.good.lt _ c hn,hF.good.shp.same fun b hb=>⟨⟨hb.1,hb.2.1,fun n hn=>hb.2.2 _ hn⟩,rfl⟩⟩,hF.size,fun n hn=>by rw [hl n hn];exact hF.born n hn,fun t=>?_,fun n y hy=>?_⟩⟩
 ·rcases aSE hs t with h1|h1
  ·rw [h1];unfold aA;trivial
  refine aA.ren _ _ ?_;rw [←h1];exact hF.holds.1 t
 have h1:=hF.holds.2 _ _ (aSF hh n y hy);cases y with
 | unborn=>exact h1
 | dead=>exact h1
 | live t cs=>
  rcases h1 with ⟨h2,h3⟩|⟨c,cur,h2,h3,h4⟩
  ·exact .inl ⟨h2,by simpa using h3⟩
  refine .inr ⟨c,cur,h2,h3,fun i z hz=>?_⟩;obtain ⟨u,h5,h6,h7⟩:=h4 i (z.ren (fI a b)) (by rw [List.getElem?_map,hz];rfl);exact ⟨u,h5,h6,aA.ren _ _ h7⟩
 | map P k e D=>exact h1
 | iter P k e D left cnt last=>
  obtain ⟨b,r,m,h2,h3,h4⟩:=h1;exact ⟨b,r,m,h2,⟨h3.1,h3.2.1,fun n hn=>h3.2.2 _ hn⟩,h4⟩
 | loop l N' ps assign body pe σ=>
  obtain ⟨h3,r,h4,h5,h6,h7,h8,h9,h10,h11⟩:=h1;refine ⟨h3,r,h4,h5,h6,h7,h8,h9,h10,fun t=>aA.ren _ _ ?_⟩;have:=h11 t;rwa [aSG] at this
theorem Le.nameNilCell {N:Nat}{D:List Nat}{s:List (Nat × Av)}{h:List (Nat × Hs)}(m i n k:Nat)(ty:TypeId){T:TypeId}{ds:List Av}(hm:aL h m=some (.live T ds))(hi:ds[i]?=some (.val (.slice none 0 0)))(hn:aL h n=some .unborn)(hmn:m≠n):
 Le N D ⟨s,h⟩ ⟨s,(m,.live T (ds.set i (.osl k n 0)))::(n,.live ty [])::h⟩:=Le.step fun E a hF=>by
 have hu:E.loc n=.unborn:=hF.holds.2 n .unborn hn;have hM:=hF.holds.2 m _ hm;have hS:=Step.nil_name hu;refine ⟨E.re n .nil,[n],rfl,hS,hF.good.re (by simp),fun u=>aA.step hS _ _ (hF.holds.1 u),fun j y hy=>?_⟩;by_cases e:m=j
 ·subst e;simp [aL] at hy;subst hy;rcases hM with ⟨h1,rfl⟩|⟨b,cur,h1,h2,h3⟩
  ·simp at hi
  refine .inr ⟨b,cur,by simp [Env.re,hmn,h1],h2,fun j y hy=>?_⟩;rw [List.getElem?_set] at hy;by_cases e:i=j
  ·subst e;have hlt:=(List.getElem?_eq_some_iff.1 hi).1;simp [hlt] at hy;subst hy;obtain ⟨u,h4,h5,h6⟩:=h3 i _ hi;refine ⟨u,h4,h5,?_⟩;unfold aA at h6 ⊢;exact ⟨⟨by simp [Env.re],⟨none,0,h6⟩,fun _=>⟨h6,rfl⟩⟩,fun b hb=>by simp [Env.re] at hb⟩
  rw [if_neg e] at hy;obtain ⟨u,h4,h5,h6⟩:=h3 j y hy;exact ⟨u,h4,h5,aA.step hS _ _ h6⟩
 simp only [aL,eY e,cond_false] at hy;by_cases e':n=j
 ·subst e';simp at hy;subst hy;exact .inl ⟨by simp [Env.re],rfl⟩
 rw [eY e',cond_false] at hy;exact dI.step hS (by simp [Ne.symm e']) (hF.holds.2 j y hy)
theorem PC.nil_or {P:Program}{f k n:Nat}{row:Nat→Av}{xs:List Av}{x:Av}(h1:n=0→∀ c,PC P f (.val (.slice none 0 c)::xs) x)(h2:PC P f (.nz (.sl k n row)::xs) x):PC P f (.sl k n row::xs) x:=by
 intro E vs hG hA hR hB hU;have hA':=hA;unfold aG at hA';obtain ⟨v,us,rfl,h3,h4⟩:=hA';have h3':=h3;unfold aA at h3';obtain ⟨A,c,rfl,h5,h6,h7⟩:=h3';cases A with
 | none=>
  have hn:n=0:=by
   rcases Nat.eq_zero_or_pos n with h|h
   ·exact h
   obtain ⟨b,o,h8,_⟩:=h7 h;cases h8
  subst hn;exact h1 rfl c E _ hG (by unfold aG;exact ⟨_,us,rfl,by unfold aA;rfl,h4⟩) hR hB hU
 | some a=>exact h2 E _ hG (by unfold aG;exact ⟨_,us,rfl,by unfold aA;exact ⟨h3,fun n c h=>by cases h⟩,h4⟩) hR hB hU
section
variable {P:Program}{o:Oper}{x:Av}{ρ:Operand→Av}{p q:Operand}{T:TypeId}
theorem aZW (ho:o.op=.move p)(hx:ρ p=.nz x):OC P o ρ [] x []:=bZ fun E a hG hp _=>by
 have h1:=hp p (by simp [ho,Op.operands]);rw [hx] at h1;unfold aA at h1;exact ⟨a.eval p,by simp [execOp,ho],h1.1⟩
end
theorem aF.cell {P:Program}{fn:Func}{Γ:Ctx}{t n:Nat}{T ty:TypeId}{cs:List Av}(h:fn.results=#[.cell t T])(hs:bN Γ.s t=.own n 0)(hn:aL Γ.h n=some (.live ty cs))(hT:jK P T=some true)(hz:mX P T=some cs.length)(h0:0<cs.length):aF P fn Γ (.agg cs):=fun E a hG hH=>by
 have hv:=hH.1 t;rw [hs] at hv;obtain ⟨b,cur,h1,h2,h3,h4⟩:=pU hv (hH.2 n _ hn) h0;obtain ⟨vs,h5,h6,h7⟩:=wI (E:=E) (cur:=cur) cs 0 fun i y hy=>by simpa using h4 i y hy
 refine ⟨.agg vs.toArray,?_,by unfold aA;exact ⟨vs,rfl,h5,h6⟩⟩;obtain ⟨d,hd1,hd2⟩:=aD9 hT;have hl:=run_loadVar_mid (P:=P) E.w b 0 T vs d (fun j u hu=>by rw [pG h3];exact h7 j u hu) hd1 hd2 (by rw [h5.length];exact hz);have h1':a.tmps[t]?.getD undef=.pointer (some ⟨b,0,none⟩):=by rw [←h1,Array.getD_eq_getD_getElem?]
 simp only [results,h];simp [asAddr,Sem.run_bind,hl,h1']
section
variable {P:Program}{o:Oper}{ρ:Operand→Av}{p q:Operand}{T:TypeId}
theorem aZT {T' e:TypeId}{a b:Nat}(ho:o.op=.binOp .eql T p q T')(hp:ρ p=.val (.slice none 0 a))(hq:ρ q=.val (.slice none 0 b))(hT:eB P T=some e):OC P o ρ [] (.val (.bool true)) []:=bZ fun E c hG hr _=>by
 have h1:=hr p (by simp [ho,Op.operands]);have h2:=hr q (by simp [ho,Op.operands]);rw [hp] at h1;rw [hq] at h2;unfold aA at h1 h2;have he:∀ d,(Op.equalIn (d+1) T (.slice none 0 a) (.slice none 0 b)).run P E.w=.ok true E.w:=fun d=>by
  unfold Op.equalIn;rw [Sem.run_bind,run_underlying (tR hT) E.w];rfl
 refine ⟨.bool true,?_,by unfold aA;rfl⟩;simp only [execOp,ho,h1,h2,eqGuard,binOp,Op.equal,Sem.run_bind];have:=he 9999;simp [Op.maxDepth,this]
theorem aZV {T' e:TypeId}{k n b:Nat}{row:Nat→Av}(ho:o.op=.binOp .eql T p q T')(hp:ρ p=.nz (.sl k n row))(hq:ρ q=.val (.slice none 0 b))(hT:eB P T=some e):OC P o ρ [] (.val (.bool false)) []:=bZ fun E c hG hr _=>by
 have h1:=hr p (by simp [ho,Op.operands]);have h2:=hr q (by simp [ho,Op.operands]);rw [hp] at h1;rw [hq] at h2;unfold aA at h1 h2;obtain ⟨h3,h4⟩:=h1;unfold aA at h3;obtain ⟨A,cc,h5,_⟩:=h3;cases A with
 | none=>exact absurd h5 (h4 _ _)
 | some A=>
 have he:∀ d,(Op.equalIn (d+1) T (.slice (some A) n cc) (.slice none 0 b)).run P E.w=.ok false E.w:=fun d=>by
  unfold Op.equalIn;rw [Sem.run_bind,run_underlying (tR hT) E.w];rfl
 refine ⟨.bool false,?_,by unfold aA;rfl⟩;simp only [execOp,ho,h5,h2,eqGuard,binOp,Op.equal,Sem.run_bind];have:=he 9999;simp [Op.maxDepth,this]
end
section
variable {η:List (Nat × Hs)}{Z:List Nat}{τ:List (Nat × Hs)}{n:Nat}{t:TypeId}{cs:List Av}{π:Nat→Nat}
theorem uG (l:List Int):∀ z∈l.map vi,aE Z z:=fun z hz=>by
 obtain ⟨x,_,rfl⟩:=List.mem_map.1 hz;exact aE.of_pure _ (by simp [aN])
end
theorem aF.to {P:Program}{fn:Func}{Γ:Ctx}{x y:Av}(h:aF P fn Γ x)(hxy:∀ E v,aA E x v→aA E y v):aF P fn Γ y:=fun E a hG hH=>by
 obtain ⟨v,h1,h2⟩:=h E a hG hH;exact ⟨v,h1,hxy E v h2⟩
theorem uA {k c:Nat}{row:Nat→Av}(hc:c≤maxLen)(E:Env)(v:Value)(h:aA E (.val (.slice none 0 c)) v):aA E (.sl k 0 row) v:=by
 unfold aA at h ⊢;exact ⟨none,c,h,Nat.zero_le _,hc,fun h=>absurd h (by omega)⟩
def af1 (Q:Exit→Ctx→Prop):Exit→Ctx→Prop
 | .goto _,_=>False
 | e,Γ=>Q e Γ
theorem af2 {P:Program}{N:Nat}{D:List Nat}{c:Code}{Q:Exit→Ctx→Prop}{Γ:Ctx}(h:AW P N D c (af1 Q) Γ):AW P N D (.scope c) Q Γ:=fun E a hF=>by
 refine wpIn_wide.2 (wp_scope_straight (wp_mono (wpIn_wide.1 (h E a hF)) ?_));rintro e a' w' ⟨E',Γ',rfl,hK,hF',hd,hq⟩;cases e
 case goto l=>exact hq.elim
 all_goals exact ⟨E',Γ',rfl,hK,hF',hd,hq⟩
theorem af3 {P:Program}{N l:Nat}{D:List Nat}{Q:Exit→Ctx→Prop}{Γ:Ctx}{ro:Option Nat}(h:Q .normal Γ):dW ro P N D (.label l) Q Γ:=fun E a hF=>wpIn_label ⟨E,Γ,rfl,Kept.refl hF.born,hF,rfl,h⟩
end Go.Proofs.YtgajclaoaphgoaaGreatDoor
