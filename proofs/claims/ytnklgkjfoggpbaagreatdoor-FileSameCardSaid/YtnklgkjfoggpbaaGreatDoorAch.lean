/- Parts of the proof of a law of this seat: rules and contracts; no conditions. -/
import Derived.Test.YtnklgkjfoggpbaaGreatDoorGs
import Derived.Maps.Range
import Derived.TacticsIn
import Derived.RangeFuncCalls
set_option maxHeartbeats 6400000
set_option maxRecDepth 100000
set_option linter.unusedVariables false
set_option linter.unusedSimpArgs false
namespace Go.Proofs.YtnklgkjfoggpbaaGreatDoor
open Go.RowKit
inductive Loc where
 | unborn
 | dead
 | nil
 | at (b:Nat)
structure Env where
 w:World
 loc:Nat→Loc
 bad:Nat→Prop
def Env.ok (E:Env)(b:Nat):Prop:=b<E.w.heap.size∧¬ E.bad b∧∀ n,E.loc n≠.at b
inductive Av where
 | any
 | val (v:Value)
 | sl (k n:Nat) (row:Nat→Av)
 | ptr (x:Av)
 | agg (cs:List Av)
 | tup (cs:List Av)
 | clo (f:Nat) (caps:List Av)
 | bm (f:Nat) (first:List Av)
 | own (n off:Nat)
 | osl (k n len:Nat)
 | oss (n off len:Nat)
 | mp (n:Nat)
 | fm (P:Program) (k e:TypeId) (D:DataW Unit)
 | gd (c:Bool) (x:Av)
 | nz (x:Av)
 | frz (q:Bool) (T:TypeId) (xs:List Value)
mutual
def aA (E:Env):Av→Value→Prop
 | .any,_=>True
 | .val x,v=>v=x
 | .sl k n row,v=>∃ A c,v=.slice A n c∧n≤c∧c≤maxLen∧(0<n→∃ b o,A=some ⟨b,o,none⟩∧E.ok b∧∀ j,j<n→∃ u,aA E (row j) u∧u.cells.size=k∧E.w.rangeAt b (o+j*k) u.cells.toList)
 | .ptr x,v=>∃ b o u,v=.pointer (some ⟨b,o,none⟩)∧E.ok b∧aA E x u∧E.w.rangeAt b o u.cells.toList
 | .agg cs,v=>∃ vs:List Value,v=.agg vs.toArray∧aG E cs vs∧∀ u∈vs,u.oneCell'=true
 | .tup cs,v=>∃ vs:List Value,v=.tuple vs.toArray∧aG E cs vs
 | .clo f cs,v=>∃ vs:List Value,v=.func (.func f) #[] vs.toArray∧aG E cs vs
 | .bm f cs,v=>∃ vs:List Value,v=.func (.func f) vs.toArray #[]∧aG E cs vs
 | .own n off,v=>(E.loc n≠.unborn∧∃ p,v=.pointer p)∧∀ b,E.loc n=.at b→v=.pointer (some ⟨b,off,none⟩)
 | .osl k n len,v=>(E.loc n≠.unborn∧(∃ a c,v=.slice a len c)∧(E.loc n=.nil→v=.slice none 0 0∧len=0))∧∀ b,E.loc n=.at b→∃ c cur t,v=.slice (some ⟨b,0,none⟩) len c∧len≤c∧c≤maxLen∧E.w.heap[b]?=some (.cells cur t (0,0))∧cur.size=c*k
 | .oss n off len,v=>(E.loc n≠.unborn∧∃ a c,v=.slice a len c)∧∀ b,E.loc n=.at b→∃ A c cur t,v=.slice A len c∧len≤c∧c≤maxLen∧(0<len→A=some ⟨b,off,none⟩)∧E.w.heap[b]?=some (.cells cur t (0,0))∧off+len≤cur.size
 | .mp n,v=>(E.loc n≠.unborn∧∃ b,v=.map b)∧∀ b,E.loc n=.at b→v=.map (some b)
 | .fm P k e D,v=>∃ b n,v=.map (some b)∧E.ok b∧E.w.ownsMap P k (plainElem P e) b n D
 | .frz q T xs,v=>∃ c g cur,v=(bif q then .pointer (some ⟨g,0,none⟩) else .slice (some ⟨g,0,none⟩) xs.length c)∧xs.length≤c∧E.ok g∧E.w.heap[g]?=some (.cells cur T (0,xs.length))∧∀ (j:Nat) (u:Value),xs[j]?=some u→cur[j]?=some u
 | .gd c x,v=>(c=true→aA E x v)∧(c=false→v=undef)
 | .nz x,v=>aA E x v∧∀ n c,v≠.slice none n c
def aG (E:Env):List Av→List Value→Prop
 | [],vs=>vs=[]
 | x::xs,vs=>∃ v us,vs=v::us∧aA E x v∧aG E xs us
end
def bN:List (Nat × Av)→Nat→Av
 | [],_=>.any
 | (t,x)::r,u=>bif Nat.beq t u then x else bN r u
inductive Hs where
 | unborn
 | dead
 | live (t:TypeId) (cells:List Av)
 | map (P:Program) (k e:TypeId) (D:DataW Unit)
 | iter (P:Program) (k e:TypeId) (D:DataW Unit) (left:Lit→Bool) (cnt:Nat) (last:Option (Value × Value))
 | loop (l N:Nat) (ps:Array Tmp) (assign body:Code) (pe:Option Code) (σ:List (Nat × Av))
def xC (P:Program)(w:World)(r:Nat)(kv:Value × Value):Prop:=(Instr.entry (.pointer (some ⟨r,0,none⟩))).run P w=.ok (.tuple #[kv.1,kv.2]) w
def dI (E:Env)(n:Nat):Hs→Prop
 | .unborn=>E.loc n=.unborn
 | .dead=>E.loc n=.dead
 | .live t cells=>(E.loc n=.nil∧cells=[])∨∃ (b:Nat) (cur:Array Value),E.loc n=.at b∧E.w.heap[b]?=some (.cells cur t (0,0))∧∀ (i:Nat) (y:Av),cells[i]?=some y→∃ u:Value,cur[i]?=some u∧u.oneCell'=true∧aA E y u
 | .map P k e D=>∃ b m,E.loc n=.at b∧E.w.ownsMap P k (plainElem P e) b m D
 | .iter P k e D left cnt last=>∃ b r m,E.loc n=.at r∧E.ok b∧E.w.ranges P k (plainElem P e) b r m D left cnt∧∀ kv,last=some kv→xC P E.w r kv
 | .loop l N ps assign body pe σ=>E.loc n=.at l∧∃ r:Loop,E.w.heap[l]?=some (.loop r)∧r.params=ps∧r.assign=assign∧r.body=body∧r.tmps.size=N∧r.pending=pe∧r.state=(if pe.isNone then .ready else .done)∧∀ t,aA E (bN σ t) (r.tmps.getD t undef)
theorem tN {v:Value}(h:v.oneCell'=true):v.cells=#[v]:=by
 cases v<;>first|rfl|(simp [Value.oneCell'] at h)
def qY (E:Env):Prop:=∀ g∈aBS,E.ok g∧∃ m,E.w.cell? ⟨g,0,none⟩=some (.int .i64 m)
structure Good (E:Env):Prop where
 old:∀ b,E.bad b→b<E.w.heap.size
 inj:∀ n m b,E.loc n=.at b→E.loc m=.at b→n=m
 lt:∀ n b,E.loc n=.at b→b<E.w.heap.size∧¬ E.bad b
 shp:qY E
structure Step (E E':Env) (N:List Nat):Prop where
 os:E'.w.os=E.w.os
 tape:E'.w.tape=E.w.tape
 output:E'.w.output=E.w.output
 size:E.w.heap.size≤E'.w.heap.size
 bad:E'.bad=E.bad
 keep:∀ b,b<E.w.heap.size→(∀ n,E.loc n≠.at b)→E'.w.heap[b]?=E.w.heap[b]?
 same:∀ n,n∉N→E'.loc n=E.loc n∧∀ b,E.loc n=.at b→E'.w.heap[b]?=E.w.heap[b]?
 born:∀ n,E.loc n≠.unborn→E'.loc n≠.unborn
 from_:∀ n b,E'.loc n=.at b→E.loc n=.at b∨(E.loc n=.unborn∧(E.w.heap.size≤b∨∃ m,E.loc m=.at b))
 nil_:∀ n,E'.loc n=.nil→E.loc n=.nil∨E.loc n=.unborn
 shape:∀ n b cur t,E'.loc n=.at b→E.loc n=.at b→E.w.heap[b]?=some (.cells cur t (0,0))→∃ cur',E'.w.heap[b]?=some (.cells cur' t (0,0))∧cur'.size=cur.size
theorem Step.ok {E E':Env}{N:List Nat}(h:Step E E' N){b:Nat}(hb:E.ok b):E'.ok b∧E'.w.heap[b]?=E.w.heap[b]?:=by
 obtain ⟨h1,h2,h3⟩:=hb
 refine ⟨⟨Nat.lt_of_lt_of_le h1 h.size,by rwa [h.bad],fun n hn=>?_⟩,h.keep b h1 h3⟩
 rcases h.from_ n b hn with h4|⟨_,h4|⟨m,h4⟩⟩
 ·exact h3 n h4
 ·omega
 ·exact h3 m h4
theorem qY.same {E E':Env}(h:qY E)(hk:∀ b,E.ok b→E'.ok b∧E'.w.heap[b]?=E.w.heap[b]?):qY E':=fun g hg=>by
 obtain ⟨h1,m,h2⟩:=h g hg
 exact ⟨(hk g h1).1,m,(World.cell?_of_block (a:=⟨g,0,none⟩) (hk g h1).2).trans h2⟩
theorem qY.step {E E':Env}{N:List Nat}(h:qY E)(hS:Step E E' N):qY E':=h.same fun b hb=>hS.ok hb
theorem aBT {w w':World}{b o:Nat}{cs:List Value}(h:w'.heap[b]?=w.heap[b]?)(hr:w.rangeAt b o cs):w'.rangeAt b o cs:=fun j v hv=>(World.cell?_of_block (w:=w) (a:=⟨b,o+j,none⟩) h).trans (hr j v hv)
theorem aBU {w w':World}{P:Program}{k e:TypeId}{b n:Nat}{D:DataW Unit}(h:w'.heap[b]?=w.heap[b]?)(ho:w.ownsMap P k (plainElem P e) b n D):w'.ownsMap P k (plainElem P e) b n D:=by
 obtain ⟨es,clock,h1,h2⟩:=ho
 exact ⟨es,clock,h.trans h1,h2⟩
theorem aLX {w w':World}{P:Program}{k e:TypeId}{b r n c:Nat}{D:DataW Unit}{left:Lit→Bool}(h:w'.heap[b]?=w.heap[b]?)(h':w'.heap[r]?=w.heap[r]?)(ho:w.ranges P k (plainElem P e) b r n D left c):w'.ranges P k (plainElem P e) b r n D left c:=by
 obtain ⟨es,clock,since,seen,c0,h1,h2,h3,h4,h5,h6⟩:=ho
 exact ⟨es,clock,since,seen,c0,h.trans h1,h2,h3,h4,h'.trans h5,h6⟩
theorem aVH {P:Program}{w w':World}{b r since c0:Nat}{seen:Array Nat}{t:Value}(hr:w.heap[r]?=some (.mapIter (some b) since seen c0))(h:w'.heap[b]?=w.heap[b]?)(h':w'.heap[r]?=w.heap[r]?)
 (hrun:(Instr.entry (.pointer (some ⟨r,0,none⟩))).run P w=.ok t w):(Instr.entry (.pointer (some ⟨r,0,none⟩))).run P w'=.ok t w':=by
 simp only [Instr.entry,getObj,Sem.run_bind,Sem.run,h',hr,h,Result.andThen] at hrun ⊢
 cases hs:seen.back? with
 | none=>rw [hs] at hrun;simp [stuck,Sem.run] at hrun
 | some stamp=>
  simp only [hs,Sem.run_bind,Sem.run] at hrun ⊢
  rw [h]
  cases hb:w.heap[b]? with
  | none=>simp [hb] at hrun
  | some ob=>
   cases ob<;>simp only [hb,Result.andThen] at hrun ⊢<;>first|(simp [stuck,Sem.run] at hrun;done)|skip
   split
   ·rename_i hc;rw [if_pos hc] at hrun;simp [unsupported,Sem.run,Result.andThen] at hrun
   ·rename_i hc
    rw [if_neg hc] at hrun
    revert hrun
    generalize Array.find? _ _=F
    intro hrun
    cases F with
    | none=>simp [unsupported] at hrun
    | some e=>
     simp only [Sem.run_pure,Result.ok.injEq,and_true] at hrun ⊢
     exact hrun
theorem xC.same {P P':Program}{w w':World}{k e:TypeId}{b r n c:Nat}{D:DataW Unit}{left:Lit→Bool}{kv:Value × Value}(hrg:w.ranges P' k (plainElem P' e) b r n D left c)(h:w'.heap[b]?=w.heap[b]?)(h':w'.heap[r]?=w.heap[r]?)(ho:xC P w r kv):xC P w' r kv:=by
 obtain ⟨es,clock,since,seen,c0,_,_,_,_,h5,_⟩:=hrg
 exact aVH h5 h h' ho
mutual
theorem aA.step {E E':Env}{N:List Nat}(h:Step E E' N):∀ (x:Av) (v:Value),aA E x v→aA E' x v
 | .any,_,_=>by unfold aA;trivial
 | .val x,v,hr=>by unfold aA at hr ⊢;exact hr
 | .sl k n row,v,hr=>by
  unfold aA at hr ⊢
  obtain ⟨A,c,h1,h2,h3,h4⟩:=hr
  refine ⟨A,c,h1,h2,h3,fun hn=>?_⟩
  obtain ⟨b,o,h5,h6,h7⟩:=h4 hn
  refine ⟨b,o,h5,(h.ok h6).1,fun j hj=>?_⟩
  obtain ⟨u,h8,h9,h10⟩:=h7 j hj
  exact ⟨u,aA.step h (row j) u h8,h9,aBT (h.ok h6).2 h10⟩
 | .ptr x,v,hr=>by
  unfold aA at hr ⊢
  obtain ⟨b,o,u,h1,h2,h3,h4⟩:=hr
  exact ⟨b,o,u,h1,(h.ok h2).1,aA.step h x u h3,aBT (h.ok h2).2 h4⟩
 | .agg cs,v,hr=>by
  unfold aA at hr ⊢
  obtain ⟨vs,h1,h2,h3⟩:=hr
  exact ⟨vs,h1,aG.step h cs vs h2,h3⟩
 | .tup cs,v,hr=>by
  unfold aA at hr ⊢
  obtain ⟨vs,h1,h2⟩:=hr
  exact ⟨vs,h1,aG.step h cs vs h2⟩
 | .clo f cs,v,hr=>by
  unfold aA at hr ⊢
  obtain ⟨vs,h1,h2⟩:=hr
  exact ⟨vs,h1,aG.step h cs vs h2⟩
 | .bm f cs,v,hr=>by
  unfold aA at hr ⊢
  obtain ⟨vs,h1,h2⟩:=hr
  exact ⟨vs,h1,aG.step h cs vs h2⟩
 | .own n off,v,hr=>by
  unfold aA at hr ⊢
  refine ⟨⟨h.born n hr.1.1,hr.1.2⟩,fun b hb=>?_⟩
  rcases h.from_ n b hb with h1|⟨h1,_⟩
  ·exact hr.2 b h1
  ·exact absurd h1 hr.1.1
 | .osl k n len,v,hr=>by
  unfold aA at hr ⊢
  refine ⟨⟨h.born n hr.1.1,hr.1.2.1,fun hn=>?_⟩,fun b hb=>?_⟩
  ·rcases h.nil_ n hn with h1|h1
   ·exact hr.1.2.2 h1
   ·exact absurd h1 hr.1.1
  rcases h.from_ n b hb with h1|⟨h1,_⟩
  ·obtain ⟨c,cur,t,h2,h3,h4,h5,h6⟩:=hr.2 b h1
   obtain ⟨cur',h7,h8⟩:=h.shape n b cur t hb h1 h5
   exact ⟨c,cur',t,h2,h3,h4,h7,by rw [h8,h6]⟩
  ·exact absurd h1 hr.1.1
 | .oss n off len,v,hr=>by
  unfold aA at hr ⊢
  refine ⟨⟨h.born n hr.1.1,hr.1.2⟩,fun b hb=>?_⟩
  rcases h.from_ n b hb with h1|⟨h1,_⟩
  ·obtain ⟨A,c,cur,t,h2,h3,h4,h9,h5,h6⟩:=hr.2 b h1
   obtain ⟨cur',h7,h8⟩:=h.shape n b cur t hb h1 h5
   exact ⟨A,c,cur',t,h2,h3,h4,h9,h7,by rw [h8];exact h6⟩
  ·exact absurd h1 hr.1.1
 | .mp n,v,hr=>by
  unfold aA at hr ⊢
  refine ⟨⟨h.born n hr.1.1,hr.1.2⟩,fun b hb=>?_⟩
  rcases h.from_ n b hb with h1|⟨h1,_⟩
  ·exact hr.2 b h1
  ·exact absurd h1 hr.1.1
 | .fm P k e D,v,hr=>by
  unfold aA at hr ⊢
  obtain ⟨b,n,h1,h2,h3⟩:=hr
  exact ⟨b,n,h1,(h.ok h2).1,aBU (h.ok h2).2 h3⟩
 | .frz q T xs,v,hr=>by
  unfold aA at hr ⊢
  obtain ⟨c,g,cur,h1,h2,h3,h4,h5⟩:=hr
  exact ⟨c,g,cur,h1,h2,(h.ok h3).1,(h.ok h3).2.trans h4,h5⟩
 | .gd c x,v,hr=>by
  unfold aA at hr ⊢
  exact ⟨fun hc=>aA.step h x v (hr.1 hc),hr.2⟩
 | .nz x,v,hr=>by
  unfold aA at hr ⊢
  exact ⟨aA.step h x v hr.1,hr.2⟩
theorem aG.step {E E':Env}{N:List Nat}(h:Step E E' N):∀ (xs:List Av) (vs:List Value),aG E xs vs→aG E' xs vs
 | [],vs,hr=>by unfold aG at hr ⊢;exact hr
 | x::xs,vs,hr=>by
  unfold aG at hr ⊢
  obtain ⟨v,us,h1,h2,h3⟩:=hr
  exact ⟨v,us,h1,aA.step h x v h2,aG.step h xs us h3⟩
end
theorem dI.step {E E':Env}{N:List Nat}(h:Step E E' N){n:Nat}(hn:n∉N){x:Hs}(hx:dI E n x):dI E' n x:=by
 obtain ⟨h1,h2⟩:=h.same n hn
 cases x with
 | unborn=>exact h1.trans (show E.loc n=.unborn from hx)
 | dead=>exact h1.trans (show E.loc n=.dead from hx)
 | live t cells=>
  rcases hx with ⟨h3,h4⟩|⟨b,cur,h3,h4,h5⟩
  ·exact .inl ⟨h1.trans h3,h4⟩
  refine .inr ⟨b,cur,h1.trans h3,(h2 b h3).trans h4,fun i y hy=>?_⟩
  obtain ⟨u,h6,h8,h7⟩:=h5 i y hy
  exact ⟨u,h6,h8,aA.step h y u h7⟩
 | map P k e D=>
  obtain ⟨b,m,h3,h4⟩:=hx
  exact ⟨b,m,h1.trans h3,aBU (h2 b h3) h4⟩
 | iter P k e D left cnt last=>
  obtain ⟨b,r,m,h3,h4,h5,h6⟩:=hx
  exact ⟨b,r,m,h1.trans h3,(h.ok h4).1,aLX (h.ok h4).2 (h2 r h3) h5,fun kv hk=>xC.same h5 (h.ok h4).2 (h2 r h3) (h6 kv hk)⟩
 | loop l N ps assign body pe σ=>
  obtain ⟨h3,r,h4,h5,h6,h7,h8,h9,h10,h11⟩:=hx
  exact ⟨h1.trans h3,r,(h2 l h3).trans h4,h5,h6,h7,h8,h9,h10,fun t=>aA.step h _ _ (h11 t)⟩
theorem Step.refl (E:Env):Step E E []:=⟨rfl,rfl,rfl,Nat.le_refl _,rfl,fun _ _ _=>rfl,fun _ _=>⟨rfl,fun _ _=>rfl⟩,fun _ h=>h,fun _ _ h=>.inl h,fun _ h=>.inl h,fun _ _ cur _ _ _ h=>⟨cur,h,rfl⟩⟩
theorem Step.trans {E E' E'':Env}{N M:List Nat}(h:Step E E' N)(k:Step E' E'' M):Step E E'' (N++M) where
 os:=k.os.trans h.os
 tape:=k.tape.trans h.tape
 output:=k.output.trans h.output
 size:=Nat.le_trans h.size k.size
 bad:=k.bad.trans h.bad
 keep b hb hn:=by
  refine (k.keep b (Nat.lt_of_lt_of_le hb h.size) fun n hn'=>?_).trans (h.keep b hb hn)
  rcases h.from_ n b hn' with h1|⟨_,h1|⟨m,h1⟩⟩
  ·exact hn n h1
  ·omega
  ·exact hn m h1
 same n hn:=by
  rw [List.mem_append,not_or] at hn
  obtain ⟨h1,h2⟩:=h.same n hn.1
  obtain ⟨h3,h4⟩:=k.same n hn.2
  exact ⟨h3.trans h1,fun b hb=>(h4 b (h1.trans hb)).trans (h2 b hb)⟩
 born n hn:=k.born n (h.born n hn)
 from_ n b hb:=by
  rcases k.from_ n b hb with h1|⟨h1,h2⟩
  ·exact h.from_ n b h1
  ·refine .inr ⟨Classical.byContradiction fun hu=>h.born n hu h1,?_⟩
   rcases h2 with h2|⟨m,h2⟩
   ·exact .inl (Nat.le_trans h.size h2)
   ·rcases h.from_ m b h2 with h3|⟨_,h3⟩
    ·exact .inr ⟨m,h3⟩
    ·exact h3
 nil_ n hn:=by
  rcases k.nil_ n hn with h1|h1
  ·exact h.nil_ n h1
  ·exact .inr (Classical.byContradiction fun hu=>h.born n hu h1)
 shape n b cur t hb hb0 hc:=by
  have h1:E'.loc n=.at b:=by
   rcases k.from_ n b hb with h1|⟨h1,_⟩
   ·exact h1
   ·exact absurd h1 (h.born n (by rw [hb0];intro hx;cases hx))
  obtain ⟨cur',h2,h3⟩:=h.shape n b cur t h1 hb0 hc
  obtain ⟨cur'',h4,h5⟩:=k.shape n b cur' t hb h1 h2
  exact ⟨cur'',h4,h5.trans h3⟩
theorem Step.more {E E':Env}{N M:List Nat}(h:Step E E' N)(hs:∀ n∈N,n∈M):Step E E' M:={ h with same:=fun n hn=>h.same n (fun hm=>hn (hs n hm)) }
theorem Step.grow {E:Env}(hG:Good E){w':World}(h:Below E.w.heap.size E.w w'):Step E { E with w:=w' } [] where
 os:=h.os
 tape:=h.tape
 output:=h.output
 size:=h.size
 bad:=rfl
 keep b hb _:=h.block b hb
 same n _:=⟨rfl,fun b hb=>h.block b (hG.lt n b hb).1⟩
 born n hn:=hn
 from_ n b hb:=.inl hb
 nil_ n hn:=.inl hn
 shape n b cur t _ _ hc:=⟨cur,(h.block b (Array.getElem?_eq_some_iff.1 hc).1).trans hc,rfl⟩
theorem Good.grow {E:Env}(hG:Good E){w':World}(h:Below E.w.heap.size E.w w'):Good { E with w:=w' }:=
 ⟨fun c hc=>Nat.lt_of_lt_of_le (hG.old c hc) h.size,hG.inj,fun n b hb=>⟨Nat.lt_of_lt_of_le (hG.lt n b hb).1 h.size,(hG.lt n b hb).2⟩,hG.shp.step (Step.grow hG h)⟩
def Env.give (E:Env)(w':World)(n b:Nat):Env:={ w:=w',loc:=fun m=>if m=n then .at b else E.loc m,bad:=E.bad }
theorem Step.give {E:Env}(hG:Good E){w':World}(h:Below E.w.heap.size E.w w'){n b:Nat}(hn:E.loc n=.unborn)(hb:E.w.heap.size≤b):Step E (E.give w' n b) [n] where
 os:=h.os
 tape:=h.tape
 output:=h.output
 size:=h.size
 bad:=rfl
 keep b hb _:=h.block b hb
 same m hm:=by
  have hm:m≠n:=by simpa using hm
  exact ⟨by simp [Env.give,hm],fun b hb=>h.block b (hG.lt m b hb).1⟩
 born m hm:=by
  by_cases e:m=n
  ·subst e;exact absurd hn hm
  ·simpa [Env.give,e] using hm
 from_ m c hc:=by
  by_cases e:m=n
  ·subst e
   simp [Env.give] at hc
   subst hc
   exact .inr ⟨hn,.inl hb⟩
  ·simp [Env.give,e] at hc
   exact .inl hc
 nil_ m hc:=by
  by_cases e:m=n
  ·subst e;exact .inr hn
  ·simp [Env.give,e] at hc
   exact .inl hc
 shape n b cur t _ _ hc:=⟨cur,(h.block b (Array.getElem?_eq_some_iff.1 hc).1).trans hc,rfl⟩
theorem Good.give {E:Env}(hG:Good E){w':World}(h:Below E.w.heap.size E.w w'){n b:Nat}(hb:E.w.heap.size≤b)(hb':b<w'.heap.size):Good (E.give w' n b) where
 shp:=hG.shp.same fun c hc=>⟨⟨Nat.lt_of_lt_of_le hc.1 h.size,hc.2.1,fun m hm=>by
  by_cases e:m=n
  ·simp [Env.give,e] at hm
   have:=hc.1
   omega
  ·simp [Env.give,e] at hm
   exact hc.2.2 m hm⟩,h.block c hc.1⟩
 old c hc:=Nat.lt_of_lt_of_le (hG.old c hc) h.size
 inj m l c hm hl:=by
  by_cases e:m=n<;>by_cases e':l=n
  ·rw [e,e']
  ·simp [Env.give,e,e'] at hm hl
   have:=(hG.lt l c hl).1
   omega
  ·simp [Env.give,e,e'] at hm hl
   have:=(hG.lt m c hm).1
   omega
  ·simp [Env.give,e,e'] at hm hl
   exact hG.inj m l c hm hl
 lt m c hm:=by
  by_cases e:m=n
  ·simp [Env.give,e] at hm
   subst hm
   exact ⟨hb',fun hbad=>by have:=hG.old b hbad;omega⟩
  ·simp [Env.give,e] at hm
   exact ⟨Nat.lt_of_lt_of_le (hG.lt m c hm).1 h.size,(hG.lt m c hm).2⟩
structure Ctx where
 s:List (Nat × Av)
 h:List (Nat × Hs)
def aL:List (Nat × Hs)→Nat→Option Hs
 | [],_=>none
 | (t,x)::r,u=>bif Nat.beq t u then some x else aL r u
theorem eY {a b:Nat}(h:a≠b):Nat.beq a b=false:=by
 cases hb:Nat.beq a b with
 | false=>rfl
 | true=>exact absurd (Nat.eq_of_beq_eq_true hb) h
theorem aVI {a b:Nat}(h:Nat.beq a b=false):a≠b:=by
 intro e
 subst e
 have:Nat.beq a a=true:=by simp
 rw [this] at h
 cases h
theorem lE (t:Nat)(x:Av)(r:List (Nat × Av)):bN ((t,x)::r) t=x:=by simp [bN]
theorem lS {t u:Nat}(x:Av)(r:List (Nat × Av))(h:t≠u):bN ((t,x)::r) u=bN r u:=by
 have:Nat.beq t u=false:=eY h
 simp [bN,this]
theorem vF (U h:List (Nat × Hs))(n:Nat):aL (U++h) n=(aL U n).or (aL h n):=by
 induction U with
 | nil=>rfl
 | cons p U ih=>
  obtain ⟨m,y⟩:=p
  simp only [List.cons_append,aL]
  cases Nat.beq m n<;>simp [ih]
theorem zB {U:List (Nat × Hs)}{n:Nat}(h:n∉U.map (·.1)):aL U n=none:=by
 induction U with
 | nil=>rfl
 | cons p U ih=>
  obtain ⟨m,y⟩:=p
  simp only [List.map_cons,List.mem_cons,not_or] at h
  have:Nat.beq m n=false:=eY fun e=>h.1 e.symm
  simp [aL,this,ih h.2]
theorem vG {U:List (Nat × Hs)}{n:Nat}(h:n∈U.map (·.1)):∃ y,aL U n=some y:=by
 induction U with
 | nil=>simp at h
 | cons p U ih=>
  obtain ⟨m,y⟩:=p
  simp only [aL]
  cases hb:Nat.beq m n with
  | true=>exact ⟨y,by simp⟩
  | false=>
   have hne:m≠n:=aVI hb
   simp only [List.map_cons,List.mem_cons] at h
   rcases h with h|h
   ·exact absurd h.symm hne
   ·simpa using ih h
def Ctx.put (Γ:Ctx)(d:Option Nat)(x:Av)(U:List (Nat × Hs)):Ctx:=⟨match d with|some d=>(d,x)::Γ.s|none=>Γ.s,U++Γ.h⟩
def mK (E:Env)(tm:Array Value)(Γ:Ctx):Prop:=(∀ t,aA E (bN Γ.s t) (tm.getD t undef))∧∀ n x,aL Γ.h n=some x→dI E n x
def mZ (E:Env)(x:Av)(U:List (Nat × Hs))(v:Value)(w':World):Prop:=
 ∃ E':Env,E'.w=w'∧Step E E' (U.map (·.1))∧Good E'∧aA E' x v∧∀ n y,aL U n=some y→dI E' n y
def aLY:Operand→List Nat
 | .tmp t=>[t]
 | _=>[]
def aFQ (ops:Array Oper)(o:Oper):List Nat:=
 match o.guard with
 | none=>[]
 | some (g,_)=>match (ops[g]?).bind (·.dst) with|some t=>[t]|none=>[]
def tO (ops:Array Oper)(o:Oper):List Nat:=o.op.operands.toList.flatMap aLY++aFQ ops o
def xD (b:Bool)(P:Program)(o:Oper)(a:Act)(w:World)(K:Value→World→Prop):Prop:=
 eK P o a w K∨(b=true∧∃ l f tmps assign body w',(execOp a.eval o).run P w=.ok (.round l f tmps assign body) w'∧RoundIn Fence.wide 0 P l f tmps assign body w' fun e w''=>∃ v,e=.returned v∧K v w'')
theorem xD.mono {b:Bool}{P:Program}{o:Oper}{a:Act}{w:World}{K K':Value→World→Prop}(h:xD b P o a w K)(hk:∀ v w',K v w'→K' v w'):xD b P o a w K':=by
 rcases h with h|⟨hb,l,f,tmps,assign,body,w',h1,h2⟩
 ·refine .inl ?_
  unfold eK at h ⊢
  generalize (execOp a.eval o).run P w=r at *
  cases r with
  | ok n w'=>
   cases n<;>simp only [fM] at h ⊢
   case value u=>exact hk _ _ h
   case skip=>exact hk _ _ h
   case enter f args=>exact h.mono fun e w'' ⟨v,he,hh⟩=>⟨v,he,hk _ _ hh⟩
  | halt x w'=>simp only [fM] at h
 ·exact .inr ⟨hb,l,f,tmps,assign,body,w',h1,h2.mono fun e w'' ⟨v,he,hh⟩=>⟨v,he,hk _ _ hh⟩⟩
def pB (ro:Option Nat):Fence:={ Fence.wide with round:=ro }
theorem aFR {b:Bool}{ro:Option Nat}{k:Nat}{P:Program}{o:Oper}{a:Act}{w:World}{K:Act→World→Prop}{Q:Exit→Act→World→Prop}(h:xD b P o a w fun v w'=>K (a.put o.dst v) w'):o.wpIn (pB ro) k P a w K Q:=by
 refine ⟨fun _ _=>trivial,?_⟩
 have hs:∀ (Z:Result Next→Prop),(∀ d w',¬ Z (.ok (.defer d) w'))→(∀ x w',¬ Z (.halt x w'))→Z ((execOp a.eval o).run P w)→(o.semAt (pB ro).round a.eval).run P w=(execOp a.eval o).run P w:=by
  intro Z hd hh hz
  cases hro:(pB ro).round with
  | none=>rfl
  | some l=>
   rw [Oper.semAt_some l a.eval o]
   intro c hc
   unfold execOp at hz
   simp only [hc] at hz
   revert hz
   simp only [Sem.run_bind]
   cases h1:Sem.run P (resolve a.eval c o.type) w with
   | ok d w'=>simp only [Result.andThen_ok,Sem.run_pure];exact hd d w'
   | halt x w'=>simp only [Result.andThen];exact hh x w'
 rcases h with h|⟨_,l,f,tmps,assign,body,w',h1,h2⟩
 ·unfold eK at h
  rw [hs _ (fun d w' hx=>by simp only [fM] at hx) (fun x w' hx=>by simp only [fM] at hx) h]
  generalize (execOp a.eval o).run P w=r at *
  cases r with
  | ok n w'=>
   cases n<;>simp only [fM] at h
   case value u=>exact h
   case skip=>exact h
   case enter f args=>
    refine ⟨fun hd=>by simp [pB,Fence.wide] at hd,?_⟩
    refine (show CallsIn (pB ro) (k-1) P f args w' _ from (callsIn_wide (n:=k-1)).2 h).mono ?_
    rintro e w'' ⟨v,rfl,hk⟩
    exact hk
  | halt x w'=>simp only [fM] at h
 ·rw [hs (fun x=>x=.ok (.round l f tmps assign body) w') (fun d w' hx=>by cases hx) (fun x w' hx=>by cases hx) h1,h1]
  refine ⟨fun hd=>by simp [pB,Fence.wide] at hd,?_⟩
  have h3:RoundIn (pB ro) (k-1) P l f tmps assign body w' fun e w''=>∃ v,e=.returned v∧K (a.put o.dst v) w'':=⟨trivial,fun c cs _=>h2.2 c cs (room_wide _)⟩
  refine h3.mono ?_
  rintro e w'' ⟨v,rfl,hk⟩
  exact hk
def OS (bb:Bool)(P:Program)(ops:Array Oper)(o:Oper)(σ:List (Nat × Av))(R:List (Nat × Hs))(x:Av)(U:List (Nat × Hs)):Prop:=
 ∀ (E:Env) (a:Act),Good E→(∀ t∈tO ops o,aA E (bN σ t) (a.tmps.getD t undef))→(∀ n y,(n,y)∈R→dI E n y)→
  if Region.wanted o (yielded ops a.tmps) then xD bb P o a E.w (mZ E x U) else mZ E x U undef E.w
inductive Ch (bb:Bool) (P:Program) (ops:Array Oper):List Oper→Ctx→Ctx→List (List Nat × List Nat)→Prop
 | nil (Γ:Ctx):Ch bb P ops [] Γ Γ []
 | cons {o:Oper} {l:List Oper} {Γ Γ':Ctx} {F:List (List Nat × List Nat)} {x:Av} {R U:List (Nat × Hs)} (h:OS bb P ops o Γ.s R x U) (hR:∀ n y,(n,y)∈R→aL Γ.h n=some y) (h':Ch bb P ops l (Γ.put o.dst x U) Γ' F):
  Ch bb P ops (o::l) Γ Γ' ((R.map (·.1),U.map (·.1))::F)
theorem aLZ (tm:Array Value)(d:Nat)(v:Value)(h:d<tm.size):(tm.setIfInBounds d v).getD d undef=v:=by
 simp [Array.getD,h]
theorem aL0 (tm:Array Value){d t:Nat}(v:Value)(h:d≠t):(tm.setIfInBounds d v).getD t undef=tm.getD t undef:=by
 by_cases ht:t<tm.size
 ·simp [Array.getD,ht,h]
 ·simp [Array.getD,ht]
theorem aFS (a:Act)(d:Option Nat)(v:Value):(a.put d v).tmps.size=a.tmps.size:=by
 cases d<;>simp [Act.put]
theorem aFT (a:Act)(d:Option Nat)(v:Value):(a.put d v).defers=a.defers:=by
 cases d<;>rfl
theorem mK.put {E E':Env}{tm:Array Value}{Γ:Ctx}{x:Av}{U:List (Nat × Hs)}{v:Value}{d:Option Nat}{a:Act}(h:mK E a.tmps Γ)(hS:Step E E' (U.map (·.1)))(hx:aA E' x v)(hU:∀ n y,aL U n=some y→dI E' n y)
 (hd:∀ t,d=some t→t<a.tmps.size):mK E' (a.put d v).tmps (Γ.put d x U):=by
 refine ⟨fun t=>?_,fun n y hn=>?_⟩
 ·cases d with
  | none=>exact aA.step hS _ _ (h.1 t)
  | some d=>
   show aA E' (bN ((d,x)::Γ.s) t) ((a.tmps.setIfInBounds d v).getD t undef)
   by_cases e:d=t
   ·subst e
    rw [lE,aLZ _ _ _ (hd d rfl)]
    exact hx
   ·rw [lS _ _ e,aL0 _ _ e]
    exact aA.step hS _ _ (h.1 t)
 ·have hn:aL (U++Γ.h) n=some y:=hn
  rw [vF] at hn
  by_cases hm:n∈U.map (·.1)
  ·obtain ⟨z,hz⟩:=vG hm
   rw [hz] at hn
   simp at hn
   subst hn
   exact hU n z hz
  ·rw [zB hm] at hn
   exact dI.step hS hm (h.2 n y (by simpa using hn))
def oA (N:Nat)(l:List Oper):Bool:=l.all fun o=>match o.dst with|some d=>decide (d<N)|none=>true
section
variable {P:Program}{Q:Exit→Act→World→Prop}
theorem Ch.text {bb:Bool}{ro:Option Nat}{kk:Nat}{ops:Array Oper}{N:Nat}:∀ {l:List Oper} {Γ Γ':Ctx} {F:List (List Nat × List Nat)},Ch bb P ops l Γ Γ' F→oA N l=true→∀ (E:Env) (a:Act),Good E→mK E a.tmps Γ→a.tmps.size=N→
 (∀ (E':Env) (a':Act) (M:List Nat),Good E'→Step E E' M→mK E' a'.tmps Γ'→a'.tmps.size=N→a'.defers=a.defers→Q .normal a' E'.w)→wpListIn (pB ro) kk P ops Q l a E.w:=by
 intro l Γ Γ' F h
 induction h with
 | nil Γ=>intro _ E a hG hH hN hk;exact hk E a [] hG (Step.refl E) hH hN rfl
 | @cons o l Γ Γ' F x R U h hR h' ih=>
  intro hd E a hG hH hN hk
  simp only [oA,List.all_cons,Bool.and_eq_true] at hd
  have hdt:∀ t,o.dst=some t→t<a.tmps.size:=fun t ht=>by
   have:=hd.1
   rw [ht] at this
   rw [hN]
   simpa using this
  have hop:=h E a hG (fun t _=>hH.1 t) (fun n y hn=>hH.2 n y (hR n y hn))
  have go:∀ v w',mZ E x U v w'→wpListIn (pB ro) kk P ops Q l (a.put o.dst v) w':=by
   rintro v w' ⟨E',rfl,hS,hG',hx,hU⟩
   refine ih (by simpa [oA] using hd.2) E' (a.put o.dst v) hG' (hH.put (tm:=#[]) hS hx hU hdt) (by rw [aFS,hN]) fun E'' a'' M hG'' hS' hH' hN' hdf=>hk E'' a'' _ hG'' (hS.trans hS') hH' hN' (by rw [hdf,aFT])
  unfold wpListIn
  split
  ·rename_i hw
   rw [if_pos hw] at hop
   exact aFR (hop.mono go)
  ·rename_i hw
   rw [if_neg hw] at hop
   exact ⟨fun _ _=>trivial,go _ _ hop⟩
end
structure Spec where
 d:Option Nat
 x:Av
 R:List (Nat × Hs)
 U:List (Nat × Hs)
def eP (L:Nat→Bool):List Spec→Nat→Ctx→Ctx
 | [],_,Γ=>Γ
 | e::l,k,Γ=>eP L l (k+1) (if L k then Γ.put e.d e.x e.U else Γ)
def Spec.wS (e:Spec)(t:Nat):Prop:=e.d=some t
def Spec.wH (e:Spec)(n:Nat):Prop:=n∈e.U.map (·.1)
theorem aBV {L L':Nat→Bool}{t:Nat}:∀ (l:List Spec) (k:Nat) (Γ Γ':Ctx),(∀ j e,l[j]?=some e→e.wS t→L (k+j)=L' (k+j))→bN Γ.s t=bN Γ'.s t→bN (eP L l k Γ).s t=bN (eP L' l k Γ').s t
 | [],_,_,_,_,h=>h
 | e::l,k,Γ,Γ',hL,h=>by
  unfold eP
  refine aBV l (k+1) _ _ (fun j e' he hw=>by have:=hL (j+1) e' (by simpa using he) hw;rwa [show k+1+j=k+(j+1) from by omega]) ?_
  by_cases hw:e.wS t
  ·have:=hL 0 e rfl hw
   simp only [Nat.add_zero] at this
   unfold Spec.wS at hw
   rw [this]
   cases L' k
   ·exact h
   ·simp [Ctx.put,hw,lE]
  ·have hs:∀ Γ:Ctx,bN (Γ.put e.d e.x e.U).s t=bN Γ.s t:=fun Γ=>by
    unfold Spec.wS at hw
    cases hd:e.d with
    | none=>rfl
    | some d=>exact lS _ _ (fun e'=>hw (by rw [hd,e']))
   have h1:∀ (b:Bool) (Γ:Ctx),bN (if b=true then Γ.put e.d e.x e.U else Γ).s t=bN Γ.s t:=fun b Γ=>by cases b<;>simp [hs]
   rw [h1,h1,h]
theorem aBW {L L':Nat→Bool}{n:Nat}:∀ (l:List Spec) (k:Nat) (Γ Γ':Ctx),(∀ j e,l[j]?=some e→e.wH n→L (k+j)=L' (k+j))→aL Γ.h n=aL Γ'.h n→aL (eP L l k Γ).h n=aL (eP L' l k Γ').h n
 | [],_,_,_,_,h=>h
 | e::l,k,Γ,Γ',hL,h=>by
  unfold eP
  refine aBW l (k+1) _ _ (fun j e' he hw=>by have:=hL (j+1) e' (by simpa using he) hw;rwa [show k+1+j=k+(j+1) from by omega]) ?_
  by_cases hw:e.wH n
  ·have:=hL 0 e rfl hw
   simp only [Nat.add_zero] at this
   obtain ⟨y,hy⟩:=vG hw
   rw [this]
   cases L' k
   ·exact h
   ·simp [Ctx.put,vF,hy]
  ·have hs:∀ Γ:Ctx,aL (Γ.put e.d e.x e.U).h n=aL Γ.h n:=fun Γ=>by simp [Ctx.put,vF,zB hw]
   have h1:∀ (b:Bool) (Γ:Ctx),aL (if b=true then Γ.put e.d e.x e.U else Γ).h n=aL Γ.h n:=fun b Γ=>by cases b<;>simp [hs]
   rw [h1,h1,h]
theorem aBX (l:List Spec):∀ (k:Nat) (Γ:Ctx) (L:Nat→Bool),(∀ j,j<l.length→L (k+j)=false)→eP L l k Γ=Γ:=by
 induction l with
 | nil=>intros;rfl
 | cons e l ih=>
  intro k Γ L h
  unfold eP
  have:=h 0 (by simp)
  simp only [Nat.add_zero] at this
  rw [this,if_neg (by simp)]
  exact ih (k+1) Γ L fun j hj=>by rw [show k+1+j=k+(j+1) from by omega];exact h (j+1) (by simp;omega)
theorem aFU {L:Nat→Bool}:∀ (l:List Spec) (k:Nat) (Γ:Ctx) (i:Nat) (e:Spec),l[i]?=some e→L (k+i)=true→(∀ t,e.wS t→(∀ j e',l[j]?=some e'→i<j→e'.wS t→L (k+j)=false)→bN (eP L l k Γ).s t=e.x)∧
 (∀ n y,aL e.U n=some y→(∀ j e',l[j]?=some e'→i<j→e'.wH n→L (k+j)=false)→aL (eP L l k Γ).h n=some y)
 | [],_,_,i,e,h,_=>by simp at h
 | e0::l,k,Γ,0,e,h,hL=>by
  simp at h
  subst h
  simp only [Nat.add_zero] at hL
  unfold eP
  rw [hL,if_pos rfl]
  refine ⟨fun t hw hno=>?_,fun n y hy hno=>?_⟩
  ·rw [aBV (L':=fun _=>false) l (k+1) _ (Γ.put e0.d e0.x e0.U) (fun j e' he hw'=>by have:=hno (j+1) e' (by simpa using he) (by omega) hw';rwa [show k+1+j=k+(j+1) from by omega]) rfl,aBX _ _ _ _ (fun _ _=>rfl)]
   unfold Spec.wS at hw
   simp [Ctx.put,hw,lE]
  ·rw [aBW (L':=fun _=>false) l (k+1) _ (Γ.put e0.d e0.x e0.U) (fun j e' he hw'=>by have:=hno (j+1) e' (by simpa using he) (by omega) hw';rwa [show k+1+j=k+(j+1) from by omega]) rfl,aBX _ _ _ _ (fun _ _=>rfl)]
   simp [Ctx.put,vF,hy]
 | e0::l,k,Γ,i+1,e,h,hL=>by
  unfold eP
  have:=aFU (L:=L) l (k+1) (if L k then Γ.put e0.d e0.x e0.U else Γ) i e (by simpa using h) (by rwa [show k+1+i=k+(i+1) from by omega])
  refine ⟨fun t hw hno=>this.1 t hw fun j e' he hj hw'=>?_,fun n y hy hno=>this.2 n y hy fun j e' he hj hw'=>?_⟩
  ·have:=hno (j+1) e' (by simpa using he) (by omega) hw'
   rwa [show k+1+j=k+(j+1) from by omega]
  ·have:=hno (j+1) e' (by simpa using he) (by omega) hw'
   rwa [show k+1+j=k+(j+1) from by omega]
def qZ (bb:Bool)(P:Program)(ops:Array Oper):List Oper→List Spec→Ctx→Prop
 | [],[],_=>True
 | o::l,e::s,Γ=>(e.d=o.dst∧OS bb P ops o Γ.s e.R e.x e.U∧∀ n y,(n,y)∈e.R→aL Γ.h n=some y)∧qZ bb P ops l s (Γ.put e.d e.x e.U)
 | _,_,_=>False
def fp (e:Spec):List Nat × List Nat:=(e.R.map (·.1),e.U.map (·.1))
theorem Ch.specs {bb:Bool}{P:Program}{ops:Array Oper}{l:List Oper}{Γ Γ':Ctx}{F:List (List Nat × List Nat)}(h:Ch bb P ops l Γ Γ' F):∃ s:List Spec,qZ bb P ops l s Γ∧s.map fp=F∧eP (fun _=>true) s 0 Γ=Γ':=by
 suffices H:∀ k,∃ s:List Spec,qZ bb P ops l s Γ∧s.map fp=F∧eP (fun _=>true) s k Γ=Γ' from H 0
 induction h with
 | nil Γ=>exact fun k=>⟨[],trivial,rfl,rfl⟩
 | @cons o l Γ Γ' F x R U h hR h' ih=>
  intro k
  obtain ⟨s,h1,h2,h3⟩:=ih (k+1)
  refine ⟨⟨o.dst,x,R,U⟩::s,⟨⟨rfl,h,hR⟩,h1⟩,by simp [h2,fp],?_⟩
  unfold eP
  simpa using h3
theorem qZ.len {bb:Bool}{P:Program}{ops:Array Oper}:∀ {l:List Oper} {s:List Spec} {Γ:Ctx},qZ bb P ops l s Γ→s.length=l.length
 | [],[],_,_=>rfl
 | o::l,e::s,Γ,h=>by simp [qZ.len h.2]
 | [],_::_,_,h=>h.elim
 | _::_,[],_,h=>h.elim
theorem qZ.get {bb:Bool}{P:Program}{ops:Array Oper}:∀ {l:List Oper} {s:List Spec} {Γ:Ctx} (k:Nat),qZ bb P ops l s Γ→∀ i o e,l[i]?=some o→s[i]?=some e→
 e.d=o.dst∧OS bb P ops o (eP (fun j=>decide (j<k+i)) s k Γ).s e.R e.x e.U∧∀ n y,(n,y)∈e.R→aL (eP (fun j=>decide (j<k+i)) s k Γ).h n=some y
 | [],[],_,_,_,i,o,e,h,_=>by simp at h
 | o::l,e::s,Γ,k,H,0,o',e',h,h'=>by
  simp at h h'
  subst h;subst h'
  have hn:∀ Γ,eP (fun j=>decide (j<k+0)) s (k+1) Γ=Γ:=fun Γ=>aBX s (k+1) Γ _ fun j hj=>by simp;omega
  unfold eP
  rw [hn,if_neg (by simp)]
  exact H.1
 | o::l,e::s,Γ,k,H,i+1,o',e',h,h'=>by
  have:=qZ.get (k+1) H.2 i o' e' (by simpa using h) (by simpa using h')
  unfold eP
  rw [if_pos (by simp),show k+(i+1)=k+1+i from by omega]
  exact this
 | [],_::_,_,_,h,_,_,_,_,_=>h.elim
 | _::_,[],_,_,h,_,_,_,_,_=>h.elim
end Go.Proofs.YtnklgkjfoggpbaaGreatDoor
