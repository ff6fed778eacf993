/- Parts of the proof of a law of this seat: rules and contracts; no conditions. -/
import Derived.Test.YtgajclaoaphgoaaGreatDoorOl
import Derived.Test.YtgajclaoaphgoaaGreatDoorAv
import Derived.Laws.CopyOwn
import Derived.Test.YtgajclaoaphgoaaGreatDoorProg
import Derived.KernelRfl
set_option maxHeartbeats 6400000
set_option maxRecDepth 100000
set_option linter.unusedVariables false
set_option linter.unusedSimpArgs false
namespace Go.Proofs.YtgajclaoaphgoaaGreatDoor
open Go.RowKit
mutual
def aH (Z:Nat→Prop):Av→Prop
 | .any=>True
 | .val _=>True
 | .sl _ _ row=>∀ j,aH Z (row j)
 | .ptr x=>aH Z x
 | .agg cs=>aO Z cs
 | .tup cs=>aO Z cs
 | .clo _ cs=>aO Z cs
 | .bm _ cs=>aO Z cs
 | .own n _=>Z n
 | .osl _ n _=>Z n
 | .oss n _ _=>Z n
 | .mp n=>Z n
 | .fm _ _ _ _=>True
 | .frz _ _ _=>True
 | .gd _ x=>aH Z x
 | .nz x=>aH Z x
def aO (Z:Nat→Prop):List Av→Prop
 | []=>True
 | x::xs=>aH Z x∧aO Z xs
end
mutual
theorem aH.of_pure {Z:Nat→Prop}:∀ x:Av,aN x→aH Z x
 | .any,_=>by unfold aH;trivial
 | .val _,_=>by unfold aH;trivial
 | .sl _ _ row,h=>by unfold aN at h;unfold aH;exact fun j=>aH.of_pure (row j) (h j)
 | .ptr x,h=>by unfold aN at h;unfold aH;exact aH.of_pure x h
 | .agg cs,h=>by unfold aN at h;unfold aH;exact aO.of_pure cs h
 | .tup cs,h=>by unfold aN at h;unfold aH;exact aO.of_pure cs h
 | .clo _ cs,h=>by unfold aN at h;unfold aH;exact aO.of_pure cs h
 | .bm _ cs,h=>by unfold aN at h;unfold aH;exact aO.of_pure cs h
 | .own _ _,h=>by unfold aN at h;exact h.elim
 | .osl _ _ _,h=>by unfold aN at h;exact h.elim
 | .oss _ _ _,h=>by unfold aN at h;exact h.elim
 | .mp _,h=>by unfold aN at h;exact h.elim
 | .fm _ _ _ _,_=>by unfold aH;trivial
 | .frz _ _ _,_=>by unfold aH;trivial
 | .gd _ x,h=>by unfold aN at h;unfold aH;exact aH.of_pure x h
 | .nz x,h=>by unfold aN at h;unfold aH;exact aH.of_pure x h
theorem aO.of_pure {Z:Nat→Prop}:∀ xs:List Av,bE xs→aO Z xs
 | [],_=>by unfold aO;trivial
 | x::xs,h=>by unfold bE at h;unfold aO;exact ⟨aH.of_pure x h.1,aO.of_pure xs h.2⟩
end
mutual
theorem aH.all:∀ x:Av,aH (fun _=>True) x
 | .any=>by unfold aH;trivial
 | .val _=>by unfold aH;trivial
 | .sl _ _ row=>by unfold aH;exact fun j=>aH.all (row j)
 | .ptr x=>by unfold aH;exact aH.all x
 | .agg cs=>by unfold aH;exact aO.all cs
 | .tup cs=>by unfold aH;exact aO.all cs
 | .clo _ cs=>by unfold aH;exact aO.all cs
 | .bm _ cs=>by unfold aH;exact aO.all cs
 | .own _ _=>by unfold aH;trivial
 | .osl _ _ _=>by unfold aH;trivial
 | .oss _ _ _=>by unfold aH;trivial
 | .mp _=>by unfold aH;trivial
 | .fm _ _ _ _=>by unfold aH;trivial
 | .frz _ _ _=>by unfold aH;trivial
 | .gd _ x=>by unfold aH;exact aH.all x
 | .nz x=>by unfold aH;exact aH.all x
theorem aO.all:∀ xs:List Av,aO (fun _=>True) xs
 | []=>by unfold aO;trivial
 | x::xs=>by unfold aO;exact ⟨aH.all x,aO.all xs⟩
end
structure Like (Z:Nat→Prop) (E E':Env):Prop where
 ok:∀ b,E.ok b→E'.ok b∧∀ o cs,E.w.rangeAt b o cs→E'.w.rangeAt b o cs
 map:∀ b,E.ok b→∀ es c,E.w.heap[b]?=some (.map es c)→E'.w.heap[b]?=some (.map es c)
 row:∀ b,E.ok b→∀ cur t z,E.w.heap[b]?=some (.cells cur t z)→E'.w.heap[b]?=some (.cells cur t z)
 loc:∀ n,Z n→E'.loc n=E.loc n
 shape:∀ n b cur t,Z n→E.loc n=.at b→E.w.heap[b]?=some (.cells cur t (0,0))→∃ cur',E'.w.heap[b]?=some (.cells cur' t (0,0))∧cur'.size=cur.size
mutual
theorem aA.like {Z:Nat→Prop}{E E':Env}(h:Like Z E E'):∀ (x:Av) (v:Value),aH Z x→aA E x v→aA E' x v
 | .any,_,_,_=>by unfold aA;trivial
 | .val x,v,_,hr=>by unfold aA at hr ⊢;exact hr
 | .sl k n row,v,hp,hr=>by
  unfold aH at hp;unfold aA at hr ⊢;obtain ⟨A,c,h1,h2,h3,h4⟩:=hr;refine ⟨A,c,h1,h2,h3,fun hn=>?_⟩;obtain ⟨b,o,h5,h6,h7⟩:=h4 hn;refine ⟨b,o,h5,(h.ok b h6).1,fun j hj=>?_⟩;obtain ⟨u,h8,h9,h10⟩:=h7 j hj;exact ⟨u,aA.like h (row j) u (hp j) h8,h9,(h.ok b h6).2 _ _ h10⟩
 | .ptr x,v,hp,hr=>by
  unfold aH at hp;unfold aA at hr ⊢;obtain ⟨b,o,u,h1,h2,h3,h4⟩:=hr;exact ⟨b,o,u,h1,(h.ok b h2).1,aA.like h x u hp h3,(h.ok b h2).2 _ _ h4⟩
 | .agg cs,v,hp,hr=>by
  unfold aH at hp;unfold aA at hr ⊢;obtain ⟨vs,h1,h2,h3⟩:=hr;exact ⟨vs,h1,aG.like h cs vs hp h2,h3⟩
 | .tup cs,v,hp,hr=>by
  unfold aH at hp;unfold aA at hr ⊢;obtain ⟨vs,h1,h2⟩:=hr;exact ⟨vs,h1,aG.like h cs vs hp h2⟩
 | .clo f cs,v,hp,hr=>by
  unfold aH at hp;unfold aA at hr ⊢;obtain ⟨vs,h1,h2⟩:=hr;exact ⟨vs,h1,aG.like h cs vs hp h2⟩
 | .bm f cs,v,hp,hr=>by
  unfold aH at hp;unfold aA at hr ⊢;obtain ⟨vs,h1,h2⟩:=hr;exact ⟨vs,h1,aG.like h cs vs hp h2⟩
 | .own n off,v,hp,hr=>by
  unfold aH at hp;unfold aA at hr ⊢;rw [h.loc n hp];exact hr
 | .osl k n len,v,hp,hr=>by
  unfold aH at hp;unfold aA at hr ⊢;rw [h.loc n hp];refine ⟨hr.1,fun b hb=>?_⟩;obtain ⟨c,cur,t,h1,h2,h3,h4,h5⟩:=hr.2 b hb;obtain ⟨cur',h6,h7⟩:=h.shape n b cur t hp hb h4;exact ⟨c,cur',t,h1,h2,h3,h6,by rw [h7,h5]⟩
 | .oss n off len,v,hp,hr=>by
  unfold aH at hp;unfold aA at hr ⊢;rw [h.loc n hp];refine ⟨hr.1,fun b hb=>?_⟩;obtain ⟨A,c,cur,t,h1,h2,h3,h9,h4,h5⟩:=hr.2 b hb;obtain ⟨cur',h6,h7⟩:=h.shape n b cur t hp hb h4;exact ⟨A,c,cur',t,h1,h2,h3,h9,h6,by rw [h7];exact h5⟩
 | .mp n,v,hp,hr=>by
  unfold aH at hp;unfold aA at hr ⊢;rw [h.loc n hp];exact hr
 | .fm P k e D,v,_,hr=>by
  unfold aA at hr ⊢;obtain ⟨b,n,h1,h2,es,c,h3,h4⟩:=hr;exact ⟨b,n,h1,(h.ok b h2).1,es,c,h.map b h2 es c h3,h4⟩
 | .frz q T xs,v,_,hr=>by
  unfold aA at hr ⊢;obtain ⟨c,g,cur,h1,h2,h3,h4,h5⟩:=hr;exact ⟨c,g,cur,h1,h2,(h.ok g h3).1,h.row g h3 _ _ _ h4,h5⟩
 | .gd c x,v,hp,hr=>by
  unfold aH at hp;unfold aA at hr ⊢;exact ⟨fun hc=>aA.like h x v hp (hr.1 hc),hr.2⟩
 | .nz x,v,hp,hr=>by
  unfold aH at hp;unfold aA at hr ⊢;exact ⟨aA.like h x v hp hr.1,hr.2⟩
theorem aG.like {Z:Nat→Prop}{E E':Env}(h:Like Z E E'):∀ (xs:List Av) (vs:List Value),aO Z xs→aG E xs vs→aG E' xs vs
 | [],vs,_,hr=>by unfold aG at hr ⊢;exact hr
 | x::xs,vs,hp,hr=>by
  unfold aO at hp;unfold aG at hr ⊢;obtain ⟨v,us,h1,h2,h3⟩:=hr;exact ⟨v,us,h1,aA.like h x v hp.1 h2,aG.like h xs us hp.2 h3⟩
end
theorem aO.get {Z:Nat→Prop}:∀ {xs:List Av},aO Z xs→∀ x∈xs,aH Z x
 | x::xs,h,y,hy=>by
  unfold aO at h;rcases List.mem_cons.1 hy with rfl|hy
  ·exact h.1
  exact aO.get h.2 y hy
def rZ (Z:Nat→Prop):List (Nat × Av)→Prop
 | []=>True
 | (_,x)::r=>aH Z x∧rZ Z r
theorem rZ.get {Z:Nat→Prop}:∀ {σ:List (Nat × Av)},rZ Z σ→∀ t,aH Z (bN σ t)
 | [],_,t=>by unfold bN aH;trivial
 | (u,x)::r,h,t=>by
  by_cases e:u=t
  ·subst e;rw [lE];exact h.1
  rw [lS _ _ e];exact rZ.get h.2 t
theorem rZ.pure {Z:Nat→Prop}:∀ {σ:List (Nat × Av)},pS σ→rZ Z σ
 | [],_=>trivial
 | (_,x)::r,h=>⟨aH.of_pure x h.1,rZ.pure h.2⟩
def bJ (Z:Nat→Prop):Hs→Prop
 | .live _ cs=>aO Z cs
 | .loop _ _ _ _ _ _ σ=>rZ Z σ
 | _=>True
theorem dI.like {Z:Nat→Prop}{E E':Env}(h:Like Z E E'){n:Nat}(hn:Z n)(hh:∀ b,E.loc n=.at b→E'.w.heap[b]?=E.w.heap[b]?){y:Hs}(hi:bJ Z y)(hy:dI E n y):dI E' n y:=by
 cases y with
 | unborn=>exact (h.loc n hn).trans hy
 | dead=>exact (h.loc n hn).trans hy
 | live t cs=>
  rcases hy with ⟨h3,h4⟩|⟨b,cur,h3,h4,h5⟩
  ·exact .inl ⟨(h.loc n hn).trans h3,h4⟩
  refine .inr ⟨b,cur,(h.loc n hn).trans h3,(hh b h3).trans h4,fun i z hz=>?_⟩;obtain ⟨u,h6,h7,h8⟩:=h5 i z hz;exact ⟨u,h6,h7,aA.like h z u (aO.get hi z (List.mem_of_getElem? hz)) h8⟩
 | map P k e D=>
  obtain ⟨b,m,h3,h4⟩:=hy;exact ⟨b,m,(h.loc n hn).trans h3,aBU (hh b h3) h4⟩
 | iter P k e D left cnt last=>
  obtain ⟨b,r,m,h3,h4,h5,h6⟩:=hy;have hb:E'.w.heap[b]?=E.w.heap[b]?:=by
   obtain ⟨es,clock,since,seen,c0,g1,_⟩:=h5;rw [g1,h.map b h4 es clock g1]
  exact ⟨b,r,m,(h.loc n hn).trans h3,(h.ok b h4).1,aLX hb (hh r h3) h5,fun kv hk=>xC.same h5 hb (hh r h3) (h6 kv hk)⟩
 | loop l N ps assign body pe σ=>
  obtain ⟨h3,r,h4,h5,h6,h7,h8,h9,h10,h11⟩:=hy;exact ⟨(h.loc n hn).trans h3,r,(hh l h3).trans h4,h5,h6,h7,h8,h9,h10,fun t=>aA.like h _ _ (rZ.get hi t) (h11 t)⟩
def jR (Z:Nat→Prop):List (Nat × Hs)→Prop
 | []=>True
 | (_,y)::r=>bJ Z y∧jR Z r
def Env.sub (E:Env)(Z:List Nat):Env:={ w:=E.w,loc:=fun n=>if n∈Z then E.loc n else .unborn,bad:=fun b=>E.bad b∨∃ n,n∉Z∧E.loc n=.at b }
theorem qQ {E:Env}{Z:List Nat}{n b:Nat}(h:(E.sub Z).loc n=.at b):n∈Z∧E.loc n=.at b:=by
 by_cases e:n∈Z
 ·simp [Env.sub,e] at h;exact ⟨e,h⟩
 simp [Env.sub,e] at h
theorem Good.sub {E:Env}(hG:Good E)(Z:List Nat):Good (E.sub Z) where
 shp:=hG.shp.same fun b h=>⟨⟨h.1,fun hb=>by
  rcases hb with hb|⟨n,_,hn⟩
  ·exact h.2.1 hb
  exact h.2.2 n hn,fun n hn=>h.2.2 n (qQ hn).2⟩,rfl⟩
 old b hb:=by
  rcases hb with hb|⟨n,_,hn⟩
  ·exact hG.old b hb
  exact (hG.lt n b hn).1
 inj n m b hn hm:=hG.inj n m b (qQ hn).2 (qQ hm).2
 lt n b hn:=⟨(hG.lt n b (qQ hn).2).1,fun hb=>by
  rcases hb with hb|⟨m,h1,h2⟩
  ·exact (hG.lt n b (qQ hn).2).2 hb
  exact h1 ((hG.inj m n b h2 (qQ hn).2) ▸ (qQ hn).1)⟩
theorem af4 (E:Env)(Z:List Nat):Like (·∈Z) E (E.sub Z) where
 ok b h:=⟨⟨h.1,fun hb=>by
  rcases hb with hb|⟨n,_,hn⟩
  ·exact h.2.1 hb
  exact h.2.2 n hn,fun n hn=>h.2.2 n (qQ hn).2⟩,fun o cs hr=>hr⟩
 map b _ es c h:=h
 row b _ cur t z h:=h
 loc n hn:=by simp [Env.sub,hn]
 shape n b cur t hn hb hc:=⟨cur,hc,rfl⟩
structure KeptX (X:Nat→Prop) (D:List Nat) (E E':Env):Prop where
 os:E'.w.os=E.w.os
 tape:E'.w.tape=E.w.tape
 output:E'.w.output=E.w.output
 size:E.w.heap.size≤E'.w.heap.size
 bad:E'.bad=E.bad
 keep:∀ b,b<E.w.heap.size→(∀ n,E.loc n≠.at b)→¬ X b→E'.w.heap[b]?=E.w.heap[b]?
 from_:∀ n b,E'.loc n=.at b→E.w.heap.size≤b∨∃ m,E.loc m=.at b
 born:∀ n∈D,E'.loc n≠.unborn
 nil_:∀ n∈D,E'.loc n=.nil→E.loc n=.nil
 same:∀ n∈D,∀ b,E'.loc n=.at b→E.loc n=.at b∧∀ cur t,E.w.heap[b]?=some (.cells cur t (0,0))→∃ cur',E'.w.heap[b]?=some (.cells cur' t (0,0))∧cur'.size=cur.size
theorem Kept.x {D:List Nat}{E E':Env}(h:Kept D E E')(X:Nat→Prop):KeptX X D E E':=⟨h.os,h.tape,h.output,h.size,h.bad,fun b h1 h2 _=>h.keep b h1 h2,h.from_,h.born,h.nil_,h.same⟩
theorem KeptX.trans {X:Nat→Prop}{D:List Nat}{E E' E'':Env}(h:KeptX X D E E')(k:KeptX X D E' E''):KeptX X D E E'' where
 os:=k.os.trans h.os
 tape:=k.tape.trans h.tape
 output:=k.output.trans h.output
 size:=Nat.le_trans h.size k.size
 bad:=k.bad.trans h.bad
 keep b hb hn hx:=by
  refine (k.keep b (Nat.lt_of_lt_of_le hb h.size) (fun n hn'=>?_) hx).trans (h.keep b hb hn hx);rcases h.from_ n b hn' with h1|⟨m,h1⟩
  ·omega
  exact hn m h1
 from_ n b hb:=by
  rcases k.from_ n b hb with h1|⟨m,h1⟩
  ·exact .inl (Nat.le_trans h.size h1)
  exact h.from_ m b h1
 born:=k.born
 nil_ n hn hl:=h.nil_ n hn (k.nil_ n hn hl)
 same n hn b hb:=by
  obtain ⟨h1,h2⟩:=k.same n hn b hb;obtain ⟨h3,h4⟩:=h.same n hn b h1;refine ⟨h3,fun cur t hc=>?_⟩;obtain ⟨cur',h5,h6⟩:=h4 cur t hc;obtain ⟨cur'',h7,h8⟩:=h2 cur' t h5;exact ⟨cur'',h7,h8.trans h6⟩
def Env.back (E E':Env)(Y Mn:List Nat):Env:={ w:=E'.w,loc:=fun n=>if n∈Y then E'.loc n else if n∈Mn then .dead else E.loc n,bad:=E.bad }
theorem aES {E E':Env}{Y Mn:List Nat}{n:Nat}(h:n∈Y):(E.back E' Y Mn).loc n=E'.loc n:=by simp [Env.back,h]
theorem aET {E E':Env}{Y Mn:List Nat}{n:Nat}(h:n∉Y)(h':n∈Mn):(E.back E' Y Mn).loc n=.dead:=by simp [Env.back,h,h']
theorem aEU {E E':Env}{Y Mn:List Nat}{n:Nat}(h:n∉Y)(h':n∉Mn):(E.back E' Y Mn).loc n=E.loc n:=by simp [Env.back,h,h']
theorem af5 {X:Nat→Prop}{E E':Env}{D Y Xn Mn:List Nat}(hG:Good E)(hG':Good E')(hK:KeptX X D (E.sub (D++Mn)) E')(hD:∀ n∈D,n∈Y)(hM:∀ n∈Mn,n∉Y)(hMb:∀ n∈Mn,E.loc n≠.unborn)(hY:∀ n∈Y,n∉D→E.loc n=.unborn)(hX:∀ b,X b→(∃ n∈Xn,E.loc n=.at b)∧∀ cur t,E.w.heap[b]?≠some (.cells cur t (0,0))):
 Step E (E.back E' Y Mn) (Xn++(Y++Mn))∧Good (E.back E' Y Mn)∧Like (·∈Y) E' (E.back E' Y Mn):=by
 have hZ:∀ n,n∉Y→n∉Mn→n∉D++Mn:=fun n h1 h2 h=>(List.mem_append.1 h).elim (fun h=>h1 (hD n h)) h2;have hidden:∀ n b,n∉D++Mn→E.loc n=.at b→(E.sub (D++Mn)).bad b:=fun n b hn hb=>.inr ⟨n,hn,hb⟩;have sub_no:∀ n b,n∉D++Mn→E.loc n=.at b→∀ m,(E.sub (D++Mn)).loc m≠.at b:=fun n b hn hb m hm=>((hG.sub _).lt m b hm).2 (hidden n b hn hb);have bad':∀ b,(E.sub (D++Mn)).bad b→∀ m,E'.loc m≠.at b:=fun b hb m hm=>(hG'.lt m b hm).2 (by rw [hK.bad];exact hb);have cases_:∀ n b,(E.back E' Y Mn).loc n=.at b→(n∈Y∧E'.loc n=.at b)∨(n∉Y∧n∉Mn∧E.loc n=.at b):=fun n b h=>by
  by_cases e:n∈Y
  ·rw [aES e] at h;exact .inl ⟨e,h⟩
  by_cases e':n∈Mn
  ·rw [aET e e'] at h;cases h
  rw [aEU e e'] at h;exact .inr ⟨e,e',h⟩
 have heap_out:∀ n b,n∉Xn→n∉D++Mn→E.loc n=.at b→E'.w.heap[b]?=E.w.heap[b]?:=fun n b h1 h2 h3=>hK.keep b (hG.lt n b h3).1 (sub_no n b h2 h3) fun hx=>by
  obtain ⟨m,hm,hb⟩:=(hX b hx).1;exact h1 ((hG.inj n m b h3 hb) ▸ hm)
 refine ⟨⟨hK.os,hK.tape,hK.output,hK.size,rfl,fun b hb hn=>hK.keep b hb (fun n h=>hn n (qQ h).2) fun hx=>?_,fun n hn=>?_,fun n hn=>?_,fun n b hb=>?_,fun n hn=>?_,fun n b cur t hb hb' hc=>?_⟩,⟨fun b hb=>Nat.lt_of_lt_of_le (hG.old b hb) hK.size,fun n m b hn hm=>?_,fun n b hb=>?_,hG'.shp.same fun b hb=>⟨⟨hb.1,fun hbad=>hb.2.1 (by rw [hK.bad];exact .inl hbad),fun n hn=>?_⟩,rfl⟩⟩,⟨fun b hb=>⟨⟨hb.1,fun hbad=>hb.2.1 (by rw [hK.bad];exact .inl hbad),fun n hn=>?_⟩,fun o cs hr=>hr⟩,fun b _ es c h=>h,fun b _ cur t z h=>h,fun n hn=>aES hn,fun n b cur t hn hb hc=>⟨cur,hc,rfl⟩⟩⟩
 ·obtain ⟨m,_,hm⟩:=(hX b hx).1;exact hn m hm
 ·rw [List.mem_append,not_or,List.mem_append,not_or] at hn;exact ⟨aEU hn.2.1 hn.2.2,fun b hb=>heap_out n b hn.1 (hZ n hn.2.1 hn.2.2) hb⟩
 ·by_cases e:n∈Y
  ·rw [aES e];by_cases ez:n∈D
   ·exact hK.born n ez
   exact absurd (hY n e ez) hn
  by_cases e':n∈Mn
  ·rw [aET e e'];simp
  rw [aEU e e'];exact hn
 ·rcases cases_ n b hb with ⟨h1,h2⟩|⟨h1,_,h2⟩
  ·by_cases ez:n∈D
   ·exact .inl (qQ (hK.same n ez b h2).1).2
   refine .inr ⟨hY n h1 ez,?_⟩;rcases hK.from_ n b h2 with h3|⟨m,h3⟩
   ·exact .inl h3
   exact .inr ⟨m,(qQ h3).2⟩
  exact .inl h2
 ·by_cases e:n∈Y
  ·rw [aES e] at hn;by_cases ez:n∈D
   ·have:=hK.nil_ n ez hn;simp [Env.sub,ez] at this;exact .inl this
   exact .inr (hY n e ez)
  by_cases e':n∈Mn
  ·rw [aET e e'] at hn;cases hn
  rw [aEU e e'] at hn;exact .inl hn
 ·rcases cases_ n b hb with ⟨h1,h2⟩|⟨h1,h1',h2⟩
  ·by_cases ez:n∈D
   ·exact (hK.same n ez b h2).2 cur t hc
   have:=hY n h1 ez;rw [this] at hb';cases hb'
  by_cases ex:n∈Xn
  ·by_cases hx:X b
   ·exact absurd hc ((hX b hx).2 cur t)
   exact ⟨cur,(hK.keep b (hG.lt n b hb').1 (sub_no n b (hZ n h1 h1') hb') hx).trans hc,rfl⟩
  exact ⟨cur,(heap_out n b ex (hZ n h1 h1') hb').trans hc,rfl⟩
 ·rcases cases_ n b hn with ⟨h1,h2⟩|⟨h1,h1',h2⟩<;>rcases cases_ m b hm with ⟨h3,h4⟩|⟨h3,h3',h4⟩
  ·exact hG'.inj n m b h2 h4
  ·exact absurd h2 (bad' b (hidden m b (hZ m h3 h3') h4) n)
  ·exact absurd h4 (bad' b (hidden n b (hZ n h1 h1') h2) m)
  exact hG.inj n m b h2 h4
 ·rcases cases_ n b hb with ⟨h1,h2⟩|⟨h1,h1',h2⟩
  ·exact ⟨(hG'.lt n b h2).1,fun hbad=>(hG'.lt n b h2).2 (by rw [hK.bad];exact .inl hbad)⟩
  exact ⟨Nat.lt_of_lt_of_le (hG.lt n b h2).1 hK.size,(hG.lt n b h2).2⟩
 ·rcases cases_ n b hn with ⟨h1,h2⟩|⟨h1,h1',h2⟩
  ·exact hb.2.2 n h2
  exact hb.2.1 (by rw [hK.bad];exact hidden n b (hZ n h1 h1') h2)
 rcases cases_ n b hn with ⟨h1,h2⟩|⟨h1,h1',h2⟩
 ·exact hb.2.2 n h2
 exact hb.2.1 (by rw [hK.bad];exact hidden n b (hZ n h1 h1') h2)
def bQ:List (Nat × Hs)→Prop
 | []=>True
 | (_,y)::r=>(match y with|.unborn=>False|_=>True)∧bQ r
theorem aSH:∀ {R:List (Nat × Hs)},bQ R→∀ n y,aL R n=some y→y≠.unborn
 | [],_,n,y,h=>by simp [aL] at h
 | (m,z)::R,h,n,y,hy=>by
  by_cases e:m=n
  ·subst e;simp [aL] at hy;subst hy;intro hz;subst hz;exact h.1
  simp only [aL,eY e,cond_false] at hy;exact aSH h.2 n y hy
theorem dI.born {E:Env}{n:Nat}{y:Hs}(h:dI E n y)(hy:y≠.unborn):E.loc n≠.unborn:=by
 cases y with
 | unborn=>exact absurd rfl hy
 | dead=>rw [show E.loc n=.dead from h];simp
 | live t cs=>
  rcases h with ⟨h1,_⟩|⟨b,_,h1,_⟩
  ·rw [h1];simp
  rw [h1];simp
 | map P k e D=>obtain ⟨b,m,h1,_⟩:=h;rw [h1];simp
 | iter P k e D left cnt last=>obtain ⟨b,r,m,h1,_⟩:=h;rw [h1];simp
 | loop l N ps assign body pe σ=>rw [h.1];simp
theorem jR.get {Z:Nat→Prop}:∀ {R:List (Nat × Hs)},jR Z R→∀ n y,aL R n=some y→bJ Z y
 | [],_,n,y,h=>by simp [aL] at h
 | (m,z)::R,h,n,y,hy=>by
  by_cases e:m=n
  ·subst e;simp [aL] at hy;subst hy;exact h.1
  simp only [aL,eY e,cond_false] at hy;exact jR.get h.2 n y hy
theorem aBA:∀ {R:List (Nat × Hs)} {n:Nat} {y:Hs},aL R n=some y→(n,y)∈R
 | [],n,y,h=>by simp [aL] at h
 | (m,z)::R,n,y,h=>by
  by_cases e:m=n
  ·subst e;simp [aL] at h;subst h;simp
  simp only [aL,eY e,cond_false] at h;exact List.mem_cons_of_mem _ (aBA h)
theorem af6 {R:List (Nat × Hs)}{n:Nat}{y:Hs}(h:aL R n=some y):n∈R.map (·.1):=List.mem_map.2 ⟨_,aBA h,rfl⟩
def iO (P:Program)(f:FuncId)(args:List Av)(R M:List (Nat × Hs))(x:Av)(U:List (Nat × Hs)):Prop:=
 ∀ (E:Env) (vs:List Value),Good E→aG E args vs→(∀ n y,aL (R++M) n=some y→dI E n y)→(∀ n∈R.map (·.1),E.loc n≠.unborn)→(∀ n,n∉(R++M).map (·.1)→E.loc n=.unborn)→
  Calls P f vs.toArray E.w fun e w'=>∃ E' v,e=.returned v∧E'.w=w'∧Good E'∧Kept (R.map (·.1)) E E'∧aA E' x v∧∀ n y,aL U n=some y→dI E' n y
theorem FC.m {P:Program}{f:FuncId}{args:List Av}{R U:List (Nat × Hs)}{x:Av}(h:FC P f args R x U):iO P f args R [] x U:=fun E vs hG hA hR hB hU=>h E vs hG hA (by simpa using hR) hB (by simpa using hU)
def tD (M:List (Nat × Hs)):List (Nat × Hs):=M.map fun p=>(p.1,.dead)
theorem af7 (M:List (Nat × Hs)):(tD M).map (·.1)=M.map (·.1):=by simp [tD]
theorem af8 {M:List (Nat × Hs)}{n:Nat}{y:Hs}(h:aL (tD M) n=some y):y=.dead∧n∈M.map (·.1):=by
 have:=aBA h;unfold tD at this;rw [List.mem_map] at this;obtain ⟨p,hp,he⟩:=this;injection he with h1 h2
 subst h1;exact ⟨h2.symm,List.mem_map.2 ⟨p,hp,rfl⟩⟩
theorem iO.post {P:Program}{f:Nat}{args:List Av}{x:Av}{R M U:List (Nat × Hs)}{E:Env}{vs:List Value}(hc:iO P f args R M x U)(hG:Good E)(hA:aG E args vs)(hR:∀ n y,(n,y)∈R++M→dI E n y)(hV:∀ n∈U.map (·.1),n∉R.map (·.1)→E.loc n=.unborn)
 (hb:bQ (R++M)) (hRU:∀ n∈R.map (·.1),n∈U.map (·.1)) (hMU:∀ n∈M.map (·.1),n∉U.map (·.1)) (hIA:aO (·∈(R++M).map (·.1)) args) (hIR:jR (·∈(R++M).map (·.1)) (R++M)) (hIx:aH (·∈U.map (·.1)) x) (hIU:jR (·∈U.map (·.1)) U):Calls P f vs.toArray E.w fun e w'=>∃ v,e=.returned v∧mZ E x (U++tD M) v w':=by
 have hL:=af4 E ((R++M).map (·.1));have hborn:∀ n∈(R++M).map (·.1),E.loc n≠.unborn:=fun n hn=>by
  obtain ⟨y,hy⟩:=vG hn;exact (hR n y (aBA hy)).born (aSH hb n y hy)
 refine (hc (E.sub ((R++M).map (·.1))) vs (hG.sub _) (aG.like hL _ _ hIA hA) (fun n y hn=>dI.like hL (af6 hn) (fun _ _=>rfl) (hIR.get n y hn) (hR n y (aBA hn))) (fun n hn=>by
  have hn':n∈(R++M).map (·.1):=by rw [List.map_append];exact List.mem_append_left _ hn
  rw [hL.loc n hn'];exact hborn n hn') (fun n hn=>by simp only [Env.sub];rw [if_neg hn])).mono ?_
 rintro e w' ⟨E',v,rfl,rfl,hG',hK,hx,hu⟩;rw [List.map_append] at hK hborn;obtain ⟨h1,h2,h3⟩:=af5 (Y:=U.map (·.1)) (Xn:=[]) hG hG' (hK.x fun _=>False) hRU hMU (fun n hn=>hborn n (List.mem_append_right _ hn)) hV (fun b hx=>hx.elim);refine ⟨v,rfl,E.back E' (U.map (·.1)) (M.map (·.1)),rfl,h1.more (by simp [af7]),h2,aA.like h3 x v hIx hx,fun n y hn=>?_⟩;rw [vF] at hn;by_cases hm:n∈U.map (·.1)
 ·obtain ⟨z,hz⟩:=vG hm;rw [hz] at hn;simp at hn;subst hn;exact dI.like h3 hm (fun _ _=>rfl) (hIU.get n z hz) (hu n z hz)
 rw [adX hm] at hn;obtain ⟨rfl,hn2⟩:=af8 (show aL (tD M) n=some y by simpa using hn);exact aET hm hn2
theorem iO.body {P:Program}{f:FuncId}{fn:Func}{c:Code}{args:List Av}{R M U:List (Nat × Hs)}{x:Av}(K:Nat)(N:Nat)(hf:P.funcs[f]?=some fn)(hb:fn.body=some c)(hN:max fn.ntmps args.length=N)
 (h:AW P N (R.map (·.1)) c (fun e Γ=>(e=.ret∨e=.normal)∧aF P fn Γ x∧jU Γ.h U) ⟨yL args 0,(R++M)++wU K⟩):iO P f args R M x U:=by
 intro E vs hG hA hR hB hU;refine calls_of_wp hf hb ?_;have hlen:=hA.length;refine wp_mono (wpIn_wide.1 (h E _ ⟨hG,?_,hB,fun t=>aJ6 args vs 0 _ hA (fun i v hv=>?_) t,fun n y hn=>?_⟩)) ?_
 ·simp [hlen];omega
 ·have hi:=(List.getElem?_eq_some_iff.1 hv)
  obtain ⟨hi1,hi2⟩:=hi;rw [Array.getD_eq_getD_getElem?,Nat.zero_add,Array.getElem?_append_left (by simpa using hi1)];simp [hv]
 ·have hn:aL ((R++M)++wU K) n=some y:=hn;rw [vF] at hn;by_cases hm:n∈(R++M).map (·.1)
  ·obtain ⟨z,hz⟩:=vG hm;rw [hz] at hn;simp only [Option.some_or,Option.some.injEq] at hn;subst hn;exact hR n z hz
  rw [adX hm] at hn;have:=aJ7 (n:=n) (y:=y) (K:=K) (by simpa using hn);subst this;exact hU n hm
 rintro e a' w' ⟨E',Γ',rfl,hK,hF,hdf,he,hres,hsub⟩;obtain ⟨v,hr,hx⟩:=hres E' a' hF.good hF.holds;have fin:∃ E'' v',Ending.returned v=.returned v'∧E''.w=E'.w∧Good E''∧Kept (R.map (·.1)) E E''∧aA E'' x v'∧∀ n y,aL U n=some y→dI E'' n y:=
  ⟨E',v,rfl,rfl,hF.good,hK,hx,fun n y hy=>hF.holds.2 n y (aEV hsub n y hy)⟩
 rcases he with rfl|rfl
 ·exact ⟨hdf,v,hr,fin⟩
 exact ⟨hdf,v,hr,fin⟩
section
variable {P:Program}{o:Oper}{x y:Av}{R M U:List (Nat × Hs)}{ρ:Operand→Av}{p q:Operand}{T:TypeId}
theorem dB {f:Nat}{args:List Operand}{tys:Array TypeId}{xs:List Av}(V:List Nat)(ho:o.op=.call { callee:=.value (.func f),args:=args.toArray,argTypes:=tys })(hf:dN P f=true)(hc:iO P f xs R M x U)(hxs:args.map ρ=xs)
 (hV:∀ n∈U.map (·.1),n∈R.map (·.1)∨n∈V) (hb:bQ (R++M)) (hRU:∀ n∈R.map (·.1),n∈U.map (·.1)) (hMU:∀ n∈M.map (·.1),n∉U.map (·.1)) (hIA:aO (·∈(R++M).map (·.1)) xs) (hIR:jR (·∈(R++M).map (·.1)) (R++M)) (hIx:aH (·∈U.map (·.1)) x) (hIU:jR (·∈U.map (·.1)) U):OC P o ρ ((R++M)++V.map fun n=>(n,.unborn)) x (U++tD M):=by
 intro E a hG hr hH;subst hxs;have hA:=aA3 (ρ:=ρ) (E:=E) (a:=a) (l:=args) fun p hp=>hr p (by simp [ho,Op.operands,Call.operands,hp]);have:=iO.post hc hG hA (fun n y hn=>hH n y (List.mem_append_left _ hn)) (fun n hn hn'=>hH n .unborn (List.mem_append_right _ (List.mem_map.2 ⟨n,(hV n hn).resolve_left hn',rfl⟩))) hb hRU hMU hIA hIR hIx hIU;unfold eK execOp;simp only [ho,resolve,Deferred.ofValue,Act.eval,Sem.run_bind,Sem.run_pure,Result.andThen_ok,invoke,Array.append_empty,Array.empty_append,List.map_toArray,aA4 hf,fM];exact this
end
theorem bJ.all:∀ y:Hs,bJ (fun _=>True) y
 | .unborn=>trivial
 | .dead=>trivial
 | .live _ cs=>aO.all cs
 | .map _ _ _ _=>trivial
 | .iter _ _ _ _ _ _ _=>trivial
 | .loop _ _ _ _ _ _ σ=>go σ
where
 go:∀ σ:List (Nat × Av),rZ (fun _=>True) σ
  | []=>trivial
  | (_,x)::r=>⟨aH.all x,go r⟩
section
variable {P:Program}{ops:Array Oper}{o:Oper}{l:List Oper}{s:List (Nat × Av)}{h:List (Nat × Hs)}{K:Ctx→List (List Nat × List Nat)→Prop}{x:Av}{R U:List (Nat × Hs)}{d:Nat}{ρ:Operand→Av}
end
section
variable {P:Program}{o:Oper}{x y:Av}{R M U:List (Nat × Hs)}{ρ:Operand→Av}{p q:Operand}{T:TypeId}
end
def Mk (n0:Nat)(E:Env)(ds:List Deferred):Prop:=ds=[]∨∃ d,ds=[{ target:=.collected d,args:=#[] }]∧n0≤d∧d<E.w.heap.size∧(∀ n,E.loc n≠.at d)∧E.w.heap[d]?=some (.deferred (some []))
theorem Mk.kept {n0:Nat}{D:List Nat}{E E':Env}{ds:List Deferred}(h:Mk n0 E ds)(hK:Kept D E E'):Mk n0 E' ds:=by
 rcases h with h|⟨d,h1,h2,h3,h4,h5⟩
 ·exact .inl h
 refine .inr ⟨d,h1,h2,Nat.lt_of_lt_of_le h3 hK.size,fun n hn=>?_,(hK.keep d h3 h4).trans h5⟩;rcases hK.from_ n d hn with h|⟨m,h⟩
 ·omega
 exact h4 m h
section
variable {P:Program}{N:Nat}{D:List Nat}{Q:Exit→Ctx→Prop}{Γ:Ctx}
end
structure Sp where
 r:Nat
 dead:Nat
 p:Value→Value→World→Prop
def jW (L:List Sp)(k:Nat):Sp:=L.getD k ⟨k,0,fun _ _ _=>True⟩
def aJ8 (L:List Sp)(f:Nat→Value)(w:World)(j:Nat):Prop:=(jW L j).p (f (jW L j).r) (f j) w
def aJ9 (L:List Sp)(f:Nat→Value)(w:World)(i n:Nat):List Nat→Prop
 | []=>True
 | j::l=>(if (jW L j).dead=i∨n≤(jW L j).dead then aJ8 L f w j else True)∧aJ9 L f w i n l
def aKA (os:List Oper)(k:Nat):List Nat:=match os[k]? with|some o=>aAQ o|none=>[]
def af9 (L:List Sp)(os:List Oper)(k j:Nat):Bool:=j !=k&&(jW L j).dead !=k&&!(aKA os j).contains k&&!(aKA os k).contains (jW L j).dead
def aSI (L:List Sp)(os:List Oper)(k:Nat):List Nat:=(List.range L.length).filter (af9 L os k)
def aBB (L:List Sp)(w w':World):List Nat→Prop
 | []=>True
 | j::l=>(∀ x y,(jW L j).p x y w→(jW L j).p x y w')∧aBB L w w' l
theorem aBB.get {L:List Sp}{w w':World}:∀ {l:List Nat},aBB L w w' l→∀ j∈l,∀ x y,(jW L j).p x y w→(jW L j).p x y w'
 | [],_,j,h,_,_,_=>by simp at h
 | k::l,H,j,h,x,y,hp=>by
  rcases List.mem_cons.1 h with rfl|h
  ·exact H.1 x y hp
  exact H.2.get j h x y hp
def agA (o:Oper)(a:Act):Value:=match o.dst with|some d=>a.tmps.getD d undef|none=>undef
def ini (os:List Oper)(a:Act)(k:Nat):Value:=match os[k]? with|some o=>agA o a|none=>undef
def aEW (os:List Oper)(k j:Nat):Bool:=(aKA os j).contains k
def yM (P:Program)(ops:Array Oper)(A:(Nat→Value)→Act)(L:List Sp)(os:List Oper)(a:Act)(n B:Nat)(W:World)(J:World→Prop):List Oper→Nat→Prop
 | [],_=>True
 | o::l,k=>(∀ (f:Nat→Value) (w:World) (K:Value→World→Prop),Below B W w→J w→aJ9 L f w k n (aAQ o)→(∀ j,aEW os k j=true→f j=ini os a j)→(∀ j,n≤j→(decide ((jW L j).dead=k)||(decide (n≤(jW L j).dead)||aEW os k (jW L j).dead))=true→aJ8 L f w j)→
  (∀ v w',Below B w w'→J w'→aBB L w w' (aSI L os k)→(jW L k).p (if (jW L k).r=k then v else f (jW L k).r) v w'→K v w')→
  if Region.wanted o (yielded ops (A f).tmps) then eK P o (A f) w K else K undef w)∧yM P ops A L os a n B W J l (k+1)
theorem yM.nil_ {P:Program}{ops:Array Oper}{A:(Nat→Value)→Act}{L:List Sp}{os:List Oper}{a:Act}{n B k:Nat}{W:World}{J:World→Prop}:yM P ops A L os a n B W J [] k:=trivial
theorem yM.get {P:Program}{ops:Array Oper}{A:(Nat→Value)→Act}{L:List Sp}{os:List Oper}{a:Act}{n B:Nat}{W:World}{J:World→Prop}:∀ (l:List Oper) (k:Nat),yM P ops A L os a n B W J l k→∀ j o,l[j]?=some o→
 ∀ (f:Nat→Value) (w:World) (K:Value→World→Prop),Below B W w→J w→aJ9 L f w (k+j) n (aAQ o)→(∀ i,aEW os (k+j) i=true→f i=ini os a i)→(∀ i,n≤i→(decide ((jW L i).dead=k+j)||(decide (n≤(jW L i).dead)||aEW os (k+j) (jW L i).dead))=true→aJ8 L f w i)→
  (∀ v w',Below B w w'→J w'→aBB L w w' (aSI L os (k+j))→(jW L (k+j)).p (if (jW L (k+j)).r=k+j then v else f (jW L (k+j)).r) v w'→K v w')→
  if Region.wanted o (yielded ops (A f).tmps) then eK P o (A f) w K else K undef w
 | [],_,_,j,_,h=>by simp at h
 | o::l,k,H,0,o',h=>by
  simp at h;subst h;exact H.1
 | o::l,k,H,j+1,o',h=>by
  have:=yM.get l (k+1) H.2 j o' (by simpa using h);rwa [show k+1+j=k+(j+1) from by omega] at this
section
variable {P:Program}{l:List Oper}{A:(Nat→Value)→Act}{L:List Sp}{W:World}{B:Nat}{J:World→Prop}{Q:Exit→Act→World→Prop}
end
section
variable {B:Nat}{W:World}
end
structure But (g:Nat) (w w':World):Prop where
 os:w'.os=w.os
 tape:w'.tape=w.tape
 output:w'.output=w.output
 size:w.heap.size≤w'.heap.size
 block:∀ k,k<w.heap.size→k≠g→w'.heap[k]?=w.heap[k]?
section
variable {w w' w2:World}{g B:Nat}
theorem But.refl (g:Nat)(w:World):But g w w:=⟨rfl,rfl,rfl,Nat.le_refl _,fun _ _ _=>rfl⟩
theorem But.trans (h:But g w w')(k:But g w' w2):But g w w2:=
 ⟨k.os.trans h.os,k.tape.trans h.tape,k.output.trans h.output,Nat.le_trans h.size k.size,fun j hj hn=>(k.block j (Nat.lt_of_lt_of_le hj h.size) hn).trans (h.block j hj hn)⟩
theorem But.of (h:Below w.heap.size w w'):But g w w':=⟨h.os,h.tape,h.output,h.size,fun k hk _=>h.block k hk⟩
theorem But.below (h:But g w w')(hB:B≤g)(hs:B≤w.heap.size):Below B w w':=⟨h.os,h.tape,h.output,h.size,fun k hk=>h.block k (by omega) (by omega)⟩
theorem But.setCell (h:But g w w'){p:Addr}(hp:w.heap.size≤p.block)(u:Value):But g w (w'.setCell p u):=
 ⟨h.os,h.tape,h.output,by simpa [World.setCell] using h.size,fun k hk hn=>(Below.heap_setCell w' p u k (by omega)).trans (h.block k hk hn)⟩
theorem But.alloc (h:But g w w')(o:Obj):But g w (w'.alloc o):=
 ⟨h.os,h.tape,h.output,by have:=h.size;simp;omega,fun k hk hn=>(Below.heap_alloc w' o k (Nat.lt_of_lt_of_le hk h.size)).trans (h.block k hk hn)⟩
theorem But.drew (h:But g w w'):But g w w'.drew:=⟨h.os,h.tape,h.output,h.size,h.block⟩
end
section
variable {P:Program}{o:Oper}{x y:Av}{R U:List (Nat × Hs)}{ρ:Operand→Av}{p q q':Operand}{T T':TypeId}
theorem aSK {E:Env}{k n l h:Nat}{row:Nat→Av}{A:Option Addr}{c:Nat}(hr:aA E (.sl k n row) (.slice A n c))(h1:l≤h)(h2:h≤n):aA E (.sl k (h-l) (fun j=>row (j+l))) (sliced A l h c k):=by
 unfold aA at hr ⊢;obtain ⟨A',c',e,h3,h4,h5⟩:=hr;injection e with e1 e2 e3
 subst e1;subst e3
 unfold sliced;refine ⟨_,_,rfl,by omega,by omega,fun hl=>?_⟩;rw [if_neg (by omega)];obtain ⟨b,o,rfl,h6,h7⟩:=h5 (by omega);refine ⟨b,o+l*k,by simp [Addr.add],h6,fun j hj=>?_⟩;obtain ⟨u,h8,h9,h10⟩:=h7 (j+l) (by omega);exact ⟨u,h8,h9,by rwa [show o+l*k+j*k=o+(j+l)*k from by rw [Nat.add_mul];omega]⟩
theorem aSL {e:TypeId}(h:P.underlying T=some (.slice e)):P.elem T=e:=by simp [Program.elem,h]
theorem aJK {e:TypeId}{k by_ n c:Nat}{zs:List Value}{A:Option Addr}{a:Act}{w:World}{lo hi:Option Operand}{l h:Nat}(ho:o.op=.slice T p lo hi none)(hT:eB P T=some e)(hi_:lW P e=some (k,by_,zs))(hp:a.eval p=.slice A n c)(hc:n≤c)
 (hl:(lo=none∧l=0)∨∃ r kk,lo=some r∧a.eval r=.int kk (l:Int)) (hh:(hi=none∧h=n)∨∃ r kk,hi=some r∧a.eval r=.int kk (h:Int)) (h1:l≤h) (h2:h≤n):(execOp a.eval o).run P w=.ok (.value (sliced A l h c k)) w:=by
 obtain ⟨i,z,i1,i2,i3,i4,i5⟩:=vK hi_;have hu:=tR hT;have hu':P.underlying T=some (.slice (P.elem T)):=by rw [aSL hu];exact hu
 have hsz:(sizeOf (P.elem T)).run P w=.ok k w:=by rw [aSL hu];simp [sizeOf,typeInfo,i1,i3,Sem.run_bind]
 unfold execOp;simp only [ho,Sem.run_bind,hp,Option.map];rw [run_sliceAt_slice w T _ _ _ _ hu'];rcases hl with ⟨rfl,e1⟩|⟨r,kk,rfl,hl⟩<;>rcases hh with ⟨rfl,e2⟩|⟨r',kk',rfl,hh⟩
 ·rw [e1,e2,run_slice_all w T A n c hu'];simp only [hsz,Result.andThen_ok,Sem.run_pure]
 ·rw [e1];simp only [hh];rw [run_slice_h w T A n c hu' kk' (h:Int) (by omega) (by omega)];simp only [hsz,Result.andThen_ok,Sem.run_pure,Int.toNat_natCast]
 ·rw [e2];simp only [hl];rw [run_slice_l w T A n c hu' kk (l:Int) (by omega) (by omega)];simp only [hsz,Result.andThen_ok,Sem.run_pure,Int.toNat_natCast]
 simp only [hl,hh];rw [run_slice_lh w T A n c hu' kk kk' (l:Int) (h:Int) (by omega) (by omega) (by omega)];simp only [hsz,Result.andThen_ok,Sem.run_pure,Int.toNat_natCast]
theorem aSM {E:Env}{k n:Nat}{row:Nat→Av}{v:Value}(h:aA E (.sl k n row) v):∃ A c,v=.slice A n c∧n≤c∧c≤maxLen:=by
 unfold aA at h;obtain ⟨A,c,h1,h2,h3,_⟩:=h;exact ⟨A,c,h1,h2,h3⟩
theorem aoR {e:TypeId}{k by_ n:Nat}{zs:List Value}{row:Nat→Av}{kk:IntKind}(l:Nat)(ho:o.op=.slice T p (some q) none none)(hp:ρ p=.sl k n row)(hq:ρ q=.val (.int kk (l:Int)))(hT:eB P T=some e)(hi:lW P e=some (k,by_,zs))(hl:l≤n):OC P o ρ [] (.sl k (n-l) (fun j=>row (j+l))) []:=bZ fun E a hG hr _=>by
 have h1:=hr p (by simp [ho,Op.operands]);have h2:=hr q (by simp [ho,Op.operands]);rw [hp] at h1;rw [hq] at h2;unfold aA at h2;obtain ⟨A,c,h3,h4,_⟩:=aSM h1;rw [h3] at h1;exact ⟨_,aJK ho hT hi h3 h4 (.inr ⟨q,kk,rfl,h2⟩) (.inl ⟨rfl,rfl⟩) hl (Nat.le_refl _),aSK h1 hl (Nat.le_refl _)⟩
theorem aGO {e:TypeId}{k by_ n:Nat}{zs:List Value}{row:Nat→Av}{kk:IntKind}(h:Nat)(ho:o.op=.slice T p none (some q) none)(hp:ρ p=.sl k n row)(hq:ρ q=.val (.int kk (h:Int)))(hT:eB P T=some e)(hi:lW P e=some (k,by_,zs))(hl:h≤n):OC P o ρ [] (.sl k h row) []:=bZ fun E a hG hr _=>by
 have h1:=hr p (by simp [ho,Op.operands]);have h2:=hr q (by simp [ho,Op.operands]);rw [hp] at h1;rw [hq] at h2;unfold aA at h2;obtain ⟨A,c,h3,h4,_⟩:=aSM h1;rw [h3] at h1;have:=aSK (l:=0) h1 (Nat.zero_le _) hl;exact ⟨_,aJK ho hT hi h3 h4 (.inl ⟨rfl,rfl⟩) (.inr ⟨q,kk,rfl,h2⟩) (Nat.zero_le _) hl,by simpa using this⟩
theorem aNF {i j:Int}(ho:o.op=.call { callee:=.builtin .min,args:=#[p,q],argTypes:=#[T,T'] })(hp:ρ p=.val (.int .i64 i))(hq:ρ q=.val (.int .i64 j)):OC P o ρ [] (.val (.int .i64 (min i j))) []:=bZ fun E a hG hr _=>by
 have h1:=hr p (by simp [ho,Op.operands,Call.operands]);have h2:=hr q (by simp [ho,Op.operands,Call.operands]);rw [hp] at h1;rw [hq] at h2;unfold aA at h1 h2;refine ⟨.int .i64 (min i j),?_,by unfold aA;rfl⟩;have:(if j<i then j else i)=min i j:=by split<;>omega
 simp [execOp,ho,resolve,invoke,builtin,Builtin.min_,Builtin.min2,h1,h2,Sem.run_bind,Sem.run_pure,this]
def bv (xs:List Int)(j:Nat):Av:=.val (.int .u8 (xs.getD j 0))
def bs (xs:List Int):Av:=.sl 1 xs.length (bv xs)
theorem oP (xs:List Int):aN (bs xs):=by unfold bs aN;intro j;unfold bv aN;trivial
theorem aBC {E:Env}{xs:List Int}{v:Value}(h:aA E (bs xs) v):∃ A c,v=.slice A xs.length c∧xs.length≤c∧c≤maxLen∧Rd E.w E.w.heap.size A (cb .u8 xs):=by
 unfold bs aA at h;obtain ⟨A,c,h1,h2,h3,h4⟩:=h;refine ⟨A,c,h1,h2,h3,fun hl=>?_⟩;rw [mL] at hl;obtain ⟨b,o,h5,h6,h7⟩:=h4 hl;refine ⟨b,o,h5,h6.1,fun j u hu=>?_⟩;have hj:j<xs.length:=by have:=(List.getElem?_eq_some_iff.1 hu).1;rwa [mL] at this
 obtain ⟨u',h8,h9,h10⟩:=h7 j hj;unfold bv aA at h8;subst h8;have:=h10 0 (.int .u8 (xs.getD j 0)) (by simp [Value.cells]);have hu':u=.int .u8 (xs.getD j 0):=by
  unfold cb at hu;rw [List.getElem?_map,List.getElem?_eq_getElem hj] at hu;simp at hu;rw [←hu];simp [List.getD,hj]
 rw [hu'];simpa using this
theorem aEX {E:Env}{xs:List Int}{A:Option Addr}{c:Nat}(h:0<xs.length→∃ b o,A=some ⟨b,o,none⟩∧E.ok b∧∀ j u,(cb .u8 xs)[j]?=some u→E.w.cell? ⟨b,o+j,none⟩=some u)(h1:xs.length≤c)(h2:c≤maxLen):aA E (bs xs) (.slice A xs.length c):=by
 unfold bs aA;refine ⟨A,c,rfl,h1,h2,fun hl=>?_⟩;obtain ⟨b,o,h3,h4,h5⟩:=h hl;refine ⟨b,o,h3,h4,fun j hj=>⟨.int .u8 (xs.getD j 0),by unfold bv aA;rfl,rfl,fun i u hu=>?_⟩⟩;have hi:i=0:=by
  cases i with
  | zero=>rfl
  | succ i=>simp [Value.cells] at hu
 subst hi;simp [Value.cells] at hu;subst hu;have:=h5 j (.int .u8 (xs.getD j 0)) (by unfold cb;rw [List.getElem?_map,List.getElem?_eq_getElem hj];simp [List.getD,hj]);simpa using this
theorem aKB {E:Env}(hG:Good E){w':World}{e:TypeId}{A:Option Addr}{n c:Nat}{zs:List Int}(ho:bA w' E.w.heap.size e (.slice A n c) (cb .u8 zs))(hb:Below E.w.heap.size E.w w'):aA { E with w:=w' } (bs zs) (.slice A n c):=by
 obtain ⟨h1,h2,h3⟩:=ho.rd;rw [mL] at h1;subst h1;rcases ho.2 with ⟨h4,_⟩|⟨g,cap,cur,h4,h5,h6,h7,h8,_⟩
 ·injection h4 with h4 h5 h6
  subst h6;exact aEX (fun hl=>by omega) h2 (Nat.zero_le _)
 injection h4 with h4 h9 h10
 subst h10;refine aEX (fun hl=>?_) h2 h8;obtain ⟨b,o,h11,_,h12⟩:=h3 (by rwa [mL]);rw [h4] at h11;injection h11 with h11
 injection h11 with h11 h13
 subst h11;subst h13
 exact ⟨g,0,h4,⟨(Array.getElem?_eq_some_iff.1 h6).1,fun hbad=>by have:=hG.old g hbad;omega,fun n hn=>by have:=(hG.lt n g hn).1;omega⟩,h12⟩
def cvB (P:Program)(T T':TypeId):Bool:=match P.underlying T with|some (.slice e)=>(match P.underlying e with|some (.int .u8)=>oD P T'|_=>false)|_=>false
theorem agB (h:cvB P T T'=true):∃ e,P.underlying T=some (.slice e)∧P.underlying e=some (.int .u8)∧P.underlying T'=some .string:=by
 unfold cvB at h;split at h
 ·rename_i e he;split at h
  ·rename_i hu;unfold oD at h;split at h
   ·exact ⟨e,he,hu,by assumption⟩
   cases h
  cases h
 cases h
theorem vX (xs:List Int)(ho:o.op=.convert T T' p)(hp:ρ p=bs xs)(hT:cvB P T T'=true):OC P o ρ [] (.val (.string (strOfNums xs))) []:=bZ fun E a hG hr _=>by
 have h1:=hr p (by simp [ho,Op.operands]);rw [hp] at h1;obtain ⟨A,c,h2,h3,_,h4⟩:=aBC h1;obtain ⟨e,t1,t2,t3⟩:=agB hT;refine ⟨.string (strOfNums xs),?_,by unfold aA;rfl⟩;unfold execOp;simp only [ho,h2,Sem.run_bind,aAP t1 t2 t3 h4 rfl,Result.andThen_ok,Sem.run_pure]
end
def oU (rv:ResultVar)(tm:Array Value):Sem Value:=match rv with|.tmp t=>pure (tm.getD t undef)|.cell a t=>do loadVar t (←asAddr (tm.getD a undef))
def aT (P:Program)(Γ:Ctx)(rv:ResultVar)(x:Av):Prop:=∀ (E:Env) (a:Act),Good E→mK E a.tmps Γ→∃ v,(oU rv a.tmps).run P E.w=.ok v E.w∧aA E x v
section
variable {P:Program}{fn:Func}{Γ:Ctx}{x y z:Av}{r1 r2 r3:ResultVar}
theorem aT.tmp {t:Nat}(hx:bN Γ.s t=x):aT P Γ (.tmp t) x:=fun E a hG hH=>by
 subst hx;exact ⟨_,by simp [oU],hH.1 t⟩
theorem aT.to (h:aT P Γ r1 x)(hxy:∀ E v,aA E x v→aA E y v):aT P Γ r1 y:=fun E a hG hH=>by
 obtain ⟨v,h1,h2⟩:=h E a hG hH;exact ⟨v,h1,hxy E v h2⟩
theorem aT.row {t n:Nat}{T ty:TypeId}{cs:List Av}(hs:bN Γ.s t=.own n 0)(hn:aL Γ.h n=some (.live ty cs))(hT:jK P T=some true)(hz:mX P T=some cs.length)(h0:0<cs.length):aT P Γ (.cell t T) (.agg cs):=fun E a hG hH=>by
 have hv:=hH.1 t;rw [hs] at hv;obtain ⟨b,cur,h1,h2,h3,h4⟩:=pU hv (hH.2 n _ hn) h0;obtain ⟨vs,h5,h6,h7⟩:=wI (E:=E) (cur:=cur) cs 0 fun i y hy=>by simpa using h4 i y hy
 refine ⟨.agg vs.toArray,?_,by unfold aA;exact ⟨vs,rfl,h5,h6⟩⟩;obtain ⟨d,hd1,hd2⟩:=aD9 hT;have hl:=run_loadVar_mid (P:=P) E.w b 0 T vs d (fun j u hu=>by rw [pG h3];exact h7 j u hu) hd1 hd2 (by rw [h5.length];exact hz);simp [oU,asAddr,Sem.run_bind,hl,h1]
theorem aT.one {t n:Nat}{T ty:TypeId}{cs:List Av}(hs:bN Γ.s t=.own n 0)(hn:aL Γ.h n=some (.live ty (x::cs)))(hT:jK P T=some false):aT P Γ (.cell t T) x:=fun E a hG hH=>by
 have hv:=hH.1 t;rw [hs] at hv;obtain ⟨b,cur,h1,h2,h3,h4⟩:=pU hv (hH.2 n _ hn) (by simp);obtain ⟨u,h5,h6,h7⟩:=h4 0 x rfl;refine ⟨u,?_,h7⟩;have hc:E.w.cell? ⟨b,0,none⟩=some u:=by rw [pG h3,h5]
 simp [oU,asAddr,Sem.run_bind,h1,loadVar,aEA hT,hc]
theorem aF.two (h:fn.results=#[r1,r2])(h1:aT P Γ r1 x)(h2:aT P Γ r2 y):aF P fn Γ (.tup [x,y]):=fun E a hG hH=>by
 obtain ⟨v1,k1,l1⟩:=h1 E a hG hH;obtain ⟨v2,k2,l2⟩:=h2 E a hG hH;refine ⟨.tuple #[v1,v2],?_,by unfold aA;refine ⟨[v1,v2],rfl,?_⟩;unfold aG aG aG;exact ⟨_,_,rfl,l1,_,_,rfl,l2,rfl⟩⟩;have e:fn.results.mapM (fun rv=>oU rv a.tmps)=(do let x←oU r1 a.tmps;let y←oU r2 a.tmps;pure #[x,y]):=by rw [h];simp
 unfold results;show (do let vs←fn.results.mapM (fun rv=>oU rv a.tmps);pure (if h:vs.size=1 then vs[0] else .tuple vs):Sem Value).run P E.w=_;rw [e];simp [Sem.run_bind,k1,k2]
theorem aF.three (h:fn.results=#[r1,r2,r3])(h1:aT P Γ r1 x)(h2:aT P Γ r2 y)(h3:aT P Γ r3 z):aF P fn Γ (.tup [x,y,z]):=fun E a hG hH=>by
 obtain ⟨v1,k1,l1⟩:=h1 E a hG hH;obtain ⟨v2,k2,l2⟩:=h2 E a hG hH;obtain ⟨v3,k3,l3⟩:=h3 E a hG hH;refine ⟨.tuple #[v1,v2,v3],?_,by unfold aA;refine ⟨[v1,v2,v3],rfl,?_⟩;unfold aG aG aG aG;exact ⟨_,_,rfl,l1,_,_,rfl,l2,_,_,rfl,l3,rfl⟩⟩;have e:fn.results.mapM (fun rv=>oU rv a.tmps)=(do let x←oU r1 a.tmps;let y←oU r2 a.tmps;let z←oU r3 a.tmps;pure #[x,y,z]):=by rw [h];simp
 unfold results;show (do let vs←fn.results.mapM (fun rv=>oU rv a.tmps);pure (if h:vs.size=1 then vs[0] else .tuple vs):Sem Value).run P E.w=_;rw [e];simp [Sem.run_bind,k1,k2,k3]
end
section
variable {ro:Option Nat}{P:Program}{N:Nat}{D:List Nat}{c x y:Code}{Q R:Exit→Ctx→Prop}{Γ τ:Ctx}
theorem aJC (h:dW ro P N D c Q Γ)(hm:∀ e Γ,Q e Γ→R e Γ):dW ro P N D c R Γ:=fun E a hF=>wpIn_mono (h E a hF) fun e a' w' ⟨E',Γ',h1,h2,h3,h5,h4⟩=>⟨E',Γ',h1,h2,h3,h5,hm _ _ h4⟩
theorem rM (h1:dW ro P N D x (wJ (fun Γ'=>Le N D Γ' τ) Q) Γ)(h2:dW ro P N D y Q τ):dW ro P N D x (wJ (dW ro P N D y Q) Q) Γ:=aJC h1 fun e Γ' h=>by
 cases e
 case normal=>exact bS h h2
 all_goals exact h
end
theorem PC.to {P:Program}{f:Nat}{xs:List Av}{y z:Av}(h:PC P f xs y)(hyz:∀ E v,aA E y v→aA E z v):PC P f xs z:=fun E vs hG hA hR hB hU=>(h E vs hG hA hR hB hU).mono fun e w' ⟨E',v,h1,h2,h3,h4,h5,h6⟩=>⟨E',v,h1,h2,h3,h4,hyz E' v h5,h6⟩
theorem aQ5 {E:Env}:∀ {xs ys:List Av} {vs:List Value},(∀ (i:Nat) (x y:Av),xs[i]?=some x→ys[i]?=some y→∀ v,aA E x v→aA E y v)→xs.length=ys.length→aG E xs vs→aG E ys vs
 | [],[],vs,_,_,h=>by unfold aG at h ⊢;exact h
 | [],_::_,_,_,hl,_=>by simp at hl
 | _::_,[],_,_,hl,_=>by simp at hl
 | x::xs,y::ys,vs,hp,hl,h=>by
  unfold aG at h ⊢;obtain ⟨v,us,h1,h2,h3⟩:=h;exact ⟨v,us,h1,hp 0 x y rfl rfl v h2,aQ5 (fun i a b ha hb=>hp (i+1) a b (by simpa using ha) (by simpa using hb)) (by simpa using hl) h3⟩
theorem aAG {xs ys:List Av}{E:Env}{v:Value}(h:aA E (.agg xs) v)(hl:xs.length=ys.length)(hp:∀ (E:Env) (i:Nat) (x y:Av),xs[i]?=some x→ys[i]?=some y→∀ v,aA E x v→aA E y v):aA E (.agg ys) v:=by
 unfold aA at h ⊢;obtain ⟨vs,h1,h2,h3⟩:=h;exact ⟨vs,h1,aQ5 (hp E) hl h2,h3⟩
theorem pI {k n:Nat}{r r':Nat→Av}(hp:∀ E j,j<n→∀ v,aA E (r j) v→aA E (r' j) v)(E:Env)(v:Value)(h:aA E (.sl k n r) v):aA E (.sl k n r') v:=by
 unfold aA at h ⊢;obtain ⟨A,c,h1,h2,h3,h4⟩:=h;refine ⟨A,c,h1,h2,h3,fun h0=>?_⟩;obtain ⟨b,o,h5,h6,h7⟩:=h4 h0;refine ⟨b,o,h5,h6,fun j hj=>?_⟩;obtain ⟨u,h8,h9⟩:=h7 j hj;exact ⟨u,hp E j hj u h8,h9⟩
theorem qI {k:Nat}{row:Nat→Av}(E:Env)(v:Value)(h:aA E (.val (.slice none 0 0)) v):aA E (.sl k 0 row) v:=uA (by decide) E v h
theorem vO {l:List Int}{i:Nat}(h:i<l.length):(l.map vi)[i]?=some (vi (l.getD i 0)):=by simp [h]
theorem zQ (l:List Int)(i:Nat)(x:Int):(l.map vi).set i (vi x)=(l.set i x).map vi:=by rw [List.map_set]
theorem aUH (l:List Int):∀ j,j<l.length→(l.map vi)[j]?=some ((fun j=>vi (l.getD j 0)) j)∧sJ ((fun j=>vi (l.getD j 0)) j)=true:=fun j hj=>⟨vO hj,rfl⟩
theorem ad3 (l:List Int):∀ j,j<l.length→eQ ((fun j=>vi (l.getD j 0)) j) 1=true∧∀ i y,i<1→(l.map vi)[j*1+i]?=some y→(cL ((fun j=>vi (l.getD j 0)) j))[i]?=some y:=aCM (fun j y hy=>by
 rw [List.getElem?_map] at hy;cases h:l[j]? with
 | none=>rw [h] at hy;cases hy
 | some z=>rw [h] at hy;simp at hy;subst hy;simp [List.getD,h]) (fun j hj=>⟨rfl,rfl⟩)
theorem PC.arg {P:Program}{f:Nat}{x y z:Av}(h:PC P f [x] z)(hxy:∀ E v,aA E y v→aA E x v):PC P f [y] z:=fun E vs hG hA hR hB hU=>h E vs hG (by
 unfold aG at hA ⊢;obtain ⟨v,us,h1,h2,h3⟩:=hA;exact ⟨v,us,h1,hxy E v h2,h3⟩) hR hB hU
end Go.Proofs.YtgajclaoaphgoaaGreatDoor
namespace Go.Proofs.YtgajclaoaphgoaaGreatDoor
theorem mixed:Tryz.prog.follows .mixedOrders=true:=by kernel_rfl
end Go.Proofs.YtgajclaoaphgoaaGreatDoor
