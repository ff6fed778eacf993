/- Parts of the proof of a law of this seat: rules and contracts; no conditions. -/
import Derived.Test.YtnklgkjfoggpbaaGreatDoorOe
set_option maxHeartbeats 6400000
set_option maxRecDepth 100000
set_option linter.unusedVariables false
set_option linter.unusedSimpArgs false
namespace Go.Proofs.YtnklgkjfoggpbaaGreatDoor
open Go.RowKit
section
variable {P:Program}{o:Oper}{x y:Av}{R U:List (Nat × Hs)}{ρ:Operand→Av}{p q:Operand}{T:TypeId}
def eQ:Av→Nat→Bool
 | .agg ds,n=>Nat.beq ds.length n
 | .val v,n=>rU v&&Nat.beq n 1
 | .sl ..,n|.ptr _,n|.clo ..,n|.bm ..,n|.own ..,n|.osl ..,n=>Nat.beq n 1
 | _,_=>false
def cL:Av→List Av
 | .agg ds=>ds
 | y=>[y]
def tE (E:Env)(cs:List Av)(cells:Array Value):Prop:=cs.length=cells.size∧∀ (i:Nat) (y:Av),cs[i]?=some y→∃ u:Value,cells[i]?=some u∧u.oneCell'=true∧aA E y u
theorem wP {E:Env}{y:Av}{v:Value}{n:Nat}(h:aA E y v)(hs:eQ y n=true):v.cells.size=n∧(cL y).length=n∧tE E (cL y) v.cells:=by
 have one:v.oneCell'=true→n=1→cL y=[y]→v.cells.size=n∧(cL y).length=n∧tE E (cL y) v.cells:=fun h1 h2 h3=>by
  rw [h3,tN h1,h2]
  refine ⟨rfl,rfl,rfl,fun i z hz=>?_⟩
  cases i with
  | zero=>simp at hz;subst hz;exact ⟨v,rfl,h1,h⟩
  | succ i=>simp at hz
 cases y with
 | agg ds=>
  unfold aA at h
  obtain ⟨vs,rfl,h2,h3⟩:=h
  have hl:=h2.length
  have hn:ds.length=n:=by simpa [eQ] using hs
  refine ⟨by simp [Value.cells,hl,hn],by simpa [cL] using hn,by simp [cL,Value.cells,hl],fun i z hz=>?_⟩
  obtain ⟨u,h4,h5⟩:=h2.get i z (by simpa [cL] using hz)
  exact ⟨u,by simpa [Value.cells] using h4,h3 u (List.mem_of_getElem? h4),h5⟩
 | val u=>
  simp only [eQ,Bool.and_eq_true] at hs
  have h':=h
  unfold aA at h'
  exact one (by rw [h'];exact aA8 hs.1) (Nat.eq_of_beq_eq_true hs.2) rfl
 | sl k m row=>exact one (aAT E v h) (Nat.eq_of_beq_eq_true (by simpa [eQ] using hs)) rfl
 | ptr z=>exact one (aEC E v h) (Nat.eq_of_beq_eq_true (by simpa [eQ] using hs)) rfl
 | clo f cs=>exact one (aAU E v h) (Nat.eq_of_beq_eq_true (by simpa [eQ] using hs)) rfl
 | bm f cs=>exact one (afU E v h) (Nat.eq_of_beq_eq_true (by simpa [eQ] using hs)) rfl
 | own m off=>exact one (nU E v h) (Nat.eq_of_beq_eq_true (by simpa [eQ] using hs)) rfl
 | osl k m len=>exact one (aED E v h) (Nat.eq_of_beq_eq_true (by simpa [eQ] using hs)) rfl
 | _=>simp [eQ] at hs
theorem aJ0:∀ (vs:List Value) (k off:Nat) (cells:Array Value),off+k+vs.length≤cells.size→
 ((vs.zipIdx k).foldl (fun cs (c:Value × Nat)=>cs.setIfInBounds (off+c.2) c.1) cells).size=cells.size∧
 (∀ i,i<off+k∨off+k+vs.length≤i→((vs.zipIdx k).foldl (fun cs (c:Value × Nat)=>cs.setIfInBounds (off+c.2) c.1) cells)[i]?=cells[i]?)∧
 ∀ j u,vs[j]?=some u→((vs.zipIdx k).foldl (fun cs (c:Value × Nat)=>cs.setIfInBounds (off+c.2) c.1) cells)[off+k+j]?=some u
 | [],k,off,cells,h=>⟨rfl,fun _ _=>rfl,by simp⟩
 | v::vs,k,off,cells,h=>by
  simp only [List.length_cons] at h
  simp only [List.zipIdx_cons,List.foldl_cons]
  obtain ⟨h1,h2,h3⟩:=aJ0 vs (k+1) off (cells.setIfInBounds (off+k) v) (by simp;omega)
  refine ⟨by simpa using h1,fun i hi=>?_,fun j u hu=>?_⟩
  ·simp only [List.length_cons] at hi
   rw [h2 i (by omega),Array.getElem?_setIfInBounds_ne (by omega)]
  ·cases j with
   | zero=>
    simp at hu
    subst hu
    rw [h2 _ (by omega)]
    simp [show off+k<cells.size from by omega]
   | succ j=>
    have:=h3 j u (by simpa using hu)
    rwa [show off+(k+1)+j=off+k+(j+1) from by omega] at this
theorem afX {E:Env}{cs ds:List Av}{cells dc:Array Value}{off:Nat}(h:tE E cs cells)(hd:tE E ds dc)(hl:off+ds.length≤cs.length):tE E (nV cs off ds) (dc.zipIdx.foldl (fun cs (c,j)=>cs.setIfInBounds (off+j) c) cells):=by
 have hdl:=hd.1
 have hcl:=h.1
 obtain ⟨h1,h2,h3⟩:=aJ0 dc.toList 0 off cells (by simp;omega)
 have e:dc.zipIdx.foldl (fun cs (c,j)=>cs.setIfInBounds (off+j) c) cells=((dc.toList.zipIdx 0).foldl (fun cs (c:Value × Nat)=>cs.setIfInBounds (off+c.2) c.1) cells):=by
  rw [←Array.foldl_toList,Array.toList_zipIdx]
 rw [e]
 refine ⟨by unfold nV;simp;omega,fun i y hy=>?_⟩
 unfold nV at hy
 rcases Nat.lt_or_ge i off with hi|hi
 ·rw [List.append_assoc,List.getElem?_append_left (by rw [List.length_take];omega),List.getElem?_take,if_pos hi] at hy
  rw [h2 i (.inl (by omega))]
  exact h.2 i y hy
 ·rw [List.append_assoc,List.getElem?_append_right (by rw [List.length_take];omega),List.length_take,Nat.min_eq_left (by omega)] at hy
  rcases Nat.lt_or_ge i (off+ds.length) with hi'|hi'
  ·rw [List.getElem?_append_left (by omega)] at hy
   obtain ⟨u,h4,h5⟩:=hd.2 _ y hy
   have:=h3 (i-off) u (by simpa using h4)
   rw [show off+0+(i-off)=i from by omega] at this
   exact ⟨u,this,h5⟩
  ·rw [List.getElem?_append_right (by omega),List.getElem?_drop] at hy
   rw [h2 i (.inr (by simp;omega))]
   exact h.2 i y (by rw [←hy];congr 1;omega)
def yB (place:Nat→Option (Nat × Nat)):List Av→List (Nat × Av)→List Av
 | cs,[]=>cs
 | cs,(i,y)::r=>match place i with|some (off,_)=>yB place (nV cs off (cL y)) r|none=>cs
def yA (place:Nat→Option (Nat × Nat))(N:Nat):List (Nat × Av)→Bool
 | []=>true
 | (i,y)::r=>(match place i with|some (off,sz)=>eQ y sz&&Nat.ble (off+sz) N|none=>false)&&yA place N r
theorem afY {cs ds:List Av}{off:Nat}(h:off+ds.length≤cs.length):(nV cs off ds).length=cs.length:=by unfold nV;simp;omega
theorem aJ1 {E:Env}{a:Act}{place:Nat→Option (Nat × Nat)}{N:Nat}:∀ (parts:List (Nat × Operand)) (cs:List Av) (cells:Array Value),tE E cs cells→cs.length=N→(∀ ip∈parts,aA E (ρ ip.2) (a.eval ip.2))→yA place N (parts.map fun ip=>(ip.1,ρ ip.2))=true→
 ∃ cells',Instr.fill place cells (parts.map fun ip=>(ip.1,a.eval ip.2))=some cells'∧tE E (yB place cs (parts.map fun ip=>(ip.1,ρ ip.2))) cells'
 | [],cs,cells,h,_,_,_=>⟨cells,rfl,h⟩
 | (i,p)::r,cs,cells,h,hN,hr,hp=>by
  simp only [List.map_cons,yA,Bool.and_eq_true] at hp
  obtain ⟨hp1,hp2⟩:=hp
  cases hpl:place i with
  | none=>simp [hpl] at hp1
  | some os=>
   obtain ⟨off,sz⟩:=os
   simp only [hpl,Bool.and_eq_true] at hp1
   have hle:=Nat.le_of_ble_eq_true hp1.2
   obtain ⟨h1,h2,h3⟩:=wP (y:=ρ p) (v:=a.eval p) (hr (i,p) (by simp)) hp1.1
   have hput:=afX h h3 (off:=off) (by omega)
   obtain ⟨cells',h4,h5⟩:=aJ1 r _ _ hput (by rw [afY (by omega),hN]) (fun ip hip=>hr ip (by simp [hip])) hp2
   refine ⟨cells',?_,by simpa [yB,hpl] using h5⟩
   simp only [List.map_cons,Instr.fill,hpl]
   rw [if_neg (by simp only [Bool.or_eq_true,decide_eq_true_eq];have:=h.1;omega)]
   exact h4
def aJH (P:Program)(T:TypeId):Option (List (Nat × Nat)):=
 match P.underlying T with
 | some (.struct fs)=>fs.toList.mapM fun f=>(P.info? f.type).map fun i=>(f.offset,i.size)
 | _=>none
theorem aR9 {w:World}:∀ (l:List Field) (pl:List (Nat × Nat)),(l.mapM fun f=>(P.info? f.type).map fun i=>(f.offset,i.size))=some pl→(l.mapM fun f=>(do pure (f.offset,←sizeOf f.type):Sem (Nat × Nat))).run P w=.ok pl w
 | [],pl,h=>by simp at h;subst h;rfl
 | f::l,pl,h=>by
  cases hi:P.info? f.type with
  | none=>simp [hi] at h
  | some i=>
   cases hl:(l.mapM fun f=>(P.info? f.type).map fun i=>(f.offset,i.size)) with
   | none=>simp [hi,hl] at h
   | some r=>
    simp [hi,hl] at h
    subst h
    have hs:(do pure (f.offset,←sizeOf f.type):Sem (Nat × Nat)).run P w=.ok (f.offset,i.size) w:=by simp [Sem.run_bind,sizeOf,typeInfo,hi]
    rw [List.mapM_cons,Sem.run_bind,hs,Result.andThen_ok,Sem.run_bind,aR9 l r hl]
    rfl
theorem aeG {parts:List (Nat × Operand)}{pl:List (Nat × Nat)}{zs:List Value}{ds:List Av}(ho:o.op=.build T parts.toArray)(hz:nT P T=some zs)(ha:zs.all rU=true)(hpl:aJH P T=some pl)(hp:yA (pl[·]?) zs.length (parts.map fun ip=>(ip.1,ρ ip.2))=true)
 (hds:yB (pl[·]?) (zs.map .val) (parts.map fun ip=>(ip.1,ρ ip.2))=ds):OC P o ρ [] (.agg ds) []:=bZ fun E a hG hr _=>by
 cases hi:P.info? T with
 | none=>simp [nT,hi] at hz
 | some i=>
  cases hz0:i.zero with
  | none=>simp [nT,hi,hz0] at hz
  | some z=>
   simp [nT,hi,hz0] at hz
   subst hz
   have hRC:tE E (z.cells.toList.map .val) z.cells:=⟨by simp,fun k y hy=>by
    rw [List.getElem?_map] at hy
    cases hk:z.cells.toList[k]? with
    | none=>simp [hk] at hy
    | some u=>
     simp [hk] at hy
     subst hy
     exact ⟨u,by simpa using hk,aA8 ((List.all_eq_true.1 ha) u (List.mem_of_getElem? hk)),by unfold aA;rfl⟩⟩
   obtain ⟨cells',h1,h2⟩:=aJ1 (a:=a) (N:=z.cells.toList.length) parts _ _ hRC (by simp) (fun ip hip=>hr ip.2 (by simp [ho,Op.operands];exact ⟨_,hip⟩)) (by simpa using hp)
   rw [hds] at h2
   unfold aJH at hpl
   cases hu:P.underlying T with
   | none=>simp [hu] at hpl
   | some d=>
    cases d with
    | struct fs=>
     simp only [hu] at hpl
     have hpr:=aR9 (w:=E.w) fs.toList pl hpl
     refine ⟨.agg cells',?_,?_⟩
     ·have hm:(fs.mapM fun f=>(do pure (f.offset,←sizeOf f.type):Sem (Nat × Nat))).run P E.w=.ok pl.toArray E.w:=by
       rw [Array.mapM_eq_mapM_toList,map_eq_pure_bind,Sem.run_bind,hpr]
       rfl
      have hfill:Instr.fill (pl.toArray[·]?) z.cells ((parts.toArray.map fun (i,x)=>(i,a.eval x)).toList)=some cells':=by
       have:(fun (n:Nat)=>pl.toArray[n]?)=(fun (n:Nat)=>pl[n]?):=by funext n;simp
       rw [this]
       simpa using h1
      have hzr:(zeroValue T).run P E.w=.ok z E.w:=by simp [zeroValue,Sem.run_bind,typeInfo,hi,hz0]
      simp only [execOp,ho,Instr.build,Sem.run_bind,hzr,Sem.run_pure,Result.andThen_ok,run_underlying hu,hm,hfill]
     ·unfold aA
      refine ⟨cells'.toList,by simp,?_,?_⟩
      ·have gen:∀ (ds:List Av) (vs:List Value),ds.length=vs.length→(∀ (i:Nat) (y:Av),ds[i]?=some y→∃ u:Value,vs[i]?=some u∧aA E y u)→aG E ds vs:=by
        intro ds
        induction ds with
        | nil=>intro vs hl _;unfold aG;cases vs with|nil=>rfl|cons=>simp at hl
        | cons d ds ih=>
         intro vs hl hh
         cases vs with
         | nil=>simp at hl
         | cons v vs=>
          unfold aG
          refine ⟨v,vs,rfl,?_,ih vs (by simpa using hl) fun i y hy=>by simpa using hh (i+1) y (by simpa using hy)⟩
          obtain ⟨u,hu,h3⟩:=hh 0 d rfl
          simp at hu
          subst hu
          exact h3
       refine gen ds _ (by simpa using h2.1) fun i y hy=>?_
       obtain ⟨u,h3,h4,h5⟩:=h2.2 i y hy
       exact ⟨u,by simpa using h3,h5⟩
      ·intro u hu
       obtain ⟨i,hi',rfl⟩:=List.getElem_of_mem hu
       have hlt:i<ds.length:=by have:=h2.1;simp at hi';omega
       obtain ⟨u',h3,h4,h5⟩:=h2.2 i ds[i] (List.getElem?_eq_getElem hlt)
       have:cells'[i]?=some cells'.toList[i]:=by simp at hi' ⊢
       rw [this] at h3
       injection h3 with h3
       rw [h3];exact h4
    | _=>simp [hu] at hpl
def eB (P:Program)(T:TypeId):Option TypeId:=match P.underlying T with|some (.slice e)=>some e|_=>none
theorem tR {e:TypeId}(h:eB P T=some e):P.underlying T=some (.slice e):=by
 unfold eB at h
 split at h
 ·injection h with h;subst h;assumption
 ·cases h
def lW (P:Program)(e:TypeId):Option (Nat × Nat × List Value):=(P.info? e).bind fun i=>i.zero.map fun z=>(i.size,i.bytes,z.cells.toList)
theorem vK {e:TypeId}{k by_:Nat}{zs:List Value}(h:lW P e=some (k,by_,zs)):∃ i z,P.info? e=some i∧i.zero=some z∧i.size=k∧i.bytes=by_∧z.cells.toList=zs:=by
 unfold lW at h
 cases hi:P.info? e with
 | none=>simp [hi] at h
 | some i=>
  cases hz:i.zero with
  | none=>simp [hi,hz] at h
  | some z=>
   simp [hi,hz] at h
   obtain ⟨rfl,rfl,rfl⟩:=h
   exact ⟨i,z,rfl,hz,rfl,rfl,rfl⟩
def lR (k:Nat):List Operand→List (Nat × Operand)
 | []=>[]
 | p::r=>(k,p)::lR (k+1) r
def pX (k:Nat):List Av→Bool
 | []=>true
 | y::r=>eQ y k&&pX k r
theorem aSA {E:Env}{a:Act}{k:Nat}:∀ (ps:List Operand) (j:Nat) (cells:Array Value),cells.size=(j+ps.length)*k→(∀ p∈ps,aA E (ρ p) (a.eval p))→pX k (ps.map ρ)=true→
 ∃ cells',Instr.fill (fun i=>some (i*k,k)) cells ((lR j ps).map fun ip=>(ip.1,a.eval ip.2))=some cells'∧cells'.size=cells.size∧(∀ i,i<j*k→cells'[i]?=cells[i]?)∧
  ∀ m p,ps[m]?=some p→∀ i u,(a.eval p).cells[i]?=some u→cells'[(j+m)*k+i]?=some u
 | [],j,cells,_,_,_=>⟨cells,rfl,rfl,fun _ _=>rfl,by simp⟩
 | p::ps,j,cells,hc,hr,hs=>by
  simp only [List.map_cons,pX,Bool.and_eq_true] at hs
  obtain ⟨h1,h2,h3⟩:=wP (y:=ρ p) (v:=a.eval p) (hr p (by simp)) hs.1
  simp only [List.length_cons] at hc
  have hle:j*k+k≤cells.size:=by rw [hc,←Nat.succ_mul];exact Nat.mul_le_mul_right _ (by omega)
  obtain ⟨f1,f2,f3⟩:=aJ0 (a.eval p).cells.toList 0 (j*k) cells (by simp;omega)
  have e:(a.eval p).cells.zipIdx.foldl (fun cs (c,i)=>cs.setIfInBounds (j*k+i) c) cells=(((a.eval p).cells.toList.zipIdx 0).foldl (fun cs (c:Value × Nat)=>cs.setIfInBounds (j*k+c.2) c.1) cells):=by
   rw [←Array.foldl_toList,Array.toList_zipIdx]
  rw [←e] at f1 f2 f3
  obtain ⟨cells',g1,g2,g3,g4⟩:=aSA ps (j+1) _ (by rw [f1,hc];congr 1;omega) (fun q hq=>hr q (by simp [hq])) hs.2
  refine ⟨cells',?_,by rw [g2,f1],fun i hi=>?_,fun m q hq i u hu=>?_⟩
  ·simp only [lR,List.map_cons,Instr.fill]
   rw [if_neg (by simp only [Bool.or_eq_true,decide_eq_true_eq];omega)]
   exact g1
  ·rw [g3 i (by rw [Nat.succ_mul];omega),f2 i (.inl (by omega))]
  ·cases m with
   | zero=>
    simp at hq
    subst hq
    have hi:i<k:=by have:=(Array.getElem?_eq_some_iff.1 hu).1;omega
    rw [Nat.add_zero,g3 _ (by rw [Nat.succ_mul];omega)]
    have:=f3 i u (by simpa using hu)
    rwa [Nat.add_zero] at this
   | succ m=>
    have:=g4 m q (by simpa using hq) i u hu
    rwa [show j+1+m=j+(m+1) from by omega] at this
theorem aJU {E:Env}{a:Act}{ps:List Operand}{e:TypeId}{k by_:Nat}{zs:List Value}(w:World)(hT:eB P T=some e)(hi:lW P e=some (k,by_,zs))(hr:∀ p∈ps,aA E (ρ p) (a.eval p))(hs:pX k (ps.map ρ)=true)(hn:ps.length*k≤16777216):
 ∃ cells':Array Value,(Instr.buildSlice T ps.length ((lR 0 ps).map fun ip=>(ip.1,a.eval ip.2)).toArray).run P w=.ok (.slice (some ⟨w.heap.size,0,none⟩) ps.length ps.length) (w.alloc (.cells cells' e))∧cells'.size=ps.length*k∧
  ∀ m p,ps[m]?=some p→∀ i u,(a.eval p).cells[i]?=some u→cells'[m*k+i]?=some u:=by
 obtain ⟨i,z,h1,h2,rfl,rfl,rfl⟩:=vK hi
 have hsz:(sizeOf e).run P w=.ok i.size w:=by simp [sizeOf,Sem.run_bind,typeInfo,h1]
 have hzr:(zeroValue e).run P w=.ok z w:=by simp [zeroValue,Sem.run_bind,typeInfo,h1,h2]
 have fin:∀ z0:Array Value,∃ cells':Array Value,Instr.fill (fun j=>some (j*i.size,i.size)) ((Array.range (ps.length*i.size)).map (z0[· % z0.size]!)) (((lR 0 ps).map fun ip=>(ip.1,a.eval ip.2)).toArray.toList)=some cells'∧cells'.size=ps.length*i.size∧
  ∀ m p,ps[m]?=some p→∀ j u,(a.eval p).cells[j]?=some u→cells'[m*i.size+j]?=some u:=fun z0=>by
  obtain ⟨c,g1,g2,g3,g4⟩:=aSA (ρ:=ρ) (k:=i.size) ps 0 ((Array.range (ps.length*i.size)).map (z0[· % z0.size]!)) (by simp) hr hs
  exact ⟨c,by simpa using g1,by simpa using g2,fun m p hp j u hu=>by simpa using g4 m p hp j u hu⟩
 have hlim:¬ ps.length*i.size>2^24:=by omega
 by_cases h0:ps.length*i.size=0
 ·obtain ⟨c,g1,g2,g3⟩:=fin #[]
  refine ⟨c,?_,g2,g3⟩
  simp only [Instr.buildSlice,Sem.run_bind,run_underlying (tR hT),Result.andThen_ok,hsz,if_neg hlim,if_pos h0,Sem.run_pure,g1,aR8]
 ·obtain ⟨c,g1,g2,g3⟩:=fin z.cells
  refine ⟨c,?_,g2,g3⟩
  simp only [Instr.buildSlice,Sem.run_bind,run_underlying (tR hT),Result.andThen_ok,hsz,if_neg hlim,if_neg h0,hzr,Sem.run_pure,g1,aR8]
def gE (l:List Av):Nat→Av:=fun j=>l.getD j .any
theorem aEM {p:Operand}:∀ (ps:List Operand) (j:Nat),p∈ps→∃ i,(i,p)∈lR j ps
 | [],j,h=>by simp at h
 | q::r,j,h=>by
  rcases List.mem_cons.1 h with rfl|h
  ·exact ⟨j,by simp [lR]⟩
  ·obtain ⟨i,hi⟩:=aEM r (j+1) h
   exact ⟨i,by simp [lR,hi]⟩
theorem aEN {k:Nat}:∀ (l:List Av),pX k l=true→∀ y∈l,eQ y k=true
 | z::l,h,y,hy=>by
  simp only [pX,Bool.and_eq_true] at h
  rcases List.mem_cons.1 hy with rfl|hy
  ·exact h.1
  ·exact aEN l h.2 y hy
theorem fO {ps:List Operand}{xs:List Av}{e:TypeId}{k by_ n:Nat}{zs:List Value}(ho:o.op=.buildSlice T n (lR 0 ps).toArray)(hT:eB P T=some e)(hi:lW P e=some (k,by_,zs))(hxs:ps.map ρ=xs)(hs:pX k xs=true)(hn:ps.length=n)(hl:n*k≤16777216)(hm:n≤16777216):OC P o ρ [] (.sl k n (gE xs)) []:=aEP fun E a hG hr=>by
 subst hxs hn
 have hr':∀ p∈ps,aA E (ρ p) (a.eval p):=fun p hp=>hr p (by
  obtain ⟨i,hi⟩:=aEM ps 0 hp
  simp [ho,Op.operands]
  exact ⟨i,hi⟩)
 obtain ⟨cells',h1,h2,h3⟩:=aJU E.w hT hi hr' hs hl
 have hB:Below E.w.heap.size E.w (E.w.alloc (.cells cells' e)):=(Below.refl _ _).alloc (Nat.le_refl _) _
 refine ⟨.slice (some ⟨E.w.heap.size,0,none⟩) ps.length ps.length,E.w.alloc (.cells cells' e),?_,hB,?_⟩
 ·have:((lR 0 ps).toArray.map fun (i,x)=>(i,a.eval x))=((lR 0 ps).map fun ip=>(ip.1,a.eval ip.2)).toArray:=by simp
  simp only [execOp,ho,this,Sem.run_bind,h1,Result.andThen_ok,Sem.run_pure]
 ·unfold aA
  refine ⟨some ⟨E.w.heap.size,0,none⟩,ps.length,rfl,Nat.le_refl _,by unfold maxLen;omega,fun hn=>⟨E.w.heap.size,0,rfl,⟨by simp,fun hb=>?_,fun n hn=>?_⟩,fun j hj=>?_⟩⟩
  ·have:=hG.old _ hb;omega
  ·have:=(hG.lt n _ hn).1;omega
  ·obtain ⟨p,hp⟩:∃ p,ps[j]?=some p:=⟨ps[j],List.getElem?_eq_getElem hj⟩
   have hpm:=List.mem_of_getElem? hp
   have hrow:gE (ps.map ρ) j=ρ p:=by simp [gE,hp]
   obtain ⟨h4,h5,h6⟩:=wP (hr' p hpm) (aEN _ hs _ (List.mem_map.2 ⟨p,hpm,rfl⟩))
   rw [hrow]
   refine ⟨a.eval p,aA.step (Step.grow hG hB) _ _ (hr' p hpm),h4,fun i u hu=>?_⟩
   rw [Nat.zero_add,pG (heap_alloc_new _ _)]
   exact h3 j p hp i u (by simpa using hu)
theorem aC5 {ps:List Operand}{xs:List Av}{e:TypeId}{by_ n:Nat}{zs:List Value}(m:Nat)(ho:o.op=.buildSlice T n (lR 0 ps).toArray)(hT:eB P T=some e)(hi:lW P e=some (1,by_,zs))(hxs:ps.map ρ=xs)(hs:pX 1 xs=true)(hf:xs.all (fun y=>Nat.beq (cL y).length 1)=true)(hn:ps.length=n)(hm:n≤16777216):
 OC P o ρ [(m,.unborn)] (.osl 1 m n) [(m,.live e (xs.flatMap cL))]:=by
 intro E a hG hr hH
 have hu:E.loc m=.unborn:=hH m .unborn (by simp)
 subst hxs hn
 have hr':∀ p∈ps,aA E (ρ p) (a.eval p):=fun p hp=>hr p (by
  obtain ⟨i,hi⟩:=aEM ps 0 hp
  simp [ho,Op.operands]
  exact ⟨i,hi⟩)
 obtain ⟨cells',h1,h2,h3⟩:=aJU E.w hT hi hr' hs (by omega)
 have hB:Below E.w.heap.size E.w (E.w.alloc (.cells cells' e)):=(Below.refl _ _).alloc (Nat.le_refl _) _
 have:((lR 0 ps).toArray.map fun (i,x)=>(i,a.eval x))=((lR 0 ps).map fun ip=>(ip.1,a.eval ip.2)).toArray:=by simp
 unfold eK execOp
 simp only [ho,this,Sem.run_bind,h1,Result.andThen_ok,Sem.run_pure,fM]
 have flat1:∀ (l:List Av),pX 1 l=true→l.flatMap cL=l∨True:=fun _ _=>.inr trivial
 refine aA6 hG hu hB (Nat.le_refl _) (heap_alloc_new _ _) (fun j y hy=>?_) ?_
 ·have idx:∀ (l:List Av),pX 1 l=true→∀ (j:Nat) (y:Av),(l.flatMap cL)[j]?=some y→∃ z,l[j]?=some z∧cL z=[y]:=by
   intro l
   induction l with
   | nil=>intro _ j y h;simp at h
   | cons z l ih=>
    intro h j y hy
    simp only [pX,Bool.and_eq_true] at h
    have hz:(cL z).length=1:=by
     cases z<;>simp_all [eQ,cL]
    obtain ⟨z',hz'⟩:=List.length_eq_one_iff.1 hz
    rw [List.flatMap_cons,hz'] at hy
    cases j with
    | zero=>simp at hy;subst hy;exact ⟨z,rfl,hz'⟩
    | succ j=>simpa using ih h.2 j y (by simpa using hy)
  obtain ⟨z,hz,hzy⟩:=idx _ hs j y hy
  rw [List.getElem?_map] at hz
  cases hp:ps[j]? with
  | none=>simp [hp] at hz
  | some p=>
   simp [hp] at hz
   subst hz
   have hpm:=List.mem_of_getElem? hp
   obtain ⟨h4,h5,h6,h7⟩:=wP (hr' p hpm) (aEN _ hs _ (List.mem_map.2 ⟨p,hpm,rfl⟩))
   obtain ⟨u,h8,h9,h10⟩:=h7 0 y (by rw [hzy];rfl)
   exact ⟨u,by have:=h3 j p hp 0 u h8;simpa using this,h9,h10⟩
 ·unfold aA
  refine ⟨⟨by simp [Env.give],⟨_,_,rfl⟩,fun hn=>by simp [Env.give] at hn⟩,fun b hb=>?_⟩
  simp [Env.give] at hb
  subst hb
  exact ⟨ps.length,cells',e,rfl,Nat.le_refl _,by unfold maxLen;omega,heap_alloc_new _ _,by omega⟩
theorem aGP {e:TypeId}{by_ m:Nat}{z:Value}{k1 k2:IntKind}{l:Int}(n:Nat)(ho:o.op=.makeSlice T p q)(hp:ρ p=.val (.int k1 l))(hq:ρ q=.val (.int k2 l))(hl:l=(m:Int))(hT:eB P T=some e)(hi:lW P e=some (1,by_,[z]))(hz:rU z=true)(hb:by_*m≤281474976710656)(hm:m≤9223372036854775807):
 OC P o ρ [(n,.unborn)] (.osl 1 n m) [(n,.live e (List.replicate m (.val z)))]:=by
 intro E a hG hr hH
 have hu:E.loc n=.unborn:=hH n .unborn (by simp)
 have h1:=hr p (by simp [ho,Op.operands])
 have h2:=hr q (by simp [ho,Op.operands])
 rw [hp] at h1
 rw [hq] at h2
 unfold aA at h1 h2
 subst hl
 obtain ⟨i,z',g1,g2,g3,g4,g5⟩:=vK hi
 have hb':(i.bytes:Int)*(m:Int)≤281474976710656:=by
  have:((i.bytes*m:Nat):Int)≤281474976710656:=by rw [g4];omega
  rwa [Int.natCast_mul] at this
 have hrun:=run_make (P:=P) E.w T e i z' (tR hT) g1 g2 k1 k2 m m (by omega) (Int.le_refl _) hb' (by omega)
 unfold eK execOp
 simp only [ho,h1,h2,Sem.run_bind,hrun,Result.andThen_ok,Sem.run_pure,fM,Int.toNat_natCast,g3,Nat.mul_one]
 have hzc:z'.cells=#[z]:=by rw [←Array.toList_inj];exact g5
 refine aA6 hG hu ((Below.refl _ _).alloc (Nat.le_refl _) _) (Nat.le_refl _) (heap_alloc_new _ _) (fun j y hy=>?_) ?_
 ·rw [List.getElem?_replicate] at hy
  split at hy
  ·rename_i hj
   injection hy with hy
   subst hy
   exact ⟨z,by simp [madeCells,hzc,hj,Nat.mod_one],aA8 hz,by unfold aA;rfl⟩
  ·cases hy
 ·unfold aA
  refine ⟨⟨by simp [Env.give],⟨_,_,rfl⟩,fun hn=>by simp [Env.give] at hn⟩,fun b hb=>?_⟩
  simp [Env.give] at hb
  subst hb
  exact ⟨m,_,e,rfl,Nat.le_refl _,by unfold maxLen;omega,heap_alloc_new _ _,by rw [size_madeCells,Nat.mul_one]⟩
end
section
variable {P:Program}{o:Oper}{x y:Av}{R U:List (Nat × Hs)}{ρ:Operand→Av}{p q:Operand}{T:TypeId}
theorem aMV {E:Env}{k n len:Nat}{t:TypeId}{cs:List Av}{v:Value}(hv:aA E (.osl k n len) v)(hn:dI E n (.live t cs))(hl:cs.length=len*k):
 ∃ xs:List Value,E.w.ownsRow 0 t k v len xs∧aG E cs xs∧(∀ u∈xs,u.oneCell'=true)∧((E.loc n=.nil∧v=.slice none 0 0)∨∃ b,E.loc n=.at b∧v.ownBlock=some b):=by
 unfold aA at hv
 rcases hn with ⟨h1,rfl⟩|⟨b,cur,h1,h2,h3⟩
 ·obtain ⟨rfl,rfl⟩:=hv.1.2.2 h1
  exact ⟨[],⟨by simp,.inl ⟨rfl,rfl⟩⟩,by unfold aG;rfl,by simp,.inl ⟨h1,rfl⟩⟩
 ·obtain ⟨c,cur',t',h4,h5,h6,h7,h8⟩:=hv.2 b h1
  rw [h2] at h7
  injection h7 with h7
  injection h7 with h7 h9
  subst h7;subst h9
  obtain ⟨xs,g1,g2,g3⟩:=wI (E:=E) (cur:=cur) cs 0 fun i y hy=>by simpa using h3 i y hy
  have hle:len*k≤cur.size:=by rw [h8];exact Nat.mul_le_mul_right _ h5
  have hxs:cur.toList.take (len*k)=xs:=by
   apply List.ext_getElem?
   intro i
   rw [List.getElem?_take]
   by_cases hi:i<len*k
   ·rw [if_pos hi]
    have hx:i<xs.length:=by rw [g1.length];omega
    have:=g3 i xs[i] (List.getElem?_eq_getElem hx)
    rw [List.getElem?_eq_getElem hx,←this]
    simp
   ·rw [if_neg hi,List.getElem?_eq_none (by rw [g1.length];omega)]
  exact ⟨xs,⟨by rw [g1.length,hl],.inr ⟨b,c,cur,h4,Nat.zero_le _,h2,h5,h6,h8,hxs⟩⟩,g1,g2,.inr ⟨b,h1,by rw [h4];rfl⟩⟩
theorem aG.stepL {E E':Env}{N:List Nat}(h:Step E E' N){xs:List Av}{vs:List Value}(hr:aG E xs vs):aG E' xs vs:=aG.step h _ _ hr
theorem aG.append {E:Env}:∀ {xs ys:List Av} {us vs:List Value},aG E xs us→aG E ys vs→aG E (xs++ys) (us++vs)
 | [],ys,us,vs,h,k=>by unfold aG at h;subst h;exact k
 | x::xs,ys,us,vs,h,k=>by
  unfold aG at h
  obtain ⟨v,us',rfl,h1,h2⟩:=h
  simp only [List.cons_append]
  unfold aG
  exact ⟨v,_,rfl,h1,h2.append k⟩
theorem aMW {E:Env}(hG:Good E){k n m len':Nat}{t:TypeId}{cs ds:List Av}{v v':Value}{xs ys:List Value}{w':World}(hnm:n≠m)(hm:E.loc m=.unborn)(hn0:E.loc n≠.unborn)(hx:aG E cs xs)(hy:aG E ds ys)(hx1:∀ u∈xs,u.oneCell'=true)(hy1:∀ u∈ys,u.oneCell'=true)
 (hv:(E.loc n=.nil∧v=.slice none 0 0)∨∃ b,E.loc n=.at b∧v.ownBlock=some b) (hown:w'.ownsRow 0 t k v' len' (xs++ys)) (hg:E.w.grownBy w' v.ownBlock) (hb:v'.ownBlock=v.ownBlock∨v'.ownBlock=some E.w.heap.size):
 mZ E (.osl k m len') [(n,.dead),(m,.live t (cs++ds))] v' w':=by
 let L:Loc:=match v'.ownBlock with|some b=>.at b|none=>.nil
 let E':Env:={ w:=w',loc:=fun i=>if i=m then L else if i=n then .dead else E.loc i,bad:=E.bad }
 have hLn:L=.nil↔v'.ownBlock=none:=by
  show (match v'.ownBlock with|some b=>Loc.at b|none=>.nil)=.nil↔_
  cases v'.ownBlock<;>simp
 have hLa:∀ b,L=.at b↔v'.ownBlock=some b:=fun b=>by
  show (match v'.ownBlock with|some b=>Loc.at b|none=>.nil)=.at b↔_
  cases v'.ownBlock<;>simp
 have hem:E'.loc m=L:=by simp [E']
 have hen:E'.loc n=.dead:=by simp [E',hnm]
 have heo:∀ i,i≠m→i≠n→E'.loc i=E.loc i:=fun i h1 h2=>by simp [E',h1,h2]
 have hvb:∀ b,v.ownBlock=some b→E.loc n=.at b:=fun b hb=>by
  rcases hv with ⟨_,rfl⟩|⟨c,h1,h2⟩
  ·simp [Value.ownBlock] at hb
  ·rw [h2] at hb;injection hb with hb;rw [←hb];exact h1
 have hnew:∀ b,L=.at b→E.loc n=.at b∨b=E.w.heap.size:=fun b hL=>by
  rcases hb with h1|h1
  ·exact .inl (hvb b (by rw [←h1];exact (hLa b).1 hL))
  ·have:=(hLa b).1 hL
   rw [h1] at this
   injection this with this
   exact .inr this.symm
 have hS:Step E E' [n,m]:=by
  refine ⟨hg.os,hg.tape,hg.output,hg.size,rfl,fun b hlt hno=>hg.block b hlt fun e=>hno n (hvb b e.symm),fun i hi=>?_,fun i hi=>?_,fun i b hi=>?_,fun i hi=>?_,fun i b cur t0 hi hi' hc=>?_⟩
  ·simp only [List.mem_cons,List.not_mem_nil,or_false,not_or] at hi
   refine ⟨heo i hi.2 hi.1,fun b hb=>hg.block b (hG.lt i b hb).1 fun e=>hi.1 (hG.inj i n b hb (hvb b e.symm))⟩
  ·by_cases h1:i=m
   ·subst h1;exact absurd hm hi
   ·by_cases h2:i=n
    ·subst h2;rw [hen];simp
    ·rw [heo i h1 h2];exact hi
  ·by_cases h1:i=m
   ·subst h1
    rw [hem] at hi
    refine .inr ⟨hm,?_⟩
    rcases hnew b hi with h3|h3
    ·exact .inr ⟨n,h3⟩
    ·exact .inl (by omega)
   ·by_cases h2:i=n
    ·subst h2;rw [hen] at hi;cases hi
    ·rw [heo i h1 h2] at hi;exact .inl hi
  ·by_cases h1:i=m
   ·subst h1;exact .inr hm
   ·by_cases h2:i=n
    ·subst h2;rw [hen] at hi;cases hi
    ·rw [heo i h1 h2] at hi;exact .inl hi
  ·by_cases h1:i=m
   ·subst h1;rw [hm] at hi';cases hi'
   ·by_cases h2:i=n
    ·subst h2;rw [hen] at hi;cases hi
    ·exact ⟨cur,(hg.block b (hG.lt i b hi').1 fun e=>h2 (hG.inj i n b hi' (hvb b e.symm))).trans hc,rfl⟩
 have hform:(v'=.slice none 0 0∧len'=0)∨∃ g cap cur,v'=.slice (some ⟨g,0,none⟩) len' cap∧0≤g∧w'.heap[g]?=some (.cells cur t (0,0))∧len'≤cap∧cap≤maxLen∧cur.size=cap*k∧cur.toList.take (len'*k)=xs++ys:=hown.2
 refine ⟨E',rfl,hS,⟨fun b hbad=>Nat.lt_of_lt_of_le (hG.old b hbad) hg.size,fun i j b hi hj=>?_,fun i b hi=>?_,hG.shp.step hS⟩,?_,fun i z hz=>?_⟩
 ·have key:∀ i,i≠m→E'.loc i=.at b→E'.loc m=.at b→False:=fun i h1 hi hmm=>by
   rw [hem] at hmm
   by_cases h2:i=n
   ·subst h2;rw [hen] at hi;cases hi
   ·rw [heo i h1 h2] at hi
    rcases hnew b hmm with h3|h3
    ·exact h2 (hG.inj i n b hi h3)
    ·have:=(hG.lt i b hi).1;omega
  by_cases h1:i=m
  ·by_cases h2:j=m
   ·rw [h1,h2]
   ·exact (key j h2 hj (h1 ▸ hi)).elim
  ·by_cases h2:j=m
   ·exact (key i h1 hi (h2 ▸ hj)).elim
   ·by_cases h3:i=n
    ·subst h3;rw [hen] at hi;cases hi
    ·by_cases h4:j=n
     ·subst h4;rw [hen] at hj;cases hj
     ·rw [heo i h1 h3] at hi
      rw [heo j h2 h4] at hj
      exact hG.inj i j b hi hj
 ·by_cases h1:i=m
  ·subst h1
   rw [hem] at hi
   have hvb':=(hLa b).1 hi
   rcases hform with ⟨h2,_⟩|⟨g,cap,cur,h2,_,h3,_⟩
   ·rw [h2] at hvb';simp [Value.ownBlock] at hvb'
   ·rw [h2] at hvb'
    simp [Value.ownBlock] at hvb'
    subst hvb'
    refine ⟨(Array.getElem?_eq_some_iff.1 h3).1,fun hbad=>?_⟩
    rcases hnew g hi with h4|h4
    ·exact (hG.lt n g h4).2 hbad
    ·have:=hG.old g hbad;omega
  ·by_cases h2:i=n
   ·subst h2;rw [hen] at hi;cases hi
   ·rw [heo i h1 h2] at hi
    exact ⟨Nat.lt_of_lt_of_le (hG.lt i b hi).1 hg.size,(hG.lt i b hi).2⟩
 ·unfold aA
  rw [hem]
  rcases hform with ⟨h2,h3⟩|⟨g,cap,cur,h2,_,h3,h4,h5,h6,_⟩
  ·have hno:v'.ownBlock=none:=by rw [h2];rfl
   refine ⟨⟨fun h=>?_,⟨none,0,by rw [h2,h3]⟩,fun _=>⟨h2,h3⟩⟩,fun b hL=>?_⟩
   ·rw [hLn.2 hno] at h;cases h
   ·rw [hLn.2 hno] at hL;cases hL
  ·have hso:v'.ownBlock=some g:=by rw [h2];rfl
   have hLg:=(hLa g).2 hso
   refine ⟨⟨fun h=>(by rw [hLg] at h;cases h),⟨_,_,h2⟩,fun h=>(by rw [hLg] at h;cases h)⟩,fun b hL=>?_⟩
   rw [hLg] at hL
   injection hL with hL
   subst hL
   exact ⟨cap,cur,t,h2,h4,h5,h3,h6⟩
 ·have hall:=(aG.append hx hy).stepL hS
  simp only [aL] at hz
  cases h1:Nat.beq n i with
  | true=>
   rw [h1] at hz
   simp at hz
   subst hz
   obtain rfl:=Nat.eq_of_beq_eq_true h1
   exact hen
  | false=>
   rw [h1] at hz
   cases h2:Nat.beq m i with
   | false=>rw [h2] at hz;simp at hz
   | true=>
    rw [h2] at hz
    simp at hz
    subst hz
    obtain rfl:=Nat.eq_of_beq_eq_true h2
    rcases hform with ⟨h3,h4⟩|⟨g,cap,cur,h3,_,h4,h5,h6,h7,h8⟩
    ·have hno:v'.ownBlock=none:=by rw [h3];rfl
     refine .inl ⟨by rw [hem];exact hLn.2 hno,?_⟩
     have hl:=hown.1
     rw [h4,Nat.zero_mul] at hl
     have:=(aG.append hx hy).length
     exact List.eq_nil_of_length_eq_zero (by omega)
    ·have hso:v'.ownBlock=some g:=by rw [h3];rfl
     refine .inr ⟨g,cur,by rw [hem];exact (hLa g).2 hso,h4,fun j z hz=>?_⟩
     obtain ⟨u,h9,h10⟩:=hall.get j z hz
     refine ⟨u,?_,?_,h10⟩
     ·rw [←h8,List.getElem?_take] at h9
      split at h9
      ·simpa using h9
      ·cases h9
     ·rcases List.mem_append.1 (List.mem_of_getElem? h9) with h11|h11
      ·exact hx1 u h11
      ·exact hy1 u h11
theorem afZ {t e ty:TypeId}{w:World}{i:TypeInfo}{z:Value}{k by_:Nat}(hT:P.underlying t=some (.slice e))(hi:P.info? e=some i)(hz:i.zero=some z)(hk:i.size=k)(hby:i.bytes=by_)(hzk:z.cells.size=k)(h0:0<k){v:Value}{n:Nat}{xs:List Value}(hown:w.ownsRow 0 e k v n xs)
 {A:Option Addr} {m c:Nat} {news:List Value} (hl:news.length=m*k) (hA:0<m→∃ b off,A=some ⟨b,off,none⟩∧∀ j u,news[j]?=some u→w.cell? ⟨b,off+j,none⟩=some u) (h1:∀ u∈news,u.oneCell'=true) (hb:(n+m)*by_≤140737488355328) (h63:n+m≤9223372036854775807):
 ∃ v' w',(Builtin.append_ #[t,t] ty #[v,.slice A m c]).run P w=.ok v' w'∧w'.ownsRow 0 e k v' (n+m) (xs++news)∧w.grownBy w' v.ownBlock∧(v'.ownBlock=v.ownBlock∨v'.ownBlock=some w.heap.size):=by
 by_cases hm:m=0
 ·subst hm
  have hn:news=[]:=List.eq_nil_of_length_eq_zero (by simpa using hl)
  subst hn
  refine ⟨v,w,?_,by simpa using hown,World.grownBy.refl w _,.inl rfl⟩
  rcases A with _|ad
  ·rcases hown.2 with ⟨rfl,_⟩|⟨g,cap,cur,rfl,_,_,hnc,_⟩
   ·simp [Builtin.append_,run_underlying hT,sizeOf,typeInfo,hi,Builtin.lenOf,Builtin.firstCells]
   ·simp [Builtin.append_,run_underlying hT,sizeOf,typeInfo,hi,Builtin.lenOf,Builtin.firstCells,hnc,storeCells]
  ·have hf:∀ s:Nat,(Builtin.firstCells s 0 (.slice (some ad) 0 c)).run P w=.ok #[] w:=fun s=>by
    have:=run_firstCells_some (P:=P) w s 0 ad 0 c [] (by simp) (by simp)
    simpa using this
   have hn:∀ s:Nat,(Builtin.firstCells s 0 (.slice none 0 0)).run P w=.ok #[] w:=fun s=>run_firstCells_none w s 0 0 0
   rcases hown.2 with ⟨rfl,_⟩|⟨g,cap,cur,rfl,_,_,hnc,_⟩
   ·simp [Builtin.append_,run_underlying hT,sizeOf,typeInfo,hi,Builtin.lenOf,hf]
   ·simp [Builtin.append_,run_underlying hT,sizeOf,typeInfo,hi,Builtin.lenOf,hf,hnc,storeCells]
 ·obtain ⟨b,off,rfl,hc⟩:=hA (by omega)
  obtain ⟨v',w',r,h2,h3,_,h5⟩:=run_append_own_at (P:=P) w 0 t ty e i z k by_ hT hi hz hk hby hzk h0 v n xs hown ⟨b,off,none⟩ m c news hl
   (fun j u hu=>by rw [Addr.add_lit];exact hc j u hu) h1 (by simp only [maxLen];omega) hb (Nat.zero_le _)
  exact ⟨v',w',r,h2,h3,h5⟩
theorem af0 {t:TypeId}{a:Act}{w:World}(ho:o.op=.call { callee:=.builtin .append,args:=#[p,q],argTypes:=#[t,t] }){v':Value}{w':World}(hrun:(Builtin.append_ #[t,t] o.type #[a.eval p,a.eval q]).run P w=.ok v' w'):(execOp a.eval o).run P w=.ok (.value v') w':=by
 unfold execOp
 simp only [ho,resolve,invoke,builtin,Sem.run_bind,Sem.run_pure,Result.andThen_ok,List.map_toArray,List.map_cons,List.map_nil,hrun]
theorem iG {e:TypeId}{k by_ n len l:Nat}{row:Nat→Av}{cs ds:List Av}{zs:List Value}(m:Nat)(ho:o.op=.call { callee:=.builtin .append,args:=#[p,q],argTypes:=#[T,T] })(hp:ρ p=.osl k n len)(hq:ρ q=.sl k l row)(hT:eB P T=some e)(hi:lW P e=some (k,by_,zs))(hzl:zs.length=k)(h0:0<k)(hnm:n≠m)(hl:cs.length=len*k)
 (hds:ds.length=l*k) (hrow:∀ j,j<l→eQ (row j) k=true∧∀ i y,i<k→ds[j*k+i]?=some y→(cL (row j))[i]?=some y) (hb:(len+l)*by_≤140737488355328) (h63:len+l≤9223372036854775807):OC P o ρ [(n,.live e cs),(m,.unborn)] (.osl k m (len+l)) [(n,.dead),(m,.live e (cs++ds))]:=by
 intro E a hG hr hH
 have h1:=hr p (by simp [ho,Op.operands,Call.operands])
 have h2:=hr q (by simp [ho,Op.operands,Call.operands])
 rw [hp] at h1
 rw [hq] at h2
 have hn:=hH n (.live e cs) (by simp)
 have hu:E.loc m=.unborn:=hH m .unborn (by simp)
 obtain ⟨xs,g1,g2,g3,g4⟩:=aMV h1 hn hl
 obtain ⟨i,z,i1,i2,i3,i4,i5⟩:=vK hi
 unfold aA at h2
 obtain ⟨A,c,h3,h4,h5,h6⟩:=h2
 obtain ⟨ys,y1,y2,y3⟩:∃ ys:List Value,aG E ds ys∧(∀ u∈ys,u.oneCell'=true)∧(0<l→∃ b off,A=some ⟨b,off,none⟩∧∀ j u,ys[j]?=some u→E.w.cell? ⟨b,off+j,none⟩=some u):=by
  by_cases hl0:l=0
  ·subst hl0
   have:ds=[]:=List.eq_nil_of_length_eq_zero (by simpa using hds)
   subst this
   exact ⟨[],by unfold aG;rfl,by simp,fun h=>by omega⟩
  ·obtain ⟨b,off,hA,hok,hel⟩:=h6 (by omega)
   have cell:∀ (j:Nat) (y:Av),ds[j]?=some y→∃ u,E.w.cell? ⟨b,off+j,none⟩=some u∧u.oneCell'=true∧aA E y u:=fun j y hy=>by
    have hj:=(List.getElem?_eq_some_iff.1 hy).1
    have hjl:j/k<l:=by rw [Nat.div_lt_iff_lt_mul h0];omega
    have hji:j%k<k:=Nat.mod_lt _ h0
    have hjj:j/k*k+j%k=j:=by rw [Nat.mul_comm];exact Nat.div_add_mod j k
    obtain ⟨hs,hf⟩:=hrow (j/k) hjl
    have hfy:=hf (j%k) y hji (by rw [hjj];exact hy)
    obtain ⟨u,h8,h9,h10⟩:=hel (j/k) hjl
    obtain ⟨_,_,_,h11⟩:=wP h8 hs
    obtain ⟨u',h12,h13,h14⟩:=h11 _ y hfy
    refine ⟨u',?_,h13,h14⟩
    have:=h10 (j%k) u' (by simpa using h12)
    rwa [Nat.add_assoc,hjj] at this
   have build:∀ (ds:List Av) (s:Nat),(∀ (j:Nat) (y:Av),ds[j]?=some y→∃ u,E.w.cell? ⟨b,off+(s+j),none⟩=some u∧u.oneCell'=true∧aA E y u)→∃ ys:List Value,aG E ds ys∧(∀ u∈ys,u.oneCell'=true)∧∀ j u,ys[j]?=some u→E.w.cell? ⟨b,off+(s+j),none⟩=some u:=by
    intro ds
    induction ds with
    | nil=>intro s _;exact ⟨[],by unfold aG;rfl,by simp,by simp⟩
    | cons d ds ih=>
     intro s hh
     obtain ⟨u,k1,k2,k3⟩:=hh 0 d rfl
     obtain ⟨ys,k4,k5,k6⟩:=ih (s+1) fun j y hy=>by have:=hh (j+1) y (by simpa using hy);rwa [show s+1+j=s+(j+1) from by omega]
     refine ⟨u::ys,by unfold aG;exact ⟨u,ys,rfl,k3,k4⟩,fun v hv=>?_,fun j v hv=>?_⟩
     ·rcases List.mem_cons.1 hv with rfl|hv
      ·exact k2
      ·exact k5 v hv
     ·cases j with
      | zero=>simp at hv;subst hv;exact k1
      | succ j=>have:=k6 j v (by simpa using hv);rwa [show s+1+j=s+(j+1) from by omega] at this
   obtain ⟨ys,k1,k2,k3⟩:=build ds 0 fun j y hy=>by simpa using cell j y hy
   exact ⟨ys,k1,k2,fun _=>⟨b,off,hA,fun j u hu=>by simpa using k3 j u hu⟩⟩
 obtain ⟨v',w',r1,r2,r3,r4⟩:=afZ (ty:=o.type) (c:=c) (tR hT) i1 i2 i3 i4 (by rw [←hzl,←i5];simp) h0 g1 (by rw [y1.length,hds]) y3 y2 hb h63
 unfold eK
 rw [af0 ho (by rw [h3];exact r1)]
 have hn0:E.loc n≠.unborn:=by unfold aA at h1;exact h1.1.1
 exact aMW hG hnm hu hn0 g2 y1 g3 y2 g4 r2 r3 r4
theorem aCM {l:Nat}{row:Nat→Av}{ds:List Av}(h:∀ j y,ds[j]?=some y→y=row j)(hs:∀ j,j<l→eQ (row j) 1=true∧cL (row j)=[row j]):∀ j,j<l→eQ (row j) 1=true∧∀ i y,i<1→ds[j*1+i]?=some y→(cL (row j))[i]?=some y:=fun j hj=>by
 obtain ⟨h1,h2⟩:=hs j hj
 refine ⟨h1,fun i y hi hy=>?_⟩
 obtain rfl:i=0:=by omega
 rw [h2]
 simp at hy
 rw [h j y hy]
 rfl
end
end Go.Proofs.YtnklgkjfoggpbaaGreatDoor
