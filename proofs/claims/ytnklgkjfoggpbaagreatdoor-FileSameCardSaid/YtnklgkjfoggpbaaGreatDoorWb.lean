/- Parts of the proof of a law of this seat: rules and contracts; no conditions. -/
import Derived.Test.YtnklgkjfoggpbaaGreatDoorWireSpec
import Derived.Laws.StructEq
import Derived.ChangeKeysEq
import Derived.Test.YtnklgkjfoggpbaaGreatDoorLt
import Derived.Test.YtnklgkjfoggpbaaGreatDoorProg
import Derived.KernelRfl
set_option maxHeartbeats 6400000
set_option maxRecDepth 100000
set_option linter.unusedVariables false
set_option linter.unusedSimpArgs false
namespace Go.Proofs.YtnklgkjfoggpbaaGreatDoor
open Go.RowKit
def aFM (P:Program):Nat→List Field→Bool
 | _,[]=>true
 | i, f :: fs => f.name != "_" && f.offset == i && jK P f.type == some false && (wQ P f.type).isSome && aFM P (i + 1) fs
theorem aUV {P:Program}(w:World)(d:Nat)(xs ys:Array Value):∀ (fs:List Field) (i:Nat) (us ws:List Int),aFM P i fs=true→us.length=fs.length→ws.length=fs.length→
 (∀ j,j<us.length→xs[i+j]?=some (.int .i64 (us.getD j 0)))→(∀ j,j<ws.length→ys[i+j]?=some (.int .i64 (ws.getD j 0)))→(Op.eqFields (d+1) xs ys fs).run P w=.ok (us==ws) w
 | [],i,us,ws,h,ha,hb,hx,hy=>by
  rw [List.eq_nil_of_length_eq_zero ha,List.eq_nil_of_length_eq_zero hb]
  rfl
 | f::fs,i,[],ws,h,ha,hb,hx,hy=>by cases ha
 | f::fs,i,a::us,[],h,ha,hb,hx,hy=>by cases hb
 | f::fs,i,a::us,b::ws,h,ha,hb,hx,hy=>by
  simp only [aFM,Bool.and_eq_true,bne_iff_ne,beq_iff_eq] at h
  obtain ⟨⟨⟨⟨h1,h2⟩,h3⟩,h4⟩,h5⟩:=h
  obtain ⟨k,hk⟩:=Option.isSome_iff_exists.1 h4
  have hr:=aEA h3 w
  have ih:=aUV w d xs ys fs (i+1) us ws h5 (by simpa using ha) (by simpa using hb) (fun j hj=>by have:=hx (j+1) (by simp;omega);rw [show i+(j+1)=i+1+j by omega] at this;simpa using this) (fun j hj=>by have:=hy (j+1) (by simp;omega);rw [show i+(j+1)=i+1+j by omega] at this;simpa using this)
  have hx0:=hx 0 (by simp)
  have hy0:=hy 0 (by simp)
  simp only [Nat.add_zero,List.getD_cons_zero] at hx0 hy0
  rw [←h2] at hx0 hy0
  have px:(part f.type xs f.offset).run P w=.ok (.int .i64 a) w:=by simp [part,Sem.run_bind,hr,hx0]
  have py:(part f.type ys f.offset).run P w=.ok (.int .i64 b) w:=by simp [part,Sem.run_bind,hr,hy0]
  simp only [Op.eqFields,h1,ne_eq,not_false_eq_true,if_true,Sem.run_bind,px,py,Result.andThen_ok,run_equalIn_int w d f.type .i64 k a b (aER hk)]
  by_cases hab:a=b
  ·subst hab
   simp [Sem.run_ite,ih]
  ·simp [hab]
def aBO (P:Program)(T:TypeId)(n:Nat):Bool:=(match P.underlying T with|some (.struct fs)=>fs.toList.length==n&&aFM P 0 fs.toList|_=>false)&&!P.stoodInHeld T&&!P.eqGuardType P.depth T
theorem alU {P:Program}{T:TypeId}{us ws:List Int}(w:World)(h:aBO P T us.length=true)(hl:ws.length=us.length):(Op.equalIn 10000 T (.agg (us.map (Value.int .i64)).toArray) (.agg (ws.map (Value.int .i64)).toArray)).run P w=.ok (us==ws) w:=by
 unfold aBO at h
 simp only [Bool.and_eq_true,Bool.not_eq_true'] at h
 obtain ⟨⟨h1,h2⟩,h3⟩:=h
 split at h1
 ·rename_i fs hu
  simp only [Bool.and_eq_true,beq_iff_eq] at h1
  obtain ⟨h4,h5⟩:=h1
  have hf:P.fieldsOf T=fs:=by unfold Program.fieldsOf;rw [hu]
  rw [run_equalIn_struct w 9999 _ _ _ (by rw [hf];exact hu) h2,hf]
  exact aUV w 9998 _ _ fs.toList 0 us ws h5 h4.symm (by omega) (fun j hj=>by simp [List.getD,hj]) (fun j hj=>by simp [List.getD,hj])
 ·cases h1
theorem alV {P:Program}{T:TypeId}{n:Nat}(h:aBO P T n=true):P.eqGuardType P.depth T=false:=by
 unfold aBO at h
 simp only [Bool.and_eq_true,Bool.not_eq_true'] at h
 exact h.2
theorem aUW {P:Program}(w:World)(d:Nat)(e:TypeId){k:IntKind}(hr:jK P e=some false)(hk:wQ P e=some k)(xs ys:Array Value):∀ (us ws:List Int) (i:Nat),ws.length=us.length→
 (∀ j,j<us.length→xs[i+j]?=some (.int .i64 (us.getD j 0)))→(∀ j,j<ws.length→ys[i+j]?=some (.int .i64 (ws.getD j 0)))→(Op.eqItems (d+1) e 1 xs ys (List.range' i us.length)).run P w=.ok (us==ws) w
 | [],ws,i,hl,hx,hy=>by
  rw [List.eq_nil_of_length_eq_zero hl]
  rfl
 | a::us,[],i,hl,hx,hy=>by cases hl
 | a::us,b::ws,i,hl,hx,hy=>by
  have hr':=aEA hr w
  have ih:=aUW w d e hr hk xs ys us ws (i+1) (by simpa using hl) (fun j hj=>by have:=hx (j+1) (by simp;omega);rw [show i+(j+1)=i+1+j by omega] at this;simpa using this) (fun j hj=>by have:=hy (j+1) (by simp;omega);rw [show i+(j+1)=i+1+j by omega] at this;simpa using this)
  have hx0:=hx 0 (by simp)
  have hy0:=hy 0 (by simp)
  simp only [Nat.add_zero,List.getD_cons_zero] at hx0 hy0
  have px:(part e xs (i*1)).run P w=.ok (.int .i64 a) w:=by simp [part,Sem.run_bind,hr',hx0]
  have py:(part e ys (i*1)).run P w=.ok (.int .i64 b) w:=by simp [part,Sem.run_bind,hr',hy0]
  rw [List.length_cons,List.range'_succ]
  simp only [Op.eqItems,Sem.run_bind,px,py,Result.andThen_ok,run_equalIn_int w d e .i64 k a b (aER hk)]
  by_cases hab:a=b
  ·subst hab
   simp [Sem.run_ite,ih]
  ·simp [hab]
def aBP (P:Program)(T:TypeId)(n:Nat):Bool:=(match P.underlying T with|some (.array m e)=>m==n&&jK P e==some false&&(wQ P e).isSome&&(P.info? e).isSome&&P.cellsOf e==1|_=>false)&&!P.eqGuardType P.depth T
theorem alW {P:Program}{T:TypeId}{us ws:List Int}(w:World)(h:aBP P T us.length=true)(hl:ws.length=us.length):(Op.equalIn 10000 T (.agg (us.map (Value.int .i64)).toArray) (.agg (ws.map (Value.int .i64)).toArray)).run P w=.ok (us==ws) w:=by
 unfold aBP at h
 simp only [Bool.and_eq_true,Bool.not_eq_true'] at h
 obtain ⟨h1,h3⟩:=h
 split at h1
 ·rename_i m e hu
  simp only [Bool.and_eq_true,beq_iff_eq] at h1
  obtain ⟨⟨⟨⟨h4,h5⟩,h6⟩,h7⟩,h8⟩:=h1
  obtain ⟨k,hk⟩:=Option.isSome_iff_exists.1 h6
  obtain ⟨i,hi⟩:=Option.isSome_iff_exists.1 h7
  subst h4
  rw [run_equalIn_array w 9999 _ _ hu hi,h8,List.range_eq_range']
  exact aUW w 9998 e h5 hk _ _ us ws 0 hl (fun j hj=>by simp [List.getD,hj]) (fun j hj=>by simp [List.getD,hj])
 ·cases h1
theorem alX {P:Program}{T:TypeId}{n:Nat}(h:aBP P T n=true):P.eqGuardType P.depth T=false:=by
 unfold aBP at h
 simp only [Bool.and_eq_true,Bool.not_eq_true'] at h
 exact h.2
theorem aUX {E:Env}:∀ {us:List Int} {l:List Value},aG E (us.map vi) l→l=us.map (Value.int .i64)
 | [],l,h=>by unfold aG at h;exact h
 | u::us,l,h=>by
  simp only [List.map_cons] at h
  unfold aG at h
  obtain ⟨v,r,rfl,h1,h2⟩:=h
  unfold aA at h1
  subst h1
  rw [aUX h2]
  rfl
theorem aFN {E:Env}{us:List Int}{v:Value}(h:aA E (.agg (us.map vi)) v):v=.agg (us.map (Value.int .i64)).toArray:=by
 unfold aA at h
 obtain ⟨l,rfl,h1,_⟩:=h
 rw [aUX h1]
section
variable {P:Program}{o:Oper}{ρ:Operand→Av}{p q:Operand}{T T':TypeId}
theorem aC8 (us ws:List Int)(ho:o.op=.binOp .neq T p q T')(hp:ρ p=.agg (us.map vi))(hq:ρ q=.agg (ws.map vi))(hT:aBO P T us.length=true)(hl:ws.length=us.length):OC P o ρ [] (vb (!(us==ws))) []:=bZ fun E c hG hr _=>by
 have h1:=hr p (by simp [ho,Op.operands])
 have h2:=hr q (by simp [ho,Op.operands])
 rw [hp] at h1
 rw [hq] at h2
 have hg:=run_eqGuard_agg (P:=P) E.w .neq T p q (us.map (Value.int .i64)).toArray (ws.map (Value.int .i64)).toArray (alV hT)
 refine ⟨.bool (!(us==ws)),?_,by unfold aA;rfl⟩
 unfold execOp
 simp only [ho,aFN h1,aFN h2,Sem.run_bind,hg,Result.andThen_ok,run_neq_struct,alU E.w hT hl,Sem.run_pure]
theorem aO6 (us ws:List Int)(ho:o.op=.binOp .eql T p q T')(hp:ρ p=.agg (us.map vi))(hq:ρ q=.agg (ws.map vi))(hT:aBP P T us.length=true)(hl:ws.length=us.length):OC P o ρ [] (vb (us==ws)) []:=bZ fun E c hG hr _=>by
 have h1:=hr p (by simp [ho,Op.operands])
 have h2:=hr q (by simp [ho,Op.operands])
 rw [hp] at h1
 rw [hq] at h2
 have hg:=run_eqGuard_agg (P:=P) E.w .eql T p q (us.map (Value.int .i64)).toArray (ws.map (Value.int .i64)).toArray (alX hT)
 refine ⟨.bool (us==ws),?_,by unfold aA;rfl⟩
 unfold execOp
 simp only [ho,aFN h1,aFN h2,Sem.run_bind,hg,Result.andThen_ok,run_eql_struct,alW E.w hT hl,Sem.run_pure]
end
theorem aUY {α:Type}(d:α)(l:List α)(p:α→Bool):(List.range l.length).all (fun i=>p (l.getD i d))=l.all p:=by
 rw [Bool.eq_iff_iff,List.all_eq_true,List.all_eq_true]
 constructor
 ·intro H x hx
  obtain ⟨i,hi,rfl⟩:=List.getElem_of_mem hx
  have:=H i (List.mem_range.2 hi)
  simpa [hi] using this
 ·intro H i hi
  have hi':i<l.length:=List.mem_range.1 hi
  have:=H l[i] (List.getElem_mem hi')
  simpa [hi'] using this
theorem yZ {α:Type}{d:α}{l:List α}{p:α→Bool}(h:∀ j,j<l.length→p (l.getD j d)=true):l.all p=true:=by rw [←aUY d];exact sP h
theorem zA {α:Type}{d:α}{l:List α}{p:α→Bool}{k:Nat}(hk:k<l.length)(h:p (l.getD k d)=false):l.all p=false:=by rw [←aUY d];exact nD (p:=fun i=>p (l.getD i d)) hk h
theorem pR {α:Type}{d:α}{l:List α}{k:Nat}(h:k<l.length):l.getD k d∈l:=by simp [h]
def SW (l:List ByteArray):Prop:=∀ s∈l,s.size≤9223372036854775807
def SlotP.wf (x:SlotP):Prop:=SW x.words
def ThingP.wf (x:ThingP):Prop:=SW x.words∧SW x.adjs
def VerbP.wf (x:VerbP):Prop:=∀ l∈x.lines,∀ y∈l,SlotP.wf y
structure TabP.wf (t:TabP):Prop where
 texts:SW t.texts
 things:∀ x∈t.things,x.wf
 acts:∀ x∈t.acts,x.wf
def wV (l:List ByteArray)(most:Int):Bool:=decide ((l.length:Int)≤most)&&l.all aE3
def aAM (t:TabP):Bool:=decide ((t.texts.length:Int)≤4096)&&t.texts.all qN&&wW t t.title&&wW t t.by_&&among t.release 0 32767&&among t.max 0 32767&&among t.flags 4 16&&decide ((t.props.length:Int)≤16)&&decide ((t.globals.length:Int)≤64)&&t.props.all pW&&t.globals.all pW
def aBI (t:TabP):Bool:=((t.params.length:Int) !=t.locals.length)||decide ((t.params.length:Int)>2048)
def uW (t:TabP)(k:Nat):Bool:=!among (t.params.getD k 0) 0 8||!among (t.locals.getD k 0) (t.params.getD k 0) 24
def yP (t:TabP):Bool:=!aBI t&&(List.range t.params.length).all fun k=>!uW t k
def ThingP.sum (x:ThingP):Int:=IntKind.i64.wrap (IntKind.i64.wrap ((x.words.length:Int)+x.adjs.length)+x.ways.length)
def aE6 (x:ThingP):Bool:=x.title==0&&x.text==-1&&x.parent==0&&x.flags==0&&!x.room&&x.props.all (fun z=>z==0)&&x.sum==0
def qS (l:List WayP):Nat→Int
 | 0=>0
 | k+1=>(l.getD k dD).dir
def uV (t:TabP)(last:Int)(y:WayP):Bool:=decide (y.dir≤last)||decide (y.dir>12)||!aBH t y.goal||(y.cond !=-1&&!tG t y.cond)||(y.els !=-1&&!wW t y.els)
def yO (t:TabP)(l:List WayP):Bool:=(List.range l.length).all fun k=>!uV t (qS l k) (l.getD k dD)
def aE5 (t:TabP)(x:ThingP):Bool:=!wW t x.title||(x.text !=-1&&!wW t x.text)||decide (x.flags<0)||decide (x.flags≥IntKind.i64.wrap (1*2^(min t.flags.toNat IntKind.i64.bits)))||!x.props.all pW||!wV x.words 8||!wV x.adjs 8
def sA (t:TabP)(x:ThingP):Bool:=!aE5 t x&&(bif x.room then x.parent==0&&yO t x.ways else ((x.ways.length:Int)==0&&(x.parent==0||qV t x.parent)))
def nZ (f:Int→Int):Nat→Int→Int
 | 0,_=>0
 | m+1,n=>if f n=0 then n else nZ f m (f n)
def qW (t:TabP)(n:Int):Int:=(t.at_ n).parent
def vD (f:Int→Int):Nat→Int→Int
 | 0,n=>n
 | k+1,n=>f (vD f k n)
theorem aUZ {f:Int→Int}{M k:Nat}{n:Int}(hk:k<M)(h:nZ f M n=nZ f (M-k) (vD f k n)):nZ f M n=if f (vD f k n)=0 then vD f k n else nZ f (M-(k+1)) (vD f (k+1) n):=by
 rw [h,show M-k=(M-(k+1))+1 from by omega]
 rfl
def sB (t:TabP)(k:Nat):Bool:=(((t.things.getD k cY).props.length:Int) !=t.props.length)||(decide ((k:Int)>0)&&!sA t (t.things.getD k cY))
def aBJ (t:TabP):Bool:=!among t.things.length 3 128||!aE6 (t.things.getD 0 cY)
def wX (t:TabP):Bool:=!aBJ t&&((List.range t.things.length).all fun k=>!sB t k)&&((List.range t.things.length).all fun k=>decide (k=0)||nZ (qW t) t.things.length k !=0)&&(!(t.things.getD 1 cY).room&&aBH t (nZ (qW t) t.things.length 1))
def fT (l:List SlotP)(k:Nat):Bool:=bif (l.getD k cH).kind==1 then ((l.getD k cH).words.length:Int)==0||!wV (l.getD k cH).words 4 else !among (l.getD k cH).kind 2 5||(decide (((l.getD k cH).words.length:Int)>0)||((k:Int)==0&&(l.getD k cH).kind !=5))
def pQ (p:Int→Bool)(l:List SlotP)(k:Nat):Int:=((l.take k).countP fun s=>p s.kind:Nat)
def oT (k:Int):Bool:=k==2||k==3
def pP (l:List SlotP):Bool:=((List.range l.length).all fun k=>!fT l k)&&(among l.length 1 8&&decide (pQ oT l l.length≤2)&&decide (pQ (fun k=>k==4) l l.length≤1)&&decide (pQ (fun k=>k==5) l l.length≤1))
def aBK (t:TabP)(n:Int):Bool:=n==-1||qV t n
def aD0 (v:VerbP):Bool:=among v.lines.length 1 8&&v.lines.all pP
def aD2 (t:TabP)(d:DeedP):Bool:=among d.verb 0 ((t.acts.length:Int)-1)&&among d.phase 1 3&&aBK t d.noun&&aBK t d.second&&(d.cond==-1||tG t d.cond)&&tG t d.body
def aD1 (t:TabP):Bool:=!aAM t||!yP t||!wX t||decide ((t.acts.length:Int)>64)||decide ((t.deeds.length:Int)>512)||decide ((t.funcs.length:Int)>64)||decide ((t.daemons.length:Int)>16)
def iL (t:TabP):Bool:=!aD1 t&&(t.acts.all aD0&&t.deeds.all (aD2 t)&&t.funcs.all (fun n=>among n 0 ((t.params.length:Int)-1))&&t.daemons.all (tG t))
theorem alY {t:TabP}{x:ThingP}(h:sA t x=true):x.parent=0∨qV t x.parent=true:=by
 unfold sA at h
 rw [Bool.and_eq_true] at h
 have h2:=h.2
 cases hr:x.room<;>simp [hr] at h2
 ·exact h2.2
 ·exact .inl h2.1
def Led (t:TabP):Prop:=∀ k,k<t.things.length→0<k→sA t (t.things.getD k cY)=true
theorem aU0 {t:TabP}(h:Led t){n:Int}(hn:qV t n=true):qW t n=0∨qV t (qW t n)=true:=by
 have h1:=gH.1 (show among n 1 _=true from hn)
 have h2:=h n.toNat (by omega) (by omega)
 exact alY h2
theorem alZ {t:TabP}(h:∀ j,j<t.things.length→(!sB t j)=true):Led t:=fun k hk h0=>by
 have h1:=h k hk
 unfold sB at h1
 simp only [Bool.not_or,Bool.and_eq_true,Bool.not_eq_true',Bool.and_eq_false_iff,decide_eq_false_iff_not] at h1
 rcases h1.2 with h2|h2
 ·omega
 ·simpa using h2
theorem aQH {l:List SlotP}{k:Nat}(h:(l.getD k cH).kind=1):fT l k=(((l.getD k cH).words.length:Int)==0||!wV (l.getD k cH).words 4):=by
 unfold fT
 rw [h]
 rfl
theorem uL {l:List SlotP}{k:Nat}{n:Int}(h:(l.getD k cH).kind=n)(h1:n≠1)(h2:among n 2 5=true):fT l k=(decide (((l.getD k cH).words.length:Int)>0)||((k:Int)==0&&(l.getD k cH).kind !=5)):=by
 unfold fT
 have:((l.getD k cH).kind==1)=false:=by rw [h];simpa using h1
 rw [this,cond_false,h,h2,Bool.not_true,Bool.false_or]
theorem acW {l:List SlotP}{k:Nat}(h1:(l.getD k cH).kind≠1)(h2:among (l.getD k cH).kind 2 5=false):fT l k=true:=by
 unfold fT
 have:((l.getD k cH).kind==1)=false:=by simpa using h1
 rw [this,cond_false,h2]
 rfl
theorem aIV (p:Int→Bool)(l:List SlotP)(k:Nat):0≤pQ p l k∧pQ p l k≤k:=by
 unfold pQ
 have h1:=List.countP_le_length (p:=fun s:SlotP=>p s.kind) (l:=l.take k)
 have h2:(l.take k).length≤k:=by rw [List.length_take];omega
 omega
theorem mU (p:Int→Bool){l:List SlotP}{k:Nat}(h:k<l.length):pQ p l (k+1)=pQ p l k+(if p (l.getD k cH).kind=true then 1 else 0):=by
 unfold pQ
 have e:l.take (k+1)=l.take k++[l.getD k cH]:=by rw [List.take_add_one];simp [h]
 rw [e,List.countP_append]
 cases hp:p (l.getD k cH).kind<;>simp_all
end Go.Proofs.YtnklgkjfoggpbaaGreatDoor
namespace Go.Proofs.YtnklgkjfoggpbaaGreatDoor
open Go.RowKit
theorem nO (n lo hi:Int):PC Tryz.prog 36 [vi n,vi lo,vi hi] (vb (among n lo hi)):=by
 refine FC.body 6 15 Tryz.func36 rfl (by kernel_rfl) ?_
 refine W ?_
 exact ⟨.inl rfl,aF.tmp rfl rfl,trivial⟩
theorem al0 (n:Int):PC Tryz.prog 157 [vi n] (vb (n==0)):=by
 refine FC.body 6 5 Tryz.func157 rfl (by kernel_rfl) ?_
 refine W ?_
 exact ⟨.inl rfl,aF.tmp rfl rfl,trivial⟩
theorem al1 (n:Int):PC Tryz.prog 186 [.val (.int .u8 n)] (vb (tL n)):=by
 refine FC.body 6 9 Tryz.func186 rfl (by kernel_rfl) ?_
 refine W ?_
 exact ⟨.inl rfl,aF.tmp rfl rfl,trivial⟩
theorem al2 (n:Int):PC Tryz.prog 187 [.val (.int .u8 n)] (vb (tM n)):=by
 refine FC.body 6 9 Tryz.func187 rfl (by kernel_rfl) ?_
 refine W ?_
 exact ⟨.inl rfl,aF.tmp rfl rfl,trivial⟩
theorem aU1 (n:Int):PC Tryz.prog 87 [.val (.int .u8 n)] (vb (uJ n)):=by
 refine FC.body 6 13 Tryz.func87 rfl (by kernel_rfl) ?_
 refine W ?_
 exact ⟨.inl rfl,aF.tmp rfl rfl,trivial⟩
theorem aU2 (n:Int):PC Tryz.prog 185 [.val (.int .u8 n)] (vb (tL n||tM n)):=by
 refine FC.body 6 9 Tryz.func185 rfl (by kernel_rfl) ?_
 refine W ?_
 refine Z1 (ca (al1 _)) ?_
 refine W ?_
 refine Z4 (fun hC=>ca (al2 _)) ?_
 refine W ?_
 exact ⟨.inl rfl,aF.tmp rfl rfl,trivial⟩
theorem aLR (n:Int):PC Tryz.prog 96 [vi n] (vb (pW n)):=by
 refine FC.body 6 8 Tryz.func96 rfl (by kernel_rfl) ?_
 refine W ?_
 refine Z1 (mH (k:=.i64) .i16 rfl rfl (by kernel_rfl) (by kernel_rfl)) ?_
 refine Z1 (mH (k:=.i16) .i64 rfl rfl (by kernel_rfl) (by kernel_rfl)) ?_
 refine W ?_
 exact ⟨.inl rfl,aF.tmp rfl (bP (aUR n)),trivial⟩
theorem aFO (t:TabP)(n:Int):PC Tryz.prog 41 [bR t,vi n] (vb (tG t n)):=by
 refine FC.body 6 19 Tryz.func41 rfl (by kernel_rfl) ?_
 refine dM (t:=0) (x:=bR t) rfl (qO t) fun hf=>?_
 have hf1:=hf.params
 have hf2:=hf.texts
 have hf3:=hf.things
 have hf4:=hf.acts
 refine W ?_
 refine Z1 (ca (nO _ _ _)) ?_
 refine W ?_
 refine aW (R:=[]) rfl rfl rfl cA (fun hC=>by
  have h1:=gH.1 hC
  exact (by first|exact rJ rfl rfl rfl (by kernel_rfl) (by omega)|exact mM rfl rfl rfl (by kernel_rfl) (by omega) (by omega) rfl)) (fun hC=>⟨(by first|rfl|exact hC|(simp only [Bool.and_eq_true] at hC;first|exact hC.1|exact hC.1.1|exact hC.2)|simp_all),(by first|rfl|exact hC|(simp only [Bool.and_eq_true] at hC;first|exact hC.1|exact hC.1.1|exact hC.2)|simp_all),trivial⟩) trivial ?_
 refine W ?_
 exact ⟨.inl rfl,aF.tmp rfl rfl,trivial⟩
theorem aBQ (t:TabP)(n:Int):PC Tryz.prog 95 [bR t,vi n] (vb (wW t n)):=by
 refine FC.body 6 11 Tryz.func95 rfl (by kernel_rfl) ?_
 refine dM (t:=0) (x:=bR t) rfl (qO t) fun hf=>?_
 have hf1:=hf.params
 have hf2:=hf.texts
 have hf3:=hf.things
 have hf4:=hf.acts
 refine W ?_
 refine Z1 (ca (nO _ _ _)) ?_
 refine W ?_
 exact ⟨.inl rfl,aF.tmp rfl rfl,trivial⟩
theorem aLS (t:TabP)(n:Int):PC Tryz.prog 33 [bR t,vi n] (vb (qV t n)):=by
 refine FC.body 6 11 Tryz.func33 rfl (by kernel_rfl) ?_
 refine dM (t:=0) (x:=bR t) rfl (qO t) fun hf=>?_
 have hf1:=hf.params
 have hf2:=hf.texts
 have hf3:=hf.things
 have hf4:=hf.acts
 refine W ?_
 refine Z1 (ca (nO _ _ _)) ?_
 refine W ?_
 exact ⟨.inl rfl,aF.tmp rfl rfl,trivial⟩
theorem aU3 (t:TabP)(n:Int):PC Tryz.prog 101 [bR t,vi n] (vb (aBH t n)):=by
 refine FC.body 6 16 Tryz.func101 rfl (by kernel_rfl) ?_
 refine dM (t:=0) (x:=bR t) rfl (qO t) fun hf=>?_
 have hf1:=hf.params
 have hf2:=hf.texts
 have hf3:=hf.things
 have hf4:=hf.acts
 refine W ?_
 refine Z1 (ca (aLS t _)) ?_
 refine W ?_
 refine aW (R:=[]) rfl rfl rfl cA (fun hC=>by
  have h1:=gH.1 (show among _ _ _=true from hC)
  exact (by first|exact rJ rfl rfl rfl (by kernel_rfl) (by omega)|exact mM rfl rfl rfl (by kernel_rfl) (by omega) (by omega) rfl)) (fun hC=>⟨(by first|rfl|exact hC|(simp only [Bool.and_eq_true] at hC;first|exact hC.1|exact hC.1.1|exact hC.2)|simp_all),(by first|rfl|exact hC|(simp only [Bool.and_eq_true] at hC;first|exact hC.1|exact hC.1.1|exact hC.2)|simp_all),trivial⟩) trivial ?_
 refine W ?_
 exact ⟨.inl rfl,aF.tmp rfl rfl,trivial⟩
theorem al3 {s:ByteArray}{p:Int→Bool}{k:Nat}(hk:k=s.size)(h:∀ j,j<k→p ((tB s).getD j 0)=true):(tB s).all p=true:=yZ (d:=0) fun j hj=>h j (by rw [fK] at hj;omega)
theorem al4 {s:ByteArray}{p:Int→Bool}{k:Nat}(hk:k<s.size)(h:p ((tB s).getD k 0)=false):(tB s).all p=false:=zA (d:=0) (by rw [fK];exact hk) h
def xB (s:ByteArray)(most:Int)(P:Int→Bool):Bool:=decide ((s.size:Int)<1)||decide ((s.size:Int)>most)||!P ((tB s).getD 0 0)
theorem aU4 (s:ByteArray)(hs:s.size≤9223372036854775807)(most:Int)(K1 K2:Nat)(c1 c2:List Av)(P1 P2:Int→Bool)(hK1:dN Tryz.prog K1=true)(hK2:dN Tryz.prog K2=true)(hp1:bE c1)(hp2:bE c2)(H1:∀ n,PC Tryz.prog K1 ([.val (.int .u8 n)]++c1) (vb (P1 n)))(H2:∀ n,PC Tryz.prog K2 ([.val (.int .u8 n)]++c2) (vb (P2 n))):PC Tryz.prog 88 [vs s,vi most,.clo K1 c1,.clo K2 c2] (vb (!xB s most P1&&(tB s).all P2)):=by
 refine FC.body 6 38 Tryz.func88 rfl (by kernel_rfl) ?_
 refine W ?_
 refine Z4 (fun hC=>oG) ?_
 refine W ?_
 refine aW (R:=[]) rfl rfl rfl eV (fun hC=>by
  have hh:=hC
  simp only [Bool.and_eq_true,Bool.not_eq_true',Bool.or_eq_false_iff,decide_eq_false_iff_not] at hh
  exact aGH rfl rfl rfl (by kernel_rfl) (by omega) (by omega) rfl) (fun hC=>⟨(by first|rfl|exact hC|(simp only [Bool.and_eq_true] at hC;first|exact hC.1|exact hC.1.1|exact hC.2)|simp_all),(by first|rfl|exact hC|(simp only [Bool.and_eq_true] at hC;first|exact hC.1|exact hC.1.1|exact hC.2)|simp_all),trivial⟩) trivial ?_
 refine Z4 (fun hC=>kW (f:=K1) (caps:=c1) rfl rfl hK1 (H1 ((tB s).getD 0 0)) rfl ⟨trivial,hp1⟩ trivial) ?_
 refine W ?_
 refine cd (fun hb=>?_) fun hb=>?_
 ·have hw:xB s most P1=true:=hb
  refine W ?_
  exact ⟨.inl rfl,aF.tmp rfl (bP (by rw [hw];rfl)),trivial⟩
 ·have hw:xB s most P1=false:=hb
  refine W ?_
  refine bM (ι:=Nat) (fun k=>⟨[(0,vs s),(3,.clo K2 c2),(27,vi s.size),(28,vi k)],[]⟩) (fun k=>k≤s.size∧∀ j,j<k→P2 ((tB s).getD j 0)=true) (fun k=>s.size-k) 0 (⟨Nat.zero_le _,qF⟩) (Le.sub (by repeat (first|trivial|refine ⟨.inr rfl,?_⟩|refine ⟨.inr (aR (by omega)),?_⟩)) (by repeat (first|trivial|refine ⟨rfl,?_⟩))) ?_
  intro k hI
  refine W ?_
  refine cd (fun hb=>?_) fun hb=>?_
  ·have hlt:k<s.size:=by simpa using hb
   refine W ?_
   refine Z1 (aGH rfl rfl rfl (by kernel_rfl) (by omega) (by omega) rfl) ?_
   refine Z1 (kW (f:=K2) (caps:=c2) rfl rfl hK2 (H2 ((tB s).getD k 0)) rfl ⟨trivial,hp2⟩ trivial) ?_
   refine W ?_
   refine cd (fun hb=>?_) fun hb=>?_
   ·refine W ?_
    exact ⟨.inl rfl,aF.tmp rfl (bP (by rw [al4 hlt (by simpa using hb),Bool.and_false])),trivial⟩
   ·refine W ?_
    exact ⟨k+1,⟨by omega,mC (p:=fun j=>P2 ((tB s).getD j 0)) hI.2 (by simpa using hb)⟩,by omega,Le.sub (by repeat (first|trivial|refine ⟨.inr rfl,?_⟩|refine ⟨.inr (aR (by omega)),?_⟩)) (by repeat (first|trivial|refine ⟨rfl,?_⟩))⟩
  ·have hge:k=s.size:=by simp at hb;omega
   refine W ?_
   exact ⟨.inl rfl,aF.tmp rfl (bP (by rw [al3 hge hI.2,hw];rfl)),trivial⟩
theorem al5 (n:Int):PC Tryz.prog 188 [.val (.int .u8 n),.ptr (.clo 185 [])] (vb (aLT n)):=by
 refine FC.body 6 15 Tryz.func188 rfl (by kernel_rfl) ?_
 refine W ?_
 refine Z1 (kW rfl rfl (by kernel_rfl) (aU2 n) rfl ⟨trivial,trivial⟩ trivial) ?_
 refine W ?_
 exact ⟨.inl rfl,aF.tmp rfl rfl,trivial⟩
theorem xW (l:List Int)(K:Nat)(caps:List Av)(p:Int→Bool)(hK:dN Tryz.prog K=true)(hpc:bE caps)(hp:∀ x∈l,PC Tryz.prog K ([vi x]++caps) (vb (p x))):PC Tryz.prog 42 [aK l,.clo K caps] (vb (l.all p)):=by
 refine FC.body 6 18 Tryz.func42 rfl (by kernel_rfl) ?_
 refine dM (t:=0) (x:=aK l) rfl eR fun hf=>?_
 refine W ?_
 refine bM (ι:=Nat) (fun k=>⟨[(1,.clo K caps),(7,aK l),(8,vi l.length),(9,vi k)],[]⟩) (fun k=>k≤l.length∧∀ j,j<k→p (l.getD j 0)=true) (fun k=>l.length-k) 0 (⟨Nat.zero_le _,qF⟩) (Le.sub (by repeat (first|trivial|refine ⟨.inr rfl,?_⟩|refine ⟨.inr (aR (by omega)),?_⟩)) (by repeat (first|trivial|refine ⟨rfl,?_⟩))) ?_
 intro k hI
 refine W ?_
 refine cd (fun hb=>?_) fun hb=>?_
 ·have hlt:k<l.length:=by have h0:=of_decide_eq_true hb;omega
  refine W ?_
  refine Z1 (kW (f:=K) (caps:=caps) rfl rfl hK (hp _ (pR hlt)) rfl ⟨by simp only [aN,bE,and_self,dG,dY,cP,bV,dZ,eA,eC,eD,eE,eF,eG,eH,eI,eJ],hpc⟩ trivial) ?_
  refine W ?_
  refine cd (fun hb=>?_) fun hb=>?_
  ·refine W ?_
   exact ⟨.inl rfl,aF.tmp rfl (bP (by rw [zA (d:=0) hlt (by simpa using hb)])),trivial⟩
  ·refine W ?_
   exact ⟨k+1,⟨by omega,mC (p:=fun j=>p (l.getD j 0)) hI.2 (by simpa using hb)⟩,by omega,Le.sub (by repeat (first|trivial|refine ⟨.inr rfl,?_⟩|refine ⟨.inr (aR (by omega)),?_⟩)) (by repeat (first|trivial|refine ⟨rfl,?_⟩))⟩
 ·have hge:k=l.length:=by have h0:=of_decide_eq_false hb;omega
  refine W ?_
  exact ⟨.inl rfl,aF.tmp rfl (bP (by rw [yZ (d:=0) fun j hj=>hI.2 j (by omega)])),trivial⟩
theorem aU5 (l:List ByteArray)(K:Nat)(caps:List Av)(p:ByteArray→Bool)(hK:dN Tryz.prog K=true)(hpc:bE caps)(hp:∀ x∈l,PC Tryz.prog K ([vs x]++caps) (vb (p x))):PC Tryz.prog 94 [bB l,.clo K caps] (vb (l.all p)):=by
 refine FC.body 6 18 Tryz.func94 rfl (by kernel_rfl) ?_
 refine dM (t:=0) (x:=bB l) rfl eR fun hf=>?_
 refine W ?_
 refine bM (ι:=Nat) (fun k=>⟨[(1,.clo K caps),(7,bB l),(8,vi l.length),(9,vi k)],[]⟩) (fun k=>k≤l.length∧∀ j,j<k→p (l.getD j ByteArray.empty)=true) (fun k=>l.length-k) 0 (⟨Nat.zero_le _,qF⟩) (Le.sub (by repeat (first|trivial|refine ⟨.inr rfl,?_⟩|refine ⟨.inr (aR (by omega)),?_⟩)) (by repeat (first|trivial|refine ⟨rfl,?_⟩))) ?_
 intro k hI
 refine W ?_
 refine cd (fun hb=>?_) fun hb=>?_
 ·have hlt:k<l.length:=by have h0:=of_decide_eq_true hb;omega
  refine W ?_
  refine Z1 (kW (f:=K) (caps:=caps) rfl rfl hK (hp _ (pR hlt)) rfl ⟨by simp only [aN,bE,and_self,dG,dY,cP,bV,dZ,eA,eC,eD,eE,eF,eG,eH,eI,eJ],hpc⟩ trivial) ?_
  refine W ?_
  refine cd (fun hb=>?_) fun hb=>?_
  ·refine W ?_
   exact ⟨.inl rfl,aF.tmp rfl (bP (by rw [zA (d:=ByteArray.empty) hlt (by simpa using hb)])),trivial⟩
  ·refine W ?_
   exact ⟨k+1,⟨by omega,mC (p:=fun j=>p (l.getD j ByteArray.empty)) hI.2 (by simpa using hb)⟩,by omega,Le.sub (by repeat (first|trivial|refine ⟨.inr rfl,?_⟩|refine ⟨.inr (aR (by omega)),?_⟩)) (by repeat (first|trivial|refine ⟨rfl,?_⟩))⟩
 ·have hge:k=l.length:=by have h0:=of_decide_eq_false hb;omega
  refine W ?_
  exact ⟨.inl rfl,aF.tmp rfl (bP (by rw [yZ (d:=ByteArray.empty) fun j hj=>hI.2 j (by omega)])),trivial⟩
theorem acY (l:List (List SlotP))(K:Nat)(caps:List Av)(p:(List SlotP)→Bool)(hK:dN Tryz.prog K=true)(hpc:bE caps)(hp:∀ x∈l,PC Tryz.prog K ([fQ x]++caps) (vb (p x))):PC Tryz.prog 37 [lB l,.clo K caps] (vb (l.all p)):=by
 refine FC.body 6 18 Tryz.func37 rfl (by kernel_rfl) ?_
 refine dM (t:=0) (x:=lB l) rfl eR fun hf=>?_
 refine W ?_
 refine bM (ι:=Nat) (fun k=>⟨[(1,.clo K caps),(7,lB l),(8,vi l.length),(9,vi k)],[]⟩) (fun k=>k≤l.length∧∀ j,j<k→p (l.getD j [])=true) (fun k=>l.length-k) 0 (⟨Nat.zero_le _,qF⟩) (Le.sub (by repeat (first|trivial|refine ⟨.inr rfl,?_⟩|refine ⟨.inr (aR (by omega)),?_⟩)) (by repeat (first|trivial|refine ⟨rfl,?_⟩))) ?_
 intro k hI
 refine W ?_
 refine cd (fun hb=>?_) fun hb=>?_
 ·have hlt:k<l.length:=by have h0:=of_decide_eq_true hb;omega
  refine W ?_
  refine Z1 (kW (f:=K) (caps:=caps) rfl rfl hK (hp _ (pR hlt)) rfl ⟨by simp only [aN,bE,and_self,dG,dY,cP,bV,dZ,eA,eC,eD,eE,eF,eG,eH,eI,eJ],hpc⟩ trivial) ?_
  refine W ?_
  refine cd (fun hb=>?_) fun hb=>?_
  ·refine W ?_
   exact ⟨.inl rfl,aF.tmp rfl (bP (by rw [zA (d:=[]) hlt (by simpa using hb)])),trivial⟩
  ·refine W ?_
   exact ⟨k+1,⟨by omega,mC (p:=fun j=>p (l.getD j [])) hI.2 (by simpa using hb)⟩,by omega,Le.sub (by repeat (first|trivial|refine ⟨.inr rfl,?_⟩|refine ⟨.inr (aR (by omega)),?_⟩)) (by repeat (first|trivial|refine ⟨rfl,?_⟩))⟩
 ·have hge:k=l.length:=by have h0:=of_decide_eq_false hb;omega
  refine W ?_
  exact ⟨.inl rfl,aF.tmp rfl (bP (by rw [yZ (d:=[]) fun j hj=>hI.2 j (by omega)])),trivial⟩
theorem ac3 (l:List VerbP)(K:Nat)(caps:List Av)(p:VerbP→Bool)(hK:dN Tryz.prog K=true)(hpc:bE caps)(hp:∀ x∈l,PC Tryz.prog K ([iC x]++caps) (vb (p x))):PC Tryz.prog 34 [gB l,.clo K caps] (vb (l.all p)):=by
 refine FC.body 6 18 Tryz.func34 rfl (by kernel_rfl) ?_
 refine dM (t:=0) (x:=gB l) rfl eR fun hf=>?_
 refine sq ?_
 refine Z1 aB ?_
 refine cn ?_
 refine aD ?_
 refine sq ?_
 refine Z1 mo ?_
 refine Z1 ln ?_
 refine Z1 mo ?_
 refine cn ?_
 refine aU ?_
 refine bM (ι:=Nat) (fun k=>⟨[(1,.clo K caps),(7,gB l),(8,vi l.length),(9,vi k)],[(0,.unborn)]⟩) (fun k=>k≤l.length∧∀ j,j<k→p (l.getD j gO)=true) (fun k=>l.length-k) 0 (⟨Nat.zero_le _,qF⟩) (Le.sub (by repeat (first|trivial|refine ⟨.inr rfl,?_⟩|refine ⟨.inr (aR (by omega)),?_⟩)) (by repeat (first|trivial|refine ⟨rfl,?_⟩))) ?_
 intro k hI
 refine sq ?_
 refine Z1 bz ?_
 refine cn ?_
 refine aD ?_
 refine cd (fun hb=>?_) fun hb=>?_
 ·have hlt:k<l.length:=by have h0:=of_decide_eq_true hb;omega
  refine aQ ?_
  refine aD ?_
  refine aU ?_
  refine sq ?_
  refine Z1 ia ?_
  refine Z1 lr ?_
  refine Z2 (al 0 [.bool false,.slice none 0 0]) ?_
  refine fP rfl rfl (sY (x:=.agg _) (cs':=[_,_]) rfl rfl rfl rfl (by kernel_rfl) (by first|decide|simp) (by first|decide|simp) rfl) ⟨rfl,trivial⟩ ?_
  refine cn ?_
  refine sq ?_
  refine Z1 mo ?_
  refine dE 2 [_,_] ?_
  refine Z1 (kW (f:=K) (caps:=caps) rfl rfl hK (hp _ (pR hlt)) rfl ⟨by simp only [aN,bE,and_self,dG,dY,cP,bV,dZ,eA,eC,eD,eE,eF,eG,eH,eI,eJ],hpc⟩ trivial) ?_
  refine Z1 nt ?_
  refine cn ?_
  refine cd (fun hb=>?_) fun hb=>?_
  ·refine sq ?_
   refine Z1 aB ?_
   refine cn ?_
   refine aP ?_
   exact ⟨.inl rfl,aF.tmp rfl (bP (by rw [zA (d:=gO) hlt (by simpa using hb)])),trivial⟩
  ·refine aQ ?_
   refine tx ?_
   refine Z1 ba ?_
   refine Z1 mo ?_
   refine cn ?_
   exact ⟨k+1,⟨by omega,mC (p:=fun j=>p (l.getD j gO)) hI.2 (by simpa using hb)⟩,by omega,Le.reset [0] (by simp) (by repeat (first|trivial|refine ⟨.inr rfl,?_⟩|refine ⟨.inr (aR (by omega)),?_⟩)) (nJ (by simp only [pS,bE,aN,and_self,dG,dY,cP,bV,dZ,eA,eC,eD,eE,eF,eG,eH,eI,eJ,hpc])) (by simp [lK])⟩
 ·have hge:k=l.length:=by have h0:=of_decide_eq_false hb;omega
  refine bU ?_
  refine sq ?_
  refine Z1 aB ?_
  refine cn ?_
  refine aP ?_
  exact ⟨.inl rfl,aF.tmp rfl (bP (by rw [yZ (d:=gO) fun j hj=>hI.2 j (by omega)])),trivial⟩
theorem ac4 (l:List DeedP)(K:Nat)(caps:List Av)(p:DeedP→Bool)(hK:dN Tryz.prog K=true)(hpc:bE caps)(hp:∀ x∈l,PC Tryz.prog K ([mT x]++caps) (vb (p x))):PC Tryz.prog 39 [fY l,.clo K caps] (vb (l.all p)):=by
 refine FC.body 6 18 Tryz.func39 rfl (by kernel_rfl) ?_
 refine dM (t:=0) (x:=fY l) rfl eR fun hf=>?_
 refine sq ?_
 refine Z1 aB ?_
 refine cn ?_
 refine aD ?_
 refine sq ?_
 refine Z1 mo ?_
 refine Z1 ln ?_
 refine Z1 mo ?_
 refine cn ?_
 refine aU ?_
 refine bM (ι:=Nat) (fun k=>⟨[(1,.clo K caps),(7,fY l),(8,vi l.length),(9,vi k)],[(0,.unborn)]⟩) (fun k=>k≤l.length∧∀ j,j<k→p (l.getD j fZ)=true) (fun k=>l.length-k) 0 (⟨Nat.zero_le _,qF⟩) (Le.sub (by repeat (first|trivial|refine ⟨.inr rfl,?_⟩|refine ⟨.inr (aR (by omega)),?_⟩)) (by repeat (first|trivial|refine ⟨rfl,?_⟩))) ?_
 intro k hI
 refine sq ?_
 refine Z1 bz ?_
 refine cn ?_
 refine aD ?_
 refine cd (fun hb=>?_) fun hb=>?_
 ·have hlt:k<l.length:=by have h0:=of_decide_eq_true hb;omega
  refine aQ ?_
  refine aD ?_
  refine aU ?_
  refine sq ?_
  refine Z1 ia ?_
  refine Z1 lr ?_
  refine Z2 (al 0 [.int .i64 0,.int .i64 0,.int .i64 0,.int .i64 0,.int .i64 0,.int .i64 0]) ?_
  refine fP rfl rfl (sY (x:=.agg _) (cs':=[_,_,_,_,_,_]) rfl rfl rfl rfl (by kernel_rfl) (by first|decide|simp) (by first|decide|simp) rfl) ⟨rfl,trivial⟩ ?_
  refine cn ?_
  refine sq ?_
  refine Z1 mo ?_
  refine dE 6 [_,_,_,_,_,_] ?_
  refine Z1 (kW (f:=K) (caps:=caps) rfl rfl hK (hp _ (pR hlt)) rfl ⟨by simp only [aN,bE,and_self,dG,dY,cP,bV,dZ,eA,eC,eD,eE,eF,eG,eH,eI,eJ],hpc⟩ trivial) ?_
  refine Z1 nt ?_
  refine cn ?_
  refine cd (fun hb=>?_) fun hb=>?_
  ·refine sq ?_
   refine Z1 aB ?_
   refine cn ?_
   refine aP ?_
   exact ⟨.inl rfl,aF.tmp rfl (bP (by rw [zA (d:=fZ) hlt (by simpa using hb)])),trivial⟩
  ·refine aQ ?_
   refine tx ?_
   refine Z1 ba ?_
   refine Z1 mo ?_
   refine cn ?_
   exact ⟨k+1,⟨by omega,mC (p:=fun j=>p (l.getD j fZ)) hI.2 (by simpa using hb)⟩,by omega,Le.reset [0] (by simp) (by repeat (first|trivial|refine ⟨.inr rfl,?_⟩|refine ⟨.inr (aR (by omega)),?_⟩)) (nJ (by simp only [pS,bE,aN,and_self,dG,dY,cP,bV,dZ,eA,eC,eD,eE,eF,eG,eH,eI,eJ,hpc])) (by simp [lK])⟩
 ·have hge:k=l.length:=by have h0:=of_decide_eq_false hb;omega
  refine bU ?_
  refine sq ?_
  refine Z1 aB ?_
  refine cn ?_
  refine aP ?_
  exact ⟨.inl rfl,aF.tmp rfl (bP (by rw [yZ (d:=fZ) fun j hj=>hI.2 j (by omega)])),trivial⟩
theorem al6 (s:ByteArray):(!xB s 9 fun n=>tL n||tM n)=yN s:=by
 have h:=al7 s
 unfold xB
 rw [Bool.not_or,Bool.not_or] at *
 unfold yN
 simp only [Bool.not_not,gt_iff_lt]
 cases tL ((tB s).getD 0 0)<;>cases tM ((tB s).getD 0 0)<;>simp<;>rw [Bool.eq_iff_iff]<;>simp<;>omega
theorem al8 (s:ByteArray)(h:¬ s.toList=[]):(!xB s 1024 uJ&&(tB s).all uJ)=qN s:=by
 have h1:=List.length_pos_iff.2 h
 rw [aF7] at h1
 unfold qN xB
 have hd:((tB s).getD 0 0)∈tB s:=by
  have:=al9 (s:=s) (k:=0) h1
  rwa [aR4 s 0 h1]
 cases ha:(tB s).all uJ with
 | false=>simp
 | true=>
  rw [List.all_eq_true] at ha
  rw [ha _ hd,Bool.eq_iff_iff]
  simp only [Bool.not_true,Bool.or_false,Bool.and_true,Bool.true_and,Bool.not_eq_true',Bool.or_eq_false_iff,decide_eq_false_iff_not,decide_eq_true_eq]
  omega
theorem amA {s:ByteArray}(h:s.toList=[]):qN s=true:=by
 have hz:s.size=0:=by rw [←aF7,h];rfl
 have ht:tB s=[]:=List.eq_nil_of_length_eq_zero (by rw [fK,hz])
 unfold qN
 rw [ht,hz]
 rfl
theorem amC (s:ByteArray)(hs:s.size≤9223372036854775807):PC Tryz.prog 159 [vs s] (vb (aE3 s)):=by
 refine FC.body 6 8 Tryz.func159 rfl (by kernel_rfl) ?_
 refine W ?_
 refine Z2 (al 0 [.nilFunc]) ?_
 refine fP rfl rfl (lG (y:=.clo _ _) rfl rfl rfl (by kernel_rfl) (by kernel_rfl) (by first|exact (by first|exact aAU|exact aQ7)|exact cells_any) (by first|decide|(simp;done)|(simp;omega)) rfl) ⟨rfl,trivial⟩ ?_
 refine V ?_
 refine aD ?_
 refine bS (Le.freezeVar 3 0 rfl rfl) ?_
 refine W ?_
 refine Z1 (qC (cs:=[.ptr _]) rfl rfl) ?_
 refine Z1 (jP rfl (by kernel_rfl) (aU4 s hs 9 185 188 [] [.ptr (.clo 185 [])] (fun n=>tL n||tM n) aLT (by kernel_rfl) (by kernel_rfl) trivial ⟨trivial,trivial⟩ aU2 al5) rfl (by simp only [bE,aN,and_self]) trivial) ?_
 refine W ?_
 exact ⟨.inl rfl,aF.tmp rfl (bP (by rw [al6];rfl)),trivial⟩
theorem amD (s:ByteArray)(hs:s.size≤9223372036854775807):PC Tryz.prog 25 [vs s] (vb (qN s)):=by
 refine FC.body 6 12 Tryz.func25 rfl (by kernel_rfl) ?_
 refine W ?_
 refine Z1 (aGV rfl rfl rfl) ?_
 refine W ?_
 refine aW (R:=[]) rfl rfl rfl eV (fun hC=>jP rfl (by kernel_rfl) (aU4 s hs 1024 87 87 [] [] uJ uJ (by kernel_rfl) (by kernel_rfl) trivial trivial aU1 aU1) rfl (by simp only [bE,aN,and_self]) trivial) (fun hC=>⟨(by first|rfl|exact hC|(simp only [Bool.and_eq_true] at hC;first|exact hC.1|exact hC.1.1|exact hC.2)|simp_all),(by first|rfl|exact hC|(simp only [Bool.and_eq_true] at hC;first|exact hC.1|exact hC.1.1|exact hC.2)|simp_all),(by first|rfl|exact hC|(simp only [Bool.and_eq_true] at hC;first|exact hC.1|exact hC.1.1|exact hC.2)|simp_all),(by first|rfl|exact hC|(simp only [Bool.and_eq_true] at hC;first|exact hC.1|exact hC.1.1|exact hC.2)|simp_all),(by first|rfl|exact hC|(simp only [Bool.and_eq_true] at hC;first|exact hC.1|exact hC.1.1|exact hC.2)|simp_all),trivial⟩) trivial ?_
 refine W ?_
 exact ⟨.inl rfl,aF.tmp rfl (bP (by
  by_cases h:s.toList=[]
  ·rw [amA h];simp [h]
  ·rw [al8 s h];simp [h])),trivial⟩
theorem aIW (l:List ByteArray)(hl:SW l)(most:Int):PC Tryz.prog 102 [bB l,vi most] (vb (wV l most)):=by
 refine FC.body 6 13 Tryz.func102 rfl (by kernel_rfl) ?_
 refine W ?_
 refine aW (R:=[]) rfl rfl rfl cA (fun hC=>jP rfl (by kernel_rfl) (aU5 l 159 [] aE3 (by kernel_rfl) trivial fun x hx=>amC x (hl x hx)) rfl (by simp only [bE,aN,and_self,bV]) trivial) (fun hC=>⟨(by first|rfl|exact hC|(simp only [Bool.and_eq_true] at hC;first|exact hC.1|exact hC.1.1|exact hC.2)|simp_all),(by first|rfl|exact hC|(simp only [Bool.and_eq_true] at hC;first|exact hC.1|exact hC.1.1|exact hC.2)|simp_all),(by first|rfl|exact hC|(simp only [Bool.and_eq_true] at hC;first|exact hC.1|exact hC.1.1|exact hC.2)|simp_all),trivial⟩) trivial ?_
 refine W ?_
 exact ⟨.inl rfl,aF.tmp rfl rfl,trivial⟩
end Go.Proofs.YtnklgkjfoggpbaaGreatDoor
