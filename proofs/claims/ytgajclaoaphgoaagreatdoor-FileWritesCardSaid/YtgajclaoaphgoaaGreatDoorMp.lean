/- Parts of the proof of a law of this seat: rules and contracts; no conditions. -/
import Derived.Test.YtgajclaoaphgoaaGreatDoorOl
import Derived.Lib.SmallJoins
import Derived.Deep.Fields
import Derived.Below
import Derived.SizedLaws
import Derived.Test.YtgajclaoaphgoaaGreatDoorRows
import Derived.Test.YtgajclaoaphgoaaGreatDoorShelf
import Derived.Test.YtgajclaoaphgoaaGreatDoorProg
import Derived.LaidMore
import Derived.PinnedBridge
import Derived.Lay
import Derived.Handed
import Derived.Test.YtgajclaoaphgoaaGreatDoorMx
import Derived.Test.YtgajclaoaphgoaaGreatDoorWireP
import Derived.Maps.RangeWalk
import Derived.Maps.OwnOps
set_option maxHeartbeats 6400000
set_option maxRecDepth 100000
set_option linter.unusedVariables false
set_option linter.unusedSimpArgs false
namespace Go.Proofs.YtgajclaoaphgoaaGreatDoor
open Go.Joins Go.ChangeShapes Go.WideShapes Go.RowKit Go.Deep
def E0 (w:World):Env:=⟨w,fun _=>.unborn,fun _=>False⟩
theorem E0.good (w:World)(hs:qY (E0 w)):Good (E0 w):=⟨fun b h=>h.elim,fun n m b h=>(by cases h),fun n b h=>(by cases h),hs⟩
theorem E0.ok {w:World}{b:Nat}(h:b<w.heap.size):(E0 w).ok b:=⟨h,fun h=>h,fun n h=>(by cases h)⟩
section
variable {H:Type}{enc:TypeId × Value→H}{P:Program}{w:World}{base:Nat}{spare:Nat→Bool}{held:Bool}
def kJ (enc:TypeId × Value→H)(P:Program)(w:World)(base:Nat)(spare:Nat→Bool)(held:Bool)(T:TypeId)(α:Type)(av:α→List Av)(wf:α→Prop):Prop:=
 ∀ (fuel:Nat) (cs:List Value) (y:DataW H × List MemPlace),DataW.trod enc P w base spare held fuel T cs=some y→(∀ n∈DataW.weights P T y.1,n≤reachBytes)→∃ d:α,wf d∧aG (E0 w) (av d) cs∧∀ u∈cs,u.oneCell'=true
theorem kJ.map {T:TypeId}{α γ:Type}{av:α→List Av}{wf:α→Prop}(h:kJ enc P w base spare held T α av wf)(g:α→γ)(av':γ→List Av)(wf':γ→Prop)(h1:∀ d,av' (g d)=av d)(h2:∀ d,wf d→wf' (g d)):kJ enc P w base spare held T γ av' wf':=fun fuel cs y hy hz=>by
 obtain ⟨d,h3,h4,h5⟩:=h fuel cs y hy hz;exact ⟨g d,h2 d h3,by rw [h1];exact h4,h5⟩
theorem gW {T:TypeId}{k:IntKind}(hT:P.underlying T=some (.int k)):kJ enc P w base spare held T Int (fun n=>[.val (.int k n)]) (fun n=>(Lit.int k n).wf=true):=fun fuel cs y hy _=>by
 obtain ⟨n,rfl,_,h⟩:=DataW.trod_int hT hy;exact ⟨n,h,by unfold aG;exact ⟨_,_,rfl,by unfold aA;rfl,by unfold aG;rfl⟩,by simp [Value.oneCell']⟩
theorem aQ0 {T:TypeId}(hT:P.underlying T=some .bool):kJ enc P w base spare held T Bool (fun n=>[vb n]) (fun _=>True):=fun fuel cs y hy _=>by
 obtain ⟨n,rfl,_⟩:=DataW.trod_bool hT hy;exact ⟨n,trivial,by unfold aG;exact ⟨_,_,rfl,by unfold aA;rfl,by unfold aG;rfl⟩,by simp [Value.oneCell']⟩
theorem aD7 {T:TypeId}(hT:P.underlying T=some .string):kJ enc P w base spare held T ByteArray (fun s=>[vs s]) (fun s=>s.size≤140737488351232):=fun fuel cs y hy hz=>by
 obtain ⟨s,rfl,rfl,h⟩:=DataW.trod_string hT hy;have h2:=hz s.data.toList.length (by simp [DataW.weights]);have h3:reachBytes=140737488351232:=rfl;have h4:s.data.toList.length=s.size:=by simp
 exact ⟨s,by omega,by unfold aG;exact ⟨_,_,rfl,by unfold aA;rfl,by unfold aG;rfl⟩,by simp [Value.oneCell']⟩
theorem aQ1 {α β:Type}{f:α→Option β}:∀ {l:List α} {r:List β},l.mapM f=some r→r.length=l.length∧∀ (i:Nat) (x:α),l[i]?=some x→f x=r[i]?
 | [],r,h=>by simp at h;subst h;simp
 | a::l,r,h=>by
  rw [List.mapM_cons] at h;cases ha:f a with
  | none=>rw [ha] at h;simp at h
  | some b=>
   rw [ha] at h;cases hl:l.mapM f with
   | none=>rw [hl] at h;simp at h
   | some r'=>
    rw [hl] at h;simp at h;subst h;obtain ⟨h1,h2⟩:=aQ1 hl;refine ⟨by simp [h1],fun i x hx=>?_⟩;cases i with
    | zero=>simp at hx;subst hx;simpa using ha
    | succ i=>simpa using h2 i x (by simpa using hx)
theorem aQ2 {a:Addr}{n:Nat}{cs:List Value}(h:w.cells? base a n=some cs):cs.length=n∧∀ i,i<n→w.cell? (a.add i)=cs[i]?:=by
 unfold World.cells? at h;split at h
 ·obtain ⟨h1,h2⟩:=aQ1 h;exact ⟨by simpa using h1,fun i hi=>h2 i i (by rw [List.getElem?_range hi])⟩
 cases h
theorem aQ3 {a:Addr}{v:Value}(h:w.cell? a=some v):a.spot=none∧a.block<w.heap.size:=by
 unfold World.cell? at h;split at h
 ·rename_i c _ _ hb;refine ⟨?_,?_⟩
  ·cases hs:a.spot with
   | none=>rfl
   | some s=>rw [hs] at h;simp at h
  exact (Array.getElem?_eq_some_iff.1 hb).1
 cases h
theorem aQ4 {e:TypeId}:∀ {ds:List (DataW H)} {d:DataW H} {n:Nat},d∈ds→n∈DataW.weights P e d→n∈DataW.weightsAll P e ds
 | x::r,d,n,hd,hn=>by
  unfold DataW.weightsAll;rcases List.mem_cons.1 hd with rfl|hd
  ·exact List.mem_append.2 (.inl hn)
  exact List.mem_append.2 (.inr (aQ4 hd hn))
theorem kR {T e:TypeId}{α:Type}{av:α→List Av}{wf:α→Prop}(d0:α)(k b:Nat)(row:α→Av)(hT:P.underlying T=some (.slice e))(hk:P.cellsOf e=k)(hb:P.bytesOf e=b)(h0:0<k)(he:kJ enc P w base spare held e α av wf)
 (hrow:∀ (d:α) (cs:List Value),aG (E0 w) (av d) cs→(∀ u∈cs,u.oneCell'=true)→∃ u:Value,aA (E0 w) (row d) u∧u.cells.toList=cs):
 kJ enc P w base spare held T (List α) (fun l=>[.sl k l.length fun j=>row (l.getD j d0)]) (fun l=>(∀ d∈l,wf d)∧l.length*b≤140737488351232):=fun fuel cs y hy hz=>by
 rcases DataW.trod_slice hT hy with ⟨rfl,_⟩|⟨a,len,cap,elems,rest,n,_,rfl,rfl,_,hl,hm,hlen,hel,_,_⟩
 ·exact ⟨[],⟨by simp,by simp⟩,by unfold aG;exact ⟨_,_,rfl,uA (Nat.zero_le _) _ _ (by unfold aA;rfl),by unfold aG;rfl⟩,by simp [Value.oneCell']⟩
 have hz':(elems.length+rest.length)*b≤140737488351232∧∀ x∈elems,∀ n∈DataW.weights P e x.1,n≤reachBytes:=by
  unfold DataW.weights at hz;simp only [hT] at hz;refine ⟨?_,fun x hx n hn=>hz n (List.mem_cons_of_mem _ (List.mem_append.2 (.inl (aQ4 (List.mem_map.2 ⟨x,hx,rfl⟩) hn))))⟩;have:=hz _ (List.mem_cons_self);rw [hb] at this;have hr:reachBytes=140737488351232:=rfl;simpa [hr] using this
 have hlb:len*b≤140737488351232:=Nat.le_trans (Nat.mul_le_mul_right b (by omega)) hz'.1;rw [hk] at hel;have each:∀ i,i<len→∃ d:α,wf d∧∃ ds:List Value,w.cells? base (a.add (i*k)) k=some ds∧aG (E0 w) (av d) ds∧∀ u∈ds,u.oneCell'=true:=fun i hi=>by
  have h1:=hel i hi;rw [List.getElem?_eq_getElem (by omega),Option.bind_eq_some_iff] at h1;obtain ⟨ds,h2,h3⟩:=h1;obtain ⟨d,h4,h5,h6⟩:=he n ds _ h3 (hz'.2 _ (List.getElem_mem _));exact ⟨d,h4,ds,h2,h5,h6⟩
 let f:Nat→α:=fun i=>if h:i<len then Classical.choose (each i h) else d0
 have hf:∀ i,i<len→wf (f i)∧∃ ds:List Value,w.cells? base (a.add (i*k)) k=some ds∧aG (E0 w) (av (f i)) ds∧∀ u∈ds,u.oneCell'=true:=fun i hi=>by
  have:f i=Classical.choose (each i hi):=by simp [f,hi]
  rw [this];exact Classical.choose_spec (each i hi)
 have hg:∀ j,j<len→((List.range len).map f).getD j d0=f j:=fun j hj=>by simp [hj]
 refine ⟨(List.range len).map f,⟨fun d hd=>?_,by simpa using hlb⟩,?_,by simp [Value.oneCell']⟩
 ·obtain ⟨i,hi,rfl⟩:=List.mem_map.1 hd;exact (hf i (List.mem_range.1 hi)).1
 unfold aG;refine ⟨_,_,rfl,?_,by unfold aG;rfl⟩;unfold aA;refine ⟨some a,cap,by simp,by simpa using hl,hm,fun hpos=>?_⟩;have hp:0<len:=by simpa using hpos
 obtain ⟨_,ds,h2,h3,_⟩:=hf 0 hp;rw [Nat.zero_mul] at h2;obtain ⟨hl2,h4⟩:=aQ2 h2;have h5:=h4 0 h0;rw [List.getElem?_eq_getElem (by omega)] at h5;obtain ⟨h6,h7⟩:=aQ3 h5;have ha:a.add 0=a:=rfl;have hspot:a.spot=none:=by simpa [Addr.add] using h6
 have hblk:a.block<w.heap.size:=by simpa [Addr.add] using h7
 refine ⟨a.block,a.off,by cases a;simp at hspot;subst hspot;rfl,E0.ok hblk,fun j hj=>?_⟩;have hj':j<len:=by simpa using hj
 obtain ⟨_,ds',k2,k3,k4⟩:=hf j hj';obtain ⟨u,k5,k6⟩:=hrow _ _ k3 k4;obtain ⟨kl,k7⟩:=aQ2 k2;simp only [hg j hj'];refine ⟨u,k5,by rw [←Array.length_toList,k6,kl],fun i v hv=>?_⟩;rw [k6] at hv;have hi:i<k:=by rw [←kl];exact (List.getElem?_eq_some_iff.1 hv).1
 have:=k7 i hi;rw [hv] at this;show w.cell? ⟨a.block,a.off+j*k+i,none⟩=some v;rw [←this];congr 1;unfold Addr.add;cases a
 simp at hspot;subst hspot;by_cases e1:i=0
 ·subst e1;by_cases e2:j*k=0<;>simp [e2]
 by_cases e2:j*k=0<;>simp [e1,e2]
theorem nS {α:Type}{f:α→Av}(d:α)(cs:List Value)(h:aG (E0 w) [f d] cs)(h1:∀ u∈cs,u.oneCell'=true):∃ u:Value,aA (E0 w) (f d) u∧u.cells.toList=cs:=by
 unfold aG at h;obtain ⟨v,us,rfl,h2,h3⟩:=h;unfold aG at h3;subst h3;exact ⟨v,h2,by rw [tN (h1 v (by simp))]⟩
theorem aAR {α:Type}{f:α→List Av}(d:α)(cs:List Value)(h:aG (E0 w) (f d) cs)(h1:∀ u∈cs,u.oneCell'=true):∃ u:Value,aA (E0 w) (.agg (f d)) u∧u.cells.toList=cs:=
 ⟨.agg cs.toArray,by unfold aA;exact ⟨cs,rfl,h,h1⟩,by simp [Value.cells]⟩
def aD8 (enc:TypeId × Value→H)(P:Program)(w:World)(base:Nat)(spare:Nat→Bool)(held:Bool)(o:Nat)(fs:List Field)(m:Nat)(β:Type)(av:β→List Av)(wf:β→Prop):Prop:=
 ∀ (fuel:Nat) (cs:List Value),(∀ f∈fs,∃ y,DataW.trod enc P w base spare held fuel f.type ((cs.drop f.offset).take (P.cellsOf f.type))=some y∧∀ n∈DataW.weights P f.type y.1,n≤reachBytes)→∃ d:β,wf d∧aG (E0 w) (av d) ((cs.drop o).take m)∧∀ u∈(cs.drop o).take m,u.oneCell'=true
theorem wF {o:Nat}:aD8 enc P w base spare held o [] 0 Unit (fun _=>[]) (fun _=>True):=fun fuel cs _=>⟨(),trivial,by unfold aG;simp,by simp⟩
theorem dV {o k m:Nat}{f:Field}{fs:List Field}{α β:Type}{av:α→List Av}{wf:α→Prop}{avs:β→List Av}{wfs:β→Prop}(ho:f.offset=o)(hk:P.cellsOf f.type=k)(h:kJ enc P w base spare held f.type α av wf)(hs:aD8 enc P w base spare held (o+k) fs m β avs wfs):
 aD8 enc P w base spare held o (f::fs) (k+m) (α × β) (fun d=>av d.1++avs d.2) (fun d=>wf d.1∧wfs d.2):=fun fuel cs hf=>by
 obtain ⟨y,hy,hz⟩:=hf f (by simp);rw [ho,hk] at hy;obtain ⟨a,h1,h2,h3⟩:=h _ _ _ hy hz;obtain ⟨b,h4,h5,h6⟩:=hs fuel cs fun g hg=>hf g (by simp [hg]);have e:(cs.drop o).take (k+m)=(cs.drop o).take k++(cs.drop (o+k)).take m:=by rw [List.take_add,List.drop_drop]
 refine ⟨(a,b),⟨h1,h4⟩,by rw [e];exact aG.append h2 h5,fun u hu=>?_⟩;rw [e] at hu;rcases List.mem_append.1 hu with hu|hu
 ·exact h3 u hu
 exact h6 u hu
theorem wG {T:TypeId}{fs:List Field}{m:Nat}{β:Type}{av:β→List Av}{wf:β→Prop}(hT:P.underlying T=some (.struct fs.toArray))(hm:P.cellsOf T=m)(h:aD8 enc P w base spare held 0 fs m β av wf):kJ enc P w base spare held T β av wf:=fun fuel cs y hy hz=>by
 obtain ⟨xs,n,_,rfl,hl,hlen,hg⟩:=DataW.trod_struct hT hy;obtain ⟨d,h1,h2,h3⟩:=h n cs fun f hf=>by
  obtain ⟨i,hi⟩:=List.getElem?_of_mem hf;have hlt:=(List.getElem?_eq_some_iff.1 hi).1;have:=hg i f (by simpa using hi);have hx:i<xs.length:=by rw [hlen];simpa using hlt
  rw [List.getElem?_eq_getElem hx] at this;refine ⟨_,this,fun k hk=>hz k ?_⟩;unfold DataW.weights;simp only [hT];exact DataW.weights_mem_each (j:=i) (by simp [hi]) (by simp [hx]) k hk
 have e:(cs.drop 0).take m=cs:=by rw [List.drop_zero,List.take_of_length_le (by omega)]
 rw [e] at h2 h3;exact ⟨d,h1,h2,h3⟩
theorem aHX {r:Reach}{b0:Nat}{T:TypeId}{fs:Array Field}{β:Type}{av:β→List Av}{wf:β→Prop}{v:Value}{d:DataW H}{p:List MemPlace}(hT:P.underlying T=some (.struct fs))(ho:kJ enc P w base spare held T β av wf)(hv:Value.okWide P w r b0 T v)(h:DataW.Trod enc P w base spare held T v d p)(hz:∀ n∈DataW.weights P T d,n≤reachBytes):∃ x:β,wf x∧aA (E0 w) (.agg (av x)) v:=by
 obtain ⟨cs,rfl,_⟩:=okWide_struct hT hv;obtain ⟨fuel,hf⟩:=h;obtain ⟨x,h1,h2,h3⟩:=ho _ _ _ hf hz;have e:(Value.agg cs).cells.toList=cs.toList:=by simp [Value.cells]
 rw [e] at h2 h3;exact ⟨x,h1,by unfold aA;exact ⟨cs.toList,by simp,h2,h3⟩⟩
end
theorem PC.law {P:Program}{f:FuncId}{xs:List Av}{vs:List Value}{w:World}(h:PC P f xs (vb true))(hv:aG (E0 w) xs vs)(hs:qY (E0 w):=by intro g hg;simp [aBS] at hg):Calls P f vs.toArray w fun e w'=>e=.returned (.bool true)∧Below w.heap.size w w':=
 (h (E0 w) vs (E0.good w hs) hv (fun n y hn=>by simp [aL] at hn) (fun n hn=>by simp at hn) (fun n _=>rfl)).mono fun e w' ⟨E',v,he,hw,hG,hK,hr,_⟩=>by
  unfold aA at hr;subst hr;subst hw;exact ⟨he,⟨hK.os,hK.tape,hK.output,hK.size,fun k hk=>hK.keep k hk fun n h=>(by cases h)⟩⟩
end Go.Proofs.YtgajclaoaphgoaaGreatDoor
namespace Go.Proofs.YtgajclaoaphgoaaGreatDoor
open Go.RowKit
def mP : List (String × DataW Unit) := [("unicode/utf8.acceptRanges", Rows.laid_unicode_utf8_acceptRanges), ("unicode/utf8.first", Rows.laid_unicode_utf8_first)]
theorem aHZ {w:World}(h:w.ShapedOpen Tryz.prog):qY (E0 w):=fun g hg=>by
 have e:g=0:=by simpa [aBS] using hg
 subst e;obtain ⟨m,hm⟩:=Tryz.laysM219.s1_3 w h;exact ⟨E0.ok (aQ3 hm).2,m,hm⟩
theorem aHV (os:Os)(args:Array Value):((World.laidAll Tryz.prog os mP).forCall (fun _ _=>0) ⟨#[],args,[]⟩).Shaped Tryz.prog:=World.shaped_of_ZipB (by kernel_rfl) (by kernel_rfl)
theorem aHW (os:Os)(args:Array Value):laidMetH Tryz.prog mP ((World.laidAll Tryz.prog os mP).forCall (fun _ _=>0) ⟨#[],args,[]⟩).memory:=by
 rw [MakeChecks.laidMetH_plain _ _ _ (by kernel_rfl)];exact laidMet_laidAll _ (by kernel_rfl) (by kernel_rfl)
theorem aHU {a:Assume}{C:Checked}{os:Os}{f:FuncId}{fn:Func}{H:Type}{enc:TypeId × Value→H}{s:ChangeSpec}{conds:List PathCond}{apart fresh handsOn again:Bool}{X:World→Array Value→Prop}
 (hX:∀ (w w':World) (args:Array Value),w.heap=w'.heap→X w args→X w' args)
 (own:ownKnob C.prog.godebug=none) (started:os.Started) (noInit:C.prog.inits.idxOf? f=none) (hfn:C.prog.funcs[f]?=some fn)
 (witness:∃ (w:World) (tape:Tape) (i:Input),w.os=os∧(w.forCall tape i).Shaped C.prog∧i.vars=[]∧Input.okWide C.prog (w.forCall tape i) .any w.heap.size f i∧
  ((s.pre enc C.prog fn conds apart (w.forCall tape i).memory i.args∧X (w.forCall tape i).memory i.args)∧sizedMet enc C.prog fn (OpenSpec.ofChange s) apart (w.forCall tape i).memory i.args)∧a.holds C.prog (lone (Frame.enter C.prog f i.args .normal) [] (w.forCall tape i)))
 (contract:∀ (W:World) (base:Nat) (args:Array Value) (ds gs:List (DataW H)) (before:List MemPlace),W.ShapedOpen C.prog→
  (∀ (j:Nat) t v,fn.params[j]?=some t→args[j]?=some v→Value.okWide C.prog W .any base t v)→
  DataW.Whole enc C.prog fn.params.toList s.vars apart W args.toList ds gs before→
  (DataW.weightsEach C.prog (fn.params.toList++s.plain.varTypes C.prog) (ds++gs)).all (·≤reachBytes)=true→
  Calls C.prog f args W fun e W'=>∃ v,e=.returned v∧s.post enc C.prog fn apart fresh handsOn again W args v W'):
 ReturnsInHanded a C os f .any (fun w args=>(s.pre enc C.prog fn conds apart w args∧X w args)∧sizedMet enc C.prog fn (OpenSpec.ofChange s) apart w args) (s.post enc C.prog fn apart fresh handsOn again):=by
 refine returnsInHanded_of_calls own started noInit witness ?_;intro w tape i _ hsh _ hok hpre hholds;obtain ⟨_,_,_,fn',hfn',_,_,_,_,hval⟩:=hok;have e:fn'=fn:=Option.some.inj (hfn'.symm.trans hfn);subst e;obtain ⟨⟨⟨ds,gs,before,hw,hc⟩,hx⟩,hz⟩:=hpre;have hw':=DataW.Whole.of_heap (w':=w.forCall tape i) (by rfl) hw;refine (contract (w.forCall tape i) w.heap.size i.args ds gs before hsh hval hw' (hz.weights hw)).mono fun e W' ⟨v,he,hp⟩=>?_;subst he;exact ChangeSpec.post_blind hp
mutual
theorem yD {Z:List Nat}{a b:Nat}(ha:a∈Z)(hb:b∈Z):∀ x:Av,aE Z x→x.ren (fI a b)=x
 | .any,_=>by unfold Av.ren;rfl
 | .val v,_=>by unfold Av.ren;rfl
 | .sl k n row,h=>by unfold aE at h;unfold Av.ren;congr 1;funext j;exact yD ha hb (row j) (h j)
 | .ptr x,h=>by unfold aE at h;unfold Av.ren;rw [yD ha hb x h]
 | .agg cs,h=>by unfold aE at h;unfold Av.ren;rw [aAW ha hb cs h]
 | .tup cs,h=>by unfold aE at h;unfold Av.ren;rw [aAW ha hb cs h]
 | .clo _ cs,h=>by unfold aE at h;unfold Av.ren;rw [aAW ha hb cs h]
 | .bm _ cs,h=>by unfold aE at h;unfold Av.ren;rw [aAW ha hb cs h]
 | .own n off,h=>by unfold aE at h;unfold Av.ren;rw [tA (a:=a) (b:=b) (fun e=>h (by rw [e];exact ha)) (fun e=>h (by rw [e];exact hb))]
 | .osl k n len,h=>by unfold aE at h;unfold Av.ren;rw [tA (a:=a) (b:=b) (fun e=>h (by rw [e];exact ha)) (fun e=>h (by rw [e];exact hb))]
 | .oss n off len,h=>by unfold aE at h;unfold Av.ren;rw [tA (a:=a) (b:=b) (fun e=>h (by rw [e];exact ha)) (fun e=>h (by rw [e];exact hb))]
 | .mp n,h=>by unfold aE at h;unfold Av.ren;rw [tA (a:=a) (b:=b) (fun e=>h (by rw [e];exact ha)) (fun e=>h (by rw [e];exact hb))]
 | .fm P k e D,_=>by unfold Av.ren;rfl
 | .frz q T xs,_=>by unfold Av.ren;rfl
 | .gd c x,h=>by unfold aE at h;unfold Av.ren;rw [yD ha hb x h]
 | .nz x,h=>by unfold aE at h;unfold Av.ren;rw [yD ha hb x h]
theorem aAW {Z:List Nat}{a b:Nat}(ha:a∈Z)(hb:b∈Z):∀ xs:List Av,dL Z xs→mY (fI a b) xs=xs
 | [],_=>by unfold mY;rfl
 | x::xs,h=>by unfold dL at h;unfold mY;rw [yD ha hb x h.1,aAW ha hb xs h.2]
end
mutual
theorem yE {a:Nat}{Z:List Nat}:∀ x:Av,aE (a::Z) x→aE Z x
 | .any,_=>by unfold aE;trivial
 | .val v,_=>by unfold aE;trivial
 | .sl k n row,h=>by unfold aE at h ⊢;exact fun j=>yE (row j) (h j)
 | .ptr x,h=>by unfold aE at h ⊢;exact yE x h
 | .agg cs,h=>by unfold aE at h ⊢;exact aAX cs h
 | .tup cs,h=>by unfold aE at h ⊢;exact aAX cs h
 | .clo _ cs,h=>by unfold aE at h ⊢;exact aAX cs h
 | .bm _ cs,h=>by unfold aE at h ⊢;exact aAX cs h
 | .own n off,h=>by unfold aE at h ⊢;exact fun hn=>h (List.mem_cons_of_mem _ hn)
 | .osl k n len,h=>by unfold aE at h ⊢;exact fun hn=>h (List.mem_cons_of_mem _ hn)
 | .oss n off len,h=>by unfold aE at h ⊢;exact fun hn=>h (List.mem_cons_of_mem _ hn)
 | .mp n,h=>by unfold aE at h ⊢;exact fun hn=>h (List.mem_cons_of_mem _ hn)
 | .fm P k e D,_=>by unfold aE;trivial
 | .frz q T xs,_=>by unfold aE;trivial
 | .gd c x,h=>by unfold aE at h ⊢;exact yE x h
 | .nz x,h=>by unfold aE at h ⊢;exact yE x h
theorem aAX {a:Nat}{Z:List Nat}:∀ xs:List Av,dL (a::Z) xs→dL Z xs
 | [],_=>by unfold dL;trivial
 | x::xs,h=>by unfold dL at h ⊢;exact ⟨yE x h.1,aAX xs h.2⟩
end
def rV (a b:Nat)(Z:List Nat)(x' x:Av):Prop:=(x'=x∧aE (a::Z) x)∨((∃ k len,x=.osl k a len∧x'=.osl k b len)∨∃ off,x=.own a off∧x'=.own b off)
def uP (a b:Nat)(Z:List Nat):List Av→List Av→Prop
 | [],[]=>True
 | x::xs,y::ys=>rV a b Z x y∧uP a b Z xs ys
 | _,_=>False
theorem aJI {a b:Nat}{Z:List Nat}:∀ {xs:List Av},(∀ z∈xs,aE (a::Z) z)→uP a b Z xs xs
 | [],_=>trivial
 | x::xs,h=>⟨.inl ⟨rfl,h x (by simp)⟩,aJI fun z hz=>h z (by simp [hz])⟩
theorem aRB {a b:Nat}{Z:List Nat}:∀ {xs ys:List Av},uP a b Z xs ys→∀ (i:Nat) (y:Av),ys[i]?=some y→∃ x,xs[i]?=some x∧rV a b Z x y
 | [],[],_,i,y,h=>by simp at h
 | x::xs,y::ys,h,0,z,hz=>by simp at hz;subst hz;exact ⟨x,rfl,h.1⟩
 | x::xs,y::ys,h,i+1,z,hz=>by
  obtain ⟨u,h1,h2⟩:=aRB h.2 i z (by simpa using hz);exact ⟨u,by simpa using h1,h2⟩
 | [],_::_,h,_,_,_=>h.elim
 | _::_,[],h,_,_,_=>h.elim
theorem aRC {a b:Nat}{Z:List Nat}:∀ {xs ys:List Av},uP a b Z xs ys→xs.length=ys.length
 | [],[],_=>rfl
 | x::xs,y::ys,h=>by simp [aRC h.2]
 | [],_::_,h=>h.elim
 | _::_,[],h=>h.elim
def aEE (a b:Nat)(Z:List Nat)(σ:List (Nat × Av)):List (Nat × Av)→Prop
 | []=>True
 | (t,x)::r=>rV a b Z (bN σ t) x∧aEE a b Z σ r
def uQ (a b:Nat)(Z:List Nat)(η:List (Nat × Hs))(n:Nat)(y:Hs):Prop:=
 (n=a∧∃ T cs cs',y=.live T cs∧aL η b=some (.live T cs')∧uP a b Z cs' cs)∨(n∈Z∧n≠a∧y=.unborn)∨(n≠a∧n≠b∧n∉Z∧((∃ T cs cs',y=.live T cs∧aL η n=some (.live T cs')∧uP a b Z cs' cs)∨(y=.dead∧aL η n=some .dead)∨∃ P k e D,y=.map P k e D∧aL η n=some y))
def aEF (a b:Nat)(Z:List Nat)(η:List (Nat × Hs)):List (Nat × Hs)→Prop
 | []=>True
 | (n,y)::r=>uQ a b Z η n y∧aEF a b Z η r
theorem aRD {a b:Nat}{Z:List Nat}{σ:List (Nat × Av)}:∀ {τ:List (Nat × Av)},aEE a b Z σ τ→∀ t,bN τ t=.any∨rV a b Z (bN σ t) (bN τ t)
 | [],_,t=>.inl rfl
 | (u,x)::r,h,t=>by
  by_cases e:u=t
  ·subst e;rw [lE];exact .inr h.1
  rw [lS _ _ e];exact aRD h.2 t
theorem aRE {a b:Nat}{Z:List Nat}{η:List (Nat × Hs)}:∀ {τ:List (Nat × Hs)},aEF a b Z η τ→∀ n y,aL τ n=some y→uQ a b Z η n y
 | [],_,n,y,h=>by simp [aL] at h
 | (u,x)::r,h,n,y,hy=>by
  by_cases e:u=n
  ·subst e;simp [aL] at hy;subst hy;exact h.1
  simp only [aL,eY e,cond_false] at hy;exact aRE h.2 n y hy
theorem aJJ (a b:Nat):fI a b a=b:=by simp [fI]
theorem aRF {E:Env}{a b:Nat}{Z:List Nat}(haZ:a∉Z)(hbZ:b∈Z){x' x:Av}(h:rV a b Z x' x){v:Value}(hv:aA E x' v):aA ((E.ren (fI a b)).reset Z) x v:=by
 rcases h with ⟨rfl,h⟩|⟨k,len,rfl,rfl⟩|⟨off,rfl,rfl⟩
 ·refine aA.reset _ _ (yE _ h) (aA.ren _ _ ?_);rwa [yD (by simp) (List.mem_cons_of_mem _ hbZ) _ h]
 ·refine aA.reset _ _ (by unfold aE;exact haZ) (aA.ren _ _ ?_);unfold Av.ren;rwa [aJJ]
 refine aA.reset _ _ (by unfold aE;exact haZ) (aA.ren _ _ ?_);unfold Av.ren;rwa [aJJ]
theorem Le.turn {N:Nat}{D:List Nat}{Γ τ:Ctx}(a b:Nat)(Z:List Nat)(ha:a∉D)(hD:∀ n∈D,n∉Z)(haZ:a∉Z)(hbZ:b∈Z)(hs:aEE a b Z Γ.s τ.s)(hh:aEF a b Z Γ.h τ.h):Le N D Γ τ:=fun E x hF=>by
 have hb:b∉D:=fun h=>hD b h hbZ;have hDs:∀ n∈D,fI a b n=n:=fun n hn=>tA (fun e=>ha (e ▸ hn)) (fun e=>hb (e ▸ hn));have hl:∀ n∈D,((E.ren (fI a b)).reset Z).loc n=E.loc n:=fun n hn=>by simp [Env.ren,Env.reset,hDs n hn,hD n hn]
 have hr:∀ {n c:Nat},((E.ren (fI a b)).reset Z).loc n=.at c→E.loc (fI a b n)=.at c:=fun {n c} h=>(wK h:(E.ren (fI a b)).loc n=.at c)
 have keepL:∀ n,n≠a→n≠b→n∉Z→((E.ren (fI a b)).reset Z).loc n=E.loc n:=fun n h1 h2 h3=>by simp [Env.ren,Env.reset,tA h1 h2,h3]
 have newL:((E.ren (fI a b)).reset Z).loc a=E.loc b:=by simp [Env.ren,Env.reset,aJJ,haZ]
 have live:∀ {n m T cs cs'},((E.ren (fI a b)).reset Z).loc n=E.loc m→dI E m (.live T cs')→uP a b Z cs' cs→dI ((E.ren (fI a b)).reset Z) n (.live T cs):=fun {n m T cs cs'} he hm ht=>by
  rcases hm with ⟨h2,h3⟩|⟨c,cur,h2,h3,h4⟩
  ·refine .inl ⟨he.trans h2,?_⟩;have:=aRC ht;rw [h3] at this;exact List.eq_nil_of_length_eq_zero this.symm
  refine .inr ⟨c,cur,he.trans h2,h3,fun i z hz=>?_⟩;obtain ⟨z',h5,h6⟩:=aRB ht i z hz;obtain ⟨u,h7,h8,h9⟩:=h4 i z' h5;exact ⟨u,h7,h8,aRF haZ hbZ h6 h9⟩
 refine ⟨(E.ren (fI a b)).reset Z,rfl,⟨rfl,rfl,rfl,Nat.le_refl _,rfl,fun _ _ _=>rfl,fun n c hc=>.inr ⟨_,hr hc⟩,fun n hn=>by rw [hl n hn];exact hF.born n hn,fun n hn h=>by rwa [hl n hn] at h,fun n hn c hc=>⟨by rwa [hl n hn] at hc,fun cur t hc=>⟨cur,hc,rfl⟩⟩⟩,
  ⟨⟨hF.good.old,fun n m c hn hm=>aRG a b n m (hF.good.inj _ _ c (hr hn) (hr hm)),fun n c hn=>hF.good.lt _ c (hr hn),hF.good.shp.same fun c hc=>⟨⟨hc.1,hc.2.1,fun n hn=>hc.2.2 _ (hr hn)⟩,rfl⟩⟩,hF.size,fun n hn=>by rw [hl n hn];exact hF.born n hn,fun t=>?_,fun n y hy=>?_⟩⟩
 ·rcases aRD hs t with h1|h1
  ·rw [h1];unfold aA;trivial
  exact aRF haZ hbZ h1 (hF.holds.1 t)
 rcases aRE hh n y hy with ⟨rfl,T,cs,cs',rfl,h2,h3⟩|⟨h1,_,rfl⟩|⟨h1,h2,h3,⟨T,cs,cs',rfl,h4,h5⟩|⟨rfl,h4⟩|⟨P,k,e,M,rfl,h4⟩⟩
 ·exact live newL (hF.holds.2 _ _ h2) h3
 ·show ((E.ren (fI a b)).reset Z).loc n=.unborn;simp [Env.reset,h1]
 ·exact live (keepL n h1 h2 h3) (hF.holds.2 _ _ h4) h5
 ·exact (keepL n h1 h2 h3).trans (hF.holds.2 _ _ h4)
 obtain ⟨c,m,h5,h6⟩:=hF.holds.2 _ _ h4;exact ⟨c,m,(keepL n h1 h2 h3).trans h5,h6⟩
theorem gZ {a b:Nat}{Z:List Nat}{x' x:Av}(e:x'=x)(h:aE (a::Z) x):rV a b Z x' x:=.inl ⟨e,h⟩
theorem qM {a b:Nat}{Z:List Nat}{x' x:Av}(e:x'=x)(h:aN x):rV a b Z x' x:=.inl ⟨e,aE.of_pure _ h⟩
theorem aIA {a b:Nat}{Z:List Nat}{m n:Int}(e:m=n):rV a b Z (vi m) (vi n):=.inl ⟨by rw [e],by simp [aE]⟩
theorem xR {a b:Nat}{Z:List Nat}{k m n:Nat}(e:m=n):rV a b Z (.osl k b m) (.osl k a n):=.inr (.inl ⟨k,n,rfl,by rw [e]⟩)
theorem mF {a b:Nat}{Z:List Nat}{η:List (Nat × Hs)}{T:TypeId}{cs:List Av}(h:aL η b=some (.live T cs))(hn:∀ z∈cs,aE (a::Z) z):uQ a b Z η a (.live T cs):=.inl ⟨rfl,T,cs,cs,rfl,h,aJI hn⟩
theorem iD {a b:Nat}{Z:List Nat}{η:List (Nat × Hs)}{n:Nat}(h:n∈Z)(hn:n≠a):uQ a b Z η n .unborn:=.inr (.inl ⟨h,hn,rfl⟩)
theorem iJ {a b:Nat}{Z:List Nat}{η:List (Nat × Hs)}{n:Nat}{T:TypeId}{cs:List Av}(h1:n≠a)(h2:n≠b)(h3:n∉Z)(h:aL η n=some (.live T cs))(hn:∀ z∈cs,aE (a::Z) z):uQ a b Z η n (.live T cs):=.inr (.inr ⟨h1,h2,h3,.inl ⟨T,cs,cs,rfl,h,aJI hn⟩⟩)
theorem aAA {a b:Nat}{Z:List Nat}{η:List (Nat × Hs)}{n:Nat}{T:TypeId}{cs cs':List Av}(h1:n≠a)(h2:n≠b)(h3:n∉Z)(h:aL η n=some (.live T cs'))(hn:uP a b Z cs' cs):uQ a b Z η n (.live T cs):=.inr (.inr ⟨h1,h2,h3,.inl ⟨T,cs,cs',rfl,h,hn⟩⟩)
theorem aP4 {a b:Nat}{Z:List Nat}{η:List (Nat × Hs)}{n:Nat}(h1:n≠a)(h2:n≠b)(h3:n∉Z)(h:aL η n=some .dead):uQ a b Z η n .dead:=.inr (.inr ⟨h1,h2,h3,.inr (.inl ⟨rfl,h⟩)⟩)
theorem aDO {a b:Nat}{Z:List Nat}{η:List (Nat × Hs)}{n:Nat}{P:Program}{k e:TypeId}{D:DataW Unit}(h1:n≠a)(h2:n≠b)(h3:n∉Z)(h:aL η n=some (.map P k e D)):uQ a b Z η n (.map P k e D):=.inr (.inr ⟨h1,h2,h3,.inr (.inr ⟨P,k,e,D,rfl,h⟩)⟩)
theorem aIB {a b:Nat}{Z:List Nat}{off:Nat}:rV a b Z (.own b off) (.own a off):=.inr (.inr ⟨off,rfl,rfl⟩)
theorem Le.cut {N:Nat}{D:List Nat}{s:List (Nat × Av)}{h:List (Nat × Hs)}(n:Nat){T:TypeId}{cs:List Av}(cs':List Av)(hn:aL h n=some (.live T cs))(hc:∀ (i:Nat) (y:Av),cs'[i]?=some y→cs[i]?=some y):Le N D ⟨s,h⟩ ⟨s,(n,.live T cs')::h⟩:=fun E a hF=>⟨E,rfl,Kept.refl hF.born,⟨hF.good,hF.size,hF.born,hF.holds.1,fun m y hy=>by
 by_cases e:n=m
 ·subst e;simp [aL] at hy;subst hy;rcases hF.holds.2 n _ hn with ⟨h1,h2⟩|⟨b,cur,h1,h2,h3⟩
  ·refine .inl ⟨h1,?_⟩;cases cs' with
   | nil=>rfl
   | cons z r=>
    have:=hc 0 z rfl;rw [h2] at this;simp at this
  exact .inr ⟨b,cur,h1,h2,fun i z hz=>h3 i z (hc i z hz)⟩
 simp only [aL,eY e,cond_false] at hy;exact hF.holds.2 m y hy⟩⟩
theorem abZ {P:Program}{N:Nat}{D:List Nat}{x y:Code}{Q:Exit→Ctx→Prop}{Γ:Ctx}{ro:Option Nat}{ι:Type}(F:ι→Ctx)(I:ι→Prop)(h1:dW ro P N D x (wJ (fun Γ'=>∃ i,I i∧Le N D Γ' (F i)) Q) Γ)(h2:∀ i,I i→dW ro P N D y Q (F i)):dW ro P N D x (wJ (dW ro P N D y Q) Q) Γ:=aJC h1 fun e Γ' h=>by
 cases e
 case normal=>
  obtain ⟨i,hi,hl⟩:=h;exact bS hl (h2 i hi)
 all_goals exact h
theorem aeM {P:Program}{o:Oper}{ρ:Operand→Av}{p q:Operand}{T e t:TypeId}{k by_ n len:Nat}{zs:List Value}{kk:IntKind}{cs:List Av}(h:Nat)(ho:o.op=.slice T p none (some q) none)(hp:ρ p=.osl k n len)(hq:ρ q=.val (.int kk (h:Int)))(hT:eB P T=some e)(hi:lW P e=some (k,by_,zs))(hl:h≤len):OC P o ρ [(n,.live t cs)] (.osl k n h) []:=bZ fun E a hG hr hH=>by
 have h1:=hr p (by simp [ho,Op.operands]);have h2:=hr q (by simp [ho,Op.operands]);rw [hp] at h1;rw [hq] at h2;unfold aA at h1 h2;have hform:∃ A c,a.eval p=.slice A len c∧len≤c∧(E.loc n=.nil→A=none∧c=0)∧∀ b,E.loc n=.at b→A=some ⟨b,0,none⟩∧c≤maxLen∧∃ cur t,E.w.heap[b]?=some (.cells cur t (0,0))∧cur.size=c*k:=by
  rcases hH n (.live t cs) (by simp) with ⟨h3,_⟩|⟨b,cur,h3,_⟩
  ·obtain ⟨h4,rfl⟩:=h1.1.2.2 h3;exact ⟨none,0,h4,Nat.le_refl _,fun _=>⟨rfl,rfl⟩,fun b hb=>by rw [h3] at hb;cases hb⟩
  obtain ⟨c,cur,t,h4,h5,h6,h7,h8⟩:=h1.2 b h3;exact ⟨_,c,h4,h5,(fun (hn:E.loc n=.nil)=>by rw [h3] at hn;cases hn),fun b' hb=>by rw [h3] at hb;injection hb with hb;subst hb;exact ⟨rfl,h6,cur,t,h7,h8⟩⟩
 obtain ⟨A,c,h3,h4,h5,h6⟩:=hform;have hs:sliced A 0 h c k=.slice A h c:=by
  unfold sliced;cases A with
  | none=>simp
  | some ad=>by_cases e0:c=0<;>simp [e0,Addr.add]
 refine ⟨_,aJK ho hT hi h3 h4 (.inl ⟨rfl,rfl⟩) (.inr ⟨q,kk,rfl,h2⟩) (Nat.zero_le _) hl,?_⟩;rw [hs];unfold aA;refine ⟨⟨h1.1.1,⟨_,_,rfl⟩,fun hn=>?_⟩,fun b hb=>?_⟩
 ·obtain ⟨rfl,rfl⟩:=h5 hn;have:h=0:=by omega
  subst this;exact ⟨rfl,rfl⟩
 obtain ⟨rfl,h7,cur,t,h8,h9⟩:=h6 b hb;exact ⟨c,cur,t,rfl,by omega,h7,h8,h9⟩
section
variable {P:Program}{o:Oper}{x y:Av}{p q:Operand}{ρ:Operand→Av}{T:TypeId}
theorem faI {i:Nat}{cs:List Av}(ho:o.op=.fieldAddr T p i:=by rfl)(hp:ρ p=.ptr x:=by rfl)(hx:x=.agg cs:=by rfl)(hf:rR P T i=some (i,1,false):=by kernel_rfl)(hy:cs[i]?=some y:=by rfl):OC P o ρ [] (.ptr y) []:=aQ6 ho hp hx hf hy
end
structure Bx (R:Prop):Prop where
 out:R
theorem V {G R:Prop}(h:R)(w:Bx R→G:=by
 intro h
 repeat (first
  | refine Z1 mo ?_|refine Z1 aB ?_|refine cn ?_|refine Z1 ld ?_|refine Z1 faI ?_|refine Z4 (fun hC=>mo) ?_|refine Z1 ln ?_|refine Z1 lr ?_|refine Z1 ba ?_|refine Z1 iP ?_|refine Z1 bml ?_|refine Z1 bz ?_|refine Z1 ia ?_|refine Z1 bx ?_|refine Z1 ex ?_|refine Z1 an ?_|refine Z1 cC ?_|refine Z1 nt ?_|refine Z5 ?_|refine Z6 ?_
  | refine bG ?_|refine dO ?_|refine Z1 nc ?_|refine Z1 oG ?_|refine Z1 sT ?_|refine Z1 sK ?_|refine Z4 (fun hC=>ld) ?_|refine Z4 (fun hC=>faI) ?_|refine Z4 (fun hC=>bz) ?_|refine Z4 (fun hC=>ln) ?_|refine Z4 (fun hC=>nt) ?_)
 exact h.out):G:=w ⟨h⟩
theorem W {G R:Prop}(h:R)(w:Bx R→G:=by
 intro h
 repeat (first
  | refine Z1 mo ?_|refine Z1 aB ?_|refine cn ?_|refine sq ?_|refine Z1 ld ?_|refine Z1 faI ?_|refine Z4 (fun hC=>mo) ?_|refine Z1 ln ?_|refine Z1 lr ?_|refine Z1 ba ?_|refine Z1 iP ?_|refine Z1 bml ?_|refine Z1 bz ?_|refine Z1 ia ?_|refine tx ?_|refine Z1 bx ?_|refine Z1 ex ?_|refine Z1 an ?_|refine Z1 cC ?_|refine Z1 nt ?_|refine Z5 ?_|refine Z6 ?_
  | refine bG ?_|refine dO ?_|refine Z1 nc ?_|refine Z1 oG ?_|refine Z1 sT ?_|refine Z1 sK ?_|refine Z4 (fun hC=>ld) ?_|refine Z4 (fun hC=>faI) ?_|refine Z4 (fun hC=>bz) ?_|refine Z4 (fun hC=>ln) ?_|refine Z4 (fun hC=>nt) ?_|refine aQ ?_|refine bU ?_|refine aP ?_|refine aU ?_|refine aD ?_)
 exact h.out):G:=w ⟨h⟩
class Nn (cs:List Av):Prop where
 out:∀ Z:List Nat,∀ z∈cs,aE Z z
instance:Nn []:=⟨fun Z z h=>by cases h⟩
instance (x:Av) (cs:List Av) [a:Pu x] [b:Nn cs]:Nn (x::cs):=⟨fun Z z h=>by
 rcases List.mem_cons.1 h with rfl|h
 ·exact aE.of_pure _ a.out
 exact b.out Z z h⟩
instance {α:Type} (f:α→Av) (l:List α) [a:∀ u,Pu (f u)]:Nn (l.map f):=⟨fun Z z h=>by
 obtain ⟨u,_,rfl⟩:=List.mem_map.1 h;exact aE.of_pure _ (a u).out⟩
instance (cs ds:List Av) [a:Nn cs] [b:Nn ds]:Nn (cs++ds):=⟨fun Z z h=>by
 rcases List.mem_append.1 h with h|h
 ·exact a.out Z z h
 exact b.out Z z h⟩
section
variable {N:Nat}{D:List Nat}{Γ τ:Ctx}
theorem LS (hs:wT Γ.s τ.s:=by repeat (first|exact trivial|refine ⟨.inr rfl,?_⟩|refine ⟨.inr (aR (by omega)),?_⟩))(hh:jU Γ.h τ.h:=by repeat (first|exact trivial|refine ⟨rfl,?_⟩)):Le N D Γ τ:=Le.sub hs hh
theorem LT (a b:Nat)(Z:List Nat)(ha:a∉D:=by simp)(hD:∀ n∈D,n∉Z:=by simp)(haZ:a∉Z:=by decide)(hbZ:b∈Z:=by decide)
 (hs:aEE a b Z Γ.s τ.s:=by repeat (first|exact trivial|refine ⟨qM rfl Pu.out,?_⟩|refine ⟨aIB,?_⟩|refine ⟨xR (by simp),?_⟩|refine ⟨aIA (by omega),?_⟩|refine ⟨gZ rfl (by simp [aE,dL]),?_⟩))
 (hh:aEF a b Z Γ.h τ.h:=by repeat (first|exact trivial|refine ⟨iD (by decide) (by decide),?_⟩|refine ⟨mF rfl (by first|exact Nn.out _|simp [aE]),?_⟩|refine ⟨iJ (by decide) (by decide) (by decide) rfl (by first|exact Nn.out _|simp [aE]),?_⟩|refine ⟨aDO (by decide) (by decide) (by decide) rfl,?_⟩|refine ⟨aP4 (by decide) (by decide) (by decide) rfl,?_⟩|refine ⟨aAA (by decide) (by decide) (by decide) rfl ⟨xR (by simp),trivial⟩,?_⟩)):Le N D Γ τ:=Le.turn a b Z ha hD haZ hbZ hs hh
theorem aAD {Z:List Nat}{η:List (Nat × Hs)}{n:Nat}(h:n∈Z):if n∈Z then Hs.unborn=.unborn else aL η n=some .unborn∧True:=by rw [if_pos h]
theorem sX {Z:List Nat}{η:List (Nat × Hs)}{n:Nat}{T:TypeId}{cs:List Av}(h:n∉Z)(h1:aL η n=some (.live T cs))(h2:∀ z∈cs,aE Z z):if n∈Z then Hs.live T cs=.unborn else aL η n=some (.live T cs)∧∀ z∈cs,aE Z z:=by rw [if_neg h];exact ⟨h1,h2⟩
theorem sW {Z:List Nat}{η:List (Nat × Hs)}{n:Nat}{y:Hs}(h:n∉Z)(h1:aL η n=some y):if n∈Z then y=.unborn else aL η n=some y∧True:=by rw [if_neg h];exact ⟨h1,trivial⟩
theorem LR (Z:List Nat)(hD:∀ n∈D,n∉Z:=by simp)(hs:wT Γ.s τ.s:=by repeat (first|exact trivial|refine ⟨.inr rfl,?_⟩|refine ⟨.inr (aR (by omega)),?_⟩))(hS:wR Z τ.s:=by repeat (first|exact trivial|refine ⟨aE.of_pure _ Pu.out,?_⟩|refine ⟨by simp [aE,dL],?_⟩))
 (hH:lK Γ.h Z τ.h:=by repeat (first|exact trivial|refine ⟨aAD (by decide),?_⟩|refine ⟨sX (by decide) rfl (by first|exact Nn.out _|simp [aE]),?_⟩|refine ⟨sW (by decide) rfl,?_⟩)):Le N D Γ τ:=Le.reset Z hD hs hS hH
end
open Go.RowKit Go.Maps
def aPA (P:Program)(T:TypeId):Option (TypeId × TypeId):=match P.underlying T with|some (.map k e)=>some (k,e)|_=>none
theorem wL {P:Program}{T k e:TypeId}(h:aPA P T=some (k,e)):P.underlying T=some (.map k e):=by
 unfold aPA at h;split at h
 ·rename_i hu;injection h with h
  injection h with h1 h2
  subst h1;subst h2
  exact hu
 cases h
def wM (P:Program)(e:TypeId):Option IntKind:=match P.underlying e with|some (.int q)=>some q|_=>none
theorem aEJ {P:Program}{e:TypeId}{q:IntKind}(h:wM P e=some q):P.underlying e=some (.int q):=by
 unfold wM at h;split at h
 ·rename_i hu;injection h with h
  subst h;exact hu
 cases h
theorem Step.turn {E:Env}(hG:Good E){n b:Nat}(hn:E.loc n=.at b)(hnc:∀ cur t,E.w.heap[b]?≠some (.cells cur t (0,0))){w':World}(hg:E.w.grownBy w' (some b)):Step E { E with w:=w' } [n]∧Good { E with w:=w' }:=by
 refine ⟨⟨hg.os,hg.tape,hg.output,hg.size,rfl,fun c hc hno=>hg.block c hc fun e=>?_,fun m hm=>⟨rfl,fun c hc=>hg.block c (hG.lt m c hc).1 fun e=>?_⟩,fun m h=>h,fun m c h=>.inl h,fun m h=>.inl h,fun m c cur t hc hc' hcur=>?_⟩,fun c hc=>Nat.lt_of_lt_of_le (hG.old c hc) hg.size,hG.inj,fun m c hc=>⟨Nat.lt_of_lt_of_le (hG.lt m c hc).1 hg.size,(hG.lt m c hc).2⟩,hG.shp.same fun c hc=>⟨⟨Nat.lt_of_lt_of_le hc.1 hg.size,hc.2.1,hc.2.2⟩,hg.block c hc.1 fun e=>by injection e with e;exact hc.2.2 n (e ▸ hn)⟩⟩
 ·injection e with e
  exact hno n (e ▸ hn)
 ·injection e with e
  subst e;exact hm (by simp [hG.inj m n c hc hn])
 refine ⟨cur,?_,rfl⟩;have hlt:=(Array.getElem?_eq_some_iff.1 hcur).1;rw [hg.block c hlt fun e=>?_]
 ·exact hcur
 injection e with e
 subst e;exact hnc _ _ hcur
theorem aRN {w:World}{P:Program}{k e:TypeId}{b n:Nat}{D:DataW Unit}(h:w.ownsMap P k (plainElem P e) b n D):∀ cur t,w.heap[b]?≠some (.cells cur t (0,0)):=fun cur t hc=>by
 obtain ⟨es,clock,h1,_⟩:=h;rw [h1] at hc;cases hc
theorem afD {w:World}{P:Program}{k e:TypeId}{b r n c:Nat}{D:DataW Unit}{left:Lit→Bool}(h:w.ranges P k (plainElem P e) b r n D left c):∀ cur t,w.heap[r]?≠some (.cells cur t (0,0)):=fun cur t hc=>by
 obtain ⟨es,clock,since,seen,c0,_,_,_,_,h5,_⟩:=h;rw [h5] at hc;cases hc
theorem aRO {w:World}{P:Program}{k e:TypeId}{b n:Nat}{D:DataW Unit}(h:w.ownsMap P k (plainElem P e) b n D):w.ownsMap P k (plainElem P e) b (Maps.size D) D:=by
 obtain ⟨es,clock,h1,F,_,rfl⟩:=h;refine ⟨es,clock,h1,F,?_,rfl⟩;rw [Maps.size_eq,length_sorted];simp
section
variable {P:Program}{o:Oper}{ρ:Operand→Av}{p q r:Operand}{T k e:TypeId}{kk:IntKind}{D:DataW Unit}
theorem xJ (m:Nat)(ho:o.op=.makeMap T none)(hT:aPA P T=some (k,e)):OC P o ρ [(m,.unborn)] (.mp m) [(m,.map P k e (.map []))]:=by
 intro E a hG hr hH;have hn:E.loc m=.unborn:=hH m .unborn (by simp);unfold eK execOp;simp only [ho,Option.map_none,Sem.run_bind,run_makeMap,Result.andThen_ok,Sem.run_pure,fM];have hb:Below E.w.heap.size E.w (E.w.alloc (.map #[] 0)):=(Below.refl _ _).alloc (Nat.le_refl _) _;refine ⟨E.give (E.w.alloc (.map #[] 0)) m E.w.heap.size,rfl,Step.give hG hb hn (Nat.le_refl _),hG.give hb (Nat.le_refl _) (by simp),?_,fun i y hy=>?_⟩
 ·unfold aA;refine ⟨⟨by simp [Env.give],_,rfl⟩,fun b hb=>?_⟩;simp [Env.give] at hb;rw [hb]
 simp only [aL] at hy;by_cases e1:m=i
 ·subst e1;simp at hy;subst hy;exact ⟨E.w.heap.size,0,by simp [Env.give],World.ownsMap_made E.w P k (plainElem P e)⟩
 rw [eY e1,cond_false] at hy;cases hy
theorem aCI {n:Nat}{key:Value}{kl:Lit}{c:Int}(K:Keyed P k)(ho:o.op=.mapUpdate T p q r)(hp:ρ p=.mp n)(hq:ρ q=.val key)(hr':ρ r=.val (.int kk c))(hT:aPA P T=some (k,e))(he:wM P e=some kk)(hkey:keyOf P k key=some kl)(hw:(Lit.int kk c).wf=true)(hs:Maps.size D<maxLen):
 OC P o ρ [(n,.map P k e D)] .any [(n,.map P k e (D.put kl (.lit (.int kk c))))]:=by
 intro E a hG hr hH;have h1:=hr p (by simp [ho,Op.operands]);have h2:=hr q (by simp [ho,Op.operands]);have h3:=hr r (by simp [ho,Op.operands]);rw [hp] at h1;rw [hq] at h2;rw [hr'] at h3;unfold aA at h1 h2 h3;obtain ⟨b,m,h4,h5⟩:=hH n (.map P k e D) (by simp);obtain ⟨w',hrun,h6,h7⟩:=(aRO h5).update K (wL hT) hs hkey (plainElem_int (H:=Unit) (aEJ he) hw);unfold eK execOp;simp only [ho,h1.2 b h4,h2,h3,Sem.run_bind,hrun,Result.andThen_ok,Sem.run_pure,fM];obtain ⟨hS,hG'⟩:=Step.turn hG h4 (aRN h5) h7;refine ⟨{ E with w:=w' },rfl,hS,hG',by unfold aA;trivial,fun i y hy=>?_⟩;simp only [aL] at hy
 by_cases e1:n=i
 ·subst e1;simp at hy;subst hy;exact ⟨b,_,h4,h6⟩
 rw [eY e1,cond_false] at hy;cases hy
theorem aJQ {P:Program}{e:TypeId}{z:Value}(h:(P.info? e).bind (·.zero)=some z)(w:World):(zeroValue e).run P w=.ok z w:=by
 cases hi:P.info? e with
 | none=>simp [hi] at h
 | some i=>
  cases hz:i.zero with
  | none=>simp [hi,hz] at h
  | some y=>
   simp [hi,hz] at h;subst h;simp [zeroValue,typeInfo,hi,hz,Sem.run_bind]
theorem aCG {n:Nat}{key:Value}{kl:Lit}{c:Int}(K:Keyed P k)(ho:o.op=.lookup T p q false)(hp:ρ p=.mp n)(hq:ρ q=.val key)(hT:aPA P T=some (k,e))(he:wM P e=some kk)(hz:(P.info? e).bind (·.zero)=some (.int kk 0))(hkey:keyOf P k key=some kl)(hat:D.atKey kl (.lit (.int kk 0))=.lit (.int kk c)):
 OC P o ρ [(n,.map P k e D)] (.val (.int kk c)) []:=bZ fun E a hG hr hH=>by
 have h1:=hr p (by simp [ho,Op.operands]);have h2:=hr q (by simp [ho,Op.operands]);rw [hp] at h1;rw [hq] at h2;unfold aA at h1 h2;obtain ⟨b,m,h4,h5⟩:=hH n (.map P k e D) (by simp);obtain ⟨c',hrun,hat',_⟩:=h5.lookup_int K (wL hT) (aEJ he) (aJQ hz E.w) hkey;rw [hat] at hat';injection hat' with hat'
 injection hat' with _ hat'
 subst hat';refine ⟨.int kk c,?_,by unfold aA;rfl⟩;unfold execOp;simp only [ho,h1.2 b h4,h2,Sem.run_bind,hrun,Result.andThen_ok,Sem.run_pure]
theorem Le.freezeMap {N:Nat}{D':List Nat}{s:List (Nat × Av)}{h:List (Nat × Hs)}(t n:Nat)(hs:bN s t=.mp n)(hn:aL h n=some (.map P k e D)):Le N D' ⟨s,h⟩ ⟨(t,.fm P k e D)::s,(n,.dead)::h⟩:=Le.step fun E a hF=>by
 have hv:=hF.holds.1 t;rw [hs] at hv;obtain ⟨b,m,h4,h5⟩:=hF.holds.2 n _ hn;have hn0:E.loc n≠.unborn:=by rw [h4];simp
 have hS:=Step.kill E n hn0;refine ⟨E.re n .dead,[n],rfl,hS,hF.good.re (by simp),fun u=>?_,fun j y hy=>?_⟩
 ·by_cases e1:t=u
  ·subst e1;rw [lE];unfold aA at hv ⊢;exact ⟨b,m,hv.2 b h4,aEK hF.good h4,h5⟩
  rw [lS _ _ e1];exact aA.step hS _ _ (hF.holds.1 u)
 by_cases e1:n=j
 ·subst e1;simp [aL] at hy;subst hy;show (E.re n .dead).loc n=.dead;simp [Env.re]
 simp only [aL,eY e1,cond_false] at hy;exact dI.step hS (by simp [Ne.symm e1]) (hF.holds.2 j y hy)
theorem aYG (m:Nat)(K:Keyed P k)(ho:o.op=.range T p)(hp:ρ p=.fm P k e D)(hT:aPA P T=some (k,e)):OC P o ρ [(m,.unborn)] (.own m 0) [(m,.iter P k e D (Maps.has D) (Maps.size D) none)]:=by
 intro E a hG hr hH;have h1:=hr p (by simp [ho,Op.operands]);rw [hp] at h1;unfold aA at h1;obtain ⟨b,n,h2,h3,h4⟩:=h1;have hn:E.loc m=.unborn:=hH m .unborn (by simp);obtain ⟨w',hrun,h5,h6,h7⟩:=h4.range K (wL hT);have hb:Below E.w.heap.size E.w w':=⟨h6.os,h6.tape,h6.output,h6.size,fun c hc=>h6.block c hc (by simp)⟩
 unfold eK execOp;simp only [ho,h2,Sem.run_bind,hrun,Result.andThen_ok,Sem.run_pure,fM];have hS:=Step.give hG hb hn (Nat.le_refl _);refine ⟨E.give w' m E.w.heap.size,rfl,hS,hG.give hb (Nat.le_refl _) (by omega),?_,fun i y hy=>?_⟩
 ·unfold aA;refine ⟨⟨by simp [Env.give],_,rfl⟩,fun b hb=>?_⟩;simp [Env.give] at hb;rw [hb]
 simp only [aL] at hy;by_cases e1:m=i
 ·subst e1;simp at hy;subst hy;exact ⟨b,E.w.heap.size,n,by simp [Env.give],(hS.ok h3).1,h5,fun kv hk=>by cases hk⟩
 rw [eY e1,cond_false] at hy;cases hy
theorem aYJ {n c:Nat}{left:Lit→Bool}{key v:Value}(ho:o.op=.entry p)(hp:ρ p=.own n 0):OC P o ρ [(n,.iter P k e D left c (some (key,v)))] (.tup [.val key,.val v]) []:=bZ fun E a hG hr hH=>by
 have h1:=hr p (by simp [ho,Op.operands]);rw [hp] at h1;unfold aA at h1;obtain ⟨b,r,m,h2,h3,h4,h5⟩:=hH n _ (List.mem_singleton.2 rfl);have h6:(Instr.entry (.pointer (some ⟨r,0,none⟩))).run P E.w=.ok (.tuple #[key,v]) E.w:=h5 _ rfl;refine ⟨.tuple #[key,v],?_,?_⟩
 ·unfold execOp;simp only [ho,h1.2 r h2,Sem.run_bind,h6,Result.andThen_ok,Sem.run_pure]
 unfold aA;refine ⟨[key,v],rfl,?_⟩;unfold aG;refine ⟨key,[v],rfl,by unfold aA;rfl,?_⟩;unfold aG;exact ⟨v,[],rfl,by unfold aA;rfl,by unfold aG;rfl⟩
end
section
variable {ro:Option Nat}{P:Program}{N:Nat}{D:List Nat}{s:List (Nat × Av)}{h:List (Nat × Hs)}{Q:Exit→Ctx→Prop}{k e:TypeId}{M:DataW Unit}
theorem aYH {o:Oper}{l:List Oper}{id d m c:Nat}{it:Operand}{left:Lit→Bool}{last:Option (Value × Value)}(K:Keyed P k)(hg:o.guard=none)(hd:o.dst=some d)(ho:o.op=.next it false)(hds:aLU N (o::l)=true)(hit:dA s it=.own m 0)(hm:aL h m=some (.iter P k e M left c last))
 (hDone:c=0→(∀ kl,left kl=false)→Ck true P (o::l).toArray l ⟨(d,.tup [.val (.bool false)])::s,h⟩ fun Γ' _=>Q .normal Γ')
 (hMore:∀ (key v:Value) (kl:Lit) (y:DataW Unit × List MemPlace) (c':Nat),keyOf P k key=some kl→left kl=true→plainElem P e v=some y→(∀ zd,M.atKey kl zd=y.1)→c'<c→
  Ck true P (o::l).toArray l ⟨(d,.tup [.val (.bool true),.val key,.val v])::s,(m,.iter P k e M (fun z=>left z&&!z.sameKey kl) c' (some (key,v)))::h⟩ fun Γ' _=>Q .normal Γ'):
 dW ro P N D (.region id (o::l).toArray false) Q ⟨s,h⟩:=fun E a hF=>by
 refine wpIn_region_lit (l:=o::l) ?_;obtain ⟨b,r,n,h1,h2,h3,_⟩:=hF.holds.2 m _ hm;have hds':aLU N l=true:=by
  simp only [aLU,List.all_cons,Bool.and_eq_true] at hds ⊢;exact hds.2
 have hdt:∀ t,o.dst=some t→t<a.tmps.size:=fun t ht=>by
  have:=hds;simp only [aLU,List.all_cons,Bool.and_eq_true] at this;have:=this.1;rw [ht] at this;rw [hF.size];simpa using this
 have hw:Region.wanted o (yielded (o::l).toArray a.tmps)=true:=by simp [Region.wanted,hg]
 have hv:a.eval it=.pointer (some ⟨r,0,none⟩):=by
  have hr:aA E (dA s it) (a.eval it):=by
   cases it with
   | tmp t=>exact hF.holds.1 t
   | _=>simp [dA] at hit
  rw [hit] at hr;unfold aA at hr;exact hr.2 r h1
 have key:xD true P o a E.w fun v w'=>∃ x U,mZ E x U v w'∧(∀ q,q∈U.map (·.1)→q=m)∧Ck true P (o::l).toArray l ⟨(d,x)::s,U++h⟩ fun Γ' _=>Q .normal Γ':=by
  refine .inl ?_;unfold eK execOp;rcases h3.next (P:=P) K o.type with ⟨g0,gl,hrun⟩|⟨ky,v,kl,y,w',c',gk,gl,gy,gat,hrun,grg,glt,gg,gs,gen⟩
  ·simp only [ho,hv,Sem.run_bind,hrun,Result.andThen_ok,Sem.run_pure,fM];refine ⟨.tup [.val (.bool false)],[],⟨E,rfl,Step.refl E,hF.good,?_,fun i y hy=>by simp [aL] at hy⟩,by simp,hDone g0 gl⟩;unfold aA;exact ⟨[.bool false],rfl,by unfold aG;exact ⟨_,_,rfl,by unfold aA;rfl,by unfold aG;rfl⟩⟩
  simp only [ho,hv,Sem.run_bind,hrun,Result.andThen_ok,Sem.run_pure,fM];obtain ⟨hS,hG'⟩:=Step.turn hF.good h1 (afD h3) gg;refine ⟨.tup [.val (.bool true),.val ky,.val v],[(m,.iter P k e M (fun z=>left z&&!z.sameKey kl) c' (some (ky,v)))],⟨{ E with w:=w' },rfl,hS,hG',?_,fun i y hy=>?_⟩,by simp,hMore ky v kl y c' gk gl gy gat glt⟩
  ·unfold aA;refine ⟨[.bool true,ky,v],rfl,?_⟩;unfold aG;refine ⟨_,_,rfl,by unfold aA;rfl,?_⟩;unfold aG;refine ⟨_,_,rfl,by unfold aA;rfl,?_⟩;unfold aG;exact ⟨_,_,rfl,by unfold aA;rfl,by unfold aG;rfl⟩
  simp only [aL] at hy;by_cases e1:m=i
  ·subst e1;simp at hy;subst hy;refine ⟨b,r,n,h1,?_,grg,fun kv hk=>?_⟩
   ·exact ⟨Nat.lt_of_lt_of_le h2.1 gg.size,h2.2.1,h2.2.2⟩
   injection hk with hk
   subst hk;exact gen
  rw [eY e1,cond_false] at hy;cases hy
 unfold wpListIn;rw [if_pos hw];refine aFR (key.mono ?_);rintro v w' ⟨x,U,⟨E',rfl,hS,hG',hx,hU⟩,hUm,Γ',F,hch,hq⟩;refine hch.text hds' E' (a.put o.dst v) hG' ?_ (by rw [aFS,hF.size]) fun E'' a'' M' hG'' hS' hH' hN' hdf=>⟨E'',Γ',rfl,?_,⟨hG'',hN',fun n hn=>?_,hH'⟩,by rw [hdf,aFT],hq⟩
 ·have:=hF.holds.put (tm:=#[]) hS hx hU hdt;rw [hd] at this ⊢;exact this
 ·exact (hS.trans hS').kept hF.born
 exact ((hS.trans hS').kept hF.born).born n hn
end
theorem aCH {P:Program}{k:TypeId}(hk:P.underlying k=some .string){s:ByteArray}(hs:s.size≤maxLen):keyOf P k (.string s)=some (.string s.data.toList):=WideMaps.keyOf_string_mk hk hs
theorem aYI {P:Program}{k:TypeId}(hk:P.underlying k=some .string){key:Value}{kl:Lit}(h:keyOf P k key=some kl):∃ s,key=.string s∧kl=.string s.data.toList∧s.size≤maxLen:=by
 cases key<;>simp [keyOf,hk,mapKey] at h
 exact ⟨_,rfl,h.2.symm,h.1⟩
end Go.Proofs.YtgajclaoaphgoaaGreatDoor
