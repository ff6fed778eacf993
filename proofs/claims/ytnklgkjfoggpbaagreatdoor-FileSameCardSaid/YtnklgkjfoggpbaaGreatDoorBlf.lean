/- Parts of the proof of a law of this seat: rules and contracts; no conditions. -/
import Derived.Test.YtnklgkjfoggpbaaGreatDoorWireSpec
import Derived.Test.YtnklgkjfoggpbaaGreatDoorMq
import Derived.Lib.Builder
import Derived.Lib.UnsafeStr
import Derived.Laws.Externs
import Derived.Test.YtnklgkjfoggpbaaGreatDoorProg
import Derived.KernelRfl
import Derived.Test.YtnklgkjfoggpbaaGreatDoorShelf
set_option maxHeartbeats 6400000
set_option maxRecDepth 100000
set_option linter.unusedVariables false
set_option linter.unusedSimpArgs false
namespace Go.Proofs.YtnklgkjfoggpbaaGreatDoor
open Go.RowKit
section
variable {P:Program}{o:Oper}{ρ:Operand→Av}{p q:Operand}{T:TypeId}
def pZ (P:Program)(T:TypeId):Option TypeId:=match P.underlying T with|some (.pointer e)=>some e|_=>none
theorem vJ {e:TypeId}(h:pZ P T=some e):P.underlying T=some (.pointer e):=by
 unfold pZ at h
 split at h
 ·injection h with h;subst h;assumption
 ·cases h
def aB2 (P:Program)(T:TypeId):Bool:=match P.underlying T with|some .unsafePointer=>true|_=>false
theorem aMU (h:aB2 P T=true):P.underlying T=some .unsafePointer:=by
 unfold aB2 at h
 split at h
 ·assumption
 ·cases h
def zG (P:Program)(e:TypeId):Bool:=match P.info? e with|some i=>i.size !=0|none=>false
theorem aGB {e:TypeId}(h:zG P e=true):∃ i,P.info? e=some i∧i.size≠0:=by
 unfold zG at h
 split at h
 ·rename_i i hi
  exact ⟨i,hi,by simpa using h⟩
 ·cases h
theorem aVK {T':TypeId}(ho:o.op=.binOp .eql T p (.const (.pointer none)) T')(hp:ρ p=.val (.pointer none))(hT:(pZ P T).isSome=true):OC P o ρ [] (vb true) []:=bZ fun E c hG hr _=>by
 obtain ⟨e,he⟩:=Option.isSome_iff_exists.1 hT
 have h1:=hr p (by simp [ho,Op.operands])
 rw [hp] at h1
 unfold aA at h1
 have hq:∀ d,(Op.equalIn (d+1) T (.pointer none) (.pointer none)).run P E.w=.ok true E.w:=fun d=>by
  unfold Op.equalIn
  rw [Sem.run_bind,run_underlying (vJ he) E.w]
  rfl
 refine ⟨.bool true,?_,by unfold aA;rfl⟩
 have h2:c.eval (.const (.pointer none))=.pointer none:=rfl
 simp only [execOp,ho,h1,h2,eqGuard,binOp,Op.equal,Sem.run_bind]
 have:=hq 9999
 simp [Op.maxDepth,this]
theorem aVP {T' t:TypeId}{n off:Nat}{y:Av}{cs:List Av}(ho:o.op=.binOp .eql T p (.const (.pointer none)) T')(hp:ρ p=.own n off)(hT:(pZ P T).isSome=true):OC P o ρ [(n,.live t (y::cs))] (vb false) []:=bZ fun E c hG hr hH=>by
 obtain ⟨e,he⟩:=Option.isSome_iff_exists.1 hT
 have h1:=hr p (by simp [ho,Op.operands])
 rw [hp] at h1
 unfold aA at h1
 rcases hH n _ (List.mem_singleton.2 rfl) with ⟨_,h2⟩|⟨b,cur,h2,h3,h4⟩
 ·cases h2
 have h5:=h1.2 b h2
 have hq:∀ d,(Op.equalIn (d+1) T (.pointer (some ⟨b,off,none⟩)) (.pointer none)).run P E.w=.ok false E.w:=fun d=>by
  unfold Op.equalIn
  rw [Sem.run_bind,run_underlying (vJ he) E.w]
  rfl
 refine ⟨.bool false,?_,by unfold aA;rfl⟩
 have h6:c.eval (.const (.pointer none))=.pointer none:=rfl
 simp only [execOp,ho,h5,h6,eqGuard,binOp,Op.equal,Sem.run_bind]
 have:=hq 9999
 simp [Op.maxDepth,this]
theorem aVQ {T' t e:TypeId}{n off:Nat}{y:Av}{cs:List Av}(ho:o.op=.binOp .neq T p q T')(hp:ρ p=.own n off)(hq:ρ q=.own n off)(hT:pZ P T=some e)(hs:zG P e=true):OC P o ρ [(n,.live t (y::cs))] (vb false) []:=bZ fun E c hG hr hH=>by
 have h1:=hr p (by simp [ho,Op.operands])
 have h2:=hr q (by simp [ho,Op.operands])
 rw [hp] at h1
 rw [hq] at h2
 unfold aA at h1 h2
 rcases hH n _ (List.mem_singleton.2 rfl) with ⟨_,h3⟩|⟨b,cur,h3,_,_⟩
 ·cases h3
 obtain ⟨j,hj,_⟩:=aGB hs
 refine ⟨.bool false,?_,by unfold aA;rfl⟩
 simp only [execOp,ho,h1.2 b h3,h2.2 b h3,eqGuard,Sem.run_bind]
 have:=Lib.run_neq_ptr_same (P:=P) E.w (⟨b,off,none⟩:Addr) (vJ hT) hj
 simp [this]
theorem aGC {E:Env}{n:Nat}{t:TypeId}{cs:List Av}{y:Av}(h:dI E n (.live t (y::cs))):∃ (b:Nat) (cur:Array Value),E.loc n=.at b∧E.w.heap[b]?=some (.cells cur t (0,0))∧E.w.shape? b=some (t,cur.size)∧(y::cs).length≤cur.size:=by
 rcases h with ⟨_,h2⟩|⟨b,cur,h2,h3,h4⟩
 ·cases h2
 refine ⟨b,cur,h2,h3,by simp [World.shape?,h3],?_⟩
 have hl:(y::cs).length-1<(y::cs).length:=by simp
 obtain ⟨u,hu,_⟩:=h4 ((y::cs).length-1) _ (List.getElem?_eq_getElem hl)
 have:=(Array.getElem?_eq_some_iff.1 hu).1
 omega
theorem aVL {S t e:TypeId}{n:Nat}{y:Av}{cs:List Av}(ho:o.op=.convert S T p)(hp:ρ p=.own n 0)(hS:pZ P S=some e)(hT:aB2 P T=true)(he:zG P e=true):OC P o ρ [(n,.live t (y::cs))] (.own n 0) []:=bZ fun E c hG hr hH=>by
 have h1:=hr p (by simp [ho,Op.operands])
 rw [hp] at h1
 have h1':=h1
 unfold aA at h1
 obtain ⟨b,cur,h2,h3,h4,h5⟩:=aGC (hH n _ (List.mem_singleton.2 rfl))
 obtain ⟨j,hj,hj0⟩:=aGB he
 have h6:=h1.2 b h2
 refine ⟨.pointer (some ⟨b,0,none⟩),?_,by rw [←h6];exact h1'⟩
 have:=Lib.run_to_unsafe (P:=P) E.w ⟨b,0,none⟩ (vJ hS) (aMU hT) hj hj0 h4 (by simp at h5;show 0<_;omega)
 simp [execOp,ho,h6,Sem.run_bind,this]
theorem aW6 {e:TypeId}{s:Nat}(hc:P.cellsOf e=s)(h0:s≠0)(count:Nat)(hn:1≤count):liesAt P P.depth e count 0 e 1=true:=by
 have hd:P.depth=(2*(P.types.size+Made.depth)+1)+1:=rfl
 rw [hd]
 simp only [liesAt,Bool.or_eq_true]
 left
 rw [hd]
 simp [rowAt,hc,hn,h0,sameLayout]
theorem aVN {S t:TypeId}{n:Nat}{y:Av}{cs:List Av}(ho:o.op=.convert S T p)(hp:ρ p=.own n 0)(hS:aB2 P S=true)(hT:pZ P T=some t)(he:zG P t=true)(hk:Nat.ble (P.cellsOf t) (y::cs).length=true)(hk0:P.cellsOf t≠0):OC P o ρ [(n,.live t (y::cs))] (.own n 0) []:=bZ fun E c hG hr hH=>by
 have h1:=hr p (by simp [ho,Op.operands])
 rw [hp] at h1
 have h1':=h1
 unfold aA at h1
 obtain ⟨b,cur,h2,h3,h4,h5⟩:=aGC (hH n _ (List.mem_singleton.2 rfl))
 obtain ⟨j,hj,hj0⟩:=aGB he
 have h6:=h1.2 b h2
 refine ⟨.pointer (some ⟨b,0,none⟩),?_,by rw [←h6];exact h1'⟩
 have hcount:1≤cur.size/P.cellsOf t:=by
  have:=Nat.le_of_ble_eq_true hk
  exact (Nat.one_le_div_iff (by omega)).2 (by omega)
 have:=Lib.run_from_unsafe (P:=P) E.w ⟨b,0,none⟩ (aMU hS) (vJ hT) hj h4 (aW6 rfl hk0 _ hcount)
 simp [execOp,ho,h6,Sem.run_bind,this]
theorem aVM {f : Nat} {fn : Func} {tys : Array TypeId} {x : Av} (ho : o.op = .call { callee := .value (.func f), args := #[p], argTypes := tys }) (hp : ρ p = x) (hf : P.funcs[f]? = some fn) (h1 : (fn.name == "runtime.NumGoroutine") = false) (h2 : fn.body.isNone = true) (h3 : Extern.findNext fn = none) (h4 : Extern.find fn = some Extern.AbiNoEscape.same) : OC P o ρ [] x [] := bZ fun E c hG hr _ => by
 have hx:=hr p (by simp [ho,Op.operands,Call.operands])
 rw [hp] at hx
 refine ⟨c.eval p,?_,hx⟩
 have:=run_callFunc_extern (P:=P) hf h1 h2 h3 h4 #[c.eval p] E.w
 rw [Lib.run_noEscape] at this
 simp only [Result.andThen] at this
 unfold execOp
 simp only [ho,resolve,Deferred.ofValue,Act.eval,Sem.run_bind,Sem.run_pure,Result.andThen_ok,invoke,Array.append_empty,Array.empty_append,List.map_toArray,List.map_cons,List.map_nil]
 exact this
def dP (s:ByteArray):List Av:=s.data.toList.map fun c=>.val (.int .u8 c.toNat)
theorem aFX (s:ByteArray):(dP s).length=s.size:=by unfold dP;rw [List.length_map,Array.length_toList];rfl
theorem aVT (a b:ByteArray):dP (a++b)=dP a++dP b:=by unfold dP;rw [ByteArray.data_append,Array.toList_append,List.map_append]
theorem aW7 {E:Env}(s:ByteArray):aG E (dP s) (Lib.strCells s):=by
 unfold dP Lib.strCells
 induction s.data.toList with
 | nil=>unfold List.map aG;rfl
 | cons c l ih=>
  rw [List.map_cons,List.map_cons]
  unfold aG
  exact ⟨_,_,rfl,by unfold aA;rfl,ih⟩
theorem aW8 {t u e ty:TypeId}{w:World}{i:TypeInfo}(ht:P.underlying t=some (.slice e))(hu:P.underlying u=some .string)(hi:P.info? e=some i)(hz:i.zero=some (.int .u8 0))(hsize:i.size=1)(hby:i.bytes=1)
 {v:Value} {n:Nat} {xs:List Value} (hown:w.ownsRow 0 e 1 v n xs) (s:ByteArray) (hb:n+s.size≤140737488355328):
 ∃ v' w',(Builtin.append_ #[t,u] ty #[v,.string s]).run P w=.ok v' w'∧w'.ownsRow 0 e 1 v' (n+s.size) (xs++Lib.strCells s)∧w.grownBy w' v.ownBlock∧(v'.ownBlock=v.ownBlock∨v'.ownBlock=some w.heap.size):=by
 obtain ⟨v',w',r,h2,h3,h4⟩:=Lib.run_append_own_string (P:=P) w 0 t u ty e i ht hu hi hz hsize hby v n xs hown s (by simp only [maxLen];omega) hb (Nat.zero_le _)
 refine ⟨v',w',r,h2,h3,?_⟩
 have hxl:xs.length=n:=by simpa using hown.1
 rcases hown.2 with ⟨rfl,rfl⟩|⟨g,cap,cur,rfl,_,hg,hnc,hcm,hcs,_⟩
 ·by_cases hm:s.size=0
  ·exact .inl (by rw [h4.2 ⟨rfl,hm⟩])
  ·have hr:=run_append_nil_string (P:=P) w t u ty e i (.int .u8 0) ht hu hi hz s (by omega) (by omega) (by rw [hby];omega)
   rw [hr] at r
   injection r with r1 r2
   exact .inr (by rw [←r1];rfl)
 ·by_cases hroom:n+s.size≤cap
  ·have hr:=Lib.run_append_room_string (P:=P) w t u ty e i ht hu hi hsize g n cap cur hg s hroom (by omega)
   rw [hr] at r
   injection r with r1 r2
   exact .inl (by rw [←r1];rfl)
  ·have hr:=Lib.run_append_grow_string (P:=P) w t u ty e i (.int .u8 0) ht hu hi hz ⟨g,0,none⟩ n cap xs (by rw [hsize];simpa using hxl) (hown.cells (g:=g) rfl) s (by omega) (by omega) (by rw [hby];exact growslice_fits (by omega) (by omega))
   rw [hr] at r
   injection r with r1 r2
   exact .inr (by rw [←r1];rfl)
theorem aW9 {t u:TypeId}{a:Act}{w:World}(ho:o.op=.call { callee:=.builtin .append,args:=#[p,q],argTypes:=#[t,u] }){v':Value}{w':World}(hrun:(Builtin.append_ #[t,u] o.type #[a.eval p,a.eval q]).run P w=.ok v' w'):(execOp a.eval o).run P w=.ok (.value v') w':=by
 unfold execOp
 simp only [ho,resolve,invoke,builtin,Sem.run_bind,Sem.run_pure,Result.andThen_ok,List.map_toArray,List.map_cons,List.map_nil,hrun]
theorem aVS {e T2:TypeId}{n len:Nat}{cs:List Av}{s:ByteArray}(m:Nat)(ho:o.op=.call { callee:=.builtin .append,args:=#[p,q],argTypes:=#[T,T2] })(hp:ρ p=.osl 1 n len)(hq:ρ q=vs s)(hT:eB P T=some e)(hT2:oD P T2=true)(hi:lW P e=some (1,1,[.int .u8 0]))(hz0:(P.info? e).bind (·.zero)=some (.int .u8 0))(hnm:n≠m)(hl:cs.length=len)(hb:len+s.size≤140737488355328):
 OC P o ρ [(n,.live e cs),(m,.unborn)] (.osl 1 m (len+s.size)) [(n,.dead),(m,.live e (cs++dP s))]:=by
 intro E a hG hr hH
 have h1:=hr p (by simp [ho,Op.operands,Call.operands])
 have h2:=hr q (by simp [ho,Op.operands,Call.operands])
 rw [hp] at h1
 rw [hq] at h2
 have h2':a.eval q=.string s:=by unfold aA at h2;exact h2
 have hn:=hH n (.live e cs) (by simp)
 have hu:E.loc m=.unborn:=hH m .unborn (by simp)
 obtain ⟨xs,g1,g2,g3,g4⟩:=aMV h1 hn (by rw [hl,Nat.mul_one])
 obtain ⟨i,z,i1,i2,i3,i4,i5⟩:=vK hi
 have hz:z=.int .u8 0:=by
  rw [i1] at hz0
  simp only [Option.bind_some,i2] at hz0
  exact Option.some.inj hz0
 subst hz
 obtain ⟨v',w',r1,r2,r3,r4⟩:=aW8 (ty:=o.type) (tR hT) (xF hT2) i1 i2 i3 i4 g1 s hb
 unfold eK
 rw [aW9 ho (by rw [h2'];exact r1)]
 have hn0:E.loc n≠.unborn:=by unfold aA at h1;exact h1.1.1
 exact aMW hG hnm hu hn0 g2 (aW7 s) g3 (fun u hu=>by obtain ⟨c,_,rfl⟩:=List.mem_map.1 hu;rfl) g4 r2 r3 r4
theorem aMX {k m n:Nat}(ho:o.op=.call { callee:=.builtin .len,args:=#[p],argTypes:=#[T] })(hp:ρ p=.osl k m n)(hT:tS P T=true):OC P o ρ [] (.val (.int .i64 n)) []:=bZ fun E a hG hr _=>by
 have h1:=hr p (by simp [ho,Op.operands,Call.operands])
 rw [hp] at h1
 unfold aA at h1
 obtain ⟨⟨_,⟨A,c,hv⟩,_⟩,_⟩:=h1
 obtain ⟨e,he⟩:=aB3 hT
 refine ⟨.int .i64 n,?_,by unfold aA;rfl⟩
 simp [execOp,ho,resolve,invoke,builtin,Builtin.len_,Sem.run_bind,run_underlying he,hv,goInt]
theorem zH {a:Act}{w w':World}{v:Value}(ho:o.op=.call { callee:=.builtin .unsafeSliceData,args:=#[p],argTypes:=#[T] })(hrun:(Builtin.unsafeSliceData_ #[T] o.type #[a.eval p]).run P w=.ok v w'):(execOp a.eval o).run P w=.ok (.value v) w':=by
 unfold execOp
 simp only [ho,resolve,invoke,builtin,Sem.run_bind,Sem.run_pure,Result.andThen_ok,List.map_toArray,List.map_cons,List.map_nil,hrun]
theorem aGD {T2:TypeId}{a:Act}{w w':World}{v:Value}(ho:o.op=.call { callee:=.builtin .unsafeString,args:=#[p,q],argTypes:=#[T,T2] })(hrun:(Builtin.unsafeString_ #[T,T2] o.type #[a.eval p,a.eval q]).run P w=.ok v w'):(execOp a.eval o).run P w=.ok (.value v) w':=by
 unfold execOp
 simp only [ho,resolve,invoke,builtin,Sem.run_bind,Sem.run_pure,Result.andThen_ok,List.map_toArray,List.map_cons,List.map_nil,hrun]
theorem aXA {t:TypeId}{m len:Nat}{cs:List Av}(ho:o.op=.call { callee:=.builtin .unsafeSliceData,args:=#[p],argTypes:=#[T] })(hp:ρ p=.osl 1 m len)(hc0:0<cs.length)(h0:0<len):OC P o ρ [(m,.live t cs)] (.own m 0) []:=bZ fun E a hG hr hH=>by
 cases cs with
 | nil=>simp at hc0
 | cons y cs=>
 have h1:=hr p (by simp [ho,Op.operands,Call.operands])
 rw [hp] at h1
 unfold aA at h1
 obtain ⟨b,cur,h2,h3,h4,h5⟩:=aGC (hH m _ (List.mem_singleton.2 rfl))
 obtain ⟨c,cur',t',h6,h7,_⟩:=h1.2 b h2
 refine ⟨.pointer (some ⟨b,0,none⟩),zH ho ?_,?_⟩
 ·rw [h6];exact Lib.run_unsafeSliceData_row _ _ _ _ _ _ (by omega)
 ·unfold aA
  exact ⟨⟨h1.1.1,_,rfl⟩,fun b' hb'=>by rw [h2] at hb';injection hb' with hb';rw [hb']⟩
theorem aXB {T2:TypeId}{m:Nat}(ho:o.op=.call { callee:=.builtin .unsafeString,args:=#[p,q],argTypes:=#[T,T2] })(hp:ρ p=.own m 0)(hq:ρ q=vi 0):OC P o ρ [] (vs ByteArray.empty) []:=bZ fun E a hG hr _=>by
 have h1:=hr p (by simp [ho,Op.operands,Call.operands])
 have h2:=hr q (by simp [ho,Op.operands,Call.operands])
 rw [hp] at h1
 rw [hq] at h2
 unfold aA at h1 h2
 obtain ⟨⟨_,x,hx⟩,_⟩:=h1
 exact ⟨.string .empty,aGD ho (by rw [hx,h2];exact Lib.run_unsafeString_none _ _ _ _ _),by unfold aA;rfl⟩
theorem xG {w:World}{g k n:Nat}(h:k≠g):(w.freeze ⟨g,0,none⟩ n).heap[k]?=w.heap[k]?:=by
 unfold World.freeze
 split
 ·rfl
 ·show (w.heap.modify g _)[k]?=_
  rw [Array.getElem?_modify,if_neg (fun e=>h e.symm)]
theorem aMY {w:World}{g n:Nat}:(w.freeze ⟨g,0,none⟩ n).heap.size=w.heap.size∧(w.freeze ⟨g,0,none⟩ n).os=w.os∧(w.freeze ⟨g,0,none⟩ n).tape=w.tape∧(w.freeze ⟨g,0,none⟩ n).output=w.output:=by
 unfold World.freeze
 split
 ·exact ⟨rfl,rfl,rfl,rfl⟩
 ·exact ⟨by simp,rfl,rfl,rfl⟩
end
theorem aYM {E:Env}(hG:Good E){t:TypeId}{l:List ByteArray}(hl:l.length≤maxLen):aA { E with w:=E.w.alloc (.cells (l.map Value.string).toArray t) } (bB l) (.slice (some ⟨E.w.heap.size,0,none⟩) l.length l.length):=by
 have hnew:(E.w.alloc (.cells (l.map Value.string).toArray t)).heap[E.w.heap.size]?=some (.cells (l.map Value.string).toArray t (0,0)):=heap_alloc_new _ _
 unfold bB aA
 refine ⟨_,_,rfl,Nat.le_refl _,hl,fun h0=>⟨E.w.heap.size,0,rfl,⟨by simp,fun hbad=>by have:=hG.old _ hbad;omega,fun n hn=>by have:=(hG.lt n _ hn).1;omega⟩,fun j hj=>⟨.string (l.getD j ByteArray.empty),by unfold aA;rfl,rfl,fun i u hu=>?_⟩⟩⟩
 have hi:i=0∧u=.string (l.getD j ByteArray.empty):=by
  cases i with
  | zero=>simp [Value.cells] at hu;exact ⟨rfl,hu.symm⟩
  | succ i=>simp [Value.cells] at hu
 obtain ⟨rfl,rfl⟩:=hi
 rw [pG hnew]
 simp [hj]
def mB (s r:ByteArray):List ByteArray:=Lib.splitB r 0 (Lib.countB s r) s
theorem aYN (s r:ByteArray)(hs:s.size<4294967281)(hr:1≤r.size):PC Tryz.prog 90 [vs s,vs r] (bB (mB s r)):=by
 intro E vs hG hA _ _ _
 unfold aG aG aG at hA
 obtain ⟨v,us,rfl,hv,v',us',rfl,hv',rfl⟩:=hA
 unfold aA at hv hv'
 subst hv
 subst hv'
 obtain ⟨_,m,hm⟩:=hG.shp 0 (by simp [aBS])
 have hlen:(mB s r).length=Lib.countB s r+1:=Lib.splitB_all r hr 0 _ s rfl
 have hle:=Lib.countB_le r hr s.size s (Nat.le_refl _)
 refine (Tryz.strings_Split s r m E.w hs hm hr).mono ?_
 rintro en w' ⟨rfl,rfl⟩
 have hb:Below E.w.heap.size E.w (E.w.alloc (.cells ((mB s r).map Value.string).toArray 9)):=(Below.refl _ _).alloc (Nat.le_refl _) _
 have hml:maxLen=9223372036854775807:=rfl
 have hrep:=aYM hG (t:=9) (l:=mB s r) (by omega)
 rw [hlen] at hrep
 exact ⟨{ E with w:=E.w.alloc (.cells ((mB s r).map Value.string).toArray 9) },_,rfl,rfl,hG.grow hb,(Step.grow hG hb).kept (by simp),hrep,fun n y hn=>by simp [aL] at hn⟩
section
variable {P:Program}{o:Oper}{ρ:Operand→Av}{p q:Operand}{T:TypeId}
theorem aSN {w:World}{g n:Nat}{cur:Array Value}{t:TypeId}{z:Nat × Nat}(h:w.heap[g]?=some (.cells cur t z))(hn:n≠0)(hz:z=(0,0)∨z=(0,n)):(w.freeze ⟨g,0,none⟩ n).heap[g]?=some (.cells cur t (0,n)):=by
 unfold World.freeze
 rw [if_neg hn]
 show (w.heap.modify g _)[g]?=_
 rw [Array.getElem?_modify,if_pos rfl,h]
 rcases hz with rfl|rfl
 ·simp
 ·have:(0==n)=false:=by simp;omega
  simp [this]
theorem aSO {E:Env}{a:Act}{e T2 ty:TypeId}{b:Nat}{s:ByteArray}{cur:Array Value}{z:Nat × Nat}(hT:pZ P T=some e)(hc:P.cellsOf e=1)(h0:0<s.size)(h63:s.size≤9223372036854775807)(hb:E.w.heap[b]?=some (.cells cur e z))(hcell:∀ (j:Nat) (u:Value),(Lib.strCells s)[j]?=some u→cur[j]?=some u):
 (Builtin.unsafeString_ #[T,T2] ty #[.pointer (some ⟨b,0,none⟩),.int .i64 s.size]).run P E.w=.ok (.string s) (E.w.freeze ⟨b,0,none⟩ s.size):=by
 have hls:s.data.toList.length=s.size:=by rw [Array.length_toList];rfl
 have hcell':∀ (j:Nat) (x:UInt8),s.data.toList[j]?=some x→cur[j]?=some (Value.int .u8 x.toNat):=fun j x hx=>hcell j _ (by unfold Lib.strCells;rw [List.getElem?_map,hx];rfl)
 have hsz:s.size≤cur.size:=by
  have hlt:s.size-1<s.data.toList.length:=by omega
  have:=(Array.getElem?_eq_some_iff.1 (hcell' (s.size-1) _ (List.getElem?_eq_getElem hlt))).1
  omega
 have:=Lib.run_unsafeString_row (P:=P) E.w T T2 ty e (vJ hT) hc b cur.size (by simp [World.shape?,hb]) s.data.toList (fun hz=>by rw [hz] at hls;simp at hls;omega) (by omega) (by omega) fun j x hx=>by
  rw [Addr.add_lit]
  show E.w.cell? ⟨b,0+j,none⟩=_
  simp only [World.cell?,hb,Nat.zero_add]
  rw [hcell' j x hx]
  rfl
 rwa [hls] at this
theorem agR {E:Env}{s:ByteArray}{cur:Array Value}(h:∀ (i:Nat) (y:Av),(dP s)[i]?=some y→∃ u:Value,cur[i]?=some u∧u.oneCell'=true∧aA E y u):∀ (j:Nat) (u:Value),(Lib.strCells s)[j]?=some u→cur[j]?=some u:=fun j u hu=>by
 unfold Lib.strCells at hu
 rw [List.getElem?_map] at hu
 cases hx:s.data.toList[j]? with
 | none=>rw [hx] at hu;cases hu
 | some x=>
  rw [hx] at hu
  simp only [Option.map_some,Option.some.injEq] at hu
  obtain ⟨u',h1,_,h2⟩:=h j (.val (.int .u8 x.toNat)) (by unfold dP;rw [List.getElem?_map,hx];rfl)
  unfold aA at h2
  rw [h1,h2,←hu]
theorem agS {T2 e T0:TypeId}{m n0 n:Nat}{x:Av}{s:ByteArray}(ho:o.op=.call { callee:=.builtin .unsafeString,args:=#[p,q],argTypes:=#[T,T2] })(hp:ρ p=.own m 0)(hq:ρ q=vi (n:Int))(hT:pZ P T=some e)(hc:P.cellsOf e=1)(hn:n=s.size)(h0:0<s.size)(h63:s.size≤9223372036854775807)(hnm:n0≠m):OC P o ρ [(m,.live e (dP s)),(n0,.live T0 [x,.osl 1 m s.size])] (vs s) [(m,.dead),(n0,.live T0 [x,.frz false e (Lib.strCells s)])]:=by
 intro E a hG hr hH
 have h1:=hr p (by simp [ho,Op.operands,Call.operands])
 have h2:=hr q (by simp [ho,Op.operands,Call.operands])
 rw [hp] at h1
 rw [hq] at h2
 have h2':a.eval q=.int .i64 (n:Int):=by unfold aA at h2;exact h2
 unfold aA at h1
 rcases hH m (.live e (dP s)) (by simp) with ⟨_,h3⟩|⟨b,cur,h3,h4,h5⟩
 ·have:=aFX s
  rw [h3] at this
  simp at this
  omega
 rcases hH n0 (.live T0 [x,.osl 1 m s.size]) (by simp) with ⟨_,k3⟩|⟨b0,cur0,k3,k4,k5⟩
 ·cases k3
 have h6:=h1.2 b h3
 have hcell:=agR h5
 have hrun:=aSO (P:=P) (E:=E) (a:=a) (T:=T) (T2:=T2) (ty:=o.type) hT hc h0 h63 h4 hcell
 have hls:(Lib.strCells s).length=s.size:=Lib.strCells_length s
 unfold eK
 rw [aGD ho (by rw [h6,h2',hn];exact hrun)]
 obtain ⟨f1,f2,f3,f4⟩:=aMY (w:=E.w) (g:=b) (n:=s.size)
 let E':Env:={ w:=E.w.freeze ⟨b,0,none⟩ s.size,loc:=fun i=>if i=m then .dead else E.loc i,bad:=E.bad }
 have hne:∀ i c,E'.loc i=.at c→i≠m∧E.loc i=.at c:=fun i c hi=>by
  by_cases e:i=m
  ·simp [E',e] at hi
  ·simp [E',e] at hi;exact ⟨e,hi⟩
 have hob:∀ i c,i≠m→E.loc i=.at c→c≠b:=fun i c hi hc e=>hi (hG.inj i m b (by rw [←e];exact hc) h3)
 have hS:Step E E' [m]:=by
  refine ⟨f2,f3,f4,by rw [show E'.w.heap.size=E.w.heap.size from f1];exact Nat.le_refl _,rfl,fun c hlt hno=>xG (fun e=>hno m (by rw [e];exact h3)),fun i hi=>?_,fun i hi=>?_,fun i c hi=>.inl (hne i c hi).2,fun i hi=>?_,fun i c cur' t' hi hi' hcc=>?_⟩
  ·have hi:i≠m:=by simpa using hi
   exact ⟨by simp [E',hi],fun c hc=>xG (hob i c hi hc)⟩
  ·by_cases e:i=m
   ·simp [E',e]
   ·simpa [E',e] using hi
  ·by_cases e:i=m
   ·simp [E',e] at hi
   ·simp [E',e] at hi;exact .inl hi
  ·exact ⟨cur',(xG (hob i c (hne i c hi).1 hi')).trans hcc,rfl⟩
 refine ⟨E',rfl,hS.more (by simp),⟨fun c hc=>by rw [show E'.w.heap.size=E.w.heap.size from f1];exact hG.old c hc,fun i j c hi hj=>hG.inj i j c (hne i c hi).2 (hne j c hj).2,fun i c hi=>?_,hG.shp.same fun c hc=>⟨⟨?_,hc.2.1,fun i hi=>hc.2.2 i (hne i c hi).2⟩,?_⟩⟩,?_,fun i y hi=>?_⟩
 ·have:=hG.lt i c (hne i c hi).2
  exact ⟨by rw [show E'.w.heap.size=E.w.heap.size from f1];exact this.1,this.2⟩
 ·rw [show E'.w.heap.size=E.w.heap.size from f1];exact hc.1
 ·exact xG (fun e=>hc.2.2 m (by rw [e];exact h3))
 ·unfold aA;rfl
 ·simp only [aL] at hi
  by_cases e1:m=i
  ·subst e1
   simp at hi
   subst hi
   show E'.loc m=.dead
   simp [E']
  ·simp only [eY e1,cond_false] at hi
   by_cases e2:n0=i
   ·subst e2
    simp at hi
    subst hi
    refine .inr ⟨b0,cur0,by simp [E',hnm,k3],(xG (hob n0 b0 hnm k3)).trans k4,fun j y hy=>?_⟩
    rcases j with _|_|j
    ·obtain ⟨u,g1,g2,g3⟩:=k5 0 x rfl
     simp at hy
     subst hy
     exact ⟨u,g1,g2,aA.step hS _ _ g3⟩
    ·obtain ⟨u,g1,g2,g3⟩:=k5 1 _ rfl
     simp at hy
     subst hy
     refine ⟨u,g1,g2,?_⟩
     unfold aA at g3
     obtain ⟨c,cur',t',g4,g5,g6,g7,g8⟩:=g3.2 b h3
     unfold aA
     refine ⟨c,b,cur,by rw [hls];exact g4,by rw [hls];exact g5,⟨by rw [show E'.w.heap.size=E.w.heap.size from f1];exact (hG.lt m b h3).1,(hG.lt m b h3).2,fun i hi=>?_⟩,?_,hcell⟩
     ·obtain ⟨q1,q2⟩:=hne i b hi
      exact q1 (hG.inj i m b q2 h3)
     ·rw [hls]
      exact aSN h4 (by omega) (.inl rfl)
    ·simp at hy
   ·simp [eY e2] at hi
theorem agT {e:TypeId}{xs:List Value}(ho:o.op=.call { callee:=.builtin .unsafeSliceData,args:=#[p],argTypes:=#[T] })(hp:ρ p=.frz false e xs)(h0:0<xs.length):OC P o ρ [] (.frz true e xs) []:=bZ fun E a hG hr _=>by
 have h1:=hr p (by simp [ho,Op.operands,Call.operands])
 rw [hp] at h1
 unfold aA at h1
 obtain ⟨c,g,cur,h2,h3,h4,h5,h6⟩:=h1
 simp only [cond_false] at h2
 refine ⟨.pointer (some ⟨g,0,none⟩),zH ho ?_,?_⟩
 ·rw [h2];exact Lib.run_unsafeSliceData_row _ _ _ _ _ _ (by omega)
 ·unfold aA
  exact ⟨c,g,cur,by simp,h3,h4,h5,h6⟩
theorem agU {e:TypeId}{xs:List Value}{n:Nat}(ho:o.op=.call { callee:=.builtin .len,args:=#[p],argTypes:=#[T] })(hp:ρ p=.frz false e xs)(hn:xs.length=n)(hT:tS P T=true):OC P o ρ [] (.val (.int .i64 n)) []:=bZ fun E a hG hr _=>by
 have h1:=hr p (by simp [ho,Op.operands,Call.operands])
 rw [hp] at h1
 unfold aA at h1
 obtain ⟨c,g,cur,h2,_⟩:=h1
 simp only [cond_false] at h2
 obtain ⟨e',he⟩:=aB3 hT
 refine ⟨.int .i64 n,?_,by unfold aA;rfl⟩
 simp [execOp,ho,resolve,invoke,builtin,Builtin.len_,Sem.run_bind,run_underlying he,h2,goInt,hn]
theorem agV {T2 e:TypeId}{n:Nat}{s:ByteArray}(ho:o.op=.call { callee:=.builtin .unsafeString,args:=#[p,q],argTypes:=#[T,T2] })(hp:ρ p=.frz true e (Lib.strCells s))(hq:ρ q=vi (n:Int))(hT:pZ P T=some e)(hc:P.cellsOf e=1)(hn:n=s.size)(h0:0<s.size)(h63:s.size≤9223372036854775807):OC P o ρ [] (vs s) []:=aEP fun E a hG hr=>by
 have h1:=hr p (by simp [ho,Op.operands,Call.operands])
 have h2:=hr q (by simp [ho,Op.operands,Call.operands])
 rw [hp] at h1
 rw [hq] at h2
 have h2':a.eval q=.int .i64 (n:Int):=by unfold aA at h2;exact h2
 unfold aA at h1
 obtain ⟨c,g,cur,h3,h4,h5,h6,h7⟩:=h1
 simp only [cond_true] at h3
 have hls:(Lib.strCells s).length=s.size:=Lib.strCells_length s
 rw [hls] at h6
 obtain ⟨f1,f2,f3,f4⟩:=aMY (w:=E.w) (g:=g) (n:=s.size)
 refine ⟨.string s,E.w.freeze ⟨g,0,none⟩ s.size,aGD ho (by rw [h3,h2',hn];exact aSO (a:=a) hT hc h0 h63 h6 h7),⟨f2,f3,f4,by rw [f1];exact Nat.le_refl _,fun k hk=>?_⟩,by unfold aA;rfl⟩
 by_cases e:k=g
 ·subst e
  rw [aSN h6 (by omega) (.inr rfl),h6]
 ·exact xG e
theorem Step.dead_name {E:Env}{n:Nat}(hn:E.loc n=.unborn):Step E (E.re n .dead) [n]:=by
 refine ⟨rfl,rfl,rfl,Nat.le_refl _,rfl,fun _ _ _=>rfl,fun m hm=>?_,fun m hm=>?_,fun m b hb=>?_,fun m hm=>?_,fun m b cur t hb hb' hc=>⟨cur,hc,rfl⟩⟩
 ·have hm:m≠n:=by simpa using hm
  exact ⟨by simp [Env.re,hm],fun _ _=>rfl⟩
 ·by_cases e:m=n
  ·simp [Env.re,e]
  ·simpa [Env.re,e] using hm
 ·by_cases e:m=n
  ·simp [Env.re,e] at hb
  ·simp [Env.re,e] at hb;exact .inl hb
 ·by_cases e:m=n
  ·subst e;exact .inr hn
  ·simp [Env.re,e] at hm;exact .inl hm
theorem agW {t e:TypeId}{m:Nat}(k:Nat)(ho:o.op=.call { callee:=.builtin .unsafeSliceData,args:=#[p],argTypes:=#[T] })(hp:ρ p=.osl 1 m 0)(ht:pZ P o.type=some e):OC P o ρ [(m,.live t []),(k,.unborn)] (.own k 0) [(k,.dead)]:=by
 intro E a hG hr hH
 have h1:=hr p (by simp [ho,Op.operands,Call.operands])
 rw [hp] at h1
 unfold aA at h1
 have hu:E.loc k=.unborn:=hH k .unborn (by simp)
 have fin:∀ (v:Value) (w':World),(execOp a.eval o).run P E.w=.ok (.value v) w'→Below E.w.heap.size E.w w'→(∃ x,v=.pointer x)→eK P o a E.w (mZ E (.own k 0) [(k,.dead)]):=fun v w' hr hb hv=>by
  unfold eK
  rw [hr]
  have hg:=Step.grow hG hb
  have hS:=hg.trans (Step.dead_name (E:={ E with w:=w' }) hu)
  refine ⟨_,rfl,hS,(hG.grow hb).re (by simp),?_,fun n y hn=>?_⟩
  ·unfold aA
   refine ⟨⟨by simp [Env.re],hv⟩,fun b hb=>?_⟩
   simp [Env.re] at hb
  ·simp only [aL] at hn
   by_cases e:k=n
   ·subst e
    simp at hn
    subst hn
    show (Env.re _ k .dead).loc k=.dead
    simp [Env.re]
   ·simp [eY e] at hn
 rcases hH m (.live t []) (by simp) with ⟨h2,_⟩|⟨b,cur,h2,h3,_⟩
 ·obtain ⟨hv,_⟩:=h1.1.2.2 h2
  exact fin _ _ (zH ho (by rw [hv];exact Lib.run_unsafeSliceData_nil _ _ _ _ _)) (Below.refl _ _) ⟨_,rfl⟩
 ·obtain ⟨c,cur',t',h6,h7,_⟩:=h1.2 b h2
  by_cases hc:c=0
  ·subst hc
   exact fin _ _ (zH ho (by rw [h6];exact Lib.run_unsafeSliceData_zero _ _ _ e (vJ ht) _ _ (t,cur.size) (by simp [World.shape?,h3]))) ((Below.refl _ _).alloc (Nat.le_refl _) _) ⟨_,rfl⟩
  ·exact fin _ _ (zH ho (by rw [h6];exact Lib.run_unsafeSliceData_row _ _ _ _ _ _ hc)) (Below.refl _ _) ⟨_,rfl⟩
end
end Go.Proofs.YtnklgkjfoggpbaaGreatDoor
