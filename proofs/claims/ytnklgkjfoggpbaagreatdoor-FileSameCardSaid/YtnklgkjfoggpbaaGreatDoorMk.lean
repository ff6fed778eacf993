/- Parts of the proof of a law of this seat: rules and contracts; no conditions. -/
import Derived.Test.YtnklgkjfoggpbaaGreatDoorMq
import Derived.Test.YtnklgkjfoggpbaaGreatDoorBlf
import Derived.Test.YtnklgkjfoggpbaaGreatDoorWireSpec
import Derived.Laws.IdiomStrings
set_option maxHeartbeats 6400000
set_option maxRecDepth 100000
set_option linter.unusedVariables false
set_option linter.unusedSimpArgs false
namespace Go.Proofs.YtnklgkjfoggpbaaGreatDoor
open Go.RowKit
section
variable {P:Program}{o:Oper}{ρ:Operand→Av}{p:Operand}{T T':TypeId}
def svB (P:Program)(T T':TypeId):Bool:=oD P T&&(match P.underlying T' with|some (.slice e)=>(match P.underlying e with|some (.int .u8)=>true|_=>false)|_=>false)
theorem ah8 (h:svB P T T'=true):P.underlying T=some .string∧∃ e,P.underlying T'=some (.slice e)∧P.underlying e=some (.int .u8):=by
 unfold svB at h
 rw [Bool.and_eq_true] at h
 refine ⟨xF h.1,?_⟩
 have h2:=h.2
 split at h2
 ·rename_i e he
  split at h2
  ·rename_i h3;exact ⟨e,he,h3⟩
  ·cases h2
 ·cases h2
theorem aS5 {s:ByteArray}(hs:s.size≤9223372036854775807)(ho:o.op=.convert T T' p:=by rfl)(hp:ρ p=vs s:=by rfl)(hT:svB P T T'=true:=by kernel_rfl):OC P o ρ [] (bs (jZ s)) []:=aEP fun E a hG hr=>by
 have h1:=hr p (by simp [ho,Op.operands])
 rw [hp] at h1
 unfold aA at h1
 obtain ⟨t1,e,t2,t3⟩:=ah8 hT
 have hrun:=run_bytes_of_string (P:=P) E.w T T' e s t1 t2 t3
 have hlen:(jZ s).length=s.size:=by unfold jZ;rw [List.length_map,Array.length_toList];rfl
 have hmx:maxLen=9223372036854775807:=rfl
 refine ⟨_,_,by simp only [execOp,ho,h1,Sem.run_bind,hrun,Result.andThen_ok,Sem.run_pure];rfl,((Below.refl _ _).drew.alloc (Nat.le_refl _) _),?_⟩
 rw [←hlen]
 refine aEX (fun hl=>⟨E.w.heap.size,0,rfl,⟨by simp,fun hb=>?_,fun n hn=>?_⟩,fun j u hu=>?_⟩) (by rw [hlen];exact grownCap_ge _ _ _ _) (grownCap_le_maxLen _ _ _ _ (by rw [hlen,hmx];exact hs))
 ·have:=hG.old _ hb;omega
 ·have:=(hG.lt n _ hn).1;omega
 ·have hj:j<s.data.size:=by
   have:=(List.getElem?_eq_some_iff.1 hu).1
   rw [mL,hlen] at this
   exact this
  rw [Nat.zero_add,cell_of_row _ E.w.heap.size j _ e _ (heap_alloc_new E.w.drew _),hlen,bytesRow_at _ _ _ hj,←hu]
  unfold cb jZ
  rw [List.getElem?_map,List.getElem?_map,Array.getElem?_toList,Array.getElem?_eq_getElem hj]
  rfl
theorem aE9 {w:World}{g k m:Nat}(h:k≠g):(w.freeze ⟨g,m,none⟩ 1).heap[k]?=w.heap[k]?:=by
 unfold World.freeze
 rw [if_neg (by decide)]
 show (w.heap.modify g _)[k]?=_
 rw [Array.getElem?_modify,if_neg (fun e=>h e.symm)]
theorem ah9 {w:World}{g m:Nat}{cur:Array Value}{t:TypeId}(h:w.heap[g]?=some (.cells cur t (0,0))):(w.freeze ⟨g,m,none⟩ 1).heap[g]?=some (.cells cur t (m,m+1)):=by
 unfold World.freeze
 rw [if_neg (by decide)]
 show (w.heap.modify g _)[g]?=_
 rw [Array.getElem?_modify,if_pos rfl,h]
 rfl
theorem aiA {w:World}{g m:Nat}:(w.freeze ⟨g,m,none⟩ 1).heap.size=w.heap.size∧(w.freeze ⟨g,m,none⟩ 1).os=w.os∧(w.freeze ⟨g,m,none⟩ 1).tape=w.tape∧(w.freeze ⟨g,m,none⟩ 1).output=w.output:=by
 unfold World.freeze
 rw [if_neg (by decide)]
 exact ⟨by simp,rfl,rfl,rfl⟩
def b2B (P:Program)(T:TypeId):Bool:=match P.underlying T with|some (.slice e)=>(match P.underlying e with|some (.int .u8)=>true|_=>false)|_=>false
theorem aiB (h:b2B P T=true):∃ e,P.underlying T=some (.slice e)∧P.underlying e=some (.int .u8):=by
 unfold b2B at h
 split at h
 ·rename_i e he
  split at h
  ·rename_i h3;exact ⟨e,he,h3⟩
  ·cases h
 ·cases h
theorem aQM {n len:Nat}{t:TypeId}{cs:List Av}(xs:List Int)(hl:0<len)(hx:xs.length=len)(hc:∀ (j:Nat) (x:Int),xs[j]?=some x→cs[j]?=some (Av.val (.int .u8 x)))(ho:o.op=.convert T T p:=by rfl)(hp:ρ p=.osl 1 n len:=by rfl)(hT:b2B P T=true:=by kernel_rfl):OC P o ρ [(n,.live t cs)] (bs xs) [(n,.dead)]:=by
 intro E a hG hr hH
 have h1:=hr p (by simp [ho,Op.operands])
 rw [hp] at h1
 unfold aA at h1
 obtain ⟨e,t1,t2⟩:=aiB hT
 rcases hH n (.live t cs) (by simp) with ⟨h3,_⟩|⟨b,cur,h3,h4,h5⟩
 ·obtain ⟨_,h6⟩:=h1.1.2.2 h3
  omega
 obtain ⟨c,cur',t',h6,h7,h8,h9,h10⟩:=h1.2 b h3
 have hsh:E.w.shape? b=some (t,cur.size):=by simp [World.shape?,h4]
 have hrun:(convert T T (a.eval p)).run P E.w=.ok (a.eval p) (E.w.freeze ⟨b,cur.size,none⟩ 1):=by
  rw [h6]
  simp only [convert,Sem.run_bind,run_underlying t1,run_underlying t2,Result.andThen_ok,beq_self_eq_true,markStringish,run_shape,hsh,run_freeze,Sem.run_pure]
 unfold eK execOp
 simp only [ho,Sem.run_bind,hrun,Result.andThen_ok,Sem.run_pure,fM]
 obtain ⟨f1,f2,f3,f4⟩:=aiA (w:=E.w) (g:=b) (m:=cur.size)
 let E':Env:={ w:=E.w.freeze ⟨b,cur.size,none⟩ 1,loc:=fun i=>if i=n then .dead else E.loc i,bad:=E.bad }
 have hne:∀ i c,E'.loc i=.at c→i≠n∧E.loc i=.at c:=fun i c hi=>by
  by_cases e:i=n
  ·simp [E',e] at hi
  ·simp [E',e] at hi;exact ⟨e,hi⟩
 have hob:∀ i c,i≠n→E.loc i=.at c→c≠b:=fun i c hi hc e=>hi (hG.inj i n b (by rw [←e];exact hc) h3)
 refine ⟨E',rfl,⟨f2,f3,f4,by rw [show E'.w.heap.size=E.w.heap.size from f1];exact Nat.le_refl _,rfl,fun c hlt hno=>aE9 (fun e=>hno n (by rw [e];exact h3)),fun i hi=>?_,fun i hi=>?_,fun i c hi=>.inl (hne i c hi).2,fun i hi=>?_,fun i c cur' t' hi hi' hcc=>?_⟩,⟨fun c hc=>by rw [show E'.w.heap.size=E.w.heap.size from f1];exact hG.old c hc,fun i j c hi hj=>hG.inj i j c (hne i c hi).2 (hne j c hj).2,fun i c hi=>?_,hG.shp.same fun c hc=>⟨⟨?_,hc.2.1,fun i hi=>hc.2.2 i (hne i c hi).2⟩,?_⟩⟩,?_,fun i y hi=>?_⟩
 ·have hi:i≠n:=by simpa using hi
  exact ⟨by simp [E',hi],fun c hc=>aE9 (hob i c hi hc)⟩
 ·by_cases e:i=n
  ·simp [E',e]
  ·simpa [E',e] using hi
 ·by_cases e:i=n
  ·simp [E',e] at hi
  ·simp [E',e] at hi;exact .inl hi
 ·exact ⟨cur',(aE9 (hob i c (hne i c hi).1 hi')).trans hcc,rfl⟩
 ·have:=hG.lt i c (hne i c hi).2
  exact ⟨by rw [show E'.w.heap.size=E.w.heap.size from f1];exact this.1,this.2⟩
 ·rw [show E'.w.heap.size=E.w.heap.size from f1];exact hc.1
 ·exact aE9 (fun e=>hc.2.2 n (by rw [e];exact h3))
 ·rw [h6,←hx]
  refine aEX (fun _=>⟨b,0,rfl,⟨by rw [show E'.w.heap.size=E.w.heap.size from f1];exact (hG.lt n b h3).1,(hG.lt n b h3).2,fun i hi=>hob i b (hne i b hi).1 (hne i b hi).2 rfl⟩,fun j u hu=>?_⟩) (by omega) h8
  rw [Nat.zero_add,cell_of_row _ b j _ t _ (ah9 h4)]
  unfold cb at hu
  rw [List.getElem?_map] at hu
  cases hx':xs[j]? with
  | none=>rw [hx'] at hu;cases hu
  | some x=>
   rw [hx'] at hu
   simp at hu
   obtain ⟨u',h11,_,h12⟩:=h5 j _ (hc j x hx')
   unfold aA at h12
   rw [h11,h12,hu]
 ·simp only [aL] at hi
  by_cases e:n=i
  ·subst e
   simp at hi
   subst hi
   show E'.loc n=.dead
   simp [E']
  ·rw [eY e,cond_false] at hi
   cases hi
end
end Go.Proofs.YtnklgkjfoggpbaaGreatDoor
