/- Parts of the proof of a law of this seat: rules and contracts; no conditions. -/
import Derived.Test.YtnklgkjfoggpbaaGreatDoorLt
set_option maxHeartbeats 6400000
set_option maxRecDepth 100000
set_option linter.unusedVariables false
set_option linter.unusedSimpArgs false
namespace Go.Proofs.YtnklgkjfoggpbaaGreatDoor
open Go.RowKit
section
variable {bb:Bool}{P:Program}{ops:Array Oper}{o:Oper}{l:List Oper}{d:Nat}{s:List (Nat × Av)}{h:List (Nat × Hs)}{R U:List (Nat × Hs)}{x:Av}{K:Ctx→List (List Nat × List Nat)→Prop}
theorem ahN {pol:Bool}:oV (.val (.bool pol)) pol true:=fun E v h=>by unfold aA at h;subst h;cases pol<;>rfl
theorem ahO {pol:Bool}:oV (.val (.bool (!pol))) pol false:=fun E v h=>by unfold aA at h;subst h;cases pol<;>rfl
theorem aSW {g t:Nat}{pol C:Bool}(hg:o.guard=some (g,pol))(hs:(ops[g]?).bind (·.dst)=some t)(hG:oV (bN s t) pol C){E:Env}{a:Act}(ht:∀ t∈tO ops o,aA E (bN s t) (a.tmps.getD t undef)):Region.wanted o (yielded ops a.tmps)=C:=by
 have hgt:aA E (bN s t) (a.tmps.getD t undef):=ht t (by simp [tO,aFQ,hg,hs])
 have hy:(yielded ops a.tmps g==some pol)=C:=by
  have h1:=hG E _ hgt
  unfold yielded
  rw [hs,Option.bind_some]
  rw [←h1]
  by_cases hlt:t<a.tmps.size
  ·simp [Array.getD,hlt]
   split<;>simp_all
  ·simp [Array.getD,hlt,undef]
 simp only [Region.wanted,hg]
 exact hy
theorem pY {g t:Nat}{pol:Bool}(hg:o.guard=some (g,pol))(hs:(ops[g]?).bind (·.dst)=some t)(hd:o.dst=some d)(hG:bN s t=.val (.bool pol))(hop:OC P o (dA s) R x U)(hR:jU h R)(h':Ck bb P ops l ⟨(d,x)::s,U++h⟩ fun Γ' F=>K Γ' ((R.map (·.1),U.map (·.1))::F)):Ck bb P ops (o::l) ⟨s,h⟩ K:=
 let ⟨Γ',F,h1,h2⟩:=h'
 ⟨Γ',_,Ch.cons (R:=R) (U:=U) (x:=x) (fun E a hGd ht hRr=>by
  rw [if_pos (aSW hg hs (hG ▸ ahN) ht)]
  exact .inl (hop E a hGd (aJX ht) hRr)) (yJ hR) (by rw [hd];exact h1),h2⟩
theorem uU {g t:Nat}{pol:Bool}(hg:o.guard=some (g,pol))(hs:(ops[g]?).bind (·.dst)=some t)(hd:o.dst=some d)(hG:bN s t=.val (.bool (!pol)))(h':Ck bb P ops l ⟨(d,.any)::s,h⟩ fun Γ' F=>K Γ' (([],[])::F)):Ck bb P ops (o::l) ⟨s,h⟩ K:=
 let ⟨Γ',F,h1,h2⟩:=h'
 ⟨Γ',_,Ch.cons (R:=[]) (U:=[]) (x:=.any) (fun E a hGd ht hRr=>by
  rw [if_neg (by rw [aSW hg hs (hG ▸ ahO) ht];simp)]
  exact ⟨E,rfl,Step.refl E,hGd,by unfold aA;trivial,fun n y hn=>by simp [aL] at hn⟩) (fun n y hn=>by simp at hn) (by rw [hd];exact h1),h2⟩
end
section
variable {P:Program}{o:Oper}{ρ:Operand→Av}
theorem aBF {c p q:Operand}{x:Av}(ho:o.op=.pick c p q)(hc:ρ c=vb true)(hp:ρ p=x):OC P o ρ [] x []:=bZ fun E a hG hr _=>by
 have h1:=hr c (by simp [ho,Op.operands])
 have h2:=hr p (by simp [ho,Op.operands])
 rw [hc] at h1
 rw [hp] at h2
 unfold aA at h1
 exact ⟨a.eval p,by simp [execOp,ho,h1,asBool,Sem.run_bind],h2⟩
theorem aKI {c p q:Operand}{x:Av}(ho:o.op=.pick c p q)(hc:ρ c=vb false)(hq:ρ q=x):OC P o ρ [] x []:=bZ fun E a hG hr _=>by
 have h1:=hr c (by simp [ho,Op.operands])
 have h2:=hr q (by simp [ho,Op.operands])
 rw [hc] at h1
 rw [hq] at h2
 unfold aA at h1
 exact ⟨a.eval q,by simp [execOp,ho,h1,asBool,Sem.run_bind],h2⟩
end
section
variable {ro:Option Nat}{P:Program}{N:Nat}{D:List Nat}{x y:Code}{Q:Exit→Ctx→Prop}{Γ:Ctx}
theorem ag7 {ι:Type}(F:ι→Ctx)(I:ι→Prop)(h1:dW ro P N D x (wJ (fun Γ'=>∃ i,I i∧Le N D Γ' (F i)) Q) Γ)(h2:∀ i,I i→dW ro P N D y Q (F i)):dW ro P N D (.seq x y) Q Γ:=aD (aJC h1 fun e Γ' h=>by
 cases e
 case normal=>
  obtain ⟨i,hi,hl⟩:=h
  exact bS hl (h2 i hi)
 all_goals exact h)
end
theorem aC2 {P:Program}{o:Oper}{ρ:Operand→Av}{p q r:Operand}{T e:TypeId}{k by_ n:Nat}{zs:List Value}{row:Nat→Av}{kk kk':IntKind}(l h:Nat)(ho:o.op=.slice T p (some q) (some r) none)(hp:ρ p=.sl k n row)(hq:ρ q=.val (.int kk (l:Int)))(hr':ρ r=.val (.int kk' (h:Int)))(hT:eB P T=some e)(hi:lW P e=some (k,by_,zs))(h1:l≤h)(h2:h≤n):OC P o ρ [] (.sl k (h-l) (fun j=>row (j+l))) []:=bZ fun E a hG hr _=>by
 have g1:=hr p (by simp [ho,Op.operands])
 have g2:=hr q (by simp [ho,Op.operands])
 have g3:=hr r (by simp [ho,Op.operands])
 rw [hp] at g1
 rw [hq] at g2
 rw [hr'] at g3
 have g2':a.eval q=.int kk (l:Int):=by unfold aA at g2;exact g2
 have g3':a.eval r=.int kk' (h:Int):=by unfold aA at g3;exact g3
 obtain ⟨A,c,hv,hc,hm⟩:=aSM g1
 exact ⟨_,aJK ho hT hi hv hc (.inr ⟨q,kk,rfl,g2'⟩) (.inr ⟨r,kk',rfl,g3'⟩) h1 h2,aSK (hv ▸ g1) h1 h2⟩
end Go.Proofs.YtnklgkjfoggpbaaGreatDoor
