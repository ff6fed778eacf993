/- Parts of the proof of a law of this seat: rules and contracts; no conditions. -/
import Derived.Test.YtnklgkjfoggpbaaGreatDoorMk
import Derived.Test.YtnklgkjfoggpbaaGreatDoorLt
import Derived.Test.YtnklgkjfoggpbaaGreatDoorWireSpec
set_option maxHeartbeats 6400000
set_option maxRecDepth 100000
set_option linter.unusedVariables false
set_option linter.unusedSimpArgs false
namespace Go.Proofs.YtnklgkjfoggpbaaGreatDoor
open Go.RowKit
theorem OC.nameNil {P:Program}{o:Oper}{ρ ρ':Operand→Av}{x:Av}{R U:List (Nat × Hs)}{n k:Nat}{ty:TypeId}(h:OC P o ρ' ((n,.live ty [])::R) x U)(hU:n∈U.map (·.1))(hR:n∉R.map (·.1))(hρ:∀ p∈o.op.operands.toList,ρ' p=ρ p∨(ρ p=.val (.slice none 0 0)∧ρ' p=.osl k n 0)):OC P o ρ ((n,.unborn)::R) x U:=by
 intro E a hG hr hH
 have hn:E.loc n=.unborn:=hH n .unborn (by simp)
 have hS:=Step.nil_name hn
 have hh:=h (E.re n .nil) a (hG.re (by simp)) (fun p hp=>by
  rcases hρ p hp with e|⟨e1,e2⟩
  ·rw [e];exact aA.step hS _ _ (hr p hp)
  ·have h1:=hr p hp
   rw [e1] at h1
   rw [e2]
   unfold aA at h1 ⊢
   have e3:(E.re n .nil).loc n=.nil:=by simp [Env.re]
   exact ⟨⟨by rw [e3];simp,⟨_,_,h1⟩,fun _=>⟨h1,rfl⟩⟩,fun b hb=>by rw [e3] at hb;cases hb⟩) (fun m y hm=>by
  rcases List.mem_cons.1 hm with hm|hm
  ·injection hm with h1 h2
   subst h1;subst h2
   exact .inl ⟨by simp [Env.re],rfl⟩
  ·have hne:m≠n:=fun e=>hR (List.mem_map.2 ⟨(m,y),hm,e⟩)
   exact dI.step hS (by simp [hne]) (hH m y (List.mem_cons_of_mem _ hm)))
 have e:(E.re n .nil).w=E.w:=rfl
 rw [e] at hh
 refine aT4 hh ?_
 rintro v w' ⟨E',h1,h2,h3,h4,h5⟩
 exact ⟨E',h1,(hS.trans h2).more (fun m hm=>by
  rcases List.mem_append.1 hm with hm|hm
  ·rw [List.mem_singleton] at hm;subst hm;exact hU
  ·exact hm),h3,h4,h5⟩
theorem akF {P:Program}{o:Oper}{ρ:Operand→Av}{T e:TypeId}{k by_ l:Nat}{row:Nat→Av}{ds:List Av}{zs:List Value}{u:Nat}(n m:Nat)(hnm:n≠m)(hds:ds.length=l*k)(hrow:∀ j,j<l→eQ (row j) k=true∧∀ i y,i<k→ds[j*k+i]?=some y→(cL (row j))[i]?=some y)(hb:(0+l)*by_≤140737488355328)(h63:0+l≤9223372036854775807)(ho:o.op=.call { callee:=.builtin .append,args:=#[.const (.slice none 0 0),.tmp u],argTypes:=#[T,T] }:=by rfl)(hρ:ρ (.const (.slice none 0 0))=.val (.slice none 0 0):=by rfl)(hq:ρ (.tmp u)=.sl k l row:=by rfl)(hT:eB P T=some e:=by kernel_rfl)(hi:lW P e=some (k,by_,zs):=by kernel_rfl)(hzl:zs.length=k:=by rfl)(h0:0<k:=by decide):
 OC P o ρ [(n,.unborn),(m,.unborn)] (.osl k m l) [(n,.dead),(m,.live e ds)]:=by
 have h:=iG (P:=P) (o:=o) (ρ:=fun r=>match r with|.const _=>.osl k n 0|r=>ρ r) (n:=n) (cs:=[]) (ds:=ds) m ho rfl hq hT hi hzl h0 hnm (by simp) hds hrow hb h63
 rw [Nat.zero_add,List.nil_append] at h
 refine OC.nameNil (k:=k) (ty:=e) (ρ':=fun r=>match r with|.const _=>.osl k n 0|r=>ρ r) h (by simp) (by simp [hnm]) (fun p hp=>?_)
 simp [ho,Op.operands,Call.operands] at hp
 rcases hp with rfl|rfl
 ·exact .inr ⟨hρ,rfl⟩
 ·exact .inl rfl
open Go.RowKit Go.IntWalk
theorem aFH (A:Option Addr)(n c:Nat)(zs:List Int)(m:Int)(w:World)(hr:Rd w w.heap.size A (cb .u8 zs))(hn:n=zs.length)(hl:zs.length≤300000000):
 Calls Tryz.prog 124 #[.slice A n c,.int .i64 m] w (kG w 5 (cb .u8 (zs++cQ m))):=by
 subst hn
 have hb0:Below w.heap.size w (w.alloc (.cells #[] 5)):=(Below.refl _ _).alloc (Nat.le_refl _) _
 rcases adE m 256 with ⟨hs,he⟩|⟨hs,he⟩
 all_goals
  go_enter Tryz.func124,Tryz.ntmps124
  go_wp2_with (first
   | (at_builtin;refine rD rE rfl (.tmp 12) (.tmp 13) rfl rfl (bA.new w [] 5 0 rfl (Nat.le_refl _) (by omega)) rfl (hr.below hb0) (by simp) (zE _ _) (by simp;omega) (by simp;omega) (by simp) ?_;intro A2 n2 c2 w2 hown2 hg2;have hb2:=pF hb0 hg2 (bA.new (base:=w.heap.size) w [] 5 0 rfl (Nat.le_refl _) (by omega)) (Nat.le_refl _) (by simp);have hb:=hb2.size)
   | (at_builtin;refine rD rE rfl (.tmp 14) (.tmp 17) rfl rfl (hown2.alloc _) rfl (Rd.new _ [_] _) rfl (vH _ _) (by simp;omega) (by simp;omega) (by simp;omega) ?_;intro A3 n3 c3 w3 hown3 hg3))
  all_goals
   go_ret
   exact ⟨A3,n3,c3,rfl,hown3.cast (by simp [cb,cQ];try omega),pF (hb2.alloc hb _) hg3 (hown2.alloc _) (Nat.le_refl _) (by simp;omega)⟩
theorem akG (A:Option Addr)(n c:Nat)(zs:List Int)(m:Int)(w:World)(hr:Rd w w.heap.size A (cb .u8 zs))(hn:n=zs.length)(hl:zs.length≤200000000)(h0:0≤m)(hm:m≤4294967295):
 Calls Tryz.prog 70 #[.slice A n c,.int .u32 m] w (kG w 5 (cb .u8 (zs++kX m))):=by
 subst hn
 go_enter Tryz.func70,Tryz.ntmps70
 go_wp2_with fail
 refine (aFH A _ c zs _ w hr rfl (by omega)).mono ?_
 rintro e w1 ⟨A1,n1,c1,rfl,hown,hb1⟩
 have hz:=Lib.hid hown.rd.1
 go_wp2_with fail
 refine (aFH A1 _ c1 _ _ w1 hown.rd.2.2 (by rw [hz.out];simp) (by simp [cQ];omega)).mono ?_
 rintro e w2 ⟨A2,n2,c2,rfl,hown2,hb2⟩
 have hz2:=Lib.hid hown2.rd.1
 go_wp2_with fail
 refine (aFH A2 _ c2 _ _ w2 hown2.rd.2.2 (by rw [hz2.out];simp) (by simp [cQ];omega)).mono ?_
 rintro e w3 ⟨A3,n3,c3,rfl,hown3,hb3⟩
 have hz3:=Lib.hid hown3.rd.1
 go_wp2_with fail
 refine (aFH A3 _ c3 _ _ w3 hown3.rd.2.2 (by rw [hz3.out];simp) (by simp [cQ];omega)).mono ?_
 rintro e w4 ⟨A4,n4,c4,rfl,hown4,hb4⟩
 go_wp2
 go_ret
 have b12:=hb1.trans (hb2.mono hb1.size)
 have b13:=b12.trans (hb3.mono b12.size)
 have b14:=b13.trans (hb4.mono b13.size)
 refine ⟨A4,n4,c4,rfl,(hown4.less b13.size).cast ?_,b14⟩
 simp [cQ,kX]
end Go.Proofs.YtnklgkjfoggpbaaGreatDoor
