/- Parts of the proof of a law of this seat: rules and contracts; no conditions. -/
import Derived.Test.YtnklgkjfoggpbaaGreatDoorWireSpec
import Derived.Test.YtnklgkjfoggpbaaGreatDoorWireSpec2
import Derived.Test.YtnklgkjfoggpbaaGreatDoorWireT
import Derived.Test.YtnklgkjfoggpbaaGreatDoorGs
import Derived.Test.YtnklgkjfoggpbaaGreatDoorLt
set_option maxHeartbeats 6400000
set_option maxRecDepth 100000
set_option linter.unusedVariables false
set_option linter.unusedSimpArgs false
namespace Go.Proofs.YtnklgkjfoggpbaaGreatDoor
open Go.RowKit Go.IntWalk
theorem akS (A:Option Addr)(n c:Nat)(at_ err most:Int)(xs:List Int)(w:World)(B:Nat)(hB:B≤w.heap.size)(hr:Rd w B A (cb .u8 xs))(hx:n=xs.length)(hc:n≤c)(hn:n≤1000000000)(hb:cI xs):
 Calls Tryz.prog 169 #[.agg #[.slice A n c,.int .i64 at_,.int .i64 err],.int .i64 most,.int .i64 1] w fun en w'=>∃ A' m' c',en=.returned (.tuple #[.slice A' m' c',.agg #[.slice A n c,.int .i64 (cU xs at_ err most 1).2.1,.int .i64 (cU xs at_ err most 1).2.2]])∧Rd w B A' (cb .u8 (cU xs at_ err most 1).1)∧m'=(cU xs at_ err most 1).1.length∧m'≤c'∧Below w.heap.size w w':=by
 have HX:=Lib.hid hx
 clear hx
 have hb0:Below w.heap.size w ((w.alloc (.cells #[.slice A n c,.int .i64 at_,.int .i64 err] 60)).alloc (.cells #[.slice none 0 0,.int .i64 0,.int .i64 0] 60)):=((Below.refl _ _).alloc (Nat.le_refl _) _).alloc (by simp) _
 have k0:bI ((w.alloc (.cells #[.slice A n c,.int .i64 at_,.int .i64 err] 60)).alloc (.cells #[.slice none 0 0,.int .i64 0,.int .i64 0] 60)) w.heap.size 60 [.slice A n c,.int .i64 at_,.int .i64 err]:=(bI.new _ _ _).alloc _
 have k1:bI ((w.alloc (.cells #[.slice A n c,.int .i64 at_,.int .i64 err] 60)).alloc (.cells #[.slice none 0 0,.int .i64 0,.int .i64 0] 60)) (w.heap.size+1) 60 [.slice none 0 0,.int .i64 0,.int .i64 0]:=by simpa using bI.new (w.alloc (.cells #[.slice A n c,.int .i64 at_,.int .i64 err] 60)) 60 [.slice none 0 0,.int .i64 0,.int .i64 0]
 obtain ⟨hm0,hm1⟩:=aT7 xs hb at_ err most
 go_enter Tryz.func169,Tryz.ntmps169
 go_wp2_with fail
 refine (aJP A n c at_ err most xs _ (((hr.more hB).below hb0).more (by simp;omega)) HX.out hc hn hb).mono ?_
 rintro en w1 ⟨rfl,hb1⟩
 have j0:=(k0.below hb1 (by simp;omega)).alloc (.cells #[.slice A n c,.int .i64 (bY xs at_ err most).2.1,.int .i64 (bY xs at_ err most).2.2] 60)
 have j1:=(k1.below hb1 (by simp)).alloc (.cells #[.slice A n c,.int .i64 (bY xs at_ err most).2.1,.int .i64 (bY xs at_ err most).2.2] 60)
 have j2:bI (w1.alloc (.cells #[.slice A n c,.int .i64 (bY xs at_ err most).2.1,.int .i64 (bY xs at_ err most).2.2] 60)) w1.heap.size 60 [.slice A n c,.int .i64 (bY xs at_ err most).2.1,.int .i64 (bY xs at_ err most).2.2]:=bI.new _ _ _
 have hbV:=hb0.trans (hb1.mono (by simp;omega))
 have hbW:=hbV.alloc hbV.size (.cells #[.slice A n c,.int .i64 (bY xs at_ err most).2.1,.int .i64 (bY xs at_ err most).2.2] 60)
 have hlt1:=Lib.hid k1.lt
 have hsz1:=Lib.hid hb1.size
 clear k0 k1 hb0 hb1
 go_wp2_with fail
 obtain ⟨N,hN⟩:=Int.eq_ofNat_of_zero_le hm0
 obtain ⟨L,hL⟩:∃ L:Nat,(bY xs at_ err most).1.toNat*1=L:=⟨_,rfl⟩
 have hmul:(bY xs at_ err most).1=(L:Int):=by omega
 rw [hmul]
 refine (aFI A n c _ _ L xs _ B (hr.below (hbW.mono hB)) HX.out hc hn (by omega)).mono ?_
 clear hN hmul hm0 hm1
 have HL:=Lib.hid hL
 clear hL
 generalize hT:(eX xs (bY xs at_ err most).2.1 (bY xs at_ err most).2.2 L)=T
 have HT:=Lib.hid hT
 clear hT
 rintro en w2 ⟨A2,m2,c2,rfl,hr2,hm2,hc2,hb2⟩
 have HM:=Lib.hid hm2
 clear hm2
 have l0:=j0.below hb2 j0.lt
 have l1:=j1.below hb2 j1.lt
 have l2:=j2.below hb2 j2.lt
 have hbX:=hbW.trans (hb2.mono hbW.size)
 obtain ⟨c00,c01,c02,f00,f01,f02⟩:=l0.three
 obtain ⟨c10,c11,c12,f10,f11,f12⟩:=l1.three
 obtain ⟨c20,c21,c22,f20,f21,f22⟩:=l2.three
 have hR2:Rd w B A2 (cb .u8 T.1):=hr2.keep fun b o hbo=>(hbW.cell (p:=⟨b,o,none⟩) (by simp;omega)).symm
 have hne0:w1.heap.size≠w.heap.size:=by have:=hlt1.out;have:=hsz1.out;simp at *;omega
 have hne1:w1.heap.size≠w.heap.size+1:=by have:=hlt1.out;have:=hsz1.out;simp at *;omega
 have hne0':=hne0.symm
 have hne1':=hne1.symm
 have hle:w.heap.size≤w1.heap.size:=hbV.size
 clear j0 j1 j2 l0 l1 l2 hb2 hr2 hbW hbV
 by_cases he:T.2.2=0
 ·have HS:Hid (cU xs at_ err most 1=T):=by unfold Hid cU;rw [HL.out,HT.out,if_pos he]
  have he':(T.2.2 !=0)=false:=by simpa using he
  have HE:=Lib.hid he
  clear he
  go_wp2_with fail
  go_region
  go_wp2
  refine bodyPost_ret (v:=.tuple #[.slice A2 m2 c2,.agg #[.slice A n c,.int .i64 T.2.1,.int .i64 T.2.2]]) (by simp [results,Tryz.results169,go_sem,c10,c11,c12]) rfl ⟨A2,m2,c2,by rw [HS.out],?_,by rw [HS.out];exact HM.out,hc2,?_⟩
  ·rw [HS.out];exact hR2.keep fun b o hbo=>rfl
  ·exact (dS (dS hbX hle _ _ _) (Nat.le_succ _) _ _ _).drew
 ·have HS:Hid (cU xs at_ err most 1=([],at_,T.2.2)):=by unfold Hid cU;rw [HL.out,HT.out,if_neg he]
  have he':(T.2.2 !=0)=true:=by simpa using he
  clear he
  go_wp2_with fail
  go_region
  go_wp2
  refine bodyPost_ret (v:=.tuple #[.slice none 0 0,.agg #[.slice A n c,.int .i64 at_,.int .i64 T.2.2]]) (by simp [results,Tryz.results169,go_sem,c10,c11,c12]) rfl ⟨none,0,0,by rw [HS.out],?_,by rw [HS.out];rfl,Nat.le_refl _,?_⟩
  ·rw [HS.out];exact Rd.nil _ _ _
  ·exact (dS ((dS hbX hle _ _ _).setCell (p:=⟨w.heap.size,2,none⟩) (Nat.le_refl _) _) (Nat.le_succ _) _ _ _).drew
theorem akT (A:Option Addr)(n c:Nat)(at_ err most:Int)(xs:List Int)(w:World)(B:Nat)(hB:B≤w.heap.size)(hr:Rd w B A (cb .u8 xs))(hx:n=xs.length)(hc:n≤c)(hn:n≤1000000000)(hb:cI xs):
 Calls Tryz.prog 169 #[.agg #[.slice A n c,.int .i64 at_,.int .i64 err],.int .i64 most,.int .i64 2] w fun en w'=>∃ A' m' c',en=.returned (.tuple #[.slice A' m' c',.agg #[.slice A n c,.int .i64 (cU xs at_ err most 2).2.1,.int .i64 (cU xs at_ err most 2).2.2]])∧Rd w B A' (cb .u8 (cU xs at_ err most 2).1)∧m'=(cU xs at_ err most 2).1.length∧m'≤c'∧Below w.heap.size w w':=by
 have HX:=Lib.hid hx
 clear hx
 have hb0:Below w.heap.size w ((w.alloc (.cells #[.slice A n c,.int .i64 at_,.int .i64 err] 60)).alloc (.cells #[.slice none 0 0,.int .i64 0,.int .i64 0] 60)):=((Below.refl _ _).alloc (Nat.le_refl _) _).alloc (by simp) _
 have k0:bI ((w.alloc (.cells #[.slice A n c,.int .i64 at_,.int .i64 err] 60)).alloc (.cells #[.slice none 0 0,.int .i64 0,.int .i64 0] 60)) w.heap.size 60 [.slice A n c,.int .i64 at_,.int .i64 err]:=(bI.new _ _ _).alloc _
 have k1:bI ((w.alloc (.cells #[.slice A n c,.int .i64 at_,.int .i64 err] 60)).alloc (.cells #[.slice none 0 0,.int .i64 0,.int .i64 0] 60)) (w.heap.size+1) 60 [.slice none 0 0,.int .i64 0,.int .i64 0]:=by simpa using bI.new (w.alloc (.cells #[.slice A n c,.int .i64 at_,.int .i64 err] 60)) 60 [.slice none 0 0,.int .i64 0,.int .i64 0]
 obtain ⟨hm0,hm1⟩:=aT7 xs hb at_ err most
 go_enter Tryz.func169,Tryz.ntmps169
 go_wp2_with fail
 refine (aJP A n c at_ err most xs _ (((hr.more hB).below hb0).more (by simp;omega)) HX.out hc hn hb).mono ?_
 rintro en w1 ⟨rfl,hb1⟩
 have j0:=(k0.below hb1 (by simp;omega)).alloc (.cells #[.slice A n c,.int .i64 (bY xs at_ err most).2.1,.int .i64 (bY xs at_ err most).2.2] 60)
 have j1:=(k1.below hb1 (by simp)).alloc (.cells #[.slice A n c,.int .i64 (bY xs at_ err most).2.1,.int .i64 (bY xs at_ err most).2.2] 60)
 have j2:bI (w1.alloc (.cells #[.slice A n c,.int .i64 (bY xs at_ err most).2.1,.int .i64 (bY xs at_ err most).2.2] 60)) w1.heap.size 60 [.slice A n c,.int .i64 (bY xs at_ err most).2.1,.int .i64 (bY xs at_ err most).2.2]:=bI.new _ _ _
 have hbV:=hb0.trans (hb1.mono (by simp;omega))
 have hbW:=hbV.alloc hbV.size (.cells #[.slice A n c,.int .i64 (bY xs at_ err most).2.1,.int .i64 (bY xs at_ err most).2.2] 60)
 have hlt1:=Lib.hid k1.lt
 have hsz1:=Lib.hid hb1.size
 clear k0 k1 hb0 hb1
 go_wp2_with fail
 obtain ⟨N,hN⟩:=Int.eq_ofNat_of_zero_le hm0
 obtain ⟨L,hL⟩:∃ L:Nat,(bY xs at_ err most).1.toNat*2=L:=⟨_,rfl⟩
 have hmul:(bY xs at_ err most).1*2=(L:Int):=by omega
 rw [hmul]
 refine (aFI A n c _ _ L xs _ B (hr.below (hbW.mono hB)) HX.out hc hn (by omega)).mono ?_
 clear hN hmul hm0 hm1
 have HL:=Lib.hid hL
 clear hL
 generalize hT:(eX xs (bY xs at_ err most).2.1 (bY xs at_ err most).2.2 L)=T
 have HT:=Lib.hid hT
 clear hT
 rintro en w2 ⟨A2,m2,c2,rfl,hr2,hm2,hc2,hb2⟩
 have HM:=Lib.hid hm2
 clear hm2
 have l0:=j0.below hb2 j0.lt
 have l1:=j1.below hb2 j1.lt
 have l2:=j2.below hb2 j2.lt
 have hbX:=hbW.trans (hb2.mono hbW.size)
 obtain ⟨c00,c01,c02,f00,f01,f02⟩:=l0.three
 obtain ⟨c10,c11,c12,f10,f11,f12⟩:=l1.three
 obtain ⟨c20,c21,c22,f20,f21,f22⟩:=l2.three
 have hR2:Rd w B A2 (cb .u8 T.1):=hr2.keep fun b o hbo=>(hbW.cell (p:=⟨b,o,none⟩) (by simp;omega)).symm
 have hne0:w1.heap.size≠w.heap.size:=by have:=hlt1.out;have:=hsz1.out;simp at *;omega
 have hne1:w1.heap.size≠w.heap.size+1:=by have:=hlt1.out;have:=hsz1.out;simp at *;omega
 have hne0':=hne0.symm
 have hne1':=hne1.symm
 have hle:w.heap.size≤w1.heap.size:=hbV.size
 clear j0 j1 j2 l0 l1 l2 hb2 hr2 hbW hbV
 by_cases he:T.2.2=0
 ·have HS:Hid (cU xs at_ err most 2=T):=by unfold Hid cU;rw [HL.out,HT.out,if_pos he]
  have he':(T.2.2 !=0)=false:=by simpa using he
  have HE:=Lib.hid he
  clear he
  go_wp2_with fail
  go_region
  go_wp2
  refine bodyPost_ret (v:=.tuple #[.slice A2 m2 c2,.agg #[.slice A n c,.int .i64 T.2.1,.int .i64 T.2.2]]) (by simp [results,Tryz.results169,go_sem,c10,c11,c12]) rfl ⟨A2,m2,c2,by rw [HS.out],?_,by rw [HS.out];exact HM.out,hc2,?_⟩
  ·rw [HS.out];exact hR2.keep fun b o hbo=>rfl
  ·exact (dS (dS hbX hle _ _ _) (Nat.le_succ _) _ _ _).drew
 ·have HS:Hid (cU xs at_ err most 2=([],at_,T.2.2)):=by unfold Hid cU;rw [HL.out,HT.out,if_neg he]
  have he':(T.2.2 !=0)=true:=by simpa using he
  clear he
  go_wp2_with fail
  go_region
  go_wp2
  refine bodyPost_ret (v:=.tuple #[.slice none 0 0,.agg #[.slice A n c,.int .i64 at_,.int .i64 T.2.2]]) (by simp [results,Tryz.results169,go_sem,c10,c11,c12]) rfl ⟨none,0,0,by rw [HS.out],?_,by rw [HS.out];rfl,Nat.le_refl _,?_⟩
  ·rw [HS.out];exact Rd.nil _ _ _
  ·exact (dS ((dS hbX hle _ _ _).setCell (p:=⟨w.heap.size,2,none⟩) (Nat.le_refl _) _) (Nat.le_succ _) _ _ _).drew
theorem akU:(Tryz.prog.info? 3).map (fun i=>(i.zero,i.size,i.bytes))=some (some (.int .i64 0),1,8):=by kernel_rfl
theorem akV:Elem Tryz.prog 25 3 (.int .i64 0) 8:=⟨Tryz.underlying25,info_parts akU,rfl⟩
theorem ae9 (A:Option Addr)(n c:Nat)(at_ err most:Int)(xs:List Int)(w:World)(hr:Rd w w.heap.size A (cb .u8 xs))(hx:n=xs.length)(hc:n≤c)(hn:n≤1000000)(hb:cI xs):
 Calls Tryz.prog 133 #[.agg #[.slice A n c,.int .i64 at_,.int .i64 err],.int .i64 most] w fun en w'=>∃ A' m' c',en=.returned (.tuple #[.slice A' m' c',.agg #[.slice A n c,.int .i64 (cU xs at_ err most 2).2.1,.int .i64 (cU xs at_ err most 2).2.2]])∧bA w' w.heap.size 3 (.slice A' m' c') (cb .i64 (kL (cU xs at_ err most 2).1))∧Below w.heap.size w w':=by
 have HX:=Lib.hid hx
 have hlen:=aTF xs at_ err most 2
 rw [←hx] at hlen
 clear hx
 have hbt:=akW xs at_ err most 2 hb
 have hb0:Below w.heap.size w ((w.alloc (.cells #[.slice A n c,.int .i64 at_,.int .i64 err] 60)).alloc (.cells #[.slice none 0 0,.int .i64 0,.int .i64 0] 60)):=((Below.refl _ _).alloc (Nat.le_refl _) _).alloc (by simp) _
 have k0:bI ((w.alloc (.cells #[.slice A n c,.int .i64 at_,.int .i64 err] 60)).alloc (.cells #[.slice none 0 0,.int .i64 0,.int .i64 0] 60)) w.heap.size 60 [.slice A n c,.int .i64 at_,.int .i64 err]:=(bI.new _ _ _).alloc _
 have k1:bI ((w.alloc (.cells #[.slice A n c,.int .i64 at_,.int .i64 err] 60)).alloc (.cells #[.slice none 0 0,.int .i64 0,.int .i64 0] 60)) (w.heap.size+1) 60 [.slice none 0 0,.int .i64 0,.int .i64 0]:=by simpa using bI.new (w.alloc (.cells #[.slice A n c,.int .i64 at_,.int .i64 err] 60)) 60 [.slice none 0 0,.int .i64 0,.int .i64 0]
 go_enter Tryz.func133,Tryz.ntmps133
 go_wp2_with fail
 refine (akT A n c at_ err most xs _ w.heap.size (by simp;omega) (hr.below hb0) HX.out hc (by omega) hb).mono ?_
 rintro en w1 ⟨A1,m1,c1,rfl,hr1,hm1,hc1,hb1⟩
 have j0:=k0.below hb1 (by simp;omega)
 have j1:=k1.below hb1 (by simp)
 have hbV:=hb0.trans (hb1.mono (by simp;omega))
 have hrV:=hr1.below (hb1.mono (by simp;omega))
 clear k0 k1 hb0 hb1 hr1 hr HX hb
 generalize hT:(cU xs at_ err most 2)=T at *
 have HT:=Lib.hid hT
 clear hT
 obtain ⟨c00,c01,c02,f00,f01,f02⟩:=j0.three
 obtain ⟨c10,c11,c12,f10,f11,f12⟩:=j1.three
 have l0:=((j0.set_ 0 (.slice A n c)).set_ 1 (.int .i64 T.2.1)).set_ 2 (.int .i64 T.2.2)
 have l1:=((j1.far (p:=⟨w.heap.size,0,none⟩) (by simp) (.slice A n c)).far (p:=⟨w.heap.size,1,none⟩) (by simp) (.int .i64 T.2.1)).far (p:=⟨w.heap.size,2,none⟩) (by simp) (.int .i64 T.2.2)
 have hbW:=dS hbV (Nat.le_refl _) (.slice A n c) (.int .i64 T.2.1) (.int .i64 T.2.2)
 have hrW:=((hrV.setCell (p:=⟨w.heap.size,0,none⟩) (Nat.le_refl _) (.slice A n c)).setCell (p:=⟨w.heap.size,1,none⟩) (Nat.le_refl _) (.int .i64 T.2.1)).setCell (p:=⟨w.heap.size,2,none⟩) (Nat.le_refl _) (.int .i64 T.2.2)
 clear j0 j1 hrV
 go_wp2_with fail
 clear c00 c01 c02 f00 f01 f02 c10 c11 c12 f10 f11 f12 hbV
 generalize ((w1.setCell ⟨w.heap.size,0,none⟩ (.slice A n c)).setCell ⟨w.heap.size,1,none⟩ (.int .i64 T.2.1)).setCell ⟨w.heap.size,2,none⟩ (.int .i64 T.2.2)=W at *
 simp at l0
 have hl1:=l1.lt
 go_loopw [7,8] (fun s i w2=>∃ (k:Nat) (A2:Option Addr) (n2 c2:Nat),2*k≤m1∧i=.int .i64 ((2*k:Nat):Int)∧s=.slice A2 n2 c2∧bA w2 W.heap.size 3 (.slice A2 n2 c2) (cb .i64 (kL (T.1.take (2*k))))∧Below W.heap.size W w2) (fun _ i _=>m1-(intOf i).toNat)
 case atStart=>exact ⟨0,none,0,0,by omega,rfl,rfl,by simpa [kL,cb] using bA.nil _ _ _,Below.refl _ _⟩
 case round=>
  obtain ⟨k,A2,n2,c2,hk,rfl,rfl,hown2,hbel⟩:=hrel
  have hbs:=hbel.size
  by_cases hlt:2*k+1<m1
  ·have hkk:=aT8 k T.1 (by omega)
   have hpl:=aT9 k T.1 (by omega)
   obtain ⟨b,o,rfl,hbB,hrp⟩:=(hrW.below (hbel.mono (by omega))).pair (i:=2*k) (by omega)
   have hx0:=hbt.get (i:=2*k) (by omega)
   have hx1:=hbt.get (i:=2*k+1) (by omega)
   have hbp:cI [T.1[2*k],T.1[2*k+1]]:=by intro u hu;simp at hu;rcases hu with rfl|rfl<;>assumption
   have hS:=akX hx0 hx1
   have hWR:IntKind.i64.wrap (gI [T.1[2*k],T.1[2*k+1]])=gI [T.1[2*k],T.1[2*k+1]]:=IntWalk.i64_in _ (by omega)
   go_wp2_with (first|(go_at_call 170;refine (aUA _ _ _ _ _ _ hrp rfl hbp (by simp)).mono ?_;rintro e w' ⟨rfl,rfl⟩)|(go_at_call 161;refine (aUB _ _).mono ?_;rintro e w' ⟨rfl,rfl⟩)|(at_builtin;refine rD akV rfl _ _ rfl rfl (hown2.alloc _) rfl (Rd.new _ [_] _) rfl (vH _ _) (by simp [hpl];omega) (by simp [hpl];omega) (by simp;omega) ?_;intro A3 n3 c3 w3 hown3 hg3))
   go_roundw
   case rel=>exact ⟨k+1,A3,n3,c3,by omega,by go_num,rfl,by rw [show 2*(k+1)=2*k+2 by omega,hkk,tP];exact hown3,pF (hbel.alloc hbs _) hg3 (hown2.alloc _) (Nat.le_refl _) (by simp;omega)⟩
   case measure=>simp [intOf];omega
  ·rw [aUC k T.1 (by omega)] at hown2
   have j0:=l0.below hbel l0.lt
   have j1:=l1.below hbel l1.lt
   obtain ⟨c00,c01,c02,f00,f01,f02⟩:=j0.three
   obtain ⟨c10,c11,c12,f10,f11,f12⟩:=j1.three
   go_wp2_with fail
   go_region
   go_wp2
   refine bodyPost_ret (v:=.tuple #[.slice A2 n2 c2,.agg #[.slice A n c,.int .i64 T.2.1,.int .i64 T.2.2]]) (by simp [results,Tryz.results133,go_sem,c10,c11,c12]) rfl ⟨A2,n2,c2,by rw [HT.out],?_,?_⟩
   ·rw [HT.out];exact (hown2.set3 hl1 _ _ _).less hbW.size
   ·exact (dS (hbW.trans (hbel.mono hbW.size)) (Nat.le_succ _) _ _ _).drew
theorem ae6 (A:Option Addr)(n c:Nat)(at_ err most:Int)(xs:List Int)(w:World)(hr:Rd w w.heap.size A (cb .u8 xs))(hx:n=xs.length)(hc:n≤c)(hn:n≤1000000000)(hb:cI xs):
 Calls Tryz.prog 167 #[.agg #[.slice A n c,.int .i64 at_,.int .i64 err],.int .i64 most] w fun en w'=>en=.returned (.tuple #[.string (strOfNums (cU xs at_ err most 1).1),.agg #[.slice A n c,.int .i64 (cU xs at_ err most 1).2.1,.int .i64 (cU xs at_ err most 1).2.2]])∧Below w.heap.size w w':=by
 have HX:=Lib.hid hx
 clear hx
 have hb0:Below w.heap.size w ((w.alloc (.cells #[.slice A n c,.int .i64 at_,.int .i64 err] 60)).alloc (.cells #[.slice none 0 0,.int .i64 0,.int .i64 0] 60)):=((Below.refl _ _).alloc (Nat.le_refl _) _).alloc (by simp) _
 have k0:bI ((w.alloc (.cells #[.slice A n c,.int .i64 at_,.int .i64 err] 60)).alloc (.cells #[.slice none 0 0,.int .i64 0,.int .i64 0] 60)) w.heap.size 60 [.slice A n c,.int .i64 at_,.int .i64 err]:=(bI.new _ _ _).alloc _
 have k1:bI ((w.alloc (.cells #[.slice A n c,.int .i64 at_,.int .i64 err] 60)).alloc (.cells #[.slice none 0 0,.int .i64 0,.int .i64 0] 60)) (w.heap.size+1) 60 [.slice none 0 0,.int .i64 0,.int .i64 0]:=by simpa using bI.new (w.alloc (.cells #[.slice A n c,.int .i64 at_,.int .i64 err] 60)) 60 [.slice none 0 0,.int .i64 0,.int .i64 0]
 go_enter Tryz.func167,Tryz.ntmps167
 go_wp2_with fail
 refine (akS A n c at_ err most xs _ w.heap.size (by simp;omega) (hr.below hb0) HX.out hc hn hb).mono ?_
 rintro en w1 ⟨A1,m1,c1,rfl,hr1,hm1,hc1,hb1⟩
 have HM:=Lib.hid hm1
 clear hm1
 have j0:=k0.below hb1 (by simp;omega)
 have j1:=k1.below hb1 (by simp)
 have hbV:=hb0.trans (hb1.mono (by simp;omega))
 clear k0 k1
 have hrW:Rd (((w1.setCell ⟨w.heap.size,0,none⟩ (.slice A n c)).setCell ⟨w.heap.size,1,none⟩ (.int .i64 (cU xs at_ err most 1).2.1)).setCell ⟨w.heap.size,2,none⟩ (.int .i64 (cU xs at_ err most 1).2.2)) w.heap.size A1 (cb .u8 (cU xs at_ err most 1).1):=(((hr1.below (hb1.mono (by simp;omega))).setCell (p:=⟨w.heap.size,0,none⟩) (Nat.le_refl _) (.slice A n c)).setCell (p:=⟨w.heap.size,1,none⟩) (Nat.le_refl _) (.int .i64 (cU xs at_ err most 1).2.1)).setCell (p:=⟨w.heap.size,2,none⟩) (Nat.le_refl _) (.int .i64 (cU xs at_ err most 1).2.2)
 have hrX:Rd ((((((w1.setCell ⟨w.heap.size,0,none⟩ (.slice A n c)).setCell ⟨w.heap.size,1,none⟩ (.int .i64 (cU xs at_ err most 1).2.1)).setCell ⟨w.heap.size,2,none⟩ (.int .i64 (cU xs at_ err most 1).2.2)).setCell ⟨w.heap.size+1,0,none⟩ (.slice A n c)).setCell ⟨w.heap.size+1,1,none⟩ (.int .i64 (cU xs at_ err most 1).2.1)).setCell ⟨w.heap.size+1,2,none⟩ (.int .i64 (cU xs at_ err most 1).2.2)) w.heap.size A1 (cb .u8 (cU xs at_ err most 1).1):=((hrW.setCell (p:=⟨w.heap.size+1,0,none⟩) (Nat.le_succ _) (.slice A n c)).setCell (p:=⟨w.heap.size+1,1,none⟩) (Nat.le_succ _) (.int .i64 (cU xs at_ err most 1).2.1)).setCell (p:=⟨w.heap.size+1,2,none⟩) (Nat.le_succ _) (.int .i64 (cU xs at_ err most 1).2.2)
 have g1:=aAP (P:=Tryz.prog) Tryz.underlying22 Tryz.underlying5 Tryz.underlying9 (c:=c1) hrW.drew HM.out
 have g2:=aAP (P:=Tryz.prog) Tryz.underlying22 Tryz.underlying5 Tryz.underlying9 (c:=c1) hrX.drew HM.out
 obtain ⟨c00,c01,c02,f00,f01,f02⟩:=j0.three
 obtain ⟨c10,c11,c12,f10,f11,f12⟩:=j1.three
 clear j0 j1 hrW hrX hr1 hr HM hb0 hb1
 go_wp2_with fail
 go_region
 go_wp2
 refine bodyPost_ret (v:=.tuple #[.string (strOfNums (cU xs at_ err most 1).1),.agg #[.slice A n c,.int .i64 (cU xs at_ err most 1).2.1,.int .i64 (cU xs at_ err most 1).2.2]]) (by simp [results,Tryz.results167,go_sem,c10,c11,c12]) rfl ⟨rfl,?_⟩
 exact (dS (dS hbV (Nat.le_refl _) _ _ _) (Nat.le_succ _) _ _ _).drew
theorem ae3 (A:Option Addr)(n c:Nat)(at_ err:Int)(xs:List Int)(w:World)(hr:Rd w w.heap.size A (cb .u8 xs))(hx:n=xs.length)(hc:n≤c)(hn:n≤1000000000)(hb:cI xs):
 Calls Tryz.prog 173 #[.agg #[.slice A n c,.int .i64 at_,.int .i64 err]] w fun e w'=>e=.returned (.tuple #[.int .i64 (gI (eX xs at_ err 1).1),.agg #[.slice A n c,.int .i64 (eX xs at_ err 1).2.1,.int .i64 (eX xs at_ err 1).2.2]])∧Below w.heap.size w w':=by
 have HX:=Lib.hid hx
 clear hx
 have hb0:Below w.heap.size w ((w.alloc (.cells #[.slice A n c,.int .i64 at_,.int .i64 err] 60)).alloc (.cells #[.slice none 0 0,.int .i64 0,.int .i64 0] 60)):=((Below.refl _ _).alloc (Nat.le_refl _) _).alloc (by simp) _
 have k0:bI ((w.alloc (.cells #[.slice A n c,.int .i64 at_,.int .i64 err] 60)).alloc (.cells #[.slice none 0 0,.int .i64 0,.int .i64 0] 60)) w.heap.size 60 [.slice A n c,.int .i64 at_,.int .i64 err]:=(bI.new _ _ _).alloc _
 have k1:bI ((w.alloc (.cells #[.slice A n c,.int .i64 at_,.int .i64 err] 60)).alloc (.cells #[.slice none 0 0,.int .i64 0,.int .i64 0] 60)) (w.heap.size+1) 60 [.slice none 0 0,.int .i64 0,.int .i64 0]:=by simpa using bI.new (w.alloc (.cells #[.slice A n c,.int .i64 at_,.int .i64 err] 60)) 60 [.slice none 0 0,.int .i64 0,.int .i64 0]
 have hB:=aUD xs at_ err 1 hb
 have hL:=akY xs at_ err 1
 have hS:=akZ _ hB 1 hL
 rw [show (256:Int)^1=256 from by decide] at hS
 obtain ⟨hS0,hS1⟩:=hS
 have hWR:IntKind.i64.wrap (gI (eX xs at_ err 1).1)=gI (eX xs at_ err 1).1:=IntWalk.i64_in _ (by omega)
 go_enter Tryz.func173,Tryz.ntmps173
 go_wp2_with fail
 refine (aFI A n c at_ err 1 xs _ w.heap.size (hr.below hb0) HX.out hc hn (by omega)).mono ?_
 rintro e w1 ⟨A1,m1,c1,rfl,hr1,hm1,hc1,hb1⟩
 have HM:=Lib.hid hm1
 clear hm1
 have hbW:=hb0.trans (hb1.mono (by simp;omega))
 have j0:=k0.below hb1 (by simp;omega)
 have j1:=k1.below hb1 (by simp)
 obtain ⟨c00,c01,c02,f00,f01,f02⟩:=j0.three
 obtain ⟨c10,c11,c12,f10,f11,f12⟩:=j1.three
 have hR:=(((hr1.below (hb1.mono (by simp;omega))).setCell (p:=⟨w.heap.size,0,none⟩) (Nat.le_refl _) (.slice A n c)).setCell (p:=⟨w.heap.size,1,none⟩) (Nat.le_refl _) (.int .i64 (eX xs at_ err 1).2.1)).setCell (p:=⟨w.heap.size,2,none⟩) (Nat.le_refl _) (.int .i64 (eX xs at_ err 1).2.2)
 clear k0 k1 j0 j1 hb0 hb1 hr1 hr
 go_wp2_with fail
 go_region_with (go_at_call 170;refine (aUA A1 m1 c1 _ _ w.heap.size hR.drew HM.out hB (Nat.le_trans hL (by omega))).mono ?_;rintro e w' ⟨rfl,rfl⟩)
 all_goals
  go_wp2
  refine bodyPost_ret (v:=.tuple #[.int .i64 (gI (eX xs at_ err 1).1),.agg #[.slice A n c,.int .i64 (eX xs at_ err 1).2.1,.int .i64 (eX xs at_ err 1).2.2]]) (by simp [results,Tryz.results173,go_sem,c10,c11,c12]) rfl ⟨rfl,?_⟩
  exact (dS (dS hbW (Nat.le_refl _) _ _ _) (Nat.le_succ _) _ _ _).drew
theorem afC (A:Option Addr)(n c:Nat)(at_ err:Int)(w:World):
 Calls Tryz.prog 20 #[.agg #[.slice A n c,.int .i64 at_,.int .i64 err]] w fun e w'=>e=.returned (.int .i64 (tC n at_ err))∧Below w.heap.size w w':=by
 by_cases he:err=0
 ·subst he
  by_cases ha:at_<n
  all_goals
   go_enter Tryz.func20,Tryz.ntmps20
   go_wp2
   go_ret
   exact ⟨by simp [tC,ha],(Below.refl _ _).alloc (Nat.le_refl _) _⟩
 ·have he':(err==0)=false:=by simpa using he
  have HE:=Lib.hid he
  clear he
  go_enter Tryz.func20,Tryz.ntmps20
  go_wp2
  go_ret
  exact ⟨by simp [tC,HE.out],(Below.refl _ _).alloc (Nat.le_refl _) _⟩
end Go.Proofs.YtnklgkjfoggpbaaGreatDoor
namespace Go.Proofs.YtnklgkjfoggpbaaGreatDoor
def vC:Nat:=3988292384
def lP (c:Nat):Nat:=if c%2=1 then (c/2) ^^^ vC else c/2
def iB:Nat→Nat→Nat
 | 0,c=>c
 | n+1,c=>iB n (lP c)
def oW (c x:Nat):Nat:=iB 8 (c ^^^ x)
def jL (c:Nat)(l:List Nat):Nat:=l.foldl oW c
def nH (s:Nat)(l:List Nat):Nat:=jL (s ^^^ 4294967295) l ^^^ 4294967295
theorem ak0 (a b:Nat):(a ^^^ b)/2=(a/2) ^^^ (b/2):=by
 have h:∀ n:Nat,n/2=n >>> 1:=fun n=>by rw [Nat.shiftRight_eq_div_pow]
 rw [h,h,h,Nat.shiftRight_xor_distrib]
theorem aFJ (a b:Nat):((a ^^^ b)%2=1)↔¬ (a%2=1↔b%2=1):=by
 have h:=Nat.testBit_xor a b 0
 simp only [Nat.testBit_zero] at h
 by_cases ha:a%2=1<;>by_cases hb:b%2=1<;>simp [ha,hb] at h ⊢<;>omega
theorem ak1 (a b:Nat):lP (a ^^^ b)=lP a ^^^ lP b:=by
 unfold lP
 rw [ak0]
 by_cases ha:a%2=1<;>by_cases hb:b%2=1
 ·rw [if_neg (by rw [aFJ];simp [ha,hb]),if_pos ha,if_pos hb]
  rw [Nat.xor_assoc,←Nat.xor_assoc vC,Nat.xor_comm vC,Nat.xor_assoc,Nat.xor_self,Nat.xor_zero]
 ·rw [if_pos (by rw [aFJ];simp [ha,hb]),if_pos ha,if_neg hb]
  rw [Nat.xor_assoc,Nat.xor_assoc,Nat.xor_comm vC]
 ·rw [if_pos (by rw [aFJ];simp [ha,hb]),if_neg ha,if_pos hb,Nat.xor_assoc]
 ·rw [if_neg (by rw [aFJ];simp [ha,hb]),if_neg ha,if_neg hb]
theorem aLJ:∀ (n a b:Nat),iB n (a ^^^ b)=iB n a ^^^ iB n b
 | 0,a,b=>rfl
 | n+1,a,b=>by
  unfold iB
  rw [ak1,aLJ n]
theorem ak2 (h:Nat):lP (2*h)=h:=by
 unfold lP
 rw [if_neg (by omega)]
 omega
theorem aUE:∀ (n h:Nat),iB n (2^n*h)=h
 | 0,h=>by simp [iB]
 | n+1,h=>by
  unfold iB
  rw [show 2^(n+1)*h=2*(2^n*h) by rw [Nat.pow_succ];rw [Nat.mul_comm (2^n) 2,Nat.mul_assoc],ak2,aUE n h]
theorem aUF {c:Nat}(h:c<4294967296):lP c<4294967296:=by
 unfold lP
 split
 ·exact Nat.xor_lt_two_pow (n:=32) (by omega) (by decide)
 ·omega
theorem aA0:∀ (n:Nat) {c:Nat},c<4294967296→iB n c<4294967296
 | 0,c,h=>h
 | n+1,c,h=>aA0 n (aUF h)
theorem ak3 (c:Nat):c=(c%256) ^^^ (2^8*(c/256)):=by
 have h:c%256<2^8:=Nat.mod_lt _ (by decide)
 have h2:=Nat.two_pow_add_eq_or_of_lt h (c/256)
 have h3:(2^8*(c/256))&&& (c%256)=0:=by
  refine Nat.eq_of_testBit_eq fun i=>?_
  rw [Nat.testBit_and,Nat.zero_testBit,Nat.testBit_two_pow_mul]
  by_cases hi:8≤i
  ·rw [Nat.testBit_lt_two_pow (x:=c%256) (Nat.lt_of_lt_of_le h (Nat.pow_le_pow_right (by decide) hi)),Bool.and_false]
  ·simp [hi]
 have h4:c=2^8*(c/256)+c%256:=by omega
 refine Nat.eq_of_testBit_eq fun i=>?_
 conv=>lhs;rw [h4,h2,Nat.testBit_or]
 rw [Nat.testBit_xor]
 have h5:=congrArg (fun n=>n.testBit i) h3
 simp only [Nat.testBit_and,Nat.zero_testBit] at h5
 revert h5
 cases (2^8*(c/256)).testBit i<;>cases (c%256).testBit i<;>simp
theorem aeV {c x:Nat}(hx:x<256):iB 8 ((c%256) ^^^ x) ^^^ (c/256)=oW c x:=by
 unfold oW
 conv=>rhs;rw [ak3 c,Nat.xor_assoc,Nat.xor_comm (2^8*(c/256)),←Nat.xor_assoc,aLJ,aUE]
theorem ak4 {d:Nat}(hd:d<4294967296)(h:lP d=0):d=0:=by
 unfold lP at h
 by_cases ho:d%2=1
 ·rw [if_pos ho] at h
  have h1:(d/2) ^^^ vC ^^^ vC=vC:=by rw [h,Nat.zero_xor]
  rw [Nat.xor_assoc,Nat.xor_self,Nat.xor_zero] at h1
  unfold vC at h1
  omega
 ·rw [if_neg ho] at h
  omega
theorem aUG:∀ (n:Nat) {d:Nat},d<4294967296→iB n d=0→d=0
 | 0,d,_,h=>h
 | n+1,d,hd,h=>ak4 hd (aUG n (aUF hd) h)
theorem ak5 {a b:Nat}(h:a ^^^ b=0):a=b:=by
 have h1:a ^^^ b ^^^ b=b:=by rw [h,Nat.zero_xor]
 rwa [Nat.xor_assoc,Nat.xor_self,Nat.xor_zero] at h1
theorem aUH {n a b:Nat}(ha:a<4294967296)(hb:b<4294967296)(h:iB n a=iB n b):a=b:=by
 refine ak5 (aUG n (Nat.xor_lt_two_pow (n:=32) ha hb) ?_)
 rw [aLJ,h,Nat.xor_self]
theorem aLK {c a b:Nat}(h:c ^^^ a=c ^^^ b):a=b:=by
 have h1:c ^^^ (c ^^^ a)=c ^^^ (c ^^^ b):=by rw [h]
 rwa [←Nat.xor_assoc,←Nat.xor_assoc,Nat.xor_self,Nat.zero_xor,Nat.zero_xor] at h1
theorem yW {c x:Nat}(hc:c<4294967296)(hx:x<256):oW c x<4294967296:=aA0 8 (Nat.xor_lt_two_pow (n:=32) hc (by omega))
theorem ak6 {c d x:Nat}(hc:c<4294967296)(hd:d<4294967296)(hx:x<256)(h:c≠d):oW c x≠oW d x:=fun he=>by
 have h1:=aUH (Nat.xor_lt_two_pow (n:=32) hc (by omega)) (Nat.xor_lt_two_pow (n:=32) hd (by omega)) he
 rw [Nat.xor_comm c,Nat.xor_comm d] at h1
 exact h (aLK h1)
theorem ak7 {c x y:Nat}(hc:c<4294967296)(hx:x<256)(hy:y<256)(h:x≠y):oW c x≠oW c y:=fun he=>
 h (aLK (aUH (Nat.xor_lt_two_pow (n:=32) hc (by omega)) (Nat.xor_lt_two_pow (n:=32) hc (by omega)) he))
theorem yG:∀ (l:List Nat) {c:Nat},c<4294967296→(∀ x∈l,x<256)→jL c l<4294967296
 | [],c,h,_=>h
 | x::l,c,h,hl=>yG l (yW h (hl x (by simp))) fun y hy=>hl y (by simp [hy])
theorem aUI:∀ (l:List Nat) {c d:Nat},c<4294967296→d<4294967296→(∀ x∈l,x<256)→c≠d→jL c l≠jL d l
 | [],c,d,_,_,_,h=>h
 | x::l,c,d,hc,hd,hl,h=>aUI l (yW hc (hl x (by simp))) (yW hd (hl x (by simp))) (fun y hy=>hl y (by simp [hy])) (ak6 hc hd (hl x (by simp)) h)
theorem aUJ:∀ (l:List Nat) (i y:Nat) {c:Nat},c<4294967296→(∀ x∈l,x<256)→y<256→i<l.length→l.getD i 0≠y→jL c (l.set i y)≠jL c l
 | x::l,0,y,c,hc,hl,hy,hi,h=>by
  show jL (oW c y) l≠jL (oW c x) l
  exact aUI l (yW hc hy) (yW hc (hl x (by simp))) (fun z hz=>hl z (by simp [hz])) (ak7 hc hy (hl x (by simp)) (fun e=>h (by simpa using e.symm)))
 | x::l,i+1,y,c,hc,hl,hy,hi,h=>by
  show jL (oW c x) (l.set i y)≠jL (oW c x) l
  exact aUJ l i y (yW hc (hl x (by simp))) (fun z hz=>hl z (by simp [hz])) hy (by simpa using hi) (by simpa using h)
theorem ai2 {s i y:Nat}{l:List Nat}(hs:s<4294967296)(hl:∀ x∈l,x<256)(hy:y<256)(hi:i<l.length)(h:l.getD i 0≠y):nH s (l.set i y)≠nH s l:=fun he=>by
 unfold nH at he
 rw [Nat.xor_comm,Nat.xor_comm (jL _ l)] at he
 exact aUJ l i y (Nat.xor_lt_two_pow (n:=32) hs (by decide)) hl hy hi h (aLK he)
theorem aC6 {s:Nat}{l:List Nat}(hs:s<4294967296)(hl:∀ x∈l,x<256):nH s l<4294967296:=Nat.xor_lt_two_pow (n:=32) (yG l (Nat.xor_lt_two_pow (n:=32) hs (by decide)) hl) (by decide)
open Go.RowKit
theorem aLL (a:Nat)(ha:a<4294967296):(BitVec.ofInt 32 (a:Int)).toNat=a:=by
 rw [BitVec.ofInt_natCast,BitVec.toNat_ofNat];exact Nat.mod_eq_of_lt (by omega)
theorem aUK (a:Nat)(ha:a<256):(BitVec.ofInt 8 (a:Int)).toNat=a:=by
 rw [BitVec.ofInt_natCast,BitVec.toNat_ofNat];exact Nat.mod_eq_of_lt (by omega)
theorem aAZ (n:Int):IntKind.u32.wrap n=n%4294967296:=by simp [IntKind.wrap,IntKind.bits,IntKind.signed]
theorem aI6 (n:Int):IntKind.u8.wrap n=n%256:=by simp [IntKind.wrap,IntKind.bits,IntKind.signed]
theorem aUL (a b:Nat)(ha:a<4294967296)(hb:b<4294967296):IntKind.u32.wrap ((BitVec.ofInt 32 (a:Int) ^^^ BitVec.ofInt 32 (b:Int)).toNat:Int)=((a ^^^ b:Nat):Int):=by
 have hx:a ^^^ b<2^32:=Nat.xor_lt_two_pow (by omega) (by omega)
 rw [BitVec.toNat_xor,aLL a ha,aLL b hb,aAZ]
 omega
theorem ak8 (a b:Nat)(ha:a<256)(hb:b<256):IntKind.u8.wrap ((BitVec.ofInt 8 (a:Int) ^^^ BitVec.ofInt 8 (b:Int)).toNat:Int)=((a ^^^ b:Nat):Int):=by
 have hx:a ^^^ b<2^8:=Nat.xor_lt_two_pow (by omega) (by omega)
 rw [BitVec.toNat_xor,aUK a ha,aUK b hb,aI6]
 omega
theorem ak9 (a:Nat)(ha:a<4294967296):IntKind.u32.wrap ((BitVec.ofInt 32 (a:Int)&&& BitVec.ofInt 32 (1:Int)).toNat:Int)=((a%2:Nat):Int):=by
 rw [BitVec.toNat_and,aLL a ha,show (BitVec.ofInt 32 (1:Int)).toNat=1 from rfl,Nat.and_one_is_mod,aAZ]
 omega
def aLM (P:Program)(T:TypeId):Option (Nat × TypeId):=match P.underlying T with|some (.array n e)=>some (n,e)|_=>none
theorem alA {P:Program}{T e:TypeId}{n:Nat}(h:aLM P T=some (n,e)):P.underlying T=some (.array n e):=by
 unfold aLM at h
 split at h
 ·rename_i h'
  injection h with h
  injection h with h1 h2
  subst h1 h2
  exact h'
 ·cases h
abbrev vw (c:Nat):Av:=.val (.int .u32 (c:Int))
section
variable {P:Program}{o:Oper}{ρ:Operand→Av}{p q:Operand}{T T':TypeId}
theorem yF {a b:Nat}(ho:o.op=.binOp .xor T p q T')(hp:ρ p=.val (.int .u32 (a:Int)))(hq:ρ q=.val (.int .u32 (b:Int)))(ha:a<4294967296)(hb:b<4294967296):OC P o ρ [] (vw (a ^^^ b)) []:=
 (aDL (z:=.int .u32 (IntKind.u32.wrap ((BitVec.ofInt 32 (a:Int) ^^^ BitVec.ofInt 32 (b:Int)).toNat:Int))) ho hp hq (fun _=>rfl) (fun _=>rfl)).cast (by rw [aUL a b ha hb])
theorem aQZ {a b:Nat}(ho:o.op=.binOp .xor T p q T')(hp:ρ p=.val (.int .u8 (a:Int)))(hq:ρ q=.val (.int .u8 (b:Int)))(ha:a<256)(hb:b<256):OC P o ρ [] (.val (.int .u8 ((a ^^^ b:Nat):Int))) []:=
 (aDL (z:=.int .u8 (IntKind.u8.wrap ((BitVec.ofInt 8 (a:Int) ^^^ BitVec.ofInt 8 (b:Int)).toNat:Int))) ho hp hq (fun _=>rfl) (fun _=>rfl)).cast (by rw [ak8 a b ha hb])
theorem aeS {a:Nat}(ho:o.op=.binOp .and T p q T')(hp:ρ p=.val (.int .u32 (a:Int)))(hq:ρ q=.val (.int .u32 1))(ha:a<4294967296):OC P o ρ [] (vw (a%2)) []:=
 (aDL (z:=.int .u32 (IntKind.u32.wrap ((BitVec.ofInt 32 (a:Int)&&& BitVec.ofInt 32 (1:Int)).toNat:Int))) ho hp hq (fun _=>rfl) (fun _=>rfl)).cast (by rw [ak9 a ha])
theorem aJL {a k:Nat}{k':IntKind}(ho:o.op=.binOp .shr T p q T')(hp:ρ p=.val (.int .u32 (a:Int)))(hq:ρ q=.val (.int k' (k:Int)))(hk:k≤32):OC P o ρ [] (vw (a/2^k)) []:=
 (afW ho hp hq (by omega)).cast (by
  have h:min (k:Int).toNat (IntKind.bits .u32)=k:=by
   show min (k:Int).toNat 32=k
   omega
  rw [h]
  have h2:(a:Int).fdiv (2^k)=((a/2^k:Nat):Int):=by
   rw [Int.fdiv_eq_ediv_of_nonneg _ (Int.le_of_lt (Int.pow_pos (by decide))),Int.natCast_ediv,Int.natCast_pow]
   rfl
  rw [h2])
theorem aRL {a:Nat}(ho:o.op=.unOp .xor T p)(hp:ρ p=.val (.int .u32 (a:Int)))(ha:a<4294967296):OC P o ρ [] (vw (a ^^^ 4294967295)) []:=bZ fun E c hG hr _=>by
 have h1:=hr p (by simp [ho,Op.operands])
 rw [hp] at h1
 unfold aA at h1
 refine ⟨.int .u32 ((a ^^^ 4294967295:Nat):Int),?_,by unfold aA;rfl⟩
 have h2:IntKind.u32.wrap ((BitVec.ofInt 32 (4294967295:Int) ^^^ BitVec.ofInt 32 (a:Int)).toNat:Int)=((a ^^^ 4294967295:Nat):Int):=by
  rw [Nat.xor_comm]
  exact aUL 4294967295 a (by decide) ha
 simp only [execOp,ho,h1,Sem.run_bind]
 have h3:(Op.unary .xor (.int .u32 (a:Int))).run P E.w=Result.ok (.int .u32 (IntKind.u32.wrap ((BitVec.ofInt 32 (4294967295:Int) ^^^ BitVec.ofInt 32 (a:Int)).toNat:Int))) E.w:=rfl
 rw [h3,h2]
 rfl
theorem aRJ {e t:TypeId}{n off len by_ j:Nat}{zs:List Value}{cs:List Av}{kk:IntKind}(ho:o.op=.indexAddr T p q)(hp:ρ p=.own n off)(hq:ρ q=.val (.int kk ((j:Nat):Int)))(hT:aLM P T=some (len,e))(hi:lW P e=some (1,by_,zs))(hk:off<cs.length)(hj:j<len)(hl:1<len):OC P o ρ [(n,.live t cs)] (.own n (off+j)) []:=bZ fun E a hG hr hH=>by
 have h1:=hr p (by simp [ho,Op.operands])
 have h0:=hr q (by simp [ho,Op.operands])
 rw [hp] at h1
 rw [hq] at h0
 unfold aA at h0
 obtain ⟨b,cur,h2,h3,h4,h5⟩:=pU h1 (hH n (.live t cs) (by simp)) hk
 obtain ⟨i',z,i1,i2,i3,i4,i5⟩:=vK hi
 have hu:=alA hT
 refine ⟨.pointer (some ⟨b,off+j,none⟩),?_,?_⟩
 ·simp only [execOp,ho,h2,h0,Sem.run_bind]
  have hlt:(0:Int)≤(j:Int)∧(j:Int)<len:=⟨by omega,by omega⟩
  simp [Instr.indexAt,asIntOf,Sem.run_bind,run_underlying hu,Go.Instr.sureAddr,hlt,sizeOf,typeInfo,i1,i3,Addr.add]
  rw [if_pos hj]
  by_cases h:j=0
  ·rw [if_pos h,h];rfl
  ·rw [if_neg h]
 ·unfold aA
  exact ⟨⟨by rw [h3];simp,_,rfl⟩,fun b' hb'=>by rw [h3] at hb';injection hb' with hb';rw [hb']⟩
end
end Go.Proofs.YtnklgkjfoggpbaaGreatDoor
