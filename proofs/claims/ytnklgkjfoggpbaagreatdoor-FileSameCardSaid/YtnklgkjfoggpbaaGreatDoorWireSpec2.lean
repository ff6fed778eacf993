/- Parts of the proof of a law of this seat: rules and contracts; no conditions. -/
import Derived.Test.YtnklgkjfoggpbaaGreatDoorWireSpec
import Derived.Test.YtnklgkjfoggpbaaGreatDoorWireT
set_option maxHeartbeats 6400000
set_option maxRecDepth 100000
set_option linter.unusedVariables false
set_option linter.unusedSimpArgs false
namespace Go.Proofs.YtnklgkjfoggpbaaGreatDoor
open Go.RowKit Go.IntWalk
theorem amW (x:Int)(h0:0≤x)(h1:x<256):bits .and .u8 x 127=x%128:=by
 have h:∀ r:Fin 256,bits .and .u8 (r.val:Int) 127=(r.val:Int)%128:=by decide +kernel
 have:=h ⟨x.toNat,by omega⟩
 simpa [Int.toNat_of_nonneg h0] using this
theorem aBR (m x:Int)(k:Nat)(P:Nat)(hP:P=2^(7*k))(hk:k≤4)(h0:0≤m)(h1:m<P)(h2:0≤x)(h3:x<256):bits .or .i64 m (x%128*P)=m+x%128*P:=by
 obtain ⟨a,rfl⟩:=Int.eq_ofNat_of_zero_le h0
 obtain ⟨y,rfl⟩:=Int.eq_ofNat_of_zero_le h2
 have hp:2^(7*k)≤2^(7*4):=Nat.pow_le_pow_right (by omega) (by omega)
 have hq:P≤268435456:=by rw [hP];exact hp
 have hm:P*(y%128)≤268435456*128:=Nat.mul_le_mul hq (by omega)
 have h:=adJ (y%128) a (7*k) (by rw [←hP];omega) (by rw [←hP];omega)
 rw [←hP] at h
 rw [show ((P*(y%128):Nat):Int)=(y:Int)%128*(P:Int) from by rw [Nat.mul_comm,Int.natCast_mul,Int.natCast_emod];rfl] at h
 rw [h,Int.natCast_add,Nat.mul_comm,Int.natCast_mul,Int.natCast_emod];rfl
theorem vE (g:Nat)(s a e0:Value)(e:Int)(w:World)(h:bI w g 60 [s,a,e0])(hs:∃ A n c,s=.slice A n c)(ha:∃ k n,a=.int k n):
 Calls Tryz.prog 190 #[.int .i64 e,.pointer (some ⟨g,0,none⟩)] w fun en w'=>en=.returned (.tuple #[.int .i64 0,.agg #[s,a,.int .i64 e]])∧Below g w w':=by
 obtain ⟨A,n,c,rfl⟩:=hs
 obtain ⟨k,m,rfl⟩:=ha
 have hlt:=h.lt
 obtain ⟨c0,c1,c2,f0,f1,f2⟩:=h.three
 go_enter Tryz.func190,Tryz.ntmps190
 go_wp2
 go_region
 go_wp2
 refine bodyPost_ret (v:=.tuple #[.int .i64 0,.agg #[.slice A n c,.int k m,.int .i64 e]]) (by simp [results,Tryz.results190,go_sem]) rfl ⟨rfl,?_⟩
 exact (((Below.refl _ _).setCell (p:=⟨g,2,none⟩) (Nat.le_refl _) _).alloc (by simp;omega) _).drew
theorem aJP (A:Option Addr)(n c:Nat)(at_ err most:Int)(xs:List Int)(w:World)(hr:Rd w w.heap.size A (cb .u8 xs))(hx:n=xs.length)(hc:n≤c)(hn:n≤1000000000)(hb:cI xs):
 Calls Tryz.prog 166 #[.agg #[.slice A n c,.int .i64 at_,.int .i64 err],.int .i64 most] w fun e w'=>e=.returned (.tuple #[.int .i64 (bY xs at_ err most).1,.agg #[.slice A n c,.int .i64 (bY xs at_ err most).2.1,.int .i64 (bY xs at_ err most).2.2]])∧Below w.heap.size w w':=by
 have HX:=Lib.hid hx
 clear hx
 by_cases he:err=0
 ·subst he
  go_enter Tryz.func166,Tryz.ntmps166
  go_wp2_with fail
  go_step3
  have hmf:∀ (fn:Fn) (first cap:Array Value) (w:World),(Instr.makeFunc fn first cap).run Tryz.prog w=.ok (.func fn first cap) w:=fun _ _ _ _=>rfl
  go_wp2_with fail
  go_step3
  go_wp2_with fail
  go_loopw [8,9] (fun sn sk w2=>∃ (k:Nat) (m:Int),sk=.int .i64 k∧sn=.int .i64 m∧bI w2 w.heap.size 60 [.slice A n c,.int .i64 (at_+k),.int .i64 0]∧bI w2 (w.heap.size+1) 60 [.slice none 0 0,.int .i64 0,.int .i64 0]∧bI w2 (w.heap.size+1+1) 60 [.slice A n c,.int .i64 at_,.int .i64 0]∧Below w.heap.size w w2∧k≤5∧0≤m∧Hid (m<128^k)∧Hid (bY xs at_ 0 most=kE xs at_ most (6-k) k m)) (fun _ sk _=>6-(intOf sk).toNat)
  case atStart=>
   refine ⟨0,0,rfl,rfl,?_,?_,?_,(((Below.refl _ _).alloc (Nat.le_refl _) _).alloc (by simp) _).alloc (by simp;omega) _,by omega,by omega,by unfold Hid;decide,by unfold Hid bY;simp⟩
   ·exact (((bI.new _ _ _).alloc _).alloc _).cast (by simp)
   ·have:=(bI.new (w.alloc (.cells #[.slice A n c,.int .i64 at_,.int .i64 0] 60)) 60 [.slice none 0 0,.int .i64 0,.int .i64 0]).alloc (.cells #[.slice A n c,.int .i64 at_,.int .i64 0] 60)
    simpa using this
   ·have:=bI.new ((w.alloc (.cells #[.slice A n c,.int .i64 at_,.int .i64 0] 60)).alloc (.cells #[.slice none 0 0,.int .i64 0,.int .i64 0] 60)) 60 [.slice A n c,.int .i64 at_,.int .i64 0]
    simpa using this
  case round=>
   obtain ⟨k,m,rfl,rfl,k0,k1,k2,hbel,hk,hm0,hm1,hspec⟩:=hrel
   obtain ⟨c00,c01,c02,f00,f01,f02⟩:=k0.three
   go_wp2_with fail
   have hrr:=hr.below hbel
   refine (aFI A n c (at_+k) 0 1 xs wr w.heap.size hrr HX.out hc hn (by omega)).mono ?_
   by_cases hlk:kM xs.length (at_+k) 1
   ·have hsp:Hid (bY xs at_ 0 most=(0,at_,2)):=by
     unfold Hid
     rw [hspec.out]
     obtain ⟨f,hf⟩:∃ f,6-k=f+1:=⟨5-k,by omega⟩
     rw [hf,kE,if_pos hlk]
    rw [amV xs _ 1 hlk]
    clear hspec hm1 hlk
    rintro e w1 ⟨A1,m1,c1,rfl,hr1,hm1,hc1,hb1⟩
    have hbW:=hbel.trans (hb1.mono hbel.size)
    have j1:=k1.below hb1 k1.lt
    have j2:=k2.below hb1 k2.lt
    obtain ⟨d10,d11,d12,e10,e11,e12⟩:=j1.three
    clear hm1
    have hsz:=hb1.size
    have hl2:=k2.lt
    go_wp2_with fail
    refine (vE (w.heap.size+1+1) _ _ _ _ _ (j2.alloc _) ⟨_,_,_,rfl⟩ ⟨_,_,rfl⟩).mono ?_
    rintro e w3 ⟨rfl,hb3⟩
    have l1:=((j1.alloc _).below hb3 (by omega))
    obtain ⟨d10,d11,d12,e10,e11,e12⟩:=l1.three
    go_wp2
    rw [Exit.noGoto_ret]
    refine bodyPost_ret (v:=.tuple #[.int .i64 0,.agg #[.slice A n c,.int .i64 at_,.int .i64 2]]) (by simp [results,Tryz.results166,go_sem,d10,d11,d12]) rfl ⟨by rw [hsp.out],?_⟩
    exact dS ((hbW.alloc (by omega) _).trans (hb3.mono (by omega))) (by omega) _ _ _
   ·obtain ⟨hidx,hone⟩:=aTV xs _ hlk
    rw [hone]
    have hx:=hb.get hidx
    have hgd:xs.getD (at_+k).toNat 0=xs[(at_+k).toNat]:=by simp [List.getD,List.getElem?_eq_getElem hidx]
    have hsp:Hid (bY xs at_ 0 most=if k=5∨(0<k∧xs.getD (at_+k).toNat 0=0) then (0,at_,4)
     else if xs.getD (at_+k).toNat 0<128 then (if most<m+xs.getD (at_+k).toNat 0%128*128^k then (0,at_,5) else (m+xs.getD (at_+k).toNat 0%128*128^k,at_+k+1,0))
     else kE xs at_ most (6-(k+1)) (k+1) (m+xs.getD (at_+k).toNat 0%128*128^k)):=by
     unfold Hid
     rw [hspec.out]
     obtain ⟨f,hf⟩:∃ f,6-k=f+1:=⟨5-k,by omega⟩
     have hf':6-(k+1)=f:=by omega
     rw [hf,hf',kE,if_neg hlk]
    rw [←hgd] at hx
    clear hspec hlk hone hgd hidx
    generalize xs.getD (at_+k).toNat 0=x at *
    rintro e w1 ⟨A1,m1,c1,rfl,hr1,hm1,hc1,hb1⟩
    have hbW:=hbel.trans (hb1.mono hbel.size)
    have j0:=k0.below hb1 k0.lt
    have j1:=k1.below hb1 k1.lt
    have j2:=k2.below hb1 k2.lt
    obtain ⟨d00,d01,d02,e00,e01,e02⟩:=j0.three
    obtain ⟨d10,d11,d12,e10,e11,e12⟩:=j1.three
    obtain ⟨b,o,rfl,_,hcx⟩:=(hr1.below (hb1.mono hbel.size)).num (i:=0) (by simp)
    obtain rfl:m1=1:=hm1
    simp only [List.getElem_cons_zero,Nat.add_zero] at hcx
    have hcx':∀ o1,(w1.alloc o1).cell? ⟨b,o,none⟩=some (.int .u8 x):=fun o1=>by
     rw [World.cell?_alloc_lt w1 o1 _ (World.block_lt_of_cell? w1 _ hcx)];exact hcx
    have hsz:=hb1.size
    have hl2:=k2.lt
    obtain ⟨hx0,hx1⟩:=hx
    by_cases h5:k=5
    ·subst h5
     have hsp':Hid (bY xs at_ 0 most=(0,at_,4)):=by unfold Hid;rw [hsp.out];simp
     clear hsp
     go_wp2_with fail
     refine (vE (w.heap.size+1+1) _ _ _ _ _ (j2.alloc _) ⟨_,_,_,rfl⟩ ⟨_,_,rfl⟩).mono ?_
     rintro e w3 ⟨rfl,hb3⟩
     have l1:=((j1.alloc _).below hb3 (by omega))
     obtain ⟨d10,d11,d12,e10,e11,e12⟩:=l1.three
     go_wp2
     rw [Exit.noGoto_ret]
     refine bodyPost_ret (v:=.tuple #[.int .i64 0,.agg #[.slice A n c,.int .i64 at_,.int .i64 4]]) (by simp [results,Tryz.results166,go_sem,d10,d11,d12]) rfl ⟨by rw [hsp'.out],?_⟩
     exact dS ((hbW.alloc (by omega) _).trans (hb3.mono (by omega))) (by omega) _ _ _
    ·by_cases h0:0<k∧x=0
     ·obtain ⟨h00,rfl⟩:=h0
      have hsp':Hid (bY xs at_ 0 most=(0,at_,4)):=by unfold Hid;rw [hsp.out];simp [h00]
      clear hsp
      go_wp2_with fail
      refine (vE (w.heap.size+1+1) _ _ _ _ _ (j2.alloc _) ⟨_,_,_,rfl⟩ ⟨_,_,rfl⟩).mono ?_
      rintro e w3 ⟨rfl,hb3⟩
      have l1:=((j1.alloc _).below hb3 (by omega))
      obtain ⟨d10,d11,d12,e10,e11,e12⟩:=l1.three
      go_wp2
      rw [Exit.noGoto_ret]
      refine bodyPost_ret (v:=.tuple #[.int .i64 0,.agg #[.slice A n c,.int .i64 at_,.int .i64 4]]) (by simp [results,Tryz.results166,go_sem,d10,d11,d12]) rfl ⟨by rw [hsp'.out],?_⟩
      exact dS ((hbW.alloc (by omega) _).trans (hb3.mono (by omega))) (by omega) _ _ _
     ·have h0':¬ (0<k∧x=0):=h0
      have hk4:k≤4:=by omega
      obtain ⟨p10,p11,p12,q10,q11,q12⟩:=j1.threeA
      obtain ⟨p00,p01,p02,q00,q01,q02⟩:=j0.threeA
      have hand:=amW x hx0 hx1
      rcases (show k=0∨k=1∨k=2∨k=3∨k=4 by omega) with rfl|rfl|rfl|rfl|rfl
      ·have hor:bits .or .i64 m (x%128)=m+x%128:=by have:=aBR m x 0 1 (by decide) (by omega) hm0 (by have:=hm1.out;simpa using this) hx0 hx1;simpa using this
       have hP:(128:Int)^0=1:=by decide
       rw [hP] at hsp
       rw [Int.mul_one] at hsp
       have HM1:m<1:=by have:=hm1.out;rw [hP] at this;exact this
       by_cases hlt:x<128
       ·by_cases hmost:most<m+x%128
        ·have hsp':Hid (bY xs at_ 0 most=(0,at_,5)):=by unfold Hid;rw [hsp.out,if_neg (by omega),if_pos hlt,if_pos hmost]
         clear hsp
         go_wp2_with fail
         have m2:=(((j2.alloc (.cells #[.slice A n c,.int .i64 (at_+1),.int .i64 0] 60)).far (p:=⟨w.heap.size,0,none⟩) (by simp;omega) (.slice A n c)).far (p:=⟨w.heap.size,1,none⟩) (by simp;omega) (.int .i64 (at_+1))).far (p:=⟨w.heap.size,2,none⟩) (by simp;omega) (.int .i64 0)
         have m1:=(((j1.alloc (.cells #[.slice A n c,.int .i64 (at_+1),.int .i64 0] 60)).far (p:=⟨w.heap.size,0,none⟩) (by simp) (.slice A n c)).far (p:=⟨w.heap.size,1,none⟩) (by simp) (.int .i64 (at_+1))).far (p:=⟨w.heap.size,2,none⟩) (by simp) (.int .i64 0)
         have mb:=dS (hbW.alloc (by omega) (.cells #[.slice A n c,.int .i64 (at_+1),.int .i64 0] 60)) (g:=w.heap.size) (Nat.le_refl _) (.slice A n c) (.int .i64 (at_+1)) (.int .i64 0)
         refine (vE (w.heap.size+1+1) _ _ _ _ _ m2 ⟨_,_,_,rfl⟩ ⟨_,_,rfl⟩).mono ?_
         rintro e w3 ⟨rfl,hb3⟩
         have l1:=m1.below hb3 (by omega)
         obtain ⟨d10,d11,d12,e10,e11,e12⟩:=l1.three
         go_wp2
         rw [Exit.noGoto_ret]
         refine bodyPost_ret (v:=.tuple #[.int .i64 0,.agg #[.slice A n c,.int .i64 at_,.int .i64 5]]) (by simp [results,Tryz.results166,go_sem,d10,d11,d12]) rfl ⟨by rw [hsp'.out],?_⟩
         exact dS (mb.trans (hb3.mono (by omega))) (by omega) _ _ _
        ·have hsp':Hid (bY xs at_ 0 most=(m+x%128,at_+0+1,0)):=by unfold Hid;rw [hsp.out,if_neg (by omega),if_pos hlt,if_neg hmost];simp
         clear hsp
         go_wp2_with fail
         go_region
         go_wp2
         rw [Exit.noGoto_ret]
         refine bodyPost_ret (v:=.tuple #[.int .i64 (m+x%128),.agg #[.slice A n c,.int .i64 (at_+1),.int .i64 0]]) (by simp [results,Tryz.results166,go_sem,p10,p11,p12]) rfl ⟨by rw [hsp'.out];simp,?_⟩
         exact (dS (dS (hbW.alloc (by omega) _) (Nat.le_refl _) _ _ _) (by omega) _ _ _).drew
       ·have hsp':Hid (bY xs at_ 0 most=kE xs at_ most (6-1) 1 (m+x%128)):=by unfold Hid;rw [hsp.out,if_neg (by omega),if_neg hlt]
        clear hsp
        go_wp2_with fail
        go_roundw
        case rel=>
         refine ⟨1,m+x%128,rfl,rfl,?_,?_,?_,dS (hbW.alloc (by omega) _) (Nat.le_refl _) _ _ _,by omega,by omega,?_,hsp'⟩
         ·exact ((((j0.alloc _).set_ 0 _).set_ 1 _).set_ 2 _).cast (by simp)
         ·exact (((j1.alloc _).far (by simp) _).far (by simp) _).far (by simp) _
         ·exact (((j2.alloc _).far (by simp;omega) _).far (by simp;omega) _).far (by simp;omega) _
         ·have hQ:(128:Int)^1=128:=by decide
          unfold Hid;omega
        case measure=>simp [intOf]
      ·have hor:bits .or .i64 m (x%128*128)=m+x%128*128:=by have:=aBR m x 1 128 (by decide) (by omega) hm0 (by have:=hm1.out;simpa using this) hx0 hx1;simpa using this
       have hxz:(x==0)=false:=by simp;omega
       have hP:(128:Int)^1=128:=by decide
       rw [hP] at hsp
       have HM1:m<128:=by have:=hm1.out;rw [hP] at this;exact this
       by_cases hlt:x<128
       ·by_cases hmost:most<m+x%128*128
        ·have hsp':Hid (bY xs at_ 0 most=(0,at_,5)):=by unfold Hid;rw [hsp.out,if_neg (by omega),if_pos hlt,if_pos hmost]
         clear hsp
         go_wp2_with fail
         have m2:=(((j2.alloc (.cells #[.slice A n c,.int .i64 (at_+1+1),.int .i64 0] 60)).far (p:=⟨w.heap.size,0,none⟩) (by simp;omega) (.slice A n c)).far (p:=⟨w.heap.size,1,none⟩) (by simp;omega) (.int .i64 (at_+1+1))).far (p:=⟨w.heap.size,2,none⟩) (by simp;omega) (.int .i64 0)
         have m1:=(((j1.alloc (.cells #[.slice A n c,.int .i64 (at_+1+1),.int .i64 0] 60)).far (p:=⟨w.heap.size,0,none⟩) (by simp) (.slice A n c)).far (p:=⟨w.heap.size,1,none⟩) (by simp) (.int .i64 (at_+1+1))).far (p:=⟨w.heap.size,2,none⟩) (by simp) (.int .i64 0)
         have mb:=dS (hbW.alloc (by omega) (.cells #[.slice A n c,.int .i64 (at_+1+1),.int .i64 0] 60)) (g:=w.heap.size) (Nat.le_refl _) (.slice A n c) (.int .i64 (at_+1+1)) (.int .i64 0)
         refine (vE (w.heap.size+1+1) _ _ _ _ _ m2 ⟨_,_,_,rfl⟩ ⟨_,_,rfl⟩).mono ?_
         rintro e w3 ⟨rfl,hb3⟩
         have l1:=m1.below hb3 (by omega)
         obtain ⟨d10,d11,d12,e10,e11,e12⟩:=l1.three
         go_wp2
         rw [Exit.noGoto_ret]
         refine bodyPost_ret (v:=.tuple #[.int .i64 0,.agg #[.slice A n c,.int .i64 at_,.int .i64 5]]) (by simp [results,Tryz.results166,go_sem,d10,d11,d12]) rfl ⟨by rw [hsp'.out],?_⟩
         exact dS (mb.trans (hb3.mono (by omega))) (by omega) _ _ _
        ·have hsp':Hid (bY xs at_ 0 most=(m+x%128*128,at_+1+1,0)):=by unfold Hid;rw [hsp.out,if_neg (by omega),if_pos hlt,if_neg hmost];simp
         clear hsp
         go_wp2_with fail
         go_region
         go_wp2
         rw [Exit.noGoto_ret]
         refine bodyPost_ret (v:=.tuple #[.int .i64 (m+x%128*128),.agg #[.slice A n c,.int .i64 (at_+1+1),.int .i64 0]]) (by simp [results,Tryz.results166,go_sem,p10,p11,p12]) rfl ⟨by rw [hsp'.out],?_⟩
         exact (dS (dS (hbW.alloc (by omega) _) (Nat.le_refl _) _ _ _) (by omega) _ _ _).drew
       ·have hsp':Hid (bY xs at_ 0 most=kE xs at_ most (6-2) 2 (m+x%128*128)):=by unfold Hid;rw [hsp.out,if_neg (by omega),if_neg hlt]
        clear hsp
        go_wp2_with fail
        go_roundw
        case rel=>
         refine ⟨2,m+x%128*128,rfl,rfl,?_,?_,?_,dS (hbW.alloc (by omega) _) (Nat.le_refl _) _ _ _,by omega,by omega,?_,hsp'⟩
         ·exact ((((j0.alloc _).set_ 0 _).set_ 1 _).set_ 2 _).cast (by simp;omega)
         ·exact (((j1.alloc _).far (by simp) _).far (by simp) _).far (by simp) _
         ·exact (((j2.alloc _).far (by simp;omega) _).far (by simp;omega) _).far (by simp;omega) _
         ·have hQ:(128:Int)^2=16384:=by decide
          unfold Hid;omega
        case measure=>simp [intOf]
      ·have hor:bits .or .i64 m (x%128*16384)=m+x%128*16384:=by have:=aBR m x 2 16384 (by decide) (by omega) hm0 (by have:=hm1.out;simpa using this) hx0 hx1;simpa using this
       have hxz:(x==0)=false:=by simp;omega
       have hP:(128:Int)^2=16384:=by decide
       rw [hP] at hsp
       have HM1:m<16384:=by have:=hm1.out;rw [hP] at this;exact this
       by_cases hlt:x<128
       ·by_cases hmost:most<m+x%128*16384
        ·have hsp':Hid (bY xs at_ 0 most=(0,at_,5)):=by unfold Hid;rw [hsp.out,if_neg (by omega),if_pos hlt,if_pos hmost]
         clear hsp
         go_wp2_with fail
         have m2:=(((j2.alloc (.cells #[.slice A n c,.int .i64 (at_+2+1),.int .i64 0] 60)).far (p:=⟨w.heap.size,0,none⟩) (by simp;omega) (.slice A n c)).far (p:=⟨w.heap.size,1,none⟩) (by simp;omega) (.int .i64 (at_+2+1))).far (p:=⟨w.heap.size,2,none⟩) (by simp;omega) (.int .i64 0)
         have m1:=(((j1.alloc (.cells #[.slice A n c,.int .i64 (at_+2+1),.int .i64 0] 60)).far (p:=⟨w.heap.size,0,none⟩) (by simp) (.slice A n c)).far (p:=⟨w.heap.size,1,none⟩) (by simp) (.int .i64 (at_+2+1))).far (p:=⟨w.heap.size,2,none⟩) (by simp) (.int .i64 0)
         have mb:=dS (hbW.alloc (by omega) (.cells #[.slice A n c,.int .i64 (at_+2+1),.int .i64 0] 60)) (g:=w.heap.size) (Nat.le_refl _) (.slice A n c) (.int .i64 (at_+2+1)) (.int .i64 0)
         refine (vE (w.heap.size+1+1) _ _ _ _ _ m2 ⟨_,_,_,rfl⟩ ⟨_,_,rfl⟩).mono ?_
         rintro e w3 ⟨rfl,hb3⟩
         have l1:=m1.below hb3 (by omega)
         obtain ⟨d10,d11,d12,e10,e11,e12⟩:=l1.three
         go_wp2
         rw [Exit.noGoto_ret]
         refine bodyPost_ret (v:=.tuple #[.int .i64 0,.agg #[.slice A n c,.int .i64 at_,.int .i64 5]]) (by simp [results,Tryz.results166,go_sem,d10,d11,d12]) rfl ⟨by rw [hsp'.out],?_⟩
         exact dS (mb.trans (hb3.mono (by omega))) (by omega) _ _ _
        ·have hsp':Hid (bY xs at_ 0 most=(m+x%128*16384,at_+2+1,0)):=by unfold Hid;rw [hsp.out,if_neg (by omega),if_pos hlt,if_neg hmost];simp
         clear hsp
         go_wp2_with fail
         go_region
         go_wp2
         rw [Exit.noGoto_ret]
         refine bodyPost_ret (v:=.tuple #[.int .i64 (m+x%128*16384),.agg #[.slice A n c,.int .i64 (at_+2+1),.int .i64 0]]) (by simp [results,Tryz.results166,go_sem,p10,p11,p12]) rfl ⟨by rw [hsp'.out],?_⟩
         exact (dS (dS (hbW.alloc (by omega) _) (Nat.le_refl _) _ _ _) (by omega) _ _ _).drew
       ·have hsp':Hid (bY xs at_ 0 most=kE xs at_ most (6-3) 3 (m+x%128*16384)):=by unfold Hid;rw [hsp.out,if_neg (by omega),if_neg hlt]
        clear hsp
        go_wp2_with fail
        go_roundw
        case rel=>
         refine ⟨3,m+x%128*16384,rfl,rfl,?_,?_,?_,dS (hbW.alloc (by omega) _) (Nat.le_refl _) _ _ _,by omega,by omega,?_,hsp'⟩
         ·exact ((((j0.alloc _).set_ 0 _).set_ 1 _).set_ 2 _).cast (by simp;omega)
         ·exact (((j1.alloc _).far (by simp) _).far (by simp) _).far (by simp) _
         ·exact (((j2.alloc _).far (by simp;omega) _).far (by simp;omega) _).far (by simp;omega) _
         ·have hQ:(128:Int)^3=2097152:=by decide
          unfold Hid;omega
        case measure=>simp [intOf]
      ·have hor:bits .or .i64 m (x%128*2097152)=m+x%128*2097152:=by have:=aBR m x 3 2097152 (by decide) (by omega) hm0 (by have:=hm1.out;simpa using this) hx0 hx1;simpa using this
       have hxz:(x==0)=false:=by simp;omega
       have hP:(128:Int)^3=2097152:=by decide
       rw [hP] at hsp
       have HM1:m<2097152:=by have:=hm1.out;rw [hP] at this;exact this
       by_cases hlt:x<128
       ·by_cases hmost:most<m+x%128*2097152
        ·have hsp':Hid (bY xs at_ 0 most=(0,at_,5)):=by unfold Hid;rw [hsp.out,if_neg (by omega),if_pos hlt,if_pos hmost]
         clear hsp
         go_wp2_with fail
         have m2:=(((j2.alloc (.cells #[.slice A n c,.int .i64 (at_+3+1),.int .i64 0] 60)).far (p:=⟨w.heap.size,0,none⟩) (by simp;omega) (.slice A n c)).far (p:=⟨w.heap.size,1,none⟩) (by simp;omega) (.int .i64 (at_+3+1))).far (p:=⟨w.heap.size,2,none⟩) (by simp;omega) (.int .i64 0)
         have m1:=(((j1.alloc (.cells #[.slice A n c,.int .i64 (at_+3+1),.int .i64 0] 60)).far (p:=⟨w.heap.size,0,none⟩) (by simp) (.slice A n c)).far (p:=⟨w.heap.size,1,none⟩) (by simp) (.int .i64 (at_+3+1))).far (p:=⟨w.heap.size,2,none⟩) (by simp) (.int .i64 0)
         have mb:=dS (hbW.alloc (by omega) (.cells #[.slice A n c,.int .i64 (at_+3+1),.int .i64 0] 60)) (g:=w.heap.size) (Nat.le_refl _) (.slice A n c) (.int .i64 (at_+3+1)) (.int .i64 0)
         refine (vE (w.heap.size+1+1) _ _ _ _ _ m2 ⟨_,_,_,rfl⟩ ⟨_,_,rfl⟩).mono ?_
         rintro e w3 ⟨rfl,hb3⟩
         have l1:=m1.below hb3 (by omega)
         obtain ⟨d10,d11,d12,e10,e11,e12⟩:=l1.three
         go_wp2
         rw [Exit.noGoto_ret]
         refine bodyPost_ret (v:=.tuple #[.int .i64 0,.agg #[.slice A n c,.int .i64 at_,.int .i64 5]]) (by simp [results,Tryz.results166,go_sem,d10,d11,d12]) rfl ⟨by rw [hsp'.out],?_⟩
         exact dS (mb.trans (hb3.mono (by omega))) (by omega) _ _ _
        ·have hsp':Hid (bY xs at_ 0 most=(m+x%128*2097152,at_+3+1,0)):=by unfold Hid;rw [hsp.out,if_neg (by omega),if_pos hlt,if_neg hmost];simp
         clear hsp
         go_wp2_with fail
         go_region
         go_wp2
         rw [Exit.noGoto_ret]
         refine bodyPost_ret (v:=.tuple #[.int .i64 (m+x%128*2097152),.agg #[.slice A n c,.int .i64 (at_+3+1),.int .i64 0]]) (by simp [results,Tryz.results166,go_sem,p10,p11,p12]) rfl ⟨by rw [hsp'.out],?_⟩
         exact (dS (dS (hbW.alloc (by omega) _) (Nat.le_refl _) _ _ _) (by omega) _ _ _).drew
       ·have hsp':Hid (bY xs at_ 0 most=kE xs at_ most (6-4) 4 (m+x%128*2097152)):=by unfold Hid;rw [hsp.out,if_neg (by omega),if_neg hlt]
        clear hsp
        go_wp2_with fail
        go_roundw
        case rel=>
         refine ⟨4,m+x%128*2097152,rfl,rfl,?_,?_,?_,dS (hbW.alloc (by omega) _) (Nat.le_refl _) _ _ _,by omega,by omega,?_,hsp'⟩
         ·exact ((((j0.alloc _).set_ 0 _).set_ 1 _).set_ 2 _).cast (by simp;omega)
         ·exact (((j1.alloc _).far (by simp) _).far (by simp) _).far (by simp) _
         ·exact (((j2.alloc _).far (by simp;omega) _).far (by simp;omega) _).far (by simp;omega) _
         ·have hQ:(128:Int)^4=268435456:=by decide
          unfold Hid;omega
        case measure=>simp [intOf]
      ·have hor:bits .or .i64 m (x%128*268435456)=m+x%128*268435456:=by have:=aBR m x 4 268435456 (by decide) (by omega) hm0 (by have:=hm1.out;simpa using this) hx0 hx1;simpa using this
       have hxz:(x==0)=false:=by simp;omega
       have hP:(128:Int)^4=268435456:=by decide
       rw [hP] at hsp
       have HM1:m<268435456:=by have:=hm1.out;rw [hP] at this;exact this
       by_cases hlt:x<128
       ·by_cases hmost:most<m+x%128*268435456
        ·have hsp':Hid (bY xs at_ 0 most=(0,at_,5)):=by unfold Hid;rw [hsp.out,if_neg (by omega),if_pos hlt,if_pos hmost]
         clear hsp
         go_wp2_with fail
         have m2:=(((j2.alloc (.cells #[.slice A n c,.int .i64 (at_+4+1),.int .i64 0] 60)).far (p:=⟨w.heap.size,0,none⟩) (by simp;omega) (.slice A n c)).far (p:=⟨w.heap.size,1,none⟩) (by simp;omega) (.int .i64 (at_+4+1))).far (p:=⟨w.heap.size,2,none⟩) (by simp;omega) (.int .i64 0)
         have m1:=(((j1.alloc (.cells #[.slice A n c,.int .i64 (at_+4+1),.int .i64 0] 60)).far (p:=⟨w.heap.size,0,none⟩) (by simp) (.slice A n c)).far (p:=⟨w.heap.size,1,none⟩) (by simp) (.int .i64 (at_+4+1))).far (p:=⟨w.heap.size,2,none⟩) (by simp) (.int .i64 0)
         have mb:=dS (hbW.alloc (by omega) (.cells #[.slice A n c,.int .i64 (at_+4+1),.int .i64 0] 60)) (g:=w.heap.size) (Nat.le_refl _) (.slice A n c) (.int .i64 (at_+4+1)) (.int .i64 0)
         refine (vE (w.heap.size+1+1) _ _ _ _ _ m2 ⟨_,_,_,rfl⟩ ⟨_,_,rfl⟩).mono ?_
         rintro e w3 ⟨rfl,hb3⟩
         have l1:=m1.below hb3 (by omega)
         obtain ⟨d10,d11,d12,e10,e11,e12⟩:=l1.three
         go_wp2
         rw [Exit.noGoto_ret]
         refine bodyPost_ret (v:=.tuple #[.int .i64 0,.agg #[.slice A n c,.int .i64 at_,.int .i64 5]]) (by simp [results,Tryz.results166,go_sem,d10,d11,d12]) rfl ⟨by rw [hsp'.out],?_⟩
         exact dS (mb.trans (hb3.mono (by omega))) (by omega) _ _ _
        ·have hsp':Hid (bY xs at_ 0 most=(m+x%128*268435456,at_+4+1,0)):=by unfold Hid;rw [hsp.out,if_neg (by omega),if_pos hlt,if_neg hmost];simp
         clear hsp
         go_wp2_with fail
         go_region
         go_wp2
         rw [Exit.noGoto_ret]
         refine bodyPost_ret (v:=.tuple #[.int .i64 (m+x%128*268435456),.agg #[.slice A n c,.int .i64 (at_+4+1),.int .i64 0]]) (by simp [results,Tryz.results166,go_sem,p10,p11,p12]) rfl ⟨by rw [hsp'.out],?_⟩
         exact (dS (dS (hbW.alloc (by omega) _) (Nat.le_refl _) _ _ _) (by omega) _ _ _).drew
       ·have hsp':Hid (bY xs at_ 0 most=kE xs at_ most (6-5) 5 (m+x%128*268435456)):=by unfold Hid;rw [hsp.out,if_neg (by omega),if_neg hlt]
        clear hsp
        go_wp2_with fail
        go_roundw
        case rel=>
         refine ⟨5,m+x%128*268435456,rfl,rfl,?_,?_,?_,dS (hbW.alloc (by omega) _) (Nat.le_refl _) _ _ _,by omega,by omega,?_,hsp'⟩
         ·exact ((((j0.alloc _).set_ 0 _).set_ 1 _).set_ 2 _).cast (by simp;omega)
         ·exact (((j1.alloc _).far (by simp) _).far (by simp) _).far (by simp) _
         ·exact (((j2.alloc _).far (by simp;omega) _).far (by simp;omega) _).far (by simp;omega) _
         ·have hQ:(128:Int)^5=34359738368:=by decide
          unfold Hid;omega
        case measure=>simp [intOf]
 ·have he':(err !=0)=true:=by simpa using he
  have HE:Hid (bY xs at_ err most=(0,at_,err)):=by unfold Hid bY;rw [if_pos he]
  clear he
  go_enter Tryz.func166,Tryz.ntmps166
  go_wp2
  go_step3
  go_wp2
  go_region
  go_wp2
  rw [Exit.noGoto_ret]
  refine bodyPost_ret (v:=.tuple #[.int .i64 0,.agg #[.slice A n c,.int .i64 at_,.int .i64 err]]) (by simp [results,Tryz.results166,go_sem]) rfl ⟨by rw [HE.out],?_⟩
  exact (((Below.refl _ _).alloc (Nat.le_refl _) _).alloc (by simp) _).drew
end Go.Proofs.YtnklgkjfoggpbaaGreatDoor
namespace Go.Proofs.YtnklgkjfoggpbaaGreatDoor
def cU (xs:List Int)(at_ err most:Int)(e:Nat):List Int × Int × Int:=
 if (eX xs (bY xs at_ err most).2.1 (bY xs at_ err most).2.2 ((bY xs at_ err most).1.toNat*e)).2.2=0 then eX xs (bY xs at_ err most).2.1 (bY xs at_ err most).2.2 ((bY xs at_ err most).1.toNat*e)
 else ([],at_,(eX xs (bY xs at_ err most).2.1 (bY xs at_ err most).2.2 ((bY xs at_ err most).1.toNat*e)).2.2)
def kL:List Int→List Int
 | a::b::r=>nX (gI [a,b])::kL r
 | _=>[]
theorem aVG (xs:List Int)(hb:cI xs)(at0 most:Int):∀ (f k:Nat) (n:Int),k+f≤6→0≤n→n<128^k→0≤(kE xs at0 most f k n).1∧(kE xs at0 most f k n).1<34359738368
 | 0,_,_,_,_,_=>by simp [kE]
 | f+1,k,n,hk,h0,h1=>by
  rw [kE]
  have z:(0:Int)≤0∧(0:Int)<34359738368:=by decide
  split
  ·exact z
  ·rename_i hlk
   split
   ·exact z
   ·rename_i h5
    have hx:0≤xs.getD (at0+k).toNat 0∧xs.getD (at0+k).toNat 0<256:=by
     unfold kM at hlk
     have hidx:(at0+k).toNat<xs.length:=by omega
     have:=hb.get hidx
     simpa [List.getD,List.getElem?_eq_getElem hidx] using this
    generalize xs.getD (at0+k).toNat 0=x at *
    have hk4:k≤4:=by omega
    have hy:0≤x%128∧x%128≤127:=by omega
    generalize x%128=y at *
    have key:0≤n+y*128^k∧n+y*128^k<128^(k+1)∧(128:Int)^(k+1)≤34359738368:=by
     rcases (show k=0∨k=1∨k=2∨k=3∨k=4 by omega) with rfl|rfl|rfl|rfl|rfl<;>(simp only [Int.reducePow,Nat.zero_add,Nat.reduceAdd] at *;omega)
    split
    ·split
     ·exact z
     ·exact ⟨key.1,by omega⟩
    ·exact aVG xs hb at0 most f (k+1) _ (by omega) key.1 key.2.1
theorem aT7 (xs:List Int)(hb:cI xs)(at_ err most:Int):0≤(bY xs at_ err most).1∧(bY xs at_ err most).1<34359738368:=by
 unfold bY
 split
 ·exact ⟨Int.le_refl 0,by omega⟩
 ·exact aVG xs hb at_ most 6 0 0 (by omega) (by omega) (by decide)
theorem akW (xs:List Int)(at_ err most:Int)(e:Nat)(h:cI xs):cI (cU xs at_ err most e).1:=by
 unfold cU
 split
 ·exact aUD _ _ _ _ h
 ·exact cI.nil
theorem aT8:∀ (k:Nat) (bs:List Int) (h:2*k+1<bs.length),kL (bs.take (2*k+2))=kL (bs.take (2*k))++[nX (gI [bs[2*k]'(by omega),bs[2*k+1]])]
 | 0,a::b::r,_=>by simp [kL]
 | k+1,a::b::r,h=>by
  have:=aT8 k r (by simp at h;omega)
  have t1:(a::b::r).take (2*(k+1))=a::b::r.take (2*k):=rfl
  have t2:(a::b::r).take (2*(k+1)+2)=a::b::r.take (2*k+2):=rfl
  have g1:(a::b::r)[2*(k+1)]'(by omega)=r[2*k]'(by simp at h;omega):=rfl
  have g2:(a::b::r)[2*(k+1)+1]=r[2*k+1]'(by simp at h;omega):=rfl
  rw [t1,t2,g1,g2,kL,kL,this]
  rfl
 | _,[_],h=>by simp at h
 | _,[],h=>by simp at h
theorem aT9:∀ (k:Nat) (bs:List Int),2*k≤bs.length→(kL (bs.take (2*k))).length=k
 | 0,_,_=>by simp [kL]
 | k+1,a::b::r,h=>by
  rw [show 2*(k+1)=(2*k)+2 by omega,List.take_succ_cons,List.take_succ_cons,kL,List.length_cons,aT9 k r (by simp at h;omega)]
 | _+1,[_],h=>by simp at h;omega
 | _+1,[],h=>by simp at h
theorem aUC:∀ (k:Nat) (bs:List Int),bs.length≤2*k+1→kL (bs.take (2*k))=kL bs
 | 0,[],_=>rfl
 | 0,[_],_=>rfl
 | 0,_::_::_,h=>by simp at h
 | k+1,a::b::r,h=>by
  rw [show 2*(k+1)=(2*k)+2 by omega,List.take_succ_cons,List.take_succ_cons,kL,kL,aUC k r (by simp at h;omega)]
 | _+1,[_],_=>rfl
 | _+1,[],_=>rfl
theorem akX {x y:Int}(hx:0≤x∧x<256)(hy:0≤y∧y<256):0≤gI [x,y]∧gI [x,y]<65536:=by
 simp [gI];omega
theorem Rd.pair {w:World}{B:Nat}{A:Option Addr}{k:IntKind}{zs:List Int}(h:Rd w B A (cb k zs)){i:Nat}(hi:i+1<zs.length):∃ b o,A=some ⟨b,o,none⟩∧b<B∧Rd w B (some ⟨b,o+i,none⟩) (cb k [zs[i],zs[i+1]]):=by
 obtain ⟨b,o,e,hb,hc⟩:=h (by simp;omega)
 refine ⟨b,o,e,hb,fun _=>⟨b,o+i,rfl,hb,fun j u hu=>?_⟩⟩
 have hj:j<2:=by simpa using (List.getElem?_eq_some_iff.1 hu).1
 have h2:=hc (i+j) u
 rw [←Nat.add_assoc] at h2
 refine h2 ?_
 rcases (show j=0∨j=1 by omega) with rfl|rfl
 ·have hu':some (Value.int k zs[i])=some u:=hu
  rw [←hu',cb,List.getElem?_map,List.getElem?_eq_getElem (by omega)]
  rfl
 ·have hu':some (Value.int k zs[i+1])=some u:=hu
  rw [←hu',cb,List.getElem?_map,List.getElem?_eq_getElem hi]
  rfl
theorem amX (xs:List Int)(at_ err:Int)(k:Nat):(eX xs at_ err k).1.length≤xs.length:=by
 unfold eX
 split
 ·simp
 ·split
  ·simp
  ·simp;omega
theorem aTF (xs:List Int)(at_ err most:Int)(e:Nat):(cU xs at_ err most e).1.length≤xs.length:=by
 unfold cU
 split
 ·exact amX _ _ _ _
 ·simp
theorem bA.far1 {w:World}{base:Nat}{e:TypeId}{v:Value}{xs:List Value}(h:bA w base e v xs){p:Addr}(hp:p.block<base)(u:Value):bA (w.setCell p u) base e v xs:=
 h.keep fun g hg=>Go.RowKit.Below.heap_setCell w p u g (by have:=(h.block g hg).1;omega)
theorem bA.set3 {w:World}{base:Nat}{e:TypeId}{v:Value}{xs:List Value}(h:bA w base e v xs){g:Nat}(hp:g<base)(x y z:Value):bA (((w.setCell ⟨g,0,none⟩ x).setCell ⟨g,1,none⟩ y).setCell ⟨g,2,none⟩ z) base e v xs:=
 ((h.far1 (p:=⟨g,0,none⟩) hp x).far1 (p:=⟨g,1,none⟩) hp y).far1 (p:=⟨g,2,none⟩) hp z
end Go.Proofs.YtnklgkjfoggpbaaGreatDoor
