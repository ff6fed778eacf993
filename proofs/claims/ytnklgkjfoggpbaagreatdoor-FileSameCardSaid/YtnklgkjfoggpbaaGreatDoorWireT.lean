/- Parts of the proof of a law of this seat: rules and contracts; no conditions. -/
import Derived.Test.YtnklgkjfoggpbaaGreatDoorWireSpec
set_option maxHeartbeats 6400000
set_option maxRecDepth 100000
set_option linter.unusedVariables false
set_option linter.unusedSimpArgs false
namespace Go.Proofs.YtnklgkjfoggpbaaGreatDoor
open Go.RowKit Go.IntWalk
theorem aUB (n:Int)(w:World):Calls Tryz.prog 161 #[.int .i64 n] w fun e w'=>e=.returned (.int .i64 (nX n))∧w=w':=by
 go_enter Tryz.func161,Tryz.ntmps161
 go_wp2
 go_ret
 exact ⟨aGA (by rw [aQS,wrap64_in _ (by omega)];rfl),rfl⟩
theorem aeW (A:Option Addr)(n c:Nat)(zs:List Int)(m:Int)(w:World)(hr:Rd w w.heap.size A (cb .u8 zs))(hn:n=zs.length)(hl:zs.length≤200000000):
 Calls Tryz.prog 47 #[.slice A n c,.int .i64 m] w (kG w 5 (cb .u8 (zs++cQ m))):=by
 subst hn
 go_enter Tryz.func47,Tryz.ntmps47
 go_wp2_with (go_at_call 104;refine (aVC A c zs (cQ m) _ 1 w hr rfl rfl (by simp [cQ];omega)).mono ?_;rintro e w1 ⟨A1,n1,c1,rfl,hown,hb1⟩)
 go_ret
 exact ⟨A1,n1,c1,rfl,hown,hb1⟩
theorem ae0 (A:Option Addr)(n c:Nat)(zs:List Int)(m:Int)(w:World)(hr:Rd w w.heap.size A (cb .u8 zs))(hn:n=zs.length)(hl:zs.length≤200000000)(h0:0≤m)(hm:m≤4294967295):
 Calls Tryz.prog 83 #[.slice A n c,.int .u32 m] w (kG w 5 (cb .u8 (zs++kX m))):=by
 subst hn
 go_enter Tryz.func83,Tryz.ntmps83
 go_wp2_with (go_at_call 104;refine (aVC A c zs (kX m) _ 4 w hr (amT m h0 hm) rfl (by simp [kX];omega)).mono ?_;rintro e w1 ⟨A1,n1,c1,rfl,hown,hb1⟩)
 go_ret
 exact ⟨A1,n1,c1,rfl,hown,hb1⟩
theorem amY (q:Nat):bits .or .u8 ((q:Int)%256) 128=((128+q%128:Nat):Int):=by
 have h:∀ r:Fin 256,bits .or .u8 (r.val:Int) 128=((128+r.val%128:Nat):Int):=by decide +kernel
 have:=h ⟨q%256,by omega⟩
 simp only [Int.natCast_emod,Int.cast_ofNat_Int] at this
 rw [this]
 congr 2
 omega
theorem amZ (A:Option Addr)(n c:Nat)(zs:List Int)(m:Int)(N:Nat)(hN:m=N∨(m<0∧N=0))(w:World)(hr:Rd w w.heap.size A (cb .u8 zs))(hn:n=zs.length)(hl:zs.length≤100000000)(hm:N≤9223372036854775807):
 Calls Tryz.prog 105 #[.slice A n c,.int .i64 m] w (kG w 5 (cb .u8 (zs++kC N))):=by
 subst hn
 rcases hN with rfl|⟨h0,hN0⟩
 all_goals
  first|have HN:=Lib.hid hN0;clear hN0|skip
  go_enter Tryz.func105,Tryz.ntmps105
  go_wp2_with fail
  refine (aVB A none _ _ c _ (cb .u8 zs) [] w hr (Rd.nil _ _ _) (by simp) rfl (zE _ _) (by simp) (by simp;omega)).mono ?_
  rw [List.append_nil]
  rintro e w1 ⟨A1,n1,c1,rfl,hown,hb1⟩
  go_wp2_with fail
  have HM:=Lib.hid hm
  clear hm
  go_loopw [5,6] (fun u s w2=>∃ (q:Nat) (ys:List Int) (A2:Option Addr) (n2 c2:Nat),u=.int .u64 q∧s=.slice A2 n2 c2∧bA w2 w.heap.size 5 (.slice A2 n2 c2) (cb .u8 (zs++ys))∧Below w.heap.size w w2∧Hid (ys++kC q=kC N)∧Hid (q≤9223372036854775807)) (fun u _ _=>(intOf u).toNat)
  case atStart=>first|exact ⟨N,[],A1,n1,c1,rfl,rfl,by simpa using hown,hb1,rfl,HM⟩|exact ⟨0,[],A1,n1,c1,rfl,rfl,by simpa using hown,hb1,by rw [HN.out];exact rfl,by unfold Hid;omega⟩
  case round=>
   obtain ⟨q,ys,A2,n2,c2,rfl,rfl,hown2,hbel,hsz,hq⟩:=hrel
   have hyl:ys.length≤9:=by
    have h1:=aDV N 8 (by
     have h2:128^(8+1)=9223372036854775808:=by decide
     have h3:=HM.out
     omega)
    rw [←hsz.out,List.length_append] at h1
    omega
   have hb:=hbel.size
   by_cases hlt:128≤q
   ·go_wp2_with (at_builtin;refine rD rE rfl _ _ rfl rfl (hown2.alloc _) rfl (Rd.new _ [_] _) rfl (vH _ _) (by simp;omega) (by simp;omega) (by simp;omega) ?_;intro A3 n3 c3 w3 hown3 hg3)
    rw [amY] at hown3
    go_roundw
    case rel=>exact ⟨q/128,ys++[((128+q%128:Nat):Int)],A3,n3,c3,by go_num,rfl,by simpa [cb] using hown3,pF (hbel.alloc hb _) hg3 (hown2.alloc _) (Nat.le_refl _) (by simp;omega),by
     unfold Hid
     rw [←hsz.out,aDT (n:=q) (by omega)]
     simp,by have:=hq.out;unfold Hid;omega⟩
    case measure=>simp [intOf];omega
   ·go_wp2_with (at_builtin;refine rD rE rfl _ _ rfl rfl (hown2.alloc _) rfl (Rd.new _ [_] _) rfl (vH _ _) (by simp;omega) (by simp;omega) (by simp;omega) ?_;intro A3 n3 c3 w3 hown3 hg3)
    go_ret
    exact ⟨A3,n3,c3,rfl,by rw [←hsz.out,aAH (by omega)];simpa [cb] using hown3,pF (hbel.alloc hb _) hg3 (hown2.alloc _) (Nat.le_refl _) (by simp;omega)⟩
theorem aJO (A:Option Addr)(n c:Nat)(zs:List Int)(m:Int)(w:World)(hr:Rd w w.heap.size A (cb .u8 zs))(hn:n=zs.length)(hl:zs.length≤100000000)(hm:m≤9223372036854775807):
 Calls Tryz.prog 105 #[.slice A n c,.int .i64 m] w (kG w 5 (cb .u8 (zs++aC m))):=
 amZ A n c zs m m.toNat (by omega) w hr hn hl (by omega)
theorem aeX (A:Option Addr)(n c:Nat)(zs:List Int)(s:ByteArray)(w:World)(hr:Rd w w.heap.size A (cb .u8 zs))(hn:n=zs.length)(hl:zs.length≤100000000)(hs:s.size≤100000000):
 Calls Tryz.prog 108 #[.slice A n c,.string s] w (kG w 5 (cb .u8 (zs++aY s))):=by
 subst hn
 go_enter Tryz.func108,Tryz.ntmps108
 go_wp2_with fail
 refine (aJO A _ c zs _ w hr rfl hl (by omega)).mono ?_
 rintro e w1 ⟨A1,n1,c1,rfl,hown,hb1⟩
 have hsl:=aVD (s.size:Int) (by omega)
 have hb:=hb1.size
 go_wp2_with (at_builtin;refine adM rE Tryz.underlying9 rfl _ _ rfl rfl hown rfl (by simp;omega) hb ?_;intro A3 n3 c3 w3 hown3 hg3)
 go_ret
 exact ⟨A3,n3,c3,rfl,by rw [aY,←List.append_assoc,tP,←amO];exact hown3,pF hb1 hg3 hown (Nat.le_refl _) hb⟩
theorem aeZ (A L:Option Addr)(n c m d:Nat)(zs ls:List Int)(w:World)(hr:Rd w w.heap.size A (cb .u8 zs))(hn:n=zs.length)(hl:zs.length≤100000000)(hL:Rd w w.heap.size L (cb .i64 ls))(hm:m=ls.length)(hs:ls.length≤100000000):
 Calls Tryz.prog 109 #[.slice A n c,.slice L m d] w (kG w 5 (cb .u8 (zs++cZ ls))):=by
 subst hn;subst hm
 go_enter Tryz.func109,Tryz.ntmps109
 go_wp2_with fail
 refine (aJO A _ c zs _ w hr rfl hl (by omega)).mono ?_
 rintro e w1 ⟨A1,n1,c1,rfl,hown,hb1⟩
 have hsl:=aVD (ls.length:Int) (by omega)
 go_wp2_with fail
 go_loopw [5,15] (fun s i w2=>∃ (k:Nat) (A2:Option Addr) (n2 c2:Nat),k≤ls.length∧i=.int .i64 k∧s=.slice A2 n2 c2∧bA w2 w.heap.size 5 (.slice A2 n2 c2) (cb .u8 ((zs++aC ls.length)++(ls.take k).flatMap kD))∧Below w.heap.size w w2) (fun _ i _=>ls.length-(intOf i).toNat)
 case atStart=>exact ⟨0,A1,n1,c1,by omega,rfl,rfl,by simpa using hown,hb1⟩
 case round=>
  obtain ⟨k,A2,n2,c2,hk,rfl,rfl,hown2,hbel⟩:=hrel
  have hb:=hbel.size
  by_cases hlt:k<ls.length
  ·obtain ⟨b,o,rfl,_,hc⟩:=(hL.below hbel).num hlt
   have hlen:((ls.take k).flatMap kD).length=2*k:=by rw [amQ,List.length_take];omega
   go_wp2_with (first|(go_at_call 161;refine (aUB _ _).mono ?_;rintro e w' ⟨rfl,rfl⟩)|(at_builtin;refine rD rE rfl _ _ rfl rfl (hown2.alloc _) rfl (Rd.new _ [_,_] _) rfl (adF _ _ _) (by simp [hlen];omega) (by simp [hlen];omega) (by simp;omega) ?_;intro A3 n3 c3 w3 hown3 hg3))
   rw [amS] at hown3
   go_roundw
   case rel=>exact ⟨k+1,A3,n3,c3,by omega,by go_num,rfl,by rw [amR _ _ hlt,←List.append_assoc,tP];exact hown3,pF (hbel.alloc hb _) hg3 (hown2.alloc _) (Nat.le_refl _) (by simp;omega)⟩
   case measure=>simp [intOf];omega
  ·obtain rfl:k=ls.length:=by omega
   go_wp2
   go_ret
   exact ⟨A2,n2,c2,rfl,by rw [cZ,←List.append_assoc];rw [List.take_length] at hown2;exact hown2,hbel⟩
theorem am0 (A:Option Addr)(n c:Nat)(at_ err k:Int)(w:World)(he:err≠0):
 Calls Tryz.prog 191 #[.agg #[.slice A n c,.int .i64 at_,.int .i64 err],.int .i64 k] w fun e w'=>e=.returned (.tuple #[.slice none 0 0,.agg #[.slice A n c,.int .i64 at_,.int .i64 err]])∧Below w.heap.size w w':=by
 have h1:(err !=0)=true:=by simpa using he
 have HE:=Lib.hid he
 clear he
 go_enter Tryz.func191,Tryz.ntmps191
 go_wp2
 go_region
 go_wp2
 refine bodyPost_ret (v:=.tuple #[.slice none 0 0,.agg #[.slice A n c,.int .i64 at_,.int .i64 err]]) (by simp [results,Tryz.results191,go_sem]) rfl ⟨rfl,?_⟩
 exact (((Below.refl _ _).alloc (Nat.le_refl _) _).alloc (by simp) _).drew
theorem am1 (A:Option Addr)(n c:Nat)(at_:Int)(k:Nat)(w:World)(h:kM n at_ k)(hk:k≤1000000000000):
 Calls Tryz.prog 191 #[.agg #[.slice A n c,.int .i64 at_,.int .i64 0],.int .i64 k] w fun e w'=>e=.returned (.tuple #[.slice none 0 0,.agg #[.slice A n c,.int .i64 at_,.int .i64 2]])∧Below w.heap.size w w':=by
 have h':at_<0∨(0≤at_∧n<at_)∨(0≤at_∧at_≤n∧n-at_<k):=by unfold kM at h;omega
 clear h
 rcases h' with h1|⟨h1,h2⟩|⟨h1,h2,h3⟩
 all_goals
  go_enter Tryz.func191,Tryz.ntmps191
  go_wp2
  go_region
  go_wp2
  refine bodyPost_ret (v:=.tuple #[.slice none 0 0,.agg #[.slice A n c,.int .i64 at_,.int .i64 2]]) (by simp [results,Tryz.results191,go_sem]) rfl ⟨rfl,?_⟩
  exact (((Below.refl _ _).alloc (Nat.le_refl _) _).alloc (by simp) _).drew
theorem am2 (A:Option Addr)(n c t k:Nat)(xs:List Value)(w:World)(B:Nat)(hr:Rd w B A xs)(hx:n=xs.length)(hk:t+k≤n)(hc:n≤c)(hn:n≤1000000000):
 Calls Tryz.prog 191 #[.agg #[.slice A n c,.int .i64 t,.int .i64 0],.int .i64 k] w fun e w'=>∃ A' c',e=.returned (.tuple #[.slice A' k c',.agg #[.slice A n c,.int .i64 ((t+k:Nat):Int),.int .i64 0]])∧k≤c'∧Rd w B A' ((xs.drop t).take k)∧Below w.heap.size w w':=by
 have hcut:=Lib.hid ((hr.drop t c (by omega) (by omega)).take k)
 clear hx
 by_cases hct:c=t
 ·subst hct
  go_enter Tryz.func191,Tryz.ntmps191
  go_wp2
  go_region
  go_wp2
  obtain ⟨A',hA⟩:∃ A',A'=A:=⟨_,rfl⟩
  refine bodyPost_ret (v:=.tuple #[.slice A k 0,.agg #[.slice A n c,.int .i64 ((c:Int)+k),.int .i64 0]]) (by simp [results,Tryz.results191,go_sem]) rfl ⟨A,0,by simp,by omega,?_,?_⟩
  ·have:=hcut.out
   simpa using this
  ·exact (((Below.refl _ _).alloc (Nat.le_refl _) _).alloc (by simp) _).drew
 ·have hct':(c=t)=False:=by simp [hct]
  go_enter Tryz.func191,Tryz.ntmps191
  go_wp2
  go_region
  go_wp2
  refine bodyPost_ret (v:=.tuple #[.slice (A.map (·.add t)) k (c-t),.agg #[.slice A n c,.int .i64 ((t:Int)+k),.int .i64 0]]) (by simp [results,Tryz.results191,go_sem]) rfl ⟨A.map (·.add t),c-t,by simp,by omega,?_,?_⟩
  ·have:=hcut.out
   simpa [hct] using this
  ·exact (((Below.refl _ _).alloc (Nat.le_refl _) _).alloc (by simp) _).drew
theorem aFI (A:Option Addr)(n c:Nat)(at_ err:Int)(k:Nat)(xs:List Int)(w:World)(B:Nat)(hr:Rd w B A (cb .u8 xs))(hx:n=xs.length)(hc:n≤c)(hn:n≤1000000000)(hk:k≤1000000000000):
 Calls Tryz.prog 191 #[.agg #[.slice A n c,.int .i64 at_,.int .i64 err],.int .i64 k] w fun e w'=>∃ A' m' c',e=.returned (.tuple #[.slice A' m' c',.agg #[.slice A n c,.int .i64 (eX xs at_ err k).2.1,.int .i64 (eX xs at_ err k).2.2]])∧Rd w B A' (cb .u8 (eX xs at_ err k).1)∧m'=(eX xs at_ err k).1.length∧m'≤c'∧Below w.heap.size w w':=by
 subst hx
 by_cases h1:err≠0
 ·simp only [eX,if_pos h1]
  exact (am0 A _ c at_ err k w h1).mono fun e w' ⟨he,hb⟩=>⟨none,0,0,he,Rd.nil _ _ _,rfl,by omega,hb⟩
 ·obtain rfl:err=0:=by omega
  by_cases h2:kM xs.length at_ k
  ·simp only [eX,if_neg h1,if_pos h2]
   exact (am1 A _ c at_ k w h2 hk).mono fun e w' ⟨he,hb⟩=>⟨none,0,0,he,Rd.nil _ _ _,rfl,by omega,hb⟩
  ·simp only [eX,if_neg h1,if_neg h2]
   unfold kM at h2
   obtain ⟨t,rfl⟩:=Int.eq_ofNat_of_zero_le (show 0≤at_ by omega)
   refine (am2 A _ c t k (cb .u8 xs) w B hr (by simp) (by omega) hc hn).mono ?_
   rintro e w' ⟨A',c',rfl,h3,h4,hb⟩
   refine ⟨A',k,c',by simp,?_,?_,h3,hb⟩
   ·rw [aQQ,adC] at h4;exact h4
   ·rw [List.length_take,List.length_drop];simp only [Int.toNat_natCast];omega
theorem am3 (S x:Int)(h0:0≤S)(h1:S<72057594037927936)(h2:0≤x)(h3:x<256):bits .or .u64 (IntKind.u64.wrap (S*256)) (IntKind.u64.wrap x)=S*256+x:=by
 obtain ⟨s,rfl⟩:=Int.eq_ofNat_of_zero_le h0
 obtain ⟨y,rfl⟩:=Int.eq_ofNat_of_zero_le h2
 rw [wD,wD,Int.emod_eq_of_lt (by omega) (by omega),Int.emod_eq_of_lt (by omega) (by omega)]
 have h:=adH s y 8 (by omega) (by omega)
 rw [show ((2^8*s:Nat):Int)=(s:Int)*256 from by omega] at h
 rw [h];omega
theorem aUA (A:Option Addr)(n c:Nat)(xs:List Int)(w:World)(B:Nat)(hr:Rd w B A (cb .u8 xs))(hx:n=xs.length)(hb:cI xs)(h8:xs.length≤8):
 Calls Tryz.prog 170 #[.slice A n c] w fun e w'=>e=.returned (.int .u64 (gI xs))∧w=w':=by
 subst hx
 go_enter Tryz.func170,Tryz.ntmps170
 go_wp2
 go_loop [3,8] (fun s i=>∃ k:Nat,k≤xs.length∧i=.int .i64 k∧s=.int .u64 (gI (xs.take k))) (fun _ i=>xs.length-(intOf i).toNat)
 case atStart=>exact ⟨0,by omega,rfl,rfl⟩
 case round=>
  obtain ⟨k,hk,rfl,rfl⟩:=hrel
  by_cases hlt:k<xs.length
  ·obtain ⟨b,o,rfl,_,hc⟩:=hr.num hlt
   have hst:=Lib.hid (aVE xs k hlt)
   have hbd:=Lib.hid (aVF xs hb k hk)
   have hx:=Lib.hid (hb.get hlt)
   go_wp2
   go_round
   case rel=>
    refine ⟨k+1,by omega,by go_num,?_⟩
    have h7:(256:Int)^k≤256^7:=by exact_mod_cast Nat.pow_le_pow_right (by omega) (show k≤7 by omega)
    have hb2:=hbd.out
    rw [am3 _ _ hb2.1 (by
     have:(256:Int)^7=72057594037927936:=by decide
     omega) hx.out.1 hx.out.2,hst.out]
   case measure=>simp [intOf];omega
  ·obtain rfl:k=xs.length:=by omega
   rw [List.take_length]
   go_wp2
   go_ret
   exact ⟨rfl,rfl⟩
end Go.Proofs.YtnklgkjfoggpbaaGreatDoor
