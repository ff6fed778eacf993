/- Parts of the proof of a law of this seat: rules and contracts; no conditions. -/
import Derived.Test.YtnklgkjfoggpbaaGreatDoorWireSpec
import Derived.Test.YtnklgkjfoggpbaaGreatDoorLt
import Derived.Test.YtnklgkjfoggpbaaGreatDoorWireR
import Derived.Test.YtnklgkjfoggpbaaGreatDoorFb
import Derived.Test.YtnklgkjfoggpbaaGreatDoorPj
import Derived.Test.YtnklgkjfoggpbaaGreatDoorProg
import Derived.KernelRfl
set_option maxHeartbeats 6400000
set_option maxRecDepth 100000
set_option linter.unusedVariables false
set_option linter.unusedSimpArgs false
namespace Go.Proofs.YtnklgkjfoggpbaaGreatDoor
open Go.RowKit
theorem akH (zs:List Int)(m:Nat)(h1:zs.length≤100000000)(hm:m<4294967296):PC Tryz.prog 70 [bs zs,vw m] (bs (zs++kX (m:Int))):=aA2 (e:=5) fun A c w k1 k2=>akG A _ c zs m w k1 rfl (by omega) (by omega) (by omega)
theorem akI (n:Nat):Av.val (.int .u32 (IntKind.u32.wrap ((n:Int).tdiv 2)))=vw (n/2)∨4294967296≤n:=by
 rcases Nat.lt_or_ge n 4294967296 with h|h
 ·refine .inl ?_
  rw [Int.tdiv_eq_ediv_of_nonneg (by omega),aAZ,show (n:Int)/2%4294967296=((n/2:Nat):Int) from by omega]
 ·exact .inr h
theorem aT5 {n:Nat}(h:n<4294967296):Av.val (.int .u32 (IntKind.u32.wrap ((n:Int).tdiv 2)))=vw (n/2):=by
 rcases akI n with h1|h1
 ·exact h1
 ·omega
theorem akJ (n:Nat):Av.val (.int .u32 ((n:Int).tmod 2))=vw (n%2):=by rw [Int.tmod_eq_emod_of_nonneg (by omega)];rfl
theorem akK {xs:List Int}(h:dF xs)(j:Nat):Av.val (.int .u32 (IntKind.u32.wrap (xs.getD j 0)))=vw (xs.getD j 0).toNat:=by
 have:=h j
 rw [aAZ,show xs.getD j 0%4294967296=(((xs.getD j 0).toNat:Nat):Int) from by omega]
theorem akL (s:Nat)(hs:s<4294967296)(xs:List Int)(hby:dF xs)(hl:xs.length≤1000000000000000):PC Tryz.prog 125 [vw s,bs xs] (vw (nH s (dX xs))):=by
 refine FC.body 1 37 Tryz.func125 rfl (by kernel_rfl) ?_
 refine W ?_
 refine Z1 (yF (b:=4294967295) rfl rfl rfl hs (by decide)) ?_
 refine W ?_
 refine bM (ι:=Nat) (fun i=>⟨[(1,bs xs),(5,vw (jL (s ^^^ 4294967295) ((dX xs).take i))),(6,vi i)],[]⟩) (fun i=>i≤xs.length) (fun i=>xs.length-i) 0 (Nat.zero_le _) (Le.sub ⟨.inr rfl,.inr rfl,.inr rfl,trivial⟩ trivial) ?_
 intro i hI
 refine W ?_
 refine cd (fun hb=>?_) fun hb=>?_
 ·have hi:i<xs.length:=by have h0:=of_decide_eq_true hb;omega
  have hlt:=yG ((dX xs).take i) (aEG hs) (aA1 hby i)
  have hx:=aJM hby i
  have hcx:(jL (s ^^^ 4294967295) ((dX xs).take i)) ^^^ (xs.getD i 0).toNat<4294967296:=Nat.xor_lt_two_pow (n:=32) hlt (by omega)
  refine W ?_
  refine Z1 (OC.cast (mH (k:=.u8) .u32 rfl rfl (by kernel_rfl) (by kernel_rfl)) (akK hby i)) ?_
  refine Z1 (yF rfl rfl rfl hlt (by omega)) ?_
  refine W ?_
  refine bM (ι:=Nat) (fun k=>⟨[(1,bs xs),(5,vw (iB k ((jL (s ^^^ 4294967295) ((dX xs).take i)) ^^^ (xs.getD i 0).toNat))),(6,vi i),(7,vi k)],[]⟩) (fun k=>k≤8) (fun k=>8-k) 0 (Nat.zero_le _) (Le.sub ⟨.inr rfl,.inr rfl,.inr rfl,.inr rfl,trivial⟩ trivial) ?_
  intro k hI
  refine W ?_
  refine cd (fun hb=>?_) fun hb=>?_
  ·have hk:k<8:=by have h0:=of_decide_eq_true hb;omega
   have hst:=aA0 k hcx
   refine W ?_
   refine Z1 (OC.cast (aDK rfl rfl rfl (by omega)) (akJ _)) ?_
   refine W ?_
   refine cd (fun hb=>?_) fun hb=>?_
   ·have h1:(iB k ((jL (s ^^^ 4294967295) ((dX xs).take i)) ^^^ (xs.getD i 0).toNat))%2=1:=by have h0:=beq_iff_eq.1 hb;omega
    refine W ?_
    refine Z1 (OC.cast (aID rfl rfl rfl (by omega)) (aT5 hst)) ?_
    refine Z1 (yF (b:=3988292384) rfl rfl rfl (by omega) (by omega)) ?_
    refine W ?_
    exact ⟨k+1,by omega,by omega,Le.sub ⟨.inr rfl,.inr (by rw [aAY];unfold lP;rw [if_pos h1];rfl),.inr rfl,.inr (aR (by omega)),trivial⟩ trivial⟩
   ·have h1:¬ (iB k ((jL (s ^^^ 4294967295) ((dX xs).take i)) ^^^ (xs.getD i 0).toNat))%2=1:=by have h0:=beq_eq_false_iff_ne.1 hb;omega
    refine W ?_
    refine Z1 (OC.cast (aID rfl rfl rfl (by omega)) (aT5 hst)) ?_
    refine W ?_
    exact ⟨k+1,by omega,by omega,Le.sub ⟨.inr rfl,.inr (by rw [aAY];unfold lP;rw [if_neg h1];rfl),.inr rfl,.inr (aR (by omega)),trivial⟩ trivial⟩
  ·have hk:k=8:=by have h0:=of_decide_eq_false hb;omega
   subst hk
   refine W ?_
   exact ⟨i+1,by omega,by omega,Le.sub ⟨.inr rfl,.inr (by rw [aRK _ _ hi];rfl),.inr (aR (by omega)),trivial⟩ trivial⟩
 ·have hi:i=xs.length:=by have h0:=of_decide_eq_false hb;omega
  subst hi
  have hlt:=yG ((dX xs).take xs.length) (aEG hs) (aA1 hby xs.length)
  refine W ?_
  refine Z1 (yF (b:=4294967295) rfl rfl rfl hlt (by decide)) ?_
  refine W ?_
  exact ⟨.inl rfl,aF.tmp rfl (by show vw _=vw _;rw [List.take_of_length_le (by rw [aEH];exact Nat.le_refl _)];rfl),trivial⟩
theorem akM (xs:List Int)(hby:dF xs)(hl:xs.length≤1000000000000000):PC Tryz.prog 71 [bs xs] (vw (nH 0 (dX xs))):=by
 refine FC.body 1 5 Tryz.func71 rfl (by kernel_rfl) ?_
 refine W ?_
 refine Z1 (ca (akL 0 (by decide) xs hby hl)) ?_
 refine W ?_
 exact ⟨.inl rfl,aF.tmp rfl rfl,trivial⟩
theorem akN (xs:List Int)(hby:dF xs)(hl:xs.length≤100000000):PC Tryz.prog 18 [bs xs] (bs (gY xs)):=by
 refine FC.body 2 10 Tryz.func18 rfl (by kernel_rfl) ?_
 refine W ?_
 refine aZ rfl rfl (akF (e:=5) (k:=1) (by_:=1) (zs:=[.int .u8 0]) (ds:=xs.map bw) 0 1 (by decide) (by simp) (aIK xs) (by omega) (by omega)) ⟨rfl,rfl,trivial⟩ ?_
 refine V ?_
 refine aD ?_
 refine bS (Le.freeze 3 1 (bv xs) rfl rfl (by simp) (aDP xs)) ?_
 refine W ?_
 refine Z1 (ca (akM xs hby (by omega))) ?_
 refine Z1 (ca (akH xs (nH 0 (dX xs)) hl (aC6 (by decide) (aC7 hby)))) ?_
 refine W ?_
 exact ⟨.inl rfl,aF.tmp rfl rfl,trivial⟩
end Go.Proofs.YtnklgkjfoggpbaaGreatDoor
