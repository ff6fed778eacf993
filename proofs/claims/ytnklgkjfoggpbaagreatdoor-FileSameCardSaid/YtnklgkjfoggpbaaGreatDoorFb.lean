/- Parts of the proof of a law of this seat: rules and contracts; no conditions. -/
import Derived.Test.YtnklgkjfoggpbaaGreatDoorWireSpec
import Derived.Test.YtnklgkjfoggpbaaGreatDoorLt
import Derived.Test.YtnklgkjfoggpbaaGreatDoorMq
import Derived.Test.YtnklgkjfoggpbaaGreatDoorPi
import Derived.Test.YtnklgkjfoggpbaaGreatDoorOl
import Derived.Test.YtnklgkjfoggpbaaGreatDoorProg
import Derived.KernelRfl
set_option maxHeartbeats 6400000
set_option maxRecDepth 100000
set_option linter.unusedVariables false
set_option linter.unusedSimpArgs false
namespace Go.Proofs.YtnklgkjfoggpbaaGreatDoor
open Go.RowKit
theorem aZS (c:Nat):PC Tryz.prog 21 [.val (.slice none 0 c)] (bs []):=by
 refine FC.body 6 8 Tryz.func21 rfl (by kernel_rfl) ?_
 refine W ?_
 refine Z1 (aZT (e:=5) rfl rfl rfl (by kernel_rfl)) ?_
 refine W ?_
 refine cd (fun hb=>?_) fun hb=>?_
 ·refine W ?_
  exact ⟨.inl rfl,aF.to (aF.tmp rfl rfl) (uA (by decide)),trivial⟩
 ·exact absurd hb (by cases hb)
theorem aZU (l:List Int)(hl:l.length≤17592186044416):PC Tryz.prog 21 [.nz (bs l)] (bs l):=by
 refine FC.body 6 8 Tryz.func21 rfl (by kernel_rfl) ?_
 refine sq ?_
 refine Z1 aB ?_
 refine cn ?_
 refine aD ?_
 refine sq ?_
 refine Z1 (oM (x:=.nz _) rfl rfl) ?_
 refine Z1 (aZV (e:=5) rfl rfl rfl (by kernel_rfl)) ?_
 refine cn ?_
 refine cd (fun hb=>?_) fun hb=>?_
 ·exact absurd hb (by cases hb)
 ·refine aQ ?_
  refine sq ?_
  refine aZ rfl rfl (aC5 (ps:=[]) (xs:=[]) (e:=5) (by_:=1) (zs:=[.int .u8 0]) 0 rfl (by kernel_rfl) (by kernel_rfl) rfl rfl rfl rfl (by decide)) ⟨rfl,trivial⟩ ?_
  refine Z1 (aZW rfl rfl) ?_
  refine aZ rfl rfl (iG (e:=5) (k:=1) (by_:=1) (zs:=[.int .u8 0]) (cs:=[]) (ds:=l.map (fun z=>Av.val (.int .u8 z))) 1 rfl rfl rfl (by kernel_rfl) (by kernel_rfl) rfl (by decide) (by decide) rfl (by simp) (aCM (fun j y hy=>by rw [List.getElem?_map] at hy;cases h:l[j]? with|none=>rw [h] at hy;cases hy|some z=>rw [h] at hy;simp at hy;subst hy;simp [bv,List.getD,h]) (fun j hj=>⟨rfl,rfl⟩)) (by omega) (by omega)) ⟨rfl,rfl,trivial⟩ ?_
  refine Z1 aB ?_
  refine cn ?_
  refine bS (Le.freeze 2 1 (len:=0+l.length) (bv l) rfl rfl (by simp) (fun j hj=>⟨by simp at hj ⊢;simp [bv,List.getD,hj],rfl⟩)) ?_
  refine aP ?_
  exact ⟨.inl rfl,aF.tmp rfl (by show Av.sl 1 (0+l.length) _=_;rw [Nat.zero_add];rfl),trivial⟩
theorem aZX (l:List Int)(hl:l.length≤17592186044416):PC Tryz.prog 21 [bs l] (bs l):=
 PC.nil_or (fun h c=>by rw [List.eq_nil_of_length_eq_zero h];exact aZS c) (aZU l hl)
def gY (xs:List Int):List Int:=xs++kX ((nH 0 (dX xs):Nat):Int)
def lH (xs:List Int):List Int:=xs.take (xs.length-4)
def cB (xs:List Int):List Int × Int:=if xs.length<4 then ([],2) else if gY (lH xs)=xs then (lH xs,0) else ([],14)
theorem aZY {xs:List Int}(h:dF xs)(n:Nat):dF (xs.take n):=fun j=>by
 by_cases hj:j<(xs.take n).length
 ·have h1:=h j
  rw [List.getD,List.getElem?_eq_getElem (by rw [List.length_take] at hj;omega)] at h1
  rw [List.getD,List.getElem?_eq_getElem hj,List.getElem_take]
  exact h1
 ·rw [List.getD,List.getElem?_eq_none (by omega)]
  decide
theorem aZZ {xs:List Int}{n:Nat}(h:n≤xs.length)(E:Env)(v:Value)(hv:aA E (.sl 1 n (bv xs)) v):aA E (bs (xs.take n)) v:=by
 have h1:bs (xs.take n)=.sl 1 n (bv (xs.take n)):=by unfold bs;rw [List.length_take,Nat.min_eq_left h]
 rw [h1]
 refine pI (fun E j hj v hv=>?_) E v hv
 have h2:bv (xs.take n) j=bv xs j:=by unfold bv;rw [List.getD,List.getD,List.getElem?_take,if_pos hj]
 rw [h2]
 exact hv
theorem aO4 (xs:List Int)(hby:dF xs)(hl:xs.length≤100000000):PC Tryz.prog 23 [bs xs] (bs (gY xs)):=by
 refine FC.body 1 7 Tryz.func23 rfl (by kernel_rfl) ?_
 refine W ?_
 refine Z1 (ca (aHN xs hby (by omega))) ?_
 refine Z1 (ca (aZ0 xs (nH 0 (dX xs)) hl (aC6 (by decide) (aC7 hby)))) ?_
 refine W ?_
 exact ⟨.inl rfl,aF.tmp rfl rfl,trivial⟩
theorem aHO {xs:List Int}{p:List Int × Int}(h:cB xs=p):Av.tup [bs (cB xs).1,vi (cB xs).2]=.tup [bs p.1,vi p.2]:=by rw [h]
theorem aO5 (xs:List Int)(hby:dF xs)(hl:xs.length≤100000000):PC Tryz.prog 8 [bs xs] (.tup [bs (cB xs).1,vi (cB xs).2]):=by
 refine FC.body 1 20 Tryz.func8 rfl (by kernel_rfl) ?_
 refine sq ?_
 refine Z1 aB ?_
 refine Z1 aB ?_
 refine cn ?_
 refine aD ?_
 refine sq ?_
 refine Z1 mo ?_
 refine Z1 ln ?_
 refine Z1 bz ?_
 refine cn ?_
 refine cd (fun hb=>?_) fun hb=>?_
 ·have h4:xs.length<4:=by have h0:=of_decide_eq_true hb;omega
  refine sq ?_
  refine Z1 aB ?_
  refine Z1 aB ?_
  refine cn ?_
  refine aP ?_
  exact ⟨.inl rfl,by rw [aHO (p:=([],2)) (by unfold cB;rw [if_pos h4])];exact aF.two rfl (aT.to (aT.tmp rfl) (fun E v h=>qI (k:=1) E v h)) (aT.tmp rfl),trivial⟩
 ·have h4:¬ xs.length<4:=by have h0:=of_decide_eq_false hb;omega
  refine aQ ?_
  refine sq ?_
  refine Z1 mo ?_
  refine Z1 mo ?_
  refine Z1 ln ?_
  refine Z1 (OC.cast iP (show vi _=vi ((xs.length-4:Nat):Int) from aR (by omega))) ?_
  refine Z1 (OC.to (aGO (e:=5) (by_:=1) (zs:=[.int .u8 0]) (xs.length-4) rfl rfl rfl (by kernel_rfl) (by kernel_rfl) (by omega)) ((aZZ (Nat.sub_le ..)))) ?_
  refine Z1 (ca (aZX (lH xs) (by unfold lH;rw [List.length_take];omega))) ?_
  refine Z1 aB ?_
  refine cn ?_
  refine aD ?_
  refine sq ?_
  refine Z1 mo ?_
  refine Z1 (cq (aO4 (lH xs) (aZY hby _) (by unfold lH;rw [List.length_take];omega)) rfl rfl) ?_
  refine Z1 mo ?_
  refine Z1 (ca (aO2 (gY (lH xs)) xs)) ?_
  refine Z1 nt ?_
  refine cn ?_
  refine cd (fun hb=>?_) fun hb=>?_
  ·have h5:¬ gY (lH xs)=xs:=by simpa using hb
   refine sq ?_
   refine Z1 aB ?_
   refine Z1 aB ?_
   refine cn ?_
   refine aP ?_
   exact ⟨.inl rfl,by rw [aHO (p:=([],14)) (by unfold cB;rw [if_neg h4,if_neg h5])];exact aF.two rfl (aT.to (aT.tmp rfl) (fun E v h=>qI (k:=1) E v h)) (aT.tmp rfl),trivial⟩
  ·have h5:gY (lH xs)=xs:=by simpa using hb
   refine aQ ?_
   refine sq ?_
   refine Z1 mo ?_
   refine Z1 aB ?_
   refine Z1 aB ?_
   refine cn ?_
   refine aP ?_
   exact ⟨.inl rfl,by rw [aHO (p:=(lH xs,0)) (by unfold cB;rw [if_neg h4,if_pos h5])];exact aF.two rfl (aT.tmp rfl) (aT.tmp rfl),trivial⟩
end Go.Proofs.YtnklgkjfoggpbaaGreatDoor
