/- Parts of the proof of a law of this seat: rules and contracts; no conditions. -/
import Derived.Test.YtnklgkjfoggpbaaGreatDoorWireSpec
import Derived.Test.YtnklgkjfoggpbaaGreatDoorLt
import Derived.Test.YtnklgkjfoggpbaaGreatDoorSm
import Derived.Test.YtnklgkjfoggpbaaGreatDoorProg
import Derived.KernelRfl
import Derived.Test.YtnklgkjfoggpbaaGreatDoorWireT
import Derived.Maps.RangeWalk
import Derived.Maps.OwnOps
set_option maxHeartbeats 6400000
set_option maxRecDepth 100000
set_option linter.unusedVariables false
set_option linter.unusedSimpArgs false
namespace Go.Proofs.YtnklgkjfoggpbaaGreatDoor
open Go.RowKit
def kK (k:Nat):List Nat:=(List.range 256).map fun j=>if j<k then iB 8 j else 0
theorem lD (k:Nat):(kK k).length=256:=by simp [kK]
theorem aRH:(List.replicate 256 (Value.int .u32 0)).map Av.val=(kK 0).map vw:=by
 have h:kK 0=List.replicate 256 0:=by rfl
 rw [h,List.map_replicate,List.map_replicate]
 rfl
theorem aeN {k:Nat}(hk:k<256):((kK k).map vw).set k (vw (iB 8 k))=(kK (k+1)).map vw:=by
 refine List.ext_getElem (by simp [lD]) fun i h1 h2=>?_
 simp only [List.length_set,List.length_map,lD] at h1
 rw [List.getElem_set]
 split
 ·rename_i h
  subst h
  simp [kK]
 ·rename_i h
  simp only [kK,List.getElem_map,List.getElem_range]
  by_cases hi:i<k
  ·rw [if_pos hi,if_pos (by omega)]
  ·rw [if_neg hi,if_neg (by omega)]
theorem aeO {j:Nat}(hj:j<256):((kK 256).map vw)[j]?=some (vw (iB 8 j)):=by
 rw [List.getElem?_eq_getElem (by simp [lD];exact hj)]
 simp [kK,hj]
theorem aAY:∀ (n c:Nat),iB (n+1) c=lP (iB n c)
 | 0,c=>rfl
 | n+1,c=>aAY n (lP c)
theorem aeP (cs:List Av):nV cs 0 cs=cs:=by unfold nV;simp
theorem aeQ {cs ds:List Av}(h:cs.length=ds.length):nV cs 0 ds=ds:=by
 unfold nV
 rw [List.take_zero,List.nil_append,Nat.zero_add,←h,List.drop_length,List.append_nil]
theorem aEG {s:Nat}(h:s<4294967296):s ^^^ 4294967295<4294967296:=Nat.xor_lt_two_pow (n:=32) h (by decide)
theorem aRI:∀ l:List Nat,bE (l.map vw)
 | []=>by unfold bE;trivial
 | x::l=>by unfold bE;exact ⟨by unfold aN;trivial,aRI l⟩
theorem aeR:PC Tryz.prog 103 [] (.agg ((kK 256).map vw)):=by
 refine FC.body 1 24 Tryz.func103 rfl (by kernel_rfl) ?_
 refine sq ?_
 refine aZ rfl rfl (aJG (zs:=List.replicate 256 (.int .u32 0)) (cs:=(kK 0).map vw) 0 rfl (by kernel_rfl) (by rfl) aRH.symm) ⟨rfl,trivial⟩ ?_
 refine cn ?_
 refine aD ?_
 refine sq ?_
 refine Z1 mo ?_
 refine cn ?_
 refine aU ?_
 refine bM (ι:=Nat) (fun k=>⟨[(0,.own 0 0),(3,vi k)],[(0,.live 158 ((kK k).map vw))]⟩) (fun k=>k≤256) (fun k=>256-k) 0 (Nat.zero_le _) (Le.sub ⟨.inr rfl,.inr rfl,trivial⟩ ⟨rfl,trivial⟩) ?_
 intro k hI
 refine sq ?_
 refine Z1 bz ?_
 refine cn ?_
 refine aD ?_
 refine cd (fun hb=>?_) fun hb=>?_
 ·have hk:k<256:=by have h0:=of_decide_eq_true hb;omega
  refine aQ ?_
  refine aD ?_
  refine aU ?_
  refine sq ?_
  refine Z1 mo ?_
  refine Z1 aB ?_
  refine cn ?_
  refine sq ?_
  refine Z1 mo ?_
  refine Z1 (OC.cast (mH (k:=.i64) .u32 rfl rfl (by kernel_rfl) (by kernel_rfl)) (show Av.val (.int .u32 (IntKind.u32.wrap (k:Int)))=vw (iB 0 k) from by rw [aAZ];exact congrArg (fun z=>Av.val (.int .u32 z)) (by show ((k:Int)%4294967296)=(k:Int);omega))) ?_
  refine Z1 aB ?_
  refine cn ?_
  refine aD ?_
  refine sq ?_
  refine Z1 mo ?_
  refine cn ?_
  refine aU ?_
  refine bM (ι:=Nat) (fun m=>⟨[(0,.own 0 0),(1,vi k),(2,vw (iB m k)),(3,vi k),(8,vi m)],[(0,.live 158 ((kK k).map vw))]⟩) (fun m=>m≤8) (fun m=>8-m) 0 (Nat.zero_le _) (Le.sub ⟨.inr rfl,.inr rfl,.inr rfl,.inr rfl,.inr rfl,trivial⟩ ⟨rfl,trivial⟩) ?_
  intro m hI
  refine sq ?_
  refine Z1 bz ?_
  refine cn ?_
  refine aD ?_
  refine cd (fun hb=>?_) fun hb=>?_
  ·have hm:m<8:=by have h0:=of_decide_eq_true hb;omega
   have hlt:=aA0 m (c:=k) (by omega)
   refine aQ ?_
   refine aD ?_
   refine aU ?_
   refine sq ?_
   refine Z1 mo ?_
   refine Z1 (aeS rfl rfl rfl hlt) ?_
   refine Z1 bz ?_
   refine cn ?_
   refine cd (fun hb=>?_) fun hb=>?_
   ·have h1:iB m k%2=1:=by have h0:=of_decide_eq_true hb;omega
    refine tx ?_
    refine Z1 mo ?_
    refine Z1 (aJL (k:=1) rfl rfl rfl (by omega)) ?_
    refine Z1 (yF (b:=3988292384) rfl rfl rfl (by omega) (by omega)) ?_
    refine Z1 aB ?_
    refine cn ?_
    refine tx ?_
    refine Z1 ba ?_
    refine Z1 mo ?_
    refine cn ?_
    exact ⟨m+1,by omega,by omega,Le.sub ⟨.inr rfl,.inr rfl,.inr (by rw [aAY];unfold lP;rw [if_pos h1];rfl),.inr rfl,.inr (aR (by omega)),trivial⟩ ⟨rfl,trivial⟩⟩
   ·have h1:¬ iB m k%2=1:=by have h0:=of_decide_eq_false hb;omega
    refine tx ?_
    refine Z1 mo ?_
    refine Z1 (aJL (k:=1) rfl rfl rfl (by omega)) ?_
    refine Z1 aB ?_
    refine cn ?_
    refine tx ?_
    refine Z1 ba ?_
    refine Z1 mo ?_
    refine cn ?_
    exact ⟨m+1,by omega,by omega,Le.sub ⟨.inr rfl,.inr rfl,.inr (by rw [aAY];unfold lP;rw [if_neg h1];rfl),.inr rfl,.inr (aR (by omega)),trivial⟩ ⟨rfl,trivial⟩⟩
  ·have hm:m=8:=by have h0:=of_decide_eq_false hb;omega
   subst hm
   refine bU ?_
   refine tx ?_
   refine Z1 mo ?_
   refine Z1 mo ?_
   refine eL (R:=[(_,.live _ _)]) rfl rfl (aRJ (off:=0) (len:=256) (e:=45) (by_:=4) (zs:=[.int .u32 0]) rfl rfl rfl (by kernel_rfl) (by kernel_rfl) (by rw [List.length_map,lD];decide) (by omega) (by decide)) ⟨rfl,trivial⟩ ?_
   refine fP rfl rfl (lG (y:=vw (iB 8 k)) (cs':=(kK (k+1)).map vw) rfl rfl rfl (by kernel_rfl) (by kernel_rfl) oH (by rw [List.length_map,lD];omega) (by rw [Nat.zero_add];exact aeN hk)) ⟨rfl,trivial⟩ ?_
   refine cn ?_
   refine tx ?_
   refine Z1 ba ?_
   refine Z1 mo ?_
   refine cn ?_
   exact ⟨k+1,by omega,by omega,Le.sub ⟨.inr rfl,.inr (aR (by omega)),trivial⟩ ⟨rfl,trivial⟩⟩
 ·have hk:k=256:=by have h0:=of_decide_eq_false hb;omega
  subst hk
  refine bU ?_
  refine sq ?_
  refine eL (R:=[(_,.live _ _)]) rfl rfl (mA (k:=256) (ds:=(kK 256).map vw) rfl rfl (by kernel_rfl) (by kernel_rfl) (by rw [List.drop_zero,List.take_of_length_le (by rw [List.length_map,lD];decide)]) (by rw [List.length_map,lD]) (by decide)) ⟨rfl,trivial⟩ ?_
  refine fP rfl rfl (sY (x:=.agg _) (cs':=(kK 256).map vw) rfl rfl rfl rfl (by rw [List.length_map,lD];kernel_rfl) (by rw [Nat.zero_add];exact Nat.le_refl _) (by rw [List.length_map,lD];decide) (aeP _)) ⟨rfl,trivial⟩ ?_
  refine cn ?_
  refine aP ?_
  exact ⟨.inl rfl,aF.cell rfl rfl rfl (by kernel_rfl) (by rw [List.length_map,lD];kernel_rfl) (by rw [List.length_map,lD];decide),trivial⟩
def dX (xs:List Int):List Nat:=xs.map Int.toNat
def dF (xs:List Int):Prop:=∀ j,0≤xs.getD j 0∧xs.getD j 0<256
theorem aEH (xs:List Int):(dX xs).length=xs.length:=List.length_map ..
theorem aRK (c:Nat)(xs:List Int){i:Nat}(hi:i<xs.length):jL c ((dX xs).take (i+1))=oW (jL c ((dX xs).take i)) (xs.getD i 0).toNat:=by
 have h:(dX xs).take (i+1)=(dX xs).take i++[(xs.getD i 0).toNat]:=by
  rw [List.take_succ_eq_append_getElem (by rw [aEH];exact hi)]
  simp [dX,List.getD,List.getElem?_eq_getElem hi]
 rw [h]
 simp [jL,List.foldl_append]
theorem aJM {xs:List Int}(h:dF xs)(i:Nat):(xs.getD i 0).toNat<256:=by have:=h i;omega
theorem aA1 {xs:List Int}(h:dF xs)(i:Nat):∀ x∈(dX xs).take i,x<256:=fun x hx=>by
 obtain ⟨z,hz,rfl⟩:=List.mem_map.1 (List.mem_of_mem_take hx)
 obtain ⟨j,hj,rfl⟩:=List.mem_iff_getElem.1 hz
 have:=aJM h j
 rwa [List.getD,List.getElem?_eq_getElem hj] at this
theorem aC7 {xs:List Int}(h:dF xs):∀ x∈dX xs,x<256:=fun x hx=>aA1 h (dX xs).length x (by rw [List.take_length];exact hx)
theorem aeT {xs:List Int}(h:dF xs)(i:Nat):bv xs i=.val (.int .u8 (((xs.getD i 0).toNat:Nat):Int)):=by
 have h1:=h i
 rw [Int.toNat_of_nonneg h1.1]
 rfl
theorem aeU (s:Nat)(hs:s<4294967296)(xs:List Int)(hby:dF xs)(hl:xs.length≤1000000000000000):PC Tryz.prog 45 [vw s,bs xs] (vw (nH s (dX xs))):=by
 refine FC.body 1 30 Tryz.func45 rfl (by kernel_rfl) ?_
 refine W ?_
 refine Z1 (jP rfl (by kernel_rfl) aeR rfl (by unfold bE;trivial) (by unfold aN;exact aRI _)) ?_
 refine aZ rfl rfl (aJG (zs:=List.replicate 256 (.int .u32 0)) (cs:=(kK 0).map vw) 0 rfl (by kernel_rfl) (by rfl) aRH.symm) ⟨rfl,trivial⟩ ?_
 refine fP rfl rfl (sY (x:=.agg _) (cs':=(kK 256).map vw) rfl rfl rfl rfl (by rw [List.length_map,lD];kernel_rfl) (by rw [List.length_map,List.length_map,lD,lD];decide) (by rw [List.length_map,lD];decide) (aeQ (by rw [List.length_map,List.length_map,lD,lD]))) ⟨rfl,trivial⟩ ?_
 refine W ?_
 refine Z1 (aRL rfl rfl hs) ?_
 refine W ?_
 refine bM (ι:=Nat) (fun i=>⟨[(5,.own 0 0),(6,vw (jL (s ^^^ 4294967295) ((dX xs).take i))),(12,bs xs),(13,vi (xs.length:Int)),(14,vi i)],[(0,.live 158 ((kK 256).map vw))]⟩) (fun i=>i≤xs.length) (fun i=>xs.length-i) 0 (Nat.zero_le _) (Le.sub ⟨.inr rfl,.inr rfl,.inr rfl,.inr rfl,.inr rfl,trivial⟩ ⟨rfl,trivial⟩) ?_
 intro i hI
 refine W ?_
 refine cd (fun hb=>?_) fun hb=>?_
 ·have hi:i<xs.length:=by have h0:=of_decide_eq_true hb;omega
  have hlt:=yG ((dX xs).take i) (aEG hs) (aA1 hby i)
  have hx:=aJM hby i
  refine W ?_
  refine Z1 (OC.cast (mH (k:=.u32) .u8 rfl rfl (by kernel_rfl) (by kernel_rfl)) (show Av.val (.int .u8 (IntKind.u8.wrap ((jL (s ^^^ 4294967295) ((dX xs).take i)):Int)))=.val (.int .u8 (((jL (s ^^^ 4294967295) ((dX xs).take i))%256:Nat):Int)) from by rw [aI6,Int.natCast_emod];rfl)) ?_
  refine Z1 (OC.cast mo (aeT hby i)) ?_
  refine Z1 (aQZ rfl rfl rfl (Nat.mod_lt _ (by decide)) hx) ?_
  refine eL (R:=[(_,.live _ _)]) rfl rfl (aRJ (off:=0) (len:=256) (e:=45) (by_:=4) (zs:=[.int .u32 0]) rfl rfl rfl (by kernel_rfl) (by kernel_rfl) (by rw [List.length_map,lD];decide) (Nat.xor_lt_two_pow (n:=8) (Nat.mod_lt _ (by decide)) hx) (by decide)) ⟨rfl,trivial⟩ ?_
  refine eL (R:=[(_,.live _ _)]) rfl rfl (fL (y:=vw (iB 8 ((jL (s ^^^ 4294967295) ((dX xs).take i))%256 ^^^ (xs.getD i 0).toNat))) rfl rfl (by kernel_rfl) (by rw [Nat.zero_add];exact aeO (Nat.xor_lt_two_pow (n:=8) (Nat.mod_lt _ (by decide)) hx))) ⟨rfl,trivial⟩ ?_
  refine W ?_
  refine Z1 (aJL (k:=8) rfl rfl rfl (by omega)) ?_
  refine Z1 (yF rfl rfl rfl (aA0 8 (Nat.lt_trans (Nat.xor_lt_two_pow (n:=8) (Nat.mod_lt _ (by decide)) hx) (by decide))) (Nat.lt_of_le_of_lt (Nat.div_le_self ..) hlt)) ?_
  refine W ?_
  exact ⟨i+1,by omega,by omega,Le.sub ⟨.inr rfl,.inr (by rw [aRK _ _ hi,←aeV hx];rfl),.inr rfl,.inr rfl,.inr (aR (by omega)),trivial⟩ ⟨rfl,trivial⟩⟩
 ·have hi:i=xs.length:=by have h0:=of_decide_eq_false hb;omega
  subst hi
  have hlt:=yG ((dX xs).take xs.length) (aEG hs) (aA1 hby xs.length)
  refine W ?_
  refine Z1 (aRL rfl rfl hlt) ?_
  refine W ?_
  exact ⟨.inl rfl,aF.tmp rfl (by show vw _=vw _;rw [List.take_of_length_le (by rw [aEH];exact Nat.le_refl _)];rfl),trivial⟩
theorem aHN (xs:List Int)(hby:dF xs)(hl:xs.length≤1000000000000000):PC Tryz.prog 13 [bs xs] (vw (nH 0 (dX xs))):=by
 refine FC.body 1 5 Tryz.func13 rfl (by kernel_rfl) ?_
 refine W ?_
 refine Z1 (ca (aeU 0 (by decide) xs hby hl)) ?_
 refine W ?_
 exact ⟨.inl rfl,aF.tmp rfl rfl,trivial⟩
theorem aRM {f:FuncId}{xs:List Int}{s s':Int × Int}{u v:Value}{P:Program}(h:∀ A c w,Rd w w.heap.size A (cb .u8 xs)→xs.length≤c→Calls P f #[.agg #[.slice A xs.length c,.int .i64 s.1,.int .i64 s.2],v] w fun e w'=>e=.returned (.tuple #[u,.agg #[.slice A xs.length c,.int .i64 s'.1,.int .i64 s'.2]])∧Below w.heap.size w w'):PC P f [jV xs s,.val v] (.tup [.val u,jV xs s']):=by
 intro E vs hG hA _ _ _
 unfold aG aG aG at hA
 obtain ⟨v0,us,rfl,hv,v',us',rfl,hv',rfl⟩:=hA
 obtain ⟨A,c,rfl,h1,h2,h3⟩:=aEI hv
 unfold aA at hv'
 subst hv'
 refine (h A c E.w h3 h2).mono ?_
 rintro en w' ⟨rfl,hb⟩
 refine ⟨{ E with w:=w' },_,rfl,rfl,hG.grow hb,(Step.grow hG hb).kept (by simp),?_,fun n y hn=>by simp [aL] at hn⟩
 unfold aA
 refine ⟨[_,_],rfl,?_⟩
 unfold aG aG aG
 exact ⟨_,_,rfl,by unfold aA;rfl,_,_,rfl,aJN (aA.step (Step.grow hG hb) _ _ h1),rfl⟩
theorem aPE (zs:List Int)(m:Int)(h1:zs.length≤100000000):PC Tryz.prog 47 [bs zs,vi m] (bs (zs++cQ m)):=aA2 (e:=5) fun A c w k1 k2=>aeW A _ c zs m w k1 rfl (by omega)
theorem aaU (zs:List Int)(m:Int)(h1:zs.length≤100000000)(hm:m≤9223372036854775807):PC Tryz.prog 105 [bs zs,vi m] (bs (zs++aC m)):=aA2 (e:=5) fun A c w k1 k2=>aJO A _ c zs m w k1 rfl h1 hm
theorem aaV (zs:List Int)(s:ByteArray)(h1:zs.length≤100000000)(hs:s.size≤100000000):PC Tryz.prog 108 [bs zs,vs s] (bs (zs++aY s)):=aA2 (e:=5) fun A c w k1 k2=>aeX A _ c zs s w k1 rfl h1 hs
theorem aaW (zs ls:List Int)(h1:zs.length≤100000000)(h2:ls.length≤100000000):PC Tryz.prog 109 [bs zs,aK ls] (bs (zs++cZ ls)):=aeY (e:=5) fun A c L d w k1 k2 k3 k4=>aeZ A L _ c _ d zs ls w k1 rfl h1 k3 rfl h2
theorem aZ0 (zs:List Int)(m:Nat)(h1:zs.length≤100000000)(hm:m<4294967296):PC Tryz.prog 83 [bs zs,vw m] (bs (zs++kX (m:Int))):=aA2 (e:=5) fun A c w k1 k2=>ae0 A _ c zs m w k1 rfl (by omega) (by omega) (by omega)
def rB (xs:List Int)(s:Int × Int):Int × (Int × Int):=(gI (eX xs s.1 s.2 1).1,(eX xs s.1 s.2 1).2)
def rS (xs:List Int)(most:Int)(s:Int × Int):Int × (Int × Int):=bY xs s.1 s.2 most
noncomputable def rT (xs:List Int)(most:Int)(s:Int × Int):ByteArray × (Int × Int):=(strOfNums (cU xs s.1 s.2 most 1).1,(cU xs s.1 s.2 most 1).2)
def rI (xs:List Int)(most:Int)(s:Int × Int):List Int × (Int × Int):=(kL (cU xs s.1 s.2 most 2).1,(cU xs s.1 s.2 most 2).2)
theorem ae1 (xs:List Int)(s:Int × Int)(hl:xs.length≤1000000)(hb:cI xs):PC Tryz.prog 173 [jV xs s] (.tup [vi (rB xs s).1,jV xs (rB xs s).2]):=ae2 fun A c w k1 k2=>ae3 A _ c s.1 s.2 xs w k1 rfl k2 (by omega) hb
theorem ae4 (xs:List Int)(most:Int)(s:Int × Int)(hl:xs.length≤1000000)(hb:cI xs):PC Tryz.prog 166 [jV xs s,vi most] (.tup [vi (rS xs most s).1,jV xs (rS xs most s).2]):=aRM fun A c w k1 k2=>aJP A _ c s.1 s.2 most xs w k1 rfl k2 (by omega) hb
theorem ae5 (xs:List Int)(most:Int)(s:Int × Int)(hl:xs.length≤1000000)(hb:cI xs):PC Tryz.prog 167 [jV xs s,vi most] (.tup [vs (rT xs most s).1,jV xs (rT xs most s).2]):=aRM fun A c w k1 k2=>ae6 A _ c s.1 s.2 most xs w k1 rfl k2 (by omega) hb
theorem ae7 (xs:List Int)(most:Int)(s:Int × Int)(hl:xs.length≤1000000)(hb:cI xs):PC Tryz.prog 133 [jV xs s,vi most] (.tup [aK (rI xs most s).1,jV xs (rI xs most s).2]):=ae8 (e:=3) fun A c w k1 k2=>ae9 A _ c s.1 s.2 most xs w k1 rfl k2 hl hb
theorem afA (xs:List Int)(s:Int × Int):PC Tryz.prog 20 [jV xs s] (vi (tC xs.length s.1 s.2)):=afB fun A c w=>afC A _ c s.1 s.2 w
open Go.RowKit Go.Maps
def oX (P:Program)(T:TypeId):Option (TypeId × TypeId):=match P.underlying T with|some (.map k e)=>some (k,e)|_=>none
theorem wL {P:Program}{T k e:TypeId}(h:oX P T=some (k,e)):P.underlying T=some (.map k e):=by
 unfold oX at h
 split at h
 ·rename_i hu
  injection h with h
  injection h with h1 h2
  subst h1;subst h2
  exact hu
 ·cases h
def wM (P:Program)(e:TypeId):Option IntKind:=match P.underlying e with|some (.int q)=>some q|_=>none
theorem aEJ {P:Program}{e:TypeId}{q:IntKind}(h:wM P e=some q):P.underlying e=some (.int q):=by
 unfold wM at h
 split at h
 ·rename_i hu
  injection h with h
  subst h
  exact hu
 ·cases h
theorem Step.turn {E:Env}(hG:Good E){n b:Nat}(hn:E.loc n=.at b)(hnc:∀ cur t,E.w.heap[b]?≠some (.cells cur t (0,0))){w':World}(hg:E.w.grownBy w' (some b)):Step E { E with w:=w' } [n]∧Good { E with w:=w' }:=by
 refine ⟨⟨hg.os,hg.tape,hg.output,hg.size,rfl,fun c hc hno=>hg.block c hc fun e=>?_,fun m hm=>⟨rfl,fun c hc=>hg.block c (hG.lt m c hc).1 fun e=>?_⟩,fun m h=>h,fun m c h=>.inl h,fun m h=>.inl h,fun m c cur t hc hc' hcur=>?_⟩,fun c hc=>Nat.lt_of_lt_of_le (hG.old c hc) hg.size,hG.inj,fun m c hc=>⟨Nat.lt_of_lt_of_le (hG.lt m c hc).1 hg.size,(hG.lt m c hc).2⟩,hG.shp.same fun c hc=>⟨⟨Nat.lt_of_lt_of_le hc.1 hg.size,hc.2.1,hc.2.2⟩,hg.block c hc.1 fun e=>by injection e with e;exact hc.2.2 n (e ▸ hn)⟩⟩
 ·injection e with e
  exact hno n (e ▸ hn)
 ·injection e with e
  subst e
  exact hm (by simp [hG.inj m n c hc hn])
 ·refine ⟨cur,?_,rfl⟩
  have hlt:=(Array.getElem?_eq_some_iff.1 hcur).1
  rw [hg.block c hlt fun e=>?_]
  ·exact hcur
  ·injection e with e
   subst e
   exact hnc _ _ hcur
theorem aRN {w:World}{P:Program}{k e:TypeId}{b n:Nat}{D:DataW Unit}(h:w.ownsMap P k (plainElem P e) b n D):∀ cur t,w.heap[b]?≠some (.cells cur t (0,0)):=fun cur t hc=>by
 obtain ⟨es,clock,h1,_⟩:=h
 rw [h1] at hc
 cases hc
theorem afD {w:World}{P:Program}{k e:TypeId}{b r n c:Nat}{D:DataW Unit}{left:Lit→Bool}(h:w.ranges P k (plainElem P e) b r n D left c):∀ cur t,w.heap[r]?≠some (.cells cur t (0,0)):=fun cur t hc=>by
 obtain ⟨es,clock,since,seen,c0,_,_,_,_,h5,_⟩:=h
 rw [h5] at hc
 cases hc
theorem aRO {w:World}{P:Program}{k e:TypeId}{b n:Nat}{D:DataW Unit}(h:w.ownsMap P k (plainElem P e) b n D):w.ownsMap P k (plainElem P e) b (Maps.size D) D:=by
 obtain ⟨es,clock,h1,F,_,rfl⟩:=h
 refine ⟨es,clock,h1,F,?_,rfl⟩
 rw [Maps.size_eq,length_sorted]
 simp
section
variable {P:Program}{o:Oper}{ρ:Operand→Av}{p q r:Operand}{T k e:TypeId}{kk:IntKind}{D:DataW Unit}
theorem xJ (m:Nat)(ho:o.op=.makeMap T none)(hT:oX P T=some (k,e)):OC P o ρ [(m,.unborn)] (.mp m) [(m,.map P k e (.map []))]:=by
 intro E a hG hr hH
 have hn:E.loc m=.unborn:=hH m .unborn (by simp)
 unfold eK execOp
 simp only [ho,Option.map_none,Sem.run_bind,run_makeMap,Result.andThen_ok,Sem.run_pure,fM]
 have hb:Below E.w.heap.size E.w (E.w.alloc (.map #[] 0)):=(Below.refl _ _).alloc (Nat.le_refl _) _
 refine ⟨E.give (E.w.alloc (.map #[] 0)) m E.w.heap.size,rfl,Step.give hG hb hn (Nat.le_refl _),hG.give hb (Nat.le_refl _) (by simp),?_,fun i y hy=>?_⟩
 ·unfold aA
  refine ⟨⟨by simp [Env.give],_,rfl⟩,fun b hb=>?_⟩
  simp [Env.give] at hb
  rw [hb]
 ·simp only [aL] at hy
  by_cases e1:m=i
  ·subst e1
   simp at hy
   subst hy
   exact ⟨E.w.heap.size,0,by simp [Env.give],World.ownsMap_made E.w P k (plainElem P e)⟩
  ·rw [eY e1,cond_false] at hy
   cases hy
theorem aCI {n:Nat}{key:Value}{kl:Lit}{c:Int}(K:Keyed P k)(ho:o.op=.mapUpdate T p q r)(hp:ρ p=.mp n)(hq:ρ q=.val key)(hr':ρ r=.val (.int kk c))(hT:oX P T=some (k,e))(he:wM P e=some kk)(hkey:keyOf P k key=some kl)(hw:(Lit.int kk c).wf=true)(hs:Maps.size D<maxLen):
 OC P o ρ [(n,.map P k e D)] .any [(n,.map P k e (D.put kl (.lit (.int kk c))))]:=by
 intro E a hG hr hH
 have h1:=hr p (by simp [ho,Op.operands])
 have h2:=hr q (by simp [ho,Op.operands])
 have h3:=hr r (by simp [ho,Op.operands])
 rw [hp] at h1
 rw [hq] at h2
 rw [hr'] at h3
 unfold aA at h1 h2 h3
 obtain ⟨b,m,h4,h5⟩:=hH n (.map P k e D) (by simp)
 obtain ⟨w',hrun,h6,h7⟩:=(aRO h5).update K (wL hT) hs hkey (plainElem_int (H:=Unit) (aEJ he) hw)
 unfold eK execOp
 simp only [ho,h1.2 b h4,h2,h3,Sem.run_bind,hrun,Result.andThen_ok,Sem.run_pure,fM]
 obtain ⟨hS,hG'⟩:=Step.turn hG h4 (aRN h5) h7
 refine ⟨{ E with w:=w' },rfl,hS,hG',by unfold aA;trivial,fun i y hy=>?_⟩
 simp only [aL] at hy
 by_cases e1:n=i
 ·subst e1
  simp at hy
  subst hy
  exact ⟨b,_,h4,h6⟩
 ·rw [eY e1,cond_false] at hy
  cases hy
theorem aJQ {P:Program}{e:TypeId}{z:Value}(h:(P.info? e).bind (·.zero)=some z)(w:World):(zeroValue e).run P w=.ok z w:=by
 cases hi:P.info? e with
 | none=>simp [hi] at h
 | some i=>
  cases hz:i.zero with
  | none=>simp [hi,hz] at h
  | some y=>
   simp [hi,hz] at h
   subst h
   simp [zeroValue,typeInfo,hi,hz,Sem.run_bind]
theorem aCG {n:Nat}{key:Value}{kl:Lit}{c:Int}(K:Keyed P k)(ho:o.op=.lookup T p q false)(hp:ρ p=.mp n)(hq:ρ q=.val key)(hT:oX P T=some (k,e))(he:wM P e=some kk)(hz:(P.info? e).bind (·.zero)=some (.int kk 0))(hkey:keyOf P k key=some kl)(hat:D.atKey kl (.lit (.int kk 0))=.lit (.int kk c)):
 OC P o ρ [(n,.map P k e D)] (.val (.int kk c)) []:=bZ fun E a hG hr hH=>by
 have h1:=hr p (by simp [ho,Op.operands])
 have h2:=hr q (by simp [ho,Op.operands])
 rw [hp] at h1
 rw [hq] at h2
 unfold aA at h1 h2
 obtain ⟨b,m,h4,h5⟩:=hH n (.map P k e D) (by simp)
 obtain ⟨c',hrun,hat',_⟩:=h5.lookup_int K (wL hT) (aEJ he) (aJQ hz E.w) hkey
 rw [hat] at hat'
 injection hat' with hat'
 injection hat' with _ hat'
 subst hat'
 refine ⟨.int kk c,?_,by unfold aA;rfl⟩
 unfold execOp
 simp only [ho,h1.2 b h4,h2,Sem.run_bind,hrun,Result.andThen_ok,Sem.run_pure]
theorem Le.freezeMap {N:Nat}{D':List Nat}{s:List (Nat × Av)}{h:List (Nat × Hs)}(t n:Nat)(hs:bN s t=.mp n)(hn:aL h n=some (.map P k e D)):Le N D' ⟨s,h⟩ ⟨(t,.fm P k e D)::s,(n,.dead)::h⟩:=Le.step fun E a hF=>by
 have hv:=hF.holds.1 t
 rw [hs] at hv
 obtain ⟨b,m,h4,h5⟩:=hF.holds.2 n _ hn
 have hn0:E.loc n≠.unborn:=by rw [h4];simp
 have hS:=Step.kill E n hn0
 refine ⟨E.re n .dead,[n],rfl,hS,hF.good.re (by simp),fun u=>?_,fun j y hy=>?_⟩
 ·by_cases e1:t=u
  ·subst e1
   rw [lE]
   unfold aA at hv ⊢
   exact ⟨b,m,hv.2 b h4,aEK hF.good h4,h5⟩
  ·rw [lS _ _ e1]
   exact aA.step hS _ _ (hF.holds.1 u)
 ·by_cases e1:n=j
  ·subst e1
   simp [aL] at hy
   subst hy
   show (E.re n .dead).loc n=.dead
   simp [Env.re]
  ·simp only [aL,eY e1,cond_false] at hy
   exact dI.step hS (by simp [Ne.symm e1]) (hF.holds.2 j y hy)
theorem aYG (m:Nat)(K:Keyed P k)(ho:o.op=.range T p)(hp:ρ p=.fm P k e D)(hT:oX P T=some (k,e)):OC P o ρ [(m,.unborn)] (.own m 0) [(m,.iter P k e D (Maps.has D) (Maps.size D) none)]:=by
 intro E a hG hr hH
 have h1:=hr p (by simp [ho,Op.operands])
 rw [hp] at h1
 unfold aA at h1
 obtain ⟨b,n,h2,h3,h4⟩:=h1
 have hn:E.loc m=.unborn:=hH m .unborn (by simp)
 obtain ⟨w',hrun,h5,h6,h7⟩:=h4.range K (wL hT)
 have hb:Below E.w.heap.size E.w w':=⟨h6.os,h6.tape,h6.output,h6.size,fun c hc=>h6.block c hc (by simp)⟩
 unfold eK execOp
 simp only [ho,h2,Sem.run_bind,hrun,Result.andThen_ok,Sem.run_pure,fM]
 have hS:=Step.give hG hb hn (Nat.le_refl _)
 refine ⟨E.give w' m E.w.heap.size,rfl,hS,hG.give hb (Nat.le_refl _) (by omega),?_,fun i y hy=>?_⟩
 ·unfold aA
  refine ⟨⟨by simp [Env.give],_,rfl⟩,fun b hb=>?_⟩
  simp [Env.give] at hb
  rw [hb]
 ·simp only [aL] at hy
  by_cases e1:m=i
  ·subst e1
   simp at hy
   subst hy
   exact ⟨b,E.w.heap.size,n,by simp [Env.give],(hS.ok h3).1,h5,fun kv hk=>by cases hk⟩
  ·rw [eY e1,cond_false] at hy
   cases hy
theorem aYJ {n c:Nat}{left:Lit→Bool}{key v:Value}(ho:o.op=.entry p)(hp:ρ p=.own n 0):OC P o ρ [(n,.iter P k e D left c (some (key,v)))] (.tup [.val key,.val v]) []:=bZ fun E a hG hr hH=>by
 have h1:=hr p (by simp [ho,Op.operands])
 rw [hp] at h1
 unfold aA at h1
 obtain ⟨b,r,m,h2,h3,h4,h5⟩:=hH n _ (List.mem_singleton.2 rfl)
 have h6:(Instr.entry (.pointer (some ⟨r,0,none⟩))).run P E.w=.ok (.tuple #[key,v]) E.w:=h5 _ rfl
 refine ⟨.tuple #[key,v],?_,?_⟩
 ·unfold execOp
  simp only [ho,h1.2 r h2,Sem.run_bind,h6,Result.andThen_ok,Sem.run_pure]
 ·unfold aA
  refine ⟨[key,v],rfl,?_⟩
  unfold aG
  refine ⟨key,[v],rfl,by unfold aA;rfl,?_⟩
  unfold aG
  exact ⟨v,[],rfl,by unfold aA;rfl,by unfold aG;rfl⟩
end
section
variable {ro:Option Nat}{P:Program}{N:Nat}{D:List Nat}{s:List (Nat × Av)}{h:List (Nat × Hs)}{Q:Exit→Ctx→Prop}{k e:TypeId}{M:DataW Unit}
theorem aYH {o:Oper}{l:List Oper}{id d m c:Nat}{it:Operand}{left:Lit→Bool}{last:Option (Value × Value)}(K:Keyed P k)(hg:o.guard=none)(hd:o.dst=some d)(ho:o.op=.next it false)(hds:oA N (o::l)=true)(hit:dA s it=.own m 0)(hm:aL h m=some (.iter P k e M left c last))
 (hDone:c=0→(∀ kl,left kl=false)→Ck true P (o::l).toArray l ⟨(d,.tup [.val (.bool false)])::s,h⟩ fun Γ' _=>Q .normal Γ')
 (hMore:∀ (key v:Value) (kl:Lit) (y:DataW Unit × List MemPlace) (c':Nat),keyOf P k key=some kl→left kl=true→plainElem P e v=some y→(∀ zd,M.atKey kl zd=y.1)→c'<c→
  Ck true P (o::l).toArray l ⟨(d,.tup [.val (.bool true),.val key,.val v])::s,(m,.iter P k e M (fun z=>left z&&!z.sameKey kl) c' (some (key,v)))::h⟩ fun Γ' _=>Q .normal Γ'):
 dW ro P N D (.region id (o::l).toArray false) Q ⟨s,h⟩:=fun E a hF=>by
 refine wpIn_region_lit (l:=o::l) ?_
 obtain ⟨b,r,n,h1,h2,h3,_⟩:=hF.holds.2 m _ hm
 have hds':oA N l=true:=by
  simp only [oA,List.all_cons,Bool.and_eq_true] at hds ⊢
  exact hds.2
 have hdt:∀ t,o.dst=some t→t<a.tmps.size:=fun t ht=>by
  have:=hds
  simp only [oA,List.all_cons,Bool.and_eq_true] at this
  have:=this.1
  rw [ht] at this
  rw [hF.size]
  simpa using this
 have hw:Region.wanted o (yielded (o::l).toArray a.tmps)=true:=by simp [Region.wanted,hg]
 have hv:a.eval it=.pointer (some ⟨r,0,none⟩):=by
  have hr:aA E (dA s it) (a.eval it):=by
   cases it with
   | tmp t=>exact hF.holds.1 t
   | _=>simp [dA] at hit
  rw [hit] at hr
  unfold aA at hr
  exact hr.2 r h1
 have key:xD true P o a E.w fun v w'=>∃ x U,mZ E x U v w'∧(∀ q,q∈U.map (·.1)→q=m)∧Ck true P (o::l).toArray l ⟨(d,x)::s,U++h⟩ fun Γ' _=>Q .normal Γ':=by
  refine .inl ?_
  unfold eK execOp
  rcases h3.next (P:=P) K o.type with ⟨g0,gl,hrun⟩|⟨ky,v,kl,y,w',c',gk,gl,gy,gat,hrun,grg,glt,gg,gs,gen⟩
  ·simp only [ho,hv,Sem.run_bind,hrun,Result.andThen_ok,Sem.run_pure,fM]
   refine ⟨.tup [.val (.bool false)],[],⟨E,rfl,Step.refl E,hF.good,?_,fun i y hy=>by simp [aL] at hy⟩,by simp,hDone g0 gl⟩
   unfold aA
   exact ⟨[.bool false],rfl,by unfold aG;exact ⟨_,_,rfl,by unfold aA;rfl,by unfold aG;rfl⟩⟩
  ·simp only [ho,hv,Sem.run_bind,hrun,Result.andThen_ok,Sem.run_pure,fM]
   obtain ⟨hS,hG'⟩:=Step.turn hF.good h1 (afD h3) gg
   refine ⟨.tup [.val (.bool true),.val ky,.val v],[(m,.iter P k e M (fun z=>left z&&!z.sameKey kl) c' (some (ky,v)))],⟨{ E with w:=w' },rfl,hS,hG',?_,fun i y hy=>?_⟩,by simp,hMore ky v kl y c' gk gl gy gat glt⟩
   ·unfold aA
    refine ⟨[.bool true,ky,v],rfl,?_⟩
    unfold aG
    refine ⟨_,_,rfl,by unfold aA;rfl,?_⟩
    unfold aG
    refine ⟨_,_,rfl,by unfold aA;rfl,?_⟩
    unfold aG
    exact ⟨_,_,rfl,by unfold aA;rfl,by unfold aG;rfl⟩
   ·simp only [aL] at hy
    by_cases e1:m=i
    ·subst e1
     simp at hy
     subst hy
     refine ⟨b,r,n,h1,?_,grg,fun kv hk=>?_⟩
     ·exact ⟨Nat.lt_of_lt_of_le h2.1 gg.size,h2.2.1,h2.2.2⟩
     ·injection hk with hk
      subst hk
      exact gen
    ·rw [eY e1,cond_false] at hy
     cases hy
 unfold wpListIn
 rw [if_pos hw]
 refine aFR (key.mono ?_)
 rintro v w' ⟨x,U,⟨E',rfl,hS,hG',hx,hU⟩,hUm,Γ',F,hch,hq⟩
 refine hch.text hds' E' (a.put o.dst v) hG' ?_ (by rw [aFS,hF.size]) fun E'' a'' M' hG'' hS' hH' hN' hdf=>⟨E'',Γ',rfl,?_,⟨hG'',hN',fun n hn=>?_,hH'⟩,by rw [hdf,aFT],hq⟩
 ·have:=hF.holds.put (tm:=#[]) hS hx hU hdt
  rw [hd] at this ⊢
  exact this
 ·exact (hS.trans hS').kept hF.born
 ·exact ((hS.trans hS').kept hF.born).born n hn
end
theorem aCH {P:Program}{k:TypeId}(hk:P.underlying k=some .string){s:ByteArray}(hs:s.size≤maxLen):keyOf P k (.string s)=some (.string s.data.toList):=WideMaps.keyOf_string_mk hk hs
theorem aYI {P:Program}{k:TypeId}(hk:P.underlying k=some .string){key:Value}{kl:Lit}(h:keyOf P k key=some kl):∃ s,key=.string s∧kl=.string s.data.toList∧s.size≤maxLen:=by
 cases key<;>simp [keyOf,hk,mapKey] at h
 exact ⟨_,rfl,h.2.symm,h.1⟩
end Go.Proofs.YtnklgkjfoggpbaaGreatDoor
namespace Go.Proofs.YtnklgkjfoggpbaaGreatDoor
open Go.RowKit
theorem xF {P:Program}{T:TypeId}(h:oD P T=true):P.underlying T=some .string:=by
 unfold oD at h
 split at h
 ·assumption
 ·cases h
section
variable {P:Program}{o:Oper}{x y:Av}{R M U:List (Nat × Hs)}{ρ:Operand→Av}{p q r:Operand}{T:TypeId}
theorem aGK {s:ByteArray}{k k':IntKind}{i j:Int}(ho:o.op=.slice T p (some q) (some r) none)(hp:ρ p=.val (.string s))(hq:ρ q=.val (.int k i))(hr':ρ r=.val (.int k' j))(hT:oD P T=true)(h0:0≤i)(h1:i≤j)(h2:j≤s.size):OC P o ρ [] (.val (.string (s.extract i.toNat j.toNat))) []:=bZ fun E a hG hr _=>by
 have h3:=hr p (by simp [ho,Op.operands])
 have h4:=hr q (by simp [ho,Op.operands])
 have h5:=hr r (by simp [ho,Op.operands])
 rw [hp] at h3
 rw [hq] at h4
 rw [hr'] at h5
 unfold aA at h3 h4 h5
 refine ⟨.string (s.extract i.toNat j.toNat),?_,by unfold aA;rfl⟩
 have hrun:=run_slice_string E.w T s k k' i j (xF hT) h0 h1 h2
 unfold execOp
 simp only [ho,Option.map_some,Option.map_none,h3,h4,h5,Sem.run_bind,(run_sliceAt_string (w:=E.w) T _ _ _ _ (xF hT)).trans hrun,Result.andThen_ok,Sem.run_pure]
theorem aXW {s:ByteArray}{k:IntKind}{i:Int}(ho:o.op=.slice T p (some q) none none)(hp:ρ p=.val (.string s))(hq:ρ q=.val (.int k i))(hT:oD P T=true)(h0:0≤i)(h1:i≤s.size):OC P o ρ [] (.val (.string (s.extract i.toNat s.size))) []:=bZ fun E a hG hr _=>by
 have h3:=hr p (by simp [ho,Op.operands])
 have h4:=hr q (by simp [ho,Op.operands])
 rw [hp] at h3
 rw [hq] at h4
 unfold aA at h3 h4
 refine ⟨.string (s.extract i.toNat s.size),?_,by unfold aA;rfl⟩
 have hrun:=run_slice_string_from_if E.w T s k i (xF hT)
 rw [if_pos ⟨h0,h1⟩] at hrun
 unfold execOp
 simp only [ho,Option.map_some,Option.map_none,h3,h4,Sem.run_bind,(run_sliceAt_string (w:=E.w) T _ _ _ _ (xF hT)).trans hrun,Result.andThen_ok,Sem.run_pure]
theorem aYB {T':TypeId}{a b:ByteArray}(ho:o.op=.binOp .lss T p q T')(hp:ρ p=.val (.string a))(hq:ρ q=.val (.string b)):OC P o ρ [] (.val (.bool (Op.bytesLess a.toList b.toList))) []:=bZ fun E c hG hr _=>by
 have h1:=hr p (by simp [ho,Op.operands])
 have h2:=hr q (by simp [ho,Op.operands])
 rw [hp] at h1
 rw [hq] at h2
 unfold aA at h1 h2
 exact ⟨.bool (Op.bytesLess a.toList b.toList),by simp [execOp,ho,h1,h2,eqGuard,binOp,Op.stringOp],by unfold aA;rfl⟩
theorem oI {f:Nat}{g:Operand}{args:List Operand}{tys:Array TypeId}{ys caps:List Av}(V:List Nat)(ho:o.op=.call { callee:=.value g,args:=args.toArray,argTypes:=tys })(hg:ρ g=.clo f caps)(hf:dN P f=true)(hc:iO P f ys R M x U)(hxs:args.map ρ++caps=ys)
 (hV:∀ n∈U.map (·.1),n∈R.map (·.1)∨n∈V) (hb:bQ (R++M)) (hRU:∀ n∈R.map (·.1),n∈U.map (·.1)) (hMU:∀ n∈M.map (·.1),n∉U.map (·.1)) (hIA:aO (·∈(R++M).map (·.1)) ys) (hIR:jR (·∈(R++M).map (·.1)) (R++M)) (hIx:aH (·∈U.map (·.1)) x) (hIU:jR (·∈U.map (·.1)) U):OC P o ρ ((R++M)++V.map fun n=>(n,.unborn)) x (U++tD M):=by
 intro E a hG hr hH
 subst hxs
 have hA:=aA3 (ρ:=ρ) (E:=E) (a:=a) (l:=args) fun p hp=>hr p (by simp [ho,Op.operands,Call.operands,hp])
 have h1:=hr g (by simp [ho,Op.operands,Call.operands])
 rw [hg] at h1
 unfold aA at h1
 obtain ⟨vs,h2,h3⟩:=h1
 have app:∀ (xs:List Av) (us:List Value),aG E xs us→aG E (xs++caps) (us++vs):=by
  intro xs
  induction xs with
  | nil=>intro us h;unfold aG at h;subst h;exact h3
  | cons x xs ih=>
   intro us h
   unfold aG at h
   obtain ⟨v,us',rfl,h4,h5⟩:=h
   rw [List.cons_append,List.cons_append]
   unfold aG
   exact ⟨v,us'++vs,rfl,h4,ih us' h5⟩
 have:=iO.post hc hG (app _ _ hA) (fun n y hn=>hH n y (List.mem_append_left _ hn)) (fun n hn hn'=>hH n .unborn (List.mem_append_right _ (List.mem_map.2 ⟨n,(hV n hn).resolve_left hn',rfl⟩))) hb hRU hMU hIA hIR hIx hIU
 unfold eK execOp
 simp only [ho,resolve,Deferred.ofValue,h2,Sem.run_bind,Sem.run_pure,Result.andThen_ok,invoke,Array.append_empty,Array.empty_append,List.map_toArray,List.append_toArray,aA4 hf,fM]
 exact this
theorem sS {f:Nat}{g:Operand}{args:List Operand}{tys:Array TypeId}{ys caps:List Av}(V:List Nat)(ho:o.op=.call { callee:=.value g,args:=args.toArray,argTypes:=tys })(hg:ρ g=.bm f caps)(hf:dN P f=true)(hc:iO P f ys R M x U)(hxs:caps++args.map ρ=ys)
 (hV:∀ n∈U.map (·.1),n∈R.map (·.1)∨n∈V) (hb:bQ (R++M)) (hRU:∀ n∈R.map (·.1),n∈U.map (·.1)) (hMU:∀ n∈M.map (·.1),n∉U.map (·.1)) (hIA:aO (·∈(R++M).map (·.1)) ys) (hIR:jR (·∈(R++M).map (·.1)) (R++M)) (hIx:aH (·∈U.map (·.1)) x) (hIU:jR (·∈U.map (·.1)) U):OC P o ρ ((R++M)++V.map fun n=>(n,.unborn)) x (U++tD M):=by
 intro E a hG hr hH
 subst hxs
 have hA:=aA3 (ρ:=ρ) (E:=E) (a:=a) (l:=args) fun p hp=>hr p (by simp [ho,Op.operands,Call.operands,hp])
 have h1:=hr g (by simp [ho,Op.operands,Call.operands])
 rw [hg] at h1
 unfold aA at h1
 obtain ⟨vs,h2,h3⟩:=h1
 have:=iO.post hc hG (aRP h3 hA) (fun n y hn=>hH n y (List.mem_append_left _ hn)) (fun n hn hn'=>hH n .unborn (List.mem_append_right _ (List.mem_map.2 ⟨n,(hV n hn).resolve_left hn',rfl⟩))) hb hRU hMU hIA hIR hIx hIU
 unfold eK execOp
 simp only [ho,resolve,Deferred.ofValue,h2,Sem.run_bind,Sem.run_pure,Result.andThen_ok,invoke,Array.append_empty,Array.empty_append,List.map_toArray,List.append_toArray,aA4 hf,fM]
 exact this
end
end Go.Proofs.YtnklgkjfoggpbaaGreatDoor
