/- Parts of the proof of a law of this seat: rules and contracts; no conditions. -/
import Derived.Test.YtgajclaoaphgoaaGreatDoorCr
import Derived.Test.YtgajclaoaphgoaaGreatDoorMp
import Derived.Test.YtgajclaoaphgoaaGreatDoorWireP
import Derived.Test.YtgajclaoaphgoaaGreatDoorVa
import Derived.Test.YtgajclaoaphgoaaGreatDoorProg
import Derived.KernelRfl
import Derived.Test.YtgajclaoaphgoaaGreatDoorAlphaF
set_option maxHeartbeats 6400000
set_option maxRecDepth 100000
set_option linter.unusedVariables false
set_option linter.unusedSimpArgs false
namespace Go.Proofs.YtgajclaoaphgoaaGreatDoor
open Go.RowKit
theorem aLL (a:Nat)(ha:a<4294967296):(BitVec.ofInt 32 (a:Int)).toNat=a:=by
 rw [BitVec.ofInt_natCast,BitVec.toNat_ofNat];exact Nat.mod_eq_of_lt (by omega)
theorem aUK (a:Nat)(ha:a<256):(BitVec.ofInt 8 (a:Int)).toNat=a:=by
 rw [BitVec.ofInt_natCast,BitVec.toNat_ofNat];exact Nat.mod_eq_of_lt (by omega)
theorem aAZ (n:Int):IntKind.u32.wrap n=n%4294967296:=by simp [IntKind.wrap,IntKind.bits,IntKind.signed]
theorem aI6 (n:Int):IntKind.u8.wrap n=n%256:=by simp [IntKind.wrap,IntKind.bits,IntKind.signed]
theorem aUL (a b:Nat)(ha:a<4294967296)(hb:b<4294967296):IntKind.u32.wrap ((BitVec.ofInt 32 (a:Int) ^^^ BitVec.ofInt 32 (b:Int)).toNat:Int)=((a ^^^ b:Nat):Int):=by
 have hx:a ^^^ b<2^32:=Nat.xor_lt_two_pow (by omega) (by omega);rw [BitVec.toNat_xor,aLL a ha,aLL b hb,aAZ];omega
theorem ak8 (a b:Nat)(ha:a<256)(hb:b<256):IntKind.u8.wrap ((BitVec.ofInt 8 (a:Int) ^^^ BitVec.ofInt 8 (b:Int)).toNat:Int)=((a ^^^ b:Nat):Int):=by
 have hx:a ^^^ b<2^8:=Nat.xor_lt_two_pow (by omega) (by omega);rw [BitVec.toNat_xor,aUK a ha,aUK b hb,aI6];omega
theorem ak9 (a:Nat)(ha:a<4294967296):IntKind.u32.wrap ((BitVec.ofInt 32 (a:Int)&&& BitVec.ofInt 32 (1:Int)).toNat:Int)=((a%2:Nat):Int):=by
 rw [BitVec.toNat_and,aLL a ha,show (BitVec.ofInt 32 (1:Int)).toNat=1 from rfl,Nat.and_one_is_mod,aAZ];omega
def aLM (P:Program)(T:TypeId):Option (Nat × TypeId):=match P.underlying T with|some (.array n e)=>some (n,e)|_=>none
theorem atF {P:Program}{T e:TypeId}{n:Nat}(h:aLM P T=some (n,e)):P.underlying T=some (.array n e):=by
 unfold aLM at h;split at h
 ·rename_i h';injection h with h
  injection h with h1 h2
  subst h1 h2;exact h'
 cases h
abbrev vw (c:Nat):Av:=.val (.int .u32 (c:Int))
section
variable {P:Program}{o:Oper}{ρ:Operand→Av}{p q:Operand}{T T':TypeId}
theorem yF {a b:Nat}(ho:o.op=.binOp .xor T p q T')(hp:ρ p=.val (.int .u32 (a:Int)))(hq:ρ q=.val (.int .u32 (b:Int)))(ha:a<4294967296)(hb:b<4294967296):OC P o ρ [] (vw (a ^^^ b)) []:=
 (aDL (z:=.int .u32 (IntKind.u32.wrap ((BitVec.ofInt 32 (a:Int) ^^^ BitVec.ofInt 32 (b:Int)).toNat:Int))) ho hp hq (fun _=>rfl) (fun _=>rfl)).cast (by rw [aUL a b ha hb])
theorem aQZ {a b:Nat}(ho:o.op=.binOp .xor T p q T')(hp:ρ p=.val (.int .u8 (a:Int)))(hq:ρ q=.val (.int .u8 (b:Int)))(ha:a<256)(hb:b<256):OC P o ρ [] (.val (.int .u8 ((a ^^^ b:Nat):Int))) []:=
 (aDL (z:=.int .u8 (IntKind.u8.wrap ((BitVec.ofInt 8 (a:Int) ^^^ BitVec.ofInt 8 (b:Int)).toNat:Int))) ho hp hq (fun _=>rfl) (fun _=>rfl)).cast (by rw [ak8 a b ha hb])
theorem aeS {a:Nat}(ho:o.op=.binOp .and T p q T')(hp:ρ p=.val (.int .u32 (a:Int)))(hq:ρ q=.val (.int .u32 1))(ha:a<4294967296):OC P o ρ [] (vw (a%2)) []:=
 (aDL (z:=.int .u32 (IntKind.u32.wrap ((BitVec.ofInt 32 (a:Int)&&& BitVec.ofInt 32 (1:Int)).toNat:Int))) ho hp hq (fun _=>rfl) (fun _=>rfl)).cast (by rw [ak9 a ha])
theorem aJL {a k:Nat}{k':IntKind}(ho:o.op=.binOp .shr T p q T')(hp:ρ p=.val (.int .u32 (a:Int)))(hq:ρ q=.val (.int k' (k:Int)))(hk:k≤32):OC P o ρ [] (vw (a/2^k)) []:=
 (afW ho hp hq (by omega)).cast (by
  have h:min (k:Int).toNat (IntKind.bits .u32)=k:=by
   show min (k:Int).toNat 32=k;omega
  rw [h];have h2:(a:Int).fdiv (2^k)=((a/2^k:Nat):Int):=by
   rw [Int.fdiv_eq_ediv_of_nonneg _ (Int.le_of_lt (Int.pow_pos (by decide))),Int.natCast_ediv,Int.natCast_pow];rfl
  rw [h2])
theorem aRL {a:Nat}(ho:o.op=.unOp .xor T p)(hp:ρ p=.val (.int .u32 (a:Int)))(ha:a<4294967296):OC P o ρ [] (vw (a ^^^ 4294967295)) []:=bZ fun E c hG hr _=>by
 have h1:=hr p (by simp [ho,Op.operands]);rw [hp] at h1;unfold aA at h1;refine ⟨.int .u32 ((a ^^^ 4294967295:Nat):Int),?_,by unfold aA;rfl⟩;have h2:IntKind.u32.wrap ((BitVec.ofInt 32 (4294967295:Int) ^^^ BitVec.ofInt 32 (a:Int)).toNat:Int)=((a ^^^ 4294967295:Nat):Int):=by
  rw [Nat.xor_comm];exact aUL 4294967295 a (by decide) ha
 simp only [execOp,ho,h1,Sem.run_bind];have h3:(Op.unary .xor (.int .u32 (a:Int))).run P E.w=Result.ok (.int .u32 (IntKind.u32.wrap ((BitVec.ofInt 32 (4294967295:Int) ^^^ BitVec.ofInt 32 (a:Int)).toNat:Int))) E.w:=rfl;rw [h3,h2];rfl
theorem aRJ {e t:TypeId}{n off len by_ j:Nat}{zs:List Value}{cs:List Av}{kk:IntKind}(ho:o.op=.indexAddr T p q)(hp:ρ p=.own n off)(hq:ρ q=.val (.int kk ((j:Nat):Int)))(hT:aLM P T=some (len,e))(hi:lW P e=some (1,by_,zs))(hk:off<cs.length)(hj:j<len)(hl:1<len):OC P o ρ [(n,.live t cs)] (.own n (off+j)) []:=bZ fun E a hG hr hH=>by
 have h1:=hr p (by simp [ho,Op.operands]);have h0:=hr q (by simp [ho,Op.operands]);rw [hp] at h1;rw [hq] at h0;unfold aA at h0;obtain ⟨b,cur,h2,h3,h4,h5⟩:=pU h1 (hH n (.live t cs) (by simp)) hk;obtain ⟨i',z,i1,i2,i3,i4,i5⟩:=vK hi;have hu:=atF hT;refine ⟨.pointer (some ⟨b,off+j,none⟩),?_,?_⟩
 ·simp only [execOp,ho,h2,h0,Sem.run_bind];have hlt:(0:Int)≤(j:Int)∧(j:Int)<len:=⟨by omega,by omega⟩
  simp [Instr.indexAt,asIntOf,Sem.run_bind,run_underlying hu,Go.Instr.sureAddr,hlt,sizeOf,typeInfo,i1,i3,Addr.add];rw [if_pos hj];by_cases h:j=0
  ·rw [if_pos h,h];rfl
  rw [if_neg h]
 unfold aA;exact ⟨⟨by rw [h3];simp,_,rfl⟩,fun b' hb'=>by rw [h3] at hb';injection hb' with hb';rw [hb']⟩
end
def kK (k:Nat):List Nat:=(List.range 256).map fun j=>if j<k then iB 8 j else 0
theorem lD (k:Nat):(kK k).length=256:=by simp [kK]
theorem aRH:(List.replicate 256 (Value.int .u32 0)).map Av.val=(kK 0).map vw:=by
 have h:kK 0=List.replicate 256 0:=by rfl
 rw [h,List.map_replicate,List.map_replicate];rfl
theorem aeN {k:Nat}(hk:k<256):((kK k).map vw).set k (vw (iB 8 k))=(kK (k+1)).map vw:=by
 refine List.ext_getElem (by simp [lD]) fun i h1 h2=>?_;simp only [List.length_set,List.length_map,lD] at h1;rw [List.getElem_set];split
 ·rename_i h;subst h;simp [kK]
 rename_i h;simp only [kK,List.getElem_map,List.getElem_range];by_cases hi:i<k
 ·rw [if_pos hi,if_pos (by omega)]
 rw [if_neg hi,if_neg (by omega)]
theorem aeO {j:Nat}(hj:j<256):((kK 256).map vw)[j]?=some (vw (iB 8 j)):=by
 rw [List.getElem?_eq_getElem (by simp [lD];exact hj)];simp [kK,hj]
theorem aAY:∀ (n c:Nat),iB (n+1) c=lP (iB n c)
 | 0,c=>rfl
 | n+1,c=>aAY n (lP c)
theorem aeP (cs:List Av):nV cs 0 cs=cs:=by unfold nV;simp
theorem aeQ {cs ds:List Av}(h:cs.length=ds.length):nV cs 0 ds=ds:=by
 unfold nV;rw [List.take_zero,List.nil_append,Nat.zero_add,←h,List.drop_length,List.append_nil]
theorem aEG {s:Nat}(h:s<4294967296):s ^^^ 4294967295<4294967296:=Nat.xor_lt_two_pow (n:=32) h (by decide)
theorem aRI:∀ l:List Nat,bE (l.map vw)
 | []=>by unfold bE;trivial
 | x::l=>by unfold bE;exact ⟨by unfold aN;trivial,aRI l⟩
theorem aeR:PC Tryz.prog 153 [] (.agg ((kK 256).map vw)):=by
 refine FC.body 1 24 Tryz.func153 rfl (by kernel_rfl) ?_;refine sq ?_;refine aZ rfl rfl (aJG (zs:=List.replicate 256 (.int .u32 0)) (cs:=(kK 0).map vw) 0 rfl (by kernel_rfl) (by rfl) aRH.symm) ⟨rfl,trivial⟩ ?_;refine cn ?_;refine aD ?_;refine sq ?_;refine Z1 mo ?_;refine cn ?_;refine aU ?_;refine bM (ι:=Nat) (fun k=>⟨[(0,.own 0 0),(3,vi k)],[(0,.live 188 ((kK k).map vw))]⟩) (fun k=>k≤256) (fun k=>256-k) 0 (Nat.zero_le _) (Le.sub ⟨.inr rfl,.inr rfl,trivial⟩ ⟨rfl,trivial⟩) ?_;intro k hI;refine sq ?_;refine Z1 bz ?_;refine cn ?_;refine aD ?_
 refine cd (fun hb=>?_) fun hb=>?_
 ·have hk:k<256:=by have h0:=of_decide_eq_true hb;omega
  refine aQ ?_;refine aD ?_;refine aU ?_;refine sq ?_;refine Z1 mo ?_;refine Z1 aB ?_;refine cn ?_;refine sq ?_;refine Z1 mo ?_;refine Z1 (OC.cast (mH (k:=.i64) .u32 rfl rfl (by kernel_rfl) (by kernel_rfl)) (show Av.val (.int .u32 (IntKind.u32.wrap (k:Int)))=vw (iB 0 k) from by rw [aAZ];exact congrArg (fun z=>Av.val (.int .u32 z)) (by show ((k:Int)%4294967296)=(k:Int);omega))) ?_;refine Z1 aB ?_;refine cn ?_;refine aD ?_;refine sq ?_;refine Z1 mo ?_;refine cn ?_;refine aU ?_
  refine bM (ι:=Nat) (fun m=>⟨[(0,.own 0 0),(1,vi k),(2,vw (iB m k)),(3,vi k),(8,vi m)],[(0,.live 188 ((kK k).map vw))]⟩) (fun m=>m≤8) (fun m=>8-m) 0 (Nat.zero_le _) (Le.sub ⟨.inr rfl,.inr rfl,.inr rfl,.inr rfl,.inr rfl,trivial⟩ ⟨rfl,trivial⟩) ?_;intro m hI;refine sq ?_;refine Z1 bz ?_;refine cn ?_;refine aD ?_;refine cd (fun hb=>?_) fun hb=>?_
  ·have hm:m<8:=by have h0:=of_decide_eq_true hb;omega
   have hlt:=aA0 m (c:=k) (by omega);refine aQ ?_;refine aD ?_;refine aU ?_;refine sq ?_;refine Z1 mo ?_;refine Z1 (aeS rfl rfl rfl hlt) ?_;refine Z1 bz ?_;refine cn ?_;refine cd (fun hb=>?_) fun hb=>?_
   ·have h1:iB m k%2=1:=by have h0:=of_decide_eq_true hb;omega
    refine tx ?_;refine Z1 mo ?_;refine Z1 (aJL (k:=1) rfl rfl rfl (by omega)) ?_;refine Z1 (yF (b:=3988292384) rfl rfl rfl (by omega) (by omega)) ?_;refine Z1 aB ?_;refine cn ?_;refine tx ?_;refine Z1 ba ?_;refine Z1 mo ?_;refine cn ?_;exact ⟨m+1,by omega,by omega,Le.sub ⟨.inr rfl,.inr rfl,.inr (by rw [aAY];unfold lP;rw [if_pos h1];rfl),.inr rfl,.inr (aR (by omega)),trivial⟩ ⟨rfl,trivial⟩⟩
   have h1:¬ iB m k%2=1:=by have h0:=of_decide_eq_false hb;omega
   refine tx ?_;refine Z1 mo ?_;refine Z1 (aJL (k:=1) rfl rfl rfl (by omega)) ?_;refine Z1 aB ?_;refine cn ?_;refine tx ?_;refine Z1 ba ?_;refine Z1 mo ?_;refine cn ?_;exact ⟨m+1,by omega,by omega,Le.sub ⟨.inr rfl,.inr rfl,.inr (by rw [aAY];unfold lP;rw [if_neg h1];rfl),.inr rfl,.inr (aR (by omega)),trivial⟩ ⟨rfl,trivial⟩⟩
  have hm:m=8:=by have h0:=of_decide_eq_false hb;omega
  subst hm;refine bU ?_;refine tx ?_;refine Z1 mo ?_;refine Z1 mo ?_;refine eL (R:=[(_,.live _ _)]) rfl rfl (aRJ (off:=0) (len:=256) (e:=38) (by_:=4) (zs:=[.int .u32 0]) rfl rfl rfl (by kernel_rfl) (by kernel_rfl) (by rw [List.length_map,lD];decide) (by omega) (by decide)) ⟨rfl,trivial⟩ ?_;refine fP rfl rfl (lG (y:=vw (iB 8 k)) (cs':=(kK (k+1)).map vw) rfl rfl rfl (by kernel_rfl) (by kernel_rfl) oH (by rw [List.length_map,lD];omega) (by rw [Nat.zero_add];exact aeN hk)) ⟨rfl,trivial⟩ ?_;refine cn ?_;refine tx ?_;refine Z1 ba ?_;refine Z1 mo ?_;refine cn ?_
  exact ⟨k+1,by omega,by omega,Le.sub ⟨.inr rfl,.inr (aR (by omega)),trivial⟩ ⟨rfl,trivial⟩⟩
 have hk:k=256:=by have h0:=of_decide_eq_false hb;omega
 subst hk;refine bU ?_;refine sq ?_;refine eL (R:=[(_,.live _ _)]) rfl rfl (mA (k:=256) (ds:=(kK 256).map vw) rfl rfl (by kernel_rfl) (by kernel_rfl) (by rw [List.drop_zero,List.take_of_length_le (by rw [List.length_map,lD];decide)]) (by rw [List.length_map,lD]) (by decide)) ⟨rfl,trivial⟩ ?_;refine fP rfl rfl (sY (x:=.agg _) (cs':=(kK 256).map vw) rfl rfl rfl rfl (by rw [List.length_map,lD];kernel_rfl) (by rw [Nat.zero_add];exact Nat.le_refl _) (by rw [List.length_map,lD];decide) (aeP _)) ⟨rfl,trivial⟩ ?_;refine cn ?_;refine aP ?_
 exact ⟨.inl rfl,aF.cell rfl rfl rfl (by kernel_rfl) (by rw [List.length_map,lD];kernel_rfl) (by rw [List.length_map,lD];decide),trivial⟩
def dX (xs:List Int):List Nat:=xs.map Int.toNat
def dF (xs:List Int):Prop:=∀ j,0≤xs.getD j 0∧xs.getD j 0<256
theorem aEH (xs:List Int):(dX xs).length=xs.length:=List.length_map ..
theorem aRK (c:Nat)(xs:List Int){i:Nat}(hi:i<xs.length):jL c ((dX xs).take (i+1))=oW (jL c ((dX xs).take i)) (xs.getD i 0).toNat:=by
 have h:(dX xs).take (i+1)=(dX xs).take i++[(xs.getD i 0).toNat]:=by
  rw [List.take_succ_eq_append_getElem (by rw [aEH];exact hi)];simp [dX,List.getD,List.getElem?_eq_getElem hi]
 rw [h];simp [jL,List.foldl_append]
theorem aJM {xs:List Int}(h:dF xs)(i:Nat):(xs.getD i 0).toNat<256:=by have:=h i;omega
theorem aA1 {xs:List Int}(h:dF xs)(i:Nat):∀ x∈(dX xs).take i,x<256:=fun x hx=>by
 obtain ⟨z,hz,rfl⟩:=List.mem_map.1 (List.mem_of_mem_take hx);obtain ⟨j,hj,rfl⟩:=List.mem_iff_getElem.1 hz;have:=aJM h j;rwa [List.getD,List.getElem?_eq_getElem hj] at this
theorem aC7 {xs:List Int}(h:dF xs):∀ x∈dX xs,x<256:=fun x hx=>aA1 h (dX xs).length x (by rw [List.take_length];exact hx)
theorem aeT {xs:List Int}(h:dF xs)(i:Nat):bv xs i=.val (.int .u8 (((xs.getD i 0).toNat:Nat):Int)):=by
 have h1:=h i;rw [Int.toNat_of_nonneg h1.1];rfl
theorem aeU (s:Nat)(hs:s<4294967296)(xs:List Int)(hby:dF xs)(hl:xs.length≤1000000000000000):PC Tryz.prog 93 [vw s,bs xs] (vw (nH s (dX xs))):=by
 refine FB 1 30 Tryz.func93 ?_;refine G ?_;refine Z1 (jP rfl (by kernel_rfl) aeR rfl (by unfold bE;trivial) (by unfold aN;exact aRI _)) ?_;refine aZ rfl rfl (aJG (zs:=List.replicate 256 (.int .u32 0)) (cs:=(kK 0).map vw) 0 rfl (by kernel_rfl) (by rfl) aRH.symm) ⟨rfl,trivial⟩ ?_;refine fP rfl rfl (sY (x:=.agg _) (cs':=(kK 256).map vw) rfl rfl rfl rfl (by rw [List.length_map,lD];kernel_rfl) (by rw [List.length_map,List.length_map,lD,lD];decide) (by rw [List.length_map,lD];decide) (aeQ (by rw [List.length_map,List.length_map,lD,lD]))) ⟨rfl,trivial⟩ ?_;refine G ?_
 refine Z1 (aRL rfl rfl hs) ?_;refine G ?_;refine bM (ι:=Nat) (fun i=>⟨[(5,.own 0 0),(6,vw (jL (s ^^^ 4294967295) ((dX xs).take i))),(12,bs xs),(13,vi (xs.length:Int)),(14,vi i)],[(0,.live 188 ((kK 256).map vw))]⟩) (fun i=>i≤xs.length) (fun i=>xs.length-i) 0 (Nat.zero_le _) (Le.sub ⟨.inr rfl,.inr rfl,.inr rfl,.inr rfl,.inr rfl,trivial⟩ ⟨rfl,trivial⟩) ?_;intro i hI;refine Gd (fun hb=>?_) fun hb=>?_
 ·have hi:i<xs.length:=by have h0:=of_decide_eq_true hb;omega
  have hlt:=yG ((dX xs).take i) (aEG hs) (aA1 hby i);have hx:=aJM hby i;refine aQ ?_;refine aD ?_;refine aU ?_;refine sq ?_;refine Z1 ia ?_;refine Z1 ld ?_;refine Z1 aB ?_;refine cn ?_;refine tx ?_;refine Z1 mo ?_;refine Z1 (OC.cast (mH (k:=.u32) .u8 rfl rfl (by kernel_rfl) (by kernel_rfl)) (show Av.val (.int .u8 (IntKind.u8.wrap ((jL (s ^^^ 4294967295) ((dX xs).take i)):Int)))=.val (.int .u8 (((jL (s ^^^ 4294967295) ((dX xs).take i))%256:Nat):Int)) from by rw [aI6,Int.natCast_emod];rfl)) ?_;refine Z1 (OC.cast mo (aeT hby i)) ?_;refine Z1 (aQZ rfl rfl rfl (Nat.mod_lt _ (by decide)) hx) ?_
  refine eL (R:=[(_,.live _ _)]) rfl rfl (aRJ (off:=0) (len:=256) (e:=38) (by_:=4) (zs:=[.int .u32 0]) rfl rfl rfl (by kernel_rfl) (by kernel_rfl) (by rw [List.length_map,lD];decide) (Nat.xor_lt_two_pow (n:=8) (Nat.mod_lt _ (by decide)) hx) (by decide)) ⟨rfl,trivial⟩ ?_;refine eL (R:=[(_,.live _ _)]) rfl rfl (fL (y:=vw (iB 8 ((jL (s ^^^ 4294967295) ((dX xs).take i))%256 ^^^ (xs.getD i 0).toNat))) rfl rfl (by kernel_rfl) (by rw [Nat.zero_add];exact aeO (Nat.xor_lt_two_pow (n:=8) (Nat.mod_lt _ (by decide)) hx))) ⟨rfl,trivial⟩ ?_;refine Z1 mo ?_
  refine Z1 (aJL (k:=8) rfl rfl rfl (by omega)) ?_;refine Z1 (yF rfl rfl rfl (aA0 8 (Nat.lt_trans (Nat.xor_lt_two_pow (n:=8) (Nat.mod_lt _ (by decide)) hx) (by decide))) (Nat.lt_of_le_of_lt (Nat.div_le_self ..) hlt)) ?_;refine Z1 aB ?_;refine cn ?_;refine tx ?_;refine Z1 ba ?_;refine Z1 mo ?_;refine cn ?_;exact ⟨i+1,by omega,by omega,Le.sub ⟨.inr rfl,.inr (by rw [aRK _ _ hi,←aeV hx];rfl),.inr rfl,.inr rfl,.inr (aR (by omega)),trivial⟩ ⟨rfl,trivial⟩⟩
 have hi:i=xs.length:=by have h0:=of_decide_eq_false hb;omega
 subst hi;have hlt:=yG ((dX xs).take xs.length) (aEG hs) (aA1 hby xs.length);refine G ?_;refine Z1 (aRL rfl rfl hlt) ?_;refine G ?_;exact Rx rfl (by show vw _=vw _;rw [List.take_of_length_le (by rw [aEH];exact Nat.le_refl _)];rfl)
theorem aHN (xs:List Int)(hby:dF xs)(hl:xs.length≤1000000000000000):PC Tryz.prog 36 [bs xs] (vw (nH 0 (dX xs))):=by
 refine FB 1 5 Tryz.func36 ?_;refine C (aeU 0 (by decide) xs hby hl) ?_;exact Rx rfl rfl
theorem aPE (zs:List Int)(m:Int)(h1:zs.length≤100000000):PC Tryz.prog 21 [bs zs,vi m] (bs (zs++cQ m)):=aA2 (e:=5) fun A c w k1 k2=>aeW A _ c zs m w k1 rfl (by omega)
theorem aaU (zs:List Int)(m:Int)(h1:zs.length≤100000000)(hm:m≤9223372036854775807):PC Tryz.prog 69 [bs zs,vi m] (bs (zs++aC m)):=aA2 (e:=5) fun A c w k1 k2=>aJO A _ c zs m w k1 rfl h1 hm
theorem aaV (zs:List Int)(s:ByteArray)(h1:zs.length≤100000000)(hs:s.size≤100000000):PC Tryz.prog 72 [bs zs,vs s] (bs (zs++aY s)):=aA2 (e:=5) fun A c w k1 k2=>aeX A _ c zs s w k1 rfl h1 hs
theorem aaW (zs ls:List Int)(h1:zs.length≤100000000)(h2:ls.length≤100000000):PC Tryz.prog 73 [bs zs,aK ls] (bs (zs++cZ ls)):=aeY (e:=5) fun A c L d w k1 k2 k3 k4=>aeZ A L _ c _ d zs ls w k1 rfl h1 k3 rfl h2
theorem aZ0 (zs:List Int)(m:Nat)(h1:zs.length≤100000000)(hm:m<4294967296):PC Tryz.prog 81 [bs zs,vw m] (bs (zs++kX (m:Int))):=aA2 (e:=5) fun A c w k1 k2=>ae0 A _ c zs m w k1 rfl (by omega) (by omega) (by omega)
def rB (xs:List Int)(s:Int × Int):Int × (Int × Int):=(gI (eX xs s.1 s.2 1).1,(eX xs s.1 s.2 1).2)
def rS (xs:List Int)(most:Int)(s:Int × Int):Int × (Int × Int):=bY xs s.1 s.2 most
noncomputable def rT (xs:List Int)(most:Int)(s:Int × Int):ByteArray × (Int × Int):=(strOfNums (cU xs s.1 s.2 most 1).1,(cU xs s.1 s.2 most 1).2)
def rI (xs:List Int)(most:Int)(s:Int × Int):List Int × (Int × Int):=(kL (cU xs s.1 s.2 most 2).1,(cU xs s.1 s.2 most 2).2)
theorem ae1 (xs:List Int)(s:Int × Int)(hl:xs.length≤1000000)(hb:cI xs):PC Tryz.prog 226 [jV xs s] (.tup [vi (rB xs s).1,jV xs (rB xs s).2]):=as4 xs s hl hb
theorem ae4 (xs:List Int)(most:Int)(s:Int × Int)(hl:xs.length≤1000000)(hb:cI xs):PC Tryz.prog 219 [jV xs s,vi most] (.tup [vi (rS xs most s).1,jV xs (rS xs most s).2]):=apK xs most s hl hb
theorem ae5 (xs:List Int)(most:Int)(s:Int × Int)(hl:xs.length≤1000000)(hb:cI xs):PC Tryz.prog 220 [jV xs s,vi most] (.tup [vs (rT xs most s).1,jV xs (rT xs most s).2]):=as5 xs most s hl hb
theorem ae7 (xs:List Int)(most:Int)(s:Int × Int)(hl:xs.length≤1000000)(hb:cI xs):PC Tryz.prog 161 [jV xs s,vi most] (.tup [aK (rI xs most s).1,jV xs (rI xs most s).2]):=as6 xs most s hl hb
theorem afA (xs:List Int)(s:Int × Int):PC Tryz.prog 40 [jV xs s] (vi (tC xs.length s.1 s.2)):=as7 xs s
theorem jN.bd {l:List Int}(h:jN l)(i:Nat):0≤l.getD i 0∧l.getD i 0≤1:=by have:=h.getD i;omega
theorem aWT (l:List Int)(h:jN l)(q r:Nat)(hr:r<8):iF l q/2^(7-r)%2=l.getD (8*q+r) 0:=by
 have g0:=h.bd (8*q);have g1:=h.bd (8*q+1);have g2:=h.bd (8*q+2);have g3:=h.bd (8*q+3);have g4:=h.bd (8*q+4);have g5:=h.bd (8*q+5);have g6:=h.bd (8*q+6);have g7:=h.bd (8*q+7)
 unfold iF
 match r,hr with
 | 0,_=>simp only [Nat.add_zero];omega
 | 1,_=>simp only [show (7-1:Nat)=6 from rfl];omega
 | 2,_=>simp only [show (7-2:Nat)=5 from rfl];omega
 | 3,_=>simp only [show (7-3:Nat)=4 from rfl];omega
 | 4,_=>simp only [show (7-4:Nat)=3 from rfl];omega
 | 5,_=>simp only [show (7-5:Nat)=2 from rfl];omega
 | 6,_=>simp only [show (7-6:Nat)=1 from rfl];omega
 | 7,_=>simp only [show (7-7:Nat)=0 from rfl];omega
theorem aWU (l:List Int)(h:jN l)(q:Nat):0≤iF l q∧iF l q<256:=by
 have g0:=h.bd (8*q);have g1:=h.bd (8*q+1);have g2:=h.bd (8*q+2);have g3:=h.bd (8*q+3);have g4:=h.bd (8*q+4);have g5:=h.bd (8*q+5);have g6:=h.bd (8*q+6);have g7:=h.bd (8*q+7)
 unfold iF;omega
theorem aWV (l:List Int)(h:jN l):dC (kT l):=by
 intro x hx;obtain ⟨q,_,rfl⟩:=List.mem_map.1 hx;exact aWU l h q
theorem aF9 (l:List Int)(h:jN l)(i:Nat):jD (kT l) i=l.getD i 0:=by
 unfold jD;by_cases hi:i/8<(kT l).length
 ·simp only [List.getD,List.getElem?_eq_getElem hi,Option.getD_some];rw [zC,aWT l h _ _ (Nat.mod_lt _ (by omega)),show 8*(i/8)+i%8=i from by omega];rfl
 rw [sG] at hi;rw [lV (kT l) _ (by rw [sG];omega),lV l i (by omega)];simp
theorem aWW (n:Int)(h0:0≤n)(h1:n<32):(fJ n).getD 0 0*16+(fJ n).getD 1 0*8+(fJ n).getD 2 0*4+(fJ n).getD 3 0*2+(fJ n).getD 4 0=n:=by
 simp [fJ];omega
theorem aWX (a:Int)(l:List Int):lF (a::l)=fJ (a%32)++lF l:=by simp [lF]
theorem xE (l m:List Int)(i:Nat)(h:l.length≤i):(l++m).getD i 0=m.getD (i-l.length) 0:=by
 simp [List.getD,List.getElem?_append_right h]
theorem aWY (l m:List Int)(j t:Nat)(hj:j<l.length)(ht:t<5):(lF l++m).getD (5*j+t) 0=(fJ (l[j]%32)).getD t 0:=by
 induction l generalizing j with
 | nil=>simp at hj
 | cons a l ih=>
  rw [aWX,List.append_assoc]
  match j,hj with
  | 0,_=>rw [rC _ _ _ (by simp [fJ];omega)];simp
  | j+1,hj=>
   rw [xE _ _ _ (by simp [fJ];omega)];have:=ih j (by simpa using hj);simp only [List.getElem_cons_succ];rw [←this];congr 1;simp [fJ];omega
def sI (l:List Int):List Int:=lF l++fJ 31
theorem aB1 (l:List Int):jN (sI l):=(aVX l).append (aL5 31)
theorem aMK (l:List Int):(sI l).length=5*l.length+5:=by
 rw [sI,List.length_append,aF0];rfl
theorem aML (l:List Int):(fW l).length=(5*l.length+12)/8:=by
 have:=aMK l;rw [fW,sG];unfold sI at this;omega
theorem aMM (l:List Int):dC (fW l):=aWV _ (aB1 l)
theorem aMN (l:List Int)(j:Nat)(hj:j<l.length):jE (fW l) (5*j)=l[j]%32:=by
 have hp:∀ i,jD (fW l) i=(sI l).getD i 0:=aF9 _ (aB1 l);unfold jE;simp only [hp];have e:=fun t ht=>aWY l (fJ 31) j t hj ht;have e0:=e 0 (by omega);have e1:=e 1 (by omega);have e2:=e 2 (by omega);have e3:=e 3 (by omega);have e4:=e 4 (by omega)
 rw [Nat.add_zero] at e0;unfold sI;rw [e0,e1,e2,e3,e4];have:=aWW (l[j]%32) (by omega) (by omega);omega
theorem aWZ (l:List Int):jE (fW l) (5*l.length)=31:=by
 have hp:∀ i,jD (fW l) i=(sI l).getD i 0:=aF9 _ (aB1 l);unfold jE;simp only [hp];unfold sI;have hl:=aF0 l;rw [xE _ _ _ (by omega),xE _ _ _ (by omega),xE _ _ _ (by omega),xE _ _ _ (by omega),xE _ _ _ (by omega),hl];simp only [Nat.sub_self,show 5*l.length+1-5*l.length=1 from by omega,show 5*l.length+2-5*l.length=2 from by omega,show 5*l.length+3-5*l.length=3 from by omega,show 5*l.length+4-5*l.length=4 from by omega];decide
theorem aW0 (x:Int)(h0:0≤x)(h1:x<256)(s:Nat)(hs:s≤8):x*2^s%256=0↔∀ j,s≤j→j<8→x/2^(7-j)%2=0:=by
 have key:∀ (y:Fin 256) (s:Fin 9),(y.val:Int)*2^s.val%256=0↔∀ j:Fin 8,s.val≤j.val→(y.val:Int)/2^(7-j.val)%2=0:=by decide +kernel
 have:=key ⟨x.toNat,by omega⟩ ⟨s,by omega⟩;simp only [Int.toNat_of_nonneg h0] at this;rw [this];exact ⟨fun h j h1 h2=>h ⟨j,h2⟩ h1,fun h j h1=>h j.val h1 j.2⟩
theorem aW1 (bs:List Int)(hb:dC bs)(t:Nat)(ht:0<t)(hl:t≤8*bs.length)(out:List Int):
 (bs.length=(t-1)/8+1∧(∀ j,t≤j→jD bs j=0)→sF bs t out=(out,0))∧((sF bs t out).2=0→bs.length=(t-1)/8+1∧(∀ j,t≤j→jD bs j=0)∧(sF bs t out).1=out):=by
 have hq:(t-1)/8<bs.length:=by omega
 have hx:=hb.get hq;have hg:bs.getD ((t-1)/8) 0=bs[(t-1)/8]:=by simp only [List.getD,List.getElem?_eq_getElem hq,Option.getD_some]
 have htb:=aW0 _ hx.1 hx.2 (t-8*((t-1)/8)) (by omega);have key:bs.length=(t-1)/8+1→((∀ j,t≤j→jD bs j=0)↔bs[(t-1)/8]*2^(t-8*((t-1)/8))%256=0):=by
  intro hL;rw [htb];constructor
  ·intro h j h1 h2;have:=h (8*((t-1)/8)+j) (by omega);unfold jD at this;rw [show (8*((t-1)/8)+j)/8=(t-1)/8 by omega,show (8*((t-1)/8)+j)%8=j by omega,hg] at this;exact this
  intro h j h1;by_cases h3:j<8*bs.length
  ·have:=h (j-8*((t-1)/8)) (by omega) (by omega);unfold jD;rw [show j/8=(t-1)/8 by omega,show j%8=j-8*((t-1)/8) by omega,hg];exact this
  unfold jD;rw [lV bs _ (by omega)];simp
 unfold sF;rw [hg];constructor
 ·rintro ⟨hL,h0⟩;rw [if_neg (by omega),if_neg (by simpa using (key hL).1 h0)]
 intro he;by_cases c1:(t-1)/8+1<bs.length
 ·rw [if_pos c1] at he;simp at he
 rw [if_neg c1] at he ⊢;have hL:bs.length=(t-1)/8+1:=by omega
 by_cases c2:bs[(t-1)/8]*2^(t-8*((t-1)/8))%256=0
 ·rw [if_neg (by simpa using c2)] at he ⊢;exact ⟨hL,(key hL).2 c2,rfl⟩
 rw [if_pos c2] at he;simp at he
theorem aW2 (l:List Int)(h:∀ x∈l,0≤x∧x<31):gD (fW l)=(l,0):=by
 have hl:=aML l;have hf:(List.range (8*(fW l).length/5)).find? (fun j=>jE (fW l) (5*j)==31)=some l.length:=by
  rw [List.find?_range_eq_some];refine ⟨by simpa using aWZ l,List.mem_range.2 (by omega),fun j hj=>?_⟩;have h1:=h l[j] (List.getElem_mem hj);rw [aMN l j hj];simp;omega
 unfold gD;rw [hf];have ho:lU (fW l) l.length=l:=by
  refine List.ext_getElem (by simp [lU]) fun j h1 h2=>?_;have h3:=h l[j] (List.getElem_mem h2);simp only [lU,List.getElem_map,List.getElem_range];rw [aMN l j h2];omega
 simp only [ho];refine (aW1 (fW l) (aMM l) (5*l.length+5) (by omega) (by omega) l).1 ⟨by omega,fun j hj=>?_⟩;have hp:jD (fW l) j=(sI l).getD j 0:=aF9 _ (aB1 l) j;rw [hp,lV _ _ (by rw [aMK];omega)]
def gX (a b c:Int):Int × Nat:=
 if a=0 then (32,1) else if 1≤a∧a≤26 then (96+a,1) else if a=27∧1≤b∧b≤26 then (64+b,2) else
 if a=28∧0≤b∧b≤30 then (nA.getD b.toNat 0,2) else if a=29∧(0≤b∧b≤7)∧0≤c∧c≤15 then (16*b+c,3) else (0,0)
def gL (l:List Int):Int × Nat:=gX (l.getD 0 (-1)) (l.getD 1 (-1)) (l.getD 2 (-1))
theorem aW3 (c:Int)(k:Nat)(h:oC c=some k):k<31∧nA.getD k 0=c:=by
 unfold oC at h;rw [List.idxOf?_eq_some_iff] at h;obtain ⟨hk,he,_⟩:=h;refine ⟨hk,?_⟩;simp only [List.getD,List.getElem?_eq_getElem hk,Option.getD_some];simpa using he
theorem tQ (c:Int)(rest:List Int)(h:eZ c=true):gL (cS c++rest)=(c,(cS c).length):=by
 have hc:32≤c∧c≤126∨c=10:=by simpa [eZ] using h
 by_cases c0:c=32
 ·subst c0;rfl
 by_cases c1:97≤c∧c≤122
 ·rw [aMO c c1.1 c1.2];simp only [gL,gX,List.cons_append,List.getD_cons_zero,List.length_cons,List.length_nil];rw [if_neg (by omega),if_pos (by omega)];congr 1;omega
 by_cases c2:65≤c∧c≤90
 ·rw [aMP c c2.1 c2.2];simp only [gL,gX,List.cons_append,List.getD_cons_zero,List.getD_cons_succ,List.length_cons,List.length_nil];rw [if_neg (by omega),if_neg (by omega),if_pos (by refine ⟨by first|trivial|rfl,?_,?_⟩<;>omega)];congr 1;omega
 cases hs:oC c with
 | some k=>
  obtain ⟨hk,hg⟩:=aW3 c k hs;rw [aMQ c c0 c1 c2 k hs];simp only [gL,gX,List.cons_append,List.getD_cons_zero,List.getD_cons_succ,List.length_cons,List.length_nil];rw [if_neg (by omega),if_neg (by omega),if_neg (fun h=>absurd h.1 (by decide)),if_pos (by refine ⟨by first|trivial|rfl,?_,?_⟩<;>omega),Int.toNat_natCast,hg]
 | none=>
  have h10:c≠10:=by rintro rfl;revert hs;decide
  rw [aMR c c0 c1 c2 hs (by omega)];simp only [gL,gX,List.cons_append,List.getD_cons_zero,List.getD_cons_succ,List.length_cons,List.length_nil];rw [if_neg (by omega),if_neg (by omega),if_neg (fun h=>absurd h.1 (by decide)),if_neg (fun h=>absurd h.1 (by decide)),if_pos (by refine ⟨by first|trivial|rfl,?_,?_⟩<;>omega)];congr 1;omega
theorem rF (c:Int)(h:eZ c=true):0<(cS c).length:=by
 rcases Nat.eq_zero_or_pos (cS c).length with h0|h0
 ·have h1:=tQ c [] h;rw [List.eq_nil_of_length_eq_zero h0] at h1;have:c=0:=by
   have:=congrArg Prod.fst h1;simpa [gL,gX] using this.symm
  subst this
  revert h;decide
 exact h0
theorem aMS (l m:List Int)(hl:∀ c∈l,eZ c=true)(hm:∀ c∈m,eZ c=true)(h:bC l=bC m):l=m:=by
 induction l generalizing m with
 | nil=>
  cases m with
  | nil=>rfl
  | cons b m=>
   have:=rF b (hm b List.mem_cons_self);have e:=congrArg List.length h;simp only [bC,List.flatMap_nil,List.flatMap_cons,List.length_append,List.length_nil] at e;omega
 | cons a l ih=>
  cases m with
  | nil=>
   have:=rF a (hl a List.mem_cons_self);have e:=congrArg List.length h;simp only [bC,List.flatMap_nil,List.flatMap_cons,List.length_append,List.length_nil] at e;omega
  | cons b m=>
   have h':cS a++bC l=cS b++bC m:=h;have e1:=tQ a (bC l) (hl a List.mem_cons_self);have e2:=tQ b (bC m) (hm b List.mem_cons_self);rw [h',e2] at e1;obtain rfl:b=a:=congrArg Prod.fst e1;rw [ih m (fun c hc=>hl c (List.mem_cons_of_mem _ hc)) (fun c hc=>hm c (List.mem_cons_of_mem _ hc)) (List.append_cancel_left h')]
set_option maxHeartbeats 6400000
def amZ (n lo hi:Int):Bool:=decide (lo≤n∧n≤hi)
theorem nO (n lo hi:Int):PC Tryz.prog 308 [vi n,vi lo,vi hi] (vb (amZ n lo hi)):=by
 refine FB 0 15 Tryz.func308 ?_;refine G ?_;exact RB (h:=by unfold amZ;by_cases h1:lo≤n<;>simp [h1])
theorem anH (l:List Int)(i:Nat):PC Tryz.prog 307 [vi (i:Int),.ptr (aK l)] (vi (l.getD i (-1))):=by
 refine FB 0 12 Tryz.func307 ?_;refine Gd (fun hb=>?_) fun hb=>?_
 ·have hi:i<l.length:=by have:=of_decide_eq_true hb;omega
  refine G ?_;exact RI (h:=by simp [List.getD,List.getElem?_eq_getElem hi])
 have hi:¬ i<l.length:=by have:=of_decide_eq_false hb;omega
 refine G ?_;exact RI (h:=by simp [List.getD,List.getElem?_eq_none (Nat.le_of_not_lt hi)])
section
variable {o:Oper}{ρ:Operand→Av}{g:Operand}{args:List Operand}{tys:Array TypeId}
theorem zA {l:List Int}(i:Nat)(ho:o.op=.call { callee:=.value g,args:=args.toArray,argTypes:=tys }:=by rfl)(hg:ρ g=.clo 307 [.ptr (aK l)]:=by rfl)(hxs:args.map ρ=[vi (i:Int)]:=by rfl):OC Tryz.prog o ρ [] (vi (l.getD i (-1))) []:=kW (caps:=[.ptr (aK l)]) ho hg (by kernel_rfl) (anH l i) (by rw [hxs];rfl) PuL.out Pu.out
theorem zM {n lo hi:Int}(ho:o.op=.call { callee:=.value (.func 308),args:=args.toArray,argTypes:=tys }:=by rfl)(hxs:args.map ρ=[vi n,vi lo,vi hi]:=by rfl):OC Tryz.prog o ρ [] (vb (amZ n lo hi)) []:=ca (nO n lo hi) ho (hxs:=hxs)
end
theorem GA {G' R:Prop}(h:R)(w:Bx R→G':=by
 intro h;refine G ?_
 repeat (
  first|refine Z1 zM ?_|refine Z4 (fun hC=>zM) ?_
  refine G ?_)
 exact h.out):G':=w ⟨h⟩
theorem anT {y:Int}(h0:0≤y)(h1:y≤30):(tB (⟨#[48,49,50,51,52,53,54,55,56,57,46,44,33,63,39,34,45,58,59,40,41,47,38,42,43,61,37,35,36,10,60]⟩:ByteArray)).getD y.toNat 0=nA.getD y.toNat 0:=by
 have:tB (⟨#[48,49,50,51,52,53,54,55,56,57,46,44,33,63,39,34,45,58,59,40,41,47,38,42,43,61,37,35,36,10,60]⟩:ByteArray)=nA:=by decide
 rw [this]
theorem anU (l:List Int):PC Tryz.prog 300 [aK l] (.tup [.val (.int .u8 (gL l).1),vi ((gL l).2:Int)]):=by
 refine FB 0 60 Tryz.func300 ?_;refine sq ?_;refine Z1 (aCA (x:=.sl _ _ _) rfl rfl) ?_;refine G ?_;refine Z1 (qC (cs:=[.ptr _]) rfl rfl) ?_;refine G ?_;refine Z1 (zA 0) ?_;refine G ?_;refine Z1 (zA 1) ?_;rw [show gL l=gX (l.getD 0 (-1)) (l.getD 1 (-1)) (l.getD 2 (-1)) from rfl];generalize l.getD 0 (-1)=x;generalize l.getD 1 (-1)=y;unfold gX;refine Gd (fun h0=>?_) fun h0=>?_
 ·rw [if_pos (by simpa using h0)];refine G ?_;exact R2
 rw [if_neg (by simpa using h0)];refine GA ?_;refine cd (fun h1=>?_) fun h1=>?_
 ·have h1:=of_decide_eq_true h1;rw [if_pos h1];refine G ?_;exact R2 rfl (aT.tmp (show Av.val (.int .u8 (IntKind.u8.wrap (97+x-1)))=_ from by rw [aI6,show (97+x-1)%256=96+x from by omega]))
 have h1:=of_decide_eq_false h1;rw [if_neg h1];refine GA ?_;refine cd (fun h2=>?_) fun h2=>?_
 ·have h2:x=27∧1≤y∧y≤26:=by simpa [amZ] using h2
  rw [if_pos h2];refine G ?_;exact R2 rfl (aT.tmp (show Av.val (.int .u8 (IntKind.u8.wrap (65+y-1)))=_ from by rw [aI6,show (65+y-1)%256=64+y from by omega]))
 rw [if_neg (show ¬ (x=27∧1≤y∧y≤26) from by simpa [amZ] using h2)];refine GA ?_;refine cd (fun h3=>?_) fun h3=>?_
 ·have h3:x=28∧0≤y∧y≤30:=by simpa [amZ] using h3
  rw [if_pos h3];refine G ?_;refine Z1 (aGH rfl rfl rfl rfl h3.2.1 (by show y<31;omega) (anT h3.2.1 h3.2.2)) ?_;refine G ?_;exact R2
 rw [if_neg (show ¬ (x=28∧0≤y∧y≤30) from by simpa [amZ] using h3)];refine GA ?_;refine Z4 (fun hC=>zA 2) ?_;generalize hz:l.getD 2 (-1)=z;refine GA ?_;refine cd (fun h4=>?_) fun h4=>?_
 ·have h4:x=29∧(0≤y∧y≤7)∧0≤z∧z≤15:=by simpa [amZ,and_assoc] using h4
  rw [if_pos h4];refine G ?_;refine Z1 (zA 2) ?_;rw [hz];refine G ?_;exact R2 rfl (aT.tmp (show Av.val (.int .u8 (IntKind.u8.wrap (16*y+z)))=_ from by rw [aI6,show (16*y+z)%256=16*y+z from by omega]))
 rw [if_neg (show ¬ (x=29∧(0≤y∧y≤7)∧0≤z∧z≤15) from by simpa [amZ,and_assoc] using h4)];refine G ?_;exact R2
def aKJ (l t:List Int):Prop:=cN t=true∧bC t=l
open Classical in
noncomputable def aText (l:List Int):List Int × Int:=if h:∃ t,aKJ l t then (Classical.choose h,0) else ([],16)
theorem pA {l:List Int}(h:cN l=true):∀ c∈l,eZ c=true:=by
 simp only [cN,Bool.and_eq_true,List.all_eq_true] at h;exact h.2
theorem ad0 {l t:List Int}(h:cN t=true)(h':bC t=l):aText l=(t,0):=by
 have hex:∃ t,aKJ l t:=⟨t,h,h'⟩
 have hc:=Classical.choose_spec hex;have:=aMS _ _ (pA hc.1) (pA h) (hc.2.trans h'.symm);unfold aText;rw [dif_pos hex,this]
theorem aE0 {l:List Int}(h:∀ t,cN t=true→bC t≠l):aText l=([],16):=by
 unfold aText;rw [dif_neg];rintro ⟨t,h1,h2⟩;exact h t h1 h2
theorem aSP (l:List Int):(∃ t,cN t=true∧bC t=l∧aText l=(t,0))∨aText l=([],16):=by
 by_cases h:∃ t,aKJ l t
 ·obtain ⟨t,h1,h2⟩:=h;exact .inl ⟨t,h1,h2,ad0 h1 h2⟩
 exact .inr (by unfold aText;rw [dif_neg h])
theorem ag8 {l:List Int}(h:∀ c∈l,eZ c=true):dC l:=fun c hc=>by
 have:=h c hc;simp [eZ] at this;omega
def qR (l t0 rest:List Int):Prop:=∀ t,(∀ c∈t,eZ c=true)→bC t=l→∃ t',t=t0++t'∧rest=bC t'
theorem qR.start (l:List Int):qR l [] l:=fun t _ h=>⟨t,rfl,h.symm⟩
theorem ag9 (l:List Int)(hl:0<l.length):(gL l).2≤l.length∧0≤(gL l).1∧(gL l).1<256:=by
 have g:∀ k,0≤l.getD k (-1)→k<l.length:=by
  intro k hk;rcases Nat.lt_or_ge k l.length with h|h
  ·exact h
  simp [List.getD,List.getElem?_eq_none h] at hk
 have g1:=g 1;have g2:=g 2
 unfold gL gX;generalize l.getD 0 (-1)=x at *;generalize l.getD 1 (-1)=y at *;generalize l.getD 2 (-1)=z at *;split
 ·simp;omega
 split
 ·simp;omega
 split
 ·simp;omega
 split
 ·rename_i h;have hs:∀ r:Fin 31,0≤nA.getD r.val 0∧nA.getD r.val 0<256:=by decide
  have:=hs ⟨y.toNat,by omega⟩;simp only at this ⊢;omega
 split
 ·simp;omega
 simp
theorem qR.stop {l t0 rest:List Int}(h:qR l t0 rest)(hr:0<rest.length)(h0:(gL rest).2=0):aText l=([],16):=by
 refine aE0 fun t h1 h2=>?_;obtain ⟨t',rfl,rfl⟩:=h t (pA h1) h2;cases t' with
 | nil=>simp [bC] at hr
 | cons c t'=>
  have hc:=pA h1 c (by simp);have:=tQ c (bC t') hc;have e:bC (c::t')=cS c++bC t':=rfl;rw [e,this] at h0;have:=rF c hc;simp only at h0;omega
theorem qR.step {l t0 rest:List Int}(h:qR l t0 rest)(hr:0<rest.length):qR l (t0++[(gL rest).1]) (rest.drop (gL rest).2):=by
 intro t h1 h2;obtain ⟨t',rfl,rfl⟩:=h t h1 h2;cases t' with
 | nil=>simp [bC] at hr
 | cons c t'=>
  have hc:=h1 c (by simp);have:=tQ c (bC t') hc;have e:bC (c::t')=cS c++bC t':=rfl;rw [e,this];exact ⟨t',by simp,by simp⟩
theorem qR.done {l t0:List Int}(h:qR l t0 []):(cN t0=true∧bC t0=l→aText l=(t0,0))∧(¬ (cN t0=true∧bC t0=l)→aText l=([],16)):=by
 refine ⟨fun ⟨h1,h2⟩=>ad0 h1 h2,fun hn=>aE0 fun t h1 h2=>?_⟩;obtain ⟨t',rfl,ht⟩:=h t (pA h1) h2;cases t' with
 | nil=>rw [List.append_nil] at h1 h2;exact hn ⟨h1,h2⟩
 | cons c t'=>
  have:=rF c (pA h1 c (by simp));have e:=congrArg List.length ht;have e2:bC (c::t')=cS c++bC t':=rfl;rw [e2,List.length_append] at e;simp at e;omega
def aBG (l cs:List Int):Bool:=l.take cs.length==cs
theorem aKK (l cs:List Int):aBG l cs=true↔∃ r,l=cs++r:=by
 unfold aBG;rw [beq_iff_eq];constructor
 ·intro h;exact ⟨l.drop cs.length,by conv=>lhs;rw [←List.take_append_drop cs.length l,h]⟩
 rintro ⟨r,rfl⟩;simp
def nx (l:List Int):Int:=if eZ (gL l).1&&aBG l (cS (gL l).1)&&decide (0<(gL l).2) then (gL l).1 else -1
theorem aSQ {l:List Int}{c:Int}(hc:eZ c=true):aBG l (cS c)=true↔nx l=c:=by
 constructor
 ·intro h;obtain ⟨r,rfl⟩:=(aKK _ _).1 h;have h1:=tQ c r hc;have h2:=rF c hc;unfold nx;rw [h1];simp only [hc,h,Bool.true_and,decide_eq_true_eq,h2,if_true]
 intro h;unfold nx at h;split at h
 ·rename_i h1;rw [h] at h1;simp only [Bool.and_eq_true] at h1;exact h1.1.2
 rw [←h] at hc;exact absurd hc (by decide)
def tF (l t0:List Int)(j:Nat):Prop:=(∀ c∈t0,eZ c=true)∧bC t0=l.take j∧j≤l.length
theorem ahA (t0 t r:List Int)(h0:∀ c∈t0,eZ c=true)(h:∀ c∈t,eZ c=true)(he:bC t=bC t0++r):∃ t',t=t0++t'∧r=bC t':=by
 induction t0 generalizing t with
 | nil=>exact ⟨t,rfl,by simpa [bC] using he.symm⟩
 | cons a t0 ih=>
  have ha:=h0 a List.mem_cons_self;have e0:bC (a::t0)=cS a++bC t0:=rfl;rw [e0,List.append_assoc] at he;cases t with
  | nil=>
   have:=rF a ha;have e:=congrArg List.length he;simp only [bC,List.flatMap_nil,List.length_nil,List.length_append] at e;omega
  | cons b t=>
   have hb:=h b List.mem_cons_self;have e1:bC (b::t)=cS b++bC t:=rfl;rw [e1] at he;have f1:=tQ b (bC t) hb;have f2:=tQ a (bC t0++r) ha;rw [he,f2] at f1;obtain rfl:a=b:=congrArg Prod.fst f1;obtain ⟨t',rfl,hr⟩:=ih t (fun c hc=>h0 c (List.mem_cons_of_mem _ hc)) (fun c hc=>h c (List.mem_cons_of_mem _ hc)) (List.append_cancel_left he);exact ⟨t',rfl,hr⟩
theorem tF.start (l:List Int):tF l [] 0:=⟨(fun c hc=>by cases hc),by simp [bC],by omega⟩
theorem tF.stop {l t0:List Int}{j:Nat}(h:tF l t0 j)(hj:j<l.length)(hn:nx (l.drop j)=-1):aText l=([],16):=by
 refine aE0 fun t h1 h2=>?_;have h3:bC t=bC t0++l.drop j:=by rw [h.2.1,List.take_append_drop,h2]
 obtain ⟨t',rfl,hr⟩:=ahA t0 t _ h.1 (pA h1) h3;cases t' with
 | nil=>
  have e:=congrArg List.length hr;rw [List.length_drop] at e;simp [bC] at e;omega
 | cons c t'=>
  have hc:=pA h1 c (by simp);have:aBG (l.drop j) (cS c)=true:=(aKK _ _).2 ⟨bC t',hr⟩;rw [aSQ hc,hn] at this;rw [←this] at hc
  revert hc;decide
theorem tF.step {l t0:List Int}{j:Nat}(h:tF l t0 j){c:Int}(hn:nx (l.drop j)=c)(hc:eZ c=true):tF l (t0++[c]) (j+(cS c).length):=by
 have hb:=(aSQ hc).2 hn;obtain ⟨r,hr⟩:=(aKK _ _).1 hb;have hl:=congrArg List.length hr;rw [List.length_drop,List.length_append] at hl;have hp:=rF c hc;refine ⟨fun x hx=>?_,?_,by omega⟩
 ·rcases List.mem_append.1 hx with hx|hx
  ·exact h.1 x hx
  rw [List.mem_singleton] at hx;rw [hx];exact hc
 rw [aMI,h.2.1,List.take_add,hr];simp
theorem tF.done {l t0:List Int}(h:tF l t0 l.length):(cN t0=true→aText l=(t0,0))∧(cN t0=false→aText l=([],16)):=by
 have h2:bC t0=l:=by rw [h.2.1,List.take_length]
 refine ⟨fun h1=>ad0 h1 h2,fun h1=>aE0 fun t h3 h4=>?_⟩;have:=aMS t t0 (pA h3) h.1 (h4.trans h2.symm);rw [this,h1] at h3;cases h3
open Go.RowKit Go.Maps
def kS (s:ByteArray):Lit:=.string s.data.toList
def iv (c:Int):DataW Unit:=.lit (.int .i64 c)
def bO (D:DataW Unit)(s:ByteArray):Int:=match D.atKey (kS s) (iv 0) with|.lit (.int _ c)=>c|_=>0
def MI (D:DataW Unit):Prop:=Tidy D∧∀ s,D.atKey (kS s) (iv 0)=iv (bO D s)
theorem aGE {s t:ByteArray}(h:kS s=kS t):s=t:=by
 unfold kS at h;injection h with h
 cases s
 cases t
 simpa [Array.toList_inj] using h
theorem aB4 (s:ByteArray):WideAt.IsKeyLit (kS s):=trivial
theorem aMZ:MI (.map []):=⟨tidy_empty,fun s=>rfl⟩
theorem aM0 (s:ByteArray):bO (.map []) s=0:=rfl
theorem aM1 {D:DataW Unit}(h:MI D)(s:ByteArray)(c:Int)(t:ByteArray):(D.put (kS s) (iv c)).atKey (kS t) (iv 0)=iv (if t=s then c else bO D t):=by
 by_cases e:t=s
 ·subst e;rw [if_pos rfl];exact atKey_put_same h.1.isMap (aB4 t) _ _
 rw [if_neg e,atKey_put_other (fun h'=>e (aGE h')),h.2 t]
theorem rG {D:DataW Unit}(h:MI D)(s:ByteArray)(c:Int)(t:ByteArray):bO (D.put (kS s) (iv c)) t=if t=s then c else bO D t:=by
 unfold bO;rw [aM1 h s c t];rfl
theorem aM2 {D:DataW Unit}(h:MI D)(s:ByteArray)(c:Int):MI (D.put (kS s) (iv c)):=⟨h.1.put (aB4 s) _,fun t=>by rw [aM1 h s c t,rG h s c t]⟩
theorem aM3 {D:DataW Unit}(h:MI D)(s:ByteArray)(c:Int):Maps.size (D.put (kS s) (iv c))≤Maps.size D+1:=by
 rw [size_put h.1];split<;>omega
theorem aM4 {D:DataW Unit}(h:MI D)(s:ByteArray)(c:Int)(t:ByteArray):Maps.has (D.put (kS s) (iv c)) (kS t)=(decide (t=s)||Maps.has D (kS t)):=by
 by_cases e:t=s
 ·subst e;rw [has_put_same h.1.isMap (aB4 t)];simp
 rw [has_put_other fun h'=>e (aGE h')];simp [e]
abbrev MM:=DataW Unit × DataW Unit
def jY (p:ByteArray)(i n:Nat)(s:MM):MM:=
 if bO s.2 (p.extract i (i+n))≤i then (s.1.put (kS (p.extract i (i+n))) (iv (bO s.1 (p.extract i (i+n))+1)),s.2.put (kS (p.extract i (i+n))) (iv ((i+n:Nat):Int))) else s
def fA (p:ByteArray)(i:Nat)(s:MM):Nat→MM
 | 0=>s
 | k+1=>if k+2≤8∧i+(k+2)≤p.size then jY p i (k+2) (fA p i s k) else fA p i s k
def iY (p:ByteArray)(M:DataW Unit):Nat→MM
 | 0=>(M,.map [])
 | i+1=>fA p i (iY p M i) 7
def dQ (l:List ByteArray):Nat→DataW Unit
 | 0=>.map []
 | k+1=>(iY (l.getD k ⟨#[]⟩) (dQ l k) (l.getD k ⟨#[]⟩).size).1
structure Sane (b:Nat) (s:MM):Prop where
 m1:MI s.1
 m2:MI s.2
 s1:Maps.size s.1≤b
 s2:Maps.size s.2≤b
 g1:∀ t,0≤bO s.1 t∧bO s.1 t≤b
 g2:∀ t,0≤bO s.2 t∧bO s.2 t≤2000000000
theorem Sane.step {b:Nat}{s:MM}(h:Sane b s)(p:ByteArray)(i n:Nat)(hin:i+n≤2000000000):Sane (b+1) (jY p i n s):=by
 unfold jY;split
 ·refine ⟨aM2 h.m1 _ _,aM2 h.m2 _ _,?_,?_,fun t=>?_,fun t=>?_⟩
  ·have:=aM3 h.m1 (p.extract i (i+n)) (bO s.1 (p.extract i (i+n))+1);have:=h.s1;show Maps.size (s.1.put _ _)≤_;omega
  ·have:=aM3 h.m2 (p.extract i (i+n)) ((i+n:Nat):Int);have:=h.s2;show Maps.size (s.2.put _ _)≤_;omega
  ·show 0≤bO (s.1.put _ _) t∧bO (s.1.put _ _) t≤_;rw [rG h.m1];have h1:=h.g1 (p.extract i (i+n));have h2:=h.g1 t;split<;>omega
  show 0≤bO (s.2.put _ _) t∧bO (s.2.put _ _) t≤_;rw [rG h.m2];have h2:=h.g2 t;split<;>omega
 exact ⟨h.m1,h.m2,by have:=h.s1;omega,by have:=h.s2;omega,fun t=>by have:=h.g1 t;omega,h.g2⟩
theorem Sane.more {b c:Nat}{s:MM}(h:Sane b s)(hc:b≤c):Sane c s:=⟨h.m1,h.m2,by have:=h.s1;omega,by have:=h.s2;omega,fun t=>by have:=h.g1 t;omega,h.g2⟩
theorem Sane.row {b:Nat}{s:MM}(h:Sane b s){p:ByteArray}{i:Nat}(hp:p.size≤1000000000):∀ k,Sane (b+k) (fA p i s k)
 | 0=>h
 | k+1=>by
  have:=Sane.row h hp (i:=i) k;unfold fA;split
  ·exact this.step p i (k+2) (by omega)
  exact this.more (by omega)
theorem Sane.part {b:Nat}{M:DataW Unit}(hM:MI M)(hs:Maps.size M≤b)(hg:∀ t,0≤bO M t∧bO M t≤b){p:ByteArray}(hp:p.size≤1000000000):∀ k,Sane (b+7*k) (iY p M k)
 | 0=>⟨hM,aMZ,hs,Nat.zero_le _,hg,fun t=>by show 0≤bO (.map []) t∧bO (.map []) t≤_;rw [aM0];omega⟩
 | k+1=>((Sane.part hM hs hg hp k).row hp 7).more (by omega)
end Go.Proofs.YtgajclaoaphgoaaGreatDoor
namespace Go.Proofs.YtgajclaoaphgoaaGreatDoor
open Go.RowKit
theorem aUY {α:Type}(d:α)(l:List α)(p:α→Bool):(List.range l.length).all (fun i=>p (l.getD i d))=l.all p:=by
 rw [Bool.eq_iff_iff,List.all_eq_true,List.all_eq_true];constructor
 ·intro H x hx;obtain ⟨i,hi,rfl⟩:=List.getElem_of_mem hx;have:=H i (List.mem_range.2 hi);simpa [hi] using this
 intro H i hi;have hi':i<l.length:=List.mem_range.1 hi;have:=H l[i] (List.getElem_mem hi');simpa [hi'] using this
theorem yZ {α:Type}{d:α}{l:List α}{p:α→Bool}(h:∀ j,j<l.length→p (l.getD j d)=true):l.all p=true:=by rw [←aUY d];exact sP h
theorem anV {α:Type}{d:α}{l:List α}{p:α→Bool}{k:Nat}(hk:k<l.length)(h:p (l.getD k d)=false):l.all p=false:=by rw [←aUY d];exact nD (p:=fun i=>p (l.getD i d)) hk h
theorem al3 {s:ByteArray}{p:Int→Bool}{k:Nat}(hk:k=s.size)(h:∀ j,j<k→p ((tB s).getD j 0)=true):(tB s).all p=true:=yZ (d:=0) fun j hj=>h j (by rw [fK] at hj;omega)
theorem al4 {s:ByteArray}{p:Int→Bool}{k:Nat}(hk:k<s.size)(h:p ((tB s).getD k 0)=false):(tB s).all p=false:=anV (d:=0) (by rw [fK];exact hk) h
theorem aoL (s:ByteArray)(hs:s.size≤9223372036854775807):PC Tryz.prog 146 [vs s] (vb (qN s)):=by
 refine FB 6 29 Tryz.func146 ?_;refine G ?_;refine LP (ι:=Nat) (fun k=>[(3,vi k)]) (fun _=>[]) (fun k=>k≤s.size∧∀ j,j<k→uJ ((tB s).getD j 0)=true) (fun k=>s.size-k) 0 (⟨Nat.zero_le _,qF⟩) (hl:=(Le.sub (by repeat (first|trivial|refine ⟨.inr rfl,?_⟩|refine ⟨.inr (aR (by omega)),?_⟩)) (by repeat (first|trivial|refine ⟨rfl,?_⟩)))) ?_;intro k hI;refine Gd (fun hb=>?_) fun hb=>?_
 ·have hlt:k<s.size:=by simpa using hb
  refine G ?_;refine Z1 (aGH rfl rfl rfl (by kernel_rfl) (by omega) (by omega) rfl) ?_;refine G ?_;refine Zg rfl rfl rfl eV (fun hC=>aGH rfl rfl rfl (by kernel_rfl) (by omega) (by omega) rfl) trivial ?_;refine G ?_;refine Zg rfl rfl rfl cA (fun hC=>aGH rfl rfl rfl (by kernel_rfl) (by omega) (by omega) rfl) trivial ?_;refine Gd (fun hb=>?_) fun hb=>?_
  ·refine G ?_;exact Rx rfl (bP (by unfold qN;rw [al4 hlt (by have h1:=(aj1 ((tB s).getD k 0)).symm.trans hb;simpa using h1)];rfl))
  refine G ?_;exact ⟨k+1,⟨by omega,mC (p:=fun j=>uJ ((tB s).getD j 0)) hI.2 (by have h1:=(aj1 ((tB s).getD k 0)).symm.trans hb;simpa using h1)⟩,by omega,Le.sub (by repeat (first|trivial|refine ⟨.inr rfl,?_⟩|refine ⟨.inr (aR (by omega)),?_⟩)) (by repeat (first|trivial|refine ⟨rfl,?_⟩))⟩
 have hge:k=s.size:=by simp at hb;omega
 refine G ?_;exact Rx rfl (bP (by unfold qN;rw [al3 hge hI.2];rfl))
end Go.Proofs.YtgajclaoaphgoaaGreatDoor
