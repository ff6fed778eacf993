/- Parts of the proof of a law of this seat: rules and contracts; no conditions. -/
import Derived.Test.YtnklgkjfoggpbaaGreatDoorWireSpec
import Derived.Test.YtnklgkjfoggpbaaGreatDoorPe
import Derived.Test.YtnklgkjfoggpbaaGreatDoorProg
import Derived.KernelRfl
import Derived.Test.YtnklgkjfoggpbaaGreatDoorLt
set_option maxHeartbeats 6400000
set_option maxRecDepth 100000
set_option linter.unusedVariables false
set_option linter.unusedSimpArgs false
namespace Go.Proofs.YtnklgkjfoggpbaaGreatDoor
open Go.RowKit
def tY (r:List Int):Nat→Nat→Nat
 | 0,n=>n
 | f+1,n=>if n<r.length∧r.getD n 0≠30 then tY r f (n+eS (r.getD n 0)) else n
def nF (r:List Int):Nat:=tY r (r.length+1) 0
noncomputable def saidF (ab:List ByteArray):Nat→List Int→ByteArray→ByteArray × Int
 | 0,r,s=>(ByteArray.empty,0)
 | f+1,r,s=>if 0<r.length then
  (
   if r.getD 0 0=30 then (if r.length<2 then (ByteArray.empty,16) else if r.getD 1 0≥(ab.length:Int) then (ByteArray.empty,11) else saidF ab f (r.drop 2) (s++ab.getD (r.getD 1 0).toNat ByteArray.empty))
   else if r.length<nF r then (ByteArray.empty,16)
   else if (aText (r.take (nF r))).2≠0 then (ByteArray.empty,16)
   else saidF ab f (r.drop (nF r)) (s++strOfNums (aText (r.take (nF r))).1))
  else (s,0)
noncomputable def saidP (l:List Int)(ab:List ByteArray):ByteArray × Int:=saidF ab (l.length+1) l ByteArray.empty
theorem tZ {ab:List ByteArray}{f:Nat}{r:List Int}{s:ByteArray}(h:0<r.length):saidF ab (f+1) r s=(if r.getD 0 0=30 then (if r.length<2 then (ByteArray.empty,16) else if r.getD 1 0≥(ab.length:Int) then (ByteArray.empty,11) else saidF ab f (r.drop 2) (s++ab.getD (r.getD 1 0).toNat ByteArray.empty))
 else if r.length<nF r then (ByteArray.empty,16)
 else if (aText (r.take (nF r))).2≠0 then (ByteArray.empty,16)
 else saidF ab f (r.drop (nF r)) (s++strOfNums (aText (r.take (nF r))).1)):=by
 show (if _ then _ else _)=_
 rw [if_pos h]
theorem aC1 {ab:List ByteArray}{f:Nat}{r:List Int}{s:ByteArray}(h:¬ 0<r.length)(hf:f≠0):saidF ab f r s=(s,0):=by
 obtain ⟨g,rfl⟩:∃ g,f=g+1:=⟨f-1,by omega⟩
 unfold saidF
 rw [if_neg h]
theorem aC0 (r:List Int)(n k:Nat):(r.drop n).getD k 0=r.getD (k+n) 0:=by
 rw [List.getD,List.getD,List.getElem?_drop]
 congr 2
 omega
end Go.Proofs.YtnklgkjfoggpbaaGreatDoor
namespace Go.Proofs.YtnklgkjfoggpbaaGreatDoor
def tW (p:ByteArray × Int):ByteArray × Int:=if p.2≠0 then (ByteArray.empty,p.2) else if cN (tB p.1)=true then (p.1,0) else (ByteArray.empty,13)
theorem tX {e:Int}(h:e≠0):tW (ByteArray.empty,e)=(ByteArray.empty,e):=by unfold tW;rw [if_pos h]
theorem aCZ:aText []=([],0):=zT (by decide) rfl
theorem vU (s:ByteArray):s++strOfNums []=s:=by
 apply ByteArray.ext
 rw [ByteArray.data_append]
 show s.data++#[]=s.data
 simp
theorem aHG {r:List Int}{n g:Nat}(h:nF r=tY r g n)(hs:¬ (n<r.length∧r.getD n 0≠30)):nF r=n:=by
 rw [h]
 cases g with
 | zero=>rfl
 | succ g=>show (if _ then _ else _)=_;rw [if_neg hs]
theorem xN (l:List Int)(row n:Nat):nG l row (row+n)=(l.drop row).take n:=by
 unfold nG
 rw [Nat.add_sub_cancel_left]
theorem aHH (l:List Int)(ab:List ByteArray):∀ (f row n g k:Nat) (out:ByteArray),row+n≤l.length→l.length<f+(row+n)→l.length-row<g→(l.drop row).length<k+n→nF (l.drop row)=tY (l.drop row) k n→(0<n→(l.drop row).getD 0 0≠30)→unF l ab f row (row+n) out=tW (saidF ab g (l.drop row) out)
 | 0,row,n,g,k,out,h1,h2,_,_,_,_=>by omega
 | f+1,row,n,g,k,out,h1,h2,h3,h4,h5,h6=>by
  have hrl:(l.drop row).length=l.length-row:=List.length_drop ..
  have hget:∀ j,(l.drop row).getD j 0=l.getD (row+j) 0:=fun j=>by rw [aC0,Nat.add_comm]
  obtain ⟨g,rfl⟩:∃ g',g=g'+1:=⟨g-1,by omega⟩
  have hwb:=aOU (l.getD (row+n) 0)
  have key:¬ (n<(l.drop row).length∧(l.drop row).getD n 0≠30)→0<n→saidF ab (g+1) (l.drop row) out=if (aText ((l.drop row).take n)).2≠0 then (ByteArray.empty,16) else saidF ab g ((l.drop row).drop n) (out++strOfNums (aText ((l.drop row).take n)).1):=fun hs hn=>by
   have hr:=aHG h5 hs
   rw [tZ (by omega),if_neg (h6 hn),hr,if_neg (by omega)]
  by_cases hlt:row+n<l.length
  ·rw [vV hlt]
   by_cases hw:l.length-(row+n)<eS (l.getD (row+n) 0)
   ·rw [if_pos hw]
    have e16:(if segE l row l.length=0 then (16:Int) else segE l row l.length)=16:=by
     rcases aHI l row l.length with h|h<;>rw [h]<;>decide
    rw [e16]
    by_cases hc:l.getD (row+n) 0=30
    ·rw [hc] at hw
     have hw2:eS 30=2:=rfl
     rcases Nat.eq_zero_or_pos n with hn|hn
     ·subst hn
      rw [tZ (by omega),if_pos (by rw [hget];exact hc),if_pos (by omega),tX (by decide)]
     ·rw [key (fun hx=>hx.2 (by rw [hget];exact hc)) hn]
      by_cases he:(aText ((l.drop row).take n)).2≠0
      ·rw [if_pos he,tX (by decide)]
      ·rw [if_neg he]
       obtain ⟨g,rfl⟩:∃ g',g=g'+1:=⟨g-1,by omega⟩
       rw [tZ (by rw [List.length_drop];omega),if_pos (by rw [aC0,Nat.zero_add,hget];exact hc),if_pos (by rw [List.length_drop];omega),tX (by decide)]
    ·obtain ⟨k,rfl⟩:∃ k',k=k'+1:=⟨k-1,by omega⟩
     have hq:n<(l.drop row).length∧(l.drop row).getD n 0≠30:=⟨by omega,by rw [hget];exact hc⟩
     have h7:nF (l.drop row)=tY (l.drop row) k (n+eS (l.getD (row+n) 0)):=by
      rw [h5]
      show (if _ then _ else _)=_
      rw [if_pos hq,hget]
     have hr:=aHG h7 (fun hx=>by omega)
     have h0:(l.drop row).getD 0 0≠30:=by
      rcases Nat.eq_zero_or_pos n with hn|hn
      ·subst hn;exact hq.2
      ·exact h6 hn
     rw [tZ (by omega),if_neg h0,hr,if_pos (by omega),tX (by decide)]
   ·rw [if_neg hw]
    by_cases hc:l.getD (row+n) 0=30
    ·rw [if_neg (fun hx=>hx hc)]
     rw [hc] at hw
     have hw2:eS 30=2:=rfl
     have hd2:∀ m,row+m+2≤l.length→(l.drop row).drop (m+2)=l.drop (row+m+2):=fun m _=>by rw [List.drop_drop];congr 1
     have fin:∀ (g:Nat) (o:ByteArray),l.length-(row+n+2)<g→unF l ab f (row+n+2) (row+n+2) o=tW (saidF ab g (l.drop (row+n+2)) o):=fun g o hg=>aHH l ab f (row+n+2) 0 g ((l.drop (row+n+2)).length+1) o (by omega) (by omega) hg (by omega) rfl (fun hx=>absurd hx (by omega))
     rcases Nat.eq_zero_or_pos n with hn|hn
     ·subst hn
      have e1:nG l row (row+0)=[]:=by rw [xN];rfl
      have e2:segE l row (row+0)=0:=by unfold segE;rw [e1,aCZ]
      have e3:segT l row (row+0)=strOfNums []:=by unfold segT;rw [e1,aCZ]
      rw [e2,if_neg (by decide),e3,vU,tZ (by omega),if_pos (show (l.drop row).getD 0 0=30 from by rw [hget];exact hc),if_neg (show ¬ (l.drop row).length<2 from by omega),hget 1]
      by_cases ha:l.getD (row+0+1) 0≥(ab.length:Int)
      ·rw [if_pos ha,if_pos ha,tX (by decide)]
      ·rw [if_neg ha,if_neg ha,fin g _ (by omega)]
       have:=hd2 0 (by omega)
       rw [show (0:Nat)+2=2 from rfl] at this
       rw [this]
     ·rw [key (fun hx=>hx.2 (by rw [hget];exact hc)) hn]
      have e2:segE l row (row+n)=(aText ((l.drop row).take n)).2:=by unfold segE;rw [xN]
      have e3:segT l row (row+n)=strOfNums (aText ((l.drop row).take n)).1:=by unfold segT;rw [xN]
      have e4:=aHI l row (row+n)
      rw [e2,e3]
      rw [e2] at e4
      by_cases he:(aText ((l.drop row).take n)).2≠0
      ·rw [if_pos he,if_pos he,tX (by decide)]
       rcases e4 with e4|e4
       ·exact absurd e4 he
       ·rw [e4]
      ·rw [if_neg he,if_neg he]
       obtain ⟨g,rfl⟩:∃ g',g=g'+1:=⟨g-1,by omega⟩
       have hdd:(l.drop row).drop n=l.drop (row+n):=by rw [List.drop_drop]
       have hdl:(l.drop (row+n)).length=l.length-(row+n):=List.length_drop ..
       rw [hdd,tZ (by omega),if_pos (show (l.drop (row+n)).getD 0 0=30 from by rw [aC0,Nat.zero_add];exact hc),if_neg (show ¬ (l.drop (row+n)).length<2 from by omega),aC0,show 1+(row+n)=row+n+1 from by omega]
       by_cases ha:l.getD (row+n+1) 0≥(ab.length:Int)
       ·rw [if_pos ha,if_pos ha,tX (by decide)]
       ·rw [if_neg ha,if_neg ha,fin g _ (by omega),List.drop_drop]
    ·rw [if_pos hc]
     obtain ⟨k,rfl⟩:∃ k',k=k'+1:=⟨k-1,by omega⟩
     have hq:n<(l.drop row).length∧(l.drop row).getD n 0≠30:=⟨by omega,by rw [hget];exact hc⟩
     have h7:nF (l.drop row)=tY (l.drop row) k (n+eS (l.getD (row+n) 0)):=by
      rw [h5]
      show (if _ then _ else _)=_
      rw [if_pos hq,hget]
     have h0:(l.drop row).getD 0 0≠30:=by
      rcases Nat.eq_zero_or_pos n with hn|hn
      ·subst hn;exact hq.2
      ·exact h6 hn
     rw [Nat.add_assoc]
     exact aHH l ab f row (n+eS (l.getD (row+n) 0)) (g+1) k out (by omega) (by omega) h3 (by omega) h7 (fun _=>h0)
  ·have hen:row+n=l.length:=by omega
   rw [aOV hlt (by omega),←hen]
   rcases Nat.eq_zero_or_pos n with hn|hn
   ·subst hn
    have e1:nG l row (row+0)=[]:=by rw [xN];rfl
    have e2:segE l row (row+0)=0:=by unfold segE;rw [e1,aCZ]
    have e3:segT l row (row+0)=strOfNums []:=by unfold segT;rw [e1,aCZ]
    rw [e2,e3,aC1 (by omega) (by omega)]
    unfold rL tW
    rw [if_neg (by decide),if_neg (show ¬ ((out,(0:Int)).2≠0) from fun h=>h rfl),vU]
   ·rw [key (fun hx=>by omega) hn]
    have e2:segE l row (row+n)=(aText ((l.drop row).take n)).2:=by unfold segE;rw [xN]
    have e3:segT l row (row+n)=strOfNums (aText ((l.drop row).take n)).1:=by unfold segT;rw [xN]
    have e4:=aHI l row (row+n)
    rw [e2,e3]
    rw [e2] at e4
    by_cases he:(aText ((l.drop row).take n)).2≠0
    ·rw [if_pos he,tX (by decide)]
     unfold rL
     rw [if_pos he]
     rcases e4 with e4|e4
     ·exact absurd e4 he
     ·rw [e4]
    ·rw [if_neg he,aC1 (by rw [List.length_drop];omega) (by omega)]
     unfold rL tW
     rw [if_neg he,if_neg (show ¬ ((out++strOfNums (aText (List.take n (List.drop row l))).1,(0:Int)).2≠0) from fun h=>h rfl)]
theorem aZE (l:List Int)(ab:List ByteArray):unpackedP l ab=tW (saidP l ab):=
 aHH l ab (l.length+1) 0 0 (l.length+1) (l.length+1) ByteArray.empty (by omega) (by omega) (by omega) (by simp) rfl (fun h=>absurd h (by omega))
def jA (p:PoolP)(i:Nat):Int:=p.at_.getD i 0
def jI (p:PoolP)(i:Nat):Int:=if i+1<p.at_.length then p.at_.getD (i+1) 0 else (p.bytes.length:Int)
def qG (p:PoolP)(i:Nat):List Int:=(p.bytes.drop (jA p i).toNat).take ((jI p i).toNat-(jA p i).toNat)
def eT (p:PoolP)(i:Int):List Int × Int:=
 if i<0∨i≥(p.at_.length:Int) then ([],11) else if jA p i.toNat<0∨jI p i.toNat<jA p i.toNat∨jI p i.toNat >(p.bytes.length:Int) then ([],5) else (qG p i.toNat,0)
noncomputable def poolTx (p:PoolP)(i:Int):ByteArray × Int:=
 if (eT p i).2≠0 then (ByteArray.empty,(eT p i).2) else if (gD (eT p i).1).2≠0 then (ByteArray.empty,(gD (eT p i).1).2) else unpackedP (gD (eT p i).1).1 p.abbrevs
theorem aZF {p:PoolP}(h:dC p.bytes)(i:Int):dC (eT p i).1:=by
 unfold eT
 repeat' split
 ·intro c hc;cases hc
 ·intro c hc;cases hc
 ·intro c hc
  exact h c (List.mem_of_mem_drop (List.mem_of_mem_take hc))
theorem aZG (bs:List Int):(gD bs).1.length≤8*bs.length/5∧∀ k,0≤(gD bs).1.getD k 0:=by
 have hnil:([]:List Int).length≤8*bs.length/5∧∀ k,0≤([]:List Int).getD k 0:=⟨Nat.zero_le _,fun k=>by simp⟩
 unfold gD
 split
 ·exact hnil
 ·rename_i j hj
  have hjm:=List.mem_range.1 (List.mem_of_find?_eq_some hj)
  unfold sF
  split
  ·exact hnil
  ·split
   ·exact hnil
   ·refine ⟨by show (lU bs j).length≤_;rw [aMG];omega,fun k=>?_⟩
    show 0≤(lU bs j).getD k 0
    unfold lU
    rcases Nat.lt_or_ge k j with h|h
    ·simp [List.getD,List.getElem?_map,List.getElem?_range h]
     exact (aMA bs (5*k)).1
    ·rw [List.getD,List.getElem?_eq_none (by simpa using h)]
     simp
def qH (t:Int→ByteArray × Int):Nat→Nat→List ByteArray→List ByteArray × Int
 | 0,k,out=>(out,0)
 | n+1,k,out=>if (t k).2≠0 then ([],(t k).2) else qH t n (k+1) (out++[(t k).1])
noncomputable def allP (p:PoolP):List ByteArray × Int:=qH (poolTx p) p.at_.length 0 []
open Go.RowKit
theorem aZH {p:PoolP}{n:Nat}(h:0≤jA p n)(h':jA p n≤jI p n)(h2:jI p n≤(p.bytes.length:Int))(E:Env)(v:Value)(hr:aA E (.sl 1 ((jI p n).toNat-(jA p n).toNat) (fun j=>bv p.bytes (j+(jA p n).toNat))) v):aA E (bs (qG p n)) v:=by
 have hl:(qG p n).length=(jI p n).toNat-(jA p n).toNat:=by unfold qG;rw [List.length_take,List.length_drop];omega
 unfold bs
 rw [hl]
 refine pI (fun E k hk v hv=>?_) E v hr
 have e:(qG p n).getD k 0=p.bytes.getD (k+(jA p n).toNat) 0:=by
  unfold qG
  rw [List.getD,List.getD,List.getElem?_take,if_pos hk,List.getElem?_drop]
  congr 2
  omega
 unfold bv
 rw [e]
 exact hv
theorem aOW {p:PoolP}{i:Int}(h:i<0∨i≥(p.at_.length:Int)):eT p i=([],11):=by unfold eT;rw [if_pos h]
theorem aZI {p:PoolP}{i:Int}(h:¬ (i<0∨i≥(p.at_.length:Int)))(h':jA p i.toNat<0∨jI p i.toNat<jA p i.toNat∨jI p i.toNat >(p.bytes.length:Int)):eT p i=([],5):=by unfold eT;rw [if_neg h,if_pos h']
theorem aOX {p:PoolP}{i:Int}(h:¬ (i<0∨i≥(p.at_.length:Int)))(h':¬ (jA p i.toNat<0∨jI p i.toNat<jA p i.toNat∨jI p i.toNat >(p.bytes.length:Int))):eT p i=(qG p i.toNat,0):=by unfold eT;rw [if_neg h,if_neg h']
theorem aZJ {p:PoolP}{i:Int}(h:(eT p i).2≠0):poolTx p i=(ByteArray.empty,(eT p i).2):=by unfold poolTx;rw [if_pos h]
theorem aZK {p:PoolP}{i:Int}(h:(eT p i).2=0)(h':(gD (eT p i).1).2≠0):poolTx p i=(ByteArray.empty,(gD (eT p i).1).2):=by unfold poolTx;rw [if_neg (fun hc=>hc h),if_pos h']
theorem aOY {p:PoolP}{i:Int}(h:(eT p i).2=0)(h':(gD (eT p i).1).2=0):poolTx p i=unpackedP (gD (eT p i).1).1 p.abbrevs:=by unfold poolTx;rw [if_neg (fun hc=>hc h),if_neg (fun hc=>hc h')]
theorem aHJ {p q:ByteArray × Int}(h:p=q):Av.tup [vs p.1,vi p.2]=.tup [vs q.1,vi q.2]:=by rw [h]
theorem dC.hid {l:List Int}(h:dC l):dC l:=h
theorem aZL (p:PoolP)(i:Int)(hal:p.at_.length≤5000000)(hbl:p.bytes.length≤100000000):PC Tryz.prog 192 [kO p,vi i] (.tup [bs (eT p i).1,vi (eT p i).2]):=by
 refine FC.body 4 56 Tryz.func192 rfl (by kernel_rfl) ?_
 refine sq ?_
 refine Z1 bx ?_
 refine Z1 aB ?_
 refine Z1 aB ?_
 refine cn ?_
 refine aD ?_
 refine sq ?_
 refine Z1 mo ?_
 refine Z1 bz ?_
 refine Z1 mo ?_
 refine Z4 (fun hC=>mo) ?_
 refine Z4 (fun hC=>fa 1) ?_
 refine Z4 (fun hC=>ld) ?_
 refine Z4 (fun hC=>ln) ?_
 refine Z4 (fun hC=>bz) ?_
 refine Z1 cC ?_
 refine cn ?_
 refine cd (fun hb=>?_) fun hb=>?_
 ·have hno:i<0∨i≥(p.at_.length:Int):=by simpa only [Bool.or_eq_true,decide_eq_true_eq] using hb
  refine sq ?_
  refine Z1 aB ?_
  refine Z1 aB ?_
  refine cn ?_
  refine aP ?_
  exact ⟨.inl rfl,by rw [aOW hno];exact aF.two rfl ((aT.tmp rfl).to fun E v h=>uA (by decide) E v h) (aT.tmp rfl),trivial⟩
 ·have hno:¬ (i<0∨i≥(p.at_.length:Int)):=by simpa only [Bool.or_eq_false_iff,decide_eq_false_iff_not,not_or] using hb
  refine aQ ?_
  refine aD ?_
  refine dw ?_
  refine Z1 (fa 1) ?_
  refine Z1 ld ?_
  refine Z1 mo ?_
  refine Z1 (mM (j:=i.toNat) rfl rfl rfl (by kernel_rfl) (by omega) (by omega) rfl) ?_
  refine Z1 ld ?_
  refine Z1 (fa 2) ?_
  refine Z1 ld ?_
  refine Z1 ln ?_
  refine Z1 aB ?_
  refine Z1 aB ?_
  refine cn (dn ?_)
  refine aD ?_
  refine sq ?_
  refine Z1 mo ?_
  refine Z1 ba ?_
  refine Z1 (fa 1) ?_
  refine Z1 ld ?_
  refine Z1 ln ?_
  refine Z1 bz ?_
  refine cn ?_
  refine rM (τ:=⟨[(1,vi i),(2,.ptr (kO p)),(6,vi (jA p i.toNat)),(7,vi (jI p i.toNat))],[]⟩) ?_ ?_
  ·refine cd (fun hb=>?_) fun hb=>?_
   ·have h30:i.toNat+1<p.at_.length:=by have h0:=of_decide_eq_true hb;omega
    refine tx ?_
    refine Z1 (fa 1) ?_
    refine Z1 ld ?_
    refine Z1 mo ?_
    refine Z1 ba ?_
    refine Z1 (mM (j:=i.toNat+1) rfl rfl rfl (by kernel_rfl) (by omega) (by omega) (by omega)) ?_
    refine Z1 ld ?_
    refine Z1 aB ?_
    refine cn ?_
    exact Le.sub ⟨.inr rfl,.inr rfl,.inr rfl,.inr (aR (by unfold jI;first|rw [if_pos h30]|rw [if_neg h30])),trivial⟩ trivial
   ·have h30:¬ i.toNat+1<p.at_.length:=by have h0:=of_decide_eq_false hb;omega
    refine aQ ?_
    exact Le.sub ⟨.inr rfl,.inr rfl,.inr rfl,.inr (aR (by unfold jI;first|rw [if_pos h30]|rw [if_neg h30])),trivial⟩ trivial
  ·refine aD ?_
   refine sq ?_
   refine Z1 mo ?_
   refine Z1 bz ?_
   refine Z1 mo ?_
   refine Z4 (fun hC=>mo) ?_
   refine Z4 (fun hC=>mo) ?_
   refine Z4 (fun hC=>bz) ?_
   refine Z1 cC ?_
   refine Z1 mo ?_
   refine Z4 (fun hC=>mo) ?_
   refine Z4 (fun hC=>fa 2) ?_
   refine Z4 (fun hC=>ld) ?_
   refine Z4 (fun hC=>ln) ?_
   refine Z4 (fun hC=>bz) ?_
   refine Z1 cC ?_
   refine cn ?_
   refine cd (fun hb=>?_) fun hb=>?_
   ·have hrg:jA p i.toNat<0∨jI p i.toNat<jA p i.toNat∨jI p i.toNat >(p.bytes.length:Int):=by
     simp only [Bool.or_eq_true,decide_eq_true_eq] at hb
     rcases hb with (h|h)|h
     ·exact .inl h
     ·exact .inr (.inl h)
     ·exact .inr (.inr h)
    refine sq ?_
    refine Z1 aB ?_
    refine Z1 aB ?_
    refine cn ?_
    refine aP ?_
    exact ⟨.inl rfl,by rw [aZI hno hrg];exact aF.two rfl ((aT.tmp rfl).to fun E v h=>uA (by decide) E v h) (aT.tmp rfl),trivial⟩
   ·have hrg:¬ (jA p i.toNat<0∨jI p i.toNat<jA p i.toNat∨jI p i.toNat >(p.bytes.length:Int)):=by
     simp only [Bool.or_eq_false_iff,decide_eq_false_iff_not] at hb
     rintro (h|h|h)
     ·exact hb.1.1 h
     ·exact hb.1.2 h
     ·exact hb.2 h
    refine aQ ?_
    refine sq ?_
    refine Z1 (fa 2) ?_
    refine Z1 ld ?_
    refine Z1 mo ?_
    refine Z1 mo ?_
    refine Z1 (OC.to (aC2 (e:=5) (by_:=1) (zs:=[.int .u8 0]) (jA p i.toNat).toNat (jI p i.toNat).toNat rfl rfl (aR (by omega)) (aR (by omega)) (by kernel_rfl) (by kernel_rfl) (by omega) (by omega)) (aZH (by omega) (by omega) (by omega))) ?_
    refine Z1 aB ?_
    refine Z1 aB ?_
    refine cn ?_
    refine aP ?_
    exact ⟨.inl rfl,by rw [aOX hno hrg];exact aF.two rfl (aT.tmp rfl) (aT.tmp rfl),trivial⟩
theorem aZM (p:PoolP)(i:Int)(hal:p.at_.length≤5000000)(hbl:p.bytes.length≤100000000)(hBt:dC p.bytes)(hl:(eT p i).1.length≤5000)(hab:∀ k,(p.abbrevs.getD k ByteArray.empty).size≤5000)(habl:p.abbrevs.length≤1000000):PC Tryz.prog 168 [kO p,vi i] (.tup [vs (poolTx p i).1,vi (poolTx p i).2]):=by
 have hub:=aZG (eT p i).1
 refine FC.body 4 32 Tryz.func168 rfl (by kernel_rfl) ?_
 refine W ?_
 refine Z1 (ca (aZL p i hal hbl)) ?_
 refine W ?_
 refine cd (fun hb=>?_) fun hb=>?_
 ·have he16:(eT p i).2≠0:=by simpa using hb
  refine W ?_
  exact ⟨.inl rfl,by rw [aHJ (aZJ he16)];exact aF.two rfl (aT.tmp rfl) (aT.tmp rfl),trivial⟩
 ·have he16:(eT p i).2=0:=by simpa using hb
  refine W ?_
  refine Z1 (ca (aZN (eT p i).1 (by omega) (aZF hBt i))) ?_
  refine W ?_
  refine cd (fun hb=>?_) fun hb=>?_
  ·have he24:(gD (eT p i).1).2≠0:=by simpa using hb
   refine W ?_
   exact ⟨.inl rfl,by rw [aHJ (aZK he16 he24)];exact aF.two rfl (aT.tmp rfl) (aT.tmp rfl),trivial⟩
  ·have he24:(gD (eT p i).1).2=0:=by simpa using hb
   refine W ?_
   refine Z1 (ca (aZO (gD (eT p i).1).1 (by omega) hub.2 p.abbrevs hab habl)) ?_
   refine W ?_
   exact ⟨.inl rfl,by rw [aHJ (aOY he16 he24)];exact aF.two rfl (aT.tmp rfl) (aT.tmp rfl),trivial⟩
theorem aZP {α:Type}{d:α}{a b:List α}(hl:a.length=b.length)(h:∀ j,j<a.length→a.getD j d=b.getD j d):a=b:=List.ext_getElem hl fun k h1 h2=>by
 have:=h k h1
 rwa [List.getD,List.getD,List.getElem?_eq_getElem h1,List.getElem?_eq_getElem h2] at this
theorem aHK {α:Type}[DecidableEq α]{a b:List α}(h:¬ (a.length:Int)=b.length):decide (a=b)=false:=decide_eq_false fun e=>h (by rw [e])
theorem aHL {α:Type}[DecidableEq α]{d:α}{a b:List α}{k:Nat}(h:¬ a.getD k d=b.getD k d):decide (a=b)=false:=decide_eq_false fun e=>h (by rw [e])
theorem aHM {α:Type}[DecidableEq α]{d:α}{a b:List α}{k:Nat}(hl:(a.length:Int)=b.length)(hk:k=a.length)(h:∀ j,j<k→a.getD j d=b.getD j d):decide (a=b)=true:=decide_eq_true (aZP (d:=d) (by omega) (by rw [←hk];exact h))
theorem aC3 {k:Nat}{p:Nat→Prop}(h:∀ j,j<k→p j)(hp:p k):∀ j,j<k+1→p j:=fun j hj=>by
 rcases Nat.lt_or_ge j k with h1|h1
 ·exact h j h1
 ·have:j=k:=by omega
  subst this
  exact hp
def aZQ (p q:PoolP):Bool:=decide (p.abbrevs=q.abbrevs)&&decide (p.at_=q.at_)&&decide (p.bytes=q.bytes)
theorem aZR {t:Int→ByteArray × Int}{n k:Nat}{out:List ByteArray}(h:(t k).2≠0):qH t (n+1) k out=([],(t k).2):=by unfold qH;rw [if_pos h]
theorem aOZ {t:Int→ByteArray × Int}{n k:Nat}{out:List ByteArray}(h:(t k).2=0):qH t (n+1) k out=qH t n (k+1) (out++[(t k).1]):=by
 conv=>lhs;unfold qH
 rw [if_neg (fun hc=>hc h)]
theorem aO0 {p q:List ByteArray × Int}(h:p=q):Av.tup [bB p.1,vi p.2]=.tup [bB q.1,vi q.2]:=by rw [h]
theorem aC4 (a b:List ByteArray):PC Tryz.prog 64 [bB a,bB b] (vb (decide (a=b))):=by
 refine FC.body 3 26 Tryz.func64 rfl (by kernel_rfl) ?_
 refine dM (t:=0) (x:=bB a) rfl eR fun ha=>?_
 refine W ?_
 refine cd (fun hb=>?_) fun hb=>?_
 ·have hne:¬ (a.length:Int)=b.length:=by simpa using hb
  refine W ?_
  exact ⟨.inl rfl,aF.tmp rfl (by rw [aHK hne];rfl),trivial⟩
 ·have hll:(a.length:Int)=b.length:=by simpa using hb
  refine W ?_
  refine bM (ι:=Nat) (fun k=>⟨[(0,bB a),(1,bB b),(12,vi (a.length:Int)),(13,vi k)],[]⟩) (fun k=>k≤a.length∧∀ j,j<k→a.getD j ByteArray.empty=b.getD j ByteArray.empty) (fun k=>a.length-k) 0 (⟨Nat.zero_le _,fun j hj=>absurd hj (by omega)⟩) (Le.sub (by repeat (first|trivial|refine ⟨.inr rfl,?_⟩|refine ⟨.inr (aR (by omega)),?_⟩)) (by repeat (first|trivial|refine ⟨rfl,?_⟩))) ?_
  intro k hI
  refine W ?_
  refine cd (fun hb=>?_) fun hb=>?_
  ·have hlt:k<a.length:=by have h0:=of_decide_eq_true hb;omega
   refine W ?_
   refine dw ?_
   refine W ?_
   refine Z1 (zR rfl rfl rfl) ?_
   refine cn (dn ?_)
   refine cd (fun hb=>?_) fun hb=>?_
   ·have heq:¬ (a.getD k ByteArray.empty)=(b.getD k ByteArray.empty):=by rw [show ((a.getD k ByteArray.empty).toList !=(b.getD k ByteArray.empty).toList)=!((a.getD k ByteArray.empty).toList==(b.getD k ByteArray.empty).toList) from rfl,tT] at hb;simpa using hb
    refine W ?_
    exact ⟨.inl rfl,aF.tmp rfl (by rw [aHL heq];rfl),trivial⟩
   ·have heq:(a.getD k ByteArray.empty)=(b.getD k ByteArray.empty):=by rw [show ((a.getD k ByteArray.empty).toList !=(b.getD k ByteArray.empty).toList)=!((a.getD k ByteArray.empty).toList==(b.getD k ByteArray.empty).toList) from rfl,tT] at hb;simpa using hb
    refine W ?_
    exact ⟨k+1,⟨by omega,aC3 (p:=fun j=>a.getD j ByteArray.empty=b.getD j ByteArray.empty) hI.2 heq⟩,by omega,Le.sub (by repeat (first|trivial|refine ⟨.inr rfl,?_⟩|refine ⟨.inr (aR (by omega)),?_⟩)) trivial⟩
  ·have hge:k=a.length:=by have h0:=of_decide_eq_false hb;omega
   refine W ?_
   exact ⟨.inl rfl,aF.tmp rfl (by rw [aHM hll hge hI.2];rfl),trivial⟩
theorem aO1 (a b:List Int):PC Tryz.prog 63 [aK a,aK b] (vb (decide (a=b))):=by
 refine FC.body 3 26 Tryz.func63 rfl (by kernel_rfl) ?_
 refine dM (t:=0) (x:=aK a) rfl eR fun ha=>?_
 refine sq ?_
 refine Z1 aB ?_
 refine cn ?_
 refine aD ?_
 refine sq ?_
 refine Z1 mo ?_
 refine Z1 ln ?_
 refine Z1 mo ?_
 refine Z1 ln ?_
 refine Z1 bz ?_
 refine cn ?_
 refine cd (fun hb=>?_) fun hb=>?_
 ·have hne:¬ (a.length:Int)=b.length:=by simpa using hb
  refine sq ?_
  refine Z1 aB ?_
  refine cn ?_
  refine aP ?_
  exact ⟨.inl rfl,aF.tmp rfl (by rw [aHK hne];rfl),trivial⟩
 ·have hll:(a.length:Int)=b.length:=by simpa using hb
  refine aQ ?_
  refine aD ?_
  refine sq ?_
  refine Z1 mo ?_
  refine Z1 ln ?_
  refine Z1 mo ?_
  refine cn ?_
  refine aU ?_
  refine bM (ι:=Nat) (fun k=>⟨[(0,aK a),(1,aK b),(12,vi (a.length:Int)),(13,vi k)],[]⟩) (fun k=>k≤a.length∧∀ j,j<k→a.getD j 0=b.getD j 0) (fun k=>a.length-k) 0 (⟨Nat.zero_le _,fun j hj=>absurd hj (by omega)⟩) (Le.sub (by repeat (first|trivial|refine ⟨.inr rfl,?_⟩|refine ⟨.inr (aR (by omega)),?_⟩)) (by repeat (first|trivial|refine ⟨rfl,?_⟩))) ?_
  intro k hI
  refine sq ?_
  refine Z1 bz ?_
  refine cn ?_
  refine aD ?_
  refine cd (fun hb=>?_) fun hb=>?_
  ·have hlt:k<a.length:=by have h0:=of_decide_eq_true hb;omega
   refine aQ ?_
   refine aD ?_
   refine aU ?_
   refine sq ?_
   refine Z1 mo ?_
   refine Z1 aB ?_
   refine cn ?_
   refine aD ?_
   refine dw ?_
   refine Z1 mo ?_
   refine Z1 mo ?_
   refine Z1 ia ?_
   refine Z1 ld ?_
   refine Z1 mo ?_
   refine Z1 mo ?_
   refine Z1 ia ?_
   refine Z1 ld ?_
   refine Z1 bz ?_
   refine cn (dn ?_)
   refine cd (fun hb=>?_) fun hb=>?_
   ·have heq:¬ (a.getD k 0)=(b.getD k 0):=by simpa using hb
    refine sq ?_
    refine Z1 aB ?_
    refine cn ?_
    refine aP ?_
    exact ⟨.inl rfl,aF.tmp rfl (by rw [aHL heq];rfl),trivial⟩
   ·have heq:(a.getD k 0)=(b.getD k 0):=by simpa using hb
    refine aQ ?_
    refine tx ?_
    refine Z1 ba ?_
    refine Z1 mo ?_
    refine cn ?_
    exact ⟨k+1,⟨by omega,aC3 (p:=fun j=>a.getD j 0=b.getD j 0) hI.2 heq⟩,by omega,Le.sub (by repeat (first|trivial|refine ⟨.inr rfl,?_⟩|refine ⟨.inr (aR (by omega)),?_⟩)) trivial⟩
  ·have hge:k=a.length:=by have h0:=of_decide_eq_false hb;omega
   refine bU ?_
   refine sq ?_
   refine Z1 aB ?_
   refine cn ?_
   refine aP ?_
   exact ⟨.inl rfl,aF.tmp rfl (by rw [aHM hll hge hI.2];rfl),trivial⟩
theorem aO2 (a b:List Int):PC Tryz.prog 22 [bs a,bs b] (vb (decide (a=b))):=by
 refine FC.body 3 26 Tryz.func22 rfl (by kernel_rfl) ?_
 refine dM (t:=0) (x:=bs a) rfl eR fun ha=>?_
 refine sq ?_
 refine Z1 aB ?_
 refine cn ?_
 refine aD ?_
 refine sq ?_
 refine Z1 mo ?_
 refine Z1 ln ?_
 refine Z1 mo ?_
 refine Z1 ln ?_
 refine Z1 bz ?_
 refine cn ?_
 refine cd (fun hb=>?_) fun hb=>?_
 ·have hne:¬ (a.length:Int)=b.length:=by simpa using hb
  refine sq ?_
  refine Z1 aB ?_
  refine cn ?_
  refine aP ?_
  exact ⟨.inl rfl,aF.tmp rfl (by rw [aHK hne];rfl),trivial⟩
 ·have hll:(a.length:Int)=b.length:=by simpa using hb
  refine aQ ?_
  refine aD ?_
  refine sq ?_
  refine Z1 mo ?_
  refine Z1 ln ?_
  refine Z1 mo ?_
  refine cn ?_
  refine aU ?_
  refine bM (ι:=Nat) (fun k=>⟨[(0,bs a),(1,bs b),(12,vi (a.length:Int)),(13,vi k)],[]⟩) (fun k=>k≤a.length∧∀ j,j<k→a.getD j 0=b.getD j 0) (fun k=>a.length-k) 0 (⟨Nat.zero_le _,fun j hj=>absurd hj (by omega)⟩) (Le.sub (by repeat (first|trivial|refine ⟨.inr rfl,?_⟩|refine ⟨.inr (aR (by omega)),?_⟩)) (by repeat (first|trivial|refine ⟨rfl,?_⟩))) ?_
  intro k hI
  refine sq ?_
  refine Z1 bz ?_
  refine cn ?_
  refine aD ?_
  refine cd (fun hb=>?_) fun hb=>?_
  ·have hlt:k<a.length:=by have h0:=of_decide_eq_true hb;omega
   refine aQ ?_
   refine aD ?_
   refine aU ?_
   refine sq ?_
   refine Z1 mo ?_
   refine Z1 aB ?_
   refine cn ?_
   refine aD ?_
   refine dw ?_
   refine Z1 mo ?_
   refine Z1 mo ?_
   refine Z1 ia ?_
   refine Z1 ld ?_
   refine Z1 mo ?_
   refine Z1 mo ?_
   refine Z1 ia ?_
   refine Z1 ld ?_
   refine Z1 bz ?_
   refine cn (dn ?_)
   refine cd (fun hb=>?_) fun hb=>?_
   ·have heq:¬ (a.getD k 0)=(b.getD k 0):=by simpa using hb
    refine sq ?_
    refine Z1 aB ?_
    refine cn ?_
    refine aP ?_
    exact ⟨.inl rfl,aF.tmp rfl (by rw [aHL heq];rfl),trivial⟩
   ·have heq:(a.getD k 0)=(b.getD k 0):=by simpa using hb
    refine aQ ?_
    refine tx ?_
    refine Z1 ba ?_
    refine Z1 mo ?_
    refine cn ?_
    exact ⟨k+1,⟨by omega,aC3 (p:=fun j=>a.getD j 0=b.getD j 0) hI.2 heq⟩,by omega,Le.sub (by repeat (first|trivial|refine ⟨.inr rfl,?_⟩|refine ⟨.inr (aR (by omega)),?_⟩)) trivial⟩
  ·have hge:k=a.length:=by have h0:=of_decide_eq_false hb;omega
   refine bU ?_
   refine sq ?_
   refine Z1 aB ?_
   refine cn ?_
   refine aP ?_
   exact ⟨.inl rfl,aF.tmp rfl (by rw [aHM hll hge hI.2];rfl),trivial⟩
theorem aO3 (p:PoolP)(hal:p.at_.length≤5000000)(hbl:p.bytes.length≤100000000)(hBt:dC p.bytes)(hl:∀ i,(eT p i).1.length≤5000)(hab:∀ k,(p.abbrevs.getD k ByteArray.empty).size≤5000)(habl:p.abbrevs.length≤1000000):PC Tryz.prog 132 [kO p] (.tup [bB (allP p).1,vi (allP p).2]):=by
 refine FC.body 2 29 Tryz.func132 rfl (by kernel_rfl) ?_
 refine sq ?_
 refine V ?_
 refine sq ?_
 refine V ?_
 refine aD ?_
 refine sq ?_
 refine V ?_
 refine aU ?_
 refine bS (Le.nameNil 4 0 1 9 rfl rfl) ?_
 refine bM (ι:=(Nat × List ByteArray)) (fun q=>⟨[(1,.ptr (kO p)),(4,.osl 1 0 q.2.length),(10,vi (p.at_.length:Int)),(11,vi q.1)],[(0,.live 9 (q.2.map vs)),(1,.unborn)]⟩) (fun q=>q.1≤p.at_.length∧q.2.length=q.1∧allP p=qH (poolTx p) (p.at_.length-q.1) q.1 q.2) (fun q=>p.at_.length-q.1) (0,[]) (⟨Nat.zero_le _,rfl,rfl⟩) (Le.sub (by repeat (first|trivial|refine ⟨.inr rfl,?_⟩)) ⟨rfl,rfl,trivial⟩) ?_
 intro q hI
 obtain ⟨g1,g2,g3⟩:=hI
 refine W ?_
 refine cd (fun hb=>?_) fun hb=>?_
 ·have hlt:q.1<p.at_.length:=by have h0:=of_decide_eq_true hb;omega
  refine W ?_
  refine Z1 (ca (aZM p (q.1:Int) hal hbl hBt (hl _) hab habl)) ?_
  refine W ?_
  refine cd (fun hb=>?_) fun hb=>?_
  ·have he0:(poolTx p (q.1:Int)).2≠0:=by simpa using hb
   refine W ?_
   exact ⟨.inl rfl,by rw [aO0 (show allP p=([],(poolTx p (q.1:Int)).2) from by rw [g3,show p.at_.length-q.1=(p.at_.length-(q.1+1))+1 from by omega];exact aZR he0)];exact aF.two rfl ((aT.tmp rfl).to fun E v h=>uA (by decide) E v h) (aT.tmp rfl),trivial⟩
  ·have he0:(poolTx p (q.1:Int)).2=0:=by simpa using hb
   refine W ?_
   refine Z1 (fO (ps:=[.tmp 24]) (xs:=[.val _]) (e:=9) (k:=1) (by_:=16) (zs:=[.string ⟨#[]⟩]) rfl (by kernel_rfl) (by kernel_rfl) rfl rfl rfl (by decide) (by decide)) ?_
   refine aZ rfl rfl (iG (e:=9) (k:=1) (by_:=16) (zs:=[.string ⟨#[]⟩]) (cs:=q.2.map vs) (ds:=[vs (poolTx p (q.1:Int)).1]) 1 rfl rfl rfl (by kernel_rfl) (by kernel_rfl) rfl (by decide) (by decide) (by simp) rfl (aNV _) (by omega) (by omega)) ⟨rfl,rfl,trivial⟩ ?_
   refine V ?_
   refine bS (Le.trans (Le.swap (τ:=⟨[(1,.ptr (kO p)),(4,.osl 1 0 (q.2.length+1)),(10,vi (p.at_.length:Int)),(11,vi q.1)],[(0,.live 9 ((q.2++[(poolTx p (q.1:Int)).1]).map vs)),(1,.dead)]⟩) 0 1 (by simp) (by simp) ⟨(iR _ _ (by unfold aN;exact sQ p)).symm,rfl,rfl,rfl,trivial⟩ ⟨by show aL _ 1=some (Hs.live _ (((q.2++[(poolTx p (q.1:Int)).1]).map vs).map _));rw [aCO,show ((q.2++[(poolTx p (q.1:Int)).1]).map vs)=q.2.map vs++[vs (poolTx p (q.1:Int)).1] from List.map_append];rfl,rfl,trivial⟩) (Le.reset (τ:=⟨[(1,.ptr (kO p)),(4,.osl 1 0 (q.2.length+1)),(10,vi (p.at_.length:Int)),(11,vi q.1)],[(0,.live 9 ((q.2++[(poolTx p (q.1:Int)).1]).map vs)),(1,.unborn)]⟩) [1] (by simp) ⟨.inr rfl,.inr rfl,.inr rfl,.inr rfl,trivial⟩ ⟨aE.of_pure _ (by unfold aN;exact sQ p),by simp [aE],by simp [aE],by simp [aE],trivial⟩ ⟨by rw [if_neg (by decide)];exact ⟨rfl,aCP _⟩,by rw [if_pos (by decide)],trivial⟩)) ?_
   refine W ?_
   exact ⟨(q.1+1,(q.2++[(poolTx p (q.1:Int)).1])),⟨by show q.1+1≤_;omega,by show (q.2++[_]).length=q.1+1;rw [List.length_append,g2];rfl,by rw [g3,show p.at_.length-q.1=(p.at_.length-(q.1+1))+1 from by omega];exact aOZ he0⟩,by show _-(q.1+1)<_;omega,Le.sub (by repeat (first|trivial|refine ⟨.inr rfl,?_⟩|refine ⟨.inr (aR (by show (q.1:Int)+1=((q.1+1:Nat):Int);omega)),?_⟩|refine ⟨.inr (by show bN _ 4=Av.osl 1 0 (q.2++[(poolTx p (q.1:Int)).1]).length;rw [List.length_append];rfl),?_⟩)) ⟨rfl,rfl,trivial⟩⟩
 ·have hge:q.1=p.at_.length:=by have h0:=of_decide_eq_false hb;omega
  have hfin:allP p=(q.2,0):=by rw [g3,hge,Nat.sub_self];rfl
  refine bU ?_
  refine aD ?_
  refine bS (Le.freeze 4 0 (fun j=>vs (q.2.getD j ByteArray.empty)) rfl rfl (by simp) (aCN _)) ?_
  refine W ?_
  exact ⟨.inl rfl,by rw [aO0 hfin];exact aF.two rfl (aT.tmp rfl) (aT.tmp rfl),trivial⟩
end Go.Proofs.YtnklgkjfoggpbaaGreatDoor
