/- Parts of the proof of a law of this seat: rules and contracts; no conditions. -/
import Derived.Test.YtnklgkjfoggpbaaGreatDoorRdf
import Derived.Test.YtnklgkjfoggpbaaGreatDoorFv
import Derived.Test.YtnklgkjfoggpbaaGreatDoorPl
import Derived.Test.YtnklgkjfoggpbaaGreatDoorProg
import Derived.KernelRfl
import Derived.Test.YtnklgkjfoggpbaaGreatDoorLt
set_option maxHeartbeats 6400000
set_option maxRecDepth 100000
set_option linter.unusedVariables false
set_option linter.unusedSimpArgs false
namespace Go.Proofs.YtnklgkjfoggpbaaGreatDoor
open Go.RowKit
def jT:StoryP:=⟨⟨0,0,0,0,[],0,[],[],[],[],[],[],[],[],[]⟩,[],[]⟩
theorem wY (E:Env)(v:Value)(h:aA E (.agg [vi 0,vi 0,vi 0,vi 0,.val (.slice none 0 0),vi 0,.val (.slice none 0 0),.val (.slice none 0 0),.val (.slice none 0 0),.val (.slice none 0 0),.val (.slice none 0 0),.val (.slice none 0 0),.val (.slice none 0 0),.val (.slice none 0 0),.val (.slice none 0 0),.val (.slice none 0 0),.val (.slice none 0 0)]) v):aA E (cX jT) v:=by
 refine aAG h rfl fun E i x y hx hy v h=>?_
 rcases i with _|_|_|_|_|_|_|_|_|_|_|_|_|_|_|_|_|i<;>simp at hx hy<;>subst hx<;>subst hy<;>first|exact h|exact qI E v h
def vA (c:List Int):Bool:=(decide ((c.length:Int)<5)||((strOfNums (c.take 4)).toList !=(⟨#[67,76,69,87]⟩:ByteArray).toList))||(c.getD 4 0 !=1)
noncomputable def rdS (c:List Int):StoryP × bF:=gStory c (5,0)
noncomputable def readP (b:List Int):StoryP × Int:=
 if (cB b).2≠0 then (jT,(cB b).2)
 else if vA (cB b).1=true then (jT,15)
 else if tC (cB b).1.length (rdS (cB b).1).2.1 (rdS (cB b).1).2.2≠0 then (jT,tC (cB b).1.length (rdS (cB b).1).2.1 (rdS (cB b).1).2.2)
 else if (gV (rdS (cB b).1).1).2≠0∨iL (rdS (cB b).1).1.tab=false then (jT,18)
 else if (writeP (rdS (cB b).1).1).2≠0∨strOfNums (writeP (rdS (cB b).1).1).1≠strOfNums b then (jT,4)
 else ((rdS (cB b).1).1,0)
theorem yT {a b:StoryP × Int}(h:a=b):Av.tup [cX a.1,vi a.2]=.tup [cX b.1,vi b.2]:=by rw [h]
theorem ai5 {c:List Int}{n:Nat}(h:n≤c.length)(E:Env)(v:Value)(hr:aA E (.sl 1 n (bv c)) v):aA E (bs (c.take n)) v:=by
 have hl:(c.take n).length=n:=by rw [List.length_take];omega
 unfold bs
 rw [hl]
 refine pI (fun E k hk v hv=>?_) E v hr
 have e:(c.take n).getD k 0=c.getD k 0:=by rw [List.getD,List.getD,List.getElem?_take,if_pos hk]
 unfold bv
 rw [e]
 exact hv
theorem aBL {α:Type}{Q:α→Prop}{one:fV α}(h:∀ s,Q (one s).1):∀ (f:Nat) (s:bF) (l:List α),(∀ x∈l,Q x)→(∀ x∈(dT one f s l).1,Q x)∧(dT one f s l).1.length≤l.length+f
 | 0,s,l,hl=>⟨hl,Nat.le_refl _⟩
 | f+1,s,l,hl=>by
  unfold dT
  split
  ·have h1:=aBL h f (one s).2 (l++[(one s).1]) fun x hx=>by
    rcases List.mem_append.1 hx with hx|hx
    ·exact hl x hx
    ·rw [List.mem_singleton] at hx;subst hx;exact h s
   refine ⟨h1.1,?_⟩
   have h2:=h1.2
   rw [List.length_append] at h2
   simp only [List.length_cons,List.length_nil] at h2
   omega
  ·exact ⟨hl,by show l.length≤_;omega⟩
theorem wZ {α:Type}{Q:α→Prop}{many:fV Int}{one:fV α}(h:∀ s,Q (one s).1)(s:bF):∀ x∈(cV many one s).1,Q x:=(aBL h _ _ [] fun x hx=>by cases hx).1
theorem yU {α:Type}{one:fV α}{xs:List Int}(hb:cI xs)(s:bF):(cV (cJ xs) one s).1.length≤65536:=by
 have h1:=(aBL (Q:=fun _=>True) (one:=one) (fun _=>trivial) (cJ xs s).1.toNat (cJ xs s).2 [] fun _ _=>trivial).2
 have h2:=wO hb (most:=65536) (by decide) s
 have h3:(cJ xs s).1=(rS xs 65536 s).1:=rfl
 show (dT one (cJ xs s).1.toNat (cJ xs s).2 []).1.length≤_
 simp only [List.length_nil] at h1
 omega
theorem aFD (s:ByteArray):(jZ s).length=s.size:=by unfold jZ;rw [List.length_map,Array.length_toList];rfl
theorem aLC {xs:List Int}(hl:xs.length≤1000000)(s:bF):SW (gTexts xs s).1:=wZ (Q:=fun x:ByteArray=>x.size≤9223372036854775807) (many:=cJ xs) (one:=gText xs) (fun s=>aK1 hl) s
theorem aTO {c:List Int}(hl:c.length≤1000000)(hb:cI c)(ht:SW (aTe c (5,0)).1):SOk (rdS c).1:=by
 unfold rdS gStory
 dsimp only
 refine ⟨⟨ht,?_,?_⟩,?_,?_,?_,?_,?_,?_⟩<;>dsimp only
 ·exact wZ (Q:=ThingP.wf) (many:=cJ c) (one:=gThing c) (fun s=>by unfold gThing;exact ⟨aLC hl _,aLC hl _⟩) (aGl c (5,0)).2
 ·refine wZ (Q:=VerbP.wf) (many:=cJ c) (one:=gAct c) (fun s=>?_) (aTh c (5,0)).2
  show ∀ l∈(gLines c (rX c s).2).1,∀ y∈l,SlotP.wf y
  unfold gLines
  exact wZ (Q:=fun l=>∀ y∈l,SlotP.wf y) (many:=cJ c) (one:=gLine c) (fun s=>by unfold gLine;exact wZ (Q:=SlotP.wf) (many:=cJ c) (one:=gSlot c) (fun s=>aLC hl (rB c s).2) s) (rX c s).2
 ·have:=aFB c 65536 (sM c (aDe c (5,0)).2 5)
  have h2:(jZ (aCo c (5,0)).1).length=(aCo c (5,0)).1.size:=aFD _
  have h3:(aCo c (5,0)).1=(rT c 65536 (sM c (aDe c (5,0)).2 5)).1:=by unfold aCo gText;rfl
  rw [←h3] at this
  omega
 ·exact uM (aIN _)
 ·exact Nat.le_trans (yU (one:=cJ c) hb _) (by omega)
 ·exact Nat.le_trans (yU (one:=cJ c) hb _) (by omega)
 ·exact Nat.le_trans (yU (one:=cJ c) hb _) (by omega)
 ·have h1:∀ x∈(aTh c (5,0)).1,x.words.length≤65536∧x.adjs.length≤65536∧x.ways.length≤65536:=wZ (Q:=fun x:ThingP=>x.words.length≤65536∧x.adjs.length≤65536∧x.ways.length≤65536) (many:=cJ c) (one:=gThing c) (fun s=>by unfold gThing;exact ⟨yU (one:=gText c) hb _,yU (one:=gText c) hb _,yU (one:=rW c) hb _⟩) (aGl c (5,0)).2
  cases hq:(aTh c (5,0)).1 with
  | nil=>exact ⟨Nat.zero_le _,Nat.zero_le _,Nat.zero_le _⟩
  | cons x l=>
   have h2:=h1 x (by rw [hq];simp)
   show x.words.length≤_∧x.adjs.length≤_∧x.ways.length≤_
   omega
theorem aLA (b:List Int):(cB b).1.length≤b.length:=by
 unfold cB
 split
 ·exact Nat.zero_le _
 ·split
  ·unfold lH;rw [List.length_take];omega
  ·exact Nat.zero_le _
theorem aLB {b:List Int}(h:dF b):cI (cB b).1:=by
 unfold cB
 split
 ·exact fun x hx=>by cases hx
 ·split
  ·exact fun x hx=>mV.1 h x (List.mem_of_mem_take hx)
  ·exact fun x hx=>by cases hx
theorem aK9 (b:List Int)(hl:b.length≤1000000)(hby:dF b)(hsw:(cB b).2=0→SW (aTe (cB b).1 (5,0)).1)(hA:(cB b).2=0→(gPoolP (cB b).1 (sN (cB b).1 (5,0) 5)).2.2=0→PC Tryz.prog 132 [kO (gPoolP (cB b).1 (sN (cB b).1 (5,0) 5)).1] (.tup [bB (allP (gPoolP (cB b).1 (sN (cB b).1 (5,0) 5)).1).1,vi (allP (gPoolP (cB b).1 (sN (cB b).1 (5,0) 5)).1).2])):PC Tryz.prog 7 [bs b] (.tup [cX (readP b).1,vi (readP b).2]):=by
 have hcl:=aLA b
 have hcb:=aLB hby
 obtain ⟨R,hR⟩:∃ R,R=rdS (cB b).1:=⟨_,rfl⟩
 refine FC.body 3 86 Tryz.func7 rfl (by kernel_rfl) ?_
 refine sq ?_
 refine Z2 (al 1 [.int .i64 0,.int .i64 0,.int .i64 0,.int .i64 0,.slice none 0 0,.int .i64 0,.slice none 0 0,.slice none 0 0,.slice none 0 0,.slice none 0 0,.slice none 0 0,.slice none 0 0,.slice none 0 0,.slice none 0 0,.slice none 0 0,.slice none 0 0,.slice none 0 0]) ?_
 refine Z1 aB ?_
 refine cn ?_
 refine sq ?_
 refine Z1 mo ?_
 refine Z1 (ca (aO5 b hby (by omega))) ?_
 refine Z1 mo ?_
 refine Z1 ex ?_
 refine Z1 ex ?_
 refine Z1 aB ?_
 refine Z1 aB ?_
 refine cn ?_
 refine aD ?_
 refine sq ?_
 refine Z1 mo ?_
 refine Z1 bz ?_
 refine cn ?_
 refine cd (fun hb=>?_) fun hb=>?_
 ·have h0:(cB b).2≠0:=bne_iff_ne.1 hb
  refine sq ?_
  refine Z1 (bd [(0,15),(15,1),(16,1)] [.int .i64 0,.int .i64 0,.int .i64 0,.int .i64 0,.slice none 0 0,.int .i64 0,.slice none 0 0,.slice none 0 0,.slice none 0 0,.slice none 0 0,.slice none 0 0,.slice none 0 0,.slice none 0 0,.slice none 0 0,.slice none 0 0,.slice none 0 0,.slice none 0 0] [.val _,.val _,.val _,.val _,.val _,.val _,.val _,.val _,.val _,.val _,.val _,.val _,.val _,.val _,.val _,.val _,.val _]) ?_
  refine Z1 mo ?_
  refine bW [_,_,_,_,_,_,_,_,_,_,_,_,_,_,_,_,_] ?_
  refine Z1 aB ?_
  refine cn ?_
  refine aP ?_
  exact ⟨.inl rfl,by rw [yT (show readP b=_ from by unfold readP;rw [←hR,if_pos h0])];exact aF.two rfl ((aT.row rfl rfl (by kernel_rfl) (by kernel_rfl) (Nat.le_of_ble_eq_true rfl)).to wY) (aT.tmp rfl),trivial⟩
 ·have h0:(cB b).2=0:=bne_eq_false_iff_eq.1 hb
  refine aQ ?_
  refine sq ?_
  refine Z1 aB ?_
  refine cn ?_
  refine aD ?_
  refine sq ?_
  refine Z1 mo ?_
  refine Z1 ln ?_
  refine Z1 mo ?_
  refine Z1 bz ?_
  refine Z1 mo ?_
  refine Z4 (fun hC=>mo) ?_
  refine aW (R:=[]) rfl rfl rfl eV (fun hC=>by
   have h5:¬ ((cB b).1.length:Int)<5:=of_decide_eq_false (by simpa using hC)
   exact OC.to (aGO (e:=5) (by_:=1) (zs:=[.int .u8 0]) 4 rfl rfl rfl (by kernel_rfl) (by kernel_rfl) (by omega)) (ai5 (by omega))) (fun hC=>⟨(by first|rfl|exact hC|(simp only [Bool.and_eq_true] at hC;first|exact hC.1|exact hC.1.1|exact hC.2)|simp_all),(by first|rfl|exact hC|(simp only [Bool.and_eq_true] at hC;first|exact hC.1|exact hC.1.1|exact hC.2)|simp_all),trivial⟩) trivial ?_
  refine aW (R:=[]) rfl rfl rfl eV (fun hC=>vX ((cB b).1.take 4) rfl rfl (by kernel_rfl)) (fun hC=>⟨(by first|rfl|exact hC|(simp only [Bool.and_eq_true] at hC;first|exact hC.1|exact hC.1.1|exact hC.2)|simp_all),trivial⟩) trivial ?_
  refine Z4 (fun hC=>zR rfl rfl rfl) ?_
  refine Z1 cC ?_
  refine Z1 mo ?_
  refine Z4 (fun hC=>mo) ?_
  refine aW (R:=[]) rfl rfl rfl eV (fun hC=>by
   have h5:¬ ((cB b).1.length:Int)<5:=by
    intro h
    rw [show decide (((cB b).1.length:Int)<5)=true from decide_eq_true h] at hC
    simp at hC
   exact rJ (j:=4) rfl rfl rfl (by kernel_rfl) (by omega)) (fun hC=>⟨(by first|rfl|exact hC|(simp only [Bool.and_eq_true] at hC;first|exact hC.1|exact hC.1.1|exact hC.2)|simp_all),(by first|rfl|exact hC|(simp only [Bool.and_eq_true] at hC;first|exact hC.1|exact hC.1.1|exact hC.2)|simp_all),trivial⟩) trivial ?_
  refine Z4 (fun hC=>ld) ?_
  refine Z4 (fun hC=>bz) ?_
  refine Z1 cC ?_
  refine cn ?_
  refine cd (fun hb=>?_) fun hb=>?_
  ·have h1:vA (cB b).1=true:=hb
   refine sq ?_
   refine Z1 (bd [(0,15),(15,1),(16,1)] [.int .i64 0,.int .i64 0,.int .i64 0,.int .i64 0,.slice none 0 0,.int .i64 0,.slice none 0 0,.slice none 0 0,.slice none 0 0,.slice none 0 0,.slice none 0 0,.slice none 0 0,.slice none 0 0,.slice none 0 0,.slice none 0 0,.slice none 0 0,.slice none 0 0] [.val _,.val _,.val _,.val _,.val _,.val _,.val _,.val _,.val _,.val _,.val _,.val _,.val _,.val _,.val _,.val _,.val _]) ?_
   refine bW [_,_,_,_,_,_,_,_,_,_,_,_,_,_,_,_,_] ?_
   refine Z1 aB ?_
   refine cn ?_
   refine aP ?_
   exact ⟨.inl rfl,by rw [yT (show readP b=_ from by unfold readP;rw [←hR,if_neg (Classical.not_not.2 h0),if_pos h1])];exact aF.two rfl ((aT.row rfl rfl (by kernel_rfl) (by kernel_rfl) (Nat.le_of_ble_eq_true rfl)).to wY) (aT.tmp rfl),trivial⟩
  ·have h1:vA (cB b).1=false:=hb
   have hok:SOk R.1:=by rw [hR];exact aTO (c:=(cB b).1) (by omega) hcb (hsw h0)
   refine aQ ?_
   refine sq ?_
   refine Z1 mo ?_
   refine Z1 mo ?_
   refine Z1 (bd [(0,1),(1,1),(2,1)] [.slice none 0 0,.int .i64 0,.int .i64 0] [.sl _ _ _,.val _,.val _]) ?_
   refine Z1 (bd [(0,3)] [.slice none 0 0,.int .i64 0,.int .i64 0] [_,_,_]) ?_
   refine Z2 (aQN (x:=.agg _) 0 rfl rfl rfl) ?_
   refine Z1 aB ?_
   refine cn ?_
   refine sq ?_
   refine Z1 mo ?_
   refine cr (show FC _ _ [.own 0 0] [(0,.live 62 (aV (cB b).1 (5,0)))] (cX R.1) [(0,.live 62 (aV (cB b).1 R.2))] from by rw [hR];exact aiR (cB b).1 (by omega) hcb (5,0) (hA h0)) ?_
   refine Z2 (al 2 [.int .i64 0,.int .i64 0,.int .i64 0,.int .i64 0,.slice none 0 0,.int .i64 0,.slice none 0 0,.slice none 0 0,.slice none 0 0,.slice none 0 0,.slice none 0 0,.slice none 0 0,.slice none 0 0,.slice none 0 0,.slice none 0 0,.slice none 0 0,.slice none 0 0]) ?_
   refine bW [_,_,_,_,_,_,_,_,_,_,_,_,_,_,_,_,_] ?_
   refine cn ?_
   refine aD ?_
   refine sq ?_
   refine Z1 mo ?_
   refine dO ?_
   refine aS 0 3 true ?_
   refine dE 3 [_,_,_] ?_
   refine Z1 (ca (afA (cB b).1 R.2)) ?_
   refine Z1 aB ?_
   refine cn ?_
   refine sq ?_
   refine Z1 mo ?_
   refine Z1 bz ?_
   refine cn ?_
   refine cd (fun hb=>?_) fun hb=>?_
   ·have h2:tC (cB b).1.length R.2.1 R.2.2≠0:=bne_iff_ne.1 hb
    refine sq ?_
    refine Z1 (bd [(0,15),(15,1),(16,1)] [.int .i64 0,.int .i64 0,.int .i64 0,.int .i64 0,.slice none 0 0,.int .i64 0,.slice none 0 0,.slice none 0 0,.slice none 0 0,.slice none 0 0,.slice none 0 0,.slice none 0 0,.slice none 0 0,.slice none 0 0,.slice none 0 0,.slice none 0 0,.slice none 0 0] [.val _,.val _,.val _,.val _,.val _,.val _,.val _,.val _,.val _,.val _,.val _,.val _,.val _,.val _,.val _,.val _,.val _]) ?_
    refine Z1 mo ?_
    refine bW [_,_,_,_,_,_,_,_,_,_,_,_,_,_,_,_,_] ?_
    refine Z1 aB ?_
    refine cn ?_
    refine aP ?_
    exact ⟨.inl rfl,by rw [yT (show readP b=_ from by unfold readP;rw [←hR,if_neg (Classical.not_not.2 h0),if_neg (by rw [h1];decide),if_pos h2])];exact aF.two rfl ((aT.row rfl rfl (by kernel_rfl) (by kernel_rfl) (Nat.le_of_ble_eq_true rfl)).to wY) (aT.tmp rfl),trivial⟩
   ·have h2:tC (cB b).1.length R.2.1 R.2.2=0:=bne_eq_false_iff_eq.1 hb
    refine aQ ?_
    refine aD ?_
    refine sq ?_
    refine dE 17 [_,_,_,_,_,_,_,_,_,_,_,_,_,_,_,_,_] ?_
    refine Z1 (ca (aIZ R.1 hok.code hok.by_ hok.entry hok.funcs hok.params)) ?_
    refine Z1 mo ?_
    refine Z1 ex ?_
    refine Z1 ex ?_
    refine Z1 aB ?_
    refine Z1 aB ?_
    refine cn ?_
    refine sq ?_
    refine Z1 mo ?_
    refine Z1 bz ?_
    refine Z1 mo ?_
    refine aW (R:=[(_,.live _ _)]) rfl rfl rfl eV (fun hC=>eU (off:=0) (sz:=15) (r:=true) rfl rfl (by first|decide|simp) (by kernel_rfl) (by decide)) (fun hC=>⟨(by first|rfl|exact hC|(simp only [Bool.and_eq_true] at hC;first|exact hC.1|exact hC.1.1|exact hC.2)|simp_all),trivial⟩) ⟨rfl,trivial⟩ ?_
    refine aW (R:=[(_,.live _ _)]) rfl rfl rfl eV (fun hC=>mA (k:=15) (ds:=[_,_,_,_,_,_,_,_,_,_,_,_,_,_,_]) rfl rfl (by kernel_rfl) (by kernel_rfl) rfl rfl (by decide)) (fun hC=>⟨(by first|rfl|exact hC|(simp only [Bool.and_eq_true] at hC;first|exact hC.1|exact hC.1.1|exact hC.2)|simp_all),trivial⟩) ⟨rfl,trivial⟩ ?_
    refine Z4 (fun hC=>ca (aIX R.1.tab hok.wf)) ?_
    refine Z4 (fun hC=>nt) ?_
    refine Z1 cC ?_
    refine cn ?_
    refine cd (fun hb=>?_) fun hb=>?_
    ·have h3:(gV R.1).2≠0∨iL R.1.tab=false:=by simpa only [Bool.or_eq_true,bne_iff_ne,ne_eq,Bool.not_eq_true'] using hb
     refine sq ?_
     refine Z1 (bd [(0,15),(15,1),(16,1)] [.int .i64 0,.int .i64 0,.int .i64 0,.int .i64 0,.slice none 0 0,.int .i64 0,.slice none 0 0,.slice none 0 0,.slice none 0 0,.slice none 0 0,.slice none 0 0,.slice none 0 0,.slice none 0 0,.slice none 0 0,.slice none 0 0,.slice none 0 0,.slice none 0 0] [.val _,.val _,.val _,.val _,.val _,.val _,.val _,.val _,.val _,.val _,.val _,.val _,.val _,.val _,.val _,.val _,.val _]) ?_
     refine bW [_,_,_,_,_,_,_,_,_,_,_,_,_,_,_,_,_] ?_
     refine Z1 aB ?_
     refine cn ?_
     refine aP ?_
     exact ⟨.inl rfl,by rw [yT (show readP b=_ from by unfold readP;rw [←hR,if_neg (Classical.not_not.2 h0),if_neg (by rw [h1];decide),if_neg (Classical.not_not.2 h2),if_pos h3])];exact aF.two rfl ((aT.row rfl rfl (by kernel_rfl) (by kernel_rfl) (Nat.le_of_ble_eq_true rfl)).to wY) (aT.tmp rfl),trivial⟩
    ·have h3:¬ ((gV R.1).2≠0∨iL R.1.tab=false):=by
      rw [Bool.or_eq_false_iff] at hb
      rintro (h|h)
      ·exact h (bne_eq_false_iff_eq.1 hb.1)
      ·rw [h] at hb;simp at hb
     refine aQ ?_
     refine aD ?_
     refine sq ?_
     refine dE 17 [_,_,_,_,_,_,_,_,_,_,_,_,_,_,_,_,_] ?_
     refine Z1 (ca (aAN R.1 hok)) ?_
     refine Z1 mo ?_
     refine Z1 ex ?_
     refine Z1 ex ?_
     refine Z1 aB ?_
     refine Z1 aB ?_
     refine cn ?_
     refine sq ?_
     refine Z1 mo ?_
     refine Z1 bz ?_
     refine Z1 mo ?_
     refine Z4 (fun hC=>mo) ?_
     refine aW (R:=[]) rfl rfl rfl eV (fun hC=>vX (writeP R.1).1 rfl rfl (by kernel_rfl)) (fun hC=>⟨(by first|rfl|exact hC|(simp only [Bool.and_eq_true] at hC;first|exact hC.1|exact hC.1.1|exact hC.2)|simp_all),trivial⟩) trivial ?_
     refine Z4 (fun hC=>mo) ?_
     refine aW (R:=[]) rfl rfl rfl eV (fun hC=>vX b rfl rfl (by kernel_rfl)) (fun hC=>⟨(by first|rfl|exact hC|(simp only [Bool.and_eq_true] at hC;first|exact hC.1|exact hC.1.1|exact hC.2)|simp_all),trivial⟩) trivial ?_
     refine Z4 (fun hC=>zR rfl rfl rfl) ?_
     refine Z1 cC ?_
     refine cn ?_
     refine cd (fun hb=>?_) fun hb=>?_
     ·have h4:(writeP R.1).2≠0∨strOfNums (writeP R.1).1≠strOfNums b:=by
       rw [Bool.or_eq_true] at hb
       rcases hb with h|h
       ·exact .inl (bne_iff_ne.1 h)
       ·refine .inr fun e=>?_
        rw [e] at h
        simp at h
      refine sq ?_
      refine Z1 (bd [(0,15),(15,1),(16,1)] [.int .i64 0,.int .i64 0,.int .i64 0,.int .i64 0,.slice none 0 0,.int .i64 0,.slice none 0 0,.slice none 0 0,.slice none 0 0,.slice none 0 0,.slice none 0 0,.slice none 0 0,.slice none 0 0,.slice none 0 0,.slice none 0 0,.slice none 0 0,.slice none 0 0] [.val _,.val _,.val _,.val _,.val _,.val _,.val _,.val _,.val _,.val _,.val _,.val _,.val _,.val _,.val _,.val _,.val _]) ?_
      refine bW [_,_,_,_,_,_,_,_,_,_,_,_,_,_,_,_,_] ?_
      refine Z1 aB ?_
      refine cn ?_
      refine aP ?_
      exact ⟨.inl rfl,by rw [yT (show readP b=_ from by unfold readP;rw [←hR,if_neg (Classical.not_not.2 h0),if_neg (by rw [h1];decide),if_neg (Classical.not_not.2 h2),if_neg h3,if_pos h4])];exact aF.two rfl ((aT.row rfl rfl (by kernel_rfl) (by kernel_rfl) (Nat.le_of_ble_eq_true rfl)).to wY) (aT.tmp rfl),trivial⟩
     ·have h4:¬ ((writeP R.1).2≠0∨strOfNums (writeP R.1).1≠strOfNums b):=by
       rw [Bool.or_eq_false_iff] at hb
       rintro (h|h)
       ·exact h (bne_eq_false_iff_eq.1 hb.1)
       ·refine h ?_
        have h6:=tT (strOfNums (writeP R.1).1) (strOfNums b)
        have h7:((strOfNums (writeP R.1).1).toList==(strOfNums b).toList)=true:=by have:=hb.2;simpa using this
        rw [h6] at h7
        exact of_decide_eq_true h7
      refine aQ ?_
      refine sq ?_
      refine dE 17 [_,_,_,_,_,_,_,_,_,_,_,_,_,_,_,_,_] ?_
      refine bW [_,_,_,_,_,_,_,_,_,_,_,_,_,_,_,_,_] ?_
      refine Z1 aB ?_
      refine cn ?_
      refine aP ?_
      exact ⟨.inl rfl,by rw [yT (show readP b=_ from by unfold readP;rw [←hR,if_neg (Classical.not_not.2 h0),if_neg (by rw [h1];decide),if_neg (Classical.not_not.2 h2),if_neg h3,if_neg h4])];exact aF.two rfl (aT.row rfl rfl (by kernel_rfl) (by kernel_rfl) (Nat.le_of_ble_eq_true rfl)) (aT.tmp rfl),trivial⟩
end Go.Proofs.YtnklgkjfoggpbaaGreatDoor
