/- Parts of the proof of a law of this seat: rules and contracts; no conditions. -/
import Derived.Test.YtnklgkjfoggpbaaGreatDoorLt
import Derived.Test.YtnklgkjfoggpbaaGreatDoorRdb
import Derived.Test.YtnklgkjfoggpbaaGreatDoorProg
import Derived.KernelRfl
set_option maxHeartbeats 6400000
set_option maxRecDepth 100000
set_option linter.unusedVariables false
set_option linter.unusedSimpArgs false
namespace Go.Proofs.YtnklgkjfoggpbaaGreatDoor
open Go.RowKit
theorem aRS (xs:List Int)(s0:bF)(m:Av)(K2:Nat)(many:fV Int)(one:fV ByteArray)(hm:∀ s,MC Tryz.prog m 62 (aV xs s) (vi (many s).1) (aV xs (many s).2))(hK:dN Tryz.prog K2=true)(ho:∀ s,FC Tryz.prog K2 [.own 0 0] [(0,.live 62 (aV xs (s)))] (vs (one s).1) [(0,.live 62 (aV xs ((one s).2)))])(hmb:∀ s,0≤(many s).1∧(many s).1≤10000000):FC Tryz.prog 127 [.own 0 0,m,.bm K2 [.own 0 0]] [(0,.live 62 (aV xs (s0)))] (bB (cV many one s0).1) [(0,.live 62 (aV xs ((cV many one s0).2)))]:=by
 have hmb0:=hmb s0
 refine FC.body 3 29 Tryz.func127 rfl (by kernel_rfl) ?_
 refine sq ?_
 refine Z1 aB ?_
 refine cn ?_
 refine sq ?_
 refine Z1 aB ?_
 refine cn ?_
 refine aD ?_
 refine sq ?_
 refine Z1 (oM (x:=m) rfl rfl) ?_
 refine cm (hm s0) ?_
 refine Z1 aB ?_
 refine cn ?_
 refine aU ?_
 refine bS (Le.nameNil 7 1 1 9 rfl rfl) ?_
 refine bM (ι:=Nat × List ByteArray × bF) (fun q=>⟨[(0,.own 0 0),(2,.bm K2 [.own 0 0]),(7,.osl 1 1 q.2.1.length),(8,vi (q.1:Int))],[(0,.live 62 (aV xs q.2.2)),(1,.live 9 (gK vs q.2.1)),(2,.unborn)]⟩) (fun q=>dT one q.1 q.2.2 q.2.1=cV many one s0∧q.2.1.length+q.1≤10000000) (fun q=>q.1) ((many s0).1.toNat,[],(many s0).2) (⟨rfl,by show 0+(many s0).1.toNat≤_;omega⟩) (LS) ?_
 intro q hI
 refine aD ?_
 refine sq ?_
 refine Z1 mo ?_
 refine Z1 bz ?_
 refine Z1 mo ?_
 refine Z4 (fun hC=>mo) ?_
 refine aW (R:=[(_,.live _ _)]) rfl rfl rfl cA (fun hC=>qP rfl rfl (by first|decide|simp)) (fun hC=>⟨(by first|rfl|exact hC|(simp only [Bool.and_eq_true] at hC;first|exact hC.1|exact hC.1.1|exact hC.2)|simp_all),trivial⟩) ⟨rfl,trivial⟩ ?_
 refine aW (R:=[(_,.live _ _)]) rfl rfl rfl cA (fun hC=>eU (off:=0) (sz:=3) (r:=true) rfl rfl (by first|decide|simp) (by kernel_rfl) (by decide)) (fun hC=>⟨(by first|rfl|exact hC|(simp only [Bool.and_eq_true] at hC;first|exact hC.1|exact hC.1.1|exact hC.2)|simp_all),trivial⟩) ⟨rfl,trivial⟩ ?_
 refine aW (R:=[(_,.live _ _)]) rfl rfl rfl cA (fun hC=>eU (off:=2) (sz:=1) (r:=false) rfl rfl (by first|decide|simp) (by kernel_rfl) (by decide)) (fun hC=>⟨(by first|rfl|exact hC|(simp only [Bool.and_eq_true] at hC;first|exact hC.1|exact hC.1.1|exact hC.2)|simp_all),trivial⟩) ⟨rfl,trivial⟩ ?_
 refine aW (R:=[(_,.live _ _)]) rfl rfl rfl cA (fun hC=>fL rfl rfl (by kernel_rfl) rfl) (fun hC=>⟨(by first|rfl|exact hC|(simp only [Bool.and_eq_true] at hC;first|exact hC.1|exact hC.1.1|exact hC.2)|simp_all),trivial⟩) ⟨rfl,trivial⟩ ?_
 refine Z4 (fun hC=>bz) ?_
 refine Z1 an ?_
 refine cn ?_
 refine cd (fun hb=>?_) fun hb=>?_
 ·have h1:0<q.1∧q.2.2.2=0:=by simp only [Bool.and_eq_true,decide_eq_true_eq,beq_iff_eq] at hb;omega
  obtain ⟨f,hf⟩:∃ f,q.1=f+1:=⟨q.1-1,by omega⟩
  have hst:dT one q.1 q.2.2 q.2.1=dT one f (one q.2.2).2 (q.2.1++[(one q.2.2).1]):=by rw [hf];show (if _ then _ else _)=_;rw [if_pos h1.2]
  refine aQ ?_
  refine aD ?_
  refine aU ?_
  refine tx ?_
  refine Z1 mo ?_
  refine Z1 mo ?_
  refine cm ⟨K2,[.own 0 0],.inl rfl,hK,inferInstance,ho q.2.2⟩ ?_
  refine Z1 (fO (ps:=[.tmp 25]) (xs:=[.val _]) (e:=9) (k:=1) (by_:=16) (zs:=[.string ⟨#[]⟩]) rfl (by kernel_rfl) (by kernel_rfl) rfl rfl rfl (by decide) (by decide)) ?_
  refine aZ rfl rfl (iG (e:=9) (k:=1) (by_:=16) (zs:=[.string ⟨#[]⟩]) (cs:=gK vs q.2.1) (ds:=cL (vs (one q.2.2).1)) 2 rfl rfl rfl (by kernel_rfl) (by kernel_rfl) rfl (by decide) (by decide) (sC (fun _=>rfl) _) rfl (uZ (k:=1) rfl) (by omega) (by omega)) ⟨rfl,rfl,trivial⟩ ?_
  refine Z1 aB ?_
  refine cn ?_
  refine tx ?_
  refine Z1 mo ?_
  refine Z1 iP ?_
  refine Z1 aB ?_
  refine cn ?_
  exact ⟨(f,q.2.1++[(one q.2.2).1],(one q.2.2).2),⟨by rw [←hst];exact hI.1,by show List.length (_++_)+f≤_;rw [List.length_append];show _+1+f≤_;omega⟩,by show f<q.1;omega,LT 1 2 [2] (hh:=⟨iJ (by decide) (by decide) (by decide) rfl (Nn.out _),mF (by rw [uX,uY];rfl) (Nn.out _),iD (by decide) (by decide),trivial⟩)⟩
 ·have hfin:dT one q.1 q.2.2 q.2.1=(q.2.1,q.2.2):=by
   cases hq:q.1 with
   | zero=>rfl
   | succ f=>
    show (if _ then _ else _)=_
    rw [if_neg]
    intro h
    rw [hq] at hb
    simp [h] at hb
  rw [hI.1] at hfin
  refine bU ?_
  refine aD ?_
  refine bS (Le.freezeR 7 1 vs 1 ByteArray.empty q.2.1 (fun _=>rfl) rfl rfl) ?_
  refine tx ?_
  refine Z1 mo ?_
  refine Z1 aB ?_
  refine cn ?_
  refine aP ?_
  exact ⟨.inl rfl,aF.tmp rfl (by rw [hfin];rfl),⟨by rw [hfin];rfl,trivial⟩⟩
theorem aRR (xs:List Int)(s0:bF)(m:Av)(K2:Nat)(many:fV Int)(one:fV Int)(hm:∀ s,MC Tryz.prog m 62 (aV xs s) (vi (many s).1) (aV xs (many s).2))(hK:dN Tryz.prog K2=true)(ho:∀ s,FC Tryz.prog K2 [.own 0 0] [(0,.live 62 (aV xs (s)))] (vi (one s).1) [(0,.live 62 (aV xs ((one s).2)))])(hmb:∀ s,0≤(many s).1∧(many s).1≤10000000):FC Tryz.prog 129 [.own 0 0,m,.bm K2 [.own 0 0]] [(0,.live 62 (aV xs (s0)))] (aK (cV many one s0).1) [(0,.live 62 (aV xs ((cV many one s0).2)))]:=by
 have hmb0:=hmb s0
 refine FC.body 3 29 Tryz.func129 rfl (by kernel_rfl) ?_
 refine sq ?_
 refine Z1 aB ?_
 refine cn ?_
 refine sq ?_
 refine Z1 aB ?_
 refine cn ?_
 refine aD ?_
 refine sq ?_
 refine Z1 (oM (x:=m) rfl rfl) ?_
 refine cm (hm s0) ?_
 refine Z1 aB ?_
 refine cn ?_
 refine aU ?_
 refine bS (Le.nameNil 7 1 1 3 rfl rfl) ?_
 refine bM (ι:=Nat × List Int × bF) (fun q=>⟨[(0,.own 0 0),(2,.bm K2 [.own 0 0]),(7,.osl 1 1 q.2.1.length),(8,vi (q.1:Int))],[(0,.live 62 (aV xs q.2.2)),(1,.live 3 (gK vi q.2.1)),(2,.unborn)]⟩) (fun q=>dT one q.1 q.2.2 q.2.1=cV many one s0∧q.2.1.length+q.1≤10000000) (fun q=>q.1) ((many s0).1.toNat,[],(many s0).2) (⟨rfl,by show 0+(many s0).1.toNat≤_;omega⟩) (LS) ?_
 intro q hI
 refine aD ?_
 refine sq ?_
 refine Z1 mo ?_
 refine Z1 bz ?_
 refine Z1 mo ?_
 refine Z4 (fun hC=>mo) ?_
 refine aW (R:=[(_,.live _ _)]) rfl rfl rfl cA (fun hC=>qP rfl rfl (by first|decide|simp)) (fun hC=>⟨(by first|rfl|exact hC|(simp only [Bool.and_eq_true] at hC;first|exact hC.1|exact hC.1.1|exact hC.2)|simp_all),trivial⟩) ⟨rfl,trivial⟩ ?_
 refine aW (R:=[(_,.live _ _)]) rfl rfl rfl cA (fun hC=>eU (off:=0) (sz:=3) (r:=true) rfl rfl (by first|decide|simp) (by kernel_rfl) (by decide)) (fun hC=>⟨(by first|rfl|exact hC|(simp only [Bool.and_eq_true] at hC;first|exact hC.1|exact hC.1.1|exact hC.2)|simp_all),trivial⟩) ⟨rfl,trivial⟩ ?_
 refine aW (R:=[(_,.live _ _)]) rfl rfl rfl cA (fun hC=>eU (off:=2) (sz:=1) (r:=false) rfl rfl (by first|decide|simp) (by kernel_rfl) (by decide)) (fun hC=>⟨(by first|rfl|exact hC|(simp only [Bool.and_eq_true] at hC;first|exact hC.1|exact hC.1.1|exact hC.2)|simp_all),trivial⟩) ⟨rfl,trivial⟩ ?_
 refine aW (R:=[(_,.live _ _)]) rfl rfl rfl cA (fun hC=>fL rfl rfl (by kernel_rfl) rfl) (fun hC=>⟨(by first|rfl|exact hC|(simp only [Bool.and_eq_true] at hC;first|exact hC.1|exact hC.1.1|exact hC.2)|simp_all),trivial⟩) ⟨rfl,trivial⟩ ?_
 refine Z4 (fun hC=>bz) ?_
 refine Z1 an ?_
 refine cn ?_
 refine cd (fun hb=>?_) fun hb=>?_
 ·have h1:0<q.1∧q.2.2.2=0:=by simp only [Bool.and_eq_true,decide_eq_true_eq,beq_iff_eq] at hb;omega
  obtain ⟨f,hf⟩:∃ f,q.1=f+1:=⟨q.1-1,by omega⟩
  have hst:dT one q.1 q.2.2 q.2.1=dT one f (one q.2.2).2 (q.2.1++[(one q.2.2).1]):=by rw [hf];show (if _ then _ else _)=_;rw [if_pos h1.2]
  refine aQ ?_
  refine aD ?_
  refine aU ?_
  refine tx ?_
  refine Z1 mo ?_
  refine Z1 mo ?_
  refine cm ⟨K2,[.own 0 0],.inl rfl,hK,inferInstance,ho q.2.2⟩ ?_
  refine Z1 (fO (ps:=[.tmp 25]) (xs:=[.val _]) (e:=3) (k:=1) (by_:=8) (zs:=[.int .i64 0]) rfl (by kernel_rfl) (by kernel_rfl) rfl rfl rfl (by decide) (by decide)) ?_
  refine aZ rfl rfl (iG (e:=3) (k:=1) (by_:=8) (zs:=[.int .i64 0]) (cs:=gK vi q.2.1) (ds:=cL (vi (one q.2.2).1)) 2 rfl rfl rfl (by kernel_rfl) (by kernel_rfl) rfl (by decide) (by decide) (sC (fun _=>rfl) _) rfl (uZ (k:=1) rfl) (by omega) (by omega)) ⟨rfl,rfl,trivial⟩ ?_
  refine Z1 aB ?_
  refine cn ?_
  refine tx ?_
  refine Z1 mo ?_
  refine Z1 iP ?_
  refine Z1 aB ?_
  refine cn ?_
  exact ⟨(f,q.2.1++[(one q.2.2).1],(one q.2.2).2),⟨by rw [←hst];exact hI.1,by show List.length (_++_)+f≤_;rw [List.length_append];show _+1+f≤_;omega⟩,by show f<q.1;omega,LT 1 2 [2] (hh:=⟨iJ (by decide) (by decide) (by decide) rfl (Nn.out _),mF (by rw [uX,uY];rfl) (Nn.out _),iD (by decide) (by decide),trivial⟩)⟩
 ·have hfin:dT one q.1 q.2.2 q.2.1=(q.2.1,q.2.2):=by
   cases hq:q.1 with
   | zero=>rfl
   | succ f=>
    show (if _ then _ else _)=_
    rw [if_neg]
    intro h
    rw [hq] at hb
    simp [h] at hb
  rw [hI.1] at hfin
  refine bU ?_
  refine aD ?_
  refine bS (Le.freezeR 7 1 vi 1 0 q.2.1 (fun _=>rfl) rfl rfl) ?_
  refine tx ?_
  refine Z1 mo ?_
  refine Z1 aB ?_
  refine cn ?_
  refine aP ?_
  exact ⟨.inl rfl,aF.tmp rfl (by rw [hfin];rfl),⟨by rw [hfin];rfl,trivial⟩⟩
theorem afK (xs:List Int)(s0:bF)(m:Av)(K2:Nat)(many:fV Int)(one:fV (List SlotP))(hm:∀ s,MC Tryz.prog m 62 (aV xs s) (vi (many s).1) (aV xs (many s).2))(hK:dN Tryz.prog K2=true)(ho:∀ s,FC Tryz.prog K2 [.own 0 0] [(0,.live 62 (aV xs (s)))] (fQ (one s).1) [(0,.live 62 (aV xs ((one s).2)))])(hmb:∀ s,0≤(many s).1∧(many s).1≤10000000):FC Tryz.prog 139 [.own 0 0,m,.bm K2 [.own 0 0]] [(0,.live 62 (aV xs (s0)))] (lB (cV many one s0).1) [(0,.live 62 (aV xs ((cV many one s0).2)))]:=by
 have hmb0:=hmb s0
 refine FC.body 3 29 Tryz.func139 rfl (by kernel_rfl) ?_
 refine sq ?_
 refine Z1 aB ?_
 refine cn ?_
 refine sq ?_
 refine Z1 aB ?_
 refine cn ?_
 refine aD ?_
 refine sq ?_
 refine Z1 (oM (x:=m) rfl rfl) ?_
 refine cm (hm s0) ?_
 refine Z1 aB ?_
 refine cn ?_
 refine aU ?_
 refine bS (Le.nameNil 7 1 1 79 rfl rfl) ?_
 refine bM (ι:=Nat × List (List SlotP) × bF) (fun q=>⟨[(0,.own 0 0),(2,.bm K2 [.own 0 0]),(7,.osl 1 1 q.2.1.length),(8,vi (q.1:Int))],[(0,.live 62 (aV xs q.2.2)),(1,.live 79 (gK fQ q.2.1)),(2,.unborn)]⟩) (fun q=>dT one q.1 q.2.2 q.2.1=cV many one s0∧q.2.1.length+q.1≤10000000) (fun q=>q.1) ((many s0).1.toNat,[],(many s0).2) (⟨rfl,by show 0+(many s0).1.toNat≤_;omega⟩) (LS) ?_
 intro q hI
 refine aD ?_
 refine sq ?_
 refine Z1 mo ?_
 refine Z1 bz ?_
 refine Z1 mo ?_
 refine Z4 (fun hC=>mo) ?_
 refine aW (R:=[(_,.live _ _)]) rfl rfl rfl cA (fun hC=>qP rfl rfl (by first|decide|simp)) (fun hC=>⟨(by first|rfl|exact hC|(simp only [Bool.and_eq_true] at hC;first|exact hC.1|exact hC.1.1|exact hC.2)|simp_all),trivial⟩) ⟨rfl,trivial⟩ ?_
 refine aW (R:=[(_,.live _ _)]) rfl rfl rfl cA (fun hC=>eU (off:=0) (sz:=3) (r:=true) rfl rfl (by first|decide|simp) (by kernel_rfl) (by decide)) (fun hC=>⟨(by first|rfl|exact hC|(simp only [Bool.and_eq_true] at hC;first|exact hC.1|exact hC.1.1|exact hC.2)|simp_all),trivial⟩) ⟨rfl,trivial⟩ ?_
 refine aW (R:=[(_,.live _ _)]) rfl rfl rfl cA (fun hC=>eU (off:=2) (sz:=1) (r:=false) rfl rfl (by first|decide|simp) (by kernel_rfl) (by decide)) (fun hC=>⟨(by first|rfl|exact hC|(simp only [Bool.and_eq_true] at hC;first|exact hC.1|exact hC.1.1|exact hC.2)|simp_all),trivial⟩) ⟨rfl,trivial⟩ ?_
 refine aW (R:=[(_,.live _ _)]) rfl rfl rfl cA (fun hC=>fL rfl rfl (by kernel_rfl) rfl) (fun hC=>⟨(by first|rfl|exact hC|(simp only [Bool.and_eq_true] at hC;first|exact hC.1|exact hC.1.1|exact hC.2)|simp_all),trivial⟩) ⟨rfl,trivial⟩ ?_
 refine Z4 (fun hC=>bz) ?_
 refine Z1 an ?_
 refine cn ?_
 refine cd (fun hb=>?_) fun hb=>?_
 ·have h1:0<q.1∧q.2.2.2=0:=by simp only [Bool.and_eq_true,decide_eq_true_eq,beq_iff_eq] at hb;omega
  obtain ⟨f,hf⟩:∃ f,q.1=f+1:=⟨q.1-1,by omega⟩
  have hst:dT one q.1 q.2.2 q.2.1=dT one f (one q.2.2).2 (q.2.1++[(one q.2.2).1]):=by rw [hf];show (if _ then _ else _)=_;rw [if_pos h1.2]
  refine aQ ?_
  refine aD ?_
  refine aU ?_
  refine tx ?_
  refine Z1 mo ?_
  refine Z1 mo ?_
  refine cm ⟨K2,[.own 0 0],.inl rfl,hK,inferInstance,ho q.2.2⟩ ?_
  refine Z1 (fO (ps:=[.tmp 25]) (xs:=[.sl _ _ _]) (e:=79) (k:=1) (by_:=24) (zs:=[.slice none 0 0]) rfl (by kernel_rfl) (by kernel_rfl) rfl rfl rfl (by decide) (by decide)) ?_
  refine aZ rfl rfl (iG (e:=79) (k:=1) (by_:=24) (zs:=[.slice none 0 0]) (cs:=gK fQ q.2.1) (ds:=cL (fQ (one q.2.2).1)) 2 rfl rfl rfl (by kernel_rfl) (by kernel_rfl) rfl (by decide) (by decide) (sC (fun _=>rfl) _) rfl (uZ (k:=1) rfl) (by omega) (by omega)) ⟨rfl,rfl,trivial⟩ ?_
  refine Z1 aB ?_
  refine cn ?_
  refine tx ?_
  refine Z1 mo ?_
  refine Z1 iP ?_
  refine Z1 aB ?_
  refine cn ?_
  exact ⟨(f,q.2.1++[(one q.2.2).1],(one q.2.2).2),⟨by rw [←hst];exact hI.1,by show List.length (_++_)+f≤_;rw [List.length_append];show _+1+f≤_;omega⟩,by show f<q.1;omega,LT 1 2 [2] (hh:=⟨iJ (by decide) (by decide) (by decide) rfl (Nn.out _),mF (by rw [uX,uY];rfl) (Nn.out _),iD (by decide) (by decide),trivial⟩)⟩
 ·have hfin:dT one q.1 q.2.2 q.2.1=(q.2.1,q.2.2):=by
   cases hq:q.1 with
   | zero=>rfl
   | succ f=>
    show (if _ then _ else _)=_
    rw [if_neg]
    intro h
    rw [hq] at hb
    simp [h] at hb
  rw [hI.1] at hfin
  refine bU ?_
  refine aD ?_
  refine bS (Le.freezeR 7 1 fQ 1 [] q.2.1 (fun _=>rfl) rfl rfl) ?_
  refine tx ?_
  refine Z1 mo ?_
  refine Z1 aB ?_
  refine cn ?_
  refine aP ?_
  exact ⟨.inl rfl,aF.tmp rfl (by rw [hfin];rfl),⟨by rw [hfin];rfl,trivial⟩⟩
theorem afI (xs:List Int)(s0:bF)(m:Av)(K2:Nat)(many:fV Int)(one:fV SlotP)(hm:∀ s,MC Tryz.prog m 62 (aV xs s) (vi (many s).1) (aV xs (many s).2))(hK:dN Tryz.prog K2=true)(ho:∀ s,FC Tryz.prog K2 [.own 0 0] [(0,.live 62 (aV xs (s)))] (lJ (one s).1) [(0,.live 62 (aV xs ((one s).2)))])(hmb:∀ s,0≤(many s).1∧(many s).1≤10000000):FC Tryz.prog 171 [.own 0 0,m,.bm K2 [.own 0 0]] [(0,.live 62 (aV xs (s0)))] (fQ (cV many one s0).1) [(0,.live 62 (aV xs ((cV many one s0).2)))]:=by
 have hmb0:=hmb s0
 refine FC.body 3 29 Tryz.func171 rfl (by kernel_rfl) ?_
 refine sq ?_
 refine Z1 aB ?_
 refine cn ?_
 refine sq ?_
 refine Z1 aB ?_
 refine cn ?_
 refine aD ?_
 refine sq ?_
 refine Z1 (oM (x:=m) rfl rfl) ?_
 refine cm (hm s0) ?_
 refine Z1 aB ?_
 refine cn ?_
 refine aU ?_
 refine bS (Le.nameNil 7 1 2 156 rfl rfl) ?_
 refine bM (ι:=Nat × List SlotP × bF) (fun q=>⟨[(0,.own 0 0),(2,.bm K2 [.own 0 0]),(7,.osl 2 1 q.2.1.length),(8,vi (q.1:Int))],[(0,.live 62 (aV xs q.2.2)),(1,.live 156 (gK lJ q.2.1)),(2,.unborn)]⟩) (fun q=>dT one q.1 q.2.2 q.2.1=cV many one s0∧q.2.1.length+q.1≤10000000) (fun q=>q.1) ((many s0).1.toNat,[],(many s0).2) (⟨rfl,by show 0+(many s0).1.toNat≤_;omega⟩) (LS) ?_
 intro q hI
 refine aD ?_
 refine sq ?_
 refine Z1 mo ?_
 refine Z1 bz ?_
 refine Z1 mo ?_
 refine Z4 (fun hC=>mo) ?_
 refine aW (R:=[(_,.live _ _)]) rfl rfl rfl cA (fun hC=>qP rfl rfl (by first|decide|simp)) (fun hC=>⟨(by first|rfl|exact hC|(simp only [Bool.and_eq_true] at hC;first|exact hC.1|exact hC.1.1|exact hC.2)|simp_all),trivial⟩) ⟨rfl,trivial⟩ ?_
 refine aW (R:=[(_,.live _ _)]) rfl rfl rfl cA (fun hC=>eU (off:=0) (sz:=3) (r:=true) rfl rfl (by first|decide|simp) (by kernel_rfl) (by decide)) (fun hC=>⟨(by first|rfl|exact hC|(simp only [Bool.and_eq_true] at hC;first|exact hC.1|exact hC.1.1|exact hC.2)|simp_all),trivial⟩) ⟨rfl,trivial⟩ ?_
 refine aW (R:=[(_,.live _ _)]) rfl rfl rfl cA (fun hC=>eU (off:=2) (sz:=1) (r:=false) rfl rfl (by first|decide|simp) (by kernel_rfl) (by decide)) (fun hC=>⟨(by first|rfl|exact hC|(simp only [Bool.and_eq_true] at hC;first|exact hC.1|exact hC.1.1|exact hC.2)|simp_all),trivial⟩) ⟨rfl,trivial⟩ ?_
 refine aW (R:=[(_,.live _ _)]) rfl rfl rfl cA (fun hC=>fL rfl rfl (by kernel_rfl) rfl) (fun hC=>⟨(by first|rfl|exact hC|(simp only [Bool.and_eq_true] at hC;first|exact hC.1|exact hC.1.1|exact hC.2)|simp_all),trivial⟩) ⟨rfl,trivial⟩ ?_
 refine Z4 (fun hC=>bz) ?_
 refine Z1 an ?_
 refine cn ?_
 refine cd (fun hb=>?_) fun hb=>?_
 ·have h1:0<q.1∧q.2.2.2=0:=by simp only [Bool.and_eq_true,decide_eq_true_eq,beq_iff_eq] at hb;omega
  obtain ⟨f,hf⟩:∃ f,q.1=f+1:=⟨q.1-1,by omega⟩
  have hst:dT one q.1 q.2.2 q.2.1=dT one f (one q.2.2).2 (q.2.1++[(one q.2.2).1]):=by rw [hf];show (if _ then _ else _)=_;rw [if_pos h1.2]
  refine aQ ?_
  refine aD ?_
  refine aU ?_
  refine tx ?_
  refine Z1 mo ?_
  refine Z1 mo ?_
  refine cm ⟨K2,[.own 0 0],.inl rfl,hK,inferInstance,ho q.2.2⟩ ?_
  refine Z1 (fO (ps:=[.tmp 25]) (xs:=[.agg _]) (e:=156) (k:=2) (by_:=32) (zs:=[.int .i64 0,.slice none 0 0]) rfl (by kernel_rfl) (by kernel_rfl) rfl rfl rfl (by decide) (by decide)) ?_
  refine aZ rfl rfl (iG (e:=156) (k:=2) (by_:=32) (zs:=[.int .i64 0,.slice none 0 0]) (cs:=gK lJ q.2.1) (ds:=cL (lJ (one q.2.2).1)) 2 rfl rfl rfl (by kernel_rfl) (by kernel_rfl) rfl (by decide) (by decide) (sC (fun _=>rfl) _) rfl (uZ (k:=2) rfl) (by omega) (by omega)) ⟨rfl,rfl,trivial⟩ ?_
  refine Z1 aB ?_
  refine cn ?_
  refine tx ?_
  refine Z1 mo ?_
  refine Z1 iP ?_
  refine Z1 aB ?_
  refine cn ?_
  exact ⟨(f,q.2.1++[(one q.2.2).1],(one q.2.2).2),⟨by rw [←hst];exact hI.1,by show List.length (_++_)+f≤_;rw [List.length_append];show _+1+f≤_;omega⟩,by show f<q.1;omega,LT 1 2 [2] (hh:=⟨iJ (by decide) (by decide) (by decide) rfl (Nn.out _),mF (by rw [uX,uY];rfl) (Nn.out _),iD (by decide) (by decide),trivial⟩)⟩
 ·have hfin:dT one q.1 q.2.2 q.2.1=(q.2.1,q.2.2):=by
   cases hq:q.1 with
   | zero=>rfl
   | succ f=>
    show (if _ then _ else _)=_
    rw [if_neg]
    intro h
    rw [hq] at hb
    simp [h] at hb
  rw [hI.1] at hfin
  refine bU ?_
  refine aD ?_
  refine bS (Le.freezeR 7 1 lJ 2 cH q.2.1 (fun _=>rfl) rfl rfl) ?_
  refine tx ?_
  refine Z1 mo ?_
  refine Z1 aB ?_
  refine cn ?_
  refine aP ?_
  exact ⟨.inl rfl,aF.tmp rfl (by rw [hfin];rfl),⟨by rw [hfin];rfl,trivial⟩⟩
theorem afN (xs:List Int)(s0:bF)(m:Av)(K2:Nat)(many:fV Int)(one:fV WayP)(hm:∀ s,MC Tryz.prog m 62 (aV xs s) (vi (many s).1) (aV xs (many s).2))(hK:dN Tryz.prog K2=true)(ho:∀ s,FC Tryz.prog K2 [.own 0 0] [(0,.live 62 (aV xs (s)))] (oQ (one s).1) [(0,.live 62 (aV xs ((one s).2)))])(hmb:∀ s,0≤(many s).1∧(many s).1≤10000000):FC Tryz.prog 137 [.own 0 0,m,.bm K2 [.own 0 0]] [(0,.live 62 (aV xs (s0)))] (kZ (cV many one s0).1) [(0,.live 62 (aV xs ((cV many one s0).2)))]:=by
 have hmb0:=hmb s0
 refine FC.body 3 29 Tryz.func137 rfl (by kernel_rfl) ?_
 refine sq ?_
 refine Z1 aB ?_
 refine cn ?_
 refine sq ?_
 refine Z1 aB ?_
 refine cn ?_
 refine aD ?_
 refine sq ?_
 refine Z1 (oM (x:=m) rfl rfl) ?_
 refine cm (hm s0) ?_
 refine Z1 aB ?_
 refine cn ?_
 refine aU ?_
 refine bS (Le.nameNil 7 1 4 168 rfl rfl) ?_
 refine bM (ι:=Nat × List WayP × bF) (fun q=>⟨[(0,.own 0 0),(2,.bm K2 [.own 0 0]),(7,.osl 4 1 q.2.1.length),(8,vi (q.1:Int))],[(0,.live 62 (aV xs q.2.2)),(1,.live 168 (gK oQ q.2.1)),(2,.unborn)]⟩) (fun q=>dT one q.1 q.2.2 q.2.1=cV many one s0∧q.2.1.length+q.1≤10000000) (fun q=>q.1) ((many s0).1.toNat,[],(many s0).2) (⟨rfl,by show 0+(many s0).1.toNat≤_;omega⟩) (LS) ?_
 intro q hI
 refine aD ?_
 refine sq ?_
 refine Z1 mo ?_
 refine Z1 bz ?_
 refine Z1 mo ?_
 refine Z4 (fun hC=>mo) ?_
 refine aW (R:=[(_,.live _ _)]) rfl rfl rfl cA (fun hC=>qP rfl rfl (by first|decide|simp)) (fun hC=>⟨(by first|rfl|exact hC|(simp only [Bool.and_eq_true] at hC;first|exact hC.1|exact hC.1.1|exact hC.2)|simp_all),trivial⟩) ⟨rfl,trivial⟩ ?_
 refine aW (R:=[(_,.live _ _)]) rfl rfl rfl cA (fun hC=>eU (off:=0) (sz:=3) (r:=true) rfl rfl (by first|decide|simp) (by kernel_rfl) (by decide)) (fun hC=>⟨(by first|rfl|exact hC|(simp only [Bool.and_eq_true] at hC;first|exact hC.1|exact hC.1.1|exact hC.2)|simp_all),trivial⟩) ⟨rfl,trivial⟩ ?_
 refine aW (R:=[(_,.live _ _)]) rfl rfl rfl cA (fun hC=>eU (off:=2) (sz:=1) (r:=false) rfl rfl (by first|decide|simp) (by kernel_rfl) (by decide)) (fun hC=>⟨(by first|rfl|exact hC|(simp only [Bool.and_eq_true] at hC;first|exact hC.1|exact hC.1.1|exact hC.2)|simp_all),trivial⟩) ⟨rfl,trivial⟩ ?_
 refine aW (R:=[(_,.live _ _)]) rfl rfl rfl cA (fun hC=>fL rfl rfl (by kernel_rfl) rfl) (fun hC=>⟨(by first|rfl|exact hC|(simp only [Bool.and_eq_true] at hC;first|exact hC.1|exact hC.1.1|exact hC.2)|simp_all),trivial⟩) ⟨rfl,trivial⟩ ?_
 refine Z4 (fun hC=>bz) ?_
 refine Z1 an ?_
 refine cn ?_
 refine cd (fun hb=>?_) fun hb=>?_
 ·have h1:0<q.1∧q.2.2.2=0:=by simp only [Bool.and_eq_true,decide_eq_true_eq,beq_iff_eq] at hb;omega
  obtain ⟨f,hf⟩:∃ f,q.1=f+1:=⟨q.1-1,by omega⟩
  have hst:dT one q.1 q.2.2 q.2.1=dT one f (one q.2.2).2 (q.2.1++[(one q.2.2).1]):=by rw [hf];show (if _ then _ else _)=_;rw [if_pos h1.2]
  refine aQ ?_
  refine aD ?_
  refine aU ?_
  refine tx ?_
  refine Z1 mo ?_
  refine Z1 mo ?_
  refine cm ⟨K2,[.own 0 0],.inl rfl,hK,inferInstance,ho q.2.2⟩ ?_
  refine Z1 (fO (ps:=[.tmp 25]) (xs:=[.agg _]) (e:=168) (k:=4) (by_:=32) (zs:=[.int .i64 0,.int .i64 0,.int .i64 0,.int .i64 0]) rfl (by kernel_rfl) (by kernel_rfl) rfl rfl rfl (by decide) (by decide)) ?_
  refine aZ rfl rfl (iG (e:=168) (k:=4) (by_:=32) (zs:=[.int .i64 0,.int .i64 0,.int .i64 0,.int .i64 0]) (cs:=gK oQ q.2.1) (ds:=cL (oQ (one q.2.2).1)) 2 rfl rfl rfl (by kernel_rfl) (by kernel_rfl) rfl (by decide) (by decide) (sC (fun _=>rfl) _) rfl (uZ (k:=4) rfl) (by omega) (by omega)) ⟨rfl,rfl,trivial⟩ ?_
  refine Z1 aB ?_
  refine cn ?_
  refine tx ?_
  refine Z1 mo ?_
  refine Z1 iP ?_
  refine Z1 aB ?_
  refine cn ?_
  exact ⟨(f,q.2.1++[(one q.2.2).1],(one q.2.2).2),⟨by rw [←hst];exact hI.1,by show List.length (_++_)+f≤_;rw [List.length_append];show _+1+f≤_;omega⟩,by show f<q.1;omega,LT 1 2 [2] (hh:=⟨iJ (by decide) (by decide) (by decide) rfl (Nn.out _),mF (by rw [uX,uY];rfl) (Nn.out _),iD (by decide) (by decide),trivial⟩)⟩
 ·have hfin:dT one q.1 q.2.2 q.2.1=(q.2.1,q.2.2):=by
   cases hq:q.1 with
   | zero=>rfl
   | succ f=>
    show (if _ then _ else _)=_
    rw [if_neg]
    intro h
    rw [hq] at hb
    simp [h] at hb
  rw [hI.1] at hfin
  refine bU ?_
  refine aD ?_
  refine bS (Le.freezeR 7 1 oQ 4 dD q.2.1 (fun _=>rfl) rfl rfl) ?_
  refine tx ?_
  refine Z1 mo ?_
  refine Z1 aB ?_
  refine cn ?_
  refine aP ?_
  exact ⟨.inl rfl,aF.tmp rfl (by rw [hfin];rfl),⟨by rw [hfin];rfl,trivial⟩⟩
theorem aiD (xs:List Int)(s0:bF)(m:Av)(K2:Nat)(many:fV Int)(one:fV VerbP)(hm:∀ s,MC Tryz.prog m 62 (aV xs s) (vi (many s).1) (aV xs (many s).2))(hK:dN Tryz.prog K2=true)(ho:∀ s,FC Tryz.prog K2 [.own 0 0] [(0,.live 62 (aV xs (s)))] (iC (one s).1) [(0,.live 62 (aV xs ((one s).2)))])(hmb:∀ s,0≤(many s).1∧(many s).1≤10000000):FC Tryz.prog 77 [.own 0 0,m,.bm K2 [.own 0 0]] [(0,.live 62 (aV xs (s0)))] (gB (cV many one s0).1) [(0,.live 62 (aV xs ((cV many one s0).2)))]:=by
 have hmb0:=hmb s0
 refine FC.body 3 29 Tryz.func77 rfl (by kernel_rfl) ?_
 refine sq ?_
 refine Z1 aB ?_
 refine cn ?_
 refine sq ?_
 refine Z1 aB ?_
 refine cn ?_
 refine aD ?_
 refine sq ?_
 refine Z1 (oM (x:=m) rfl rfl) ?_
 refine cm (hm s0) ?_
 refine Z1 aB ?_
 refine cn ?_
 refine aU ?_
 refine bS (Le.nameNil 7 1 2 76 rfl rfl) ?_
 refine bM (ι:=Nat × List VerbP × bF) (fun q=>⟨[(0,.own 0 0),(2,.bm K2 [.own 0 0]),(7,.osl 2 1 q.2.1.length),(8,vi (q.1:Int))],[(0,.live 62 (aV xs q.2.2)),(1,.live 76 (gK iC q.2.1)),(2,.unborn)]⟩) (fun q=>dT one q.1 q.2.2 q.2.1=cV many one s0∧q.2.1.length+q.1≤10000000) (fun q=>q.1) ((many s0).1.toNat,[],(many s0).2) (⟨rfl,by show 0+(many s0).1.toNat≤_;omega⟩) (LS) ?_
 intro q hI
 refine aD ?_
 refine sq ?_
 refine Z1 mo ?_
 refine Z1 bz ?_
 refine Z1 mo ?_
 refine Z4 (fun hC=>mo) ?_
 refine aW (R:=[(_,.live _ _)]) rfl rfl rfl cA (fun hC=>qP rfl rfl (by first|decide|simp)) (fun hC=>⟨(by first|rfl|exact hC|(simp only [Bool.and_eq_true] at hC;first|exact hC.1|exact hC.1.1|exact hC.2)|simp_all),trivial⟩) ⟨rfl,trivial⟩ ?_
 refine aW (R:=[(_,.live _ _)]) rfl rfl rfl cA (fun hC=>eU (off:=0) (sz:=3) (r:=true) rfl rfl (by first|decide|simp) (by kernel_rfl) (by decide)) (fun hC=>⟨(by first|rfl|exact hC|(simp only [Bool.and_eq_true] at hC;first|exact hC.1|exact hC.1.1|exact hC.2)|simp_all),trivial⟩) ⟨rfl,trivial⟩ ?_
 refine aW (R:=[(_,.live _ _)]) rfl rfl rfl cA (fun hC=>eU (off:=2) (sz:=1) (r:=false) rfl rfl (by first|decide|simp) (by kernel_rfl) (by decide)) (fun hC=>⟨(by first|rfl|exact hC|(simp only [Bool.and_eq_true] at hC;first|exact hC.1|exact hC.1.1|exact hC.2)|simp_all),trivial⟩) ⟨rfl,trivial⟩ ?_
 refine aW (R:=[(_,.live _ _)]) rfl rfl rfl cA (fun hC=>fL rfl rfl (by kernel_rfl) rfl) (fun hC=>⟨(by first|rfl|exact hC|(simp only [Bool.and_eq_true] at hC;first|exact hC.1|exact hC.1.1|exact hC.2)|simp_all),trivial⟩) ⟨rfl,trivial⟩ ?_
 refine Z4 (fun hC=>bz) ?_
 refine Z1 an ?_
 refine cn ?_
 refine cd (fun hb=>?_) fun hb=>?_
 ·have h1:0<q.1∧q.2.2.2=0:=by simp only [Bool.and_eq_true,decide_eq_true_eq,beq_iff_eq] at hb;omega
  obtain ⟨f,hf⟩:∃ f,q.1=f+1:=⟨q.1-1,by omega⟩
  have hst:dT one q.1 q.2.2 q.2.1=dT one f (one q.2.2).2 (q.2.1++[(one q.2.2).1]):=by rw [hf];show (if _ then _ else _)=_;rw [if_pos h1.2]
  refine aQ ?_
  refine aD ?_
  refine aU ?_
  refine tx ?_
  refine Z1 mo ?_
  refine Z1 mo ?_
  refine cm ⟨K2,[.own 0 0],.inl rfl,hK,inferInstance,ho q.2.2⟩ ?_
  refine Z1 (fO (ps:=[.tmp 25]) (xs:=[.agg _]) (e:=76) (k:=2) (by_:=32) (zs:=[.bool false,.slice none 0 0]) rfl (by kernel_rfl) (by kernel_rfl) rfl rfl rfl (by decide) (by decide)) ?_
  refine aZ rfl rfl (iG (e:=76) (k:=2) (by_:=32) (zs:=[.bool false,.slice none 0 0]) (cs:=gK iC q.2.1) (ds:=cL (iC (one q.2.2).1)) 2 rfl rfl rfl (by kernel_rfl) (by kernel_rfl) rfl (by decide) (by decide) (sC (fun _=>rfl) _) rfl (uZ (k:=2) rfl) (by omega) (by omega)) ⟨rfl,rfl,trivial⟩ ?_
  refine Z1 aB ?_
  refine cn ?_
  refine tx ?_
  refine Z1 mo ?_
  refine Z1 iP ?_
  refine Z1 aB ?_
  refine cn ?_
  exact ⟨(f,q.2.1++[(one q.2.2).1],(one q.2.2).2),⟨by rw [←hst];exact hI.1,by show List.length (_++_)+f≤_;rw [List.length_append];show _+1+f≤_;omega⟩,by show f<q.1;omega,LT 1 2 [2] (hh:=⟨iJ (by decide) (by decide) (by decide) rfl (Nn.out _),mF (by rw [uX,uY];rfl) (Nn.out _),iD (by decide) (by decide),trivial⟩)⟩
 ·have hfin:dT one q.1 q.2.2 q.2.1=(q.2.1,q.2.2):=by
   cases hq:q.1 with
   | zero=>rfl
   | succ f=>
    show (if _ then _ else _)=_
    rw [if_neg]
    intro h
    rw [hq] at hb
    simp [h] at hb
  rw [hI.1] at hfin
  refine bU ?_
  refine aD ?_
  refine bS (Le.freezeR 7 1 iC 2 gO q.2.1 (fun _=>rfl) rfl rfl) ?_
  refine tx ?_
  refine Z1 mo ?_
  refine Z1 aB ?_
  refine cn ?_
  refine aP ?_
  exact ⟨.inl rfl,aF.tmp rfl (by rw [hfin];rfl),⟨by rw [hfin];rfl,trivial⟩⟩
theorem aiE (xs:List Int)(s0:bF)(m:Av)(K2:Nat)(many:fV Int)(one:fV ThingP)(hm:∀ s,MC Tryz.prog m 62 (aV xs s) (vi (many s).1) (aV xs (many s).2))(hK:dN Tryz.prog K2=true)(ho:∀ s,FC Tryz.prog K2 [.own 0 0] [(0,.live 62 (aV xs (s)))] (iT (one s).1) [(0,.live 62 (aV xs ((one s).2)))])(hmb:∀ s,0≤(many s).1∧(many s).1≤10000000):FC Tryz.prog 75 [.own 0 0,m,.bm K2 [.own 0 0]] [(0,.live 62 (aV xs (s0)))] (gA (cV many one s0).1) [(0,.live 62 (aV xs ((cV many one s0).2)))]:=by
 have hmb0:=hmb s0
 refine FC.body 3 29 Tryz.func75 rfl (by kernel_rfl) ?_
 refine sq ?_
 refine Z1 aB ?_
 refine cn ?_
 refine sq ?_
 refine Z1 aB ?_
 refine cn ?_
 refine aD ?_
 refine sq ?_
 refine Z1 (oM (x:=m) rfl rfl) ?_
 refine cm (hm s0) ?_
 refine Z1 aB ?_
 refine cn ?_
 refine aU ?_
 refine bS (Le.nameNil 7 1 9 57 rfl rfl) ?_
 refine bM (ι:=Nat × List ThingP × bF) (fun q=>⟨[(0,.own 0 0),(2,.bm K2 [.own 0 0]),(7,.osl 9 1 q.2.1.length),(8,vi (q.1:Int))],[(0,.live 62 (aV xs q.2.2)),(1,.live 57 (gK iT q.2.1)),(2,.unborn)]⟩) (fun q=>dT one q.1 q.2.2 q.2.1=cV many one s0∧q.2.1.length+q.1≤10000000) (fun q=>q.1) ((many s0).1.toNat,[],(many s0).2) (⟨rfl,by show 0+(many s0).1.toNat≤_;omega⟩) (LS) ?_
 intro q hI
 refine aD ?_
 refine sq ?_
 refine Z1 mo ?_
 refine Z1 bz ?_
 refine Z1 mo ?_
 refine Z4 (fun hC=>mo) ?_
 refine aW (R:=[(_,.live _ _)]) rfl rfl rfl cA (fun hC=>qP rfl rfl (by first|decide|simp)) (fun hC=>⟨(by first|rfl|exact hC|(simp only [Bool.and_eq_true] at hC;first|exact hC.1|exact hC.1.1|exact hC.2)|simp_all),trivial⟩) ⟨rfl,trivial⟩ ?_
 refine aW (R:=[(_,.live _ _)]) rfl rfl rfl cA (fun hC=>eU (off:=0) (sz:=3) (r:=true) rfl rfl (by first|decide|simp) (by kernel_rfl) (by decide)) (fun hC=>⟨(by first|rfl|exact hC|(simp only [Bool.and_eq_true] at hC;first|exact hC.1|exact hC.1.1|exact hC.2)|simp_all),trivial⟩) ⟨rfl,trivial⟩ ?_
 refine aW (R:=[(_,.live _ _)]) rfl rfl rfl cA (fun hC=>eU (off:=2) (sz:=1) (r:=false) rfl rfl (by first|decide|simp) (by kernel_rfl) (by decide)) (fun hC=>⟨(by first|rfl|exact hC|(simp only [Bool.and_eq_true] at hC;first|exact hC.1|exact hC.1.1|exact hC.2)|simp_all),trivial⟩) ⟨rfl,trivial⟩ ?_
 refine aW (R:=[(_,.live _ _)]) rfl rfl rfl cA (fun hC=>fL rfl rfl (by kernel_rfl) rfl) (fun hC=>⟨(by first|rfl|exact hC|(simp only [Bool.and_eq_true] at hC;first|exact hC.1|exact hC.1.1|exact hC.2)|simp_all),trivial⟩) ⟨rfl,trivial⟩ ?_
 refine Z4 (fun hC=>bz) ?_
 refine Z1 an ?_
 refine cn ?_
 refine cd (fun hb=>?_) fun hb=>?_
 ·have h1:0<q.1∧q.2.2.2=0:=by simp only [Bool.and_eq_true,decide_eq_true_eq,beq_iff_eq] at hb;omega
  obtain ⟨f,hf⟩:∃ f,q.1=f+1:=⟨q.1-1,by omega⟩
  have hst:dT one q.1 q.2.2 q.2.1=dT one f (one q.2.2).2 (q.2.1++[(one q.2.2).1]):=by rw [hf];show (if _ then _ else _)=_;rw [if_pos h1.2]
  refine aQ ?_
  refine aD ?_
  refine aU ?_
  refine tx ?_
  refine Z1 mo ?_
  refine Z1 mo ?_
  refine cm ⟨K2,[.own 0 0],.inl rfl,hK,inferInstance,ho q.2.2⟩ ?_
  refine Z1 (fO (ps:=[.tmp 25]) (xs:=[.agg _]) (e:=57) (k:=9) (by_:=136) (zs:=[.int .i64 0,.int .i64 0,.int .i64 0,.int .i64 0,.bool false,.slice none 0 0,.slice none 0 0,.slice none 0 0,.slice none 0 0]) rfl (by kernel_rfl) (by kernel_rfl) rfl rfl rfl (by decide) (by decide)) ?_
  refine aZ rfl rfl (iG (e:=57) (k:=9) (by_:=136) (zs:=[.int .i64 0,.int .i64 0,.int .i64 0,.int .i64 0,.bool false,.slice none 0 0,.slice none 0 0,.slice none 0 0,.slice none 0 0]) (cs:=gK iT q.2.1) (ds:=cL (iT (one q.2.2).1)) 2 rfl rfl rfl (by kernel_rfl) (by kernel_rfl) rfl (by decide) (by decide) (sC (fun _=>rfl) _) rfl (uZ (k:=9) rfl) (by omega) (by omega)) ⟨rfl,rfl,trivial⟩ ?_
  refine Z1 aB ?_
  refine cn ?_
  refine tx ?_
  refine Z1 mo ?_
  refine Z1 iP ?_
  refine Z1 aB ?_
  refine cn ?_
  exact ⟨(f,q.2.1++[(one q.2.2).1],(one q.2.2).2),⟨by rw [←hst];exact hI.1,by show List.length (_++_)+f≤_;rw [List.length_append];show _+1+f≤_;omega⟩,by show f<q.1;omega,LT 1 2 [2] (hh:=⟨iJ (by decide) (by decide) (by decide) rfl (Nn.out _),mF (by rw [uX,uY];rfl) (Nn.out _),iD (by decide) (by decide),trivial⟩)⟩
 ·have hfin:dT one q.1 q.2.2 q.2.1=(q.2.1,q.2.2):=by
   cases hq:q.1 with
   | zero=>rfl
   | succ f=>
    show (if _ then _ else _)=_
    rw [if_neg]
    intro h
    rw [hq] at hb
    simp [h] at hb
  rw [hI.1] at hfin
  refine bU ?_
  refine aD ?_
  refine bS (Le.freezeR 7 1 iT 9 cY q.2.1 (fun _=>rfl) rfl rfl) ?_
  refine tx ?_
  refine Z1 mo ?_
  refine Z1 aB ?_
  refine cn ?_
  refine aP ?_
  exact ⟨.inl rfl,aF.tmp rfl (by rw [hfin];rfl),⟨by rw [hfin];rfl,trivial⟩⟩
theorem aiF (xs:List Int)(s0:bF)(m:Av)(K2:Nat)(many:fV Int)(one:fV DeedP)(hm:∀ s,MC Tryz.prog m 62 (aV xs s) (vi (many s).1) (aV xs (many s).2))(hK:dN Tryz.prog K2=true)(ho:∀ s,FC Tryz.prog K2 [.own 0 0] [(0,.live 62 (aV xs (s)))] (mT (one s).1) [(0,.live 62 (aV xs ((one s).2)))])(hmb:∀ s,0≤(many s).1∧(many s).1≤10000000):FC Tryz.prog 79 [.own 0 0,m,.bm K2 [.own 0 0]] [(0,.live 62 (aV xs (s0)))] (fY (cV many one s0).1) [(0,.live 62 (aV xs ((cV many one s0).2)))]:=by
 have hmb0:=hmb s0
 refine FC.body 3 29 Tryz.func79 rfl (by kernel_rfl) ?_
 refine sq ?_
 refine Z1 aB ?_
 refine cn ?_
 refine sq ?_
 refine Z1 aB ?_
 refine cn ?_
 refine aD ?_
 refine sq ?_
 refine Z1 (oM (x:=m) rfl rfl) ?_
 refine cm (hm s0) ?_
 refine Z1 aB ?_
 refine cn ?_
 refine aU ?_
 refine bS (Le.nameNil 7 1 6 84 rfl rfl) ?_
 refine bM (ι:=Nat × List DeedP × bF) (fun q=>⟨[(0,.own 0 0),(2,.bm K2 [.own 0 0]),(7,.osl 6 1 q.2.1.length),(8,vi (q.1:Int))],[(0,.live 62 (aV xs q.2.2)),(1,.live 84 (gK mT q.2.1)),(2,.unborn)]⟩) (fun q=>dT one q.1 q.2.2 q.2.1=cV many one s0∧q.2.1.length+q.1≤10000000) (fun q=>q.1) ((many s0).1.toNat,[],(many s0).2) (⟨rfl,by show 0+(many s0).1.toNat≤_;omega⟩) (LS) ?_
 intro q hI
 refine aD ?_
 refine sq ?_
 refine Z1 mo ?_
 refine Z1 bz ?_
 refine Z1 mo ?_
 refine Z4 (fun hC=>mo) ?_
 refine aW (R:=[(_,.live _ _)]) rfl rfl rfl cA (fun hC=>qP rfl rfl (by first|decide|simp)) (fun hC=>⟨(by first|rfl|exact hC|(simp only [Bool.and_eq_true] at hC;first|exact hC.1|exact hC.1.1|exact hC.2)|simp_all),trivial⟩) ⟨rfl,trivial⟩ ?_
 refine aW (R:=[(_,.live _ _)]) rfl rfl rfl cA (fun hC=>eU (off:=0) (sz:=3) (r:=true) rfl rfl (by first|decide|simp) (by kernel_rfl) (by decide)) (fun hC=>⟨(by first|rfl|exact hC|(simp only [Bool.and_eq_true] at hC;first|exact hC.1|exact hC.1.1|exact hC.2)|simp_all),trivial⟩) ⟨rfl,trivial⟩ ?_
 refine aW (R:=[(_,.live _ _)]) rfl rfl rfl cA (fun hC=>eU (off:=2) (sz:=1) (r:=false) rfl rfl (by first|decide|simp) (by kernel_rfl) (by decide)) (fun hC=>⟨(by first|rfl|exact hC|(simp only [Bool.and_eq_true] at hC;first|exact hC.1|exact hC.1.1|exact hC.2)|simp_all),trivial⟩) ⟨rfl,trivial⟩ ?_
 refine aW (R:=[(_,.live _ _)]) rfl rfl rfl cA (fun hC=>fL rfl rfl (by kernel_rfl) rfl) (fun hC=>⟨(by first|rfl|exact hC|(simp only [Bool.and_eq_true] at hC;first|exact hC.1|exact hC.1.1|exact hC.2)|simp_all),trivial⟩) ⟨rfl,trivial⟩ ?_
 refine Z4 (fun hC=>bz) ?_
 refine Z1 an ?_
 refine cn ?_
 refine cd (fun hb=>?_) fun hb=>?_
 ·have h1:0<q.1∧q.2.2.2=0:=by simp only [Bool.and_eq_true,decide_eq_true_eq,beq_iff_eq] at hb;omega
  obtain ⟨f,hf⟩:∃ f,q.1=f+1:=⟨q.1-1,by omega⟩
  have hst:dT one q.1 q.2.2 q.2.1=dT one f (one q.2.2).2 (q.2.1++[(one q.2.2).1]):=by rw [hf];show (if _ then _ else _)=_;rw [if_pos h1.2]
  refine aQ ?_
  refine aD ?_
  refine aU ?_
  refine tx ?_
  refine Z1 mo ?_
  refine Z1 mo ?_
  refine cm ⟨K2,[.own 0 0],.inl rfl,hK,inferInstance,ho q.2.2⟩ ?_
  refine Z1 (fO (ps:=[.tmp 25]) (xs:=[.agg _]) (e:=84) (k:=6) (by_:=48) (zs:=[.int .i64 0,.int .i64 0,.int .i64 0,.int .i64 0,.int .i64 0,.int .i64 0]) rfl (by kernel_rfl) (by kernel_rfl) rfl rfl rfl (by decide) (by decide)) ?_
  refine aZ rfl rfl (iG (e:=84) (k:=6) (by_:=48) (zs:=[.int .i64 0,.int .i64 0,.int .i64 0,.int .i64 0,.int .i64 0,.int .i64 0]) (cs:=gK mT q.2.1) (ds:=cL (mT (one q.2.2).1)) 2 rfl rfl rfl (by kernel_rfl) (by kernel_rfl) rfl (by decide) (by decide) (sC (fun _=>rfl) _) rfl (uZ (k:=6) rfl) (by omega) (by omega)) ⟨rfl,rfl,trivial⟩ ?_
  refine Z1 aB ?_
  refine cn ?_
  refine tx ?_
  refine Z1 mo ?_
  refine Z1 iP ?_
  refine Z1 aB ?_
  refine cn ?_
  exact ⟨(f,q.2.1++[(one q.2.2).1],(one q.2.2).2),⟨by rw [←hst];exact hI.1,by show List.length (_++_)+f≤_;rw [List.length_append];show _+1+f≤_;omega⟩,by show f<q.1;omega,LT 1 2 [2] (hh:=⟨iJ (by decide) (by decide) (by decide) rfl (Nn.out _),mF (by rw [uX,uY];rfl) (Nn.out _),iD (by decide) (by decide),trivial⟩)⟩
 ·have hfin:dT one q.1 q.2.2 q.2.1=(q.2.1,q.2.2):=by
   cases hq:q.1 with
   | zero=>rfl
   | succ f=>
    show (if _ then _ else _)=_
    rw [if_neg]
    intro h
    rw [hq] at hb
    simp [h] at hb
  rw [hI.1] at hfin
  refine bU ?_
  refine aD ?_
  refine bS (Le.freezeR 7 1 mT 6 fZ q.2.1 (fun _=>rfl) rfl rfl) ?_
  refine tx ?_
  refine Z1 mo ?_
  refine Z1 aB ?_
  refine cn ?_
  refine aP ?_
  exact ⟨.inl rfl,aF.tmp rfl (by rw [hfin];rfl),⟨by rw [hfin];rfl,trivial⟩⟩
noncomputable def gTexts (xs:List Int):fV (List ByteArray):=cV (cJ xs) (gText xs)
def wN (xs:List Int):fV (List Int):=cV (cJ xs) (cJ xs)
def rW (xs:List Int)(s:bF):WayP × bF:=(⟨(rB xs s).1,(cJ xs (rB xs s).2).1,(oY xs (cJ xs (rB xs s).2).2).1,(oY xs (oY xs (cJ xs (rB xs s).2).2).2).1⟩,(oY xs (oY xs (cJ xs (rB xs s).2).2).2).2)
noncomputable def gSlot (xs:List Int)(s:bF):SlotP × bF:=(⟨(rB xs s).1,(gTexts xs (rB xs s).2).1⟩,(gTexts xs (rB xs s).2).2)
noncomputable def gLine (xs:List Int):fV (List SlotP):=cV (cJ xs) (gSlot xs)
noncomputable def gLines (xs:List Int):fV (List (List SlotP)):=cV (cJ xs) (gLine xs)
noncomputable def gAct (xs:List Int)(s:bF):VerbP × bF:=(⟨(rX xs s).1,(gLines xs (rX xs s).2).1⟩,(gLines xs (rX xs s).2).2)
def uR (xs:List Int)(s:bF):DeedP × bF:=
 let a0:=cJ xs s
 let a1:=rB xs a0.2
 let a2:=oY xs a1.2
 let a3:=oY xs a2.2
 let a4:=oY xs a3.2
 let a5:=cJ xs a4.2
 (⟨a0.1,a1.1,a2.1,a3.1,a4.1,a5.1⟩,a5.2)
noncomputable def gThing (xs:List Int)(s:bF):ThingP × bF:=
 let a0:=cJ xs s
 let a1:=oY xs a0.2
 let a2:=cJ xs a1.2
 let a3:=cJ xs a2.2
 let a4:=rX xs a3.2
 let a5:=yH xs a4.2
 let a6:=gTexts xs a5.2
 let a7:=gTexts xs a6.2
 let a8:=cV (cJ xs) (rW xs) a7.2
 (⟨a0.1,a1.1,a2.1,a3.1,a4.1,a5.1,a6.1,a7.1,a8.1⟩,a8.2)
theorem uS {xs:List Int}(hb:cI xs)(s:bF):0≤(cJ xs s).1∧(cJ xs s).1≤10000000:=by have:=wO hb (most:=65536) (by decide) s;show 0≤(rS xs 65536 s).1∧(rS xs 65536 s).1≤_;omega
theorem aRQ {P:Program}{k:Nat}{T:TypeId}{xs:List Int}{α:Type}{av:α→Av}{one:fV α}(hk:dN P k=true)(h:∀ s,FC P k [.own 0 0] [(0,.live T (aV xs s))] (av (one s).1) [(0,.live T (aV xs (one s).2))])(s:bF):MC P (.bm k [.own 0 0]) T (aV xs s) (av (one s).1) (aV xs (one s).2):=⟨k,[.own 0 0],.inl rfl,hk,inferInstance,h s⟩
theorem uT (xs:List Int)(hl:xs.length≤1000000)(hb:cI xs):∀ s,MC Tryz.prog (.bm 72 [.own 0 0]) 62 (aV xs s) (vi (cJ xs s).1) (aV xs (cJ xs s).2):=aRQ (av:=vi) (by kernel_rfl) fun s=>rY xs hl hb s
theorem afE (xs:List Int)(hl:xs.length≤1000000)(hb:cI xs)(s:bF):FC Tryz.prog 81 [.own 0 0] [(0,.live 62 (aV xs (s)))] (aK (wN xs s).1) [(0,.live 62 (aV xs ((wN xs s).2)))]:=by
 refine FC.body 2 9 Tryz.func81 rfl (by kernel_rfl) ?_
 refine sq ?_
 refine Z1 aB ?_
 refine cn ?_
 refine sq ?_
 refine Z1 mo ?_
 refine Z1 mo ?_
 refine Z1 (iE (cs:=[.own _ _]) rfl rfl) ?_
 refine Z1 mo ?_
 refine Z1 (iE (cs:=[.own _ _]) rfl rfl) ?_
 refine cr (aRR xs (s) _ 72 (cJ xs) (cJ xs) (uT xs hl hb) (by kernel_rfl) (fun s=>rY xs hl hb s) (uS hb)) ?_
 refine Z1 aB ?_
 refine cn ?_
 refine aP ?_
 exact ⟨.inl rfl,aF.tmp rfl rfl,⟨rfl,trivial⟩⟩
theorem aJR (xs:List Int)(hl:xs.length≤1000000)(hb:cI xs)(s:bF):FC Tryz.prog 136 [.own 0 0] [(0,.live 62 (aV xs (s)))] (bB (gTexts xs s).1) [(0,.live 62 (aV xs ((gTexts xs s).2)))]:=by
 refine FC.body 2 9 Tryz.func136 rfl (by kernel_rfl) ?_
 refine sq ?_
 refine Z1 aB ?_
 refine cn ?_
 refine sq ?_
 refine Z1 mo ?_
 refine Z1 mo ?_
 refine Z1 (iE (cs:=[.own _ _]) rfl rfl) ?_
 refine Z1 mo ?_
 refine Z1 (iE (cs:=[.own _ _]) rfl rfl) ?_
 refine cr (aRS xs (s) _ 82 (cJ xs) (gText xs) (uT xs hl hb) (by kernel_rfl) (fun s=>aJS xs hl hb s) (uS hb)) ?_
 refine Z1 aB ?_
 refine cn ?_
 refine aP ?_
 exact ⟨.inl rfl,aF.tmp rfl rfl,⟨rfl,trivial⟩⟩
theorem afF (xs:List Int)(hl:xs.length≤1000000)(hb:cI xs)(s:bF):FC Tryz.prog 138 [.own 0 0] [(0,.live 62 (aV xs (s)))] (oQ (rW xs s).1) [(0,.live 62 (aV xs ((rW xs s).2)))]:=by
 refine FC.body 2 16 Tryz.func138 rfl (by kernel_rfl) ?_
 refine sq ?_
 refine Z2 (al 1 [.int .i64 0,.int .i64 0,.int .i64 0,.int .i64 0]) ?_
 refine cn ?_
 refine sq ?_
 refine Z1 mo ?_
 refine cr (aEL xs hl hb (_)) ?_
 refine aS 0 1 false ?_
 refine cF [_,_,_,_] ?_
 refine cn ?_
 refine sq ?_
 refine Z1 mo ?_
 refine cr (rY xs hl hb (_)) ?_
 refine aS 1 1 false ?_
 refine cF [_,_,_,_] ?_
 refine cn ?_
 refine sq ?_
 refine Z1 mo ?_
 refine cr (yI xs hl hb (_)) ?_
 refine aS 2 1 false ?_
 refine cF [_,_,_,_] ?_
 refine cn ?_
 refine sq ?_
 refine Z1 mo ?_
 refine cr (yI xs hl hb (_)) ?_
 refine aS 3 1 false ?_
 refine cF [_,_,_,_] ?_
 refine cn ?_
 refine sq ?_
 refine dE 4 [_,_,_,_] ?_
 refine bW [_,_,_,_] ?_
 refine cn ?_
 refine aP ?_
 exact ⟨.inl rfl,aF.cell rfl rfl rfl (by kernel_rfl) (by kernel_rfl) (Nat.le_of_ble_eq_true rfl),⟨rfl,trivial⟩⟩
theorem afG (xs:List Int)(hl:xs.length≤1000000)(hb:cI xs)(s:bF):FC Tryz.prog 172 [.own 0 0] [(0,.live 62 (aV xs (s)))] (lJ (gSlot xs s).1) [(0,.live 62 (aV xs ((gSlot xs s).2)))]:=by
 refine FC.body 2 10 Tryz.func172 rfl (by kernel_rfl) ?_
 refine sq ?_
 refine Z2 (al 1 [.int .i64 0,.slice none 0 0]) ?_
 refine cn ?_
 refine sq ?_
 refine Z1 mo ?_
 refine cr (aEL xs hl hb (_)) ?_
 refine aS 0 1 false ?_
 refine cF [_,_] ?_
 refine cn ?_
 refine sq ?_
 refine Z1 mo ?_
 refine cr (aJR xs hl hb (_)) ?_
 refine aS 1 1 false ?_
 refine cF [_,_] ?_
 refine cn ?_
 refine sq ?_
 refine dE 2 [_,_] ?_
 refine bW [_,_] ?_
 refine cn ?_
 refine aP ?_
 exact ⟨.inl rfl,aF.cell rfl rfl rfl (by kernel_rfl) (by kernel_rfl) (Nat.le_of_ble_eq_true rfl),⟨rfl,trivial⟩⟩
theorem afH (xs:List Int)(hl:xs.length≤1000000)(hb:cI xs)(s:bF):FC Tryz.prog 140 [.own 0 0] [(0,.live 62 (aV xs (s)))] (fQ (gLine xs s).1) [(0,.live 62 (aV xs ((gLine xs s).2)))]:=by
 refine FC.body 2 9 Tryz.func140 rfl (by kernel_rfl) ?_
 refine sq ?_
 refine Z1 aB ?_
 refine cn ?_
 refine sq ?_
 refine Z1 mo ?_
 refine Z1 mo ?_
 refine Z1 (iE (cs:=[.own _ _]) rfl rfl) ?_
 refine Z1 mo ?_
 refine Z1 (iE (cs:=[.own _ _]) rfl rfl) ?_
 refine cr (afI xs (s) _ 172 (cJ xs) (gSlot xs) (uT xs hl hb) (by kernel_rfl) (fun s=>afG xs hl hb s) (uS hb)) ?_
 refine Z1 aB ?_
 refine cn ?_
 refine aP ?_
 exact ⟨.inl rfl,aF.tmp rfl rfl,⟨rfl,trivial⟩⟩
theorem afJ (xs:List Int)(hl:xs.length≤1000000)(hb:cI xs)(s:bF):FC Tryz.prog 78 [.own 0 0] [(0,.live 62 (aV xs (s)))] (iC (gAct xs s).1) [(0,.live 62 (aV xs ((gAct xs s).2)))]:=by
 refine FC.body 2 14 Tryz.func78 rfl (by kernel_rfl) ?_
 refine sq ?_
 refine Z2 (al 1 [.bool false,.slice none 0 0]) ?_
 refine cn ?_
 refine sq ?_
 refine Z1 mo ?_
 refine cr (aRT xs hl hb (_)) ?_
 refine aS 0 1 false ?_
 refine cF [_,_] ?_
 refine cn ?_
 refine sq ?_
 refine Z1 mo ?_
 refine Z1 mo ?_
 refine Z1 (iE (cs:=[.own _ _]) rfl rfl) ?_
 refine Z1 mo ?_
 refine Z1 (iE (cs:=[.own _ _]) rfl rfl) ?_
 refine cr (afK xs (_) _ 140 (cJ xs) (gLine xs) (uT xs hl hb) (by kernel_rfl) (fun s=>afH xs hl hb s) (uS hb)) ?_
 refine aS 1 1 false ?_
 refine cF [_,_] ?_
 refine cn ?_
 refine sq ?_
 refine dE 2 [_,_] ?_
 refine bW [_,_] ?_
 refine cn ?_
 refine aP ?_
 exact ⟨.inl rfl,aF.cell rfl rfl rfl (by kernel_rfl) (by kernel_rfl) (Nat.le_of_ble_eq_true rfl),⟨rfl,trivial⟩⟩
theorem afL (xs:List Int)(hl:xs.length≤1000000)(hb:cI xs)(s:bF):FC Tryz.prog 80 [.own 0 0] [(0,.live 62 (aV xs (s)))] (mT (uR xs s).1) [(0,.live 62 (aV xs ((uR xs s).2)))]:=by
 refine FC.body 2 22 Tryz.func80 rfl (by kernel_rfl) ?_
 refine sq ?_
 refine Z2 (al 1 [.int .i64 0,.int .i64 0,.int .i64 0,.int .i64 0,.int .i64 0,.int .i64 0]) ?_
 refine cn ?_
 refine sq ?_
 refine Z1 mo ?_
 refine cr (rY xs hl hb (_)) ?_
 refine aS 0 1 false ?_
 refine cF [_,_,_,_,_,_] ?_
 refine cn ?_
 refine sq ?_
 refine Z1 mo ?_
 refine cr (aEL xs hl hb (_)) ?_
 refine aS 1 1 false ?_
 refine cF [_,_,_,_,_,_] ?_
 refine cn ?_
 refine sq ?_
 refine Z1 mo ?_
 refine cr (yI xs hl hb (_)) ?_
 refine aS 2 1 false ?_
 refine cF [_,_,_,_,_,_] ?_
 refine cn ?_
 refine sq ?_
 refine Z1 mo ?_
 refine cr (yI xs hl hb (_)) ?_
 refine aS 3 1 false ?_
 refine cF [_,_,_,_,_,_] ?_
 refine cn ?_
 refine sq ?_
 refine Z1 mo ?_
 refine cr (yI xs hl hb (_)) ?_
 refine aS 4 1 false ?_
 refine cF [_,_,_,_,_,_] ?_
 refine cn ?_
 refine sq ?_
 refine Z1 mo ?_
 refine cr (rY xs hl hb (_)) ?_
 refine aS 5 1 false ?_
 refine cF [_,_,_,_,_,_] ?_
 refine cn ?_
 refine sq ?_
 refine dE 6 [_,_,_,_,_,_] ?_
 refine bW [_,_,_,_,_,_] ?_
 refine cn ?_
 refine aP ?_
 exact ⟨.inl rfl,aF.cell rfl rfl rfl (by kernel_rfl) (by kernel_rfl) (Nat.le_of_ble_eq_true rfl),⟨rfl,trivial⟩⟩
theorem afM (xs:List Int)(hl:xs.length≤1000000)(hb:cI xs)(s:bF):FC Tryz.prog 76 [.own 0 0] [(0,.live 62 (aV xs (s)))] (iT (gThing xs s).1) [(0,.live 62 (aV xs ((gThing xs s).2)))]:=by
 refine FC.body 2 35 Tryz.func76 rfl (by kernel_rfl) ?_
 refine sq ?_
 refine Z2 (al 1 [.int .i64 0,.int .i64 0,.int .i64 0,.int .i64 0,.bool false,.slice none 0 0,.slice none 0 0,.slice none 0 0,.slice none 0 0]) ?_
 refine cn ?_
 refine sq ?_
 refine Z1 mo ?_
 refine cr (rY xs hl hb (_)) ?_
 refine aS 0 1 false ?_
 refine cF [_,_,_,_,_,_,_,_,_] ?_
 refine cn ?_
 refine sq ?_
 refine Z1 mo ?_
 refine cr (yI xs hl hb (_)) ?_
 refine aS 1 1 false ?_
 refine cF [_,_,_,_,_,_,_,_,_] ?_
 refine cn ?_
 refine sq ?_
 refine Z1 mo ?_
 refine cr (rY xs hl hb (_)) ?_
 refine aS 2 1 false ?_
 refine cF [_,_,_,_,_,_,_,_,_] ?_
 refine cn ?_
 refine sq ?_
 refine Z1 mo ?_
 refine cr (rY xs hl hb (_)) ?_
 refine aS 3 1 false ?_
 refine cF [_,_,_,_,_,_,_,_,_] ?_
 refine cn ?_
 refine sq ?_
 refine Z1 mo ?_
 refine cr (aRT xs hl hb (_)) ?_
 refine aS 4 1 false ?_
 refine cF [_,_,_,_,_,_,_,_,_] ?_
 refine cn ?_
 refine sq ?_
 refine Z1 mo ?_
 refine cr (aJT xs hl hb (_)) ?_
 refine aS 5 1 false ?_
 refine cF [_,_,_,_,_,_,_,_,_] ?_
 refine cn ?_
 refine sq ?_
 refine Z1 mo ?_
 refine cr (aJR xs hl hb (_)) ?_
 refine aS 6 1 false ?_
 refine cF [_,_,_,_,_,_,_,_,_] ?_
 refine cn ?_
 refine sq ?_
 refine Z1 mo ?_
 refine cr (aJR xs hl hb (_)) ?_
 refine aS 7 1 false ?_
 refine cF [_,_,_,_,_,_,_,_,_] ?_
 refine cn ?_
 refine sq ?_
 refine Z1 mo ?_
 refine Z1 mo ?_
 refine Z1 (iE (cs:=[.own _ _]) rfl rfl) ?_
 refine Z1 mo ?_
 refine Z1 (iE (cs:=[.own _ _]) rfl rfl) ?_
 refine cr (afN xs (_) _ 138 (cJ xs) (rW xs) (uT xs hl hb) (by kernel_rfl) (fun s=>afF xs hl hb s) (uS hb)) ?_
 refine aS 8 1 false ?_
 refine cF [_,_,_,_,_,_,_,_,_] ?_
 refine cn ?_
 refine sq ?_
 refine dE 9 [_,_,_,_,_,_,_,_,_] ?_
 refine bW [_,_,_,_,_,_,_,_,_] ?_
 refine cn ?_
 refine aP ?_
 exact ⟨.inl rfl,aF.cell rfl rfl rfl (by kernel_rfl) (by kernel_rfl) (Nat.le_of_ble_eq_true rfl),⟨rfl,trivial⟩⟩
end Go.Proofs.YtnklgkjfoggpbaaGreatDoor
