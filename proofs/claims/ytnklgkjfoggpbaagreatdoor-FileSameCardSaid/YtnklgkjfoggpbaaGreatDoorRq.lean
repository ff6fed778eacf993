/- Parts of the proof of a law of this seat: rules and contracts; no conditions. -/
import Derived.Test.YtnklgkjfoggpbaaGreatDoorLt
import Derived.Test.YtnklgkjfoggpbaaGreatDoorRn
import Derived.Test.YtnklgkjfoggpbaaGreatDoorRdh
import Derived.Test.YtnklgkjfoggpbaaGreatDoorPu
import Derived.Test.YtnklgkjfoggpbaaGreatDoorProg
import Derived.KernelRfl
import Derived.Test.YtnklgkjfoggpbaaGreatDoorMk
import Derived.Test.YtnklgkjfoggpbaaGreatDoorRm
set_option maxHeartbeats 6400000
set_option maxRecDepth 100000
set_option linter.unusedVariables false
set_option linter.unusedSimpArgs false
namespace Go.Proofs.YtnklgkjfoggpbaaGreatDoor
open Go.RowKit
def uN (s:StoryP):Bool:=(xK s.tab.texts 60 1500&&decide ((s.code.length:Int)≤3000))&&decide ((s.entry.length:Int)≤200)
theorem aQV {s:StoryP}(h:uN s=true):s.tab.texts.length≤60∧s.code.length≤3000∧s.entry.length≤200:=by
 unfold uN xK at h
 simp only [Bool.and_eq_true,decide_eq_true_eq] at h
 omega
theorem aj8 {s:StoryP}(ht:tabG s.tab)(he:aIS s)(hn:s.tab.texts.length≤60)(hc:s.code.length≤3000):(iK s (makeP s.tab.texts).1).length≤900000:=by
 have hp:=(aAL ht).2
 have q:(makeP s.tab.texts).1.at_.length≤60∧(makeP s.tab.texts).1.bytes.length≤115320:=by
  have h1:=uH (ab:=chooseP s.tab.texts 31) (l:=s.tab.texts) s.tab.texts.length (aAK ht)
  rw [aAF (by omega) (aAK ht)]
  exact ⟨by show (bT _ _ _).1.length≤_;omega,by show (bT _ _ _).2.length≤_;omega⟩
 have a:((cW s).flatMap aC).length≤5*10:=xT (l:=cW s) fun z hz=>by
  refine lN ?_
  unfold cW at hz
  simp only [List.mem_cons,List.not_mem_nil,or_false] at hz
  have:=ht.title;have:=ht.by_;have:=ht.release;have:=ht.max;have:=ht.flags
  omega
 have b:=nN (e:=aY) 18 hp.abb.1 (by omega) fun w hw=>wB (hp.abb.2 w hw) (by omega)
 have c:=pO q.1 (by omega) (by omega) hp.at_.2
 have d:=wB (s:=strOfNums (makeP s.tab.texts).1.bytes) (c:=115320) (by rw [strOfNums_size];exact q.2) (by omega)
 have e:=aAJ ht.props.1 (by omega)
 have f:=aAJ ht.globals.1 (by omega)
 have g:=nN (e:=fH) 1000 ht.things.1.2 (by omega) fun x hx=>aQB (ht.things.2 x hx)
 have h:=nN (e:=fS) 6000 ht.acts.1 (by omega) fun x hx=>aQC (ht.acts.2 x hx)
 have i:=nN (e:=gG) 61 ht.deeds.1 (by omega) fun x hx=>aQD (ht.deeds.2 x hx)
 have j:((fD s).flatMap (aJ aC)).length≤5*20490:=xT (l:=fD s) fun l hl=>by
  unfold fD at hl
  simp only [List.mem_cons,List.not_mem_nil,or_false] at hl
  have j1:=pO ht.funcs.1 (by omega) (by omega) ht.funcs.2
  have j2:=pO ht.daemons.1 (by omega) (by omega) ht.daemons.2
  have j3:=pO ht.params.1 (by omega) (by omega) ht.params.2
  have j4:=pO ht.locals.1 (by omega) (by omega) ht.locals.2
  have j5:=pO he.1 (by omega) (by omega) he.2
  rcases hl with rfl|rfl|rfl|rfl|rfl<;>omega
 have k:=wB (s:=strOfNums s.code) (c:=3000) (by rw [strOfNums_size];exact hc) (by omega)
 unfold iK e5 e4 e3 e2 e1 gU
 simp only [List.length_append,cQ,List.length_cons,List.length_nil]
 omega
theorem aI9 {s:StoryP}(h0:SOk s)(hw:(writeP s).2=0)(hn:s.tab.texts.length≤60)(hc:s.code.length≤3000):(writeP s).1=gY (iK s (makeP s.tab.texts).1)∧(iK s (makeP s.tab.texts).1).length≤900000∧tabG s.tab:=by
 unfold writeP at hw ⊢
 split at hw
 ·cases hw
 ·rename_i hok
  have hv:(gV s).2=0:=Classical.not_not.1 fun h=>hok (.inl h)
  have hf:iL s.tab=true:=by cases h:iL s.tab with|true=>rfl|false=>exact absurd (.inr h) hok
  have hG:=aAO h0.first hf
  rw [if_neg hok]
  exact ⟨rfl,aj8 hG (aD4 h0.code hG hv) hn hc,hG⟩
theorem aJA {s:StoryP}(h0:SOk s):dF (writeP s).1:=(aI3 h0).2
theorem aQY {s:StoryP}(h0:SOk s)(hw:(writeP s).2=0)(hn:s.tab.texts.length≤60)(hc:s.code.length≤3000):PC Tryz.prog 7 [bs (writeP s).1] (.tup [cX s,vi 0]):=by
 obtain ⟨e,hl,hG⟩:=aI9 h0 hw hn hc
 have hb:=aJA h0
 have hr:=ai4 h0 hw (by omega) (by omega)
 have ho:cB (writeP s).1=(iK s (makeP s.tab.texts).1,0):=by rw [e,aK8]
 have h:=aK9 (writeP s).1 (by rw [e,xY];omega) hb (fun _=>aLI _) (fun _ _=>by
  rw [ho]
  dsimp only
  rw [(aiU hG (by omega)).1]
  rw [aK5 (aK2 hG)]
  exact ajC (aK2 hG))
 rw [hr] at h
 exact h
theorem ad0 {s:StoryP}(h0:SOk s)(hw:(writeP s).2=0)(hn:s.tab.texts.length≤60)(hc:s.code.length≤3000){i:Nat}{y:Int}(hi:i<(writeP s).1.length)(hy:0≤y∧y<256)(hne:(writeP s).1.getD i 0≠y):PC Tryz.prog 7 [bs ((writeP s).1.set i y)] (.tup [cX jT,vi 14]):=by
 obtain ⟨e,hl,_⟩:=aI9 h0 hw hn hc
 have hb:=aJA h0
 have ho:cB ((writeP s).1.set i y)=([],14):=by
  rw [e] at hi hne ⊢
  exact ai1 (uM (aIR _ _)) hy hi hne
 have hby:dF ((writeP s).1.set i y):=by
  rw [mV] at hb ⊢
  intro x hx
  rcases List.mem_or_eq_of_mem_set hx with h|rfl
  ·exact hb x h
  ·exact hy
 have h:=aK9 _ (by rw [List.length_set,e,xY];omega) hby (fun h=>by rw [ho] at h;cases h) (fun h=>by rw [ho] at h;cases h)
 rw [aTZ (by rw [ho];decide),ho] at h
 exact h
theorem aJB (b:List Int)(hl:b.length≤4000)(hby:dF b):PC Tryz.prog 7 [bs b] (.tup [cX (readP b).1,vi (readP b).2]):=
 aK9 b (by omega) hby (fun _=>aLI _) (fun _ _=>ajT (by have:=aLA b;omega) (aLB hby) _)
theorem aj9:PC Tryz.prog 7 [.val (.slice none 0 0)] (.tup [cX jT,vi 2]):=by
 have h:=aJB [] (by simp) (uM (fun x hx=>by cases hx))
 rw [aj7] at h
 exact PC.arg h aI0
theorem akA:PC Tryz.prog 7 [bs (gY tI)] (.tup [cX jT,vi 15]):=by
 have h:=aJB (gY tI) (by rw [xY];decide) (uM (fC (fun x hx=>by simp [tI] at hx;omega) (aQP _)))
 rw [aj6] at h
 exact h
theorem akB:PC Tryz.prog 15 [cX jT] (.tup [bs [],vi 18]):=by
 have h:=aAN jT aT1
 rw [aT2] at h
 exact h
theorem akC:PC Tryz.prog 12 [cX jT] (vw 0):=by
 have h:=aD6 jT aT1
 rw [aj5] at h
 exact h
theorem akD:PC Tryz.prog 15 [cX mJ] (.tup [bs (writeP mJ).1,vi 0]):=by
 have h:=aAN mJ aT0
 rw [aT3] at h
 exact h
theorem akE:PC Tryz.prog 7 [bs (writeP mJ).1] (.tup [cX mJ,vi 0]):=aQY aT0 aT3 (by decide) (by decide)
theorem aI8 (s:StoryP):PC Tryz.prog 14 [cX s] (vb (uN s)):=by
 refine FC.body 2 19 Tryz.func14 rfl (by kernel_rfl) ?_
 refine sq ?_
 refine Z1 bx ?_
 refine Z1 aB ?_
 refine cn ?_
 refine sq ?_
 refine Z1 (qK 0 15) ?_
 refine Z1 (fa 4) ?_
 refine Z1 ld ?_
 refine Z1 (ca (aYU s.tab.texts 60 1500 (by omega) (by omega) (by omega))) ?_
 refine Z1 mo ?_
 refine Z4 (fun hC=>fa 16) ?_
 refine Z4 (fun hC=>ld) ?_
 refine Z4 (fun hC=>ln) ?_
 refine Z4 (fun hC=>bz) ?_
 refine Z1 an ?_
 refine Z1 mo ?_
 refine Z4 (fun hC=>fa 15) ?_
 refine Z4 (fun hC=>ld) ?_
 refine Z4 (fun hC=>ln) ?_
 refine Z4 (fun hC=>bz) ?_
 refine Z1 an ?_
 refine Z1 aB ?_
 refine cn ?_
 refine aP ?_
 exact ⟨.inl rfl,aF.tmp rfl rfl,trivial⟩
end Go.Proofs.YtnklgkjfoggpbaaGreatDoor
namespace Go.Proofs.YtnklgkjfoggpbaaGreatDoor
open Go.RowKit
theorem akO (E:Env)(v:Value)(h:aA E (.sl 1 1 (gE [vs ⟨#[120]⟩])) v):aA E (bB kF.texts) v:=pI (n:=1) (fun E j hj v hv=>by
 have:j=0:=by omega
 subst this
 exact hv) E v h
theorem akP (E:Env)(v:Value)(h:aA E (.sl 9 3 (gE [.agg [vi 0,vi (-1),vi 0,vi 0,.val (.bool false),.val (.slice none 0 0),.val (.slice none 0 0),.val (.slice none 0 0),.val (.slice none 0 0)],.agg [vi 0,vi (-1),vi 2,vi 0,.val (.bool false),.val (.slice none 0 0),.val (.slice none 0 0),.val (.slice none 0 0),.val (.slice none 0 0)],.agg [vi 0,vi (-1),vi 0,vi 0,.val (.bool true),.val (.slice none 0 0),.val (.slice none 0 0),.val (.slice none 0 0),.val (.slice none 0 0)]])) v):aA E (gA kF.things) v:=pI (n:=3) (fun E j hj v hv=>by
 rcases j with _|_|_|j
 iterate 3
  ·refine aAG hv rfl fun E i x y hx hy v h=>?_
   rcases i with _|_|_|_|_|_|_|_|_|i<;>simp [kF] at hx hy<;>subst hx<;>subst hy<;>first|exact h|exact qI E v h
 ·omega) E v h
theorem akQ (E:Env)(v:Value)(h:aA E (.agg [vi 0,vi 0,vi 0,vi 0,bB kF.texts,vi 4,.val (.slice none 0 0),.val (.slice none 0 0),gA kF.things,.val (.slice none 0 0),.val (.slice none 0 0),.val (.slice none 0 0),.val (.slice none 0 0),.val (.slice none 0 0),.val (.slice none 0 0)]) v):aA E (bR kF) v:=by
 refine aAG h rfl fun E i x y hx hy v h=>?_
 rcases i with _|_|_|_|_|_|_|_|_|_|_|_|_|_|_|i<;>simp at hx hy<;>subst hx<;>subst hy<;>first|exact h|exact qI E v h
theorem aT6 (E:Env)(v:Value)(h:aA E (.agg [vi 0,vi 0,vi 0,vi 0,bB kF.texts,vi 4,aK kF.props,aK kF.globals,gA kF.things,gB kF.acts,fY kF.deeds,aK kF.funcs,aK kF.daemons,aK kF.params,aK kF.locals,.val (.slice none 0 0),.val (.slice none 0 0)]) v):aA E (cX mJ) v:=by
 refine aAG h rfl fun E i x y hx hy v h=>?_
 rcases i with _|_|_|_|_|_|_|_|_|_|_|_|_|_|_|_|_|i<;>simp at hx hy<;>subst hx<;>subst hy<;>first|exact h|exact qI E v h
theorem akR:PC Tryz.prog 16 [cX mJ,cX mJ] (vb true):=by
 have h:=aHR mJ mJ (fun x hx=>by cases hx) (fun x hx=>by cases hx)
 rwa [aI7] at h
theorem uO:PC Tryz.prog 6 [] (vb true):=by
 refine FC.body 5 74 Tryz.func6 rfl (by kernel_rfl) ?_
 refine sq ?_
 refine Z1 aB ?_
 refine cn ?_
 refine sq ?_
 refine Z1 (ca (aj9)) ?_
 refine Z1 mo ?_
 refine Z1 ex ?_
 refine Z1 ex ?_
 refine Z2 (al 0 [.int .i64 0,.int .i64 0,.int .i64 0,.int .i64 0,.slice none 0 0,.int .i64 0,.slice none 0 0,.slice none 0 0,.slice none 0 0,.slice none 0 0,.slice none 0 0,.slice none 0 0,.slice none 0 0,.slice none 0 0,.slice none 0 0,.slice none 0 0,.slice none 0 0]) ?_
 refine bW [_,_,_,_,_,_,_,_,_,_,_,_,_,_,_,_,_] ?_
 refine Z1 aB ?_
 refine cn ?_
 refine sq ?_
 refine aZ rfl rfl (aC5 (ps:=[_,_,_,_,_]) (xs:=[.val _,.val _,.val _,.val _,.val _]) (e:=5) (by_:=1) (zs:=[.int .u8 0]) 1 rfl (by kernel_rfl) (by kernel_rfl) rfl rfl rfl rfl (by decide)) ⟨rfl,trivial⟩ ?_
 refine aZ rfl rfl (aQM [67,76,69,87,2] (by decide) rfl (fun j x h=>by have:=congrArg (Option.map fun x=>Av.val (.int .u8 x)) h;rw [←List.getElem?_map] at this;exact this)) ⟨rfl,trivial⟩ ?_
 refine Z1 (ca (akN tI (uM (fun x hx=>by simp [tI] at hx;omega)) (by decide))) ?_
 refine Z1 (ca (akA)) ?_
 refine Z1 mo ?_
 refine Z1 ex ?_
 refine Z1 ex ?_
 refine Z2 (al 2 [.int .i64 0,.int .i64 0,.int .i64 0,.int .i64 0,.slice none 0 0,.int .i64 0,.slice none 0 0,.slice none 0 0,.slice none 0 0,.slice none 0 0,.slice none 0 0,.slice none 0 0,.slice none 0 0,.slice none 0 0,.slice none 0 0,.slice none 0 0,.slice none 0 0]) ?_
 refine bW [_,_,_,_,_,_,_,_,_,_,_,_,_,_,_,_,_] ?_
 refine Z1 aB ?_
 refine cn ?_
 refine sq ?_
 refine Z1 (OC.to (bd [(0,15),(15,1),(16,1)] [.int .i64 0,.int .i64 0,.int .i64 0,.int .i64 0,.slice none 0 0,.int .i64 0,.slice none 0 0,.slice none 0 0,.slice none 0 0,.slice none 0 0,.slice none 0 0,.slice none 0 0,.slice none 0 0,.slice none 0 0,.slice none 0 0,.slice none 0 0,.slice none 0 0] [.val _,.val _,.val _,.val _,.val _,.val _,.val _,.val _,.val _,.val _,.val _,.val _,.val _,.val _,.val _,.val _,.val _]) (wY)) ?_
 refine Z1 (ca (akB)) ?_
 refine Z1 mo ?_
 refine Z1 ex ?_
 refine Z1 ex ?_
 refine Z1 aB ?_
 refine Z1 aB ?_
 refine cn ?_
 refine sq ?_
 refine Z1 (OC.to (fO (ps:=[_]) (xs:=[.val _]) (e:=9) (k:=1) (by_:=16) (zs:=[.string ⟨#[]⟩]) rfl (by kernel_rfl) (by kernel_rfl) rfl rfl rfl (by decide) (by decide)) (akO)) ?_
 refine Z1 (bd [(0,1),(1,1),(2,1),(3,1),(4,1),(5,1),(6,1),(7,1),(8,1)] [.int .i64 0,.int .i64 0,.int .i64 0,.int .i64 0,.bool false,.slice none 0 0,.slice none 0 0,.slice none 0 0,.slice none 0 0] [.val _,.val _,.val _,.val _,.val _,.val _,.val _,.val _,.val _]) ?_
 refine Z1 (bd [(0,1),(1,1),(2,1),(3,1),(4,1),(5,1),(6,1),(7,1),(8,1)] [.int .i64 0,.int .i64 0,.int .i64 0,.int .i64 0,.bool false,.slice none 0 0,.slice none 0 0,.slice none 0 0,.slice none 0 0] [.val _,.val _,.val _,.val _,.val _,.val _,.val _,.val _,.val _]) ?_
 refine Z1 (bd [(0,1),(1,1),(2,1),(3,1),(4,1),(5,1),(6,1),(7,1),(8,1)] [.int .i64 0,.int .i64 0,.int .i64 0,.int .i64 0,.bool false,.slice none 0 0,.slice none 0 0,.slice none 0 0,.slice none 0 0] [.val _,.val _,.val _,.val _,.val _,.val _,.val _,.val _,.val _]) ?_
 refine Z1 (OC.to (fO (ps:=[.tmp 29,.tmp 30,.tmp 31]) (xs:=[.agg _,.agg _,.agg _]) (e:=57) (k:=9) (by_:=136) (zs:=[.int .i64 0,.int .i64 0,.int .i64 0,.int .i64 0,.bool false,.slice none 0 0,.slice none 0 0,.slice none 0 0,.slice none 0 0]) rfl (by kernel_rfl) (by kernel_rfl) rfl rfl rfl (by decide) (by decide)) (akP)) ?_
 refine Z1 (OC.to (bd [(0,1),(1,1),(2,1),(3,1),(4,1),(5,1),(6,1),(7,1),(8,1),(9,1),(10,1),(11,1),(12,1),(13,1),(14,1)] [.int .i64 0,.int .i64 0,.int .i64 0,.int .i64 0,.slice none 0 0,.int .i64 0,.slice none 0 0,.slice none 0 0,.slice none 0 0,.slice none 0 0,.slice none 0 0,.slice none 0 0,.slice none 0 0,.slice none 0 0,.slice none 0 0] [.val _,.val _,.val _,.val _,.sl _ _ _,.val _,.val _,.val _,.sl _ _ _,.val _,.val _,.val _,.val _,.val _,.val _]) (akQ)) ?_
 refine Z2 (al 3 [.int .i64 0,.int .i64 0,.int .i64 0,.int .i64 0,.slice none 0 0,.int .i64 0,.slice none 0 0,.slice none 0 0,.slice none 0 0,.slice none 0 0,.slice none 0 0,.slice none 0 0,.slice none 0 0,.slice none 0 0,.slice none 0 0]) ?_
 refine bW [_,_,_,_,_,_,_,_,_,_,_,_,_,_,_] ?_
 refine cn ?_
 refine sq ?_
 refine dE 15 [_,_,_,_,_,_,_,_,_,_,_,_,_,_,_] ?_
 refine Z1 (OC.to (bd [(0,15),(15,1),(16,1)] [.int .i64 0,.int .i64 0,.int .i64 0,.int .i64 0,.slice none 0 0,.int .i64 0,.slice none 0 0,.slice none 0 0,.slice none 0 0,.slice none 0 0,.slice none 0 0,.slice none 0 0,.slice none 0 0,.slice none 0 0,.slice none 0 0,.slice none 0 0,.slice none 0 0] [_,_,_,_,_,_,_,_,_,_,_,_,_,_,_,.val _,.val _]) (aT6)) ?_
 refine Z1 (ca (akD)) ?_
 refine Z1 mo ?_
 refine Z1 ex ?_
 refine Z1 ex ?_
 refine Z1 aB ?_
 refine Z1 aB ?_
 refine cn ?_
 refine sq ?_
 refine Z1 mo ?_
 refine Z1 (ca (akE)) ?_
 refine Z1 mo ?_
 refine Z1 ex ?_
 refine Z1 ex ?_
 refine Z2 (al 4 [.int .i64 0,.int .i64 0,.int .i64 0,.int .i64 0,.slice none 0 0,.int .i64 0,.slice none 0 0,.slice none 0 0,.slice none 0 0,.slice none 0 0,.slice none 0 0,.slice none 0 0,.slice none 0 0,.slice none 0 0,.slice none 0 0,.slice none 0 0,.slice none 0 0]) ?_
 refine bW [_,_,_,_,_,_,_,_,_,_,_,_,_,_,_,_,_] ?_
 refine Z1 aB ?_
 refine cn ?_
 refine sq ?_
 refine Z1 mo ?_
 refine Z1 bz ?_
 refine Z1 mo ?_
 refine Z4 (fun hC=>mo) ?_
 refine Z4 (fun hC=>bz) ?_
 refine Z1 an ?_
 refine Z1 mo ?_
 refine Z4 (fun hC=>mo) ?_
 refine Z4 (fun hC=>bz) ?_
 refine Z1 an ?_
 refine Z1 mo ?_
 refine Z4 (fun hC=>OC.to (bd [(0,15),(15,1),(16,1)] [.int .i64 0,.int .i64 0,.int .i64 0,.int .i64 0,.slice none 0 0,.int .i64 0,.slice none 0 0,.slice none 0 0,.slice none 0 0,.slice none 0 0,.slice none 0 0,.slice none 0 0,.slice none 0 0,.slice none 0 0,.slice none 0 0,.slice none 0 0,.slice none 0 0] [.val _,.val _,.val _,.val _,.val _,.val _,.val _,.val _,.val _,.val _,.val _,.val _,.val _,.val _,.val _,.val _,.val _]) (wY)) ?_
 refine Z4 (fun hC=>ca (akC)) ?_
 refine Z4 (fun hC=>bz) ?_
 refine Z1 an ?_
 refine Z1 mo ?_
 refine Z4 (fun hC=>mo) ?_
 refine Z4 (fun hC=>bz) ?_
 refine Z1 an ?_
 refine Z1 mo ?_
 refine Z4 (fun hC=>mo) ?_
 refine Z4 (fun hC=>bz) ?_
 refine Z1 an ?_
 refine Z1 mo ?_
 refine aW (R:=[(_,.live _ _)]) rfl rfl rfl cA (fun hC=>mA (k:=17) (ds:=[_,_,_,_,_,_,_,_,_,_,_,_,_,_,_,_,_]) rfl rfl (by kernel_rfl) (by kernel_rfl) rfl rfl (by decide)) (fun hC=>⟨(by first|rfl|exact hC|(simp only [Bool.and_eq_true] at hC;first|exact hC.1|exact hC.1.1|exact hC.2)|simp_all),trivial⟩) ⟨rfl,trivial⟩ ?_
 refine aW (R:=[(_,.live _ _)]) rfl rfl rfl cA (fun hC=>mA (k:=15) (ds:=[_,_,_,_,_,_,_,_,_,_,_,_,_,_,_]) rfl rfl (by kernel_rfl) (by kernel_rfl) rfl rfl (by decide)) (fun hC=>⟨(by first|rfl|exact hC|(simp only [Bool.and_eq_true] at hC;first|exact hC.1|exact hC.1.1|exact hC.2)|simp_all),trivial⟩) ⟨rfl,trivial⟩ ?_
 refine Z4 (fun hC=>OC.to (bd [(0,15),(15,1),(16,1)] [.int .i64 0,.int .i64 0,.int .i64 0,.int .i64 0,.slice none 0 0,.int .i64 0,.slice none 0 0,.slice none 0 0,.slice none 0 0,.slice none 0 0,.slice none 0 0,.slice none 0 0,.slice none 0 0,.slice none 0 0,.slice none 0 0,.slice none 0 0,.slice none 0 0] [_,_,_,_,_,_,_,_,_,_,_,_,_,_,_,.val _,.val _]) (aT6)) ?_
 refine Z4 (fun hC=>ca (akR)) ?_
 refine Z1 an ?_
 refine Z1 aB ?_
 refine cn ?_
 refine aP ?_
 exact ⟨.inl rfl,aF.tmp rfl rfl,trivial⟩
end Go.Proofs.YtnklgkjfoggpbaaGreatDoor
namespace Go.Proofs.YtnklgkjfoggpbaaGreatDoor
open Go.RowKit
structure Stk (s:StoryP):Prop where
 wf:s.tab.wf
 by_:dF s.code
 entry:s.entry.length≤1000000000000000
 funcs:s.tab.funcs.length≤140737488355328
 params:s.tab.params.length≤140737488355328
 first:(s.tab.things.getD 0 cY).words.length≤1000000000000000∧(s.tab.things.getD 0 cY).adjs.length≤1000000000000000∧(s.tab.things.getD 0 cY).ways.length≤1000000000000000
theorem Stk.ok {s:StoryP}(h:Stk s)(hL:uN s=true):SOk s:=⟨h.wf,by have:=aQV hL;omega,h.by_,h.entry,h.funcs,h.params,h.first⟩
theorem Stk.bts {s:StoryP}(h:Stk s):dC s.code:=mV.1 h.by_
theorem adQ {b:Bool}(h:(!b)=false):b=true:=by cases b<;>first|rfl|cases h
def nQ (n:Int)(L:Nat):Nat:=((n%18446744073709551616).toNat)%L
def mW (n:Int):Nat:=1+(n%18446744073709551616).toNat%255
theorem adR (n:Int)(L m:Nat)(h:m=L)(hL:L<18446744073709551616):Av.val (.int .u64 ((IntKind.u64.wrap n).tmod (IntKind.u64.wrap ((m:Nat):Int))))=.val (.int .u64 ((nQ n L:Nat):Int)):=by
 subst h
 rw [wD,wD,Int.tmod_eq_emod_of_nonneg (by omega),show ((m:Nat):Int)%18446744073709551616=(m:Int) from by omega]
 unfold nQ
 rw [Int.natCast_emod,Int.toNat_of_nonneg (by omega)]
theorem adS (n:Int):Av.val (.int .u64 ((IntKind.u64.wrap n).tmod 255))=.val (.int .u64 (n%18446744073709551616%255)):=by rw [wD,Int.tmod_eq_emod_of_nonneg (by omega)]
theorem adT (n:Int):nR .add .u64 1 (n%18446744073709551616%255)=some (.int .u64 ((mW n:Nat):Int)):=by
 unfold mW
 simp only [nR]
 rw [wD,show (1+n%18446744073709551616%255)%18446744073709551616=((1+(n%18446744073709551616).toNat%255:Nat):Int) from by omega]
theorem adU (n:Int):Av.val (.int .u8 (IntKind.u8.wrap ((mW n:Nat):Int)))=.val (.int .u8 ((mW n:Nat):Int)):=by
 rw [aI6,show ((mW n:Nat):Int)%256=((mW n:Nat):Int) from by unfold mW;omega]
theorem adV (a:Nat)(n:Int):a ^^^ mW n≠a:=fun h=>by
 have h1:mW n=0:=by
  have h2:=congrArg (fun x=>a ^^^ x) h
  simp only [Nat.xor_self,←Nat.xor_assoc,Nat.zero_xor] at h2
  exact h2
 unfold mW at h1
 omega
theorem Le.freezeB {N:Nat}{D:List Nat}{s:List (Nat × Av)}{h:List (Nat × Hs)}(t n:Nat)(B:List Int){len:Nat}{ty:TypeId}{cs:List Av}(hs:bN s t=.osl 1 n len)(hlen:len=B.length)(hn:aL h n=some (.live ty cs))(hcs:cs=B.map bw):Le N D ⟨s,h⟩ ⟨(t,bs B)::s,(n,.dead)::h⟩:=by
 subst hlen
 subst hcs
 exact Le.freeze t n (bv B) hs hn (by simp) (aDP B)
theorem adW (s:StoryP)(h:dC s.code):PC Tryz.prog 16 [cX s,cX s] (vb true):=by
 have h:=aHR s s h h
 rwa [aI7] at h
theorem aQW (s:StoryP):PC Tryz.prog 17 [cX s,cX s] (vb true):=by
 have h:=aPB s s
 rwa [aI7] at h
theorem adX {s:StoryP}(h:SOk s)(hv:gV s=(0,0)):PC Tryz.prog 9 [cX s] (.tup [vi 0,vi 0]):=by
 have h:=aIZ s h.code h.by_ h.entry h.funcs h.params
 rwa [hv] at h
theorem adY (a b:StoryP)(sa:Stk a)(sb:Stk b):PC Tryz.prog 5 [cX a,cX b] (vb true):=by
 refine FC.body 0 42 Tryz.func5 rfl (by kernel_rfl) ?_
 refine sq ?_
 refine Z1 bx ?_
 refine Z1 bx ?_
 refine Z1 aB ?_
 refine cn ?_
 refine aD ?_
 refine sq ?_
 refine Z1 lr ?_
 refine Z1 (ca (aI8 a)) ?_
 refine Z1 nt ?_
 refine Z1 mo ?_
 refine Z4 (fun hC=>lr) ?_
 refine Z4 (fun hC=>ca (aI8 b)) ?_
 refine Z4 (fun hC=>nt) ?_
 refine Z1 cC ?_
 refine cn ?_
 refine cd (fun hb=>?_) fun hb=>?_
 ·refine sq ?_
  refine Z1 (ca (uO)) ?_
  refine Z1 aB ?_
  refine cn ?_
  refine aP ?_
  exact ⟨.inl rfl,aF.tmp rfl rfl,trivial⟩
 ·have h2:uN a=true∧uN b=true:=by cases h1:uN a<;>cases h3:uN b<;>simp_all
  have ka:=sa.ok h2.1
  have kb:=sb.ok h2.2
  refine aQ ?_
  refine sq ?_
  refine Z1 lr ?_
  refine Z1 lr ?_
  refine Z1 (ca (aPB a b)) ?_
  refine Z1 aB ?_
  refine cn ?_
  refine aD ?_
  refine dw ?_
  refine Z1 mo ?_
  refine Z1 lr ?_
  refine Z1 lr ?_
  refine Z1 (ca (aHR a b sa.bts sb.bts)) ?_
  refine Z1 (aHP rfl rfl rfl (by kernel_rfl)) ?_
  refine Z1 mo ?_
  refine Z4 (fun hC=>lr) ?_
  refine Z4 (fun hC=>lr) ?_
  refine Z4 (fun hC=>ca (aQW a)) ?_
  refine Z1 an ?_
  refine Z1 mo ?_
  refine Z4 (fun hC=>mo) ?_
  refine Z4 (fun hC=>nt) ?_
  refine Z4 (fun hC=>mo) ?_
  refine Z4 (fun hC=>lr) ?_
  refine Z4 (fun hC=>ca (aD6 a ka)) ?_
  refine Z4 (fun hC=>lr) ?_
  refine Z4 (fun hC=>ca (aD6 b kb)) ?_
  refine Z4 (fun hC=>bz) ?_
  refine Z6 ?_
  refine Z1 an ?_
  refine Z1 mo ?_
  refine Z4 (fun hC=>ca (uO)) ?_
  refine Z1 an ?_
  refine Z1 aB ?_
  refine cn (dn ?_)
  refine aP ?_
  exact ⟨.inl rfl,aF.tmp rfl (bP (by
   cases hs:uC a b
   ·simp
   ·have:=(aQX a b).1 hs
    subst this
    simp)),trivial⟩
theorem adZ (s:StoryP)(hs:Stk s)(at_ bits:Int):PC Tryz.prog 4 [cX s,vi at_,vi bits] (vb true):=by
 refine FC.body 4 79 Tryz.func4 rfl (by kernel_rfl) ?_
 refine sq ?_
 refine Z1 bx ?_
 refine Z1 aB ?_
 refine cn ?_
 refine aD ?_
 refine sq ?_
 refine Z1 lr ?_
 refine Z1 (ca (aI8 s)) ?_
 refine Z1 nt ?_
 refine cn ?_
 refine cd (fun hb=>?_) fun hb=>?_
 ·refine sq ?_
  refine Z1 (ca (uO)) ?_
  refine Z1 aB ?_
  refine cn ?_
  refine aP ?_
  exact ⟨.inl rfl,aF.tmp rfl rfl,trivial⟩
 ·have hL:=adQ hb
  obtain ⟨hn,hc,he⟩:=aQV hL
  have h0:=hs.ok hL
  refine aQ ?_
  refine sq ?_
  refine Z1 lr ?_
  refine Z1 (ca (aAN s h0)) ?_
  refine Z1 mo ?_
  refine Z1 ex ?_
  refine Z1 ex ?_
  refine Z1 aB ?_
  refine Z1 aB ?_
  refine cn ?_
  refine aD ?_
  refine sq ?_
  refine Z1 mo ?_
  refine Z1 bz ?_
  refine cn ?_
  refine cd (fun hb=>?_) fun hb=>?_
  ·refine sq ?_
   refine Z1 (ca (uO)) ?_
   refine Z1 aB ?_
   refine cn ?_
   refine aP ?_
   exact ⟨.inl rfl,aF.tmp rfl rfl,trivial⟩
  ·have hw:(writeP s).2=0:=bne_eq_false_iff_eq.1 hb
   obtain ⟨hwe,hwl,_⟩:=aI9 h0 hw hn hc
   have hlen:0<(writeP s).1.length∧(writeP s).1.length≤900004:=by rw [hwe,xY];omega
   have hi:(nQ at_ (writeP s).1.length)<(writeP s).1.length:=Nat.mod_lt _ hlen.1
   have hby:=aJA h0
   have hq:=hby (nQ at_ (writeP s).1.length)
   have hxo:mW bits<256:=by unfold mW;omega
   have hx:((writeP s).1.getD (nQ at_ (writeP s).1.length) 0).toNat ^^^ mW bits<256:=Nat.xor_lt_two_pow (n:=8) (by omega) (by omega)
   have hne:=adV ((writeP s).1.getD (nQ at_ (writeP s).1.length) 0).toNat bits
   refine aQ ?_
   refine sq ?_
   refine Z1 mo ?_
   refine Z1 (ca (aQY h0 hw hn hc)) ?_
   refine Z1 mo ?_
   refine Z1 ex ?_
   refine Z1 ex ?_
   refine Z2 (al 0 [.int .i64 0,.int .i64 0,.int .i64 0,.int .i64 0,.slice none 0 0,.int .i64 0,.slice none 0 0,.slice none 0 0,.slice none 0 0,.slice none 0 0,.slice none 0 0,.slice none 0 0,.slice none 0 0,.slice none 0 0,.slice none 0 0,.slice none 0 0,.slice none 0 0]) ?_
   refine bW [_,_,_,_,_,_,_,_,_,_,_,_,_,_,_,_,_] ?_
   refine Z1 aB ?_
   refine cn ?_
   refine aD ?_
   refine sq ?_
   refine Z1 mo ?_
   refine Z1 bz ?_
   refine Z1 mo ?_
   refine Z4 (fun hC=>lr) ?_
   refine aW (R:=[(_,.live _ _)]) rfl rfl rfl eV (fun hC=>mA (k:=17) (ds:=[_,_,_,_,_,_,_,_,_,_,_,_,_,_,_,_,_]) rfl rfl (by kernel_rfl) (by kernel_rfl) rfl rfl (by decide)) (fun hC=>⟨(by first|rfl|exact hC|(simp only [Bool.and_eq_true] at hC;first|exact hC.1|exact hC.1.1|exact hC.2)|simp_all),trivial⟩) ⟨rfl,trivial⟩ ?_
   refine Z4 (fun hC=>ca (adW s hs.bts)) ?_
   refine Z4 (fun hC=>nt) ?_
   refine Z1 cC ?_
   refine Z1 mo ?_
   refine Z4 (fun hC=>lr) ?_
   refine aW (R:=[(_,.live _ _)]) rfl rfl rfl eV (fun hC=>mA (k:=17) (ds:=[_,_,_,_,_,_,_,_,_,_,_,_,_,_,_,_,_]) rfl rfl (by kernel_rfl) (by kernel_rfl) rfl rfl (by decide)) (fun hC=>⟨(by first|rfl|exact hC|(simp only [Bool.and_eq_true] at hC;first|exact hC.1|exact hC.1.1|exact hC.2)|simp_all),trivial⟩) ⟨rfl,trivial⟩ ?_
   refine Z4 (fun hC=>ca (aQW s)) ?_
   refine Z4 (fun hC=>nt) ?_
   refine Z1 cC ?_
   refine Z1 mo ?_
   refine Z4 (fun hC=>mo) ?_
   refine Z4 (fun hC=>ln) ?_
   refine Z4 (fun hC=>bz) ?_
   refine Z1 cC ?_
   refine cn ?_
   refine cd (fun hb=>?_) fun hb=>?_
   ·exact absurd hb (by intro h;have h2:=beq_iff_eq.1 (show (((writeP s).1.length:Int)==0)=true from h);omega)
   ·refine aQ ?_
    refine sq ?_
    refine aZ rfl rfl (aC5 (ps:=[]) (xs:=[]) (e:=5) (by_:=1) (zs:=[.int .u8 0]) 1 rfl (by kernel_rfl) (by kernel_rfl) rfl rfl rfl rfl (by decide)) ⟨rfl,trivial⟩ ?_
    refine Z1 mo ?_
    refine aZ rfl rfl (iG (e:=5) (k:=1) (by_:=1) (zs:=[.int .u8 0]) (cs:=[]) (ds:=(writeP s).1.map bw) 2 rfl rfl rfl (by kernel_rfl) (by kernel_rfl) rfl (by decide) (by decide) rfl (by simp) (aIK _) (by omega) (by omega)) ⟨rfl,rfl,trivial⟩ ?_
    refine Z1 aB ?_
    refine cn ?_
    refine sq ?_
    refine Z1 mo ?_
    refine Z1 mo ?_
    refine Z1 (mH (k:=.i64) .u64 rfl rfl (by kernel_rfl) (by kernel_rfl)) ?_
    refine Z1 mo ?_
    refine Z1 sT ?_
    refine Z1 (mH (k:=.i64) .u64 rfl rfl (by kernel_rfl) (by kernel_rfl)) ?_
    refine Z1 (OC.cast (aDK rfl rfl rfl (by rw [wD];omega)) (adR at_ (writeP s).1.length _ (by omega) (by omega))) ?_
    refine eL (R:=[(_,.live _ _)]) rfl rfl (aCD (j:=(nQ at_ (writeP s).1.length)) rfl rfl rfl (by kernel_rfl) (by omega)) ⟨rfl,trivial⟩ ?_
    refine eL (R:=[(_,.live _ _)]) rfl rfl (fL (y:=.val (.int .u8 (((((writeP s).1.getD (nQ at_ (writeP s).1.length) 0).toNat:Nat):Int)))) rfl rfl (by kernel_rfl) (by rw [Int.toNat_of_nonneg hq.1];exact (aDP (writeP s).1 (nQ at_ (writeP s).1.length) hi).1)) ⟨rfl,trivial⟩ ?_
    refine Z1 mo ?_
    refine Z1 (mH (k:=.i64) .u64 rfl rfl (by kernel_rfl) (by kernel_rfl)) ?_
    refine Z1 (OC.cast (aDK rfl rfl rfl (by decide)) (adS bits)) ?_
    refine Z1 (xI rfl rfl rfl (adT bits)) ?_
    refine Z1 (OC.cast (mH (k:=.u64) .u8 rfl rfl (by kernel_rfl) (by kernel_rfl)) (adU bits)) ?_
    refine Z1 (aQZ rfl rfl rfl (by omega) (by omega)) ?_
    refine eL (R:=[(_,.live _ _)]) rfl rfl (aCD (j:=(nQ at_ (writeP s).1.length)) rfl rfl rfl (by kernel_rfl) (by omega)) ⟨rfl,trivial⟩ ?_
    refine fP rfl rfl (lG (y:=.val _) rfl rfl rfl (by kernel_rfl) (by kernel_rfl) (by first|exact oH|exact cells_any) (by first|decide|(simp;done)|(simp;omega)) rfl) ⟨rfl,trivial⟩ ?_
    refine cn ?_
    refine aD ?_
    refine bS (Le.freezeB 11 2 ((writeP s).1.set (nQ at_ (writeP s).1.length) (((((writeP s).1.getD (nQ at_ (writeP s).1.length) 0).toNat ^^^ mW bits:Nat):Int))) rfl (by rw [List.length_set];omega) rfl (by rw [List.map_set];rfl)) ?_
    refine tx ?_
    refine Z1 mo ?_
    refine Z1 (ca (ad0 h0 hw hn hc (i:=(nQ at_ (writeP s).1.length)) (y:=(((((writeP s).1.getD (nQ at_ (writeP s).1.length) 0).toNat ^^^ mW bits:Nat):Int))) hi (by omega) (by omega))) ?_
    refine Z1 mo ?_
    refine Z1 ex ?_
    refine Z1 ex ?_
    refine Z2 (al 3 [.int .i64 0,.int .i64 0,.int .i64 0,.int .i64 0,.slice none 0 0,.int .i64 0,.slice none 0 0,.slice none 0 0,.slice none 0 0,.slice none 0 0,.slice none 0 0,.slice none 0 0,.slice none 0 0,.slice none 0 0,.slice none 0 0,.slice none 0 0,.slice none 0 0]) ?_
    refine bW [_,_,_,_,_,_,_,_,_,_,_,_,_,_,_,_,_] ?_
    refine Z1 aB ?_
    refine cn ?_
    refine sq ?_
    refine Z1 mo ?_
    refine Z1 bz ?_
    refine Z1 mo ?_
    refine Z4 (fun hC=>ca (uO)) ?_
    refine Z1 an ?_
    refine Z1 aB ?_
    refine cn ?_
    refine aP ?_
    exact ⟨.inl rfl,aF.tmp rfl rfl,trivial⟩
theorem aa0 (b:List Int)(hby:dF b):PC Tryz.prog 3 [bs b] (vb true):=by
 obtain ⟨R,hR⟩:∃ R,R=readP b:=⟨_,rfl⟩
 refine FC.body 2 82 Tryz.func3 rfl (by kernel_rfl) ?_
 refine sq ?_
 refine Z1 aB ?_
 refine cn ?_
 refine aD ?_
 refine sq ?_
 refine Z1 mo ?_
 refine Z1 ln ?_
 refine Z1 bz ?_
 refine cn ?_
 refine cd (fun hb=>?_) fun hb=>?_
 ·refine sq ?_
  refine Z1 (ca (uO)) ?_
  refine Z1 aB ?_
  refine cn ?_
  refine aP ?_
  exact ⟨.inl rfl,aF.tmp rfl rfl,trivial⟩
 ·have hl:b.length≤4000:=by have:=of_decide_eq_false hb;omega
  refine aQ ?_
  refine sq ?_
  refine Z1 mo ?_
  refine Z1 (cq (show PC _ _ [bs b] (.tup [cX R.1,vi R.2]) from by rw [hR];exact aJB b hl hby) rfl rfl) ?_
  refine Z1 mo ?_
  refine Z1 ex ?_
  refine Z1 ex ?_
  refine Z2 (al 0 [.int .i64 0,.int .i64 0,.int .i64 0,.int .i64 0,.slice none 0 0,.int .i64 0,.slice none 0 0,.slice none 0 0,.slice none 0 0,.slice none 0 0,.slice none 0 0,.slice none 0 0,.slice none 0 0,.slice none 0 0,.slice none 0 0,.slice none 0 0,.slice none 0 0]) ?_
  refine bW [_,_,_,_,_,_,_,_,_,_,_,_,_,_,_,_,_] ?_
  refine Z1 aB ?_
  refine cn ?_
  refine aD ?_
  refine sq ?_
  refine Z1 mo ?_
  refine Z1 bz ?_
  refine cn ?_
  refine cd (fun hb=>?_) fun hb=>?_
  ·have hz:R.1=jT:=by rw [hR] at hb ⊢;exact ad1 (bne_iff_ne.1 hb)
   refine sq ?_
   refine aS 16 1 false ?_
   refine bG ?_
   refine Z1 ln ?_
   refine Z1 bz ?_
   refine Z1 mo ?_
   refine aW (R:=[(_,.live _ _)]) rfl rfl rfl cA (fun hC=>eU (off:=0) (sz:=15) (r:=true) rfl rfl (by first|decide|simp) (by kernel_rfl) (by decide)) (fun hC=>⟨(by first|rfl|exact hC|(simp only [Bool.and_eq_true] at hC;first|exact hC.1|exact hC.1.1|exact hC.2)|simp_all),trivial⟩) ⟨rfl,trivial⟩ ?_
   refine aW (R:=[(_,.live _ _)]) rfl rfl rfl cA (fun hC=>eU (off:=8) (sz:=1) (r:=false) rfl rfl (by first|decide|simp) (by kernel_rfl) (by decide)) (fun hC=>⟨(by first|rfl|exact hC|(simp only [Bool.and_eq_true] at hC;first|exact hC.1|exact hC.1.1|exact hC.2)|simp_all),trivial⟩) ⟨rfl,trivial⟩ ?_
   refine aW (R:=[(_,.live _ _)]) rfl rfl rfl cA (fun hC=>fL rfl rfl (by kernel_rfl) rfl) (fun hC=>⟨(by first|rfl|exact hC|(simp only [Bool.and_eq_true] at hC;first|exact hC.1|exact hC.1.1|exact hC.2)|simp_all),trivial⟩) ⟨rfl,trivial⟩ ?_
   refine Z4 (fun hC=>ln) ?_
   refine Z4 (fun hC=>bz) ?_
   refine Z1 an ?_
   refine Z1 mo ?_
   refine Z4 (fun hC=>ca (uO)) ?_
   refine Z1 an ?_
   refine Z1 aB ?_
   refine cn ?_
   refine aP ?_
   exact ⟨.inl rfl,aF.tmp rfl (bP (by rw [hz];rfl)),trivial⟩
  ·have hv:VerOk b:=ad2 (by omega) hby (by rw [←hR];exact bne_eq_false_iff_eq.1 hb)
   obtain ⟨v1,v2,v3,v4,v5,v6,v7⟩:=hv
   rw [←hR] at v2 v3 v4 v5 v6 v7
   refine aQ ?_
   refine sq ?_
   refine Z1 mo ?_
   refine Z1 (ca (aO5 b hby (by omega))) ?_
   refine Z1 mo ?_
   refine Z1 ex ?_
   refine Z1 ex ?_
   refine Z1 aB ?_
   refine Z1 aB ?_
   refine cn ?_
   refine sq ?_
   refine dE 17 [_,_,_,_,_,_,_,_,_,_,_,_,_,_,_,_,_] ?_
   refine Z1 (ca (adX v2 v3)) ?_
   refine Z1 mo ?_
   refine Z1 ex ?_
   refine Z1 ex ?_
   refine Z1 aB ?_
   refine Z1 aB ?_
   refine cn ?_
   refine sq ?_
   refine aS 0 15 true ?_
   refine aS 4 1 false ?_
   refine bG ?_
   refine Z1 (ca (aP8 R.1.tab.texts v6)) ?_
   refine Z1 mo ?_
   refine Z1 ex ?_
   refine Z1 ex ?_
   refine Z2 (al 1 [.slice none 0 0,.slice none 0 0,.slice none 0 0]) ?_
   refine bW [_,_,_] ?_
   refine Z1 aB ?_
   refine cn ?_
   refine sq ?_
   refine Z1 mo ?_
   refine Z1 bz ?_
   refine Z1 mo ?_
   refine Z4 (fun hC=>mo) ?_
   refine Z4 (fun hC=>bz) ?_
   refine Z1 an ?_
   refine Z1 mo ?_
   refine Z4 (fun hC=>mo) ?_
   refine Z4 (fun hC=>bz) ?_
   refine Z1 an ?_
   refine Z1 mo ?_
   refine Z4 (fun hC=>mo) ?_
   refine Z4 (fun hC=>bz) ?_
   refine Z1 an ?_
   refine Z1 mo ?_
   refine aW (R:=[(_,.live _ _)]) rfl rfl rfl cA (fun hC=>eU (off:=0) (sz:=15) (r:=true) rfl rfl (by first|decide|simp) (by kernel_rfl) (by decide)) (fun hC=>⟨(by first|rfl|exact hC|(simp only [Bool.and_eq_true] at hC;first|exact hC.1|exact hC.1.1|exact hC.2)|simp_all),trivial⟩) ⟨rfl,trivial⟩ ?_
   refine aW (R:=[(_,.live _ _)]) rfl rfl rfl cA (fun hC=>mA (k:=15) (ds:=[_,_,_,_,_,_,_,_,_,_,_,_,_,_,_]) rfl rfl (by kernel_rfl) (by kernel_rfl) rfl rfl (by decide)) (fun hC=>⟨(by first|rfl|exact hC|(simp only [Bool.and_eq_true] at hC;first|exact hC.1|exact hC.1.1|exact hC.2)|simp_all),trivial⟩) ⟨rfl,trivial⟩ ?_
   refine Z4 (fun hC=>ca (aIX R.1.tab v2.wf)) ?_
   refine Z1 an ?_
   refine Z1 mo ?_
   refine aW (R:=[(_,.live _ _)]) rfl rfl rfl cA (fun hC=>mA (k:=17) (ds:=[_,_,_,_,_,_,_,_,_,_,_,_,_,_,_,_,_]) rfl rfl (by kernel_rfl) (by kernel_rfl) rfl rfl (by decide)) (fun hC=>⟨(by first|rfl|exact hC|(simp only [Bool.and_eq_true] at hC;first|exact hC.1|exact hC.1.1|exact hC.2)|simp_all),trivial⟩) ⟨rfl,trivial⟩ ?_
   refine Z4 (fun hC=>ca (aD6 R.1 v2)) ?_
   refine Z4 (fun hC=>mo) ?_
   refine aW (R:=[]) rfl rfl rfl cA (fun hC=>jP rfl (by kernel_rfl) (aHN b hby (by omega)) rfl (by first|exact PuL.out|exact Pu.out) (by first|exact PuL.out|exact Pu.out)) (fun hC=>⟨(by first|rfl|exact hC|(simp only [Bool.and_eq_true] at hC;first|exact hC.1|exact hC.1.1|exact hC.2)|simp_all),(by first|rfl|exact hC|(simp only [Bool.and_eq_true] at hC;first|exact hC.1|exact hC.1.1|exact hC.2)|simp_all),trivial⟩) trivial ?_
   refine Z4 (fun hC=>bz) ?_
   refine Z1 an ?_
   refine Z1 mo ?_
   refine Z4 (fun hC=>ca (uO)) ?_
   refine Z1 an ?_
   refine Z1 aB ?_
   refine cn ?_
   refine aP ?_
   exact ⟨.inl rfl,aF.tmp rfl (bP (by rw [v1,v4,v5,v7];simp)),trivial⟩
end Go.Proofs.YtnklgkjfoggpbaaGreatDoor
