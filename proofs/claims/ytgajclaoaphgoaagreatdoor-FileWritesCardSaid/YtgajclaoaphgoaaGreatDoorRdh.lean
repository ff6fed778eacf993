/- Parts of the proof of a law of this seat: rules and contracts; no conditions. -/
import Derived.Test.YtgajclaoaphgoaaGreatDoorPu
import Derived.Shelf.Spec.RuneCount
import Derived.Test.YtgajclaoaphgoaaGreatDoorVa
import Derived.Test.YtgajclaoaphgoaaGreatDoorWireP
import Derived.Test.YtgajclaoaphgoaaGreatDoorProg
import Derived.KernelRfl
set_option maxHeartbeats 6400000
set_option maxRecDepth 100000
set_option linter.unusedVariables false
set_option linter.unusedSimpArgs false
namespace Go.Proofs.YtgajclaoaphgoaaGreatDoor
open Go.RowKit
theorem ajD {xs:List Int}{at_ err most:Int}{L t e:Nat}(hS:bY xs at_ err most=((L:Int),(t:Int),0))(h:¬ kM xs.length (t:Int) ((L*e:Nat):Int)):cU xs at_ err most e=((xs.drop t).take (L*e),((t+L*e:Nat):Int),0):=by
 unfold cU;rw [hS];have:eX xs t 0 (L*e)=((xs.drop t).take (L*e),((t+L*e:Nat):Int),0):=by simp only [eX,if_neg h];simp
 simp only [Int.toNat_natCast,this];simp
theorem aLF (pre post:List Int)(h:Int):(pre++h::post).getD pre.length 0=h:=by simp [List.getD]
theorem ajE (a:Nat)(most:Int)(m:Nat):∀ (pre post:List Int) (k f:Nat) (acc:Int),pre.length=a+k→(kC m).length≤f→k+(kC m).length≤5→(k=0∨0<m)→acc+m*128^k≤most→
 kE (pre++(kC m++post)) a most f k acc=(acc+m*128^k,(a:Int)+k+(kC m).length,0):=by
 induction m using Nat.strongRecOn with
 | ind m ih=>
  intro pre post k f acc hp hf h5 h0 hm;by_cases h:m<128
  ·rw [aAH h] at hf h5 ⊢;obtain ⟨f',rfl⟩:∃ f',f=f'+1:=⟨f-1,by simp at hf;omega⟩
   have hidx:((a:Int)+k).toNat=pre.length:=by omega
   have hg:(pre++([(m:Int)]++post)).getD ((a:Int)+k).toNat 0=m:=by rw [hidx];exact aLF pre post m
   rw [kE,if_neg (by unfold kM;simp;omega),hg,if_neg (by simp at h5;omega),if_pos (by omega)];have hmod:(m:Int)%128=m:=by omega
   rw [hmod,if_neg (by omega)];simp
  have hs:=aDT h;rw [hs] at hf h5 ⊢;have hpos:0<(kC (m/128)).length:=by
   rw [kC];split<;>simp
  obtain ⟨f',rfl⟩:∃ f',f=f'+1:=⟨f-1,by simp at hf;omega⟩
  have hidx:((a:Int)+k).toNat=pre.length:=by omega
  have hg:(pre++(((128+m%128:Nat):Int)::kC (m/128)++post)).getD ((a:Int)+k).toNat 0=((128+m%128:Nat):Int):=by rw [hidx];exact aLF pre _ _
  rw [kE,if_neg (by unfold kM;simp;omega),hg,if_neg (by simp at h5;omega),if_neg (by omega)];have hmod:((128+m%128:Nat):Int)%128=(m:Int)%128:=by omega
  rw [hmod];have hl:pre++(((128+m%128:Nat):Int)::kC (m/128)++post)=(pre++[((128+m%128:Nat):Int)])++(kC (m/128)++post):=by simp
  have hsum:acc+(m:Int)%128*128^k+((m/128:Nat):Int)*128^(k+1)=acc+m*128^k:=by
   rw [Int.pow_succ,show (128:Int)^k*128=128*128^k from Int.mul_comm _ _,←Int.mul_assoc,Int.add_assoc,←Int.add_mul];congr 2;omega
  rw [hl,ih (m/128) (by omega) _ post (k+1) f' _ (by simp;omega) (by simp at hf;omega) (by simp at h5;omega) (by omega) (by rw [hsum];exact hm),hsum];simp only [List.length_cons];congr 2;omega
theorem aTT (pre post:List Int)(m:Nat)(most:Int)(hm:m≤2147483647)(hmost:(m:Int)≤most):bY (pre++(aC m++post)) pre.length 0 most=((m:Int),((pre.length+(aC m).length:Nat):Int),0):=by
 have h:=aDV m 4 (by
  have:128^(4+1)=34359738368:=by decide
  omega)
 unfold bY aC;rw [if_neg (by omega),Int.toNat_natCast,ajE pre.length most m pre post 0 6 0 (by simp) (by omega) (by omega) (.inl rfl) (by simp;omega)];simp
theorem aTU (pre xs post:List Int)(m e:Nat)(most:Int)(hm:m≤2147483647)(hmost:(m:Int)≤most)(hl:xs.length=m*e):
 cU (pre++(aC m++(xs++post))) pre.length 0 most e=(xs,((pre.length+(aC m).length+m*e:Nat):Int),0):=by
 rw [ajD (aTT pre (xs++post) m most hm hmost) (by unfold kM;simp;omega)];have:(pre++(aC m++(xs++post))).drop (pre.length+(aC m).length)=xs++post:=by
  rw [←List.append_assoc,←List.length_append,List.drop_left]
 rw [this,←hl,List.take_left]
theorem ajF (x:Int):nX (gI [x%65536/256,x%256])=nX x:=by
 have:gI [x%65536/256,x%256]=x%65536:=by simp [gI];omega
 rw [this];unfold nX;omega
theorem ajG (l:List Int):kL (l.flatMap kD)=l.map nX:=by
 induction l with
 | nil=>rfl
 | cons x l ih=>
  have:(x::l).flatMap kD=(x%65536/256)::(x%256)::l.flatMap kD:=rfl;rw [this,kL,ih,ajF];rfl
theorem ajH (s:ByteArray):strOfNums (jZ s)=s:=Go.Proofs.strOfNums_bytes s
def gC {α:Type}(g:List Int→fV α)(e:List Int)(x:α):Prop:=∀ pre post:List Int,g (pre++(e++post)) (((pre.length:Nat):Int),0)=(x,(((pre.length+e.length:Nat):Int),0))
theorem gC.use {α:Type}{g:List Int→fV α}{e:List Int}{x:α}(h:gC g e x)(pre post:List Int){xs:List Int}(hx:xs=pre++(e++post)):g xs (((pre.length:Nat):Int),0)=(x,((((pre++e).length:Nat):Int),0)):=by
 rw [hx,h pre post,List.length_append]
theorem aK4 {n most:Int}(h0:0≤n)(h:n≤most)(hm:most≤2147483647):gC (fun xs=>rS xs most) (aC n) n:=fun pre post=>by
 obtain ⟨m,rfl⟩:∃ m:Nat,n=m:=⟨n.toNat,by omega⟩
 show bY _ _ _ _=_;rw [aTT pre post m most (by omega) h]
theorem tH {n:Int}(h0:0≤n)(h:n≤65536):gC cJ (aC n) n:=aK4 h0 h (by decide)
theorem yV {n:Int}(h0:-1≤n)(h:n≤65535):gC oY (aC (n+1)) n:=fun pre post=>by
 have:=tH (n:=n+1) (by omega) (by omega) pre post;unfold oY;rw [this];show (n+1-1,_)=_;rw [show n+1-1=n from by omega]
theorem aFG {n:Int}(h:0≤n∧n<256):gC rB (cQ n) n:=fun pre post=>by
 have hg:¬ kM (pre++(cQ n++post)).length (((pre.length:Nat):Int)) 1:=by unfold kM;simp [cQ];omega
 unfold rB;rw [(aTV _ _ hg).2];have e:(pre++(cQ n++post)).getD (((pre.length:Nat):Int)).toNat 0=n%256:=by rw [Int.toNat_natCast];exact aLF pre post _
 rw [e];show (gI [n%256],_)=_;have e2:gI [n%256]=n:=by simp [gI];omega
 rw [e2];rfl
theorem aTW (b:Bool):gC rX (gQ b) b:=fun pre post=>by
 have:=aFG (n:=bif b then 1 else 0) (by cases b<;>decide) pre post;unfold rX;show ((rB (pre++(cQ _++post)) _).1==1,(rB (pre++(cQ _++post)) _).2)=_;rw [this];cases b<;>rfl
theorem aTK {s:ByteArray}{most:Int}(h:(s.size:Int)≤most)(hm:most≤2147483647):gC (fun xs=>rT xs most) (aY s) s:=fun pre post=>by
 show (strOfNums (cU _ _ _ _ _).1,(cU _ _ _ _ _).2)=_;have e:pre++(aY s++post)=pre++(aC s.size++(jZ s++post)):=by unfold aY;simp only [List.append_assoc]
 rw [e,aTU pre (jZ s) post s.size 1 most (by omega) h (by rw [aFD,Nat.mul_one])];show (strOfNums (jZ s),_)=_;rw [ajH];refine Prod.ext rfl (Prod.ext ?_ rfl);show ((_:Nat):Int)=((_:Nat):Int);congr 1;unfold aY;rw [List.length_append,aFD];omega
theorem aK3 {s:ByteArray}(h:s.size≤65536):gC gText (aY s) s:=aTK (by omega) (by decide)
theorem ajI {l:List Int}(h:∀ x∈l,-32768≤x∧x≤32767):l.map nX=l:=by
 have:l.map nX=l.map id:=List.map_congr_left fun x hx=>by have:=h x hx;unfold nX;show _=x;omega
 rw [this,List.map_id]
theorem aK6 {l:List Int}(h:l.length≤65536)(hv:∀ x∈l,-32768≤x∧x≤32767):gC yH (cZ l) l:=fun pre post=>by
 show (kL (cU _ _ _ _ _).1,(cU _ _ _ _ _).2)=_;have hl:(l.flatMap kD).length=l.length*2:=by
  clear h hv
  induction l with
  | nil=>rfl
  | cons x l ih=>rw [List.flatMap_cons,List.length_append,ih,List.length_cons];simp [kD];omega
 have e:pre++(cZ l++post)=pre++(aC l.length++(l.flatMap kD++post)):=by unfold cZ;simp only [List.append_assoc]
 rw [e,aTU pre (l.flatMap kD) post l.length 2 65536 (by omega) (by omega) hl,ajG,ajI hv];refine Prod.ext rfl (Prod.ext ?_ rfl);show ((_:Nat):Int)=((_:Nat):Int);congr 1;unfold cZ;rw [List.length_append,hl];omega
theorem aTX {α:Type}{one:List Int→fV α}{e:α→List Int}:∀ (l acc:List α) (pre post xs:List Int),(∀ x∈l,gC one (e x) x)→xs=pre++(l.flatMap e++post)→dT (one xs) l.length (((pre.length:Nat):Int),0) acc=(acc++l,((((pre++l.flatMap e).length:Nat):Int),0))
 | [],acc,pre,post,xs,_,_=>by
  show (acc,_)=_;rw [List.append_nil];simp
 | x::l,acc,pre,post,xs,h,hx=>by
  have hx1:xs=pre++(e x++(l.flatMap e++post)):=by rw [hx,List.flatMap_cons];simp only [List.append_assoc]
  have h1:=(h x (by simp)).use pre _ hx1;show (if _ then _ else _)=_;rw [if_pos rfl,h1,aTX l (acc++[x]) (pre++e x) post xs (fun y hy=>h y (by simp [hy])) (by rw [hx1];simp only [List.append_assoc])];simp only [List.flatMap_cons,List.append_assoc];rfl
theorem sD {α:Type}{one:List Int→fV α}{e:α→List Int}{most:Int}{l:List α}(h:∀ x∈l,gC one (e x) x)(hl:(l.length:Int)≤most)(hm:most≤2147483647):gC (fun xs=>cV (rS xs most) (one xs)) (aJ e l) l:=fun pre post=>by
 have hx:pre++(aJ e l++post)=pre++(aC (l.length:Int)++(l.flatMap e++post)):=by unfold aJ;simp only [List.append_assoc]
 have h1:=(aK4 (n:=(l.length:Int)) (by omega) hl hm).use pre _ hx;show dT _ (rS _ _ _).1.toNat (rS _ _ _).2 []=_;have h1':rS (pre++(aJ e l++post)) most (((pre.length:Nat):Int),0)=_:=h1;rw [h1',Int.toNat_natCast,aTX l [] (pre++aC (l.length:Int)) post _ h (by rw [hx];simp only [List.append_assoc])];refine Prod.ext rfl (Prod.ext ?_ rfl);show ((_:Nat):Int)=((_:Nat):Int);congr 1;unfold aJ;simp only [List.length_append];omega
theorem aLG {l:List ByteArray}{m:Nat}(hm:m≤1000)(h:xU l m):gC gTexts (aJ aY l) l:=sD (one:=gText) (fun w hw=>aK3 (by have:=h.2 w hw;omega)) (by have:=h.1;omega) (by decide)
theorem aiT {l:List Int}(hl:l.length≤65536)(h:∀ z∈l,0≤z∧z≤65536):gC wN (aJ aC l) l:=sD (one:=cJ) (fun z hz=>tH (h z hz).1 (h z hz).2) (by omega) (by decide)
theorem ajJ {y:WayP}(h:xV y):gC rW (gR y) y:=fun pre post=>by
 have hx:pre++(gR y++post)=pre++(cQ y.dir++(aC y.goal++(aC (y.cond+1)++(aC (y.els+1)++post)))):=by unfold gR;simp only [List.append_assoc]
 have hl:(gR y).length=(cQ y.dir).length+(aC y.goal).length+(aC (y.cond+1)).length+(aC (y.els+1)).length:=by unfold gR;simp only [List.length_append]
 generalize pre++(gR y++post)=xs at hx ⊢;unfold rW
 try dsimp only
 rw [(aFG (n:=y.dir) (by have:=h.1;omega)).use (pre) (aC y.goal++(aC (y.cond+1)++(aC (y.els+1)++(post)))) (by simp only [hx,List.append_assoc])]
 try dsimp only
 rw [(tH (n:=y.goal) h.2.1.1 (by have:=h.2.1;omega)).use (pre++cQ y.dir) (aC (y.cond+1)++(aC (y.els+1)++(post))) (by simp only [hx,List.append_assoc])]
 try dsimp only
 rw [(yV (n:=y.cond) h.2.2.1.1 (by have:=h.2.2.1;omega)).use (pre++cQ y.dir++aC y.goal) (aC (y.els+1)++(post)) (by simp only [hx,List.append_assoc])]
 try dsimp only
 rw [(yV (n:=y.els) h.2.2.2.1 (by have:=h.2.2.2;omega)).use (pre++cQ y.dir++aC y.goal++aC (y.cond+1)) (post) (by simp only [hx,List.append_assoc])]
 try dsimp only
 refine Prod.ext rfl (Prod.ext ?_ rfl);show ((_:Nat):Int)=((_:Nat):Int);congr 1;rw [hl];simp only [List.length_append]<;>omega
theorem ajK {y:SlotP}(h:aSX y):gC gSlot (kQ y) y:=fun pre post=>by
 have hx:pre++(kQ y++post)=pre++(cQ y.kind++(aJ aY y.words++post)):=by unfold kQ;simp only [List.append_assoc]
 have hl:(kQ y).length=(cQ y.kind).length+(aJ aY y.words).length:=by unfold kQ;simp only [List.length_append]
 generalize pre++(kQ y++post)=xs at hx ⊢;unfold gSlot
 try dsimp only
 rw [(aFG (n:=y.kind) (by have:=h.1;omega)).use (pre) (aJ aY y.words++(post)) (by simp only [hx,List.append_assoc])]
 try dsimp only
 rw [(aLG (by decide) h.2).use (pre++cQ y.kind) (post) (by simp only [hx,List.append_assoc])]
 try dsimp only
 refine Prod.ext rfl (Prod.ext ?_ rfl);show ((_:Nat):Int)=((_:Nat):Int);congr 1;rw [hl];simp only [List.length_append]<;>omega
theorem ajL {l:List SlotP}(h:aKO l):gC gLine (pK l) l:=sD (one:=gSlot) (fun x hx=>ajK (h.2 x hx)) (by have:=h.1;omega) (by decide)
theorem ajM {v:VerbP}(h:aDW v):gC gLines (aJ pK v.lines) v.lines:=sD (one:=gLine) (fun l hl=>ajL (h.2 l hl)) (by have:=h.1;omega) (by decide)
theorem aiX {v:VerbP}(h:aDW v):gC gAct (fS v) v:=fun pre post=>by
 have hx:pre++(fS v++post)=pre++(gQ v.meta_++(aJ pK v.lines++post)):=by unfold fS;simp only [List.append_assoc]
 have hl:(fS v).length=(gQ v.meta_).length+(aJ pK v.lines).length:=by unfold fS;simp only [List.length_append]
 generalize pre++(fS v++post)=xs at hx ⊢;unfold gAct
 try dsimp only
 rw [(aTW v.meta_).use (pre) (aJ pK v.lines++(post)) (by simp only [hx,List.append_assoc])]
 try dsimp only
 rw [(ajM h).use (pre++gQ v.meta_) (post) (by simp only [hx,List.append_assoc])]
 try dsimp only
 refine Prod.ext rfl (Prod.ext ?_ rfl);show ((_:Nat):Int)=((_:Nat):Int);congr 1;rw [hl];simp only [List.length_append]<;>omega
theorem aiY {d:DeedP}(h:aDX d):gC uR (gG d) d:=fun pre post=>by
 have hx:pre++(gG d++post)=pre++(aC d.verb++(cQ d.phase++(aC (d.noun+1)++(aC (d.second+1)++(aC (d.cond+1)++(aC d.body++post)))))):=by unfold gG;simp only [List.append_assoc]
 have hl:(gG d).length=(aC d.verb).length+(cQ d.phase).length+(aC (d.noun+1)).length+(aC (d.second+1)).length+(aC (d.cond+1)).length+(aC d.body).length:=by unfold gG;simp only [List.length_append]
 generalize pre++(gG d++post)=xs at hx ⊢;unfold uR
 try dsimp only
 rw [(tH (n:=d.verb) h.1.1 (by have:=h.1;omega)).use (pre) (cQ d.phase++(aC (d.noun+1)++(aC (d.second+1)++(aC (d.cond+1)++(aC d.body++(post)))))) (by simp only [hx,List.append_assoc])]
 try dsimp only
 rw [(aFG (n:=d.phase) (by have:=h.2.1;omega)).use (pre++aC d.verb) (aC (d.noun+1)++(aC (d.second+1)++(aC (d.cond+1)++(aC d.body++(post))))) (by simp only [hx,List.append_assoc])]
 try dsimp only
 rw [(yV (n:=d.noun) h.2.2.1.1 (by have:=h.2.2.1;omega)).use (pre++aC d.verb++cQ d.phase) (aC (d.second+1)++(aC (d.cond+1)++(aC d.body++(post)))) (by simp only [hx,List.append_assoc])]
 try dsimp only
 rw [(yV (n:=d.second) h.2.2.2.1.1 (by have:=h.2.2.2.1;omega)).use (pre++aC d.verb++cQ d.phase++aC (d.noun+1)) (aC (d.cond+1)++(aC d.body++(post))) (by simp only [hx,List.append_assoc])]
 try dsimp only
 rw [(yV (n:=d.cond) h.2.2.2.2.1.1 (by have:=h.2.2.2.2.1;omega)).use (pre++aC d.verb++cQ d.phase++aC (d.noun+1)++aC (d.second+1)) (aC d.body++(post)) (by simp only [hx,List.append_assoc])]
 try dsimp only
 rw [(tH (n:=d.body) h.2.2.2.2.2.1 (by have:=h.2.2.2.2.2;omega)).use (pre++aC d.verb++cQ d.phase++aC (d.noun+1)++aC (d.second+1)++aC (d.cond+1)) (post) (by simp only [hx,List.append_assoc])]
 try dsimp only
 refine Prod.ext rfl (Prod.ext ?_ rfl);show ((_:Nat):Int)=((_:Nat):Int);congr 1;rw [hl];simp only [List.length_append]<;>omega
theorem ajN {x:ThingP}(h:thG x):gC (fun xs=>cV (cJ xs) (rW xs)) (aJ gR x.ways) x.ways:=sD (one:=rW) (fun y hy=>ajJ (h.ways.2 y hy)) (by have:=h.ways.1;omega) (by decide)
theorem aiW {x:ThingP}(h:thG x):gC gThing (fH x) x:=fun pre post=>by
 have hx:pre++(fH x++post)=pre++(aC x.title++(aC (x.text+1)++(aC x.parent++(aC x.flags++(gQ x.room++(cZ x.props++(aJ aY x.words++(aJ aY x.adjs++(aJ gR x.ways++post))))))))):=by unfold fH;simp only [List.append_assoc]
 have hl:(fH x).length=(aC x.title).length+(aC (x.text+1)).length+(aC x.parent).length+(aC x.flags).length+(gQ x.room).length+(cZ x.props).length+(aJ aY x.words).length+(aJ aY x.adjs).length+(aJ gR x.ways).length:=by unfold fH;simp only [List.length_append]
 generalize pre++(fH x++post)=xs at hx ⊢;unfold gThing
 try dsimp only
 rw [(tH (n:=x.title) h.title.1 (by have:=h.title;omega)).use (pre) (aC (x.text+1)++(aC x.parent++(aC x.flags++(gQ x.room++(cZ x.props++(aJ aY x.words++(aJ aY x.adjs++(aJ gR x.ways++(post))))))))) (by simp only [hx,List.append_assoc])]
 try dsimp only
 rw [(yV (n:=x.text) h.text.1 (by have:=h.text;omega)).use (pre++aC x.title) (aC x.parent++(aC x.flags++(gQ x.room++(cZ x.props++(aJ aY x.words++(aJ aY x.adjs++(aJ gR x.ways++(post)))))))) (by simp only [hx,List.append_assoc])]
 try dsimp only
 rw [(tH (n:=x.parent) h.parent.1 (by have:=h.parent;omega)).use (pre++aC x.title++aC (x.text+1)) (aC x.flags++(gQ x.room++(cZ x.props++(aJ aY x.words++(aJ aY x.adjs++(aJ gR x.ways++(post))))))) (by simp only [hx,List.append_assoc])]
 try dsimp only
 rw [(tH (n:=x.flags) h.flags.1 (by have:=h.flags;omega)).use (pre++aC x.title++aC (x.text+1)++aC x.parent) (gQ x.room++(cZ x.props++(aJ aY x.words++(aJ aY x.adjs++(aJ gR x.ways++(post)))))) (by simp only [hx,List.append_assoc])]
 try dsimp only
 rw [(aTW x.room).use (pre++aC x.title++aC (x.text+1)++aC x.parent++aC x.flags) (cZ x.props++(aJ aY x.words++(aJ aY x.adjs++(aJ gR x.ways++(post))))) (by simp only [hx,List.append_assoc])]
 try dsimp only
 rw [(aK6 (by have:=h.props.1;omega) h.props.2).use (pre++aC x.title++aC (x.text+1)++aC x.parent++aC x.flags++gQ x.room) (aJ aY x.words++(aJ aY x.adjs++(aJ gR x.ways++(post)))) (by simp only [hx,List.append_assoc])]
 try dsimp only
 rw [(aLG (by decide) h.words).use (pre++aC x.title++aC (x.text+1)++aC x.parent++aC x.flags++gQ x.room++cZ x.props) (aJ aY x.adjs++(aJ gR x.ways++(post))) (by simp only [hx,List.append_assoc])]
 try dsimp only
 rw [(aLG (by decide) h.adjs).use (pre++aC x.title++aC (x.text+1)++aC x.parent++aC x.flags++gQ x.room++cZ x.props++aJ aY x.words) (aJ gR x.ways++(post)) (by simp only [hx,List.append_assoc])]
 try dsimp only
 rw [show cV (cJ xs) (rW xs) _=_ from (ajN h).use (pre++aC x.title++aC (x.text+1)++aC x.parent++aC x.flags++gQ x.room++cZ x.props++aJ aY x.words++aJ aY x.adjs) (post) (by simp only [hx,List.append_assoc])]
 try dsimp only
 refine Prod.ext rfl (Prod.ext ?_ rfl);show ((_:Nat):Int)=((_:Nat):Int);congr 1;rw [hl];simp only [List.length_append]<;>omega
theorem aTG {α:Type}{d:α}{l:List α}{k:Nat}(e:α→List Int)(h:k<l.length):l.flatMap e=(l.take k).flatMap e++(e (l.getD k d)++(l.drop (k+1)).flatMap e):=by
 conv=>lhs;rw [←List.take_append_drop (k+1) l,List.flatMap_append,mS (d:=d) e h]
 rw [List.append_assoc]
theorem aTH {l:List Int}(hl:∀ z∈l,0≤z∧z≤65536){xs pre post:List Int}(hx:xs=pre++(l.flatMap aC++post)):∀ k,k≤l.length→sN xs (((pre.length:Nat):Int),0) k=((((pre++(l.take k).flatMap aC).length:Nat):Int),0)∧(k<l.length→vN xs (((pre.length:Nat):Int),0) k=l.getD k 0):=fun k=>by
 have key:∀ k,k<l.length→sN xs (((pre.length:Nat):Int),0) k=((((pre++(l.take k).flatMap aC).length:Nat):Int),0)→cJ xs (sN xs (((pre.length:Nat):Int),0) k)=(l.getD k 0,((((pre++(l.take (k+1)).flatMap aC).length:Nat):Int),0)):=fun k hk h=>by
  have hm:=pR (d:=(0:Int)) hk;rw [h,(tH (hl _ hm).1 (hl _ hm).2).use (pre++(l.take k).flatMap aC) ((l.drop (k+1)).flatMap aC++post) (by rw [hx,aTG (d:=(0:Int)) aC hk];simp only [List.append_assoc]),mS (d:=(0:Int)) aC hk,List.append_assoc]
 have st:∀ k,k≤l.length→sN xs (((pre.length:Nat):Int),0) k=((((pre++(l.take k).flatMap aC).length:Nat):Int),0):=fun k=>by
  induction k with
  | zero=>intro _;simp [sN]
  | succ k ih=>intro hk;show (cJ xs _).2=_;rw [key k (by omega) (ih (by omega))]
 exact fun hk=>⟨st k hk,fun h=>by unfold vN;rw [key k h (st k hk)]⟩
theorem aiS {l:List (List Int)}(hl:∀ r∈l,r.length≤65536∧∀ z∈r,0≤z∧z≤65536){xs pre post:List Int}(hx:xs=pre++(l.flatMap (aJ aC)++post)):∀ k,k≤l.length→sM xs (((pre.length:Nat):Int),0) k=((((pre++(l.take k).flatMap (aJ aC)).length:Nat):Int),0)∧(k<l.length→vM xs (((pre.length:Nat):Int),0) k=l.getD k []):=fun k=>by
 have key:∀ k,k<l.length→sM xs (((pre.length:Nat):Int),0) k=((((pre++(l.take k).flatMap (aJ aC)).length:Nat):Int),0)→wN xs (sM xs (((pre.length:Nat):Int),0) k)=(l.getD k [],((((pre++(l.take (k+1)).flatMap (aJ aC)).length:Nat):Int),0)):=fun k hk h=>by
  have hm:=pR (d:=([]:List Int)) hk;rw [h,(aiT (hl _ hm).1 (hl _ hm).2).use (pre++(l.take k).flatMap (aJ aC)) ((l.drop (k+1)).flatMap (aJ aC)++post) (by rw [hx,aTG (d:=([]:List Int)) (aJ aC) hk];simp only [List.append_assoc]),mS (d:=([]:List Int)) (aJ aC) hk,List.append_assoc]
 have st:∀ k,k≤l.length→sM xs (((pre.length:Nat):Int),0) k=((((pre++(l.take k).flatMap (aJ aC)).length:Nat):Int),0):=fun k=>by
  induction k with
  | zero=>intro _;simp [sM]
  | succ k ih=>intro hk;show (wN xs _).2=_;rw [key k (by omega) (ih (by omega))]
 exact fun hk=>⟨st k hk,fun h=>by unfold vM;rw [key k h (st k hk)]⟩
theorem aK2 {t:TabP}(h:tabG t):Good8 t.texts:=⟨aDZ h,by have:=h.texts.1;omega,aAK h⟩
theorem aFC {l:List Int}(h:iA l):jZ (strOfNums l)=l:=pJ h
theorem aTI {t:TabP}(h:tabG t)(hn:t.texts.length≤2000):gC gPoolP (aJ aY (makeP t.texts).1.abbrevs++aJ aC (makeP t.texts).1.at_++aY (strOfNums (makeP t.texts).1.bytes)) (makeP t.texts).1:=fun pre post=>by
 obtain ⟨_,hp⟩:=aAL h;have hb:=aAK h;have hm:(makeP t.texts).1=⟨chooseP t.texts 31,(bT (chooseP t.texts 31) t.texts t.texts.length).1,(bT (chooseP t.texts 31) t.texts t.texts.length).2⟩:=by rw [aAF (by omega) hb]
 have h1:=uH (ab:=chooseP t.texts 31) (l:=t.texts) t.texts.length hb;have h2:=aIU (ab:=chooseP t.texts 31) t.texts.length hb;have hat:∀ z∈(makeP t.texts).1.at_,0≤z∧z≤4194304:=by
  rw [hm];intro z hz;have:=h2 z hz;omega
 have hbl:(makeP t.texts).1.bytes.length≤4194304:=by rw [hm];show (bT _ _ _).2.length≤_;omega
 have hbt:=aFC (aTJ t.texts);generalize hP:(makeP t.texts).1=p at *;have r1:gC (fun xs=>cV (rS xs 31) (gText xs)) (aJ aY p.abbrevs) p.abbrevs:=sD (one:=gText) (fun w hw=>aK3 (by have:=hp.abb.2 w hw;omega)) (by have:=hp.abb.1;omega) (by decide);have r2:gC (fun xs=>cV (rS xs 4194304) (rS xs 4194304)) (aJ aC p.at_) p.at_:=sD (one:=fun xs=>rS xs 4194304) (fun z hz=>aK4 (hat z hz).1 (hat z hz).2 (by decide)) (by have:=hp.at_.1;omega) (by decide);have r3:gC (fun xs=>rT xs 4194304) (aY (strOfNums p.bytes)) (strOfNums p.bytes):=aTK (by rw [strOfNums_size];omega) (by decide)
 have hx:pre++(aJ aY p.abbrevs++aJ aC p.at_++aY (strOfNums p.bytes)++post)=pre++(aJ aY p.abbrevs++(aJ aC p.at_++(aY (strOfNums p.bytes)++post))):=by simp only [List.append_assoc]
 generalize pre++(aJ aY p.abbrevs++aJ aC p.at_++aY (strOfNums p.bytes)++post)=xs at hx ⊢;have u1:cV (rS xs 31) (gText xs) (((pre.length:Nat):Int),0)=_:=r1.use pre _ hx;have u2:cV (rS xs 4194304) (rS xs 4194304) ((((pre++aJ aY p.abbrevs).length:Nat):Int),0)=_:=r2.use (pre++aJ aY p.abbrevs) (aY (strOfNums p.bytes)++post) (by simp only [hx,List.append_assoc]);have u3:rT xs 4194304 ((((pre++aJ aY p.abbrevs++aJ aC p.at_).length:Nat):Int),0)=_:=r3.use (pre++aJ aY p.abbrevs++aJ aC p.at_) post (by simp only [hx,List.append_assoc])
 have e:gPoolP xs (((pre.length:Nat):Int),0)=(p,((((pre++aJ aY p.abbrevs++aJ aC p.at_++aY (strOfNums p.bytes)).length:Nat):Int),0)):=by
  unfold gPoolP;dsimp only;rw [u1];dsimp only;rw [u2];dsimp only;rw [u3];dsimp only;rw [hbt]
 rw [e];refine Prod.ext rfl (Prod.ext ?_ rfl);show ((_:Nat):Int)=((_:Nat):Int);congr 1;simp only [List.length_append]<;>omega
theorem aTL {t:TabP}(h:tabG t)(hn:t.texts.length≤2000):gC gPool (aJ aY (makeP t.texts).1.abbrevs++aJ aC (makeP t.texts).1.at_++aY (strOfNums (makeP t.texts).1.bytes)) t.texts:=fun pre post=>by
 unfold gPool;rw [aTI h hn pre post];rw [if_neg (fun h=>h rfl)];dsimp only;rw [aK5 (aK2 h)]
theorem aiU {s:StoryP}(ht:tabG s.tab)(hn:s.tab.texts.length≤2000):(gPoolP (iK s (makeP s.tab.texts).1) (sN (iK s (makeP s.tab.texts).1) (5,0) 5)).1=(makeP s.tab.texts).1∧(aTe (iK s (makeP s.tab.texts).1) (5,0)).1=s.tab.texts:=by
 have hpo:=aTI ht hn;have hpt:=aTL ht hn;obtain ⟨p,hp⟩:∃ p,p=(makeP s.tab.texts).1:=⟨_,rfl⟩
 rw [←hp] at hpo hpt ⊢;obtain ⟨xs,hxs⟩:∃ xs,xs=iK s p:=⟨_,rfl⟩
 rw [←hxs];have hH:∀ z∈cW s,0≤z∧z≤65536:=fun z hz=>by
  unfold cW at hz;simp only [List.mem_cons,List.not_mem_nil,or_false] at hz;have:=ht.title;have:=ht.by_;have:=ht.release;have:=ht.max;have:=ht.flags
  omega
 obtain ⟨post,hx⟩:∃ post,xs=gU++((cW s).flatMap aC++((aJ aY p.abbrevs++aJ aC p.at_++aY (strOfNums p.bytes))++post)):=by
  rw [hxs];unfold iK e5 e4 e3 e2 e1;simp only [List.append_assoc];exact ⟨_,rfl⟩
 have sn5:sN xs (5,0) 5=((((gU++((cW s).take 5).flatMap aC).length:Nat):Int),0):=(aTH hH (xs:=xs) (pre:=gU) hx 5 (Nat.le_refl _)).1;have f1:(cW s).take 5=cW s:=rfl;rw [f1] at sn5;unfold aTe;rw [sn5,hpo.use (gU++(cW s).flatMap aC) post (by simp only [hx,List.append_assoc]),hpt.use (gU++(cW s).flatMap aC) post (by simp only [hx,List.append_assoc])];exact ⟨rfl,rfl⟩
theorem aiV {s:StoryP}(ht:tabG s.tab)(he:s.entry.length≤2048∧∀ z∈s.entry,0≤z∧z≤65536)(hc:s.code.length≤65536)(hby:dF s.code)(hn:s.tab.texts.length≤2000):gStory (iK s (makeP s.tab.texts).1) (5,0)=(s,((((iK s (makeP s.tab.texts).1).length:Nat):Int),0)):=by
 obtain ⟨p,hp⟩:∃ p,p=(makeP s.tab.texts).1:=⟨_,rfl⟩
 have hpo:=aTL ht hn;rw [←hp] at hpo ⊢;obtain ⟨xs,hxs⟩:∃ xs,xs=iK s p:=⟨_,rfl⟩
 rw [←hxs];have hH:∀ z∈cW s,0≤z∧z≤65536:=fun z hz=>by
  unfold cW at hz;simp only [List.mem_cons,List.not_mem_nil,or_false] at hz;have:=ht.title;have:=ht.by_;have:=ht.release;have:=ht.max;have:=ht.flags
  omega
 have hT:∀ r∈fD s,r.length≤65536∧∀ z∈r,0≤z∧z≤65536:=fun r hr=>by
  unfold fD at hr;simp only [List.mem_cons,List.not_mem_nil,or_false] at hr;rcases hr with rfl|rfl|rfl|rfl|rfl
  ·exact ⟨by have:=ht.funcs.1;omega,fun z hz=>by have:=ht.funcs.2 z hz;omega⟩
  ·exact ⟨by have:=ht.daemons.1;omega,fun z hz=>by have:=ht.daemons.2 z hz;omega⟩
  ·exact ⟨by have:=ht.params.1;omega,fun z hz=>by have:=ht.params.2 z hz;omega⟩
  ·exact ⟨by have:=ht.locals.1;omega,fun z hz=>by have:=ht.locals.2 z hz;omega⟩
  exact ⟨by omega,fun z hz=>by have:=he.2 z hz;omega⟩
 have hx:xs=gU++((cW s).flatMap aC++((aJ aY p.abbrevs++aJ aC p.at_++aY (strOfNums p.bytes))++(cZ s.tab.props++(cZ s.tab.globals++(aJ fH s.tab.things++(aJ fS s.tab.acts++(aJ gG s.tab.deeds++((fD s).flatMap (aJ aC)++(aY (strOfNums s.code)++[]))))))))):=by
  rw [hxs];unfold iK e5 e4 e3 e2 e1;simp only [List.append_assoc,List.append_nil]
 have sn:=fun k hk=>aTH hH (xs:=xs) (pre:=gU) hx k hk;have sn5:sN xs (5,0) 5=((((gU++((cW s).take 5).flatMap aC).length:Nat):Int),0):=(sn 5 (Nat.le_refl _)).1;have f1:(cW s).take 5=cW s:=rfl;rw [f1] at sn5;have t1:aTe xs (5,0)=(s.tab.texts,((((gU++(cW s).flatMap aC++(aJ aY p.abbrevs++aJ aC p.at_++aY (strOfNums p.bytes))).length:Nat):Int),0)):=by unfold aTe;rw [sn5];exact hpo.use (gU++(cW s).flatMap aC) (cZ s.tab.props++(cZ s.tab.globals++(aJ fH s.tab.things++(aJ fS s.tab.acts++(aJ gG s.tab.deeds++((fD s).flatMap (aJ aC)++(aY (strOfNums s.code)++[]))))))) (by simp only [hx,List.append_assoc])
 have t2:aPr xs (5,0)=(s.tab.props,((((gU++(cW s).flatMap aC++(aJ aY p.abbrevs++aJ aC p.at_++aY (strOfNums p.bytes))++cZ s.tab.props).length:Nat):Int),0)):=by unfold aPr;rw [t1];exact (aK6 (l:=s.tab.props) (by have:=ht.props.1;omega) ht.props.2).use _ (cZ s.tab.globals++(aJ fH s.tab.things++(aJ fS s.tab.acts++(aJ gG s.tab.deeds++((fD s).flatMap (aJ aC)++(aY (strOfNums s.code)++[])))))) (by simp only [hx,List.append_assoc])
 have t3:aGl xs (5,0)=(s.tab.globals,((((gU++(cW s).flatMap aC++(aJ aY p.abbrevs++aJ aC p.at_++aY (strOfNums p.bytes))++cZ s.tab.props++cZ s.tab.globals).length:Nat):Int),0)):=by unfold aGl;rw [t2];exact (aK6 (l:=s.tab.globals) (by have:=ht.globals.1;omega) ht.globals.2).use _ (aJ fH s.tab.things++(aJ fS s.tab.acts++(aJ gG s.tab.deeds++((fD s).flatMap (aJ aC)++(aY (strOfNums s.code)++[]))))) (by simp only [hx,List.append_assoc])
 have rth:gC (fun xs=>cV (cJ xs) (gThing xs)) (aJ fH s.tab.things) s.tab.things:=sD (one:=gThing) (fun x hx=>aiW (ht.things.2 x hx)) (by have:=ht.things.1;omega) (by decide);have rac:gC (fun xs=>cV (cJ xs) (gAct xs)) (aJ fS s.tab.acts) s.tab.acts:=sD (one:=gAct) (fun x hx=>aiX (ht.acts.2 x hx)) (by have:=ht.acts.1;omega) (by decide);have rde:gC (fun xs=>cV (cJ xs) (uR xs)) (aJ gG s.tab.deeds) s.tab.deeds:=sD (one:=uR) (fun x hx=>aiY (ht.deeds.2 x hx)) (by have:=ht.deeds.1;omega) (by decide)
 have t4:aTh xs (5,0)=(s.tab.things,((((gU++(cW s).flatMap aC++(aJ aY p.abbrevs++aJ aC p.at_++aY (strOfNums p.bytes))++cZ s.tab.props++cZ s.tab.globals++aJ fH s.tab.things).length:Nat):Int),0)):=by unfold aTh;rw [t3];exact rth.use _ (aJ fS s.tab.acts++(aJ gG s.tab.deeds++((fD s).flatMap (aJ aC)++(aY (strOfNums s.code)++[])))) (by simp only [hx,List.append_assoc])
 have t5:aAc xs (5,0)=(s.tab.acts,((((gU++(cW s).flatMap aC++(aJ aY p.abbrevs++aJ aC p.at_++aY (strOfNums p.bytes))++cZ s.tab.props++cZ s.tab.globals++aJ fH s.tab.things++aJ fS s.tab.acts).length:Nat):Int),0)):=by unfold aAc;rw [t4];exact rac.use _ (aJ gG s.tab.deeds++((fD s).flatMap (aJ aC)++(aY (strOfNums s.code)++[]))) (by simp only [hx,List.append_assoc])
 have t6:aDe xs (5,0)=(s.tab.deeds,((((gU++(cW s).flatMap aC++(aJ aY p.abbrevs++aJ aC p.at_++aY (strOfNums p.bytes))++cZ s.tab.props++cZ s.tab.globals++aJ fH s.tab.things++aJ fS s.tab.acts++aJ gG s.tab.deeds).length:Nat):Int),0)):=by unfold aDe;rw [t5];exact rde.use _ ((fD s).flatMap (aJ aC)++(aY (strOfNums s.code)++[])) (by simp only [hx,List.append_assoc])
 have sm:=fun k hk=>aiS hT (xs:=xs) (post:=aY (strOfNums s.code)++[]) (show xs=(gU++(cW s).flatMap aC++(aJ aY p.abbrevs++aJ aC p.at_++aY (strOfNums p.bytes))++cZ s.tab.props++cZ s.tab.globals++aJ fH s.tab.things++aJ fS s.tab.acts++aJ gG s.tab.deeds)++((fD s).flatMap (aJ aC)++(aY (strOfNums s.code)++[])) from by simp only [hx,List.append_assoc]) k hk;have sm5:=(sm 5 (Nat.le_refl _)).1;have f2:(fD s).take 5=fD s:=rfl;rw [f2] at sm5
 have t7:aCo xs (5,0)=(strOfNums s.code,(((((gU++(cW s).flatMap aC++(aJ aY p.abbrevs++aJ aC p.at_++aY (strOfNums p.bytes))++cZ s.tab.props++cZ s.tab.globals++aJ fH s.tab.things++aJ fS s.tab.acts++aJ gG s.tab.deeds)++(fD s).flatMap (aJ aC)++aY (strOfNums s.code)).length:Nat):Int),0)):=by unfold aCo;rw [t6];rw [sm5];exact (aK3 (s:=strOfNums s.code) (by rw [strOfNums_size];exact hc)).use _ [] (by simp only [hx,List.append_assoc])
 have m:∀ k,k<5→aM xs (5,0) k=(fD s).getD k []:=fun k hk=>by unfold aM;rw [t6];exact (sm k (Nat.le_of_lt hk)).2 hk
 have n:∀ k,k<5→vN xs (5,0) k=(cW s).getD k 0:=fun k hk=>(sn k (Nat.le_of_lt hk)).2 hk;unfold gStory;rw [t1,t2,t3,t4,t5,t6,t7,m 0 (by decide),m 1 (by decide),m 2 (by decide),m 3 (by decide),m 4 (by decide),n 0 (by decide),n 1 (by decide),n 2 (by decide),n 3 (by decide),n 4 (by decide)];dsimp only;rw [aFC (mV.1 hby)];refine Prod.ext rfl (Prod.ext ?_ rfl);show ((_:Nat):Int)=((_:Nat):Int);congr 1;rw [hx];simp only [List.length_append,List.length_nil]<;>omega
theorem aK7 (n:Int):(kX n).length=4:=rfl
theorem aTN (b:List Int):lH (gY b)=b:=by
 unfold lH gY;rw [List.length_append,aK7,List.take_append_of_le_length (by omega),List.take_of_length_le (by omega)]
theorem xY (b:List Int):(gY b).length=b.length+4:=by unfold gY;rw [List.length_append,aK7]
theorem aK8 (b:List Int):cB (gY b)=(b,0):=by
 unfold cB;rw [if_neg (by rw [xY];omega),aTN,if_pos rfl]
theorem ai3 (X:List Int):vA (gU++X)=false:=by
 have h1:(gU++X).take 4=[67,76,69,87]:=rfl;have h2:(gU++X).getD 4 0=1:=rfl;have h3:decide (((gU++X).length:Int)<5)=false:=decide_eq_false (by rw [List.length_append];have:gU.length=5:=rfl;omega);unfold vA;have h4:strOfNums [67,76,69,87]=⟨#[67,76,69,87]⟩:=rfl;rw [h1,h2,h3,h4];simp
theorem ai4 {s:StoryP}(h0:SOk s)(hw:(writeP s).2=0)(hc:s.code.length≤65536)(hn:s.tab.texts.length≤2000):readP (writeP s).1=(s,0):=by
 have hok:¬ ((gV s).2≠0∨iL s.tab=false):=fun h=>by unfold writeP at hw;rw [if_pos h] at hw;cases hw
 have he:writeP s=(gY (iK s (makeP s.tab.texts).1),0):=if_neg hok;have hv:(gV s).2=0:=Classical.not_not.1 fun h=>hok (.inl h);have hf:iL s.tab=true:=by cases h:iL s.tab with|true=>rfl|false=>exact absurd (.inr h) hok
 have hG:=aAO h0.first hf;have hen:=aD4 h0.code hG hv;have hrs:rdS (iK s (makeP s.tab.texts).1)=_:=aiV hG ⟨hen.1,fun z hz=>by
  obtain ⟨j,hj,rfl⟩:=uK (d:=(0:Int)) hz;have:=aQK ((aQJ hv).2 j hj);unfold nP at this;omega⟩ hc h0.by_ hn
 have hbh:vA (iK s (makeP s.tab.texts).1)=false:=by
  unfold iK e5 e4 e3 e2 e1;simp only [List.append_assoc];exact ai3 _
 unfold readP;rw [he,aK8];dsimp only;rw [if_neg (fun h=>h rfl),if_neg (by rw [hbh];decide),hrs];dsimp only;rw [if_neg (by unfold tC;rw [if_neg (by omega)];exact fun h=>h rfl),if_neg hok,he,if_neg (by rintro (h|h);exact h rfl;exact h rfl)]
end Go.Proofs.YtgajclaoaphgoaaGreatDoor
namespace Go.Proofs.YtgajclaoaphgoaaGreatDoor
open Go.RowKit
theorem aK9 (b:List Int)(hl:b.length≤1000000)(hby:dF b)(hsw:(cB b).2=0→SW (aTe (cB b).1 (5,0)).1)(hA:(cB b).2=0→(gPoolP (cB b).1 (sN (cB b).1 (5,0) 5)).2.2=0→PC Tryz.prog 160 [kO (gPoolP (cB b).1 (sN (cB b).1 (5,0) 5)).1] (.tup [bB (allP (gPoolP (cB b).1 (sN (cB b).1 (5,0) 5)).1).1,vi (allP (gPoolP (cB b).1 (sN (cB b).1 (5,0) 5)).1).2])):PC Tryz.prog 13 [bs b] (.tup [cX (readP b).1,vi (readP b).2]):=by
 have hcl:=aLA b;have hcb:=aLB hby;obtain ⟨R,hR⟩:∃ R,R=rdS (cB b).1:=⟨_,rfl⟩
 refine FB 3 86 Tryz.func13 ?_;refine sq ?_;refine Z2 (al 1 [.int .i64 0,.int .i64 0,.int .i64 0,.int .i64 0,.slice none 0 0,.int .i64 0,.slice none 0 0,.slice none 0 0,.slice none 0 0,.slice none 0 0,.slice none 0 0,.slice none 0 0,.slice none 0 0,.slice none 0 0,.slice none 0 0,.slice none 0 0,.slice none 0 0]) ?_;refine Z1 aB ?_;refine cn ?_;refine sq ?_;refine Z1 mo ?_;refine Z1 (ca (aO5 b hby (by omega))) ?_;refine Z1 mo ?_;refine Z1 ex ?_;refine Z1 ex ?_;refine Z1 aB ?_;refine Z1 aB ?_;refine cn ?_;refine aD ?_;refine sq ?_;refine Z1 mo ?_;refine Z1 bz ?_;refine cn ?_
 refine cd (fun hb=>?_) fun hb=>?_
 ·have h0:(cB b).2≠0:=bne_iff_ne.1 hb;refine sq ?_;refine Z1 (bd [(0,15),(15,1),(16,1)] [.int .i64 0,.int .i64 0,.int .i64 0,.int .i64 0,.slice none 0 0,.int .i64 0,.slice none 0 0,.slice none 0 0,.slice none 0 0,.slice none 0 0,.slice none 0 0,.slice none 0 0,.slice none 0 0,.slice none 0 0,.slice none 0 0,.slice none 0 0,.slice none 0 0] [.val _,.val _,.val _,.val _,.val _,.val _,.val _,.val _,.val _,.val _,.val _,.val _,.val _,.val _,.val _,.val _,.val _]) ?_;refine Z1 mo ?_;refine bW [_,_,_,_,_,_,_,_,_,_,_,_,_,_,_,_,_] ?_;refine Z1 aB ?_;refine cn ?_;refine aP ?_
  exact ⟨.inl rfl,by rw [yT (show readP b=_ from by unfold readP;rw [←hR,if_pos h0])];exact aF.two rfl ((aT.row rfl rfl (by kernel_rfl) (by kernel_rfl) (Nat.le_of_ble_eq_true rfl)).to wY) (aT.tmp rfl),trivial⟩
 have h0:(cB b).2=0:=bne_eq_false_iff_eq.1 hb;refine aQ ?_;refine sq ?_;refine Z1 aB ?_;refine cn ?_;refine aD ?_;refine sq ?_;refine Z1 mo ?_;refine Z1 ln ?_;refine Z1 mo ?_;refine Z1 bz ?_;refine Z1 mo ?_;refine Z4 (fun hC=>mo) ?_;refine Zg (R:=[]) rfl rfl rfl eV (fun hC=>by
  have h5:¬ ((cB b).1.length:Int)<5:=of_decide_eq_false (by simpa using hC);exact OC.to (aGO (e:=5) (by_:=1) (zs:=[.int .u8 0]) 4 rfl rfl rfl (by kernel_rfl) (by kernel_rfl) (by omega)) (ai5 (by omega))) trivial ?_
 refine Zg rfl rfl rfl eV (fun hC=>vX ((cB b).1.take 4) rfl rfl (by kernel_rfl)) trivial ?_;refine Z4 (fun hC=>zR rfl rfl rfl) ?_;refine Z1 cC ?_;refine Z1 mo ?_;refine Z4 (fun hC=>mo) ?_;refine Zg (R:=[]) rfl rfl rfl eV (fun hC=>by
  have h5:¬ ((cB b).1.length:Int)<5:=by
   intro h;rw [show decide (((cB b).1.length:Int)<5)=true from decide_eq_true h] at hC;simp at hC
  exact rJ (j:=4) rfl rfl rfl (by kernel_rfl) (by omega)) trivial ?_
 refine Z4 (fun hC=>ld) ?_;refine Z4 (fun hC=>bz) ?_;refine Z1 cC ?_;refine cn ?_;refine cd (fun hb=>?_) fun hb=>?_
 ·have h1:vA (cB b).1=true:=hb;refine sq ?_;refine Z1 (bd [(0,15),(15,1),(16,1)] [.int .i64 0,.int .i64 0,.int .i64 0,.int .i64 0,.slice none 0 0,.int .i64 0,.slice none 0 0,.slice none 0 0,.slice none 0 0,.slice none 0 0,.slice none 0 0,.slice none 0 0,.slice none 0 0,.slice none 0 0,.slice none 0 0,.slice none 0 0,.slice none 0 0] [.val _,.val _,.val _,.val _,.val _,.val _,.val _,.val _,.val _,.val _,.val _,.val _,.val _,.val _,.val _,.val _,.val _]) ?_;refine bW [_,_,_,_,_,_,_,_,_,_,_,_,_,_,_,_,_] ?_;refine Z1 aB ?_;refine cn ?_;refine aP ?_
  exact ⟨.inl rfl,by rw [yT (show readP b=_ from by unfold readP;rw [←hR,if_neg (Classical.not_not.2 h0),if_pos h1])];exact aF.two rfl ((aT.row rfl rfl (by kernel_rfl) (by kernel_rfl) (Nat.le_of_ble_eq_true rfl)).to wY) (aT.tmp rfl),trivial⟩
 have h1:vA (cB b).1=false:=hb;have hok:SOk R.1:=by rw [hR];exact aTO (c:=(cB b).1) (by omega) hcb (hsw h0)
 refine aQ ?_;refine sq ?_;refine Z1 mo ?_;refine Z1 mo ?_;refine Z1 (bd [(0,1),(1,1),(2,1)] [.slice none 0 0,.int .i64 0,.int .i64 0] [.sl _ _ _,.val _,.val _]) ?_;refine Z1 (bd [(0,3)] [.slice none 0 0,.int .i64 0,.int .i64 0] [_,_,_]) ?_;refine Z2 (aQN (x:=.agg _) 0 rfl rfl rfl) ?_;refine Z1 aB ?_;refine cn ?_;refine sq ?_;refine Z1 mo ?_;refine cr (show FC _ _ [.own 0 0] [(0,.live 83 (aV (cB b).1 (5,0)))] (cX R.1) [(0,.live 83 (aV (cB b).1 R.2))] from by rw [hR];exact aiR (cB b).1 (by omega) hcb (5,0) (hA h0)) ?_
 refine Z2 (al 2 [.int .i64 0,.int .i64 0,.int .i64 0,.int .i64 0,.slice none 0 0,.int .i64 0,.slice none 0 0,.slice none 0 0,.slice none 0 0,.slice none 0 0,.slice none 0 0,.slice none 0 0,.slice none 0 0,.slice none 0 0,.slice none 0 0,.slice none 0 0,.slice none 0 0]) ?_;refine bW [_,_,_,_,_,_,_,_,_,_,_,_,_,_,_,_,_] ?_;refine cn ?_;refine aD ?_;refine sq ?_;refine Z1 mo ?_;refine dO ?_;refine aS 0 3 true ?_;refine Ylw 3 [_,_,_] ?_;refine Z1 (ca (afA (cB b).1 R.2)) ?_;refine Z1 aB ?_;refine cn ?_;refine sq ?_;refine Z1 mo ?_;refine Z1 bz ?_;refine cn ?_;refine cd (fun hb=>?_) fun hb=>?_
 ·have h2:tC (cB b).1.length R.2.1 R.2.2≠0:=bne_iff_ne.1 hb;refine sq ?_;refine Z1 (bd [(0,15),(15,1),(16,1)] [.int .i64 0,.int .i64 0,.int .i64 0,.int .i64 0,.slice none 0 0,.int .i64 0,.slice none 0 0,.slice none 0 0,.slice none 0 0,.slice none 0 0,.slice none 0 0,.slice none 0 0,.slice none 0 0,.slice none 0 0,.slice none 0 0,.slice none 0 0,.slice none 0 0] [.val _,.val _,.val _,.val _,.val _,.val _,.val _,.val _,.val _,.val _,.val _,.val _,.val _,.val _,.val _,.val _,.val _]) ?_;refine Z1 mo ?_;refine bW [_,_,_,_,_,_,_,_,_,_,_,_,_,_,_,_,_] ?_;refine Z1 aB ?_;refine cn ?_;refine aP ?_
  exact ⟨.inl rfl,by rw [yT (show readP b=_ from by unfold readP;rw [←hR,if_neg (Classical.not_not.2 h0),if_neg (by rw [h1];decide),if_pos h2])];exact aF.two rfl ((aT.row rfl rfl (by kernel_rfl) (by kernel_rfl) (Nat.le_of_ble_eq_true rfl)).to wY) (aT.tmp rfl),trivial⟩
 have h2:tC (cB b).1.length R.2.1 R.2.2=0:=bne_eq_false_iff_eq.1 hb;refine aQ ?_;refine aD ?_;refine sq ?_;refine Ylw 17 [_,_,_,_,_,_,_,_,_,_,_,_,_,_,_,_,_] ?_;refine Z1 (ca (aIZ R.1 hok.code hok.by_ hok.entry hok.funcs hok.params)) ?_;refine Z1 mo ?_;refine Z1 ex ?_;refine Z1 ex ?_;refine Z1 aB ?_;refine Z1 aB ?_;refine cn ?_;refine sq ?_;refine Z1 mo ?_;refine Z1 bz ?_;refine Z1 mo ?_;refine Zg rfl rfl rfl eV (fun hC=>eU (off:=0) (sz:=15) (r:=true) rfl rfl (by first|decide|simp) (by kernel_rfl) (by decide)) ⟨rfl,trivial⟩ ?_
 refine Zg rfl rfl rfl eV (fun hC=>mA (k:=15) (ds:=[_,_,_,_,_,_,_,_,_,_,_,_,_,_,_]) rfl rfl (by kernel_rfl) (by kernel_rfl) rfl rfl (by decide)) ⟨rfl,trivial⟩ ?_;refine Z4 (fun hC=>ca (aIX R.1.tab hok.wf)) ?_;refine Z4 (fun hC=>nt) ?_;refine Z1 cC ?_;refine cn ?_;refine cd (fun hb=>?_) fun hb=>?_
 ·have h3:(gV R.1).2≠0∨iL R.1.tab=false:=by simpa only [Bool.or_eq_true,bne_iff_ne,ne_eq,Bool.not_eq_true'] using hb
  refine sq ?_;refine Z1 (bd [(0,15),(15,1),(16,1)] [.int .i64 0,.int .i64 0,.int .i64 0,.int .i64 0,.slice none 0 0,.int .i64 0,.slice none 0 0,.slice none 0 0,.slice none 0 0,.slice none 0 0,.slice none 0 0,.slice none 0 0,.slice none 0 0,.slice none 0 0,.slice none 0 0,.slice none 0 0,.slice none 0 0] [.val _,.val _,.val _,.val _,.val _,.val _,.val _,.val _,.val _,.val _,.val _,.val _,.val _,.val _,.val _,.val _,.val _]) ?_;refine bW [_,_,_,_,_,_,_,_,_,_,_,_,_,_,_,_,_] ?_;refine Z1 aB ?_;refine cn ?_;refine aP ?_
  exact ⟨.inl rfl,by rw [yT (show readP b=_ from by unfold readP;rw [←hR,if_neg (Classical.not_not.2 h0),if_neg (by rw [h1];decide),if_neg (Classical.not_not.2 h2),if_pos h3])];exact aF.two rfl ((aT.row rfl rfl (by kernel_rfl) (by kernel_rfl) (Nat.le_of_ble_eq_true rfl)).to wY) (aT.tmp rfl),trivial⟩
 have h3:¬ ((gV R.1).2≠0∨iL R.1.tab=false):=by
  rw [Bool.or_eq_false_iff] at hb;rintro (h|h)
  ·exact h (bne_eq_false_iff_eq.1 hb.1)
  rw [h] at hb;simp at hb
 refine C (aAN R.1 hok) ?_;refine Zg rfl rfl rfl eV (fun hC=>vX (writeP R.1).1 rfl rfl (by kernel_rfl)) trivial ?_;refine G ?_;refine Zg rfl rfl rfl eV (fun hC=>vX b rfl rfl (by kernel_rfl)) trivial ?_;refine Z4 (fun hC=>zR rfl rfl rfl) ?_;refine Gd (fun hb=>?_) fun hb=>?_
 ·have h4:(writeP R.1).2≠0∨strOfNums (writeP R.1).1≠strOfNums b:=by
   rw [Bool.or_eq_true] at hb;rcases hb with h|h
   ·exact .inl (bne_iff_ne.1 h)
   refine .inr fun e=>?_;rw [e] at h;simp at h
  refine G ?_;exact ⟨.inl rfl,by rw [yT (show readP b=_ from by unfold readP;rw [←hR,if_neg (Classical.not_not.2 h0),if_neg (by rw [h1];decide),if_neg (Classical.not_not.2 h2),if_neg h3,if_pos h4])];exact aF.two rfl ((aT.row rfl rfl (by kernel_rfl) (by kernel_rfl) (Nat.le_of_ble_eq_true rfl)).to wY) (aT.tmp rfl),trivial⟩
 have h4:¬ ((writeP R.1).2≠0∨strOfNums (writeP R.1).1≠strOfNums b):=by
  rw [Bool.or_eq_false_iff] at hb;rintro (h|h)
  ·exact h (bne_eq_false_iff_eq.1 hb.1)
  refine h ?_;have h6:=tT (strOfNums (writeP R.1).1) (strOfNums b);have h7:((strOfNums (writeP R.1).1).toList==(strOfNums b).toList)=true:=by have:=hb.2;simpa using this
  rw [h6] at h7;exact of_decide_eq_true h7
 refine G ?_;exact ⟨.inl rfl,by rw [yT (show readP b=_ from by unfold readP;rw [←hR,if_neg (Classical.not_not.2 h0),if_neg (by rw [h1];decide),if_neg (Classical.not_not.2 h2),if_neg h3,if_neg h4])];exact aF.two rfl (aT.row rfl rfl (by kernel_rfl) (by kernel_rfl) (Nat.le_of_ble_eq_true rfl)) (aT.tmp rfl),trivial⟩
end Go.Proofs.YtgajclaoaphgoaaGreatDoor
