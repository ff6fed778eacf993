/- Parts of the proof of a law of this seat: rules and contracts; no conditions. -/
import Derived.Test.YtnklgkjfoggpbaaGreatDoorLa
import Derived.Test.YtnklgkjfoggpbaaGreatDoorRq
import Derived.Test.YtnklgkjfoggpbaaGreatDoorProg
import Derived.KernelRfl
set_option maxHeartbeats 6400000
set_option maxRecDepth 100000
set_option linter.unusedVariables false
set_option linter.unusedSimpArgs false
namespace Go.Proofs.YtnklgkjfoggpbaaGreatDoor
open Go.RowKit
section
variable {H:Type}{enc:TypeId × Value→H}{w:World}{base:Nat}{spare:Nat→Bool}{held:Bool}
def agC (y:WayP):List Av:=[vi y.dir,vi y.goal,vi y.cond,vi y.els]
def agD (x:ThingP):List Av:=[vi x.title,vi x.text,vi x.parent,vi x.flags,vb x.room,aK x.props,bB x.words,bB x.adjs,kZ x.ways]
def agE (x:SlotP):List Av:=[vi x.kind,bB x.words]
def agF (x:VerbP):List Av:=[vb x.meta_,lB x.lines]
def agG (x:DeedP):List Av:=[vi x.verb,vi x.phase,vi x.noun,vi x.second,vi x.cond,vi x.body]
def agH (t:TabP):List Av:=[vi t.title,vi t.by_,vi t.release,vi t.max,bB t.texts,vi t.flags,aK t.props,aK t.globals,gA t.things,gB t.acts,fY t.deeds,aK t.funcs,aK t.daemons,aK t.params,aK t.locals]
def agI (s:StoryP):List Av:=[vi s.tab.title,vi s.tab.by_,vi s.tab.release,vi s.tab.max,bB s.tab.texts,vi s.tab.flags,aK s.tab.props,aK s.tab.globals,gA s.tab.things,gB s.tab.acts,fY s.tab.deeds,aK s.tab.funcs,aK s.tab.daemons,aK s.tab.params,aK s.tab.locals,aK s.entry,bs s.code]
theorem aEY {l:List ByteArray}(h:∀ s∈l,s.size≤140737488351232):SW l:=fun s hs=>by have:=h s hs;omega
theorem agJ {n:Int}(h:(Lit.int .u8 n).wf=true):0≤n∧n<256:=by
 have h1:IntKind.u8.min≤n∧n≤IntKind.u8.max:=by simpa [Lit.wf] using h
 have h2:IntKind.u8.min=0:=rfl
 have h3:IntKind.u8.max=255:=rfl
 omega
structure ThO (x:ThingP):Prop where
 wf:x.wf
 len:x.words.length≤1000000000000000∧x.adjs.length≤1000000000000000∧x.ways.length≤1000000000000000
structure TabO (t:TabP):Prop where
 wf:t.wf
 funcs:t.funcs.length≤140737488355328
 params:t.params.length≤140737488355328
 first:(t.things.getD 0 cY).words.length≤1000000000000000∧(t.things.getD 0 cY).adjs.length≤1000000000000000∧(t.things.getD 0 cY).ways.length≤1000000000000000
theorem agK {l:List ThingP}(h:∀ x∈l,ThO x):(l.getD 0 cY).words.length≤1000000000000000∧(l.getD 0 cY).adjs.length≤1000000000000000∧(l.getD 0 cY).ways.length≤1000000000000000:=by
 cases l with
 | nil=>exact ⟨Nat.zero_le _,Nat.zero_le _,Nat.zero_le _⟩
 | cons x l=>exact (h x (by simp)).len
theorem aPF:kJ enc Tryz.prog w base spare held 22 (List Int) (fun l=>[bs l]) dF:=
 (kR (0:Int) 1 1 (fun n=>.val (.int .u8 n)) Tryz.underlying22 (by kernel_rfl) (by kernel_rfl) (by decide) (gW Tryz.underlying5) nS).map (fun l=>l) _ _ (fun d=>rfl) (fun l h=>mV.2 fun x hx=>agJ (h.1 x hx))
theorem agL:kJ enc Tryz.prog w base spare held 168 WayP agC (fun _=>True):=
 (wG Tryz.underlying168 (by kernel_rfl) (dV (k:=1) rfl (by kernel_rfl) (gW Tryz.underlying3) (dV (k:=1) rfl (by kernel_rfl) (gW Tryz.underlying3) (dV (k:=1) rfl (by kernel_rfl) (gW Tryz.underlying3) (dV (k:=1) rfl (by kernel_rfl) (gW Tryz.underlying3) wF))))).map (fun d=>⟨d.1,d.2.1,d.2.2.1,d.2.2.2.1⟩) _ _ (fun d=>rfl) (fun d h=>by exact trivial)
theorem agM:kJ enc Tryz.prog w base spare held 57 ThingP agD ThO:=
 (wG Tryz.underlying57 (by kernel_rfl) (dV (k:=1) rfl (by kernel_rfl) (gW Tryz.underlying3) (dV (k:=1) rfl (by kernel_rfl) (gW Tryz.underlying3) (dV (k:=1) rfl (by kernel_rfl) (gW Tryz.underlying3) (dV (k:=1) rfl (by kernel_rfl) (gW Tryz.underlying3) (dV (k:=1) rfl (by kernel_rfl) (aQ0 Tryz.underlying4) (dV (k:=1) rfl (by kernel_rfl) (kR (0:Int) 1 8 vi Tryz.underlying25 (by kernel_rfl) (by kernel_rfl) (by decide) (gW Tryz.underlying3) nS) (dV (k:=1) rfl (by kernel_rfl) (kR ByteArray.empty 1 16 vs Tryz.underlying24 (by kernel_rfl) (by kernel_rfl) (by decide) (aD7 Tryz.underlying9) nS) (dV (k:=1) rfl (by kernel_rfl) (kR ByteArray.empty 1 16 vs Tryz.underlying24 (by kernel_rfl) (by kernel_rfl) (by decide) (aD7 Tryz.underlying9) nS) (dV (k:=1) rfl (by kernel_rfl) (kR dD 4 32 oQ Tryz.underlying55 (by kernel_rfl) (by kernel_rfl) (by decide) agL aAR) wF)))))))))).map (fun d=>⟨d.1,d.2.1,d.2.2.1,d.2.2.2.1,d.2.2.2.2.1,d.2.2.2.2.2.1,d.2.2.2.2.2.2.1,d.2.2.2.2.2.2.2.1,d.2.2.2.2.2.2.2.2.1⟩) _ _ (fun d=>rfl) (fun d h=>by exact ⟨⟨aEY (h.2.2.2.2.2.2.1).1,aEY (h.2.2.2.2.2.2.2.1).1⟩,by have:=(h.2.2.2.2.2.2.1).2;dsimp only;omega,by have:=(h.2.2.2.2.2.2.2.1).2;dsimp only;omega,by have:=(h.2.2.2.2.2.2.2.2.1).2;dsimp only;omega⟩)
theorem agN:kJ enc Tryz.prog w base spare held 156 SlotP agE SlotP.wf:=
 (wG Tryz.underlying156 (by kernel_rfl) (dV (k:=1) rfl (by kernel_rfl) (gW Tryz.underlying3) (dV (k:=1) rfl (by kernel_rfl) (kR ByteArray.empty 1 16 vs Tryz.underlying24 (by kernel_rfl) (by kernel_rfl) (by decide) (aD7 Tryz.underlying9) nS) wF))).map (fun d=>⟨d.1,d.2.1⟩) _ _ (fun d=>rfl) (fun d h=>by exact (aEY h.2.1.1))
theorem agO:kJ enc Tryz.prog w base spare held 76 VerbP agF VerbP.wf:=
 (wG Tryz.underlying76 (by kernel_rfl) (dV (k:=1) rfl (by kernel_rfl) (aQ0 Tryz.underlying4) (dV (k:=1) rfl (by kernel_rfl) (kR ([]:List SlotP) 1 24 fQ Tryz.underlying74 (by kernel_rfl) (by kernel_rfl) (by decide) (kR cH 2 32 lJ Tryz.underlying79 (by kernel_rfl) (by kernel_rfl) (by decide) agN aAR) nS) wF))).map (fun d=>⟨d.1,d.2.1⟩) _ _ (fun d=>rfl) (fun d h=>by exact fun l hl y hy=>(h.2.1.1 l hl).1 y hy)
theorem agP:kJ enc Tryz.prog w base spare held 84 DeedP agG (fun _=>True):=
 (wG Tryz.underlying84 (by kernel_rfl) (dV (k:=1) rfl (by kernel_rfl) (gW Tryz.underlying3) (dV (k:=1) rfl (by kernel_rfl) (gW Tryz.underlying3) (dV (k:=1) rfl (by kernel_rfl) (gW Tryz.underlying3) (dV (k:=1) rfl (by kernel_rfl) (gW Tryz.underlying3) (dV (k:=1) rfl (by kernel_rfl) (gW Tryz.underlying3) (dV (k:=1) rfl (by kernel_rfl) (gW Tryz.underlying3) wF))))))).map (fun d=>⟨d.1,d.2.1,d.2.2.1,d.2.2.2.1,d.2.2.2.2.1,d.2.2.2.2.2.1⟩) _ _ (fun d=>rfl) (fun d h=>by exact trivial)
theorem agQ:kJ enc Tryz.prog w base spare held 30 TabP agH TabO:=
 (wG Tryz.underlying30 (by kernel_rfl) (dV (k:=1) rfl (by kernel_rfl) (gW Tryz.underlying3) (dV (k:=1) rfl (by kernel_rfl) (gW Tryz.underlying3) (dV (k:=1) rfl (by kernel_rfl) (gW Tryz.underlying3) (dV (k:=1) rfl (by kernel_rfl) (gW Tryz.underlying3) (dV (k:=1) rfl (by kernel_rfl) (kR ByteArray.empty 1 16 vs Tryz.underlying24 (by kernel_rfl) (by kernel_rfl) (by decide) (aD7 Tryz.underlying9) nS) (dV (k:=1) rfl (by kernel_rfl) (gW Tryz.underlying3) (dV (k:=1) rfl (by kernel_rfl) (kR (0:Int) 1 8 vi Tryz.underlying25 (by kernel_rfl) (by kernel_rfl) (by decide) (gW Tryz.underlying3) nS) (dV (k:=1) rfl (by kernel_rfl) (kR (0:Int) 1 8 vi Tryz.underlying25 (by kernel_rfl) (by kernel_rfl) (by decide) (gW Tryz.underlying3) nS) (dV (k:=1) rfl (by kernel_rfl) (kR cY 9 136 iT Tryz.underlying26 (by kernel_rfl) (by kernel_rfl) (by decide) agM aAR) (dV (k:=1) rfl (by kernel_rfl) (kR gO 2 32 iC Tryz.underlying27 (by kernel_rfl) (by kernel_rfl) (by decide) agO aAR) (dV (k:=1) rfl (by kernel_rfl) (kR fZ 6 48 mT Tryz.underlying28 (by kernel_rfl) (by kernel_rfl) (by decide) agP aAR) (dV (k:=1) rfl (by kernel_rfl) (kR (0:Int) 1 8 vi Tryz.underlying25 (by kernel_rfl) (by kernel_rfl) (by decide) (gW Tryz.underlying3) nS) (dV (k:=1) rfl (by kernel_rfl) (kR (0:Int) 1 8 vi Tryz.underlying25 (by kernel_rfl) (by kernel_rfl) (by decide) (gW Tryz.underlying3) nS) (dV (k:=1) rfl (by kernel_rfl) (kR (0:Int) 1 8 vi Tryz.underlying25 (by kernel_rfl) (by kernel_rfl) (by decide) (gW Tryz.underlying3) nS) (dV (k:=1) rfl (by kernel_rfl) (kR (0:Int) 1 8 vi Tryz.underlying25 (by kernel_rfl) (by kernel_rfl) (by decide) (gW Tryz.underlying3) nS) wF)))))))))))))))).map (fun d=>⟨d.1,d.2.1,d.2.2.1,d.2.2.2.1,d.2.2.2.2.1,d.2.2.2.2.2.1,d.2.2.2.2.2.2.1,d.2.2.2.2.2.2.2.1,d.2.2.2.2.2.2.2.2.1,d.2.2.2.2.2.2.2.2.2.1,d.2.2.2.2.2.2.2.2.2.2.1,d.2.2.2.2.2.2.2.2.2.2.2.1,d.2.2.2.2.2.2.2.2.2.2.2.2.1,d.2.2.2.2.2.2.2.2.2.2.2.2.2.1,d.2.2.2.2.2.2.2.2.2.2.2.2.2.2.1⟩) _ _ (fun d=>rfl) (fun d h=>by exact ⟨⟨aEY (h.2.2.2.2.1).1,fun x hx=>((h.2.2.2.2.2.2.2.2.1).1 x hx).wf,(h.2.2.2.2.2.2.2.2.2.1).1⟩,by have:=(h.2.2.2.2.2.2.2.2.2.2.2.1).2;dsimp only;omega,by have:=(h.2.2.2.2.2.2.2.2.2.2.2.2.2.1).2;dsimp only;omega,agK (h.2.2.2.2.2.2.2.2.1).1⟩)
theorem aHY:kJ enc Tryz.prog w base spare held 32 StoryP agI Stk:=
 (wG Tryz.underlying32 (by kernel_rfl) (dV (k:=15) rfl (by kernel_rfl) agQ (dV (k:=1) rfl (by kernel_rfl) (kR (0:Int) 1 8 vi Tryz.underlying25 (by kernel_rfl) (by kernel_rfl) (by decide) (gW Tryz.underlying3) nS) (dV (k:=1) rfl (by kernel_rfl) aPF wF)))).map (fun d=>⟨d.1,d.2.1,d.2.2.1⟩) _ _ (fun d=>rfl) (fun d h=>⟨h.1.wf,h.2.2.1,by have:=h.2.1.2;dsimp only;omega,h.1.funcs,h.1.params,h.1.first⟩)
theorem aaY (a:StoryP)(sa:Stk a)(b:StoryP)(sb:Stk b):PC Tryz.prog 5 [cX a,cX b] (vb true):=adY a b sa sb
theorem aaX (s:StoryP)(hs:Stk s)(m:Int)(hm:(Lit.int .i64 m).wf=true)(n:Int)(hn:(Lit.int .i64 n).wf=true):PC Tryz.prog 4 [cX s,vi m,vi n] (vb true):=adZ s hs m n
end
end Go.Proofs.YtnklgkjfoggpbaaGreatDoor
