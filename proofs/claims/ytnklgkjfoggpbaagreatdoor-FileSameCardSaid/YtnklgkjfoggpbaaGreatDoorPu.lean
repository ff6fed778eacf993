/- Parts of the proof of a law of this seat: rules and contracts; no conditions. -/
import Derived.Test.YtnklgkjfoggpbaaGreatDoorWireSpec
import Derived.Test.YtnklgkjfoggpbaaGreatDoorPm
import Derived.Test.YtnklgkjfoggpbaaGreatDoorProg
import Derived.Test.YtnklgkjfoggpbaaGreatDoorBlg
import Derived.KernelRfl
set_option maxHeartbeats 6400000
set_option maxRecDepth 100000
set_option linter.unusedVariables false
set_option linter.unusedSimpArgs false
namespace Go.Proofs.YtnklgkjfoggpbaaGreatDoor
open Go.RowKit
theorem ajB {l:List ByteArray}(h:Good8 l):(makeP l).1.at_.length≤5000000∧(makeP l).1.bytes.length≤100000000∧dC (makeP l).1.bytes∧(∀ i,(eT (makeP l).1 i).1.length≤5000)∧(∀ k,((makeP l).1.abbrevs.getD k ByteArray.empty).size≤5000)∧(makeP l).1.abbrevs.length≤1000000:=by
 have h1:=aBM h
 have h2:=ai6 h
 have h3:=h.few
 exact ⟨by omega,by omega,aTJ _,fun i=>Nat.le_trans (ajA h i) (by omega),fun k=>Nat.le_trans (h2.1 k) (by omega),by omega⟩
theorem ajC {l:List ByteArray}(h:Good8 l):PC Tryz.prog 132 [kO (makeP l).1] (.tup [bB l,vi 0]):=by
 obtain ⟨h1,h2,h3,h4,h5,h6⟩:=ajB h
 have:=aO3 (makeP l).1 h1 h2 h3 h4 h5 h6
 rwa [aK5 h] at this
end Go.Proofs.YtnklgkjfoggpbaaGreatDoor
