/-
  Parts of the proof: RefS.
-/
import Derived.Test.YthblfhgofopcaaaGreatSH13
import Derived.Test.YthblfhgofopcaaaGreatSH14
import Derived.Test.YthblfhgofopcaaaGreatFO08
import Derived.Test.YthblfhgofopcaaaGreatFO07
set_option linter.all false
namespace Go.Proofs.YthblfhgofopcaaaGreat
open Go.RowKit
set_option maxRecDepth 100000
set_option maxHeartbeats 2000000
theorem Mx {s:AL} {bag:List Int} (hv:AP s=0) (h:Be s bag=0):Sb bag∧(bag.length:Int)=AY s∧0≤bag.sum:=by
 obtain ⟨h1,h2⟩:=Ha h;have:=(AU hv).co;exact ⟨fun i=>Lu (P:=fun z=>0≤z∧z≤1000) (fun z hz=>by have:=h2 z hz;omega) (by omega) i,h1,GJ fun z hz=>(h2 z hz).1⟩
end Go.Proofs.YthblfhgofopcaaaGreat
