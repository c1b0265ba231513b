/-
  Parts of the proof: RefS, RefK.
-/
import Derived.Test.YthblfhgofopcaaaGreatSH13
import Derived.Test.YthblfhgofopcaaaGreatSH14
import Derived.Test.YthblfhgofopcaaaGreatTU11
import Derived.Test.YthblfhgofopcaaaGreatTU10
import Derived.Test.YthblfhgofopcaaaGreatTU09
set_option linter.all false
namespace Go.Proofs.YthblfhgofopcaaaGreat
open Go.RowKit
set_option maxRecDepth 100000
set_option maxHeartbeats 2000000
theorem Sm (rn:Int→Bool) (f:Nat) (bag:List Int) (k:Nat):(List.range (k+1)).foldl (Dh rn f bag) []=Dh rn f bag ((List.range k).foldl (Dh rn f bag) []) k:=by
 rw [List.range_succ,List.foldl_append];rfl
theorem Mx {s:AL} {bag:List Int} (hv:AP s=0) (h:Be s bag=0):Sb bag∧(bag.length:Int)=AY s∧0≤bag.sum:=by
 obtain ⟨h1,h2⟩:=Ha h;have:=(AU hv).co;exact ⟨fun i=>Lu (P:=fun z=>0≤z∧z≤1000) (fun z hz=>by have:=h2 z hz;omega) (by omega) i,h1,GJ fun z hz=>(h2 z hz).1⟩
def JR:List Int→List Int
 | [a,b,c]=>[a,a+3,a+6,9+b,9+b+3,9+b+6,18+c,18+c+3,18+c+6]
 | _=>[]
theorem SW {a b c:Int} {n:Nat} (ha:0≤a∧a≤2) (hb:0≤b∧b≤2) (hc:0≤c∧c≤2) (hn:27≤n):D8 n (JR [a,b,c]):=fun z hz=>by
 simp [JR] at hz;omega
theorem P0 (a b c:Int):(JR [a,b,c]).length=9:=rfl
end Go.Proofs.YthblfhgofopcaaaGreat
