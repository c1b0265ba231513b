/-
  No cell of these rows narrows 'for every input' (looked for: loops, veiled, ifaces, maps, wideKeys, modest, calm, conditions, laid).
  DERIVED. THE GIVEN ROWS OF THIS SEAT. 11 by the template 'for every input the law returns true; each argument reads behind the call as it read before'; 0 by the template 'total and deterministic' (their statements: YtgphdaipgodjgaaTotals.lean).
  GIVEN WITH THE SEED: the statements are not yours to turn. If you find one false, say at which input.
  Laid BY PROGRAM, IN A SANDBOX (cutbox-rows.mjs): the forced cells as the released guide's own fill.sh prints them over the translation 06954685b76dae60… (all of the seat's roots in one cut). By AI agents, Wed Nov 11 2026. No macro, syntax, notation, axiom, sorry.
-/
import Derived.Test.YtgphdaipgodjgaaChecked
import GoSem.Claim
import GoSem.ClaimJoined
import GoSem.ClaimMapViews
import Derived.JoinedTies
import Derived.KernelRfl
namespace Go.Proofs.Ytgphdaipgodjgaa
/- THE CELL 'sum', in the pinned program and in every row, IS THE sha256 OF THE DUMP (.gsa) THAT YtgphdaipgodjgaaProg.lean LOADS. Nothing in Lean hashes anything: it is a label: what it is worth is what the hold of that sum in a sandbox is worth. -/
noncomputable def Try.pinned : Pinned := { name := "ytgphdaipgodjgaa", sum := "06954685b76dae6053820f4c29a60f17bafe17b7fa3eda90200ad6c45daf6154", checked := Try.checked }
namespace Rows
def none {H : Type} : Left H := { results := [], args := [] }

/-- 'sparrowlaw08.ChanceBetter': WHATEVER THE INPUT: true; the input reads as it did. -/
def chanceBetterSpec : ChangeSpec := { name := "chanceBetter", fn := fun _ => fun
  | [d1, d2, d3, d4, d5] => { results := [.lit (.bool true)], args := [d1, d2, d3, d4, d5] }
  | _ => none }
def chanceBetterRow : OpenClaim := { program := "ytgphdaipgodjgaa", sum := "06954685b76dae6053820f4c29a60f17bafe17b7fa3eda90200ad6c45daf6154", func := "sparrow/sparrowlaw08.ChanceBetter", spec := "chanceBetter", unfollowed := true, recurses := true, plainKeys := false, apart := false }
def ChanceBetterSaid : Prop := chanceBetterRow.holds Try.pinned (OpenSpec.ofChange chanceBetterSpec)

/-- ITS FALSE NEIGHBOUR: 'it returns false'. Refute it at one input. -/
def chanceBetterWrong : ChangeSpec := { name := "chanceBetter", fn := fun _ => fun
  | [d1, d2, d3, d4, d5] => { results := [.lit (.bool false)], args := [d1, d2, d3, d4, d5] }
  | _ => none }
def ChanceBetterWrongFalsely : Prop := chanceBetterRow.holds Try.pinned (OpenSpec.ofChange chanceBetterWrong)

/-- 'sparrowlaw08.ChanceOrder': WHATEVER THE INPUT: true; the input reads as it did. -/
def chanceOrderSpec : ChangeSpec := { name := "chanceOrder", fn := fun _ => fun
  | [d1, d2] => { results := [.lit (.bool true)], args := [d1, d2] }
  | _ => none }
def chanceOrderRow : OpenClaim := { program := "ytgphdaipgodjgaa", sum := "06954685b76dae6053820f4c29a60f17bafe17b7fa3eda90200ad6c45daf6154", func := "sparrow/sparrowlaw08.ChanceOrder", spec := "chanceOrder", unfollowed := true, recurses := true, plainKeys := false, apart := false }
def ChanceOrderSaid : Prop := chanceOrderRow.holds Try.pinned (OpenSpec.ofChange chanceOrderSpec)

/-- ITS FALSE NEIGHBOUR: 'it returns false'. Refute it at one input. -/
def chanceOrderWrong : ChangeSpec := { name := "chanceOrder", fn := fun _ => fun
  | [d1, d2] => { results := [.lit (.bool false)], args := [d1, d2] }
  | _ => none }
def ChanceOrderWrongFalsely : Prop := chanceOrderRow.holds Try.pinned (OpenSpec.ofChange chanceOrderWrong)

/-- 'sparrowlaw08.ChancePascal': WHATEVER THE INPUT: true; the input reads as it did. -/
def chancePascalSpec : ChangeSpec := { name := "chancePascal", fn := fun _ => fun
  | [d1, d2] => { results := [.lit (.bool true)], args := [d1, d2] }
  | _ => none }
def chancePascalRow : OpenClaim := { program := "ytgphdaipgodjgaa", sum := "06954685b76dae6053820f4c29a60f17bafe17b7fa3eda90200ad6c45daf6154", func := "sparrow/sparrowlaw08.ChancePascal", spec := "chancePascal", unfollowed := true, recurses := true, plainKeys := false, apart := false }
def ChancePascalSaid : Prop := chancePascalRow.holds Try.pinned (OpenSpec.ofChange chancePascalSpec)

/-- ITS FALSE NEIGHBOUR: 'it returns false'. Refute it at one input. -/
def chancePascalWrong : ChangeSpec := { name := "chancePascal", fn := fun _ => fun
  | [d1, d2] => { results := [.lit (.bool false)], args := [d1, d2] }
  | _ => none }
def ChancePascalWrongFalsely : Prop := chancePascalRow.holds Try.pinned (OpenSpec.ofChange chancePascalWrong)

/-- 'sparrowlaw08.ChanceDraws': WHATEVER THE INPUT: true; the input reads as it did. -/
def chanceDrawsSpec : ChangeSpec := { name := "chanceDraws", fn := fun _ => fun
  | [d1, d2, d3, d4, d5] => { results := [.lit (.bool true)], args := [d1, d2, d3, d4, d5] }
  | _ => none }
def chanceDrawsRow : OpenClaim := { program := "ytgphdaipgodjgaa", sum := "06954685b76dae6053820f4c29a60f17bafe17b7fa3eda90200ad6c45daf6154", func := "sparrow/sparrowlaw08.ChanceDraws", spec := "chanceDraws", unfollowed := true, recurses := true, plainKeys := false, apart := false }
def ChanceDrawsSaid : Prop := chanceDrawsRow.holds Try.pinned (OpenSpec.ofChange chanceDrawsSpec)

/-- ITS FALSE NEIGHBOUR: 'it returns false'. Refute it at one input. -/
def chanceDrawsWrong : ChangeSpec := { name := "chanceDraws", fn := fun _ => fun
  | [d1, d2, d3, d4, d5] => { results := [.lit (.bool false)], args := [d1, d2, d3, d4, d5] }
  | _ => none }
def ChanceDrawsWrongFalsely : Prop := chanceDrawsRow.holds Try.pinned (OpenSpec.ofChange chanceDrawsWrong)

/-- 'sparrowlaw08.ChanceRing': WHATEVER THE INPUT: true; the input reads as it did. -/
def chanceRingSpec : ChangeSpec := { name := "chanceRing", fn := fun _ => fun
  | [d] => { results := [.lit (.bool true)], args := [d] }
  | _ => none }
def chanceRingRow : OpenClaim := { program := "ytgphdaipgodjgaa", sum := "06954685b76dae6053820f4c29a60f17bafe17b7fa3eda90200ad6c45daf6154", func := "sparrow/sparrowlaw08.ChanceRing", spec := "chanceRing", unfollowed := true, recurses := true, plainKeys := false, apart := false }
def ChanceRingSaid : Prop := chanceRingRow.holds Try.pinned (OpenSpec.ofChange chanceRingSpec)

/-- ITS FALSE NEIGHBOUR: 'it returns false'. Refute it at one input. -/
def chanceRingWrong : ChangeSpec := { name := "chanceRing", fn := fun _ => fun
  | [d] => { results := [.lit (.bool false)], args := [d] }
  | _ => none }
def ChanceRingWrongFalsely : Prop := chanceRingRow.holds Try.pinned (OpenSpec.ofChange chanceRingWrong)

/-- 'sparrowlaw08.ChanceParts': WHATEVER THE INPUT: true; the input reads as it did. -/
def chancePartsSpec : ChangeSpec := { name := "chanceParts", fn := fun _ => fun
  | [d1, d2, d3] => { results := [.lit (.bool true)], args := [d1, d2, d3] }
  | _ => none }
def chancePartsRow : OpenClaim := { program := "ytgphdaipgodjgaa", sum := "06954685b76dae6053820f4c29a60f17bafe17b7fa3eda90200ad6c45daf6154", func := "sparrow/sparrowlaw08.ChanceParts", spec := "chanceParts", unfollowed := true, recurses := true, plainKeys := false, apart := false }
def ChancePartsSaid : Prop := chancePartsRow.holds Try.pinned (OpenSpec.ofChange chancePartsSpec)

/-- ITS FALSE NEIGHBOUR: 'it returns false'. Refute it at one input. -/
def chancePartsWrong : ChangeSpec := { name := "chanceParts", fn := fun _ => fun
  | [d1, d2, d3] => { results := [.lit (.bool false)], args := [d1, d2, d3] }
  | _ => none }
def ChancePartsWrongFalsely : Prop := chancePartsRow.holds Try.pinned (OpenSpec.ofChange chancePartsWrong)

/-- 'sparrowlaw08.ChanceRaces': WHATEVER THE INPUT: true; the input reads as it did. -/
def chanceRacesSpec : ChangeSpec := { name := "chanceRaces", fn := fun _ => fun
  | [d1, d2, d3, d4, d5] => { results := [.lit (.bool true)], args := [d1, d2, d3, d4, d5] }
  | _ => none }
def chanceRacesRow : OpenClaim := { program := "ytgphdaipgodjgaa", sum := "06954685b76dae6053820f4c29a60f17bafe17b7fa3eda90200ad6c45daf6154", func := "sparrow/sparrowlaw08.ChanceRaces", spec := "chanceRaces", unfollowed := true, recurses := true, plainKeys := false, apart := false }
def ChanceRacesSaid : Prop := chanceRacesRow.holds Try.pinned (OpenSpec.ofChange chanceRacesSpec)

/-- ITS FALSE NEIGHBOUR: 'it returns false'. Refute it at one input. -/
def chanceRacesWrong : ChangeSpec := { name := "chanceRaces", fn := fun _ => fun
  | [d1, d2, d3, d4, d5] => { results := [.lit (.bool false)], args := [d1, d2, d3, d4, d5] }
  | _ => none }
def ChanceRacesWrongFalsely : Prop := chanceRacesRow.holds Try.pinned (OpenSpec.ofChange chanceRacesWrong)

/-- 'sparrowlaw08.ChanceOrders': WHATEVER THE INPUT: true; the input reads as it did. -/
def chanceOrdersSpec : ChangeSpec := { name := "chanceOrders", fn := fun _ => fun
  | [d1, d2, d3] => { results := [.lit (.bool true)], args := [d1, d2, d3] }
  | _ => none }
def chanceOrdersRow : OpenClaim := { program := "ytgphdaipgodjgaa", sum := "06954685b76dae6053820f4c29a60f17bafe17b7fa3eda90200ad6c45daf6154", func := "sparrow/sparrowlaw08.ChanceOrders", spec := "chanceOrders", unfollowed := true, recurses := true, plainKeys := false, apart := false }
def ChanceOrdersSaid : Prop := chanceOrdersRow.holds Try.pinned (OpenSpec.ofChange chanceOrdersSpec)

/-- ITS FALSE NEIGHBOUR: 'it returns false'. Refute it at one input. -/
def chanceOrdersWrong : ChangeSpec := { name := "chanceOrders", fn := fun _ => fun
  | [d1, d2, d3] => { results := [.lit (.bool false)], args := [d1, d2, d3] }
  | _ => none }
def ChanceOrdersWrongFalsely : Prop := chanceOrdersRow.holds Try.pinned (OpenSpec.ofChange chanceOrdersWrong)

/-- 'sparrowlaw08.ChanceWays': WHATEVER THE INPUT: true; the input reads as it did. -/
def chanceWaysSpec : ChangeSpec := { name := "chanceWays", fn := fun _ => fun
  | [d1, d2, d3] => { results := [.lit (.bool true)], args := [d1, d2, d3] }
  | _ => none }
def chanceWaysRow : OpenClaim := { program := "ytgphdaipgodjgaa", sum := "06954685b76dae6053820f4c29a60f17bafe17b7fa3eda90200ad6c45daf6154", func := "sparrow/sparrowlaw08.ChanceWays", spec := "chanceWays", unfollowed := true, recurses := true, plainKeys := false, apart := false }
def ChanceWaysSaid : Prop := chanceWaysRow.holds Try.pinned (OpenSpec.ofChange chanceWaysSpec)

/-- ITS FALSE NEIGHBOUR: 'it returns false'. Refute it at one input. -/
def chanceWaysWrong : ChangeSpec := { name := "chanceWays", fn := fun _ => fun
  | [d1, d2, d3] => { results := [.lit (.bool false)], args := [d1, d2, d3] }
  | _ => none }
def ChanceWaysWrongFalsely : Prop := chanceWaysRow.holds Try.pinned (OpenSpec.ofChange chanceWaysWrong)

/-- 'sparrowlaw08.ChanceRanks': WHATEVER THE INPUT: true; the input reads as it did. -/
def chanceRanksSpec : ChangeSpec := { name := "chanceRanks", fn := fun _ => fun
  | [d1, d2, d3, d4] => { results := [.lit (.bool true)], args := [d1, d2, d3, d4] }
  | _ => none }
def chanceRanksRow : OpenClaim := { program := "ytgphdaipgodjgaa", sum := "06954685b76dae6053820f4c29a60f17bafe17b7fa3eda90200ad6c45daf6154", func := "sparrow/sparrowlaw08.ChanceRanks", spec := "chanceRanks", unfollowed := true, recurses := true, plainKeys := false, apart := false }
def ChanceRanksSaid : Prop := chanceRanksRow.holds Try.pinned (OpenSpec.ofChange chanceRanksSpec)

/-- ITS FALSE NEIGHBOUR: 'it returns false'. Refute it at one input. -/
def chanceRanksWrong : ChangeSpec := { name := "chanceRanks", fn := fun _ => fun
  | [d1, d2, d3, d4] => { results := [.lit (.bool false)], args := [d1, d2, d3, d4] }
  | _ => none }
def ChanceRanksWrongFalsely : Prop := chanceRanksRow.holds Try.pinned (OpenSpec.ofChange chanceRanksWrong)

/-- 'sparrowlaw08.ChancePlaces': WHATEVER THE INPUT: true; the input reads as it did. -/
def chancePlacesSpec : ChangeSpec := { name := "chancePlaces", fn := fun _ => fun
  | [d1, d2] => { results := [.lit (.bool true)], args := [d1, d2] }
  | _ => none }
def chancePlacesRow : OpenClaim := { program := "ytgphdaipgodjgaa", sum := "06954685b76dae6053820f4c29a60f17bafe17b7fa3eda90200ad6c45daf6154", func := "sparrow/sparrowlaw08.ChancePlaces", spec := "chancePlaces", unfollowed := true, recurses := true, plainKeys := false, apart := false }
def ChancePlacesSaid : Prop := chancePlacesRow.holds Try.pinned (OpenSpec.ofChange chancePlacesSpec)

/-- ITS FALSE NEIGHBOUR: 'it returns false'. Refute it at one input. -/
def chancePlacesWrong : ChangeSpec := { name := "chancePlaces", fn := fun _ => fun
  | [d1, d2] => { results := [.lit (.bool false)], args := [d1, d2] }
  | _ => none }
def ChancePlacesWrongFalsely : Prop := chancePlacesRow.holds Try.pinned (OpenSpec.ofChange chancePlacesWrong)

/- THE SECOND FORM. 'bulk': how many values and letters a reading holds, each counted each time it is reached (what is shared counts as often as it is met; a slice's spare places count too). A statement '..UptoSaid' is the law's where the arguments, and the package variables that the reading takes, are together of bulk at most 1048576: NARROWER than '..Said'. Prove '..Said' where nothing that the law and all that it calls make is longer than what came in: it says more and counts as full. Else prove '..UptoSaid'. A law counts once. -/
mutual
def uptoBulk {H : Type} : DataW H → Nat
  | .lit (.string bytes) => bytes.length + 1
  | .lit _ => 1
  | .nil => 1
  | .ptr d => uptoBulk d + 1
  | .slice elems spare => uptoBulkAll elems + uptoBulkAll spare + 1
  | .agg parts => uptoBulkAll parts + 1
  | .iface _ d => uptoBulk d + 1
  | .map entries => uptoBulkEntries entries + 1
  | .held _ => 1
def uptoBulkAll {H : Type} : List (DataW H) → Nat
  | [] => 0
  | d :: r => uptoBulk d + uptoBulkAll r
def uptoBulkEntries {H : Type} : List (Lit × DataW H) → Nat
  | [] => 0
  | x :: r => uptoBulkEntry x + uptoBulkEntries r
def uptoBulkEntry {H : Type} : Lit × DataW H → Nat
  | (.string bytes, d) => bytes.length + uptoBulk d + 1
  | (_, d) => uptoBulk d + 1
 end
def uptoSmall : (H : Type) → List (DataW H) → Bool := fun _ ds => decide (uptoBulkAll ds ≤ 1048576)
def OpenSpec.upto (s : _root_.Go.ChangeSpec) : _root_.Go.OpenSpec := { _root_.Go.OpenSpec.ofChange s with cond := some uptoSmall }

/-- 'sparrowlaw08.ChanceBetter', WHERE WHAT IT READS IS OF BULK AT MOST 1048576: true; the input reads as it did. -/
def chanceBetterUptoRow : OpenClaim := { program := "ytgphdaipgodjgaa", sum := "06954685b76dae6053820f4c29a60f17bafe17b7fa3eda90200ad6c45daf6154", func := "sparrow/sparrowlaw08.ChanceBetter", spec := "chanceBetter", unfollowed := true, recurses := true, plainKeys := false, apart := false, narrowed := true }
def ChanceBetterUptoSaid : Prop := chanceBetterUptoRow.holds Try.pinned (OpenSpec.upto chanceBetterSpec)

/-- 'sparrowlaw08.ChanceOrder', WHERE WHAT IT READS IS OF BULK AT MOST 1048576: true; the input reads as it did. -/
def chanceOrderUptoRow : OpenClaim := { program := "ytgphdaipgodjgaa", sum := "06954685b76dae6053820f4c29a60f17bafe17b7fa3eda90200ad6c45daf6154", func := "sparrow/sparrowlaw08.ChanceOrder", spec := "chanceOrder", unfollowed := true, recurses := true, plainKeys := false, apart := false, narrowed := true }
def ChanceOrderUptoSaid : Prop := chanceOrderUptoRow.holds Try.pinned (OpenSpec.upto chanceOrderSpec)

/-- 'sparrowlaw08.ChancePascal', WHERE WHAT IT READS IS OF BULK AT MOST 1048576: true; the input reads as it did. -/
def chancePascalUptoRow : OpenClaim := { program := "ytgphdaipgodjgaa", sum := "06954685b76dae6053820f4c29a60f17bafe17b7fa3eda90200ad6c45daf6154", func := "sparrow/sparrowlaw08.ChancePascal", spec := "chancePascal", unfollowed := true, recurses := true, plainKeys := false, apart := false, narrowed := true }
def ChancePascalUptoSaid : Prop := chancePascalUptoRow.holds Try.pinned (OpenSpec.upto chancePascalSpec)

/-- 'sparrowlaw08.ChanceDraws', WHERE WHAT IT READS IS OF BULK AT MOST 1048576: true; the input reads as it did. -/
def chanceDrawsUptoRow : OpenClaim := { program := "ytgphdaipgodjgaa", sum := "06954685b76dae6053820f4c29a60f17bafe17b7fa3eda90200ad6c45daf6154", func := "sparrow/sparrowlaw08.ChanceDraws", spec := "chanceDraws", unfollowed := true, recurses := true, plainKeys := false, apart := false, narrowed := true }
def ChanceDrawsUptoSaid : Prop := chanceDrawsUptoRow.holds Try.pinned (OpenSpec.upto chanceDrawsSpec)

/-- 'sparrowlaw08.ChanceRing', WHERE WHAT IT READS IS OF BULK AT MOST 1048576: true; the input reads as it did. -/
def chanceRingUptoRow : OpenClaim := { program := "ytgphdaipgodjgaa", sum := "06954685b76dae6053820f4c29a60f17bafe17b7fa3eda90200ad6c45daf6154", func := "sparrow/sparrowlaw08.ChanceRing", spec := "chanceRing", unfollowed := true, recurses := true, plainKeys := false, apart := false, narrowed := true }
def ChanceRingUptoSaid : Prop := chanceRingUptoRow.holds Try.pinned (OpenSpec.upto chanceRingSpec)

/-- 'sparrowlaw08.ChanceParts', WHERE WHAT IT READS IS OF BULK AT MOST 1048576: true; the input reads as it did. -/
def chancePartsUptoRow : OpenClaim := { program := "ytgphdaipgodjgaa", sum := "06954685b76dae6053820f4c29a60f17bafe17b7fa3eda90200ad6c45daf6154", func := "sparrow/sparrowlaw08.ChanceParts", spec := "chanceParts", unfollowed := true, recurses := true, plainKeys := false, apart := false, narrowed := true }
def ChancePartsUptoSaid : Prop := chancePartsUptoRow.holds Try.pinned (OpenSpec.upto chancePartsSpec)

/-- 'sparrowlaw08.ChanceRaces', WHERE WHAT IT READS IS OF BULK AT MOST 1048576: true; the input reads as it did. -/
def chanceRacesUptoRow : OpenClaim := { program := "ytgphdaipgodjgaa", sum := "06954685b76dae6053820f4c29a60f17bafe17b7fa3eda90200ad6c45daf6154", func := "sparrow/sparrowlaw08.ChanceRaces", spec := "chanceRaces", unfollowed := true, recurses := true, plainKeys := false, apart := false, narrowed := true }
def ChanceRacesUptoSaid : Prop := chanceRacesUptoRow.holds Try.pinned (OpenSpec.upto chanceRacesSpec)

/-- 'sparrowlaw08.ChanceOrders', WHERE WHAT IT READS IS OF BULK AT MOST 1048576: true; the input reads as it did. -/
def chanceOrdersUptoRow : OpenClaim := { program := "ytgphdaipgodjgaa", sum := "06954685b76dae6053820f4c29a60f17bafe17b7fa3eda90200ad6c45daf6154", func := "sparrow/sparrowlaw08.ChanceOrders", spec := "chanceOrders", unfollowed := true, recurses := true, plainKeys := false, apart := false, narrowed := true }
def ChanceOrdersUptoSaid : Prop := chanceOrdersUptoRow.holds Try.pinned (OpenSpec.upto chanceOrdersSpec)

/-- 'sparrowlaw08.ChanceWays', WHERE WHAT IT READS IS OF BULK AT MOST 1048576: true; the input reads as it did. -/
def chanceWaysUptoRow : OpenClaim := { program := "ytgphdaipgodjgaa", sum := "06954685b76dae6053820f4c29a60f17bafe17b7fa3eda90200ad6c45daf6154", func := "sparrow/sparrowlaw08.ChanceWays", spec := "chanceWays", unfollowed := true, recurses := true, plainKeys := false, apart := false, narrowed := true }
def ChanceWaysUptoSaid : Prop := chanceWaysUptoRow.holds Try.pinned (OpenSpec.upto chanceWaysSpec)

/-- 'sparrowlaw08.ChanceRanks', WHERE WHAT IT READS IS OF BULK AT MOST 1048576: true; the input reads as it did. -/
def chanceRanksUptoRow : OpenClaim := { program := "ytgphdaipgodjgaa", sum := "06954685b76dae6053820f4c29a60f17bafe17b7fa3eda90200ad6c45daf6154", func := "sparrow/sparrowlaw08.ChanceRanks", spec := "chanceRanks", unfollowed := true, recurses := true, plainKeys := false, apart := false, narrowed := true }
def ChanceRanksUptoSaid : Prop := chanceRanksUptoRow.holds Try.pinned (OpenSpec.upto chanceRanksSpec)

/-- 'sparrowlaw08.ChancePlaces', WHERE WHAT IT READS IS OF BULK AT MOST 1048576: true; the input reads as it did. -/
def chancePlacesUptoRow : OpenClaim := { program := "ytgphdaipgodjgaa", sum := "06954685b76dae6053820f4c29a60f17bafe17b7fa3eda90200ad6c45daf6154", func := "sparrow/sparrowlaw08.ChancePlaces", spec := "chancePlaces", unfollowed := true, recurses := true, plainKeys := false, apart := false, narrowed := true }
def ChancePlacesUptoSaid : Prop := chancePlacesUptoRow.holds Try.pinned (OpenSpec.upto chancePlacesSpec)

end Rows
end Go.Proofs.Ytgphdaipgodjgaa
