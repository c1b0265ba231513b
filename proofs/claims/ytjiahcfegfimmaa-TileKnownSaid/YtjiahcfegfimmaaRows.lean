/-
  No cell of these rows narrows 'for every input' (looked for: loops, veiled, ifaces, maps, wideKeys, modest, calm, conditions, laid).
  DERIVED. THE GIVEN ROWS OF THIS SEAT. 15 by the template 'for every input the law returns true; each argument reads behind the call as it read before'; 0 by the template 'total and deterministic' (their statements: YtjiahcfegfimmaaTotals.lean).
  GIVEN WITH THE SEED: the statements are not yours to turn. If you find one false, say at which input.
  Laid BY PROGRAM, IN A SANDBOX (cutbox-rows.mjs): the forced cells as the released guide's own fill.sh prints them over the translation 17fac777e15e61e6… (all of the seat's roots in one cut). By AI agents, Wed Nov 11 2026. No macro, syntax, notation, axiom, sorry.
-/
import Derived.Test.YtjiahcfegfimmaaChecked
import GoSem.Claim
import GoSem.ClaimJoined
import GoSem.ClaimMapViews
import Derived.JoinedTies
import Derived.KernelRfl
namespace Go.Proofs.Ytjiahcfegfimmaa
/- THE CELL 'sum', in the pinned program and in every row, IS THE sha256 OF THE DUMP (.gsa) THAT YtjiahcfegfimmaaProg.lean LOADS. Nothing in Lean hashes anything: it is a label: what it is worth is what the hold of that sum in a sandbox is worth. -/
noncomputable def Try.pinned : Pinned := { name := "ytjiahcfegfimmaa", sum := "17fac777e15e61e6d2925558d0421cd9e7d92fcbcf4df1512f65d473644d471f", checked := Try.checked }
namespace Rows
def none {H : Type} : Left H := { results := [], args := [] }

/-- 'sparrowlaw01.TileTexts': WHATEVER THE INPUT: true; the input reads as it did. -/
def tileTextsSpec : ChangeSpec := { name := "tileTexts", fn := fun _ => fun
  | [d1, d2] => { results := [.lit (.bool true)], args := [d1, d2] }
  | _ => none }
def tileTextsRow : OpenClaim := { program := "ytjiahcfegfimmaa", sum := "17fac777e15e61e6d2925558d0421cd9e7d92fcbcf4df1512f65d473644d471f", func := "sparrow/sparrowlaw01.TileTexts", spec := "tileTexts", unfollowed := true, recurses := true, plainKeys := false, apart := false }
def TileTextsSaid : Prop := tileTextsRow.holds Try.pinned (OpenSpec.ofChange tileTextsSpec)

/-- ITS FALSE NEIGHBOUR: 'it returns false'. Refute it at one input. -/
def tileTextsWrong : ChangeSpec := { name := "tileTexts", fn := fun _ => fun
  | [d1, d2] => { results := [.lit (.bool false)], args := [d1, d2] }
  | _ => none }
def TileTextsWrongFalsely : Prop := tileTextsRow.holds Try.pinned (OpenSpec.ofChange tileTextsWrong)

/-- 'sparrowlaw01.TileWalls': WHATEVER THE INPUT: true; the input reads as it did. -/
def tileWallsSpec : ChangeSpec := { name := "tileWalls", fn := fun _ => fun
  | [d1, d2] => { results := [.lit (.bool true)], args := [d1, d2] }
  | _ => none }
def tileWallsRow : OpenClaim := { program := "ytjiahcfegfimmaa", sum := "17fac777e15e61e6d2925558d0421cd9e7d92fcbcf4df1512f65d473644d471f", func := "sparrow/sparrowlaw01.TileWalls", spec := "tileWalls", unfollowed := true, recurses := true, plainKeys := false, apart := false }
def TileWallsSaid : Prop := tileWallsRow.holds Try.pinned (OpenSpec.ofChange tileWallsSpec)

/-- ITS FALSE NEIGHBOUR: 'it returns false'. Refute it at one input. -/
def tileWallsWrong : ChangeSpec := { name := "tileWalls", fn := fun _ => fun
  | [d1, d2] => { results := [.lit (.bool false)], args := [d1, d2] }
  | _ => none }
def TileWallsWrongFalsely : Prop := tileWallsRow.holds Try.pinned (OpenSpec.ofChange tileWallsWrong)

/-- 'sparrowlaw01.TileDeals': WHATEVER THE INPUT: true; the input reads as it did. -/
def tileDealsSpec : ChangeSpec := { name := "tileDeals", fn := fun _ => fun
  | [d1, d2, d3, d4] => { results := [.lit (.bool true)], args := [d1, d2, d3, d4] }
  | _ => none }
def tileDealsRow : OpenClaim := { program := "ytjiahcfegfimmaa", sum := "17fac777e15e61e6d2925558d0421cd9e7d92fcbcf4df1512f65d473644d471f", func := "sparrow/sparrowlaw01.TileDeals", spec := "tileDeals", unfollowed := true, recurses := true, plainKeys := false, apart := false }
def TileDealsSaid : Prop := tileDealsRow.holds Try.pinned (OpenSpec.ofChange tileDealsSpec)

/-- ITS FALSE NEIGHBOUR: 'it returns false'. Refute it at one input. -/
def tileDealsWrong : ChangeSpec := { name := "tileDeals", fn := fun _ => fun
  | [d1, d2, d3, d4] => { results := [.lit (.bool false)], args := [d1, d2, d3, d4] }
  | _ => none }
def TileDealsWrongFalsely : Prop := tileDealsRow.holds Try.pinned (OpenSpec.ofChange tileDealsWrong)

/-- 'sparrowlaw01.TileParts': WHATEVER THE INPUT: true; the input reads as it did. -/
def tilePartsSpec : ChangeSpec := { name := "tileParts", fn := fun _ => fun
  | [d1, d2, d3, d4] => { results := [.lit (.bool true)], args := [d1, d2, d3, d4] }
  | _ => none }
def tilePartsRow : OpenClaim := { program := "ytjiahcfegfimmaa", sum := "17fac777e15e61e6d2925558d0421cd9e7d92fcbcf4df1512f65d473644d471f", func := "sparrow/sparrowlaw01.TileParts", spec := "tileParts", unfollowed := true, recurses := true, plainKeys := false, apart := false }
def TilePartsSaid : Prop := tilePartsRow.holds Try.pinned (OpenSpec.ofChange tilePartsSpec)

/-- ITS FALSE NEIGHBOUR: 'it returns false'. Refute it at one input. -/
def tilePartsWrong : ChangeSpec := { name := "tileParts", fn := fun _ => fun
  | [d1, d2, d3, d4] => { results := [.lit (.bool false)], args := [d1, d2, d3, d4] }
  | _ => none }
def TilePartsWrongFalsely : Prop := tilePartsRow.holds Try.pinned (OpenSpec.ofChange tilePartsWrong)

/-- 'sparrowlaw01.TileRounds': WHATEVER THE INPUT: true; the input reads as it did. -/
def tileRoundsSpec : ChangeSpec := { name := "tileRounds", fn := fun _ => fun
  | [d1, d2] => { results := [.lit (.bool true)], args := [d1, d2] }
  | _ => none }
def tileRoundsRow : OpenClaim := { program := "ytjiahcfegfimmaa", sum := "17fac777e15e61e6d2925558d0421cd9e7d92fcbcf4df1512f65d473644d471f", func := "sparrow/sparrowlaw01.TileRounds", spec := "tileRounds", unfollowed := true, recurses := true, plainKeys := false, apart := false }
def TileRoundsSaid : Prop := tileRoundsRow.holds Try.pinned (OpenSpec.ofChange tileRoundsSpec)

/-- ITS FALSE NEIGHBOUR: 'it returns false'. Refute it at one input. -/
def tileRoundsWrong : ChangeSpec := { name := "tileRounds", fn := fun _ => fun
  | [d1, d2] => { results := [.lit (.bool false)], args := [d1, d2] }
  | _ => none }
def TileRoundsWrongFalsely : Prop := tileRoundsRow.holds Try.pinned (OpenSpec.ofChange tileRoundsWrong)

/-- 'sparrowlaw01.TileShifts': WHATEVER THE INPUT: true; the input reads as it did. -/
def tileShiftsSpec : ChangeSpec := { name := "tileShifts", fn := fun _ => fun
  | [d1, d2, d3, d4, d5] => { results := [.lit (.bool true)], args := [d1, d2, d3, d4, d5] }
  | _ => none }
def tileShiftsRow : OpenClaim := { program := "ytjiahcfegfimmaa", sum := "17fac777e15e61e6d2925558d0421cd9e7d92fcbcf4df1512f65d473644d471f", func := "sparrow/sparrowlaw01.TileShifts", spec := "tileShifts", unfollowed := true, recurses := true, plainKeys := false, apart := false }
def TileShiftsSaid : Prop := tileShiftsRow.holds Try.pinned (OpenSpec.ofChange tileShiftsSpec)

/-- ITS FALSE NEIGHBOUR: 'it returns false'. Refute it at one input. -/
def tileShiftsWrong : ChangeSpec := { name := "tileShifts", fn := fun _ => fun
  | [d1, d2, d3, d4, d5] => { results := [.lit (.bool false)], args := [d1, d2, d3, d4, d5] }
  | _ => none }
def TileShiftsWrongFalsely : Prop := tileShiftsRow.holds Try.pinned (OpenSpec.ofChange tileShiftsWrong)

/-- 'sparrowlaw01.TileChecks': WHATEVER THE INPUT: true; the input reads as it did. -/
def tileChecksSpec : ChangeSpec := { name := "tileChecks", fn := fun _ => fun
  | [d1, d2] => { results := [.lit (.bool true)], args := [d1, d2] }
  | _ => none }
def tileChecksRow : OpenClaim := { program := "ytjiahcfegfimmaa", sum := "17fac777e15e61e6d2925558d0421cd9e7d92fcbcf4df1512f65d473644d471f", func := "sparrow/sparrowlaw01.TileChecks", spec := "tileChecks", unfollowed := true, recurses := true, plainKeys := false, apart := false }
def TileChecksSaid : Prop := tileChecksRow.holds Try.pinned (OpenSpec.ofChange tileChecksSpec)

/-- ITS FALSE NEIGHBOUR: 'it returns false'. Refute it at one input. -/
def tileChecksWrong : ChangeSpec := { name := "tileChecks", fn := fun _ => fun
  | [d1, d2] => { results := [.lit (.bool false)], args := [d1, d2] }
  | _ => none }
def TileChecksWrongFalsely : Prop := tileChecksRow.holds Try.pinned (OpenSpec.ofChange tileChecksWrong)

/-- 'sparrowlaw01.TileCuts': WHATEVER THE INPUT: true; the input reads as it did. -/
def tileCutsSpec : ChangeSpec := { name := "tileCuts", fn := fun _ => fun
  | [d1, d2, d3] => { results := [.lit (.bool true)], args := [d1, d2, d3] }
  | _ => none }
def tileCutsRow : OpenClaim := { program := "ytjiahcfegfimmaa", sum := "17fac777e15e61e6d2925558d0421cd9e7d92fcbcf4df1512f65d473644d471f", func := "sparrow/sparrowlaw01.TileCuts", spec := "tileCuts", unfollowed := true, recurses := true, plainKeys := false, apart := false }
def TileCutsSaid : Prop := tileCutsRow.holds Try.pinned (OpenSpec.ofChange tileCutsSpec)

/-- ITS FALSE NEIGHBOUR: 'it returns false'. Refute it at one input. -/
def tileCutsWrong : ChangeSpec := { name := "tileCuts", fn := fun _ => fun
  | [d1, d2, d3] => { results := [.lit (.bool false)], args := [d1, d2, d3] }
  | _ => none }
def TileCutsWrongFalsely : Prop := tileCutsRow.holds Try.pinned (OpenSpec.ofChange tileCutsWrong)

/-- 'sparrowlaw01.TileTurns': WHATEVER THE INPUT: true; the input reads as it did. -/
def tileTurnsSpec : ChangeSpec := { name := "tileTurns", fn := fun _ => fun
  | [d1, d2, d3, d4] => { results := [.lit (.bool true)], args := [d1, d2, d3, d4] }
  | _ => none }
def tileTurnsRow : OpenClaim := { program := "ytjiahcfegfimmaa", sum := "17fac777e15e61e6d2925558d0421cd9e7d92fcbcf4df1512f65d473644d471f", func := "sparrow/sparrowlaw01.TileTurns", spec := "tileTurns", unfollowed := true, recurses := true, plainKeys := false, apart := false }
def TileTurnsSaid : Prop := tileTurnsRow.holds Try.pinned (OpenSpec.ofChange tileTurnsSpec)

/-- ITS FALSE NEIGHBOUR: 'it returns false'. Refute it at one input. -/
def tileTurnsWrong : ChangeSpec := { name := "tileTurns", fn := fun _ => fun
  | [d1, d2, d3, d4] => { results := [.lit (.bool false)], args := [d1, d2, d3, d4] }
  | _ => none }
def TileTurnsWrongFalsely : Prop := tileTurnsRow.holds Try.pinned (OpenSpec.ofChange tileTurnsWrong)

/-- 'sparrowlaw01.TileMirrors': WHATEVER THE INPUT: true; the input reads as it did. -/
def tileMirrorsSpec : ChangeSpec := { name := "tileMirrors", fn := fun _ => fun
  | [d1, d2, d3, d4] => { results := [.lit (.bool true)], args := [d1, d2, d3, d4] }
  | _ => none }
def tileMirrorsRow : OpenClaim := { program := "ytjiahcfegfimmaa", sum := "17fac777e15e61e6d2925558d0421cd9e7d92fcbcf4df1512f65d473644d471f", func := "sparrow/sparrowlaw01.TileMirrors", spec := "tileMirrors", unfollowed := true, recurses := true, plainKeys := false, apart := false }
def TileMirrorsSaid : Prop := tileMirrorsRow.holds Try.pinned (OpenSpec.ofChange tileMirrorsSpec)

/-- ITS FALSE NEIGHBOUR: 'it returns false'. Refute it at one input. -/
def tileMirrorsWrong : ChangeSpec := { name := "tileMirrors", fn := fun _ => fun
  | [d1, d2, d3, d4] => { results := [.lit (.bool false)], args := [d1, d2, d3, d4] }
  | _ => none }
def TileMirrorsWrongFalsely : Prop := tileMirrorsRow.holds Try.pinned (OpenSpec.ofChange tileMirrorsWrong)

/-- 'sparrowlaw01.TileKinds': WHATEVER THE INPUT: true; the input reads as it did. -/
def tileKindsSpec : ChangeSpec := { name := "tileKinds", fn := fun _ => fun
  | [d1, d2, d3] => { results := [.lit (.bool true)], args := [d1, d2, d3] }
  | _ => none }
def tileKindsRow : OpenClaim := { program := "ytjiahcfegfimmaa", sum := "17fac777e15e61e6d2925558d0421cd9e7d92fcbcf4df1512f65d473644d471f", func := "sparrow/sparrowlaw01.TileKinds", spec := "tileKinds", unfollowed := true, recurses := true, plainKeys := false, apart := false }
def TileKindsSaid : Prop := tileKindsRow.holds Try.pinned (OpenSpec.ofChange tileKindsSpec)

/-- ITS FALSE NEIGHBOUR: 'it returns false'. Refute it at one input. -/
def tileKindsWrong : ChangeSpec := { name := "tileKinds", fn := fun _ => fun
  | [d1, d2, d3] => { results := [.lit (.bool false)], args := [d1, d2, d3] }
  | _ => none }
def TileKindsWrongFalsely : Prop := tileKindsRow.holds Try.pinned (OpenSpec.ofChange tileKindsWrong)

/-- 'sparrowlaw01.TileBags': WHATEVER THE INPUT: true; the input reads as it did. -/
def tileBagsSpec : ChangeSpec := { name := "tileBags", fn := fun _ => fun
  | [d1, d2] => { results := [.lit (.bool true)], args := [d1, d2] }
  | _ => none }
def tileBagsRow : OpenClaim := { program := "ytjiahcfegfimmaa", sum := "17fac777e15e61e6d2925558d0421cd9e7d92fcbcf4df1512f65d473644d471f", func := "sparrow/sparrowlaw01.TileBags", spec := "tileBags", unfollowed := true, recurses := true, plainKeys := false, apart := false }
def TileBagsSaid : Prop := tileBagsRow.holds Try.pinned (OpenSpec.ofChange tileBagsSpec)

/-- ITS FALSE NEIGHBOUR: 'it returns false'. Refute it at one input. -/
def tileBagsWrong : ChangeSpec := { name := "tileBags", fn := fun _ => fun
  | [d1, d2] => { results := [.lit (.bool false)], args := [d1, d2] }
  | _ => none }
def TileBagsWrongFalsely : Prop := tileBagsRow.holds Try.pinned (OpenSpec.ofChange tileBagsWrong)

/-- 'sparrowlaw01.TileAdds': WHATEVER THE INPUT: true; the input reads as it did. -/
def tileAddsSpec : ChangeSpec := { name := "tileAdds", fn := fun _ => fun
  | [d1, d2, d3] => { results := [.lit (.bool true)], args := [d1, d2, d3] }
  | _ => none }
def tileAddsRow : OpenClaim := { program := "ytjiahcfegfimmaa", sum := "17fac777e15e61e6d2925558d0421cd9e7d92fcbcf4df1512f65d473644d471f", func := "sparrow/sparrowlaw01.TileAdds", spec := "tileAdds", unfollowed := true, recurses := true, plainKeys := false, apart := false }
def TileAddsSaid : Prop := tileAddsRow.holds Try.pinned (OpenSpec.ofChange tileAddsSpec)

/-- ITS FALSE NEIGHBOUR: 'it returns false'. Refute it at one input. -/
def tileAddsWrong : ChangeSpec := { name := "tileAdds", fn := fun _ => fun
  | [d1, d2, d3] => { results := [.lit (.bool false)], args := [d1, d2, d3] }
  | _ => none }
def TileAddsWrongFalsely : Prop := tileAddsRow.holds Try.pinned (OpenSpec.ofChange tileAddsWrong)

/-- 'sparrowlaw01.TileNotes': WHATEVER THE INPUT: true; the input reads as it did. -/
def tileNotesSpec : ChangeSpec := { name := "tileNotes", fn := fun _ => fun
  | [d1, d2, d3, d4] => { results := [.lit (.bool true)], args := [d1, d2, d3, d4] }
  | _ => none }
def tileNotesRow : OpenClaim := { program := "ytjiahcfegfimmaa", sum := "17fac777e15e61e6d2925558d0421cd9e7d92fcbcf4df1512f65d473644d471f", func := "sparrow/sparrowlaw01.TileNotes", spec := "tileNotes", unfollowed := true, recurses := true, plainKeys := false, apart := false }
def TileNotesSaid : Prop := tileNotesRow.holds Try.pinned (OpenSpec.ofChange tileNotesSpec)

/-- ITS FALSE NEIGHBOUR: 'it returns false'. Refute it at one input. -/
def tileNotesWrong : ChangeSpec := { name := "tileNotes", fn := fun _ => fun
  | [d1, d2, d3, d4] => { results := [.lit (.bool false)], args := [d1, d2, d3, d4] }
  | _ => none }
def TileNotesWrongFalsely : Prop := tileNotesRow.holds Try.pinned (OpenSpec.ofChange tileNotesWrong)

/-- 'sparrowlaw01.TileKnown': WHATEVER THE INPUT: true; the input reads as it did. -/
def tileKnownSpec : ChangeSpec := { name := "tileKnown", fn := fun _ => fun
  | [] => { results := [.lit (.bool true)], args := [] }
  | _ => none }
def tileKnownRow : OpenClaim := { program := "ytjiahcfegfimmaa", sum := "17fac777e15e61e6d2925558d0421cd9e7d92fcbcf4df1512f65d473644d471f", func := "sparrow/sparrowlaw01.TileKnown", spec := "tileKnown", unfollowed := true, recurses := true, plainKeys := false, apart := false }
def TileKnownSaid : Prop := tileKnownRow.holds Try.pinned (OpenSpec.ofChange tileKnownSpec)

/-- ITS FALSE NEIGHBOUR: 'it returns false'. Refute it at one input. -/
def tileKnownWrong : ChangeSpec := { name := "tileKnown", fn := fun _ => fun
  | [] => { results := [.lit (.bool false)], args := [] }
  | _ => none }
def TileKnownWrongFalsely : Prop := tileKnownRow.holds Try.pinned (OpenSpec.ofChange tileKnownWrong)

/- THE SECOND FORM. 'bulk': how many values and letters a reading holds, each counted each time it is reached (what is shared counts as often as it is met; a slice's spare places count too). A statement '..UptoSaid' is the law's where the arguments, and the package variables that the reading takes, are together of bulk at most 1048576: NARROWER than '..Said'. Prove '..Said' where nothing that the law and all that it calls make is longer than what came in: it says more and counts as full. Else prove '..UptoSaid'. A law counts once. -/
mutual
def uptoBulk {H : Type} : DataW H → Nat
  | .lit (.string bytes) => bytes.length + 1
  | .lit _ => 1
  | .nil => 1
  | .ptr d => uptoBulk d + 1
  | .slice elems spare => uptoBulkAll elems + uptoBulkAll spare + 1
  | .agg parts => uptoBulkAll parts + 1
  | .iface _ d => uptoBulk d + 1
  | .map entries => uptoBulkEntries entries + 1
  | .held _ => 1
def uptoBulkAll {H : Type} : List (DataW H) → Nat
  | [] => 0
  | d :: r => uptoBulk d + uptoBulkAll r
def uptoBulkEntries {H : Type} : List (Lit × DataW H) → Nat
  | [] => 0
  | x :: r => uptoBulkEntry x + uptoBulkEntries r
def uptoBulkEntry {H : Type} : Lit × DataW H → Nat
  | (.string bytes, d) => bytes.length + uptoBulk d + 1
  | (_, d) => uptoBulk d + 1
 end
def uptoSmall : (H : Type) → List (DataW H) → Bool := fun _ ds => decide (uptoBulkAll ds ≤ 1048576)
def OpenSpec.upto (s : _root_.Go.ChangeSpec) : _root_.Go.OpenSpec := { _root_.Go.OpenSpec.ofChange s with cond := some uptoSmall }

/-- 'sparrowlaw01.TileTexts', WHERE WHAT IT READS IS OF BULK AT MOST 1048576: true; the input reads as it did. -/
def tileTextsUptoRow : OpenClaim := { program := "ytjiahcfegfimmaa", sum := "17fac777e15e61e6d2925558d0421cd9e7d92fcbcf4df1512f65d473644d471f", func := "sparrow/sparrowlaw01.TileTexts", spec := "tileTexts", unfollowed := true, recurses := true, plainKeys := false, apart := false, narrowed := true }
def TileTextsUptoSaid : Prop := tileTextsUptoRow.holds Try.pinned (OpenSpec.upto tileTextsSpec)

/-- 'sparrowlaw01.TileWalls', WHERE WHAT IT READS IS OF BULK AT MOST 1048576: true; the input reads as it did. -/
def tileWallsUptoRow : OpenClaim := { program := "ytjiahcfegfimmaa", sum := "17fac777e15e61e6d2925558d0421cd9e7d92fcbcf4df1512f65d473644d471f", func := "sparrow/sparrowlaw01.TileWalls", spec := "tileWalls", unfollowed := true, recurses := true, plainKeys := false, apart := false, narrowed := true }
def TileWallsUptoSaid : Prop := tileWallsUptoRow.holds Try.pinned (OpenSpec.upto tileWallsSpec)

/-- 'sparrowlaw01.TileDeals', WHERE WHAT IT READS IS OF BULK AT MOST 1048576: true; the input reads as it did. -/
def tileDealsUptoRow : OpenClaim := { program := "ytjiahcfegfimmaa", sum := "17fac777e15e61e6d2925558d0421cd9e7d92fcbcf4df1512f65d473644d471f", func := "sparrow/sparrowlaw01.TileDeals", spec := "tileDeals", unfollowed := true, recurses := true, plainKeys := false, apart := false, narrowed := true }
def TileDealsUptoSaid : Prop := tileDealsUptoRow.holds Try.pinned (OpenSpec.upto tileDealsSpec)

/-- 'sparrowlaw01.TileParts', WHERE WHAT IT READS IS OF BULK AT MOST 1048576: true; the input reads as it did. -/
def tilePartsUptoRow : OpenClaim := { program := "ytjiahcfegfimmaa", sum := "17fac777e15e61e6d2925558d0421cd9e7d92fcbcf4df1512f65d473644d471f", func := "sparrow/sparrowlaw01.TileParts", spec := "tileParts", unfollowed := true, recurses := true, plainKeys := false, apart := false, narrowed := true }
def TilePartsUptoSaid : Prop := tilePartsUptoRow.holds Try.pinned (OpenSpec.upto tilePartsSpec)

/-- 'sparrowlaw01.TileRounds', WHERE WHAT IT READS IS OF BULK AT MOST 1048576: true; the input reads as it did. -/
def tileRoundsUptoRow : OpenClaim := { program := "ytjiahcfegfimmaa", sum := "17fac777e15e61e6d2925558d0421cd9e7d92fcbcf4df1512f65d473644d471f", func := "sparrow/sparrowlaw01.TileRounds", spec := "tileRounds", unfollowed := true, recurses := true, plainKeys := false, apart := false, narrowed := true }
def TileRoundsUptoSaid : Prop := tileRoundsUptoRow.holds Try.pinned (OpenSpec.upto tileRoundsSpec)

/-- 'sparrowlaw01.TileShifts', WHERE WHAT IT READS IS OF BULK AT MOST 1048576: true; the input reads as it did. -/
def tileShiftsUptoRow : OpenClaim := { program := "ytjiahcfegfimmaa", sum := "17fac777e15e61e6d2925558d0421cd9e7d92fcbcf4df1512f65d473644d471f", func := "sparrow/sparrowlaw01.TileShifts", spec := "tileShifts", unfollowed := true, recurses := true, plainKeys := false, apart := false, narrowed := true }
def TileShiftsUptoSaid : Prop := tileShiftsUptoRow.holds Try.pinned (OpenSpec.upto tileShiftsSpec)

/-- 'sparrowlaw01.TileChecks', WHERE WHAT IT READS IS OF BULK AT MOST 1048576: true; the input reads as it did. -/
def tileChecksUptoRow : OpenClaim := { program := "ytjiahcfegfimmaa", sum := "17fac777e15e61e6d2925558d0421cd9e7d92fcbcf4df1512f65d473644d471f", func := "sparrow/sparrowlaw01.TileChecks", spec := "tileChecks", unfollowed := true, recurses := true, plainKeys := false, apart := false, narrowed := true }
def TileChecksUptoSaid : Prop := tileChecksUptoRow.holds Try.pinned (OpenSpec.upto tileChecksSpec)

/-- 'sparrowlaw01.TileCuts', WHERE WHAT IT READS IS OF BULK AT MOST 1048576: true; the input reads as it did. -/
def tileCutsUptoRow : OpenClaim := { program := "ytjiahcfegfimmaa", sum := "17fac777e15e61e6d2925558d0421cd9e7d92fcbcf4df1512f65d473644d471f", func := "sparrow/sparrowlaw01.TileCuts", spec := "tileCuts", unfollowed := true, recurses := true, plainKeys := false, apart := false, narrowed := true }
def TileCutsUptoSaid : Prop := tileCutsUptoRow.holds Try.pinned (OpenSpec.upto tileCutsSpec)

/-- 'sparrowlaw01.TileTurns', WHERE WHAT IT READS IS OF BULK AT MOST 1048576: true; the input reads as it did. -/
def tileTurnsUptoRow : OpenClaim := { program := "ytjiahcfegfimmaa", sum := "17fac777e15e61e6d2925558d0421cd9e7d92fcbcf4df1512f65d473644d471f", func := "sparrow/sparrowlaw01.TileTurns", spec := "tileTurns", unfollowed := true, recurses := true, plainKeys := false, apart := false, narrowed := true }
def TileTurnsUptoSaid : Prop := tileTurnsUptoRow.holds Try.pinned (OpenSpec.upto tileTurnsSpec)

/-- 'sparrowlaw01.TileMirrors', WHERE WHAT IT READS IS OF BULK AT MOST 1048576: true; the input reads as it did. -/
def tileMirrorsUptoRow : OpenClaim := { program := "ytjiahcfegfimmaa", sum := "17fac777e15e61e6d2925558d0421cd9e7d92fcbcf4df1512f65d473644d471f", func := "sparrow/sparrowlaw01.TileMirrors", spec := "tileMirrors", unfollowed := true, recurses := true, plainKeys := false, apart := false, narrowed := true }
def TileMirrorsUptoSaid : Prop := tileMirrorsUptoRow.holds Try.pinned (OpenSpec.upto tileMirrorsSpec)

/-- 'sparrowlaw01.TileKinds', WHERE WHAT IT READS IS OF BULK AT MOST 1048576: true; the input reads as it did. -/
def tileKindsUptoRow : OpenClaim := { program := "ytjiahcfegfimmaa", sum := "17fac777e15e61e6d2925558d0421cd9e7d92fcbcf4df1512f65d473644d471f", func := "sparrow/sparrowlaw01.TileKinds", spec := "tileKinds", unfollowed := true, recurses := true, plainKeys := false, apart := false, narrowed := true }
def TileKindsUptoSaid : Prop := tileKindsUptoRow.holds Try.pinned (OpenSpec.upto tileKindsSpec)

/-- 'sparrowlaw01.TileBags', WHERE WHAT IT READS IS OF BULK AT MOST 1048576: true; the input reads as it did. -/
def tileBagsUptoRow : OpenClaim := { program := "ytjiahcfegfimmaa", sum := "17fac777e15e61e6d2925558d0421cd9e7d92fcbcf4df1512f65d473644d471f", func := "sparrow/sparrowlaw01.TileBags", spec := "tileBags", unfollowed := true, recurses := true, plainKeys := false, apart := false, narrowed := true }
def TileBagsUptoSaid : Prop := tileBagsUptoRow.holds Try.pinned (OpenSpec.upto tileBagsSpec)

/-- 'sparrowlaw01.TileAdds', WHERE WHAT IT READS IS OF BULK AT MOST 1048576: true; the input reads as it did. -/
def tileAddsUptoRow : OpenClaim := { program := "ytjiahcfegfimmaa", sum := "17fac777e15e61e6d2925558d0421cd9e7d92fcbcf4df1512f65d473644d471f", func := "sparrow/sparrowlaw01.TileAdds", spec := "tileAdds", unfollowed := true, recurses := true, plainKeys := false, apart := false, narrowed := true }
def TileAddsUptoSaid : Prop := tileAddsUptoRow.holds Try.pinned (OpenSpec.upto tileAddsSpec)

/-- 'sparrowlaw01.TileNotes', WHERE WHAT IT READS IS OF BULK AT MOST 1048576: true; the input reads as it did. -/
def tileNotesUptoRow : OpenClaim := { program := "ytjiahcfegfimmaa", sum := "17fac777e15e61e6d2925558d0421cd9e7d92fcbcf4df1512f65d473644d471f", func := "sparrow/sparrowlaw01.TileNotes", spec := "tileNotes", unfollowed := true, recurses := true, plainKeys := false, apart := false, narrowed := true }
def TileNotesUptoSaid : Prop := tileNotesUptoRow.holds Try.pinned (OpenSpec.upto tileNotesSpec)

/-- 'sparrowlaw01.TileKnown', WHERE WHAT IT READS IS OF BULK AT MOST 1048576: true; the input reads as it did. -/
def tileKnownUptoRow : OpenClaim := { program := "ytjiahcfegfimmaa", sum := "17fac777e15e61e6d2925558d0421cd9e7d92fcbcf4df1512f65d473644d471f", func := "sparrow/sparrowlaw01.TileKnown", spec := "tileKnown", unfollowed := true, recurses := true, plainKeys := false, apart := false, narrowed := true }
def TileKnownUptoSaid : Prop := tileKnownUptoRow.holds Try.pinned (OpenSpec.upto tileKnownSpec)

end Rows
end Go.Proofs.Ytjiahcfegfimmaa
