/-
  No cell of these rows narrows 'for every input' (looked for: loops, veiled, ifaces, maps, wideKeys, modest, calm, conditions, laid).
  DERIVED. THE GIVEN ROWS OF THIS SEAT. 14 by the template 'for every input the law returns true; each argument reads behind the call as it read before'; 0 by the template 'total and deterministic' (their statements: YthblfhgofopcaaaGreatTotals.lean).
  GIVEN WITH THE SEED: the statements are not yours to turn. If you find one false, say at which input.
  Laid BY PROGRAM, IN A SANDBOX (cutbox-rows.mjs): the forced cells as the released guide's own fill.sh prints them over the translation 234f274af1d325e0… (all of the seat's roots in one cut). By AI agents, Wed Nov 11 2026. No macro, syntax, notation, axiom, sorry.
-/
import Derived.Test.YthblfhgofopcaaaGreatChecked
import GoSem.Claim
import GoSem.ClaimJoined
import GoSem.ClaimMapViews
import Derived.JoinedTies
import Derived.KernelRfl
namespace Go.Proofs.YthblfhgofopcaaaGreat
/- THE CELL 'sum', in the pinned program and in every row, IS THE sha256 OF THE DUMP (.gsa) THAT YthblfhgofopcaaaGreatProg.lean LOADS. Nothing in Lean hashes anything: it is a label: what it is worth is what the hold of that sum in a sandbox is worth. -/
noncomputable def Tryz.pinned : Pinned := { name := "ythblfhgofopcaaagreat", sum := "234f274af1d325e08c57443ff3ad2b51dec7a3c32cee0cf96036c8edf4abfabd", checked := Tryz.checked }
namespace Rows
def none {H : Type} : Left H := { results := [], args := [] }

/-- 'sparrowlaw02.ShapeForms': WHATEVER THE INPUT: true; the input reads as it did. -/
def shapeFormsSpec : ChangeSpec := { name := "shapeForms", fn := fun _ => fun
  | [d1, d2, d3, d4, d5, d6] => { results := [.lit (.bool true)], args := [d1, d2, d3, d4, d5, d6] }
  | _ => none }
def shapeFormsRow : OpenClaim := { program := "ythblfhgofopcaaagreat", sum := "234f274af1d325e08c57443ff3ad2b51dec7a3c32cee0cf96036c8edf4abfabd", func := "sparrow/sparrowlaw02.ShapeForms", spec := "shapeForms", unfollowed := true, recurses := true, apart := false }
def ShapeFormsSaid : Prop := shapeFormsRow.holds Tryz.pinned (OpenSpec.ofChange shapeFormsSpec)

/-- ITS FALSE NEIGHBOUR: 'it returns false'. Refute it at one input. -/
def shapeFormsWrong : ChangeSpec := { name := "shapeForms", fn := fun _ => fun
  | [d1, d2, d3, d4, d5, d6] => { results := [.lit (.bool false)], args := [d1, d2, d3, d4, d5, d6] }
  | _ => none }
def ShapeFormsWrongFalsely : Prop := shapeFormsRow.holds Tryz.pinned (OpenSpec.ofChange shapeFormsWrong)

/-- 'sparrowlaw02.ShapeReads': WHATEVER THE INPUT: true; the input reads as it did. -/
def shapeReadsSpec : ChangeSpec := { name := "shapeReads", fn := fun _ => fun
  | [d1, d2, d3, d4, d5] => { results := [.lit (.bool true)], args := [d1, d2, d3, d4, d5] }
  | _ => none }
def shapeReadsRow : OpenClaim := { program := "ythblfhgofopcaaagreat", sum := "234f274af1d325e08c57443ff3ad2b51dec7a3c32cee0cf96036c8edf4abfabd", func := "sparrow/sparrowlaw02.ShapeReads", spec := "shapeReads", unfollowed := true, recurses := true, apart := false }
def ShapeReadsSaid : Prop := shapeReadsRow.holds Tryz.pinned (OpenSpec.ofChange shapeReadsSpec)

/-- ITS FALSE NEIGHBOUR: 'it returns false'. Refute it at one input. -/
def shapeReadsWrong : ChangeSpec := { name := "shapeReads", fn := fun _ => fun
  | [d1, d2, d3, d4, d5] => { results := [.lit (.bool false)], args := [d1, d2, d3, d4, d5] }
  | _ => none }
def ShapeReadsWrongFalsely : Prop := shapeReadsRow.holds Tryz.pinned (OpenSpec.ofChange shapeReadsWrong)

/-- 'sparrowlaw02.ShapeWins': WHATEVER THE INPUT: true; the input reads as it did. -/
def shapeWinsSpec : ChangeSpec := { name := "shapeWins", fn := fun _ => fun
  | [d1, d2, d3, d4] => { results := [.lit (.bool true)], args := [d1, d2, d3, d4] }
  | _ => none }
def shapeWinsRow : OpenClaim := { program := "ythblfhgofopcaaagreat", sum := "234f274af1d325e08c57443ff3ad2b51dec7a3c32cee0cf96036c8edf4abfabd", func := "sparrow/sparrowlaw02.ShapeWins", spec := "shapeWins", unfollowed := true, recurses := true, apart := false }
def ShapeWinsSaid : Prop := shapeWinsRow.holds Tryz.pinned (OpenSpec.ofChange shapeWinsSpec)

/-- ITS FALSE NEIGHBOUR: 'it returns false'. Refute it at one input. -/
def shapeWinsWrong : ChangeSpec := { name := "shapeWins", fn := fun _ => fun
  | [d1, d2, d3, d4] => { results := [.lit (.bool false)], args := [d1, d2, d3, d4] }
  | _ => none }
def ShapeWinsWrongFalsely : Prop := shapeWinsRow.holds Tryz.pinned (OpenSpec.ofChange shapeWinsWrong)

/-- 'sparrowlaw02.ShapeAny': WHATEVER THE INPUT: true; the input reads as it did. -/
def shapeAnySpec : ChangeSpec := { name := "shapeAny", fn := fun _ => fun
  | [d] => { results := [.lit (.bool true)], args := [d] }
  | _ => none }
def shapeAnyRow : OpenClaim := { program := "ythblfhgofopcaaagreat", sum := "234f274af1d325e08c57443ff3ad2b51dec7a3c32cee0cf96036c8edf4abfabd", func := "sparrow/sparrowlaw02.ShapeAny", spec := "shapeAny", unfollowed := true, recurses := true, apart := false }
def ShapeAnySaid : Prop := shapeAnyRow.holds Tryz.pinned (OpenSpec.ofChange shapeAnySpec)

/-- ITS FALSE NEIGHBOUR: 'it returns false'. Refute it at one input. -/
def shapeAnyWrong : ChangeSpec := { name := "shapeAny", fn := fun _ => fun
  | [d] => { results := [.lit (.bool false)], args := [d] }
  | _ => none }
def ShapeAnyWrongFalsely : Prop := shapeAnyRow.holds Tryz.pinned (OpenSpec.ofChange shapeAnyWrong)

/-- 'sparrowlaw02.ShapeWaits': WHATEVER THE INPUT: true; the input reads as it did. -/
def shapeWaitsSpec : ChangeSpec := { name := "shapeWaits", fn := fun _ => fun
  | [d] => { results := [.lit (.bool true)], args := [d] }
  | _ => none }
def shapeWaitsRow : OpenClaim := { program := "ythblfhgofopcaaagreat", sum := "234f274af1d325e08c57443ff3ad2b51dec7a3c32cee0cf96036c8edf4abfabd", func := "sparrow/sparrowlaw02.ShapeWaits", spec := "shapeWaits", unfollowed := true, recurses := true, apart := false }
def ShapeWaitsSaid : Prop := shapeWaitsRow.holds Tryz.pinned (OpenSpec.ofChange shapeWaitsSpec)

/-- ITS FALSE NEIGHBOUR: 'it returns false'. Refute it at one input. -/
def shapeWaitsWrong : ChangeSpec := { name := "shapeWaits", fn := fun _ => fun
  | [d] => { results := [.lit (.bool false)], args := [d] }
  | _ => none }
def ShapeWaitsWrongFalsely : Prop := shapeWaitsRow.holds Tryz.pinned (OpenSpec.ofChange shapeWaitsWrong)

/-- 'sparrowlaw02.ShapeMore': WHATEVER THE INPUT: true; the input reads as it did. -/
def shapeMoreSpec : ChangeSpec := { name := "shapeMore", fn := fun _ => fun
  | [d1, d2, d3] => { results := [.lit (.bool true)], args := [d1, d2, d3] }
  | _ => none }
def shapeMoreRow : OpenClaim := { program := "ythblfhgofopcaaagreat", sum := "234f274af1d325e08c57443ff3ad2b51dec7a3c32cee0cf96036c8edf4abfabd", func := "sparrow/sparrowlaw02.ShapeMore", spec := "shapeMore", unfollowed := true, recurses := true, apart := false }
def ShapeMoreSaid : Prop := shapeMoreRow.holds Tryz.pinned (OpenSpec.ofChange shapeMoreSpec)

/-- ITS FALSE NEIGHBOUR: 'it returns false'. Refute it at one input. -/
def shapeMoreWrong : ChangeSpec := { name := "shapeMore", fn := fun _ => fun
  | [d1, d2, d3] => { results := [.lit (.bool false)], args := [d1, d2, d3] }
  | _ => none }
def ShapeMoreWrongFalsely : Prop := shapeMoreRow.holds Tryz.pinned (OpenSpec.ofChange shapeMoreWrong)

/-- 'sparrowlaw02.ShapeBuilt': WHATEVER THE INPUT: true; the input reads as it did. -/
def shapeBuiltSpec : ChangeSpec := { name := "shapeBuilt", fn := fun _ => fun
  | [d] => { results := [.lit (.bool true)], args := [d] }
  | _ => none }
def shapeBuiltRow : OpenClaim := { program := "ythblfhgofopcaaagreat", sum := "234f274af1d325e08c57443ff3ad2b51dec7a3c32cee0cf96036c8edf4abfabd", func := "sparrow/sparrowlaw02.ShapeBuilt", spec := "shapeBuilt", unfollowed := true, recurses := true, apart := false }
def ShapeBuiltSaid : Prop := shapeBuiltRow.holds Tryz.pinned (OpenSpec.ofChange shapeBuiltSpec)

/-- ITS FALSE NEIGHBOUR: 'it returns false'. Refute it at one input. -/
def shapeBuiltWrong : ChangeSpec := { name := "shapeBuilt", fn := fun _ => fun
  | [d] => { results := [.lit (.bool false)], args := [d] }
  | _ => none }
def ShapeBuiltWrongFalsely : Prop := shapeBuiltRow.holds Tryz.pinned (OpenSpec.ofChange shapeBuiltWrong)

/-- 'sparrowlaw02.ShapeRare': WHATEVER THE INPUT: true; the input reads as it did. -/
def shapeRareSpec : ChangeSpec := { name := "shapeRare", fn := fun _ => fun
  | [d] => { results := [.lit (.bool true)], args := [d] }
  | _ => none }
def shapeRareRow : OpenClaim := { program := "ythblfhgofopcaaagreat", sum := "234f274af1d325e08c57443ff3ad2b51dec7a3c32cee0cf96036c8edf4abfabd", func := "sparrow/sparrowlaw02.ShapeRare", spec := "shapeRare", unfollowed := true, recurses := true, apart := false }
def ShapeRareSaid : Prop := shapeRareRow.holds Tryz.pinned (OpenSpec.ofChange shapeRareSpec)

/-- ITS FALSE NEIGHBOUR: 'it returns false'. Refute it at one input. -/
def shapeRareWrong : ChangeSpec := { name := "shapeRare", fn := fun _ => fun
  | [d] => { results := [.lit (.bool false)], args := [d] }
  | _ => none }
def ShapeRareWrongFalsely : Prop := shapeRareRow.holds Tryz.pinned (OpenSpec.ofChange shapeRareWrong)

/-- 'sparrowlaw02.ShapeIs': WHATEVER THE INPUT: true; the input reads as it did. -/
def shapeIsSpec : ChangeSpec := { name := "shapeIs", fn := fun _ => fun
  | [d1, d2, d3, d4, d5] => { results := [.lit (.bool true)], args := [d1, d2, d3, d4, d5] }
  | _ => none }
def shapeIsRow : OpenClaim := { program := "ythblfhgofopcaaagreat", sum := "234f274af1d325e08c57443ff3ad2b51dec7a3c32cee0cf96036c8edf4abfabd", func := "sparrow/sparrowlaw02.ShapeIs", spec := "shapeIs", unfollowed := true, recurses := true, apart := false }
def ShapeIsSaid : Prop := shapeIsRow.holds Tryz.pinned (OpenSpec.ofChange shapeIsSpec)

/-- ITS FALSE NEIGHBOUR: 'it returns false'. Refute it at one input. -/
def shapeIsWrong : ChangeSpec := { name := "shapeIs", fn := fun _ => fun
  | [d1, d2, d3, d4, d5] => { results := [.lit (.bool false)], args := [d1, d2, d3, d4, d5] }
  | _ => none }
def ShapeIsWrongFalsely : Prop := shapeIsRow.holds Tryz.pinned (OpenSpec.ofChange shapeIsWrong)

/-- 'sparrowlaw02.ShapeHands': WHATEVER THE INPUT: true; the input reads as it did. -/
def shapeHandsSpec : ChangeSpec := { name := "shapeHands", fn := fun _ => fun
  | [d1, d2, d3, d4, d5, d6] => { results := [.lit (.bool true)], args := [d1, d2, d3, d4, d5, d6] }
  | _ => none }
def shapeHandsRow : OpenClaim := { program := "ythblfhgofopcaaagreat", sum := "234f274af1d325e08c57443ff3ad2b51dec7a3c32cee0cf96036c8edf4abfabd", func := "sparrow/sparrowlaw02.ShapeHands", spec := "shapeHands", unfollowed := true, recurses := true, apart := false }
def ShapeHandsSaid : Prop := shapeHandsRow.holds Tryz.pinned (OpenSpec.ofChange shapeHandsSpec)

/-- ITS FALSE NEIGHBOUR: 'it returns false'. Refute it at one input. -/
def shapeHandsWrong : ChangeSpec := { name := "shapeHands", fn := fun _ => fun
  | [d1, d2, d3, d4, d5, d6] => { results := [.lit (.bool false)], args := [d1, d2, d3, d4, d5, d6] }
  | _ => none }
def ShapeHandsWrongFalsely : Prop := shapeHandsRow.holds Tryz.pinned (OpenSpec.ofChange shapeHandsWrong)

/-- 'sparrowlaw02.ShapeWhole': WHATEVER THE INPUT: true; the input reads as it did. -/
def shapeWholeSpec : ChangeSpec := { name := "shapeWhole", fn := fun _ => fun
  | [d1, d2] => { results := [.lit (.bool true)], args := [d1, d2] }
  | _ => none }
def shapeWholeRow : OpenClaim := { program := "ythblfhgofopcaaagreat", sum := "234f274af1d325e08c57443ff3ad2b51dec7a3c32cee0cf96036c8edf4abfabd", func := "sparrow/sparrowlaw02.ShapeWhole", spec := "shapeWhole", unfollowed := true, recurses := true, apart := false }
def ShapeWholeSaid : Prop := shapeWholeRow.holds Tryz.pinned (OpenSpec.ofChange shapeWholeSpec)

/-- ITS FALSE NEIGHBOUR: 'it returns false'. Refute it at one input. -/
def shapeWholeWrong : ChangeSpec := { name := "shapeWhole", fn := fun _ => fun
  | [d1, d2] => { results := [.lit (.bool false)], args := [d1, d2] }
  | _ => none }
def ShapeWholeWrongFalsely : Prop := shapeWholeRow.holds Tryz.pinned (OpenSpec.ofChange shapeWholeWrong)

/-- 'sparrowlaw02.ShapeSplits': WHATEVER THE INPUT: true; the input reads as it did. -/
def shapeSplitsSpec : ChangeSpec := { name := "shapeSplits", fn := fun _ => fun
  | [d1, d2, d3, d4] => { results := [.lit (.bool true)], args := [d1, d2, d3, d4] }
  | _ => none }
def shapeSplitsRow : OpenClaim := { program := "ythblfhgofopcaaagreat", sum := "234f274af1d325e08c57443ff3ad2b51dec7a3c32cee0cf96036c8edf4abfabd", func := "sparrow/sparrowlaw02.ShapeSplits", spec := "shapeSplits", unfollowed := true, recurses := true, apart := false }
def ShapeSplitsSaid : Prop := shapeSplitsRow.holds Tryz.pinned (OpenSpec.ofChange shapeSplitsSpec)

/-- ITS FALSE NEIGHBOUR: 'it returns false'. Refute it at one input. -/
def shapeSplitsWrong : ChangeSpec := { name := "shapeSplits", fn := fun _ => fun
  | [d1, d2, d3, d4] => { results := [.lit (.bool false)], args := [d1, d2, d3, d4] }
  | _ => none }
def ShapeSplitsWrongFalsely : Prop := shapeSplitsRow.holds Tryz.pinned (OpenSpec.ofChange shapeSplitsWrong)

/-- 'sparrowlaw02.ShapeKnown': WHATEVER THE INPUT: true; the input reads as it did. -/
def shapeKnownSpec : ChangeSpec := { name := "shapeKnown", fn := fun _ => fun
  | [] => { results := [.lit (.bool true)], args := [] }
  | _ => none }
def shapeKnownRow : OpenClaim := { program := "ythblfhgofopcaaagreat", sum := "234f274af1d325e08c57443ff3ad2b51dec7a3c32cee0cf96036c8edf4abfabd", func := "sparrow/sparrowlaw02.ShapeKnown", spec := "shapeKnown", unfollowed := true, recurses := true, apart := false }
def ShapeKnownSaid : Prop := shapeKnownRow.holds Tryz.pinned (OpenSpec.ofChange shapeKnownSpec)

/-- ITS FALSE NEIGHBOUR: 'it returns false'. Refute it at one input. -/
def shapeKnownWrong : ChangeSpec := { name := "shapeKnown", fn := fun _ => fun
  | [] => { results := [.lit (.bool false)], args := [] }
  | _ => none }
def ShapeKnownWrongFalsely : Prop := shapeKnownRow.holds Tryz.pinned (OpenSpec.ofChange shapeKnownWrong)

/-- 'sparrowlaw02.ShapeTurned': WHATEVER THE INPUT: true; the input reads as it did. -/
def shapeTurnedSpec : ChangeSpec := { name := "shapeTurned", fn := fun _ => fun
  | [d1, d2, d3, d4] => { results := [.lit (.bool true)], args := [d1, d2, d3, d4] }
  | _ => none }
def shapeTurnedRow : OpenClaim := { program := "ythblfhgofopcaaagreat", sum := "234f274af1d325e08c57443ff3ad2b51dec7a3c32cee0cf96036c8edf4abfabd", func := "sparrow/sparrowlaw02.ShapeTurned", spec := "shapeTurned", unfollowed := true, recurses := true, apart := false }
def ShapeTurnedSaid : Prop := shapeTurnedRow.holds Tryz.pinned (OpenSpec.ofChange shapeTurnedSpec)

/-- ITS FALSE NEIGHBOUR: 'it returns false'. Refute it at one input. -/
def shapeTurnedWrong : ChangeSpec := { name := "shapeTurned", fn := fun _ => fun
  | [d1, d2, d3, d4] => { results := [.lit (.bool false)], args := [d1, d2, d3, d4] }
  | _ => none }
def ShapeTurnedWrongFalsely : Prop := shapeTurnedRow.holds Tryz.pinned (OpenSpec.ofChange shapeTurnedWrong)

/- THE SECOND FORM. 'bulk': how many values and letters a reading holds, each counted each time it is reached (what is shared counts as often as it is met; a slice's spare places count too). A statement '..UptoSaid' is the law's where the arguments, and the package variables that the reading takes, are together of bulk at most 1048576: NARROWER than '..Said'. Prove '..Said' where nothing that the law and all that it calls make is longer than what came in: it says more and counts as full. Else prove '..UptoSaid'. A law counts once. -/
mutual
def uptoBulk {H : Type} : DataW H → Nat
  | .lit (.string bytes) => bytes.length + 1
  | .lit _ => 1
  | .nil => 1
  | .ptr d => uptoBulk d + 1
  | .slice elems spare => uptoBulkAll elems + uptoBulkAll spare + 1
  | .agg parts => uptoBulkAll parts + 1
  | .iface _ d => uptoBulk d + 1
  | .map entries => uptoBulkEntries entries + 1
  | .held _ => 1
def uptoBulkAll {H : Type} : List (DataW H) → Nat
  | [] => 0
  | d :: r => uptoBulk d + uptoBulkAll r
def uptoBulkEntries {H : Type} : List (Lit × DataW H) → Nat
  | [] => 0
  | x :: r => uptoBulkEntry x + uptoBulkEntries r
def uptoBulkEntry {H : Type} : Lit × DataW H → Nat
  | (.string bytes, d) => bytes.length + uptoBulk d + 1
  | (_, d) => uptoBulk d + 1
 end
def uptoSmall : (H : Type) → List (DataW H) → Bool := fun _ ds => decide (uptoBulkAll ds ≤ 1048576)
def OpenSpec.upto (s : _root_.Go.ChangeSpec) : _root_.Go.OpenSpec := { _root_.Go.OpenSpec.ofChange s with cond := some uptoSmall }

/-- 'sparrowlaw02.ShapeForms', WHERE WHAT IT READS IS OF BULK AT MOST 1048576: true; the input reads as it did. -/
def shapeFormsUptoRow : OpenClaim := { program := "ythblfhgofopcaaagreat", sum := "234f274af1d325e08c57443ff3ad2b51dec7a3c32cee0cf96036c8edf4abfabd", func := "sparrow/sparrowlaw02.ShapeForms", spec := "shapeForms", unfollowed := true, recurses := true, apart := false, narrowed := true }
def ShapeFormsUptoSaid : Prop := shapeFormsUptoRow.holds Tryz.pinned (OpenSpec.upto shapeFormsSpec)

/-- 'sparrowlaw02.ShapeReads', WHERE WHAT IT READS IS OF BULK AT MOST 1048576: true; the input reads as it did. -/
def shapeReadsUptoRow : OpenClaim := { program := "ythblfhgofopcaaagreat", sum := "234f274af1d325e08c57443ff3ad2b51dec7a3c32cee0cf96036c8edf4abfabd", func := "sparrow/sparrowlaw02.ShapeReads", spec := "shapeReads", unfollowed := true, recurses := true, apart := false, narrowed := true }
def ShapeReadsUptoSaid : Prop := shapeReadsUptoRow.holds Tryz.pinned (OpenSpec.upto shapeReadsSpec)

/-- 'sparrowlaw02.ShapeWins', WHERE WHAT IT READS IS OF BULK AT MOST 1048576: true; the input reads as it did. -/
def shapeWinsUptoRow : OpenClaim := { program := "ythblfhgofopcaaagreat", sum := "234f274af1d325e08c57443ff3ad2b51dec7a3c32cee0cf96036c8edf4abfabd", func := "sparrow/sparrowlaw02.ShapeWins", spec := "shapeWins", unfollowed := true, recurses := true, apart := false, narrowed := true }
def ShapeWinsUptoSaid : Prop := shapeWinsUptoRow.holds Tryz.pinned (OpenSpec.upto shapeWinsSpec)

/-- 'sparrowlaw02.ShapeAny', WHERE WHAT IT READS IS OF BULK AT MOST 1048576: true; the input reads as it did. -/
def shapeAnyUptoRow : OpenClaim := { program := "ythblfhgofopcaaagreat", sum := "234f274af1d325e08c57443ff3ad2b51dec7a3c32cee0cf96036c8edf4abfabd", func := "sparrow/sparrowlaw02.ShapeAny", spec := "shapeAny", unfollowed := true, recurses := true, apart := false, narrowed := true }
def ShapeAnyUptoSaid : Prop := shapeAnyUptoRow.holds Tryz.pinned (OpenSpec.upto shapeAnySpec)

/-- 'sparrowlaw02.ShapeWaits', WHERE WHAT IT READS IS OF BULK AT MOST 1048576: true; the input reads as it did. -/
def shapeWaitsUptoRow : OpenClaim := { program := "ythblfhgofopcaaagreat", sum := "234f274af1d325e08c57443ff3ad2b51dec7a3c32cee0cf96036c8edf4abfabd", func := "sparrow/sparrowlaw02.ShapeWaits", spec := "shapeWaits", unfollowed := true, recurses := true, apart := false, narrowed := true }
def ShapeWaitsUptoSaid : Prop := shapeWaitsUptoRow.holds Tryz.pinned (OpenSpec.upto shapeWaitsSpec)

/-- 'sparrowlaw02.ShapeMore', WHERE WHAT IT READS IS OF BULK AT MOST 1048576: true; the input reads as it did. -/
def shapeMoreUptoRow : OpenClaim := { program := "ythblfhgofopcaaagreat", sum := "234f274af1d325e08c57443ff3ad2b51dec7a3c32cee0cf96036c8edf4abfabd", func := "sparrow/sparrowlaw02.ShapeMore", spec := "shapeMore", unfollowed := true, recurses := true, apart := false, narrowed := true }
def ShapeMoreUptoSaid : Prop := shapeMoreUptoRow.holds Tryz.pinned (OpenSpec.upto shapeMoreSpec)

/-- 'sparrowlaw02.ShapeBuilt', WHERE WHAT IT READS IS OF BULK AT MOST 1048576: true; the input reads as it did. -/
def shapeBuiltUptoRow : OpenClaim := { program := "ythblfhgofopcaaagreat", sum := "234f274af1d325e08c57443ff3ad2b51dec7a3c32cee0cf96036c8edf4abfabd", func := "sparrow/sparrowlaw02.ShapeBuilt", spec := "shapeBuilt", unfollowed := true, recurses := true, apart := false, narrowed := true }
def ShapeBuiltUptoSaid : Prop := shapeBuiltUptoRow.holds Tryz.pinned (OpenSpec.upto shapeBuiltSpec)

/-- 'sparrowlaw02.ShapeRare', WHERE WHAT IT READS IS OF BULK AT MOST 1048576: true; the input reads as it did. -/
def shapeRareUptoRow : OpenClaim := { program := "ythblfhgofopcaaagreat", sum := "234f274af1d325e08c57443ff3ad2b51dec7a3c32cee0cf96036c8edf4abfabd", func := "sparrow/sparrowlaw02.ShapeRare", spec := "shapeRare", unfollowed := true, recurses := true, apart := false, narrowed := true }
def ShapeRareUptoSaid : Prop := shapeRareUptoRow.holds Tryz.pinned (OpenSpec.upto shapeRareSpec)

/-- 'sparrowlaw02.ShapeIs', WHERE WHAT IT READS IS OF BULK AT MOST 1048576: true; the input reads as it did. -/
def shapeIsUptoRow : OpenClaim := { program := "ythblfhgofopcaaagreat", sum := "234f274af1d325e08c57443ff3ad2b51dec7a3c32cee0cf96036c8edf4abfabd", func := "sparrow/sparrowlaw02.ShapeIs", spec := "shapeIs", unfollowed := true, recurses := true, apart := false, narrowed := true }
def ShapeIsUptoSaid : Prop := shapeIsUptoRow.holds Tryz.pinned (OpenSpec.upto shapeIsSpec)

/-- 'sparrowlaw02.ShapeHands', WHERE WHAT IT READS IS OF BULK AT MOST 1048576: true; the input reads as it did. -/
def shapeHandsUptoRow : OpenClaim := { program := "ythblfhgofopcaaagreat", sum := "234f274af1d325e08c57443ff3ad2b51dec7a3c32cee0cf96036c8edf4abfabd", func := "sparrow/sparrowlaw02.ShapeHands", spec := "shapeHands", unfollowed := true, recurses := true, apart := false, narrowed := true }
def ShapeHandsUptoSaid : Prop := shapeHandsUptoRow.holds Tryz.pinned (OpenSpec.upto shapeHandsSpec)

/-- 'sparrowlaw02.ShapeWhole', WHERE WHAT IT READS IS OF BULK AT MOST 1048576: true; the input reads as it did. -/
def shapeWholeUptoRow : OpenClaim := { program := "ythblfhgofopcaaagreat", sum := "234f274af1d325e08c57443ff3ad2b51dec7a3c32cee0cf96036c8edf4abfabd", func := "sparrow/sparrowlaw02.ShapeWhole", spec := "shapeWhole", unfollowed := true, recurses := true, apart := false, narrowed := true }
def ShapeWholeUptoSaid : Prop := shapeWholeUptoRow.holds Tryz.pinned (OpenSpec.upto shapeWholeSpec)

/-- 'sparrowlaw02.ShapeSplits', WHERE WHAT IT READS IS OF BULK AT MOST 1048576: true; the input reads as it did. -/
def shapeSplitsUptoRow : OpenClaim := { program := "ythblfhgofopcaaagreat", sum := "234f274af1d325e08c57443ff3ad2b51dec7a3c32cee0cf96036c8edf4abfabd", func := "sparrow/sparrowlaw02.ShapeSplits", spec := "shapeSplits", unfollowed := true, recurses := true, apart := false, narrowed := true }
def ShapeSplitsUptoSaid : Prop := shapeSplitsUptoRow.holds Tryz.pinned (OpenSpec.upto shapeSplitsSpec)

/-- 'sparrowlaw02.ShapeKnown', WHERE WHAT IT READS IS OF BULK AT MOST 1048576: true; the input reads as it did. -/
def shapeKnownUptoRow : OpenClaim := { program := "ythblfhgofopcaaagreat", sum := "234f274af1d325e08c57443ff3ad2b51dec7a3c32cee0cf96036c8edf4abfabd", func := "sparrow/sparrowlaw02.ShapeKnown", spec := "shapeKnown", unfollowed := true, recurses := true, apart := false, narrowed := true }
def ShapeKnownUptoSaid : Prop := shapeKnownUptoRow.holds Tryz.pinned (OpenSpec.upto shapeKnownSpec)

/-- 'sparrowlaw02.ShapeTurned', WHERE WHAT IT READS IS OF BULK AT MOST 1048576: true; the input reads as it did. -/
def shapeTurnedUptoRow : OpenClaim := { program := "ythblfhgofopcaaagreat", sum := "234f274af1d325e08c57443ff3ad2b51dec7a3c32cee0cf96036c8edf4abfabd", func := "sparrow/sparrowlaw02.ShapeTurned", spec := "shapeTurned", unfollowed := true, recurses := true, apart := false, narrowed := true }
def ShapeTurnedUptoSaid : Prop := shapeTurnedUptoRow.holds Tryz.pinned (OpenSpec.upto shapeTurnedSpec)

end Rows
end Go.Proofs.YthblfhgofopcaaaGreat
