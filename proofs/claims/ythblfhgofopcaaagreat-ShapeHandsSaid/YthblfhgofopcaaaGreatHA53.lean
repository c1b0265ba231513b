/-
  Parts of the proof: JoinHands.
-/
import Derived.Test.YthblfhgofopcaaaGreatHA50
set_option linter.all false
namespace Go.Proofs.YthblfhgofopcaaaGreat.shapeHands
open Go.ChangeShapes Go.WideShapes Go.ChangeAt Go.RowKit
theorem band {a b : Bool} (h1 : a = true) (h2 : b = true) : (a && b) = true := by rw [h1, h2]; rfl
theorem j1 : (Rows.shapeHandsRow.wf (OpenSpec.ofChange Rows.shapeHandsSpec)) = true := by kernel_rfl
theorem j2 : (laidOutB Tryz.pinned.checked.prog) = true := by kernel_rfl
theorem j3 : (mapsRowed Tryz.pinned.checked.prog) = true := by kernel_rfl
theorem j4 : (Tryz.f12.params.all (Tryz.pinned.checked.prog.readableRec ·)) = true := by kernel_rfl
theorem j5 : (namedTie Tryz.pinned.checked.prog Rows.shapeHandsRow.named Rows.shapeHandsSpec.vars) = true := by kernel_rfl
theorem j6 : ((Rows.shapeHandsRow.stops == [])) = true := by kernel_rfl
theorem j7 : ((Tryz.pinned.checked.prog.stops == [])) = true := by kernel_rfl
theorem j8 : ((Rows.shapeHandsRow.knobs == [])) = true := by kernel_rfl
theorem j9 : ((Tryz.pinned.checked.prog.stopKnobs == [])) = true := by kernel_rfl
theorem j10 : ((Rows.shapeHandsRow.inPlace == Tryz.pinned.checked.prog.inPlace 12)) = true := by kernel_rfl
theorem j11 : ((Rows.shapeHandsRow.unfollowed == Tryz.pinned.checked.prog.unfollowed 12)) = true := by kernel_rfl
theorem j12 : ((Rows.shapeHandsRow.recurses == Tryz.pinned.checked.prog.recurses 12)) = true := by kernel_rfl
theorem j13 : ((Rows.shapeHandsRow.named == Tryz.pinned.checked.prog.varsNamed 12)) = true := by kernel_rfl
theorem j14 : (Tryz.pinned.checked.prog.stopsHeard) = true := by kernel_rfl
theorem j15 : (Tryz.pinned.checked.prog.mayEnter) = true := by kernel_rfl
theorem j16 : ((Rows.shapeHandsRow.lifted == Tryz.pinned.checked.prog.liftsFinal)) = true := by kernel_rfl
theorem j17 : ((Rows.shapeHandsRow.plainKeys == Tryz.pinned.checked.prog.plainKeys)) = true := by kernel_rfl
theorem j18 : ((Tryz.pinned.checked.prog.make == some Rows.shapeHandsRow.make)) = true := by kernel_rfl
theorem joined : joinedFacts Tryz.pinned.checked.prog 12 Tryz.f12 Rows.shapeHandsSpec Rows.shapeHandsRow = true := by
 unfold joinedFacts
 repeat' (with_reducible refine band ?_ ?_)
 all_goals first
  | with_reducible exact j1
  | with_reducible exact j2
  | with_reducible exact j3
  | with_reducible exact j4
  | with_reducible exact j5
  | with_reducible exact j6
  | with_reducible exact j7
  | with_reducible exact j8
  | with_reducible exact j9
  | with_reducible exact j10
  | with_reducible exact j11
  | with_reducible exact j12
  | with_reducible exact j13
  | with_reducible exact j14
  | with_reducible exact j15
  | with_reducible exact j16
  | with_reducible exact j17
  | with_reducible exact j18
  | kernel_rfl
end Go.Proofs.YthblfhgofopcaaaGreat.shapeHands
