/-
  The statement ShapeHands: the law returns true for every input, and its arguments read as they did. No condition.
-/
import Derived.Test.YthblfhgofopcaaaGreatHA52
import Derived.Test.YthblfhgofopcaaaGreatHA53
set_option linter.all false
namespace Go.Proofs.YthblfhgofopcaaaGreat.shapeHands
open Go.ChangeShapes Go.WideShapes Go.ChangeAt Go.RowKit
theorem over : Rows.shapeHandsRow.holds Tryz.pinned (OpenSpec.ofChange Rows.shapeHandsSpec) :=
 OpenClaim.holds_of_wide 12 Tryz.f12 rfl rfl rfl rfl rfl rfl rfl ⟨rfl, rfl, rfl, rfl, rfl⟩ rfl rfl rfl rfl rfl (by kernel_rfl) Tryz.func12 joined
  (of_decide_eq_true (by kernel_rfl)) (by unfold Func.isWrapper; first | (rw [if_pos (by decide +kernel)]; kernel_rfl) | (rw [if_neg (by decide +kernel)]; exact ⟨rfl, rfl⟩))
  (fun os started H enc _ => lifted os started H enc)
end Go.Proofs.YthblfhgofopcaaaGreat.shapeHands
namespace Go.Proofs.YthblfhgofopcaaaGreat
theorem shapeHands_holds : Rows.ShapeHandsSaid := shapeHands.over
#print axioms shapeHands_holds
end Go.Proofs.YthblfhgofopcaaaGreat
