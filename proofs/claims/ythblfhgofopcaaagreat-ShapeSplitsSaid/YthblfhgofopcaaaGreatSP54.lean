/-
  The statement ShapeSplits: the law returns true for every input, and its arguments read as they did. No condition.
-/
import Derived.Test.YthblfhgofopcaaaGreatSP52
import Derived.Test.YthblfhgofopcaaaGreatSP53
set_option linter.all false
namespace Go.Proofs.YthblfhgofopcaaaGreat.shapeSplits
open Go.ChangeShapes Go.WideShapes Go.ChangeAt Go.RowKit
theorem over : Rows.shapeSplitsRow.holds Tryz.pinned (OpenSpec.ofChange Rows.shapeSplitsSpec) :=
 OpenClaim.holds_of_wide 14 Tryz.f14 rfl rfl rfl rfl rfl rfl rfl ⟨rfl, rfl, rfl, rfl, rfl⟩ rfl rfl rfl rfl rfl (by kernel_rfl) Tryz.func14 joined
  (of_decide_eq_true (by kernel_rfl)) (by unfold Func.isWrapper; first | (rw [if_pos (by decide +kernel)]; kernel_rfl) | (rw [if_neg (by decide +kernel)]; exact ⟨rfl, rfl⟩))
  (fun os started H enc _ => lifted os started H enc)
end Go.Proofs.YthblfhgofopcaaaGreat.shapeSplits
namespace Go.Proofs.YthblfhgofopcaaaGreat
theorem shapeSplits_holds : Rows.ShapeSplitsSaid := shapeSplits.over
#print axioms shapeSplits_holds
end Go.Proofs.YthblfhgofopcaaaGreat
