/-
  Parts of the proof: LawWaits.
-/
import Derived.Test.YthblfhgofopcaaaGreatWT02
import Derived.Test.YthblfhgofopcaaaGreatWT03
set_option linter.all false
namespace Go.Proofs.YthblfhgofopcaaaGreat.shapeWaits
open Go.ChangeShapes Go.WideShapes Go.ChangeAt Go.RowKit
theorem over:Rows.shapeWaitsRow.holds Tryz.pinned (OpenSpec.ofChange Rows.shapeWaitsSpec) :=
 OpenClaim.holds_of_wide 7 Tryz.f7 rfl rfl rfl rfl rfl rfl rfl ⟨rfl,rfl,rfl,rfl,rfl⟩ rfl rfl rfl rfl rfl (by kernel_rfl) Tryz.func7 S6
  (of_decide_eq_true (by kernel_rfl)) (by unfold Func.isWrapper;first | (rw [if_pos (by decide +kernel)];kernel_rfl) | (rw [if_neg (by decide +kernel)];exact ⟨rfl,rfl⟩))
  (fun os started H enc _=>lifted os started H enc)
end Go.Proofs.YthblfhgofopcaaaGreat.shapeWaits
namespace Go.Proofs.YthblfhgofopcaaaGreat
theorem shapeWaits_holds:Rows.ShapeWaitsSaid:=shapeWaits.over
#print axioms shapeWaits_holds
end Go.Proofs.YthblfhgofopcaaaGreat
