/-
  Parts of the proof: LawBuilt.
-/
import Derived.Test.YthblfhgofopcaaaGreatBT02
import Derived.Test.YthblfhgofopcaaaGreatBT03
set_option linter.all false
namespace Go.Proofs.YthblfhgofopcaaaGreat.shapeBuilt
open Go.ChangeShapes Go.WideShapes Go.ChangeAt Go.RowKit
theorem over:Rows.shapeBuiltRow.holds Tryz.pinned (OpenSpec.ofChange Rows.shapeBuiltSpec) :=
 OpenClaim.holds_of_wide 9 Tryz.f9 rfl rfl rfl rfl rfl rfl rfl ⟨rfl,rfl,rfl,rfl,rfl⟩ rfl rfl rfl rfl rfl (by kernel_rfl) Tryz.func9 S6
  (of_decide_eq_true (by kernel_rfl)) (by unfold Func.isWrapper;first | (rw [if_pos (by decide +kernel)];kernel_rfl) | (rw [if_neg (by decide +kernel)];exact ⟨rfl,rfl⟩))
  (fun os started H enc _=>lifted os started H enc)
end Go.Proofs.YthblfhgofopcaaaGreat.shapeBuilt
namespace Go.Proofs.YthblfhgofopcaaaGreat
theorem shapeBuilt_holds:Rows.ShapeBuiltSaid:=shapeBuilt.over
#print axioms shapeBuilt_holds
end Go.Proofs.YthblfhgofopcaaaGreat
