/-
  Parts of the proof: LawIs.
-/
import Derived.Test.YthblfhgofopcaaaGreatIS02
import Derived.Test.YthblfhgofopcaaaGreatIS03
set_option linter.all false
namespace Go.Proofs.YthblfhgofopcaaaGreat.shapeIs
open Go.ChangeShapes Go.WideShapes Go.ChangeAt Go.RowKit
theorem over:Rows.shapeIsRow.holds Tryz.pinned (OpenSpec.ofChange Rows.shapeIsSpec) :=
 OpenClaim.holds_of_wide 11 Tryz.f11 rfl rfl rfl rfl rfl rfl rfl ⟨rfl,rfl,rfl,rfl,rfl⟩ rfl rfl rfl rfl rfl (by kernel_rfl) Tryz.func11 S6
  (of_decide_eq_true (by kernel_rfl)) (by unfold Func.isWrapper;first | (rw [if_pos (by decide +kernel)];kernel_rfl) | (rw [if_neg (by decide +kernel)];exact ⟨rfl,rfl⟩))
  (fun os started H enc _=>lifted os started H enc)
end Go.Proofs.YthblfhgofopcaaaGreat.shapeIs
namespace Go.Proofs.YthblfhgofopcaaaGreat
theorem shapeIs_holds:Rows.ShapeIsSaid:=shapeIs.over
#print axioms shapeIs_holds
end Go.Proofs.YthblfhgofopcaaaGreat
