/-
  Parts of the proof: LawWhole.
-/
import Derived.Test.YthblfhgofopcaaaGreatPX02
import Derived.Test.YthblfhgofopcaaaGreatPX03
set_option linter.all false
namespace Go.Proofs.YthblfhgofopcaaaGreat.shapeWhole
open Go.ChangeShapes Go.WideShapes Go.ChangeAt Go.RowKit
theorem over:Rows.shapeWholeRow.holds Tryz.pinned (OpenSpec.ofChange Rows.shapeWholeSpec) :=
 OpenClaim.holds_of_wide 13 Tryz.f13 rfl rfl rfl rfl rfl rfl rfl ⟨rfl,rfl,rfl,rfl,rfl⟩ rfl rfl rfl rfl rfl (by kernel_rfl) Tryz.func13 S6
  (of_decide_eq_true (by kernel_rfl)) (by unfold Func.isWrapper;first | (rw [if_pos (by decide +kernel)];kernel_rfl) | (rw [if_neg (by decide +kernel)];exact ⟨rfl,rfl⟩))
  (fun os started H enc _=>lifted os started H enc)
end Go.Proofs.YthblfhgofopcaaaGreat.shapeWhole
namespace Go.Proofs.YthblfhgofopcaaaGreat
theorem shapeWhole_holds:Rows.ShapeWholeSaid:=shapeWhole.over
#print axioms shapeWhole_holds
end Go.Proofs.YthblfhgofopcaaaGreat
