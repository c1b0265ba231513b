/-
  Parts of the proof: LawMore.
-/
import Derived.Test.YthblfhgofopcaaaGreatMR02
import Derived.Test.YthblfhgofopcaaaGreatMR03
set_option linter.all false
namespace Go.Proofs.YthblfhgofopcaaaGreat.shapeMore
open Go.ChangeShapes Go.WideShapes Go.ChangeAt Go.RowKit
theorem over:Rows.shapeMoreRow.holds Tryz.pinned (OpenSpec.ofChange Rows.shapeMoreSpec) :=
 OpenClaim.holds_of_wide 8 Tryz.f8 rfl rfl rfl rfl rfl rfl rfl ⟨rfl,rfl,rfl,rfl,rfl⟩ rfl rfl rfl rfl rfl (by kernel_rfl) Tryz.func8 S6
  (of_decide_eq_true (by kernel_rfl)) (by unfold Func.isWrapper;first | (rw [if_pos (by decide +kernel)];kernel_rfl) | (rw [if_neg (by decide +kernel)];exact ⟨rfl,rfl⟩))
  (fun os started H enc _=>lifted os started H enc)
end Go.Proofs.YthblfhgofopcaaaGreat.shapeMore
namespace Go.Proofs.YthblfhgofopcaaaGreat
theorem shapeMore_holds:Rows.ShapeMoreSaid:=shapeMore.over
#print axioms shapeMore_holds
end Go.Proofs.YthblfhgofopcaaaGreat
