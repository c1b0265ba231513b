/-
  Parts of the proof: LawAny.
-/
import Derived.Test.YthblfhgofopcaaaGreatAN02
import Derived.Test.YthblfhgofopcaaaGreatAN03
set_option linter.all false
namespace Go.Proofs.YthblfhgofopcaaaGreat.shapeAny
open Go.ChangeShapes Go.WideShapes Go.ChangeAt Go.RowKit
theorem over:Rows.shapeAnyRow.holds Tryz.pinned (OpenSpec.ofChange Rows.shapeAnySpec) :=
 OpenClaim.holds_of_wide 6 Tryz.f6 rfl rfl rfl rfl rfl rfl rfl ⟨rfl,rfl,rfl,rfl,rfl⟩ rfl rfl rfl rfl rfl (by kernel_rfl) Tryz.func6 S6
  (of_decide_eq_true (by kernel_rfl)) (by unfold Func.isWrapper;first | (rw [if_pos (by decide +kernel)];kernel_rfl) | (rw [if_neg (by decide +kernel)];exact ⟨rfl,rfl⟩))
  (fun os started H enc _=>lifted os started H enc)
end Go.Proofs.YthblfhgofopcaaaGreat.shapeAny
namespace Go.Proofs.YthblfhgofopcaaaGreat
theorem shapeAny_holds:Rows.ShapeAnySaid:=shapeAny.over
#print axioms shapeAny_holds
end Go.Proofs.YthblfhgofopcaaaGreat
