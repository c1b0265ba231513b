/-
  Parts of the proof: LawReads.
-/
import Derived.Test.YthblfhgofopcaaaGreatSH50
import Derived.Test.YthblfhgofopcaaaGreatSH51
set_option linter.all false
namespace Go.Proofs.YthblfhgofopcaaaGreat.shapeReads
open Go.ChangeShapes Go.WideShapes Go.ChangeAt Go.RowKit
theorem over:Rows.shapeReadsRow.holds Tryz.pinned (OpenSpec.ofChange Rows.shapeReadsSpec) :=
 OpenClaim.holds_of_wide 4 Tryz.f4 rfl rfl rfl rfl rfl rfl rfl ⟨rfl,rfl,rfl,rfl,rfl⟩ rfl rfl rfl rfl rfl (by kernel_rfl) Tryz.func4 S6
  (of_decide_eq_true (by kernel_rfl)) (by unfold Func.isWrapper;first | (rw [if_pos (by decide +kernel)];kernel_rfl) | (rw [if_neg (by decide +kernel)];exact ⟨rfl,rfl⟩))
  (fun os started H enc _=>lifted os started H enc)
end Go.Proofs.YthblfhgofopcaaaGreat.shapeReads
namespace Go.Proofs.YthblfhgofopcaaaGreat
theorem shapeReads_holds:Rows.ShapeReadsSaid:=shapeReads.over
#print axioms shapeReads_holds
end Go.Proofs.YthblfhgofopcaaaGreat
