/-
  Parts of the proof: LawWins.
-/
import Derived.Test.YthblfhgofopcaaaGreatSH53
import Derived.Test.YthblfhgofopcaaaGreatSH54
set_option linter.all false
namespace Go.Proofs.YthblfhgofopcaaaGreat.shapeWins
open Go.ChangeShapes Go.WideShapes Go.ChangeAt Go.RowKit
theorem over:Rows.shapeWinsRow.holds Tryz.pinned (OpenSpec.ofChange Rows.shapeWinsSpec) :=
 OpenClaim.holds_of_wide 5 Tryz.f5 rfl rfl rfl rfl rfl rfl rfl ⟨rfl,rfl,rfl,rfl,rfl⟩ rfl rfl rfl rfl rfl (by kernel_rfl) Tryz.func5 S6
  (of_decide_eq_true (by kernel_rfl)) (by unfold Func.isWrapper;first | (rw [if_pos (by decide +kernel)];kernel_rfl) | (rw [if_neg (by decide +kernel)];exact ⟨rfl,rfl⟩))
  (fun os started H enc _=>lifted os started H enc)
end Go.Proofs.YthblfhgofopcaaaGreat.shapeWins
namespace Go.Proofs.YthblfhgofopcaaaGreat
theorem shapeWins_holds:Rows.ShapeWinsSaid:=shapeWins.over
#print axioms shapeWins_holds
end Go.Proofs.YthblfhgofopcaaaGreat
