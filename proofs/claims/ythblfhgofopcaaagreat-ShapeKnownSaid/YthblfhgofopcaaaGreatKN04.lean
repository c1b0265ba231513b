/-
  Parts of the proof: LawKnown.
-/
import Derived.Test.YthblfhgofopcaaaGreatKN02
import Derived.Test.YthblfhgofopcaaaGreatKN03
set_option linter.all false
namespace Go.Proofs.YthblfhgofopcaaaGreat.shapeKnown
open Go.ChangeShapes Go.WideShapes Go.ChangeAt Go.RowKit
theorem over:Rows.shapeKnownRow.holds Tryz.pinned (OpenSpec.ofChange Rows.shapeKnownSpec) :=
 OpenClaim.holds_of_wide 15 Tryz.f15 rfl rfl rfl rfl rfl rfl rfl ⟨rfl,rfl,rfl,rfl,rfl⟩ rfl rfl rfl rfl rfl (by kernel_rfl) Tryz.func15 S6
  (of_decide_eq_true (by kernel_rfl)) (by unfold Func.isWrapper;first | (rw [if_pos (by decide +kernel)];kernel_rfl) | (rw [if_neg (by decide +kernel)];exact ⟨rfl,rfl⟩))
  (fun os started H enc _=>lifted os started H enc)
end Go.Proofs.YthblfhgofopcaaaGreat.shapeKnown
namespace Go.Proofs.YthblfhgofopcaaaGreat
theorem shapeKnown_holds:Rows.ShapeKnownSaid:=shapeKnown.over
#print axioms shapeKnown_holds
end Go.Proofs.YthblfhgofopcaaaGreat
