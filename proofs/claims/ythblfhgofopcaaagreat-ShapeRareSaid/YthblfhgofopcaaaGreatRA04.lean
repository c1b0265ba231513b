/-
  Parts of the proof: LawRare.
-/
import Derived.Test.YthblfhgofopcaaaGreatRA02
import Derived.Test.YthblfhgofopcaaaGreatRA03
set_option linter.all false
namespace Go.Proofs.YthblfhgofopcaaaGreat.shapeRare
open Go.ChangeShapes Go.WideShapes Go.ChangeAt Go.RowKit
theorem over:Rows.shapeRareRow.holds Tryz.pinned (OpenSpec.ofChange Rows.shapeRareSpec) :=
 OpenClaim.holds_of_wide 10 Tryz.f10 rfl rfl rfl rfl rfl rfl rfl ⟨rfl,rfl,rfl,rfl,rfl⟩ rfl rfl rfl rfl rfl (by kernel_rfl) Tryz.func10 S6
  (of_decide_eq_true (by kernel_rfl)) (by unfold Func.isWrapper;first | (rw [if_pos (by decide +kernel)];kernel_rfl) | (rw [if_neg (by decide +kernel)];exact ⟨rfl,rfl⟩))
  (fun os started H enc _=>lifted os started H enc)
end Go.Proofs.YthblfhgofopcaaaGreat.shapeRare
namespace Go.Proofs.YthblfhgofopcaaaGreat
theorem shapeRare_holds:Rows.ShapeRareSaid:=shapeRare.over
#print axioms shapeRare_holds
end Go.Proofs.YthblfhgofopcaaaGreat
