/-
  Parts of the proof: LawForms.
-/
import Derived.Test.YthblfhgofopcaaaGreatFO21
import Derived.Test.YthblfhgofopcaaaGreatFO22
set_option linter.all false
namespace Go.Proofs.YthblfhgofopcaaaGreat.shapeForms
open Go.ChangeShapes Go.WideShapes Go.ChangeAt Go.RowKit
theorem over:Rows.shapeFormsUptoRow.holds Tryz.pinned (Rows.OpenSpec.upto Rows.shapeFormsSpec) :=
 OpenClaim.holds_of_cond 3 Tryz.f3 rfl rfl rfl rfl rfl rfl rfl ⟨rfl,rfl,rfl,rfl,rfl⟩ rfl rfl rfl rfl rfl (by kernel_rfl) Tryz.func3 S6
  (of_decide_eq_true (by kernel_rfl)) (by unfold Func.isWrapper;first|(rw [if_pos (by decide +kernel)];kernel_rfl)|(rw [if_neg (by decide +kernel)];exact ⟨rfl,rfl⟩))
  (fun os started H enc _ F=>lifted os started H enc F)
end Go.Proofs.YthblfhgofopcaaaGreat.shapeForms
namespace Go.Proofs.YthblfhgofopcaaaGreat
theorem shapeForms_holds:Rows.ShapeFormsUptoSaid:=shapeForms.over
#print axioms shapeForms_holds
end Go.Proofs.YthblfhgofopcaaaGreat
