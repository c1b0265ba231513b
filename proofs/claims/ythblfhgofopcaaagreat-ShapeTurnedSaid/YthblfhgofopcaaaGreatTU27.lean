/-
  Parts of the proof: LawTurned.
-/
import Derived.Test.YthblfhgofopcaaaGreatTU25
import Derived.Test.YthblfhgofopcaaaGreatTU26
set_option linter.all false
namespace Go.Proofs.YthblfhgofopcaaaGreat.shapeTurned
open Go.ChangeShapes Go.WideShapes Go.ChangeAt Go.RowKit
theorem over:Rows.shapeTurnedRow.holds Tryz.pinned (OpenSpec.ofChange Rows.shapeTurnedSpec) :=
 OpenClaim.holds_of_wide 16 Tryz.f16 rfl rfl rfl rfl rfl rfl rfl ⟨rfl,rfl,rfl,rfl,rfl⟩ rfl rfl rfl rfl rfl (by kernel_rfl) Tryz.func16 S6
  (of_decide_eq_true (by kernel_rfl)) (by unfold Func.isWrapper;first|(rw [if_pos (by decide +kernel)];kernel_rfl)|(rw [if_neg (by decide +kernel)];exact ⟨rfl,rfl⟩))
  (fun os started H enc _=>lifted os started H enc)
end Go.Proofs.YthblfhgofopcaaaGreat.shapeTurned
namespace Go.Proofs.YthblfhgofopcaaaGreat
theorem shapeTurned_holds:Rows.ShapeTurnedSaid:=shapeTurned.over
#print axioms shapeTurned_holds
end Go.Proofs.YthblfhgofopcaaaGreat
