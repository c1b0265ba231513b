/-
  Parts of the proof: JoinForms.
-/
import Derived.Test.YthblfhgofopcaaaGreatFO19
set_option linter.all false
namespace Go.Proofs.YthblfhgofopcaaaGreat.shapeForms
open Go.ChangeShapes Go.WideShapes Go.ChangeAt Go.RowKit
theorem fU {a b:Bool} (h1:a=true) (h2:b=true):(a&&b)=true:=by rw [h1,h2];rfl
theorem j1:(Rows.shapeFormsUptoRow.wf (OpenSpec.ofChange (Rows.OpenSpec.upto Rows.shapeFormsSpec).bare))=true:=by kernel_rfl
theorem j2:(laidOutB Tryz.pinned.checked.prog)=true:=by kernel_rfl
theorem j3:(mapsRowed Tryz.pinned.checked.prog)=true:=by kernel_rfl
theorem j4:(Tryz.f3.params.all (Tryz.pinned.checked.prog.readableRec ·))=true:=by kernel_rfl
theorem j5:(namedTie Tryz.pinned.checked.prog Rows.shapeFormsUptoRow.named (Rows.OpenSpec.upto Rows.shapeFormsSpec).bare.vars)=true:=by kernel_rfl
theorem j6:((Rows.shapeFormsUptoRow.stops==[]))=true:=by kernel_rfl
theorem j7:((Tryz.pinned.checked.prog.stops==[]))=true:=by kernel_rfl
theorem j8:((Rows.shapeFormsUptoRow.knobs==[]))=true:=by kernel_rfl
theorem j9:((Tryz.pinned.checked.prog.stopKnobs==[]))=true:=by kernel_rfl
theorem tN:((Rows.shapeFormsUptoRow.inPlace==Tryz.pinned.checked.prog.inPlace 3))=true:=by kernel_rfl
theorem rT:((Rows.shapeFormsUptoRow.unfollowed==Tryz.pinned.checked.prog.unfollowed 3))=true:=by kernel_rfl
theorem rX:((Rows.shapeFormsUptoRow.recurses==Tryz.pinned.checked.prog.recurses 3))=true:=by kernel_rfl
theorem u1:((Rows.shapeFormsUptoRow.named==Tryz.pinned.checked.prog.varsNamed 3))=true:=by kernel_rfl
theorem tJ:(Tryz.pinned.checked.prog.stopsHeard)=true:=by kernel_rfl
theorem tH:(Tryz.pinned.checked.prog.mayEnter)=true:=by kernel_rfl
theorem uJ:((Rows.shapeFormsUptoRow.lifted==Tryz.pinned.checked.prog.liftsFinal))=true:=by kernel_rfl
theorem rO:((Rows.shapeFormsUptoRow.plainKeys==Tryz.pinned.checked.prog.plainKeys))=true:=by kernel_rfl
theorem uM:((Tryz.pinned.checked.prog.make==some Rows.shapeFormsUptoRow.make))=true:=by kernel_rfl
theorem S6:joinedFacts Tryz.pinned.checked.prog 3 Tryz.f3 (Rows.OpenSpec.upto Rows.shapeFormsSpec).bare Rows.shapeFormsUptoRow=true:=by
 unfold joinedFacts;repeat' (with_reducible refine fU ?_ ?_)
 all_goals first
  | with_reducible exact j1
  | with_reducible exact j2
  | with_reducible exact j3
  | with_reducible exact j4
  | with_reducible exact j5
  | with_reducible exact j6
  | with_reducible exact j7
  | with_reducible exact j8
  | with_reducible exact j9
  | with_reducible exact tN
  | with_reducible exact rT
  | with_reducible exact rX
  | with_reducible exact u1
  | with_reducible exact tJ
  | with_reducible exact tH
  | with_reducible exact uJ
  | with_reducible exact rO
  | with_reducible exact uM
  | kernel_rfl
end Go.Proofs.YthblfhgofopcaaaGreat.shapeForms
