/-
  Parts of the proof: Frame, LawKnown.
-/
import Derived.Test.YtjiahcfegfimmaaRows
import Derived.Test.YtjiahcfegfimmaaKnown01
import Derived.ProofKit
import Derived.OpenShut
import Derived.ShutString
import Derived.ChangeOld
import Derived.Below
import Derived.Lib.SmallJoins
import Derived.Deep.Slices
import Derived.Test.YtjiahcfegfimmaaKnown49
/-
  What a law is handed, out of the row's reading: slices of integers, odds.
-/
namespace Go.Proofs.Ytjiahcfegfimmaa
open Go.RowKit Go.ChangeShapes Go.WideShapes Go.ChangeAt

theorem ownKnobs : ownKnob Try.prog.godebug = none := by kernel_rfl
theorem laidOuts : laidOutB Try.prog = true := by kernel_rfl
theorem cellsInt : Try.prog.cellsOf 3 = 1 := by kernel_rfl

theorem isInts_of_row {w : World} {x : Addr} {l c : Nat} {zs : List Int} (hl : l ≤ c) (hm : c ≤ maxLen) (hz : zs.length = c) (hcell : ∀ i, i < zs.length → w.cell? (x.add i) = some (.int .i64 (zs.getD i 0))) :
    IsInts w (.slice (some x) l c) (zs.take l) := by
  refine ⟨some x, c, by rw [List.length_take, Nat.min_eq_left (by omega)], by rw [List.length_take]; omega, hm, fun i u hu => ?_⟩
  have hi := (List.getElem?_eq_some_iff.1 hu).1
  simp only [ints, List.length_map, List.length_take] at hi
  have hc := hcell i (by omega)
  refine ⟨x, rfl, ?_, ?_⟩
  · have := World.block_lt_of_cell? w _ hc
    rwa [block_add] at this
  · rw [hc, ← hu]
    have h2 : i < zs.length := by omega
    simp [List.getD, h2, show i < l by omega]

section
variable {H : Type} {enc : TypeId × Value → H} {W : World} {spare : Nat → Bool} {held : Bool}
theorem isInts_of_trod {t : TypeId} {fuel : Nat} {v : Value} {x : DataW H × List MemPlace} (ht : Try.prog.underlying t = some (.slice 3)) (h : DataW.trod enc Try.prog W 0 spare held fuel t [v] = some x) (hs : spare = fun _ => true) :
    ∃ zs, IsInts W v zs ∧ ∀ z ∈ zs, (Lit.int .i64 z).wf = true := by
  subst hs
  rcases open_ints ht Try.underlying3 cellsInt h with ⟨hcs, _⟩ | ⟨a, l, c, zs, hcs, _, hl, hm, hz, _, hcell, hwz⟩
  · simp at hcs
    subst hcs
    exact ⟨[], IsInts.nil, by simp⟩
  · simp at hcs
    subst hcs
    exact ⟨zs.take l, isInts_of_row hl hm (by simpa using hz) hcell, fun z hz => hwz z (List.mem_of_mem_take hz)⟩
end
theorem wf_range {n : Int} (h : (Lit.int .i64 n).wf = true) : -9223372036854775808 ≤ n ∧ n ≤ 9223372036854775807 := by
  simp [Lit.wf] at h
  exact h
end Go.Proofs.Ytjiahcfegfimmaa

/-
  The statement TileKnown: the law returns true for every input, and its arguments read as they did. No condition.
-/
namespace Go.Proofs.Ytjiahcfegfimmaa.tileKnown
open Go.ChangeShapes Go.WideShapes Go.ChangeAt Go.RowKit

set_option maxRecDepth 100000 in
theorem lifted (os : Os) (started : os.Started) (H : Type) (enc : TypeId × Value → H) :
    ReturnsInHanded {} Try.checked os 17 .any (Rows.tileKnownSpec.pre6 enc Try.prog Try.f17 Rows.tileKnownRow.domain false) (Rows.tileKnownSpec.post enc Try.prog Try.f17 false true false false) := by
  refine returnsInHanded_of_change (C := Try.checked) ownKnobs started (by kernel_rfl) Try.func17
    (ChangeSpec.witness6 (enc := enc) (C := Try.checked) false ⟨#[], #[], []⟩ 8 (by kernel_rfl) (by kernel_rfl) (by kernel_rfl) (by kernel_rfl)) ?_
  intro W base args ds gs before hval0 hW hcnd _
  have hval : ∀ (j : Nat) t v, Try.f17.params[j]? = some t → args[j]? = some v → Value.okWide Try.prog W .any base t v := hval0
  have hW' := hW
  obtain ⟨p, q, hA0, hV, rfl, hfz, hnd⟩ := hW
  have hA : DataW.TrodAll enc Try.prog W 0 (fun _ => true) true Try.f17.params.toList args.toList ds p := hA0
  rw [Try.params17] at hA hval
  obtain ⟨hnil, rfl, rfl⟩ := trodAll_nil hA
  obtain rfl : args = #[] := by cases args; simp_all
  obtain ⟨rfl, rfl⟩ := trodVars_none hV
  clear hA0 hval0
  refine (walkTileKnown  W ).mono fun e W' ⟨he, bel⟩ => ?_
  subst he
  exact ⟨_, rfl, _, _, _, [], _, [], hW', trodAll_mk1 (shut_bool Try.underlying4 _), trodAll_mk0, rfl, Below.frame bel _, fun h => by cases h⟩

theorem over : Rows.tileKnownRow.holds Try.pinned (OpenSpec.ofChange Rows.tileKnownSpec) :=
  OpenClaim.holds_of_wide 17 Try.f17 rfl rfl rfl rfl rfl rfl rfl ⟨rfl, rfl, rfl, rfl, rfl⟩ rfl rfl rfl rfl rfl (by kernel_rfl) Try.func17 (by kernel_rfl)
    (of_decide_eq_true (by kernel_rfl)) (by unfold Func.isWrapper; first | (rw [if_pos (by decide +kernel)]; kernel_rfl) | (rw [if_neg (by decide +kernel)]; exact ⟨rfl, rfl⟩))
    (fun os started H enc _ => lifted os started H enc)
end Go.Proofs.Ytjiahcfegfimmaa.tileKnown
namespace Go.Proofs.Ytjiahcfegfimmaa
/-- The statement. -/
theorem tileKnown_holds : Rows.TileKnownSaid := tileKnown.over
#print axioms tileKnown_holds
end Go.Proofs.Ytjiahcfegfimmaa
