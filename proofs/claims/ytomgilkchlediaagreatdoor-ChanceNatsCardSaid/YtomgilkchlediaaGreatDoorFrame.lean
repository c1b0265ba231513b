/-
  What a law is handed, out of the row's reading: slices of integers, odds.
-/
import Derived.Test.YtomgilkchlediaaGreatDoorRows
import Derived.Test.YtomgilkchlediaaGreatDoorMem
import Derived.ProofKit
import Derived.OpenShut
import Derived.ShutString
import Derived.ChangeOld
import Derived.Below
import Derived.Lib.SmallJoins
import Derived.Deep.Slices
namespace Go.Proofs.YtomgilkchlediaaGreatDoor
open Go.RowKit Go.ChangeShapes Go.WideShapes Go.ChangeAt

theorem ownKnobs : ownKnob Tryz.prog.godebug = none := by kernel_rfl
theorem laidOuts : laidOutB Tryz.prog = true := by kernel_rfl
theorem cellsInt : Tryz.prog.cellsOf 3 = 1 := by kernel_rfl

theorem isInts_of_row {w : World} {x : Addr} {l c : Nat} {zs : List Int} (hl : l ≤ c) (hm : c ≤ maxLen) (hz : zs.length = c) (hcell : ∀ i, i < zs.length → w.cell? (x.add i) = some (.int .i64 (zs.getD i 0))) :
    IsInts w (.slice (some x) l c) (zs.take l) := by
  refine ⟨some x, c, by rw [List.length_take, Nat.min_eq_left (by omega)], by rw [List.length_take]; omega, hm, fun i u hu => ?_⟩
  have hi := (List.getElem?_eq_some_iff.1 hu).1
  simp only [ints, List.length_map, List.length_take] at hi
  have hc := hcell i (by omega)
  refine ⟨x, rfl, ?_, ?_⟩
  · have := World.block_lt_of_cell? w _ hc
    rwa [block_add] at this
  · rw [hc, ← hu]
    have h2 : i < zs.length := by omega
    simp [List.getD, h2, show i < l by omega]

section
variable {H : Type} {enc : TypeId × Value → H} {W : World} {spare : Nat → Bool} {held : Bool}
theorem isInts_of_trod {t : TypeId} {fuel : Nat} {v : Value} {x : DataW H × List MemPlace} (ht : Tryz.prog.underlying t = some (.slice 3)) (h : DataW.trod enc Tryz.prog W 0 spare held fuel t [v] = some x) (hs : spare = fun _ => true) :
    ∃ zs, IsInts W v zs ∧ ∀ z ∈ zs, (Lit.int .i64 z).wf = true := by
  subst hs
  rcases open_ints ht Tryz.underlying3 cellsInt h with ⟨hcs, _⟩ | ⟨a, l, c, zs, hcs, _, hl, hm, hz, _, hcell, hwz⟩
  · simp at hcs
    subst hcs
    exact ⟨[], IsInts.nil, by simp⟩
  · simp at hcs
    subst hcs
    exact ⟨zs.take l, isInts_of_row hl hm (by simpa using hz) hcell, fun z hz => hwz z (List.mem_of_mem_take hz)⟩
end
theorem wf_range {n : Int} (h : (Lit.int .i64 n).wf = true) : -9223372036854775808 ≤ n ∧ n ≤ 9223372036854775807 := by
  simp [Lit.wf] at h
  exact h
end Go.Proofs.YtomgilkchlediaaGreatDoor
