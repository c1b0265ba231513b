/-
  A list of lists of integers, out of a row's reading.
-/
import Derived.Test.YtgphdaipgodjgaaFrame
import Derived.Test.YtgphdaipgodjgaaRaceW
import Derived.Deep.Matrix
namespace Go.Proofs.Ytgphdaipgodjgaa
open Go.RowKit Go.ChangeShapes Go.WideShapes Go.ChangeAt

theorem cellsInts : Try.prog.cellsOf 22 = 1 := by kernel_rfl
section
variable {H : Type} {enc : TypeId × Value → H} {W : World} {spare : Nat → Bool} {held : Bool}
theorem isRows_of_trod {t : TypeId} {fuel : Nat} {v : Value} {x : DataW H × List MemPlace} (ht : Try.prog.underlying t = some (.slice 22)) (h : DataW.trod enc Try.prog W 0 spare held fuel t [v] = some x) (hs : spare = fun _ => true) :
    ∃ ws, IsRowsI W v ws := by
  subst hs
  rcases Go.Deep.open_int_rows ht Try.underlying22 Try.underlying3 cellsInts cellsInt h with ⟨hcs, _⟩ | ⟨a, len, cap, A, L, C, Z, hcs, _, hl, hm, _, hr⟩
  · simp at hcs
    subst hcs
    exact ⟨[], none, 0, [], rfl, Nat.le_refl _, Nat.zero_le _, rfl, Rd.nil, fun i u x hu _ => by simp at hu⟩
  · simp at hcs
    subst hcs
    refine ⟨(List.range len).map fun r => (Z r).take (L r), some a, cap, (List.range len).map fun r => .slice (A r) (L r) (C r), by simp, by simpa using hl, hm, by simp, fun i u hu => ?_, fun i u x hu hx => ?_⟩
    · have hi := (List.getElem?_eq_some_iff.1 hu).1
      simp at hi
      obtain ⟨hc, _⟩ := hr i (by omega)
      rw [List.getElem?_map, List.getElem?_range hi] at hu
      simp at hu
      subst hu
      exact ⟨a, rfl, by have := World.block_lt_of_cell? W _ hc; rwa [block_add] at this, hc⟩
    · have hi := (List.getElem?_eq_some_iff.1 hu).1
      simp at hi
      obtain ⟨_, h1, h2, h3, _, h5, h6⟩ := hr i (by omega)
      rw [List.getElem?_map, List.getElem?_range hi] at hu hx
      simp at hu hx
      subst hu
      subst hx
      cases hA : A i with
      | none =>
        have hC := h5 hA
        have hL : L i = 0 := by omega
        rw [hL, hC]
        exact IsInts.nil
      | some a' => exact isInts_of_row h1 h2 h3 fun c hc => (h6 a' hA).2 c (by omega)
end
end Go.Proofs.Ytgphdaipgodjgaa
