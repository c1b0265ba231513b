/-
  Cells that are naturals of known values, and a block of them. Plain laws of memory.
-/
import Derived.Test.YtomgilkchlediaaOddsOf
namespace Go.Proofs.Ytomgilkchlediaa
open Go.RowKit

/-- The cells are naturals of these values. -/
def NatsAt (w : World) (vs : List Value) (f : Nat → Int) : Prop := ∀ (i : Nat) (v : Value), vs[i]? = some v → IsNatF w v (f i)
theorem NatsAt.grow {w w' : World} {vs : List Value} {f : Nat → Int} (h : NatsAt w vs f) (g : Grow w w') : NatsAt w' vs f := fun i v hv => (h i v hv).grow g
theorem IsNatF.setFar {w : World} {v : Value} {n : Int} {p : Addr} {e : TypeId} {cs : List Value} (h : IsNatF w v n) (hx : Blk w p.block e cs) (hne : 3 ≠ e) (u : Value) : IsNatF (w.setCell p u) v n := by
  obtain ⟨⟨zs, h1, h2, h3⟩, ht⟩ := h
  have k := IsIntsF.setFar ⟨h3, ht⟩ hx hne u
  exact ⟨⟨zs, h1, h2, k.1⟩, k.2⟩
theorem NatsAt.setFar {w : World} {vs : List Value} {f : Nat → Int} {p : Addr} {e : TypeId} {cs : List Value} (h : NatsAt w vs f) (hx : Blk w p.block e cs) (hne : 3 ≠ e) (u : Value) : NatsAt (w.setCell p u) vs f := fun i v hv => (h i v hv).setFar hx hne u
theorem NatsAt.zeros {w : World} {n : Nat} {f : Nat → Int} (h : ∀ i, f i = 0) : NatsAt w (List.replicate n (.slice none 0 0)) f := fun i v hv => by
  have hi := (List.getElem?_eq_some_iff.1 hv).1
  simp at hi
  have : v = .slice none 0 0 := by simpa [hi] using hv.symm
  rw [this, h]
  exact IsNatF.nil
/-- One cell is stored: its value is what the new numbers say. -/
theorem NatsAt.set {w : World} {G i : Nat} {vs : List Value} {f f' : Nat → Int} {u : Value} (h : NatsAt w vs f) (hb : Blk w G 35 vs) (hu : IsNatF w u (f' i)) (hf : ∀ j, j ≠ i → f' j = f j) : NatsAt (w.setCell ⟨G, i, none⟩ u) (vs.set i u) f' := fun j v hv => by
  by_cases e : j = i
  · subst e
    have : v = u := by
      rw [List.getElem?_set] at hv
      simp at hv
      exact hv.2.symm
    subst this
    exact hu.setFar (p := ⟨G, j, none⟩) hb (by decide) v
  · rw [List.getElem?_set_ne (fun h => e h.symm)] at hv
    rw [hf j e]
    exact (h j v hv).setFar (p := ⟨G, i, none⟩) hb (by decide) u

/-- The naturals that a race has so far. -/
def WinsAt (w : World) (GW n : Nat) (f : Nat → Int) : Prop := ∃ vs : List Value, vs.length = n ∧ Blk w GW 35 vs ∧ NatsAt w vs f
theorem WinsAt.grow {w w' : World} {GW n : Nat} {f : Nat → Int} (h : WinsAt w GW n f) (g : Grow w w') : WinsAt w' GW n f := by
  obtain ⟨vs, h1, h2, h3⟩ := h
  exact ⟨vs, h1, h2.grow g, h3.grow g⟩
theorem WinsAt.at_ {w : World} {GW n : Nat} {f : Nat → Int} (h : WinsAt w GW n f) {i : Nat} (hi : i < n) : ∃ A m c, w.cell? ⟨GW, i, none⟩ = some (.slice A m c) ∧ IsNatF w (.slice A m c) (f i) ∧ w.frozen? ⟨GW, i, none⟩ = false ∧ GW < w.heap.size := by
  obtain ⟨vs, h1, h2, h3⟩ := h
  have hv : vs[i]? = some vs[i] := List.getElem?_eq_getElem (by omega)
  have k := h3 i _ hv
  obtain ⟨A, m, c, e⟩ := k.open_
  rw [e] at k hv
  exact ⟨A, m, c, by rw [h2.cell, hv], k, h2.free i, h2.lt⟩
theorem WinsAt.set {w : World} {GW n : Nat} {f f' : Nat → Int} (h : WinsAt w GW n f) {i : Nat} {u : Value} (hu : IsNatF w u (f' i)) (hf : ∀ j, j ≠ i → f' j = f j) : WinsAt (w.setCell ⟨GW, i, none⟩ u) GW n f' := by
  obtain ⟨vs, h1, h2, h3⟩ := h
  exact ⟨vs.set i u, by rw [List.length_set]; exact h1, h2.set i u, NatsAt.set h3 h2 hu hf⟩
theorem WinsAt.blk {w : World} {GW n : Nat} {f : Nat → Int} (h : WinsAt w GW n f) : ∃ vs, Blk w GW 35 vs := by
  obtain ⟨vs, _, h2, _⟩ := h
  exact ⟨vs, h2⟩
theorem WinsAt.far {w : World} {GW n : Nat} {f : Nat → Int} (h : WinsAt w GW n f) {R : Nat} {e : TypeId} {cs : List Value} (hb : Blk w R e cs) (i : Nat) (u : Value) (hne : R ≠ GW) (he : 3 ≠ e := by decide) : WinsAt (w.setCell ⟨R, i, none⟩ u) GW n f := by
  obtain ⟨vs, h1, h2, h3⟩ := h
  exact ⟨vs, h1, h2.far (p := ⟨R, i, none⟩) hne.symm u, NatsAt.setFar (p := ⟨R, i, none⟩) h3 hb he u⟩
end Go.Proofs.Ytomgilkchlediaa
