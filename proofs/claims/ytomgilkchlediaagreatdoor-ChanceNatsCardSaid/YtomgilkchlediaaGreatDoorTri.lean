/-
  Walks of the reference's triangle of binomials.
-/
import Derived.Test.YtomgilkchlediaaGreatDoorRefB
import Derived.Test.YtomgilkchlediaaGreatDoorBin
import Derived.Deep.RegionHeld3
namespace Go.Proofs.YtomgilkchlediaaGreatDoor
open Go.RowKit

/-- The row n of Pascal's triangle. -/
def rowI (n : Nat) : List Int := (List.range (n + 1)).map fun k => (binom n k : Int)
theorem rowI_len (n : Nat) : (rowI n).length = n + 1 := by simp [rowI]
theorem rowI_at {n k : Nat} (h : k ≤ n) : (rowI n)[k]? = some (binom n k : Int) := by
  unfold rowI
  rw [List.getElem?_map, List.getElem?_range (by omega)]; rfl
/-- The first m rows. -/
def triI (m : Nat) : List (List Int) := (List.range m).map rowI
theorem triI_len (m : Nat) : (triI m).length = m := by simp [triI]
theorem triI_at {m n : Nat} (h : n < m) : (triI m)[n]? = some (rowI n) := by
  unfold triI
  rw [List.getElem?_map, List.getElem?_range h]; rfl

theorem isNatF_grow (w w' : World) (u : Value) (x : Int) (h : IsNatF w u x) (g : Grow w w') : IsNatF w' u x := h.grow g
/-- A slice of naturals in a block of its own. -/
def IsNats (w : World) (v : Value) (ns : List Int) : Prop := IsList IsNatF w v ns ∧ Tag w 24 v
theorem IsNats.grow {w w' : World} {v : Value} {ns : List Int} (h : IsNats w v ns) (g : Grow w w') : IsNats w' v ns := ⟨h.1.grow isNatF_grow g, h.2.grow g⟩
theorem isNats_grow (w w' : World) (u : Value) (x : List Int) (h : IsNats w u x) (g : Grow w w') : IsNats w' u x := h.grow g
/-- A slice of slices of naturals. -/
def IsRows (w : World) (v : Value) (rs : List (List Int)) : Prop := IsList IsNats w v rs
theorem IsRows.grow {w w' : World} {v : Value} {rs : List (List Int)} (h : IsRows w v rs) (g : Grow w w') : IsRows w' v rs := IsList.grow isNats_grow h g

/-- An append to a row of another element type leaves a natural as it was. -/
theorem IsNatF.far {w w' : World} {e' : TypeId} {v r : Value} {n : Int} {base size m : Nat} {xs : List Value} (h : IsNatF w v n) (ho : w.ownsRow base e' size r m xs) (hne : 3 ≠ e') (hg : w.grownBy w' r.ownBlock) : IsNatF w' v n := by
  obtain ⟨⟨zs, h1, h2, A, c, rfl, h3, h4, h5⟩, ht⟩ := h
  exact ⟨⟨zs, h1, h2, A, c, rfl, h3, h4, h5.far ht ho hne hg⟩, ht.far ho hne hg⟩
theorem IsNats.far {w w' : World} {e' : TypeId} {v r : Value} {ns : List Int} {base size m : Nat} {xs : List Value} (h : IsNats w v ns) (ho : w.ownsRow base e' size r m xs) (hne : 3 ≠ e') (hne' : 24 ≠ e') (hg : w.grownBy w' r.ownBlock) : IsNats w' v ns := by
  obtain ⟨⟨A, c, vs, rfl, h1, h2, h3, h4, h5⟩, ht⟩ := h
  exact ⟨⟨A, c, vs, rfl, h1, h2, h3, h4.far ht ho hne' hg, fun i u x hu hx => (h5 i u x hu hx).far ho hne hg⟩, ht.far ho hne' hg⟩

theorem rowI_succ {k j : Nat} (h0 : 0 < j) : (binom k (j - 1) : Int) + (binom k j : Int) = (binom (k + 1) j : Int) := by
  obtain ⟨t, rfl⟩ : ∃ t, j = t + 1 := ⟨j - 1, by omega⟩
  rw [binom_succ, Nat.add_sub_cancel]; omega

/-- The first elements of a row of naturals are the binomials b(n, 0), b(n, 1) .. -/
def RowTo (w : World) (vs : List Value) (n : Nat) : Prop := ∀ (i : Nat) (u : Value), vs[i]? = some u → IsNatF w u (binom n i : Int)
theorem RowTo.grow {w w' : World} {vs : List Value} {n : Nat} (h : RowTo w vs n) (g : Grow w w') : RowTo w' vs n := fun i u hu => (h i u hu).grow g
theorem RowTo.far {w w' : World} {e' : TypeId} {r : Value} {n : Nat} {base size m : Nat} {xs vs : List Value} (h : RowTo w vs n) (ho : w.ownsRow base e' size r m xs) (hne : 3 ≠ e') (hg : w.grownBy w' r.ownBlock) : RowTo w' vs n := fun i u hu => (h i u hu).far ho hne hg
theorem RowTo.snoc {w : World} {vs : List Value} {n : Nat} {u : Value} (h : RowTo w vs n) (hu : IsNatF w u (binom n vs.length : Int)) : RowTo w (vs ++ [u]) n := fun i x hx => by
  rw [List.getElem?_append] at hx
  split at hx
  · exact h i x hx
  · rename_i hi
    have hl := (List.getElem?_eq_some_iff.1 hx).1
    simp at hl
    obtain rfl : i = vs.length := by omega
    simp at hx
    subst hx
    exact hu
/-- The first rows of a triangle. -/
def TriTo (w : World) (vs : List Value) : Prop := ∀ (i : Nat) (u : Value), vs[i]? = some u → IsNats w u (rowI i)
theorem TriTo.grow {w w' : World} {vs : List Value} (h : TriTo w vs) (g : Grow w w') : TriTo w' vs := fun i u hu => (h i u hu).grow g
theorem TriTo.far {w w' : World} {e' : TypeId} {r : Value} {base size m : Nat} {xs vs : List Value} (h : TriTo w vs) (ho : w.ownsRow base e' size r m xs) (hne : 3 ≠ e') (hne' : 24 ≠ e') (hg : w.grownBy w' r.ownBlock) : TriTo w' vs := fun i u hu => (h i u hu).far ho hne hne' hg
theorem TriTo.snoc {w : World} {vs : List Value} {u : Value} (h : TriTo w vs) (hu : IsNats w u (rowI vs.length)) : TriTo w (vs ++ [u]) := fun i x hx => by
  rw [List.getElem?_append] at hx
  split at hx
  · exact h i x hx
  · have hl := (List.getElem?_eq_some_iff.1 hx).1
    simp at hl
    obtain rfl : i = vs.length := by omega
    simp at hx
    subst hx
    exact hu
theorem RowTo.is {w0 w : World} {v : Value} {vs : List Value} {n : Nat} (h : RowTo w vs n) (ho : OwnV w0 w 24 v vs) (hl : vs.length = n + 1) : IsNats w v (rowI n) :=
  ⟨ho.is (by rw [rowI_len, hl]) fun i u x hu hx => by
    have hi := (List.getElem?_eq_some_iff.1 hu).1
    rw [rowI_at (by omega)] at hx
    injection hx with hx
    rw [← hx]
    exact h i u hu, Tag.of_own ho⟩
theorem TriTo.is {w0 w : World} {v : Value} {vs : List Value} (h : TriTo w vs) (ho : OwnV w0 w 35 v vs) : IsRows w v (triI vs.length) :=
  ho.is (by rw [triI_len]) fun i u x hu hx => by
    have hi := (List.getElem?_eq_some_iff.1 hu).1
    rw [triI_at hi] at hx
    injection hx with hx
    rw [← hx]
    exact h i u hu

def TriRes (w : World) (m : Nat) (e : Ending) (w' : World) : Prop := ∃ v, e = .returned v ∧ IsRows w' v (triI m) ∧ Grow w w'

theorem add_succ (a : Addr) (t : Nat) : a.add (t + 1) = ⟨a.block, a.off + (t + 1), none⟩ := by unfold Addr.add; rw [if_neg (by omega)]
theorem OwnV.shape {w0 w : World} {e : TypeId} {v : Value} {vs : List Value} (h : OwnV w0 w e v vs) : ∃ A m c, v = .slice A m c := by
  obtain ⟨A, c, rfl, _⟩ := h.open_
  exact ⟨A, _, c, rfl⟩
theorem natF_shape {w : World} {v : Value} {n : Int} (h : IsNatF w v n) : ∃ A m c, v = .slice A m c := by
  obtain ⟨⟨_, _, _, A, c, rfl, _⟩, _⟩ := h
  exact ⟨A, _, c, rfl⟩
theorem nats_shape {w : World} {v : Value} {ns : List Int} (h : IsNats w v ns) : ∃ A m c, v = .slice A m c := by
  obtain ⟨⟨A, c, _, rfl, _⟩, _⟩ := h
  exact ⟨A, _, c, rfl⟩

end Go.Proofs.YtomgilkchlediaaGreatDoor
