/-
  What a tile law is handed: a list of faces, out of the row's reading.
-/
import Derived.Test.YtjiahcfegfimmaaFrame1
import Derived.Test.YtjiahcfegfimmaaStr
import Derived.Deep.Slices
import Derived.Deep.Fields
import Derived.ChangeSame
namespace Go.Proofs.Ytjiahcfegfimmaa
open Go.Joins Go.ChangeShapes Go.WideShapes Go.RowKit Go.Deep Go.ChangeAt

section
variable {H : Type} {enc : TypeId × Value → H} {P : Program} {w : World} {base : Nat} {spare : Nat → Bool} {held : Bool}
theorem open_slice_fields {t e : TypeId} {fs : Array Field} {fuel : Nat} {cs : List Value} {x : DataW H × List MemPlace} (ht : P.underlying t = some (.slice e)) (he : P.underlying e = some (.struct fs))
    (hone : oneCellFields P fs = true) (hC : P.cellsOf e = fs.size) (h : DataW.trod enc P w base spare held fuel t cs = some x) :
    (cs = [.slice none 0 0] ∧ x = (.nil, [])) ∨
    ∃ (a : Addr) (len cap m : Nat), cs = [.slice (some a) len cap] ∧ len ≤ cap ∧ cap ≤ maxLen ∧ m = (if spare a.block then cap else len) ∧
      ∀ i, i < m → ∃ (n : Nat), ∀ (j : Nat) (f : Field), fs[j]? = some f → ∃ (v : Value) (y : DataW H × List MemPlace), w.cell? (a.add (i * fs.size + j)) = some v ∧ DataW.trod enc P w base spare held n f.type [v] = some y := by
  rcases open_slice ht h with h0 | ⟨a, len, cap, m, n, D, Pl, hcs, hb, hl, hm, hmm, hx, hi⟩
  · exact .inl h0
  · refine .inr ⟨a, len, cap, m, hcs, hl, hm, hmm, fun i him => ?_⟩
    obtain ⟨cs', hc, ht'⟩ := hi i him
    rw [hC] at hc
    obtain ⟨ys, n', hn', hy, hlen, hyl, hf⟩ := DataW.trod_struct he ht'
    obtain ⟨_, hcl, hat⟩ := World.cells?_some hc
    refine ⟨n', fun j f hj => ?_⟩
    obtain ⟨ho, hk⟩ := hone_of hone j f hj
    have hjl : j < fs.size := (Array.getElem?_eq_some_iff.1 hj).1
    have hcell := hat j hjl
    have hv : cs'[j]? = some (cs'[j]'(by omega)) := List.getElem?_eq_getElem (by omega)
    have h1 := hf j f hj
    rw [ho, hk] at h1
    have hone' : (cs'.drop j).take 1 = [cs'[j]'(by omega)] := by
      rw [List.drop_eq_getElem_cons (by omega)]
      rfl
    rw [hone'] at h1
    have hys : ys[j]? = some (ys[j]'(by omega)) := List.getElem?_eq_getElem (by omega)
    refine ⟨_, _, ?_, h1.trans hys⟩
    rw [← Go.Deep.add_add, hcell, hv]
end
theorem faceCells_at (fs : List (Int × Bool)) {i : Nat} {u : Value} (h : (faceCells fs)[i]? = some u) : ∃ k, ∃ hk : k < fs.length, (i = k * 2 ∧ u = .int .i64 fs[k].1) ∨ (i = k * 2 + 1 ∧ u = .bool fs[k].2) := by
  have hl := (List.getElem?_eq_some_iff.1 h).1
  rw [faceCells_length] at hl
  refine ⟨i / 2, by omega, ?_⟩
  rcases (show i = i / 2 * 2 ∨ i = i / 2 * 2 + 1 by omega) with e | e
  · refine .inl ⟨e, ?_⟩
    have h2 := faceCells_kind (fs := fs) (k := i / 2) (by omega)
    rw [← e, h] at h2
    exact Option.some.inj h2
  · refine .inr ⟨e, ?_⟩
    have h2 := faceCells_red (fs := fs) (k := i / 2) (by omega)
    rw [← e, h] at h2
    exact Option.some.inj h2
section
variable {H : Type} {enc : TypeId × Value → H} {W : World} {spare : Nat → Bool} {held : Bool}
set_option maxRecDepth 100000 in
theorem isFaces_of_trod {t : TypeId} {fuel : Nat} {v : Value} {x : DataW H × List MemPlace} (ht : Try.prog.underlying t = some (.slice 73)) (h : DataW.trod enc Try.prog W 0 spare held fuel t [v] = some x) (hs : spare = fun _ => true) :
    ∃ fs, IsFaces W v fs := by
  subst hs
  rcases open_slice_fields ht Try.underlying73 (by kernel_rfl) (by kernel_rfl) h with ⟨hcs, _⟩ | ⟨a, len, cap, m, hcs, hl, hm, hmm, hi⟩
  · simp at hcs
    subst hcs
    exact ⟨[], IsFaces.nil⟩
  · simp at hcs
    subst hcs
    simp at hmm
    subst hmm
    have hk : ∀ i, i < m → ∃ (z : Int) (b : Bool), W.cell? (a.add (i * 2)) = some (.int .i64 z) ∧ W.cell? (a.add (i * 2 + 1)) = some (.bool b) := fun i h => by
      obtain ⟨n, hf⟩ := hi i h
      obtain ⟨v0, y0, c0, t0⟩ := hf 0 _ rfl
      obtain ⟨v1, y1, c1, t1⟩ := hf 1 _ rfl
      obtain ⟨z, e0, _⟩ := DataW.trod_int Try.underlying3 t0
      obtain ⟨b, e1, _⟩ := DataW.trod_bool Try.underlying4 t1
      simp at e0 e1
      subst e0
      subst e1
      exact ⟨z, b, c0, c1⟩
    let f : Nat → Int × Bool := fun i => if h : i < m then ((hk i h).choose, (hk i h).choose_spec.choose) else (0, false)
    have hf : ∀ i, i < m → W.cell? (a.add (i * 2)) = some (.int .i64 (f i).1) ∧ W.cell? (a.add (i * 2 + 1)) = some (.bool (f i).2) := fun i h => by
      simp only [f, dif_pos h]
      exact (hk i h).choose_spec.choose_spec
    refine ⟨(List.range len).map f, some a, m, by simp, by simpa using hl, hm, fun i u hu => ?_⟩
    obtain ⟨k, hk2, h2⟩ := faceCells_at _ hu
    simp at hk2
    obtain ⟨c0, c1⟩ := hf k (by omega)
    rcases h2 with ⟨rfl, rfl⟩ | ⟨rfl, rfl⟩
    · refine ⟨a, rfl, ?_, ?_⟩
      · have := World.block_lt_of_cell? W _ c0
        rwa [block_add] at this
      · rw [c0]; simp
    · refine ⟨a, rfl, ?_, ?_⟩
      · have := World.block_lt_of_cell? W _ c0
        rwa [block_add] at this
      · rw [c1]; simp
end
end Go.Proofs.Ytjiahcfegfimmaa
