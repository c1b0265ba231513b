/-
  A list of swings, out of a row's reading.
-/
import Derived.Test.YtomgilkchlediaaFrame
import Derived.Test.YtomgilkchlediaaSw
import Derived.Deep.Slices
import Derived.Deep.Fields
import Derived.ChangeSame
namespace Go.Proofs.Ytomgilkchlediaa
open Go.Joins Go.ChangeShapes Go.WideShapes Go.RowKit Go.Deep Go.ChangeAt

section
variable {H : Type} {enc : TypeId × Value → H} {P : Program} {w : World} {base : Nat} {spare : Nat → Bool} {held : Bool}
theorem open_slice_fields {t e : TypeId} {fs : Array Field} {fuel : Nat} {cs : List Value} {x : DataW H × List MemPlace} (ht : P.underlying t = some (.slice e)) (he : P.underlying e = some (.struct fs))
    (hone : oneCellFields P fs = true) (hC : P.cellsOf e = fs.size) (h : DataW.trod enc P w base spare held fuel t cs = some x) :
    (cs = [.slice none 0 0] ∧ x = (.nil, [])) ∨
    ∃ (a : Addr) (len cap m : Nat), cs = [.slice (some a) len cap] ∧ len ≤ cap ∧ cap ≤ maxLen ∧ m = (if spare a.block then cap else len) ∧
      ∀ i, i < m → ∃ (n : Nat), ∀ (j : Nat) (f : Field), fs[j]? = some f → ∃ (v : Value) (y : DataW H × List MemPlace), w.cell? (a.add (i * fs.size + j)) = some v ∧ DataW.trod enc P w base spare held n f.type [v] = some y := by
  rcases open_slice ht h with h0 | ⟨a, len, cap, m, n, D, Pl, hcs, hb, hl, hm, hmm, hx, hi⟩
  · exact .inl h0
  · refine .inr ⟨a, len, cap, m, hcs, hl, hm, hmm, fun i him => ?_⟩
    obtain ⟨cs', hc, ht'⟩ := hi i him
    rw [hC] at hc
    obtain ⟨ys, n', hn', hy, hlen, hyl, hf⟩ := DataW.trod_struct he ht'
    obtain ⟨_, hcl, hat⟩ := World.cells?_some hc
    refine ⟨n', fun j f hj => ?_⟩
    obtain ⟨ho, hk⟩ := hone_of hone j f hj
    have hjl : j < fs.size := (Array.getElem?_eq_some_iff.1 hj).1
    have hcell := hat j hjl
    have hv : cs'[j]? = some (cs'[j]'(by omega)) := List.getElem?_eq_getElem (by omega)
    have h1 := hf j f hj
    rw [ho, hk] at h1
    have hone' : (cs'.drop j).take 1 = [cs'[j]'(by omega)] := by
      rw [List.drop_eq_getElem_cons (by omega)]
      rfl
    rw [hone'] at h1
    have hys : ys[j]? = some (ys[j]'(by omega)) := List.getElem?_eq_getElem (by omega)
    refine ⟨_, _, ?_, h1.trans hys⟩
    rw [← Go.Deep.add_add, hcell, hv]
end
theorem addr_two (a : Addr) (k : Nat) : (⟨(a.add k).block, (a.add k).off + 1, none⟩ : Addr) = a.add (k + 1) := by
  unfold Addr.add
  by_cases h : k = 0
  · subst h; simp
  · rw [if_neg h, if_neg (by omega)]
    simp; omega
section
variable {H : Type} {enc : TypeId × Value → H} {W : World} {spare : Nat → Bool} {held : Bool}
set_option maxRecDepth 100000 in
theorem isSw_of_trod {t : TypeId} {fuel : Nat} {v : Value} {x : DataW H × List MemPlace} (ht : Try.prog.underlying t = some (.slice 26)) (h : DataW.trod enc Try.prog W 0 spare held fuel t [v] = some x) (hs : spare = fun _ => true) :
    ∃ l, IsSw W v l := by
  subst hs
  rcases open_slice_fields ht Try.underlying26 (by kernel_rfl) (by kernel_rfl) h with ⟨hcs, _⟩ | ⟨a, len, cap, m, hcs, hl, hm, hmm, hi⟩
  · simp at hcs
    subst hcs
    exact ⟨[], none, 0, rfl, Nat.le_refl _, Nat.zero_le _, fun i hi => by simp at hi⟩
  · simp at hcs
    subst hcs
    simp at hmm
    subst hmm
    have hk : ∀ i, i < m → ∃ (z : Int) (B : Option Addr) (n d : Nat) (zs : List Int), W.cell? (a.add (i * 2)) = some (.int .i64 z) ∧ W.cell? (a.add (i * 2 + 1)) = some (.slice B n d) ∧ IsInts W (.slice B n d) zs ∧ n = zs.length := fun i h => by
      obtain ⟨n, hf⟩ := hi i h
      obtain ⟨v0, y0, c0, t0⟩ := hf 0 _ rfl
      obtain ⟨v1, y1, c1, t1⟩ := hf 1 _ rfl
      obtain ⟨z, e0, _⟩ := DataW.trod_int Try.underlying3 t0
      simp at e0
      subst e0
      obtain ⟨zs, hz, _⟩ := isInts_of_trod Try.underlying22 t1 rfl
      obtain ⟨B, d, rfl, _⟩ := id hz
      exact ⟨z, B, _, d, zs, c0, c1, hz, rfl⟩
    have hk2 : ∀ i, ∃ s : Sw, i < m → ∃ (B : Option Addr) (n d : Nat), W.cell? (a.add (i * 2)) = some (.int .i64 s.w) ∧ W.cell? (a.add (i * 2 + 1)) = some (.slice B n d) ∧ IsInts W (.slice B n d) s.p ∧ n = s.p.length := fun i => by
      by_cases h : i < m
      · obtain ⟨z, B, n, d, zs, h1, h2, h3, h4⟩ := hk i h
        exact ⟨⟨z, zs⟩, fun _ => ⟨B, n, d, h1, h2, h3, h4⟩⟩
      · exact ⟨⟨0, []⟩, fun h' => absurd h' h⟩
    obtain ⟨f, hf⟩ := Classical.axiomOfChoice hk2
    refine ⟨(List.range len).map f, some a, m, by simp, by simpa using hl, hm, fun i hi => ?_⟩
    simp at hi
    obtain ⟨B, n, d, h1, h2, h3, h4⟩ := hf i (by omega)
    refine ⟨a, B, n, d, rfl, ?_, ?_, ?_, ?_, ?_⟩
    · have := World.block_lt_of_cell? W _ h1
      rwa [block_add] at this
    · rw [h1]; simp
    · rw [addr_two, h2]
    · simpa using h3
    · simpa using h4
end
end Go.Proofs.Ytomgilkchlediaa
