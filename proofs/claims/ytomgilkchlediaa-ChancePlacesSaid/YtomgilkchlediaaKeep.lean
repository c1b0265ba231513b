/-
  What a triangle's rows are worth when two other blocks are written. Plain laws of memory.
-/
import Derived.Test.YtomgilkchlediaaTri
namespace Go.Proofs.Ytomgilkchlediaa
open Go.RowKit

theorem cell_in {w : World} {g : Nat} {e : TypeId} {xs : List Value} {ad : Addr} {x : Value} (hb : Blk w g e xs) (ha : ad.block = g) (hx : w.cell? ad = some x) : x ∈ xs := by
  unfold World.cell? at hx
  rw [ha, show w.heap[g]? = some (.cells xs.toArray e (0, 0)) from hb] at hx
  simp only at hx
  split at hx
  · cases hx
  · exact List.mem_of_getElem? (by simpa using hx)
theorem rd_keep {w W : World} {A : Option Addr} {xs : List Value} (h : Rd w A xs) (hs : w.heap.size ≤ W.heap.size) (hk : ∀ ad, A = some ad → 0 < xs.length → W.heap[ad.block]? = w.heap[ad.block]?) : Rd W A xs := fun i u hu => by
  obtain ⟨ad, rfl, hb, hc⟩ := h i u hu
  have hl := (List.getElem?_eq_some_iff.1 hu).1
  refine ⟨ad, rfl, Nat.lt_of_lt_of_le hb hs, ?_⟩
  rw [World.cell?_of_block (w := w) (by rw [block_add]; exact hk ad rfl (by omega))]
  exact hc
theorem natF_keep {w W : World} {v : Value} {n : Int} (h : IsNatF w v n) (hs : w.heap.size ≤ W.heap.size) (hk : ∀ (k : Nat) cur, w.heap[k]? = some (Obj.cells cur 3 (0, 0)) → W.heap[k]? = w.heap[k]?) : IsNatF W v n := by
  obtain ⟨⟨zs, h1, h2, A, c, rfl, h3, h4, h5⟩, ht⟩ := h
  refine ⟨⟨zs, h1, h2, A, c, rfl, h3, h4, rd_keep h5 hs fun ad hA _ => ?_⟩, fun ad m d hv => ?_⟩
  · subst hA
    obtain ⟨cur, hc⟩ := ht ad _ _ rfl
    exact hk _ cur hc
  · obtain ⟨cur, hc⟩ := ht ad m d hv
    exact ⟨cur, (hk _ cur hc).trans hc⟩
theorem natF_nil {w : World} {n : Int} (h : IsNatF w (.slice none 0 0) n) : n = 0 := by
  obtain ⟨⟨zs, _, h2, A, c, e, _⟩, _⟩ := h
  injection e with _ e _
  have : zs = [] := List.eq_nil_of_length_eq_zero e.symm
  subst this
  exact h2.symm
/-- All blocks but two are as they were. -/
def Kept2 (g h : Nat) (w W : World) : Prop := w.heap.size ≤ W.heap.size ∧ ∀ k, k < w.heap.size → k ≠ g → k ≠ h → W.heap[k]? = w.heap[k]?
theorem Kept2.refl (g h : Nat) (w : World) : Kept2 g h w w := ⟨Nat.le_refl _, fun _ _ _ _ => rfl⟩
theorem Kept2.grow {g h : Nat} {w W W' : World} (k : Kept2 g h w W) (hg : Grow W W') : Kept2 g h w W' := ⟨Nat.le_trans k.1 hg.size, fun i h0 h1 h2 => (hg.blk (Nat.lt_of_lt_of_le h0 k.1)).trans (k.2 i h0 h1 h2)⟩
theorem Kept2.set1 {g h : Nat} {w W : World} (k : Kept2 g h w W) (i : Nat) (u : Value) : Kept2 g h w (W.setCell ⟨g, i, none⟩ u) := ⟨by simpa using k.1, fun j h0 h1 h2 => (Below.heap_setCell _ _ _ _ (by simpa using h1)).trans (k.2 j h0 h1 h2)⟩
theorem Kept2.set2 {g h : Nat} {w W : World} (k : Kept2 g h w W) (i : Nat) (u : Value) : Kept2 g h w (W.setCell ⟨h, i, none⟩ u) := ⟨by simpa using k.1, fun j h0 h1 h2 => (Below.heap_setCell _ _ _ _ (by simpa using h2)).trans (k.2 j h0 h1 h2)⟩

/-- The rows of a triangle: neither the block of nought naturals nor one of another type is among theirs. -/
theorem rows_keep {w W : World} {v : Value} {M g r n z : Nat} {e : TypeId} (h : IsRows w v (triI M)) (hG : Blk w g 35 (List.replicate z (.slice none 0 0))) (hR : Blk w r e [.slice (some ⟨g, 0, none⟩) n n, .slice none 0 0, .slice none 0 0]) (he : 35 ≠ e) (he' : 3 ≠ e) (k : Kept2 g r w W) : IsRows W v (triI M) := by
  obtain ⟨A, c, vs, rfl, h1, h2, h3, h4, h5⟩ := h
  have hint : ∀ (j : Nat) cur, w.heap[j]? = some (Obj.cells cur 3 (0, 0)) → W.heap[j]? = w.heap[j]? := fun j cur hj => by
    refine k.2 j (lt_of_block hj) (fun e1 => ?_) (fun e1 => ?_)
    · subst e1
      rw [show w.heap[j]? = _ from hG] at hj
      injection hj with hj
      injection hj with _ hj
      exact absurd hj (by decide)
    · subst e1
      rw [show w.heap[j]? = _ from hR] at hj
      injection hj with hj
      injection hj with _ hj
      exact absurd hj.symm he'
  -- a row lies neither here nor there
  have hrow : ∀ i (hi : i < M) (u : Value), IsNats w u (rowI i) → ∃ ad m d, u = .slice (some ad) m d ∧ 0 < m ∧ ad.block ≠ g ∧ ad.block ≠ r := fun i hi u hu => by
    obtain ⟨⟨B, d, us, rfl, g1, g2, g3, g4, g5⟩, ht⟩ := hu
    rw [rowI_len] at *
    obtain ⟨ad, rfl, hb, hx⟩ := g4.val (k := 0) (by omega)
    have h0 := g5 0 us[0] _ (List.getElem?_eq_getElem (by omega)) (rowI_at (show 0 ≤ i by omega))
    obtain ⟨cur, hcur⟩ := ht ad _ _ rfl
    refine ⟨ad, _, d, rfl, by omega, fun e1 => ?_, fun e1 => ?_⟩
    · have hm := cell_in (ad := ad.add 0) hG (by rw [block_add]; exact e1) hx
      have hz := List.eq_of_mem_replicate hm
      rw [hz] at h0
      have := natF_nil h0
      rw [binom_zero] at this
      omega
    · rw [e1, show w.heap[r]? = _ from hR] at hcur
      injection hcur with hcur
      injection hcur with _ hcur
      exact he hcur.symm
  have hnats : ∀ i (hi : i < M) (u : Value), IsNats w u (rowI i) → IsNats W u (rowI i) := fun i hi u hu => by
    obtain ⟨ad, m, d, e1, _, hg, hr⟩ := hrow i hi u hu
    obtain ⟨⟨B, d', us, e2, g1, g2, g3, g4, g5⟩, ht⟩ := hu
    rw [e2] at e1
    injection e1 with e1 _ _
    subst e1 e2
    obtain ⟨cur, hcur⟩ := ht ad _ _ rfl
    have hkk := k.2 ad.block (lt_of_block hcur) hg hr
    refine ⟨⟨_, d', us, rfl, g1, g2, g3, rd_keep g4 k.1 fun ad' hA _ => ?_, fun j u x hu hx => natF_keep (g5 j u x hu hx) k.1 hint⟩, fun ad' m' c' hv => ?_⟩
    · have := Option.some.inj hA
      subst this
      exact hkk
    · have : some ad = some ad' := by injection hv
      have := Option.some.inj this
      subst this
      exact ⟨cur, hkk.trans hcur⟩
  refine ⟨A, c, vs, rfl, h1, h2, h3, rd_keep h4 k.1 fun ad hA hl => ?_, fun i u x hu hx => ?_⟩
  · subst hA
    rw [triI_len] at h3
    obtain ⟨ad', hA', hb, hx⟩ := h4.val (k := 0) hl
    obtain rfl := Option.some.inj hA'
    have hu := h5 0 vs[0] (rowI 0) (List.getElem?_eq_getElem hl) (triI_at (by omega))
    obtain ⟨ad2, m, d, e1, hm, hg, hr⟩ := hrow 0 (by omega) _ hu
    rw [e1] at hx
    refine k.2 _ hb (fun e2 => ?_) (fun e2 => ?_)
    · have hm2 := cell_in (ad := ad.add 0) hG (by rw [block_add]; exact e2) hx
      have hz := List.eq_of_mem_replicate hm2
      injection hz with hz
      cases hz
    · have hm2 := cell_in (ad := ad.add 0) hR (by rw [block_add]; exact e2) hx
      simp only [List.mem_cons, List.not_mem_nil, or_false] at hm2
      rcases hm2 with hm2 | hm2 | hm2
      · injection hm2 with hm2
        injection hm2 with hm2
        exact hg (by rw [hm2])
      · injection hm2 with hm2
        cases hm2
      · injection hm2 with hm2
        cases hm2
  · have hi := (List.getElem?_eq_some_iff.1 hx).1
    rw [triI_len] at hi
    rw [triI_at hi] at hx
    injection hx with hx
    subst hx
    exact hnats i hi u (h5 i u _ hu (triI_at hi))
end Go.Proofs.Ytomgilkchlediaa
