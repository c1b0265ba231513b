/-
  Mirrors, swaps, orphans: in plain terms. No program.
-/
import Derived.Test.YtjiahcfegfimmaaRounds
import Derived.Test.YtjiahcfegfimmaaBagS
namespace Go.Proofs.Ytjiahcfegfimmaa
open Go.RowKit

/-- The two suits are none to be swapped for a kind of suit su. -/
def StayC (s : TSet) (su a b : Int) : Prop := (a < 0 ∨ b < 0 ∨ (s.su.length : Int) ≤ a ∨ (s.su.length : Int) ≤ b) ∨ s.su.getD a.toNat 0 ≠ s.su.getD b.toNat 0 ∨ (su ≠ a ∧ su ≠ b)
theorem swap_stay {s : TSet} {k su r a b : Int} (h : placeP s k = (su, r)) (h4 : su ≠ -4) (hc : StayC s su a b) : swapI s k a b = k := by
  unfold swapI
  rw [h]
  simp only
  rw [if_neg h4]
  exact if_pos hc
theorem swap_go {s : TSet} {k su r a b : Int} (h : placeP s k = (su, r)) (h4 : su ≠ -4) (hc : ¬ StayC s su a b) : swapI s k a b = sumI (s.su.take (a + b - su).toNat) + r := by
  unfold swapI
  rw [h]
  simp only
  rw [if_neg h4]
  exact if_neg hc
/-- What is not to stay: two suits of one length, the kind in one of them. -/
theorem go_is {s : TSet} {su a b : Int} (hc : ¬ StayC s su a b) : ∃ (j i : Nat) (hj : j < s.su.length) (hi : i < s.su.length), su = j ∧ a + b - su = i ∧ s.su[j] = s.su[i] ∧ ¬ StayC s i a b ∧ a + b - (i : Int) = j := by
  have hc0 := hc
  unfold StayC at hc
  have h1 : 0 ≤ a ∧ a < s.su.length ∧ 0 ≤ b ∧ b < s.su.length ∧ s.su.getD a.toNat 0 = s.su.getD b.toNat 0 ∧ (su = a ∨ su = b) := by
    refine ⟨by omega, by omega, by omega, by omega, ?_, by omega⟩
    by_cases h : s.su.getD a.toNat 0 = s.su.getD b.toNat 0
    · exact h
    · exact absurd (.inr (.inl h)) hc
  obtain ⟨a0, a1, b0, b1, he, hs⟩ := h1
  obtain ⟨p, rfl⟩ := Int.eq_ofNat_of_zero_le a0
  obtain ⟨q, rfl⟩ := Int.eq_ofNat_of_zero_le b0
  have hp : p < s.su.length := by omega
  have hq : q < s.su.length := by omega
  have he2 := he
  rw [show s.su.getD ((p : Nat) : Int).toNat 0 = s.su[p] by simp [List.getD, hp], show s.su.getD ((q : Nat) : Int).toNat 0 = s.su[q] by simp [List.getD, hq]] at he2
  have hst : ∀ i : Nat, (i = p ∨ i = q) → ¬ StayC s (i : Int) p q := fun i hi h => by
    unfold StayC at h
    rcases h with h | h | h
    · omega
    · exact h he
    · omega
  rcases hs with rfl | rfl
  · exact ⟨p, q, hp, hq, rfl, by omega, he2, hst q (.inr rfl), by omega⟩
  · exact ⟨q, p, hq, hp, rfl, by omega, he2.symm, hst p (.inl rfl), by omega⟩
/-- The place of a kind of a suit, told by its number. -/
theorem place_at {s : TSet} (e : chkErr s = 0) {j : Nat} (hj : j < s.su.length) {r : Int} (h0 : 0 ≤ r) (h1 : r < s.su[j]) : placeP s (sumI (s.su.take j) + r) = ((j : Int), r) := by
  have h := place_mem (mem_suit e (k := sumI (s.su.take j) + r) (j := j) (r := r.toNat) ⟨hj, by omega, by omega⟩)
  rwa [Int.toNat_of_nonneg h0] at h

structure MirrLaw (s : TSet) (k a b : Int) : Prop where
  mm : mirrorI s (mirrorI s k) = k
  ss : swapI s (swapI s k a b) a b = k
  as_ : afterI s (swapI s k a b) = swapI s (afterI s k) a b
  r1 : runsB s k = true → runsB s (mirrorI s (k + 2)) = true
  r2 : runsB s k = true → mirrorI s (k + 2) + 2 = mirrorI s k
  rs : runsB s (swapI s k a b) = runsB s k
  om : decide (mirrorI s k ∈ orphansI s) = decide (k ∈ orphansI s)
  os : decide (swapI s k a b ∈ orphansI s) = decide (k ∈ orphansI s)
  bnd : 0 ≤ k ∧ k ≤ 60
  rb : runsB s k = true → -100 ≤ mirrorI s (k + 2) ∧ mirrorI s (k + 2) ≤ 100

theorem orph_mem {s : TSet} {k : Int} (h0 : 0 ≤ k) (h1 : k < ((allP s).length : Int)) : decide (k ∈ orphansI s) = orphB s (k, placeP s k) := by
  have hm := place_in h0 h1
  cases h : orphB s (k, placeP s k)
  · refine decide_eq_false fun hk => ?_
    unfold orphansI at hk
    obtain ⟨x, hx, rfl⟩ := List.mem_map.1 hk
    rw [List.mem_filter] at hx
    rw [place_mem hx.1] at h
    rw [h] at hx
    simp at hx
  · refine decide_eq_true ?_
    unfold orphansI
    exact List.mem_map.2 ⟨_, List.mem_filter.2 ⟨hm, h⟩, rfl⟩
theorem place_range {s : TSet} {k su r : Int} (h : placeP s k = (su, r)) (h4 : su ≠ -4) : 0 ≤ k ∧ k < ((allP s).length : Int) := by
  by_cases hk : k < 0 ∨ ((allP s).length : Int) ≤ k
  · rw [place_out hk] at h; injection h with h _; omega
  · omega
theorem orph_place {s : TSet} {k su r : Int} (h : placeP s k = (su, r)) (h4 : su ≠ -4) : decide (k ∈ orphansI s) = !(decide (su = -3) || (decide (0 ≤ su) && (decide (0 < r) && decide (r < lenI s su - 1)))) := by
  obtain ⟨h0, h1⟩ := place_range h h4
  rw [orph_mem h0 h1, h]
  rfl
theorem mirror_place {s : TSet} {k su r : Int} (h : placeP s k = (su, r)) (h4 : su ≠ -4) : ∃ r', placeP s (mirrorI s k) = (su, r') ∧ (su < 0 → mirrorI s k = k ∧ r' = r) ∧ (0 ≤ su → mirrorI s k = k + lenI s su - 1 - 2 * r ∧ r' = lenI s su - 1 - r) := by
  obtain ⟨hsu, h0, h1, h9, hk0, hk1, hp⟩ := place_row h h4
  by_cases hs : su < 0
  · have hm : mirrorI s k = k := by unfold mirrorI; rw [h]; simp only; rw [if_neg h4, if_pos hs]
    exact ⟨r, by rw [hm, h], fun _ => ⟨hm, rfl⟩, fun h => by omega⟩
  · have hm : mirrorI s k = k + lenI s su - 1 - 2 * r := by unfold mirrorI; rw [h]; simp only; rw [if_neg h4, if_neg hs]
    refine ⟨lenI s su - 1 - r, ?_, fun h => by omega, fun _ => ⟨hm, rfl⟩⟩
    have h2 := hp (lenI s su - 1 - r).toNat (by omega)
    rw [Int.toNat_of_nonneg (by omega), show k - r + (lenI s su - 1 - r) = mirrorI s k by rw [hm]; omega] at h2
    exact h2
theorem mirr_law {s : TSet} {k su r : Int} (a b : Int) (e : chkErr s = 0) (h : placeP s k = (su, r)) (h4 : su ≠ -4) : MirrLaw s k a b := by
  obtain ⟨hsu, h0, h1, h9, hk0, hk1, hp⟩ := place_row h h4
  obtain ⟨r', hm1, hm2, hm3⟩ := mirror_place h h4
  obtain ⟨r'', hn1, hn2, hn3⟩ := mirror_place hm1 h4
  have hrun : runsB s k = (decide (0 ≤ su) && decide (r + 2 < lenI s su)) := by unfold runsB; rw [h]
  have hm2' : runsB s k = true → ∃ q, placeP s (k + 2) = (su, r + 2) ∧ placeP s (mirrorI s (k + 2)) = (su, q) ∧ mirrorI s (k + 2) = k + 2 + lenI s su - 1 - 2 * (r + 2) ∧ q = lenI s su - 1 - (r + 2) ∧ 0 ≤ su := fun hr => by
    rw [hrun, Bool.and_eq_true, decide_eq_true_eq, decide_eq_true_eq] at hr
    have h2 := hp (r + 2).toNat (by omega)
    rw [Int.toNat_of_nonneg (by omega), show k - r + (r + 2) = k + 2 by omega] at h2
    obtain ⟨q, g1, g2, g3⟩ := mirror_place h2 h4
    obtain ⟨g4, g5⟩ := g3 hr.1
    exact ⟨q, h2, g1, g4, g5, hr.1⟩
  have hafter : afterI s k = k - r + (r + 1) % lenI s su := by unfold afterI; rw [h]; simp only; rw [if_neg h4]
  have m0 := Int.emod_nonneg (r + 1) (show lenI s su ≠ 0 by omega)
  have m1 := Int.emod_lt_of_pos (r + 1) (show 0 < lenI s su by omega)
  have hpa : placeP s (afterI s k) = (su, (r + 1) % lenI s su) := by
    have h2 := hp ((r + 1) % lenI s su).toNat (by omega)
    rw [Int.toNat_of_nonneg m0, ← hafter] at h2
    exact h2
  have hswap : swapI s (swapI s k a b) a b = k ∧ afterI s (swapI s k a b) = swapI s (afterI s k) a b ∧ runsB s (swapI s k a b) = runsB s k ∧ decide (swapI s k a b ∈ orphansI s) = decide (k ∈ orphansI s) := by
    by_cases hc : StayC s su a b
    · have h5 := swap_stay h h4 hc
      have h6 := swap_stay hpa h4 hc
      rw [h5, h6]
      exact ⟨h5, rfl, rfl, rfl⟩
    · obtain ⟨j, i, hj, hi, rfl, hab, hlen, hst, hback⟩ := go_is hc
      have h5 : swapI s k a b = sumI (s.su.take i) + r := by rw [swap_go h h4 hc, hab, Int.toNat_natCast]
      have h6 : swapI s (afterI s k) a b = sumI (s.su.take i) + (r + 1) % lenI s j := by rw [swap_go hpa h4 hc, hab, Int.toNat_natCast]
      have hll : lenI s (i : Int) = lenI s (j : Int) := by rw [lenI_suit hi, lenI_suit hj, hlen]
      rw [lenI_suit hj] at h1
      have h7 : placeP s (swapI s k a b) = ((i : Int), r) := by rw [h5]; exact place_at e hi h0 (by omega)
      have hk : k = sumI (s.su.take j) + r := by
        rcases place_is s k with hq | ⟨_, j', r', hq, _, _, hk'⟩ | ⟨_, su', r', hq, hs', _, _, _⟩
        · rw [hq] at h; injection h with h _; omega
        · rw [hq] at h
          injection h with h g
          obtain rfl : j' = j := by omega
          omega
        · rw [hq] at h; injection h with h _; omega
      refine ⟨?_, ?_, ?_, ?_⟩
      · rw [swap_go h7 (by omega) hst, hback, Int.toNat_natCast]; omega
      · have h8 : afterI s (swapI s k a b) = swapI s k a b - r + (r + 1) % lenI s i := by unfold afterI; rw [h7]; simp only; rw [if_neg (by omega)]
        rw [h8, h6, h5, hll]; omega
      · rw [hrun]; unfold runsB; rw [h7]; simp only; rw [hll, decide_eq_true (show (0 : Int) ≤ (i : Int) by omega), decide_eq_true (show (0 : Int) ≤ (j : Int) by omega)]
      · rw [orph_place h7 (by omega), orph_place h h4, hll, decide_eq_true (show (0 : Int) ≤ (i : Int) by omega), decide_eq_true (show (0 : Int) ≤ (j : Int) by omega), decide_eq_false (show ¬ (i : Int) = -3 by omega), decide_eq_false (show ¬ (j : Int) = -3 by omega)]
  refine ⟨?_, hswap.1, hswap.2.1, fun hr => ?_, fun hr => ?_, hswap.2.2.1, ?_, hswap.2.2.2, by omega, fun hr => ?_⟩
  · by_cases hs : su < 0
    · rw [(hm2 hs).1]; exact (hm2 hs).1
    · have g1 := hm3 (by omega)
      have g2 := hn3 (by omega)
      omega
  · obtain ⟨q, g1, g2, g3, g4, g5⟩ := hm2' hr
    unfold runsB
    rw [g2]
    simp only
    rw [decide_eq_true g5, decide_eq_true (show q + 2 < lenI s su by omega)]; rfl
  · obtain ⟨q, g1, g2, g3, g4, g5⟩ := hm2' hr
    have g6 := hm3 g5
    omega
  · rw [orph_place hm1 h4, orph_place h h4]
    by_cases hs : su < 0
    · rw [(hm2 hs).2]
    · rw [(hm3 (by omega)).2]
      have d1 : decide (0 < lenI s su - 1 - r) = decide (r < lenI s su - 1) := decide_eq_decide.2 (by omega)
      have d2 : decide (lenI s su - 1 - r < lenI s su - 1) = decide (0 < r) := decide_eq_decide.2 (by omega)
      rw [d1, d2, Bool.and_comm (decide (r < lenI s su - 1))]
  · obtain ⟨q, g1, g2, g3, g4, g5⟩ := hm2' hr
    omega
end Go.Proofs.Ytjiahcfegfimmaa
