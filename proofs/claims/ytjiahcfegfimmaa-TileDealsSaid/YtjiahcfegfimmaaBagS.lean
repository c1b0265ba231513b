/-
  Red tiles, bags, faces, cuts, swaps, orphans: in plain terms. No program.
-/
import Derived.Test.YtjiahcfegfimmaaAfter
import Derived.Test.YtjiahcfegfimmaaOnce
namespace Go.Proofs.Ytjiahcfegfimmaa
open Go.RowKit

/-- Ascending, no number twice. -/
def AscZ (l : List Int) : Prop := ∀ (i j : Nat) (hi : i < l.length) (hj : j < l.length), i < j → l[i] < l[j]
theorem risErr_cons {many p k : Int} {l : List Int} (h : risErr many p (k :: l) = 0) : (0 ≤ k ∧ k < many) ∧ p < k ∧ risErr many k l = 0 := by
  unfold risErr at h
  by_cases h1 : k < 0 ∨ many ≤ k
  · rw [if_pos h1] at h; omega
  rw [if_neg h1] at h
  by_cases h2 : k ≤ p
  · rw [if_pos h2] at h; omega
  rw [if_neg h2] at h
  exact ⟨by omega, by omega, h⟩
theorem risErr_above {many p : Int} {l : List Int} (h : risErr many p l = 0) : ∀ z ∈ l, p < z ∧ 0 ≤ z ∧ z < many := by
  induction l generalizing p with
  | nil => simp
  | cons k l ih =>
    obtain ⟨h1, h2, h3⟩ := risErr_cons h
    intro z hz
    rcases List.mem_cons.1 hz with rfl | hz
    · exact ⟨h2, h1⟩
    · have := ih h3 z hz; omega
theorem risErr_asc {many p : Int} {l : List Int} (h : risErr many p l = 0) : AscZ l := by
  induction l generalizing p with
  | nil => intro i j hi; simp at hi
  | cons k l ih =>
    obtain ⟨h1, h2, h3⟩ := risErr_cons h
    intro i j hi hj hij
    cases j with
    | zero => omega
    | succ j =>
      simp at hj
      cases i with
      | zero => exact (risErr_above h3 _ (List.getElem_mem hj)).1
      | succ i => exact ih h3 i j (by omega) hj (by omega)
theorem bin_found {l : List Int} {k : Int} {i : Nat} (h1 : ∀ (j : Nat) (hj : j < l.length), j < i → l[j] < k) (h2 : ∀ (j : Nat) (hj : j < l.length), i ≤ j → k ≤ l[j]) (ha : AscZ l) (hi : i < l.length) : decide (k ∈ l) = decide (l[i] = k) := by
  by_cases h : l[i] = k
  · rw [decide_eq_true h, decide_eq_true]; exact h ▸ List.getElem_mem hi
  · rw [decide_eq_false h, decide_eq_false]
    intro hm
    obtain ⟨j, hj, rfl⟩ := List.getElem_of_mem hm
    rcases Nat.lt_trichotomy j i with hlt | rfl | hgt
    · have := h1 j hj hlt; omega
    · exact h rfl
    · have := h2 i hi (Nat.le_refl _)
      have := ha i j hi hj hgt
      omega
theorem bin_none {l : List Int} {k : Int} {i : Nat} (h1 : ∀ (j : Nat) (hj : j < l.length), j < i → l[j] < k) (hi : l.length ≤ i) : decide (k ∈ l) = false := by
  refine decide_eq_false fun hm => ?_
  obtain ⟨j, hj, rfl⟩ := List.getElem_of_mem hm
  have := h1 j hj (by omega)
  omega

/-- Whether a tile is red. -/
def redB (s : TSet) (t : Int) : Bool := (decide (0 ≤ kindI s t) && decide (kindI s t < kindsI s)) && (decide (t % s.co = 0) && decide (kindI s t ∈ s.re))
/-- What tiles are seen as. -/
def facesI (s : TSet) (ts : List Int) : List (Int × Bool) := ts.map fun t => (kindI s t, redB s t)
/-- How many tiles of a list are of a kind. -/
def cntI (s : TSet) (ts : List Int) (k : Int) : Int := ((ts.filter fun t => decide (kindI s t = k)).length : Int)
def bagI (s : TSet) (ts : List Int) : List Int := (List.range (kindsI s).toNat).map fun (k : Nat) => cntI s ts (k : Int)
theorem bagI_length (s : TSet) (ts : List Int) : (bagI s ts).length = (kindsI s).toNat := by simp [bagI]
theorem bagI_nil (s : TSet) : bagI s [] = List.replicate (kindsI s).toNat 0 := by
  refine List.ext_getElem (by simp [bagI]) fun i h1 h2 => ?_
  simp [bagI, cntI]
theorem cntI_snoc (s : TSet) (ts : List Int) (t k : Int) : cntI s (ts ++ [t]) k = cntI s ts k + if kindI s t = k then 1 else 0 := by
  unfold cntI
  rw [List.filter_append]
  by_cases h : kindI s t = k
  · simp [h]
  · simp [h]
theorem bagI_snoc_in {s : TSet} {ts : List Int} {t : Int} (h0 : 0 ≤ kindI s t) (_h1 : kindI s t < kindsI s) (hl : (kindI s t).toNat < (bagI s ts).length) : bagI s (ts ++ [t]) = (bagI s ts).set (kindI s t).toNat ((bagI s ts)[(kindI s t).toNat] + 1) := by
  refine List.ext_getElem (by simp [bagI]) fun i i1 i2 => ?_
  rw [List.getElem_set]
  simp only [bagI, List.getElem_map, List.getElem_range]
  rw [cntI_snoc]
  by_cases h : (kindI s t).toNat = i
  · rw [if_pos h, if_pos (by omega), h]
  · rw [if_neg h, if_neg (by omega)]; omega
theorem bagI_snoc_out {s : TSet} {ts : List Int} {t : Int} (h1 : kindsI s ≤ kindI s t) : bagI s (ts ++ [t]) = bagI s ts := by
  refine List.ext_getElem (by simp [bagI]) fun i i1 i2 => ?_
  simp only [bagI, List.getElem_map, List.getElem_range]
  simp [bagI] at i1
  rw [cntI_snoc, if_neg (by omega)]; omega
theorem cntI_bound (s : TSet) (ts : List Int) (k : Int) : 0 ≤ cntI s ts k ∧ cntI s ts k ≤ ts.length := by
  unfold cntI
  have := List.length_filter_le (fun t => decide (kindI s t = k)) ts
  omega
theorem bagI_bound {s : TSet} {ts : List Int} {i : Nat} (h : i < (bagI s ts).length) : 0 ≤ (bagI s ts)[i] ∧ (bagI s ts)[i] ≤ ts.length := by
  simp only [bagI, List.getElem_map, List.getElem_range]
  exact cntI_bound s ts _

/-- The kind after swapping two suits. -/
def swapI (s : TSet) (k a b : Int) : Int :=
  if (placeP s k).1 = -4 then -1
  else if (a < 0 ∨ b < 0 ∨ (s.su.length : Int) ≤ a ∨ (s.su.length : Int) ≤ b) ∨ s.su.getD a.toNat 0 ≠ s.su.getD b.toNat 0 ∨ ((placeP s k).1 ≠ a ∧ (placeP s k).1 ≠ b) then k
  else sumI (s.su.take (a + b - (placeP s k).1).toNat) + (placeP s k).2
/-- Whether a kind is an orphan. -/
def orphB (s : TSet) (x : KPlace) : Bool := !(decide (x.2.1 = -3) || (decide (0 ≤ x.2.1) && (decide (0 < x.2.2) && decide (x.2.2 < lenI s x.2.1 - 1))))
def orphansI (s : TSet) : List Int := ((allP s).filter (orphB s)).map (·.1)

/-- The first error of dice and a dealer. -/
def cutErr (s : TSet) (d : Int) (dice : List Int) : Int :=
  if chkErr s ≠ 0 then chkErr s else if d < 0 ∨ s.pl ≤ d then 2 else if dice.length = 0 then 6 else if 4 < dice.length then 8 else if dice.any (fun x => decide (x < 1) || decide (6 < x)) = true then 2 else 0
def cutI (s : TSet) (d : Int) (dice : List Int) : Int := (sizeI s * ((d + sumI dice - 1) % s.pl) / s.pl + 2 * sumI dice) % sizeI s
end Go.Proofs.Ytjiahcfegfimmaa
