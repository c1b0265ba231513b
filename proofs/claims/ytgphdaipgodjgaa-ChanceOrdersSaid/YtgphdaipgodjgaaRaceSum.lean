/-
  All ways of a race; races with one draw more. Plain laws.
-/
import Derived.Test.YtgphdaipgodjgaaRace
namespace Go.Proofs.Ytgphdaipgodjgaa

def sumF (f : Nat → Int) : Nat → Int
  | 0 => 0
  | k + 1 => sumF f k + f k
theorem sumF_add (f g : Nat → Int) (n : Nat) : sumF (fun s => f s + g s) n = sumF f n + sumF g n := by
  induction n with
  | zero => rfl
  | succ n ih => simp only [sumF, ih]; omega
theorem sumF_zero (n : Nat) : sumF (fun _ => 0) n = 0 := by
  induction n with
  | zero => rfl
  | succ n ih => simp only [sumF, ih]; rfl
theorem sumF_hit (z x : Int) (n : Nat) : sumF (fun s => if z = (s : Int) then x else 0) n = if 0 ≤ z ∧ z < n then x else 0 := by
  induction n with
  | zero => rw [if_neg (by omega)]; rfl
  | succ n ih =>
    simp only [sumF, ih]
    by_cases h1 : z = (n : Int)
    · rw [if_pos h1, if_neg (by omega), if_pos (by omega)]; omega
    · rw [if_neg h1]
      by_cases h2 : 0 ≤ z ∧ z < n
      · rw [if_pos h2, if_pos (by omega)]; omega
      · rw [if_neg h2, if_neg (by omega)]; rfl
theorem sumF_mono {f : Nat → Int} (h : ∀ s, 0 ≤ f s) {a b : Nat} (hab : a ≤ b) : sumF f a ≤ sumF f b := by
  obtain ⟨d, rfl⟩ := Nat.exists_eq_add_of_le hab
  induction d with
  | zero => exact Int.le_refl _
  | succ d ih =>
    have := ih (by omega)
    have := h (a + d)
    rw [← Nat.add_assoc]
    simp only [sumF]
    omega
theorem sumF_nonneg {f : Nat → Int} (h : ∀ s, 0 ≤ f s) (n : Nat) : 0 ≤ sumF f n := sumF_mono h (Nat.zero_le n)
theorem sumF_one {f : Nat → Int} (h : ∀ s, 0 ≤ f s) {s n : Nat} (hs : s < n) : f s ≤ sumF f n := by
  have h1 := sumF_mono h (show s + 1 ≤ n by omega)
  have h2 := sumF_nonneg h s
  simp only [sumF] at h1
  omega

theorem raceK_sum (u : List Int) (ws : List (List Int)) (seat : Nat) (b : Int) (k : Nat) : sumF (fun s => raceK u ws seat b s k) ws.length = b * markM u ws k := by
  induction k with
  | zero => simp only [raceK, markM, Int.mul_zero]; exact sumF_zero _
  | succ k ih =>
    simp only [raceK, markM]
    rw [sumF_add, ih, sumF_hit, Int.mul_add]
    rcases winI_ask ws seat (k : Int) with ⟨h1, h2, h3⟩ | ⟨h1, h2⟩
    · rw [if_pos ⟨h2, h3⟩, if_pos h1]
    · rw [if_neg (by omega), if_neg (by rw [h1]; simp), Int.mul_zero]
theorem raceW_sum {u : List Int} {ws : List (List Int)} {first N m t : Nat} (hm : markM u ws u.length = m) (_h1 : 1 ≤ m) (ht : t ≤ N) : sumF (fun s => raceW u ws first N m s t) ws.length = (chooseI (N : Int) m - chooseI ((N : Int) - t) m) * m := by
  induction t with
  | zero => simp only [raceW]; rw [sumF_zero]; simp
  | succ t ih =>
    simp only [raceW]
    rw [sumF_add, ih (by omega), raceK_sum, hm]
    have h := pascal (N - (t + 1)) (m : Int)
    have e1 : (N : Int) - t - 1 = ((N - (t + 1) : Nat) : Int) := by omega
    have e2 : (N : Int) - t = ((N - (t + 1) + 1 : Nat) : Int) := by omega
    have e3 : (N : Int) - ((t + 1 : Nat) : Int) = ((N - (t + 1) : Nat) : Int) := by omega
    rw [e1, e3, e2, ← h]
    generalize chooseI ((N - (t + 1) : Nat) : Int) ((m : Int) - 1) = x
    generalize chooseI ((N - (t + 1) : Nat) : Int) (m : Int) = y
    generalize chooseI (N : Int) (m : Int) = z
    grind
/-- All ways are those that somebody wins, and the others. -/
theorem race_all {u : List Int} {ws : List (List Int)} {F D N : Nat} (hu : Within 0 4 u) (hN : sumI u = N) (hD : D ≤ N) : raceN u ws D + sumF (raceF u ws F D) ws.length = raceA u ws := by
  have hm0 := (markM_le hu ws u.length).1
  obtain ⟨m, hm⟩ := Int.eq_ofNat_of_zero_le hm0
  have hm' : markAll u ws = m := hm
  unfold raceN raceA
  by_cases hz : m = 0
  · have ef : raceF u ws (F : Int) (D : Int) = fun _ => 0 := by funext s; unfold raceF; rw [if_pos (by omega)]
    rw [if_pos (by omega), if_pos (by omega), ef, sumF_zero]; rfl
  · have ef : raceF u ws (F : Int) (D : Int) = fun s => raceW u ws F N m s D := by
      funext s
      unfold raceF
      rw [if_neg (by omega), hm', hN]
      simp
    rw [if_neg (by omega), if_neg (by omega), ef, raceW_sum hm (by omega) hD, hm', hN]
    generalize chooseI (N : Int) (m : Int) = x
    generalize chooseI ((N : Int) - (D : Int)) (m : Int) = y
    grind
theorem raceF_nonneg {u : List Int} {ws : List (List Int)} {F D N : Nat} (hu : Within 0 4 u) (hl : u.length ≤ 34) (hN : sumI u = N) (h136 : N ≤ 136) (s : Nat) : 0 ≤ raceF u ws F D s := by
  unfold raceF
  split
  · omega
  · refine (raceW_le hu hl ws ?_).1
    rw [hN]; simpa using h136
theorem race_bounds {u : List Int} {ws : List (List Int)} {D N : Nat} (hu : Within 0 4 u) (hN : sumI u = N) (h136 : N ≤ 136) (hD : D ≤ N) : 0 ≤ raceN u ws D ∧ raceN u ws D ≤ raceA u ws ∧ raceA u ws < radix 40 := by
  have hmm := markM_le hu ws u.length
  rw [List.take_length, hN] at hmm
  obtain ⟨m, hm⟩ := Int.eq_ofNat_of_zero_le hmm.1
  have hm' : markAll u ws = m := hm
  have hb := choose_big (n := (N : Int)) (m : Int) (by omega)
  have hb2 := choose_big (n := (N : Int) - (D : Int)) (m : Int) (by omega)
  have hle := chooseI_mono (a := (N : Int) - (D : Int)) (b := (N : Int)) (m : Int) (by omega) (by omega)
  have h6 : (1 : Int) ≤ radix 6 := by simp [radix]
  have h7 : big41 * 136 < radix 6 := by unfold big41; simp only [radix]; omega
  have h8 := radix_mono (show 6 ≤ 40 by omega)
  unfold raceN raceA
  rw [hm', hN]
  by_cases hz : (m : Int) = 0
  · rw [if_pos hz, if_pos hz]
    have : (1 : Int) < radix 6 := by simp [radix]
    omega
  · rw [if_neg hz, if_neg hz]
    have k1 : 0 ≤ chooseI ((N : Int) - (D : Int)) m * m := Int.mul_nonneg hb2.1 (by omega)
    have k2 : chooseI ((N : Int) - (D : Int)) m * m ≤ chooseI N m * m := Int.mul_le_mul_of_nonneg_right hle (by omega)
    have k3 : chooseI N m * m ≤ big41 * 136 := Int.le_trans (Int.mul_le_mul_of_nonneg_right hb.2 (by omega)) (Int.mul_le_mul_of_nonneg_left (by omega) (Int.le_of_lt big41_pos))
    omega
/-- With one draw more none wins less often, and nobody more seldom. -/
theorem race_more {u : List Int} {ws : List (List Int)} {F D N : Nat} (hu : Within 0 4 u) (_hl : u.length ≤ 34) (hN : sumI u = N) (h136 : N ≤ 136) (hD : D < N) :
    raceN u ws ((D + 1 : Nat) : Int) ≤ raceN u ws D ∧ ∀ s, raceF u ws F D s ≤ raceF u ws F ((D + 1 : Nat) : Int) s := by
  have hmm := markM_le hu ws u.length
  rw [List.take_length, hN] at hmm
  obtain ⟨m, hm⟩ := Int.eq_ofNat_of_zero_le hmm.1
  have hm' : markAll u ws = m := hm
  refine ⟨?_, fun s => ?_⟩
  · unfold raceN
    rw [hm', hN]
    by_cases hz : (m : Int) = 0
    · rw [if_pos hz, if_pos hz]; omega
    · rw [if_neg hz, if_neg hz]
      exact Int.mul_le_mul_of_nonneg_right (chooseI_mono _ (by omega) (by omega)) (by omega)
  · unfold raceF
    rw [hm', hN]
    by_cases hz : (m : Int) = 0
    · rw [if_pos hz, if_pos hz]; omega
    · rw [if_neg hz, if_neg hz]
      simp only [Int.toNat_natCast, raceW]
      have := (raceK_le hu ws ((F + D) % ws.length) (choose_big (n := (N : Int) - D - 1) ((m : Int) - 1) (by omega)) s u.length).1
      omega
theorem race_none (u : List Int) (ws : List (List Int)) : raceN u ws ((0 : Nat) : Int) = raceA u ws := by
  unfold raceN raceA
  simp
end Go.Proofs.Ytgphdaipgodjgaa
