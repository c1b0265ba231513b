/-
  How many draws have at least what is wanted: the recurrence, kind by kind. Plain laws.
-/
import Derived.Test.YtgphdaipgodjgaaMade
namespace Go.Proofs.Ytgphdaipgodjgaa

/-- The ways to take d of a kind of which there are 'most', at least 'want'. -/
def gI (most want d : Int) : Int := if want ≤ d ∧ d ≤ most then chooseI most d else 0
/-- The ways to have s tiles behind a kind, from those with less than I before it. -/
def partW (W : Nat → Int) (most want : Int) : Nat → Nat → Int
  | 0, _ => 0
  | I + 1, s => partW W most want I s + W I * gI most want ((s : Int) - I)
def stepW (W : Nat → Int) (most want : Int) (s : Nat) : Int := partW W most want (s + 1) s
def wayW (u x : List Int) : Nat → Nat → Int
  | 0, s => if s = 0 then 1 else 0
  | k + 1, s => stepW (wayW u x k) (u.getD k 0) (x.getD k 0) s

theorem choose_small {m d : Int} (h : m ≤ 4) : 0 ≤ chooseI m d ∧ chooseI m d ≤ 6 := by
  by_cases h0 : d < 0
  · rw [chooseI_out (.inl h0)]; omega
  · by_cases h1 : m < d
    · rw [chooseI_out (.inr h1)]; omega
    · obtain ⟨M, rfl⟩ := Int.eq_ofNat_of_zero_le (show 0 ≤ m by omega)
      obtain ⟨D, rfl⟩ := Int.eq_ofNat_of_zero_le (show 0 ≤ d by omega)
      rw [chooseI_nat]
      have key : ∀ M D : Fin 5, binom M.val D.val ≤ 6 := by decide
      have := key ⟨M, by omega⟩ ⟨D, by omega⟩
      simp only at this
      omega
theorem gI_small {m x d : Int} (h : m ≤ 4) : 0 ≤ gI m x d ∧ gI m x d ≤ 6 := by
  unfold gI
  split
  · exact choose_small h
  · omega
theorem gI_out {m x d : Int} (h : d < x ∨ m < d) : gI m x d = 0 := by
  unfold gI
  rw [if_neg (by omega)]
theorem gI_in {m x d : Int} (h : x ≤ d) (k : d ≤ m) : gI m x d = chooseI m d := by
  unfold gI
  rw [if_pos ⟨h, k⟩]
theorem partW_more {W : Nat → Int} {m x : Int} (hx : 0 ≤ x) (s : Nat) : ∀ t, partW W m x (s + 1 + t) s = stepW W m x s := by
  intro t
  induction t with
  | zero => rfl
  | succ t ih =>
    rw [show s + 1 + (t + 1) = (s + 1 + t) + 1 by omega, partW, ih, gI_out (.inl (by omega)), Int.mul_zero, Int.add_zero]
theorem partW_less {W : Nat → Int} {m x : Int} {L : Nat} (hW : ∀ i, L ≤ i → W i = 0) (s : Nat) : ∀ t, partW W m x (L + t) s = partW W m x L s := by
  intro t
  induction t with
  | zero => rfl
  | succ t ih => rw [show L + (t + 1) = (L + t) + 1 by omega, partW, ih, hW _ (by omega), Int.zero_mul, Int.add_zero]
/-- All that there was. -/
theorem partW_all {W : Nat → Int} {m x : Int} {L : Nat} (hx : 0 ≤ x) (hW : ∀ i, L ≤ i → W i = 0) (s : Nat) : partW W m x L s = stepW W m x s := by
  rcases Nat.lt_or_ge s L with h | h
  · rw [show L = s + 1 + (L - (s + 1)) by omega]; exact partW_more hx s _
  · have := partW_less (m := m) (x := x) hW s (s + 1 - L)
    rw [show L + (s + 1 - L) = s + 1 by omega] at this
    exact this.symm
/-- Each step's partial sums are at most thirty times the greatest before. -/
theorem partW_small {W : Nat → Int} {m x B : Int} (hm : m ≤ 4) (hx : 0 ≤ x) (hB : 0 ≤ B) (hW : ∀ i, 0 ≤ W i ∧ W i ≤ B) (I s : Nat) : 0 ≤ partW W m x I s ∧ partW W m x I s ≤ 30 * B := by
  have key : ∀ I, 0 ≤ partW W m x I s ∧ ((I : Int) + 4 ≤ s → partW W m x I s = 0) ∧ ((I : Int) ≤ s + 1 → (s : Int) < I + 4 → partW W m x I s ≤ 6 * B * (I + 4 - s)) ∧ partW W m x I s ≤ 30 * B := by
    intro I
    induction I with
    | zero =>
      refine ⟨by simp [partW], fun _ => rfl, fun h1 h2 => ?_, by simp [partW]; omega⟩
      simp only [partW]
      exact Int.mul_nonneg (by omega) (by omega)
    | succ I ih =>
      obtain ⟨i1, i2, i3, i4⟩ := ih
      have hw := hW I
      have e : partW W m x (I + 1) s = partW W m x I s + W I * gI m x ((s : Int) - I) := rfl
      by_cases hz : (s : Int) - I < 0 ∨ 4 < (s : Int) - I
      · have hg : gI m x ((s : Int) - I) = 0 := gI_out (by omega)
        rw [e, hg, Int.mul_zero, Int.add_zero]
        refine ⟨i1, fun h => i2 (by omega), fun h1 h2 => ?_, i4⟩
        omega
      · have hg := gI_small (x := x) (d := (s : Int) - I) hm
        have h1 : 0 ≤ W I * gI m x ((s : Int) - I) := Int.mul_nonneg hw.1 hg.1
        have h2 : W I * gI m x ((s : Int) - I) ≤ 6 * B := by
          have a1 : W I * gI m x ((s : Int) - I) ≤ W I * 6 := Int.mul_le_mul_of_nonneg_left hg.2 hw.1
          omega
        generalize W I * gI m x ((s : Int) - I) = y at *
        have h3 : partW W m x I s ≤ 6 * B * ((I : Int) + 4 - s) := by
          by_cases hq : (s : Int) < I + 4
          · exact i3 (by omega) hq
          · rw [i2 (by omega)]
            exact Int.mul_nonneg (by omega) (by omega)
        have h4 : 6 * B * (((I + 1 : Nat) : Int) + 4 - s) = 6 * B * ((I : Int) + 4 - s) + 6 * B := by
          rw [show ((I + 1 : Nat) : Int) + 4 - s = ((I : Int) + 4 - s) + 1 by omega, Int.mul_add, Int.mul_one]
        have h5 : 6 * B * ((I : Int) + 4 - s) ≤ 6 * B * 4 := Int.mul_le_mul_of_nonneg_left (by omega) (by omega)
        rw [e]
        exact ⟨by omega, fun h => by omega, fun _ _ => by omega, by omega⟩
  exact ⟨(key I).1, (key I).2.2.2⟩
def thirty : Nat → Int
  | 0 => 1
  | k + 1 => 30 * thirty k
theorem thirty_pos (k : Nat) : 0 < thirty k := by
  induction k with
  | zero => simp [thirty]
  | succ k ih => simp only [thirty]; omega
theorem thirty_mono {a b : Nat} (h : a ≤ b) : thirty a ≤ thirty b := by
  obtain ⟨d, rfl⟩ := Nat.exists_eq_add_of_le h
  induction d with
  | zero => exact Int.le_refl _
  | succ d ih =>
    have h1 := ih (by omega)
    have h2 := thirty_pos (a + d)
    rw [← Nat.add_assoc]
    simp only [thirty]
    omega
theorem Within.getD {lo hi : Int} {l : List Int} (h : Within lo hi l) (h0 : lo ≤ 0) (h1 : 0 ≤ hi) (k : Nat) : lo ≤ l.getD k 0 ∧ l.getD k 0 ≤ hi := by
  rcases Nat.lt_or_ge k l.length with hk | hk
  · have := h.at_ hk
    simpa [List.getD, hk] using this
  · simp [List.getD, hk]; omega
theorem wayW_small {u x : List Int} (hu : Within 0 4 u) (hx : Within 0 4 x) (k s : Nat) : 0 ≤ wayW u x k s ∧ wayW u x k s ≤ thirty k := by
  induction k generalizing s with
  | zero => unfold wayW; split <;> simp [thirty]
  | succ k ih => exact partW_small (hu.getD (by omega) (by omega) k).2 (hx.getD (by omega) (by omega) k).1 (Int.le_of_lt (thirty_pos k)) ih (s + 1) s
theorem small_thirty {n : Int} {k : Nat} (hk : k ≤ 34) (h : n ≤ 30 * thirty k) : Small n := by
  refine small_of_lit ?_
  have h1 := thirty_mono hk
  have h2 : thirty 34 = 166771816996665690000000000000000000000000000000000 := by decide
  omega
/-- Nothing is left behind the tiles of the kinds so far. -/
theorem partW_zero {W : Nat → Int} {m x : Int} {L s : Nat} (hW : ∀ i, L ≤ i → W i = 0) (hs : (L : Int) + m ≤ s) : ∀ I, partW W m x I s = 0 := by
  intro I
  induction I with
  | zero => rfl
  | succ I ih =>
    rw [partW, ih]
    rcases Nat.lt_or_ge I L with h | h
    · rw [gI_out (.inr (by omega)), Int.mul_zero]; rfl
    · rw [hW I h, Int.zero_mul]; rfl
theorem wayW_zero {u x : List Int} (hu : Within 0 4 u) (k s : Nat) (hs : 1 + sumI (u.take k) ≤ s) : wayW u x k s = 0 := by
  induction k generalizing s with
  | zero =>
    unfold wayW
    rw [if_neg (by simp [sumI] at hs; omega)]
  | succ k ih =>
    have hu0 := hu.getD (by omega) (by omega) k
    have hs0 : 0 ≤ sumI (u.take k) := by have := (hu.take k).sum; omega
    obtain ⟨L, hL⟩ := Int.eq_ofNat_of_zero_le (show 0 ≤ 1 + sumI (u.take k) by omega)
    have e : sumI (u.take (k + 1)) = sumI (u.take k) + u.getD k 0 := by
      rcases Nat.lt_or_ge k u.length with hk | hk
      · rw [sumI_take u hk]; simp [List.getD, hk]
      · rw [List.take_of_length_le (by omega), List.take_of_length_le hk]; simp [List.getD, hk]
    exact partW_zero (L := L) (fun i hi => ih i (by omega)) (by omega) (s + 1)
end Go.Proofs.Ytgphdaipgodjgaa
