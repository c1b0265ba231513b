/-
  Binomials. Plain lemmas, no program.
-/
import Derived.Test.YtomgilkchlediaaGreatDoorDig
namespace Go.Proofs.YtomgilkchlediaaGreatDoor

def binom : Nat → Nat → Nat
  | _, 0 => 1
  | 0, _ + 1 => 0
  | n + 1, k + 1 => binom n k + binom n (k + 1)
theorem binom_zero (n : Nat) : binom n 0 = 1 := by cases n <;> rfl
theorem binom_succ (n k : Nat) : binom (n + 1) (k + 1) = binom n k + binom n (k + 1) := rfl
theorem binom_gt {n k : Nat} (h : n < k) : binom n k = 0 := by
  induction n generalizing k with
  | zero => cases k with
    | zero => omega
    | succ k => rfl
  | succ n ih => cases k with
    | zero => omega
    | succ k => rw [binom_succ, ih (by omega), ih (by omega)]
theorem binom_self (n : Nat) : binom n n = 1 := by
  induction n with
  | zero => rfl
  | succ n ih => rw [binom_succ, ih, binom_gt (by omega)]
theorem binom_le (n k : Nat) : binom n k ≤ 2 ^ n := by
  induction n generalizing k with
  | zero => cases k with
    | zero => simp [binom]
    | succ k => simp [binom]
  | succ n ih => cases k with
    | zero => rw [binom_zero]; exact Nat.one_le_two_pow
    | succ k => rw [binom_succ, Nat.pow_succ]; have := ih k; have := ih (k + 1); omega
theorem binom_pos {n k : Nat} (h : k ≤ n) : 0 < binom n k := by
  induction n generalizing k with
  | zero => obtain rfl : k = 0 := by omega
            simp [binom]
  | succ n ih => cases k with
    | zero => rw [binom_zero]; omega
    | succ k => rw [binom_succ]; have := ih (show k ≤ n by omega); omega
/-- b(n, k + 1) (k + 1) = b(n, k) (n - k). -/
theorem binom_step (n k : Nat) : binom n (k + 1) * (k + 1) = binom n k * (n - k) := by
  induction n generalizing k with
  | zero => simp [binom]
  | succ n ih =>
    rw [binom_succ]
    cases k with
    | zero =>
      have h := ih 0
      simp only [binom_zero, Nat.zero_add, Nat.mul_one, Nat.one_mul, Nat.sub_zero] at h ⊢
      omega
    | succ k =>
      rcases Nat.lt_or_ge n (k + 1) with h | h
      · rw [binom_gt (show n < k + 1 + 1 by omega), binom_gt (show n < k + 1 by omega)]
        rcases Nat.lt_or_ge n k with h' | h'
        · rw [binom_succ, binom_gt h', binom_gt (show n < k + 1 by omega)]; simp
        · rw [show n + 1 - (k + 1) = 0 by omega]; simp
      · have h1 := ih k
        have h2 := ih (k + 1)
        rw [binom_succ]
        obtain ⟨m, rfl⟩ : ∃ m, n = k + 1 + m := ⟨n - (k + 1), by omega⟩
        rw [show k + 1 + m - k = m + 1 by omega] at h1
        rw [show k + 1 + m - (k + 1) = m by omega] at h2
        rw [show k + 1 + m + 1 - (k + 1) = m + 1 by omega]
        generalize binom (k + 1 + m) k = a at *
        generalize binom (k + 1 + m) (k + 1) = b at *
        generalize binom (k + 1 + m) (k + 1 + 1) = c at *
        grind
theorem binom_symm {n k : Nat} (h : k ≤ n) : binom n (n - k) = binom n k := by
  induction n generalizing k with
  | zero => obtain rfl : k = 0 := by omega
            rfl
  | succ n ih =>
    cases k with
    | zero => rw [Nat.sub_zero, binom_self, binom_zero]
    | succ k =>
      rcases Nat.lt_or_ge n (k + 1) with h' | h'
      · obtain rfl : k = n := by omega
        rw [Nat.sub_self, binom_zero, binom_self]
      · rw [show n + 1 - (k + 1) = (n - (k + 1)) + 1 by omega, binom_succ, binom_succ, ih h', show n - (k + 1) + 1 = n - k by omega, ih (by omega)]
        omega

theorem binom_mono {a b : Nat} (k : Nat) (h : a ≤ b) : binom a k ≤ binom b k := by
  induction b with
  | zero => obtain rfl : a = 0 := by omega
            exact Nat.le_refl _
  | succ b ih =>
    rcases Nat.lt_or_ge b a with h' | h'
    · obtain rfl : a = b + 1 := by omega
      exact Nat.le_refl _
    · refine Nat.le_trans (ih h') ?_
      cases k with
      | zero => rw [binom_zero, binom_zero]; exact Nat.le_refl _
      | succ k => rw [binom_succ]; omega

/-- b(n, k) of integers. -/
def chooseI (n k : Int) : Int := if k < 0 ∨ n < k then 0 else (binom n.toNat k.toNat : Int)
theorem chooseI_out {n k : Int} (h : k < 0 ∨ n < k) : chooseI n k = 0 := by unfold chooseI; rw [if_pos h]
theorem chooseI_nat (n k : Nat) : chooseI (n : Int) (k : Int) = (binom n k : Int) := by
  unfold chooseI
  rcases Nat.lt_or_ge n k with h | h
  · rw [if_pos (by omega), binom_gt h]; rfl
  · rw [if_neg (by omega)]; simp
theorem chooseI_mono {a b : Int} (k : Int) (h0 : 0 ≤ a) (h : a ≤ b) : chooseI a k ≤ chooseI b k := by
  obtain ⟨A, rfl⟩ := Int.eq_ofNat_of_zero_le h0
  obtain ⟨B, rfl⟩ := Int.eq_ofNat_of_zero_le (show 0 ≤ b by omega)
  rcases (show k < 0 ∨ 0 ≤ k by omega) with hk | hk
  · rw [chooseI_out (.inl hk), chooseI_out (.inl hk)]; omega
  · obtain ⟨K, rfl⟩ := Int.eq_ofNat_of_zero_le hk
    rw [chooseI_nat, chooseI_nat]
    have := binom_mono K (show A ≤ B by omega)
    omega
theorem chooseI_nonneg (n k : Int) : 0 ≤ chooseI n k := by
  unfold chooseI
  by_cases h : k < 0 ∨ n < k
  · rw [if_pos h]; omega
  · rw [if_neg h]; omega
theorem two_pow_le {n : Nat} (h : n ≤ 200) : (2 : Nat) ^ n ≤ 2 ^ 200 := Nat.pow_le_pow_right (by omega) h
theorem binom_small {n : Nat} (k : Nat) (h : n ≤ 200) : (binom n k : Int) < 1000000000000000000000000000000000000000000000000000000000000000 := by
  have h1 := binom_le n k
  have h2 := two_pow_le h
  have h3 : (2 : Nat) ^ 200 < 1000000000000000000000000000000000000000000000000000000000000000 := by decide
  omega
theorem chooseI_lt {n : Int} (k : Int) (h : n ≤ 200) : chooseI n k < 1000000000000000000000000000000000000000000000000000000000000000 := by
  unfold chooseI
  by_cases h' : k < 0 ∨ n < k
  · rw [if_pos h']; omega
  · rw [if_neg h']; exact binom_small _ (by omega)
theorem chooseI_small {n : Int} (k : Int) (h : n ≤ 200) : Small (chooseI n k) := small_of_lit (chooseI_lt k h)

/-- One step of a division by a small number, from the greatest digit down. -/
theorem under_step {xs os : List Int} {k : Nat} {r b : Int} (hk : k < xs.length) (hl : os.length = xs.length)
    (hv : val (xs.drop (k + 1)) = b * val (os.drop (k + 1)) + r) :
    val (xs.drop k) = b * val ((os.set k ((r * 1000000000 + xs[k]) / b)).drop k) + (r * 1000000000 + xs[k]) % b := by
  have e1 : xs.drop k = xs[k] :: xs.drop (k + 1) := List.drop_eq_getElem_cons hk
  have e2 : (os.set k ((r * 1000000000 + xs[k]) / b)).drop k = (r * 1000000000 + xs[k]) / b :: os.drop (k + 1) := by
    rw [List.drop_eq_getElem_cons (by simp; omega)]
    rw [List.getElem_set_self, List.drop_set_of_lt (by omega)]
  rw [e1, e2]
  simp only [val]
  rw [hv]
  have e := Int.mul_ediv_add_emod (r * 1000000000 + xs[k]) b
  generalize (r * 1000000000 + xs[k]) / b = q at *
  generalize (r * 1000000000 + xs[k]) % b = m at *
  grind
theorem under_dig {r b d : Int} (hb : 0 < b) (hr : 0 ≤ r ∧ r < b) (hd : 0 ≤ d ∧ d < 1000000000) : 0 ≤ (r * 1000000000 + d) / b ∧ (r * 1000000000 + d) / b < 1000000000 ∧ 0 ≤ (r * 1000000000 + d) % b ∧ (r * 1000000000 + d) % b < b := by
  refine ⟨Int.ediv_nonneg (by omega) (by omega), ?_, Int.emod_nonneg _ (by omega), Int.emod_lt_of_pos _ hb⟩
  apply Int.ediv_lt_of_lt_mul hb
  have : (r + 1) * 1000000000 ≤ b * 1000000000 := Int.mul_le_mul_of_nonneg_right (by omega) (by omega)
  omega
theorem under_end {a b q r : Int} (hb : 0 < b) (hr : 0 ≤ r ∧ r < b) (h : a = b * q + r) : a / b = q := by
  rw [h, Int.add_comm, Int.add_mul_ediv_left _ _ (by omega), Int.ediv_eq_zero_of_lt hr.1 hr.2]; omega
theorem choose_step {n i : Nat} : ((binom n i : Int) * ((n : Int) - (i : Int))) / ((i : Int) + 1) = (if i ≤ n then (binom n (i + 1) : Int) else 0) := by
  by_cases h : i ≤ n
  · rw [if_pos h]
    have h1 := binom_step n i
    have h2 : ((binom n (i + 1) : Int)) * ((i : Int) + 1) = (binom n i : Int) * ((n : Int) - (i : Int)) := by
      have : (((binom n (i + 1) * (i + 1) : Nat)) : Int) = ((binom n i * (n - i) : Nat) : Int) := by rw [h1]
      rw [Int.natCast_mul, Int.natCast_mul, Int.natCast_add, Int.natCast_sub h] at this
      exact this
    rw [← h2, Int.mul_ediv_cancel _ (by omega)]
  · rw [if_neg h, binom_gt (by omega)]; simp
end Go.Proofs.YtomgilkchlediaaGreatDoor
