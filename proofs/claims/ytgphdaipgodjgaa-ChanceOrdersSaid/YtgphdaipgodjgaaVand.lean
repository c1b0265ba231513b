/-
  Vandermonde's sum. Plain laws.
-/
import Derived.Test.YtgphdaipgodjgaaBin
namespace Go.Proofs.Ytgphdaipgodjgaa

/-- Of the draws of n of m + r things, those with less than K of the m. -/
def vandS (m r n : Nat) : Nat → Nat
  | 0 => 0
  | K + 1 => vandS m r n K + binom m K * binom r (n - K)
theorem vandS_step (m r n : Nat) : ∀ K, K ≤ n + 1 → vandS (m + 1) r (n + 1) (K + 1) = vandS m r (n + 1) (K + 1) + vandS m r n K := by
  intro K
  induction K with
  | zero => intro _; simp [vandS, binom_zero]
  | succ K ih =>
    intro h
    have e1 : vandS (m + 1) r (n + 1) (K + 1 + 1) = vandS (m + 1) r (n + 1) (K + 1) + binom (m + 1) (K + 1) * binom r (n + 1 - (K + 1)) := rfl
    have e2 : vandS m r (n + 1) (K + 1 + 1) = vandS m r (n + 1) (K + 1) + binom m (K + 1) * binom r (n + 1 - (K + 1)) := rfl
    have e3 : vandS m r n (K + 1) = vandS m r n K + binom m K * binom r (n - K) := rfl
    rw [e1, e2, e3, ih (by omega), binom_succ, show n + 1 - (K + 1) = n - K by omega, Nat.add_mul]
    omega
theorem vandS_nought (r n : Nat) : ∀ K, vandS 0 r n (K + 1) = binom r n := by
  intro K
  induction K with
  | zero => simp [vandS, binom_zero]
  | succ K ih => rw [vandS, ih]; simp [binom]
theorem vand (m r n : Nat) : vandS m r n (n + 1) = binom (m + r) n := by
  induction m generalizing n with
  | zero => rw [vandS_nought, Nat.zero_add]
  | succ m ih =>
    cases n with
    | zero => simp [vandS, binom_zero]
    | succ n =>
      rw [vandS_step m r n (n + 1) (by omega), ih, ih, show m + 1 + r = (m + r) + 1 by omega, binom_succ]
      omega
theorem vandS_mono (m r n : Nat) {K L : Nat} (h : K ≤ L) : vandS m r n K ≤ vandS m r n L := by
  obtain ⟨d, rfl⟩ := Nat.exists_eq_add_of_le h
  induction d with
  | zero => exact Nat.le_refl _
  | succ d ih => exact Nat.le_trans (ih (by omega)) (by rw [← Nat.add_assoc, vandS]; omega)
end Go.Proofs.Ytgphdaipgodjgaa
