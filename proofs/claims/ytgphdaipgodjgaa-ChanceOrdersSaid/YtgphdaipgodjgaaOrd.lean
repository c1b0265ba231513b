/-
  The order of odds, of numbers. Plain laws.
-/
import Derived.Test.YtgphdaipgodjgaaWPascal
namespace Go.Proofs.Ytgphdaipgodjgaa

theorem frac_le {a1 a2 b1 b2 c1 c2 : Int} (ha : 0 < a2) (hb : 0 < b2) (hc : 0 < c2) (h1 : b1 * a2 ≤ a1 * b2) (h2 : c1 * b2 ≤ b1 * c2) : c1 * a2 ≤ a1 * c2 := by
  have e1 := Int.mul_le_mul_of_nonneg_right h1 (Int.le_of_lt hc)
  have e2 := Int.mul_le_mul_of_nonneg_right h2 (Int.le_of_lt ha)
  have e3 : c1 * a2 * b2 ≤ a1 * c2 * b2 := by
    rw [show c1 * a2 * b2 = c1 * b2 * a2 by grind, show a1 * c2 * b2 = a1 * b2 * c2 by grind]
    refine Int.le_trans e2 ?_
    rw [show b1 * c2 * a2 = b1 * a2 * c2 by grind]
    exact e1
  exact Int.le_of_mul_le_mul_right e3 hb
theorem frac_lt_le {a1 a2 b1 b2 c1 c2 : Int} (ha : 0 < a2) (hb : 0 < b2) (hc : 0 < c2) (h1 : b1 * a2 < a1 * b2) (h2 : c1 * b2 ≤ b1 * c2) : c1 * a2 < a1 * c2 := by
  have e1 := Int.mul_lt_mul_of_pos_right h1 hc
  have e2 := Int.mul_le_mul_of_nonneg_right h2 (Int.le_of_lt ha)
  have e3 : c1 * a2 * b2 < a1 * c2 * b2 := by
    rw [show c1 * a2 * b2 = c1 * b2 * a2 by grind, show a1 * c2 * b2 = a1 * b2 * c2 by grind]
    refine Int.lt_of_le_of_lt e2 ?_
    rw [show b1 * c2 * a2 = b1 * a2 * c2 by grind]
    exact e1
  exact Int.lt_of_mul_lt_mul_right e3 (Int.le_of_lt hb)
theorem frac_le_lt {a1 a2 b1 b2 c1 c2 : Int} (ha : 0 < a2) (hb : 0 < b2) (hc : 0 < c2) (h1 : b1 * a2 ≤ a1 * b2) (h2 : c1 * b2 < b1 * c2) : c1 * a2 < a1 * c2 := by
  have e1 := Int.mul_le_mul_of_nonneg_right h1 (Int.le_of_lt hc)
  have e2 := Int.mul_lt_mul_of_pos_right h2 ha
  have e3 : c1 * a2 * b2 < a1 * c2 * b2 := by
    rw [show c1 * a2 * b2 = c1 * b2 * a2 by grind, show a1 * c2 * b2 = a1 * b2 * c2 by grind]
    refine Int.lt_of_lt_of_le e2 ?_
    rw [show b1 * c2 * a2 = b1 * a2 * c2 by grind]
    exact e1
  exact Int.lt_of_mul_lt_mul_right e3 (Int.le_of_lt hb)

def Fair (a b : Int) : Prop := 0 ≤ a ∧ a ≤ b ∧ 0 < b
theorem betterV_fair {a b c d : Int} (h : Fair a b) (k : Fair c d) : betterV a b c d = cmpI (a * d) (c * b) := by
  unfold betterV
  rw [if_pos ⟨⟨h.2.2, h.2.1⟩, k.2.2, k.2.1⟩]
theorem cmpI_flip (a b : Int) : cmpI b a = -cmpI a b := by
  rcases (show a < b ∨ a = b ∨ b < a by omega) with h | h | h
  · rw [cmpI_lt h, cmpI_gt h]; rfl
  · subst h; rw [cmpI_eq]; rfl
  · rw [cmpI_lt h, cmpI_gt h]
theorem better_neg {a b c d : Int} (h : Fair a b) (k : Fair c d) : betterV c d a b = -betterV a b c d := by
  rw [betterV_fair h k, betterV_fair k h, cmpI_flip]
theorem better_same {a b : Int} (h : Fair a b) : betterV a b a b = 0 := by rw [betterV_fair h h, cmpI_eq]
theorem cmpI_mul {a b m : Int} (h : 0 < m) : cmpI (a * m) (b * m) = cmpI a b := by
  rcases (show a < b ∨ a = b ∨ b < a by omega) with k | k | k
  · rw [cmpI_lt k, cmpI_lt (Int.mul_lt_mul_of_pos_right k h)]
  · subst k; rw [cmpI_eq, cmpI_eq]
  · rw [cmpI_gt k, cmpI_gt (Int.mul_lt_mul_of_pos_right k h)]
theorem Fair.mul {a b m : Int} (h : Fair a b) (hm : 0 < m) : Fair (a * m) (b * m) :=
  ⟨Int.mul_nonneg h.1 (Int.le_of_lt hm), Int.mul_le_mul_of_nonneg_right h.2.1 (Int.le_of_lt hm), Int.mul_pos h.2.2 hm⟩
theorem better_scale {a b c d m : Int} (h : Fair a b) (k : Fair c d) (hm : 0 < m) : betterV (a * m) (b * m) c d = betterV a b c d := by
  rw [betterV_fair (h.mul hm) k, betterV_fair h k, show a * m * d = a * d * m by grind, show c * (b * m) = c * b * m by grind, cmpI_mul hm]
/-- How three comparisons fit. -/
def Ord3 (x y z : Int) : Prop := (x = -1 ∧ y = -1 ∧ z = -1) ∨ (x = -1 ∧ y = 0 ∧ z = -1) ∨ (x = 0 ∧ y = -1 ∧ z = -1) ∨ (x = 0 ∧ y = 0 ∧ z = 0) ∨ (x = 0 ∧ y = 1 ∧ z = 1) ∨ (x = 1 ∧ y = 0 ∧ z = 1) ∨ (x = 1 ∧ y = 1 ∧ z = 1) ∨ (x = 1 ∧ y = -1) ∨ (x = -1 ∧ y = 1)
theorem ord3 {a1 a2 b1 b2 c1 c2 : Int} (ha : Fair a1 a2) (hb : Fair b1 b2) (hc : Fair c1 c2) : Ord3 (betterV a1 a2 b1 b2) (betterV b1 b2 c1 c2) (betterV a1 a2 c1 c2) := by
  rw [betterV_fair ha hb, betterV_fair hb hc, betterV_fair ha hc]
  unfold Ord3
  have a0 := ha.2.2
  have b0 := hb.2.2
  have c0 := hc.2.2
  rcases (show a1 * b2 < b1 * a2 ∨ a1 * b2 = b1 * a2 ∨ b1 * a2 < a1 * b2 by omega) with h | h | h
  · rw [cmpI_lt h]
    rcases (show b1 * c2 < c1 * b2 ∨ b1 * c2 = c1 * b2 ∨ c1 * b2 < b1 * c2 by omega) with k | k | k
    · rw [cmpI_lt k, cmpI_lt (frac_lt_le c0 b0 a0 k (Int.le_of_lt h))]; simp
    · rw [k, cmpI_eq, cmpI_lt (frac_le_lt c0 b0 a0 (by omega) h)]; simp
    · rw [cmpI_gt k]; simp
  · rw [h, cmpI_eq]
    rcases (show b1 * c2 < c1 * b2 ∨ b1 * c2 = c1 * b2 ∨ c1 * b2 < b1 * c2 by omega) with k | k | k
    · rw [cmpI_lt k, cmpI_lt (frac_lt_le c0 b0 a0 k (by omega))]; simp
    · have e1 := frac_le c0 b0 a0 (show b1 * c2 ≤ c1 * b2 by omega) (show a1 * b2 ≤ b1 * a2 by omega)
      have e2 := frac_le a0 b0 c0 (show b1 * a2 ≤ a1 * b2 by omega) (show c1 * b2 ≤ b1 * c2 by omega)
      rw [k, cmpI_eq, show a1 * c2 = c1 * a2 by omega, cmpI_eq]; simp
    · rw [cmpI_gt k, cmpI_gt (frac_le_lt a0 b0 c0 (by omega) k)]; simp
  · rw [cmpI_gt h]
    rcases (show b1 * c2 < c1 * b2 ∨ b1 * c2 = c1 * b2 ∨ c1 * b2 < b1 * c2 by omega) with k | k | k
    · rw [cmpI_lt k]; simp
    · rw [k, cmpI_eq, cmpI_gt (frac_lt_le a0 b0 c0 h (by omega))]; simp
    · rw [cmpI_gt k, cmpI_gt (frac_lt_le a0 b0 c0 h (Int.le_of_lt k))]; simp
end Go.Proofs.Ytgphdaipgodjgaa
