/-
  The walk of the law ChancePascal.
-/
import Derived.Test.YtgphdaipgodjgaaAwake
import Derived.Test.YtgphdaipgodjgaaFrame
namespace Go.Proofs.Ytgphdaipgodjgaa
open Go.RowKit

/-- The result of Sum or Product of two naturals, where it is not too long. -/
def OpNat (w : World) (n : Int) (e : Ending) (w' : World) : Prop := ∃ v, e = .returned (.tuple #[v, .int .i64 0]) ∧ IsNat w' v n ∧ Grow w w'
theorem op_nat {w w' : World} {xs ys : List Int} {n : Int} {e : Ending} (h : OpRes w xs ys n e w') (h1 : natErr xs = 0) (h2 : natErr ys = 0) (hn : n < radix 40) : OpNat w n e w' := by
  obtain ⟨v, er, rfl, hg, ⟨h3, _⟩ | ⟨_, rfl, _, h4⟩ | ⟨_, _, h4, _⟩⟩ := h
  · exact absurd (by unfold err2; rw [h1, h2]; rfl) h3
  · exact ⟨v, rfl, h4, hg⟩
  · omega
theorem Sum_nat (v1 v2 : Value) (a b : Int) (w : World) (h1 : IsNat w v1 a) (h2 : IsNat w v2 b) (ha : a < radix 40) (hb : b < radix 40) (hn : a + b < radix 40) : Calls Try.prog 25 #[v1, v2] w (OpNat w (a + b)) := by
  obtain ⟨xs, k1, rfl, i1⟩ := h1
  obtain ⟨ys, k2, rfl, i2⟩ := h2
  exact (Sum_any v1 v2 xs ys w i1 i2).mono fun e w' h => op_nat h (natErr_val k1 ha) (natErr_val k2 hb) hn
theorem Product_nat (v1 v2 : Value) (a b : Int) (w : World) (h1 : IsNat w v1 a) (h2 : IsNat w v2 b) (ha : a < radix 40) (hb : b < radix 40) (hn : a * b < radix 40) : Calls Try.prog 24 #[v1, v2] w (OpNat w (a * b)) := by
  obtain ⟨xs, k1, rfl, i1⟩ := h1
  obtain ⟨ys, k2, rfl, i2⟩ := h2
  exact (Product_any v1 v2 xs ys w i1 i2).mono fun e w' h => op_nat h (natErr_val k1 ha) (natErr_val k2 hb) hn

theorem pascal (N : Nat) (k : Int) : chooseI (N : Int) (k - 1) + chooseI (N : Int) k = chooseI ((N + 1 : Nat) : Int) k := by
  rcases (show k < 0 ∨ k = 0 ∨ 1 ≤ k by omega) with h | h | h
  · rw [chooseI_out (.inl (by omega)), chooseI_out (.inl h), chooseI_out (.inl h)]; rfl
  · subst h
    rw [chooseI_out (.inl (by omega)), show (0 : Int) = ((0 : Nat) : Int) from rfl, chooseI_nat, chooseI_nat, binom_zero, binom_zero]; rfl
  · obtain ⟨t, rfl⟩ : ∃ t : Nat, k = ((t + 1 : Nat) : Int) := ⟨(k - 1).toNat, by omega⟩
    rw [show ((t + 1 : Nat) : Int) - 1 = (t : Int) by omega, chooseI_nat, chooseI_nat, chooseI_nat, binom_succ]; omega
theorem choose_sym (N : Nat) (k : Int) : chooseI (N : Int) ((N : Int) - k) = chooseI (N : Int) k := by
  rcases (show k < 0 ∨ (N : Int) < k ∨ (0 ≤ k ∧ k ≤ N) by omega) with h | h | ⟨h, h'⟩
  · rw [chooseI_out (.inr (by omega)), chooseI_out (.inl h)]
  · rw [chooseI_out (.inl (by omega)), chooseI_out (.inr h)]
  · obtain ⟨t, rfl⟩ := Int.eq_ofNat_of_zero_le h
    rw [show (N : Int) - (t : Int) = ((N - t : Nat) : Int) by omega, chooseI_nat, chooseI_nat, binom_symm (by omega)]
theorem choose_lt40 {n : Int} (k : Int) (h : n ≤ 200) : chooseI n k < radix 40 ∧ chooseI n k < radix 10 := by
  have h1 := chooseI_lt k h
  have h2 := radix_mono (show 7 ≤ 40 by omega)
  have h3 := radix_mono (show 7 ≤ 10 by omega)
  simp only [radix] at h1 h2 h3 ⊢
  omega

def BinRes (w : World) (n k : Int) (e : Ending) (w' : World) : Prop := NatRes w (chooseI n k) e w'
theorem bin_any (n k : Int) (w : World) (h0 : 0 ≤ n) (h1 : n ≤ 200) (h2 : -9223372036854775000 ≤ k) : Calls Try.prog 21 #[.int .i64 n, .int .i64 k] w (BinRes w n k) := by
  have h := binomial_any n k w h2
  rw [if_neg (by omega)] at h
  exact h

theorem walkChancePascal (n k : Int) (w : World) (w0 : (Lit.int .i64 n).wf = true) (w1 : (Lit.int .i64 k).wf = true) :
    Calls Try.prog 5 #[.int .i64 n, .int .i64 k] w (Gives w (.bool true)) := by
  have b0 := wf_range w0
  have b1 := wf_range w1
  clear w0 w1
  have i0 := Into_any n 60 w b0.1 b0.2 (by omega) (by omega)
  have i1 := fun m (h0 : 1 ≤ m) (h1 : m ≤ 1000000000) => Into_any k m w b1.1 b1.2 h0 h1
  have e0 := Int.emod_nonneg n (show (60 : Int) ≠ 0 by omega)
  have e1 := Int.emod_lt_of_pos n (show (0 : Int) < 60 by omega)
  obtain ⟨N, hN⟩ := Int.eq_ofNat_of_zero_le e0
  have e2 := Int.emod_nonneg k (show (1 + (N : Int) + 3) ≠ 0 by omega)
  have e3 := Int.emod_lt_of_pos k (show (0 : Int) < 1 + (N : Int) + 3 by omega)
  have I1 := i1 (1 + (N : Int) + 3) (by omega) (by omega)
  rw [hN] at i0 e1
  generalize k % (1 + (N : Int) + 3) = K at *
  have H0 := hid i0
  have H1 := hid I1
  clear i0 i1 I1 hN e0 b0 b1
  go_enter Try.func5, Try.ntmps5
  go_wp2_with fail
  refine H0.out.mono ?_
  rintro e w1 ⟨rfl, rfl⟩
  go_wp2_with fail
  refine H1.out.mono ?_
  rintro e w1 ⟨rfl, rfl⟩
  have N0 : (N : Int) ≤ 60 := by omega
  have v1 : chooseI (1 + (N : Int) - 1) (K - 1 - 1) + chooseI (1 + (N : Int) - 1) (K - 1) = chooseI (1 + (N : Int)) (K - 1) := by
    rw [show (1 : Int) + (N : Int) - 1 = (N : Int) by omega, pascal N (K - 1), show ((N + 1 : Nat) : Int) = 1 + (N : Int) by omega]
  have v2 : chooseI (1 + (N : Int)) (1 + (N : Int) - (K - 1)) = chooseI (1 + (N : Int)) (K - 1) := by
    have h := choose_sym (N + 1) (K - 1)
    rwa [show ((N + 1 : Nat) : Int) = 1 + (N : Int) by omega] at h
  have V1 := hid v1
  have V2 := hid v2
  clear v1 v2
  go_wp2_with fail
  refine (bin_any _ _ _ (by omega) (by omega) (by omega)).mono ?_
  rintro e w1 ⟨x1, rfl, k1, g1⟩
  go_wp2_with fail
  refine (bin_any _ _ _ (by omega) (by omega) (by omega)).mono ?_
  rintro e w2 ⟨x2, rfl, k2, g2⟩
  go_wp2_with fail
  refine (Sum_nat _ _ _ _ _ (k1.1.grow g2) k2.1 (choose_lt40 _ (by omega)).1 (choose_lt40 _ (by omega)).1 (by rw [V1.out]; exact (choose_lt40 _ (by omega)).1)).mono ?_
  rw [V1.out]
  rintro e w3 ⟨x3, rfl, k3, g3⟩
  go_wp2_with fail
  refine (bin_any _ _ _ (by omega) (by omega) (by omega)).mono ?_
  rintro e w4 ⟨x4, rfl, k4, g4⟩
  go_wp2_with fail
  refine (SameNat_same _ _ _ _ k4.1 (k3.grow g4)).mono ?_
  rintro e w5 ⟨rfl, n5, rfl⟩
  go_wp2_with fail
  refine (bin_any _ _ _ (by omega) (by omega) (by omega)).mono ?_
  rintro e w6 ⟨x6, rfl, k6, g6⟩
  rw [V2.out] at k6
  go_wp2_with fail
  refine (SameNat_same _ _ _ _ k6.1 ((k3.grow g4).grow (((Grow.refl _).drewN n5).trans g6))).mono ?_
  rintro e w7 ⟨rfl, n7, rfl⟩
  go_wp2_with fail
  refine (awake_any _).mono ?_
  rintro e w8 ⟨rfl, g8⟩
  go_wp2
  go_ret
  exact ⟨rfl, ((((((g1.trans g2).trans g3).trans g4).drewN n5).trans g6).drewN n7).trans g8⟩
end Go.Proofs.Ytgphdaipgodjgaa
