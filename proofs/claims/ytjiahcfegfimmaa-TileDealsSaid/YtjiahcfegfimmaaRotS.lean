/-
  Another dealer gets what the dealer got. Plain laws.
-/
import Derived.Test.YtjiahcfegfimmaaPermS
namespace Go.Proofs.Ytjiahcfegfimmaa

theorem seat_inj {P d a b : Nat} (hd : d < P) (ha : a < P) (hb : b < P) (he : (d + a) % P = (d + b) % P) : a = b := by
  have hmod : ∀ a, a < P → (d + a) % P = if d + a < P then d + a else d + a - P := fun a ha => by
    split
    · exact Nat.mod_eq_of_lt (by omega)
    · rw [Nat.mod_eq_sub_mod (by omega), Nat.mod_eq_of_lt (by omega)]
  rw [hmod a ha, hmod b hb] at he
  split at he <;> split at he <;> omega
theorem giveN_at {P d m : Nat} {hs : List (List Int)} {r : List Int} (hl : hs.length = P) (hd : d < P) : ∀ i, i ≤ P → ∀ k, k < P →
    (giveN P d m i hs r).getD ((d + k) % P) [] = hs.getD ((d + k) % P) [] ++ (if k < i then (r.drop (k * m)).take m else []) := by
  intro i
  induction i with
  | zero => intro _ k hk; simp [giveN]
  | succ i ih =>
    intro hi k hk
    have h1 := ih (by omega) k hk
    have hP : 0 < P := by omega
    have hlt : (d + k) % P < (giveN P d m i hs r).length := by rw [giveN_length, hl]; exact Nat.mod_lt _ hP
    rw [giveN, List.getD_eq_getElem?_getD, List.getElem?_set]
    by_cases he : (d + i) % P = (d + k) % P
    · obtain rfl := seat_inj hd (by omega) hk he
      rw [if_pos rfl, if_pos hlt, Option.getD_some, h1, if_neg (by omega), if_pos (by omega), List.append_nil]
    · rw [if_neg he, ← List.getD_eq_getElem?_getD, h1]
      by_cases hki : k < i
      · rw [if_pos hki, if_pos (by omega)]
      · have : k ≠ i := fun e => he (by rw [e])
        rw [if_neg hki, if_neg (by omega)]
theorem dealF_rot {P d d' : Nat} (hd : d < P) (hd' : d' < P) : ∀ (f lack : Nat) (hs hs' : List (List Int)) (r : List Int), hs.length = P → hs'.length = P → (∀ k, k < P → hs.getD ((d + k) % P) [] = hs'.getD ((d' + k) % P) []) →
    ∀ k, k < P → (dealF P d f lack hs r).1.getD ((d + k) % P) [] = (dealF P d' f lack hs' r).1.getD ((d' + k) % P) [] := by
  intro f
  induction f with
  | zero => intro lack hs hs' r _ _ h; exact h
  | succ f ih =>
    intro lack hs hs' r hl hl' h
    by_cases h0 : lack = 0
    · subst h0; rw [dealF_zero, dealF_zero]; exact h
    rw [dealF_succ (by omega), dealF_succ (by omega)]
    refine ih _ _ _ _ (by rw [giveN_length, hl]) (by rw [giveN_length, hl']) fun k hk => ?_
    rw [giveN_at hl hd P (Nat.le_refl _) k hk, giveN_at hl' hd' P (Nat.le_refl _) k hk, h k hk]
theorem dealF_len {P d : Nat} : ∀ (f lack : Nat) (hs : List (List Int)) (r : List Int), (dealF P d f lack hs r).1.length = hs.length := by
  intro f
  induction f with
  | zero => intro lack hs r; rfl
  | succ f ih =>
    intro lack hs r
    by_cases h0 : lack = 0
    · subst h0; rw [dealF_zero]
    · rw [dealF_succ (by omega), ih, giveN_length]
end Go.Proofs.Ytjiahcfegfimmaa
