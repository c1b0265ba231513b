/-
  Draws with and without some kinds. Plain laws.
-/
import Derived.Test.YtgphdaipgodjgaaWays
import Derived.Test.YtgphdaipgodjgaaVand
import Derived.Test.YtgphdaipgodjgaaOrd
namespace Go.Proofs.Ytgphdaipgodjgaa

theorem gI_nonneg {m x d : Int} : 0 ≤ gI m x d := by
  unfold gI
  split
  · exact chooseI_nonneg _ _
  · omega
theorem gI_anti {m x y d : Int} (h : x ≤ y) : gI m y d ≤ gI m x d := by
  by_cases h1 : y ≤ d ∧ d ≤ m
  · rw [gI_in h1.1 h1.2, gI_in (by omega) h1.2]; omega
  · rw [gI_out (by omega)]; exact gI_nonneg
theorem partW_nonneg {W : Nat → Int} {m x : Int} (h : ∀ i, 0 ≤ W i) (I s : Nat) : 0 ≤ partW W m x I s := by
  induction I with
  | zero => simp [partW]
  | succ I ih => rw [partW]; have := Int.mul_nonneg (h I) (gI_nonneg (m := m) (x := x) (d := (s : Int) - I)); omega
theorem partW_anti {W V : Nat → Int} {m x y : Int} (hW : ∀ i, 0 ≤ W i ∧ W i ≤ V i) (h : x ≤ y) (I s : Nat) : partW W m y I s ≤ partW V m x I s := by
  induction I with
  | zero => simp [partW]
  | succ I ih =>
    rw [partW, partW]
    have h1 : W I * gI m y ((s : Int) - I) ≤ V I * gI m x ((s : Int) - I) := by
      refine Int.le_trans (Int.mul_le_mul_of_nonneg_left (gI_anti h) (hW I).1) (Int.mul_le_mul_of_nonneg_right (hW I).2 gI_nonneg)
    omega
theorem wayW_nonneg (u x : List Int) (k s : Nat) : 0 ≤ wayW u x k s := by
  induction k generalizing s with
  | zero => unfold wayW; split <;> omega
  | succ k ih => exact partW_nonneg ih _ _
/-- What asks for more is never more often. -/
theorem wayW_anti {u x y : List Int} (h : ∀ k, x.getD k 0 ≤ y.getD k 0) (k s : Nat) : wayW u y k s ≤ wayW u x k s := by
  induction k generalizing s with
  | zero => exact Int.le_refl _
  | succ k ih => exact partW_anti (fun i => ⟨wayW_nonneg _ _ _ _, ih i⟩) (h k) _ _
theorem partW_vand (T M s : Nat) : ∀ I, I ≤ s + 1 → partW (fun i => (binom T i : Int)) M 0 I s = (vandS T M s I : Int) := by
  intro I
  induction I with
  | zero => intro _; rfl
  | succ I ih =>
    intro h
    rw [partW, vandS, ih (by omega), Int.natCast_add, Int.natCast_mul]
    have e : gI (M : Int) 0 ((s : Int) - (I : Int)) = (binom M (s - I) : Int) := by
      rw [show (s : Int) - (I : Int) = ((s - I : Nat) : Int) by omega]
      by_cases h1 : s - I ≤ M
      · rw [gI_in (by omega) (by omega), chooseI_nat]
      · rw [gI_out (by omega), binom_gt (by omega)]; rfl
    rw [e]
theorem wayW_none {u x : List Int} (hu : ∀ z ∈ u, 0 ≤ z) (hx : ∀ k, x.getD k 0 = 0) (k s : Nat) : wayW u x k s = chooseI (sumI (u.take k)) s := by
  induction k generalizing s with
  | zero =>
    unfold wayW
    rw [show sumI (u.take 0) = ((0 : Nat) : Int) by simp [sumI], chooseI_nat]
    cases s with
    | zero => rfl
    | succ s => simp [binom]
  | succ k ih =>
    have hn : ∀ l : List Int, (∀ z ∈ l, 0 ≤ z) → 0 ≤ sumI l := by
      intro l
      induction l with
      | nil => intro _; simp [sumI]
      | cons a l ih => intro h; rw [sumI_cons]; have := h a (by simp); have := ih (fun z hz => h z (by simp [hz])); omega
    obtain ⟨T, hT⟩ := Int.eq_ofNat_of_zero_le (hn (u.take k) fun z hz => hu z (List.mem_of_mem_take hz))
    have hg : 0 ≤ u.getD k 0 := by
      rcases Nat.lt_or_ge k u.length with hk | hk
      · rw [List.getD_eq_getElem?_getD, List.getElem?_eq_getElem hk]; exact hu _ (List.getElem_mem hk)
      · simp [List.getD, hk]
    obtain ⟨M, hM⟩ := Int.eq_ofNat_of_zero_le hg
    have e : sumI (u.take (k + 1)) = ((T + M : Nat) : Int) := by
      rcases Nat.lt_or_ge k u.length with hk | hk
      · rw [sumI_take u hk, hT]
        have : u.getD k 0 = u[k] := by simp [List.getD, hk]
        omega
      · rw [List.take_of_length_le (by omega)]
        rw [List.take_of_length_le hk] at hT
        have : u.getD k 0 = 0 := by simp [List.getD, hk]
        omega
    have eW : wayW u x k = fun i => (binom T i : Int) := by
      funext i
      rw [ih, hT, chooseI_nat]
    show stepW (wayW u x k) (u.getD k 0) (x.getD k 0) s = _
    rw [hx, hM, eW, e, chooseI_nat, stepW, partW_vand T M s (s + 1) (by omega), vand]
theorem getD_zeros (n k : Nat) : (List.replicate n (0 : Int)).getD k 0 = 0 := by
  rcases Nat.lt_or_ge k n with h | h
  · simp [List.getD, h]
  · simp [List.getD, h]
/-- All draws. -/
theorem wayW_all {u : List Int} (hu : ∀ z ∈ u, 0 ≤ z) (n s : Nat) : wayW u (List.replicate n 0) u.length s = chooseI (sumI u) s := by
  rw [wayW_none hu (getD_zeros n), List.take_length]
theorem wayW_le {u x : List Int} (hu : ∀ z ∈ u, 0 ≤ z) (hx : ∀ z ∈ x, 0 ≤ z) (s : Nat) : wayW u x u.length s ≤ chooseI (sumI u) s := by
  rw [← wayW_all hu 0 s]
  refine wayW_anti (fun k => ?_) _ _
  rw [getD_zeros]
  rcases Nat.lt_or_ge k x.length with hk | hk
  · rw [List.getD_eq_getElem?_getD, List.getElem?_eq_getElem hk]; exact hx _ (List.getElem_mem hk)
  · simp [List.getD, hk]
theorem getD_set_le {x : List Int} {a : Nat} (z : Int) (h : ∀ h : a < x.length, x[a] ≤ z) (k : Nat) : x.getD k 0 ≤ (x.set a z).getD k 0 := by
  rcases Nat.lt_or_ge k x.length with hk | hk
  · rw [List.getD_eq_getElem?_getD, List.getD_eq_getElem?_getD, List.getElem?_eq_getElem hk, List.getElem?_eq_getElem (by simpa using hk)]
    by_cases e : a = k
    · subst e; simp; exact h hk
    · simp [List.getElem_set_ne e]
  · simp [List.getD, hk]

/-- Kinds rise. -/
theorem ris_from {many : Int} {ks : List Int} (h : risErr many (-1) ks = 0) : ∀ k, k ≤ ks.length → risErr many (prevI ks k) (ks.drop k) = 0 := by
  intro k
  induction k with
  | zero => intro _; rw [prevI_zero]; exact h
  | succ k ih =>
    intro hk
    have h1 := ih (by omega)
    rw [risErr_drop (show k < ks.length by omega)] at h1
    split at h1
    · omega
    · split at h1
      · omega
      · rw [prevI_succ (show k < ks.length by omega)]; exact h1
theorem ris_prev {many : Int} {ks : List Int} (h : risErr many (-1) ks = 0) {k : Nat} (hk : k < ks.length) : prevI ks k < ks[k] ∧ 0 ≤ ks[k] ∧ ks[k] < many := by
  have h1 := ris_from h k (by omega)
  have h2 := ris_in h1 ks[k] (by rw [List.drop_eq_getElem_cons hk]; exact List.mem_cons_self)
  omega
/-- One kind more is struck. -/
structure Struck (u ks rs : List Int) (j : Nat) : Prop where
  len : rs.length = u.length
  sum : sumI rs = sumI u - sumAt u (ks.take j)
  far : ∀ (p : Nat) (h : p < rs.length) (h' : p < u.length), prevI ks j < p → rs[p] = u[p]
theorem Struck.start (u ks : List Int) : Struck u ks u 0 := ⟨rfl, by simp [sumAt, sumI], fun _ _ _ _ => rfl⟩
theorem Struck.step {u ks rs : List Int} {j : Nat} (h : Struck u ks rs j) (hr : risErr u.length (-1) ks = 0) (hj : j < ks.length) : Struck u ks (rs.set ks[j].toNat 0) (j + 1) := by
  obtain ⟨h1, h2, h3⟩ := ris_prev hr hj
  have hl : ks[j].toNat < u.length := by omega
  have hl' : ks[j].toNat < rs.length := by rw [h.len]; exact hl
  have e := h.far _ hl' hl (by omega)
  refine ⟨by rw [List.length_set, h.len], ?_, fun p hp hp' hq => ?_⟩
  · rw [sumI_set rs 0 hl', h.sum, sumAt_take u ks hj, e, List.getD_eq_getElem?_getD, List.getElem?_eq_getElem hl]
    simp only [Option.getD_some]
    omega
  · rw [prevI_succ hj] at hq
    rw [List.getElem_set_ne (by omega)]
    exact h.far p (by simpa using hp) hp' (by omega)

/-- More draws make it never less probable. -/
theorem draws_more {N R n : Nat} (hR : R ≤ N) (hn : n < N) : 0 ≤ betterV (chooseI N (n + 1 : Nat) - chooseI R (n + 1 : Nat)) (chooseI N (n + 1 : Nat)) (chooseI N n - chooseI R n) (chooseI N n) := by
  have m1 := chooseI_mono (n : Int) (show (0 : Int) ≤ (R : Int) by omega) (show (R : Int) ≤ (N : Int) by omega)
  have m2 := chooseI_mono ((n + 1 : Nat) : Int) (show (0 : Int) ≤ (R : Int) by omega) (show (R : Int) ≤ (N : Int) by omega)
  have p1 := binom_pos (show n ≤ N by omega)
  have p2 := binom_pos (show n + 1 ≤ N by omega)
  rw [chooseI_nat, chooseI_nat] at m1 m2
  rw [chooseI_nat, chooseI_nat, chooseI_nat, chooseI_nat]
  have s1 := binom_step N n
  have s2 := binom_step R n
  rw [betterV_fair ⟨by omega, by omega, by omega⟩ ⟨by omega, by omega, by omega⟩]
  have key : binom R (n + 1) * binom N n ≤ binom R n * binom N (n + 1) := by
    have k1 : (binom R (n + 1) * binom N n) * (n + 1) ≤ (binom R n * binom N (n + 1)) * (n + 1) := by
      have e1 : (binom R (n + 1) * binom N n) * (n + 1) = (binom R n * binom N n) * (R - n) := by
        rw [Nat.mul_right_comm, s2]; grind
      have e2 : (binom R n * binom N (n + 1)) * (n + 1) = (binom R n * binom N n) * (N - n) := by
        rw [Nat.mul_assoc, s1]; grind
      rw [e1, e2]
      exact Nat.mul_le_mul_left _ (by omega)
    exact Nat.le_of_mul_le_mul_right k1 (by omega)
  have key' : ((binom N n : Int) - (binom R n : Int)) * (binom N (n + 1) : Int) ≤ ((binom N (n + 1) : Int) - (binom R (n + 1) : Int)) * (binom N n : Int) := by
    have k2 : ((binom R (n + 1) * binom N n : Nat) : Int) ≤ ((binom R n * binom N (n + 1) : Nat) : Int) := by omega
    rw [Int.natCast_mul, Int.natCast_mul] at k2
    rw [Int.sub_mul, Int.sub_mul, Int.mul_comm (binom N (n + 1) : Int) (binom N n : Int)]
    omega
  unfold cmpI
  rw [if_neg (by omega)]
  split <;> omega
end Go.Proofs.Ytgphdaipgodjgaa
