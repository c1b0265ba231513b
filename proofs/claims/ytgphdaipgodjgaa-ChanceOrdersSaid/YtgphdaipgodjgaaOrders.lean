/-
  All orders of some tiles, and races. Plain laws.
-/
import Derived.Test.YtgphdaipgodjgaaRaceSum
namespace Go.Proofs.Ytgphdaipgodjgaa

def fact : Nat → Int
  | 0 => 1
  | n + 1 => (n + 1 : Nat) * fact n
theorem fact_pos (n : Nat) : 0 < fact n := by
  induction n with
  | zero => simp [fact]
  | succ n ih => rw [fact]; exact Int.mul_pos (by omega) ih
def fall : Nat → Nat → Int
  | _, 0 => 1
  | x, t + 1 => (x : Int) * fall (x - 1) t
theorem fall_nonneg (x t : Nat) : 0 ≤ fall x t := by
  induction t generalizing x with
  | zero => simp [fall]
  | succ t ih => rw [fall]; exact Int.mul_nonneg (by omega) (ih _)
theorem fall_fact {x t : Nat} (h : t ≤ x) : fall x t * fact (x - t) = fact x := by
  induction t generalizing x with
  | zero => simp [fall]
  | succ t ih =>
    obtain ⟨y, rfl⟩ : ∃ y, x = y + 1 := ⟨x - 1, by omega⟩
    rw [fall, Nat.add_sub_cancel, show y + 1 - (t + 1) = y - t by omega, Int.mul_assoc, ih (by omega), fact]
theorem fall_out {x t : Nat} (h : x < t) : fall x t = 0 := by
  induction t generalizing x with
  | zero => omega
  | succ t ih =>
    rw [fall]
    cases x with
    | zero => simp
    | succ x => rw [Nat.add_sub_cancel, ih (by omega), Int.mul_zero]
theorem binom_fact {n k : Nat} (h : k ≤ n) : (binom n k : Int) * fact k * fact (n - k) = fact n := by
  induction n generalizing k with
  | zero => obtain rfl : k = 0 := by omega
            simp [binom, fact]
  | succ n ih =>
    cases k with
    | zero => rw [binom_zero]; simp [fact]
    | succ k =>
      rcases Nat.lt_or_ge n (k + 1) with h1 | h1
      · obtain rfl : k = n := by omega
        rw [binom_self, Nat.sub_self]
        simp [fact]
      · have i1 := ih (show k ≤ n by omega)
        have i2 := ih h1
        rw [binom_succ, show n + 1 - (k + 1) = n - (k + 1) + 1 by omega]
        rw [show n - k = n - (k + 1) + 1 by omega] at i1
        have e1 : fact (k + 1) = (k + 1 : Nat) * fact k := rfl
        have e2 : fact (n - (k + 1) + 1) = (n - (k + 1) + 1 : Nat) * fact (n - (k + 1)) := rfl
        have e3 : fact (n + 1) = (n + 1 : Nat) * fact n := rfl
        rw [e3, ← i2]
        rw [e2] at i1 ⊢
        rw [e1] at i2 ⊢
        have hn : ((n + 1 : Nat) : Int) = ((k + 1 : Nat) : Int) + ((n - (k + 1) + 1 : Nat) : Int) := by omega
        rw [Int.natCast_add (binom n k)]
        generalize fact (n - (k + 1)) = A at *
        generalize fact k = B at *
        generalize ((n - (k + 1) + 1 : Nat) : Int) = p at *
        generalize ((k + 1 : Nat) : Int) = q at *
        rw [hn]
        generalize (binom n k : Int) = x at *
        generalize (binom n (k + 1) : Int) = y at *
        have e : x * B * (p * A) = y * (q * B) * A := i1.trans i2.symm
        grind

/-- How many are not used. -/
def freeN (used : List Bool) : Nat := (used.filter fun b => !b).length
theorem freeN_le (used : List Bool) : freeN used ≤ used.length := List.length_filter_le _ _
theorem freeN_take {used : List Bool} {i : Nat} (h : i < used.length) : freeN (used.take (i + 1)) = freeN (used.take i) + if used[i] = true then 0 else 1 := by
  unfold freeN
  rw [List.take_succ_eq_append_getElem h, List.filter_append, List.length_append]
  cases used[i] <;> simp
theorem freeN_set {used : List Bool} {i : Nat} (h : i < used.length) (hu : used[i] = false) : freeN (used.set i true) + 1 = freeN used := by
  unfold freeN
  induction used generalizing i with
  | nil => simp at h
  | cons b used ih =>
    cases i with
    | zero =>
      simp at hu
      subst hu
      simp
    | succ i =>
      have := ih (i := i) (by simpa using h) (by simpa using hu)
      cases b <;> simp <;> omega
theorem freeN_sum (used : List Bool) : (freeN used : Int) = sumF (fun i => if used.getD i true = true then 0 else 1) used.length := by
  have key : ∀ k, k ≤ used.length → (freeN (used.take k) : Int) = sumF (fun i => if used.getD i true = true then 0 else 1) k := by
    intro k
    induction k with
    | zero => intro _; simp [freeN, sumF]
    | succ k ih =>
      intro hk
      rw [freeN_take (show k < used.length by omega), sumF, ← ih (by omega)]
      have e : used.getD k true = used[k] := by simp [List.getD, show k < used.length by omega]
      rw [e]
      cases used[k] <;> simp
  have := key used.length (Nat.le_refl _)
  rwa [List.take_length] at this

theorem sumF_congr {f g : Nat → Int} {n : Nat} (h : ∀ i, i < n → f i = g i) : sumF f n = sumF g n := by
  induction n with
  | zero => rfl
  | succ n ih => simp only [sumF]; rw [ih fun i hi => h i (by omega), h n (by omega)]
theorem sumF_mul (c : Int) (f : Nat → Int) (n : Nat) : sumF (fun i => c * f i) n = c * sumF f n := by
  induction n with
  | zero => simp [sumF]
  | succ n ih => simp only [sumF, ih, Int.mul_add]
theorem sumF_sub (f g : Nat → Int) (n : Nat) : sumF (fun s => f s - g s) n = sumF f n - sumF g n := by
  induction n with
  | zero => rfl
  | succ n ih => simp only [sumF, ih]; omega
theorem sumF_shift (f : Nat → Int) (n : Nat) : sumF f (n + 1) = f 0 + sumF (fun i => f (i + 1)) n := by
  induction n with
  | zero => simp [sumF]
  | succ n ih => rw [sumF, ih]; simp only [sumF]; omega

/-- What all orders count, from a state on; s: a seat, or as many as there are seats: nobody. -/
def ordC (ks : List Int) (ws : List (List Int)) : Nat → List Bool → Nat → Nat → Int
  | 0, used, _, s => if s = ws.length then fact (freeN used) else 0
  | d + 1, used, seat, s => sumF (fun i => if used.getD i true = true then 0 else if 0 ≤ winI ws seat (ks.getD i 0) then (if winI ws seat (ks.getD i 0) = (s : Int) then fact (freeN used - 1) else 0) else ordC ks ws d (used.set i true) ((seat + 1) % ws.length) s) ks.length
theorem ordC_nonneg (ks : List Int) (ws : List (List Int)) (d : Nat) (used : List Bool) (seat s : Nat) : 0 ≤ ordC ks ws d used seat s := by
  induction d generalizing used seat with
  | zero => unfold ordC; split <;> have := fact_pos (freeN used) <;> omega
  | succ d ih =>
    unfold ordC
    refine sumF_nonneg (fun i => ?_) _
    split
    · omega
    · split
      · split
        · have := fact_pos (freeN used - 1); omega
        · omega
      · exact ih _ _
/-- How many tiles a seat wins with, which tile it be. -/
def hitQ (ks : List Int) (ws : List (List Int)) (seat s : Nat) : Int := sumF (fun i => if winI ws seat (ks.getD i 0) = (s : Int) then 1 else 0) ks.length
def ordF (ks : List Int) (ws : List (List Int)) (m d f seat s : Nat) : Int :=
  (if s = ws.length then fall (f - m) d * fact (f - d) else 0) + sumF (fun t => fall (f - m) t * fact (f - t - 1) * hitQ ks ws ((seat + t) % ws.length) s) d
/-- How many tiles somebody waits for. -/
def askN (ks : List Int) (ws : List (List Int)) : Int := sumF (fun i => if askB ws (ks.getD i 0) = true then 1 else 0) ks.length

theorem winI_asked (ws : List (List Int)) (seat : Nat) (k : Int) : (0 ≤ winI ws seat k) ↔ askB ws k = true := by
  rcases winI_ask ws seat k with ⟨h1, h2, _⟩ | ⟨h1, h2⟩
  · exact ⟨fun _ => h1, fun _ => h2⟩
  · rw [h1, h2]; simp
theorem winI_mod (ws : List (List Int)) (seat : Nat) (k : Int) : winI ws (seat % ws.length) k = winI ws seat k := by
  have h : ∀ i, (seat % ws.length + i) % ws.length = (seat + i) % ws.length := fun i => Nat.mod_add_mod _ _ _
  have e : winN ws (seat % ws.length) k = winN ws seat k := by
    unfold winN
    congr 1
    funext i
    rw [h]
  unfold winI
  rw [e, h]
theorem hitQ_out (ks : List Int) (ws : List (List Int)) (seat : Nat) : hitQ ks ws seat ws.length = 0 := by
  unfold hitQ
  rw [sumF_congr (g := fun _ => 0) fun i _ => ?_, sumF_zero]
  rw [if_neg]
  rcases winI_ask ws seat (ks.getD i 0) with h | h <;> omega
/-- Where no tile that somebody waits for is used. -/
def Fresh (ks : List Int) (ws : List (List Int)) (used : List Bool) : Prop := used.length = ks.length ∧ ∀ i, i < ks.length → askB ws (ks.getD i 0) = true → used.getD i true = false
theorem Fresh.set {ks : List Int} {ws : List (List Int)} {used : List Bool} (h : Fresh ks ws used) {i : Nat} (hi : askB ws (ks.getD i 0) = false) : Fresh ks ws (used.set i true) := by
  refine ⟨by rw [List.length_set]; exact h.1, fun j hj ha => ?_⟩
  have hne : i ≠ j := fun e => by subst e; rw [hi] at ha; cases ha
  have := h.2 j hj ha
  rw [List.getD_eq_getElem?_getD, List.getElem?_set_ne hne, ← List.getD_eq_getElem?_getD]
  exact this
theorem fresh_count {ks : List Int} {ws : List (List Int)} {used : List Bool} (h : Fresh ks ws used) : sumF (fun i => if used.getD i true = true then 0 else if askB ws (ks.getD i 0) = true then 0 else 1) ks.length = (freeN used : Int) - askN ks ws := by
  rw [freeN_sum, h.1]
  unfold askN
  rw [← sumF_sub]
  refine sumF_congr fun i hi => ?_
  by_cases ha : askB ws (ks.getD i 0) = true
  · rw [h.2 i hi ha, if_pos ha, if_pos ha]; simp
  · rw [if_neg ha, if_neg ha]
    split <;> omega
/-- All orders, by a formula. -/
theorem ordC_eq (ks : List Int) (ws : List (List Int)) (m : Nat) (hm : askN ks ws = m) : ∀ (d f : Nat) (used : List Bool) (seat s : Nat), Fresh ks ws used → freeN used = f → m ≤ f → d ≤ f → ordC ks ws d used seat s = ordF ks ws m d f seat s := by
  intro d
  induction d with
  | zero =>
    intro f used seat s _ hf _ _
    simp only [ordC, ordF, sumF, fall, hf]
    simp
  | succ d ih =>
    intro f used seat s hfr hf hmf hdf
    have hcnt := fresh_count hfr
    rw [hm, hf] at hcnt
    -- each tile's part
    have hpart : ordC ks ws (d + 1) used seat s = sumF (fun i => fact (f - 1) * (if winI ws seat (ks.getD i 0) = (s : Int) then 1 else 0) + ordF ks ws m d (f - 1) ((seat + 1) % ws.length) s * (if used.getD i true = true then 0 else if askB ws (ks.getD i 0) = true then 0 else 1)) ks.length := by
      unfold ordC
      refine sumF_congr fun i hi => ?_
      by_cases ha : askB ws (ks.getD i 0) = true
      · have h1 := hfr.2 i hi ha
        have h2 := (winI_asked ws seat (ks.getD i 0)).2 ha
        simp only [h1, h2, ha, Bool.false_eq_true, if_false, if_true, hf]
        split <;> simp
      · have hn : ¬ 0 ≤ winI ws seat (ks.getD i 0) := fun h => ha ((winI_asked _ _ _).1 h)
        have hns : winI ws seat (ks.getD i 0) ≠ (s : Int) := by omega
        rw [if_neg hn, if_neg hns, if_neg ha, Int.mul_zero, Int.zero_add]
        by_cases hu : used.getD i true = true
        · rw [if_pos hu, if_pos hu, Int.mul_zero]
        · rw [if_neg hu, if_neg hu, Int.mul_one]
          have hil : i < used.length := by rw [hfr.1]; exact hi
          have hu' : used[i] = false := by
            have e : used.getD i true = used[i] := by simp [List.getD, hil]
            rw [e] at hu
            simpa using hu
          have hs := freeN_set hil hu'
          have hmf1 : m ≤ f - 1 := by
            rcases Nat.lt_or_ge m f with h | h
            · omega
            · exfalso
              have hz : sumF (fun i => if used.getD i true = true then 0 else if askB ws (ks.getD i 0) = true then 0 else 1) ks.length = 0 := by omega
              have h1 := sumF_one (f := fun i => if used.getD i true = true then 0 else if askB ws (ks.getD i 0) = true then 0 else 1) (fun i => by split; omega; split <;> omega) hi
              rw [hz] at h1
              simp only [if_neg hu, if_neg ha] at h1
              omega
          exact ih (f - 1) (used.set i true) ((seat + 1) % ws.length) s (hfr.set (by simpa using ha)) (by omega) hmf1 (by omega)
    rw [hpart, sumF_add, sumF_mul, sumF_mul, hcnt]
    have hq : sumF (fun i => if winI ws seat (ks.getD i 0) = (s : Int) then 1 else 0) ks.length = hitQ ks ws seat s := rfl
    rw [hq]
    unfold ordF
    rw [sumF_shift]
    have e0 : hitQ ks ws ((seat + 0) % ws.length) s = hitQ ks ws seat s := by
      unfold hitQ
      refine sumF_congr fun i _ => ?_
      have : winI ws ((seat + 0) % ws.length) (ks.getD i 0) = winI ws seat (ks.getD i 0) := by
        rw [Nat.add_zero]
        exact winI_mod ws seat _
      rw [this]
    have et : sumF (fun t => fall (f - m) (t + 1) * fact (f - (t + 1) - 1) * hitQ ks ws ((seat + (t + 1)) % ws.length) s) d = ((f : Int) - m) * sumF (fun t => fall (f - 1 - m) t * fact (f - 1 - t - 1) * hitQ ks ws (((seat + 1) % ws.length + t) % ws.length) s) d := by
      rw [← sumF_mul]
      refine sumF_congr fun t _ => ?_
      rw [fall, show f - m - 1 = f - 1 - m by omega, show f - (t + 1) - 1 = f - 1 - t - 1 by omega, show (seat + (t + 1)) % ws.length = ((seat + 1) % ws.length + t) % ws.length by rw [Nat.mod_add_mod]; congr 1; omega, show ((f - m : Nat) : Int) = (f : Int) - m by omega]
      simp only [Int.mul_assoc]
    rw [e0, et]
    have ez : fall (f - m) 0 * fact (f - 0 - 1) = fact (f - 1) := by simp [fall]
    rw [ez]
    by_cases hs : s = ws.length
    · rw [if_pos hs, if_pos hs]
      have ef : fall (f - m) (d + 1) * fact (f - (d + 1)) = ((f : Int) - m) * (fall (f - 1 - m) d * fact (f - 1 - d)) := by
        rw [fall, show f - m - 1 = f - 1 - m by omega, show f - (d + 1) = f - 1 - d by omega, show ((f - m : Nat) : Int) = (f : Int) - m by omega, Int.mul_assoc]
      rw [ef]
      generalize fall (f - 1 - m) d * fact (f - 1 - d) = x
      generalize sumF (fun t => fall (f - 1 - m) t * fact (f - 1 - t - 1) * hitQ ks ws (((seat + 1) % ws.length + t) % ws.length) s) d = y
      grind
    · rw [if_neg hs, if_neg hs]
      generalize sumF (fun t => fall (f - 1 - m) t * fact (f - 1 - t - 1) * hitQ ks ws (((seat + 1) % ws.length + t) % ws.length) s) d = y
      grind

/-- The kinds of all tiles, of the first k kinds. -/
def ksTo (u : List Int) : Nat → List Int
  | 0 => []
  | k + 1 => ksTo u k ++ List.replicate (u.getD k 0).toNat (k : Int)
theorem sumF_list (g : Int → Int) (l : List Int) : sumF (fun i => g (l.getD i 0)) l.length = sumI (l.map g) := by
  induction l with
  | nil => rfl
  | cons a l ih =>
    rw [List.length_cons, sumF_shift, List.map_cons, sumI_cons, ← ih]
    rfl
theorem sumI_rep (n : Nat) (x : Int) : sumI (List.replicate n x) = n * x := by
  induction n with
  | zero => simp [sumI]
  | succ n ih => rw [List.replicate_succ, sumI_cons, ih, Int.natCast_add, Int.add_mul]; omega
theorem ksTo_sum {u : List Int} (hu : Within 0 4 u) (g : Int → Int) (k : Nat) : sumI ((ksTo u k).map g) = sumF (fun j => u.getD j 0 * g (j : Int)) k := by
  induction k with
  | zero => rfl
  | succ k ih =>
    have h0 := (hu.getD (by omega) (by omega) k).1
    rw [ksTo, List.map_append, sumI_append, ih, List.map_replicate, sumI_rep, sumF, show (((u.getD k 0).toNat : Nat) : Int) = u.getD k 0 by omega]
theorem ksTo_len {u : List Int} (hu : Within 0 4 u) (k : Nat) : ((ksTo u k).length : Int) = sumI (u.take k) := by
  induction k with
  | zero => rfl
  | succ k ih =>
    have h0 := (hu.getD (by omega) (by omega) k).1
    rw [ksTo, List.length_append, Int.natCast_add, ih, List.length_replicate, sum_take_succ]
    omega
theorem ksTo_ask {u : List Int} (hu : Within 0 4 u) (ws : List (List Int)) : askN (ksTo u u.length) ws = markAll u ws := by
  unfold askN markAll
  rw [sumF_list (fun z => if askB ws z = true then 1 else 0), ksTo_sum hu]
  have key : ∀ k, sumF (fun j => u.getD j 0 * (if askB ws (j : Int) = true then 1 else 0)) k = markM u ws k := by
    intro k
    induction k with
    | zero => rfl
    | succ k ih => rw [sumF, ih, markM]; split <;> simp
  exact key _
theorem ksTo_hit {u : List Int} (hu : Within 0 4 u) (ws : List (List Int)) (seat s : Nat) : hitQ (ksTo u u.length) ws seat s = raceK u ws seat 1 s u.length := by
  unfold hitQ
  rw [sumF_list (fun z => if winI ws seat z = (s : Int) then 1 else 0), ksTo_sum hu]
  have key : ∀ k, sumF (fun j => u.getD j 0 * (if winI ws seat (j : Int) = (s : Int) then 1 else 0)) k = raceK u ws seat 1 s k := by
    intro k
    induction k with
    | zero => rfl
    | succ k ih => rw [sumF, ih, raceK]; split <;> simp
  exact key _
theorem raceK_mul (u : List Int) (ws : List (List Int)) (seat : Nat) (b : Int) (s k : Nat) : raceK u ws seat b s k = b * raceK u ws seat 1 s k := by
  induction k with
  | zero => simp [raceK]
  | succ k ih =>
    rw [raceK, raceK, ih, Int.mul_add]
    split <;> simp

theorem seat_id {N m t : Nat} (hm : 1 ≤ m) (hmN : m ≤ N) (ht : t < N) : chooseI ((N : Int) - t - 1) ((m : Int) - 1) * fact N = fall (N - m) t * fact (N - t - 1) * (chooseI N m * m) := by
  rw [show (N : Int) - t - 1 = ((N - t - 1 : Nat) : Int) by omega, show (m : Int) - 1 = ((m - 1 : Nat) : Int) by omega, chooseI_nat, chooseI_nat]
  by_cases h : t ≤ N - m
  · have e1 := binom_fact (n := N - t - 1) (k := m - 1) (by omega)
    have e2 := binom_fact (n := N) (k := m) hmN
    have e3 := fall_fact (x := N - m) (t := t) h
    rw [show N - t - 1 - (m - 1) = N - m - t by omega] at e1
    obtain ⟨p, rfl⟩ : ∃ p, m = p + 1 := ⟨m - 1, by omega⟩
    have e4 : fact (p + 1) = (p + 1 : Nat) * fact p := rfl
    rw [e4] at e2
    rw [Nat.add_sub_cancel] at e1 ⊢
    have p1 := fact_pos p
    have p2 := fact_pos (N - (p + 1) - t)
    have p12 := Int.mul_pos p1 p2
    apply Int.eq_of_mul_eq_mul_right (Int.ne_of_gt p12)
    rw [← e2]
    generalize fact (N - (p + 1) - t) = x at *
    generalize fact p = y at *
    generalize fact (N - t - 1) = z at *
    generalize fact (N - (p + 1)) = v at *
    generalize fall (N - (p + 1)) t = r at *
    generalize (binom N (p + 1) : Int) = b at *
    generalize (binom (N - t - 1) p : Int) = c at *
    generalize ((p + 1 : Nat) : Int) = q at *
    subst e1 e3
    grind
  · rw [binom_gt (by omega), fall_out (by omega)]
    simp
theorem none_id {N m D : Nat} (_hm : 1 ≤ m) (hmN : m ≤ N) (hD : D ≤ N) : chooseI ((N : Int) - D) m * m * fact N = fall (N - m) D * fact (N - D) * (chooseI N m * m) := by
  rw [show (N : Int) - D = ((N - D : Nat) : Int) by omega, chooseI_nat, chooseI_nat]
  by_cases h : D ≤ N - m
  · have e1 := binom_fact (n := N - D) (k := m) (by omega)
    have e2 := binom_fact (n := N) (k := m) hmN
    have e3 := fall_fact (x := N - m) (t := D) h
    rw [show N - D - m = N - m - D by omega] at e1
    have p12 := Int.mul_pos (fact_pos m) (fact_pos (N - m - D))
    apply Int.eq_of_mul_eq_mul_right (Int.ne_of_gt p12)
    rw [← e2]
    generalize fact (N - m - D) = x at *
    generalize fact m = y at *
    generalize fact (N - D) = z at *
    generalize fact (N - m) = v at *
    generalize fall (N - m) D = r at *
    generalize (binom N m : Int) = b at *
    generalize (binom (N - D) m : Int) = c at *
    generalize (m : Int) = q at *
    subst e1 e3
    grind
  · rw [binom_gt (by omega), fall_out (by omega)]
    simp
/-- Of all orders each seat wins the same part as in the race. -/
theorem orders_race {u : List Int} {ws : List (List Int)} {F D N : Nat} (hu : Within 0 4 u) (hN : sumI u = N) (hD : D ≤ N) {m : Nat} (hm : markAll u ws = m) :
    (∀ s, s < ws.length → raceF u ws F D s * fact N = ordF (ksTo u u.length) ws m D N F s * raceA u ws) ∧ raceN u ws D * fact N = ordF (ksTo u u.length) ws m D N F ws.length * raceA u ws := by
  have hmN : m ≤ N := by
    have := (markM_le hu ws u.length).2
    rw [List.take_length, hN] at this
    have h2 : markM u ws u.length = m := hm
    omega
  have hout : sumF (fun t => fall (N - m) t * fact (N - t - 1) * hitQ (ksTo u u.length) ws ((F + t) % ws.length) ws.length) D = 0 := by
    rw [sumF_congr (g := fun _ => 0) fun t _ => by rw [hitQ_out, Int.mul_zero], sumF_zero]
  by_cases hz : m = 0
  · subst hz
    have hA : raceA u ws = 1 := by unfold raceA; rw [hm]; rfl
    have hNn : raceN u ws D = 1 := by unfold raceN; rw [hm]; rfl
    refine ⟨fun s hs => ?_, ?_⟩
    · have hq : ∀ seat, hitQ (ksTo u u.length) ws seat s = 0 := fun seat => by
        have ha := ksTo_ask hu ws
        rw [hm] at ha
        unfold hitQ
        rw [sumF_congr (g := fun _ => 0) fun i hi => ?_, sumF_zero]
        rw [if_neg]
        intro h
        have h1 : askB ws ((ksTo u u.length).getD i 0) = true := (winI_asked ws seat _).1 (by omega)
        have h2 := sumF_one (f := fun i => if askB ws ((ksTo u u.length).getD i 0) = true then (1 : Int) else 0) (fun i => by split <;> omega) hi
        unfold askN at ha
        rw [ha] at h2
        simp only [h1, if_true] at h2
        omega
      have hF : raceF u ws F D s = 0 := by unfold raceF; rw [hm]; rfl
      unfold ordF
      rw [hF, if_neg (by omega), sumF_congr (g := fun _ => 0) fun t _ => by rw [hq, Int.mul_zero], sumF_zero]
      simp
    · unfold ordF
      rw [if_pos rfl, hout, hA, hNn, Nat.sub_zero, fall_fact hD]
      simp
  · have hA : raceA u ws = chooseI N m * m := by unfold raceA; rw [hm, hN, if_neg (by omega)]
    have hNn : raceN u ws D = chooseI ((N : Int) - D) m * m := by unfold raceN; rw [hm, hN, if_neg (by omega)]
    refine ⟨fun s hs => ?_, ?_⟩
    · have hF : raceF u ws F D s = raceW u ws F N m s D := by unfold raceF; rw [hm, hN, if_neg (by omega)]; simp
      unfold ordF
      rw [hF, if_neg (by omega), hA, Int.zero_add]
      have key : ∀ t, t ≤ N → raceW u ws F N m s t * fact N = sumF (fun t => fall (N - m) t * fact (N - t - 1) * hitQ (ksTo u u.length) ws ((F + t) % ws.length) s) t * (chooseI N m * m) := by
        intro t
        induction t with
        | zero => intro _; simp [raceW, sumF]
        | succ t ih =>
          intro ht
          rw [raceW, sumF, Int.add_mul, Int.add_mul, ih (by omega), raceK_mul, ksTo_hit hu]
          have e := seat_id (N := N) (m := m) (t := t) (by omega) hmN (by omega)
          generalize raceK u ws ((F + t) % ws.length) 1 s u.length = q at *
          generalize chooseI ((N : Int) - t - 1) ((m : Int) - 1) = x at *
          generalize fall (N - m) t * fact (N - t - 1) = y at *
          generalize chooseI (N : Int) m * m = z at *
          generalize fact N = v at *
          grind
      exact key D hD
    · unfold ordF
      rw [if_pos rfl, hout, hA, hNn, Int.add_zero]
      exact none_id (by omega) hmN hD
end Go.Proofs.Ytgphdaipgodjgaa
