/-
  Races: who wins with a kind, in how many ways. Plain laws.
-/
import Derived.Test.YtgphdaipgodjgaaParts
namespace Go.Proofs.Ytgphdaipgodjgaa

/-- A number is in a list. -/
def hasB (l : List Int) (k : Int) : Bool := decide (k ∈ l)
def inW (ws : List (List Int)) (s : Nat) (k : Int) : Bool := hasB (ws.getD s []) k
def askB (ws : List (List Int)) (k : Int) : Bool := ws.any fun l => hasB l k
/-- How many seats on the winner is, if there is one. -/
def winN (ws : List (List Int)) (seat : Nat) (k : Int) : Nat := (List.range ws.length).findIdx fun i => inW ws ((seat + i) % ws.length) k
/-- Who wins with a kind that a seat draws; -1 if nobody does. -/
def winI (ws : List (List Int)) (seat : Nat) (k : Int) : Int := if winN ws seat k < ws.length then (((seat + winN ws seat k) % ws.length : Nat) : Int) else -1

theorem winI_found {ws : List (List Int)} {seat i : Nat} {k : Int} (hi : i < ws.length) (h : inW ws ((seat + i) % ws.length) k = true) (hb : ∀ j, j < i → inW ws ((seat + j) % ws.length) k = false) : winI ws seat k = (((seat + i) % ws.length : Nat) : Int) := by
  have e : winN ws seat k = i := by
    unfold winN
    refine (List.findIdx_eq (by simpa using hi)).2 ⟨by simpa using h, fun j hj => ?_⟩
    simpa using hb j hj
  unfold winI
  rw [e, if_pos hi]
theorem winI_none {ws : List (List Int)} {seat : Nat} {k : Int} (hb : ∀ j, j < ws.length → inW ws ((seat + j) % ws.length) k = false) : winI ws seat k = -1 := by
  unfold winI
  rw [if_neg]
  intro h
  have hl : winN ws seat k < (List.range ws.length).length := by simpa using h
  have h1 : inW ws ((seat + winN ws seat k) % ws.length) k = true := by
    have h1 : inW ws ((seat + (List.range ws.length)[winN ws seat k]'hl) % ws.length) k = true := List.findIdx_getElem (w := hl)
    rwa [List.getElem_range] at h1
  rw [hb _ h] at h1
  cases h1
theorem askB_in {ws : List (List Int)} {s : Nat} {k : Int} (hs : s < ws.length) (h : inW ws s k = true) : askB ws k = true := by
  unfold askB
  refine List.any_eq_true.2 ⟨ws[s], List.getElem_mem hs, ?_⟩
  unfold inW at h
  rwa [List.getD_eq_getElem?_getD, List.getElem?_eq_getElem hs] at h
theorem askB_out {ws : List (List Int)} {k : Int} (h : askB ws k = true) : ∃ s, s < ws.length ∧ inW ws s k = true := by
  unfold askB at h
  obtain ⟨l, hl, hk⟩ := List.any_eq_true.1 h
  obtain ⟨s, hs, rfl⟩ := List.getElem_of_mem hl
  refine ⟨s, hs, ?_⟩
  unfold inW
  rw [List.getD_eq_getElem?_getD, List.getElem?_eq_getElem hs]
  exact hk
/-- Going round from any seat comes to each seat. -/
theorem round_all {n seat s : Nat} (hs : s < n) : ∃ i, i < n ∧ (seat + i) % n = s := by
  have h1 := Nat.mod_lt seat (show 0 < n by omega)
  have h2 := Nat.div_add_mod seat n
  refine ⟨(s + n - seat % n) % n, Nat.mod_lt _ (by omega), ?_⟩
  rw [Nat.add_mod, Nat.mod_mod, ← Nat.add_mod]
  have e : seat + (s + n - seat % n) = s + n * (seat / n + 1) := by
    rw [Nat.mul_add, Nat.mul_one]
    omega
  rw [e, Nat.add_mul_mod_self_left, Nat.mod_eq_of_lt hs]
theorem none_asks {ws : List (List Int)} {seat : Nat} {k : Int} (hb : ∀ j, j < ws.length → inW ws ((seat + j) % ws.length) k = false) : askB ws k = false := by
  cases h : askB ws k with
  | false => rfl
  | true =>
    obtain ⟨s, hs, hk⟩ := askB_out h
    obtain ⟨i, hi, e⟩ := round_all (seat := seat) hs
    have := hb i hi
    rw [e, hk] at this
    cases this
theorem winI_ask (ws : List (List Int)) (seat : Nat) (k : Int) : (askB ws k = true ∧ 0 ≤ winI ws seat k ∧ winI ws seat k < ws.length) ∨ (askB ws k = false ∧ winI ws seat k = -1) := by
  by_cases h : winN ws seat k < ws.length
  · refine .inl ?_
    have hl : winN ws seat k < (List.range ws.length).length := by simpa using h
    have h1 : inW ws ((seat + winN ws seat k) % ws.length) k = true := by
      have h1 : inW ws ((seat + (List.range ws.length)[winN ws seat k]'hl) % ws.length) k = true := List.findIdx_getElem (w := hl)
      rwa [List.getElem_range] at h1
    have h2 := Nat.mod_lt (seat + winN ws seat k) (show 0 < ws.length by omega)
    have e : winI ws seat k = (((seat + winN ws seat k) % ws.length : Nat) : Int) := by unfold winI; rw [if_pos h]
    exact ⟨askB_in (by simpa using h2) h1, by omega, by omega⟩
  · refine .inr ?_
    have hb : ∀ j, j < ws.length → inW ws ((seat + j) % ws.length) k = false := fun j hj => by
      have hl : j < (List.range ws.length).findIdx fun i => inW ws ((seat + i) % ws.length) k := by unfold winN at h; omega
      have := List.not_of_lt_findIdx hl
      simpa using this
    exact ⟨none_asks hb, winI_none hb⟩

/-- How many tiles somebody waits for, of the first kinds. -/
def markM (u : List Int) (ws : List (List Int)) : Nat → Int
  | 0 => 0
  | k + 1 => markM u ws k + if askB ws (k : Int) = true then u.getD k 0 else 0
theorem sum_take_succ (u : List Int) (k : Nat) : sumI (u.take (k + 1)) = sumI (u.take k) + u.getD k 0 := by
  rcases Nat.lt_or_ge k u.length with hk | hk
  · rw [sumI_take u hk]; simp [List.getD, hk]
  · rw [List.take_of_length_le (by omega), List.take_of_length_le hk]; simp [List.getD, hk]
theorem markM_le {u : List Int} (hu : Within 0 4 u) (ws : List (List Int)) (k : Nat) : 0 ≤ markM u ws k ∧ markM u ws k ≤ sumI (u.take k) := by
  induction k with
  | zero => simp [markM, sumI]
  | succ k ih =>
    have h1 := hu.getD (by omega) (by omega) k
    rw [markM, sum_take_succ]
    split <;> omega

/-- The ways in which a seat wins at one draw, of the first kinds; b: each tile's. -/
def raceK (u : List Int) (ws : List (List Int)) (seat : Nat) (b : Int) (s : Nat) : Nat → Int
  | 0 => 0
  | k + 1 => raceK u ws seat b s k + if winI ws seat (k : Int) = (s : Int) then b * u.getD k 0 else 0
/-- The ways in which a seat wins in the first t draws. -/
def raceW (u : List Int) (ws : List (List Int)) (first N m : Nat) (s : Nat) : Nat → Int
  | 0 => 0
  | t + 1 => raceW u ws first N m s t + raceK u ws ((first + t) % ws.length) (chooseI ((N : Int) - t - 1) ((m : Int) - 1)) s u.length
def big41 : Int := 100000000000000000000000000000000000000000
theorem big41_pos : 0 < big41 := by unfold big41; omega
theorem choose_big {n : Int} (k : Int) (h : n ≤ 136) : 0 ≤ chooseI n k ∧ chooseI n k ≤ big41 := by
  refine ⟨chooseI_nonneg _ _, ?_⟩
  by_cases h' : k < 0 ∨ n < k
  · rw [chooseI_out h']; have := big41_pos; omega
  · obtain ⟨K, rfl⟩ := Int.eq_ofNat_of_zero_le (show 0 ≤ k by omega)
    obtain ⟨M, rfl⟩ := Int.eq_ofNat_of_zero_le (show 0 ≤ n by omega)
    rw [chooseI_nat]
    have h1 := binom_le M K
    have h2 : (2 : Nat) ^ M ≤ 2 ^ 136 := Nat.pow_le_pow_right (by omega) (by omega)
    have h3 : (2 : Nat) ^ 136 < 100000000000000000000000000000000000000000 := by decide
    unfold big41
    omega
theorem raceK_le {u : List Int} (hu : Within 0 4 u) (ws : List (List Int)) (seat : Nat) {b : Int} (hb : 0 ≤ b ∧ b ≤ big41) (s k : Nat) : 0 ≤ raceK u ws seat b s k ∧ raceK u ws seat b s k ≤ 4 * k * big41 := by
  induction k with
  | zero => simp [raceK]
  | succ k ih =>
    have h1 := hu.getD (by omega) (by omega) k
    have h2 : 0 ≤ b * u.getD k 0 := Int.mul_nonneg hb.1 h1.1
    have h3 : b * u.getD k 0 ≤ big41 * 4 := Int.le_trans (Int.mul_le_mul_of_nonneg_left h1.2 hb.1) (Int.mul_le_mul_of_nonneg_right hb.2 (by omega))
    have e : 4 * ((k + 1 : Nat) : Int) * big41 = 4 * (k : Int) * big41 + 4 * big41 := by
      rw [show 4 * ((k + 1 : Nat) : Int) = 4 * (k : Int) + 4 by omega, Int.add_mul]
    have := big41_pos
    rw [raceK, e]
    split <;> omega
theorem raceW_le {u : List Int} (hu : Within 0 4 u) (hl : u.length ≤ 34) (ws : List (List Int)) {first N m s t : Nat} (hN : N ≤ 136) : 0 ≤ raceW u ws first N m s t ∧ raceW u ws first N m s t ≤ 136 * t * big41 := by
  induction t with
  | zero => simp [raceW]
  | succ t ih =>
    have h1 := raceK_le hu ws ((first + t) % ws.length) (choose_big (n := (N : Int) - t - 1) ((m : Int) - 1) (by omega)) s u.length
    have e : 136 * ((t + 1 : Nat) : Int) * big41 = 136 * (t : Int) * big41 + 136 * big41 := by
      rw [show 136 * ((t + 1 : Nat) : Int) = 136 * (t : Int) + 136 by omega, Int.add_mul]
    have h2 : 4 * (u.length : Int) * big41 ≤ 136 * big41 := Int.mul_le_mul_of_nonneg_right (by omega) (Int.le_of_lt big41_pos)
    rw [raceW, e]
    omega
theorem small_big {n : Int} (h : n ≤ 20000 * big41) : Small n := small_of_lit (by unfold big41 at h; omega)
/-- What the walk of the loops asks of its sums. -/
theorem race_small {u : List Int} (hu : Within 0 4 u) (hl : u.length ≤ 34) (ws : List (List Int)) {first N m s t k : Nat} (hN : N ≤ 136) (ht : t < N) (hk : k < u.length) :
    Small (raceW u ws first N m s t + raceK u ws ((first + t) % ws.length) (chooseI ((N : Int) - t - 1) ((m : Int) - 1)) s k) ∧ Small (chooseI ((N : Int) - t - 1) ((m : Int) - 1)) ∧ Small (chooseI ((N : Int) - t - 1) ((m : Int) - 1) * u.getD k 0) := by
  have h0 := big41_pos
  have hc := choose_big (n := (N : Int) - t - 1) ((m : Int) - 1) (by omega)
  have h1 := raceK_le hu ws ((first + t) % ws.length) hc s k
  have h2 := raceW_le hu hl ws (first := first) (m := m) (s := s) (t := t) hN
  have h3 : 4 * (k : Int) * big41 ≤ 136 * big41 := Int.mul_le_mul_of_nonneg_right (by omega) (Int.le_of_lt h0)
  have h4 : 136 * (t : Int) * big41 ≤ 18496 * big41 := Int.mul_le_mul_of_nonneg_right (by omega) (Int.le_of_lt h0)
  have h5 := hu.getD (by omega) (by omega) k
  have h6 : chooseI ((N : Int) - t - 1) ((m : Int) - 1) * u.getD k 0 ≤ big41 * 4 := Int.le_trans (Int.mul_le_mul_of_nonneg_left h5.2 hc.1) (Int.mul_le_mul_of_nonneg_right hc.2 (by omega))
  exact ⟨small_big (by omega), small_big (by omega), small_big (by omega)⟩

/-- The first error of waits. -/
def waitErr (many : Int) : List (List Int) → Int
  | [] => 0
  | l :: r => if risErr many (-1) l = 0 then waitErr many r else risErr many (-1) l
theorem waitErr_drop {many : Int} {ws : List (List Int)} {s : Nat} (h : s < ws.length) : waitErr many (ws.drop s) = if risErr many (-1) ws[s] = 0 then waitErr many (ws.drop (s + 1)) else risErr many (-1) ws[s] := by
  rw [List.drop_eq_getElem_cons h]; rfl
theorem waitErr_ok {many : Int} : ∀ {ws : List (List Int)}, waitErr many ws = 0 → ∀ l ∈ ws, risErr many (-1) l = 0 := by
  intro ws
  induction ws with
  | nil => intro _ l hl; simp at hl
  | cons x ws ih =>
    intro h l hl
    unfold waitErr at h
    by_cases hx : risErr many (-1) x = 0
    · rw [if_pos hx] at h
      rcases List.mem_cons.1 hl with rfl | hl
      · exact hx
      · exact ih h l hl
    · rw [if_neg hx] at h; exact absurd h hx
theorem ok_waitErr {many : Int} : ∀ {ws : List (List Int)}, (∀ l ∈ ws, risErr many (-1) l = 0) → waitErr many ws = 0 := by
  intro ws
  induction ws with
  | nil => intro _; rfl
  | cons x ws ih =>
    intro h
    unfold waitErr
    rw [if_pos (h x (by simp))]
    exact ih fun l hl => h l (by simp [hl])
/-- The error of a race. -/
def raceErr (u : List Int) (ws : List (List Int)) (first draws : Int) : Int :=
  if unErr u ≠ 0 then unErr u else if ws.length = 0 then 6 else if 4 < ws.length then 8 else if waitErr u.length ws ≠ 0 then waitErr u.length ws
  else if first < 0 ∨ (ws.length : Int) ≤ first ∨ draws < 0 ∨ sumI u < draws then 2 else 0
def markAll (u : List Int) (ws : List (List Int)) : Int := markM u ws u.length
def raceF (u : List Int) (ws : List (List Int)) (first draws : Int) (s : Nat) : Int := if markAll u ws = 0 then 0 else raceW u ws first.toNat (sumI u).toNat (markAll u ws).toNat s draws.toNat
def raceN (u : List Int) (ws : List (List Int)) (draws : Int) : Int := if markAll u ws = 0 then 1 else chooseI (sumI u - draws) (markAll u ws) * markAll u ws
def raceA (u : List Int) (ws : List (List Int)) : Int := if markAll u ws = 0 then 1 else chooseI (sumI u) (markAll u ws) * markAll u ws

/-- What is marked when some kinds of some seats have been seen. -/
def Marks (ws : List (List Int)) (s : Nat) (l : List Int) (n : Nat) (bs : List Bool) : Prop := bs.length = n ∧ ∀ (k : Nat) (h : k < bs.length), bs[k] = (askB (ws.take s) (k : Int) || hasB l (k : Int))
theorem hasB_nil (k : Int) : hasB [] k = false := by simp [hasB]
theorem Marks.start (ws : List (List Int)) (n : Nat) : Marks ws 0 [] n (List.replicate n false) := by
  refine ⟨by simp, fun k h => ?_⟩
  simp [askB, hasB_nil]
theorem Marks.kind {ws : List (List Int)} {s n : Nat} {l : List Int} {bs : List Bool} (h : Marks ws s l n bs) {z : Int} (hz : 0 ≤ z) (_hn : z < n) : Marks ws s (l ++ [z]) n (bs.set z.toNat true) := by
  refine ⟨by rw [List.length_set]; exact h.1, fun k hk => ?_⟩
  have hk' : k < bs.length := by simpa using hk
  by_cases e : z.toNat = k
  · subst e
    have e2 : ((z.toNat : Nat) : Int) = z := by omega
    simp [hasB, e2]
  · rw [List.getElem_set_ne e, h.2 k hk']
    have e2 : (k : Int) ≠ z := by omega
    simp [hasB, e2]
theorem Marks.seat {ws : List (List Int)} {s n : Nat} {bs : List Bool} (hs : s < ws.length) (h : Marks ws s ws[s] n bs) : Marks ws (s + 1) [] n bs := by
  refine ⟨h.1, fun k hk => ?_⟩
  rw [h.2 k hk, hasB_nil, Bool.or_false]
  unfold askB
  rw [List.take_succ_eq_append_getElem hs, List.any_append]
  simp only [List.any_cons, List.any_nil, Bool.or_false]
theorem Marks.all {ws : List (List Int)} {n : Nat} {bs : List Bool} (h : Marks ws ws.length [] n bs) {k : Nat} (hk : k < bs.length) : bs[k] = askB ws (k : Int) := by
  rw [h.2 k hk, List.take_length, hasB_nil, Bool.or_false]

/-- Those who win never: the places behind the draws, one after the other. -/
theorem hockey (N d m : Nat) {i : Nat} (_hd : d ≤ N) (hi : d + i < N) (_hm : 1 ≤ m) : (chooseI ((N : Int) - d) m - chooseI ((N : Int) - (d + i : Nat)) m) * m + chooseI ((N : Int) - ((d + i + 1 : Nat) : Int)) ((m : Int) - 1) * m = (chooseI ((N : Int) - d) m - chooseI ((N : Int) - ((d + i + 1 : Nat) : Int)) m) * m := by
  have e : (N : Int) - ((d + i : Nat) : Int) = ((N - (d + i + 1) + 1 : Nat) : Int) := by omega
  have e2 : (N : Int) - ((d + i + 1 : Nat) : Int) = ((N - (d + i + 1) : Nat) : Int) := by omega
  have h := pascal (N - (d + i + 1)) (m : Int)
  rw [e, e2, ← h]
  generalize chooseI ((N - (d + i + 1) : Nat) : Int) ((m : Int) - 1) = x at *
  generalize chooseI ((N - (d + i + 1) : Nat) : Int) (m : Int) = y at *
  generalize chooseI ((N : Int) - d) m = z at *
  grind
/-- The seats that somebody goes round, one after the other. -/
theorem round_step (s i n : Nat) (_h : 0 < n) : ((s + i) % n + 1) % n = (s + (i + 1)) % n := by
  rw [← Nat.add_assoc, Nat.add_mod, Nat.mod_mod, ← Nat.add_mod]
theorem round_back {s i n : Nat} (hs : s < n) (hi : i < n) : ((((s + i) % n : Nat) : Int) - s) % (n : Int) = i := by
  rcases Nat.lt_or_ge (s + i) n with h | h
  · rw [Nat.mod_eq_of_lt h]
    rw [show ((s + i : Nat) : Int) - (s : Int) = (i : Int) by omega]
    exact Int.emod_eq_of_lt (by omega) (by omega)
  · rw [Nat.mod_eq_sub_mod h, Nat.mod_eq_of_lt (by omega)]
    rw [show ((s + i - n : Nat) : Int) - (s : Int) = (i : Int) + (n : Int) * (-1) by omega, Int.add_mul_emod_self_left]
    exact Int.emod_eq_of_lt (by omega) (by omega)
end Go.Proofs.Ytgphdaipgodjgaa
