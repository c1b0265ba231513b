/-
  Plain laws of ChancePlaces: in all ways each seat has one place, and each place one seat.
-/
import Derived.Test.YtomgilkchlediaaRanksT
import Derived.Test.YtomgilkchlediaaSwMade
namespace Go.Proofs.Ytomgilkchlediaa
open Go.RowKit

theorem sumI_two {α : Type} (f g : α → Int) (l : List α) : sumI (l.map fun x => f x + g x) = sumI (l.map f) + sumI (l.map g) := by
  induction l with
  | nil => simp [sumI]
  | cons x l ih => simp only [List.map_cons, sumI_cons, ih]; omega
theorem wsum_plus (l : List Sw) (f g : List Int → Int) : ∀ (d : Nat) (p : List Int), wsum l (fun q => f q + g q) d p = wsum l f d p + wsum l g d p
  | 0, p => rfl
  | d + 1, p => by
    rw [wsum, wsum, wsum, ← sumI_two]
    congr 1
    refine List.map_congr_left fun s _ => ?_
    rw [wsum_plus l f g d, Int.mul_add]
theorem wsum_congr {n : Nat} {l : List Sw} (hl : ∀ s ∈ l, s.p.length = n) {f g : List Int → Int} (h : ∀ p, p.length = n → f p = g p) : ∀ (d : Nat) (p : List Int), p.length = n → wsum l f d p = wsum l g d p
  | 0, p, hp => h p hp
  | d + 1, p, hp => by
    rw [wsum, wsum]
    congr 1
    refine List.map_congr_left fun s hs => ?_
    rw [wsum_congr hl h d _ (addP_len hp (hl s hs))]
theorem wsum_mono {l : List Sw} (hw : ∀ s ∈ l, 1 ≤ s.w) {f g : List Int → Int} (h : ∀ p, f p ≤ g p) : ∀ (d : Nat) (p : List Int), wsum l f d p ≤ wsum l g d p
  | 0, p => h p
  | d + 1, p => by
    rw [wsum, wsum]
    have ih := wsum_mono hw h d
    clear h
    induction l with
    | nil => simp
    | cons s l _ =>
      have key : ∀ m : List Sw, (∀ s ∈ m, 1 ≤ s.w) → sumI (m.map fun x => x.w * wsum (s :: l) f d (addP p x.p)) ≤ sumI (m.map fun x => x.w * wsum (s :: l) g d (addP p x.p)) := by
        intro m
        induction m with
        | nil => simp
        | cons x m ihm =>
          intro hm
          have h1 := ihm fun y hy => hm y (List.mem_cons_of_mem _ hy)
          have h2 : x.w * wsum (s :: l) f d (addP p x.p) ≤ x.w * wsum (s :: l) g d (addP p x.p) := Int.mul_le_mul_of_nonneg_left (ih _) (by have := hm x (List.mem_cons_self ..); omega)
          simp only [List.map_cons, sumI_cons]
          omega
      exact key _ hw
def sumW (l : List Sw) : Int := sumI (l.map fun s => s.w)
def powW (c : Int) : Nat → Int
  | 0 => 1
  | k + 1 => powW c k * c
theorem sumI_times (c : Int) (l : List Sw) : sumI (l.map fun s => s.w * c) = c * sumW l := by
  unfold sumW
  induction l with
  | nil => simp [sumI]
  | cons s l ih => simp only [List.map_cons, sumI_cons, ih, Int.mul_add, Int.mul_comm s.w c]
theorem wsum_one (l : List Sw) : ∀ (d : Nat) (p : List Int), wsum l oneP d p = powW (sumW l) d
  | 0, p => rfl
  | d + 1, p => by
    rw [wsum, powW, ← sumI_times]
    congr 1
    exact List.map_congr_left fun s _ => by rw [wsum_one l d]
theorem sumW_made {n : Nat} {l : List Sw} (h : SwMade n l) : 1 ≤ sumW l ∧ sumW l ≤ 36 := by
  have key : ∀ m : List Sw, (∀ s ∈ m, 1 ≤ s.w ∧ s.w ≤ 9) → (m.length : Int) ≤ sumW m ∧ sumW m ≤ 9 * (m.length : Int) := by
    intro m
    induction m with
    | nil => simp [sumW, sumI]
    | cons s m ih =>
      intro hm
      have h1 := ih fun x hx => hm x (List.mem_cons_of_mem _ hx)
      have h2 := hm s (List.mem_cons_self ..)
      unfold sumW at h1 ⊢
      simp only [List.map_cons, sumI_cons, List.length_cons]
      omega
  have h1 := key l fun s hs => (h.each s hs).1
  have h2 := h.len
  omega
theorem powW_bound {c : Int} (h : 1 ≤ c ∧ c ≤ 36) {d : Nat} (hd : d ≤ 3) : 1 ≤ powW c d ∧ powW c d ≤ 46656 := by
  have e1 : powW c 1 = c := by rw [powW, powW, Int.one_mul]
  have h2 : 1 ≤ c * c ∧ c * c ≤ 1296 := ⟨by have := Int.mul_le_mul h.1 h.1 (by decide) (by omega); omega, by have := Int.mul_le_mul h.2 h.2 (by omega) (by decide); omega⟩
  have e2 : powW c 2 = c * c := by rw [powW, e1]
  rcases (show d = 0 ∨ d = 1 ∨ d = 2 ∨ d = 3 by omega) with rfl | rfl | rfl | rfl
  · rw [powW]; omega
  · rw [e1]; omega
  · rw [e2]; omega
  · rw [powW, e2]
    exact ⟨by have := Int.mul_le_mul h2.1 h.1 (by decide) (by omega); omega, by have := Int.mul_le_mul h2.2 h.2 (by omega) (by decide); omega⟩
/-- 1 where a seat has one of the first k places. -/
def rowP (i k : Nat) (p : List Int) : Int := if placeN p i < k then 1 else 0
theorem rowP_succ (i k : Nat) : rowP i (k + 1) = fun p => rowP i k p + indP i k p := by
  funext p
  unfold rowP indP
  by_cases h : placeN p i < k
  · rw [if_pos (by omega), if_pos h, if_neg (by omega)]; rfl
  · by_cases h2 : placeN p i = k
    · rw [if_pos (by omega), if_neg h, if_pos h2]; rfl
    · rw [if_neg (by omega), if_neg h, if_neg h2]; rfl
theorem row_step (l : List Sw) (d : Nat) (p : List Int) (i k : Nat) : wsum l (rowP i (k + 1)) d p = wsum l (rowP i k) d p + wsum l (indP i k) d p := by
  rw [rowP_succ, wsum_plus]
/-- How many of the first k seats have a place. -/
def colP (i : Nat) : Nat → List Int → Int
  | 0, _ => 0
  | k + 1, p => colP i k p + indP k i p
theorem col_step (l : List Sw) (d : Nat) (p : List Int) (i k : Nat) : wsum l (colP i (k + 1)) d p = wsum l (colP i k) d p + wsum l (indP k i) d p := by
  rw [show colP i (k + 1) = fun p => colP i k p + indP k i p from rfl, wsum_plus]
theorem wsum_zero (l : List Sw) : ∀ (d : Nat) (p : List Int), wsum l (fun _ => 0) d p = 0
  | 0, p => rfl
  | d + 1, p => by
    rw [wsum]
    have : (l.map fun s => s.w * wsum l (fun _ => 0) d (addP p s.p)) = l.map fun _ => (0 : Int) := List.map_congr_left fun s _ => by rw [wsum_zero l d, Int.mul_zero]
    rw [this]
    clear this
    induction l with
    | nil => simp [sumI]
    | cons s l ih => simp only [List.map_cons, sumI_cons, ih]; rfl
theorem rowP_zero (i : Nat) : rowP i 0 = fun _ => 0 := by funext p; unfold rowP; rw [if_neg (by omega)]
theorem rowP_all {n i : Nat} {p : List Int} (hp : p.length = n) (hi : i < n) : rowP i n p = oneP p := by
  unfold rowP
  rw [if_pos (by rw [← hp]; exact placeN_lt (by omega))]
  rfl
theorem colP_all {n i : Nat} {p : List Int} (hp : p.length = n) (h1 : 1 ≤ n) (h4 : n ≤ 4) (hi : i < n) : colP i n p = oneP p := by
  obtain ⟨sl, _, ok⟩ := seats_sorted p n hp h1 h4
  have hil : i < sl.length := by rw [ok.len]; exact hi
  have h0 := ok.at_ i hil
  have hu := ok.only hil
  generalize (sl[i]).val = s at *
  have key : ∀ k, k ≤ n → colP i k p = if s < k then 1 else 0 := by
    intro k
    induction k with
    | zero => intro _; rfl
    | succ k ih =>
      intro hk
      rw [colP, ih (by omega)]
      unfold indP
      by_cases e : placeN p k = i
      · have := hu k (by omega) e
        rw [if_pos e, if_neg (by omega), if_pos (by omega)]
        rfl
      · have : k ≠ s := fun h => e (by rw [h]; exact h0.2)
        rw [if_neg e]
        by_cases h : s < k
        · rw [if_pos h, if_pos (by omega)]; rfl
        · rw [if_neg h, if_neg (by omega)]; rfl
  rw [key n (Nat.le_refl _), if_pos h0.1]
  rfl
theorem row_all {n i : Nat} {l : List Sw} {p : List Int} (hl : ∀ s ∈ l, s.p.length = n) (hp : p.length = n) (hi : i < n) (d : Nat) : wsum l (rowP i n) d p = powW (sumW l) d := by
  rw [wsum_congr hl (fun q hq => rowP_all hq hi) d p hp, wsum_one]
theorem col_all {n i : Nat} {l : List Sw} {p : List Int} (hl : ∀ s ∈ l, s.p.length = n) (hp : p.length = n) (h1 : 1 ≤ n) (h4 : n ≤ 4) (hi : i < n) (d : Nat) : wsum l (colP i n) d p = powW (sumW l) d := by
  rw [wsum_congr hl (fun q hq => colP_all hq h1 h4 hi) d p hp, wsum_one]
/-- All counts are small. -/
theorem wsum_small {n : Nat} {l : List Sw} (h : SwMade n l) {d : Nat} (hd : d ≤ 3) {f : List Int → Int} (hf : ∀ p, 0 ≤ f p ∧ f p ≤ 1) (p : List Int) : 0 ≤ wsum l f d p ∧ wsum l f d p ≤ 46656 := by
  have hw : ∀ s ∈ l, 1 ≤ s.w := fun s hs => (h.each s hs).1.1
  have h1 := wsum_mono hw (fun p => (hf p).1) d p
  have h2 := wsum_mono hw (g := oneP) (fun p => (hf p).2) d p
  rw [wsum_zero] at h1
  rw [wsum_one] at h2
  have := (powW_bound (sumW_made h) hd).2
  exact ⟨h1, by omega⟩
theorem rowP_bound (i k : Nat) (p : List Int) : 0 ≤ rowP i k p ∧ rowP i k p ≤ 1 := by unfold rowP; split <;> omega
theorem colP_bound (i : Nat) : ∀ (k : Nat) (p : List Int), 0 ≤ colP i k p ∧ colP i k p ≤ (k : Int)
  | 0, p => by rw [colP]; omega
  | k + 1, p => by
    have h1 := colP_bound i k p
    have h2 := indP_bound k i p
    rw [colP]
    omega
theorem wsum_colsmall {n : Nat} {l : List Sw} (h : SwMade n l) {d : Nat} (hd : d ≤ 3) (i : Nat) (p : List Int) : ∀ k, 0 ≤ wsum l (colP i k) d p ∧ wsum l (colP i k) d p ≤ 46656 * (k : Int)
  | 0 => by rw [show colP i 0 = fun _ => 0 from rfl, wsum_zero]; omega
  | k + 1 => by
    have h1 := wsum_colsmall h hd i p k
    have h2 := wsum_small h hd (indP_bound k i) p
    rw [col_step]
    omega
theorem wsum_rowsmall {n : Nat} {l : List Sw} (h : SwMade n l) {d : Nat} (hd : d ≤ 3) (i : Nat) (p : List Int) (k : Nat) : 0 ≤ wsum l (rowP i k) d p ∧ wsum l (rowP i k) d p ≤ 46656 := wsum_small h hd (rowP_bound i k) p
end Go.Proofs.Ytomgilkchlediaa
