/-
  Deals: what is dealt. Plain laws.
-/
import Derived.Test.YtjiahcfegfimmaaHands
namespace Go.Proofs.Ytjiahcfegfimmaa

/-- m tiles to each of the first seats, from the dealer on. -/
def giveN (P d m : Nat) : Nat → List (List Int) → List Int → List (List Int)
  | 0, hs, _ => hs
  | i + 1, hs, r => (giveN P d m i hs r).set ((d + i) % P) ((giveN P d m i hs r).getD ((d + i) % P) [] ++ (r.drop (i * m)).take m)
theorem giveN_length (P d m i : Nat) (hs : List (List Int)) (r : List Int) : (giveN P d m i hs r).length = hs.length := by
  induction i with
  | zero => rfl
  | succ i ih => rw [giveN, List.length_set, ih]
theorem giveN_bound {P d m B : Nat} {hs : List (List Int)} {r : List Int} (hm : m ≤ 4) (h : ∀ l ∈ hs, l.length ≤ B) : ∀ i : Nat, ∀ l ∈ giveN P d m i hs r, l.length ≤ B + 4 * i := by
  intro i
  induction i with
  | zero => exact fun l hl => by have := h l hl; omega
  | succ i ih =>
    intro l hl
    rw [giveN] at hl
    have hcat : ((giveN P d m i hs r).getD ((d + i) % P) []).length ≤ B + 4 * i := by
      by_cases hx : (d + i) % P < (giveN P d m i hs r).length
      · rw [List.getD_eq_getElem?_getD, List.getElem?_eq_getElem hx]; exact ih _ (List.getElem_mem hx)
      · rw [List.getD_eq_getElem?_getD, List.getElem?_eq_none (by omega)]; simp
    rcases List.mem_or_eq_of_mem_set hl with h1 | rfl
    · have := ih l h1; omega
    · rw [List.length_append, List.length_take]; omega
def someN (lack : Nat) : Nat := if 4 ≤ lack then 4 else 1
def dealF (P d : Nat) : Nat → Nat → List (List Int) → List Int → List (List Int) × List Int
  | 0, _, hs, r => (hs, r)
  | f + 1, lack, hs, r => if lack = 0 then (hs, r) else dealF P d f (lack - someN lack) (giveN P d (someN lack) P hs r) (r.drop (P * someN lack))
theorem dealF_zero (P d f : Nat) (hs : List (List Int)) (r : List Int) : dealF P d f 0 hs r = (hs, r) := by
  cases f <;> rfl
theorem dealF_succ {P d f lack : Nat} {hs : List (List Int)} {r : List Int} (h : 0 < lack) : dealF P d (f + 1) lack hs r = dealF P d f (lack - someN lack) (giveN P d (someN lack) P hs r) (r.drop (P * someN lack)) := by
  rw [dealF, if_neg (by omega)]
theorem someN_is (lack : Nat) : (4 ≤ lack ∧ someN lack = 4) ∨ (lack < 4 ∧ someN lack = 1) := by
  unfold someN
  split <;> omega
/-- Tiles enough for what is lacking, and X more. -/
def Enough (X P lack : Nat) (r : List Int) : Prop := P * lack + X ≤ r.length
theorem Enough.step {X P lack i : Nat} {r : List Int} (h : Enough X P lack r) (hP : P = 3 ∨ P = 4) (hl : 0 < lack) (hi : i < P) : i * someN lack + someN lack ≤ r.length := by
  unfold Enough at h
  rcases someN_is lack with ⟨h1, h2⟩ | ⟨h1, h2⟩ <;> rw [h2] <;> rcases hP with rfl | rfl <;> omega
theorem Enough.next {X P lack : Nat} {r : List Int} (h : Enough X P lack r) (hP : P = 3 ∨ P = 4) (hl : 0 < lack) : Enough X P (lack - someN lack) (r.drop (P * someN lack)) := by
  unfold Enough at *
  rw [List.length_drop]
  rcases someN_is lack with ⟨h1, h2⟩ | ⟨h1, h2⟩ <;> rw [h2] <;> rcases hP with rfl | rfl <;> omega
def dealErr (s : TSet) (wall : List Int) (cut d : Int) : Int :=
  if chkErr s ≠ 0 then chkErr s
  else if (wall.length : Int) ≠ sizeI s ∨ onceErr s wall ≠ 0 then 3
  else if cut < 0 ∨ sizeI s ≤ cut ∨ d < 0 ∨ s.pl ≤ d then 2
  else 0
/-- Hands and what is left. -/
def dealtI (s : TSet) (wall : List Int) (cut d : Int) : List (List Int) × List Int :=
  dealF s.pl.toNat d.toNat 13 (3 * s.me + 1).toNat (List.replicate s.pl.toNat []) (wall.drop cut.toNat ++ wall.take cut.toNat)
def liveI (s : TSet) (wall : List Int) (cut d : Int) : List Int := (dealtI s wall cut d).2.take ((dealtI s wall cut d).2.length - s.de.toNat)
def deadI (s : TSet) (wall : List Int) (cut d : Int) : List Int := (dealtI s wall cut d).2.drop ((dealtI s wall cut d).2.length - s.de.toNat)
end Go.Proofs.Ytjiahcfegfimmaa
