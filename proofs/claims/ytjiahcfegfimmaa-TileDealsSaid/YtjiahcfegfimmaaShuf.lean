/-
  Walls: what is shuffled. Plain laws.
-/
import Derived.Test.YtjiahcfegfimmaaLcg
namespace Go.Proofs.Ytjiahcfegfimmaa

def swapL (l : List Int) (a b : Nat) : List Int := (l.set a (l.getD b 0)).set b (l.getD a 0)
theorem swapL_length (l : List Int) (a b : Nat) : (swapL l a b).length = l.length := by unfold swapL; simp
/-- The tiles 0, 1, 2, up to n - 1. -/
def upto (n : Nat) : List Int := (List.range n).map fun (i : Nat) => (i : Int)
theorem upto_length (n : Nat) : (upto n).length = n := by simp [upto]
theorem upto_succ (n : Nat) : upto (n + 1) = upto n ++ [(n : Int)] := by simp [upto, List.range_succ]
theorem upto_at {n i : Nat} (h : i < (upto n).length) : (upto n)[i] = (i : Int) := by simp [upto]
/-- From place i down. -/
noncomputable def shuf : Nat → Int → List Int → List Int
  | 0, _, l => l
  | i + 1, x, l => shuf i (drawX ((i : Int) + 2) x) (swapL l (i + 1) (drawV ((i : Int) + 2) x).toNat)
theorem shuf_length (i : Nat) (x : Int) (l : List Int) : (shuf i x l).length = l.length := by
  induction i generalizing x l with
  | zero => rfl
  | succ i ih => rw [shuf, ih, swapL_length]
theorem swapL_take {l : List Int} {n a b : Nat} (ha : a < n) (hb : b < n) : (swapL l a b).take n = swapL (l.take n) a b := by
  unfold swapL
  have h1 : ∀ i, i < n → (l.take n).getD i 0 = l.getD i 0 := fun i hi => by
    rw [List.getD_eq_getElem?_getD, List.getD_eq_getElem?_getD, List.getElem?_take, if_pos hi]
  rw [h1 a ha, h1 b hb]
  apply List.ext_getElem?
  intro i
  simp only [List.getElem?_take, List.getElem?_set, List.length_set, List.length_take]
  by_cases hi : i < n
  · simp only [if_pos hi]
    by_cases e : b = i
    · simp only [if_pos e]
      by_cases hl : b < l.length
      · rw [if_pos hl, if_pos (by omega)]
      · rw [if_neg hl, if_neg (by omega)]
    · simp only [if_neg e]
      by_cases e2 : a = i
      · simp only [if_pos e2]
        by_cases hl : a < l.length
        · rw [if_pos hl, if_pos (by omega)]
        · rw [if_neg hl, if_neg (by omega)]
      · simp only [if_neg e2]
  · simp only [if_neg hi]
    rw [if_neg (by omega), if_neg (by omega)]
end Go.Proofs.Ytjiahcfegfimmaa
