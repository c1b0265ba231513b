/-
  Walls, bags and faces of a set that is valid: what is handed back, opened.
-/
import Derived.Test.YtjiahcfegfimmaaAdds
namespace Go.Proofs.Ytjiahcfegfimmaa
open Go.RowKit

/-- What Bag hands back: no error, and this list. -/
def BagIs (w : World) (M : Nat) (l : List Int) (e : Ending) (w' : World) : Prop := ∃ A c, e = .returned (.tuple #[.slice A M c, .int .i64 0]) ∧ IsInts w' (.slice A M c) l ∧ Grow w w'
theorem bag_is (v v2 : Value) (s : TSet) (ts : List Int) (w : World) (M : Nat) (h : IsSet w v s) (h2 : IsInts w v2 ts) (hp : WallPart s ts) (e : chkErr s = 0) (hl : ts.length ≤ 1000000) (hM : (bagI s ts).length = M) : Calls Try.prog 62 #[v, v2] w (BagIs w M (bagI s ts)) := by
  have ho := hp.once e
  have hz := size_bound s
  refine (Bag_any v v2 s ts w h h2 (fun t ht => by have := hp.1 t ht; omega) hl).mono ?_
  rintro e w' ⟨v, rfl, hi, hg⟩
  unfold bagV at hi
  rw [if_pos ho] at hi
  obtain ⟨A, c, rfl, _⟩ := id hi
  exact ⟨A, c, by rw [ho, hM], by rw [← hM]; exact hi, hg⟩
def FcsIs (w : World) (M : Nat) (l : List (Int × Bool)) (e : Ending) (w' : World) : Prop := ∃ A c, e = .returned (.tuple #[.slice A M c, .int .i64 0]) ∧ M ≤ c ∧ c ≤ maxLen ∧ Rd w' A (faceCells l) ∧ Grow w w'
theorem fcs_is (v v2 : Value) (s : TSet) (ts : List Int) (w : World) (h : IsSet w v s) (h2 : IsInts w v2 ts) (hp : WallPart s ts) (e : chkErr s = 0) (hl : ts.length ≤ 1000000) : Calls Try.prog 64 #[v, v2] w (FcsIs w ts.length (facesI s ts)) := by
  have ho := hp.once e
  have hz := size_bound s
  refine (Faces_any v v2 s ts w h h2 (fun t ht => by have := hp.1 t ht; omega) hl).mono ?_
  rintro e w' ⟨v, rfl, hi, hg⟩
  unfold facesV at hi
  rw [if_pos ho] at hi
  obtain ⟨A, c, rfl, h1, h2, h3⟩ := hi
  have hM : (facesI s ts).length = ts.length := by simp [facesI]
  exact ⟨A, c, by rw [ho, hM], by rw [← hM]; exact h1, h2, h3, hg⟩
theorem size_pos {s : TSet} (V : Valid s) : 1 ≤ plainI s * s.co + s.fl := by
  have h1 := V.full
  have h2 := V.de
  have h3 : 0 ≤ s.pl * (3 * s.me + 1) := Int.mul_nonneg (by have := V.pl; omega) (by have := V.me; omega)
  omega

/-- What Wall hands back: so many tiles. -/
def WallIs (w : World) (n : Nat) (l : List Int) (e : Ending) (w' : World) : Prop := ∃ A c, e = .returned (.slice A n c) ∧ IsInts w' (.slice A n c) l ∧ Grow w w'
theorem wall_is (v : Value) (s : TSet) (seed : Int) (w : World) {n : Nat} (h : IsSet w v s) (hn : (wallI s seed).length = n) : Calls Try.prog 23 #[v, .int .u64 seed] w (WallIs w n (wallI s seed)) := by
  refine (Wall_any v s seed w h).mono ?_
  rintro e w' ⟨v, rfl, hi, hg⟩
  obtain ⟨A, c, rfl, _⟩ := id hi
  exact ⟨A, c, by rw [hn], by rw [← hn]; exact hi, hg⟩
end Go.Proofs.Ytjiahcfegfimmaa
