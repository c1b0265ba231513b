/-
  The text of faces, in plain terms: letters, digits, what a list of faces is written as. No program.
-/
import Derived.Test.YtjiahcfegfimmaaPlaces
namespace Go.Proofs.Ytjiahcfegfimmaa
open Go.RowKit

/-- A face: its kind, and whether it is red. -/
abbrev FaceZ := Int × Bool
/-- The number of a letter. -/
def letN (su : Int) (red : Bool) : Int := (if su < 0 then 2 - su else su) + (if red = true then 6 else 0)
def letL : List Int := [109, 112, 115, 119, 100, 102, 77, 80, 83, 87, 68]
def letB (n : Int) : Int := letL.getD n.toNat 0
theorem letN_is {su : Int} {red : Bool} (h0 : -3 ≤ su) (h1 : su ≤ 2) : 0 ≤ letN su red ∧ letN su red ≤ (if red = true then 11 else 5) := by
  unfold letN
  cases red <;> simp <;> split <;> omega
theorem letB_pos {n : Int} (h0 : 0 ≤ n) (h1 : n < 11) : 68 ≤ letB n ∧ letB n < 120 := by
  unfold letB letL
  rcases (show n = 0 ∨ n = 1 ∨ n = 2 ∨ n = 3 ∨ n = 4 ∨ n = 5 ∨ n = 6 ∨ n = 7 ∨ n = 8 ∨ n = 9 ∨ n = 10 by omega) with rfl | rfl | rfl | rfl | rfl | rfl | rfl | rfl | rfl | rfl | rfl <;> decide
theorem letB_inj {n m : Int} (h0 : 0 ≤ n) (h1 : n < 11) (k0 : 0 ≤ m) (k1 : m < 11) (h : letB n = letB m) : n = m := by
  have key : ∀ a : Fin 11, ∀ b : Fin 11, letL.getD a.val 0 = letL.getD b.val 0 → a = b := by decide
  have := key ⟨n.toNat, by omega⟩ ⟨m.toNat, by omega⟩ h
  have := congrArg Fin.val this
  simp at this
  omega

/-- The first error of faces. -/
def facesErr (s : TSet) : List FaceZ → Int
  | [] => 0
  | f :: l => if (placeP s f.1).1 = -4 then 2 else if f.2 = true ∧ f.1 ∉ s.re then 4 else facesErr s l
def textErr (s : TSet) (l : List FaceZ) : Int := if chkErr s ≠ 0 then chkErr s else facesErr s l
theorem facesErr_drop {s : TSet} {l : List FaceZ} {k : Nat} (h : k < l.length) : facesErr s (l.drop k) = if (placeP s l[k].1).1 = -4 then 2 else if l[k].2 = true ∧ l[k].1 ∉ s.re then 4 else facesErr s (l.drop (k + 1)) := by
  rw [List.drop_eq_getElem_cons h]; rfl

/-- What a face is written as: its letter, its digit. -/
def markF (s : TSet) (f : FaceZ) : Int × Int := (letB (letN (placeP s f.1).1 f.2), 49 + (placeP s f.1).2)
/-- What is still to be written, behind digits of the letter c. -/
def tailB : Int → List (Int × Int) → List Int
  | c, [] => [c]
  | c, m :: t => if c = m.1 then m.2 :: tailB m.1 t else c :: m.2 :: tailB m.1 t
def writeB : List (Int × Int) → List Int
  | [] => []
  | m :: t => m.2 :: tailB m.1 t
def textB (s : TSet) (l : List FaceZ) : List Int := writeB (l.map (markF s))
theorem writeB_last (m : Int × Int) : writeB [m] = [m.2, m.1] := rfl
theorem writeB_more (m n : Int × Int) (t : List (Int × Int)) : writeB (m :: n :: t) = if n.1 ≠ m.1 then m.2 :: m.1 :: writeB (n :: t) else m.2 :: writeB (n :: t) := by
  show m.2 :: tailB m.1 (n :: t) = _
  show m.2 :: (if m.1 = n.1 then n.2 :: tailB n.1 t else m.1 :: n.2 :: tailB n.1 t) = _
  by_cases h : m.1 = n.1
  · rw [if_pos h, if_neg (by simp [h])]; rfl
  · rw [if_neg h, if_pos (fun e => h e.symm)]; rfl
/-- What is still to be written behind a last letter; 0: none yet. -/
def restB (last : Int) (t : List (Int × Int)) : List Int := if last = 0 then writeB t else tailB last t
theorem restB_cons {last : Int} {m : Int × Int} {t : List (Int × Int)} (hm : m.1 ≠ 0) : restB last (m :: t) = (if last ≠ 0 ∧ last ≠ m.1 then [last] else []) ++ m.2 :: restB m.1 t := by
  unfold restB
  rw [if_neg hm]
  by_cases h0 : last = 0
  · rw [if_pos h0, if_neg (by simp [h0])]; rfl
  · rw [if_neg h0]
    by_cases h1 : last = m.1
    · rw [if_neg (by simp [h1])]; show (if last = m.1 then _ else _) = _; rw [if_pos h1]; rfl
    · rw [if_pos ⟨h0, h1⟩]; show (if last = m.1 then _ else _) = _; rw [if_neg h1]; rfl
theorem restB_nil (last : Int) : restB last [] = if last ≠ 0 then [last] else [] := by
  unfold restB
  by_cases h0 : last = 0
  · rw [if_pos h0, if_neg (by simp [h0])]; rfl
  · rw [if_neg h0, if_pos h0]; rfl
theorem tailB_length (c : Int) (t : List (Int × Int)) : (tailB c t).length ≤ 1 + 2 * t.length := by
  induction t generalizing c with
  | nil => simp [tailB]
  | cons m t ih =>
    have := ih m.1
    unfold tailB
    split <;> simp <;> omega
theorem writeB_length (t : List (Int × Int)) : (writeB t).length ≤ 2 * t.length := by
  cases t with
  | nil => simp [writeB]
  | cons m t => have := tailB_length m.1 t; simp [writeB]; omega
end Go.Proofs.Ytjiahcfegfimmaa
