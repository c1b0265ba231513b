/-
  Parts of the proof: Places, TextS.
-/
import Derived.Test.YtjiahcfegfimmaaKnown16
/-
  The places of kinds. Plain laws.
-/
namespace Go.Proofs.Ytjiahcfegfimmaa

/-- The elements bear the numbers from a on. -/
def Indexed (a : Int) (l : List KPlace) : Prop := ∀ (i : Nat) (h : i < l.length), l[i].1 = a + i
theorem Indexed.nil {a : Int} : Indexed a [] := fun i h => by simp at h
theorem Indexed.append {a : Int} {l m : List KPlace} (h : Indexed a l) (k : Indexed (a + l.length) m) : Indexed a (l ++ m) := fun i hi => by
  rcases Nat.lt_or_ge i l.length with h1 | h1
  · rw [List.getElem_append_left h1]; exact h i h1
  · rw [List.length_append] at hi
    rw [List.getElem_append_right h1, k (i - l.length) (by omega)]
    omega
theorem Indexed.congr {a b : Int} {l : List KPlace} (h : Indexed a l) (e : a = b) : Indexed b l := e ▸ h
theorem rowP_indexed (a su : Int) (n : Nat) : Indexed a (rowP a su n) := by
  induction n with
  | zero => exact Indexed.nil
  | succ n ih =>
    rw [rowP]
    refine ih.append fun i h => ?_
    simp only [List.length_singleton] at h
    obtain rfl : i = 0 := by omega
    rw [rowP_length]
    simp
theorem mem_rowP {a su : Int} {n : Nat} {x : KPlace} : x ∈ rowP a su n ↔ ∃ i : Nat, i < n ∧ x = (a + i, su, (i : Int)) := by
  induction n with
  | zero => simp [rowP]
  | succ n ih =>
    rw [rowP, List.mem_append, ih, List.mem_singleton]
    constructor
    · rintro (⟨i, h, e⟩ | e)
      · exact ⟨i, by omega, e⟩
      · exact ⟨n, by omega, e⟩
    · rintro ⟨i, h, e⟩
      by_cases hi : i = n
      · subst hi; exact .inr e
      · exact .inl ⟨i, by omega, e⟩
theorem mem_suitsP {l : List Int} {k : Nat} {x : KPlace} : x ∈ suitsP l k ↔ ∃ j : Nat, j < k ∧ x ∈ rowP (sumI (l.take j)) (j : Int) (l.getD j 0).toNat := by
  induction k with
  | zero => simp [suitsP]
  | succ k ih =>
    rw [suitsP, List.mem_append, ih]
    constructor
    · rintro (⟨i, h, e⟩ | e)
      · exact ⟨i, by omega, e⟩
      · exact ⟨k, by omega, e⟩
    · rintro ⟨i, h, e⟩
      by_cases hi : i = k
      · subst hi; exact .inr e
      · exact .inl ⟨i, by omega, e⟩
theorem suitsP_length {l : List Int} (h : ∀ z ∈ l, 0 ≤ z) : ∀ k, k ≤ l.length → ((suitsP l k).length : Int) = sumI (l.take k) := by
  intro k
  induction k with
  | zero => intro _; rfl
  | succ k ih =>
    intro hk
    have hz := h l[k] (List.getElem_mem (by omega))
    rw [suitsP, List.length_append, rowP_length, Int.natCast_add, ih (by omega), sumI_take l (by omega), show l.getD k 0 = l[k] by simp [List.getD, show k < l.length by omega]]
    omega
theorem suitsP_indexed {l : List Int} (h : ∀ z ∈ l, 0 ≤ z) : ∀ k, k ≤ l.length → Indexed 0 (suitsP l k) := by
  intro k
  induction k with
  | zero => intro _; exact Indexed.nil
  | succ k ih =>
    intro hk
    rw [suitsP]
    exact (ih (by omega)).append ((rowP_indexed _ _ _).congr (by rw [suitsP_length h k (by omega)]; omega))

theorem places3 (s : TSet) : placesTo s 3 = suitsP s.su s.su.length ++ rowP (sumI s.su) (-1) s.wi.toNat ++ rowP (sumI s.su + s.wi) (-2) s.dr.toNat ++ rowP (sumI s.su + s.wi + s.dr) (-3) s.fl.toNat := rfl
section
variable {s : TSet} (V : Valid s)
include V
theorem Valid.su0 : ∀ z ∈ s.su, 0 ≤ z := fun z hz => by have := V.su z hz; omega
theorem Valid.sum : 0 ≤ sumI s.su ∧ sumI s.su ≤ 27 := by
  have h := sumI_bound V.su
  have := V.su3
  omega
theorem places_length : (((placesTo s 3).length : Nat) : Int) = plainI s + s.fl := by
  have h := suitsP_length V.su0 s.su.length (Nat.le_refl _)
  rw [List.take_length] at h
  have v1 := V.wi
  have v2 := V.dr
  have v3 := V.fl
  rw [places3]
  unfold plainI
  simp only [List.length_append, rowP_length, Int.natCast_add, h]
  omega
theorem places_indexed : Indexed 0 (placesTo s 3) := by
  have h := suitsP_length V.su0 s.su.length (Nat.le_refl _)
  rw [List.take_length] at h
  have v1 := V.wi
  have v2 := V.dr
  have v3 := V.fl
  have i0 := suitsP_indexed V.su0 s.su.length (Nat.le_refl _)
  rw [places3]
  refine ((i0.append ((rowP_indexed _ _ _).congr ?_)).append ((rowP_indexed _ _ _).congr ?_)).append ((rowP_indexed _ _ _).congr ?_)
  · omega
  · rw [List.length_append, rowP_length]; omega
  · rw [List.length_append, List.length_append, rowP_length, rowP_length]; omega
end
theorem Indexed.find {l : List KPlace} (h : Indexed 0 l) {x : KPlace} (hx : x ∈ l) : l.find? (fun y => y.1 == x.1) = some x := by
  obtain ⟨i, hi, rfl⟩ := List.getElem_of_mem hx
  refine List.find?_eq_some_iff_getElem.2 ⟨by simp, i, hi, rfl, fun j hj => ?_⟩
  have h1 := h i hi
  have h2 := h j (by omega)
  simp
  omega
theorem Indexed.out {l : List KPlace} (h : Indexed 0 l) {k : Int} (hk : k < 0 ∨ (l.length : Int) ≤ k) : l.find? (fun y => y.1 == k) = none := by
  refine List.find?_eq_none.2 fun y hy => ?_
  obtain ⟨i, hi, rfl⟩ := List.getElem_of_mem hy
  have h1 := h i hi
  simp
  omega
theorem allP_indexed (s : TSet) : Indexed 0 (allP s) := by
  by_cases e : chkErr s = 0
  · rw [allP_ok e]; exact places_indexed (valid_of e)
  · rw [allP_bad e]; exact Indexed.nil
/-- How many kinds there are, flowers too. -/
theorem allP_length (s : TSet) : ((allP s).length : Int) = if chkErr s = 0 then plainI s + s.fl else 0 := by
  by_cases e : chkErr s = 0
  · rw [allP_ok e, if_pos e]; exact places_length (valid_of e)
  · rw [allP_bad e, if_neg e]; rfl
theorem place_mem {s : TSet} {x : KPlace} (h : x ∈ allP s) : placeP s x.1 = x.2 := by
  unfold placeP
  rw [(allP_indexed s).find h]
theorem place_out {s : TSet} {k : Int} (hk : k < 0 ∨ ((allP s).length : Int) ≤ k) : placeP s k = (-4, 0) := by
  unfold placeP
  rw [(allP_indexed s).out hk]
theorem place_bad {s : TSet} (k : Int) (h : chkErr s ≠ 0) : placeP s k = (-4, 0) := by
  unfold placeP
  rw [allP_bad h]
  rfl
/-- Within the range there is a place. -/
theorem place_in {s : TSet} {k : Int} (h0 : 0 ≤ k) (h1 : k < ((allP s).length : Int)) : (k, placeP s k) ∈ allP s := by
  have hi : k.toNat < (allP s).length := by omega
  have h := allP_indexed s k.toNat hi
  have hm := List.getElem_mem hi
  have hp := place_mem hm
  rw [show (0 : Int) + (k.toNat : Int) = k by omega] at h
  rw [h] at hp
  have e2 : (k, placeP s k) = (allP s)[k.toNat] := Prod.ext h.symm hp
  rw [e2]
  exact hm
/-- A kind's place: of a suit; a wind, a dragon, a flower. -/
def InSuit (s : TSet) (k : Int) (j : Nat) (r : Nat) : Prop := ∃ h : j < s.su.length, (r : Int) < s.su[j] ∧ k = sumI (s.su.take j) + r
theorem place_cases {s : TSet} {x : KPlace} (e : chkErr s = 0) (h : x ∈ allP s) :
    (∃ j r : Nat, InSuit s x.1 j r ∧ x.2 = ((j : Int), (r : Int))) ∨ (∃ r : Nat, (r : Int) < s.wi ∧ x.1 = sumI s.su + r ∧ x.2 = (-1, (r : Int))) ∨ (∃ r : Nat, (r : Int) < s.dr ∧ x.1 = sumI s.su + s.wi + r ∧ x.2 = (-2, (r : Int))) ∨ (∃ r : Nat, (r : Int) < s.fl ∧ x.1 = sumI s.su + s.wi + s.dr + r ∧ x.2 = (-3, (r : Int))) := by
  have V := valid_of e
  rw [allP_ok e, places3] at h
  rw [List.mem_append, List.mem_append, List.mem_append, mem_suitsP, mem_rowP, mem_rowP, mem_rowP] at h
  rcases h with ((⟨j, hj, h⟩ | ⟨i, hi, rfl⟩) | ⟨i, hi, rfl⟩) | ⟨i, hi, rfl⟩
  · obtain ⟨i, hi, rfl⟩ := mem_rowP.1 h
    rw [show s.su.getD j 0 = s.su[j] by simp [List.getD, hj]] at hi
    exact .inl ⟨j, i, ⟨hj, by omega, rfl⟩, rfl⟩
  · exact .inr (.inl ⟨i, by omega, rfl, rfl⟩)
  · exact .inr (.inr (.inl ⟨i, by omega, rfl, rfl⟩))
  · exact .inr (.inr (.inr ⟨i, by omega, rfl, rfl⟩))
theorem mem_suit {s : TSet} {k : Int} {j r : Nat} (e : chkErr s = 0) (h : InSuit s k j r) : ((k, (j : Int), (r : Int)) : KPlace) ∈ allP s := by
  obtain ⟨hj, hr, rfl⟩ := h
  rw [allP_ok e, places3]
  refine List.mem_append_left _ (List.mem_append_left _ (List.mem_append_left _ (mem_suitsP.2 ⟨j, hj, mem_rowP.2 ⟨r, ?_, rfl⟩⟩)))
  rw [show s.su.getD j 0 = s.su[j] by simp [List.getD, hj]]
  omega
theorem mem_wind {s : TSet} {r : Nat} (e : chkErr s = 0) (h : (r : Int) < s.wi) : ((sumI s.su + r, -1, (r : Int)) : KPlace) ∈ allP s := by
  rw [allP_ok e, places3]
  exact List.mem_append_left _ (List.mem_append_left _ (List.mem_append_right _ (mem_rowP.2 ⟨r, by omega, rfl⟩)))
theorem mem_dragon {s : TSet} {r : Nat} (e : chkErr s = 0) (h : (r : Int) < s.dr) : ((sumI s.su + s.wi + r, -2, (r : Int)) : KPlace) ∈ allP s := by
  rw [allP_ok e, places3]
  exact List.mem_append_left _ (List.mem_append_right _ (mem_rowP.2 ⟨r, by omega, rfl⟩))
theorem mem_flower {s : TSet} {r : Nat} (e : chkErr s = 0) (h : (r : Int) < s.fl) : ((sumI s.su + s.wi + s.dr + r, -3, (r : Int)) : KPlace) ∈ allP s := by
  rw [allP_ok e, places3]
  exact List.mem_append_right _ (mem_rowP.2 ⟨r, by omega, rfl⟩)
end Go.Proofs.Ytjiahcfegfimmaa

/-
  The text of faces, in plain terms: letters, digits, what a list of faces is written as. No program.
-/
namespace Go.Proofs.Ytjiahcfegfimmaa
open Go.RowKit

/-- A face: its kind, and whether it is red. -/
abbrev FaceZ := Int × Bool
/-- The number of a letter. -/
def letN (su : Int) (red : Bool) : Int := (if su < 0 then 2 - su else su) + (if red = true then 6 else 0)
def letL : List Int := [109, 112, 115, 119, 100, 102, 77, 80, 83, 87, 68]
def letB (n : Int) : Int := letL.getD n.toNat 0
theorem letN_is {su : Int} {red : Bool} (h0 : -3 ≤ su) (h1 : su ≤ 2) : 0 ≤ letN su red ∧ letN su red ≤ (if red = true then 11 else 5) := by
  unfold letN
  cases red <;> simp <;> split <;> omega
theorem letB_pos {n : Int} (h0 : 0 ≤ n) (h1 : n < 11) : 68 ≤ letB n ∧ letB n < 120 := by
  unfold letB letL
  rcases (show n = 0 ∨ n = 1 ∨ n = 2 ∨ n = 3 ∨ n = 4 ∨ n = 5 ∨ n = 6 ∨ n = 7 ∨ n = 8 ∨ n = 9 ∨ n = 10 by omega) with rfl | rfl | rfl | rfl | rfl | rfl | rfl | rfl | rfl | rfl | rfl <;> decide
theorem letB_inj {n m : Int} (h0 : 0 ≤ n) (h1 : n < 11) (k0 : 0 ≤ m) (k1 : m < 11) (h : letB n = letB m) : n = m := by
  have key : ∀ a : Fin 11, ∀ b : Fin 11, letL.getD a.val 0 = letL.getD b.val 0 → a = b := by decide
  have := key ⟨n.toNat, by omega⟩ ⟨m.toNat, by omega⟩ h
  have := congrArg Fin.val this
  simp at this
  omega

/-- The first error of faces. -/
def facesErr (s : TSet) : List FaceZ → Int
  | [] => 0
  | f :: l => if (placeP s f.1).1 = -4 then 2 else if f.2 = true ∧ f.1 ∉ s.re then 4 else facesErr s l
def textErr (s : TSet) (l : List FaceZ) : Int := if chkErr s ≠ 0 then chkErr s else facesErr s l
theorem facesErr_drop {s : TSet} {l : List FaceZ} {k : Nat} (h : k < l.length) : facesErr s (l.drop k) = if (placeP s l[k].1).1 = -4 then 2 else if l[k].2 = true ∧ l[k].1 ∉ s.re then 4 else facesErr s (l.drop (k + 1)) := by
  rw [List.drop_eq_getElem_cons h]; rfl

/-- What a face is written as: its letter, its digit. -/
def markF (s : TSet) (f : FaceZ) : Int × Int := (letB (letN (placeP s f.1).1 f.2), 49 + (placeP s f.1).2)
/-- What is still to be written, behind digits of the letter c. -/
def tailB : Int → List (Int × Int) → List Int
  | c, [] => [c]
  | c, m :: t => if c = m.1 then m.2 :: tailB m.1 t else c :: m.2 :: tailB m.1 t
def writeB : List (Int × Int) → List Int
  | [] => []
  | m :: t => m.2 :: tailB m.1 t
def textB (s : TSet) (l : List FaceZ) : List Int := writeB (l.map (markF s))
theorem writeB_last (m : Int × Int) : writeB [m] = [m.2, m.1] := rfl
theorem writeB_more (m n : Int × Int) (t : List (Int × Int)) : writeB (m :: n :: t) = if n.1 ≠ m.1 then m.2 :: m.1 :: writeB (n :: t) else m.2 :: writeB (n :: t) := by
  show m.2 :: tailB m.1 (n :: t) = _
  show m.2 :: (if m.1 = n.1 then n.2 :: tailB n.1 t else m.1 :: n.2 :: tailB n.1 t) = _
  by_cases h : m.1 = n.1
  · rw [if_pos h, if_neg (by simp [h])]; rfl
  · rw [if_neg h, if_pos (fun e => h e.symm)]; rfl
/-- What is still to be written behind a last letter; 0: none yet. -/
def restB (last : Int) (t : List (Int × Int)) : List Int := if last = 0 then writeB t else tailB last t
theorem restB_cons {last : Int} {m : Int × Int} {t : List (Int × Int)} (hm : m.1 ≠ 0) : restB last (m :: t) = (if last ≠ 0 ∧ last ≠ m.1 then [last] else []) ++ m.2 :: restB m.1 t := by
  unfold restB
  rw [if_neg hm]
  by_cases h0 : last = 0
  · rw [if_pos h0, if_neg (by simp [h0])]; rfl
  · rw [if_neg h0]
    by_cases h1 : last = m.1
    · rw [if_neg (by simp [h1])]; show (if last = m.1 then _ else _) = _; rw [if_pos h1]; rfl
    · rw [if_pos ⟨h0, h1⟩]; show (if last = m.1 then _ else _) = _; rw [if_neg h1]; rfl
theorem restB_nil (last : Int) : restB last [] = if last ≠ 0 then [last] else [] := by
  unfold restB
  by_cases h0 : last = 0
  · rw [if_pos h0, if_neg (by simp [h0])]; rfl
  · rw [if_neg h0, if_pos h0]; rfl
theorem tailB_length (c : Int) (t : List (Int × Int)) : (tailB c t).length ≤ 1 + 2 * t.length := by
  induction t generalizing c with
  | nil => simp [tailB]
  | cons m t ih =>
    have := ih m.1
    unfold tailB
    split <;> simp <;> omega
theorem writeB_length (t : List (Int × Int)) : (writeB t).length ≤ 2 * t.length := by
  cases t with
  | nil => simp [writeB]
  | cons m t => have := tailB_length m.1 t; simp [writeB]; omega
end Go.Proofs.Ytjiahcfegfimmaa
