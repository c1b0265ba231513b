/-
  Counts of tiles and their errors. Plain lemmas, no program.
-/
import Derived.Test.YtomgilkchlediaaGreatDoorBin
namespace Go.Proofs.YtomgilkchlediaaGreatDoor

def sumI (l : List Int) : Int := l.foldr (· + ·) 0
theorem sumI_nil : sumI [] = 0 := rfl
theorem sumI_cons (x : Int) (l : List Int) : sumI (x :: l) = x + sumI l := rfl
theorem sumI_append (l m : List Int) : sumI (l ++ m) = sumI l + sumI m := by
  induction l with
  | nil => simp [sumI_nil]
  | cons x l ih => rw [List.cons_append, sumI_cons, sumI_cons, ih]; omega
theorem sumI_take (l : List Int) {k : Nat} (h : k < l.length) : sumI (l.take (k + 1)) = sumI (l.take k) + l[k] := by
  rw [List.take_succ_eq_append_getElem h, sumI_append]; simp [sumI]
/-- Each is from lo to hi. -/
def Within (lo hi : Int) (l : List Int) : Prop := ∀ z ∈ l, lo ≤ z ∧ z ≤ hi
theorem Within.at_ {lo hi : Int} {l : List Int} (h : Within lo hi l) {k : Nat} (hk : k < l.length) : lo ≤ l[k] ∧ l[k] ≤ hi := h _ (List.getElem_mem hk)
theorem Within.sum {lo hi : Int} {l : List Int} (h : Within lo hi l) : lo * l.length ≤ sumI l ∧ sumI l ≤ hi * l.length := by
  induction l with
  | nil => simp [sumI]
  | cons x l ih =>
    have h1 := h x (by simp)
    have h2 := ih (fun z hz => h z (by simp [hz]))
    rw [sumI_cons, List.length_cons]
    have e1 : lo * ((l.length + 1 : Nat) : Int) = lo * l.length + lo := by rw [Int.natCast_add, Int.mul_add]; simp
    have e2 : hi * ((l.length + 1 : Nat) : Int) = hi * l.length + hi := by rw [Int.natCast_add, Int.mul_add]; simp
    omega
theorem Within.take {lo hi : Int} {l : List Int} (h : Within lo hi l) (k : Nat) : Within lo hi (l.take k) := fun z hz => h z (List.mem_of_mem_take hz)

/-- Not from 0 to a greatest one. -/
def outB (most z : Int) : Bool := decide (z < 0) || decide (most < z)
theorem outB_any {most : Int} {l : List Int} (h : l.any (outB most) = false) : Within 0 most l := fun z hz => by
  have := List.any_eq_false.1 h z hz
  unfold outB at this
  simp at this
  omega
theorem any_outB {most : Int} {l : List Int} (h : Within 0 most l) : l.any (outB most) = false := List.any_eq_false.2 fun z hz => by
  have := h z hz
  unfold outB
  simp
  omega
/-- The error of unseen tiles. -/
def unErr (u : List Int) : Int := if u.length = 0 then 6 else if 34 < u.length then 8 else if u.any (outB 4) then 2 else 0
theorem unErr_ok {u : List Int} (h : unErr u = 0) : 0 < u.length ∧ u.length ≤ 34 ∧ Within 0 4 u := by
  unfold unErr at h
  by_cases h1 : u.length = 0
  · rw [if_pos h1] at h; omega
  · rw [if_neg h1] at h
    by_cases h2 : 34 < u.length
    · rw [if_pos h2] at h; omega
    · rw [if_neg h2] at h
      by_cases h3 : u.any (outB 4) = true
      · rw [if_pos h3] at h; omega
      · exact ⟨by omega, by omega, outB_any (by simpa using h3)⟩
theorem ok_unErr {u : List Int} (h0 : 0 < u.length) (h1 : u.length ≤ 34) (h : Within 0 4 u) : unErr u = 0 := by
  unfold unErr
  rw [if_neg (by omega), if_neg (by omega), any_outB h]; simp
theorem sum_un {u : List Int} (h : unErr u = 0) : 0 ≤ sumI u ∧ sumI u ≤ 136 := by
  obtain ⟨h1, h2, h3⟩ := unErr_ok h
  have := h3.sum
  omega

/-- The error of kinds that are to be places of so many, and ascending; p: the one before. -/
def risErr (many : Int) : Int → List Int → Int
  | _, [] => 0
  | p, z :: l => if z < 0 ∨ many ≤ z then 2 else if z ≤ p then 11 else risErr many z l
/-- The one before the place k; -1 at the beginning. -/
def prevI (l : List Int) (k : Nat) : Int := if h : 0 < k ∧ k - 1 < l.length then l[k - 1] else -1
theorem prevI_zero (l : List Int) : prevI l 0 = -1 := by unfold prevI; rw [dif_neg (by omega)]
theorem prevI_succ {l : List Int} {k : Nat} (h : k < l.length) : prevI l (k + 1) = l[k] := by unfold prevI; rw [dif_pos ⟨by omega, by omega⟩]; rfl
theorem risErr_drop {many p : Int} {l : List Int} {k : Nat} (h : k < l.length) : risErr many p (l.drop k) = if l[k] < 0 ∨ many ≤ l[k] then 2 else if l[k] ≤ p then 11 else risErr many l[k] (l.drop (k + 1)) := by
  rw [List.drop_eq_getElem_cons h]; rfl
/-- The tiles of some kinds. -/
def sumAt (u : List Int) (ks : List Int) : Int := sumI (ks.map fun k => u.getD k.toNat 0)
theorem sumAt_take (u ks : List Int) {k : Nat} (h : k < ks.length) : sumAt u (ks.take (k + 1)) = sumAt u (ks.take k) + u.getD ks[k].toNat 0 := by
  unfold sumAt
  rw [List.take_succ_eq_append_getElem h, List.map_append, sumI_append]; simp [sumI]
theorem ris_in {many : Int} : ∀ {l : List Int} {p : Int}, risErr many p l = 0 → ∀ z ∈ l, 0 ≤ z ∧ z < many ∧ p < z := by
  intro l
  induction l with
  | nil => intro p _ z hz; simp at hz
  | cons x l ih =>
    intro p h z hz
    unfold risErr at h
    by_cases h1 : x < 0 ∨ many ≤ x
    · rw [if_pos h1] at h; omega
    · rw [if_neg h1] at h
      by_cases h2 : x ≤ p
      · rw [if_pos h2] at h; omega
      · rw [if_neg h2] at h
        rcases List.mem_cons.1 hz with rfl | hz
        · omega
        · have := ih h z hz; omega
theorem ris_len {many : Int} : ∀ {l : List Int} {p : Int}, risErr many p l = 0 → p < many → (l.length : Int) + p < many := by
  intro l
  induction l with
  | nil => intro p _ hp; simpa using hp
  | cons x l ih =>
    intro p h hp
    have hx := ris_in h x (by simp)
    have h' := h
    unfold risErr at h'
    rw [if_neg (by omega), if_neg (by omega)] at h'
    have := ih h' hx.2.1
    rw [List.length_cons]
    omega
/-- Tiles of different kinds are no more than all. -/
theorem sumAt_le {u : List Int} (hu : ∀ z ∈ u, 0 ≤ z) : ∀ {ks : List Int} {p : Int}, risErr u.length p ks = 0 → -1 ≤ p → 0 ≤ sumAt u ks ∧ sumAt u ks ≤ sumI (u.drop (p + 1).toNat) := by
  have hnn : ∀ (l : List Int), (∀ z ∈ l, 0 ≤ z) → 0 ≤ sumI l := by
    intro l
    induction l with
    | nil => intro _; simp [sumI]
    | cons x l ih => intro h; rw [sumI_cons]; have := h x (by simp); have := ih (fun z hz => h z (by simp [hz])); omega
  have hdrop : ∀ (a b : Nat), a ≤ b → sumI (u.drop b) ≤ sumI (u.drop a) := by
    intro a b hab
    obtain ⟨d, rfl⟩ := Nat.exists_eq_add_of_le hab
    have e : sumI (u.drop a) = sumI ((u.drop a).take d) + sumI ((u.drop a).drop d) := by rw [← sumI_append, List.take_append_drop]
    rw [List.drop_drop] at e
    have := hnn ((u.drop a).take d) (fun z hz => hu z (List.mem_of_mem_drop (List.mem_of_mem_take hz)))
    omega
  intro ks
  induction ks with
  | nil =>
    intro p _ _
    exact ⟨by simp [sumAt, sumI], by
      show (0 : Int) ≤ _
      exact hnn _ fun z hz => hu z (List.mem_of_mem_drop hz)⟩
  | cons x ks ih =>
    intro p h hp
    have hx := ris_in h x (by simp)
    have h' := h
    unfold risErr at h'
    rw [if_neg (by omega), if_neg (by omega)] at h'
    have h1 := ih h' (by omega)
    have e : sumAt u (x :: ks) = u.getD x.toNat 0 + sumAt u ks := rfl
    have hl : x.toNat < u.length := by omega
    have e2 : sumI (u.drop x.toNat) = u.getD x.toNat 0 + sumI (u.drop (x.toNat + 1)) := by
      rw [List.drop_eq_getElem_cons hl, sumI_cons]
      simp [List.getD, hl]
    have e3 : (x + 1).toNat = x.toNat + 1 := by omega
    rw [e3] at h1
    have h2 := hdrop (p + 1).toNat x.toNat (by omega)
    have h3 : 0 ≤ u.getD x.toNat 0 := by
      rw [List.getD_eq_getElem?_getD, List.getElem?_eq_getElem hl]
      exact hu _ (List.getElem_mem hl)
    omega
end Go.Proofs.YtomgilkchlediaaGreatDoor
