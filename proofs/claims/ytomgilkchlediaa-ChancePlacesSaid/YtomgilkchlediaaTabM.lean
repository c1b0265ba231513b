/-
  A table of naturals is made; what Ranks answers. Plain laws.
-/
import Derived.Test.YtomgilkchlediaaRCount
namespace Go.Proofs.Ytomgilkchlediaa
open Go.RowKit

/-- The first k rows lie. -/
def rowsQ (Q : Nat → Nat) (n k : Nat) : List Value := (List.range n).map fun i => if i < k then .slice (some ⟨Q i, 0, none⟩) n n else .slice none 0 0
theorem rowsQ_zero (Q : Nat → Nat) (n : Nat) : rowsQ Q n 0 = List.replicate n (.slice none 0 0) := by
  unfold rowsQ
  apply List.ext_getElem?
  intro i
  by_cases h : i < n <;> simp [h]
theorem rowsQ_len (Q : Nat → Nat) (n k : Nat) : (rowsQ Q n k).length = n := by simp [rowsQ]
def putQ (Q : Nat → Nat) (k g : Nat) (i : Nat) : Nat := if i = k then g else Q i
theorem rowsQ_set (Q : Nat → Nat) (n k g : Nat) (hk : k < n) : (rowsQ Q n k).set k (.slice (some ⟨g, 0, none⟩) n n) = rowsQ (putQ Q k g) n (k + 1) := by
  apply List.ext_getElem?
  intro i
  rw [List.getElem?_set, rowsQ_len]
  by_cases e : k = i
  · subst e
    rw [if_pos rfl, if_pos hk]
    simp [rowsQ, hk, putQ]
  · rw [if_neg e]
    unfold rowsQ
    by_cases h : i < n
    · simp only [List.getElem?_map, List.getElem?_range h, Option.map_some]
      congr 1
      by_cases h2 : i < k
      · rw [if_pos h2, if_pos (by omega)]
        unfold putQ
        rw [if_neg (by omega)]
      · rw [if_neg h2, if_neg (by omega)]
    · simp [h]
/-- The table while it is made. -/
structure TabTo (b : Nat) (w : World) (P n k : Nat) (Q : Nat → Nat) : Prop where
  rows : Blk w P 43 (rowsQ Q n k)
  nats : ∀ i, i < k → Blk w (Q i) 35 (List.replicate n (.slice none 0 0))
  old : ∀ i, i < k → b ≤ Q i
  apart : ∀ i j, i < k → j < k → Q i = Q j → i = j
theorem TabTo.start {b : Nat} {w : World} {P n : Nat} (h : Blk w P 43 (List.replicate n (.slice none 0 0))) : TabTo b w P n 0 (fun _ => 0) :=
  ⟨by rw [rowsQ_zero]; exact h, fun i hi => by omega, fun i hi => by omega, fun i j hi => by omega⟩
theorem TabTo.step {b : Nat} {w W : World} {P n k g : Nat} {Q : Nat → Nat} (h : TabTo b w P n k Q) (hk : k < n) (hg : Grow w W) (hb : Blk W g 35 (List.replicate n (.slice none 0 0))) (hge : w.heap.size ≤ g) (hbg : b ≤ g) :
    TabTo b (W.setCell ⟨P, k, none⟩ (.slice (some ⟨g, 0, none⟩) n n)) P n (k + 1) (putQ Q k g) := by
  have hP := h.rows.grow hg
  have hne : ∀ {q : Nat} {xs : List Value}, Blk W q 35 xs → q ≠ P := fun {q} {xs} hq e => by
    subst e
    have h2 := (show W.heap[q]? = _ from hP).symm.trans hq
    injection h2 with h2
    injection h2 with _ h2
    exact absurd h2 (by decide)
  have hlt : ∀ i, i < k → Q i < w.heap.size := fun i hi => (h.nats i hi).lt
  refine ⟨?_, fun i hi => ?_, fun i hi => ?_, fun i j hi hj e => ?_⟩
  · have := hP.set k (.slice (some ⟨g, 0, none⟩) n n)
    rwa [rowsQ_set Q n k g hk] at this
  · unfold putQ
    by_cases e : i = k
    · rw [if_pos e]
      exact hb.far (p := ⟨P, k, none⟩) (hne hb) _
    · rw [if_neg e]
      have := (h.nats i (by omega)).grow hg
      exact this.far (p := ⟨P, k, none⟩) (hne this) _
  · unfold putQ
    by_cases e : i = k
    · rw [if_pos e]; exact hbg
    · rw [if_neg e]; exact h.old i (by omega)
  · unfold putQ at e
    by_cases e1 : i = k
    · by_cases e2 : j = k
      · omega
      · rw [if_pos e1, if_neg e2] at e
        have := hlt j (by omega)
        omega
    · by_cases e2 : j = k
      · rw [if_neg e1, if_pos e2] at e
        have := hlt i (by omega)
        omega
      · rw [if_neg e1, if_neg e2] at e
        exact h.apart i j (by omega) (by omega) e
theorem TabTo.done {b : Nat} {w : World} {P n : Nat} {Q : Nat → Nat} (h : TabTo b w P n n Q) : TabAt w P n Q (fun _ _ => 0) := by
  refine ⟨?_, fun i hi => ⟨_, by simp, h.nats i hi, NatsAt.zeros fun _ => rfl⟩, h.apart⟩
  have := h.rows
  unfold rowsQ at this
  rw [show ((List.range n).map fun i => Value.slice (some ⟨Q i, 0, none⟩) n n) = (List.range n).map fun i => if i < n then Value.slice (some ⟨Q i, 0, none⟩) n n else .slice none 0 0 from List.map_congr_left fun i hi => by rw [if_pos (List.mem_range.1 hi)]]
  exact this

/-- The error of Ranks. -/
def rankErr (pts : List Int) (l : List Sw) (d : Int) : Int :=
  if pts.length = 0 then 6 else if 4 < pts.length then 8 else if pts.any (farB 1099511627776) then 2 else if swErr pts.length l ≠ 0 then swErr pts.length l else if d < 0 ∨ 4 < d then 2 else 0
/-- What Ranks hands back. -/
def RankRes (w : World) (pts : List Int) (l : List Sw) (d : Int) (e : Ending) (w' : World) : Prop :=
  (rankErr pts l d ≠ 0 ∧ e = .returned (.tuple #[.slice none 0 0, .slice none 0 0, .int .i64 (rankErr pts l d)]) ∧ Grow w w') ∨
  (rankErr pts l d = 0 ∧ ∃ P Q A m c, e = .returned (.tuple #[.slice (some ⟨P, 0, none⟩) pts.length pts.length, .slice A m c, .int .i64 0]) ∧ IsNatF w' (.slice A m c) (wsum l oneP d.toNat pts) ∧ TabAt w' P pts.length Q (fun i j => wsum l (indP i j) d.toNat pts) ∧ Grow w w')
theorem far_false {m : Int} {zs : List Int} (h : zs.any (farB m) = false) : ∀ z ∈ zs, -m ≤ z ∧ z ≤ m := fun z hz => by
  have h1 := List.any_eq_false.1 h z hz
  unfold farB at h1
  simp at h1
  omega
theorem swScan_ok {n : Nat} {l : List Sw} (h : swScan n l = 0) : ∀ s ∈ l, swOne n s = 0 := by
  induction l with
  | nil => simp
  | cons s l ih =>
    rw [swScan] at h
    by_cases h1 : swOne n s = 0
    · rw [if_pos h1] at h
      intro x hx
      rcases List.mem_cons.1 hx with rfl | hx
      · exact h1
      · exact ih h x hx
    · rw [if_neg h1] at h
      exact absurd h h1
theorem sw_ok {n : Nat} {l : List Sw} (h : swErr n l = 0) : SwOk n l := by
  unfold swErr at h
  by_cases l0 : l.length = 0
  · rw [if_pos l0] at h; exact absurd h (by decide)
  rw [if_neg l0] at h
  by_cases l8 : 8 < l.length
  · rw [if_pos l8] at h; exact absurd h (by decide)
  rw [if_neg l8] at h
  have key : ∀ s ∈ l, (1 ≤ s.w ∧ s.w ≤ 1000) ∧ s.p.length = n ∧ ∀ z ∈ s.p, -1000000 ≤ z ∧ z ≤ 1000000 := fun s hs => by
    have h1 := swScan_ok h s hs
    unfold swOne at h1
    by_cases c1 : s.w < 1 ∨ 1000 < s.w
    · rw [if_pos c1] at h1; exact absurd h1 (by decide)
    rw [if_neg c1] at h1
    by_cases c2 : (s.p.length : Int) ≠ n
    · rw [if_pos c2] at h1; exact absurd h1 (by decide)
    rw [if_neg c2] at h1
    by_cases c3 : s.p.any (farB 1000000) = true
    · rw [if_pos c3] at h1; exact absurd h1 (by decide)
    exact ⟨by omega, by omega, far_false (by simpa using c3)⟩
  exact ⟨by omega, fun s hs => (key s hs).1, fun s hs => (key s hs).2⟩
end Go.Proofs.Ytomgilkchlediaa
