/-
  Plain laws of Ranks: how great the counts of a map of ends are.
-/
import Derived.Test.YtomgilkchlediaaRankL
import Derived.Test.YtomgilkchlediaaTabM
namespace Go.Proofs.Ytomgilkchlediaa
open Go.RowKit

theorem atE_le {qs : List (P4 × Int)} (ho : Once qs) (h : ∀ x ∈ qs, 1 ≤ x.2) (p : P4) : 0 ≤ atE qs p ∧ atE qs p ≤ msum qs (fun _ => 1) := by
  refine ⟨atE_nonneg ho h p, ?_⟩
  by_cases he : ∃ x ∈ qs, x.1 = p
  · obtain ⟨x, hx, rfl⟩ := he
    rw [atE_in ho hx]
    exact (msum_le h).2 x hx
  · rw [atE_out he]
    have := (msum_le h).1
    omega
theorem weights_le {n : Nat} {l : List Sw} (ok : SwOk n l) : ∀ j, j ≤ l.length → 0 ≤ sumI ((l.take j).map fun s => s.w * oneP []) ∧ sumI ((l.take j).map fun s => s.w * oneP []) ≤ (j : Int) * 1000
  | 0, _ => by simp [sumI]
  | j + 1, h => by
    have ih := weights_le ok j (by omega)
    rw [List.take_succ_eq_append_getElem (by omega), List.map_append, sumI_append]
    have hw := ok.w l[j] (List.getElem_mem _)
    have e : sumI ([l[j]].map fun s => s.w * oneP []) = l[j].w := by simp [sumI, oneP]
    rw [e]
    omega
theorem deal_one {n : Nat} {l : List Sw} (ok : SwOk n l) (p : List Int) : 0 ≤ dealT l oneP p := by
  have h := (weights_le ok l.length (Nat.le_refl _)).1
  rw [List.take_length] at h
  exact h
theorem capW_le {k : Nat} (h : k + 1 ≤ 4) : capW k ≤ 512000000000 ∧ capW (k + 1) ≤ 4096000000000000 := by
  rcases (show k = 0 ∨ k = 1 ∨ k = 2 ∨ k = 3 by omega) with rfl | rfl | rfl | rfl <;> decide +kernel
/-- How great the count that is added to may be. -/
theorem entry_bound {n k j : Nat} {l : List Sw} {pts : List Int} {qs qn qm : List (P4 × Int)} {left : Lit → Bool} {n0 : Int} {X : P4 × Int} (ok : SwOk n l) (hk : k + 1 ≤ 4) (hs : EntOk n k l pts qs) (hX : X ∈ qs) (hn : n0 = X.2)
    (hqn : ∀ f : List Int → Int, msum qn (fun p => f (listP n p)) = dsum qs left (fun p => dealT l f (listP n p)))
    (hqm : ∀ f : List Int → Int, msum qm (fun p => f (listP n p)) = msum qn (fun p => f (listP n p)) + n0 * sumI ((l.take j).map fun s => s.w * f (addP (listP n X.1) s.p)))
    (hj : j < l.length) (hpm : PartOk n (k + 1) qm) {sw : Int} (hw : 1 ≤ sw ∧ sw ≤ 1000) (key : P4) :
    0 ≤ atE qm key ∧ 1 ≤ n0 ∧ n0 ≤ 512000000000 ∧ 1 ≤ n0 * sw ∧ n0 * sw ≤ 512000000000000 ∧ atE qm key ≤ 8192000000000000 ∧ qm.length ≤ 8192000000000000 := by
  have hc := capW_le hk
  have h1 : 1 ≤ n0 := by rw [hn]; exact hs.pos X hX
  have h2 : n0 ≤ capW k := by
    have a := (msum_le hs.pos).2 X hX
    have b := hs.sum oneP
    rw [show (fun p => oneP (listP n p)) = fun _ => (1 : Int) from rfl] at b
    have c := (wsum_bound ok oneP_bound k pts).2
    omega
  have m0 : n0 * 1 ≤ n0 * sw := Int.mul_le_mul_of_nonneg_left hw.1 (by omega)
  have m1 : n0 * sw ≤ n0 * 1000 := Int.mul_le_mul_of_nonneg_left hw.2 (by omega)
  have a := hqm oneP
  rw [hqn oneP] at a
  rw [show (fun p => oneP (listP n p)) = fun _ => (1 : Int) from rfl] at a
  have b : dsum qs left (fun p => dealT l oneP (listP n p)) ≤ capW (k + 1) := by
    refine Int.le_trans (dsum_le hs.pos (fun p => deal_one ok _) left) ?_
    rw [hs.sum (dealT l oneP), ← wsum_last]
    exact (wsum_bound ok oneP_bound (k + 1) pts).2
  have c : sumI ((l.take j).map fun s => s.w * oneP (addP (listP n X.1) s.p)) ≤ (j : Int) * 1000 := (weights_le ok j (by omega)).2
  have c0 : 0 ≤ sumI ((l.take j).map fun s => s.w * oneP (addP (listP n X.1) s.p)) := (weights_le ok j (by omega)).1
  generalize sumI ((l.take j).map fun s => s.w * oneP (addP (listP n X.1) s.p)) = S at *
  have hl := ok.len
  have c2 : n0 * S ≤ 512000000000 * 8000 := Int.mul_le_mul (by omega) (by omega) c0 (by decide)
  have d := atE_le hpm.once hpm.pos key
  have f := (msum_le hpm.pos).1
  refine ⟨d.1, h1, by omega, by omega, by omega, by omega, by omega⟩
theorem take_sum {l : List Sw} {j : Nat} (h : j < l.length) (q : List Int) (f : List Int → Int) : sumI ((l.take (j + 1)).map fun s => s.w * f (addP q s.p)) = sumI ((l.take j).map fun s => s.w * f (addP q s.p)) + l[j].w * f (addP q l[j].p) := by
  rw [List.take_succ_eq_append_getElem h, List.map_append, sumI_append]
  simp [sumI]
end Go.Proofs.Ytomgilkchlediaa
