/-
  Plain laws for the end of Ranks: the table of places, entry by entry.
-/
import Derived.Test.YtomgilkchlediaaRSort
import Derived.Test.YtomgilkchlediaaMapF
namespace Go.Proofs.Ytomgilkchlediaa
open Go.RowKit Go.Maps

theorem ranges_at {H : Type} {P : Program} {k : TypeId} {R : Value → Option (DataW H × List MemPlace)} {w w' : World} {b r n cnt : Nat} {D : DataW H} {left : Lit → Bool} (h : w.ranges P k R b r n D left cnt) (hb : w'.heap[b]? = w.heap[b]?) (hr : w'.heap[r]? = w.heap[r]?) : w'.ranges P k R b r n D left cnt := by
  obtain ⟨es, clock, since, seen, c0, h1, h2, h3, h4, h5, h6⟩ := h
  exact ⟨es, clock, since, seen, c0, hb.trans h1, h2, h3, h4, hr.trans h5, h6⟩
theorem ranges_keep {H : Type} {P : Program} {k : TypeId} {R : Value → Option (DataW H × List MemPlace)} {w w' : World} {b r n cnt : Nat} {D : DataW H} {left : Lit → Bool} (h : w.ranges P k R b r n D left cnt) (hk : NatKeep w w') : w'.ranges P k R b r n D left cnt := by
  obtain ⟨es, clock, since, seen, c0, h1, h2, h3, h4, h5, h6⟩ := h
  exact ⟨es, clock, since, seen, c0, hk.2 _ _ h1 (fun ⟨cs, e⟩ => by cases e), h2, h3, h4, hk.2 _ _ h5 (fun ⟨cs, e⟩ => by cases e), h6⟩
theorem tab_congr {w : World} {P n : Nat} {Q : Nat → Nat} {f f' : Nat → Nat → Int} (h : TabAt w P n Q f) (e : ∀ i j, i < n → j < n → f' i j = f i j) : TabAt w P n Q f' := by
  refine ⟨h.rows, fun i hi => ?_, h.apart⟩
  obtain ⟨vs, h1, h2, h3⟩ := h.wins i hi
  refine ⟨vs, h1, h2, fun j v hv => ?_⟩
  have hj : j < n := by
    have := (List.getElem?_eq_some_iff.1 hv).1
    omega
  rw [e i j hi hj]
  exact h3 j v hv
/-- The seats that lie so far. -/
def seatRow (n k : Nat) : List Value := (List.range n).map fun i => .int .i64 (if i < k then (i : Int) else 0)
theorem seatRow_zero (n : Nat) : seatRow n 0 = List.replicate n (.int .i64 0) := by
  unfold seatRow
  apply List.ext_getElem?
  intro i
  by_cases h : i < n <;> simp [h]
theorem seatRow_set (n k : Nat) (h : k < n) : (seatRow n k).set k (.int .i64 (k : Int)) = seatRow n (k + 1) := by
  unfold seatRow
  apply List.ext_getElem?
  intro i
  rw [List.getElem?_set]
  by_cases e : k = i
  · subst e
    simp [h]
  · rw [if_neg e]
    by_cases hi : i < n
    · simp only [List.getElem?_map, List.getElem?_range hi, Option.map_some]
      congr 2
      by_cases h2 : i < k
      · rw [if_pos h2, if_pos (by omega)]
      · rw [if_neg h2, if_neg (by omega)]
    · simp [hi]
theorem seatRow_all (n : Nat) : seatRow n n = (List.range n).map fun i : Nat => Value.int .i64 (i : Int) := by
  unfold seatRow
  refine List.map_congr_left fun i hi => ?_
  rw [if_pos (List.mem_range.1 hi)]
theorem seatRow_len (n k : Nat) : (seatRow n k).length = n := by simp [seatRow]
/-- The table while the seats of an entry are counted. -/
def seatF (F : Nat → Nat → Int) (q : List Int) (c : Int) (n k i j : Nat) : Int := F i j + if i < n ∧ placeN q i < k then c * indP i j q else 0
theorem seatF_zero (F : Nat → Nat → Int) (q : List Int) (c : Int) (n i j : Nat) : seatF F q c n 0 i j = F i j := by
  unfold seatF
  rw [if_neg (by omega), Int.add_zero]
theorem seatF_all {F : Nat → Nat → Int} {q : List Int} {c : Int} {n i j : Nat} (hq : q.length = n) (hi : i < n) : seatF F q c n n i j = F i j + c * indP i j q := by
  unfold seatF
  rw [if_pos ⟨hi, by rw [← hq]; exact placeN_lt (by omega)⟩]
theorem seatF_here {F : Nat → Nat → Int} {q : List Int} {c : Int} {n k s : Nat} (hs : s < n) (hp : placeN q s = k) : seatF F q c n k s k = F s k ∧ seatF F q c n (k + 1) s k = F s k + c := by
  unfold seatF
  rw [if_neg (by omega), if_pos ⟨hs, by omega⟩, Int.add_zero]
  unfold indP
  rw [if_pos hp, Int.mul_one]
  exact ⟨rfl, rfl⟩
theorem seatF_other {F : Nat → Nat → Int} {q : List Int} {c : Int} {n k s a b : Nat} (hp : placeN q s = k) (hu : ∀ i, i < n → placeN q i = k → i = s) (h : a ≠ s ∨ b ≠ k) : seatF F q c n (k + 1) a b = seatF F q c n k a b := by
  unfold seatF
  by_cases ha : a < n ∧ placeN q a = k
  · obtain rfl := hu a ha.1 ha.2
    have hb : b ≠ k := by
      rcases h with h | h
      · exact absurd rfl h
      · exact h
    rw [if_pos ⟨ha.1, by omega⟩, if_neg (by omega)]
    unfold indP
    rw [if_neg (by omega), Int.mul_zero]
  · by_cases h2 : a < n ∧ placeN q a < k
    · rw [if_pos ⟨h2.1, by omega⟩, if_pos h2]
    · rw [if_neg (by omega), if_neg h2]
theorem SeatsOk.only {sl : List (Fin 4)} {q : List Int} {n k : Nat} (h : SeatsOk sl q n) (hk : k < sl.length) : ∀ i, i < n → placeN q i = k → i = sl[k].val := fun i hi hp => by
  obtain ⟨m, hm, rfl⟩ := h.all i hi
  have := (h.at_ m hm).2
  have e : m = k := by omega
  subst e
  rfl
/-- How great what the table holds is. -/
theorem dsum_cap {n D : Nat} {l : List Sw} {pts : List Int} {qs : List (P4 × Int)} (ok : SwOk n l) (hD : D ≤ 4) (hs : EntOk n D l pts qs) (left : Lit → Bool) {f : List Int → Int} (hf : ∀ p, 0 ≤ f p ∧ f p ≤ 1) :
    0 ≤ dsum qs left (fun p => f (listP n p)) ∧ dsum qs left (fun p => f (listP n p)) ≤ 4096000000000000 := by
  constructor
  · unfold dsum
    have hp := hs.pos
    clear hs
    induction qs with
    | nil => simp [sumI]
    | cons y qs ih =>
      have h1 := hp y (List.mem_cons_self ..)
      have h2 := ih fun x hx => hp x (List.mem_cons_of_mem _ hx)
      have h3 : 0 ≤ y.2 * f (listP n y.1) := Int.mul_nonneg (by omega) (hf _).1
      simp only [List.map_cons, sumI_cons] at h2 ⊢
      split <;> omega
  · refine Int.le_trans (dsum_le hs.pos (fun p => (hf _).1) left) ?_
    rw [hs.sum f]
    refine Int.le_trans (wsum_bound ok hf D pts).2 ?_
    rcases (show D = 0 ∨ D = 1 ∨ D = 2 ∨ D = 3 ∨ D = 4 by omega) with rfl | rfl | rfl | rfl | rfl <;> decide +kernel
theorem ent_cap {n D : Nat} {l : List Sw} {pts : List Int} {qs : List (P4 × Int)} (ok : SwOk n l) (hD : D ≤ 4) (hs : EntOk n D l pts qs) {X : P4 × Int} (hX : X ∈ qs) : 1 ≤ X.2 ∧ X.2 ≤ 4096000000000000 := by
  refine ⟨hs.pos X hX, Int.le_trans ((msum_le hs.pos).2 X hX) ?_⟩
  have b := hs.sum oneP
  rw [show (fun p => oneP (listP n p)) = fun _ => (1 : Int) from rfl] at b
  rw [b]
  refine Int.le_trans (wsum_bound ok oneP_bound D pts).2 ?_
  rcases (show D = 0 ∨ D = 1 ∨ D = 2 ∨ D = 3 ∨ D = 4 by omega) with rfl | rfl | rfl | rfl | rfl <;> decide +kernel
theorem small_4096 {n : Int} (h : n ≤ 4096000000000000 * 2) : Small n := small_cap (by unfold cap50; omega)
/-- All blocks of cells are as they were. -/
def CellKeep (w W : World) : Prop := w.heap.size ≤ W.heap.size ∧ ∀ (k : Nat) cs e, w.heap[k]? = some (.cells cs e (0, 0)) → W.heap[k]? = some (.cells cs e (0, 0))
theorem CellKeep.natF {w W : World} {v : Value} {n : Int} (k : CellKeep w W) (h : IsNatF w v n) : IsNatF W v n := natF_keep h k.1 fun j cur hj => (k.2 j cur _ hj).trans hj.symm
theorem CellKeep.blk {w W : World} {g : Nat} {e : TypeId} {xs : List Value} (k : CellKeep w W) (h : Blk w g e xs) : Blk W g e xs := k.2 g _ _ h
theorem CellKeep.tab {w W : World} {P n : Nat} {Q : Nat → Nat} {f : Nat → Nat → Int} (k : CellKeep w W) (h : TabAt w P n Q f) : TabAt W P n Q f := by
  refine ⟨k.blk h.rows, fun i hi => ?_, h.apart⟩
  obtain ⟨vs, h1, h2, h3⟩ := h.wins i hi
  exact ⟨vs, h1, k.blk h2, fun j v hv => k.natF (h3 j v hv)⟩
theorem CellKeep.of_grown {w W : World} {r : Nat} {b : Option Nat} {since c0 : Nat} {seen : Array Nat} (hg : w.grownBy W (some r)) (hr : w.heap[r]? = some (.mapIter b since seen c0)) : CellKeep w W :=
  ⟨hg.size, fun k cs e hk => by
    by_cases e2 : k = r
    · subst e2
      rw [hr] at hk
      cases hk
    · exact (hg.block k (lt_of_block hk) (fun e3 => e2 (Option.some.inj e3))).trans hk⟩
theorem ranges_cells {H : Type} {P : Program} {k : TypeId} {R : Value → Option (DataW H × List MemPlace)} {w w' : World} {b r n cnt : Nat} {D : DataW H} {left : Lit → Bool} (h : w.ranges P k R b r n D left cnt) (hg : w.grownBy w' (some r)) : CellKeep w w' := by
  obtain ⟨es, clock, since, seen, c0, h1, h2, h3, h4, h5, h6⟩ := h
  exact .of_grown hg h5
theorem rankRes_ok {w w' : World} {pts : List Int} {l : List Sw} {d : Nat} {P : Nat} {Q : Nat → Nat} {A : Option Addr} {m c : Nat} (hx : rankErr pts l (d : Int) = 0) (hn : IsNatF w' (.slice A m c) (wsum l oneP d pts)) (ht : TabAt w' P pts.length Q (fun i j => wsum l (indP i j) d pts)) (hg : Grow w w') :
    RankRes w pts l (d : Int) (.returned (.tuple #[.slice (some ⟨P, 0, none⟩) pts.length pts.length, .slice A m c, .int .i64 0])) w' := .inr ⟨hx, P, Q, A, m, c, rfl, hn, ht, hg⟩
end Go.Proofs.Ytomgilkchlediaa
