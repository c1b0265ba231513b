/-
  A table of naturals in memory, and what counting the ways of swings adds to it. Plain laws.
-/
import Derived.Test.YtomgilkchlediaaNats
import Derived.Test.YtomgilkchlediaaPlaceR
import Derived.Test.YtomgilkchlediaaSome
import Derived.Test.YtomgilkchlediaaAny
import Derived.Test.YtomgilkchlediaaKeep
namespace Go.Proofs.Ytomgilkchlediaa
open Go.RowKit

def natBlk (o : Obj) : Prop := ∃ cs, o = .cells cs 35 (0, 0)
/-- All blocks but those of naturals are as they were. -/
def NatKeep (w W : World) : Prop := w.heap.size ≤ W.heap.size ∧ ∀ (k : Nat) o, w.heap[k]? = some o → ¬ natBlk o → W.heap[k]? = some o
theorem NatKeep.refl (w : World) : NatKeep w w := ⟨Nat.le_refl _, fun _ _ h _ => h⟩
theorem NatKeep.trans {a b c : World} (h : NatKeep a b) (k : NatKeep b c) : NatKeep a c := ⟨Nat.le_trans h.1 k.1, fun i o hi hn => k.2 i o (h.2 i o hi hn) hn⟩
theorem NatKeep.grow {a b c : World} (h : NatKeep a b) (g : Grow b c) : NatKeep a c := ⟨Nat.le_trans h.1 g.size, fun i o hi hn => g.blk_some (h.2 i o hi hn)⟩
theorem NatKeep.of_grow {a b : World} (g : Grow a b) : NatKeep a b := (NatKeep.refl a).grow g
theorem NatKeep.set {a b : World} (h : NatKeep a b) {G : Nat} {xs : List Value} (hb : Blk b G 35 xs) (i : Nat) (u : Value) : NatKeep a (b.setCell ⟨G, i, none⟩ u) := ⟨by simpa using h.1, fun k o hk hn => by
  have h2 := h.2 k o hk hn
  by_cases e : k = G
  · subst e
    rw [show b.heap[k]? = some (.cells xs.toArray 35 (0, 0)) from hb] at h2
    exact absurd ⟨_, (Option.some.inj h2).symm⟩ hn
  · exact (Below.heap_setCell _ _ _ _ e).trans h2⟩
theorem NatKeep.ints {w W : World} (k : NatKeep w W) : ∀ (j : Nat) cur, w.heap[j]? = some (Obj.cells cur 3 (0, 0)) → W.heap[j]? = w.heap[j]? := fun j cur hj => by
  rw [hj]
  exact k.2 j _ hj (fun ⟨cs, e⟩ => by injection e with _ e; exact absurd e (by decide))
theorem NatKeep.natF {w W : World} {v : Value} {n : Int} (k : NatKeep w W) (h : IsNatF w v n) : IsNatF W v n := natF_keep h k.1 k.ints
theorem NatKeep.intsF {w W : World} {v : Value} {zs : List Int} (k : NatKeep w W) (h : IsIntsF w v zs) : IsIntsF W v zs := by
  obtain ⟨⟨A, c, rfl, h1, h2, h3⟩, ht⟩ := h
  refine ⟨⟨A, c, rfl, h1, h2, rd_keep h3 k.1 fun ad hA _ => ?_⟩, fun ad m d hv => ?_⟩
  · subst hA
    obtain ⟨cur, hc⟩ := ht ad _ _ rfl
    exact k.ints _ cur hc
  · obtain ⟨cur, hc⟩ := ht ad m d hv
    exact ⟨cur, (k.ints _ cur hc).trans hc⟩
theorem NatKeep.blk {w W : World} {g : Nat} {e : TypeId} {xs : List Value} (k : NatKeep w W) (h : Blk w g e xs) (he : e ≠ 35 := by decide) : Blk W g e xs := k.2 g _ h (fun ⟨cs, e2⟩ => by injection e2 with _ e2; exact he e2)

/-- A table of n by n naturals: block P holds the rows, block Q i the naturals of row i. -/
structure TabAt (w : World) (P n : Nat) (Q : Nat → Nat) (f : Nat → Nat → Int) : Prop where
  rows : Blk w P 43 ((List.range n).map fun i => .slice (some ⟨Q i, 0, none⟩) n n)
  wins : ∀ i, i < n → WinsAt w (Q i) n (f i)
  apart : ∀ i j, i < n → j < n → Q i = Q j → i = j
theorem TabAt.grow {w w' : World} {P n : Nat} {Q : Nat → Nat} {f : Nat → Nat → Int} (h : TabAt w P n Q f) (g : Grow w w') : TabAt w' P n Q f := ⟨h.rows.grow g, fun i hi => (h.wins i hi).grow g, h.apart⟩
theorem TabAt.row {w : World} {P n : Nat} {Q : Nat → Nat} {f : Nat → Nat → Int} (h : TabAt w P n Q f) {i : Nat} (hi : i < n) : w.cell? ⟨P, i, none⟩ = some (.slice (some ⟨Q i, 0, none⟩) n n) := by
  rw [h.rows.cell]; simp [hi]
theorem TabAt.set {w : World} {P n : Nat} {Q : Nat → Nat} {f f' : Nat → Nat → Int} (h : TabAt w P n Q f) {i j : Nat} {u : Value} (hi : i < n) (hu : IsNatF w u (f' i j)) (hf : ∀ a b, (a ≠ i ∨ b ≠ j) → f' a b = f a b) : TabAt (w.setCell ⟨Q i, j, none⟩ u) P n Q f' := by
  obtain ⟨vs, hv⟩ := (h.wins i hi).blk
  have hP : P ≠ Q i := fun e => by
    have h1 := h.rows
    rw [e] at h1
    have h2 := (show w.heap[Q i]? = _ from h1).symm.trans hv
    injection h2 with h2
    injection h2 with _ h2
    exact absurd h2 (by decide)
  refine ⟨h.rows.far (p := ⟨Q i, j, none⟩) hP u, fun a ha => ?_, h.apart⟩
  by_cases e : a = i
  · subst e
    exact (h.wins a ha).set hu fun b hb => hf a b (.inr hb)
  · have h1 := (h.wins a ha).far hv j u (fun e2 => e (h.apart i a hi ha e2).symm)
    obtain ⟨us, k1, k2, k3⟩ := h1
    exact ⟨us, k1, k2, fun b v hb => by rw [hf a b (.inl e)]; exact k3 b v hb⟩

/-- Points behind a swing. -/
def addP (p q : List Int) : List Int := List.zipWith (· + ·) p q
/-- The ways of so many deals, each counted as often as f says of the points in the end. -/
def wsum (l : List Sw) (f : List Int → Int) : Nat → List Int → Int
  | 0, p => f p
  | d + 1, p => sumI (l.map fun s => s.w * wsum l f d (addP p s.p))
/-- The ways whose first deal is one of the first k swings. -/
def wpart (l : List Sw) (f : List Int → Int) (d : Nat) (p : List Int) (k : Nat) : Int := sumI ((l.take k).map fun s => s.w * wsum l f d (addP p s.p))
theorem wpart_zero (l : List Sw) (f : List Int → Int) (d : Nat) (p : List Int) : wpart l f d p 0 = 0 := by simp [wpart, sumI]
theorem wpart_succ {l : List Sw} {f : List Int → Int} {d : Nat} {p : List Int} {k : Nat} (h : k < l.length) : wpart l f d p (k + 1) = wpart l f d p k + l[k].w * wsum l f d (addP p l[k].p) := by
  unfold wpart
  rw [List.take_succ_eq_append_getElem h, List.map_append, sumI_append]
  simp [sumI]
theorem wpart_all (l : List Sw) (f : List Int → Int) (d : Nat) (p : List Int) : wpart l f d p l.length = wsum l f (d + 1) p := by
  unfold wpart
  rw [List.take_length]
  rfl
/-- 1 where a seat has a place, otherwise 0. -/
def indP (i j : Nat) (p : List Int) : Int := if placeN p i = j then 1 else 0
def oneP (_ : List Int) : Int := 1
/-- What the swings of a race for places are like. -/
structure SwOk (n : Nat) (l : List Sw) : Prop where
  len : l.length ≤ 8
  w : ∀ s ∈ l, 1 ≤ s.w ∧ s.w ≤ 1000
  p : ∀ s ∈ l, s.p.length = n ∧ ∀ z ∈ s.p, -1000000 ≤ z ∧ z ≤ 1000000
/-- 8000 to the power d. -/
def capW : Nat → Int
  | 0 => 1
  | d + 1 => 8000 * capW d
theorem capW_pos (d : Nat) : 1 ≤ capW d := by
  induction d with
  | zero => decide
  | succ d ih => rw [capW]; omega
theorem wsum_bound {n : Nat} {l : List Sw} (ok : SwOk n l) {f : List Int → Int} (hf : ∀ p, 0 ≤ f p ∧ f p ≤ 1) : ∀ (d : Nat) (p : List Int), 0 ≤ wsum l f d p ∧ wsum l f d p ≤ capW d
  | 0, p => by rw [wsum, capW]; exact hf p
  | d + 1, p => by
    have ih := wsum_bound ok hf d
    have key : ∀ k, k ≤ l.length → 0 ≤ wpart l f d p k ∧ wpart l f d p k ≤ (k : Int) * (1000 * capW d) := by
      intro k
      induction k with
      | zero => intro _; rw [wpart_zero]; simp
      | succ k ihk =>
        intro hk
        have h1 := ihk (by omega)
        rw [wpart_succ (by omega)]
        have hw := ok.w l[k] (List.getElem_mem _)
        have hs := ih (addP p l[k].p)
        have hm0 : 0 ≤ l[k].w * wsum l f d (addP p l[k].p) := Int.mul_nonneg (by omega) hs.1
        have hm1 : l[k].w * wsum l f d (addP p l[k].p) ≤ 1000 * capW d := Int.mul_le_mul hw.2 hs.2 hs.1 (by decide)
        have e : ((k + 1 : Nat) : Int) * (1000 * capW d) = (k : Int) * (1000 * capW d) + 1000 * capW d := by rw [Int.natCast_add, Int.add_mul]; simp
        rw [e]
        omega
    have h := key l.length (Nat.le_refl _)
    rw [wpart_all] at h
    have hc := capW_pos d
    have : (l.length : Int) * (1000 * capW d) ≤ 8 * (1000 * capW d) := Int.mul_le_mul_of_nonneg_right (by have := ok.len; omega) (by omega)
    rw [capW]
    omega
theorem indP_bound (i j : Nat) (p : List Int) : 0 ≤ indP i j p ∧ indP i j p ≤ 1 := by unfold indP; split <;> omega
theorem oneP_bound (p : List Int) : 0 ≤ oneP p ∧ oneP p ≤ 1 := by unfold oneP; omega
end Go.Proofs.Ytomgilkchlediaa
