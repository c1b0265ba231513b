/-
  Parts of the proof: Copy, BagS.
-/
import Derived.Test.YtjiahcfegfimmaaNotes09
import Derived.Test.YtjiahcfegfimmaaNotes24
import Derived.Deep.RegionLaw
import Derived.Deep.WholeRow
import Derived.Outline
import Derived.Test.YtjiahcfegfimmaaNotes23
import Derived.Test.YtjiahcfegfimmaaNotes12
/-
  Walks of Copy, Same; and of the reference's SameInts and Same.
-/
namespace Go.Proofs.Ytjiahcfegfimmaa
open Go.RowKit

theorem Own.far {w0 w : World} {v : Value} {zs : List Int} (h : Own w0 w v zs) {p : Addr} (hp : p.block < w0.heap.size) (u : Value) : Own w0 (w.setCell p u) v zs := ownsRow_setCell_below h hp u
theorem Blk.row {w : World} {g : Nat} {e : TypeId} {xs : List Value} (h : Blk w g e xs) (ys : List Value) : Blk (w.setRow g ys.toArray) g e ys := setRow_heap _ _ _ _ _ _ h
theorem Own.farRow {w0 w : World} {v : Value} {zs : List Int} (h : Own w0 w v zs) {g : Nat} (hg : g < w0.heap.size) (cs : Array Value) : Own w0 (w.setRow g cs) v zs := by
  refine ⟨h.1, ?_⟩
  rcases h.2 with hn | ⟨g', cap, cur, e, hb, hh, r⟩
  · exact .inl hn
  · exact .inr ⟨g', cap, cur, e, hb, by rw [setRow_other _ _ _ _ (by omega)]; exact hh, r⟩
theorem Grow.row {a w : World} (h : Grow a w) {g : Nat} (hg : a.heap.size ≤ g) (cs : Array Value) : Grow a (w.setRow g cs) :=
  ⟨h.os, h.tape, h.output, by simpa [World.setRow] using h.size, fun k hk => (setRow_other _ _ _ _ (by omega)).trans (h.block k hk)⟩
set_option maxRecDepth 100000 in
set_option maxHeartbeats 4000000 in
theorem Copy_any (v : Value) (s : TSet) (w : World) (h : IsSet w v s) (l1 : s.su.length ≤ 1000) (l2 : s.re.length ≤ 1000) : Calls Try.prog 37 #[v] w (SetRes w s) := by
  have hS := h
  obtain ⟨_, _, e9, k1, k2⟩ := hS
  obtain ⟨A, c, B, d, rfl, h1, h2⟩ := h.open_
  injection e9 with e9
  simp only [Array.mk.injEq, List.cons.injEq, true_and, and_true] at e9
  obtain ⟨rfl, rfl⟩ := e9
  clear h h1 h2
  have CL := hid (fun vv zz W (h : IsInts W vv zz) (hl : zz.length ≤ 1000000) => clone_any vv zz W h hl)
  have gz : Grow w ((w.alloc (.cells #[.int .i64 s.pl, .slice A s.su.length c, .int .i64 s.wi, .int .i64 s.dr, .int .i64 s.fl, .int .i64 s.co, .int .i64 s.me, .int .i64 s.de, .slice B s.re.length d] 24)).alloc (.cells #[.int .i64 0, .slice none 0 0, .int .i64 0, .int .i64 0, .int .i64 0, .int .i64 0, .int .i64 0, .int .i64 0, .slice none 0 0] 24)) := ((Grow.refl w).alloc _).alloc _
  have bT : Blk ((w.alloc (.cells #[.int .i64 s.pl, .slice A s.su.length c, .int .i64 s.wi, .int .i64 s.dr, .int .i64 s.fl, .int .i64 s.co, .int .i64 s.me, .int .i64 s.de, .slice B s.re.length d] 24)).alloc (.cells #[.int .i64 0, .slice none 0 0, .int .i64 0, .int .i64 0, .int .i64 0, .int .i64 0, .int .i64 0, .int .i64 0, .slice none 0 0] 24)) w.heap.size 24 (setVals s (.slice A s.su.length c) (.slice B s.re.length d)) := Blk.grow (show Blk _ _ _ (setVals s (.slice A s.su.length c) (.slice B s.re.length d)) from Blk.new_at rfl) ((Grow.refl _).alloc _)
  have bR : Blk ((w.alloc (.cells #[.int .i64 s.pl, .slice A s.su.length c, .int .i64 s.wi, .int .i64 s.dr, .int .i64 s.fl, .int .i64 s.co, .int .i64 s.me, .int .i64 s.de, .slice B s.re.length d] 24)).alloc (.cells #[.int .i64 0, .slice none 0 0, .int .i64 0, .int .i64 0, .int .i64 0, .int .i64 0, .int .i64 0, .int .i64 0, .slice none 0 0] 24)) (w.heap.size + 1) 24 [.int .i64 0, .slice none 0 0, .int .i64 0, .int .i64 0, .int .i64 0, .int .i64 0, .int .i64 0, .int .i64 0, .slice none 0 0] := Blk.new_at (by simp)
  have i5 := k1.grow (gz.drew)
  have IB := hid (fun W (g : Grow w W) => k2.grow g)
  clear k1 k2
  go_enter Try.func37, Try.ntmps37
  go_wp2
  generalize ((w.alloc (.cells #[.int .i64 s.pl, .slice A s.su.length c, .int .i64 s.wi, .int .i64 s.dr, .int .i64 s.fl, .int .i64 s.co, .int .i64 s.me, .int .i64 s.de, .slice B s.re.length d] 24)).alloc (.cells #[.int .i64 0, .slice none 0 0, .int .i64 0, .int .i64 0, .int .i64 0, .int .i64 0, .int .i64 0, .int .i64 0, .slice none 0 0] 24)) = wz at *
  have hsz := bR.lt
  have GZ := hid gz
  have BT := hid bT
  have BR := hid bR
  obtain ⟨c0, c1, c2, c3, c4, c5, c6, c7, c8⟩ := set_cells bT
  clear gz bT bR
  go_region_law (first
    | (have o1 := oA; go_simp; go_at_call 79; refine (CL.out _ _ _ iB (by omega)).mono ?_; rintro e wB ⟨vB, rfl, oB, gB⟩; obtain ⟨A8, d8, rfl⟩ : ∃ A8 d8, vB = .slice A8 s.re.length d8 := (by obtain ⟨A, c, e, _⟩ := oB.is; exact ⟨A, c, e⟩); clear c0 c1 c2 c3 c4 c5 c6 c7 c8; obtain ⟨c0, c1, c2, c3, c4, c5, c6, c7, c8⟩ := set_cells ((BT.out.grow (((Grow.refl wz).drew).trans gA)).grow gB); have f1 := (((BT.out.grow (((Grow.refl wz).drew).trans gA)).grow gB)).free 1; have f8 := (((BT.out.grow (((Grow.refl wz).drew).trans gA)).grow gB)).free 8)
    | (go_simp; go_at_call 79; refine (CL.out _ _ _ i5 (by omega)).mono ?_; rintro e wA ⟨vA, rfl, oA, gA⟩; obtain ⟨A7, d7, rfl⟩ : ∃ A7 d7, vA = .slice A7 s.su.length d7 := (by obtain ⟨A, c, e, _⟩ := oA.is; exact ⟨A, c, e⟩); have iB := IB.out wA (GZ.out.drew.trans gA); clear c0 c1 c2 c3 c4 c5 c6 c7 c8; obtain ⟨c0, c1, c2, c3, c4, c5, c6, c7, c8⟩ := set_cells (BT.out.grow (((Grow.refl wz).drew).trans gA))))
  all_goals
    have gAB := (((Grow.refl wz).drew).trans gA).trans gB
    have bR2 := BR.out.grow gAB
    have bR3 := (bR2.far (p := ⟨w.heap.size, 1, none⟩) (by simp) (.slice A7 s.su.length d7)).far (p := ⟨w.heap.size, 8, none⟩) (by simp) (.slice A8 s.re.length d8)
    have oA3 := (((oA.kept gB).far (p := ⟨w.heap.size, 1, none⟩) (by simp; omega) (.slice A7 s.su.length d7)).far (p := ⟨w.heap.size, 8, none⟩) (by simp; omega) (.slice A8 s.re.length d8))
    have hzA : w.heap.size < wA.heap.size := by have := gA.size; simp at this; omega
    have oB3 := ((oB.far (p := ⟨w.heap.size, 1, none⟩) (by simpa using hzA) (.slice A7 s.su.length d7)).far (p := ⟨w.heap.size, 8, none⟩) (by simpa using hzA) (.slice A8 s.re.length d8))
    have g3 := ((GZ.out.trans gAB).set (p := ⟨w.heap.size, 1, none⟩) (by simp) (.slice A7 s.su.length d7)).set (p := ⟨w.heap.size, 8, none⟩) (by simp) (.slice A8 s.re.length d8)
    have O3 := hid (And.intro (And.intro oA3 oB3) (And.intro bR3 g3))
    clear oA oB oA3 oB3 bR3 bR2 g3 o1
    go_wp2_with (refine wpList_store_row (by rfl) 24 (.tmp 2) (.tmp 11) (by rfl) (w.heap.size + 1) #[.int .i64 s.pl, .slice A7 s.su.length d7, .int .i64 s.wi, .int .i64 s.dr, .int .i64 s.fl, .int .i64 s.co, .int .i64 s.me, .int .i64 s.de, .slice A8 s.re.length d8] (by rfl) (by rfl) 24 _ O3.out.2.1 (by kernel_rfl) (by rfl) (by simp [Value.oneCell']) ?_)
    obtain ⟨⟨oA3, oB3⟩, bR3, g3⟩ := O3.out
    have bF := Blk.row bR3 (setVals s (.slice A7 s.su.length d7) (.slice A8 s.re.length d8))
    obtain ⟨c0, c1, c2, c3, c4, c5, c6, c7, c8⟩ := set_cells bF
    refine bodyPost_ret (v := .agg #[.int .i64 s.pl, .slice A7 s.su.length d7, .int .i64 s.wi, .int .i64 s.dr, .int .i64 s.fl, .int .i64 s.co, .int .i64 s.me, .int .i64 s.de, .slice A8 s.re.length d8]) ?_ rfl ⟨_, rfl, ⟨_, _, rfl, (oA3.farRow (by simp; omega) _).is, (oB3.farRow (by have := gA.size; simp at this; omega) _).is⟩, g3.row (by omega) _⟩
    simp [results, Try.results37, go_sem, c0, c1, c2, c3, c4, c5, c6, c7, c8]
end Go.Proofs.Ytjiahcfegfimmaa

/-
  Red tiles, bags, faces, cuts, swaps, orphans: in plain terms. No program.
-/
namespace Go.Proofs.Ytjiahcfegfimmaa
open Go.RowKit

/-- Ascending, no number twice. -/
def AscZ (l : List Int) : Prop := ∀ (i j : Nat) (hi : i < l.length) (hj : j < l.length), i < j → l[i] < l[j]
theorem risErr_cons {many p k : Int} {l : List Int} (h : risErr many p (k :: l) = 0) : (0 ≤ k ∧ k < many) ∧ p < k ∧ risErr many k l = 0 := by
  unfold risErr at h
  by_cases h1 : k < 0 ∨ many ≤ k
  · rw [if_pos h1] at h; omega
  rw [if_neg h1] at h
  by_cases h2 : k ≤ p
  · rw [if_pos h2] at h; omega
  rw [if_neg h2] at h
  exact ⟨by omega, by omega, h⟩
theorem risErr_above {many p : Int} {l : List Int} (h : risErr many p l = 0) : ∀ z ∈ l, p < z ∧ 0 ≤ z ∧ z < many := by
  induction l generalizing p with
  | nil => simp
  | cons k l ih =>
    obtain ⟨h1, h2, h3⟩ := risErr_cons h
    intro z hz
    rcases List.mem_cons.1 hz with rfl | hz
    · exact ⟨h2, h1⟩
    · have := ih h3 z hz; omega
theorem risErr_asc {many p : Int} {l : List Int} (h : risErr many p l = 0) : AscZ l := by
  induction l generalizing p with
  | nil => intro i j hi; simp at hi
  | cons k l ih =>
    obtain ⟨h1, h2, h3⟩ := risErr_cons h
    intro i j hi hj hij
    cases j with
    | zero => omega
    | succ j =>
      simp at hj
      cases i with
      | zero => exact (risErr_above h3 _ (List.getElem_mem hj)).1
      | succ i => exact ih h3 i j (by omega) hj (by omega)
theorem bin_found {l : List Int} {k : Int} {i : Nat} (h1 : ∀ (j : Nat) (hj : j < l.length), j < i → l[j] < k) (h2 : ∀ (j : Nat) (hj : j < l.length), i ≤ j → k ≤ l[j]) (ha : AscZ l) (hi : i < l.length) : decide (k ∈ l) = decide (l[i] = k) := by
  by_cases h : l[i] = k
  · rw [decide_eq_true h, decide_eq_true]; exact h ▸ List.getElem_mem hi
  · rw [decide_eq_false h, decide_eq_false]
    intro hm
    obtain ⟨j, hj, rfl⟩ := List.getElem_of_mem hm
    rcases Nat.lt_trichotomy j i with hlt | rfl | hgt
    · have := h1 j hj hlt; omega
    · exact h rfl
    · have := h2 i hi (Nat.le_refl _)
      have := ha i j hi hj hgt
      omega
theorem bin_none {l : List Int} {k : Int} {i : Nat} (h1 : ∀ (j : Nat) (hj : j < l.length), j < i → l[j] < k) (hi : l.length ≤ i) : decide (k ∈ l) = false := by
  refine decide_eq_false fun hm => ?_
  obtain ⟨j, hj, rfl⟩ := List.getElem_of_mem hm
  have := h1 j hj (by omega)
  omega

/-- Whether a tile is red. -/
def redB (s : TSet) (t : Int) : Bool := (decide (0 ≤ kindI s t) && decide (kindI s t < kindsI s)) && (decide (t % s.co = 0) && decide (kindI s t ∈ s.re))
/-- What tiles are seen as. -/
def facesI (s : TSet) (ts : List Int) : List (Int × Bool) := ts.map fun t => (kindI s t, redB s t)
/-- How many tiles of a list are of a kind. -/
def cntI (s : TSet) (ts : List Int) (k : Int) : Int := ((ts.filter fun t => decide (kindI s t = k)).length : Int)
def bagI (s : TSet) (ts : List Int) : List Int := (List.range (kindsI s).toNat).map fun (k : Nat) => cntI s ts (k : Int)
theorem bagI_length (s : TSet) (ts : List Int) : (bagI s ts).length = (kindsI s).toNat := by simp [bagI]
theorem bagI_nil (s : TSet) : bagI s [] = List.replicate (kindsI s).toNat 0 := by
  refine List.ext_getElem (by simp [bagI]) fun i h1 h2 => ?_
  simp [bagI, cntI]
theorem cntI_snoc (s : TSet) (ts : List Int) (t k : Int) : cntI s (ts ++ [t]) k = cntI s ts k + if kindI s t = k then 1 else 0 := by
  unfold cntI
  rw [List.filter_append]
  by_cases h : kindI s t = k
  · simp [h]
  · simp [h]
theorem bagI_snoc_in {s : TSet} {ts : List Int} {t : Int} (h0 : 0 ≤ kindI s t) (_h1 : kindI s t < kindsI s) (hl : (kindI s t).toNat < (bagI s ts).length) : bagI s (ts ++ [t]) = (bagI s ts).set (kindI s t).toNat ((bagI s ts)[(kindI s t).toNat] + 1) := by
  refine List.ext_getElem (by simp [bagI]) fun i i1 i2 => ?_
  rw [List.getElem_set]
  simp only [bagI, List.getElem_map, List.getElem_range]
  rw [cntI_snoc]
  by_cases h : (kindI s t).toNat = i
  · rw [if_pos h, if_pos (by omega), h]
  · rw [if_neg h, if_neg (by omega)]; omega
theorem bagI_snoc_out {s : TSet} {ts : List Int} {t : Int} (h1 : kindsI s ≤ kindI s t) : bagI s (ts ++ [t]) = bagI s ts := by
  refine List.ext_getElem (by simp [bagI]) fun i i1 i2 => ?_
  simp only [bagI, List.getElem_map, List.getElem_range]
  simp [bagI] at i1
  rw [cntI_snoc, if_neg (by omega)]; omega
theorem cntI_bound (s : TSet) (ts : List Int) (k : Int) : 0 ≤ cntI s ts k ∧ cntI s ts k ≤ ts.length := by
  unfold cntI
  have := List.length_filter_le (fun t => decide (kindI s t = k)) ts
  omega
theorem bagI_bound {s : TSet} {ts : List Int} {i : Nat} (h : i < (bagI s ts).length) : 0 ≤ (bagI s ts)[i] ∧ (bagI s ts)[i] ≤ ts.length := by
  simp only [bagI, List.getElem_map, List.getElem_range]
  exact cntI_bound s ts _

/-- The kind after swapping two suits. -/
def swapI (s : TSet) (k a b : Int) : Int :=
  if (placeP s k).1 = -4 then -1
  else if (a < 0 ∨ b < 0 ∨ (s.su.length : Int) ≤ a ∨ (s.su.length : Int) ≤ b) ∨ s.su.getD a.toNat 0 ≠ s.su.getD b.toNat 0 ∨ ((placeP s k).1 ≠ a ∧ (placeP s k).1 ≠ b) then k
  else sumI (s.su.take (a + b - (placeP s k).1).toNat) + (placeP s k).2
/-- Whether a kind is an orphan. -/
def orphB (s : TSet) (x : KPlace) : Bool := !(decide (x.2.1 = -3) || (decide (0 ≤ x.2.1) && (decide (0 < x.2.2) && decide (x.2.2 < lenI s x.2.1 - 1))))
def orphansI (s : TSet) : List Int := ((allP s).filter (orphB s)).map (·.1)

/-- The first error of dice and a dealer. -/
def cutErr (s : TSet) (d : Int) (dice : List Int) : Int :=
  if chkErr s ≠ 0 then chkErr s else if d < 0 ∨ s.pl ≤ d then 2 else if dice.length = 0 then 6 else if 4 < dice.length then 8 else if dice.any (fun x => decide (x < 1) || decide (6 < x)) = true then 2 else 0
def cutI (s : TSet) (d : Int) (dice : List Int) : Int := (sizeI s * ((d + sumI dice - 1) % s.pl) / s.pl + 2 * sumI dice) % sizeI s
end Go.Proofs.Ytjiahcfegfimmaa
