/-
  Parts of the proof: AwakeT, BagS.
-/
import Derived.Test.YtjiahcfegfimmaaKnown17
import Derived.Test.YtjiahcfegfimmaaKnown19
import Derived.Test.YtjiahcfegfimmaaKnown20
import Derived.Test.YtjiahcfegfimmaaKnown22
import Derived.Test.YtjiahcfegfimmaaKnown10
import Derived.Test.YtjiahcfegfimmaaKnown23
import Derived.Deep.RegionHeld3
import Derived.Outline
import Derived.Test.YtjiahcfegfimmaaKnown11
/-
  The walk of the chapter's examples that every tile law asks.
-/
namespace Go.Proofs.Ytjiahcfegfimmaa
open Go.RowKit

theorem isInts_lit (w : World) (zs : List Int) (h : zs.length ≤ 1000000) : IsInts (w.alloc (.cells (ints zs).toArray 3)) (.slice (some ⟨w.heap.size, 0, none⟩) zs.length zs.length) zs :=
  (Blk.new_at (xs := ints zs) rfl).is (by unfold maxLen; omega)
theorem Equal_same (v1 v2 : Value) (zs : List Int) (w : World) (h1 : IsInts w v1 zs) (h2 : IsInts w v2 zs) : Calls Try.prog 22 #[v1, v2] w (Says w (.bool true)) := by
  have h := Equal_any v1 v2 zs zs w h1 h2
  rwa [decide_eq_true rfl] at h
def awakeF : List FaceZ := [0, 1, 2, 104, 4, 27, 31].map faceOf
theorem awake_textErr : textErr bigT awakeF = 0 := by decide +kernel
theorem awake_textB : textB bigT awakeF = [49, 50, 51, 109, 53, 77, 53, 109, 49, 119, 49, 100] := by decide +kernel
theorem awake_text : textV bigT awakeF = ⟨#[49, 50, 51, 109, 53, 77, 53, 109, 49, 119, 49, 100]⟩ := by
  unfold textV
  rw [if_pos awake_textErr, awake_textB]
  rfl
theorem big_size : sizeI bigT = 136 := by decide +kernel
theorem tiny_size : sizeI tinyT = 16 := by decide +kernel
theorem big_after : afterI bigT 30 = 27 := by decide +kernel
theorem tiny_deal : dealErr tinyT (upto 16) 14 1 = 0 := by decide +kernel
theorem tiny_live : liveI tinyT (upto 16) 14 1 = [10, 11] := by decide +kernel
theorem tiny_wall : (wallI tinyT 0).length = 16 := by rw [wall_length, tiny_size]; rfl
/-- The deal of the small set. -/
def TinyDealt (w : World) (e : Ending) (w' : World) : Prop := ∃ v1 v2 v3, e = .returned (.tuple #[v1, v2, v3, .int .i64 0]) ∧ Grow w w' ∧ IsInts w' v2 [10, 11]
theorem tiny_dealt (v v2 : Value) (w : World) (h : IsSet w v tinyT) (h2 : IsInts w v2 (upto 16)) : Calls Try.prog 25 #[v, v2, .int .i64 14, .int .i64 1] w (TinyDealt w) := by
  refine (Deal_any v v2 tinyT (upto 16) 14 1 w h h2).mono ?_
  rintro e w' ⟨a, b, c, rfl, hg, _, h⟩
  obtain ⟨i1, _⟩ := h tiny_deal
  rw [tiny_live] at i1
  rw [tiny_deal]
  exact ⟨a, b, c, rfl, hg, i1⟩
/-- A text that is known. -/
def GotText (w : World) (e : Ending) (w' : World) : Prop := e = .returned (.tuple #[.string ⟨#[49, 50, 51, 109, 53, 77, 53, 109, 49, 119, 49, 100]⟩, .int .i64 0]) ∧ Grow w w'
theorem got_text (v vl : Value) (w : World) (h : IsSet w v bigT) (h2 : IsFaces w vl awakeF) : Calls Try.prog 19 #[v, vl] w (GotText w) := by
  have h := Text_any v vl bigT awakeF w h h2 (by decide)
  rw [awake_text, awake_textErr] at h
  exact h
def GotWall (w : World) (e : Ending) (w' : World) : Prop := ∃ A c, e = .returned (.slice A 16 c) ∧ Grow w w'
theorem got_wall (v : Value) (w : World) (h : IsSet w v tinyT) : Calls Try.prog 23 #[v, .int .u64 0] w (GotWall w) := by
  refine (Wall_any v tinyT 0 w h).mono ?_
  rintro e w' ⟨v, rfl, ⟨A, c, rfl, _⟩, hg⟩
  rw [tiny_wall]
  exact ⟨A, c, rfl, hg⟩
theorem faces_awake (v : Value) (w : World) (h : IsInts w v [0, 1, 2, 104, 4, 27, 31]) : Calls Try.prog 77 #[v] w (FacesRes w awakeF) := faces_any v _ w h (by decide) (by decide)

set_option maxRecDepth 100000 in
set_option maxHeartbeats 4000000 in
theorem awake_any (w : World) : Calls Try.prog 21 #[] w (Gives w (.bool true)) := by
  go_enter Try.func21, Try.ntmps21
  go_wp2_with fail
  refine (Big_any _).mono ?_
  rintro e w1 ⟨vB, rfl, hB, hgB⟩
  go_wp2_with fail
  refine (Tiny_any _).mono ?_
  rintro e w2 ⟨vT, rfl, hT, hgT⟩
  have hB := hB.grow hgT
  obtain ⟨A, c, B, d, rfl, h1, h2⟩ := hB.open_
  obtain ⟨A', c', B', d', rfl, h1', h2'⟩ := hT.open_
  clear h1 h2 h1' h2'
  go_wp2
  have b1 : Blk ((w2.alloc (.cells #[.int .i64 bigT.pl, .slice A bigT.su.length c, .int .i64 bigT.wi, .int .i64 bigT.dr, .int .i64 bigT.fl, .int .i64 bigT.co, .int .i64 bigT.me, .int .i64 bigT.de, .slice B bigT.re.length d] 24)).alloc (.cells #[.int .i64 tinyT.pl, .slice A' tinyT.su.length c', .int .i64 tinyT.wi, .int .i64 tinyT.dr, .int .i64 tinyT.fl, .int .i64 tinyT.co, .int .i64 tinyT.me, .int .i64 tinyT.de, .slice B' tinyT.re.length d'] 24)) w2.heap.size 24 (setVals bigT (.slice A bigT.su.length c) (.slice B bigT.re.length d)) := Blk.grow (show Blk _ _ _ (setVals bigT (.slice A bigT.su.length c) (.slice B bigT.re.length d)) from Blk.new_at rfl) ((Grow.refl _).alloc _)
  have b2 : Blk ((w2.alloc (.cells #[.int .i64 bigT.pl, .slice A bigT.su.length c, .int .i64 bigT.wi, .int .i64 bigT.dr, .int .i64 bigT.fl, .int .i64 bigT.co, .int .i64 bigT.me, .int .i64 bigT.de, .slice B bigT.re.length d] 24)).alloc (.cells #[.int .i64 tinyT.pl, .slice A' tinyT.su.length c', .int .i64 tinyT.wi, .int .i64 tinyT.dr, .int .i64 tinyT.fl, .int .i64 tinyT.co, .int .i64 tinyT.me, .int .i64 tinyT.de, .slice B' tinyT.re.length d'] 24)) (w2.heap.size + 1) 24 (setVals tinyT (.slice A' tinyT.su.length c') (.slice B' tinyT.re.length d')) := Blk.new_at (by simp)
  have g3 : Grow w2 ((w2.alloc (.cells #[.int .i64 bigT.pl, .slice A bigT.su.length c, .int .i64 bigT.wi, .int .i64 bigT.dr, .int .i64 bigT.fl, .int .i64 bigT.co, .int .i64 bigT.me, .int .i64 bigT.de, .slice B bigT.re.length d] 24)).alloc (.cells #[.int .i64 tinyT.pl, .slice A' tinyT.su.length c', .int .i64 tinyT.wi, .int .i64 tinyT.dr, .int .i64 tinyT.fl, .int .i64 tinyT.co, .int .i64 tinyT.me, .int .i64 tinyT.de, .slice B' tinyT.re.length d'] 24)) := ((Grow.refl _).alloc _).alloc _
  have gz := (hgB.trans hgT).trans g3
  have hB := hB.grow g3
  have hT := hT.grow g3
  clear g3 hgB hgT
  generalize w2.heap.size = g at *
  generalize (w2.alloc (.cells #[.int .i64 bigT.pl, .slice A bigT.su.length c, .int .i64 bigT.wi, .int .i64 bigT.dr, .int .i64 bigT.fl, .int .i64 bigT.co, .int .i64 bigT.me, .int .i64 bigT.de, .slice B bigT.re.length d] 24)).alloc (.cells #[.int .i64 tinyT.pl, .slice A' tinyT.su.length c', .int .i64 tinyT.wi, .int .i64 tinyT.dr, .int .i64 tinyT.fl, .int .i64 tinyT.co, .int .i64 tinyT.me, .int .i64 tinyT.de, .slice B' tinyT.re.length d'] 24) = wz at *
  have KS := hid (fun W (hg : Grow wz W) => And.intro hg (set_cells (b1.grow hg)))
  have KT := hid (fun W (hg : Grow wz W) => And.intro hg (set_cells (b2.grow hg)))
  have GZ := hid gz
  have GT := hid (fun W v (hg : Grow wz W) (h : IsFaces W v awakeF) => got_text _ v W (hB.grow hg) h)
  have GD := hid (fun W v (hg : Grow wz W) (h : IsInts W v (upto 16)) => tiny_dealt _ v W (hT.grow hg) h)
  have GS := hid (fun W (hg : Grow wz W) => (by have h := Size_any _ bigT W (hB.grow hg); rw [big_size] at h; exact h : Calls Try.prog 30 #[.agg #[.int .i64 bigT.pl, .slice A bigT.su.length c, .int .i64 bigT.wi, .int .i64 bigT.dr, .int .i64 bigT.fl, .int .i64 bigT.co, .int .i64 bigT.me, .int .i64 bigT.de, .slice B bigT.re.length d]] W (Gives W (.int .i64 136))))
  have GA := hid (fun W (hg : Grow wz W) => (by have h := After_any _ bigT 30 W (hB.grow hg); rw [big_after] at h; exact h : Calls Try.prog 36 #[.agg #[.int .i64 bigT.pl, .slice A bigT.su.length c, .int .i64 bigT.wi, .int .i64 bigT.dr, .int .i64 bigT.fl, .int .i64 bigT.co, .int .i64 bigT.me, .int .i64 bigT.de, .slice B bigT.re.length d], .int .i64 30] W (Gives W (.int .i64 27))))
  have GW := hid (fun W (hg : Grow wz W) => got_wall _ W (hT.grow hg))
  clear b1 b2 hB hT gz
  go_region_held3 (fun W => Grow wz W ∧ W.cell? ⟨g, 0, none⟩ = some (.int .i64 bigT.pl) ∧ W.cell? ⟨g, 1, none⟩ = some (.slice A bigT.su.length c) ∧ W.cell? ⟨g, 2, none⟩ = some (.int .i64 bigT.wi) ∧ W.cell? ⟨g, 3, none⟩ = some (.int .i64 bigT.dr) ∧ W.cell? ⟨g, 4, none⟩ = some (.int .i64 bigT.fl) ∧ W.cell? ⟨g, 5, none⟩ = some (.int .i64 bigT.co) ∧ W.cell? ⟨g, 6, none⟩ = some (.int .i64 bigT.me) ∧ W.cell? ⟨g, 7, none⟩ = some (.int .i64 bigT.de) ∧ W.cell? ⟨g, 8, none⟩ = some (.slice B bigT.re.length d))
    (exact KS.out _ (by first | assumption | exact (Grow.refl _).drew | exact ((Grow.refl wz).alloc _).drew))
    (first
      | (go_at_call 77; have hS := (‹Grow wz _ ∧ _›).1; refine (faces_awake _ _ (by first | exact isInts_lit _ [0, 1, 2, 104, 4, 27, 31] (by decide) | exact (isInts_lit _ [0, 1, 2, 104, 4, 27, 31] (by decide)).grow (Grow.refl _).drew)).mono ?_; rintro e wA ⟨vA, rfl, oA, hgA⟩; have hkA := hS.trans hgA)
      | (go_at_call 19; have hS := (‹Grow wz _ ∧ _›).1; refine (GT.out _ _ hS oA.is).mono ?_; rintro e wB ⟨rfl, hgB⟩; have hkB := hS.trans hgB))
  all_goals
    go_wp2
    go_region_held3 (fun W => Grow wz W ∧ W.cell? ⟨g + 1, 0, none⟩ = some (.int .i64 tinyT.pl) ∧ W.cell? ⟨g + 1, 1, none⟩ = some (.slice A' tinyT.su.length c') ∧ W.cell? ⟨g + 1, 2, none⟩ = some (.int .i64 tinyT.wi) ∧ W.cell? ⟨g + 1, 3, none⟩ = some (.int .i64 tinyT.dr) ∧ W.cell? ⟨g + 1, 4, none⟩ = some (.int .i64 tinyT.fl) ∧ W.cell? ⟨g + 1, 5, none⟩ = some (.int .i64 tinyT.co) ∧ W.cell? ⟨g + 1, 6, none⟩ = some (.int .i64 tinyT.me) ∧ W.cell? ⟨g + 1, 7, none⟩ = some (.int .i64 tinyT.de) ∧ W.cell? ⟨g + 1, 8, none⟩ = some (.slice B' tinyT.re.length d'))
      (exact KT.out _ (by first | assumption | exact hkB.drew))
      (first
        | (go_at_call 32; have hS := (‹Grow wz _ ∧ _›).1; refine (countL_any 16 _ (by decide)).mono ?_; rintro e wC ⟨vC, rfl, oC, hgC⟩; have hkC := hS.trans hgC)
        | (go_at_call 25; have hS := (‹Grow wz _ ∧ _›).1; refine (GD.out _ _ hS oC.is).mono ?_; rintro e wD ⟨x1, x2, x3, rfl, hgD, iD⟩; have hkD := hS.trans hgD))
    all_goals
      obtain ⟨-, c0, c1, c2, c3, c4, c5, c6, c7, c8⟩ := KS.out _ hkD
      go_wp2_with (first
        | (go_at_call 30; refine (GS.out _ hkD).mono ?_; rintro e wE ⟨rfl, hgE⟩; have hkE := hkD.trans hgE; clear c0 c1 c2 c3 c4 c5 c6 c7 c8; obtain ⟨-, c0, c1, c2, c3, c4, c5, c6, c7, c8⟩ := KS.out _ hkE)
        | (go_at_call 36; refine (GA.out _ hkE).mono ?_; rintro e wF ⟨rfl, hgF⟩; have hkF := hkE.trans hgF; clear c0 c1 c2 c3 c4 c5 c6 c7 c8)
        | (go_at_call 22; refine (Equal_same _ _ [10, 11] _ (iD.grow ((hgE.trans hgF).trans ((Grow.refl _).alloc _))) (isInts_lit _ [10, 11] (by decide))).mono ?_; rintro e wG ⟨rfl, nG, rfl⟩; have hkG := (hkF.alloc (.cells #[.int .i64 10, .int .i64 11] 3)).drewN nG; obtain ⟨-, c0, c1, c2, c3, c4, c5, c6, c7, c8⟩ := KT.out _ hkG)
        | (go_at_call 23; refine (GW.out _ hkG).mono ?_; rintro e wH ⟨A9, c9, rfl, hgH⟩; have hkH := hkG.trans hgH))
      go_ret
      exact ⟨rfl, GZ.out.trans hkH⟩
end Go.Proofs.Ytjiahcfegfimmaa

/-
  Red tiles, bags, faces, cuts, swaps, orphans: in plain terms. No program.
-/
namespace Go.Proofs.Ytjiahcfegfimmaa
open Go.RowKit

/-- Ascending, no number twice. -/
def AscZ (l : List Int) : Prop := ∀ (i j : Nat) (hi : i < l.length) (hj : j < l.length), i < j → l[i] < l[j]
theorem risErr_cons {many p k : Int} {l : List Int} (h : risErr many p (k :: l) = 0) : (0 ≤ k ∧ k < many) ∧ p < k ∧ risErr many k l = 0 := by
  unfold risErr at h
  by_cases h1 : k < 0 ∨ many ≤ k
  · rw [if_pos h1] at h; omega
  rw [if_neg h1] at h
  by_cases h2 : k ≤ p
  · rw [if_pos h2] at h; omega
  rw [if_neg h2] at h
  exact ⟨by omega, by omega, h⟩
theorem risErr_above {many p : Int} {l : List Int} (h : risErr many p l = 0) : ∀ z ∈ l, p < z ∧ 0 ≤ z ∧ z < many := by
  induction l generalizing p with
  | nil => simp
  | cons k l ih =>
    obtain ⟨h1, h2, h3⟩ := risErr_cons h
    intro z hz
    rcases List.mem_cons.1 hz with rfl | hz
    · exact ⟨h2, h1⟩
    · have := ih h3 z hz; omega
theorem risErr_asc {many p : Int} {l : List Int} (h : risErr many p l = 0) : AscZ l := by
  induction l generalizing p with
  | nil => intro i j hi; simp at hi
  | cons k l ih =>
    obtain ⟨h1, h2, h3⟩ := risErr_cons h
    intro i j hi hj hij
    cases j with
    | zero => omega
    | succ j =>
      simp at hj
      cases i with
      | zero => exact (risErr_above h3 _ (List.getElem_mem hj)).1
      | succ i => exact ih h3 i j (by omega) hj (by omega)
theorem bin_found {l : List Int} {k : Int} {i : Nat} (h1 : ∀ (j : Nat) (hj : j < l.length), j < i → l[j] < k) (h2 : ∀ (j : Nat) (hj : j < l.length), i ≤ j → k ≤ l[j]) (ha : AscZ l) (hi : i < l.length) : decide (k ∈ l) = decide (l[i] = k) := by
  by_cases h : l[i] = k
  · rw [decide_eq_true h, decide_eq_true]; exact h ▸ List.getElem_mem hi
  · rw [decide_eq_false h, decide_eq_false]
    intro hm
    obtain ⟨j, hj, rfl⟩ := List.getElem_of_mem hm
    rcases Nat.lt_trichotomy j i with hlt | rfl | hgt
    · have := h1 j hj hlt; omega
    · exact h rfl
    · have := h2 i hi (Nat.le_refl _)
      have := ha i j hi hj hgt
      omega
theorem bin_none {l : List Int} {k : Int} {i : Nat} (h1 : ∀ (j : Nat) (hj : j < l.length), j < i → l[j] < k) (hi : l.length ≤ i) : decide (k ∈ l) = false := by
  refine decide_eq_false fun hm => ?_
  obtain ⟨j, hj, rfl⟩ := List.getElem_of_mem hm
  have := h1 j hj (by omega)
  omega

/-- Whether a tile is red. -/
def redB (s : TSet) (t : Int) : Bool := (decide (0 ≤ kindI s t) && decide (kindI s t < kindsI s)) && (decide (t % s.co = 0) && decide (kindI s t ∈ s.re))
/-- What tiles are seen as. -/
def facesI (s : TSet) (ts : List Int) : List (Int × Bool) := ts.map fun t => (kindI s t, redB s t)
/-- How many tiles of a list are of a kind. -/
def cntI (s : TSet) (ts : List Int) (k : Int) : Int := ((ts.filter fun t => decide (kindI s t = k)).length : Int)
def bagI (s : TSet) (ts : List Int) : List Int := (List.range (kindsI s).toNat).map fun (k : Nat) => cntI s ts (k : Int)
theorem bagI_length (s : TSet) (ts : List Int) : (bagI s ts).length = (kindsI s).toNat := by simp [bagI]
theorem bagI_nil (s : TSet) : bagI s [] = List.replicate (kindsI s).toNat 0 := by
  refine List.ext_getElem (by simp [bagI]) fun i h1 h2 => ?_
  simp [bagI, cntI]
theorem cntI_snoc (s : TSet) (ts : List Int) (t k : Int) : cntI s (ts ++ [t]) k = cntI s ts k + if kindI s t = k then 1 else 0 := by
  unfold cntI
  rw [List.filter_append]
  by_cases h : kindI s t = k
  · simp [h]
  · simp [h]
theorem bagI_snoc_in {s : TSet} {ts : List Int} {t : Int} (h0 : 0 ≤ kindI s t) (_h1 : kindI s t < kindsI s) (hl : (kindI s t).toNat < (bagI s ts).length) : bagI s (ts ++ [t]) = (bagI s ts).set (kindI s t).toNat ((bagI s ts)[(kindI s t).toNat] + 1) := by
  refine List.ext_getElem (by simp [bagI]) fun i i1 i2 => ?_
  rw [List.getElem_set]
  simp only [bagI, List.getElem_map, List.getElem_range]
  rw [cntI_snoc]
  by_cases h : (kindI s t).toNat = i
  · rw [if_pos h, if_pos (by omega), h]
  · rw [if_neg h, if_neg (by omega)]; omega
theorem bagI_snoc_out {s : TSet} {ts : List Int} {t : Int} (h1 : kindsI s ≤ kindI s t) : bagI s (ts ++ [t]) = bagI s ts := by
  refine List.ext_getElem (by simp [bagI]) fun i i1 i2 => ?_
  simp only [bagI, List.getElem_map, List.getElem_range]
  simp [bagI] at i1
  rw [cntI_snoc, if_neg (by omega)]; omega
theorem cntI_bound (s : TSet) (ts : List Int) (k : Int) : 0 ≤ cntI s ts k ∧ cntI s ts k ≤ ts.length := by
  unfold cntI
  have := List.length_filter_le (fun t => decide (kindI s t = k)) ts
  omega
theorem bagI_bound {s : TSet} {ts : List Int} {i : Nat} (h : i < (bagI s ts).length) : 0 ≤ (bagI s ts)[i] ∧ (bagI s ts)[i] ≤ ts.length := by
  simp only [bagI, List.getElem_map, List.getElem_range]
  exact cntI_bound s ts _

/-- The kind after swapping two suits. -/
def swapI (s : TSet) (k a b : Int) : Int :=
  if (placeP s k).1 = -4 then -1
  else if (a < 0 ∨ b < 0 ∨ (s.su.length : Int) ≤ a ∨ (s.su.length : Int) ≤ b) ∨ s.su.getD a.toNat 0 ≠ s.su.getD b.toNat 0 ∨ ((placeP s k).1 ≠ a ∧ (placeP s k).1 ≠ b) then k
  else sumI (s.su.take (a + b - (placeP s k).1).toNat) + (placeP s k).2
/-- Whether a kind is an orphan. -/
def orphB (s : TSet) (x : KPlace) : Bool := !(decide (x.2.1 = -3) || (decide (0 ≤ x.2.1) && (decide (0 < x.2.2) && decide (x.2.2 < lenI s x.2.1 - 1))))
def orphansI (s : TSet) : List Int := ((allP s).filter (orphB s)).map (·.1)

/-- The first error of dice and a dealer. -/
def cutErr (s : TSet) (d : Int) (dice : List Int) : Int :=
  if chkErr s ≠ 0 then chkErr s else if d < 0 ∨ s.pl ≤ d then 2 else if dice.length = 0 then 6 else if 4 < dice.length then 8 else if dice.any (fun x => decide (x < 1) || decide (6 < x)) = true then 2 else 0
def cutI (s : TSet) (d : Int) (dice : List Int) : Int := (sizeI s * ((d + sumI dice - 1) % s.pl) / s.pl + 2 * sumI dice) % sizeI s
end Go.Proofs.Ytjiahcfegfimmaa
