/-
  Walks: odds of small numbers; the examples that every statement asks.
-/
import Derived.Test.YtomgilkchlediaaGreatDoorSome
import Derived.Deep.RegionHeld3
import Derived.Deep.RegionWith
namespace Go.Proofs.YtomgilkchlediaaGreatDoor
open Go.RowKit

theorem canon_one {n : Int} (h0 : 1 ≤ n) (h1 : n < 1000000000) : Canon [n] := ⟨fun d hd => by simp at hd; omega, by simp; omega⟩
theorem isNatF_one (w : World) (n : Int) (h0 : 1 ≤ n) (h1 : n < 1000000000) : IsNatF (w.alloc (.cells #[.int .i64 n] 3)) (.slice (some ⟨w.heap.size, 0, none⟩) 1 1) n := by
  have hb : Blk (w.alloc (.cells #[.int .i64 n] 3)) w.heap.size 3 (ints [n]) := heap_alloc_new w _
  exact ⟨⟨[n], canon_one h0 h1, by simp [val], hb.is (by simp [maxLen])⟩, hb.tag⟩
theorem isInts_one (w : World) (n : Int) : IsInts (w.alloc (.cells #[.int .i64 n] 3)) (.slice (some ⟨w.heap.size, 0, none⟩) 1 1) [n] := by
  have hb : Blk (w.alloc (.cells #[.int .i64 n] 3)) w.heap.size 3 (ints [n]) := heap_alloc_new w _
  exact hb.is (by simp [maxLen])
theorem isInts_two (w : World) (n m : Int) : IsInts (w.alloc (.cells #[.int .i64 n, .int .i64 m] 3)) (.slice (some ⟨w.heap.size, 0, none⟩) 2 2) [n, m] := by
  have hb : Blk (w.alloc (.cells #[.int .i64 n, .int .i64 m] 3)) w.heap.size 3 (ints [n, m]) := heap_alloc_new w _
  exact hb.is (by simp [maxLen])
theorem isInts_three (w : World) (n m k : Int) : IsInts (w.alloc (.cells #[.int .i64 n, .int .i64 m, .int .i64 k] 3)) (.slice (some ⟨w.heap.size, 0, none⟩) 3 3) [n, m, k] := by
  have hb : Blk (w.alloc (.cells #[.int .i64 n, .int .i64 m, .int .i64 k] 3)) w.heap.size 3 (ints [n, m, k]) := heap_alloc_new w _
  exact hb.is (by simp [maxLen])

theorem odds_any (a b : Int) (w : World) (h0 : 1 ≤ a) (h1 : a < 1000000000) (h2 : 1 ≤ b) (h3 : b < 1000000000) : Calls Tryz.prog 24 #[.int .i64 a, .int .i64 b] w (OddsVal w a b) := by
  go_enter Tryz.func24, Tryz.ntmps24
  go_wp2_with fail
  have hi1 := isInts_one (w.alloc (.cells #[.slice none 0 0, .slice none 0 0] 43)) b
  simp only [World.size_alloc] at hi1
  refine (number_any _ _ _ hi1).mono ?_
  rintro e w1 ⟨rfl, rfl⟩
  go_wp2_with fail
  have hi2 := isInts_one (((w.alloc (.cells #[.slice none 0 0, .slice none 0 0] 43)).alloc (.cells #[.int .i64 b] 3)).alloc (.cells #[.slice none 0 0, .slice (some ⟨w.heap.size + 1, 0, none⟩) 1 1] 43)) a
  simp only [World.size_alloc] at hi2
  refine (number_any _ _ _ hi2).mono ?_
  rintro e w1 ⟨rfl, rfl⟩
  clear hi1 hi2
  go_wp2
  refine bodyPost_ret (v := .agg #[.slice (some ⟨w.heap.size + 1 + 1 + 1, 0, none⟩) 1 1, .slice (some ⟨w.heap.size + 1, 0, none⟩) 1 1]) (by simp [results, Tryz.results24, go_sem]) rfl ⟨_, rfl, ⟨_, _, rfl, ?_, ?_⟩, ?_⟩
  · have h := isNatF_one (((w.alloc (.cells #[.slice (some ⟨w.heap.size + 1 + 1 + 1, 0, none⟩) 1 1, .slice (some ⟨w.heap.size + 1, 0, none⟩) 1 1] 43)).alloc (.cells #[.int .i64 b] 3)).alloc (.cells #[.slice (some ⟨w.heap.size + 1 + 1 + 1, 0, none⟩) 1 1, .slice (some ⟨w.heap.size + 1, 0, none⟩) 1 1] 43)) a h0 h1
    simp only [World.size_alloc] at h
    exact h
  · have h := isNatF_one (w.alloc (.cells #[.slice (some ⟨w.heap.size + 1 + 1 + 1, 0, none⟩) 1 1, .slice (some ⟨w.heap.size + 1, 0, none⟩) 1 1] 43)) b h2 h3
    simp only [World.size_alloc] at h
    exact h.grow (((Grow.refl _).alloc _).alloc _)
  · exact ((((Grow.refl _).alloc _).alloc _).alloc _).alloc _

theorem binom_34_17 : binom 34 17 = 2333606220 := by
  have h1 : binom 34 (0 + 1) = 34 := by have h := binom_step 34 0; rw [binom_zero] at h; omega
  have h2 : binom 34 (1 + 1) = 561 := by have h := binom_step 34 1; rw [show binom 34 1 = 34 from h1] at h; omega
  have h3 : binom 34 (2 + 1) = 5984 := by have h := binom_step 34 2; rw [show binom 34 2 = 561 from h2] at h; omega
  have h4 : binom 34 (3 + 1) = 46376 := by have h := binom_step 34 3; rw [show binom 34 3 = 5984 from h3] at h; omega
  have h5 : binom 34 (4 + 1) = 278256 := by have h := binom_step 34 4; rw [show binom 34 4 = 46376 from h4] at h; omega
  have h6 : binom 34 (5 + 1) = 1344904 := by have h := binom_step 34 5; rw [show binom 34 5 = 278256 from h5] at h; omega
  have h7 : binom 34 (6 + 1) = 5379616 := by have h := binom_step 34 6; rw [show binom 34 6 = 1344904 from h6] at h; omega
  have h8 : binom 34 (7 + 1) = 18156204 := by have h := binom_step 34 7; rw [show binom 34 7 = 5379616 from h7] at h; omega
  have h9 : binom 34 (8 + 1) = 52451256 := by have h := binom_step 34 8; rw [show binom 34 8 = 18156204 from h8] at h; omega
  have h10 : binom 34 (9 + 1) = 131128140 := by have h := binom_step 34 9; rw [show binom 34 9 = 52451256 from h9] at h; omega
  have h11 : binom 34 (10 + 1) = 286097760 := by have h := binom_step 34 10; rw [show binom 34 10 = 131128140 from h10] at h; omega
  have h12 : binom 34 (11 + 1) = 548354040 := by have h := binom_step 34 11; rw [show binom 34 11 = 286097760 from h11] at h; omega
  have h13 : binom 34 (12 + 1) = 927983760 := by have h := binom_step 34 12; rw [show binom 34 12 = 548354040 from h12] at h; omega
  have h14 : binom 34 (13 + 1) = 1391975640 := by have h := binom_step 34 13; rw [show binom 34 13 = 927983760 from h13] at h; omega
  have h15 : binom 34 (14 + 1) = 1855967520 := by have h := binom_step 34 14; rw [show binom 34 14 = 1391975640 from h14] at h; omega
  have h16 : binom 34 (15 + 1) = 2203961430 := by have h := binom_step 34 15; rw [show binom 34 15 = 1855967520 from h15] at h; omega
  have h17 : binom 34 (16 + 1) = 2333606220 := by have h := binom_step 34 16; rw [show binom 34 16 = 2203961430 from h16] at h; omega
  exact h17
theorem awake_any_err : anyErr [2, 1, 1] [1, 2] 1 = 0 := by decide
theorem awake_any_ways : anyWays (sumI [2, 1, 1]) (sumAt [2, 1, 1] [1, 2]) 1 = 2 := by decide
theorem awake_any_all : chooseI (sumI [2, 1, 1]) 1 = 4 := by decide

theorem awake_binom : (if (34 : Int) < 0 ∨ 200 < (34 : Int) then (0 : Int) else chooseI 34 17) = 2333606220 := by
  rw [if_neg (by omega), show chooseI 34 17 = (binom 34 17 : Int) from chooseI_nat 34 17, binom_34_17]; rfl
theorem isNat_num (w : World) : IsNat (w.alloc (.cells #[.int .i64 333606220, .int .i64 2] 3)) (.slice (some ⟨w.heap.size, 0, none⟩) 2 2) 2333606220 :=
  ⟨[333606220, 2], ⟨fun d hd => by simp at hd; omega, by simp⟩, by simp [val], isInts_two w _ _⟩
theorem SameOdds_same (v1 v2 : Value) (a b : Int) (w : World) (h1 : IsOdds w v1 a b) (h2 : IsOdds w v2 a b) : Calls Tryz.prog 23 #[v1, v2] w (Gives w (.bool true)) := by
  have h := SameOdds_any v1 v2 a b a b w h1 h2
  simpa using h
theorem SameNat_same (v1 v2 : Value) (a : Int) (w : World) (h1 : IsNat w v1 a) (h2 : IsNat w v2 a) : Calls Tryz.prog 10 #[v1, v2] w (Says w (.bool true)) := by
  have h := SameNat_nat v1 v2 a a w h1 h2
  simpa using h

theorem natErr_val {zs : List Int} (h : Canon zs) (hv : val zs < radix 40) : natErr zs = 0 := by
  refine natErr_canon h ?_
  rcases Nat.lt_or_ge 40 zs.length with hlt | hge
  · have h1 := h.lower (by omega)
    have h2 := radix_mono (show 40 ≤ zs.length - 1 by omega)
    omega
  · exact hge
theorem fairB_val {xs ys : List Int} (hx : Canon xs) (hy : Canon ys) (h1 : val xs < radix 40) (h2 : val ys < radix 40) : fairB xs ys = (decide (0 < val ys) && decide (val xs ≤ val ys)) := by
  unfold fairB
  have e : err2 xs ys = 0 := by unfold err2; rw [natErr_val hx h1, natErr_val hy h2]; rfl
  have e2 : decide (0 < ys.length) = decide (0 < val ys) := by
    by_cases h : 0 < ys.length
    · have := hy.lower h
      have := radix_pos (ys.length - 1)
      rw [decide_eq_true h, decide_eq_true (by omega)]
    · have hz : ys = [] := List.eq_nil_of_length_eq_zero (by omega)
      subst hz
      simp [val]
  rw [e, e2]; simp
/-- Which odds are better, of numbers. -/
def betterV (a b c d : Int) : Int := if (0 < b ∧ a ≤ b) ∧ (0 < d ∧ c ≤ d) then cmpI (a * d) (c * b) else 0
theorem Better_odds (v1 v2 : Value) (a b c d : Int) (w : World) (h1 : IsOdds w v1 a b) (h2 : IsOdds w v2 c d) (ha : a < radix 40) (hb : b < radix 40) (hc : c < radix 40) (hd : d < radix 40) :
    Calls Tryz.prog 27 #[v1, v2] w (Gives w (.int .i64 (betterV a b c d))) := by
  obtain ⟨x1, x2, rfl, ⟨⟨zs1, k1, rfl, i1⟩, _⟩, ⟨⟨zs2, k2, rfl, i2⟩, _⟩⟩ := h1
  obtain ⟨y1, y2, rfl, ⟨⟨zs3, k3, rfl, i3⟩, _⟩, ⟨⟨zs4, k4, rfl, i4⟩, _⟩⟩ := h2
  have h := Better_any _ _ _ _ zs1 zs2 zs3 zs4 w i1 i2 i3 i4
  have e : betterI zs1 zs2 zs3 zs4 = betterV (val zs1) (val zs2) (val zs3) (val zs4) := by
    unfold betterI betterV
    rw [fairB_val k1 k2 ha hb, fairB_val k3 k4 hc hd]
    have e3 : (decide (0 < val zs2) && decide (val zs1 ≤ val zs2) && (decide (0 < val zs4) && decide (val zs3 ≤ val zs4))) = decide ((0 < val zs2 ∧ val zs1 ≤ val zs2) ∧ (0 < val zs4 ∧ val zs3 ≤ val zs4)) := by simp only [Bool.decide_and]
    rw [e3]
    by_cases hP : (0 < val zs2 ∧ val zs1 ≤ val zs2) ∧ (0 < val zs4 ∧ val zs3 ≤ val zs4)
    · rw [decide_eq_true hP, if_pos rfl, if_pos hP]
    · rw [decide_eq_false hP, if_neg (by simp), if_neg hP]
  rw [e] at h
  exact h
theorem lt_radix40 {n : Int} (h : n < 1000000000) : n < radix 40 := by
  have h2 := radix_mono (show 1 ≤ 40 by omega)
  simp only [radix] at h2 ⊢
  omega
theorem awake_better : betterV 1 3 1 2 = -1 := by decide

set_option maxRecDepth 100000 in
theorem awake_any (w : World) : Calls Tryz.prog 5 #[] w (Gives w (.bool true)) := by
  go_enter Tryz.func5, Tryz.ntmps5
  go_wp2_with fail
  have hi1 := (isInts_three w 2 1 1).grow ((Grow.refl _).alloc (.cells #[.int .i64 1, .int .i64 2] 3))
  have hi2 := isInts_two (w.alloc (.cells #[.int .i64 2, .int .i64 1, .int .i64 1] 3)) 1 2
  simp only [World.size_alloc] at hi2
  have g0 : Grow w ((w.alloc (.cells #[.int .i64 2, .int .i64 1, .int .i64 1] 3)).alloc (.cells #[.int .i64 1, .int .i64 2] 3)) := ((Grow.refl _).alloc _).alloc _
  have ha := Any_any _ _ _ _ 1 _ hi1 hi2
  unfold AnyRes at ha
  rw [awake_any_err, if_pos rfl, if_pos rfl, awake_any_ways, awake_any_all] at ha
  refine ha.mono ?_
  rintro e w1 ⟨v, rfl, ⟨x1, x2, rfl, k1, k2⟩, hg1⟩
  clear ha hi1 hi2
  obtain ⟨A1, m1, c1, rfl⟩ := k1.open_
  obtain ⟨A2, m2, c2, rfl⟩ := k2.open_
  go_wp2_with fail
  have gz : Grow w (w1.alloc (.cells #[.slice A1 m1 c1, .slice A2 m2 c2] 43)) := (g0.trans hg1).alloc _
  have q0 : (w1.alloc (.cells #[.slice A1 m1 c1, .slice A2 m2 c2] 43)).cell? ⟨w1.heap.size, 0, none⟩ = some (.slice A1 m1 c1) := by simp
  have q1 : (w1.alloc (.cells #[.slice A1 m1 c1, .slice A2 m2 c2] 43)).cell? ⟨w1.heap.size, 1, none⟩ = some (.slice A2 m2 c2) := by simp
  have kx : IsOdds (w1.alloc (.cells #[.slice A1 m1 c1, .slice A2 m2 c2] 43)) (.agg #[.slice A1 m1 c1, .slice A2 m2 c2]) 2 4 := (IsOdds.grow ⟨_, _, rfl, k1, k2⟩ ((Grow.refl _).alloc _))
  clear k1 k2 hg1 g0
  generalize w1.heap.size = g at *
  generalize w1.alloc (.cells #[.slice A1 m1 c1, .slice A2 m2 c2] 43) = wz at *
  have KS := hid (fun W (hg : Grow wz W) => (⟨hg, hg.cell_some q0, hg.cell_some q1⟩ : Grow wz W ∧ W.cell? ⟨g, 0, none⟩ = some (.slice A1 m1 c1) ∧ W.cell? ⟨g, 1, none⟩ = some (.slice A2 m2 c2)))
  have KX := hid kx
  have BN := hid (fun W => (binomial_any 34 17 W (by omega)))
  rw [awake_binom] at BN
  clear q0 q1 kx
  go_region_held3 (fun W => Grow wz W ∧ W.cell? ⟨g, 0, none⟩ = some (.slice A1 m1 c1) ∧ W.cell? ⟨g, 1, none⟩ = some (.slice A2 m2 c2))
    (exact KS.out _ (by first | assumption | exact (Grow.refl _).drew | exact Grow.alloc (by first | assumption | exact (‹Grow wz _ ∧ _ ∧ _›).1) _))
    (first
      | (go_at_call_of 24 (Value.int .i64 4); have hS := (‹Grow wz _ ∧ _ ∧ _›).1; refine (odds_any 2 4 _ (by omega) (by omega) (by omega) (by omega)).mono ?_; rintro e wA ⟨vA, rfl, kA, hgA⟩; have hkA := hS.trans hgA)
      | (go_at_call 23; have hS := (‹Grow wz _ ∧ _ ∧ _›).1; refine (SameOdds_same _ _ 2 4 _ (KX.out.grow hS) kA).mono ?_; rintro e wB ⟨rfl, hgB⟩; have hkB := hS.trans hgB)
      | (go_at_call 25; have hS := (‹Grow wz _ ∧ _ ∧ _›).1; refine (BN.out _).mono ?_; rintro e wC ⟨vC, rfl, kC, hgC⟩; have hkC := hS.trans hgC)
      | (go_at_call 26; have hS := (‹Grow wz _ ∧ _ ∧ _›).1; refine (number_any _ _ _ (by first | exact isInts_two _ _ _ | exact (isInts_two _ _ _).grow hgC)).mono ?_; rintro e wD ⟨rfl, rfl⟩; have hkD := hS)
      | (go_at_call 10; have hS := (‹Grow wz _ ∧ _ ∧ _›).1; refine (SameNat_same _ _ 2333606220 _ (by first | exact kC.1 | exact kC.1.grow ((Grow.refl _).alloc _)) (by first | exact isNat_num _ | exact (isNat_num _).grow hgC)).mono ?_; rintro e wE ⟨rfl, nE, rfl⟩; have hkE := hS.drewN nE)
      | (go_at_call_of 24 (Value.int .i64 3); have hS := (‹Grow wz _ ∧ _ ∧ _›).1; refine (odds_any 1 3 _ (by omega) (by omega) (by omega) (by omega)).mono ?_; rintro e wF ⟨vF, rfl, kF, hgF⟩; have hkF := hS.trans hgF)
      | (go_at_call 24; have hS := (‹Grow wz _ ∧ _ ∧ _›).1; refine (odds_any 1 2 _ (by omega) (by omega) (by omega) (by omega)).mono ?_; rintro e wG ⟨vG, rfl, kG, hgG⟩; have hkG := hS.trans hgG)
      | (go_at_call 27; have hS := (‹Grow wz _ ∧ _ ∧ _›).1; refine (Better_odds _ _ 1 3 1 2 _ (by first | exact kF | exact kF.grow hgG) (by first | exact kG | exact kG.grow hgF) (lt_radix40 (by omega)) (lt_radix40 (by omega)) (lt_radix40 (by omega)) (lt_radix40 (by omega))).mono ?_; rw [awake_better]; rintro e wH ⟨rfl, hgH⟩; have hkH := hS.trans hgH))
  all_goals
    go_wp2
    go_ret
    exact ⟨rfl, gz.trans hkH⟩
end Go.Proofs.YtomgilkchlediaaGreatDoor
