/-
  The walk of the reference's Deal, errors and all.
-/
import Derived.Test.YtjiahcfegfimmaaRDeal
namespace Go.Proofs.Ytjiahcfegfimmaa
open Go.RowKit

set_option maxRecDepth 100000 in
set_option maxHeartbeats 4000000 in
theorem rDeal_any (v v2 : Value) (s : TSet) (wall : List Int) (cut dl : Int) (w : World) (h : IsSet w v s) (h2 : IsInts w v2 wall) (hz : RangeZ wall) (hl : wall.length ≤ 1000000) :
    Calls Try.prog 26 #[v, v2, .int .i64 cut, .int .i64 dl] w (DealRes w s wall cut dl) := by
  have hfin : ∀ r wf, dealErr s wall cut dl = r → r ≠ 0 → Grow w wf → DealRes w s wall cut dl (.returned (.tuple #[.slice none 0 0, .slice none 0 0, .slice none 0 0, .int .i64 r])) wf := fun r wf h hne hg => by
    subst h
    exact ⟨_, _, _, rfl, hg, fun _ => ⟨rfl, rfl, rfl⟩, fun h => absurd h hne⟩
  have HF := hid hfin
  have H := hid h
  have H2 := hid h2
  have HZ := hid hz
  have CH := fun W (hg : Grow w W) => rCheck_any v s W (h.grow hg)
  have WH := fun e W (hg : Grow w W) => Whole_any v v2 s wall W (h.grow hg) (h2.grow hg) hz e
  obtain ⟨A2, e2, rfl, q1, q2, _⟩ := h2
  unfold maxLen at q2
  clear hfin hz
  have HI := hid h
  obtain ⟨A, c, B, d, rfl, h1, h2⟩ := h.open_
  obtain ⟨_, _, e1, c1, m1, r1⟩ := h1
  obtain ⟨_, _, e2, d1, m2, r2⟩ := h2
  injection e1 with e1 _ e1'
  injection e2 with e2 _ e2'
  subst e1 e1' e2 e2'
  unfold maxLen at m1 m2
  have HG0 := hid (show Grow w (w.alloc (.cells #[.int .i64 s.pl, .slice A s.su.length c, .int .i64 s.wi, .int .i64 s.dr, .int .i64 s.fl, .int .i64 s.co, .int .i64 s.me, .int .i64 s.de, .slice B s.re.length d] 24)) from (Grow.refl w).alloc _)
  have HB0 := hid (show Blk (w.alloc (.cells #[.int .i64 s.pl, .slice A s.su.length c, .int .i64 s.wi, .int .i64 s.dr, .int .i64 s.fl, .int .i64 s.co, .int .i64 s.me, .int .i64 s.de, .slice B s.re.length d] 24)) w.heap.size 24 (setVals s (.slice A s.su.length c) (.slice B s.re.length d)) from heap_alloc_new w _)
  clear h
  by_cases e : chkErr s = 0
  · have WH := WH e
    rw [e] at CH
    have CH := hid CH
    by_cases e3 : (wall.length : Int) ≠ sizeI s ∨ onceErr s wall ≠ 0
    · have HE := hid (show dealErr s wall cut dl = 3 by unfold dealErr; rw [if_neg (by omega), if_pos e3])
      have hw : wholeB s wall = false := by
        unfold wholeB
        unfold onceErr at e3
        rw [if_neg (by omega)] at e3
        rcases e3 with h | h
        · rw [decide_eq_false h, Bool.false_and]
        · rw [decide_eq_false h, Bool.and_false]
      rw [hw] at WH
      have WH := hid WH
      clear e3 e hw
      go_enter Try.func26, Try.ntmps26
      have KS := hid (fun W (hg : Grow (w.alloc (.cells #[.int .i64 s.pl, .slice A s.su.length c, .int .i64 s.wi, .int .i64 s.dr, .int .i64 s.fl, .int .i64 s.co, .int .i64 s.me, .int .i64 s.de, .slice B s.re.length d] 24)) W) => And.intro hg (set_cells (HB0.out.grow hg)))
      obtain ⟨-, c0, c1, c2, c3, c4, c5, c6, c7, c8⟩ := KS.out _ (Grow.refl _)
      go_wp2_with (first
        | (go_at_call 39; refine (CH.out _ HG0.out).mono ?_; rintro e w1 ⟨rfl, hg1⟩; clear c0 c1 c2 c3 c4 c5 c6 c7 c8; obtain ⟨-, c0, c1, c2, c3, c4, c5, c6, c7, c8⟩ := KS.out _ hg1)
        | (go_at_call 83; refine (WH.out _ (HG0.out.trans hg1)).mono ?_; rintro e w2 ⟨rfl, hg2⟩))
      refine bodyPost_ret (results_tmp4 rfl _ _ _) rfl ?_
      exact HF.out _ _ HE.out (by decide) (HG0.out.trans (hg1.trans hg2))
    · obtain ⟨e4, e5⟩ : (wall.length : Int) = sizeI s ∧ onceErr s wall = 0 := by omega
      by_cases e6 : cut < 0 ∨ sizeI s ≤ cut ∨ dl < 0 ∨ s.pl ≤ dl
      · have HE := hid (show dealErr s wall cut dl = 2 by unfold dealErr; rw [if_neg (by omega), if_neg e3, if_pos e6])
        have hw : wholeB s wall = true := by
          unfold wholeB
          unfold onceErr at e5
          rw [if_neg (by omega)] at e5
          simp [e4, e5]
        rw [hw] at WH
        have WH := hid WH
        have hpl := (valid_of e).pl
        have BC := fun W => between_any cut 0 ((wall.length : Int) - 1) W
        have BD := fun W => between_any dl 0 (s.pl - 1) W
        by_cases e7 : cut < 0 ∨ sizeI s ≤ cut
        · rw [btw_no (show cut < 0 ∨ (wall.length : Int) - 1 < cut by omega)] at BC
          have BC := hid BC
          clear e3 e hw e4 e5 e6 e7 BD
          go_enter Try.func26, Try.ntmps26
          have KS := hid (fun W (hg : Grow (w.alloc (.cells #[.int .i64 s.pl, .slice A s.su.length c, .int .i64 s.wi, .int .i64 s.dr, .int .i64 s.fl, .int .i64 s.co, .int .i64 s.me, .int .i64 s.de, .slice B s.re.length d] 24)) W) => And.intro hg (set_cells (HB0.out.grow hg)))
          obtain ⟨-, c0, c1, c2, c3, c4, c5, c6, c7, c8⟩ := KS.out _ (Grow.refl _)
          go_wp2_with (first
            | (go_at_call 39; refine (CH.out _ HG0.out).mono ?_; rintro e w1 ⟨rfl, hg1⟩; clear c0 c1 c2 c3 c4 c5 c6 c7 c8; obtain ⟨-, c0, c1, c2, c3, c4, c5, c6, c7, c8⟩ := KS.out _ hg1)
            | (go_at_call 83; refine (WH.out _ (HG0.out.trans hg1)).mono ?_; rintro e w2 ⟨rfl, hg2⟩; clear c0 c1 c2 c3 c4 c5 c6 c7 c8; have hk2 := hg1.trans hg2; obtain ⟨-, c0, c1, c2, c3, c4, c5, c6, c7, c8⟩ := KS.out _ hk2)
            | (go_at_call 84; (with_reducible refine (BC.out _).mono ?_); rintro e w' ⟨rfl, rfl⟩))
          refine bodyPost_ret (results_tmp4 rfl _ _ _) rfl ?_
          exact HF.out _ _ HE.out (by decide) (HG0.out.trans hk2)
        · rw [btw_yes (show 0 ≤ cut ∧ cut ≤ (wall.length : Int) - 1 by omega)] at BC
          rw [btw_no (show dl < 0 ∨ s.pl - 1 < dl by omega)] at BD
          have BC := hid BC
          have BD := hid BD
          clear e3 e hw e4 e5 e6 e7
          go_enter Try.func26, Try.ntmps26
          have KS := hid (fun W (hg : Grow (w.alloc (.cells #[.int .i64 s.pl, .slice A s.su.length c, .int .i64 s.wi, .int .i64 s.dr, .int .i64 s.fl, .int .i64 s.co, .int .i64 s.me, .int .i64 s.de, .slice B s.re.length d] 24)) W) => And.intro hg (set_cells (HB0.out.grow hg)))
          obtain ⟨-, c0, c1, c2, c3, c4, c5, c6, c7, c8⟩ := KS.out _ (Grow.refl _)
          go_wp2_with (first
            | (go_at_call 39; refine (CH.out _ HG0.out).mono ?_; rintro e w1 ⟨rfl, hg1⟩; clear c0 c1 c2 c3 c4 c5 c6 c7 c8; obtain ⟨-, c0, c1, c2, c3, c4, c5, c6, c7, c8⟩ := KS.out _ hg1)
            | (go_at_call 83; refine (WH.out _ (HG0.out.trans hg1)).mono ?_; rintro e w2 ⟨rfl, hg2⟩; clear c0 c1 c2 c3 c4 c5 c6 c7 c8; have hk2 := hg1.trans hg2; obtain ⟨-, c0, c1, c2, c3, c4, c5, c6, c7, c8⟩ := KS.out _ hk2)
            | (go_at_call 84; first | ((with_reducible refine (BC.out _).mono ?_); rintro e w' ⟨rfl, rfl⟩) | ((with_reducible refine (BD.out _).mono ?_); rintro e w' ⟨rfl, rfl⟩)))
          refine bodyPost_ret (results_tmp4 rfl _ _ _) rfl ?_
          exact HF.out _ _ HE.out (by decide) (HG0.out.trans hk2)
      · exact rDeal_ok _ _ s wall cut dl w H.out H2.out HZ.out e e4 e5 e6
  · have HE := hid (show dealErr s wall cut dl = chkErr s by unfold dealErr; rw [if_pos e])
    have ne : (chkErr s != 0) = true := by simp [e]
    have HN := hid e
    have CH := hid CH
    clear e WH
    generalize chkErr s = z at *
    go_enter Try.func26, Try.ntmps26
    go_wp2_with (go_at_call 39; refine (CH.out _ HG0.out).mono ?_; rintro e w1 ⟨rfl, hg1⟩; have hg := HG0.out.trans hg1)
    refine bodyPost_ret (results_tmp4 rfl _ _ _) rfl ?_
    exact HF.out _ _ HE.out HN.out hg
end Go.Proofs.Ytjiahcfegfimmaa
