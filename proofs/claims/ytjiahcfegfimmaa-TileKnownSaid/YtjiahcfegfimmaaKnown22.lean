/-
  The walk of Deal.
-/
import Derived.Test.YtjiahcfegfimmaaKnown21
namespace Go.Proofs.Ytjiahcfegfimmaa
open Go.RowKit

set_option maxRecDepth 100000 in
set_option maxHeartbeats 4000000 in
theorem Deal_any (v v2 : Value) (s : TSet) (wall : List Int) (cut dl : Int) (w : World) (h : IsSet w v s) (h2 : IsInts w v2 wall) :
    Calls Try.prog 25 #[v, v2, .int .i64 cut, .int .i64 dl] w (DealRes w s wall cut dl) := by
  have hfin : ∀ r wf, dealErr s wall cut dl = r → r ≠ 0 → Grow w wf → DealRes w s wall cut dl (.returned (.tuple #[.slice none 0 0, .slice none 0 0, .slice none 0 0, .int .i64 r])) wf := fun r wf h hne hg => by
    subst h
    exact ⟨_, _, _, rfl, hg, fun _ => ⟨rfl, rfl, rfl⟩, fun h => absurd h hne⟩
  have HF := hid hfin
  have CH := fun W (hg : Grow w W) => Check_any v s W (h.grow hg)
  have SZ := fun W (hg : Grow w W) => Size_any v s W (h.grow hg)
  have ON := fun W (hg : Grow w W) => once_any v v2 s wall W (h.grow hg) (h2.grow hg)
  have hb := size_bound s
  have H2 := hid h2
  obtain ⟨A2, e2, rfl, q1, q2, rT⟩ := h2
  unfold maxLen at q2
  clear hfin
  have HI := hid h
  obtain ⟨A, c, B, d, rfl, h1, k2⟩ := h.open_
  obtain ⟨_, _, e1, c1, m1, r1⟩ := h1
  obtain ⟨_, _, e2x, d1, m2, r2⟩ := k2
  injection e1 with e1 _ e1'
  injection e2x with e2x _ e2'
  subst e1 e1' e2x e2'
  unfold maxLen at m1 m2
  have HG0 := hid (show Grow w (w.alloc (.cells #[.int .i64 s.pl, .slice A s.su.length c, .int .i64 s.wi, .int .i64 s.dr, .int .i64 s.fl, .int .i64 s.co, .int .i64 s.me, .int .i64 s.de, .slice B s.re.length d] 24)) from (Grow.refl w).alloc _)
  have HB0 := hid (show Blk (w.alloc (.cells #[.int .i64 s.pl, .slice A s.su.length c, .int .i64 s.wi, .int .i64 s.dr, .int .i64 s.fl, .int .i64 s.co, .int .i64 s.me, .int .i64 s.de, .slice B s.re.length d] 24)) w.heap.size 24 (setVals s (.slice A s.su.length c) (.slice B s.re.length d)) from heap_alloc_new w _)
  clear h
  by_cases e : chkErr s = 0
  · have V := valid_of e
    rw [e] at CH
    have CH := hid CH
    by_cases e3 : (wall.length : Int) ≠ sizeI s ∨ onceErr s wall ≠ 0
    · have HE := hid (show dealErr s wall cut dl = 3 by unfold dealErr; rw [if_neg (by omega), if_pos e3])
      have SZ := hid SZ
      have ON := hid ON
      by_cases e4 : (wall.length : Int) = sizeI s
      · have e5 : (onceErr s wall != 0) = true := by simp; omega
        have n1 : ((wall.length : Int) != sizeI s) = false := by simp [e4]
        clear e3 e V e4
        generalize onceErr s wall = oe at *
        generalize sizeI s = n at *
        go_enter Try.func25, Try.ntmps25
        go_wp2_with (first
          | (go_at_call 38; refine (CH.out _ HG0.out).mono ?_; rintro e w1 ⟨rfl, hg1⟩; have hg := HG0.out.trans hg1; obtain ⟨c0, c1, c2, c3, c4, c5, c6, c7, c8⟩ := set_cells (HB0.out.grow hg1))
          | (go_at_call 30; refine (SZ.out _ hg).mono ?_; rintro e w2 ⟨rfl, hg2⟩; have hgg := hg.trans hg2; clear c0 c1 c2 c3 c4 c5 c6 c7 c8; obtain ⟨c0, c1, c2, c3, c4, c5, c6, c7, c8⟩ := set_cells ((HB0.out.grow hg1).grow hg2))
          | (go_at_call 81; refine (ON.out _ hgg).mono ?_; rintro e w3 ⟨rfl, hg3⟩; have hg4 := hgg.trans hg3; have b4 := ((HB0.out.grow hg1).grow hg2).grow hg3; clear c0 c1 c2 c3 c4 c5 c6 c7 c8; obtain ⟨c0, c1, c2, c3, c4, c5, c6, c7, c8⟩ := set_cells b4))
        refine bodyPost_ret (results_tmp4 rfl _ _ _) rfl ?_
        exact HF.out _ _ HE.out (by decide) hg4
      · have n1 : ((wall.length : Int) != sizeI s) = true := by simp [e4]
        clear e3 e V e4
        generalize sizeI s = n at *
        go_enter Try.func25, Try.ntmps25
        go_wp2_with (first
          | (go_at_call 38; refine (CH.out _ HG0.out).mono ?_; rintro e w1 ⟨rfl, hg1⟩; have hg := HG0.out.trans hg1; obtain ⟨c0, c1, c2, c3, c4, c5, c6, c7, c8⟩ := set_cells (HB0.out.grow hg1))
          | (go_at_call 30; refine (SZ.out _ hg).mono ?_; rintro e w2 ⟨rfl, hg2⟩; have hgg := hg.trans hg2; clear c0 c1 c2 c3 c4 c5 c6 c7 c8; obtain ⟨c0, c1, c2, c3, c4, c5, c6, c7, c8⟩ := set_cells ((HB0.out.grow hg1).grow hg2)))
        refine bodyPost_ret (results_tmp4 rfl _ _ _) rfl ?_
        exact HF.out _ _ HE.out (by decide) hgg
    · obtain ⟨e4, e5⟩ : (wall.length : Int) = sizeI s ∧ onceErr s wall = 0 := by omega
      have n1 : ((wall.length : Int) != sizeI s) = false := by simp [e4]
      rw [e5] at ON
      have SZ := hid SZ
      have ON := hid ON
      by_cases e6 : cut < 0 ∨ sizeI s ≤ cut ∨ dl < 0 ∨ s.pl ≤ dl
      · have HE := hid (show dealErr s wall cut dl = 2 by unfold dealErr; rw [if_neg (by omega), if_neg e3, if_pos e6])
        clear e3 e V e4 e5
        generalize sizeI s = n at *
        go_enter Try.func25, Try.ntmps25
        go_wp2_with (first
          | (go_at_call 38; refine (CH.out _ HG0.out).mono ?_; rintro e w1 ⟨rfl, hg1⟩; have hg := HG0.out.trans hg1; obtain ⟨c0, c1, c2, c3, c4, c5, c6, c7, c8⟩ := set_cells (HB0.out.grow hg1))
          | (go_at_call 30; refine (SZ.out _ hg).mono ?_; rintro e w2 ⟨rfl, hg2⟩; have hgg := hg.trans hg2; clear c0 c1 c2 c3 c4 c5 c6 c7 c8; obtain ⟨c0, c1, c2, c3, c4, c5, c6, c7, c8⟩ := set_cells ((HB0.out.grow hg1).grow hg2))
          | (go_at_call 81; refine (ON.out _ hgg).mono ?_; rintro e w3 ⟨rfl, hg3⟩; have hg4 := hgg.trans hg3; have b4 := ((HB0.out.grow hg1).grow hg2).grow hg3; clear c0 c1 c2 c3 c4 c5 c6 c7 c8; obtain ⟨c0, c1, c2, c3, c4, c5, c6, c7, c8⟩ := set_cells b4))
        all_goals first
          | (exfalso; omega)
          | (refine bodyPost_ret (results_tmp4 rfl _ _ _) rfl ?_
             exact HF.out _ _ HE.out (by decide) hg4)
      · exact Deal_ok _ _ s wall cut dl w HI.out H2.out e e4 e5 e6
  · have HE := hid (show dealErr s wall cut dl = chkErr s by unfold dealErr; rw [if_pos e])
    have ne : (chkErr s != 0) = true := by simp [e]
    have HN := hid e
    have CH := hid CH
    clear e SZ ON
    generalize chkErr s = z at *
    go_enter Try.func25, Try.ntmps25
    go_wp2_with (go_at_call 38; refine (CH.out _ HG0.out).mono ?_; rintro e w1 ⟨rfl, hg1⟩; have hg := HG0.out.trans hg1)
    refine bodyPost_ret (results_tmp4 rfl _ _ _) rfl ?_
    exact HF.out _ _ HE.out HN.out hg
end Go.Proofs.Ytjiahcfegfimmaa
