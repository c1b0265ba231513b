/-
  Walks of the reference's After, Runs and Mirror.
-/
import Derived.Test.YtjiahcfegfimmaaAfter
import Derived.Test.YtjiahcfegfimmaaRPlace
namespace Go.Proofs.Ytjiahcfegfimmaa
open Go.RowKit

theorem rMirror_any (v : Value) (s : TSet) (k : Int) (w : World) (h : IsSet w v s) : Calls Try.prog 48 #[v, .int .i64 k] w (Gives w (.int .i64 (mirrorI s k))) := by
  have hfin : ∀ r wf, mirrorI s k = r → Grow w wf → Gives w (.int .i64 (mirrorI s k)) (.returned (.int .i64 r)) wf := fun r wf h hg => ⟨by rw [h], hg⟩
  have HF := hid hfin
  have PL := fun W (hg : Grow w W) => rPlace_any v s k W (h.grow hg)
  clear hfin
  have HI := hid h
  obtain ⟨A, c, B, d, rfl, h1, h2⟩ := h.open_
  obtain ⟨_, _, e1, c1, m1, r1⟩ := h1
  obtain ⟨_, _, e2, d1, m2, r2⟩ := h2
  injection e1 with e1 _ e1'
  injection e2 with e2 _ e2'
  subst e1 e1' e2 e2'
  unfold maxLen at m1 m2
  have HG0 := hid (show Grow w (w.alloc (.cells #[.int .i64 s.pl, .slice A s.su.length c, .int .i64 s.wi, .int .i64 s.dr, .int .i64 s.fl, .int .i64 s.co, .int .i64 s.me, .int .i64 s.de, .slice B s.re.length d] 24)) from (Grow.refl w).alloc _)
  have HB0 := hid (show Blk (w.alloc (.cells #[.int .i64 s.pl, .slice A s.su.length c, .int .i64 s.wi, .int .i64 s.dr, .int .i64 s.fl, .int .i64 s.co, .int .i64 s.me, .int .i64 s.de, .slice B s.re.length d] 24)) w.heap.size 24 (setVals s (.slice A s.su.length c) (.slice B s.re.length d)) from heap_alloc_new w _)
  clear h
  rcases place_is s k with hp | ⟨e, j, r, hp, hj, hr, hk⟩ | ⟨e, su, r, hp, hs, hr, hl, hk⟩
  · rw [hp] at PL
    have PL := hid PL
    have HE := hid (show mirrorI s k = -1 by unfold mirrorI; rw [hp]; rfl)
    clear hp
    go_enter Try.func48, Try.ntmps48
    go_wp2_with (go_at_call 54; refine (PL.out _ HG0.out).mono ?_; rintro e w1 ⟨rfl, hg1⟩; have hg := HG0.out.trans hg1)
    go_ret
    exact HF.out _ _ HE.out hg
  · rw [hp] at PL
    have PL := hid PL
    have V := valid_of e
    have HE := hid (show mirrorI s k = k - (r : Int) + s.su[j] - 1 - (r : Int) by unfold mirrorI; rw [hp]; simp only; rw [if_neg (by omega), if_neg (by omega), lenI_suit hj]; omega)
    have hz := V.su s.su[j] (List.getElem_mem hj)
    have j0 : (0 : Int) ≤ (j : Int) := by omega
    have j1 : (j : Int) < (s.su.length : Int) := by omega
    have j4 : ((j : Int) == -4) = false := beq_eq_false_iff_ne.2 (by omega)
    have j5 : ¬ (j : Int) < 0 := by omega
    have HR := hid (fun W (hg : Grow w W) => (r1.grow hg).int hj)
    have hb := sumI_bound (l := s.su.take j) fun z hz => V.su z (List.mem_of_mem_take hz)
    rw [List.length_take] at hb
    have h3 := V.su3
    have hk0 : 0 ≤ k ∧ k ≤ 40 := by omega
    clear hp hk e V hb
    go_enter Try.func48, Try.ntmps48
    go_wp2_with (go_at_call 54; refine (PL.out _ HG0.out).mono ?_; rintro e w1 ⟨rfl, hg1⟩; have hg := HG0.out.trans hg1; obtain ⟨c0, c1, c2, c3, c4, c5, c6, c7, c8⟩ := set_cells (HB0.out.grow hg1); obtain ⟨ad, rfl, _, hx⟩ := HR.out _ hg)
    go_ret
    exact HF.out _ _ HE.out hg
  · rw [hp] at PL
    have PL := hid PL
    have HE := hid (show mirrorI s k = k by unfold mirrorI; rw [hp]; simp only; rw [if_neg (by omega), if_pos (by omega)])
    have q3 : (su == -4) = false := beq_eq_false_iff_ne.2 (by omega)
    have q4 : su < 0 := by omega
    clear hp hs e
    go_enter Try.func48, Try.ntmps48
    go_wp2_with (go_at_call 54; refine (PL.out _ HG0.out).mono ?_; rintro e w1 ⟨rfl, hg1⟩; have hg := HG0.out.trans hg1)
    go_ret
    exact HF.out _ _ HE.out hg

theorem rRuns_any (v : Value) (s : TSet) (k : Int) (w : World) (h : IsSet w v s) : Calls Try.prog 59 #[v, .int .i64 k] w (Gives w (.bool (runsB s k))) := by
  have hfin : ∀ b wf, runsB s k = b → Grow w wf → Gives w (.bool (runsB s k)) (.returned (.bool b)) wf := fun r wf h hg => ⟨by rw [h], hg⟩
  have HF := hid hfin
  have PL := fun W (hg : Grow w W) => rPlace_any v s k W (h.grow hg)
  clear hfin
  have HI := hid h
  obtain ⟨A, c, B, d, rfl, h1, h2⟩ := h.open_
  obtain ⟨_, _, e1, c1, m1, r1⟩ := h1
  obtain ⟨_, _, e2, d1, m2, r2⟩ := h2
  injection e1 with e1 _ e1'
  injection e2 with e2 _ e2'
  subst e1 e1' e2 e2'
  unfold maxLen at m1 m2
  have HG0 := hid (show Grow w (w.alloc (.cells #[.int .i64 s.pl, .slice A s.su.length c, .int .i64 s.wi, .int .i64 s.dr, .int .i64 s.fl, .int .i64 s.co, .int .i64 s.me, .int .i64 s.de, .slice B s.re.length d] 24)) from (Grow.refl w).alloc _)
  have HB0 := hid (show Blk (w.alloc (.cells #[.int .i64 s.pl, .slice A s.su.length c, .int .i64 s.wi, .int .i64 s.dr, .int .i64 s.fl, .int .i64 s.co, .int .i64 s.me, .int .i64 s.de, .slice B s.re.length d] 24)) w.heap.size 24 (setVals s (.slice A s.su.length c) (.slice B s.re.length d)) from heap_alloc_new w _)
  clear h
  rcases place_is s k with hp | ⟨e, j, r, hp, hj, hr, hk⟩ | ⟨e, su, r, hp, hs, hr, hl, hk⟩
  · rw [hp] at PL
    have PL := hid PL
    have HE := hid (show runsB s k = false by unfold runsB; rw [hp]; rfl)
    clear hp
    go_enter Try.func59, Try.ntmps59
    go_wp2_with (go_at_call 54; refine (PL.out _ HG0.out).mono ?_; rintro e w1 ⟨rfl, hg1⟩; have hg := HG0.out.trans hg1)
    go_ret
    exact HF.out _ _ HE.out hg
  · rw [hp] at PL
    have PL := hid PL
    have V := valid_of e
    have hz := V.su s.su[j] (List.getElem_mem hj)
    have j0 : (0 : Int) ≤ (j : Int) := by omega
    have j1 : (j : Int) < (s.su.length : Int) := by omega
    have HR := hid (fun W (hg : Grow w W) => (r1.grow hg).int hj)
    have HE := hid (show runsB s k = decide ((r : Int) + 2 < s.su[j]) by unfold runsB; rw [hp]; simp only; rw [decide_eq_true j0, lenI_suit hj, Bool.true_and])
    clear hp hk e V
    go_enter Try.func59, Try.ntmps59
    go_wp2_with (go_at_call 54; refine (PL.out _ HG0.out).mono ?_; rintro e w1 ⟨rfl, hg1⟩; have hg := HG0.out.trans hg1; obtain ⟨c0, c1, c2, c3, c4, c5, c6, c7, c8⟩ := set_cells (HB0.out.grow hg1); obtain ⟨ad, rfl, _, hx⟩ := HR.out _ hg)
    go_ret
    exact HF.out _ _ HE.out hg
  · rw [hp] at PL
    have PL := hid PL
    have HE := hid (show runsB s k = false by unfold runsB; rw [hp]; simp only; rw [decide_eq_false (show ¬ 0 ≤ su by omega)]; rfl)
    have q3 : ¬ 0 ≤ su := by omega
    clear hp hs e
    go_enter Try.func59, Try.ntmps59
    go_wp2_with (go_at_call 54; refine (PL.out _ HG0.out).mono ?_; rintro e w1 ⟨rfl, hg1⟩; have hg := HG0.out.trans hg1)
    go_ret
    exact HF.out _ _ HE.out hg

theorem after_last {k r n : Int} (h0 : 0 ≤ r) (h1 : r < n) : k - r + (r + 1) % n = if r = n - 1 then k - r else k + 1 := by
  by_cases h : r = n - 1
  · rw [if_pos h, show r + 1 = n by omega, Int.emod_self]; omega
  · rw [if_neg h, Int.emod_eq_of_lt (by omega) (by omega)]; omega
theorem rAfter_any (v : Value) (s : TSet) (k : Int) (w : World) (h : IsSet w v s) : Calls Try.prog 61 #[v, .int .i64 k] w (Gives w (.int .i64 (afterI s k))) := by
  have hfin : ∀ r wf, afterI s k = r → Grow w wf → Gives w (.int .i64 (afterI s k)) (.returned (.int .i64 r)) wf := fun r wf h hg => ⟨by rw [h], hg⟩
  have HF := hid hfin
  have PL := fun W (hg : Grow w W) => rPlace_any v s k W (h.grow hg)
  have MN := hid (fun W (hg : Grow w W) su (hs : SuitOk s su) => many_any v s su W (h.grow hg) hs)
  clear hfin
  have HI := hid h
  obtain ⟨A, c, B, d, rfl, h1, h2⟩ := h.open_
  obtain ⟨_, _, e1, c1, m1, r1⟩ := h1
  obtain ⟨_, _, e2, d1, m2, r2⟩ := h2
  injection e1 with e1 _ e1'
  injection e2 with e2 _ e2'
  subst e1 e1' e2 e2'
  unfold maxLen at m1 m2
  have HG0 := hid (show Grow w (w.alloc (.cells #[.int .i64 s.pl, .slice A s.su.length c, .int .i64 s.wi, .int .i64 s.dr, .int .i64 s.fl, .int .i64 s.co, .int .i64 s.me, .int .i64 s.de, .slice B s.re.length d] 24)) from (Grow.refl w).alloc _)
  have HB0 := hid (show Blk (w.alloc (.cells #[.int .i64 s.pl, .slice A s.su.length c, .int .i64 s.wi, .int .i64 s.dr, .int .i64 s.fl, .int .i64 s.co, .int .i64 s.me, .int .i64 s.de, .slice B s.re.length d] 24)) w.heap.size 24 (setVals s (.slice A s.su.length c) (.slice B s.re.length d)) from heap_alloc_new w _)
  clear h
  have key : ∀ (su : Int) (r : Nat), placeP s k = (su, (r : Int)) → su ≠ -4 → SuitOk s su → (r : Int) < lenI s su → lenI s su ≤ 9 → 0 ≤ k ∧ k ≤ 50 → Calls Try.prog 61 #[.agg #[.int .i64 s.pl, .slice A s.su.length c, .int .i64 s.wi, .int .i64 s.dr, .int .i64 s.fl, .int .i64 s.co, .int .i64 s.me, .int .i64 s.de, .slice B s.re.length d], .int .i64 k] w (Gives w (.int .i64 (afterI s k))) := by
    intro su r hp h4 hs hr hl hk
    rw [hp] at PL
    have PL := hid PL
    have HA := hid (show afterI s k = if (r : Int) = lenI s su - 1 then k - r else k + 1 by unfold afterI; rw [hp]; simp only; rw [if_neg h4, after_last (by omega) hr])
    have MM := hid (fun W hg => MN.out W hg su hs)
    have q3 : (su == -4) = false := beq_eq_false_iff_ne.2 h4
    clear hp hs
    generalize lenI s su = n at *
    by_cases hq : (r : Int) = n - 1
    · have HE := hid (HA.out.trans (if_pos hq))
      have hq' : ((r : Int) == n - 1) = true := by simp [hq]
      have HQ := hid hq
      clear hq h4
      go_enter Try.func61, Try.ntmps61
      go_wp2_with (first
        | (go_at_call 54; refine (PL.out _ HG0.out).mono ?_; rintro e w1 ⟨rfl, hg1⟩; have hg := HG0.out.trans hg1; obtain ⟨c0, c1, c2, c3, c4, c5, c6, c7, c8⟩ := set_cells (HB0.out.grow hg1))
        | (go_at_call 98; refine (MM.out _ hg).mono ?_; rintro e w2 ⟨rfl, hg2⟩; have hgg := hg.trans hg2))
      go_ret
      exact HF.out _ _ HE.out hgg
    · have HE := hid (HA.out.trans (if_neg hq))
      have hq' : ((r : Int) == n - 1) = false := by simp [hq]
      clear hq h4
      go_enter Try.func61, Try.ntmps61
      go_wp2_with (first
        | (go_at_call 54; refine (PL.out _ HG0.out).mono ?_; rintro e w1 ⟨rfl, hg1⟩; have hg := HG0.out.trans hg1; obtain ⟨c0, c1, c2, c3, c4, c5, c6, c7, c8⟩ := set_cells (HB0.out.grow hg1))
        | (go_at_call 98; refine (MM.out _ hg).mono ?_; rintro e w2 ⟨rfl, hg2⟩; have hgg := hg.trans hg2))
      go_ret
      exact HF.out _ _ HE.out hgg
  rcases place_is s k with hp | ⟨e, j, r, hp, hj, hr, hk⟩ | ⟨e, su, r, hp, hs, hr, hl, hk⟩
  · rw [hp] at PL
    have PL := hid PL
    have HE := hid (show afterI s k = -1 by unfold afterI; rw [hp]; rfl)
    clear hp key
    go_enter Try.func61, Try.ntmps61
    go_wp2_with (go_at_call 54; refine (PL.out _ HG0.out).mono ?_; rintro e w1 ⟨rfl, hg1⟩; have hg := HG0.out.trans hg1)
    go_ret
    exact HF.out _ _ HE.out hg
  · have V := valid_of e
    have hz := V.su s.su[j] (List.getElem_mem hj)
    have hb := sumI_bound (l := s.su.take j) fun z hz => V.su z (List.mem_of_mem_take hz)
    rw [List.length_take] at hb
    have h3 := V.su3
    exact key _ _ hp (by omega) (.inr (.inr (.inr ⟨by omega, by omega⟩))) (by rw [lenI_suit hj]; exact hr) (by rw [lenI_suit hj]; exact hz.2) (by omega)
  · exact key _ _ hp (by omega) (by unfold SuitOk; omega) hr (by omega) hk
end Go.Proofs.Ytjiahcfegfimmaa
