/-
  Walks of the reference's Size, and of Kind, the program's and the reference's.
-/
import Derived.Test.YtjiahcfegfimmaaKnown07
import Derived.Deep.RegionHeld3
namespace Go.Proofs.Ytjiahcfegfimmaa
open Go.RowKit


theorem rSize_any (v : Value) (s : TSet) (w : World) (h : IsSet w v s) : Calls Try.prog 42 #[v] w (Gives w (.int .i64 (sizeI s))) := by
  have hfin : ∀ r wf, sizeI s = r → Grow w wf → Gives w (.int .i64 (sizeI s)) (.returned (.int .i64 r)) wf := fun r wf h hg => ⟨by rw [h], hg⟩
  have HF := hid hfin
  have CH := hid (fun W (hg : Grow w W) => rCheck_any v s W (h.grow hg))
  have PL := hid (fun W (hg : Grow w W) (V : Valid s) => plain_ok v s W (h.grow hg) V)
  clear hfin
  have HI := hid h
  obtain ⟨A, c, B, d, rfl, h1, h2⟩ := h.open_
  obtain ⟨_, _, e1, c1, m1, r1⟩ := h1
  obtain ⟨_, _, e2, d1, m2, r2⟩ := h2
  injection e1 with e1 _ e1'
  injection e2 with e2 _ e2'
  subst e1 e1' e2 e2'
  unfold maxLen at m1 m2
  have HG0 := hid (show Grow w (w.alloc (.cells #[.int .i64 s.pl, .slice A s.su.length c, .int .i64 s.wi, .int .i64 s.dr, .int .i64 s.fl, .int .i64 s.co, .int .i64 s.me, .int .i64 s.de, .slice B s.re.length d] 24)) from (Grow.refl w).alloc _)
  have HB0 := hid (show Blk (w.alloc (.cells #[.int .i64 s.pl, .slice A s.su.length c, .int .i64 s.wi, .int .i64 s.dr, .int .i64 s.fl, .int .i64 s.co, .int .i64 s.me, .int .i64 s.de, .slice B s.re.length d] 24)) w.heap.size 24 (setVals s (.slice A s.su.length c) (.slice B s.re.length d)) from heap_alloc_new w _)
  clear h
  by_cases e : chkErr s = 0
  · have V := valid_of e
    have VH := hid V
    have HE := hid (size_ok e)
    have ne : (chkErr s != 0) = false := by simp [e]
    have v1 := V.plain
    have v2 := V.tiles
    have v3 := V.fl
    have f1 : IntKind.i64.wrap (plainI s * s.co) = plainI s * s.co := IntWalk.i64_in _ (by omega)
    have f2 : IntKind.i64.wrap (plainI s * s.co + s.fl) = plainI s * s.co + s.fl := IntWalk.i64_in _ (by omega)
    clear e V
    generalize chkErr s = n at *
    go_enter Try.func42, Try.ntmps42
    go_wp2_with (go_at_call 39; refine (CH.out _ HG0.out).mono ?_; rintro e w1 ⟨rfl, hg1⟩; have hg := HG0.out.trans hg1)
    have KS := hid (fun W (hg2 : Grow w1 W) => And.intro hg2 (set_cells (HB0.out.grow (hg1.trans hg2))))
    go_region_held3 (fun W => Grow w1 W ∧ W.cell? ⟨w.heap.size, 0, none⟩ = some (.int .i64 s.pl) ∧ W.cell? ⟨w.heap.size, 1, none⟩ = some (.slice A s.su.length c) ∧ W.cell? ⟨w.heap.size, 2, none⟩ = some (.int .i64 s.wi) ∧ W.cell? ⟨w.heap.size, 3, none⟩ = some (.int .i64 s.dr) ∧ W.cell? ⟨w.heap.size, 4, none⟩ = some (.int .i64 s.fl) ∧ W.cell? ⟨w.heap.size, 5, none⟩ = some (.int .i64 s.co) ∧ W.cell? ⟨w.heap.size, 6, none⟩ = some (.int .i64 s.me) ∧ W.cell? ⟨w.heap.size, 7, none⟩ = some (.int .i64 s.de) ∧ W.cell? ⟨w.heap.size, 8, none⟩ = some (.slice B s.re.length d))
      (exact KS.out _ (by first | assumption | exact (Grow.refl _).drew))
      ((go_at_call 92; refine (PL.out _ (hg.trans (‹Grow w1 _ ∧ _›).1) VH.out).mono ?_; rintro e w2 ⟨rfl, hg2⟩; have hgg := (‹Grow w1 _ ∧ _›).1.trans hg2))
    all_goals
      go_wp2
      go_ret
      exact HF.out _ _ HE.out (hg.trans hgg)
  · have HE := hid (size_bad e)
    have ne : (chkErr s != 0) = true := by simp [e]
    clear e
    generalize chkErr s = n at *
    go_enter Try.func42, Try.ntmps42
    go_wp2_with (go_at_call 39; refine (CH.out _ HG0.out).mono ?_; rintro e w1 ⟨rfl, hg1⟩; have hg := HG0.out.trans hg1)
    go_ret
    exact HF.out _ _ HE.out hg


theorem Kind_any (v : Value) (s : TSet) (t : Int) (w : World) (h : IsSet w v s) (t0 : -9223372036854775808 ≤ t) (t1 : t ≤ 9223372036854775807) : Calls Try.prog 55 #[v, .int .i64 t] w (Gives w (.int .i64 (kindI s t))) := by
  have hfin : ∀ r wf, kindI s t = r → Grow w wf → Gives w (.int .i64 (kindI s t)) (.returned (.int .i64 r)) wf := fun r wf h hg => ⟨by rw [h], hg⟩
  have HF := hid hfin
  have CO := fun W (hg : Grow w W) => count_any v s W (h.grow hg)
  clear hfin
  have HI := hid h
  obtain ⟨A, c, B, d, rfl, h1, h2⟩ := h.open_
  obtain ⟨_, _, e1, c1, m1, r1⟩ := h1
  obtain ⟨_, _, e2, d1, m2, r2⟩ := h2
  injection e1 with e1 _ e1'
  injection e2 with e2 _ e2'
  subst e1 e1' e2 e2'
  unfold maxLen at m1 m2
  have HG0 := hid (show Grow w (w.alloc (.cells #[.int .i64 s.pl, .slice A s.su.length c, .int .i64 s.wi, .int .i64 s.dr, .int .i64 s.fl, .int .i64 s.co, .int .i64 s.me, .int .i64 s.de, .slice B s.re.length d] 24)) from (Grow.refl w).alloc _)
  have HB0 := hid (show Blk (w.alloc (.cells #[.int .i64 s.pl, .slice A s.su.length c, .int .i64 s.wi, .int .i64 s.dr, .int .i64 s.fl, .int .i64 s.co, .int .i64 s.me, .int .i64 s.de, .slice B s.re.length d] 24)) w.heap.size 24 (setVals s (.slice A s.su.length c) (.slice B s.re.length d)) from heap_alloc_new w _)
  clear h
  by_cases e : chkErr s = 0
  · have V := valid_of e
    have HS := hid (size_ok e)
    rw [kinds_ok e] at CO
    have CO := hid CO
    have v1 := V.plain
    have v2 := V.tiles
    have v3 := V.fl
    have v4 := V.co
    have n0 : (plainI s == 0) = false := by simp; omega
    clear e V
    by_cases b1 : t < 0
    · have HE := hid (show kindI s t = -1 by unfold kindI; rw [if_pos (.inl b1)])
      go_enter Try.func55, Try.ntmps55
      go_wp2_with (go_at_call 88; refine (CO.out _ HG0.out).mono ?_; rintro e w1 ⟨rfl, hg1⟩; have hg := HG0.out.trans hg1; obtain ⟨c0, c1, c2, c3, c4, c5, c6, c7, c8⟩ := set_cells (HB0.out.grow hg1))
      go_ret
      exact HF.out _ _ HE.out hg
    · by_cases b2 : plainI s * s.co + s.fl ≤ t
      · have HE := hid (show kindI s t = -1 by unfold kindI; rw [if_pos (.inr (by rw [HS.out]; exact b2))])
        go_enter Try.func55, Try.ntmps55
        go_wp2_with (go_at_call 88; refine (CO.out _ HG0.out).mono ?_; rintro e w1 ⟨rfl, hg1⟩; have hg := HG0.out.trans hg1; obtain ⟨c0, c1, c2, c3, c4, c5, c6, c7, c8⟩ := set_cells (HB0.out.grow hg1))
        go_ret
        exact HF.out _ _ HE.out hg
      · by_cases b3 : plainI s * s.co ≤ t
        · have HE := hid (show kindI s t = plainI s + t - plainI s * s.co by unfold kindI; rw [HS.out, if_neg (by omega), if_pos b3])
          go_enter Try.func55, Try.ntmps55
          go_wp2_with (go_at_call 88; refine (CO.out _ HG0.out).mono ?_; rintro e w1 ⟨rfl, hg1⟩; have hg := HG0.out.trans hg1; obtain ⟨c0, c1, c2, c3, c4, c5, c6, c7, c8⟩ := set_cells (HB0.out.grow hg1))
          go_ret
          exact HF.out _ _ HE.out hg
        · have HE := hid (show kindI s t = t / s.co by unfold kindI; rw [HS.out, if_neg (by omega), if_neg b3])
          have t2 : 0 ≤ t := by omega
          go_enter Try.func55, Try.ntmps55
          go_wp2_with (go_at_call 88; refine (CO.out _ HG0.out).mono ?_; rintro e w1 ⟨rfl, hg1⟩; have hg := HG0.out.trans hg1; obtain ⟨c0, c1, c2, c3, c4, c5, c6, c7, c8⟩ := set_cells (HB0.out.grow hg1))
          go_ret
          exact HF.out _ _ HE.out hg
  · have HE := hid (show kindI s t = -1 by unfold kindI; rw [size_bad e, if_pos (by omega)])
    rw [kinds_bad e] at CO
    have CO := hid CO
    clear e
    go_enter Try.func55, Try.ntmps55
    go_wp2_with (go_at_call 88; refine (CO.out _ HG0.out).mono ?_; rintro e w1 ⟨rfl, hg1⟩; have hg := HG0.out.trans hg1; obtain ⟨c0, c1, c2, c3, c4, c5, c6, c7, c8⟩ := set_cells (HB0.out.grow hg1))
    go_ret
    exact HF.out _ _ HE.out hg

theorem rKind_any (v : Value) (s : TSet) (t : Int) (w : World) (h : IsSet w v s) (t0 : -9223372036854775808 ≤ t) (t1 : t ≤ 9223372036854775807) : Calls Try.prog 56 #[v, .int .i64 t] w (Gives w (.int .i64 (kindI s t))) := by
  have hfin : ∀ r wf, kindI s t = r → Grow w wf → Gives w (.int .i64 (kindI s t)) (.returned (.int .i64 r)) wf := fun r wf h hg => ⟨by rw [h], hg⟩
  have HF := hid hfin
  have CO := fun W (hg : Grow w W) => rSize_any v s W (h.grow hg)
  have PL := hid (fun W (hg : Grow w W) (V : Valid s) => plain_ok v s W (h.grow hg) V)
  clear hfin
  have HI := hid h
  obtain ⟨A, c, B, d, rfl, h1, h2⟩ := h.open_
  obtain ⟨_, _, e1, c1, m1, r1⟩ := h1
  obtain ⟨_, _, e2, d1, m2, r2⟩ := h2
  injection e1 with e1 _ e1'
  injection e2 with e2 _ e2'
  subst e1 e1' e2 e2'
  unfold maxLen at m1 m2
  have HG0 := hid (show Grow w (w.alloc (.cells #[.int .i64 s.pl, .slice A s.su.length c, .int .i64 s.wi, .int .i64 s.dr, .int .i64 s.fl, .int .i64 s.co, .int .i64 s.me, .int .i64 s.de, .slice B s.re.length d] 24)) from (Grow.refl w).alloc _)
  have HB0 := hid (show Blk (w.alloc (.cells #[.int .i64 s.pl, .slice A s.su.length c, .int .i64 s.wi, .int .i64 s.dr, .int .i64 s.fl, .int .i64 s.co, .int .i64 s.me, .int .i64 s.de, .slice B s.re.length d] 24)) w.heap.size 24 (setVals s (.slice A s.su.length c) (.slice B s.re.length d)) from heap_alloc_new w _)
  clear h
  by_cases b1 : t < 0
  · have HE := hid (show kindI s t = -1 by unfold kindI; rw [if_pos (.inl b1)])
    have CO := hid CO
    generalize sizeI s = z at *
    go_enter Try.func56, Try.ntmps56
    go_wp2_with (go_at_call 42; refine (CO.out _ HG0.out).mono ?_; rintro e w1 ⟨rfl, hg1⟩; have hg := HG0.out.trans hg1)
    go_ret
    exact HF.out _ _ HE.out hg
  · by_cases b2 : sizeI s ≤ t
    · have HE := hid (show kindI s t = -1 by unfold kindI; rw [if_pos (.inr b2)])
      have CO := hid CO
      generalize sizeI s = z at *
      go_enter Try.func56, Try.ntmps56
      go_wp2_with (go_at_call 42; refine (CO.out _ HG0.out).mono ?_; rintro e w1 ⟨rfl, hg1⟩; have hg := HG0.out.trans hg1)
      go_ret
      exact HF.out _ _ HE.out hg
    · have e : chkErr s = 0 := by
        by_cases e : chkErr s = 0
        · exact e
        · rw [size_bad e] at b2; omega
      have V := valid_of e
      have HS := hid (size_ok e)
      rw [HS.out] at CO b2
      have CO := hid CO
      have VH := hid V
      have v1 := V.plain
      have v2 := V.tiles
      have v3 := V.fl
      have v4 := V.co
      clear e V
      by_cases b3 : plainI s * s.co ≤ t
      · have HE := hid (show kindI s t = plainI s + t - plainI s * s.co by unfold kindI; rw [HS.out, if_neg (by omega), if_pos b3])
        go_enter Try.func56, Try.ntmps56
        go_wp2_with (first
          | (go_at_call 42; refine (CO.out _ HG0.out).mono ?_; rintro e w1 ⟨rfl, hg1⟩; have hg := HG0.out.trans hg1; obtain ⟨c0, c1, c2, c3, c4, c5, c6, c7, c8⟩ := set_cells (HB0.out.grow hg1))
          | (go_at_call 92; refine (PL.out _ hg VH.out).mono ?_; rintro e w2 ⟨rfl, hg2⟩; clear c0 c1 c2 c3 c4 c5 c6 c7 c8; have hgg := hg.trans hg2; obtain ⟨c0, c1, c2, c3, c4, c5, c6, c7, c8⟩ := set_cells ((HB0.out.grow hg1).grow hg2)))
        go_ret
        exact HF.out _ _ HE.out hgg
      · have HE := hid (show kindI s t = t / s.co by unfold kindI; rw [HS.out, if_neg (by omega), if_neg b3])
        have t2 : 0 ≤ t := by omega
        go_enter Try.func56, Try.ntmps56
        go_wp2_with (first
          | (go_at_call 42; refine (CO.out _ HG0.out).mono ?_; rintro e w1 ⟨rfl, hg1⟩; have hg := HG0.out.trans hg1; obtain ⟨c0, c1, c2, c3, c4, c5, c6, c7, c8⟩ := set_cells (HB0.out.grow hg1))
          | (go_at_call 92; refine (PL.out _ hg VH.out).mono ?_; rintro e w2 ⟨rfl, hg2⟩; clear c0 c1 c2 c3 c4 c5 c6 c7 c8; have hgg := hg.trans hg2; obtain ⟨c0, c1, c2, c3, c4, c5, c6, c7, c8⟩ := set_cells ((HB0.out.grow hg1).grow hg2)))
        go_ret
        exact HF.out _ _ HE.out hgg
end Go.Proofs.Ytjiahcfegfimmaa
