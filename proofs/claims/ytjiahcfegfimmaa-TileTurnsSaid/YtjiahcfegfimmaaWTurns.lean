/-
  The walk of the law TileTurns.
-/
import Derived.Test.YtjiahcfegfimmaaLong
import Derived.Test.YtjiahcfegfimmaaSwap
import Derived.Test.YtjiahcfegfimmaaRAfter
namespace Go.Proofs.Ytjiahcfegfimmaa
open Go.RowKit

set_option maxRecDepth 100000 in
set_option maxHeartbeats 4000000 in
theorem walkTileTurns (v : Value) (s : TSet) (k a b : Int) (w : World) (h : IsSet w v s) (_hs : SetIn s) (_hk : (Lit.int .i64 k).wf = true) (_ha : (Lit.int .i64 a).wf = true) (_hb : (Lit.int .i64 b).wf = true) :
    Calls Try.prog 11 #[v, .int .i64 k, .int .i64 a, .int .i64 b] w (Gives w (.bool true)) := by
  have LG := fun W (hg : Grow w W) => long_any v s W (h.grow hg)
  have M1 := hid (fun W (hg : Grow w W) => Mirror_any v s k W (h.grow hg))
  have M2 := hid (fun W (hg : Grow w W) => rMirror_any v s k W (h.grow hg))
  have S1 := hid (fun W (hg : Grow w W) => Swap_any v s k a b W (h.grow hg))
  have S2 := hid (fun W (hg : Grow w W) => rSwap_any v s k a b W (h.grow hg))
  have HI := hid h
  obtain ⟨A, c, B, d, rfl, h1, h2⟩ := h.open_
  obtain ⟨_, _, e1, c1, m1, r1⟩ := h1
  obtain ⟨_, _, e2, d1, m2, r2⟩ := h2
  injection e1 with e1 _ e1'
  injection e2 with e2 _ e2'
  subst e1 e1' e2 e2'
  unfold maxLen at m1 m2
  have HG0 := hid (show Grow w (w.alloc (.cells #[.int .i64 s.pl, .slice A s.su.length c, .int .i64 s.wi, .int .i64 s.dr, .int .i64 s.fl, .int .i64 s.co, .int .i64 s.me, .int .i64 s.de, .slice B s.re.length d] 24)) from (Grow.refl w).alloc _)
  have HB0 := hid (show Blk (w.alloc (.cells #[.int .i64 s.pl, .slice A s.su.length c, .int .i64 s.wi, .int .i64 s.dr, .int .i64 s.fl, .int .i64 s.co, .int .i64 s.me, .int .i64 s.de, .slice B s.re.length d] 24)) w.heap.size 24 (setVals s (.slice A s.su.length c) (.slice B s.re.length d)) from heap_alloc_new w _)
  clear h
  cases hl : longB s
  · rw [hl] at LG
    have LG := hid LG
    clear hl
    generalize mirrorI s k = mm at *
    generalize swapI s k a b = ss at *
    go_enter Try.func11, Try.ntmps11
    go_wp2_with (go_at_call 18; refine (LG.out _ HG0.out).mono ?_; rintro e w1 ⟨rfl, hg1⟩; have hg := HG0.out.trans hg1)
    have KS := hid (fun W (hg : Grow w1 W) => And.intro hg (set_cells ((HB0.out.grow hg1).grow hg)))
    have HG := hid hg
    clear hg hg1
    go_region_held3 (fun W => Grow w1 W ∧ W.cell? ⟨w.heap.size, 0, none⟩ = some (.int .i64 s.pl) ∧ W.cell? ⟨w.heap.size, 1, none⟩ = some (.slice A s.su.length c) ∧ W.cell? ⟨w.heap.size, 2, none⟩ = some (.int .i64 s.wi) ∧ W.cell? ⟨w.heap.size, 3, none⟩ = some (.int .i64 s.dr) ∧ W.cell? ⟨w.heap.size, 4, none⟩ = some (.int .i64 s.fl) ∧ W.cell? ⟨w.heap.size, 5, none⟩ = some (.int .i64 s.co) ∧ W.cell? ⟨w.heap.size, 6, none⟩ = some (.int .i64 s.me) ∧ W.cell? ⟨w.heap.size, 7, none⟩ = some (.int .i64 s.de) ∧ W.cell? ⟨w.heap.size, 8, none⟩ = some (.slice B s.re.length d))
      (exact KS.out _ (by first | assumption | exact (Grow.refl _).drew))
      (first
        | (go_at_call 47; have hS := (‹Grow w1 _ ∧ _›).1; refine (M1.out _ (HG.out.trans hS)).mono ?_; rintro e wA ⟨rfl, hgA⟩; have hkA := hS.trans hgA)
        | (go_at_call 48; have hS := (‹Grow w1 _ ∧ _›).1; refine (M2.out _ (HG.out.trans hS)).mono ?_; rintro e wB ⟨rfl, hgB⟩; have hkB := hS.trans hgB)
        | (go_at_call 49; have hS := (‹Grow w1 _ ∧ _›).1; refine (S1.out _ (HG.out.trans hS)).mono ?_; rintro e wC ⟨rfl, hgC⟩; have hkC := hS.trans hgC)
        | (go_at_call 50; have hS := (‹Grow w1 _ ∧ _›).1; refine (S2.out _ (HG.out.trans hS)).mono ?_; rintro e wE ⟨rfl, hgE⟩; have hkE := hS.trans hgE)
        | (go_at_call 21; have hS := (‹Grow w1 _ ∧ _›).1; refine (awake_any _).mono ?_; rintro e wD ⟨rfl, hgD⟩; have hkD := hS.trans hgD))
    all_goals
      go_wp2
      go_ret
      exact ⟨rfl, HG.out.trans hkD⟩
  · rw [hl] at LG
    have LG := hid LG
    clear hl
    go_enter Try.func11, Try.ntmps11
    go_wp2_with (go_at_call 18; refine (LG.out _ HG0.out).mono ?_; rintro e w1 ⟨rfl, hg1⟩; have hg := HG0.out.trans hg1)
    go_ret
    exact ⟨rfl, hg⟩
end Go.Proofs.Ytjiahcfegfimmaa
