/-
  The walk of the law TileKinds.
-/
import Derived.Test.YtjiahcfegfimmaaLong
import Derived.Test.YtjiahcfegfimmaaRed
import Derived.Test.YtjiahcfegfimmaaRAfter
import Derived.Test.YtjiahcfegfimmaaOrph
namespace Go.Proofs.Ytjiahcfegfimmaa
open Go.RowKit

set_option maxRecDepth 100000 in
set_option maxHeartbeats 40000000 in
theorem walkTileKinds (v : Value) (s : TSet) (t k : Int) (w : World) (h : IsSet w v s) (_hs : SetIn s) (ht : (Lit.int .i64 t).wf = true) (_hk : (Lit.int .i64 k).wf = true) :
    Calls Try.prog 13 #[v, .int .i64 t, .int .i64 k] w (Gives w (.bool true)) := by
  have LG := fun W (hg : Grow w W) => long_any v s W (h.grow hg)
  have htr := wf_range ht
  have P1 := hid (fun W (hg : Grow w W) => Place_any v s k W (h.grow hg))
  have P2 := hid (fun W (hg : Grow w W) => rPlace_any v s k W (h.grow hg))
  have K1 := hid (fun W (hg : Grow w W) => Kind_any v s t W (h.grow hg) htr.1 htr.2)
  have K2 := hid (fun W (hg : Grow w W) => rKind_any v s t W (h.grow hg) htr.1 htr.2)
  have D1 := hid (fun W (hg : Grow w W) => Red_any v s t W (h.grow hg) htr.1 htr.2)
  have D2 := hid (fun W (hg : Grow w W) => rRed_any v s t W (h.grow hg) htr.1 htr.2)
  have R1 := hid (fun W (hg : Grow w W) => Runs_any v s k W (h.grow hg))
  have R2 := hid (fun W (hg : Grow w W) => rRuns_any v s k W (h.grow hg))
  have O1 := hid (fun W (hg : Grow w W) => Orphans_any v s W (h.grow hg))
  have O2 := hid (fun W (hg : Grow w W) => rOrphans_any v s W (h.grow hg))
  have A1 := hid (fun W (hg : Grow w W) => After_any v s k W (h.grow hg))
  have A2 := hid (fun W (hg : Grow w W) => rAfter_any v s k W (h.grow hg))
  clear ht _hk _hs htr
  have HI := hid h
  obtain ⟨A, c, B, d, rfl, h1, h2⟩ := h.open_
  obtain ⟨_, _, e1, c1, m1, r1⟩ := h1
  obtain ⟨_, _, e2, d1, m2, r2⟩ := h2
  injection e1 with e1 _ e1'
  injection e2 with e2 _ e2'
  subst e1 e1' e2 e2'
  unfold maxLen at m1 m2
  have HG0 := hid (show Grow w (w.alloc (.cells #[.int .i64 s.pl, .slice A s.su.length c, .int .i64 s.wi, .int .i64 s.dr, .int .i64 s.fl, .int .i64 s.co, .int .i64 s.me, .int .i64 s.de, .slice B s.re.length d] 24)) from (Grow.refl w).alloc _)
  have HB0 := hid (show Blk (w.alloc (.cells #[.int .i64 s.pl, .slice A s.su.length c, .int .i64 s.wi, .int .i64 s.dr, .int .i64 s.fl, .int .i64 s.co, .int .i64 s.me, .int .i64 s.de, .slice B s.re.length d] 24)) w.heap.size 24 (setVals s (.slice A s.su.length c) (.slice B s.re.length d)) from heap_alloc_new w _)
  clear h
  cases hl : longB s
  · rw [hl] at LG
    have LG := hid LG
    clear hl r1 r2
    generalize (placeP s k).1 = su at *
    generalize (placeP s k).2 = rk at *
    generalize kindI s t = kt at *
    generalize redB s t = rt at *
    generalize runsB s k = rn at *
    generalize afterI s k = af at *
    go_enter Try.func13, Try.ntmps13
    go_wp2_with (first
      | (go_at_call 18; refine (LG.out _ HG0.out).mono ?_; rintro e w1 ⟨rfl, hg1⟩; have hg := HG0.out.trans hg1; have hb1 := HB0.out.grow hg1; obtain ⟨c0, c1, c2, c3, c4, c5, c6, c7, c8⟩ := set_cells hb1)
      | (go_at_call 35; refine (P1.out _ hg).mono ?_; rintro e w2 ⟨rfl, hg2⟩; have hgg := hg.trans hg2; have hb2 := hb1.grow hg2; clear c0 c1 c2 c3 c4 c5 c6 c7 c8; obtain ⟨c0, c1, c2, c3, c4, c5, c6, c7, c8⟩ := set_cells hb2)
      | (go_at_call 54; refine (P2.out _ hgg).mono ?_; rintro e w3 ⟨rfl, hg3⟩; have hg33 := hgg.trans hg3; have hb3 := hb2.grow hg3; clear c0 c1 c2 c3 c4 c5 c6 c7 c8; obtain ⟨c0, c1, c2, c3, c4, c5, c6, c7, c8⟩ := set_cells hb3))
    have KS := hid (fun W (hg : Grow w3 W) => And.intro hg (set_cells (hb3.grow hg)))
    have HG := hid hg33
    clear hg hg1 hg2 hg3 hgg hb1 hb2 hb3 hg33
    go_region_held3 (fun W => Grow w3 W ∧ W.cell? ⟨w.heap.size, 0, none⟩ = some (.int .i64 s.pl) ∧ W.cell? ⟨w.heap.size, 1, none⟩ = some (.slice A s.su.length c) ∧ W.cell? ⟨w.heap.size, 2, none⟩ = some (.int .i64 s.wi) ∧ W.cell? ⟨w.heap.size, 3, none⟩ = some (.int .i64 s.dr) ∧ W.cell? ⟨w.heap.size, 4, none⟩ = some (.int .i64 s.fl) ∧ W.cell? ⟨w.heap.size, 5, none⟩ = some (.int .i64 s.co) ∧ W.cell? ⟨w.heap.size, 6, none⟩ = some (.int .i64 s.me) ∧ W.cell? ⟨w.heap.size, 7, none⟩ = some (.int .i64 s.de) ∧ W.cell? ⟨w.heap.size, 8, none⟩ = some (.slice B s.re.length d))
      (exact KS.out _ (by first | assumption | exact (Grow.refl _).drew))
      (first
        | (go_at_call 55; have hS := (‹Grow w3 _ ∧ _›).1; refine (K1.out _ (HG.out.trans hS)).mono ?_; rintro e wA ⟨rfl, hgA⟩; have hkA := hS.trans hgA)
        | (go_at_call 56; have hS := (‹Grow w3 _ ∧ _›).1; refine (K2.out _ (HG.out.trans hS)).mono ?_; rintro e wB ⟨rfl, hgB⟩; have hkB := hS.trans hgB)
        | (go_at_call 57; have hS := (‹Grow w3 _ ∧ _›).1; refine (D1.out _ (HG.out.trans hS)).mono ?_; rintro e wC ⟨rfl, hgC⟩; have hkC := hS.trans hgC)
        | (go_at_call 58; have hS := (‹Grow w3 _ ∧ _›).1; refine (D2.out _ (HG.out.trans hS)).mono ?_; rintro e wD ⟨rfl, hgD⟩; have hkD := hS.trans hgD))
    all_goals
      go_wp2
      have KT := hid (fun W (hg : Grow wD W) => KS.out W (hkD.trans hg))
      have HG2 := hid (HG.out.trans hkD)
      obtain ⟨-, z0, z1, z2, z3, z4, z5, z6, z7, z8⟩ := KS.out _ hkD
      go_region_held3 (fun W => Grow w3 W ∧ W.cell? ⟨w.heap.size, 0, none⟩ = some (.int .i64 s.pl) ∧ W.cell? ⟨w.heap.size, 1, none⟩ = some (.slice A s.su.length c) ∧ W.cell? ⟨w.heap.size, 2, none⟩ = some (.int .i64 s.wi) ∧ W.cell? ⟨w.heap.size, 3, none⟩ = some (.int .i64 s.dr) ∧ W.cell? ⟨w.heap.size, 4, none⟩ = some (.int .i64 s.fl) ∧ W.cell? ⟨w.heap.size, 5, none⟩ = some (.int .i64 s.co) ∧ W.cell? ⟨w.heap.size, 6, none⟩ = some (.int .i64 s.me) ∧ W.cell? ⟨w.heap.size, 7, none⟩ = some (.int .i64 s.de) ∧ W.cell? ⟨w.heap.size, 8, none⟩ = some (.slice B s.re.length d))
        (exact KS.out _ (by first | assumption | exact hkD.drew))
        (first
          | (go_at_call 51; have hS := (‹Grow w3 _ ∧ _›).1; refine (R1.out _ (HG.out.trans hS)).mono ?_; rintro e wE ⟨rfl, hgE⟩; have hkE := hS.trans hgE)
          | (go_at_call 59; have hS := (‹Grow w3 _ ∧ _›).1; refine (R2.out _ (HG.out.trans hS)).mono ?_; rintro e wF ⟨rfl, hgF⟩; have hkF := hS.trans hgF)
          | (go_at_call 52; have hS := (‹Grow w3 _ ∧ _›).1; refine (O1.out _ (HG.out.trans hS)).mono ?_; rintro e wG ⟨vG, rfl, iG, hgG⟩; have hkG := hS.trans hgG)
          | (go_at_call 60; have hS := (‹Grow w3 _ ∧ _›).1; refine (O2.out _ (HG.out.trans hS)).mono ?_; rintro e wH ⟨vH, rfl, iH, hgH⟩; have hkH := hS.trans hgH)
          | (go_at_call 22; have hS := (‹Grow w3 _ ∧ _›).1; refine (Equal_same _ _ _ _ (by first | exact iG | exact iG.grow hgH) iH).mono ?_; rintro e wI ⟨rfl, nI, rfl⟩; have hkI := hS.drewN nI)
          | (go_at_call 36; have hS := (‹Grow w3 _ ∧ _›).1; refine (A1.out _ (HG.out.trans hS)).mono ?_; rintro e wJ ⟨rfl, hgJ⟩; have hkJ := hS.trans hgJ)
          | (go_at_call 61; have hS := (‹Grow w3 _ ∧ _›).1; refine (A2.out _ (HG.out.trans hS)).mono ?_; rintro e wK ⟨rfl, hgK⟩; have hkK := hS.trans hgK)
          | (go_at_call 21; have hS := (‹Grow w3 _ ∧ _›).1; refine (awake_any _).mono ?_; rintro e wL ⟨rfl, hgL⟩; have hkL := hS.trans hgL))
      all_goals
        go_wp2
        go_ret
        exact ⟨rfl, HG.out.trans hkL⟩
  · rw [hl] at LG
    have LG := hid LG
    clear hl
    go_enter Try.func13, Try.ntmps13
    go_wp2_with (go_at_call 18; refine (LG.out _ HG0.out).mono ?_; rintro e w1 ⟨rfl, hg1⟩; have hg := HG0.out.trans hg1)
    go_ret
    exact ⟨rfl, hg⟩
end Go.Proofs.Ytjiahcfegfimmaa
