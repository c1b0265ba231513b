/-
  The walk of the law TileBags.
-/
import Derived.Test.YtjiahcfegfimmaaLong
import Derived.Test.YtjiahcfegfimmaaBag
namespace Go.Proofs.Ytjiahcfegfimmaa
open Go.RowKit

theorem sameFaces_same (v1 v2 : Value) (fs : List (Int × Bool)) (w : World) (h1 : IsFaces w v1 fs) (h2 : IsFaces w v2 fs) : Calls Try.prog 66 #[v1, v2] w (Says w (.bool true)) := by
  have h := sameFaces_any v1 v2 fs fs w h1 h2
  rwa [decide_eq_true rfl] at h
theorem wf_rangeZ {ts : List Int} (h : ∀ z ∈ ts, (Lit.int .i64 z).wf = true) : RangeZ ts := fun t ht => wf_range (h t ht)
set_option maxRecDepth 100000 in
set_option maxHeartbeats 4000000 in
theorem walkTileBags (v : Value) (s : TSet) (v2 : Value) (ts : List Int) (w : World) (h : IsSet w v s) (_hs : SetIn s) (h2 : IsInts w v2 ts) (hz : ∀ z ∈ ts, (Lit.int .i64 z).wf = true) :
    Calls Try.prog 14 #[v, v2] w (Gives w (.bool true)) := by
  have LG := fun W (hg : Grow w W) => long_any v s W (h.grow hg)
  have B1 := hid (fun W (hg : Grow w W) (hn : ts.length ≤ 200) => Bag_any v v2 s ts W (h.grow hg) (h2.grow hg) (wf_rangeZ hz) (by omega))
  have B2 := hid (fun W (hg : Grow w W) (hn : ts.length ≤ 200) => rBag_any v v2 s ts W (h.grow hg) (h2.grow hg) (wf_rangeZ hz) (by omega))
  have F1 := hid (fun W (hg : Grow w W) (hn : ts.length ≤ 200) => Faces_any v v2 s ts W (h.grow hg) (h2.grow hg) (wf_rangeZ hz) (by omega))
  have F2 := hid (fun W (hg : Grow w W) (hn : ts.length ≤ 200) => rFaces_any v v2 s ts W (h.grow hg) (h2.grow hg) (wf_rangeZ hz) (by omega))
  clear hz
  obtain ⟨AD, cD, rfl, q1, q2, _⟩ := h2
  unfold maxLen at q2
  have HI := hid h
  obtain ⟨A, c, B, d, rfl, h1, h2⟩ := h.open_
  obtain ⟨_, _, e1, c1, m1, r1⟩ := h1
  obtain ⟨_, _, e2, d1, m2, r2⟩ := h2
  injection e1 with e1 _ e1'
  injection e2 with e2 _ e2'
  subst e1 e1' e2 e2'
  unfold maxLen at m1 m2
  have HG0 := hid (show Grow w (w.alloc (.cells #[.int .i64 s.pl, .slice A s.su.length c, .int .i64 s.wi, .int .i64 s.dr, .int .i64 s.fl, .int .i64 s.co, .int .i64 s.me, .int .i64 s.de, .slice B s.re.length d] 24)) from (Grow.refl w).alloc _)
  have HB0 := hid (show Blk (w.alloc (.cells #[.int .i64 s.pl, .slice A s.su.length c, .int .i64 s.wi, .int .i64 s.dr, .int .i64 s.fl, .int .i64 s.co, .int .i64 s.me, .int .i64 s.de, .slice B s.re.length d] 24)) w.heap.size 24 (setVals s (.slice A s.su.length c) (.slice B s.re.length d)) from heap_alloc_new w _)
  clear h
  cases hl : longB s
  · rw [hl] at LG
    have LG := hid LG
    clear hl
    by_cases hn : 200 < ts.length
    · have hn' : (200 : Int) < (ts.length : Int) := by omega
      go_enter Try.func14, Try.ntmps14
      go_wp2_with (go_at_call 18; refine (LG.out _ HG0.out).mono ?_; rintro e w1 ⟨rfl, hg1⟩; have hg := HG0.out.trans hg1)
      go_ret
      exact ⟨rfl, hg⟩
    · have hn' : ¬ (200 : Int) < (ts.length : Int) := by omega
      have hn2 : ts.length ≤ 200 := by omega
      have BR := hid (fun W w' e (h : BagRes W s ts e w') => h)
      clear BR
      go_enter Try.func14, Try.ntmps14
      go_wp2_with (first
        | (go_at_call 18; refine (LG.out _ HG0.out).mono ?_; rintro e w1 ⟨rfl, hg1⟩; have hg := HG0.out.trans hg1; have hb1 := HB0.out.grow hg1; obtain ⟨c0, c1, c2, c3, c4, c5, c6, c7, c8⟩ := set_cells hb1)
        | (go_at_call 62; refine (B1.out _ hg hn2).mono ?_; rintro e w2 ⟨va, rfl, ia, hg2⟩; have hgg := hg.trans hg2; have hb2 := hb1.grow hg2; clear c0 c1 c2 c3 c4 c5 c6 c7 c8; obtain ⟨c0, c1, c2, c3, c4, c5, c6, c7, c8⟩ := set_cells hb2)
        | (go_at_call 63; refine (B2.out _ hgg hn2).mono ?_; rintro e w3 ⟨vb, rfl, ib, hg3⟩; have hg33 := hgg.trans hg3; have hb3 := hb2.grow hg3; clear c0 c1 c2 c3 c4 c5 c6 c7 c8; obtain ⟨c0, c1, c2, c3, c4, c5, c6, c7, c8⟩ := set_cells hb3)
        | (go_at_call 64; refine (F1.out _ hg33 hn2).mono ?_; rintro e w4 ⟨vc, rfl, ic, hg4⟩; have hg44 := hg33.trans hg4; have hb4 := hb3.grow hg4; clear c0 c1 c2 c3 c4 c5 c6 c7 c8; obtain ⟨c0, c1, c2, c3, c4, c5, c6, c7, c8⟩ := set_cells hb4)
        | (go_at_call 65; refine (F2.out _ hg44 hn2).mono ?_; rintro e w5 ⟨vd, rfl, id5, hg5⟩; have hg55 := hg44.trans hg5; clear c0 c1 c2 c3 c4 c5 c6 c7 c8)
        | (go_at_call 22; refine (Equal_same _ _ _ _ (ia.grow (hg3.trans (hg4.trans hg5))) (ib.grow (hg4.trans hg5))).mono ?_; rintro e w6 ⟨rfl, n6, rfl⟩)
        | (go_at_call 66; refine (sameFaces_same _ _ _ _ ((ic.grow hg5).grow ((Grow.refl _).drewN _)) (id5.grow ((Grow.refl _).drewN _))).mono ?_; rintro e w7 ⟨rfl, n7, rfl⟩)
        | (go_at_call 21; refine (awake_any _).mono ?_; rintro e w8 ⟨rfl, hg8⟩; have hg9 := (hg55.drewN _).trans hg8))
      go_ret
      exact ⟨rfl, hg9⟩
  · rw [hl] at LG
    have LG := hid LG
    clear hl
    go_enter Try.func14, Try.ntmps14
    go_wp2_with (go_at_call 18; refine (LG.out _ HG0.out).mono ?_; rintro e w1 ⟨rfl, hg1⟩; have hg := HG0.out.trans hg1)
    go_ret
    exact ⟨rfl, hg⟩
end Go.Proofs.Ytjiahcfegfimmaa
