/-
  The walk of the law TileTexts.
-/
import Derived.Test.YtjiahcfegfimmaaLong
import Derived.Test.YtjiahcfegfimmaaRText
namespace Go.Proofs.Ytjiahcfegfimmaa
open Go.RowKit

set_option maxRecDepth 100000 in
set_option maxHeartbeats 4000000 in
theorem walkTileTexts (v : Value) (s : TSet) (v2 : Value) (fs : List FaceZ) (w : World) (h : IsSet w v s) (_hs : SetIn s) (h2 : IsFaces w v2 fs) :
    Calls Try.prog 3 #[v, v2] w (Gives w (.bool true)) := by
  have LG := fun W (hg : Grow w W) => long_any v s W (h.grow hg)
  have HC := hid (fun W (hg : Grow w W) (hn : fs.length ≤ 200) => Text_any v v2 s fs W (h.grow hg) (h2.grow hg) (by omega))
  have HR := hid (fun W (hg : Grow w W) (hn : fs.length ≤ 200) => rText_any v v2 s fs W (h.grow hg) (h2.grow hg) (by omega))
  obtain ⟨AD, cD, rfl, q1, q2, _⟩ := h2
  unfold maxLen at q2
  have HI := hid h
  obtain ⟨A, c, B, d, rfl, h1, h2⟩ := h.open_
  obtain ⟨_, _, e1, c1, m1, r1⟩ := h1
  obtain ⟨_, _, e2, d1, m2, r2⟩ := h2
  injection e1 with e1 _ e1'
  injection e2 with e2 _ e2'
  subst e1 e1' e2 e2'
  unfold maxLen at m1 m2
  have HG0 := hid (show Grow w (w.alloc (.cells #[.int .i64 s.pl, .slice A s.su.length c, .int .i64 s.wi, .int .i64 s.dr, .int .i64 s.fl, .int .i64 s.co, .int .i64 s.me, .int .i64 s.de, .slice B s.re.length d] 24)) from (Grow.refl w).alloc _)
  have HB0 := hid (show Blk (w.alloc (.cells #[.int .i64 s.pl, .slice A s.su.length c, .int .i64 s.wi, .int .i64 s.dr, .int .i64 s.fl, .int .i64 s.co, .int .i64 s.me, .int .i64 s.de, .slice B s.re.length d] 24)) w.heap.size 24 (setVals s (.slice A s.su.length c) (.slice B s.re.length d)) from heap_alloc_new w _)
  clear h
  cases hl : longB s
  · rw [hl] at LG
    have LG := hid LG
    clear hl
    by_cases hn : 200 < fs.length
    · have hn' : (200 : Int) < (fs.length : Int) := by omega
      go_enter Try.func3, Try.ntmps3
      go_wp2_with (go_at_call 18; refine (LG.out _ HG0.out).mono ?_; rintro e w1 ⟨rfl, hg1⟩; have hg := HG0.out.trans hg1)
      go_ret
      exact ⟨rfl, hg⟩
    · have hn' : ¬ (200 : Int) < (fs.length : Int) := by omega
      have hn2 : fs.length ≤ 200 := by omega
      generalize textV s fs = cv at *
      generalize textErr s fs = ce at *
      go_enter Try.func3, Try.ntmps3
      go_wp2_with (first
        | (go_at_call 18; refine (LG.out _ HG0.out).mono ?_; rintro e w1 ⟨rfl, hg1⟩; have hg := HG0.out.trans hg1; obtain ⟨c0, c1, c2, c3, c4, c5, c6, c7, c8⟩ := set_cells (HB0.out.grow hg1))
        | (go_at_call 19; refine (HC.out _ hg hn2).mono ?_; rintro e w2 ⟨rfl, hg2⟩; have hgg := hg.trans hg2; clear c0 c1 c2 c3 c4 c5 c6 c7 c8; obtain ⟨c0, c1, c2, c3, c4, c5, c6, c7, c8⟩ := set_cells ((HB0.out.grow hg1).grow hg2))
        | (go_at_call 20; refine (HR.out _ hgg hn2).mono ?_; rintro e w3 ⟨rfl, hg3⟩; have hg4 := hgg.trans hg3; clear c0 c1 c2 c3 c4 c5 c6 c7 c8)
        | (go_at_call 21; refine (awake_any _).mono ?_; rintro e w5 ⟨rfl, hg5⟩; have hg6 := hg4.trans hg5))
      go_ret
      exact ⟨rfl, hg6⟩
  · rw [hl] at LG
    have LG := hid LG
    clear hl
    go_enter Try.func3, Try.ntmps3
    go_wp2_with (go_at_call 18; refine (LG.out _ HG0.out).mono ?_; rintro e w1 ⟨rfl, hg1⟩; have hg := HG0.out.trans hg1)
    go_ret
    exact ⟨rfl, hg⟩
end Go.Proofs.Ytjiahcfegfimmaa
