/-
  The walk of the law TileDeals.
-/
import Derived.Test.YtjiahcfegfimmaaLong
import Derived.Test.YtjiahcfegfimmaaRDealE
namespace Go.Proofs.Ytjiahcfegfimmaa
open Go.RowKit

/-- What a deal hands back, opened: lists that may be read. -/
def DealOut (w : World) (s : TSet) (wall : List Int) (cut d : Int) (hs : List (List Int)) (live dead : List Int) (e : Ending) (w' : World) : Prop :=
  ∃ v1 v2 v3, e = .returned (.tuple #[v1, v2, v3, .int .i64 (dealErr s wall cut d)]) ∧ IsRows w' v1 hs ∧ IsInts w' v2 live ∧ IsInts w' v3 dead ∧ Grow w w'
def dealH (s : TSet) (wall : List Int) (cut d : Int) : List (List Int) := if dealErr s wall cut d = 0 then (dealtI s wall cut d).1 else []
def dealL (s : TSet) (wall : List Int) (cut d : Int) : List Int := if dealErr s wall cut d = 0 then liveI s wall cut d else []
def dealD (s : TSet) (wall : List Int) (cut d : Int) : List Int := if dealErr s wall cut d = 0 then deadI s wall cut d else []
theorem deal_out {s : TSet} {wall : List Int} {cut d : Int} {w w' : World} {e : Ending} (h : DealRes w s wall cut d e w') : DealOut w s wall cut d (dealH s wall cut d) (dealL s wall cut d) (dealD s wall cut d) e w' := by
  obtain ⟨v1, v2, v3, rfl, hg, hb, hr⟩ := h
  unfold dealH dealL dealD
  by_cases he : dealErr s wall cut d = 0
  · rw [if_pos he, if_pos he, if_pos he]
    obtain ⟨i2, i3, G, vs, rfl, hbk, hvl, hrows⟩ := hr he
    have hc : chkErr s = 0 := by
      by_cases hc : chkErr s = 0
      · exact hc
      · unfold dealErr at he; rw [if_pos hc] at he; exact he
    have hp := (valid_of hc).pl
    have hlen := dealt_len s wall cut d
    exact ⟨_, v2, v3, rfl, hbk.rows hvl hlen (by omega) hrows, i2, i3, hg⟩
  · rw [if_neg he, if_neg he, if_neg he]
    obtain ⟨rfl, rfl, rfl⟩ := hb he
    exact ⟨_, _, _, rfl, IsRows.nil, IsInts.nil, IsInts.nil, hg⟩
theorem wf_rangeY {ts : List Int} (h : ∀ z ∈ ts, (Lit.int .i64 z).wf = true) : RangeZ ts := fun t ht => wf_range (h t ht)

set_option maxRecDepth 100000 in
set_option maxHeartbeats 4000000 in
theorem walkTileDeals (v : Value) (s : TSet) (v2 : Value) (ts : List Int) (cut dl : Int) (w : World) (h : IsSet w v s) (_hs : SetIn s) (h2 : IsInts w v2 ts) (hz : ∀ z ∈ ts, (Lit.int .i64 z).wf = true) (_hc : (Lit.int .i64 cut).wf = true) (_hd : (Lit.int .i64 dl).wf = true) :
    Calls Try.prog 5 #[v, v2, .int .i64 cut, .int .i64 dl] w (Gives w (.bool true)) := by
  have LG := fun W (hg : Grow w W) => long_any v s W (h.grow hg)
  have D1 := hid (fun W (hg : Grow w W) => Deal_any v v2 s ts cut dl W (h.grow hg) (h2.grow hg))
  have D2 := hid (fun W (hg : Grow w W) (hn : ts.length ≤ 200) => rDeal_any v v2 s ts cut dl W (h.grow hg) (h2.grow hg) (wf_rangeY hz) (by omega))
  clear hz
  obtain ⟨AD, cD, rfl, q1, q2, _⟩ := h2
  unfold maxLen at q2
  have HI := hid h
  obtain ⟨A, c, B, d, rfl, h1, h2⟩ := h.open_
  obtain ⟨_, _, e1, c1, m1, r1⟩ := h1
  obtain ⟨_, _, e2, d1, m2, r2⟩ := h2
  injection e1 with e1 _ e1'
  injection e2 with e2 _ e2'
  subst e1 e1' e2 e2'
  unfold maxLen at m1 m2
  have HG0 := hid (show Grow w (w.alloc (.cells #[.int .i64 s.pl, .slice A s.su.length c, .int .i64 s.wi, .int .i64 s.dr, .int .i64 s.fl, .int .i64 s.co, .int .i64 s.me, .int .i64 s.de, .slice B s.re.length d] 24)) from (Grow.refl w).alloc _)
  have HB0 := hid (show Blk (w.alloc (.cells #[.int .i64 s.pl, .slice A s.su.length c, .int .i64 s.wi, .int .i64 s.dr, .int .i64 s.fl, .int .i64 s.co, .int .i64 s.me, .int .i64 s.de, .slice B s.re.length d] 24)) w.heap.size 24 (setVals s (.slice A s.su.length c) (.slice B s.re.length d)) from heap_alloc_new w _)
  clear h
  cases hl : longB s
  · rw [hl] at LG
    have LG := hid LG
    clear hl
    by_cases hn : 200 < ts.length
    · have hn' : (200 : Int) < (ts.length : Int) := by omega
      go_enter Try.func5, Try.ntmps5
      go_wp2_with (go_at_call 18; refine (LG.out _ HG0.out).mono ?_; rintro e w1 ⟨rfl, hg1⟩; have hg := HG0.out.trans hg1)
      go_ret
      exact ⟨rfl, hg⟩
    · have hn' : ¬ (200 : Int) < (ts.length : Int) := by omega
      have hn2 : ts.length ≤ 200 := by omega
      go_enter Try.func5, Try.ntmps5
      go_wp2_with (first
        | (go_at_call 18; refine (LG.out _ HG0.out).mono ?_; rintro e w1 ⟨rfl, hg1⟩; have hg := HG0.out.trans hg1; have hb1 := HB0.out.grow hg1; obtain ⟨c0, c1, c2, c3, c4, c5, c6, c7, c8⟩ := set_cells hb1)
        | (go_at_call 25; refine (D1.out _ hg).mono ?_; rintro e w2 hr2; obtain ⟨va, vb, vc, rfl, ia, ib, ic, hg2⟩ := deal_out hr2; clear hr2; have hgg := hg.trans hg2; have hb2 := hb1.grow hg2; clear c0 c1 c2 c3 c4 c5 c6 c7 c8; obtain ⟨c0, c1, c2, c3, c4, c5, c6, c7, c8⟩ := set_cells hb2)
        | (go_at_call 26; refine (D2.out _ hgg hn2).mono ?_; rintro e w3 hr3; obtain ⟨vd, ve, vf, rfl, id1, ie, if1, hg3⟩ := deal_out hr3; clear hr3; have hg33 := hgg.trans hg3; clear c0 c1 c2 c3 c4 c5 c6 c7 c8)
        | (go_at_call 27; refine (sameHands_same _ _ _ _ (ia.grow hg3) id1).mono ?_; rintro e w4 ⟨rfl, n4, rfl⟩)
        | (go_at_call 22; (with_reducible refine (Equal_same vb ve _ _ ((ib.grow hg3).grow ((Grow.refl _).drewN _)) (ie.grow ((Grow.refl _).drewN _))).mono ?_); rintro e w5 ⟨rfl, n5, rfl⟩)
        | (go_at_call 22; (with_reducible refine (Equal_same vc vf _ _ ((ic.grow hg3).grow ((Grow.refl _).drewN _)) (if1.grow ((Grow.refl _).drewN _))).mono ?_); rintro e w6 ⟨rfl, n6, rfl⟩)
        | (go_at_call 21; refine (awake_any _).mono ?_; rintro e w8 ⟨rfl, hg8⟩; have hg9 := (hg33.drewN _).trans hg8))
      go_ret
      exact ⟨rfl, hg9⟩
  · rw [hl] at LG
    have LG := hid LG
    clear hl
    go_enter Try.func5, Try.ntmps5
    go_wp2_with (go_at_call 18; refine (LG.out _ HG0.out).mono ?_; rintro e w1 ⟨rfl, hg1⟩; have hg := HG0.out.trans hg1)
    go_ret
    exact ⟨rfl, hg⟩
end Go.Proofs.Ytjiahcfegfimmaa
