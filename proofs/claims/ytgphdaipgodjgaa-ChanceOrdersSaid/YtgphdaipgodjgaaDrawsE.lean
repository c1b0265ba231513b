/-
  The walk of Draws: what it refuses; and all of it.
-/
import Derived.Test.YtgphdaipgodjgaaDraws
namespace Go.Proofs.Ytgphdaipgodjgaa
open Go.RowKit

set_option maxRecDepth 100000 in
theorem Draws_any (v1 v2 : Value) (u x : List Int) (n : Int) (w : World) (h1 : IsInts w v1 u) (h2 : IsInts w v2 x) :
    Calls Try.prog 31 #[v1, v2, .int .i64 n] w (DrawRes w u x n) := by
  have hun := fun W (hg : Grow w W) => unseen_any v1 u W (h1.grow hg)
  have hout := fun W (hg : Grow w W) => outside_any v2 x 4 W (h2.grow hg)
  have hfin : ∀ er v wf, drawErr u x n = er → er ≠ 0 → v = .agg #[.slice none 0 0, .slice none 0 0] → Grow w wf → DrawRes w u x n (.returned (.tuple #[v, .int .i64 er])) wf := fun er v wf he hne hv hg => by
    subst hv
    unfold DrawRes
    rw [if_neg (by rw [he]; exact hne), if_neg (by rw [he]; exact hne), he]
    exact ⟨_, rfl, IsOdds.nil, hg⟩
  have g0 : Grow w (w.alloc (.cells #[.slice none 0 0, .slice none 0 0] 25)) := (Grow.refl w).alloc _
  by_cases e1 : unErr u = 0
  · by_cases e2 : x.length = u.length
    · by_cases e3 : x.any (outB 4) = true
      · have HE := hid (show drawErr u x n = 2 from by unfold drawErr; rw [if_neg (by omega), if_neg (by omega), if_pos (.inl e3)])
        rw [e1] at hun
        rw [e3] at hout
        obtain ⟨A, c, rfl, _⟩ := h1
        obtain ⟨B, d, rfl, _⟩ := h2
        have HF := hid hfin
        have HU := hid hun
        have HO := hid hout
        have hne : ((x.length : Int) != (u.length : Int)) = false := by simp [e2]
        have hne' : (x.length != u.length) = false := by simp [e2]
        clear hfin hun hout e1 e2 e3
        go_enter Try.func31, Try.ntmps31
        go_wp2_with fail
        refine (HU.out _ g0).mono ?_
        rintro e w1 ⟨rfl, hg1⟩
        go_wp2_with fail
        refine (HO.out _ (g0.trans hg1)).mono ?_
        rintro e w2 ⟨rfl, hg2⟩
        obtain ⟨b0, q0, q1, f0, f1, bb, bg⟩ := odds_block (hg1.trans hg2)
        go_wp2
        refine bodyPost_ret (v := .tuple #[.agg #[.slice none 0 0, .slice none 0 0], .int .i64 2]) (by simp [results, Try.results31, go_sem, q0, q1]) rfl (HF.out 2 _ _ HE.out (by omega) rfl (bg _ _))
      · have e3' : x.any (outB 4) = false := by simpa using e3
        by_cases e4 : n < 0
        · have HE := hid (show drawErr u x n = 2 from by unfold drawErr; rw [if_neg (by omega), if_neg (by omega), if_pos (.inr (.inl e4))])
          rw [e1] at hun
          rw [e3'] at hout
          obtain ⟨A, c, rfl, _⟩ := h1
          obtain ⟨B, d, rfl, _⟩ := h2
          have HF := hid hfin
          have HU := hid hun
          have HO := hid hout
          have hne : ((x.length : Int) != (u.length : Int)) = false := by simp [e2]
          have hne' : (x.length != u.length) = false := by simp [e2]
          clear hfin hun hout e1 e2 e3 e3'
          go_enter Try.func31, Try.ntmps31
          go_wp2_with fail
          refine (HU.out _ g0).mono ?_
          rintro e w1 ⟨rfl, hg1⟩
          go_wp2_with fail
          refine (HO.out _ (g0.trans hg1)).mono ?_
          rintro e w2 ⟨rfl, hg2⟩
          obtain ⟨b0, q0, q1, f0, f1, bb, bg⟩ := odds_block (hg1.trans hg2)
          go_wp2
          refine bodyPost_ret (v := .tuple #[.agg #[.slice none 0 0, .slice none 0 0], .int .i64 2]) (by simp [results, Try.results31, go_sem, q0, q1]) rfl (HF.out 2 _ _ HE.out (by omega) rfl (bg _ _))
        · by_cases e5 : sumI u < n
          · have HE := hid (show drawErr u x n = 2 from by unfold drawErr; rw [if_neg (by omega), if_neg (by omega), if_pos (.inr (.inr e5))])
            have hall := fun W (hg : Grow w W) => all_any v1 u W (h1.grow hg) (fun z hz => by have := (unErr_ok e1).2.2 z hz; omega) (by have := (unErr_ok e1).2.1; omega)
            rw [e1] at hun
            rw [e3'] at hout
            obtain ⟨A, c, rfl, _⟩ := h1
            obtain ⟨B, d, rfl, _⟩ := h2
            have HF := hid hfin
            have HU := hid hun
            have HO := hid hout
            have HA := hid hall
            have hne : ((x.length : Int) != (u.length : Int)) = false := by simp [e2]
            have hne' : (x.length != u.length) = false := by simp [e2]
            generalize sumI u = S at HA e5
            clear hfin hun hout hall e1 e2 e3 e3'
            go_enter Try.func31, Try.ntmps31
            go_wp2_with fail
            refine (HU.out _ g0).mono ?_
            rintro e w1 ⟨rfl, hg1⟩
            go_wp2_with fail
            refine (HO.out _ (g0.trans hg1)).mono ?_
            rintro e w2 ⟨rfl, hg2⟩
            obtain ⟨b0, q0, q1, f0, f1, bb, bg⟩ := odds_block (hg1.trans hg2)
            go_wp2_with fail
            refine (HA.out _ ((g0.trans hg1).trans hg2)).mono ?_
            rintro e w3 ⟨rfl, rfl⟩
            go_wp2
            refine bodyPost_ret (v := .tuple #[.agg #[.slice none 0 0, .slice none 0 0], .int .i64 2]) (by simp [results, Try.results31, go_sem, q0, q1]) rfl (HF.out 2 _ _ HE.out (by omega) rfl (bg _ _))
          · obtain ⟨N, rfl⟩ := Int.eq_ofNat_of_zero_le (show 0 ≤ n by omega)
            exact Draws_ok v1 v2 u x N w h1 h2 e1 ⟨(unErr_ok e1).2.2, outB_any e3', e2, (unErr_ok e1).2.1⟩ (by omega)
    · have HE := hid (show drawErr u x n = 3 from by unfold drawErr; rw [if_neg (by omega), if_pos e2])
      rw [e1] at hun
      obtain ⟨A, c, rfl, _⟩ := h1
      obtain ⟨B, d, rfl, _⟩ := h2
      have HF := hid hfin
      have HU := hid hun
      have hne : ((x.length : Int) != (u.length : Int)) = true := by simp; omega
      have hne' : (x.length != u.length) = true := by simp; omega
      have hni : ¬ x.length = u.length := e2
      clear hfin hun hout e1 e2
      go_enter Try.func31, Try.ntmps31
      go_wp2_with fail
      refine (HU.out _ g0).mono ?_
      rintro e w1 ⟨rfl, hg1⟩
      obtain ⟨b0, q0, q1, f0, f1, bb, bg⟩ := odds_block hg1
      go_wp2
      refine bodyPost_ret (v := .tuple #[.agg #[.slice none 0 0, .slice none 0 0], .int .i64 3]) (by simp [results, Try.results31, go_sem, q0, q1]) rfl (HF.out 3 _ _ HE.out (by omega) rfl (bg _ _))
  · have HE := hid (show drawErr u x n = unErr u from by unfold drawErr; rw [if_pos e1])
    have hne : (unErr u != 0) = true := by simp [e1]
    generalize unErr u = n2 at *
    obtain ⟨A, c, rfl, _⟩ := h1
    obtain ⟨B, d, rfl, _⟩ := h2
    have HF := hid hfin
    have HU := hid hun
    have HN := hid e1
    clear hfin hun hout e1
    go_enter Try.func31, Try.ntmps31
    go_wp2_with fail
    refine (HU.out _ g0).mono ?_
    rintro e w1 ⟨rfl, hg1⟩
    obtain ⟨b0, q0, q1, f0, f1, bb, bg⟩ := odds_block hg1
    go_wp2
    refine bodyPost_ret (v := .tuple #[.agg #[.slice none 0 0, .slice none 0 0], .int .i64 n2]) (by simp [results, Try.results31, go_sem, q0, q1]) rfl (HF.out n2 _ _ HE.out HN.out rfl (bg _ _))
end Go.Proofs.Ytgphdaipgodjgaa
