/-
  Walks of the reference's first and Swap.
-/
import Derived.Test.YtjiahcfegfimmaaKnown24
import Derived.Test.YtjiahcfegfimmaaKnown25
import Derived.Test.YtjiahcfegfimmaaKnown19
namespace Go.Proofs.Ytjiahcfegfimmaa
open Go.RowKit

theorem firstK_any (v : Value) (s : TSet) (n : Nat) (w : World) (h : IsSet w v s) (V : Valid s) (hn : n ≤ s.su.length) : Calls Try.prog 95 #[v, .int .i64 (n : Int)] w (Gives w (.int .i64 (sumI (s.su.take n)))) := by
  have HI := hid h
  obtain ⟨A, c, B, d, rfl, h1, h2⟩ := h.open_
  obtain ⟨_, _, e1, c1, m1, r1⟩ := h1
  obtain ⟨_, _, e2, d1, m2, r2⟩ := h2
  injection e1 with e1 _ e1'
  injection e2 with e2 _ e2'
  subst e1 e1' e2 e2'
  unfold maxLen at m1 m2
  have HG0 := hid (show Grow w (w.alloc (.cells #[.int .i64 s.pl, .slice A s.su.length c, .int .i64 s.wi, .int .i64 s.dr, .int .i64 s.fl, .int .i64 s.co, .int .i64 s.me, .int .i64 s.de, .slice B s.re.length d] 24)) from (Grow.refl w).alloc _)
  have HB0 := hid (show Blk (w.alloc (.cells #[.int .i64 s.pl, .slice A s.su.length c, .int .i64 s.wi, .int .i64 s.dr, .int .i64 s.fl, .int .i64 s.co, .int .i64 s.me, .int .i64 s.de, .slice B s.re.length d] 24)) w.heap.size 24 (setVals s (.slice A s.su.length c) (.slice B s.re.length d)) from heap_alloc_new w _)
  clear h
  have HSU := hid V.su
  have h3 := V.su3
  clear V
  go_enter Try.func95, Try.ntmps95
  go_wp2
  generalize w.alloc (.cells #[.int .i64 s.pl, .slice A s.su.length c, .int .i64 s.wi, .int .i64 s.dr, .int .i64 s.fl, .int .i64 s.co, .int .i64 s.me, .int .i64 s.de, .slice B s.re.length d] 24) = wz at *
  obtain ⟨c0, c1, c2, c3, c4, c5, c6, c7, c8⟩ := set_cells HB0.out
  have HR1 := hid (r1.grow HG0.out)
  go_loop [5, 6] (fun z i => ∃ j : Nat, j ≤ n ∧ i = .int .i64 (j : Int) ∧ z = .int .i64 (sumI (s.su.take j))) (fun _ i => n - (intOf i).toNat)
  case atStart => exact ⟨0, Nat.zero_le _, rfl, by simp [sumI]⟩
  case round =>
    obtain ⟨j, hj, rfl, rfl⟩ := hrel
    have hsb := sumI_bound (l := s.su.take j) fun z hz => HSU.out z (List.mem_of_mem_take hz)
    rw [List.length_take] at hsb
    by_cases hlt : j < n
    · have hlt' : j < s.su.length := by omega
      obtain ⟨ad, rfl, _, hx⟩ := HR1.out.int hlt'
      have i0 : (0 : Int) ≤ (j : Int) := by omega
      have i1 : (j : Int) < (s.su.length : Int) := by omega
      have i2 : (j : Int) < (n : Int) := by omega
      have hz := HSU.out s.su[j] (List.getElem_mem hlt')
      have HT := hid (sumI_take s.su hlt')
      have hs1 : 0 ≤ sumI (s.su.take j) := by omega
      have hs2 : sumI (s.su.take j) ≤ 27 := by omega
      clear hsb
      generalize s.su[j] = z at *
      go_wp2
      exact ⟨⟨j + 1, by omega, by go_num, by rw [HT.out]⟩, by simp only [intOf]; omega⟩
    · obtain rfl : j = n := by omega
      have ge : ¬ (j : Int) < (j : Int) := by omega
      go_wp2
      go_ret
      exact ⟨rfl, HG0.out⟩

set_option maxRecDepth 100000 in
set_option maxHeartbeats 4000000 in
theorem rSwap_any (v : Value) (s : TSet) (k a b : Int) (w : World) (h : IsSet w v s) : Calls Try.prog 50 #[v, .int .i64 k, .int .i64 a, .int .i64 b] w (Gives w (.int .i64 (swapI s k a b))) := by
  have hfin : ∀ r wf, swapI s k a b = r → Grow w wf → Gives w (.int .i64 (swapI s k a b)) (.returned (.int .i64 r)) wf := fun r wf h hg => ⟨by rw [h], hg⟩
  have HF := hid hfin
  have PL := fun W (hg : Grow w W) => rPlace_any v s k W (h.grow hg)
  have FI := hid (fun W (hg : Grow w W) n (V : Valid s) (hn : n ≤ s.su.length) => firstK_any v s n W (h.grow hg) V hn)
  clear hfin
  have HI := hid h
  obtain ⟨A, c, B, d, rfl, h1, h2⟩ := h.open_
  obtain ⟨_, _, e1, c1, m1, r1⟩ := h1
  obtain ⟨_, _, e2, d1, m2, r2⟩ := h2
  injection e1 with e1 _ e1'
  injection e2 with e2 _ e2'
  subst e1 e1' e2 e2'
  unfold maxLen at m1 m2
  have HG0 := hid (show Grow w (w.alloc (.cells #[.int .i64 s.pl, .slice A s.su.length c, .int .i64 s.wi, .int .i64 s.dr, .int .i64 s.fl, .int .i64 s.co, .int .i64 s.me, .int .i64 s.de, .slice B s.re.length d] 24)) from (Grow.refl w).alloc _)
  have HB0 := hid (show Blk (w.alloc (.cells #[.int .i64 s.pl, .slice A s.su.length c, .int .i64 s.wi, .int .i64 s.dr, .int .i64 s.fl, .int .i64 s.co, .int .i64 s.me, .int .i64 s.de, .slice B s.re.length d] 24)) w.heap.size 24 (setVals s (.slice A s.su.length c) (.slice B s.re.length d)) from heap_alloc_new w _)
  clear h
  rcases place_two s k with hp | ⟨su, r, hp, hs0, hs1, hr0, hr1, he, -⟩
  · rw [hp] at PL
    have PL := hid PL
    have HE := hid (show swapI s k a b = -1 by unfold swapI; rw [hp]; rfl)
    clear hp
    go_enter Try.func50, Try.ntmps50
    go_wp2_with (go_at_call 54; refine (PL.out _ HG0.out).mono ?_; rintro e w1 ⟨rfl, hg1⟩; have hg := HG0.out.trans hg1)
    go_ret
    exact HF.out _ _ HE.out hg
  · rw [hp] at PL
    have PL := hid PL
    have V := hid (valid_of he)
    have q0 : (su == -4) = false := beq_eq_false_iff_ne.2 (by omega)
    have HS := hid (show swapI s k a b = if (a < 0 ∨ b < 0 ∨ (s.su.length : Int) ≤ a ∨ (s.su.length : Int) ≤ b) ∨ s.su.getD a.toNat 0 ≠ s.su.getD b.toNat 0 ∨ (su ≠ a ∧ su ≠ b) then k else sumI (s.su.take (a + b - su).toNat) + r by
      unfold swapI; rw [hp]; simp only; rw [if_neg (by omega)])
    have h3 := V.out.su3
    have n0 : 0 ≤ s.su.length := Nat.zero_le _
    clear hp he
    by_cases ha : 0 ≤ a ∧ a ≤ (s.su.length : Int) - 1
    · have ba : btwB a 0 ((s.su.length : Int) - 1) = true := btw_yes ha
      by_cases hb : 0 ≤ b ∧ b ≤ (s.su.length : Int) - 1
      · have bb : btwB b 0 ((s.su.length : Int) - 1) = true := btw_yes hb
        obtain ⟨i, rfl⟩ := Int.eq_ofNat_of_zero_le ha.1
        obtain ⟨j, rfl⟩ := Int.eq_ofNat_of_zero_le hb.1
        have hi : i < s.su.length := by omega
        have hj : j < s.su.length := by omega
        have i0 : (0 : Int) ≤ (i : Int) := by omega
        have i1 : (i : Int) < (s.su.length : Int) := by omega
        have j0 : (0 : Int) ≤ (j : Int) := by omega
        have j1 : (j : Int) < (s.su.length : Int) := by omega
        have HS2 := hid (show swapI s k i j = if s.su[i] ≠ s.su[j] ∨ (su ≠ (i : Int) ∧ su ≠ (j : Int)) then k else sumI (s.su.take ((i : Int) + (j : Int) - su).toNat) + r by
          rw [HS.out, show s.su.getD ((i : Nat) : Int).toNat 0 = s.su[i] by simp [List.getD, hi], show s.su.getD ((j : Nat) : Int).toNat 0 = s.su[j] by simp [List.getD, hj]]
          by_cases hq : s.su[i] ≠ s.su[j] ∨ (su ≠ (i : Int) ∧ su ≠ (j : Int))
          · rw [if_pos (.inr hq), if_pos hq]
          · rw [if_neg (fun h => h.elim (fun h => by omega) hq), if_neg hq])
        have HRI := hid (fun W (hg : Grow w W) => (r1.grow hg).int hi)
        have HRJ := hid (fun W (hg : Grow w W) => (r1.grow hg).int hj)
        clear ha hb
        by_cases hne : s.su[i] = s.su[j]
        · have hne' : (s.su[i] != s.su[j]) = false := by simp [hne]
          have HSb := hid (fun n (hn : n ≤ s.su.length) => sumI_bound (l := s.su.take n) fun z hz => V.out.su z (List.mem_of_mem_take hz))
          by_cases k1 : su = (i : Int)
          · have HE := hid (show swapI s k i j = sumI (s.su.take j) + r by rw [HS2.out, if_neg (fun h => h.elim (fun h => h hne) (fun h => h.1 k1)), k1, show ((i : Int) + (j : Int) - (i : Int)).toNat = j by omega])
            have k1' : (su == (i : Int)) = true := by simp [k1]
            have sb := HSb.out j (by omega)
            rw [List.length_take] at sb
            have sb1 : 0 ≤ sumI (s.su.take j) := by omega
            have sb2 : sumI (s.su.take j) ≤ 27 := by omega
            have FJ := hid (fun W hg => FI.out W hg j V.out (by omega))
            clear hne k1 sb
            generalize sumI (s.su.take j) = S at *
            generalize s.su[i] = z at *
            generalize s.su[j] = y at *
            go_enter Try.func50, Try.ntmps50
            go_wp2_with (go_at_call 54; refine (PL.out _ HG0.out).mono ?_; rintro e w1 ⟨rfl, hg1⟩; have hg := HG0.out.trans hg1; obtain ⟨c0, c1, c2, c3, c4, c5, c6, c7, c8⟩ := set_cells (HB0.out.grow hg1); obtain ⟨ad, rfl, _, hx⟩ := HRI.out _ hg; obtain ⟨_, e7, _, hy⟩ := HRJ.out _ hg; obtain rfl := Option.some.inj e7)
            go_quiet ((go_at_call 84; exact q_same (between_any _ _ _ _)))
            go_wp2_with (go_at_call 95; refine (FJ.out _ (hg.drewN _)).mono ?_; rintro e w2 ⟨rfl, hg2⟩)
            go_ret
            exact HF.out _ _ HE.out ((hg.drewN _).trans hg2)
          · have k1' : (su == (i : Int)) = false := by simp [k1]
            by_cases k2 : su = (j : Int)
            · have HE := hid (show swapI s k i j = sumI (s.su.take i) + r by rw [HS2.out, if_neg (fun h => h.elim (fun h => h hne) (fun h => h.2 k2)), k2, show ((i : Int) + (j : Int) - (j : Int)).toNat = i by omega])
              have k2' : (su == (j : Int)) = true := by simp [k2]
              have sb := HSb.out i (by omega)
              rw [List.length_take] at sb
              have sb1 : 0 ≤ sumI (s.su.take i) := by omega
              have sb2 : sumI (s.su.take i) ≤ 27 := by omega
              have FJ := hid (fun W hg => FI.out W hg i V.out (by omega))
              clear hne k1 k2 sb
              generalize sumI (s.su.take i) = S at *
              generalize s.su[i] = z at *
              generalize s.su[j] = y at *
              go_enter Try.func50, Try.ntmps50
              go_wp2_with (go_at_call 54; refine (PL.out _ HG0.out).mono ?_; rintro e w1 ⟨rfl, hg1⟩; have hg := HG0.out.trans hg1; obtain ⟨c0, c1, c2, c3, c4, c5, c6, c7, c8⟩ := set_cells (HB0.out.grow hg1); obtain ⟨ad, rfl, _, hx⟩ := HRI.out _ hg; obtain ⟨_, e7, _, hy⟩ := HRJ.out _ hg; obtain rfl := Option.some.inj e7)
              go_quiet ((go_at_call 84; exact q_same (between_any _ _ _ _)))
              go_wp2_with (go_at_call 95; refine (FJ.out _ (hg.drewN _)).mono ?_; rintro e w2 ⟨rfl, hg2⟩)
              go_ret
              exact HF.out _ _ HE.out ((hg.drewN _).trans hg2)
            · have HE := hid (show swapI s k i j = k by rw [HS2.out, if_pos (.inr ⟨k1, k2⟩)])
              have k2' : (su == (j : Int)) = false := by simp [k2]
              clear hne k1 k2
              generalize s.su[i] = z at *
              generalize s.su[j] = y at *
              go_enter Try.func50, Try.ntmps50
              go_wp2_with (go_at_call 54; refine (PL.out _ HG0.out).mono ?_; rintro e w1 ⟨rfl, hg1⟩; have hg := HG0.out.trans hg1; obtain ⟨c0, c1, c2, c3, c4, c5, c6, c7, c8⟩ := set_cells (HB0.out.grow hg1); obtain ⟨ad, rfl, _, hx⟩ := HRI.out _ hg; obtain ⟨_, e7, _, hy⟩ := HRJ.out _ hg; obtain rfl := Option.some.inj e7)
              go_quiet ((go_at_call 84; exact q_same (between_any _ _ _ _)))
              go_wp2
              go_ret
              exact HF.out _ _ HE.out (hg.drewN _)
        · have hne' : (s.su[i] != s.su[j]) = true := by simp [hne]
          have HE := hid (show swapI s k i j = k by rw [HS2.out, if_pos (.inl hne)])
          clear hne
          generalize s.su[i] = z at *
          generalize s.su[j] = y at *
          go_enter Try.func50, Try.ntmps50
          go_wp2_with (go_at_call 54; refine (PL.out _ HG0.out).mono ?_; rintro e w1 ⟨rfl, hg1⟩; have hg := HG0.out.trans hg1; obtain ⟨c0, c1, c2, c3, c4, c5, c6, c7, c8⟩ := set_cells (HB0.out.grow hg1); obtain ⟨ad, rfl, _, hx⟩ := HRI.out _ hg; obtain ⟨_, e7, _, hy⟩ := HRJ.out _ hg; obtain rfl := Option.some.inj e7)
          go_quiet ((go_at_call 84; exact q_same (between_any _ _ _ _)))
          go_wp2
          go_ret
          exact HF.out _ _ HE.out (hg.drewN _)
      · have bb : btwB b 0 ((s.su.length : Int) - 1) = false := btw_no (by omega)
        have HE := hid (show swapI s k a b = k by rw [HS.out, if_pos (.inl (by omega))])
        clear hb
        go_enter Try.func50, Try.ntmps50
        go_wp2_with (go_at_call 54; refine (PL.out _ HG0.out).mono ?_; rintro e w1 ⟨rfl, hg1⟩; have hg := HG0.out.trans hg1; obtain ⟨c0, c1, c2, c3, c4, c5, c6, c7, c8⟩ := set_cells (HB0.out.grow hg1))
        go_quiet ((go_at_call 84; exact q_same (between_any _ _ _ _)))
        go_wp2
        go_ret
        exact HF.out _ _ HE.out (hg.drewN _)
    · have ba : btwB a 0 ((s.su.length : Int) - 1) = false := btw_no (by omega)
      have HE := hid (show swapI s k a b = k by rw [HS.out, if_pos (.inl (by omega))])
      clear ha
      go_enter Try.func50, Try.ntmps50
      go_wp2_with (go_at_call 54; refine (PL.out _ HG0.out).mono ?_; rintro e w1 ⟨rfl, hg1⟩; have hg := HG0.out.trans hg1; obtain ⟨c0, c1, c2, c3, c4, c5, c6, c7, c8⟩ := set_cells (HB0.out.grow hg1))
      go_quiet ((go_at_call 84; exact q_same (between_any _ _ _ _)))
      go_wp2
      go_ret
      exact HF.out _ _ HE.out (hg.drewN _)
end Go.Proofs.Ytjiahcfegfimmaa
