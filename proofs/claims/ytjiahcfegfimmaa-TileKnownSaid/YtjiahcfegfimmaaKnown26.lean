/-
  Orphans in plain terms; the walk of the reference's Orphans.
-/
import Derived.Test.YtjiahcfegfimmaaKnown24
import Derived.Test.YtjiahcfegfimmaaKnown25
namespace Go.Proofs.Ytjiahcfegfimmaa
open Go.RowKit

/-- The orphans below k. -/
def orphL (s : TSet) (k : Nat) : List Int := (((List.range k).map fun (i : Nat) => (((i : Int), placeP s i) : KPlace)).filter (orphB s)).map (·.1)
theorem orphL_succ (s : TSet) (k : Nat) : orphL s (k + 1) = orphL s k ++ if orphB s ((k : Int), placeP s k) then [(k : Int)] else [] := by
  unfold orphL
  rw [List.range_succ, List.map_append, List.filter_append, List.map_append]
  congr 1
  by_cases h : orphB s ((k : Int), placeP s k) = true
  · simp [h]
  · simp [h]
theorem orphL_len (s : TSet) (k : Nat) : (orphL s k).length ≤ k := by
  unfold orphL
  rw [List.length_map]
  exact Nat.le_trans (List.length_filter_le _ _) (by simp)
theorem allP_eq (s : TSet) : allP s = (List.range (allP s).length).map fun (i : Nat) => (((i : Int), placeP s i) : KPlace) := by
  refine List.ext_getElem (by simp) fun i h1 h2 => ?_
  rw [List.getElem_map, List.getElem_range]
  have h3 := allP_indexed s i h1
  have h4 := place_mem (s := s) (x := (allP s)[i]) (List.getElem_mem h1)
  have h5 : (allP s)[i].1 = (i : Int) := by omega
  rw [h5] at h4
  exact Prod.ext h5 h4.symm
theorem orph_flower {s : TSet} {k : Nat} (e : chkErr s = 0) (h0 : plainI s ≤ k) (h1 : (k : Int) < plainI s + s.fl) : orphB s ((k : Int), placeP s k) = false := by
  have hl := allP_length s
  rw [if_pos e] at hl
  have V := valid_of e
  have v3 := V.fl
  have hm := place_in (s := s) (k := k) (by omega) (by omega)
  have hp : plainI s = s.wi + s.dr + sumI s.su := rfl
  rcases place_cases e hm with ⟨j, q, ⟨hj, hq, hk⟩, h2⟩ | ⟨q, hq, hk, h2⟩ | ⟨q, hq, hk, h2⟩ | ⟨q, hq, hk, h2⟩
  · simp only at hk
    have h5 := sumI_take s.su hj
    have h6 : sumI (s.su.take (j + 1)) ≤ sumI s.su := by
      have h7 : sumI s.su = sumI (s.su.take (j + 1)) + sumI (s.su.drop (j + 1)) := by rw [← sumI_append, List.take_append_drop]
      have h8 := sumI_bound (l := s.su.drop (j + 1)) fun z hz => V.su z (List.mem_of_mem_drop hz)
      omega
    have v1 := V.wi
    have v2 := V.dr
    omega
  · simp only at hk
    have v2 := V.dr
    omega
  · simp only at hk; omega
  · simp only at h2
    unfold orphB
    rw [h2]
    simp
theorem orphans_is (s : TSet) : orphansI s = orphL s (kindsI s).toNat := by
  by_cases e : chkErr s = 0
  · have hl := allP_length s
    rw [if_pos e] at hl
    have V := valid_of e
    have v1 := V.plain
    have v3 := V.fl
    rw [kinds_ok e]
    have key : ∀ n : Nat, plainI s + n ≤ plainI s + s.fl → orphL s ((plainI s).toNat + n) = orphL s (plainI s).toNat := fun n => by
      induction n with
      | zero => intro _; rfl
      | succ n ih =>
        intro hn
        rw [← Nat.add_assoc, orphL_succ, ih (by omega), orph_flower e (by omega) (by omega)]
        simp
    have h := key s.fl.toNat (by omega)
    rw [← h]
    unfold orphansI orphL
    conv => lhs; rw [allP_eq]
    rw [show (allP s).length = (plainI s).toNat + s.fl.toNat by omega]
  · have hl := allP_length s
    rw [if_neg e] at hl
    rw [kinds_bad e]
    have : allP s = [] := List.eq_nil_of_length_eq_zero (by omega)
    unfold orphansI
    rw [this]
    rfl
/-- The place of a plain kind. -/
theorem place_plain {s : TSet} {k : Nat} (e : chkErr s = 0) (h1 : (k : Int) < plainI s) :
    (∃ su r, placeP s k = (su, r) ∧ (su = -1 ∨ su = -2)) ∨ ∃ (j r : Nat) (hj : j < s.su.length), placeP s k = ((j : Int), (r : Int)) ∧ (r : Int) < s.su[j] := by
  have hl := allP_length s
  rw [if_pos e] at hl
  have v3 := (valid_of e).fl
  have hm := place_in (s := s) (k := k) (by omega) (by omega)
  have hp : plainI s = s.wi + s.dr + sumI s.su := rfl
  rcases place_cases e hm with ⟨j, q, ⟨hj, hq, hk⟩, h2⟩ | ⟨q, hq, hk, h2⟩ | ⟨q, hq, hk, h2⟩ | ⟨q, hq, hk, h2⟩
  · exact .inr ⟨j, q, hj, h2, hq⟩
  · exact .inl ⟨_, _, h2, .inl rfl⟩
  · exact .inl ⟨_, _, h2, .inr rfl⟩
  · simp only at hk; omega

def OrphRes (w : World) (s : TSet) (e : Ending) (w' : World) : Prop := ∃ v, e = .returned v ∧ IsInts w' v (orphansI s) ∧ Grow w w'
set_option maxRecDepth 100000 in
set_option maxHeartbeats 40000000 in
theorem rOrphans_any (v : Value) (s : TSet) (w : World) (h : IsSet w v s) : Calls Try.prog 60 #[v] w (OrphRes w s) := by
  have hfin : ∀ v' wf, IsInts wf v' (orphansI s) → Grow w wf → OrphRes w s (.returned v') wf := fun v' wf h hg => ⟨_, rfl, h, hg⟩
  have HF := hid hfin
  have KD := hid (fun W (hg : Grow w W) => rKinds_any v s W (h.grow hg))
  have PL := hid (fun W (hg : Grow w W) k => rPlace_any v s k W (h.grow hg))
  clear hfin
  have HI := hid h
  obtain ⟨A, c, B, d, rfl, h1, h2⟩ := h.open_
  obtain ⟨_, _, e1, c1, m1, r1⟩ := h1
  obtain ⟨_, _, e2, d1, m2, r2⟩ := h2
  injection e1 with e1 _ e1'
  injection e2 with e2 _ e2'
  subst e1 e1' e2 e2'
  unfold maxLen at m1 m2
  have HG0 := hid (show Grow w (w.alloc (.cells #[.int .i64 s.pl, .slice A s.su.length c, .int .i64 s.wi, .int .i64 s.dr, .int .i64 s.fl, .int .i64 s.co, .int .i64 s.me, .int .i64 s.de, .slice B s.re.length d] 24)) from (Grow.refl w).alloc _)
  have HB0 := hid (show Blk (w.alloc (.cells #[.int .i64 s.pl, .slice A s.su.length c, .int .i64 s.wi, .int .i64 s.dr, .int .i64 s.fl, .int .i64 s.co, .int .i64 s.me, .int .i64 s.de, .slice B s.re.length d] 24)) w.heap.size 24 (setVals s (.slice A s.su.length c) (.slice B s.re.length d)) from heap_alloc_new w _)
  clear h
  have hn : 0 ≤ kindsI s ∧ kindsI s ≤ 34 ∧ (kindsI s ≠ 0 → chkErr s = 0 ∧ kindsI s = plainI s) := by
    by_cases e : chkErr s = 0
    · rw [kinds_ok e]; have := (valid_of e).plain; exact ⟨by omega, by omega, fun _ => ⟨e, rfl⟩⟩
    · rw [kinds_bad e]; omega
  obtain ⟨N, hN⟩ := Int.eq_ofNat_of_zero_le hn.1
  have OI := orphans_is s
  rw [hN] at KD hn
  rw [hN, Int.toNat_natCast] at OI
  have OI := hid OI
  have hn34 := hn.2.1
  have HP := hid hn.2.2
  clear hn hN
  have KS := hid (fun W (hg : Grow (w.alloc (.cells #[.int .i64 s.pl, .slice A s.su.length c, .int .i64 s.wi, .int .i64 s.dr, .int .i64 s.fl, .int .i64 s.co, .int .i64 s.me, .int .i64 s.de, .slice B s.re.length d] 24)) W) => And.intro (HG0.out.trans hg) (set_cells (HB0.out.grow hg)))
  go_enter Try.func60, Try.ntmps60
  go_wp2
  generalize w.alloc (.cells #[.int .i64 s.pl, .slice A s.su.length c, .int .i64 s.wi, .int .i64 s.dr, .int .i64 s.fl, .int .i64 s.co, .int .i64 s.me, .int .i64 s.de, .slice B s.re.length d] 24) = wz at *
  go_loopw [3, 4] (fun o i wr => ∃ k : Nat, k ≤ N ∧ i = .int .i64 (k : Int) ∧ Own wz wr o (orphL s k) ∧ Grow wz wr) (fun _ i _ => N - (intOf i).toNat)
  case atStart => exact ⟨0, Nat.zero_le _, rfl, Own.nil _ _, Grow.refl _⟩
  case round =>
    obtain ⟨k, hk, rfl, ho, hgr⟩ := hrel
    obtain ⟨hgw, c0, c1, c2, c3, c4, c5, c6, c7, c8⟩ := KS.out _ hgr
    have HO := hid ho
    clear ho
    by_cases hlt : k < N
    · have i1 : (k : Int) < (N : Int) := by omega
      obtain ⟨e, hpl⟩ := HP.out (by omega)
      have V := valid_of e
      have HL := hid (orphL_len s k)
      have HS := hid (orphL_succ s k)
      have P1 := hid (fun W (hg : Grow w W) => PL.out W hg (k : Int))
      rcases place_plain (k := k) e (by omega) with ⟨su, r, hp, hsu⟩ | ⟨j, r, hj, hp, hr⟩
      · have HY := hid (show orphL s (k + 1) = orphL s k ++ [(k : Int)] by
          rw [HS.out, if_pos]
          unfold orphB; rw [hp]; simp; omega)
        rw [hp] at P1
        have q0 : su < 0 := by omega
        clear hp hsu V e hpl
        go_wp2_with (first
          | (go_at_call 41; refine (KD.out _ hgw).mono ?_; rintro e w1 ⟨rfl, hg1⟩; have hgr1 := hgr.trans hg1; clear c0 c1 c2 c3 c4 c5 c6 c7 c8; obtain ⟨hgw1, c0, c1, c2, c3, c4, c5, c6, c7, c8⟩ := KS.out _ hgr1)
          | (go_at_call 54; refine (P1.out _ hgw1).mono ?_; rintro e w2 ⟨rfl, hg2⟩; have hgr2 := hgr1.trans hg2; clear c0 c1 c2 c3 c4 c5 c6 c7 c8; obtain ⟨hgw2, c0, c1, c2, c3, c4, c5, c6, c7, c8⟩ := KS.out _ hgr2)
          | (at_builtin; refine wpList_append_int wz w2 _ rfl (.tmp 35) (.tmp 37) _ rfl Try.underlying22 _ (orphL s k) rfl (HO.out.kept (hg1.trans hg2)) rfl (by have := HL.out; omega) hgr2 ?_; intro v' w' ho' hg'))
        exact ⟨⟨k + 1, by omega, by go_num, by rw [HY.out]; exact ho', hg'⟩, by simp only [intOf]; omega⟩
      · have R1 := hid (fun W (hg : Grow w W) => (r1.grow hg).int hj)
        have hz := V.su s.su[j] (List.getElem_mem hj)
        have HB := hid (show orphB s ((k : Int), placeP s k) = !(decide (0 < (r : Int)) && decide ((r : Int) < s.su[j] - 1)) by
          unfold orphB
          rw [hp]
          simp only
          rw [decide_eq_false (show ¬ (j : Int) = -3 by omega), decide_eq_true (show (0 : Int) ≤ (j : Int) by omega), lenI_suit hj]
          simp)
        rw [hp] at P1
        generalize s.su[j] = z at *
        have j1 : (j : Int) < (s.su.length : Int) := by omega
        have j0 : (0 : Int) ≤ (j : Int) := by omega
        have q0 : ¬ (j : Int) < 0 := by omega
        clear hp V e hpl
        by_cases h0 : r = 0
        · have HY := hid (show orphL s (k + 1) = orphL s k ++ [(k : Int)] by
            rw [HS.out, if_pos]; rw [HB.out]; simp; omega)
          have f0 : ((r : Int) == 0) = true := by simp; omega
          clear h0
          go_wp2_with (first
            | (go_at_call 41; refine (KD.out _ hgw).mono ?_; rintro e w1 ⟨rfl, hg1⟩; have hgr1 := hgr.trans hg1; clear c0 c1 c2 c3 c4 c5 c6 c7 c8; obtain ⟨hgw1, c0, c1, c2, c3, c4, c5, c6, c7, c8⟩ := KS.out _ hgr1)
            | (go_at_call 54; refine (P1.out _ hgw1).mono ?_; rintro e w2 ⟨rfl, hg2⟩; have hgr2 := hgr1.trans hg2; clear c0 c1 c2 c3 c4 c5 c6 c7 c8; obtain ⟨hgw2, c0, c1, c2, c3, c4, c5, c6, c7, c8⟩ := KS.out _ hgr2)
            | (at_builtin; refine wpList_append_int wz w2 _ rfl (.tmp 35) (.tmp 37) _ rfl Try.underlying22 _ (orphL s k) rfl (HO.out.kept (hg1.trans hg2)) rfl (by have := HL.out; omega) hgr2 ?_; intro v' w' ho' hg'))
          exact ⟨⟨k + 1, by omega, by go_num, by rw [HY.out]; exact ho', hg'⟩, by simp only [intOf]; omega⟩
        · have f0 : ((r : Int) == 0) = false := by simp; omega
          by_cases h1 : (r : Int) = z - 1
          · have HY := hid (show orphL s (k + 1) = orphL s k ++ [(k : Int)] by
              rw [HS.out, if_pos]; rw [HB.out]; simp; omega)
            have f1 : ((r : Int) == z - 1) = true := by simp; omega
            clear h0 h1
            go_wp2_with (first
            | (go_at_call 41; refine (KD.out _ hgw).mono ?_; rintro e w1 ⟨rfl, hg1⟩; have hgr1 := hgr.trans hg1; clear c0 c1 c2 c3 c4 c5 c6 c7 c8; obtain ⟨hgw1, c0, c1, c2, c3, c4, c5, c6, c7, c8⟩ := KS.out _ hgr1)
            | (go_at_call 54; refine (P1.out _ hgw1).mono ?_; rintro e w2 ⟨rfl, hg2⟩; have hgr2 := hgr1.trans hg2; clear c0 c1 c2 c3 c4 c5 c6 c7 c8; obtain ⟨hgw2, c0, c1, c2, c3, c4, c5, c6, c7, c8⟩ := KS.out _ hgr2; obtain ⟨ad, rfl, _, hx⟩ := R1.out _ hgw2)
            | (at_builtin; refine wpList_append_int wz w2 _ rfl (.tmp 35) (.tmp 37) _ rfl Try.underlying22 _ (orphL s k) rfl (HO.out.kept (hg1.trans hg2)) rfl (by have := HL.out; omega) hgr2 ?_; intro v' w' ho' hg'))
            exact ⟨⟨k + 1, by omega, by go_num, by rw [HY.out]; exact ho', hg'⟩, by simp only [intOf]; omega⟩
          · have HY := hid (show orphL s (k + 1) = orphL s k by
              rw [HS.out, if_neg]; · simp
              rw [HB.out]; simp; omega)
            have f1 : ((r : Int) == z - 1) = false := by simp; omega
            clear h0 h1
            go_wp2_with (first
            | (go_at_call 41; refine (KD.out _ hgw).mono ?_; rintro e w1 ⟨rfl, hg1⟩; have hgr1 := hgr.trans hg1; clear c0 c1 c2 c3 c4 c5 c6 c7 c8; obtain ⟨hgw1, c0, c1, c2, c3, c4, c5, c6, c7, c8⟩ := KS.out _ hgr1)
            | (go_at_call 54; refine (P1.out _ hgw1).mono ?_; rintro e w2 ⟨rfl, hg2⟩; have hgr2 := hgr1.trans hg2; clear c0 c1 c2 c3 c4 c5 c6 c7 c8; obtain ⟨hgw2, c0, c1, c2, c3, c4, c5, c6, c7, c8⟩ := KS.out _ hgr2; obtain ⟨ad, rfl, _, hx⟩ := R1.out _ hgw2)
            | (at_builtin; refine wpList_append_int wz w2 _ rfl (.tmp 35) (.tmp 37) _ rfl Try.underlying22 _ (orphL s k) rfl (HO.out.kept (hg1.trans hg2)) rfl (by have := HL.out; omega) hgr2 ?_; intro v' w' ho' hg'))
            exact ⟨⟨k + 1, by omega, by go_num, by rw [HY.out]; exact HO.out.kept (hg1.trans hg2), hgr2⟩, by simp only [intOf]; omega⟩
    · obtain rfl : k = N := by omega
      have ge : ¬ (k : Int) < (k : Int) := by omega
      go_wp2_with (go_at_call 41; refine (KD.out _ hgw).mono ?_; rintro e w1 ⟨rfl, hg1⟩)
      go_ret
      exact HF.out _ _ (by rw [OI.out]; exact (HO.out.kept hg1).is) (hgw.trans hg1)
end Go.Proofs.Ytjiahcfegfimmaa
