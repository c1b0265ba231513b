/-
  Walks of length, After, Runs, Mirror; and of the reference's many.
-/
import Derived.Test.YtjiahcfegfimmaaKnown18
namespace Go.Proofs.Ytjiahcfegfimmaa
open Go.RowKit

/-- How many ranks a suit has, how many winds, dragons, flowers. -/
def lenI (s : TSet) (su : Int) : Int := if su = -1 then s.wi else if su = -2 then s.dr else if su = -3 then s.fl else s.su.getD su.toNat 0
def SuitOk (s : TSet) (su : Int) : Prop := su = -1 ∨ su = -2 ∨ su = -3 ∨ (0 ≤ su ∧ su < s.su.length)
theorem lenI_suit {s : TSet} {j : Nat} (h : j < s.su.length) : lenI s (j : Int) = s.su[j] := by
  unfold lenI
  rw [if_neg (by omega), if_neg (by omega), if_neg (by omega)]
  simp [List.getD, h]
def afterI (s : TSet) (k : Int) : Int := if (placeP s k).1 = -4 then -1 else k - (placeP s k).2 + ((placeP s k).2 + 1) % lenI s (placeP s k).1
def runsB (s : TSet) (k : Int) : Bool := decide (0 ≤ (placeP s k).1) && decide ((placeP s k).2 + 2 < lenI s (placeP s k).1)
def mirrorI (s : TSet) (k : Int) : Int := if (placeP s k).1 = -4 then -1 else if (placeP s k).1 < 0 then k else k + lenI s (placeP s k).1 - 1 - 2 * (placeP s k).2
/-- What a place is like. -/
inductive PlaceIs (s : TSet) (k : Int) : Prop
  | none (h : placeP s k = (-4, 0))
  | suit (e : chkErr s = 0) (j r : Nat) (h : placeP s k = ((j : Int), (r : Int))) (hj : j < s.su.length) (hr : (r : Int) < s.su[j]) (hk : k = sumI (s.su.take j) + r)
  | other (e : chkErr s = 0) (su : Int) (r : Nat) (h : placeP s k = (su, (r : Int))) (hs : su = -1 ∨ su = -2 ∨ su = -3) (hr : (r : Int) < lenI s su) (hl : lenI s su ≤ 8) (hk : 0 ≤ k ∧ k ≤ 50)
theorem place_is (s : TSet) (k : Int) : PlaceIs s k := by
  by_cases e : chkErr s = 0
  · have V := valid_of e
    by_cases hk : k < 0 ∨ ((allP s).length : Int) ≤ k
    · exact .none (place_out hk)
    · have hm := place_in (s := s) (k := k) (by omega) (by omega)
      have hl := allP_length s
      rw [if_pos e] at hl
      have v1 := V.wi
      have v2 := V.dr
      have v3 := V.fl
      have v4 := V.plain
      rcases place_cases e hm with ⟨j, r, ⟨hj, hr, hk'⟩, h2⟩ | ⟨r, hr, _, h2⟩ | ⟨r, hr, _, h2⟩ | ⟨r, hr, _, h2⟩
      · exact .suit e j r h2 hj hr hk'
      · exact .other e (-1) r h2 (.inl rfl) hr (by show s.wi ≤ 8; omega) (by omega)
      · exact .other e (-2) r h2 (.inr (.inl rfl)) hr (by show s.dr ≤ 8; omega) (by omega)
      · exact .other e (-3) r h2 (.inr (.inr rfl)) hr (by show s.fl ≤ 8; omega) (by omega)
  · exact .none (place_bad k e)


theorem length_any (v : Value) (s : TSet) (su : Int) (w : World) (h : IsSet w v s) (hs : SuitOk s su) : Calls Try.prog 91 #[v, .int .i64 su] w (Gives w (.int .i64 (lenI s su))) := by
  have hfin : ∀ r wf, lenI s su = r → Grow w wf → Gives w (.int .i64 (lenI s su)) (.returned (.int .i64 r)) wf := fun r wf h hg => ⟨by rw [h], hg⟩
  have HF := hid hfin
  clear hfin
  have HI := hid h
  obtain ⟨A, c, B, d, rfl, h1, h2⟩ := h.open_
  obtain ⟨_, _, e1, c1, m1, r1⟩ := h1
  obtain ⟨_, _, e2, d1, m2, r2⟩ := h2
  injection e1 with e1 _ e1'
  injection e2 with e2 _ e2'
  subst e1 e1' e2 e2'
  unfold maxLen at m1 m2
  have HG0 := hid (show Grow w (w.alloc (.cells #[.int .i64 s.pl, .slice A s.su.length c, .int .i64 s.wi, .int .i64 s.dr, .int .i64 s.fl, .int .i64 s.co, .int .i64 s.me, .int .i64 s.de, .slice B s.re.length d] 24)) from (Grow.refl w).alloc _)
  have HB0 := hid (show Blk (w.alloc (.cells #[.int .i64 s.pl, .slice A s.su.length c, .int .i64 s.wi, .int .i64 s.dr, .int .i64 s.fl, .int .i64 s.co, .int .i64 s.me, .int .i64 s.de, .slice B s.re.length d] 24)) w.heap.size 24 (setVals s (.slice A s.su.length c) (.slice B s.re.length d)) from heap_alloc_new w _)
  clear h
  rcases hs with rfl | rfl | rfl | ⟨h0, h1⟩
  · have HE := hid (show lenI s (-1) = s.wi from rfl)
    have ix : ∀ w, (Instr.index 121 (.agg #[.int .i64 s.wi, .int .i64 s.dr, .int .i64 s.fl]) (.int .i64 0)).run Try.prog w = .ok (.int .i64 s.wi) w := fun _ => by kernel_rfl
    go_enter Try.func91, Try.ntmps91
    go_wp2
    go_ret
    exact HF.out _ _ HE.out HG0.out
  · have HE := hid (show lenI s (-2) = s.dr from rfl)
    have ix : ∀ w, (Instr.index 121 (.agg #[.int .i64 s.wi, .int .i64 s.dr, .int .i64 s.fl]) (.int .i64 1)).run Try.prog w = .ok (.int .i64 s.dr) w := fun _ => by kernel_rfl
    go_enter Try.func91, Try.ntmps91
    go_wp2
    go_ret
    exact HF.out _ _ HE.out HG0.out
  · have HE := hid (show lenI s (-3) = s.fl from rfl)
    have ix : ∀ w, (Instr.index 121 (.agg #[.int .i64 s.wi, .int .i64 s.dr, .int .i64 s.fl]) (.int .i64 2)).run Try.prog w = .ok (.int .i64 s.fl) w := fun _ => by kernel_rfl
    go_enter Try.func91, Try.ntmps91
    go_wp2
    go_ret
    exact HF.out _ _ HE.out HG0.out
  · obtain ⟨j, rfl⟩ := Int.eq_ofNat_of_zero_le h0
    have hj : j < s.su.length := by omega
    have HE := hid (lenI_suit hj)
    obtain ⟨ad, rfl, _, hx⟩ := (r1.grow HG0.out).int hj
    have n1 : ((j : Int) == -1) = false := beq_eq_false_iff_ne.2 (by omega)
    have n2 : ((j : Int) == -2) = false := beq_eq_false_iff_ne.2 (by omega)
    have n3 : ((j : Int) == -3) = false := beq_eq_false_iff_ne.2 (by omega)
    go_enter Try.func91, Try.ntmps91
    go_wp2
    go_ret
    exact HF.out _ _ HE.out HG0.out

theorem many_any (v : Value) (s : TSet) (su : Int) (w : World) (h : IsSet w v s) (hs : SuitOk s su) : Calls Try.prog 98 #[v, .int .i64 su] w (Gives w (.int .i64 (lenI s su))) := by
  have hfin : ∀ r wf, lenI s su = r → Grow w wf → Gives w (.int .i64 (lenI s su)) (.returned (.int .i64 r)) wf := fun r wf h hg => ⟨by rw [h], hg⟩
  have HF := hid hfin
  clear hfin
  have HI := hid h
  obtain ⟨A, c, B, d, rfl, h1, h2⟩ := h.open_
  obtain ⟨_, _, e1, c1, m1, r1⟩ := h1
  obtain ⟨_, _, e2, d1, m2, r2⟩ := h2
  injection e1 with e1 _ e1'
  injection e2 with e2 _ e2'
  subst e1 e1' e2 e2'
  unfold maxLen at m1 m2
  have HG0 := hid (show Grow w (w.alloc (.cells #[.int .i64 s.pl, .slice A s.su.length c, .int .i64 s.wi, .int .i64 s.dr, .int .i64 s.fl, .int .i64 s.co, .int .i64 s.me, .int .i64 s.de, .slice B s.re.length d] 24)) from (Grow.refl w).alloc _)
  have HB0 := hid (show Blk (w.alloc (.cells #[.int .i64 s.pl, .slice A s.su.length c, .int .i64 s.wi, .int .i64 s.dr, .int .i64 s.fl, .int .i64 s.co, .int .i64 s.me, .int .i64 s.de, .slice B s.re.length d] 24)) w.heap.size 24 (setVals s (.slice A s.su.length c) (.slice B s.re.length d)) from heap_alloc_new w _)
  clear h
  rcases hs with rfl | rfl | rfl | ⟨h0, h1⟩
  · have HE := hid (show lenI s (-1) = s.wi from rfl)
    go_enter Try.func98, Try.ntmps98
    go_wp2
    go_ret
    exact HF.out _ _ HE.out HG0.out
  · have HE := hid (show lenI s (-2) = s.dr from rfl)
    go_enter Try.func98, Try.ntmps98
    go_wp2
    go_ret
    exact HF.out _ _ HE.out HG0.out
  · have HE := hid (show lenI s (-3) = s.fl from rfl)
    go_enter Try.func98, Try.ntmps98
    go_wp2
    go_ret
    exact HF.out _ _ HE.out HG0.out
  · obtain ⟨j, rfl⟩ := Int.eq_ofNat_of_zero_le h0
    have hj : j < s.su.length := by omega
    have HE := hid (lenI_suit hj)
    obtain ⟨ad, rfl, _, hx⟩ := (r1.grow HG0.out).int hj
    have n1 : ((j : Int) == -1) = false := beq_eq_false_iff_ne.2 (by omega)
    have n2 : ((j : Int) == -2) = false := beq_eq_false_iff_ne.2 (by omega)
    have n3 : ((j : Int) == -3) = false := beq_eq_false_iff_ne.2 (by omega)
    go_enter Try.func98, Try.ntmps98
    go_wp2
    go_ret
    exact HF.out _ _ HE.out HG0.out

theorem After_any (v : Value) (s : TSet) (k : Int) (w : World) (h : IsSet w v s) : Calls Try.prog 36 #[v, .int .i64 k] w (Gives w (.int .i64 (afterI s k))) := by
  have hfin : ∀ r wf, afterI s k = r → Grow w wf → Gives w (.int .i64 (afterI s k)) (.returned (.int .i64 r)) wf := fun r wf h hg => ⟨by rw [h], hg⟩
  have HF := hid hfin
  have PL := fun W (hg : Grow w W) => Place_any v s k W (h.grow hg)
  have LN := hid (fun W (hg : Grow w W) (su : Int) (hs : SuitOk s su) => length_any v s su W (h.grow hg) hs)
  clear hfin
  have HI := hid h
  obtain ⟨A, c, B, d, rfl, h1, h2⟩ := h.open_
  obtain ⟨_, _, e1, c1, m1, r1⟩ := h1
  obtain ⟨_, _, e2, d1, m2, r2⟩ := h2
  injection e1 with e1 _ e1'
  injection e2 with e2 _ e2'
  subst e1 e1' e2 e2'
  unfold maxLen at m1 m2
  have HG0 := hid (show Grow w (w.alloc (.cells #[.int .i64 s.pl, .slice A s.su.length c, .int .i64 s.wi, .int .i64 s.dr, .int .i64 s.fl, .int .i64 s.co, .int .i64 s.me, .int .i64 s.de, .slice B s.re.length d] 24)) from (Grow.refl w).alloc _)
  have HB0 := hid (show Blk (w.alloc (.cells #[.int .i64 s.pl, .slice A s.su.length c, .int .i64 s.wi, .int .i64 s.dr, .int .i64 s.fl, .int .i64 s.co, .int .i64 s.me, .int .i64 s.de, .slice B s.re.length d] 24)) w.heap.size 24 (setVals s (.slice A s.su.length c) (.slice B s.re.length d)) from heap_alloc_new w _)
  clear h

  rcases place_is s k with hp | ⟨e, j, r, hp, hj, hr, hk⟩ | ⟨e, su, r, hp, hs, hr, hl, hk⟩
  · rw [hp] at PL
    have PL := hid PL
    have HE := hid (show afterI s k = -1 by unfold afterI; rw [hp]; rfl)
    clear hp
    go_enter Try.func36, Try.ntmps36
    go_wp2_with (go_at_call 35; refine (PL.out _ HG0.out).mono ?_; rintro e w1 ⟨rfl, hg1⟩; have hg := HG0.out.trans hg1; obtain ⟨c0, c1, c2, c3, c4, c5, c6, c7, c8⟩ := set_cells (HB0.out.grow hg1))
    go_ret
    exact HF.out _ _ HE.out hg
  · rw [hp] at PL
    have PL := hid PL
    have V := valid_of e
    have HE := hid (show afterI s k = k - (r : Int) + ((r : Int) + 1) % s.su[j] by unfold afterI; rw [hp]; simp only; rw [if_neg (by omega), lenI_suit hj])
    have LL := hid (fun W (hg : Grow w W) => (by
      have h := LN.out W hg (j : Int) (.inr (.inr (.inr ⟨by omega, by omega⟩)))
      rwa [lenI_suit hj] at h : Calls Try.prog 91 #[.agg #[.int .i64 s.pl, .slice A s.su.length c, .int .i64 s.wi, .int .i64 s.dr, .int .i64 s.fl, .int .i64 s.co, .int .i64 s.me, .int .i64 s.de, .slice B s.re.length d], .int .i64 (j : Int)] W (Gives W (.int .i64 s.su[j]))))
    have hz := V.su s.su[j] (List.getElem_mem hj)
    have hb := sumI_bound (l := s.su.take j) fun z hz => V.su z (List.mem_of_mem_take hz)
    rw [List.length_take] at hb
    have h3 := V.su3
    have m1 := Int.emod_nonneg ((r : Int) + 1) (show s.su[j] ≠ 0 by omega)
    have m2 := Int.emod_lt_of_pos ((r : Int) + 1) (show 0 < s.su[j] by omega)
    have hk0 : 0 ≤ k ∧ k ≤ 40 := by omega
    generalize s.su[j] = z at *
    clear hp hk hb e V
    go_enter Try.func36, Try.ntmps36
    go_wp2_with (first
      | (go_at_call 35; refine (PL.out _ HG0.out).mono ?_; rintro e w1 ⟨rfl, hg1⟩; have hg := HG0.out.trans hg1; obtain ⟨c0, c1, c2, c3, c4, c5, c6, c7, c8⟩ := set_cells (HB0.out.grow hg1))
      | (go_at_call 91; refine (LL.out _ hg).mono ?_; rintro e w2 ⟨rfl, hg2⟩; have hgg := hg.trans hg2))
    go_ret
    exact HF.out _ _ HE.out hgg
  · rw [hp] at PL
    have PL := hid PL
    have HE := hid (show afterI s k = k - (r : Int) + ((r : Int) + 1) % lenI s su by unfold afterI; rw [hp]; simp only; rw [if_neg (by omega)])
    have LL := hid (fun W (hg : Grow w W) => LN.out W hg su (by unfold SuitOk; omega))
    have m1 := Int.emod_nonneg ((r : Int) + 1) (show lenI s su ≠ 0 by omega)
    have m2 := Int.emod_lt_of_pos ((r : Int) + 1) (show 0 < lenI s su by omega)
    have q3 : ¬ su < -3 := by omega
    generalize lenI s su = z at *
    clear hp hs e
    go_enter Try.func36, Try.ntmps36
    go_wp2_with (first
      | (go_at_call 35; refine (PL.out _ HG0.out).mono ?_; rintro e w1 ⟨rfl, hg1⟩; have hg := HG0.out.trans hg1; obtain ⟨c0, c1, c2, c3, c4, c5, c6, c7, c8⟩ := set_cells (HB0.out.grow hg1))
      | (go_at_call 91; refine (LL.out _ hg).mono ?_; rintro e w2 ⟨rfl, hg2⟩; have hgg := hg.trans hg2))
    go_ret
    exact HF.out _ _ HE.out hgg

theorem Runs_any (v : Value) (s : TSet) (k : Int) (w : World) (h : IsSet w v s) : Calls Try.prog 51 #[v, .int .i64 k] w (Gives w (.bool (runsB s k))) := by
  have hfin : ∀ r wf, runsB s k = r → Grow w wf → Gives w (.bool (runsB s k)) (.returned (.bool r)) wf := fun r wf h hg => ⟨by rw [h], hg⟩
  have HF := hid hfin
  have PL := fun W (hg : Grow w W) => Place_any v s k W (h.grow hg)
  have LN := hid (fun W (hg : Grow w W) (su : Int) (hs : SuitOk s su) => length_any v s su W (h.grow hg) hs)
  clear hfin
  have HI := hid h
  obtain ⟨A, c, B, d, rfl, h1, h2⟩ := h.open_
  obtain ⟨_, _, e1, c1, m1, r1⟩ := h1
  obtain ⟨_, _, e2, d1, m2, r2⟩ := h2
  injection e1 with e1 _ e1'
  injection e2 with e2 _ e2'
  subst e1 e1' e2 e2'
  unfold maxLen at m1 m2
  have HG0 := hid (show Grow w (w.alloc (.cells #[.int .i64 s.pl, .slice A s.su.length c, .int .i64 s.wi, .int .i64 s.dr, .int .i64 s.fl, .int .i64 s.co, .int .i64 s.me, .int .i64 s.de, .slice B s.re.length d] 24)) from (Grow.refl w).alloc _)
  have HB0 := hid (show Blk (w.alloc (.cells #[.int .i64 s.pl, .slice A s.su.length c, .int .i64 s.wi, .int .i64 s.dr, .int .i64 s.fl, .int .i64 s.co, .int .i64 s.me, .int .i64 s.de, .slice B s.re.length d] 24)) w.heap.size 24 (setVals s (.slice A s.su.length c) (.slice B s.re.length d)) from heap_alloc_new w _)
  clear h

  rcases place_is s k with hp | ⟨e, j, r, hp, hj, hr, hk⟩ | ⟨e, su, r, hp, hs, hr, hl, hk⟩
  · rw [hp] at PL
    have PL := hid PL
    have HE := hid (show runsB s k = false by unfold runsB; rw [hp]; rfl)
    clear hp
    go_enter Try.func51, Try.ntmps51
    go_wp2_with (go_at_call 35; refine (PL.out _ HG0.out).mono ?_; rintro e w1 ⟨rfl, hg1⟩; have hg := HG0.out.trans hg1; obtain ⟨c0, c1, c2, c3, c4, c5, c6, c7, c8⟩ := set_cells (HB0.out.grow hg1))
    go_ret
    exact HF.out _ _ HE.out hg
  · rw [hp] at PL
    have PL := hid PL
    have V := valid_of e
    have HE0 := show runsB s k = decide ((r : Int) + 2 < s.su[j]) by unfold runsB; rw [hp]; simp only; rw [lenI_suit hj, decide_eq_true (show 0 ≤ (j : Int) by omega), Bool.true_and]
    have hz := V.su s.su[j] (List.getElem_mem hj)
    have j0 : (0 : Int) ≤ (j : Int) := by omega
    have j1 : (j : Int) < (s.su.length : Int) := by omega
    have HR := hid (fun W (hg : Grow w W) => (r1.grow hg).int hj)
    have HE := hid HE0
    clear hp hk e V HE0
    go_enter Try.func51, Try.ntmps51
    go_wp2_with (go_at_call 35; refine (PL.out _ HG0.out).mono ?_; rintro e w1 ⟨rfl, hg1⟩; have hg := HG0.out.trans hg1; obtain ⟨c0, c1, c2, c3, c4, c5, c6, c7, c8⟩ := set_cells (HB0.out.grow hg1); obtain ⟨ad, rfl, _, hx⟩ := HR.out _ hg)
    go_ret
    exact HF.out _ _ HE.out hg
  · rw [hp] at PL
    have PL := hid PL
    have HE := hid (show runsB s k = false by unfold runsB; rw [hp]; simp only; rw [decide_eq_false (show ¬ 0 ≤ su by omega)]; rfl)
    have q3 : ¬ 0 ≤ su := by omega
    clear hp hs e
    go_enter Try.func51, Try.ntmps51
    go_wp2_with (go_at_call 35; refine (PL.out _ HG0.out).mono ?_; rintro e w1 ⟨rfl, hg1⟩; have hg := HG0.out.trans hg1; obtain ⟨c0, c1, c2, c3, c4, c5, c6, c7, c8⟩ := set_cells (HB0.out.grow hg1))
    go_ret
    exact HF.out _ _ HE.out hg

theorem Mirror_any (v : Value) (s : TSet) (k : Int) (w : World) (h : IsSet w v s) : Calls Try.prog 47 #[v, .int .i64 k] w (Gives w (.int .i64 (mirrorI s k))) := by
  have hfin : ∀ r wf, mirrorI s k = r → Grow w wf → Gives w (.int .i64 (mirrorI s k)) (.returned (.int .i64 r)) wf := fun r wf h hg => ⟨by rw [h], hg⟩
  have HF := hid hfin
  have PL := fun W (hg : Grow w W) => Place_any v s k W (h.grow hg)
  have LN := hid (fun W (hg : Grow w W) (su : Int) (hs : SuitOk s su) => length_any v s su W (h.grow hg) hs)
  clear hfin
  have HI := hid h
  obtain ⟨A, c, B, d, rfl, h1, h2⟩ := h.open_
  obtain ⟨_, _, e1, c1, m1, r1⟩ := h1
  obtain ⟨_, _, e2, d1, m2, r2⟩ := h2
  injection e1 with e1 _ e1'
  injection e2 with e2 _ e2'
  subst e1 e1' e2 e2'
  unfold maxLen at m1 m2
  have HG0 := hid (show Grow w (w.alloc (.cells #[.int .i64 s.pl, .slice A s.su.length c, .int .i64 s.wi, .int .i64 s.dr, .int .i64 s.fl, .int .i64 s.co, .int .i64 s.me, .int .i64 s.de, .slice B s.re.length d] 24)) from (Grow.refl w).alloc _)
  have HB0 := hid (show Blk (w.alloc (.cells #[.int .i64 s.pl, .slice A s.su.length c, .int .i64 s.wi, .int .i64 s.dr, .int .i64 s.fl, .int .i64 s.co, .int .i64 s.me, .int .i64 s.de, .slice B s.re.length d] 24)) w.heap.size 24 (setVals s (.slice A s.su.length c) (.slice B s.re.length d)) from heap_alloc_new w _)
  clear h

  rcases place_is s k with hp | ⟨e, j, r, hp, hj, hr, hk⟩ | ⟨e, su, r, hp, hs, hr, hl, hk⟩
  · rw [hp] at PL
    have PL := hid PL
    have HE := hid (show mirrorI s k = -1 by unfold mirrorI; rw [hp]; rfl)
    clear hp
    go_enter Try.func47, Try.ntmps47
    go_wp2_with (go_at_call 35; refine (PL.out _ HG0.out).mono ?_; rintro e w1 ⟨rfl, hg1⟩; have hg := HG0.out.trans hg1; obtain ⟨c0, c1, c2, c3, c4, c5, c6, c7, c8⟩ := set_cells (HB0.out.grow hg1))
    go_ret
    exact HF.out _ _ HE.out hg
  · rw [hp] at PL
    have PL := hid PL
    have V := valid_of e
    have HE := hid (show mirrorI s k = k + s.su[j] - 1 - 2 * (r : Int) by unfold mirrorI; rw [hp]; simp only; rw [if_neg (by omega), if_neg (by omega), lenI_suit hj])
    have hz := V.su s.su[j] (List.getElem_mem hj)
    have j0 : (0 : Int) ≤ (j : Int) := by omega
    have j1 : (j : Int) < (s.su.length : Int) := by omega
    have HR := hid (fun W (hg : Grow w W) => (r1.grow hg).int hj)
    have hb := sumI_bound (l := s.su.take j) fun z hz => V.su z (List.mem_of_mem_take hz)
    rw [List.length_take] at hb
    have h3 := V.su3
    have hk0 : 0 ≤ k ∧ k ≤ 40 := by omega
    clear hp hk e V hb
    go_enter Try.func47, Try.ntmps47
    go_wp2_with (go_at_call 35; refine (PL.out _ HG0.out).mono ?_; rintro e w1 ⟨rfl, hg1⟩; have hg := HG0.out.trans hg1; obtain ⟨c0, c1, c2, c3, c4, c5, c6, c7, c8⟩ := set_cells (HB0.out.grow hg1); obtain ⟨ad, rfl, _, hx⟩ := HR.out _ hg)
    go_ret
    exact HF.out _ _ HE.out hg
  · rw [hp] at PL
    have PL := hid PL
    have HE := hid (show mirrorI s k = k by unfold mirrorI; rw [hp]; simp only; rw [if_neg (by omega), if_pos (by omega)])
    have q3 : ¬ su < -3 := by omega
    have q4 : su < 0 := by omega
    clear hp hs e
    go_enter Try.func47, Try.ntmps47
    go_wp2_with (go_at_call 35; refine (PL.out _ HG0.out).mono ?_; rintro e w1 ⟨rfl, hg1⟩; have hg := HG0.out.trans hg1; obtain ⟨c0, c1, c2, c3, c4, c5, c6, c7, c8⟩ := set_cells (HB0.out.grow hg1))
    go_ret
    exact HF.out _ _ HE.out hg
end Go.Proofs.Ytjiahcfegfimmaa
