/-
  Walks of Cut, the program's and the reference's.
-/
import Derived.Test.YtjiahcfegfimmaaKnown24
import Derived.Test.YtjiahcfegfimmaaKnown10
import Derived.Test.YtjiahcfegfimmaaKnown09
import Derived.Deep.RegionHeld3
namespace Go.Proofs.Ytjiahcfegfimmaa
open Go.RowKit

def dieB (x : Int) : Bool := decide (x < 1) || decide (6 < x)
theorem sumI_dice {l : List Int} (h : ∀ z ∈ l, 1 ≤ z ∧ z ≤ 6) : (l.length : Int) ≤ sumI l ∧ sumI l ≤ 6 * (l.length : Int) := by
  induction l with
  | nil => simp [sumI]
  | cons x l ih =>
    have h1 := ih fun z hz => h z (by simp [hz])
    have h2 := h x (by simp)
    rw [sumI_cons, List.length_cons]
    omega
def cutV (s : TSet) (d : Int) (dice : List Int) : Int := if cutErr s d dice = 0 then cutI s d dice else 0
/-- What the numbers of a cut are like. -/
structure CutNum (n pl d D : Int) : Prop where
  s0 : 0 ≤ (d + D - 1) % pl ∧ (d + D - 1) % pl ≤ 3
  m0 : 0 ≤ n * ((d + D - 1) % pl) ∧ n * ((d + D - 1) % pl) ≤ 432
  q0 : 0 ≤ n * ((d + D - 1) % pl) / pl ∧ n * ((d + D - 1) % pl) / pl ≤ 432
theorem cut_num {n pl d D : Int} (h0 : 0 ≤ n ∧ n ≤ 144) (h1 : 3 ≤ pl ∧ pl ≤ 4) : CutNum n pl d D := by
  have a := Int.emod_nonneg (d + D - 1) (show pl ≠ 0 by omega)
  have b := Int.emod_lt_of_pos (d + D - 1) (show 0 < pl by omega)
  have m0 : 0 ≤ n * ((d + D - 1) % pl) := Int.mul_nonneg h0.1 a
  have m1 : n * ((d + D - 1) % pl) ≤ 144 * 3 := Int.mul_le_mul h0.2 (by omega) a (by omega)
  refine ⟨⟨a, by omega⟩, ⟨m0, m1⟩, ⟨Int.ediv_nonneg m0 (by omega), ?_⟩⟩
  have := Int.ediv_le_self pl m0
  omega


set_option maxRecDepth 100000 in
set_option maxHeartbeats 4000000 in
theorem Cut_any (v v2 : Value) (s : TSet) (dl : Int) (dice : List Int) (w : World) (h : IsSet w v s) (h2 : IsInts w v2 dice) :
    Calls Try.prog 45 #[v, .int .i64 dl, v2] w (Gives w (.tuple #[.int .i64 (cutV s dl dice), .int .i64 (cutErr s dl dice)])) := by
  have hfin : ∀ (x r : Int) wf, cutErr s dl dice = r → cutV s dl dice = x → Grow w wf → Gives w (.tuple #[.int .i64 (cutV s dl dice), .int .i64 (cutErr s dl dice)]) (.returned (.tuple #[.int .i64 x, .int .i64 r])) wf := fun x r wf h hx hg => ⟨by rw [h, hx], hg⟩
  have HF := hid hfin
  have HFB := hid (fun (r : Int) wf (hr : cutErr s dl dice = r) (hne : r ≠ 0) (hg : Grow w wf) => hfin 0 r wf hr (by unfold cutV; rw [if_neg (by rw [hr]; exact hne)]) hg)
  have CH := fun W (hg : Grow w W) => Check_any v s W (h.grow hg)
  have SZ := hid (fun W (hg : Grow w W) => Size_any v s W (h.grow hg))
  have HD := hid (fun W (hg : Grow w W) => h2.grow hg)
  clear hfin
  obtain ⟨AD, cD, rfl, q1, q2, rD⟩ := h2
  unfold maxLen at q2
  have HRD := hid rD
  clear rD
  have HI := hid h
  obtain ⟨A, c, B, d, rfl, h1, h2⟩ := h.open_
  obtain ⟨_, _, e1, c1, m1, r1⟩ := h1
  obtain ⟨_, _, e2, d1, m2, r2⟩ := h2
  injection e1 with e1 _ e1'
  injection e2 with e2 _ e2'
  subst e1 e1' e2 e2'
  unfold maxLen at m1 m2
  have HG0 := hid (show Grow w (w.alloc (.cells #[.int .i64 s.pl, .slice A s.su.length c, .int .i64 s.wi, .int .i64 s.dr, .int .i64 s.fl, .int .i64 s.co, .int .i64 s.me, .int .i64 s.de, .slice B s.re.length d] 24)) from (Grow.refl w).alloc _)
  have HB0 := hid (show Blk (w.alloc (.cells #[.int .i64 s.pl, .slice A s.su.length c, .int .i64 s.wi, .int .i64 s.dr, .int .i64 s.fl, .int .i64 s.co, .int .i64 s.me, .int .i64 s.de, .slice B s.re.length d] 24)) w.heap.size 24 (setVals s (.slice A s.su.length c) (.slice B s.re.length d)) from heap_alloc_new w _)
  clear h
  by_cases e : chkErr s = 0
  · have V := valid_of e
    have HV := hid V
    rw [e] at CH
    have CH := hid CH
    have HE0 := hid e
    have hpl := V.pl
    clear V e
    by_cases b1 : dl < 0 ∨ s.pl ≤ dl
    · have HE := hid (show cutErr s dl dice = 2 by unfold cutErr; rw [if_neg (by have := HE0.out; omega), if_pos b1])

      rcases b1 with b1 | b1
      · go_enter Try.func45, Try.ntmps45
        go_wp2_with (go_at_call 38; refine (CH.out _ HG0.out).mono ?_; rintro e w1 ⟨rfl, hg1⟩; have hg := HG0.out.trans hg1; obtain ⟨c0, c1, c2, c3, c4, c5, c6, c7, c8⟩ := set_cells (HB0.out.grow hg1))
        go_ret2
        exact HFB.out _ _ HE.out (by decide) hg
      · have b0 : ¬ dl < 0 := by omega
        go_enter Try.func45, Try.ntmps45
        go_wp2_with (go_at_call 38; refine (CH.out _ HG0.out).mono ?_; rintro e w1 ⟨rfl, hg1⟩; have hg := HG0.out.trans hg1; obtain ⟨c0, c1, c2, c3, c4, c5, c6, c7, c8⟩ := set_cells (HB0.out.grow hg1))
        go_ret2
        exact HFB.out _ _ HE.out (by decide) hg
    have HE1 := hid (show cutErr s dl dice = if dice.length = 0 then 6 else if 4 < dice.length then 8 else if dice.any (fun x => decide (x < 1) || decide (6 < x)) = true then 2 else 0 by unfold cutErr; rw [if_neg (by have := HE0.out; omega), if_neg b1])
    have a0 : ¬ dl < 0 := by omega
    have a1 : ¬ s.pl ≤ dl := by omega
    by_cases b2 : dice.length = 0
    · have HE := hid (HE1.out.trans (if_pos b2))
      have b3 : ((dice.length : Int) == 0) = true := by simp [b2]
      have b4 : (dice.length == 0) = true := by simp [b2]
      clear b1
      go_enter Try.func45, Try.ntmps45
      go_wp2_with (first | (go_at_call 38; refine (CH.out _ HG0.out).mono ?_; rintro e w1 ⟨rfl, hg1⟩; have hg := HG0.out.trans hg1; obtain ⟨c0, c1, c2, c3, c4, c5, c6, c7, c8⟩ := set_cells (HB0.out.grow hg1)))
      go_ret2
      exact HFB.out _ _ HE.out (by decide) hg
    have b3 : ((dice.length : Int) == 0) = false := beq_eq_false_iff_ne.2 (by omega)
    have b3' : dice.isEmpty = false := by cases dice with | nil => simp at b2 | cons => rfl
    by_cases b4 : 4 < dice.length
    · have HE := hid (HE1.out.trans ((if_neg b2).trans (if_pos b4)))
      have b5 : (4 : Int) < (dice.length : Int) := by omega
      clear b1
      go_enter Try.func45, Try.ntmps45
      go_wp2_with (first | (go_at_call 38; refine (CH.out _ HG0.out).mono ?_; rintro e w1 ⟨rfl, hg1⟩; have hg := HG0.out.trans hg1; obtain ⟨c0, c1, c2, c3, c4, c5, c6, c7, c8⟩ := set_cells (HB0.out.grow hg1)))
      go_ret2
      exact HFB.out _ _ HE.out (by decide) hg
    have HE2 := hid (HE1.out.trans ((if_neg b2).trans (if_neg b4)))
    have b5 : ¬ (4 : Int) < (dice.length : Int) := by omega
    clear b1
    go_enter Try.func45, Try.ntmps45
    go_wp2_with (first | (go_at_call 38; refine (CH.out _ HG0.out).mono ?_; rintro e w1 ⟨rfl, hg1⟩; have hg := HG0.out.trans hg1; obtain ⟨c0, c1, c2, c3, c4, c5, c6, c7, c8⟩ := set_cells (HB0.out.grow hg1)))
    have HB1 := hid (HB0.out.grow hg1)
    have HG1 := hid hg
    clear hg1 hg
    go_loop [9, 38] (fun z i => ∃ k : Nat, k ≤ dice.length ∧ i = .int .i64 (k : Int) ∧ z = .int .i64 (sumI (dice.take k)) ∧ ∀ j (hj : j < dice.length), j < k → 1 ≤ dice[j] ∧ dice[j] ≤ 6) (fun _ i => dice.length - (intOf i).toNat)
    case atStart => exact ⟨0, Nat.zero_le _, rfl, by simp [sumI], by simp⟩
    case round =>
      obtain ⟨k, hk, rfl, rfl, hall⟩ := hrel
      have HA := hid hall
      have hsb := sumI_dice (l := dice.take k) fun z hz => by
        obtain ⟨j, hj, rfl⟩ := List.getElem_of_mem hz
        rw [List.length_take] at hj
        rw [List.getElem_take]
        exact hall j (by omega) (by omega)
      rw [List.length_take] at hsb
      clear hall
      by_cases hlt : k < dice.length
      · obtain ⟨ad, rfl, _, hx⟩ := (HRD.out.grow HG1.out).int hlt
        have i0 : (0 : Int) ≤ (k : Int) := by omega
        have i1 : (k : Int) < (dice.length : Int) := by omega
        have HT := hid (sumI_take dice hlt)
        have HM := hid (List.getElem_mem hlt)
        have NB := hid (fun (hb : dieB dice[k] = true) => HE2.out.trans (if_pos (List.any_eq_true.2 ⟨_, HM.out, hb⟩)))
        have NEW := hid (fun (hb : 1 ≤ dice[k] ∧ dice[k] ≤ 6) j (hj : j < dice.length) (hjk : j < k + 1) => (by
          by_cases e : j = k
          · subst e; exact hb
          · exact HA.out j hj (by omega) : 1 ≤ dice[j] ∧ dice[j] ≤ 6))
        generalize dice[k] = z at *
        by_cases hz : 1 ≤ z ∧ z ≤ 6
        · have N2 := hid (NEW.out hz)
          have z0 : ¬ z < 1 := by omega
          have z1 : ¬ 6 < z := by omega
          skip
          have hs1 : 0 ≤ sumI (dice.take k) := by omega
          have hs2 : sumI (dice.take k) ≤ 24 := by omega
          clear hsb
          go_wp2
          exact ⟨⟨k + 1, by omega, by go_num, by rw [HT.out], N2.out⟩, by simp only [intOf]; omega⟩
        · have HE := hid (NB.out (by unfold dieB; simp; omega))
          by_cases hz0 : z < 1
          · clear hz
            go_wp2
            go_ret2
            exact HFB.out _ _ HE.out (by decide) HG1.out
          · have hz1 : 6 < z := by omega
            clear hz
            go_wp2
            go_ret2
            exact HFB.out _ _ HE.out (by decide) HG1.out
      · obtain rfl : k = dice.length := by omega
        rw [List.take_length] at *
        have HE := hid (show cutErr s dl dice = 0 by
          rw [HE2.out, if_neg]
          intro hb
          obtain ⟨z, hz, hb⟩ := List.any_eq_true.1 hb
          obtain ⟨j, hj, rfl⟩ := List.getElem_of_mem hz
          have := HA.out j hj hj
          simp at hb
          omega)
        have HE3 := hid (show cutV s dl dice = (sizeI s * ((dl + sumI dice - 1) % s.pl) / s.pl + 2 * sumI dice) % sizeI s by unfold cutV; rw [if_pos HE.out]; rfl)
        have hsz := size_bound s
        have hsp : 0 < sizeI s := by
          have h1 := HV.out.full
          have h2 := mul_52 hpl HV.out.me
          have h3 := HV.out.de
          rw [size_ok HE0.out]; omega
        have cn := cut_num (d := dl) (D := sumI dice) hsz hpl
        have s0 := cn.s0
        have m0 := cn.m0
        have q0 := cn.q0
        have ge : ¬ (dice.length : Int) < (dice.length : Int) := by omega
        have hd0 : 1 ≤ sumI dice := by omega
        have hd1 : sumI dice ≤ 24 := by omega
        have t1 : (dl + sumI dice - 1).tmod s.pl = (dl + sumI dice - 1) % s.pl := Int.tmod_eq_emod_of_nonneg (by omega)
        have t2 : (sizeI s * ((dl + sumI dice - 1) % s.pl)).tdiv s.pl = sizeI s * ((dl + sumI dice - 1) % s.pl) / s.pl := Int.tdiv_eq_ediv_of_nonneg (by omega)
        have t3 : (sizeI s * ((dl + sumI dice - 1) % s.pl) / s.pl + 2 * sumI dice).tmod (sizeI s) = (sizeI s * ((dl + sumI dice - 1) % s.pl) / s.pl + 2 * sumI dice) % sizeI s := Int.tmod_eq_emod_of_nonneg (by omega)
        have T1 := hid t1
        have T2 := hid t2
        have T3 := hid t3
        have CN := hid cn
        clear hsb t1 t2 t3 cn
        generalize sumI dice = D at *
        generalize sizeI s = n at *
        go_wp2_with (go_at_call 30; refine (SZ.out _ HG1.out).mono ?_; rintro e w2 ⟨rfl, hg2⟩; have hgg := HG1.out.trans hg2; clear c0 c1 c2 c3 c4 c5 c6 c7 c8; obtain ⟨c0, c1, c2, c3, c4, c5, c6, c7, c8⟩ := set_cells (HB1.out.grow hg2))
        go_ret2
        exact HF.out _ _ _ HE.out HE3.out hgg
  · have HE := hid (show cutErr s dl dice = chkErr s by unfold cutErr; rw [if_pos e])
    have ne : (chkErr s != 0) = true := by simp [e]
    have HN := hid e
    have CH := hid CH
    clear e
    generalize chkErr s = n at *
    go_enter Try.func45, Try.ntmps45
    go_wp2_with (go_at_call 38; refine (CH.out _ HG0.out).mono ?_; rintro e w1 ⟨rfl, hg1⟩; have hg := HG0.out.trans hg1; obtain ⟨c0, c1, c2, c3, c4, c5, c6, c7, c8⟩ := set_cells (HB0.out.grow hg1))
    go_ret2
    exact HFB.out _ _ HE.out HN.out hg

set_option maxRecDepth 100000 in
set_option maxHeartbeats 4000000 in
theorem rCut_any (v v2 : Value) (s : TSet) (dl : Int) (dice : List Int) (w : World) (h : IsSet w v s) (h2 : IsInts w v2 dice) :
    Calls Try.prog 46 #[v, .int .i64 dl, v2] w (Gives w (.tuple #[.int .i64 (cutV s dl dice), .int .i64 (cutErr s dl dice)])) := by
  have hfin : ∀ (x r : Int) wf, cutErr s dl dice = r → cutV s dl dice = x → Grow w wf → Gives w (.tuple #[.int .i64 (cutV s dl dice), .int .i64 (cutErr s dl dice)]) (.returned (.tuple #[.int .i64 x, .int .i64 r])) wf := fun x r wf h hx hg => ⟨by rw [h, hx], hg⟩
  have HF := hid hfin
  have HFB := hid (fun (r : Int) wf (hr : cutErr s dl dice = r) (hne : r ≠ 0) (hg : Grow w wf) => hfin 0 r wf hr (by unfold cutV; rw [if_neg (by rw [hr]; exact hne)]) hg)
  have CH := fun W (hg : Grow w W) => rCheck_any v s W (h.grow hg)
  have SZ := hid (fun W (hg : Grow w W) => rSize_any v s W (h.grow hg))
  have HD := hid (fun W (hg : Grow w W) => h2.grow hg)
  clear hfin
  obtain ⟨AD, cD, rfl, q1, q2, rD⟩ := h2
  unfold maxLen at q2
  have HRD := hid rD
  clear rD
  have HI := hid h
  obtain ⟨A, c, B, d, rfl, h1, h2⟩ := h.open_
  obtain ⟨_, _, e1, c1, m1, r1⟩ := h1
  obtain ⟨_, _, e2, d1, m2, r2⟩ := h2
  injection e1 with e1 _ e1'
  injection e2 with e2 _ e2'
  subst e1 e1' e2 e2'
  unfold maxLen at m1 m2
  have HG0 := hid (show Grow w (w.alloc (.cells #[.int .i64 s.pl, .slice A s.su.length c, .int .i64 s.wi, .int .i64 s.dr, .int .i64 s.fl, .int .i64 s.co, .int .i64 s.me, .int .i64 s.de, .slice B s.re.length d] 24)) from (Grow.refl w).alloc _)
  have HB0 := hid (show Blk (w.alloc (.cells #[.int .i64 s.pl, .slice A s.su.length c, .int .i64 s.wi, .int .i64 s.dr, .int .i64 s.fl, .int .i64 s.co, .int .i64 s.me, .int .i64 s.de, .slice B s.re.length d] 24)) w.heap.size 24 (setVals s (.slice A s.su.length c) (.slice B s.re.length d)) from heap_alloc_new w _)
  clear h
  by_cases e : chkErr s = 0
  · have V := valid_of e
    have HV := hid V
    rw [e] at CH
    have CH := hid CH
    have HE0 := hid e
    have hpl := V.pl
    clear V e
    by_cases b1 : dl < 0 ∨ s.pl ≤ dl
    · have HE := hid (show cutErr s dl dice = 2 by unfold cutErr; rw [if_neg (by have := HE0.out; omega), if_pos b1])

      have hbt : btwB dl 0 (s.pl - 1) = false := btw_no (by omega)
      clear b1
      go_enter Try.func46, Try.ntmps46
      go_wp2_with (first | (go_at_call 39; refine (CH.out _ HG0.out).mono ?_; rintro e w1 ⟨rfl, hg1⟩; have hg := HG0.out.trans hg1; obtain ⟨c0, c1, c2, c3, c4, c5, c6, c7, c8⟩ := set_cells (HB0.out.grow hg1)) | (go_at_call 84; refine (between_any _ _ _ _).mono ?_; rintro e w9 ⟨rfl, rfl⟩))
      go_ret2
      exact HFB.out _ _ HE.out (by decide) hg
    have HE1 := hid (show cutErr s dl dice = if dice.length = 0 then 6 else if 4 < dice.length then 8 else if dice.any (fun x => decide (x < 1) || decide (6 < x)) = true then 2 else 0 by unfold cutErr; rw [if_neg (by have := HE0.out; omega), if_neg b1])
    have a0 : ¬ dl < 0 := by omega
    have a1 : ¬ s.pl ≤ dl := by omega
    have hbt : btwB dl 0 (s.pl - 1) = true := btw_yes (by omega)
    by_cases b2 : dice.length = 0
    · have HE := hid (HE1.out.trans (if_pos b2))
      have b3 : ((dice.length : Int) == 0) = true := by simp [b2]
      have b4 : (dice.length == 0) = true := by simp [b2]
      clear b1
      go_enter Try.func46, Try.ntmps46
      go_wp2_with (first | (go_at_call 39; refine (CH.out _ HG0.out).mono ?_; rintro e w1 ⟨rfl, hg1⟩; have hg := HG0.out.trans hg1; obtain ⟨c0, c1, c2, c3, c4, c5, c6, c7, c8⟩ := set_cells (HB0.out.grow hg1)) | (go_at_call 84; refine (between_any _ _ _ _).mono ?_; rintro e w9 ⟨rfl, rfl⟩))
      go_ret2
      exact HFB.out _ _ HE.out (by decide) hg
    have b3 : ((dice.length : Int) == 0) = false := beq_eq_false_iff_ne.2 (by omega)
    have b3' : dice.isEmpty = false := by cases dice with | nil => simp at b2 | cons => rfl
    by_cases b4 : 4 < dice.length
    · have HE := hid (HE1.out.trans ((if_neg b2).trans (if_pos b4)))
      have b5 : (4 : Int) < (dice.length : Int) := by omega
      clear b1
      go_enter Try.func46, Try.ntmps46
      go_wp2_with (first | (go_at_call 39; refine (CH.out _ HG0.out).mono ?_; rintro e w1 ⟨rfl, hg1⟩; have hg := HG0.out.trans hg1; obtain ⟨c0, c1, c2, c3, c4, c5, c6, c7, c8⟩ := set_cells (HB0.out.grow hg1)) | (go_at_call 84; refine (between_any _ _ _ _).mono ?_; rintro e w9 ⟨rfl, rfl⟩))
      go_ret2
      exact HFB.out _ _ HE.out (by decide) hg
    have HE2 := hid (HE1.out.trans ((if_neg b2).trans (if_neg b4)))
    have b5 : ¬ (4 : Int) < (dice.length : Int) := by omega
    clear b1
    go_enter Try.func46, Try.ntmps46
    go_wp2_with (first | (go_at_call 39; refine (CH.out _ HG0.out).mono ?_; rintro e w1 ⟨rfl, hg1⟩; have hg := HG0.out.trans hg1; obtain ⟨c0, c1, c2, c3, c4, c5, c6, c7, c8⟩ := set_cells (HB0.out.grow hg1)) | (go_at_call 84; refine (between_any _ _ _ _).mono ?_; rintro e w9 ⟨rfl, rfl⟩))
    have HB1 := hid (HB0.out.grow hg1)
    have HG1 := hid hg
    clear hg1 hg
    go_loop [9, 10] (fun z i => ∃ k : Nat, k ≤ dice.length ∧ i = .int .i64 (k : Int) ∧ z = .int .i64 (sumI (dice.take k)) ∧ ∀ j (hj : j < dice.length), j < k → 1 ≤ dice[j] ∧ dice[j] ≤ 6) (fun _ i => dice.length - (intOf i).toNat)
    case atStart => exact ⟨0, Nat.zero_le _, rfl, by simp [sumI], by simp⟩
    case round =>
      obtain ⟨k, hk, rfl, rfl, hall⟩ := hrel
      have HA := hid hall
      have hsb := sumI_dice (l := dice.take k) fun z hz => by
        obtain ⟨j, hj, rfl⟩ := List.getElem_of_mem hz
        rw [List.length_take] at hj
        rw [List.getElem_take]
        exact hall j (by omega) (by omega)
      rw [List.length_take] at hsb
      clear hall
      by_cases hlt : k < dice.length
      · obtain ⟨ad, rfl, _, hx⟩ := (HRD.out.grow HG1.out).int hlt
        have i0 : (0 : Int) ≤ (k : Int) := by omega
        have i1 : (k : Int) < (dice.length : Int) := by omega
        have HT := hid (sumI_take dice hlt)
        have HM := hid (List.getElem_mem hlt)
        have NB := hid (fun (hb : dieB dice[k] = true) => HE2.out.trans (if_pos (List.any_eq_true.2 ⟨_, HM.out, hb⟩)))
        have NEW := hid (fun (hb : 1 ≤ dice[k] ∧ dice[k] ≤ 6) j (hj : j < dice.length) (hjk : j < k + 1) => (by
          by_cases e : j = k
          · subst e; exact hb
          · exact HA.out j hj (by omega) : 1 ≤ dice[j] ∧ dice[j] ≤ 6))
        generalize dice[k] = z at *
        by_cases hz : 1 ≤ z ∧ z ≤ 6
        · have N2 := hid (NEW.out hz)
          have z0 : ¬ z < 1 := by omega
          have z1 : ¬ 6 < z := by omega
          have hbz : btwB z 1 6 = true := btw_yes (by omega)
          have hs1 : 0 ≤ sumI (dice.take k) := by omega
          have hs2 : sumI (dice.take k) ≤ 24 := by omega
          clear hsb
          go_wp2_with (first | (go_at_call 84; refine (between_any _ _ _ _).mono ?_; rintro e w9 ⟨rfl, rfl⟩))
          exact ⟨⟨k + 1, by omega, by go_num, by rw [HT.out], N2.out⟩, by simp only [intOf]; omega⟩
        · have HE := hid (NB.out (by unfold dieB; simp; omega))
          have hbz : btwB z 1 6 = false := btw_no (by omega)
          clear hz
          go_wp2_with (first | (go_at_call 84; refine (between_any _ _ _ _).mono ?_; rintro e w9 ⟨rfl, rfl⟩))
          go_ret2
          exact HFB.out _ _ HE.out (by decide) HG1.out
      · obtain rfl : k = dice.length := by omega
        rw [List.take_length] at *
        have HE := hid (show cutErr s dl dice = 0 by
          rw [HE2.out, if_neg]
          intro hb
          obtain ⟨z, hz, hb⟩ := List.any_eq_true.1 hb
          obtain ⟨j, hj, rfl⟩ := List.getElem_of_mem hz
          have := HA.out j hj hj
          simp at hb
          omega)
        have HE3 := hid (show cutV s dl dice = (sizeI s * ((dl + sumI dice - 1) % s.pl) / s.pl + 2 * sumI dice) % sizeI s by unfold cutV; rw [if_pos HE.out]; rfl)
        have hsz := size_bound s
        have hsp : 0 < sizeI s := by
          have h1 := HV.out.full
          have h2 := mul_52 hpl HV.out.me
          have h3 := HV.out.de
          rw [size_ok HE0.out]; omega
        have cn := cut_num (d := dl) (D := sumI dice) hsz hpl
        have s0 := cn.s0
        have m0 := cn.m0
        have q0 := cn.q0
        have ge : ¬ (dice.length : Int) < (dice.length : Int) := by omega
        have hd0 : 1 ≤ sumI dice := by omega
        have hd1 : sumI dice ≤ 24 := by omega
        have t1 : (dl + sumI dice - 1).tmod s.pl = (dl + sumI dice - 1) % s.pl := Int.tmod_eq_emod_of_nonneg (by omega)
        have t2 : (sizeI s * ((dl + sumI dice - 1) % s.pl)).tdiv s.pl = sizeI s * ((dl + sumI dice - 1) % s.pl) / s.pl := Int.tdiv_eq_ediv_of_nonneg (by omega)
        have t3 : (sizeI s * ((dl + sumI dice - 1) % s.pl) / s.pl + 2 * sumI dice).tmod (sizeI s) = (sizeI s * ((dl + sumI dice - 1) % s.pl) / s.pl + 2 * sumI dice) % sizeI s := Int.tmod_eq_emod_of_nonneg (by omega)
        have T1 := hid t1
        have T2 := hid t2
        have T3 := hid t3
        have CN := hid cn
        clear hsb t1 t2 t3 cn
        generalize sumI dice = D at *
        generalize sizeI s = n at *
        have f1 : IntKind.i64.wrap (dl + D) = dl + D := IntWalk.i64_in _ (by omega)
        have f2 : IntKind.i64.wrap (dl + D - 1) = dl + D - 1 := IntWalk.i64_in _ (by omega)
        have f3 : IntKind.i64.wrap ((dl + D - 1) % s.pl) = (dl + D - 1) % s.pl := IntWalk.i64_in _ (by omega)
        have f4 := T1.out
        have f5 : ¬ s.pl = 0 := by omega
        have f6 : (s.pl == 0) = false := beq_eq_false_iff_ne.2 f5
        have f7 : IntKind.i64.wrap ((dl + D - 1).tmod s.pl) = (dl + D - 1) % s.pl := by rw [f4]; exact f3
        have KS := hid (fun W (hg2 : Grow w1 W) => And.intro hg2 (set_cells (HB1.out.grow hg2)))
        go_wp2
        go_region_held3 (fun W => Grow w1 W ∧ W.cell? ⟨w.heap.size, 0, none⟩ = some (.int .i64 s.pl) ∧ W.cell? ⟨w.heap.size, 1, none⟩ = some (.slice A s.su.length c) ∧ W.cell? ⟨w.heap.size, 2, none⟩ = some (.int .i64 s.wi) ∧ W.cell? ⟨w.heap.size, 3, none⟩ = some (.int .i64 s.dr) ∧ W.cell? ⟨w.heap.size, 4, none⟩ = some (.int .i64 s.fl) ∧ W.cell? ⟨w.heap.size, 5, none⟩ = some (.int .i64 s.co) ∧ W.cell? ⟨w.heap.size, 6, none⟩ = some (.int .i64 s.me) ∧ W.cell? ⟨w.heap.size, 7, none⟩ = some (.int .i64 s.de) ∧ W.cell? ⟨w.heap.size, 8, none⟩ = some (.slice B s.re.length d))
          (exact KS.out _ (by first | assumption | exact (Grow.refl _).drew))
          ((go_at_call 42; refine (SZ.out _ (HG1.out.trans (‹Grow w1 _ ∧ _›).1)).mono ?_; rintro e w2 ⟨rfl, hg2⟩; have hgg := (‹Grow w1 _ ∧ _›).1.trans hg2))
        all_goals
          clear f1 f2 f3 f4 f5 f6 f7 c0 c1 c2 c3 c4 c5 c6 c7 c8
          obtain ⟨-, c0, c1, c2, c3, c4, c5, c6, c7, c8⟩ := KS.out _ hgg
          go_wp2
          go_ret2
          exact HF.out _ _ _ HE.out HE3.out (HG1.out.trans hgg)
  · have HE := hid (show cutErr s dl dice = chkErr s by unfold cutErr; rw [if_pos e])
    have ne : (chkErr s != 0) = true := by simp [e]
    have HN := hid e
    have CH := hid CH
    clear e
    generalize chkErr s = n at *
    go_enter Try.func46, Try.ntmps46
    go_wp2_with (go_at_call 39; refine (CH.out _ HG0.out).mono ?_; rintro e w1 ⟨rfl, hg1⟩; have hg := HG0.out.trans hg1; obtain ⟨c0, c1, c2, c3, c4, c5, c6, c7, c8⟩ := set_cells (HB0.out.grow hg1))
    go_ret2
    exact HFB.out _ _ HE.out HN.out hg
end Go.Proofs.Ytjiahcfegfimmaa
