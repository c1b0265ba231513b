/-
  The walk of the law ChanceOrder.
-/
import Derived.Test.YtgphdaipgodjgaaWBetter
import Derived.Test.YtgphdaipgodjgaaOrd
namespace Go.Proofs.Ytgphdaipgodjgaa
open Go.RowKit

theorem better_fair (v1 v2 : Value) (a b c d : Int) (w : World) (h1 : IsOdds w v1 a b) (h2 : IsOdds w v2 c d) (hf : Fair a b) (hb : b < radix 40) (kf : Fair c d) (hd : d < radix 40) :
    Calls Try.prog 17 #[v1, v2] w (Gives w (.int .i64 (betterV a b c d))) :=
  Better_odds v1 v2 a b c d w h1 h2 (Int.lt_of_le_of_lt hf.2.1 hb) hb (Int.lt_of_le_of_lt kf.2.1 hd) hd

theorem IsOdds.nat1 {w : World} {v1 v2 : Value} {a b : Int} (h : IsOdds w (.agg #[v1, v2]) a b) : IsNat w v1 a := by
  obtain ⟨_, _, e, h1, _⟩ := h
  injection e with e
  injection e with e
  injection e with e1 e
  subst e1
  exact h1.1
theorem IsOdds.nat2 {w : World} {v1 v2 : Value} {a b : Int} (h : IsOdds w (.agg #[v1, v2]) a b) : IsNat w v2 b := by
  obtain ⟨_, _, e, _, h2⟩ := h
  injection e with e
  injection e with e
  injection e with e1 e
  injection e with e2 e
  subst e2
  exact h2.1
theorem IsNat.open_ {w : World} {v : Value} {n : Int} (h : IsNat w v n) : ∃ A m c, v = .slice A m c := by
  obtain ⟨_, _, _, A, c, rfl, _⟩ := h
  exact ⟨A, _, c, rfl⟩
theorem better_fairN (x1 x2 v2 : Value) (a b c d : Int) (w : World) (h1 : IsNat w x1 a) (h1' : IsNat w x2 b) (h2 : IsOdds w v2 c d) (hf : Fair a b) (hb : b < radix 40) (kf : Fair c d) (hd : d < radix 40) :
    Calls Try.prog 17 #[.agg #[x1, x2], v2] w (Gives w (.int .i64 (betterV a b c d))) := by
  obtain ⟨zs1, k1, rfl, i1⟩ := h1
  obtain ⟨zs2, k2, rfl, i2⟩ := h1'
  obtain ⟨y1, y2, rfl, ⟨⟨zs3, k3, rfl, i3⟩, _⟩, ⟨⟨zs4, k4, rfl, i4⟩, _⟩⟩ := h2
  have h := Better_any _ _ _ _ zs1 zs2 zs3 zs4 w i1 i2 i3 i4
  have e : betterI zs1 zs2 zs3 zs4 = betterV (val zs1) (val zs2) (val zs3) (val zs4) := by
    unfold betterI betterV
    rw [fairB_val k1 k2 (Int.lt_of_le_of_lt hf.2.1 hb) hb, fairB_val k3 k4 (Int.lt_of_le_of_lt kf.2.1 hd) hd]
    have e3 : (decide (0 < val zs2) && decide (val zs1 ≤ val zs2) && (decide (0 < val zs4) && decide (val zs3 ≤ val zs4))) = decide ((0 < val zs2 ∧ val zs1 ≤ val zs2) ∧ (0 < val zs4 ∧ val zs3 ≤ val zs4)) := by simp only [Bool.decide_and]
    rw [e3]
    by_cases hP : (0 < val zs2 ∧ val zs1 ≤ val zs2) ∧ (0 < val zs4 ∧ val zs3 ≤ val zs4)
    · rw [decide_eq_true hP, if_pos rfl, if_pos hP]
    · rw [decide_eq_false hP, if_neg (by simp), if_neg hP]
  rw [e] at h
  exact h
theorem mul_lt40 {a m : Int} (_h0 : 0 ≤ a) (h : a < radix 2) (m0 : 0 ≤ m) (m1 : m < 1000000000) : a * m < radix 40 := by
  have h3 := radix_mono (show 3 ≤ 40 by omega)
  have h4 : a * m ≤ radix 2 * m := Int.mul_le_mul_of_nonneg_right (by omega) m0
  have h5 : radix 2 * m < radix 2 * 1000000000 := Int.mul_lt_mul_of_pos_left m1 (radix_pos 2)
  have h6 : radix 3 = radix 2 * 1000000000 := by simp [radix]
  omega

set_option maxRecDepth 100000 in
set_option maxHeartbeats 8000000 in
theorem walkChanceOrder (v : Value) (ns : List Int) (n : Int) (w : World) (h : IsInts w v ns) (_hz : ∀ z ∈ ns, (Lit.int .i64 z).wf = true) (wn : (Lit.int .i64 n).wf = true) :
    Calls Try.prog 4 #[v, .int .i64 n] w (Gives w (.bool true)) := by
  obtain ⟨n0, n1⟩ := wf_range wn
  clear wn _hz
  go_enter Try.func4, Try.ntmps4
  go_wp2_with fail
  refine (NewSource_any _ _ _ h).mono ?_
  rintro e w1 ⟨g, rfl, gg, hs1, hg1⟩
  go_wp2_with fail
  refine (OddsOf_any g _ hs1).mono ?_
  rintro e w2 ⟨vA, a1, a2, rfl, kA, fa1, fa2, fa3, fa4, hs2, hb2⟩
  obtain ⟨A1, l1, c1, A2, l2, c2, rfl, kA1, kA2⟩ := kA.open_
  go_wp2_with fail
  refine (OddsOf_any g _ hs2).mono ?_
  rintro e w3 ⟨vB, b1, b2, rfl, kB, fb1, fb2, fb3, fb4, hs3, hb3⟩
  obtain ⟨B1, m1, d1, B2, m2, d2, rfl, kB1, kB2⟩ := kB.open_
  have kA' := kA.src hb3 hs2
  clear kA1 kA2 kB1 kB2 kA
  go_wp2_with fail
  refine (OddsOf_any g _ hs3).mono ?_
  rintro e w4 ⟨vC, e1, e2, rfl, kC, fc1, fc2, fc3, fc4, hs4, hb4⟩
  obtain ⟨C1, p1, q1, C2, p2, q2, rfl, kC1, kC2⟩ := kC.open_
  have kA := kA'.src hb4 hs3
  have kB' := kB.src hb4 hs3
  have gW : Grow w w4 := ((hb2.trans hb3).trans hb4).grow hg1 gg
  clear kC1 kC2 kA' kB hs1 hs2 hs3 hs4 hb2 hb3 hb4 hg1 gg h
  go_wp2_with fail
  have gZ : Grow w4 (((w4.alloc (.cells #[.slice A1 l1 c1, .slice A2 l2 c2] 25)).alloc (.cells #[.slice B1 m1 d1, .slice B2 m2 d2] 25)).alloc (.cells #[.slice C1 p1 q1, .slice C2 p2 q2] 25)) := (((Grow.refl _).alloc _).alloc _).alloc _
  have lA : Blk (((w4.alloc (.cells #[.slice A1 l1 c1, .slice A2 l2 c2] 25)).alloc (.cells #[.slice B1 m1 d1, .slice B2 m2 d2] 25)).alloc (.cells #[.slice C1 p1 q1, .slice C2 p2 q2] 25)) w4.heap.size 25 [.slice A1 l1 c1, .slice A2 l2 c2] := Blk.grow (Blk.new_at (xs := [.slice A1 l1 c1, .slice A2 l2 c2]) rfl) (((Grow.refl _).alloc _).alloc _)
  have lB : Blk (((w4.alloc (.cells #[.slice A1 l1 c1, .slice A2 l2 c2] 25)).alloc (.cells #[.slice B1 m1 d1, .slice B2 m2 d2] 25)).alloc (.cells #[.slice C1 p1 q1, .slice C2 p2 q2] 25)) (w4.heap.size + 1) 25 [.slice B1 m1 d1, .slice B2 m2 d2] := Blk.grow (Blk.new_at (xs := [.slice B1 m1 d1, .slice B2 m2 d2]) (by simp)) ((Grow.refl _).alloc _)
  have lC : Blk (((w4.alloc (.cells #[.slice A1 l1 c1, .slice A2 l2 c2] 25)).alloc (.cells #[.slice B1 m1 d1, .slice B2 m2 d2] 25)).alloc (.cells #[.slice C1 p1 q1, .slice C2 p2 q2] 25)) (w4.heap.size + 1 + 1) 25 [.slice C1 p1 q1, .slice C2 p2 q2] := Blk.new_at (xs := [.slice C1 p1 q1, .slice C2 p2 q2]) (by simp)
  have iA := kA.grow gZ
  have iB := kB'.grow gZ
  have iC := kC.grow gZ
  have gWZ := gW.trans gZ
  clear kA kB' kC gZ gW
  generalize (((w4.alloc (.cells #[.slice A1 l1 c1, .slice A2 l2 c2] 25)).alloc (.cells #[.slice B1 m1 d1, .slice B2 m2 d2] 25)).alloc (.cells #[.slice C1 p1 q1, .slice C2 p2 q2] 25)) = wz at *
  generalize w4.heap.size = L at *
  have q0 := lA.cell 0
  have q1' := lA.cell 1
  have q2' := lB.cell 0
  have q3 := lB.cell 1
  have q4 := lC.cell 0
  have q5 := lC.cell 1
  simp only [List.getElem?_cons_zero, List.getElem?_cons_succ] at q0 q1' q2' q3 q4 q5
  have KS := hid (fun W (hg : Grow wz W) => (⟨hg, hg.cell_some q0, hg.cell_some q1', hg.cell_some q2', hg.cell_some q3, hg.cell_some q4, hg.cell_some q5⟩ : Grow wz W ∧ W.cell? ⟨L, 0, none⟩ = some (.slice A1 l1 c1) ∧ W.cell? ⟨L, 1, none⟩ = some (.slice A2 l2 c2) ∧ W.cell? ⟨L + 1, 0, none⟩ = some (.slice B1 m1 d1) ∧ W.cell? ⟨L + 1, 1, none⟩ = some (.slice B2 m2 d2) ∧ W.cell? ⟨L + 1 + 1, 0, none⟩ = some (.slice C1 p1 q1) ∧ W.cell? ⟨L + 1 + 1, 1, none⟩ = some (.slice C2 p2 q2)))
  have fA : Fair a1 a2 := ⟨fa1, fa2, fa3⟩
  have fB : Fair b1 b2 := ⟨fb1, fb2, fb3⟩
  have fC : Fair e1 e2 := ⟨fc1, fc2, fc3⟩
  have r40 : radix 2 ≤ radix 40 := radix_mono (by omega)
  have hB := hid (fun W (hg : Grow wz W) => better_fair _ _ _ _ _ _ W (iA.grow hg) (iB.grow hg) fA (Int.lt_of_lt_of_le fa4 r40) fB (Int.lt_of_lt_of_le fb4 r40))
  have hC := hid (fun W (hg : Grow wz W) => better_fair _ _ _ _ _ _ W (iB.grow hg) (iC.grow hg) fB (Int.lt_of_lt_of_le fb4 r40) fC (Int.lt_of_lt_of_le fc4 r40))
  have hAC := hid (fun W (hg : Grow wz W) => better_fair _ _ _ _ _ _ W (iA.grow hg) (iC.grow hg) fA (Int.lt_of_lt_of_le fa4 r40) fC (Int.lt_of_lt_of_le fc4 r40))
  have hBA := hid (fun W (hg : Grow wz W) => better_fair _ _ _ _ _ _ W (iB.grow hg) (iA.grow hg) fB (Int.lt_of_lt_of_le fb4 r40) fA (Int.lt_of_lt_of_le fa4 r40))
  have hAA := hid (fun W (hg : Grow wz W) => better_fair _ _ _ _ _ _ W (iA.grow hg) (iA.grow hg) fA (Int.lt_of_lt_of_le fa4 r40) fA (Int.lt_of_lt_of_le fa4 r40))
  rw [better_neg fA fB] at hBA
  rw [better_same fA] at hAA
  have o3 := hid (ord3 fA fB fC)
  have R40 := hid r40
  have FA4 := hid fa4
  have FB4 := hid fb4
  have hsc := hid (fun m (hm : 0 < m) => (⟨(better_scale fA fA hm).trans (better_same fA), better_scale fA fB hm, fA.mul hm⟩ : betterV (a1 * m) (a2 * m) a1 a2 = 0 ∧ betterV (a1 * m) (a2 * m) b1 b2 = betterV a1 a2 b1 b2 ∧ Fair (a1 * m) (a2 * m)))
  generalize betterV a1 a2 b1 b2 = ab at *
  generalize betterV b1 b2 e1 e2 = bc at *
  generalize betterV a1 a2 e1 e2 = ac at *
  clear q0 q1' q2' q3 q4 q5 lA lB lC r40 fc1 fc2 fc3 fc4 fb1 fb2 fb3 fa1 fa2 fa3 fa4
  have mk1 : 0 ≤ 0 := Nat.le_refl _
  have mk2 : 0 ≤ 0 := Nat.le_refl _
  go_region_held3 (fun W => Grow wz W ∧ W.cell? ⟨L, 0, none⟩ = some (.slice A1 l1 c1) ∧ W.cell? ⟨L, 1, none⟩ = some (.slice A2 l2 c2) ∧ W.cell? ⟨L + 1, 0, none⟩ = some (.slice B1 m1 d1) ∧ W.cell? ⟨L + 1, 1, none⟩ = some (.slice B2 m2 d2) ∧ W.cell? ⟨L + 1 + 1, 0, none⟩ = some (.slice C1 p1 q1) ∧ W.cell? ⟨L + 1 + 1, 1, none⟩ = some (.slice C2 p2 q2))
    (exact KS.out _ (by first | assumption | exact (Grow.refl _).drew | exact Grow.alloc (by assumption) _))
    (first
      | (clear mk1; go_at_call 17; have hS := (‹Grow wz _ ∧ _›).1; refine (hB.out _ hS).mono ?_; rintro e wA ⟨rfl, hgA⟩; have hkA := hS.trans hgA)
      | (clear mk2; go_at_call 17; have hS := (‹Grow wz _ ∧ _›).1; refine (hC.out _ hS).mono ?_; rintro e wB ⟨rfl, hgB⟩; have hkB := hS.trans hgB)
      | (go_at_call 17; have hS := (‹Grow wz _ ∧ _›).1; refine (hAC.out _ hS).mono ?_; rintro e wC ⟨rfl, hgC⟩; have hkC := hS.trans hgC))
  have e0 := Int.emod_nonneg n (show (999 : Int) ≠ 0 by omega)
  have e1' := Int.emod_lt_of_pos n (show (0 : Int) < 999 by omega)
  have I0 := hid (fun W => Into_any n 999 W n0 n1 (by omega) (by omega))
  generalize n % 999 = m at *
  obtain ⟨_, t0, t1, t2, t3, t4, t5⟩ := KS.out _ hkC
  have KD := hid fun W (hg : Grow wC W) => KS.out W (hkC.trans hg)
  have KA := hid fun W (hg : Grow wC W) => iA.grow (hkC.trans hg)
  have KB := hid fun W (hg : Grow wC W) => iB.grow (hkC.trans hg)
  have HBA := hid (hBA.out _ hkC)
  have HAA := hid fun W (hg : Grow wC W) => hAA.out W (hkC.trans hg)
  have HS := hid (hsc.out (1 + m) (by omega))
  have OO := o3.out
  have GWC := hid (gWZ.trans hkC)
  clear hB hC hAC hBA hAA o3 hsc iA iB iC KS hkC hgC hgB hgA gWZ n0 n1
  have PA1 := hid (Int.lt_of_le_of_lt fA.2.1 (Int.lt_of_lt_of_le FA4.out R40.out))
  have PA2 := hid (Int.lt_of_lt_of_le FA4.out R40.out)
  have PB2 := hid (Int.lt_of_lt_of_le FB4.out R40.out)
  have PM := hid (lt_radix40 (show 1 + m < 1000000000 by omega))
  have PR1 := hid (mul_lt40 fA.1 (Int.lt_of_le_of_lt fA.2.1 FA4.out) (show 0 ≤ 1 + m by omega) (by omega))
  have PR2 := hid (mul_lt40 (Int.le_of_lt fA.2.2) FA4.out (show 0 ≤ 1 + m by omega) (by omega))
  have FA := hid fA
  have FB := hid fB
  clear hkA hkB fA fB fC
  unfold Ord3 at OO
  rcases OO with ⟨rfl, rfl, rfl⟩ | ⟨rfl, rfl, rfl⟩ | ⟨rfl, rfl, rfl⟩ | ⟨rfl, rfl, rfl⟩ | ⟨rfl, rfl, rfl⟩ | ⟨rfl, rfl, rfl⟩ | ⟨rfl, rfl, rfl⟩ | ⟨rfl, rfl⟩ | ⟨rfl, rfl⟩
  all_goals
    go_wp2_with fail
    refine HBA.out.mono ?_
    rintro e wD ⟨rfl, gD⟩
    have gCD := gD
    obtain ⟨_, u0, u1, _, _, _, _⟩ := KD.out _ gCD
    go_wp2_with fail
    refine (HAA.out _ gCD).mono ?_
    rintro e wE ⟨rfl, gE⟩
    have gCE := gCD.trans gE
    go_wp2_with fail
    refine (I0.out _).mono ?_
    rintro e wF ⟨rfl, rfl⟩
    go_wp2_with fail
    refine (number_any _ [1 + m] _ (isInts_one _ _)).mono ?_
    rintro e wG ⟨rfl, rfl⟩
    have kN := isNatF_one wE (1 + m) (by omega) (by omega)
    have gCG : Grow wC (wE.alloc (.cells #[.int .i64 (1 + m)] 3)) := gCE.alloc _
    obtain ⟨_, y0, y1, _, _, _, _⟩ := KD.out _ gCG
    generalize wE.alloc (.cells #[.int .i64 (1 + m)] 3) = wG at *
    go_wp2_with fail
    refine (Product_nat _ _ a1 (1 + m) _ ((KA.out _ gCG).nat1) kN.1 PA1.out PM.out PR1.out).mono ?_
    rintro e wH ⟨vX, rfl, kX, gX⟩
    obtain ⟨X, xl, xc, rfl⟩ := kX.open_
    have gCH := gCG.trans gX
    obtain ⟨_, z0, z1, _, _, _, _⟩ := KD.out _ gCH
    go_wp2_with fail
    refine (Product_nat _ _ a2 (1 + m) _ ((KA.out _ gCH).nat2) (kN.1.grow gX) PA2.out PM.out PR2.out).mono ?_
    rintro e wI ⟨vY, rfl, kY, gY⟩
    obtain ⟨Y, yl, yc, rfl⟩ := kY.open_
    have gCI := gCH.trans gY
    have kX' := kX.grow gY
    obtain ⟨_, s0, s1, s2, s3, _, _⟩ := KD.out _ gCI
    have B1 := better_fairN _ _ _ _ _ _ _ wI kX' kY (KA.out _ gCI) HS.out.2.2 PR2.out FA.out PA2.out
    rw [HS.out.1] at B1
    have B2 := fun W (hg : Grow wI W) => better_fairN _ _ _ _ _ _ _ W (kX'.grow hg) (kY.grow hg) (KB.out _ (gCI.trans hg)) HS.out.2.2 PR2.out FB.out PB2.out
    rw [HS.out.2.1] at B2
    have HB1 := hid B1
    have HB2 := hid B2
    clear B1 B2 kX kX' kY kN y0 y1 z0 z1 u0 u1 t0 t1 t2 t3 t4 t5
    go_wp2_with fail
    refine HB1.out.mono ?_
    rintro e wJ ⟨rfl, gJ⟩
    obtain ⟨_, r0, r1, r2, r3, _, _⟩ := KD.out _ (gCI.trans gJ)
    go_wp2_with fail
    refine (HB2.out _ gJ).mono ?_
    rintro e wK ⟨rfl, gK⟩
    go_wp2_with fail
    refine (awake_any _).mono ?_
    rintro e wL ⟨rfl, gL⟩
    go_wp2
    go_ret
    exact ⟨rfl, (((GWC.out.trans gCI).trans gJ).trans gK).trans gL⟩
end Go.Proofs.Ytgphdaipgodjgaa
