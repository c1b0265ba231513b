/-
  Walks of the reference: CheckNat, Binomial, which odds are better.
-/
import Derived.Test.YtgphdaipgodjgaaTri
import Derived.Test.YtgphdaipgodjgaaNatG
namespace Go.Proofs.Ytgphdaipgodjgaa
open Go.RowKit

theorem rBinomial_any (n k : Int) (w : World) : Calls Try.prog 22 #[.int .i64 n, .int .i64 k] w (NatRes w (if n < 0 ∨ 200 < n then 0 else chooseI n k)) := by
  by_cases h : n < 0 ∨ 200 < n
  · rw [if_pos h]
    rcases h with h | h
    · go_enter Try.func22, Try.ntmps22
      go_wp2
      go_ret
      exact ⟨_, rfl, IsNatF.nil, Grow.refl _⟩
    · go_enter Try.func22, Try.ntmps22
      go_wp2
      go_ret
      exact ⟨_, rfl, IsNatF.nil, Grow.refl _⟩
  · rw [if_neg h]
    obtain ⟨N, rfl⟩ := Int.eq_ofNat_of_zero_le (show 0 ≤ n by omega)
    have h1 : ¬ (N : Int) < 0 := by omega
    have h2 : ¬ 200 < (N : Int) := by omega
    clear h
    go_enter Try.func22, Try.ntmps22
    go_wp2_with (first
      | (go_at_call 59; refine (triangle_any N _ (by omega)).mono ?_; rintro e w1 ⟨v1, rfl, hn1, hg1⟩)
      | (go_at_call 58; refine (of_any _ (N + 1) N k _ hn1 (by omega)).mono ?_; rintro e w2 ⟨⟨u, rfl, hu⟩, rfl⟩))
    go_ret
    exact ⟨_, rfl, hu, hg1⟩

theorem rCheckNat_any (v : Value) (zs : List Int) (w : World) (h : IsInts w v zs) : Calls Try.prog 91 #[v] w (Same w (.int .i64 (natErr zs))) := by
  obtain ⟨A, c, rfl, hc, hm, hr⟩ := h
  unfold maxLen at hm
  have hfin : ∀ n, natErr zs = n → Same w (.int .i64 (natErr zs)) (.returned (.int .i64 n)) w := fun n hn => ⟨by rw [hn], rfl⟩
  have HF := hid hfin
  clear hfin
  generalize hE : natErr zs = E at *
  have HE := hid hE
  clear hE
  by_cases h1 : 40 < zs.length
  · have e : E = 5 := by rw [← HE.out]; unfold natErr; rw [if_pos h1]
    have HH := hid e
    clear e
    go_enter Try.func91, Try.ntmps91
    go_wp2
    go_ret
    exact HF.out 5 HH.out
  · have h40 : zs.length ≤ 40 := by omega
    go_enter Try.func91, Try.ntmps91
    go_wp2
    go_loop [3] (fun i => ∃ k : Nat, k ≤ zs.length ∧ i = .int .i64 k ∧ ∀ j, (h : j < zs.length) → j < k → digB zs[j] = false) (fun i => zs.length - (intOf i).toNat)
    case atStart => exact ⟨0, Nat.zero_le _, rfl, by simp⟩
    case round =>
      obtain ⟨k, hk, rfl, hz⟩ := hrel
      have HZ := hid hz
      clear hz
      by_cases hlt : k < zs.length
      · obtain ⟨ad, rfl, hb, hx⟩ := hr.int hlt
        by_cases hd : digB zs[k] = true
        · have e : E = 2 := by rw [← HE.out]; unfold natErr; rw [if_neg h1, if_pos (List.any_eq_true.2 ⟨_, List.getElem_mem hlt, hd⟩)]
          have HH := hid e
          clear e
          unfold digB at hd
          simp at hd
          by_cases hn : zs[k] < 0
          · clear hd
            go_wp2
            go_ret
            exact HF.out 2 HH.out
          · have hd' : 1000000000 ≤ zs[k] := by omega
            clear hd
            go_wp2
            go_ret
            exact HF.out 2 HH.out
        · have hd0 : digB zs[k] = false := by simpa using hd
          have HD := hid hd0
          unfold digB at hd
          simp at hd
          obtain ⟨d1, d2⟩ : 0 ≤ zs[k] ∧ zs[k] < 1000000000 := by omega
          clear hd hd0
          go_wp2
          refine ⟨⟨k + 1, by omega, by go_num, fun j h hj => ?_⟩, by simp only [intOf]; omega⟩
          by_cases e : j = k
          · subst e; exact HD.out
          · exact HZ.out j h (by omega)
      · have hany : zs.any digB = false := List.any_eq_false.2 fun x hx => by
          obtain ⟨j, hj, rfl⟩ := List.getElem_of_mem hx
          rw [HZ.out j hj (by omega)]
          simp
        by_cases h0 : 0 < zs.length
        · obtain ⟨ad, rfl, hb, hx⟩ := hr.int (k := zs.length - 1) (by omega)
          have e3 : zs.getLast? = some zs[zs.length - 1] := by rw [List.getLast?_eq_getElem?, List.getElem?_eq_getElem (by omega)]
          by_cases h3 : zs[zs.length - 1] = 0
          · have e : E = 3 := by rw [← HE.out]; unfold natErr; rw [if_neg h1, if_neg (by rw [hany]; simp), if_pos (by rw [e3, h3])]
            have he : (zs[zs.length - 1] == 0) = true := by simp [h3]
            have HH := hid e
            clear e h3 e3 hany
            go_wp2
            go_ret
            exact HF.out 3 HH.out
          · have e : E = 0 := by rw [← HE.out]; unfold natErr; rw [if_neg h1, if_neg (by rw [hany]; simp), if_neg (by rw [e3]; simpa using h3)]
            have he : (zs[zs.length - 1] == 0) = false := by simp [h3]
            have HH := hid e
            clear e h3 e3 hany
            go_wp2
            go_ret
            exact HF.out 0 HH.out
        · have hz : zs = [] := List.eq_nil_of_length_eq_zero (by omega)
          have e : E = 0 := by rw [← HE.out, hz]; exact natErr_canon Canon.nil (by simp)
          have HH := hid e
          clear e hz hany
          go_wp2
          go_ret
          exact HF.out 0 HH.out

theorem rfair_any (v1 v2 : Value) (xs ys : List Int) (w : World) (h1 : IsInts w v1 xs) (h2 : IsInts w v2 ys) :
    Calls Try.prog 54 #[.agg #[v1, v2]] w (Gives w (.bool (fairB xs ys))) := by
  obtain ⟨A1, c1, rfl, _⟩ := id h1
  obtain ⟨A2, c2, rfl, _⟩ := id h2
  have k1 := fun W (hg : Grow w W) => rCheckNat_any _ xs W (h1.grow hg)
  have k2 := fun W (hg : Grow w W) => rCheckNat_any _ ys W (h2.grow hg)
  have g0 : Grow w (w.alloc (.cells #[.slice A1 xs.length c1, .slice A2 ys.length c2] 25)) := (Grow.refl _).alloc _
  by_cases e1 : natErr xs = 0
  · rw [e1] at k1
    by_cases e2 : natErr ys = 0
    · rw [e2] at k2
      by_cases hl : 0 < ys.length
      · have hs := fun W (hg : Grow w W) => less_any _ _ (val ys) (val xs) W ((isNat_of h2 e2).grow hg) ((isNat_of h1 e1).grow hg)
        have hv : fairB xs ys = !decide (val ys < val xs) := by
          unfold fairB
          rw [show decide (err2 xs ys = 0) = true from by simp [err2, e1, e2], show decide (0 < ys.length) = true from by simp [hl], Bool.true_and, Bool.true_and]
          by_cases h : val xs ≤ val ys
          · rw [decide_eq_true h, decide_eq_false (by omega)]; rfl
          · rw [decide_eq_false h, decide_eq_true (by omega)]; rfl
        rw [hv]
        generalize decide (val ys < val xs) = b at *
        have K1 := hid k1
        have K2 := hid k2
        have HS := hid hs
        clear k1 k2 hs e1 e2 hv
        go_enter Try.func54, Try.ntmps54
        go_wp2_with (first
          | (go_at_call_of 91 (Value.slice A1 xs.length c1); refine (K1.out _ g0).mono ?_; rintro e w' ⟨rfl, rfl⟩)
          | (go_at_call_of 91 (Value.slice A2 ys.length c2); refine (K2.out _ g0).mono ?_; rintro e w' ⟨rfl, rfl⟩)
          | (go_at_call 56; refine (HS.out _ g0).mono ?_; rintro e w1 ⟨rfl, m, rfl⟩))
        go_ret
        exact ⟨rfl, g0.drewN _⟩
      · have hv : fairB xs ys = false := by unfold fairB; simp [hl]
        rw [hv]
        have K1 := hid k1
        have K2 := hid k2
        clear k1 k2 e1 e2 hv
        go_enter Try.func54, Try.ntmps54
        go_wp2_with (first
          | (go_at_call_of 91 (Value.slice A1 xs.length c1); refine (K1.out _ g0).mono ?_; rintro e w' ⟨rfl, rfl⟩)
          | (go_at_call_of 91 (Value.slice A2 ys.length c2); refine (K2.out _ g0).mono ?_; rintro e w' ⟨rfl, rfl⟩))
        go_ret
        exact ⟨rfl, g0⟩
    · have hv : fairB xs ys = false := by unfold fairB; rw [show err2 xs ys = natErr ys from by unfold err2; rw [if_pos e1]]; simp [e2]
      have hne : (natErr ys == 0) = false := by simp [e2]
      rw [hv]
      generalize natErr ys = n2 at *
      have K1 := hid k1
      have K2 := hid k2
      clear k1 k2 e1 e2 hv
      go_enter Try.func54, Try.ntmps54
      go_wp2_with (first
        | (go_at_call_of 91 (Value.slice A1 xs.length c1); refine (K1.out _ g0).mono ?_; rintro e w' ⟨rfl, rfl⟩)
        | (go_at_call_of 91 (Value.slice A2 ys.length c2); refine (K2.out _ g0).mono ?_; rintro e w' ⟨rfl, rfl⟩))
      go_ret
      exact ⟨rfl, g0⟩
  · have hv : fairB xs ys = false := by unfold fairB; rw [show err2 xs ys = natErr xs from by unfold err2; rw [if_neg e1]]; simp [e1]
    have hne : (natErr xs == 0) = false := by simp [e1]
    rw [hv]
    generalize natErr xs = n1 at *
    have K1 := hid k1
    clear k1 k2 e1 hv
    go_enter Try.func54, Try.ntmps54
    go_wp2_with (go_at_call 91; refine (K1.out _ g0).mono ?_; rintro e w' ⟨rfl, rfl⟩)
    go_ret
    exact ⟨rfl, g0⟩

theorem rBetter_any (v1 v2 v3 v4 : Value) (aw aa bw ba : List Int) (w : World) (h1 : IsInts w v1 aw) (h2 : IsInts w v2 aa) (h3 : IsInts w v3 bw) (h4 : IsInts w v4 ba) :
    Calls Try.prog 18 #[.agg #[v1, v2], .agg #[v3, v4]] w (Gives w (.int .i64 (betterI aw aa bw ba))) := by
  obtain ⟨A1, c1, rfl, _⟩ := id h1
  obtain ⟨A2, c2, rfl, _⟩ := id h2
  obtain ⟨A3, c3, rfl, _⟩ := id h3
  obtain ⟨A4, c4, rfl, _⟩ := id h4
  have f1 := fun W (hg : Grow w W) => rfair_any _ _ aw aa W (h1.grow hg) (h2.grow hg)
  have f2 := fun W (hg : Grow w W) => rfair_any _ _ bw ba W (h3.grow hg) (h4.grow hg)
  by_cases e1 : fairB aw aa = true
  · by_cases e2 : fairB bw ba = true
    · have o1 := fairB_ok e1
      have o2 := fairB_ok e2
      have hp1 := fun W (hg : Grow w W) => times_any _ _ _ _ W (isNat_of (h1.grow hg) o1.1) (isNat_of (h4.grow hg) o2.2.1) (small_of_ok o1.1) (small_of_ok o2.2.1)
      have hp2 := fun W (hg : Grow w W) => times_any _ _ _ _ W (isNat_of (h3.grow hg) o2.1) (isNat_of (h2.grow hg) o1.2.1) (small_of_ok o2.1) (small_of_ok o1.2.1)
      rw [e1] at f1
      rw [e2] at f2
      rw [show betterI aw aa bw ba = cmpI (val aw * val ba) (val bw * val aa) from by unfold betterI; rw [e1, e2]; simp]
      generalize val aw * val ba = x at *
      generalize val bw * val aa = y at *
      have F1 := hid f1
      have F2 := hid f2
      have P1 := hid hp1
      have P2 := hid hp2
      clear f1 f2 hp1 hp2 e1 e2 o1 o2 h1 h2 h3 h4
      have cells : ∀ W, Grow ((w.alloc (.cells #[.slice A1 aw.length c1, .slice A2 aa.length c2] 25)).alloc (.cells #[.slice A3 bw.length c3, .slice A4 ba.length c4] 25)) W → W.cell? ⟨w.heap.size, 0, none⟩ = some (.slice A1 aw.length c1) ∧ W.cell? ⟨w.heap.size, 1, none⟩ = some (.slice A2 aa.length c2) ∧ W.cell? ⟨w.heap.size + 1, 0, none⟩ = some (.slice A3 bw.length c3) ∧ W.cell? ⟨w.heap.size + 1, 1, none⟩ = some (.slice A4 ba.length c4) :=
        fun W hg => ⟨hg.cell_some (by simp), hg.cell_some (by simp), hg.cell_some (by simp), hg.cell_some (by simp)⟩
      have CS := hid cells
      clear cells
      go_enter Try.func18, Try.ntmps18
      go_wp2_with fail
      refine (F1.out _ (((Grow.refl _).alloc _).alloc _)).mono ?_
      rintro e w1 ⟨rfl, hg1⟩
      obtain ⟨q1, q2, q3, q4⟩ := CS.out _ hg1
      have hg1' := (((Grow.refl w).alloc _).alloc _).trans hg1
      go_wp2_with fail
      refine (F2.out _ hg1').mono ?_
      rintro e w2 ⟨rfl, hg2⟩
      have hg2' := hg1'.trans hg2
      obtain ⟨p1, p2, p3, p4⟩ := CS.out _ (hg1.trans hg2)
      go_wp2_with fail
      have KS := hid (fun W (hg : Grow w2 W) => (⟨hg, CS.out W ((hg1.trans hg2).trans hg)⟩ : Grow w2 W ∧ _))
      clear q1 q2 q3 q4
      go_region_held3 (fun W => Grow w2 W ∧ W.cell? ⟨w.heap.size, 0, none⟩ = some (.slice A1 aw.length c1) ∧ W.cell? ⟨w.heap.size, 1, none⟩ = some (.slice A2 aa.length c2) ∧ W.cell? ⟨w.heap.size + 1, 0, none⟩ = some (.slice A3 bw.length c3) ∧ W.cell? ⟨w.heap.size + 1, 1, none⟩ = some (.slice A4 ba.length c4))
        (exact KS.out _ (by first | assumption | exact (Grow.refl _).drew))
        (first
          | (go_at_call_of 55 (Value.slice A1 aw.length c1); have hS := (‹Grow w2 _ ∧ _ ∧ _›).1; refine (P1.out _ (hg2'.trans hS)).mono ?_; rintro e wA ⟨vA, rfl, hnA, hgA⟩; have hkA := hS.trans hgA)
          | (go_at_call_of 55 (Value.slice A3 bw.length c3); have hS := (‹Grow w2 _ ∧ _ ∧ _›).1; refine (P2.out _ (hg2'.trans hS)).mono ?_; rintro e wB ⟨vB, rfl, hnB, hgB⟩; have hkB := hS.trans hgB))
      all_goals
        first
          | (have LA := hnA.1.grow hgB; have LB := hnB.1; have hcur := hg2'.trans hkB)
          | (have LA := hnA.1; have LB := hnB.1.grow hgA; have hcur := hg2'.trans hkA)
        have lt1 := less_any _ _ x y _ LA LB
        have lt2 := fun m => less_any _ _ y x _ (LB.grow ((Grow.refl _).drewN m)) (LA.grow ((Grow.refl _).drewN m))
        rcases Int.lt_trichotomy x y with h | h | h
        · rw [decide_eq_true h] at lt1
          have HH := hid (cmpI_lt h)
          have L1 := hid lt1
          clear lt1 lt2 h
          go_wp2_with (go_at_call 56; refine L1.out.mono ?_; rintro e w5 ⟨rfl, m, rfl⟩)
          go_ret
          exact ⟨by rw [HH.out]; rfl, hcur.drewN _⟩
        · have HH := hid (show cmpI x y = 0 from by rw [h, cmpI_eq])
          rw [decide_eq_false (show ¬ x < y from fun hh => Int.lt_irrefl _ (h ▸ hh))] at lt1
          rw [decide_eq_false (show ¬ y < x from fun hh => Int.lt_irrefl _ (h ▸ hh))] at lt2
          have L1 := hid lt1
          have L2 := hid lt2
          clear lt1 lt2 h
          go_wp2_with fail
          refine L1.out.mono ?_
          rintro e w5 ⟨rfl, m, rfl⟩
          go_wp2_with fail
          refine (L2.out m).mono ?_
          rintro e w6 ⟨rfl, m6, rfl⟩
          go_wp2
          go_ret
          exact ⟨by rw [HH.out]; rfl, hcur.drewN _⟩
        · rw [decide_eq_true h] at lt2
          rw [decide_eq_false (show ¬ x < y from fun hh => Int.lt_irrefl _ (Int.lt_trans hh h))] at lt1
          have HH := hid (cmpI_gt h)
          have L1 := hid lt1
          have L2 := hid lt2
          clear lt1 lt2 h
          go_wp2_with fail
          refine L1.out.mono ?_
          rintro e w5 ⟨rfl, m, rfl⟩
          go_wp2_with fail
          refine (L2.out m).mono ?_
          rintro e w6 ⟨rfl, m6, rfl⟩
          go_wp2
          go_ret
          exact ⟨by rw [HH.out]; rfl, hcur.drewN _⟩
    · have e2' : fairB bw ba = false := by simpa using e2
      rw [e1] at f1
      rw [e2'] at f2
      rw [show betterI aw aa bw ba = 0 from by unfold betterI; rw [e1, e2']; simp]
      have cells : ∀ W, Grow ((w.alloc (.cells #[.slice A1 aw.length c1, .slice A2 aa.length c2] 25)).alloc (.cells #[.slice A3 bw.length c3, .slice A4 ba.length c4] 25)) W → W.cell? ⟨w.heap.size + 1, 0, none⟩ = some (.slice A3 bw.length c3) ∧ W.cell? ⟨w.heap.size + 1, 1, none⟩ = some (.slice A4 ba.length c4) :=
        fun W hg => ⟨hg.cell_some (by simp), hg.cell_some (by simp)⟩
      have CS := hid cells
      have F1 := hid f1
      have F2 := hid f2
      clear f1 f2 e1 e2 e2' h1 h2 h3 h4 cells
      go_enter Try.func18, Try.ntmps18
      go_wp2_with fail
      refine (F1.out _ (((Grow.refl _).alloc _).alloc _)).mono ?_
      rintro e w1 ⟨rfl, hg1⟩
      obtain ⟨q3, q4⟩ := CS.out _ hg1
      have hg1' := (((Grow.refl w).alloc _).alloc _).trans hg1
      go_wp2_with fail
      refine (F2.out _ hg1').mono ?_
      rintro e w2 ⟨rfl, hg2⟩
      go_wp2
      go_ret
      exact ⟨rfl, hg1'.trans hg2⟩
  · have e1' : fairB aw aa = false := by simpa using e1
    rw [e1'] at f1
    rw [show betterI aw aa bw ba = 0 from by unfold betterI; rw [e1']; simp]
    have F1 := hid f1
    clear f1 f2 e1 e1' h1 h2 h3 h4
    go_enter Try.func18, Try.ntmps18
    go_wp2_with fail
    refine (F1.out _ (((Grow.refl _).alloc _).alloc _)).mono ?_
    rintro e w1 ⟨rfl, hg1⟩
    have hg1' := (((Grow.refl w).alloc _).alloc _).trans hg1
    go_wp2
    go_ret
    exact ⟨rfl, hg1'⟩
end Go.Proofs.Ytgphdaipgodjgaa
