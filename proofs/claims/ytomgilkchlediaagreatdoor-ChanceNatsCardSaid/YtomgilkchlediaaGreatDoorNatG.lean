/-
  Walks: Compare, and which odds are better.
-/
import Derived.Test.YtomgilkchlediaaGreatDoorNatE
import Derived.Deep.RegionHeld3
import Derived.Deep.RegionWith
namespace Go.Proofs.YtomgilkchlediaaGreatDoor
open Go.RowKit

/-- Odds that are valid. -/
def fairB (xs ys : List Int) : Bool := decide (err2 xs ys = 0) && decide (0 < ys.length) && decide (val xs ≤ val ys)
theorem fairB_ok {xs ys : List Int} (h : fairB xs ys = true) : natErr xs = 0 ∧ natErr ys = 0 ∧ 0 < ys.length ∧ val xs ≤ val ys := by
  unfold fairB at h
  simp only [Bool.and_eq_true, decide_eq_true_eq] at h
  have := err2_ok h.1.1
  exact ⟨this.1, this.2, h.1.2, h.2⟩

/-- It returns v; what was there is as it was. -/
def Gives (w : World) (v : Value) (e : Ending) (w' : World) : Prop := e = .returned v ∧ Grow w w'

theorem Compare_any (v1 v2 : Value) (xs ys : List Int) (w : World) (h1 : IsInts w v1 xs) (h2 : IsInts w v2 ys) :
    Calls Tryz.prog 19 #[v1, v2] w (Gives w (.int .i64 (if err2 xs ys = 0 then cmpI (val xs) (val ys) else 0))) := by
  obtain ⟨A1, c1, rfl, _⟩ := id h1
  obtain ⟨A2, c2, rfl, _⟩ := id h2
  have hck := check_two w.heap.size _ _ xs ys (w.alloc (.cells #[.slice A1 xs.length c1, .slice A2 ys.length c2] 24)) (by simp) (by simp) (h1.grow ((Grow.refl _).alloc _)) (h2.grow ((Grow.refl _).alloc _))
  by_cases e : err2 xs ys = 0
  · have hs := order_any _ _ (val xs) (val ys) (w.alloc (.cells #[.slice A1 xs.length c1, .slice A2 ys.length c2] 24)) ((isNat_of h1 (err2_ok e).1).grow ((Grow.refl _).alloc _)) ((isNat_of h2 (err2_ok e).2).grow ((Grow.refl _).alloc _))
    rw [if_pos e]
    rw [e] at hck
    have HC := hid hck
    have HS := hid hs
    clear hck hs e
    generalize cmpI (val xs) (val ys) = n at *
    go_enter Tryz.func19, Tryz.ntmps19
    go_wp2_with (first
      | (go_at_call 30; refine HC.out.mono ?_; rintro e w' ⟨rfl, rfl⟩)
      | (go_at_call 49; refine HS.out.mono ?_; rintro e w1 ⟨rfl, m, rfl⟩))
    go_ret
    exact ⟨rfl, ((Grow.refl _).alloc _).drewN _⟩
  · rw [if_neg e]
    have hne : (err2 xs ys != 0) = true := by simp [e]
    have HC := hid hck
    clear hck e
    generalize err2 xs ys = n2 at *
    go_enter Tryz.func19, Tryz.ntmps19
    go_wp2_with (go_at_call 30; refine HC.out.mono ?_; rintro e w' ⟨rfl, rfl⟩)
    go_ret
    exact ⟨rfl, (Grow.refl _).alloc _⟩

theorem fair_any (v1 v2 : Value) (xs ys : List Int) (w : World) (h1 : IsInts w v1 xs) (h2 : IsInts w v2 ys) :
    Calls Tryz.prog 57 #[.agg #[v1, v2]] w (Gives w (.bool (fairB xs ys))) := by
  obtain ⟨A1, c1, rfl, _⟩ := id h1
  obtain ⟨A2, c2, rfl, _⟩ := id h2
  have hck := fun W (g : Nat) (e : W.heap.size = g) (hg : Grow w W) => check_two g _ _ xs ys (W.alloc (.cells #[.slice A1 xs.length c1, .slice A2 ys.length c2] 24)) (by subst e; simp) (by subst e; simp) (h1.grow (hg.alloc _)) (h2.grow (hg.alloc _))
  by_cases e : err2 xs ys = 0
  · rw [e] at hck
    by_cases hl : 0 < ys.length
    · have hs := fun W (hg : Grow w W) => order_any _ _ (val xs) (val ys) W ((isNat_of h1 (err2_ok e).1).grow hg) ((isNat_of h2 (err2_ok e).2).grow hg)
      have hv : fairB xs ys = decide (cmpI (val xs) (val ys) ≤ 0) := by
        unfold fairB
        rw [show decide (err2 xs ys = 0) = true from by simp [e], show decide (0 < ys.length) = true from by simp [hl], Bool.true_and, Bool.true_and]
        unfold cmpI
        by_cases h : val xs < val ys
        · rw [if_pos h]; simp; omega
        · rw [if_neg h]
          by_cases h' : val ys < val xs
          · rw [if_pos h']; simp; omega
          · rw [if_neg h']; simp; omega
      rw [hv]
      generalize cmpI (val xs) (val ys) = n at *
      have HC := hid hck
      have HS := hid hs
      clear hck hs e hv
      go_enter Tryz.func57, Tryz.ntmps57
      go_wp2_with (first
        | (go_at_call 30; refine (HC.out (w.alloc (.cells #[.slice A1 xs.length c1, .slice A2 ys.length c2] 43)) (w.heap.size + 1) (by simp) ((Grow.refl _).alloc _)).mono ?_; rintro e w' ⟨rfl, rfl⟩)
        | (go_at_call 49; refine (HS.out _ (((Grow.refl _).alloc _).alloc _)).mono ?_; rintro e w1 ⟨rfl, m, rfl⟩))
      go_ret
      exact ⟨rfl, (((Grow.refl _).alloc _).alloc _).drewN _⟩
    · have hv : fairB xs ys = false := by unfold fairB; simp [hl]
      rw [hv]
      have HC := hid hck
      clear hck e hv
      go_enter Tryz.func57, Tryz.ntmps57
      go_wp2_with (go_at_call 30; refine (HC.out (w.alloc (.cells #[.slice A1 xs.length c1, .slice A2 ys.length c2] 43)) (w.heap.size + 1) (by simp) ((Grow.refl _).alloc _)).mono ?_; rintro e w' ⟨rfl, rfl⟩)
      go_ret
      exact ⟨rfl, ((Grow.refl _).alloc _).alloc _⟩
  · have hv : fairB xs ys = false := by unfold fairB; simp [e]
    rw [hv]
    have hne : (err2 xs ys == 0) = false := by simp [e]
    have HC := hid hck
    clear hck e hv
    generalize err2 xs ys = n2 at *
    go_enter Tryz.func57, Tryz.ntmps57
    go_wp2_with (go_at_call 30; refine (HC.out (w.alloc (.cells #[.slice A1 xs.length c1, .slice A2 ys.length c2] 43)) (w.heap.size + 1) (by simp) ((Grow.refl _).alloc _)).mono ?_; rintro e w' ⟨rfl, rfl⟩)
    go_ret
    exact ⟨rfl, ((Grow.refl _).alloc _).alloc _⟩

/-- Which odds are better. -/
def betterI (aw aa bw ba : List Int) : Int := if fairB aw aa && fairB bw ba then cmpI (val aw * val ba) (val bw * val aa) else 0

theorem Better_any (v1 v2 v3 v4 : Value) (aw aa bw ba : List Int) (w : World) (h1 : IsInts w v1 aw) (h2 : IsInts w v2 aa) (h3 : IsInts w v3 bw) (h4 : IsInts w v4 ba) :
    Calls Tryz.prog 27 #[.agg #[v1, v2], .agg #[v3, v4]] w (Gives w (.int .i64 (betterI aw aa bw ba))) := by
  obtain ⟨A1, c1, rfl, _⟩ := id h1
  obtain ⟨A2, c2, rfl, _⟩ := id h2
  obtain ⟨A3, c3, rfl, _⟩ := id h3
  obtain ⟨A4, c4, rfl, _⟩ := id h4
  have f1 := fun W (hg : Grow w W) => fair_any _ _ aw aa W (h1.grow hg) (h2.grow hg)
  have f2 := fun W (hg : Grow w W) => fair_any _ _ bw ba W (h3.grow hg) (h4.grow hg)
  by_cases e1 : fairB aw aa = true
  · by_cases e2 : fairB bw ba = true
    · have o1 := fairB_ok e1
      have o2 := fairB_ok e2
      have hp1 := fun W (hg : Grow w W) => product_any _ _ _ _ W (isNat_of (h1.grow hg) o1.1) (isNat_of (h4.grow hg) o2.2.1) (small_of_ok o1.1) (small_of_ok o2.2.1)
      have hp2 := fun W (hg : Grow w W) => product_any _ _ _ _ W (isNat_of (h3.grow hg) o2.1) (isNat_of (h2.grow hg) o1.2.1) (small_of_ok o2.1) (small_of_ok o1.2.1)
      rw [e1] at f1
      rw [e2] at f2
      rw [show betterI aw aa bw ba = cmpI (val aw * val ba) (val bw * val aa) from by unfold betterI; rw [e1, e2]; simp]
      generalize val aw * val ba = x at *
      generalize val bw * val aa = y at *
      have F1 := hid f1
      have F2 := hid f2
      have P1 := hid hp1
      have P2 := hid hp2
      clear f1 f2 hp1 hp2 e1 e2 o1 o2 h1 h2 h3 h4
      have cells : ∀ W, Grow ((w.alloc (.cells #[.slice A1 aw.length c1, .slice A2 aa.length c2] 43)).alloc (.cells #[.slice A3 bw.length c3, .slice A4 ba.length c4] 43)) W → W.cell? ⟨w.heap.size, 0, none⟩ = some (.slice A1 aw.length c1) ∧ W.cell? ⟨w.heap.size, 1, none⟩ = some (.slice A2 aa.length c2) ∧ W.cell? ⟨w.heap.size + 1, 0, none⟩ = some (.slice A3 bw.length c3) ∧ W.cell? ⟨w.heap.size + 1, 1, none⟩ = some (.slice A4 ba.length c4) :=
        fun W hg => ⟨hg.cell_some (by simp), hg.cell_some (by simp), hg.cell_some (by simp), hg.cell_some (by simp)⟩
      have CS := hid cells
      clear cells
      go_enter Tryz.func27, Tryz.ntmps27
      go_wp2_with fail
      refine (F1.out _ (((Grow.refl _).alloc _).alloc _)).mono ?_
      rintro e w1 ⟨rfl, hg1⟩
      obtain ⟨q1, q2, q3, q4⟩ := CS.out _ hg1
      have hg1' := (((Grow.refl w).alloc _).alloc _).trans hg1
      go_wp2_with fail
      refine (F2.out _ hg1').mono ?_
      rintro e w2 ⟨rfl, hg2⟩
      have hg2' := hg1'.trans hg2
      obtain ⟨p1, p2, p3, p4⟩ := CS.out _ (hg1.trans hg2)
      go_wp2_with fail
      have KS := hid (fun W (hg : Grow w2 W) => (⟨hg, CS.out W ((hg1.trans hg2).trans hg)⟩ : Grow w2 W ∧ _))
      clear q1 q2 q3 q4
      go_region_held3 (fun W => Grow w2 W ∧ W.cell? ⟨w.heap.size, 0, none⟩ = some (.slice A1 aw.length c1) ∧ W.cell? ⟨w.heap.size, 1, none⟩ = some (.slice A2 aa.length c2) ∧ W.cell? ⟨w.heap.size + 1, 0, none⟩ = some (.slice A3 bw.length c3) ∧ W.cell? ⟨w.heap.size + 1, 1, none⟩ = some (.slice A4 ba.length c4))
        (exact KS.out _ (by first | assumption | exact (Grow.refl _).drew))
        (first
          | (go_at_call_of 47 (Value.slice A1 aw.length c1); have hS := (‹Grow w2 _ ∧ _ ∧ _›).1; refine (P1.out _ (hg2'.trans hS)).mono ?_; rintro e wA ⟨vA, rfl, hnA, hgA⟩; have hkA := hS.trans hgA)
          | (go_at_call_of 47 (Value.slice A3 bw.length c3); have hS := (‹Grow w2 _ ∧ _ ∧ _›).1; refine (P2.out _ (hg2'.trans hS)).mono ?_; rintro e wB ⟨vB, rfl, hnB, hgB⟩; have hkB := hS.trans hgB)
          | (go_at_call 49; have hS := (‹Grow w2 _ ∧ _ ∧ _›).1; refine (order_any _ _ x y _ (by first | exact hnA.1 | exact hnA.1.grow hgB) (by first | exact hnB.1 | exact hnB.1.grow hgA)).mono ?_; rintro e wC ⟨rfl, m, rfl⟩; have hkC := hS.drewN m))
      all_goals
        go_wp2
        go_ret
        exact ⟨rfl, hg2'.trans hkC⟩
    · have e2' : fairB bw ba = false := by simpa using e2
      rw [e1] at f1
      rw [e2'] at f2
      rw [show betterI aw aa bw ba = 0 from by unfold betterI; rw [e1, e2']; simp]
      have cells : ∀ W, Grow ((w.alloc (.cells #[.slice A1 aw.length c1, .slice A2 aa.length c2] 43)).alloc (.cells #[.slice A3 bw.length c3, .slice A4 ba.length c4] 43)) W → W.cell? ⟨w.heap.size + 1, 0, none⟩ = some (.slice A3 bw.length c3) ∧ W.cell? ⟨w.heap.size + 1, 1, none⟩ = some (.slice A4 ba.length c4) :=
        fun W hg => ⟨hg.cell_some (by simp), hg.cell_some (by simp)⟩
      have CS := hid cells
      have F1 := hid f1
      have F2 := hid f2
      clear f1 f2 e1 e2 e2' h1 h2 h3 h4 cells
      go_enter Tryz.func27, Tryz.ntmps27
      go_wp2_with fail
      refine (F1.out _ (((Grow.refl _).alloc _).alloc _)).mono ?_
      rintro e w1 ⟨rfl, hg1⟩
      obtain ⟨q3, q4⟩ := CS.out _ hg1
      have hg1' := (((Grow.refl w).alloc _).alloc _).trans hg1
      go_wp2_with fail
      refine (F2.out _ hg1').mono ?_
      rintro e w2 ⟨rfl, hg2⟩
      go_wp2
      go_ret
      exact ⟨rfl, hg1'.trans hg2⟩
  · have e1' : fairB aw aa = false := by simpa using e1
    rw [e1'] at f1
    rw [show betterI aw aa bw ba = 0 from by unfold betterI; rw [e1']; simp]
    have F1 := hid f1
    clear f1 f2 e1 e1' h1 h2 h3 h4
    go_enter Tryz.func27, Tryz.ntmps27
    go_wp2_with fail
    refine (F1.out _ (((Grow.refl _).alloc _).alloc _)).mono ?_
    rintro e w1 ⟨rfl, hg1⟩
    have hg1' := (((Grow.refl w).alloc _).alloc _).trans hg1
    go_wp2
    go_ret
    exact ⟨rfl, hg1'⟩
end Go.Proofs.YtomgilkchlediaaGreatDoor
