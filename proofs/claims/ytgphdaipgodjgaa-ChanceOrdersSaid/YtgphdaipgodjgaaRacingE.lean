/-
  The walk of Racing: what it refuses at once; and all of it.
-/
import Derived.Test.YtgphdaipgodjgaaRacing
namespace Go.Proofs.Ytgphdaipgodjgaa
open Go.RowKit

set_option maxRecDepth 100000 in
theorem Racing_any (v1 v2 : Value) (u : List Int) (ws : List (List Int)) (first draws : Int) (w : World) (h1 : IsInts w v1 u) (h2 : IsRowsI w v2 ws) :
    Calls Try.prog 41 #[v1, v2, .int .i64 first, .int .i64 draws] w (RaceOf w u ws first draws) := by
  have hun := fun W (hg : Grow w W) => unseen_any v1 u W (h1.grow hg)
  have hfin : ∀ er v wf, raceErr u ws first draws = er → er ≠ 0 → v = .agg #[.slice none 0 0, .slice none 0 0, .slice none 0 0] → Grow w wf → RaceOf w u ws first draws (.returned (.tuple #[v, .int .i64 er])) wf := fun er v wf he hne hv hg => by
    subst hv
    unfold RaceOf
    rw [if_neg (by rw [he]; exact hne), if_neg (by rw [he]; exact hne), if_neg (by rw [he]; exact hne), he]
    exact ⟨_, rfl, IsRace.nil, hg⟩
  have g0 : Grow w (w.alloc (.cells #[.slice none 0 0, .slice none 0 0, .slice none 0 0] 60)) := (Grow.refl w).alloc _
  by_cases e1 : unErr u = 0
  · by_cases e2 : ws.length = 0
    · have HE := hid (show raceErr u ws first draws = 6 from by unfold raceErr; rw [if_neg (by omega), if_pos e2])
      rw [e1] at hun
      obtain ⟨A, c, rfl, _⟩ := h1
      obtain ⟨B, d, rfl, _⟩ := h2.open_
      have HF := hid hfin
      have HU := hid hun
      have hz : ((ws.length : Int) == 0) = true := beq_iff_eq.2 (by omega)
      have hz' : (ws.length == 0) = true := beq_iff_eq.2 e2
      clear hfin hun e1 e2 h2
      go_enter Try.func41, Try.ntmps41
      go_wp2_with fail
      refine (HU.out _ g0).mono ?_
      rintro e w1 ⟨rfl, hg1⟩
      have bR := race_block hg1
      have q0 := bR.cell 0
      have q1 := bR.cell 1
      have q2 := bR.cell 2
      have f0 := bR.free 0
      have f1 := bR.free 1
      have f2 := bR.free 2
      simp only [List.getElem?_cons_zero, List.getElem?_cons_succ] at q0 q1 q2
      have hg := g0.trans hg1
      have bg := ((hg.set (p := ⟨w.heap.size, 0, none⟩) (Nat.le_refl _) (.slice none 0 0)).set (p := ⟨w.heap.size, 1, none⟩) (Nat.le_refl _) (.slice none 0 0)).set (p := ⟨w.heap.size, 2, none⟩) (Nat.le_refl _) (.slice none 0 0)
      go_wp2
      refine bodyPost_ret (v := .tuple #[.agg #[.slice none 0 0, .slice none 0 0, .slice none 0 0], .int .i64 6]) (by simp [results, Try.results41, go_sem, q0, q1, q2]) rfl (HF.out 6 _ _ HE.out (by omega) rfl bg)
    · by_cases e3 : 4 < ws.length
      · have HE := hid (show raceErr u ws first draws = 8 from by unfold raceErr; rw [if_neg (by omega), if_neg e2, if_pos e3])
        rw [e1] at hun
        obtain ⟨A, c, rfl, _⟩ := h1
        obtain ⟨B, d, rfl, _⟩ := h2.open_
        have HF := hid hfin
        have HU := hid hun
        have hz : ((ws.length : Int) == 0) = false := beq_eq_false_iff_ne.2 (by omega)
        have hz' : (ws.length == 0) = false := beq_eq_false_iff_ne.2 e2
        have e3' : (4 : Int) < (ws.length : Int) := by omega
        clear hfin hun e1 e2 h2
        go_enter Try.func41, Try.ntmps41
        go_wp2_with fail
        refine (HU.out _ g0).mono ?_
        rintro e w1 ⟨rfl, hg1⟩
        have bR := race_block hg1
        have q0 := bR.cell 0
        have q1 := bR.cell 1
        have q2 := bR.cell 2
        have f0 := bR.free 0
        have f1 := bR.free 1
        have f2 := bR.free 2
        simp only [List.getElem?_cons_zero, List.getElem?_cons_succ] at q0 q1 q2
        have hg := g0.trans hg1
        have bg := ((hg.set (p := ⟨w.heap.size, 0, none⟩) (Nat.le_refl _) (.slice none 0 0)).set (p := ⟨w.heap.size, 1, none⟩) (Nat.le_refl _) (.slice none 0 0)).set (p := ⟨w.heap.size, 2, none⟩) (Nat.le_refl _) (.slice none 0 0)
        go_wp2
        refine bodyPost_ret (v := .tuple #[.agg #[.slice none 0 0, .slice none 0 0, .slice none 0 0], .int .i64 8]) (by simp [results, Try.results41, go_sem, q0, q1, q2]) rfl (HF.out 8 _ _ HE.out (by omega) rfl bg)
      · exact Racing_ok v1 v2 u ws first draws w h1 h2 e1 ⟨(unErr_ok e1).2.2, (unErr_ok e1).1, (unErr_ok e1).2.1, by omega, by omega⟩
  · have HE := hid (show raceErr u ws first draws = unErr u from by unfold raceErr; rw [if_pos e1])
    have hne : (unErr u != 0) = true := by simp [e1]
    generalize unErr u = n2 at *
    obtain ⟨A, c, rfl, _⟩ := h1
    obtain ⟨B, d, rfl, _⟩ := h2.open_
    have HF := hid hfin
    have HU := hid hun
    have HN := hid e1
    clear hfin hun e1 h2
    go_enter Try.func41, Try.ntmps41
    go_wp2_with fail
    refine (HU.out _ g0).mono ?_
    rintro e w1 ⟨rfl, hg1⟩
    have bR := race_block hg1
    have q0 := bR.cell 0
    have q1 := bR.cell 1
    have q2 := bR.cell 2
    have f0 := bR.free 0
    have f1 := bR.free 1
    have f2 := bR.free 2
    simp only [List.getElem?_cons_zero, List.getElem?_cons_succ] at q0 q1 q2
    have hg := g0.trans hg1
    have bg := ((hg.set (p := ⟨w.heap.size, 0, none⟩) (Nat.le_refl _) (.slice none 0 0)).set (p := ⟨w.heap.size, 1, none⟩) (Nat.le_refl _) (.slice none 0 0)).set (p := ⟨w.heap.size, 2, none⟩) (Nat.le_refl _) (.slice none 0 0)
    go_wp2
    refine bodyPost_ret (v := .tuple #[.agg #[.slice none 0 0, .slice none 0 0, .slice none 0 0], .int .i64 n2]) (by simp [results, Try.results41, go_sem, q0, q1, q2]) rfl (HF.out n2 _ _ HE.out HN.out rfl bg)
end Go.Proofs.Ytgphdaipgodjgaa
