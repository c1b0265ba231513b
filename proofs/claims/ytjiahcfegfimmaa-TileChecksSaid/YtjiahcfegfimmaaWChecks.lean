/-
  The walk of the law TileChecks.
-/
import Derived.Test.YtjiahcfegfimmaaLong
import Derived.Test.YtjiahcfegfimmaaCopy
import Derived.Test.YtjiahcfegfimmaaSame
namespace Go.Proofs.Ytjiahcfegfimmaa
open Go.RowKit

/-- What the law asks of a set and its copy. -/
structure Cks (w : World) (s t : TSet) (v v' vc : Value) : Prop where
  hs : IsSet w v s
  ht : IsSet w v' t
  hc : IsSet w vc s
section
variable {w : World} {s t : TSet} {v v' vc : Value}
theorem same_self (v vc : Value) (s : TSet) (w : World) (h : IsSet w v s) (h' : IsSet w vc s) : Calls Try.prog 43 #[v, vc] w (Gives w (.bool true)) := by
  have h := Same_any v vc s s w h h'
  rwa [sameB_self] at h
theorem rsame_self (v vc : Value) (s : TSet) (w : World) (h : IsSet w v s) (h' : IsSet w vc s) : Calls Try.prog 44 #[v, vc] w (Gives w (.bool true)) := by
  have h := rSame_any v vc s s w h h'
  rwa [sameB_self] at h
end
set_option maxRecDepth 100000 in
set_option maxHeartbeats 4000000 in
theorem walkTileChecks (v : Value) (s : TSet) (v2 : Value) (t : TSet) (w : World) (h : IsSet w v s) (_hs : SetIn s) (h2 : IsSet w v2 t) (_ht : SetIn t) :
    Calls Try.prog 9 #[v, v2] w (Gives w (.bool true)) := by
  have LG := hid (fun W (hg : Grow w W) => long_any v s W (h.grow hg))
  have LT := hid (fun W (hg : Grow w W) => long_any v2 t W (h2.grow hg))
  have H1 := hid h
  have H2 := hid h2
  obtain ⟨A, c, B, d, rfl, -, -⟩ := h.open_
  obtain ⟨A', c', B', d', rfl, -, -⟩ := h2.open_
  have g0 : Grow w ((w.alloc (.cells #[.int .i64 s.pl, .slice A s.su.length c, .int .i64 s.wi, .int .i64 s.dr, .int .i64 s.fl, .int .i64 s.co, .int .i64 s.me, .int .i64 s.de, .slice B s.re.length d] 24)).alloc (.cells #[.int .i64 t.pl, .slice A' t.su.length c', .int .i64 t.wi, .int .i64 t.dr, .int .i64 t.fl, .int .i64 t.co, .int .i64 t.me, .int .i64 t.de, .slice B' t.re.length d'] 24)) := ((Grow.refl w).alloc _).alloc _
  have bS : Blk ((w.alloc (.cells #[.int .i64 s.pl, .slice A s.su.length c, .int .i64 s.wi, .int .i64 s.dr, .int .i64 s.fl, .int .i64 s.co, .int .i64 s.me, .int .i64 s.de, .slice B s.re.length d] 24)).alloc (.cells #[.int .i64 t.pl, .slice A' t.su.length c', .int .i64 t.wi, .int .i64 t.dr, .int .i64 t.fl, .int .i64 t.co, .int .i64 t.me, .int .i64 t.de, .slice B' t.re.length d'] 24)) w.heap.size 24 (setVals s (.slice A s.su.length c) (.slice B s.re.length d)) := Blk.grow (show Blk _ _ _ (setVals s (.slice A s.su.length c) (.slice B s.re.length d)) from Blk.new_at rfl) ((Grow.refl _).alloc _)
  have bT : Blk ((w.alloc (.cells #[.int .i64 s.pl, .slice A s.su.length c, .int .i64 s.wi, .int .i64 s.dr, .int .i64 s.fl, .int .i64 s.co, .int .i64 s.me, .int .i64 s.de, .slice B s.re.length d] 24)).alloc (.cells #[.int .i64 t.pl, .slice A' t.su.length c', .int .i64 t.wi, .int .i64 t.dr, .int .i64 t.fl, .int .i64 t.co, .int .i64 t.me, .int .i64 t.de, .slice B' t.re.length d'] 24)) (w.heap.size + 1) 24 (setVals t (.slice A' t.su.length c') (.slice B' t.re.length d')) := Blk.new_at (by simp)
  have BS := hid bS
  have BT := hid bT
  have G0 := hid g0
  clear h h2 bS bT g0
  cases hl : longB s
  · cases hm : longB t
    · rw [hl] at LG
      rw [hm] at LT
      have l1 := long_false hl
      have CP := hid (fun W (hg : Grow w W) => Copy_any _ s W (H1.out.grow hg) (by omega) (by omega))
      clear l1
      go_enter Try.func9, Try.ntmps9
      go_wp2_with fail
      refine (LG.out _ G0.out).mono ?_
      rintro e w1 ⟨rfl, hg1⟩
      obtain ⟨c0, c1, c2, c3, c4, c5, c6, c7, c8⟩ := set_cells (BT.out.grow hg1)
      go_wp2_with fail
      refine (LT.out _ (G0.out.trans hg1)).mono ?_
      rintro e w2 ⟨rfl, hg2⟩
      have hg := hg1.trans hg2
      clear c0 c1 c2 c3 c4 c5 c6 c7 c8 hg1 hg2
      obtain ⟨c0, c1, c2, c3, c4, c5, c6, c7, c8⟩ := set_cells (BS.out.grow hg)
      go_wp2_with fail
      refine (CP.out _ (G0.out.trans hg)).mono ?_
      rintro e w3 ⟨vC, rfl, iC, hg3⟩
      obtain ⟨A9, c9, B9, d9, rfl, -, -⟩ := iC.open_
      go_wp2
      have g4 := hg.trans (hg3.alloc (.cells #[.int .i64 s.pl, .slice A9 s.su.length c9, .int .i64 s.wi, .int .i64 s.dr, .int .i64 s.fl, .int .i64 s.co, .int .i64 s.me, .int .i64 s.de, .slice B9 s.re.length d9] 24))
      have bC : Blk (w3.alloc (.cells #[.int .i64 s.pl, .slice A9 s.su.length c9, .int .i64 s.wi, .int .i64 s.dr, .int .i64 s.fl, .int .i64 s.co, .int .i64 s.me, .int .i64 s.de, .slice B9 s.re.length d9] 24)) w3.heap.size 24 (setVals s (.slice A9 s.su.length c9) (.slice B9 s.re.length d9)) := Blk.new_at rfl
      have iC4 := iC.grow ((Grow.refl _).alloc (.cells #[.int .i64 s.pl, .slice A9 s.su.length c9, .int .i64 s.wi, .int .i64 s.dr, .int .i64 s.fl, .int .i64 s.co, .int .i64 s.me, .int .i64 s.de, .slice B9 s.re.length d9] 24))
      clear iC hg3 hg c0 c1 c2 c3 c4 c5 c6 c7 c8
      generalize w3.heap.size = C at *
      generalize w3.alloc (.cells #[.int .i64 s.pl, .slice A9 s.su.length c9, .int .i64 s.wi, .int .i64 s.dr, .int .i64 s.fl, .int .i64 s.co, .int .i64 s.me, .int .i64 s.de, .slice B9 s.re.length d9] 24) = w4 at *
      have G4 := hid (G0.out.trans g4)
      have IC := hid iC4
      have KS := hid (fun W (hg : Grow w4 W) => And.intro hg (set_cells ((BS.out.grow g4).grow hg)))
      have K2 := hid (fun W (hg : Grow w4 W) => And.intro (And.intro hg (set_cells ((BS.out.grow g4).grow hg))) (And.intro (set_cells ((BT.out.grow g4).grow hg)) (set_cells (bC.grow hg))))
      clear g4 bC iC4
      go_region_held3 (fun W => Grow w4 W ∧ W.cell? ⟨w.heap.size, 0, none⟩ = some (.int .i64 s.pl) ∧ W.cell? ⟨w.heap.size, 1, none⟩ = some (.slice A s.su.length c) ∧ W.cell? ⟨w.heap.size, 2, none⟩ = some (.int .i64 s.wi) ∧ W.cell? ⟨w.heap.size, 3, none⟩ = some (.int .i64 s.dr) ∧ W.cell? ⟨w.heap.size, 4, none⟩ = some (.int .i64 s.fl) ∧ W.cell? ⟨w.heap.size, 5, none⟩ = some (.int .i64 s.co) ∧ W.cell? ⟨w.heap.size, 6, none⟩ = some (.int .i64 s.me) ∧ W.cell? ⟨w.heap.size, 7, none⟩ = some (.int .i64 s.de) ∧ W.cell? ⟨w.heap.size, 8, none⟩ = some (.slice B s.re.length d))
        (exact KS.out _ (by first | assumption | exact (Grow.refl _).drew))
        (first
          | (go_at_call 38; have hS := (‹Grow w4 _ ∧ _›).1; refine (Check_any _ s _ (H1.out.grow (G4.out.trans hS))).mono ?_; rintro e wA ⟨rfl, hgwA⟩; have hkwA := hS.trans hgwA)
          | (go_at_call 39; have hS := (‹Grow w4 _ ∧ _›).1; refine (rCheck_any _ s _ (H1.out.grow (G4.out.trans hS))).mono ?_; rintro e wB ⟨rfl, hgwB⟩; have hkwB := hS.trans hgwB)
          | (go_at_call 40; have hS := (‹Grow w4 _ ∧ _›).1; refine (Kinds_any _ s _ (H1.out.grow (G4.out.trans hS))).mono ?_; rintro e wC ⟨rfl, hgwC⟩; have hkwC := hS.trans hgwC)
          | (go_at_call 41; have hS := (‹Grow w4 _ ∧ _›).1; refine (rKinds_any _ s _ (H1.out.grow (G4.out.trans hS))).mono ?_; rintro e wD ⟨rfl, hgwD⟩; have hkwD := hS.trans hgwD)
          | (go_at_call 30; have hS := (‹Grow w4 _ ∧ _›).1; refine (Size_any _ s _ (H1.out.grow (G4.out.trans hS))).mono ?_; rintro e wE ⟨rfl, hgwE⟩; have hkwE := hS.trans hgwE)
          | (go_at_call 42; have hS := (‹Grow w4 _ ∧ _›).1; refine (rSize_any _ s _ (H1.out.grow (G4.out.trans hS))).mono ?_; rintro e wF ⟨rfl, hgwF⟩; have hkwF := hS.trans hgwF))
      all_goals
        go_wp2
        go_region_held3 (fun W => (Grow w4 W ∧ W.cell? ⟨w.heap.size, 0, none⟩ = some (.int .i64 s.pl) ∧ W.cell? ⟨w.heap.size, 1, none⟩ = some (.slice A s.su.length c) ∧ W.cell? ⟨w.heap.size, 2, none⟩ = some (.int .i64 s.wi) ∧ W.cell? ⟨w.heap.size, 3, none⟩ = some (.int .i64 s.dr) ∧ W.cell? ⟨w.heap.size, 4, none⟩ = some (.int .i64 s.fl) ∧ W.cell? ⟨w.heap.size, 5, none⟩ = some (.int .i64 s.co) ∧ W.cell? ⟨w.heap.size, 6, none⟩ = some (.int .i64 s.me) ∧ W.cell? ⟨w.heap.size, 7, none⟩ = some (.int .i64 s.de) ∧ W.cell? ⟨w.heap.size, 8, none⟩ = some (.slice B s.re.length d)) ∧ (W.cell? ⟨w.heap.size + 1, 0, none⟩ = some (.int .i64 t.pl) ∧ W.cell? ⟨w.heap.size + 1, 1, none⟩ = some (.slice A' t.su.length c') ∧ W.cell? ⟨w.heap.size + 1, 2, none⟩ = some (.int .i64 t.wi) ∧ W.cell? ⟨w.heap.size + 1, 3, none⟩ = some (.int .i64 t.dr) ∧ W.cell? ⟨w.heap.size + 1, 4, none⟩ = some (.int .i64 t.fl) ∧ W.cell? ⟨w.heap.size + 1, 5, none⟩ = some (.int .i64 t.co) ∧ W.cell? ⟨w.heap.size + 1, 6, none⟩ = some (.int .i64 t.me) ∧ W.cell? ⟨w.heap.size + 1, 7, none⟩ = some (.int .i64 t.de) ∧ W.cell? ⟨w.heap.size + 1, 8, none⟩ = some (.slice B' t.re.length d')) ∧ (W.cell? ⟨C, 0, none⟩ = some (.int .i64 s.pl) ∧ W.cell? ⟨C, 1, none⟩ = some (.slice A9 s.su.length c9) ∧ W.cell? ⟨C, 2, none⟩ = some (.int .i64 s.wi) ∧ W.cell? ⟨C, 3, none⟩ = some (.int .i64 s.dr) ∧ W.cell? ⟨C, 4, none⟩ = some (.int .i64 s.fl) ∧ W.cell? ⟨C, 5, none⟩ = some (.int .i64 s.co) ∧ W.cell? ⟨C, 6, none⟩ = some (.int .i64 s.me) ∧ W.cell? ⟨C, 7, none⟩ = some (.int .i64 s.de) ∧ W.cell? ⟨C, 8, none⟩ = some (.slice B9 s.re.length d9)))
          (exact K2.out _ (by first | assumption | exact hkwF.drew))
          (first
            | (go_at_call_of 43 (Value.int .i64 t.pl); have hS := (‹(Grow w4 _ ∧ _) ∧ _›).1.1; refine (Same_any _ _ s t _ (H1.out.grow (G4.out.trans hS)) (H2.out.grow (G4.out.trans hS))).mono ?_; rintro e wP ⟨rfl, hgwP⟩; have hkwP := hS.trans hgwP)
            | (go_at_call_of 44 (Value.int .i64 t.pl); have hS := (‹(Grow w4 _ ∧ _) ∧ _›).1.1; refine (rSame_any _ _ s t _ (H1.out.grow (G4.out.trans hS)) (H2.out.grow (G4.out.trans hS))).mono ?_; rintro e wQ ⟨rfl, hgwQ⟩; have hkwQ := hS.trans hgwQ)
            | (go_at_call_of 43 (Value.slice A9 s.su.length c9); have hS := (‹(Grow w4 _ ∧ _) ∧ _›).1.1; refine (same_self _ _ s _ (H1.out.grow (G4.out.trans hS)) (IC.out.grow hS)).mono ?_; rintro e wR ⟨rfl, hgwR⟩; have hkwR := hS.trans hgwR)
            | (go_at_call_of 44 (Value.slice A9 s.su.length c9); have hS := (‹(Grow w4 _ ∧ _) ∧ _›).1.1; refine (rsame_self _ _ s _ (H1.out.grow (G4.out.trans hS)) (IC.out.grow hS)).mono ?_; rintro e wT ⟨rfl, hgwT⟩; have hkwT := hS.trans hgwT)
            | (go_at_call 21; have hS := (‹(Grow w4 _ ∧ _) ∧ _›).1.1; refine (awake_any _).mono ?_; rintro e wU ⟨rfl, hgU⟩; have hkU := hS.trans hgU))
        all_goals
          go_wp2
          go_ret
          exact ⟨rfl, G4.out.trans hkU⟩
    · rw [hl] at LG
      rw [hm] at LT
      go_enter Try.func9, Try.ntmps9
      go_wp2_with fail
      refine (LG.out _ G0.out).mono ?_
      rintro e w1 ⟨rfl, hg1⟩
      obtain ⟨c0, c1, c2, c3, c4, c5, c6, c7, c8⟩ := set_cells (BT.out.grow hg1)
      go_wp2_with fail
      refine (LT.out _ (G0.out.trans hg1)).mono ?_
      rintro e w2 ⟨rfl, hg2⟩
      go_wp2
      go_ret
      exact ⟨rfl, (G0.out.trans hg1).trans hg2⟩
  · rw [hl] at LG
    go_enter Try.func9, Try.ntmps9
    go_wp2_with (go_at_call 18; refine (LG.out _ G0.out).mono ?_; rintro e w1 ⟨rfl, hg1⟩)
    go_ret
    exact ⟨rfl, G0.out.trans hg1⟩
end Go.Proofs.Ytjiahcfegfimmaa
