/-
  The walk of deals at the set Tiny.
-/
import Derived.Test.YtjiahcfegfimmaaKnown24
import Derived.Test.YtjiahcfegfimmaaKnown47
import Derived.Deep.Cut
import Derived.Deep.RegionHeld3
import Derived.Outline
namespace Go.Proofs.Ytjiahcfegfimmaa
open Go.RowKit

/-- Shuffling where no word is thrown away. -/
def shufC : Nat → Int → List Int → Option (List Int)
  | 0, _, l => some l
  | i + 1, x, l => if wordZ (stepZ x) < limZ ((i : Int) + 2) then shufC i (stepZ x) (swapL l (i + 1) (wordZ (stepZ x) % ((i : Int) + 2)).toNat) else none
theorem shufC_eq : ∀ (i : Nat) (x : Int) (l r : List Int), shufC i x l = some r → shuf i x l = r
  | 0, _, l, r, h => by simpa [shufC, shuf] using h
  | i + 1, x, l, r, h => by
    by_cases ho : wordZ (stepZ x) < limZ ((i : Int) + 2)
    · rw [shufC, if_pos ho] at h
      obtain ⟨e1, e2⟩ := draw_ok (n := (i : Int) + 2) (x := x) ho
      rw [shuf, e1, e2]
      exact shufC_eq i _ _ r h
    · rw [shufC, if_neg ho] at h
      cases h
theorem tiny_fifteen : ∃ l, wallI tinyT 0 = l ∧ l[15]? = some 15 := by
  have e : sizeI tinyT = 16 := tiny_size
  have h : ∃ l, shufC 15 0 (upto 16) = some l ∧ l[15]? = some 15 := by
    have hd : ((shufC 15 0 (upto 16)).bind fun l => l[15]?) = some 15 := by decide +kernel
    cases hs : shufC 15 0 (upto 16) with
    | none => rw [hs] at hd; cases hd
    | some l => rw [hs] at hd; exact ⟨l, rfl, hd⟩
  obtain ⟨l, h1, h2⟩ := h
  refine ⟨l, ?_, h2⟩
  unfold wallI
  rw [e]
  exact shufC_eq 15 0 _ l h1
theorem Equal_g (v1 v2 : Value) (zs : List Int) (w : World) (h1 : IsInts w v1 zs) (h2 : IsInts w v2 zs) : Calls Try.prog 22 #[v1, v2] w (Gives w (.bool true)) :=
  (Equal_same v1 v2 zs w h1 h2).mono fun _ _ h => ⟨h.1, h.grow⟩
/-- A wall whose tile 15 is 15. -/
def WallIs (w : World) (e : Ending) (w' : World) : Prop := ∃ ad c, e = .returned (.slice (some ad) 16 c) ∧ w'.cell? ⟨ad.block, ad.off + 15, none⟩ = some (.int .i64 15) ∧ Grow w w'
theorem at_wall (v : Value) (s : TSet) (w : World) (h : IsSet w v s) (hs : s = tinyT) : Calls Try.prog 23 #[v, .int .u64 0] w (WallIs w) := by
  refine (Wall_any v s 0 w h).mono ?_
  rintro e w' ⟨v', rfl, ⟨A, c, rfl, _, _, hr⟩, hg⟩
  rw [hs] at hr ⊢
  have hl : (wallI tinyT 0).length = 16 := tiny_wall
  have h15 : (wallI tinyT 0)[15]? = some 15 := by obtain ⟨l, h1, h2⟩ := tiny_fifteen; rw [h1]; exact h2
  obtain ⟨ad, rfl, _, hx⟩ := hr 15 (.int .i64 15) (by simp [ints, h15])
  rw [hl]
  exact ⟨ad, c, rfl, by rw [← hx]; simp [Addr.add], hg⟩
/-- The deal of the small set, opened. -/
def DealIs (w : World) (e : Ending) (w' : World) : Prop := ∃ G AL nL cL AD cD A0 C0 A1 C1 A2 C2, e = .returned (.tuple #[.slice (some ⟨G, 0, none⟩) 3 3, .slice AL nL cL, .slice AD 2 cD, .int .i64 0]) ∧ Grow w w' ∧ Blk w' G 22 [.slice A0 4 C0, .slice A1 4 C1, .slice A2 4 C2] ∧
  IsInts w' (.slice A0 4 C0) [6, 7, 8, 9] ∧ IsInts w' (.slice A1 4 C1) [14, 15, 0, 1] ∧ IsInts w' (.slice A2 4 C2) [2, 3, 4, 5] ∧ IsInts w' (.slice AD 2 cD) [12, 13]
theorem at_deal (v v2 : Value) (s : TSet) (w : World) (h : IsSet w v s) (hs : s = tinyT) (h2 : IsInts w v2 (upto 16)) : Calls Try.prog 25 #[v, v2, .int .i64 14, .int .i64 1] w (DealIs w) := by
  refine (Deal_any v v2 s (upto 16) 14 1 w h h2).mono ?_
  rintro e w' ⟨a, b, c, rfl, hg, _, h⟩
  rw [hs] at h ⊢
  obtain ⟨i1, i2, G, vs, rfl, hb, hl, hr⟩ := h tiny_deal
  have hd : (dealtI tinyT (upto 16) 14 1).1 = [[6, 7, 8, 9], [14, 15, 0, 1], [2, 3, 4, 5]] := by decide +kernel
  have hdd : deadI tinyT (upto 16) 14 1 = [12, 13] := by decide +kernel
  rw [hd] at hl hr
  rw [hdd] at i2
  obtain ⟨x0, x1, x2, rfl⟩ : ∃ x0 x1 x2, vs = [x0, x1, x2] := by
    match vs, hl with
    | [x0, x1, x2], _ => exact ⟨x0, x1, x2, rfl⟩
  have j0 := hr 0 x0 _ rfl rfl
  have j1 := hr 1 x1 _ rfl rfl
  have j2 := hr 2 x2 _ rfl rfl
  rw [tiny_deal]
  obtain ⟨AL, cL, rfl, _⟩ := i1
  obtain ⟨AD, cD, rfl, _⟩ := id i2
  obtain ⟨A0, C0, rfl, _⟩ := id j0
  obtain ⟨A1, C1, rfl, _⟩ := id j1
  obtain ⟨A2, C2, rfl, _⟩ := id j2
  exact ⟨G, AL, _, cL, AD, cD, A0, C0, A1, C1, A2, C2, rfl, hg, hb, j0, j1, j2, i2⟩
theorem at_cut (v v2 : Value) (s : TSet) (dl : Int) (dice : List Int) (x r : Int) (w : World) (h : IsSet w v s) (h2 : IsInts w v2 dice) (e1 : cutV s dl dice = x) (e2 : cutErr s dl dice = r) : Calls Try.prog 45 #[v, .int .i64 dl, v2] w (Gives w (.tuple #[.int .i64 x, .int .i64 r])) := by
  have h := Cut_any v v2 s dl dice w h h2
  rwa [e1, e2] at h

set_option maxRecDepth 100000 in
set_option maxHeartbeats 4000000 in
theorem deals_known (v : Value) (s : TSet) (w : World) (h : IsSet w v s) (hs : s = tinyT) : Calls Try.prog 72 #[v] w (Gives w (.bool true)) := by
  have W1 := hid (fun W (hg : Grow w W) => at_wall v s W (h.grow hg) hs)
  have D1 := hid (fun W v2 (hg : Grow w W) (h2 : IsInts W v2 (upto 16)) => at_deal v v2 s W (h.grow hg) hs h2)
  have Q1 := hid (fun W v2 (hg : Grow w W) (h2 : IsInts W v2 [2, 3]) => at_cut v v2 s 1 [2, 3] 4 0 W (h.grow hg) h2 (by rw [hs]; decide +kernel) (by rw [hs]; decide +kernel))
  have Q2 := hid (fun W v2 (hg : Grow w W) (h2 : IsInts W v2 [1]) => at_cut v v2 s 3 [1] 0 2 W (h.grow hg) h2 (by rw [hs]; decide +kernel) (by rw [hs]; decide +kernel))
  have Q3 := hid (fun W (hg : Grow w W) => at_cut v _ s 0 [] 0 6 W (h.grow hg) IsInts.nil (by rw [hs]; decide +kernel) (by rw [hs]; decide +kernel))
  clear hs
  have HI := hid h
  obtain ⟨A, c, B, d, rfl, h1, h2⟩ := h.open_
  obtain ⟨_, _, e1, c1, m1, r1⟩ := h1
  obtain ⟨_, _, e2, d1, m2, r2⟩ := h2
  injection e1 with e1 _ e1'
  injection e2 with e2 _ e2'
  subst e1 e1' e2 e2'
  unfold maxLen at m1 m2
  have HG0 := hid (show Grow w (w.alloc (.cells #[.int .i64 s.pl, .slice A s.su.length c, .int .i64 s.wi, .int .i64 s.dr, .int .i64 s.fl, .int .i64 s.co, .int .i64 s.me, .int .i64 s.de, .slice B s.re.length d] 24)) from (Grow.refl w).alloc _)
  have HB0 := hid (show Blk (w.alloc (.cells #[.int .i64 s.pl, .slice A s.su.length c, .int .i64 s.wi, .int .i64 s.dr, .int .i64 s.fl, .int .i64 s.co, .int .i64 s.me, .int .i64 s.de, .slice B s.re.length d] 24)) w.heap.size 24 (setVals s (.slice A s.su.length c) (.slice B s.re.length d)) from heap_alloc_new w _)
  clear h
  go_enter Try.func72, Try.ntmps72
  go_upto_region 1 with fail
  generalize w.heap.size = g at *
  generalize w.alloc (.cells #[.int .i64 s.pl, .slice A s.su.length c, .int .i64 s.wi, .int .i64 s.dr, .int .i64 s.fl, .int .i64 s.co, .int .i64 s.me, .int .i64 s.de, .slice B s.re.length d] 24) = wz at *
  have KS := hid (fun W (hg : Grow wz W) => And.intro hg (set_cells (HB0.out.grow hg)))
  have HK := hid HG0.out
  have hk := Grow.refl wz
  obtain ⟨-, c0, c1, c2, c3, c4, c5, c6, c7, c8⟩ := KS.out _ hk
  clear HG0 HB0
  go_upto_region 2 with (go_at_call 23; refine (W1.out _ (HK.out.trans hk)).mono ?_; rintro e w1 ⟨aw, cw, rfl, x15, hg'⟩; replace hk := hk.trans hg')
  have X15 := hid (fun W (hg : Grow w1 W) => hg.cell_some x15)
  have H1 := hid hk
  clear x15 c0 c1 c2 c3 c4 c5 c6 c7 c8 hg'
  have K1 := hid (fun W (hg : Grow w1 W) => And.intro hg (KS.out W (H1.out.trans hg)).2)
  clear hk
  go_region_held3 (fun W => Grow w1 W ∧ W.cell? ⟨g, 0, none⟩ = some (.int .i64 s.pl) ∧ W.cell? ⟨g, 1, none⟩ = some (.slice A s.su.length c) ∧ W.cell? ⟨g, 2, none⟩ = some (.int .i64 s.wi) ∧ W.cell? ⟨g, 3, none⟩ = some (.int .i64 s.dr) ∧ W.cell? ⟨g, 4, none⟩ = some (.int .i64 s.fl) ∧ W.cell? ⟨g, 5, none⟩ = some (.int .i64 s.co) ∧ W.cell? ⟨g, 6, none⟩ = some (.int .i64 s.me) ∧ W.cell? ⟨g, 7, none⟩ = some (.int .i64 s.de) ∧ W.cell? ⟨g, 8, none⟩ = some (.slice B s.re.length d))
    (exact K1.out _ (by first | assumption | exact (Grow.refl _).drew))
    (first
      | (go_at_call 32; have hS := (‹Grow w1 _ ∧ _›).1; refine (countL_any 16 _ (by decide)).mono ?_; rintro e wC ⟨vC, rfl, oC, hgC⟩; have hkC := hS.trans hgC)
      | (go_at_call 25; have hS := (‹Grow w1 _ ∧ _›).1; refine (D1.out _ _ (HK.out.trans (H1.out.trans hS)) oC.is).mono ?_; rintro e w2 ⟨G, AL, nL, cL, AD, cD, A0, C0, A1, C1, A2, C2, rfl, hgD, bG, j0, j1, j2, j3⟩; have hkD := hS.trans hgD))
  all_goals
    have JJ := hid (fun W (hg : Grow w2 W) => And.intro hg (And.intro (bG.grow hg) (And.intro (j0.grow hg) (And.intro (j1.grow hg) (And.intro (j2.grow hg) (j3.grow hg))))))
    have hj := Grow.refl w2
    have x15 := X15.out _ hkD
    have H2 := hid (H1.out.trans hkD)
    have K2 := hid (fun W (hg : Grow w2 W) => (KS.out W (H2.out.trans hg)).2)
    clear bG j0 j1 j2 j3 hgD hkD hgC hS oC hkC
    go_upto_region 5 with fail
    clear x15
    obtain ⟨c0, c1, c2, c3, c4, c5, c6, c7, c8⟩ := K2.out _ hj
    go_upto_region 6 with (go_at_call 45; replace hj := hj.alloc (.cells #[.int .i64 2, .int .i64 3] 3); refine (Q1.out _ _ (HK.out.trans (H2.out.trans hj)) (isInts_lit _ [2, 3] (by decide))).mono ?_; rintro e w' ⟨rfl, hg'⟩; replace hj := hj.trans hg'; clear c0 c1 c2 c3 c4 c5 c6 c7 c8; obtain ⟨c0, c1, c2, c3, c4, c5, c6, c7, c8⟩ := K2.out _ hj)
    go_upto_region 7 with (go_at_call 45; replace hj := hj.alloc (.cells #[.int .i64 1] 3); refine (Q2.out _ _ (HK.out.trans (H2.out.trans hj)) (isInts_lit _ [1] (by decide))).mono ?_; rintro e w' ⟨rfl, hg'⟩; replace hj := hj.trans hg'; clear c0 c1 c2 c3 c4 c5 c6 c7 c8; obtain ⟨c0, c1, c2, c3, c4, c5, c6, c7, c8⟩ := K2.out _ hj)
    go_upto_region 8 with (go_at_call 45; refine (Q3.out _ (HK.out.trans (H2.out.trans hj))).mono ?_; rintro e w' ⟨rfl, hg'⟩; replace hj := hj.trans hg'; clear c0 c1 c2 c3 c4 c5 c6 c7 c8)
    obtain ⟨-, bG, j0, j1, j2, j3⟩ := JJ.out _ hj
    have f0 := bG.cell 0
    have f1 := bG.cell 1
    have f2 := bG.cell 2
    simp only [List.getElem?_cons_zero, List.getElem?_cons_succ] at f0 f1 f2
    clear bG j0 j1 j2 j3
    go_wp2_with (go_at_call 22; first
      | ((with_reducible show Calls Try.prog _ #[.slice A0 4 C0, _] _ _); refine (Equal_g _ _ [6, 7, 8, 9] _ ((JJ.out _ (hj.alloc (.cells #[.int .i64 6, .int .i64 7, .int .i64 8, .int .i64 9] 3))).2.2.1) (isInts_lit _ [6, 7, 8, 9] (by decide))).mono ?_; rintro e wG ⟨rfl, hgG⟩; replace hj := (hj.alloc (.cells #[.int .i64 6, .int .i64 7, .int .i64 8, .int .i64 9] 3)).trans hgG; clear f0 f1 f2; obtain ⟨-, bG, -⟩ := JJ.out _ hj; have f0 := bG.cell 0; have f1 := bG.cell 1; have f2 := bG.cell 2; simp only [List.getElem?_cons_zero, List.getElem?_cons_succ] at f0 f1 f2; clear bG)
      | ((with_reducible show Calls Try.prog _ #[.slice A1 4 C1, _] _ _); refine (Equal_g _ _ [14, 15, 0, 1] _ ((JJ.out _ (hj.alloc (.cells #[.int .i64 14, .int .i64 15, .int .i64 0, .int .i64 1] 3))).2.2.2.1) (isInts_lit _ [14, 15, 0, 1] (by decide))).mono ?_; rintro e wG ⟨rfl, hgG⟩; replace hj := (hj.alloc (.cells #[.int .i64 14, .int .i64 15, .int .i64 0, .int .i64 1] 3)).trans hgG; clear f0 f1 f2; obtain ⟨-, bG, -⟩ := JJ.out _ hj; have f0 := bG.cell 0; have f1 := bG.cell 1; have f2 := bG.cell 2; simp only [List.getElem?_cons_zero, List.getElem?_cons_succ] at f0 f1 f2; clear bG)
      | ((with_reducible show Calls Try.prog _ #[.slice A2 4 C2, _] _ _); refine (Equal_g _ _ [2, 3, 4, 5] _ ((JJ.out _ (hj.alloc (.cells #[.int .i64 2, .int .i64 3, .int .i64 4, .int .i64 5] 3))).2.2.2.2.1) (isInts_lit _ [2, 3, 4, 5] (by decide))).mono ?_; rintro e wG ⟨rfl, hgG⟩; replace hj := (hj.alloc (.cells #[.int .i64 2, .int .i64 3, .int .i64 4, .int .i64 5] 3)).trans hgG; clear f0 f1 f2; obtain ⟨-, bG, -⟩ := JJ.out _ hj; have f0 := bG.cell 0; have f1 := bG.cell 1; have f2 := bG.cell 2; simp only [List.getElem?_cons_zero, List.getElem?_cons_succ] at f0 f1 f2; clear bG)
      | ((with_reducible show Calls Try.prog _ #[.slice AD 2 cD, _] _ _); refine (Equal_g _ _ [12, 13] _ ((JJ.out _ (hj.alloc (.cells #[.int .i64 12, .int .i64 13] 3))).2.2.2.2.2) (isInts_lit _ [12, 13] (by decide))).mono ?_; rintro e wG ⟨rfl, hgG⟩; replace hj := (hj.alloc (.cells #[.int .i64 12, .int .i64 13] 3)).trans hgG))
    go_ret
    exact ⟨rfl, HK.out.trans (H2.out.trans hj)⟩
end Go.Proofs.Ytjiahcfegfimmaa

