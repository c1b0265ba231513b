/-
  The walk of the law TileKnown.
-/
import Derived.Test.YtjiahcfegfimmaaKnown46
import Derived.Test.YtjiahcfegfimmaaKnown48
import Derived.Test.YtjiahcfegfimmaaKnown42
namespace Go.Proofs.Ytjiahcfegfimmaa
open Go.RowKit

theorem at_check (v : Value) (s : TSet) (r : Int) (w : World) (h : IsSet w v s) (e : chkErr s = r) : Calls Try.prog 38 #[v] w (Gives w (.int .i64 r)) := by
  have h := Check_any v s w h
  rwa [e] at h
theorem at_kinds (v : Value) (s : TSet) (r : Int) (w : World) (h : IsSet w v s) (e : kindsI s = r) : Calls Try.prog 40 #[v] w (Gives w (.int .i64 r)) := by
  have h := Kinds_any v s w h
  rwa [e] at h
theorem at_size (v : Value) (s : TSet) (r : Int) (w : World) (h : IsSet w v s) (e : sizeI s = r) : Calls Try.prog 30 #[v] w (Gives w (.int .i64 r)) := by
  have h := Size_any v s w h
  rwa [e] at h
theorem at_kind (v : Value) (s : TSet) (t r : Int) (w : World) (h : IsSet w v s) (t0 : 0 ≤ t ∧ t ≤ 1000) (e : kindI s t = r) : Calls Try.prog 55 #[v, .int .i64 t] w (Gives w (.int .i64 r)) := by
  have h := Kind_any v s t w h (by omega) (by omega)
  rwa [e] at h
theorem at_red (v : Value) (s : TSet) (t : Int) (r : Bool) (w : World) (h : IsSet w v s) (t0 : 0 ≤ t ∧ t ≤ 1000) (e : redB s t = r) : Calls Try.prog 57 #[v, .int .i64 t] w (Gives w (.bool r)) := by
  have h := Red_any v s t w h (by omega) (by omega)
  rwa [e] at h

theorem nine {w : World} {T : Nat} {v0 v1 v2 v3 v4 v5 v6 v7 v8 : Value} (h : Blk w T 24 [v0, v1, v2, v3, v4, v5, v6, v7, v8]) : w.cell? ⟨T, 0, none⟩ = some v0 ∧ w.cell? ⟨T, 1, none⟩ = some v1 ∧ w.cell? ⟨T, 2, none⟩ = some v2 ∧ w.cell? ⟨T, 3, none⟩ = some v3 ∧ w.cell? ⟨T, 4, none⟩ = some v4 ∧ w.cell? ⟨T, 5, none⟩ = some v5 ∧ w.cell? ⟨T, 6, none⟩ = some v6 ∧ w.cell? ⟨T, 7, none⟩ = some v7 ∧ w.cell? ⟨T, 8, none⟩ = some v8 :=
  ⟨h.cell 0, h.cell 1, h.cell 2, h.cell 3, h.cell 4, h.cell 5, h.cell 6, h.cell 7, h.cell 8⟩
/-- What the four sets are like when their parts are stored. -/
theorem known_stores {x y : World} {t : TSet} {u1 u2 u3 u4 h : Nat} {a1 b1 a2 b2 a3 b3 a4 b4 : Value} (hg : Grow x y) (hh : y.heap.size = h) (x1 : x.heap.size ≤ u1) (x2 : x.heap.size ≤ u2) (x3 : x.heap.size ≤ u3) (x4 : x.heap.size ≤ u4)
    (n12 : u1 ≠ u2) (n13 : u1 ≠ u3) (n14 : u1 ≠ u4) (n23 : u2 ≠ u3) (n24 : u2 ≠ u4) (n34 : u3 ≠ u4)
    (k1 : Blk y u1 24 (setVals t a1 b1)) (k2 : Blk y u2 24 (setVals t a2 b2)) (k3 : Blk y u3 24 (setVals t a3 b3)) (k4 : Blk y u4 24 (setVals t a4 b4))
    (i1 : IsInts x a1 t.su) (j1 : IsInts x b1 t.re) (i2 : IsInts x a2 t.su) (i3 : IsInts x a3 t.su) (j4 : IsInts x b4 t.re) :
    let z0 := ((y.alloc (.cells #[.int .i64 2, .int .i64 1] 3)).alloc (.cells #[.int .i64 4] 3)).alloc (.cells #[.int .i64 10] 3)
    let z1 := z0.setCell ⟨u1, 7, none⟩ (.int .i64 4)
    let z2 := z1.setCell ⟨u2, 8, none⟩ (.slice (some ⟨h, 0, none⟩) 2 2)
    let z3 := z2.setCell ⟨u3, 8, none⟩ (.slice (some ⟨h + 1, 0, none⟩) 1 1)
    let z4 := z3.setCell ⟨u4, 1, none⟩ (.slice (some ⟨h + 1 + 1, 0, none⟩) 1 1)
    ((z0.cell? ⟨u1, 7, none⟩ = some (.int .i64 t.de) ∧ z0.frozen? ⟨u1, 7, none⟩ = false) ∧ (z1.cell? ⟨u2, 8, none⟩ = some b2 ∧ z1.frozen? ⟨u2, 8, none⟩ = false) ∧ (z2.cell? ⟨u3, 8, none⟩ = some b3 ∧ z2.frozen? ⟨u3, 8, none⟩ = false) ∧ (z3.cell? ⟨u4, 1, none⟩ = some a4 ∧ z3.frozen? ⟨u4, 1, none⟩ = false)) ∧
    Grow x z4 ∧
    (Blk z4 u1 24 [.int .i64 t.pl, a1, .int .i64 t.wi, .int .i64 t.dr, .int .i64 t.fl, .int .i64 t.co, .int .i64 t.me, .int .i64 4, b1] ∧
     Blk z4 u2 24 [.int .i64 t.pl, a2, .int .i64 t.wi, .int .i64 t.dr, .int .i64 t.fl, .int .i64 t.co, .int .i64 t.me, .int .i64 t.de, .slice (some ⟨h, 0, none⟩) 2 2] ∧
     Blk z4 u3 24 [.int .i64 t.pl, a3, .int .i64 t.wi, .int .i64 t.dr, .int .i64 t.fl, .int .i64 t.co, .int .i64 t.me, .int .i64 t.de, .slice (some ⟨h + 1, 0, none⟩) 1 1] ∧
     Blk z4 u4 24 [.int .i64 t.pl, .slice (some ⟨h + 1 + 1, 0, none⟩) 1 1, .int .i64 t.wi, .int .i64 t.dr, .int .i64 t.fl, .int .i64 t.co, .int .i64 t.me, .int .i64 t.de, b4]) ∧
    (IsSet z4 (.agg #[.int .i64 t.pl, a1, .int .i64 t.wi, .int .i64 t.dr, .int .i64 t.fl, .int .i64 t.co, .int .i64 t.me, .int .i64 4, b1]) { t with de := 4 } ∧
     IsSet z4 (.agg #[.int .i64 t.pl, a2, .int .i64 t.wi, .int .i64 t.dr, .int .i64 t.fl, .int .i64 t.co, .int .i64 t.me, .int .i64 t.de, .slice (some ⟨h, 0, none⟩) 2 2]) { t with re := [2, 1] } ∧
     IsSet z4 (.agg #[.int .i64 t.pl, a3, .int .i64 t.wi, .int .i64 t.dr, .int .i64 t.fl, .int .i64 t.co, .int .i64 t.me, .int .i64 t.de, .slice (some ⟨h + 1, 0, none⟩) 1 1]) { t with re := [4] } ∧
     IsSet z4 (.agg #[.int .i64 t.pl, .slice (some ⟨h + 1 + 1, 0, none⟩) 1 1, .int .i64 t.wi, .int .i64 t.dr, .int .i64 t.fl, .int .i64 t.co, .int .i64 t.me, .int .i64 t.de, b4]) { t with su := [10] }) := by
  intro z0 z1 z2 z3 z4
  have g0 : Grow y z0 := (((Grow.refl _).alloc _).alloc _).alloc _
  have l1 := k1.lt
  have l2 := k2.lt
  have l3 := k3.lt
  have l4 := k4.lt
  have p1 := k1.grow g0
  have p2 := k2.grow g0
  have p3 := k3.grow g0
  have p4 := k4.grow g0
  have m1 : Blk z0 h 3 (ints [2, 1]) := Blk.grow (Blk.new_at (w := y) (xs := ints [2, 1]) hh) (((Grow.refl _).alloc _).alloc _)
  have m2 : Blk z0 (h + 1) 3 (ints [4]) := Blk.grow (Blk.new_at (w := y.alloc (.cells #[.int .i64 2, .int .i64 1] 3)) (xs := ints [4]) (by simp [hh])) ((Grow.refl _).alloc _)
  have m3 : Blk z0 (h + 1 + 1) 3 (ints [10]) := Blk.new_at (w := (y.alloc (.cells #[.int .i64 2, .int .i64 1] 3)).alloc (.cells #[.int .i64 4] 3)) (xs := ints [10]) (by simp [hh])
  have f1 := (p1.set 7 (.int .i64 4))
  have f2 := (p2.far (p := ⟨u1, 7, none⟩) (Ne.symm n12) (.int .i64 4)).set 8 (.slice (some ⟨h, 0, none⟩) 2 2)
  have f3 := ((p3.far (p := ⟨u1, 7, none⟩) (Ne.symm n13) (.int .i64 4)).far (p := ⟨u2, 8, none⟩) (Ne.symm n23) (.slice (some ⟨h, 0, none⟩) 2 2)).set 8 (.slice (some ⟨h + 1, 0, none⟩) 1 1)
  have f4 := (((p4.far (p := ⟨u1, 7, none⟩) (Ne.symm n14) (.int .i64 4)).far (p := ⟨u2, 8, none⟩) (Ne.symm n24) (.slice (some ⟨h, 0, none⟩) 2 2)).far (p := ⟨u3, 8, none⟩) (Ne.symm n34) (.slice (some ⟨h + 1, 0, none⟩) 1 1)).set 1 (.slice (some ⟨h + 1 + 1, 0, none⟩) 1 1)
  have e1 := ((f1.far (p := ⟨u2, 8, none⟩) n12 (.slice (some ⟨h, 0, none⟩) 2 2)).far (p := ⟨u3, 8, none⟩) n13 (.slice (some ⟨h + 1, 0, none⟩) 1 1)).far (p := ⟨u4, 1, none⟩) n14 (.slice (some ⟨h + 1 + 1, 0, none⟩) 1 1)
  have e2 := (f2.far (p := ⟨u3, 8, none⟩) n23 (.slice (some ⟨h + 1, 0, none⟩) 1 1)).far (p := ⟨u4, 1, none⟩) n24 (.slice (some ⟨h + 1 + 1, 0, none⟩) 1 1)
  have e3 := f3.far (p := ⟨u4, 1, none⟩) n34 (.slice (some ⟨h + 1 + 1, 0, none⟩) 1 1)
  have far4 : ∀ {k : Nat} {xs : List Value}, h ≤ k → Blk z0 k 3 xs → Blk z4 k 3 xs := fun {k} {xs} hk hb =>
    (((hb.far (p := ⟨u1, 7, none⟩) (by simp; omega) (.int .i64 4)).far (p := ⟨u2, 8, none⟩) (by simp; omega) (.slice (some ⟨h, 0, none⟩) 2 2)).far (p := ⟨u3, 8, none⟩) (by simp; omega) (.slice (some ⟨h + 1, 0, none⟩) 1 1)).far (p := ⟨u4, 1, none⟩) (by simp; omega) (.slice (some ⟨h + 1 + 1, 0, none⟩) 1 1)
  have gz : Grow x z4 := ((((hg.trans g0).set (p := ⟨u1, 7, none⟩) x1 (.int .i64 4)).set (p := ⟨u2, 8, none⟩) x2 (.slice (some ⟨h, 0, none⟩) 2 2)).set (p := ⟨u3, 8, none⟩) x3 (.slice (some ⟨h + 1, 0, none⟩) 1 1)).set (p := ⟨u4, 1, none⟩) x4 (.slice (some ⟨h + 1 + 1, 0, none⟩) 1 1)
  have q2 := p2.far (p := ⟨u1, 7, none⟩) (Ne.symm n12) (.int .i64 4)
  have q3 := (p3.far (p := ⟨u1, 7, none⟩) (Ne.symm n13) (.int .i64 4)).far (p := ⟨u2, 8, none⟩) (Ne.symm n23) (.slice (some ⟨h, 0, none⟩) 2 2)
  have q4 := ((p4.far (p := ⟨u1, 7, none⟩) (Ne.symm n14) (.int .i64 4)).far (p := ⟨u2, 8, none⟩) (Ne.symm n24) (.slice (some ⟨h, 0, none⟩) 2 2)).far (p := ⟨u3, 8, none⟩) (Ne.symm n34) (.slice (some ⟨h + 1, 0, none⟩) 1 1)
  exact ⟨⟨⟨p1.cell 7, p1.free 7⟩, ⟨q2.cell 8, q2.free 8⟩, ⟨q3.cell 8, q3.free 8⟩, ⟨q4.cell 1, q4.free 1⟩⟩, gz, ⟨e1, e2, e3, f4⟩,
    ⟨_, _, rfl, i1.grow gz, j1.grow gz⟩, ⟨_, _, rfl, i2.grow gz, (far4 (Nat.le_refl _) m1).is (by unfold maxLen; simp)⟩, ⟨_, _, rfl, i3.grow gz, (far4 (by omega) m2).is (by unfold maxLen; simp)⟩, ⟨_, _, rfl, (far4 (by omega) m3).is (by unfold maxLen; simp), j4.grow gz⟩⟩

set_option maxRecDepth 100000 in
set_option maxHeartbeats 4000000 in
theorem walkTileKnown (w : World) : Calls Try.prog 17 #[] w (Gives w (.bool true)) := by
  obtain ⟨s, hs⟩ : ∃ s, s = bigT := ⟨_, rfl⟩
  obtain ⟨t, ht⟩ : ∃ t, t = tinyT := ⟨_, rfl⟩
  have BG := Big_any
  rw [← hs] at BG
  have TN := Tiny_any
  rw [← ht] at TN
  have BG := hid BG
  have TN := hid TN
  go_enter Try.func17, Try.ntmps17
  go_wp2_with fail
  refine (BG.out _).mono ?_
  rintro e w1 ⟨vB, rfl, hB, hgB⟩
  go_wp2_with fail
  refine (TN.out _).mono ?_
  rintro e w2 ⟨vT, rfl, hT, hgT⟩
  have hB := hB.grow hgT
  have H1 := hid (hgB.trans hgT)
  clear BG hgB hgT
  --have gA : Grow w2 ((w2.alloc (.cells #[.int .i64 s.pl, .slice A s.su.length c, .int .i64 s.wi, .int .i64 s.dr, .int .i64 s.fl, .int .i64 s.co, .int .i64 s.me, .int .i64 s.de, .slice B s.re.length d] 24)).alloc (.cells #[.int .i64 t.pl, .slice A' t.su.length c', .int .i64 t.wi, .int .i64 t.dr, .int .i64 t.fl, .int .i64 t.co, .int .i64 t.me, .int .i64 t.de, .slice B' t.re.length d'] 24)) := ((Grow.refl _).alloc _).alloc _
  have Y1 := hid (fun W (hg : Grow w2 W) => at_check _ s 0 W (hB.grow hg) (by rw [hs]; decide +kernel))
  have Y2 := hid (fun W (hg : Grow w2 W) => at_kinds _ s 34 W (hB.grow hg) (by rw [hs]; decide +kernel))
  have Y3 := hid (fun W (hg : Grow w2 W) => at_kinds _ t 4 W (hT.grow hg) (by rw [ht]; decide +kernel))
  have Y4 := hid (fun W (hg : Grow w2 W) => at_size _ t 16 W (hT.grow hg) (by rw [ht]; decide +kernel))
  have K1 := hid (fun W (hg : Grow w2 W) => at_kind _ s 16 4 W (hB.grow hg) (by decide) (by rw [hs]; decide +kernel))
  have R1 := hid (fun W (hg : Grow w2 W) => at_red _ s 16 true W (hB.grow hg) (by decide) (by rw [hs]; decide +kernel))
  have R2 := hid (fun W (hg : Grow w2 W) => at_red _ s 17 false W (hB.grow hg) (by decide) (by rw [hs]; decide +kernel))
  have K2 := hid (fun W (hg : Grow w2 W) => at_kind _ s 135 33 W (hB.grow hg) (by decide) (by rw [hs]; decide +kernel))
  have K3 := hid (fun W (hg : Grow w2 W) => at_kind _ s 136 (-1) W (hB.grow hg) (by decide) (by rw [hs]; decide +kernel))
  have PP := hid (fun W (hg : Grow w2 W) => places_known _ _ s t W (hB.grow hg) (hT.grow hg) hs ht)
  have PN := hid (fun W (hg : Grow w2 W) => notes_known _ _ s t W (hB.grow hg) (hT.grow hg) hs ht)
  have PD := hid (fun W (hg : Grow w2 W) => deals_known _ t W (hT.grow hg) ht)
  obtain ⟨A, c, B, d, rfl, _, _⟩ := hB.open_
  obtain ⟨A', c', B', d', rfl, _, _⟩ := hT.open_
  have b1 : Blk ((w2.alloc (.cells #[.int .i64 s.pl, .slice A s.su.length c, .int .i64 s.wi, .int .i64 s.dr, .int .i64 s.fl, .int .i64 s.co, .int .i64 s.me, .int .i64 s.de, .slice B s.re.length d] 24)).alloc (.cells #[.int .i64 t.pl, .slice A' t.su.length c', .int .i64 t.wi, .int .i64 t.dr, .int .i64 t.fl, .int .i64 t.co, .int .i64 t.me, .int .i64 t.de, .slice B' t.re.length d'] 24)) w2.heap.size 24 (setVals s (.slice A s.su.length c) (.slice B s.re.length d)) := Blk.grow (show Blk _ _ _ (setVals s (.slice A s.su.length c) (.slice B s.re.length d)) from Blk.new_at rfl) ((Grow.refl _).alloc _)
  have b2 : Blk ((w2.alloc (.cells #[.int .i64 s.pl, .slice A s.su.length c, .int .i64 s.wi, .int .i64 s.dr, .int .i64 s.fl, .int .i64 s.co, .int .i64 s.me, .int .i64 s.de, .slice B s.re.length d] 24)).alloc (.cells #[.int .i64 t.pl, .slice A' t.su.length c', .int .i64 t.wi, .int .i64 t.dr, .int .i64 t.fl, .int .i64 t.co, .int .i64 t.me, .int .i64 t.de, .slice B' t.re.length d'] 24)) (w2.heap.size + 1) 24 (setVals t (.slice A' t.su.length c') (.slice B' t.re.length d')) := Blk.new_at (by simp)
  have g3 : Grow w2 ((w2.alloc (.cells #[.int .i64 s.pl, .slice A s.su.length c, .int .i64 s.wi, .int .i64 s.dr, .int .i64 s.fl, .int .i64 s.co, .int .i64 s.me, .int .i64 s.de, .slice B s.re.length d] 24)).alloc (.cells #[.int .i64 t.pl, .slice A' t.su.length c', .int .i64 t.wi, .int .i64 t.dr, .int .i64 t.fl, .int .i64 t.co, .int .i64 t.me, .int .i64 t.de, .slice B' t.re.length d'] 24)) := ((Grow.refl _).alloc _).alloc _
  have lt1 := b1.lt
  have lt2 := b2.lt
  have BB := hid (And.intro g3 (And.intro b1 b2))
  have HT := hid ht
  clear b1 b2 g3 hB hT hs ht
  go_upto_region 2 with fail
  obtain ⟨g3, b1, b2⟩ := BB.out
  clear BB
  generalize w2.heap.size = g at *
  generalize (w2.alloc (.cells #[.int .i64 s.pl, .slice A s.su.length c, .int .i64 s.wi, .int .i64 s.dr, .int .i64 s.fl, .int .i64 s.co, .int .i64 s.me, .int .i64 s.de, .slice B s.re.length d] 24)).alloc (.cells #[.int .i64 t.pl, .slice A' t.su.length c', .int .i64 t.wi, .int .i64 t.dr, .int .i64 t.fl, .int .i64 t.co, .int .i64 t.me, .int .i64 t.de, .slice B' t.re.length d'] 24) = wz at *
  have KS := hid (fun W (hg : Grow wz W) => And.intro hg (set_cells (b1.grow hg)))
  have KT := hid (fun W (hg : Grow wz W) => And.intro hg (set_cells (b2.grow hg)))
  have HK := hid g3
  have hk := Grow.refl wz
  obtain ⟨-, c0, c1, c2, c3, c4, c5, c6, c7, c8⟩ := KS.out _ hk
  obtain ⟨-, d0, d1, d2, d3, d4, d5, d6, d7, d8⟩ := KT.out _ hk
  clear b1 b2 g3 BG
  go_upto_region 4 with (first
    | (go_at_call 21; refine (awake_any _).mono ?_; rintro e w' ⟨rfl, hg'⟩; replace hk := hk.trans hg'; clear c0 c1 c2 c3 c4 c5 c6 c7 c8 d0 d1 d2 d3 d4 d5 d6 d7 d8; obtain ⟨-, c0, c1, c2, c3, c4, c5, c6, c7, c8⟩ := KS.out _ hk; obtain ⟨-, d0, d1, d2, d3, d4, d5, d6, d7, d8⟩ := KT.out _ hk)
    | (go_at_call 38; ((with_reducible refine (Y1.out _ (HK.out.trans hk)).mono ?_); rintro e w' ⟨rfl, hg'⟩; replace hk := hk.trans hg'; clear c0 c1 c2 c3 c4 c5 c6 c7 c8 d0 d1 d2 d3 d4 d5 d6 d7 d8; obtain ⟨-, c0, c1, c2, c3, c4, c5, c6, c7, c8⟩ := KS.out _ hk; obtain ⟨-, d0, d1, d2, d3, d4, d5, d6, d7, d8⟩ := KT.out _ hk))
    | (go_at_call 40; first | ((with_reducible refine (Y2.out _ (HK.out.trans hk)).mono ?_); rintro e w' ⟨rfl, hg'⟩; replace hk := hk.trans hg'; clear c0 c1 c2 c3 c4 c5 c6 c7 c8 d0 d1 d2 d3 d4 d5 d6 d7 d8; obtain ⟨-, c0, c1, c2, c3, c4, c5, c6, c7, c8⟩ := KS.out _ hk; obtain ⟨-, d0, d1, d2, d3, d4, d5, d6, d7, d8⟩ := KT.out _ hk) | ((with_reducible refine (Y3.out _ (HK.out.trans hk)).mono ?_); rintro e w' ⟨rfl, hg'⟩; replace hk := hk.trans hg'; clear c0 c1 c2 c3 c4 c5 c6 c7 c8 d0 d1 d2 d3 d4 d5 d6 d7 d8; obtain ⟨-, c0, c1, c2, c3, c4, c5, c6, c7, c8⟩ := KS.out _ hk; obtain ⟨-, d0, d1, d2, d3, d4, d5, d6, d7, d8⟩ := KT.out _ hk))
    | (go_at_call 30; ((with_reducible refine (Y4.out _ (HK.out.trans hk)).mono ?_); rintro e w' ⟨rfl, hg'⟩; replace hk := hk.trans hg'; clear c0 c1 c2 c3 c4 c5 c6 c7 c8 d0 d1 d2 d3 d4 d5 d6 d7 d8; obtain ⟨-, c0, c1, c2, c3, c4, c5, c6, c7, c8⟩ := KS.out _ hk; obtain ⟨-, d0, d1, d2, d3, d4, d5, d6, d7, d8⟩ := KT.out _ hk)))
  clear c0 c1 c2 c3 c4 c5 c6 c7 c8 d0 d1 d2 d3 d4 d5 d6 d7 d8
  go_wp2_with fail
  refine (TN.out _).mono ?_
  rintro e x1 ⟨v1, rfl, i1, hg1⟩
  go_wp2_with fail
  refine (TN.out _).mono ?_
  rintro e x2 ⟨v2, rfl, i2, hg2⟩
  go_wp2_with fail
  refine (TN.out _).mono ?_
  rintro e x3 ⟨v3, rfl, i3, hg3⟩
  go_wp2_with fail
  refine (TN.out _).mono ?_
  rintro e x4 ⟨v4, rfl, i4, hg4⟩
  have i3 := i3.grow hg4
  have i2 := i2.grow (hg3.trans hg4)
  have i1 := i1.grow (hg2.trans (hg3.trans hg4))
  replace hk := hk.trans (hg1.trans (hg2.trans (hg3.trans hg4)))
  have H4 := hid hk
  have II := hid (And.intro i1 (And.intro i2 (And.intro i3 i4)))
  obtain ⟨A1, c1, B1, d1, rfl, _, _⟩ := i1.open_
  obtain ⟨A2, c2, B2, d2, rfl, _, _⟩ := i2.open_
  obtain ⟨A3, c3, B3, d3, rfl, _, _⟩ := i3.open_
  obtain ⟨A4, c4, B4, d4, rfl, _, _⟩ := i4.open_
  clear i1 i2 i3 i4 hg1 hg2 hg3 hg4 hk TN
  go_upto_region 5 with fail
  have hy : Grow x4 ((((x4.alloc (.cells #[.int .i64 t.pl, .slice A1 t.su.length c1, .int .i64 t.wi, .int .i64 t.dr, .int .i64 t.fl, .int .i64 t.co, .int .i64 t.me, .int .i64 t.de, .slice B1 t.re.length d1] 24)).alloc (.cells #[.int .i64 t.pl, .slice A2 t.su.length c2, .int .i64 t.wi, .int .i64 t.dr, .int .i64 t.fl, .int .i64 t.co, .int .i64 t.me, .int .i64 t.de, .slice B2 t.re.length d2] 24)).alloc (.cells #[.int .i64 t.pl, .slice A3 t.su.length c3, .int .i64 t.wi, .int .i64 t.dr, .int .i64 t.fl, .int .i64 t.co, .int .i64 t.me, .int .i64 t.de, .slice B3 t.re.length d3] 24)).alloc (.cells #[.int .i64 t.pl, .slice A4 t.su.length c4, .int .i64 t.wi, .int .i64 t.dr, .int .i64 t.fl, .int .i64 t.co, .int .i64 t.me, .int .i64 t.de, .slice B4 t.re.length d4] 24)) := ((((Grow.refl _).alloc _).alloc _).alloc _).alloc _
  have hs4 : ((((x4.alloc (.cells #[.int .i64 t.pl, .slice A1 t.su.length c1, .int .i64 t.wi, .int .i64 t.dr, .int .i64 t.fl, .int .i64 t.co, .int .i64 t.me, .int .i64 t.de, .slice B1 t.re.length d1] 24)).alloc (.cells #[.int .i64 t.pl, .slice A2 t.su.length c2, .int .i64 t.wi, .int .i64 t.dr, .int .i64 t.fl, .int .i64 t.co, .int .i64 t.me, .int .i64 t.de, .slice B2 t.re.length d2] 24)).alloc (.cells #[.int .i64 t.pl, .slice A3 t.su.length c3, .int .i64 t.wi, .int .i64 t.dr, .int .i64 t.fl, .int .i64 t.co, .int .i64 t.me, .int .i64 t.de, .slice B3 t.re.length d3] 24)).alloc (.cells #[.int .i64 t.pl, .slice A4 t.su.length c4, .int .i64 t.wi, .int .i64 t.dr, .int .i64 t.fl, .int .i64 t.co, .int .i64 t.me, .int .i64 t.de, .slice B4 t.re.length d4] 24)).heap.size = x4.heap.size + 1 + 1 + 1 + 1 := by simp
  have k1 : Blk ((((x4.alloc (.cells #[.int .i64 t.pl, .slice A1 t.su.length c1, .int .i64 t.wi, .int .i64 t.dr, .int .i64 t.fl, .int .i64 t.co, .int .i64 t.me, .int .i64 t.de, .slice B1 t.re.length d1] 24)).alloc (.cells #[.int .i64 t.pl, .slice A2 t.su.length c2, .int .i64 t.wi, .int .i64 t.dr, .int .i64 t.fl, .int .i64 t.co, .int .i64 t.me, .int .i64 t.de, .slice B2 t.re.length d2] 24)).alloc (.cells #[.int .i64 t.pl, .slice A3 t.su.length c3, .int .i64 t.wi, .int .i64 t.dr, .int .i64 t.fl, .int .i64 t.co, .int .i64 t.me, .int .i64 t.de, .slice B3 t.re.length d3] 24)).alloc (.cells #[.int .i64 t.pl, .slice A4 t.su.length c4, .int .i64 t.wi, .int .i64 t.dr, .int .i64 t.fl, .int .i64 t.co, .int .i64 t.me, .int .i64 t.de, .slice B4 t.re.length d4] 24)) x4.heap.size 24 (setVals t (.slice A1 t.su.length c1) (.slice B1 t.re.length d1)) := Blk.grow (show Blk (x4.alloc (.cells #[.int .i64 t.pl, .slice A1 t.su.length c1, .int .i64 t.wi, .int .i64 t.dr, .int .i64 t.fl, .int .i64 t.co, .int .i64 t.me, .int .i64 t.de, .slice B1 t.re.length d1] 24)) x4.heap.size _ (setVals t (.slice A1 t.su.length c1) (.slice B1 t.re.length d1)) from Blk.new_at rfl) ((((Grow.refl _).alloc _).alloc _).alloc _)
  have k2 : Blk ((((x4.alloc (.cells #[.int .i64 t.pl, .slice A1 t.su.length c1, .int .i64 t.wi, .int .i64 t.dr, .int .i64 t.fl, .int .i64 t.co, .int .i64 t.me, .int .i64 t.de, .slice B1 t.re.length d1] 24)).alloc (.cells #[.int .i64 t.pl, .slice A2 t.su.length c2, .int .i64 t.wi, .int .i64 t.dr, .int .i64 t.fl, .int .i64 t.co, .int .i64 t.me, .int .i64 t.de, .slice B2 t.re.length d2] 24)).alloc (.cells #[.int .i64 t.pl, .slice A3 t.su.length c3, .int .i64 t.wi, .int .i64 t.dr, .int .i64 t.fl, .int .i64 t.co, .int .i64 t.me, .int .i64 t.de, .slice B3 t.re.length d3] 24)).alloc (.cells #[.int .i64 t.pl, .slice A4 t.su.length c4, .int .i64 t.wi, .int .i64 t.dr, .int .i64 t.fl, .int .i64 t.co, .int .i64 t.me, .int .i64 t.de, .slice B4 t.re.length d4] 24)) (x4.heap.size + 1) 24 (setVals t (.slice A2 t.su.length c2) (.slice B2 t.re.length d2)) := Blk.grow (show Blk ((x4.alloc (.cells #[.int .i64 t.pl, .slice A1 t.su.length c1, .int .i64 t.wi, .int .i64 t.dr, .int .i64 t.fl, .int .i64 t.co, .int .i64 t.me, .int .i64 t.de, .slice B1 t.re.length d1] 24)).alloc (.cells #[.int .i64 t.pl, .slice A2 t.su.length c2, .int .i64 t.wi, .int .i64 t.dr, .int .i64 t.fl, .int .i64 t.co, .int .i64 t.me, .int .i64 t.de, .slice B2 t.re.length d2] 24)) (x4.heap.size + 1) _ (setVals t (.slice A2 t.su.length c2) (.slice B2 t.re.length d2)) from Blk.new_at (by simp)) (((Grow.refl _).alloc _).alloc _)
  have k3 : Blk ((((x4.alloc (.cells #[.int .i64 t.pl, .slice A1 t.su.length c1, .int .i64 t.wi, .int .i64 t.dr, .int .i64 t.fl, .int .i64 t.co, .int .i64 t.me, .int .i64 t.de, .slice B1 t.re.length d1] 24)).alloc (.cells #[.int .i64 t.pl, .slice A2 t.su.length c2, .int .i64 t.wi, .int .i64 t.dr, .int .i64 t.fl, .int .i64 t.co, .int .i64 t.me, .int .i64 t.de, .slice B2 t.re.length d2] 24)).alloc (.cells #[.int .i64 t.pl, .slice A3 t.su.length c3, .int .i64 t.wi, .int .i64 t.dr, .int .i64 t.fl, .int .i64 t.co, .int .i64 t.me, .int .i64 t.de, .slice B3 t.re.length d3] 24)).alloc (.cells #[.int .i64 t.pl, .slice A4 t.su.length c4, .int .i64 t.wi, .int .i64 t.dr, .int .i64 t.fl, .int .i64 t.co, .int .i64 t.me, .int .i64 t.de, .slice B4 t.re.length d4] 24)) (x4.heap.size + 1 + 1) 24 (setVals t (.slice A3 t.su.length c3) (.slice B3 t.re.length d3)) := Blk.grow (show Blk (((x4.alloc (.cells #[.int .i64 t.pl, .slice A1 t.su.length c1, .int .i64 t.wi, .int .i64 t.dr, .int .i64 t.fl, .int .i64 t.co, .int .i64 t.me, .int .i64 t.de, .slice B1 t.re.length d1] 24)).alloc (.cells #[.int .i64 t.pl, .slice A2 t.su.length c2, .int .i64 t.wi, .int .i64 t.dr, .int .i64 t.fl, .int .i64 t.co, .int .i64 t.me, .int .i64 t.de, .slice B2 t.re.length d2] 24)).alloc (.cells #[.int .i64 t.pl, .slice A3 t.su.length c3, .int .i64 t.wi, .int .i64 t.dr, .int .i64 t.fl, .int .i64 t.co, .int .i64 t.me, .int .i64 t.de, .slice B3 t.re.length d3] 24)) (x4.heap.size + 1 + 1) _ (setVals t (.slice A3 t.su.length c3) (.slice B3 t.re.length d3)) from Blk.new_at (by simp)) ((Grow.refl _).alloc _)
  have k4 : Blk ((((x4.alloc (.cells #[.int .i64 t.pl, .slice A1 t.su.length c1, .int .i64 t.wi, .int .i64 t.dr, .int .i64 t.fl, .int .i64 t.co, .int .i64 t.me, .int .i64 t.de, .slice B1 t.re.length d1] 24)).alloc (.cells #[.int .i64 t.pl, .slice A2 t.su.length c2, .int .i64 t.wi, .int .i64 t.dr, .int .i64 t.fl, .int .i64 t.co, .int .i64 t.me, .int .i64 t.de, .slice B2 t.re.length d2] 24)).alloc (.cells #[.int .i64 t.pl, .slice A3 t.su.length c3, .int .i64 t.wi, .int .i64 t.dr, .int .i64 t.fl, .int .i64 t.co, .int .i64 t.me, .int .i64 t.de, .slice B3 t.re.length d3] 24)).alloc (.cells #[.int .i64 t.pl, .slice A4 t.su.length c4, .int .i64 t.wi, .int .i64 t.dr, .int .i64 t.fl, .int .i64 t.co, .int .i64 t.me, .int .i64 t.de, .slice B4 t.re.length d4] 24)) (x4.heap.size + 1 + 1 + 1) 24 (setVals t (.slice A4 t.su.length c4) (.slice B4 t.re.length d4)) := Blk.new_at (by simp)
  generalize ((((x4.alloc (.cells #[.int .i64 t.pl, .slice A1 t.su.length c1, .int .i64 t.wi, .int .i64 t.dr, .int .i64 t.fl, .int .i64 t.co, .int .i64 t.me, .int .i64 t.de, .slice B1 t.re.length d1] 24)).alloc (.cells #[.int .i64 t.pl, .slice A2 t.su.length c2, .int .i64 t.wi, .int .i64 t.dr, .int .i64 t.fl, .int .i64 t.co, .int .i64 t.me, .int .i64 t.de, .slice B2 t.re.length d2] 24)).alloc (.cells #[.int .i64 t.pl, .slice A3 t.su.length c3, .int .i64 t.wi, .int .i64 t.dr, .int .i64 t.fl, .int .i64 t.co, .int .i64 t.me, .int .i64 t.de, .slice B3 t.re.length d3] 24)).alloc (.cells #[.int .i64 t.pl, .slice A4 t.su.length c4, .int .i64 t.wi, .int .i64 t.dr, .int .i64 t.fl, .int .i64 t.co, .int .i64 t.me, .int .i64 t.de, .slice B4 t.re.length d4] 24)) = y at *
  generalize hu4 : x4.heap.size + 1 + 1 + 1 = u4 at *
  generalize hu3 : x4.heap.size + 1 + 1 = u3 at *
  generalize hu2 : x4.heap.size + 1 = u2 at *
  obtain ⟨u1, hu1⟩ : ∃ u, u = x4.heap.size := ⟨_, rfl⟩
  rw [← hu1] at k1
  rw [← hu1]
  have KN := known_stores hy rfl (u1 := u1) (u2 := u2) (u3 := u3) (u4 := u4) (by omega) (by omega) (by omega) (by omega) (by omega) (by omega) (by omega) (by omega) (by omega) (by omega) k1 k2 k3 k4 (a1 := .slice A1 t.su.length c1) (b1 := .slice B1 t.re.length d1) (a2 := .slice A2 t.su.length c2) (a3 := .slice A3 t.su.length c3) (b4 := .slice B4 t.re.length d4) (by obtain ⟨_, _, e, i, j⟩ := II.out.1; cases e; exact i) (by obtain ⟨_, _, e, i, j⟩ := II.out.1; cases e; exact j) (by obtain ⟨_, _, e, i, j⟩ := II.out.2.1; cases e; exact i) (by obtain ⟨_, _, e, i, j⟩ := II.out.2.2.1; cases e; exact i) (by obtain ⟨_, _, e, i, j⟩ := II.out.2.2.2; cases e; exact j)
  simp only at KN
  obtain ⟨⟨⟨s1, s2⟩, ⟨s3, s4⟩, ⟨s5, s6⟩, ⟨s7, s8⟩⟩, GX, ⟨e1, e2, e3, e4⟩, j1, j2, j3, j4⟩ := KN
  have EE := hid (And.intro GX (And.intro (And.intro e1 (And.intro e2 (And.intro e3 e4))) (And.intro j1 (And.intro j2 (And.intro j3 j4)))))
  clear GX e1 e2 e3 e4 j1 j2 j3 j4 k1 k2 k3 k4 hy hu1 hu2 hu3 hu4 hs4 II
  go_upto_region 6 with fail
  clear s1 s2 s3 s4 s5 s6 s7 s8
  obtain ⟨GX, ⟨e1, e2, e3, e4⟩, j1, j2, j3, j4⟩ := EE.out
  clear EE
  generalize ((((((y.alloc (.cells #[.int .i64 2, .int .i64 1] 3)).alloc (.cells #[.int .i64 4] 3)).alloc (.cells #[.int .i64 10] 3)).setCell ⟨u1, 7, none⟩ (.int .i64 4)).setCell ⟨u2, 8, none⟩ (.slice (some ⟨y.heap.size, 0, none⟩) 2 2)).setCell ⟨u3, 8, none⟩ (.slice (some ⟨y.heap.size + 1, 0, none⟩) 1 1)).setCell ⟨u4, 1, none⟩ (.slice (some ⟨y.heap.size + 1 + 1, 0, none⟩) 1 1) = z at *
  generalize y.heap.size = h0 at *
  have N1 := hid (fun W (hg : Grow z W) => nine (e1.grow hg))
  have N2 := hid (fun W (hg : Grow z W) => nine (e2.grow hg))
  have N3 := hid (fun W (hg : Grow z W) => nine (e3.grow hg))
  have N4 := hid (fun W (hg : Grow z W) => nine (e4.grow hg))
  have Q1 := hid (fun W (hg : Grow z W) => at_check _ { t with de := 4 } 6 W (j1.grow hg) (by rw [HT.out]; decide +kernel))
  have Q2 := hid (fun W (hg : Grow z W) => at_check _ { t with re := [2, 1] } 11 W (j2.grow hg) (by rw [HT.out]; decide +kernel))
  have Q3 := hid (fun W (hg : Grow z W) => at_check _ { t with re := [4] } 2 W (j3.grow hg) (by rw [HT.out]; decide +kernel))
  have Q4 := hid (fun W (hg : Grow z W) => at_check _ { t with su := [10] } 2 W (j4.grow hg) (by rw [HT.out]; decide +kernel))
  have H5 := hid (H4.out.trans GX)
  have hz := Grow.refl z
  clear e1 e2 e3 e4 j1 j2 j3 j4 GX
  obtain ⟨o0, o1, o2, o3, o4, o5, o6, o7, o8⟩ := N1.out _ hz
  go_upto_region 7 with (go_at_call 38; first
    | ((with_reducible refine (Q1.out _ hz).mono ?_); rintro e w' ⟨rfl, hg'⟩; replace hz := hz.trans hg'; clear o0 o1 o2 o3 o4 o5 o6 o7 o8; obtain ⟨o0, o1, o2, o3, o4, o5, o6, o7, o8⟩ := N2.out _ hz)
    | ((with_reducible refine (Q2.out _ hz).mono ?_); rintro e w' ⟨rfl, hg'⟩; replace hz := hz.trans hg'; clear o0 o1 o2 o3 o4 o5 o6 o7 o8; obtain ⟨o0, o1, o2, o3, o4, o5, o6, o7, o8⟩ := N3.out _ hz)
    | ((with_reducible refine (Q3.out _ hz).mono ?_); rintro e w' ⟨rfl, hg'⟩; replace hz := hz.trans hg'; clear o0 o1 o2 o3 o4 o5 o6 o7 o8; obtain ⟨o0, o1, o2, o3, o4, o5, o6, o7, o8⟩ := N4.out _ hz)
    | ((with_reducible refine (Q4.out _ hz).mono ?_); rintro e w' ⟨rfl, hg'⟩; replace hz := hz.trans hg'; clear o0 o1 o2 o3 o4 o5 o6 o7 o8))
  have hk := H5.out.trans hz
  clear hz
  obtain ⟨-, c0, c1, c2, c3, c4, c5, c6, c7, c8⟩ := KS.out _ hk
  obtain ⟨-, d0, d1, d2, d3, d4, d5, d6, d7, d8⟩ := KT.out _ hk
  go_upto_region 8 with (first
    | (go_at_call 55; first | ((with_reducible refine (K1.out _ (HK.out.trans hk)).mono ?_); rintro e w' ⟨rfl, hg'⟩; replace hk := hk.trans hg'; clear c0 c1 c2 c3 c4 c5 c6 c7 c8 d0 d1 d2 d3 d4 d5 d6 d7 d8; obtain ⟨-, c0, c1, c2, c3, c4, c5, c6, c7, c8⟩ := KS.out _ hk; obtain ⟨-, d0, d1, d2, d3, d4, d5, d6, d7, d8⟩ := KT.out _ hk) | ((with_reducible refine (K2.out _ (HK.out.trans hk)).mono ?_); rintro e w' ⟨rfl, hg'⟩; replace hk := hk.trans hg'; clear c0 c1 c2 c3 c4 c5 c6 c7 c8 d0 d1 d2 d3 d4 d5 d6 d7 d8; obtain ⟨-, c0, c1, c2, c3, c4, c5, c6, c7, c8⟩ := KS.out _ hk; obtain ⟨-, d0, d1, d2, d3, d4, d5, d6, d7, d8⟩ := KT.out _ hk) | ((with_reducible refine (K3.out _ (HK.out.trans hk)).mono ?_); rintro e w' ⟨rfl, hg'⟩; replace hk := hk.trans hg'; clear c0 c1 c2 c3 c4 c5 c6 c7 c8 d0 d1 d2 d3 d4 d5 d6 d7 d8; obtain ⟨-, c0, c1, c2, c3, c4, c5, c6, c7, c8⟩ := KS.out _ hk; obtain ⟨-, d0, d1, d2, d3, d4, d5, d6, d7, d8⟩ := KT.out _ hk))
    | (go_at_call 57; first | ((with_reducible refine (R1.out _ (HK.out.trans hk)).mono ?_); rintro e w' ⟨rfl, hg'⟩; replace hk := hk.trans hg'; clear c0 c1 c2 c3 c4 c5 c6 c7 c8 d0 d1 d2 d3 d4 d5 d6 d7 d8; obtain ⟨-, c0, c1, c2, c3, c4, c5, c6, c7, c8⟩ := KS.out _ hk; obtain ⟨-, d0, d1, d2, d3, d4, d5, d6, d7, d8⟩ := KT.out _ hk) | ((with_reducible refine (R2.out _ (HK.out.trans hk)).mono ?_); rintro e w' ⟨rfl, hg'⟩; replace hk := hk.trans hg'; clear c0 c1 c2 c3 c4 c5 c6 c7 c8 d0 d1 d2 d3 d4 d5 d6 d7 d8; obtain ⟨-, c0, c1, c2, c3, c4, c5, c6, c7, c8⟩ := KS.out _ hk; obtain ⟨-, d0, d1, d2, d3, d4, d5, d6, d7, d8⟩ := KT.out _ hk)))
  go_wp2_with (first
    | (go_at_call 70; ((with_reducible refine (PP.out _ (HK.out.trans hk)).mono ?_); rintro e w' ⟨rfl, hg'⟩; replace hk := hk.trans hg'; clear c0 c1 c2 c3 c4 c5 c6 c7 c8 d0 d1 d2 d3 d4 d5 d6 d7 d8; obtain ⟨-, c0, c1, c2, c3, c4, c5, c6, c7, c8⟩ := KS.out _ hk; obtain ⟨-, d0, d1, d2, d3, d4, d5, d6, d7, d8⟩ := KT.out _ hk))
    | (go_at_call 71; ((with_reducible refine (PN.out _ (HK.out.trans hk)).mono ?_); rintro e w' ⟨rfl, hg'⟩; replace hk := hk.trans hg'; clear c0 c1 c2 c3 c4 c5 c6 c7 c8 d0 d1 d2 d3 d4 d5 d6 d7 d8; obtain ⟨-, c0, c1, c2, c3, c4, c5, c6, c7, c8⟩ := KS.out _ hk; obtain ⟨-, d0, d1, d2, d3, d4, d5, d6, d7, d8⟩ := KT.out _ hk))
    | (go_at_call 72; ((with_reducible refine (PD.out _ (HK.out.trans hk)).mono ?_); rintro e w' ⟨rfl, hg'⟩; replace hk := hk.trans hg'; clear c0 c1 c2 c3 c4 c5 c6 c7 c8 d0 d1 d2 d3 d4 d5 d6 d7 d8; obtain ⟨-, c0, c1, c2, c3, c4, c5, c6, c7, c8⟩ := KS.out _ hk; obtain ⟨-, d0, d1, d2, d3, d4, d5, d6, d7, d8⟩ := KT.out _ hk)))
  go_ret
  exact ⟨rfl, H1.out.trans (HK.out.trans hk)⟩
end Go.Proofs.Ytjiahcfegfimmaa
