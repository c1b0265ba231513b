/-
  Walks of Copy, Same; and of the reference's SameInts and Same.
-/
import Derived.Test.YtjiahcfegfimmaaKnown08
import Derived.Test.YtjiahcfegfimmaaKnown20
import Derived.Test.YtjiahcfegfimmaaKnown07
import Derived.Test.YtjiahcfegfimmaaKnown17
import Derived.Deep.RegionLaw
import Derived.Deep.WholeRow
import Derived.Outline
namespace Go.Proofs.Ytjiahcfegfimmaa
open Go.RowKit

theorem Own.far {w0 w : World} {v : Value} {zs : List Int} (h : Own w0 w v zs) {p : Addr} (hp : p.block < w0.heap.size) (u : Value) : Own w0 (w.setCell p u) v zs := ownsRow_setCell_below h hp u
theorem Blk.row {w : World} {g : Nat} {e : TypeId} {xs : List Value} (h : Blk w g e xs) (ys : List Value) : Blk (w.setRow g ys.toArray) g e ys := setRow_heap _ _ _ _ _ _ h
theorem Own.farRow {w0 w : World} {v : Value} {zs : List Int} (h : Own w0 w v zs) {g : Nat} (hg : g < w0.heap.size) (cs : Array Value) : Own w0 (w.setRow g cs) v zs := by
  refine ⟨h.1, ?_⟩
  rcases h.2 with hn | ⟨g', cap, cur, e, hb, hh, r⟩
  · exact .inl hn
  · exact .inr ⟨g', cap, cur, e, hb, by rw [setRow_other _ _ _ _ (by omega)]; exact hh, r⟩
theorem Grow.row {a w : World} (h : Grow a w) {g : Nat} (hg : a.heap.size ≤ g) (cs : Array Value) : Grow a (w.setRow g cs) :=
  ⟨h.os, h.tape, h.output, by simpa [World.setRow] using h.size, fun k hk => (setRow_other _ _ _ _ (by omega)).trans (h.block k hk)⟩
set_option maxRecDepth 100000 in
set_option maxHeartbeats 4000000 in
theorem Copy_any (v : Value) (s : TSet) (w : World) (h : IsSet w v s) (l1 : s.su.length ≤ 1000) (l2 : s.re.length ≤ 1000) : Calls Try.prog 37 #[v] w (SetRes w s) := by
  have hS := h
  obtain ⟨_, _, e9, k1, k2⟩ := hS
  obtain ⟨A, c, B, d, rfl, h1, h2⟩ := h.open_
  injection e9 with e9
  simp only [Array.mk.injEq, List.cons.injEq, true_and, and_true] at e9
  obtain ⟨rfl, rfl⟩ := e9
  clear h h1 h2
  have CL := hid (fun vv zz W (h : IsInts W vv zz) (hl : zz.length ≤ 1000000) => clone_any vv zz W h hl)
  have gz : Grow w ((w.alloc (.cells #[.int .i64 s.pl, .slice A s.su.length c, .int .i64 s.wi, .int .i64 s.dr, .int .i64 s.fl, .int .i64 s.co, .int .i64 s.me, .int .i64 s.de, .slice B s.re.length d] 24)).alloc (.cells #[.int .i64 0, .slice none 0 0, .int .i64 0, .int .i64 0, .int .i64 0, .int .i64 0, .int .i64 0, .int .i64 0, .slice none 0 0] 24)) := ((Grow.refl w).alloc _).alloc _
  have bT : Blk ((w.alloc (.cells #[.int .i64 s.pl, .slice A s.su.length c, .int .i64 s.wi, .int .i64 s.dr, .int .i64 s.fl, .int .i64 s.co, .int .i64 s.me, .int .i64 s.de, .slice B s.re.length d] 24)).alloc (.cells #[.int .i64 0, .slice none 0 0, .int .i64 0, .int .i64 0, .int .i64 0, .int .i64 0, .int .i64 0, .int .i64 0, .slice none 0 0] 24)) w.heap.size 24 (setVals s (.slice A s.su.length c) (.slice B s.re.length d)) := Blk.grow (show Blk _ _ _ (setVals s (.slice A s.su.length c) (.slice B s.re.length d)) from Blk.new_at rfl) ((Grow.refl _).alloc _)
  have bR : Blk ((w.alloc (.cells #[.int .i64 s.pl, .slice A s.su.length c, .int .i64 s.wi, .int .i64 s.dr, .int .i64 s.fl, .int .i64 s.co, .int .i64 s.me, .int .i64 s.de, .slice B s.re.length d] 24)).alloc (.cells #[.int .i64 0, .slice none 0 0, .int .i64 0, .int .i64 0, .int .i64 0, .int .i64 0, .int .i64 0, .int .i64 0, .slice none 0 0] 24)) (w.heap.size + 1) 24 [.int .i64 0, .slice none 0 0, .int .i64 0, .int .i64 0, .int .i64 0, .int .i64 0, .int .i64 0, .int .i64 0, .slice none 0 0] := Blk.new_at (by simp)
  have i5 := k1.grow (gz.drew)
  have IB := hid (fun W (g : Grow w W) => k2.grow g)
  clear k1 k2
  go_enter Try.func37, Try.ntmps37
  go_wp2
  generalize ((w.alloc (.cells #[.int .i64 s.pl, .slice A s.su.length c, .int .i64 s.wi, .int .i64 s.dr, .int .i64 s.fl, .int .i64 s.co, .int .i64 s.me, .int .i64 s.de, .slice B s.re.length d] 24)).alloc (.cells #[.int .i64 0, .slice none 0 0, .int .i64 0, .int .i64 0, .int .i64 0, .int .i64 0, .int .i64 0, .int .i64 0, .slice none 0 0] 24)) = wz at *
  have hsz := bR.lt
  have GZ := hid gz
  have BT := hid bT
  have BR := hid bR
  obtain ⟨c0, c1, c2, c3, c4, c5, c6, c7, c8⟩ := set_cells bT
  clear gz bT bR
  go_region_law (first
    | (have o1 := oA; go_simp; go_at_call 79; refine (CL.out _ _ _ iB (by omega)).mono ?_; rintro e wB ⟨vB, rfl, oB, gB⟩; obtain ⟨A8, d8, rfl⟩ : ∃ A8 d8, vB = .slice A8 s.re.length d8 := (by obtain ⟨A, c, e, _⟩ := oB.is; exact ⟨A, c, e⟩); clear c0 c1 c2 c3 c4 c5 c6 c7 c8; obtain ⟨c0, c1, c2, c3, c4, c5, c6, c7, c8⟩ := set_cells ((BT.out.grow (((Grow.refl wz).drew).trans gA)).grow gB); have f1 := (((BT.out.grow (((Grow.refl wz).drew).trans gA)).grow gB)).free 1; have f8 := (((BT.out.grow (((Grow.refl wz).drew).trans gA)).grow gB)).free 8)
    | (go_simp; go_at_call 79; refine (CL.out _ _ _ i5 (by omega)).mono ?_; rintro e wA ⟨vA, rfl, oA, gA⟩; obtain ⟨A7, d7, rfl⟩ : ∃ A7 d7, vA = .slice A7 s.su.length d7 := (by obtain ⟨A, c, e, _⟩ := oA.is; exact ⟨A, c, e⟩); have iB := IB.out wA (GZ.out.drew.trans gA); clear c0 c1 c2 c3 c4 c5 c6 c7 c8; obtain ⟨c0, c1, c2, c3, c4, c5, c6, c7, c8⟩ := set_cells (BT.out.grow (((Grow.refl wz).drew).trans gA))))
  all_goals
    have gAB := (((Grow.refl wz).drew).trans gA).trans gB
    have bR2 := BR.out.grow gAB
    have bR3 := (bR2.far (p := ⟨w.heap.size, 1, none⟩) (by simp) (.slice A7 s.su.length d7)).far (p := ⟨w.heap.size, 8, none⟩) (by simp) (.slice A8 s.re.length d8)
    have oA3 := (((oA.kept gB).far (p := ⟨w.heap.size, 1, none⟩) (by simp; omega) (.slice A7 s.su.length d7)).far (p := ⟨w.heap.size, 8, none⟩) (by simp; omega) (.slice A8 s.re.length d8))
    have hzA : w.heap.size < wA.heap.size := by have := gA.size; simp at this; omega
    have oB3 := ((oB.far (p := ⟨w.heap.size, 1, none⟩) (by simpa using hzA) (.slice A7 s.su.length d7)).far (p := ⟨w.heap.size, 8, none⟩) (by simpa using hzA) (.slice A8 s.re.length d8))
    have g3 := ((GZ.out.trans gAB).set (p := ⟨w.heap.size, 1, none⟩) (by simp) (.slice A7 s.su.length d7)).set (p := ⟨w.heap.size, 8, none⟩) (by simp) (.slice A8 s.re.length d8)
    have O3 := hid (And.intro (And.intro oA3 oB3) (And.intro bR3 g3))
    clear oA oB oA3 oB3 bR3 bR2 g3 o1
    go_wp2_with (refine wpList_store_row (by rfl) 24 (.tmp 2) (.tmp 11) (by rfl) (w.heap.size + 1) #[.int .i64 s.pl, .slice A7 s.su.length d7, .int .i64 s.wi, .int .i64 s.dr, .int .i64 s.fl, .int .i64 s.co, .int .i64 s.me, .int .i64 s.de, .slice A8 s.re.length d8] (by rfl) (by rfl) 24 _ O3.out.2.1 (by kernel_rfl) (by rfl) (by simp [Value.oneCell']) ?_)
    obtain ⟨⟨oA3, oB3⟩, bR3, g3⟩ := O3.out
    have bF := Blk.row bR3 (setVals s (.slice A7 s.su.length d7) (.slice A8 s.re.length d8))
    obtain ⟨c0, c1, c2, c3, c4, c5, c6, c7, c8⟩ := set_cells bF
    refine bodyPost_ret (v := .agg #[.int .i64 s.pl, .slice A7 s.su.length d7, .int .i64 s.wi, .int .i64 s.dr, .int .i64 s.fl, .int .i64 s.co, .int .i64 s.me, .int .i64 s.de, .slice A8 s.re.length d8]) ?_ rfl ⟨_, rfl, ⟨_, _, rfl, (oA3.farRow (by simp; omega) _).is, (oB3.farRow (by have := gA.size; simp at this; omega) _).is⟩, g3.row (by omega) _⟩
    simp [results, Try.results37, go_sem, c0, c1, c2, c3, c4, c5, c6, c7, c8]
end Go.Proofs.Ytjiahcfegfimmaa
