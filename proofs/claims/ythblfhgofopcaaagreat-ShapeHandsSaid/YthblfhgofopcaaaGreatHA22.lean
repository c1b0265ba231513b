/-
  Parts of the proof: Place, Places, Src, Kind, Far, RPlace.
-/
import Derived.Test.YthblfhgofopcaaaGreatHA21
import Derived.RangeFuncFrom
import Derived.Test.YthblfhgofopcaaaGreatHA19
import Derived.BigQuiet
import Derived.Deep.QuietTactic
import Derived.Test.YthblfhgofopcaaaGreatHA20
import Derived.Deep.RegionHeld3
import Derived.Deep.RegionLaw
import Derived.Deep.WholeRow
import Derived.Outline
set_option linter.all false
namespace Go.Proofs.YthblfhgofopcaaaGreat
open Go.RowKit Go.Shelf
attribute [local go_sem] Oper.semAt_some
def placeP (s : TSet) (k : Int) : Int × Int := match (allP s).find? (fun x => x.1 == k) with
 | some x => x.2
 | none => (-4, 0)
def KindsRes (w : World) (o : Obj) (e : Ending) (w' : World) : Prop := e = .returned (.func (.func 166) #[] #[.pointer (some ⟨w.heap.size, 0, none⟩)]) ∧ w.alloc o = w'
theorem kinds_any (v : Value) (s : TSet) (a b : Value) (w : World) (hv : v = .agg #[.int .i64 s.pl, a, .int .i64 s.wi, .int .i64 s.dr, .int .i64 s.fl, .int .i64 s.co, .int .i64 s.me, .int .i64 s.de, b]) :
  Calls Tryz.prog 127 #[v] w (KindsRes w (.cells #[.int .i64 s.pl, a, .int .i64 s.wi, .int .i64 s.dr, .int .i64 s.fl, .int .i64 s.co, .int .i64 s.me, .int .i64 s.de, b] 24)) := by
 subst hv
 go_enter Tryz.func127, Tryz.ntmps127
 go_wp2
 go_ret
 exact ⟨rfl, rfl⟩
structure PlaceI (w : World) (s : TSet) (k : Int) (a b : Value) (A : Nat) (pre : List KPlace) (W : World) : Prop where
 no : ∀ x ∈ pre, x.1 ≠ k
 bK : Blk W (w.heap.size + 1) 3 [.int .i64 k]
 b1 : Blk W (w.heap.size + 1 + 1) 3 [.int .i64 0]
 b2 : Blk W (w.heap.size + 1 + 1 + 1) 3 [.int .i64 0]
 bT : Blk W (w.heap.size + 1 + 1 + 1 + 1) 24 (setVals s a b)
 g : Grow w W
 lt : w.heap.size + 5 ≤ A
theorem PlaceI.turns {w : World} {s : TSet} {k : Int} {a b : Value} {A C : Nat} {pre : List KPlace} {W W' : World} (h : PlaceI w s k a b A pre W) (hC : w.heap.size ≤ C) (t : Turns C A W W') : PlaceI w s k a b A pre W' := by
 have hl := h.lt
 exact ⟨h.no, t.cells h.bK (by omega), t.cells h.b1 (by omega), t.cells h.b2 (by omega), t.cells h.bT (by omega), t.grow h.g (by omega) hC, hl⟩
theorem PlaceI.grow {w : World} {s : TSet} {k : Int} {a b : Value} {A : Nat} {pre : List KPlace} {W W' : World} (h : PlaceI w s k a b A pre W) (g : Grow W W') : PlaceI w s k a b A pre W' := h.turns (Nat.le_refl w.heap.size) (Turns.of_grow g)
structure PlaceX (w : World) (k : Int) (A : Nat) (pre : List KPlace) (W : World) : Prop where
 hit : ∃ x, pre.find? (fun x => x.1 == k) = some x ∧ Blk W (w.heap.size + 1 + 1) 3 [.int .i64 x.2.1] ∧ Blk W (w.heap.size + 1 + 1 + 1) 3 [.int .i64 x.2.2]
 g : Grow w W
 lt : w.heap.size + 5 ≤ A
theorem PlaceX.turns {w : World} {k : Int} {A C : Nat} {pre : List KPlace} {W W' : World} (h : PlaceX w k A pre W) (hC : w.heap.size ≤ C) (t : Turns C A W W') : PlaceX w k A pre W' := by
 have hl := h.lt
 obtain ⟨x, h1, h2, h3⟩ := h.hit
 exact ⟨⟨x, h1, t.cells h2 (by omega), t.cells h3 (by omega)⟩, t.grow h.g (by omega) hC, hl⟩
theorem Blk.new_at {w : World} {e : TypeId} {xs : List Value} {k : Nat} (h : w.heap.size = k) : Blk (w.alloc (.cells xs.toArray e)) k e xs := by
 subst h
 exact heap_alloc_new w _
theorem place_hit {pre : List KPlace} {x : KPlace} {k : Int} (h : ∀ y ∈ pre, y.1 ≠ k) (hx : x.1 = k) : (pre ++ [x]).find? (fun x => x.1 == k) = some x := by
 rw [List.find?_append, List.find?_eq_none.2 fun y hy => by simpa using h y hy]
 simp [hx]
theorem place_none {s : TSet} {k : Int} (h : ∀ y ∈ allP s, y.1 ≠ k) : placeP s k = (-4, 0) := by
 unfold placeP
 rw [List.find?_eq_none.2 fun y hy => by simpa using h y hy]
theorem place_some {s : TSet} {k : Int} {pre : List KPlace} {x : KPlace} (hp : pre <+: allP s) (h : pre.find? (fun x => x.1 == k) = some x) : placeP s k = x.2 := by
 obtain ⟨t, ht⟩ := hp
 unfold placeP
 rw [← ht, List.find?_append, h]
 rfl
theorem place_end {w W : World} {D : Nat} {x y : Int} (h1 : Blk W (w.heap.size + 1 + 1) 3 [.int .i64 x]) (h2 : Blk W (w.heap.size + 1 + 1 + 1) 3 [.int .i64 y]) (g : Grow w W) (hD : W.heap[D]? = some (.deferred (some []))) (hl : w.heap.size + 5 ≤ D) :
  (W.putObj D (.deferred none)).cell? ⟨w.heap.size + 1 + 1, 0, none⟩ = some (.int .i64 x) ∧ (W.putObj D (.deferred none)).cell? ⟨w.heap.size + 1 + 1 + 1, 0, none⟩ = some (.int .i64 y) ∧ Grow w (W.putObj D (.deferred none)) := by
 have t : Turns w.heap.size D W (W.putObj D (.deferred none)) := Turns.putObj _ hD rfl (by omega)
 have k1 : Blk (W.putObj D (.deferred none)) (w.heap.size + 1 + 1) 3 [.int .i64 x] := t.cells h1 (by omega)
 have k2 : Blk (W.putObj D (.deferred none)) (w.heap.size + 1 + 1 + 1) 3 [.int .i64 y] := t.cells h2 (by omega)
 exact ⟨k1.cell 0, k2.cell 0, t.grow g (by omega) (Nat.le_refl _)⟩
set_option maxRecDepth 100000 in
set_option maxHeartbeats 4000000 in
theorem Place_any (v : Value) (s : TSet) (k : Int) (w : World) (h : IsSet w v s) : Calls Tryz.prog 126 #[v, .int .i64 k] w (Gives w (.tuple #[.int .i64 (placeP s k).1, .int .i64 (placeP s k).2])) := by
 have hset := h
 obtain ⟨A, c, B, d, rfl, h1, h2⟩ := h.open_
 have KI := hid (fun W => (callsIn_wide.2 (kinds_any _ s (.slice A s.su.length c) (.slice B s.re.length d) W rfl) : CallsIn Fence.wide 9 _ _ _ _ _))
 have H1 := hid (And.intro h1 h2)
 clear h1 h2 hset h
 refine (callsIn_wide (n := 10)).1 ?_
 refine callsIn_of_wp_marks Tryz.func126 rfl trivial ?_ rfl
 simp only [Tryz.ntmps126, List.size_toArray, List.length_cons, List.length_nil, Nat.reduceAdd, Nat.reduceSub, Array.replicate_succ, Array.replicate_zero, List.push_toArray, List.append_toArray, List.nil_append, List.cons_append]
 gi_wp2_with (refine ⟨trivial, ?_⟩; gi_at_call 127; refine (KI.out _).mono ?_; rintro e w' ⟨rfl, rfl⟩)
 have GW := hid (show Grow w (((((w.alloc (.cells #[.int .i64 s.pl, .slice A s.su.length c, .int .i64 s.wi, .int .i64 s.dr, .int .i64 s.fl, .int .i64 s.co, .int .i64 s.me, .int .i64 s.de, .slice B s.re.length d] 24)).alloc (.cells #[.int .i64 k] 3)).alloc (.cells #[.int .i64 0] 3)).alloc (.cells #[.int .i64 0] 3)).alloc (.cells #[.int .i64 s.pl, .slice A s.su.length c, .int .i64 s.wi, .int .i64 s.dr, .int .i64 s.fl, .int .i64 s.co, .int .i64 s.me, .int .i64 s.de, .slice B s.re.length d] 24)) from (((((Grow.refl w).alloc _).alloc _).alloc _).alloc _).alloc _)
 have bK : Blk (((((w.alloc (.cells #[.int .i64 s.pl, .slice A s.su.length c, .int .i64 s.wi, .int .i64 s.dr, .int .i64 s.fl, .int .i64 s.co, .int .i64 s.me, .int .i64 s.de, .slice B s.re.length d] 24)).alloc (.cells #[.int .i64 k] 3)).alloc (.cells #[.int .i64 0] 3)).alloc (.cells #[.int .i64 0] 3)).alloc (.cells #[.int .i64 s.pl, .slice A s.su.length c, .int .i64 s.wi, .int .i64 s.dr, .int .i64 s.fl, .int .i64 s.co, .int .i64 s.me, .int .i64 s.de, .slice B s.re.length d] 24)) (w.heap.size + 1) 3 [.int .i64 k] := Blk.grow (Blk.new_at (xs := [.int .i64 k]) (by simp)) ((((Grow.refl _).alloc _).alloc _).alloc _)
 have b1 : Blk (((((w.alloc (.cells #[.int .i64 s.pl, .slice A s.su.length c, .int .i64 s.wi, .int .i64 s.dr, .int .i64 s.fl, .int .i64 s.co, .int .i64 s.me, .int .i64 s.de, .slice B s.re.length d] 24)).alloc (.cells #[.int .i64 k] 3)).alloc (.cells #[.int .i64 0] 3)).alloc (.cells #[.int .i64 0] 3)).alloc (.cells #[.int .i64 s.pl, .slice A s.su.length c, .int .i64 s.wi, .int .i64 s.dr, .int .i64 s.fl, .int .i64 s.co, .int .i64 s.me, .int .i64 s.de, .slice B s.re.length d] 24)) (w.heap.size + 1 + 1) 3 [.int .i64 0] := Blk.grow (Blk.new_at (xs := [.int .i64 0]) (by simp)) (((Grow.refl _).alloc _).alloc _)
 have b2 : Blk (((((w.alloc (.cells #[.int .i64 s.pl, .slice A s.su.length c, .int .i64 s.wi, .int .i64 s.dr, .int .i64 s.fl, .int .i64 s.co, .int .i64 s.me, .int .i64 s.de, .slice B s.re.length d] 24)).alloc (.cells #[.int .i64 k] 3)).alloc (.cells #[.int .i64 0] 3)).alloc (.cells #[.int .i64 0] 3)).alloc (.cells #[.int .i64 s.pl, .slice A s.su.length c, .int .i64 s.wi, .int .i64 s.dr, .int .i64 s.fl, .int .i64 s.co, .int .i64 s.me, .int .i64 s.de, .slice B s.re.length d] 24)) (w.heap.size + 1 + 1 + 1) 3 [.int .i64 0] := Blk.grow (Blk.new_at (xs := [.int .i64 0]) (by simp)) ((Grow.refl _).alloc _)
 have bT : Blk (((((w.alloc (.cells #[.int .i64 s.pl, .slice A s.su.length c, .int .i64 s.wi, .int .i64 s.dr, .int .i64 s.fl, .int .i64 s.co, .int .i64 s.me, .int .i64 s.de, .slice B s.re.length d] 24)).alloc (.cells #[.int .i64 k] 3)).alloc (.cells #[.int .i64 0] 3)).alloc (.cells #[.int .i64 0] 3)).alloc (.cells #[.int .i64 s.pl, .slice A s.su.length c, .int .i64 s.wi, .int .i64 s.dr, .int .i64 s.fl, .int .i64 s.co, .int .i64 s.me, .int .i64 s.de, .slice B s.re.length d] 24)) (w.heap.size + 1 + 1 + 1 + 1) 24 (setVals s (.slice A s.su.length c) (.slice B s.re.length d)) := Blk.new_at (by simp)
 have hsz : (((((w.alloc (.cells #[.int .i64 s.pl, .slice A s.su.length c, .int .i64 s.wi, .int .i64 s.dr, .int .i64 s.fl, .int .i64 s.co, .int .i64 s.me, .int .i64 s.de, .slice B s.re.length d] 24)).alloc (.cells #[.int .i64 k] 3)).alloc (.cells #[.int .i64 0] 3)).alloc (.cells #[.int .i64 0] 3)).alloc (.cells #[.int .i64 s.pl, .slice A s.su.length c, .int .i64 s.wi, .int .i64 s.dr, .int .i64 s.fl, .int .i64 s.co, .int .i64 s.me, .int .i64 s.de, .slice B s.re.length d] 24)).heap.size = w.heap.size + 5 := by simp
 have BB := hid (And.intro bK (And.intro b1 (And.intro b2 bT)))
 clear bK b1 b2 bT
 generalize (((((w.alloc (.cells #[.int .i64 s.pl, .slice A s.su.length c, .int .i64 s.wi, .int .i64 s.dr, .int .i64 s.fl, .int .i64 s.co, .int .i64 s.me, .int .i64 s.de, .slice B s.re.length d] 24)).alloc (.cells #[.int .i64 k] 3)).alloc (.cells #[.int .i64 0] 3)).alloc (.cells #[.int .i64 0] 3)).alloc (.cells #[.int .i64 s.pl, .slice A s.su.length c, .int .i64 s.wi, .int .i64 s.dr, .int .i64 s.fl, .int .i64 s.co, .int .i64 s.me, .int .i64 s.de, .slice B s.re.length d] 24)) = W0 at *
 refine range_law (S := allP s) (encs := encP) (Ok := SetAt (w.heap.size + 1 + 1 + 1 + 1) s (.slice A s.su.length c) (.slice B s.re.length d)) (gf := 166) (lb := #[.pointer (some ⟨w.heap.size + 1 + 1 + 1 + 1, 0, none⟩)]) rfl (enters_of Tryz.func166 (by kernel_rfl) rfl) (kinds_iterates _ s _ _) (fun _ => rfl)
  (fun W hg => ⟨BB.out.2.2.2.grow hg, H1.out.1.grow (GW.out.trans hg), H1.out.2.grow (GW.out.trans hg)⟩)
  (PlaceI w s k (.slice A s.su.length c) (.slice B s.re.length d)) (PlaceX w k) (fun A' pre W W' h t => h.turns (by omega) t) (fun A' pre W W' h t => h.turns (by omega) t) (fun A' pre W h => ⟨h.bT, H1.out.1.grow h.g, H1.out.2.grow h.g⟩)
  (fun A' W hg hA _ => ⟨by simp, BB.out.1.grow hg, BB.out.2.1.grow hg, BB.out.2.2.1.grow hg, BB.out.2.2.2.grow hg, GW.out.trans hg, by omega⟩)
  (fun A' pre x a' W => PlaceI w s k (.slice A s.su.length c) (.slice B s.re.length d) A' pre W ∧ ∃ P, A' < P ∧ Blk W P 136 [.int .i64 x.2.1, .int .i64 x.2.2] ∧ a' = { tmps := #[.agg #[.int .i64 s.pl, .slice A s.su.length c, .int .i64 s.wi, .int .i64 s.dr, .int .i64 s.fl, .int .i64 s.co, .int .i64 s.me, .int .i64 s.de, .slice B s.re.length d], .int .i64 k, .pointer (some ⟨w.heap.size, 0, none⟩), .pointer (some ⟨w.heap.size + 1, 0, none⟩), .pointer (some ⟨w.heap.size + 1 + 1, 0, none⟩), .pointer (some ⟨w.heap.size + 1 + 1 + 1, 0, none⟩), .int .i64 x.1, .pointer (some ⟨P, 0, none⟩), .agg #[.int .i64 s.pl, .slice A s.su.length c, .int .i64 s.wi, .int .i64 s.dr, .int .i64 s.fl, .int .i64 s.co, .int .i64 s.me, .int .i64 s.de, .slice B s.re.length d], .func (.func 166) #[] #[.pointer (some ⟨w.heap.size + 1 + 1 + 1 + 1, 0, none⟩)], .int .i64 x.1, .agg #[.int .i64 x.2.1, .int .i64 x.2.2], undef, undef, undef, undef, undef, undef, undef], defers := [] })
  (fun A' pre x a' W W' h t => ⟨h.1.turns (by omega) t, h.2.imp fun P hP => ⟨hP.1, t.cells hP.2.1 (by omega), hP.2.2⟩⟩) ?assign ?body ?done ?stop
 case assign =>
  intro l m A' pre x W K hA hAW hi hpre hK
  simp only [encP]
  gi_wp2
  refine hK _ _ (KeepsOthers.alloc _ _) (fun k h1 h2 => Below.heap_alloc _ _ _ (by omega)) ⟨hi.grow ((Grow.refl _).alloc _), _, hAW, heap_alloc_new W _, ?_⟩
  rfl
 case body =>
  rintro l m A' pre x a' W hA hAW ⟨hi, P, hP, bP, rfl⟩ hpre
  have cK := hi.bK.cell 0
  have p0 := bP.cell 0
  have p1 := bP.cell 1
  have r0 := hi.b1.cell 0
  have r1 := hi.b2.cell 0
  have f0 := hi.b1.free 0
  have f1 := hi.b2.free 0
  simp only [List.getElem?_cons_zero, List.getElem?_cons_succ] at cK p0 p1 r0 r1
  have hlt := hi.lt
  have HI := hid hi
  have hmix : Tryz.prog.follows .mixedOrders = true := by kernel_rfl
  by_cases he : x.1 = k
  ·have he' : (x.1 == k) = true := by simp [he]
   have HE := hid he
   have FIN := hid (show KeepsOthers W ((W.setCell ⟨w.heap.size + 1 + 1, 0, none⟩ (.int .i64 x.2.1)).setCell ⟨w.heap.size + 1 + 1 + 1, 0, none⟩ (.int .i64 x.2.2)).drew ∧ PlaceX w k A' (pre ++ [x]) ((W.setCell ⟨w.heap.size + 1 + 1, 0, none⟩ (.int .i64 x.2.1)).setCell ⟨w.heap.size + 1 + 1 + 1, 0, none⟩ (.int .i64 x.2.2)).drew from
    ⟨((KeepsOthers.setCell _ _ _).trans (KeepsOthers.setCell _ _ _)).trans (KeepsOthers.drew _), ⟨x, place_hit hi.no he, ((hi.b1.set 0 (.int .i64 x.2.1)).far (p := ⟨w.heap.size + 1 + 1 + 1, 0, none⟩) (by simp) (.int .i64 x.2.2)).grow (Grow.refl _).drew, ((hi.b2.far (p := ⟨w.heap.size + 1 + 1, 0, none⟩) (by simp) (.int .i64 x.2.1)).set 0 (.int .i64 x.2.2)).grow (Grow.refl _).drew⟩, ((hi.g.set (p := ⟨w.heap.size + 1 + 1, 0, none⟩) (by simp; omega) (.int .i64 x.2.1)).set (p := ⟨w.heap.size + 1 + 1 + 1, 0, none⟩) (by simp; omega) (.int .i64 x.2.2)).drew, hlt⟩)
   clear he hi
   gi_wp2
   gi_region_with_o (fail)
   all_goals
    gi_wp2
    exact FIN.out
  ·have he' : (x.1 == k) = false := by simpa using he
   have NEW := hid (show PlaceI w s k (.slice A s.su.length c) (.slice B s.re.length d) A' (pre ++ [x]) W from ⟨fun y hy => by
    rcases List.mem_append.1 hy with h | h
    ·exact hi.no y h
    ·simp at h; subst h; exact he, hi.bK, hi.b1, hi.b2, hi.bT, hi.g, hi.lt⟩)
   clear he hi
   gi_wp2
   exact ⟨KeepsOthers.refl _, fun _ _ _ => rfl, NEW.out⟩
 case done =>
  intro D A' W hD hA hi hDh
  have r0 := hi.b1.cell 0
  have r1 := hi.b2.cell 0
  have f0 := hi.b1.free 0
  have f1 := hi.b2.free 0
  simp only [List.getElem?_cons_zero] at r0 r1
  have hlt := hi.lt
  have HE := hid (place_none hi.no)
  have B1 := (hi.b1.set 0 (.int .i64 (-4))).far (p := ⟨w.heap.size + 1 + 1 + 1, 0, none⟩) (by simp) (.int .i64 0)
  have B2 := (hi.b2.far (p := ⟨w.heap.size + 1 + 1, 0, none⟩) (by simp) (.int .i64 (-4))).set 0 (.int .i64 0)
  have G2 := (hi.g.set (p := ⟨w.heap.size + 1 + 1, 0, none⟩) (by simp; omega) (.int .i64 (-4))).set (p := ⟨w.heap.size + 1 + 1 + 1, 0, none⟩) (by simp; omega) (.int .i64 0)
  have hD2 := ((KeepsOthers.setCell W ⟨w.heap.size + 1 + 1, 0, none⟩ (.int .i64 (-4))).trans (KeepsOthers.setCell _ ⟨w.heap.size + 1 + 1 + 1, 0, none⟩ (.int .i64 0))).same D _ hDh rfl
  have FIN := hid (place_end (D := D) B1 B2 G2 hD2 (by omega))
  have HD2 := hid hD2
  clear B1 B2 G2 hD2
  gi_wp2
  refine ⟨by simp, .inl ⟨_, _, rfl, run_takeDeferred HD2.out, ?_⟩⟩
  obtain ⟨q0, q1, G3⟩ := FIN.out
  refine ⟨.tuple #[.int .i64 (-4), .int .i64 0], ?_, by rw [HE.out], G3⟩
  simp [results, Tryz.results126, go_sem, q0, q1]
 case stop =>
  intro D A' pre W hD hA hpre hx hDh
  obtain ⟨x, h1, h2, h3⟩ := hx.hit
  have HE := hid (place_some hpre h1)
  have FIN := hid (place_end (D := D) h2 h3 hx.g hDh (by omega))
  have HD2 := hid hDh
  clear h1 h2 h3 hx hDh
  gi_wp2
  refine ⟨by simp, .inl ⟨_, _, rfl, run_takeDeferred HD2.out, ?_⟩⟩
  obtain ⟨q0, q1, G3⟩ := FIN.out
  refine ⟨.tuple #[.int .i64 x.2.1, .int .i64 x.2.2], ?_, by rw [HE.out], G3⟩
  simp [results, Tryz.results126, go_sem, q0, q1]
end Go.Proofs.YthblfhgofopcaaaGreat

namespace Go.Proofs.YthblfhgofopcaaaGreat
def Indexed (a : Int) (l : List KPlace) : Prop := ∀ (i : Nat) (h : i < l.length), l[i].1 = a + i
theorem Indexed.nil {a : Int} : Indexed a [] := fun i h => by simp at h
theorem Indexed.append {a : Int} {l m : List KPlace} (h : Indexed a l) (k : Indexed (a + l.length) m) : Indexed a (l ++ m) := fun i hi => by
 rcases Nat.lt_or_ge i l.length with h1 | h1
 ·rw [List.getElem_append_left h1]; exact h i h1
 ·rw [List.length_append] at hi
  rw [List.getElem_append_right h1, k (i - l.length) (by omega)]
  omega
theorem Indexed.congr {a b : Int} {l : List KPlace} (h : Indexed a l) (e : a = b) : Indexed b l := e ▸ h
theorem rowP_indexed (a su : Int) (n : Nat) : Indexed a (rowP a su n) := by
 induction n with
 | zero => exact Indexed.nil
 | succ n ih =>
  rw [rowP]
  refine ih.append fun i h => ?_
  simp only [List.length_singleton] at h
  obtain rfl : i = 0 := by omega
  rw [rowP_length]
  simp
theorem mem_rowP {a su : Int} {n : Nat} {x : KPlace} : x ∈ rowP a su n ↔ ∃ i : Nat, i < n ∧ x = (a + i, su, (i : Int)) := by
 induction n with
 | zero => simp [rowP]
 | succ n ih =>
  rw [rowP, List.mem_append, ih, List.mem_singleton]
  constructor
  ·rintro (⟨i, h, e⟩ | e)
   ·exact ⟨i, by omega, e⟩
   ·exact ⟨n, by omega, e⟩
  ·rintro ⟨i, h, e⟩
   by_cases hi : i = n
   ·subst hi; exact .inr e
   ·exact .inl ⟨i, by omega, e⟩
theorem mem_suitsP {l : List Int} {k : Nat} {x : KPlace} : x ∈ suitsP l k ↔ ∃ j : Nat, j < k ∧ x ∈ rowP (sumI (l.take j)) (j : Int) (l.getD j 0).toNat := by
 induction k with
 | zero => simp [suitsP]
 | succ k ih =>
  rw [suitsP, List.mem_append, ih]
  constructor
  ·rintro (⟨i, h, e⟩ | e)
   ·exact ⟨i, by omega, e⟩
   ·exact ⟨k, by omega, e⟩
  ·rintro ⟨i, h, e⟩
   by_cases hi : i = k
   ·subst hi; exact .inr e
   ·exact .inl ⟨i, by omega, e⟩
theorem suitsP_length {l : List Int} (h : ∀ z ∈ l, 0 ≤ z) : ∀ k, k ≤ l.length → ((suitsP l k).length : Int) = sumI (l.take k) := by
 intro k
 induction k with
 | zero => intro _; rfl
 | succ k ih =>
  intro hk
  have hz := h l[k] (List.getElem_mem (by omega))
  rw [suitsP, List.length_append, rowP_length, Int.natCast_add, ih (by omega), sumI_take l (by omega), show l.getD k 0 = l[k] by simp [List.getD, show k < l.length by omega]]
  omega
theorem suitsP_indexed {l : List Int} (h : ∀ z ∈ l, 0 ≤ z) : ∀ k, k ≤ l.length → Indexed 0 (suitsP l k) := by
 intro k
 induction k with
 | zero => intro _; exact Indexed.nil
 | succ k ih =>
  intro hk
  rw [suitsP]
  exact (ih (by omega)).append ((rowP_indexed _ _ _).congr (by rw [suitsP_length h k (by omega)]; omega))
theorem places3 (s : TSet) : placesTo s 3 = suitsP s.su s.su.length ++ rowP (sumI s.su) (-1) s.wi.toNat ++ rowP (sumI s.su + s.wi) (-2) s.dr.toNat ++ rowP (sumI s.su + s.wi + s.dr) (-3) s.fl.toNat := rfl
section
variable {s : TSet} (V : Valid s)
include V
theorem Valid.su0 : ∀ z ∈ s.su, 0 ≤ z := fun z hz => by have := V.su z hz; omega
theorem Valid.sum : 0 ≤ sumI s.su ∧ sumI s.su ≤ 27 := by
 have h := sumI_bound V.su
 have := V.su3
 omega
theorem places_length : (((placesTo s 3).length : Nat) : Int) = plainI s + s.fl := by
 have h := suitsP_length V.su0 s.su.length (Nat.le_refl _)
 rw [List.take_length] at h
 have v1 := V.wi
 have v2 := V.dr
 have v3 := V.fl
 rw [places3]
 unfold plainI
 simp only [List.length_append, rowP_length, Int.natCast_add, h]
 omega
theorem places_indexed : Indexed 0 (placesTo s 3) := by
 have h := suitsP_length V.su0 s.su.length (Nat.le_refl _)
 rw [List.take_length] at h
 have v1 := V.wi
 have v2 := V.dr
 have v3 := V.fl
 have i0 := suitsP_indexed V.su0 s.su.length (Nat.le_refl _)
 rw [places3]
 refine ((i0.append ((rowP_indexed _ _ _).congr ?_)).append ((rowP_indexed _ _ _).congr ?_)).append ((rowP_indexed _ _ _).congr ?_)
 ·omega
 ·rw [List.length_append, rowP_length]; omega
 ·rw [List.length_append, List.length_append, rowP_length, rowP_length]; omega
end
theorem Indexed.find {l : List KPlace} (h : Indexed 0 l) {x : KPlace} (hx : x ∈ l) : l.find? (fun y => y.1 == x.1) = some x := by
 obtain ⟨i, hi, rfl⟩ := List.getElem_of_mem hx
 refine List.find?_eq_some_iff_getElem.2 ⟨by simp, i, hi, rfl, fun j hj => ?_⟩
 have h1 := h i hi
 have h2 := h j (by omega)
 simp
 omega
theorem Indexed.out {l : List KPlace} (h : Indexed 0 l) {k : Int} (hk : k < 0 ∨ (l.length : Int) ≤ k) : l.find? (fun y => y.1 == k) = none := by
 refine List.find?_eq_none.2 fun y hy => ?_
 obtain ⟨i, hi, rfl⟩ := List.getElem_of_mem hy
 have h1 := h i hi
 simp
 omega
theorem allP_indexed (s : TSet) : Indexed 0 (allP s) := by
 by_cases e : chkErr s = 0
 ·rw [allP_ok e]; exact places_indexed (valid_of e)
 ·rw [allP_bad e]; exact Indexed.nil
theorem allP_length (s : TSet) : ((allP s).length : Int) = if chkErr s = 0 then plainI s + s.fl else 0 := by
 by_cases e : chkErr s = 0
 ·rw [allP_ok e, if_pos e]; exact places_length (valid_of e)
 ·rw [allP_bad e, if_neg e]; rfl
theorem place_mem {s : TSet} {x : KPlace} (h : x ∈ allP s) : placeP s x.1 = x.2 := by
 unfold placeP
 rw [(allP_indexed s).find h]
theorem place_out {s : TSet} {k : Int} (hk : k < 0 ∨ ((allP s).length : Int) ≤ k) : placeP s k = (-4, 0) := by
 unfold placeP
 rw [(allP_indexed s).out hk]
theorem place_bad {s : TSet} (k : Int) (h : chkErr s ≠ 0) : placeP s k = (-4, 0) := by
 unfold placeP
 rw [allP_bad h]
 rfl
theorem place_in {s : TSet} {k : Int} (h0 : 0 ≤ k) (h1 : k < ((allP s).length : Int)) : (k, placeP s k) ∈ allP s := by
 have hi : k.toNat < (allP s).length := by omega
 have h := allP_indexed s k.toNat hi
 have hm := List.getElem_mem hi
 have hp := place_mem hm
 rw [show (0 : Int) + (k.toNat : Int) = k by omega] at h
 rw [h] at hp
 have e2 : (k, placeP s k) = (allP s)[k.toNat] := Prod.ext h.symm hp
 rw [e2]
 exact hm
def InSuit (s : TSet) (k : Int) (j : Nat) (r : Nat) : Prop := ∃ h : j < s.su.length, (r : Int) < s.su[j] ∧ k = sumI (s.su.take j) + r
theorem place_cases {s : TSet} {x : KPlace} (e : chkErr s = 0) (h : x ∈ allP s) :
  (∃ j r : Nat, InSuit s x.1 j r ∧ x.2 = ((j : Int), (r : Int))) ∨ (∃ r : Nat, (r : Int) < s.wi ∧ x.1 = sumI s.su + r ∧ x.2 = (-1, (r : Int))) ∨ (∃ r : Nat, (r : Int) < s.dr ∧ x.1 = sumI s.su + s.wi + r ∧ x.2 = (-2, (r : Int))) ∨ (∃ r : Nat, (r : Int) < s.fl ∧ x.1 = sumI s.su + s.wi + s.dr + r ∧ x.2 = (-3, (r : Int))) := by
 have V := valid_of e
 rw [allP_ok e, places3] at h
 rw [List.mem_append, List.mem_append, List.mem_append, mem_suitsP, mem_rowP, mem_rowP, mem_rowP] at h
 rcases h with ((⟨j, hj, h⟩ | ⟨i, hi, rfl⟩) | ⟨i, hi, rfl⟩) | ⟨i, hi, rfl⟩
 ·obtain ⟨i, hi, rfl⟩ := mem_rowP.1 h
  rw [show s.su.getD j 0 = s.su[j] by simp [List.getD, hj]] at hi
  exact .inl ⟨j, i, ⟨hj, by omega, rfl⟩, rfl⟩
 ·exact .inr (.inl ⟨i, by omega, rfl, rfl⟩)
 ·exact .inr (.inr (.inl ⟨i, by omega, rfl, rfl⟩))
 ·exact .inr (.inr (.inr ⟨i, by omega, rfl, rfl⟩))
theorem mem_suit {s : TSet} {k : Int} {j r : Nat} (e : chkErr s = 0) (h : InSuit s k j r) : ((k, (j : Int), (r : Int)) : KPlace) ∈ allP s := by
 obtain ⟨hj, hr, rfl⟩ := h
 rw [allP_ok e, places3]
 refine List.mem_append_left _ (List.mem_append_left _ (List.mem_append_left _ (mem_suitsP.2 ⟨j, hj, mem_rowP.2 ⟨r, ?_, rfl⟩⟩)))
 rw [show s.su.getD j 0 = s.su[j] by simp [List.getD, hj]]
 omega
theorem mem_wind {s : TSet} {r : Nat} (e : chkErr s = 0) (h : (r : Int) < s.wi) : ((sumI s.su + r, -1, (r : Int)) : KPlace) ∈ allP s := by
 rw [allP_ok e, places3]
 exact List.mem_append_left _ (List.mem_append_left _ (List.mem_append_right _ (mem_rowP.2 ⟨r, by omega, rfl⟩)))
theorem mem_dragon {s : TSet} {r : Nat} (e : chkErr s = 0) (h : (r : Int) < s.dr) : ((sumI s.su + s.wi + r, -2, (r : Int)) : KPlace) ∈ allP s := by
 rw [allP_ok e, places3]
 exact List.mem_append_left _ (List.mem_append_right _ (mem_rowP.2 ⟨r, by omega, rfl⟩))
theorem mem_flower {s : TSet} {r : Nat} (e : chkErr s = 0) (h : (r : Int) < s.fl) : ((sumI s.su + s.wi + s.dr + r, -3, (r : Int)) : KPlace) ∈ allP s := by
 rw [allP_ok e, places3]
 exact List.mem_append_right _ (mem_rowP.2 ⟨r, by omega, rfl⟩)
end Go.Proofs.YthblfhgofopcaaaGreat

namespace Go.Proofs.YthblfhgofopcaaaGreat
open Go.RowKit
def Src (w : World) (g : Nat) : Prop := ∃ x : Int, 0 ≤ x ∧ x < 18446744073709551616 ∧ Blk w g 115 [.int .u64 x]
end Go.Proofs.YthblfhgofopcaaaGreat

namespace Go.Proofs.YthblfhgofopcaaaGreat
open Go.RowKit
end Go.Proofs.YthblfhgofopcaaaGreat

namespace Go.Proofs.YthblfhgofopcaaaGreat
open Go.RowKit
theorem risErr_cons {many p k : Int} {l : List Int} (h : risErr many p (k :: l) = 0) : (0 ≤ k ∧ k < many) ∧ p < k ∧ risErr many k l = 0 := by
 unfold risErr at h
 by_cases h1 : k < 0 ∨ many ≤ k
 ·rw [if_pos h1] at h; omega
 rw [if_neg h1] at h
 by_cases h2 : k ≤ p
 ·rw [if_pos h2] at h; omega
 rw [if_neg h2] at h
 exact ⟨by omega, by omega, h⟩
end Go.Proofs.YthblfhgofopcaaaGreat

namespace Go.Proofs.YthblfhgofopcaaaGreat
open Go.RowKit
set_option maxRecDepth 100000 in
set_option maxHeartbeats 4000000 in
theorem rPlace_any (v : Value) (s : TSet) (k : Int) (w : World) (h : IsSet w v s) : Calls Tryz.prog 174 #[v, .int .i64 k] w (Gives w (.tuple #[.int .i64 (placeP s k).1, .int .i64 (placeP s k).2])) := by
 have hfin : ∀ (p : Int × Int) (a b : Int) wf, placeP s k = p → p = (a, b) → Grow w wf → Gives w (.tuple #[.int .i64 (placeP s k).1, .int .i64 (placeP s k).2]) (.returned (.tuple #[.int .i64 a, .int .i64 b])) wf := fun p a b wf h hp hg => ⟨by rw [h, hp], hg⟩
 have HF := hid hfin
 have KD := fun W (hg : Grow w W) => rKinds_any v s W (h.grow hg)
 have CH := fun W (hg : Grow w W) => rCheck_any v s W (h.grow hg)
 clear hfin
 have HI := hid h
 obtain ⟨A, c, B, d, rfl, h1, h2⟩ := h.open_
 obtain ⟨_, _, e1, c1, m1, r1⟩ := h1
 obtain ⟨_, _, e2, d1, m2, r2⟩ := h2
 injection e1 with e1 _ e1'
 injection e2 with e2 _ e2'
 subst e1 e1' e2 e2'
 unfold maxLen at m1 m2
 have HG0 := hid (show Grow w (w.alloc (.cells #[.int .i64 s.pl, .slice A s.su.length c, .int .i64 s.wi, .int .i64 s.dr, .int .i64 s.fl, .int .i64 s.co, .int .i64 s.me, .int .i64 s.de, .slice B s.re.length d] 24)) from (Grow.refl w).alloc _)
 have HB0 := hid (show Blk (w.alloc (.cells #[.int .i64 s.pl, .slice A s.su.length c, .int .i64 s.wi, .int .i64 s.dr, .int .i64 s.fl, .int .i64 s.co, .int .i64 s.me, .int .i64 s.de, .slice B s.re.length d] 24)) w.heap.size 24 (setVals s (.slice A s.su.length c) (.slice B s.re.length d)) from heap_alloc_new w _)
 clear h
 have KS := hid (fun W (hg : Grow (w.alloc (.cells #[.int .i64 s.pl, .slice A s.su.length c, .int .i64 s.wi, .int .i64 s.dr, .int .i64 s.fl, .int .i64 s.co, .int .i64 s.me, .int .i64 s.de, .slice B s.re.length d] 24)) W) => And.intro hg (set_cells (HB0.out.grow hg)))
 have HG := hid (fun W (hg : Grow (w.alloc (.cells #[.int .i64 s.pl, .slice A s.su.length c, .int .i64 s.wi, .int .i64 s.dr, .int .i64 s.fl, .int .i64 s.co, .int .i64 s.me, .int .i64 s.de, .slice B s.re.length d] 24)) W) => HG0.out.trans hg)
 by_cases hA : k < 0
 ·have HE := hid (place_out (s := s) (.inl hA))
  go_enter Tryz.func174, Tryz.ntmps174
  go_wp2
  go_quiet (fail)
  go_wp2
  go_ret2
  exact HF.out _ _ _ _ HE.out rfl (HG0.out.drewN _)
 ·have hA' : decide (k < 0) = false := decide_eq_false hA
  obtain ⟨z, hz⟩ : ∃ z, z = kindsI s := ⟨_, rfl⟩
  rw [← hz] at KD
  by_cases hB : IntKind.i64.wrap (z + s.fl) ≤ k
  ·have HE := hid (show placeP s k = (-4, 0) by
    by_cases e : chkErr s = 0
    ·have V := valid_of e
     have v1 := V.plain
     have v2 := V.fl
     have hl := allP_length s
     rw [if_pos e] at hl
     rw [hz, kinds_ok e, IntWalk.i64_in _ (by omega)] at hB
     exact place_out (.inr (by omega))
    ·exact place_bad k e)
   have hB' : decide (IntKind.i64.wrap (z + s.fl) ≤ k) = true := decide_eq_true hB
   have KD := hid KD
   clear CH hz
   go_enter Tryz.func174, Tryz.ntmps174
   go_wp2
   generalize w.alloc (.cells #[.int .i64 s.pl, .slice A s.su.length c, .int .i64 s.wi, .int .i64 s.dr, .int .i64 s.fl, .int .i64 s.co, .int .i64 s.me, .int .i64 s.de, .slice B s.re.length d] 24) = wz at *
   obtain ⟨-, c0, c1, c2, c3, c4, c5, c6, c7, c8⟩ := KS.out _ (Grow.refl wz)
   go_region_law (first | (go_simp; go_at_call 141; refine (KD.out _ (HG.out _ (by first | exact Grow.refl _ | exact (Grow.refl _).drew))).mono ?_; rintro e w2 ⟨rfl, hg2⟩; have hgg := ((Grow.refl wz).drew).trans hg2; clear c0 c1 c2 c3 c4 c5 c6 c7 c8; obtain ⟨-, c0, c1, c2, c3, c4, c5, c6, c7, c8⟩ := KS.out _ hgg))
   all_goals
    go_wp2
    go_ret2
    exact HF.out _ _ _ _ HE.out rfl (HG.out _ hgg)
  ·have hB' : decide (IntKind.i64.wrap (z + s.fl) ≤ k) = false := decide_eq_false hB
   by_cases e : chkErr s = 0
   ·have V := valid_of e
    have v1 := V.plain
    have v2 := V.fl
    have v3 := V.wi
    have v4 := V.dr
    have v5 := V.su3
    rw [hz, kinds_ok e] at hB hB'
    rw [hz, kinds_ok e] at KD
    rw [e] at CH
    have KD := hid KD
    have CH := hid CH
    have f1 : IntKind.i64.wrap (plainI s + s.fl) = plainI s + s.fl := IntWalk.i64_in _ (by omega)
    rw [f1] at hB hB'
    have HE0 := hid e
    have HSU := hid V.su
    have HSM := hid V.sum
    have HMEM := hid (fun j r (hm : InSuit s k j r) => place_mem (mem_suit e hm))
    have HPL := hid (show plainI s = s.wi + s.dr + sumI s.su from rfl)
    clear hz e V
    go_enter Tryz.func174, Tryz.ntmps174
    go_wp2
    generalize w.alloc (.cells #[.int .i64 s.pl, .slice A s.su.length c, .int .i64 s.wi, .int .i64 s.dr, .int .i64 s.fl, .int .i64 s.co, .int .i64 s.me, .int .i64 s.de, .slice B s.re.length d] 24) = wz at *
    go_region_held3 (fun W => Grow wz W ∧ W.cell? ⟨w.heap.size, 0, none⟩ = some (.int .i64 s.pl) ∧ W.cell? ⟨w.heap.size, 1, none⟩ = some (.slice A s.su.length c) ∧ W.cell? ⟨w.heap.size, 2, none⟩ = some (.int .i64 s.wi) ∧ W.cell? ⟨w.heap.size, 3, none⟩ = some (.int .i64 s.dr) ∧ W.cell? ⟨w.heap.size, 4, none⟩ = some (.int .i64 s.fl) ∧ W.cell? ⟨w.heap.size, 5, none⟩ = some (.int .i64 s.co) ∧ W.cell? ⟨w.heap.size, 6, none⟩ = some (.int .i64 s.me) ∧ W.cell? ⟨w.heap.size, 7, none⟩ = some (.int .i64 s.de) ∧ W.cell? ⟨w.heap.size, 8, none⟩ = some (.slice B s.re.length d))
     (exact KS.out _ (by first | assumption | exact (Grow.refl _).drew))
     (first
      | (go_at_call 141; refine (KD.out _ (HG.out _ (‹Grow wz _ ∧ _›).1)).mono ?_; rintro e w2 ⟨rfl, hg2⟩; have hgg := (‹Grow wz _ ∧ _›).1.trans hg2)
      | (go_at_call 79; refine (CH.out _ (HG.out _ (‹Grow wz _ ∧ _›).1)).mono ?_; rintro e w3 ⟨rfl, hg3⟩; have hg4 := (‹Grow wz _ ∧ _›).1.trans hg3))
    all_goals
     clear f1 hB'
     have HGF := hid (HG.out _ hg4)
     obtain ⟨-, c0, c1, c2, c3, c4, c5, c6, c7, c8⟩ := KS.out _ hg4
     have HR1 := hid (r1.grow HGF.out)
     go_wp2
     go_loop [6, 7] (fun a i => ∃ j : Nat, j ≤ s.su.length ∧ i = .int .i64 (j : Int) ∧ a = .int .i64 (k - sumI (s.su.take j)) ∧ sumI (s.su.take j) ≤ k) (fun _ i => s.su.length - (intOf i).toNat)
     case atStart => exact ⟨0, Nat.zero_le _, rfl, by simp [sumI], by simp [sumI]; omega⟩
     case round =>
      obtain ⟨j, hj, rfl, rfl, hle⟩ := hrel
      have hsb := sumI_bound (l := s.su.take j) fun z hz => HSU.out z (List.mem_of_mem_take hz)
      rw [List.length_take] at hsb
      by_cases hlt : j < s.su.length
      ·obtain ⟨ad, rfl, _, hx⟩ := HR1.out.int hlt
       have i0 : (0 : Int) ≤ (j : Int) := by omega
       have i1 : (j : Int) < (s.su.length : Int) := by omega
       have hz := HSU.out s.su[j] (List.getElem_mem hlt)
       have HT := hid (sumI_take s.su hlt)
       by_cases hin : k - sumI (s.su.take j) < s.su[j]
       ·have HE := hid (HMEM.out j (k - sumI (s.su.take j)).toNat ⟨hlt, by omega, by omega⟩)
        have hc : (((k - sumI (s.su.take j)).toNat : Nat) : Int) = k - sumI (s.su.take j) := by omega
        rw [hc] at HE
        clear hc
        generalize sumI (s.su.take j) = S at *
        generalize s.su[j] = z at *
        go_wp2
        go_ret2
        exact HF.out _ _ _ _ HE.out rfl HGF.out
       ·generalize s.su[j] = z at *
        have hS : 0 ≤ sumI (s.su.take j) ∧ sumI (s.su.take j) ≤ 27 := by omega
        have hk : k ≤ 50 := by omega
        clear hsb
        go_wp2
        exact ⟨⟨j + 1, by omega, by go_num, by rw [HT.out]; congr 1; omega, by rw [HT.out]; omega⟩, by simp only [intOf]; omega⟩
      ·obtain rfl : j = s.su.length := by omega
       rw [List.take_length] at *
       have ge : ¬ (s.su.length : Int) < (s.su.length : Int) := by omega
       have hk : k ≤ 50 := by omega
       by_cases b1 : k - sumI s.su < s.wi
       ·have HE := hid (place_mem (mem_wind HE0.out (s := s) (r := (k - sumI s.su).toNat) (by omega)))
        have hc : (((k - sumI s.su).toNat : Nat) : Int) = k - sumI s.su := by omega
        rw [hc, show sumI s.su + (k - sumI s.su) = k by omega] at HE
        clear hc
        generalize sumI s.su = S at *
        go_wp2
        go_ret2
        exact HF.out _ _ _ _ HE.out rfl HGF.out
       ·by_cases b2 : k - sumI s.su - s.wi < s.dr
        ·have HE := hid (place_mem (mem_dragon HE0.out (s := s) (r := (k - sumI s.su - s.wi).toNat) (by omega)))
         have hc : (((k - sumI s.su - s.wi).toNat : Nat) : Int) = k - sumI s.su - s.wi := by omega
         rw [hc, show sumI s.su + s.wi + (k - sumI s.su - s.wi) = k by omega] at HE
         clear hc
         generalize sumI s.su = S at *
         go_wp2
         go_ret2
         exact HF.out _ _ _ _ HE.out rfl HGF.out
        ·have HE := hid (place_mem (mem_flower HE0.out (s := s) (r := (k - sumI s.su - s.wi - s.dr).toNat) (by have := HPL.out; omega)))
         have hc : (((k - sumI s.su - s.wi - s.dr).toNat : Nat) : Int) = k - sumI s.su - s.wi - s.dr := by omega
         rw [hc, show sumI s.su + s.wi + s.dr + (k - sumI s.su - s.wi - s.dr) = k by omega] at HE
         have HF3 : IntKind.i64.wrap (k - sumI s.su - s.wi - s.dr) = k - sumI s.su - s.wi - s.dr := IntWalk.i64_in _ (by omega)
         clear hc
         generalize sumI s.su = S at *
         go_wp2
         go_quiet (fail)
         go_wp2
         go_ret2
         exact HF.out _ _ _ _ HE.out rfl (HGF.out.drewN _)
   ·have HE := hid (place_bad k e)
    have ne : (chkErr s != 0) = true := by simp [e]
    have KD := hid KD
    have CH := hid CH
    clear hz e
    generalize chkErr s = n at *
    go_enter Tryz.func174, Tryz.ntmps174
    go_wp2
    generalize w.alloc (.cells #[.int .i64 s.pl, .slice A s.su.length c, .int .i64 s.wi, .int .i64 s.dr, .int .i64 s.fl, .int .i64 s.co, .int .i64 s.me, .int .i64 s.de, .slice B s.re.length d] 24) = wz at *
    go_region_held3 (fun W => Grow wz W ∧ W.cell? ⟨w.heap.size, 0, none⟩ = some (.int .i64 s.pl) ∧ W.cell? ⟨w.heap.size, 1, none⟩ = some (.slice A s.su.length c) ∧ W.cell? ⟨w.heap.size, 2, none⟩ = some (.int .i64 s.wi) ∧ W.cell? ⟨w.heap.size, 3, none⟩ = some (.int .i64 s.dr) ∧ W.cell? ⟨w.heap.size, 4, none⟩ = some (.int .i64 s.fl) ∧ W.cell? ⟨w.heap.size, 5, none⟩ = some (.int .i64 s.co) ∧ W.cell? ⟨w.heap.size, 6, none⟩ = some (.int .i64 s.me) ∧ W.cell? ⟨w.heap.size, 7, none⟩ = some (.int .i64 s.de) ∧ W.cell? ⟨w.heap.size, 8, none⟩ = some (.slice B s.re.length d))
     (exact KS.out _ (by first | assumption | exact (Grow.refl _).drew))
     (first
      | (go_at_call 141; refine (KD.out _ (HG.out _ (‹Grow wz _ ∧ _›).1)).mono ?_; rintro e w2 ⟨rfl, hg2⟩; have hgg := (‹Grow wz _ ∧ _›).1.trans hg2)
      | (go_at_call 79; refine (CH.out _ (HG.out _ (‹Grow wz _ ∧ _›).1)).mono ?_; rintro e w3 ⟨rfl, hg3⟩; have hg4 := (‹Grow wz _ ∧ _›).1.trans hg3))
    all_goals
     go_wp2
     go_ret2
     exact HF.out _ _ _ _ HE.out rfl (HG.out _ hg4)
end Go.Proofs.YthblfhgofopcaaaGreat
