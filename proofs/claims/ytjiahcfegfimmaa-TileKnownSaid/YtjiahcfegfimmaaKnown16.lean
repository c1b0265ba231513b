/-
  The walk of tile.Place.
-/
import Derived.Test.YtjiahcfegfimmaaKnown15
import Derived.RangeFuncFrom
namespace Go.Proofs.Ytjiahcfegfimmaa
open Go.RowKit Go.Shelf

attribute [local go_sem] Oper.semAt_some

/-- The place of a kind. -/
def placeP (s : TSet) (k : Int) : Int × Int := match (allP s).find? (fun x => x.1 == k) with
  | some x => x.2
  | none => (-4, 0)

def KindsRes (w : World) (o : Obj) (e : Ending) (w' : World) : Prop := e = .returned (.func (.func 106) #[] #[.pointer (some ⟨w.heap.size, 0, none⟩)]) ∧ w.alloc o = w'
theorem kinds_any (v : Value) (s : TSet) (a b : Value) (w : World) (hv : v = .agg #[.int .i64 s.pl, a, .int .i64 s.wi, .int .i64 s.dr, .int .i64 s.fl, .int .i64 s.co, .int .i64 s.me, .int .i64 s.de, b]) :
    Calls Try.prog 90 #[v] w (KindsRes w (.cells #[.int .i64 s.pl, a, .int .i64 s.wi, .int .i64 s.dr, .int .i64 s.fl, .int .i64 s.co, .int .i64 s.me, .int .i64 s.de, b] 24)) := by
  subst hv
  go_enter Try.func90, Try.ntmps90
  go_wp2
  go_ret
  exact ⟨rfl, rfl⟩

/-- Between two rounds: the kind has not come. -/
structure PlaceI (w : World) (s : TSet) (k : Int) (a b : Value) (A : Nat) (pre : List KPlace) (W : World) : Prop where
  no : ∀ x ∈ pre, x.1 ≠ k
  bK : Blk W (w.heap.size + 1) 3 [.int .i64 k]
  b1 : Blk W (w.heap.size + 1 + 1) 3 [.int .i64 0]
  b2 : Blk W (w.heap.size + 1 + 1 + 1) 3 [.int .i64 0]
  bT : Blk W (w.heap.size + 1 + 1 + 1 + 1) 24 (setVals s a b)
  g : Grow w W
  lt : w.heap.size + 5 ≤ A
theorem PlaceI.turns {w : World} {s : TSet} {k : Int} {a b : Value} {A C : Nat} {pre : List KPlace} {W W' : World} (h : PlaceI w s k a b A pre W) (hC : w.heap.size ≤ C) (t : Turns C A W W') : PlaceI w s k a b A pre W' := by
  have hl := h.lt
  exact ⟨h.no, t.cells h.bK (by omega), t.cells h.b1 (by omega), t.cells h.b2 (by omega), t.cells h.bT (by omega), t.grow h.g (by omega) hC, hl⟩
theorem PlaceI.grow {w : World} {s : TSet} {k : Int} {a b : Value} {A : Nat} {pre : List KPlace} {W W' : World} (h : PlaceI w s k a b A pre W) (g : Grow W W') : PlaceI w s k a b A pre W' := h.turns (Nat.le_refl w.heap.size) (Turns.of_grow g)
/-- The kind has come. -/
structure PlaceX (w : World) (k : Int) (A : Nat) (pre : List KPlace) (W : World) : Prop where
  hit : ∃ x, pre.find? (fun x => x.1 == k) = some x ∧ Blk W (w.heap.size + 1 + 1) 3 [.int .i64 x.2.1] ∧ Blk W (w.heap.size + 1 + 1 + 1) 3 [.int .i64 x.2.2]
  g : Grow w W
  lt : w.heap.size + 5 ≤ A
theorem PlaceX.turns {w : World} {k : Int} {A C : Nat} {pre : List KPlace} {W W' : World} (h : PlaceX w k A pre W) (hC : w.heap.size ≤ C) (t : Turns C A W W') : PlaceX w k A pre W' := by
  have hl := h.lt
  obtain ⟨x, h1, h2, h3⟩ := h.hit
  exact ⟨⟨x, h1, t.cells h2 (by omega), t.cells h3 (by omega)⟩, t.grow h.g (by omega) hC, hl⟩
theorem Blk.new_at {w : World} {e : TypeId} {xs : List Value} {k : Nat} (h : w.heap.size = k) : Blk (w.alloc (.cells xs.toArray e)) k e xs := by
  subst h
  exact heap_alloc_new w _

theorem place_hit {pre : List KPlace} {x : KPlace} {k : Int} (h : ∀ y ∈ pre, y.1 ≠ k) (hx : x.1 = k) : (pre ++ [x]).find? (fun x => x.1 == k) = some x := by
  rw [List.find?_append, List.find?_eq_none.2 fun y hy => by simpa using h y hy]
  simp [hx]
theorem place_none {s : TSet} {k : Int} (h : ∀ y ∈ allP s, y.1 ≠ k) : placeP s k = (-4, 0) := by
  unfold placeP
  rw [List.find?_eq_none.2 fun y hy => by simpa using h y hy]
theorem place_some {s : TSet} {k : Int} {pre : List KPlace} {x : KPlace} (hp : pre <+: allP s) (h : pre.find? (fun x => x.1 == k) = some x) : placeP s k = x.2 := by
  obtain ⟨t, ht⟩ := hp
  unfold placeP
  rw [← ht, List.find?_append, h]
  rfl

/-- At the function's return: the mark is come to. -/
theorem place_end {w W : World} {D : Nat} {x y : Int} (h1 : Blk W (w.heap.size + 1 + 1) 3 [.int .i64 x]) (h2 : Blk W (w.heap.size + 1 + 1 + 1) 3 [.int .i64 y]) (g : Grow w W) (hD : W.heap[D]? = some (.deferred (some []))) (hl : w.heap.size + 5 ≤ D) :
    (W.putObj D (.deferred none)).cell? ⟨w.heap.size + 1 + 1, 0, none⟩ = some (.int .i64 x) ∧ (W.putObj D (.deferred none)).cell? ⟨w.heap.size + 1 + 1 + 1, 0, none⟩ = some (.int .i64 y) ∧ Grow w (W.putObj D (.deferred none)) := by
  have t : Turns w.heap.size D W (W.putObj D (.deferred none)) := Turns.putObj _ hD rfl (by omega)
  have k1 : Blk (W.putObj D (.deferred none)) (w.heap.size + 1 + 1) 3 [.int .i64 x] := t.cells h1 (by omega)
  have k2 : Blk (W.putObj D (.deferred none)) (w.heap.size + 1 + 1 + 1) 3 [.int .i64 y] := t.cells h2 (by omega)
  exact ⟨k1.cell 0, k2.cell 0, t.grow g (by omega) (Nat.le_refl _)⟩

set_option maxRecDepth 100000 in
set_option maxHeartbeats 4000000 in
theorem Place_any (v : Value) (s : TSet) (k : Int) (w : World) (h : IsSet w v s) : Calls Try.prog 35 #[v, .int .i64 k] w (Gives w (.tuple #[.int .i64 (placeP s k).1, .int .i64 (placeP s k).2])) := by
  have hset := h
  obtain ⟨A, c, B, d, rfl, h1, h2⟩ := h.open_
  have KI := hid (fun W => (callsIn_wide.2 (kinds_any _ s (.slice A s.su.length c) (.slice B s.re.length d) W rfl) : CallsIn Fence.wide 9 _ _ _ _ _))
  have H1 := hid (And.intro h1 h2)
  clear h1 h2 hset h
  refine (callsIn_wide (n := 10)).1 ?_
  refine callsIn_of_wp_marks Try.func35 rfl trivial ?_ rfl
  simp only [Try.ntmps35, List.size_toArray, List.length_cons, List.length_nil, Nat.reduceAdd, Nat.reduceSub, Array.replicate_succ, Array.replicate_zero, List.push_toArray, List.append_toArray, List.nil_append, List.cons_append]
  gi_wp2_with (refine ⟨trivial, ?_⟩; gi_at_call 90; refine (KI.out _).mono ?_; rintro e w' ⟨rfl, rfl⟩)
  have GW := hid (show Grow w (((((w.alloc (.cells #[.int .i64 s.pl, .slice A s.su.length c, .int .i64 s.wi, .int .i64 s.dr, .int .i64 s.fl, .int .i64 s.co, .int .i64 s.me, .int .i64 s.de, .slice B s.re.length d] 24)).alloc (.cells #[.int .i64 k] 3)).alloc (.cells #[.int .i64 0] 3)).alloc (.cells #[.int .i64 0] 3)).alloc (.cells #[.int .i64 s.pl, .slice A s.su.length c, .int .i64 s.wi, .int .i64 s.dr, .int .i64 s.fl, .int .i64 s.co, .int .i64 s.me, .int .i64 s.de, .slice B s.re.length d] 24)) from (((((Grow.refl w).alloc _).alloc _).alloc _).alloc _).alloc _)
  have bK : Blk (((((w.alloc (.cells #[.int .i64 s.pl, .slice A s.su.length c, .int .i64 s.wi, .int .i64 s.dr, .int .i64 s.fl, .int .i64 s.co, .int .i64 s.me, .int .i64 s.de, .slice B s.re.length d] 24)).alloc (.cells #[.int .i64 k] 3)).alloc (.cells #[.int .i64 0] 3)).alloc (.cells #[.int .i64 0] 3)).alloc (.cells #[.int .i64 s.pl, .slice A s.su.length c, .int .i64 s.wi, .int .i64 s.dr, .int .i64 s.fl, .int .i64 s.co, .int .i64 s.me, .int .i64 s.de, .slice B s.re.length d] 24)) (w.heap.size + 1) 3 [.int .i64 k] := Blk.grow (Blk.new_at (xs := [.int .i64 k]) (by simp)) ((((Grow.refl _).alloc _).alloc _).alloc _)
  have b1 : Blk (((((w.alloc (.cells #[.int .i64 s.pl, .slice A s.su.length c, .int .i64 s.wi, .int .i64 s.dr, .int .i64 s.fl, .int .i64 s.co, .int .i64 s.me, .int .i64 s.de, .slice B s.re.length d] 24)).alloc (.cells #[.int .i64 k] 3)).alloc (.cells #[.int .i64 0] 3)).alloc (.cells #[.int .i64 0] 3)).alloc (.cells #[.int .i64 s.pl, .slice A s.su.length c, .int .i64 s.wi, .int .i64 s.dr, .int .i64 s.fl, .int .i64 s.co, .int .i64 s.me, .int .i64 s.de, .slice B s.re.length d] 24)) (w.heap.size + 1 + 1) 3 [.int .i64 0] := Blk.grow (Blk.new_at (xs := [.int .i64 0]) (by simp)) (((Grow.refl _).alloc _).alloc _)
  have b2 : Blk (((((w.alloc (.cells #[.int .i64 s.pl, .slice A s.su.length c, .int .i64 s.wi, .int .i64 s.dr, .int .i64 s.fl, .int .i64 s.co, .int .i64 s.me, .int .i64 s.de, .slice B s.re.length d] 24)).alloc (.cells #[.int .i64 k] 3)).alloc (.cells #[.int .i64 0] 3)).alloc (.cells #[.int .i64 0] 3)).alloc (.cells #[.int .i64 s.pl, .slice A s.su.length c, .int .i64 s.wi, .int .i64 s.dr, .int .i64 s.fl, .int .i64 s.co, .int .i64 s.me, .int .i64 s.de, .slice B s.re.length d] 24)) (w.heap.size + 1 + 1 + 1) 3 [.int .i64 0] := Blk.grow (Blk.new_at (xs := [.int .i64 0]) (by simp)) ((Grow.refl _).alloc _)
  have bT : Blk (((((w.alloc (.cells #[.int .i64 s.pl, .slice A s.su.length c, .int .i64 s.wi, .int .i64 s.dr, .int .i64 s.fl, .int .i64 s.co, .int .i64 s.me, .int .i64 s.de, .slice B s.re.length d] 24)).alloc (.cells #[.int .i64 k] 3)).alloc (.cells #[.int .i64 0] 3)).alloc (.cells #[.int .i64 0] 3)).alloc (.cells #[.int .i64 s.pl, .slice A s.su.length c, .int .i64 s.wi, .int .i64 s.dr, .int .i64 s.fl, .int .i64 s.co, .int .i64 s.me, .int .i64 s.de, .slice B s.re.length d] 24)) (w.heap.size + 1 + 1 + 1 + 1) 24 (setVals s (.slice A s.su.length c) (.slice B s.re.length d)) := Blk.new_at (by simp)
  have hsz : (((((w.alloc (.cells #[.int .i64 s.pl, .slice A s.su.length c, .int .i64 s.wi, .int .i64 s.dr, .int .i64 s.fl, .int .i64 s.co, .int .i64 s.me, .int .i64 s.de, .slice B s.re.length d] 24)).alloc (.cells #[.int .i64 k] 3)).alloc (.cells #[.int .i64 0] 3)).alloc (.cells #[.int .i64 0] 3)).alloc (.cells #[.int .i64 s.pl, .slice A s.su.length c, .int .i64 s.wi, .int .i64 s.dr, .int .i64 s.fl, .int .i64 s.co, .int .i64 s.me, .int .i64 s.de, .slice B s.re.length d] 24)).heap.size = w.heap.size + 5 := by simp
  have BB := hid (And.intro bK (And.intro b1 (And.intro b2 bT)))
  clear bK b1 b2 bT
  generalize (((((w.alloc (.cells #[.int .i64 s.pl, .slice A s.su.length c, .int .i64 s.wi, .int .i64 s.dr, .int .i64 s.fl, .int .i64 s.co, .int .i64 s.me, .int .i64 s.de, .slice B s.re.length d] 24)).alloc (.cells #[.int .i64 k] 3)).alloc (.cells #[.int .i64 0] 3)).alloc (.cells #[.int .i64 0] 3)).alloc (.cells #[.int .i64 s.pl, .slice A s.su.length c, .int .i64 s.wi, .int .i64 s.dr, .int .i64 s.fl, .int .i64 s.co, .int .i64 s.me, .int .i64 s.de, .slice B s.re.length d] 24)) = W0 at *
  refine range_law (S := allP s) (encs := encP) (Ok := SetAt (w.heap.size + 1 + 1 + 1 + 1) s (.slice A s.su.length c) (.slice B s.re.length d)) (gf := 106) (lb := #[.pointer (some ⟨w.heap.size + 1 + 1 + 1 + 1, 0, none⟩)]) rfl (enters_of Try.func106 (by kernel_rfl) rfl) (kinds_iterates _ s _ _) (fun _ => rfl)
    (fun W hg => ⟨BB.out.2.2.2.grow hg, H1.out.1.grow (GW.out.trans hg), H1.out.2.grow (GW.out.trans hg)⟩)
    (PlaceI w s k (.slice A s.su.length c) (.slice B s.re.length d)) (PlaceX w k) (fun A' pre W W' h t => h.turns (by omega) t) (fun A' pre W W' h t => h.turns (by omega) t) (fun A' pre W h => ⟨h.bT, H1.out.1.grow h.g, H1.out.2.grow h.g⟩)
    (fun A' W hg hA _ => ⟨by simp, BB.out.1.grow hg, BB.out.2.1.grow hg, BB.out.2.2.1.grow hg, BB.out.2.2.2.grow hg, GW.out.trans hg, by omega⟩)
    (fun A' pre x a' W => PlaceI w s k (.slice A s.su.length c) (.slice B s.re.length d) A' pre W ∧ ∃ P, A' < P ∧ Blk W P 100 [.int .i64 x.2.1, .int .i64 x.2.2] ∧ a' = { tmps := #[.agg #[.int .i64 s.pl, .slice A s.su.length c, .int .i64 s.wi, .int .i64 s.dr, .int .i64 s.fl, .int .i64 s.co, .int .i64 s.me, .int .i64 s.de, .slice B s.re.length d], .int .i64 k, .pointer (some ⟨w.heap.size, 0, none⟩), .pointer (some ⟨w.heap.size + 1, 0, none⟩), .pointer (some ⟨w.heap.size + 1 + 1, 0, none⟩), .pointer (some ⟨w.heap.size + 1 + 1 + 1, 0, none⟩), .int .i64 x.1, .pointer (some ⟨P, 0, none⟩), .agg #[.int .i64 s.pl, .slice A s.su.length c, .int .i64 s.wi, .int .i64 s.dr, .int .i64 s.fl, .int .i64 s.co, .int .i64 s.me, .int .i64 s.de, .slice B s.re.length d], .func (.func 106) #[] #[.pointer (some ⟨w.heap.size + 1 + 1 + 1 + 1, 0, none⟩)], .int .i64 x.1, .agg #[.int .i64 x.2.1, .int .i64 x.2.2], undef, undef, undef, undef, undef, undef, undef], defers := [] })
    (fun A' pre x a' W W' h t => ⟨h.1.turns (by omega) t, h.2.imp fun P hP => ⟨hP.1, t.cells hP.2.1 (by omega), hP.2.2⟩⟩) ?assign ?body ?done ?stop
  case assign =>
    intro l m A' pre x W K hA hAW hi hpre hK
    simp only [encP]
    gi_wp2
    refine hK _ _ (KeepsOthers.alloc _ _) (fun k h1 h2 => Below.heap_alloc _ _ _ (by omega)) ⟨hi.grow ((Grow.refl _).alloc _), _, hAW, heap_alloc_new W _, ?_⟩
    rfl
  case body =>
    rintro l m A' pre x a' W hA hAW ⟨hi, P, hP, bP, rfl⟩ hpre
    have cK := hi.bK.cell 0
    have p0 := bP.cell 0
    have p1 := bP.cell 1
    have r0 := hi.b1.cell 0
    have r1 := hi.b2.cell 0
    have f0 := hi.b1.free 0
    have f1 := hi.b2.free 0
    simp only [List.getElem?_cons_zero, List.getElem?_cons_succ] at cK p0 p1 r0 r1
    have hlt := hi.lt
    have HI := hid hi
    have hmix : Try.prog.follows .mixedOrders = true := by kernel_rfl
    by_cases he : x.1 = k
    · have he' : (x.1 == k) = true := by simp [he]
      have HE := hid he
      have FIN := hid (show KeepsOthers W ((W.setCell ⟨w.heap.size + 1 + 1, 0, none⟩ (.int .i64 x.2.1)).setCell ⟨w.heap.size + 1 + 1 + 1, 0, none⟩ (.int .i64 x.2.2)).drew ∧ PlaceX w k A' (pre ++ [x]) ((W.setCell ⟨w.heap.size + 1 + 1, 0, none⟩ (.int .i64 x.2.1)).setCell ⟨w.heap.size + 1 + 1 + 1, 0, none⟩ (.int .i64 x.2.2)).drew from
        ⟨((KeepsOthers.setCell _ _ _).trans (KeepsOthers.setCell _ _ _)).trans (KeepsOthers.drew _), ⟨x, place_hit hi.no he, ((hi.b1.set 0 (.int .i64 x.2.1)).far (p := ⟨w.heap.size + 1 + 1 + 1, 0, none⟩) (by simp) (.int .i64 x.2.2)).grow (Grow.refl _).drew, ((hi.b2.far (p := ⟨w.heap.size + 1 + 1, 0, none⟩) (by simp) (.int .i64 x.2.1)).set 0 (.int .i64 x.2.2)).grow (Grow.refl _).drew⟩, ((hi.g.set (p := ⟨w.heap.size + 1 + 1, 0, none⟩) (by simp; omega) (.int .i64 x.2.1)).set (p := ⟨w.heap.size + 1 + 1 + 1, 0, none⟩) (by simp; omega) (.int .i64 x.2.2)).drew, hlt⟩)
      clear he hi
      gi_wp2
      gi_region_with_o (fail)
      all_goals
        gi_wp2
        exact FIN.out
    · have he' : (x.1 == k) = false := by simpa using he
      have NEW := hid (show PlaceI w s k (.slice A s.su.length c) (.slice B s.re.length d) A' (pre ++ [x]) W from ⟨fun y hy => by
        rcases List.mem_append.1 hy with h | h
        · exact hi.no y h
        · simp at h; subst h; exact he, hi.bK, hi.b1, hi.b2, hi.bT, hi.g, hi.lt⟩)
      clear he hi
      gi_wp2
      exact ⟨KeepsOthers.refl _, fun _ _ _ => rfl, NEW.out⟩
  case done =>
    intro D A' W hD hA hi hDh
    have r0 := hi.b1.cell 0
    have r1 := hi.b2.cell 0
    have f0 := hi.b1.free 0
    have f1 := hi.b2.free 0
    simp only [List.getElem?_cons_zero] at r0 r1
    have hlt := hi.lt
    have HE := hid (place_none hi.no)
    have B1 := (hi.b1.set 0 (.int .i64 (-4))).far (p := ⟨w.heap.size + 1 + 1 + 1, 0, none⟩) (by simp) (.int .i64 0)
    have B2 := (hi.b2.far (p := ⟨w.heap.size + 1 + 1, 0, none⟩) (by simp) (.int .i64 (-4))).set 0 (.int .i64 0)
    have G2 := (hi.g.set (p := ⟨w.heap.size + 1 + 1, 0, none⟩) (by simp; omega) (.int .i64 (-4))).set (p := ⟨w.heap.size + 1 + 1 + 1, 0, none⟩) (by simp; omega) (.int .i64 0)
    have hD2 := ((KeepsOthers.setCell W ⟨w.heap.size + 1 + 1, 0, none⟩ (.int .i64 (-4))).trans (KeepsOthers.setCell _ ⟨w.heap.size + 1 + 1 + 1, 0, none⟩ (.int .i64 0))).same D _ hDh rfl
    have FIN := hid (place_end (D := D) B1 B2 G2 hD2 (by omega))
    have HD2 := hid hD2
    clear B1 B2 G2 hD2
    gi_wp2
    refine ⟨by simp, .inl ⟨_, _, rfl, run_takeDeferred HD2.out, ?_⟩⟩
    obtain ⟨q0, q1, G3⟩ := FIN.out
    refine ⟨.tuple #[.int .i64 (-4), .int .i64 0], ?_, by rw [HE.out], G3⟩
    simp [results, Try.results35, go_sem, q0, q1]
  case stop =>
    intro D A' pre W hD hA hpre hx hDh
    obtain ⟨x, h1, h2, h3⟩ := hx.hit
    have HE := hid (place_some hpre h1)
    have FIN := hid (place_end (D := D) h2 h3 hx.g hDh (by omega))
    have HD2 := hid hDh
    clear h1 h2 h3 hx hDh
    gi_wp2
    refine ⟨by simp, .inl ⟨_, _, rfl, run_takeDeferred HD2.out, ?_⟩⟩
    obtain ⟨q0, q1, G3⟩ := FIN.out
    refine ⟨.tuple #[.int .i64 x.2.1, .int .i64 x.2.2], ?_, by rw [HE.out], G3⟩
    simp [results, Try.results35, go_sem, q0, q1]
end Go.Proofs.Ytjiahcfegfimmaa
