/-
  The walk of OddsOf: valid odds made of numbers.
-/
import Derived.Test.YtgphdaipgodjgaaAwake
import Derived.Deep.RegionLaw
namespace Go.Proofs.Ytgphdaipgodjgaa
open Go.RowKit

section
variable {ops : Array Oper} {rest : List Oper} {o : Oper} {a : Act} {Q : Exit → Act → World → Prop}
/-- 'append(out, zs...)', zs a slice of integers. -/
theorem run_append_ints (w0 w : World) (t ty : TypeId) (ht : Try.prog.underlying t = some (.slice 3)) (v u : Value) (os zs : List Int) (hown : Own w0 w v os) (hz : IsInts w u zs) (hl : os.length + zs.length ≤ 1000000000000) (hg : Grow w0 w) :
    ∃ v' w', (Builtin.append_ #[t, t] ty #[v, u]).run Try.prog w = .ok v' w' ∧ Own w0 w' v' (os ++ zs) ∧ Grow w0 w' ∧ w.grownBy w' v.ownBlock := by
  obtain ⟨i0, hi0, hz0, hz1, hz2⟩ := info_parts infoInt
  obtain ⟨A, c, rfl, h1, h2, h3⟩ := hz
  cases A with
  | none =>
    have hzn : zs = [] := by
      cases zs with
      | nil => rfl
      | cons z zs => obtain ⟨ad, h, _⟩ := h3.int (k := 0) (by simp); cases h
    subst hzn
    have hrun : (Builtin.append_ #[t, t] ty #[v, .slice none 0 c]).run Try.prog w = .ok v w := by
      rcases hown.2 with ⟨rfl, _⟩ | ⟨g, cap, cur, rfl, _, _, hnc, _⟩
      · simp [Builtin.append_, run_underlying ht, sizeOf, typeInfo, hi0, Builtin.lenOf, Builtin.firstCells]
      · simp [Builtin.append_, run_underlying ht, sizeOf, typeInfo, hi0, Builtin.lenOf, Builtin.firstCells, hnc, storeCells]
    exact ⟨v, w, hrun, by simpa using hown, hg, World.grownBy.refl w _⟩
  | some ad =>
    have hcells : ∀ (j : Nat) (x : Value), (ints zs)[j]? = some x → w.cell? (ad.add j) = some x := fun j x hx => by
      obtain ⟨ad', e, _, hc⟩ := h3 j x hx
      obtain rfl := Option.some.inj e
      exact hc
    obtain ⟨v', w', hrun, k1, k2, _⟩ := run_append_own (P := Try.prog) w w0.heap.size t ty 3 i0 _ 1 8 ht hi0 hz0 hz1 hz2 rfl (by decide) v os.length (ints os) hown ad zs.length c (ints zs) (by simp) hcells (ints_oneCell _ _) (by unfold maxLen; omega) (by omega) hg.size
    refine ⟨v', w', hrun, ?_, hg.own k2 hown.block, k2⟩
    have e : (os ++ zs).length = os.length + zs.length := by simp
    unfold Own
    rw [e]
    simpa [ints] using k1
theorem wp_append_ints {K : Act → World → Prop} (w0 w : World) (s x : Operand) (t : TypeId)
    (ho : o.op = .call { callee := .builtin .append, args := #[s, x], argTypes := #[t, t] }) (ht : Try.prog.underlying t = some (.slice 3))
    (v u : Value) (os zs : List Int) (hs : a.eval s = v) (hown : Own w0 w v os) (hx : a.eval x = u) (hz : IsInts w u zs) (hl : os.length + zs.length ≤ 1000000000000) (hg : Grow w0 w)
    (h : ∀ v' w', Own w0 w' v' (os ++ zs) → Grow w0 w' → w.grownBy w' v.ownBlock → K (a.put o.dst v') w') : o.wp Try.prog a w K Q := by
  obtain ⟨v', w', hr, h2, h3, h4⟩ := run_append_ints w0 w t o.type ht v u os zs hown hz hl hg
  unfold Oper.wp execOp
  simp only [ho, resolve, invoke, builtin, Sem.run_bind, Sem.run_pure, Result.andThen_ok, List.map_toArray, List.map_cons, List.map_nil, hs, hx, hr]
  exact h v' w' h2 h3 h4
theorem wpList_append_ints (w0 w : World) (hgd : o.guard = none) (s x : Operand) (t : TypeId)
    (ho : o.op = .call { callee := .builtin .append, args := #[s, x], argTypes := #[t, t] }) (ht : Try.prog.underlying t = some (.slice 3))
    (v u : Value) (os zs : List Int) (hs : a.eval s = v) (hown : Own w0 w v os) (hx : a.eval x = u) (hz : IsInts w u zs) (hl : os.length + zs.length ≤ 1000000000000) (hg : Grow w0 w)
    (h : ∀ v' w', Own w0 w' v' (os ++ zs) → Grow w0 w' → w.grownBy w' v.ownBlock → wpList Try.prog ops Q rest (a.put o.dst v') w') : wpList Try.prog ops Q (o :: rest) a w :=
  wpList_plain hgd fun _ hK => wp_append_ints w0 w s x t ho ht v u os zs hs hown hx hz hl hg fun v' w' h1 h2 h3 => hK _ _ (h v' w' h1 h2 h3)
theorem step_append_ints {K : Act → World → Prop} {E : Prop} (w0 w : World) (hgd : o.guard = none) (s x : Operand) (t : TypeId)
    (ho : o.op = .call { callee := .builtin .append, args := #[s, x], argTypes := #[t, t] }) (ht : Try.prog.underlying t = some (.slice 3))
    (v u : Value) (os zs : List Int) (hs : a.eval s = v) (hown : Own w0 w v os) (hx : a.eval x = u) (hz : IsInts w u zs) (hl : os.length + zs.length ≤ 1000000000000) (hg : Grow w0 w)
    (h : ∀ v' w', Own w0 w' v' (os ++ zs) → Grow w0 w' → w.grownBy w' v.ownBlock → K (a.put o.dst v') w') :
    if Region.wanted o (yielded ops a.tmps) = true then Oper.wp Try.prog o a w K Q else E := by
  have hw : Region.wanted o (yielded ops a.tmps) = true := by simp [Region.wanted, hgd]
  rw [if_pos hw]
  exact wp_append_ints w0 w s x t ho ht v u os zs hs hown hx hz hl hg h
end

def OddsOfRes (g : Nat) (w : World) (e : Ending) (w' : World) : Prop :=
  ∃ v a b, e = .returned v ∧ IsOdds w' v a b ∧ 0 ≤ a ∧ a ≤ b ∧ 0 < b ∧ b < radix 2 ∧ Src w' g ∧ But g w w'

theorem own_one (w0 w : World) (n : Int) (h : Grow w0 w) : Own w0 (w.alloc (.cells #[.int .i64 n] 3)) (.slice (some ⟨w.heap.size, 0, none⟩) 1 1) [n] :=
  World.ownsRow_lit (base := w0.heap.size) (e := 3) (size := 1) w #[.int .i64 n] 1 h.size (by simp [maxLen]) (by simp)

theorem Blk.new_at {w : World} {e : TypeId} {xs : List Value} {k : Nat} (h : w.heap.size = k) : Blk (w.alloc (.cells xs.toArray e)) k e xs := by
  subst h
  exact heap_alloc_new w _

theorem But.setNew {g : Nat} {w w' : World} (h : But g w w') {p : Addr} (hp : w.heap.size ≤ p.block) (u : Value) : But g w (w'.setCell p u) :=
  ⟨h.os, h.tape, h.output, by simpa using h.size, fun k hk hn => (Below.heap_setCell _ _ _ _ (fun e => by omega)).trans (h.block k hk hn)⟩
theorem Src.setFar {g : Nat} {w : World} (h : Src w g) {p : Addr} (hp : g ≠ p.block) (u : Value) : Src (w.setCell p u) g := by
  obtain ⟨x, h0, h1, hb⟩ := h
  exact ⟨x, h0, h1, hb.far hp u⟩
theorem IsIntsF.setFar {w : World} {v : Value} {zs : List Int} {p : Addr} {e : TypeId} {cs : List Value} (h : IsIntsF w v zs) (hx : Blk w p.block e cs) (hne : 3 ≠ e) (u : Value) : IsIntsF (w.setCell p u) v zs := by
  obtain ⟨⟨A, c, rfl, h1, h2, h3⟩, ht⟩ := h
  have hb : But p.block w (w.setCell p u) := ⟨rfl, rfl, rfl, by simp, fun k _ hk => Below.heap_setCell _ _ _ _ (fun e => hk (by simp [e]))⟩
  exact ⟨⟨A, c, rfl, h1, h2, hb.rdG hx h3 ht hne⟩, hb.tagG hx ht hne⟩
theorem natF_ints {w : World} {v : Value} {zs : List Int} (h : IsIntsF w v zs) (hc : Canon zs) : IsNatF w v (val zs) := ⟨⟨zs, hc, rfl, h.1⟩, h.2⟩
theorem Own.F {w0 w : World} {v : Value} {os : List Int} (h : Own w0 w v os) : IsIntsF w v os := ⟨h.is, h.tag⟩
theorem Blk.F {w : World} {g : Nat} {zs : List Int} (h : Blk w g 3 (ints zs)) (hl : zs.length ≤ maxLen) : IsIntsF w (.slice (some ⟨g, 0, none⟩) zs.length zs.length) zs := ⟨h.is hl, h.tag⟩

/-- How the last step ends. -/
theorem oddsOf_fin {g : Nat} {w w' : World} {v1 v2 : Value} {ks ns : List Int} (h1 : IsIntsF w' v1 ks) (h2 : IsIntsF w' v2 ns) (c1 : Canon ks) (c2 : Canon ns) (hle : val ks ≤ val ns) (h0 : 0 < val ns) (hr : val ns < radix 2) (hs : Src w' g) (hb : But g w w') :
    OddsOfRes g w (.returned (.agg #[v1, v2])) w' :=
  ⟨_, val ks, val ns, rfl, ⟨_, _, rfl, natF_ints h1 c1, natF_ints h2 c2⟩, val_nonneg c1.1, hle, h0, hr, hs, hb⟩

theorem own_two {w0 w : World} {v : Value} {x n : Int} (h : Own w0 w v ([x] ++ [n])) : ∃ g cap, v = .slice (some ⟨g, 0, none⟩) 2 cap ∧ w0.heap.size ≤ g := by
  obtain ⟨g, cap, e, hb, _, _⟩ := h.form (by simp)
  exact ⟨g, cap, e, hb⟩
theorem radix_one : radix 1 = 1000000000 := by decide
theorem canon_two {x n : Int} (x0 : 0 ≤ x) (x1 : x < 1000000000) (h0 : 1 ≤ n) (h1 : n < 1000000000) : Canon [x, n] := ⟨fun d hd => by simp at hd; omega, by simp; omega⟩
theorem canon_nil : Canon [] := ⟨fun d hd => by simp at hd, by simp⟩
theorem isIntsF_nil {w : World} : IsIntsF w (.slice none 0 0) [] := ⟨IsInts.nil, Tag.nil⟩
theorem radix_two : radix 2 = 1000000000000000000 := by decide
theorem oddsOf_end {g : Nat} {w w' : World} {v1 v2 : Value} {ks ns : List Int} {os : List Value} (h1 : IsIntsF w' v1 ks) (h2 : IsIntsF w' v2 ns) (c1 : Canon ks) (c2 : Canon ns) (hle : val ks ≤ val ns) (h0 : 0 < val ns) (hr : val ns < radix 2) (hs : Src w' g) (hb : But g w w') (bR : Blk w' w.heap.size 25 os) (gl : g < w.heap.size) :
    OddsOfRes g w (.returned (.agg #[v1, v2])) ((w'.setCell ⟨w.heap.size, 0, none⟩ v1).setCell ⟨w.heap.size, 1, none⟩ v2) := by
  have hg : g ≠ w.heap.size := by omega
  have b2 : Blk (w'.setCell ⟨w.heap.size, 0, none⟩ v1) w.heap.size 25 (os.set 0 v1) := bR.set 0 v1
  exact oddsOf_fin ((h1.setFar (p := ⟨w.heap.size, 0, none⟩) bR (by decide) v1).setFar (p := ⟨w.heap.size, 1, none⟩) b2 (by decide) v2) ((h2.setFar (p := ⟨w.heap.size, 0, none⟩) bR (by decide) v1).setFar (p := ⟨w.heap.size, 1, none⟩) b2 (by decide) v2) c1 c2 hle h0 hr
    ((hs.setFar (p := ⟨w.heap.size, 0, none⟩) hg v1).setFar (p := ⟨w.heap.size, 1, none⟩) hg v2) ((hb.setNew (p := ⟨w.heap.size, 0, none⟩) (Nat.le_refl _) v1).setNew (p := ⟨w.heap.size, 1, none⟩) (Nat.le_refl _) v2)

set_option maxRecDepth 100000 in
set_option maxHeartbeats 8000000 in
theorem OddsOf_any (g : Nat) (w : World) (hs : Src w g) : Calls Try.prog 16 #[.pointer (some ⟨g, 0, none⟩)] w (OddsOfRes g w) := by
  have gl := hs.lt
  go_enter Try.func16, Try.ntmps16
  go_wp2_with fail
  refine (Range_any g 1 40 _ (hs.grow ((Grow.refl _).alloc _)) (by omega) (by omega) (by omega)).mono ?_
  rintro e w1 ⟨n, rfl, n0, n1, hs1, hb1⟩
  have bR : Blk w1 w.heap.size 25 [.slice none 0 0, .slice none 0 0] := hb1.blk (show Blk _ _ _ _ from heap_alloc_new w _) (by omega)
  have hW1 : But g w w1 := (But.of_grow ((Grow.refl _).alloc _)).trans hb1
  have gl1 := hs1.lt
  clear hb1
  go_wp2_with fail
  have gB : Grow w1 ((w1.alloc (.cells #[.int .i64 n] 3)).alloc (.cells #[.slice none 0 0, .slice (some ⟨w1.heap.size, 0, none⟩) 1 1] 25)) := ((Grow.refl _).alloc _).alloc _
  refine (Below_any g _ _ (hs1.grow gB) (by omega)).mono ?_
  rintro e w2 ⟨k, rfl, k0, k1, _, hs2, hb2⟩
  have k2 := k1 (by omega)
  clear k1
  have bN : Blk w2 w1.heap.size 3 (ints [n]) := hb2.blk ((Blk.new_at (xs := [.int .i64 n]) rfl).grow ((Grow.refl _).alloc _)) (by omega)
  have bO : Blk w2 (w1.heap.size + 1) 25 [.slice none 0 0, .slice (some ⟨w1.heap.size, 0, none⟩) 1 1] := hb2.blk (Blk.new_at (xs := [.slice none 0 0, .slice (some ⟨w1.heap.size, 0, none⟩) 1 1]) (by simp)) (by omega)
  have bR2 : Blk w2 w.heap.size 25 [.slice none 0 0, .slice none 0 0] := hb2.blk (bR.grow gB) (by omega)
  have hW2 : But g w w2 := (hW1.trans (But.of_grow gB)).trans hb2
  have gl2 := hs2.lt
  have hsz : w1.heap.size + 1 < w2.heap.size := bO.lt
  have hsz1 : w.heap.size < w1.heap.size := bR.lt
  clear bR gB hb2 hW1 hs1
  generalize hB1 : w1.heap.size = B1 at *
  clear hB1
  by_cases hk : 0 < k
  · have q0 : w2.cell? ⟨B1 + 1, 0, none⟩ = some (.slice none 0 0) := bO.cell 0
    have q1 : w2.cell? ⟨B1 + 1, 1, none⟩ = some (.slice (some ⟨B1, 0, none⟩) 1 1) := bO.cell 1
    have f0 := bO.free 0
    have bK : Blk ((w2.setCell ⟨B1 + 1, 0, none⟩ (.slice (some ⟨w2.heap.size, 0, none⟩) 1 1)).alloc (.cells #[.int .i64 k] 3)) w2.heap.size 3 (ints [k]) := Blk.new_at (xs := [.int .i64 k]) (by simp)
    have gS : Grow (w2.setCell ⟨B1 + 1, 0, none⟩ (.slice (some ⟨w2.heap.size, 0, none⟩) 1 1)) ((w2.setCell ⟨B1 + 1, 0, none⟩ (.slice (some ⟨w2.heap.size, 0, none⟩) 1 1)).alloc (.cells #[.int .i64 k] 3)) := (Grow.refl _).alloc _
    have bN2 := (bN.far (p := ⟨B1 + 1, 0, none⟩) (by simp) (.slice (some ⟨w2.heap.size, 0, none⟩) 1 1)).grow gS
    have bO2 := (bO.set 0 (.slice (some ⟨w2.heap.size, 0, none⟩) 1 1)).grow gS
    have bR3 := (bR2.far (p := ⟨B1 + 1, 0, none⟩) (by simp; omega) (.slice (some ⟨w2.heap.size, 0, none⟩) 1 1)).grow gS
    have hW3 := (hW2.setNew (p := ⟨B1 + 1, 0, none⟩) (by simp; omega) (.slice (some ⟨w2.heap.size, 0, none⟩) 1 1)).trans (But.of_grow gS)
    have hs3 := (hs2.setFar (p := ⟨B1 + 1, 0, none⟩) (by simp; omega) (.slice (some ⟨w2.heap.size, 0, none⟩) 1 1)).grow gS
    simp only [List.set_cons_zero] at bO2
    clear gS
    go_wp2_with fail
    clear q0 q1 f0 bN bO bR2 hW2 hs2
    refine (Odds_any g 3 _ hs3 (by omega)).mono ?_
    rintro e w4 ⟨b, rfl, hs4, hb4⟩
    have hsz2 := bK.lt
    have bK4 := hb4.blk bK (by omega)
    have bN4 := hb4.blk bN2 (by omega)
    have bO4 := hb4.blk bO2 (by omega)
    have bR4 := hb4.blk bR3 (by omega)
    have hW4 := hW3.trans hb4
    clear bK bN2 bO2 bR3 hW3 hs3 hb4
    simp only [World.size_alloc, World.size_setCell] at hsz2
    generalize w2.heap.size = B2 at *
    have q0 : w4.cell? ⟨B1 + 1, 0, none⟩ = some (.slice (some ⟨B2, 0, none⟩) 1 1) := bO4.cell 0
    have q1 : w4.cell? ⟨B1 + 1, 1, none⟩ = some (.slice (some ⟨B1, 0, none⟩) 1 1) := bO4.cell 1
    have f0 := bO4.free 0
    have f1 := bO4.free 1
    have r0 := bR4.free 0
    have r1 := bR4.free 1
    have rr0 : w4.cell? ⟨w.heap.size, 0, none⟩ = some (.slice none 0 0) := bR4.cell 0
    have rr1 : w4.cell? ⟨w.heap.size, 1, none⟩ = some (.slice none 0 0) := bR4.cell 1
    cases b
    · go_wp2
      refine bodyPost_ret (v := .agg #[.slice (some ⟨B2, 0, none⟩) 1 1, .slice (some ⟨B1, 0, none⟩) 1 1]) (by simp [results, Try.results16, go_sem, rr0, rr1]) rfl ?_
      exact oddsOf_end (bK4.F (by simp [maxLen])) (bN4.F (by simp [maxLen])) (canon_one (by omega) (by omega)) (canon_one (by omega) (by omega)) (by simp [val]; omega) (by simp [val]; omega) (by have := radix_two; simp [val]; omega) hs4 hW4 bR4 gl
    · go_wp2_with fail
      have GA := hid (fun wB (h : But g w4 wB) => h.blk bO4 (by omega))
      go_region_law (first
        | (refine step_append_ints wB _ (by rfl) (.tmp 24) (.tmp 26) 23 (by rfl) Try.underlying23 (.slice (some ⟨wB.heap.size, 0, none⟩) 1 1) (.slice (some ⟨B1, 0, none⟩) 1 1) [x] [n] (by simp [Act.eval]) (own_one wB wB x (Grow.refl _)) (by simp [Act.eval]) (((hb5.blk (show Blk w4.drew _ _ _ from bN4) (by omega)).grow ((Grow.refl _).alloc _)).is (zs := [n]) (by simp [maxLen])) (by simp) ((Grow.refl _).alloc _) ?_; intro v' w6 ho6 hg6 _; obtain ⟨g6, c6, rfl, hg6'⟩ := own_two ho6; have bO6 := (hb5.blk (show Blk w4.drew _ _ _ from bO4) (by omega)).grow hg6; have f6 := bO6.free 1; have c6' : w6.cell? ⟨B1 + 1, 1, none⟩ = some (.slice (some ⟨B1, 0, none⟩) 1 1) := bO6.cell 1)
        | (go_simp; go_at_call 29; refine (Below_any g _ _ (show Src w4.drew g from hs4) (by omega)).mono ?_; rintro e wB ⟨x, rfl, x0, x1, _, hs5, hb5⟩; have x2 := x1 (by omega); clear x1; have y1 := (hb5.blk (show Blk w4.drew _ _ _ from bO4) (by omega)).cell 1; have y2 : (wB.alloc (.cells #[.int .i64 x] 3)).cell? ⟨B1 + 1, 1, none⟩ = some (.slice (some ⟨B1, 0, none⟩) 1 1) := ((hb5.blk (show Blk w4.drew _ _ _ from bO4) (by omega)).grow ((Grow.refl _).alloc _)).cell 1))
      all_goals
        have bO7 := bO6.set 1 (.slice (some ⟨g6, 0, none⟩) 2 c6)
        have hsB := hb5.size
        simp only [World.size_drew] at hsB
        have hs7 := (hs5.grow hg6).setFar (p := ⟨B1 + 1, 1, none⟩) (by simp; omega) (.slice (some ⟨g6, 0, none⟩) 2 c6)
        have bK7 := ((hb5.blk (show Blk w4.drew _ _ _ from bK4) (by omega)).grow hg6).far (p := ⟨B1 + 1, 1, none⟩) (by simp; omega) (.slice (some ⟨g6, 0, none⟩) 2 c6)
        have bR7 := ((hb5.blk (show Blk w4.drew _ _ _ from bR4) (by omega)).grow hg6).far (p := ⟨B1 + 1, 1, none⟩) (by simp; omega) (.slice (some ⟨g6, 0, none⟩) 2 c6)
        have hN7 : IsIntsF (w6.setCell ⟨B1 + 1, 1, none⟩ (.slice (some ⟨g6, 0, none⟩) 2 c6)) (.slice (some ⟨g6, 0, none⟩) 2 c6) [x, n] := IsIntsF.setFar (p := ⟨B1 + 1, 1, none⟩) ho6.F bO6 (by decide) _
        have hW7 := (((hW4.drew.trans hb5).trans (But.of_grow hg6)).setNew (p := ⟨B1 + 1, 1, none⟩) (by simp; omega) (.slice (some ⟨g6, 0, none⟩) 2 c6))
        simp only [List.set_cons_succ, List.set_cons_zero] at bO7
        clear bO6 f6 c6' hs5 hb5 hg6 ho6 y1 y2 hs4 bN4 bR4 hW4 bK4 bO4 q0 q1 f0 f1 r0 r1 rr0 rr1
        have x1 : IntKind.i64.wrap (x + 1) = x + 1 := IntWalk.i64_in _ (by omega)
        have x3 : x + 1 ≤ 1000 := by omega
        have x3' : ¬ 1000 < x + 1 := by omega
        have gB7 : B1 + 1 < (w6.setCell ⟨B1 + 1, 1, none⟩ (.slice (some ⟨g6, 0, none⟩) 2 c6)).heap.size := bO7.lt
        generalize w6.setCell ⟨B1 + 1, 1, none⟩ (.slice (some ⟨g6, 0, none⟩) 2 c6) = w7 at *
        clear hsB hg6'
        have q0 : w7.cell? ⟨B1 + 1, 0, none⟩ = some (.slice (some ⟨B2, 0, none⟩) 1 1) := bO7.cell 0
        have q1 : w7.cell? ⟨B1 + 1, 1, none⟩ = some (.slice (some ⟨g6, 0, none⟩) 2 c6) := bO7.cell 1
        have f0 := bO7.free 0
        have qx : w7.cell? ⟨g6, 0, none⟩ = some (.int .i64 x) := by
          obtain ⟨A, c, e, _, _, h3⟩ := hN7.1
          obtain ⟨ad, e2, _, h4⟩ := h3.int (k := 0) (by simp)
          injection e with e
          rw [← e] at e2
          injection e2 with e2
          subst e2
          exact h4
        go_wp2_with fail
        go_region_law (first
          | (refine step_append_ints wB _ (by rfl) (.tmp 41) (.tmp 43) 23 (by rfl) Try.underlying23 (.slice (some ⟨wB.heap.size, 0, none⟩) 1 1) (.slice (some ⟨B2, 0, none⟩) 1 1) [y] [k] (by simp [Act.eval]) (own_one wB wB y (Grow.refl _)) (by simp [Act.eval]) (((hb5.blk (show Blk w7.drew _ _ _ from bK7) (by omega)).grow ((Grow.refl _).alloc _)).is (zs := [k]) (by simp [maxLen])) (by simp) ((Grow.refl _).alloc _) ?_; intro v' w8 ho8 hg8 _; obtain ⟨g8, c8, rfl, hg8'⟩ := own_two ho8; have bO8 := (hb5.blk (show Blk w7.drew _ _ _ from bO7) (by omega)).grow hg8; have f8 := bO8.free 0; have c8' : w8.cell? ⟨B1 + 1, 0, none⟩ = some (.slice (some ⟨B2, 0, none⟩) 1 1) := bO8.cell 0)
          | (go_simp; go_at_call 29; refine (Below_any g _ _ (show Src w7.drew g from hs7) (by omega)).mono ?_; rintro e wB ⟨y, rfl, y0, y1, _, hs5, hb5⟩; have y2' := y1 (by split <;> omega); have y2 : y ≤ x := (by split at y2' <;> omega); clear y1 y2'; have y3 := (hb5.blk (show Blk w7.drew _ _ _ from bO7) (by omega)).cell 0; have y4 : (wB.alloc (.cells #[.int .i64 y] 3)).cell? ⟨B1 + 1, 0, none⟩ = some (.slice (some ⟨B2, 0, none⟩) 1 1) := ((hb5.blk (show Blk w7.drew _ _ _ from bO7) (by omega)).grow ((Grow.refl _).alloc _)).cell 0))
      all_goals
        have bO9 := bO8.set 0 (.slice (some ⟨g8, 0, none⟩) 2 c8)
        have hsB := hb5.size
        simp only [World.size_drew] at hsB
        have hs9 := (hs5.grow hg8).setFar (p := ⟨B1 + 1, 0, none⟩) (by simp; omega) (.slice (some ⟨g8, 0, none⟩) 2 c8)
        have bR9 := ((hb5.blk (show Blk w7.drew _ _ _ from bR7) (by omega)).grow hg8).far (p := ⟨B1 + 1, 0, none⟩) (by simp; omega) (.slice (some ⟨g8, 0, none⟩) 2 c8)
        have hN9 := ((IsIntsF.but (show IsIntsF w7.drew _ _ from hN7) hb5 (show Src w7.drew g from hs7)).grow hg8).setFar (p := ⟨B1 + 1, 0, none⟩) bO8 (by decide) (.slice (some ⟨g8, 0, none⟩) 2 c8)
        have hK9 : IsIntsF (w8.setCell ⟨B1 + 1, 0, none⟩ (.slice (some ⟨g8, 0, none⟩) 2 c8)) (.slice (some ⟨g8, 0, none⟩) 2 c8) [y, k] := IsIntsF.setFar (p := ⟨B1 + 1, 0, none⟩) ho8.F bO8 (by decide) _
        have hW9 := (((hW7.drew.trans hb5).trans (But.of_grow hg8)).setNew (p := ⟨B1 + 1, 0, none⟩) (by simp; omega) (.slice (some ⟨g8, 0, none⟩) 2 c8))
        simp only [List.set_cons_zero] at bO9
        clear bO8 f8 c8' hs5 hb5 hg8 ho8 y3 y4 hN7 hs7 bK7 bR7 bO7 hW7 q0 q1 f0 qx x1 hsB
        generalize w8.setCell ⟨B1 + 1, 0, none⟩ (.slice (some ⟨g8, 0, none⟩) 2 c8) = w9 at *
        have q0 : w9.cell? ⟨B1 + 1, 0, none⟩ = some (.slice (some ⟨g8, 0, none⟩) 2 c8) := bO9.cell 0
        have q1 : w9.cell? ⟨B1 + 1, 1, none⟩ = some (.slice (some ⟨g6, 0, none⟩) 2 c6) := bO9.cell 1
        have r0 := bR9.free 0
        have r1 := bR9.free 1
        have rr0 : w9.cell? ⟨w.heap.size, 0, none⟩ = some (.slice none 0 0) := bR9.cell 0
        have rr1 : w9.cell? ⟨w.heap.size, 1, none⟩ = some (.slice none 0 0) := bR9.cell 1
        go_wp2
        all_goals refine bodyPost_ret (v := .agg #[.slice (some ⟨g8, 0, none⟩) 2 c8, .slice (some ⟨g6, 0, none⟩) 2 c6]) (by simp [results, Try.results16, go_sem, rr0, rr1]) rfl ?_
        all_goals exact oddsOf_end hK9 hN9 (canon_two (by omega) (by omega) (by omega) (by omega)) (canon_two (by omega) (by omega) (by omega) (by omega)) (by have := radix_one; simp [val]; omega) (by simp [val]; omega) (by have := radix_two; simp [val]; omega) hs9 hW9 bR9 gl
  · have q0 : w2.cell? ⟨B1 + 1, 0, none⟩ = some (.slice none 0 0) := bO.cell 0
    have q1 : w2.cell? ⟨B1 + 1, 1, none⟩ = some (.slice (some ⟨B1, 0, none⟩) 1 1) := bO.cell 1
    go_wp2_with fail
    clear q0 q1
    refine (Odds_any g 3 _ hs2 (by omega)).mono ?_
    rintro e w4 ⟨b, rfl, hs4, hb4⟩
    have bN4 := hb4.blk bN (by omega)
    have bO4 := hb4.blk bO (by omega)
    have bR4 := hb4.blk bR2 (by omega)
    have hW4 := hW2.trans hb4
    have hsz2 := bO4.lt
    clear bN bO bR2 hW2 hs2 hb4
    have q0 : w4.cell? ⟨B1 + 1, 0, none⟩ = some (.slice none 0 0) := bO4.cell 0
    have q1 : w4.cell? ⟨B1 + 1, 1, none⟩ = some (.slice (some ⟨B1, 0, none⟩) 1 1) := bO4.cell 1
    have f0 := bO4.free 0
    have f1 := bO4.free 1
    have r0 := bR4.free 0
    have r1 := bR4.free 1
    have rr0 : w4.cell? ⟨w.heap.size, 0, none⟩ = some (.slice none 0 0) := bR4.cell 0
    have rr1 : w4.cell? ⟨w.heap.size, 1, none⟩ = some (.slice none 0 0) := bR4.cell 1
    cases b
    · go_wp2
      refine bodyPost_ret (v := .agg #[.slice none 0 0, .slice (some ⟨B1, 0, none⟩) 1 1]) (by simp [results, Try.results16, go_sem, rr0, rr1]) rfl ?_
      exact oddsOf_end isIntsF_nil (bN4.F (by simp [maxLen])) canon_nil (canon_one (by omega) (by omega)) (by simp [val]; omega) (by simp [val]; omega) (by have := radix_two; simp [val]; omega) hs4 hW4 bR4 gl
    · go_wp2_with fail
      go_region_law (first
        | (refine step_append_ints wB _ (by rfl) (.tmp 24) (.tmp 26) 23 (by rfl) Try.underlying23 (.slice (some ⟨wB.heap.size, 0, none⟩) 1 1) (.slice (some ⟨B1, 0, none⟩) 1 1) [x] [n] (by simp [Act.eval]) (own_one wB wB x (Grow.refl _)) (by simp [Act.eval]) (((hb5.blk (show Blk w4.drew _ _ _ from bN4) (by omega)).grow ((Grow.refl _).alloc _)).is (zs := [n]) (by simp [maxLen])) (by simp) ((Grow.refl _).alloc _) ?_; intro v' w6 ho6 hg6 _; obtain ⟨g6, c6, rfl, hg6'⟩ := own_two ho6; have bO6 := (hb5.blk (show Blk w4.drew _ _ _ from bO4) (by omega)).grow hg6; have f6 := bO6.free 1; have c6' : w6.cell? ⟨B1 + 1, 1, none⟩ = some (.slice (some ⟨B1, 0, none⟩) 1 1) := bO6.cell 1)
        | (go_simp; go_at_call 29; refine (Below_any g _ _ (show Src w4.drew g from hs4) (by omega)).mono ?_; rintro e wB ⟨x, rfl, x0, x1, _, hs5, hb5⟩; have x2 := x1 (by omega); clear x1; have y1 := (hb5.blk (show Blk w4.drew _ _ _ from bO4) (by omega)).cell 1; have y2 : (wB.alloc (.cells #[.int .i64 x] 3)).cell? ⟨B1 + 1, 1, none⟩ = some (.slice (some ⟨B1, 0, none⟩) 1 1) := ((hb5.blk (show Blk w4.drew _ _ _ from bO4) (by omega)).grow ((Grow.refl _).alloc _)).cell 1))
      all_goals
        have bO7 := bO6.set 1 (.slice (some ⟨g6, 0, none⟩) 2 c6)
        have hsB := hb5.size
        simp only [World.size_drew] at hsB
        have hs7 := (hs5.grow hg6).setFar (p := ⟨B1 + 1, 1, none⟩) (by simp; omega) (.slice (some ⟨g6, 0, none⟩) 2 c6)
        have bR7 := ((hb5.blk (show Blk w4.drew _ _ _ from bR4) (by omega)).grow hg6).far (p := ⟨B1 + 1, 1, none⟩) (by simp; omega) (.slice (some ⟨g6, 0, none⟩) 2 c6)
        have hN7 : IsIntsF (w6.setCell ⟨B1 + 1, 1, none⟩ (.slice (some ⟨g6, 0, none⟩) 2 c6)) (.slice (some ⟨g6, 0, none⟩) 2 c6) [x, n] := IsIntsF.setFar (p := ⟨B1 + 1, 1, none⟩) ho6.F bO6 (by decide) _
        have hW7 := (((hW4.drew.trans hb5).trans (But.of_grow hg6)).setNew (p := ⟨B1 + 1, 1, none⟩) (by simp; omega) (.slice (some ⟨g6, 0, none⟩) 2 c6))
        simp only [List.set_cons_succ, List.set_cons_zero] at bO7
        clear bO6 f6 c6' hs5 hb5 hg6 ho6 y1 y2 hs4 bN4 bR4 hW4 bO4 q0 q1 f0 f1 r0 r1 rr0 rr1 hsB
        generalize w6.setCell ⟨B1 + 1, 1, none⟩ (.slice (some ⟨g6, 0, none⟩) 2 c6) = w7 at *
        have q0 : w7.cell? ⟨B1 + 1, 0, none⟩ = some (.slice none 0 0) := bO7.cell 0
        have q1 : w7.cell? ⟨B1 + 1, 1, none⟩ = some (.slice (some ⟨g6, 0, none⟩) 2 c6) := bO7.cell 1
        have r0 := bR7.free 0
        have r1 := bR7.free 1
        have rr0 : w7.cell? ⟨w.heap.size, 0, none⟩ = some (.slice none 0 0) := bR7.cell 0
        have rr1 : w7.cell? ⟨w.heap.size, 1, none⟩ = some (.slice none 0 0) := bR7.cell 1
        go_wp2
        refine bodyPost_ret (v := .agg #[.slice none 0 0, .slice (some ⟨g6, 0, none⟩) 2 c6]) (by simp [results, Try.results16, go_sem, rr0, rr1]) rfl ?_
        exact oddsOf_end isIntsF_nil hN7 canon_nil (canon_two (by omega) (by omega) (by omega) (by omega)) (by have := radix_one; simp [val]; omega) (by have := radix_one; simp [val]; omega) (by have := radix_two; have := radix_one; simp [val]; omega) hs7 hW7 bR7 gl
end Go.Proofs.Ytgphdaipgodjgaa
