/-
  The walk of OddsOf: valid odds made of numbers.
-/
import Derived.Test.YtomgilkchlediaaGreatDoorAwake
import Derived.Deep.RegionLaw
namespace Go.Proofs.YtomgilkchlediaaGreatDoor
open Go.RowKit

section
variable {ops : Array Oper} {rest : List Oper} {o : Oper} {a : Act} {Q : Exit → Act → World → Prop}
/-- 'append(out, zs...)', zs a slice of integers. -/
theorem run_append_ints (w0 w : World) (t ty : TypeId) (ht : Tryz.prog.underlying t = some (.slice 3)) (v u : Value) (os zs : List Int) (hown : Own w0 w v os) (hz : IsInts w u zs) (hl : os.length + zs.length ≤ 1000000000000) (hg : Grow w0 w) :
    ∃ v' w', (Builtin.append_ #[t, t] ty #[v, u]).run Tryz.prog w = .ok v' w' ∧ Own w0 w' v' (os ++ zs) ∧ Grow w0 w' ∧ w.grownBy w' v.ownBlock := by
  obtain ⟨i0, hi0, hz0, hz1, hz2⟩ := info_parts infoInt
  obtain ⟨A, c, rfl, h1, h2, h3⟩ := hz
  cases A with
  | none =>
    have hzn : zs = [] := by
      cases zs with
      | nil => rfl
      | cons z zs => obtain ⟨ad, h, _⟩ := h3.int (k := 0) (by simp); cases h
    subst hzn
    have hrun : (Builtin.append_ #[t, t] ty #[v, .slice none 0 c]).run Tryz.prog w = .ok v w := by
      rcases hown.2 with ⟨rfl, _⟩ | ⟨g, cap, cur, rfl, _, _, hnc, _⟩
      · simp [Builtin.append_, run_underlying ht, sizeOf, typeInfo, hi0, Builtin.lenOf, Builtin.firstCells]
      · simp [Builtin.append_, run_underlying ht, sizeOf, typeInfo, hi0, Builtin.lenOf, Builtin.firstCells, hnc, storeCells]
    exact ⟨v, w, hrun, by simpa using hown, hg, World.grownBy.refl w _⟩
  | some ad =>
    have hcells : ∀ (j : Nat) (x : Value), (ints zs)[j]? = some x → w.cell? (ad.add j) = some x := fun j x hx => by
      obtain ⟨ad', e, _, hc⟩ := h3 j x hx
      obtain rfl := Option.some.inj e
      exact hc
    obtain ⟨v', w', hrun, k1, k2, _⟩ := run_append_own (P := Tryz.prog) w w0.heap.size t ty 3 i0 _ 1 8 ht hi0 hz0 hz1 hz2 rfl (by decide) v os.length (ints os) hown ad zs.length c (ints zs) (by simp) hcells (ints_oneCell _ _) (by unfold maxLen; omega) (by omega) hg.size
    refine ⟨v', w', hrun, ?_, hg.own k2 hown.block, k2⟩
    have e : (os ++ zs).length = os.length + zs.length := by simp
    unfold Own
    rw [e]
    simpa [ints] using k1
theorem wp_append_ints {K : Act → World → Prop} (w0 w : World) (s x : Operand) (t : TypeId)
    (ho : o.op = .call { callee := .builtin .append, args := #[s, x], argTypes := #[t, t] }) (ht : Tryz.prog.underlying t = some (.slice 3))
    (v u : Value) (os zs : List Int) (hs : a.eval s = v) (hown : Own w0 w v os) (hx : a.eval x = u) (hz : IsInts w u zs) (hl : os.length + zs.length ≤ 1000000000000) (hg : Grow w0 w)
    (h : ∀ v' w', Own w0 w' v' (os ++ zs) → Grow w0 w' → w.grownBy w' v.ownBlock → K (a.put o.dst v') w') : o.wp Tryz.prog a w K Q := by
  obtain ⟨v', w', hr, h2, h3, h4⟩ := run_append_ints w0 w t o.type ht v u os zs hown hz hl hg
  unfold Oper.wp execOp
  simp only [ho, resolve, invoke, builtin, Sem.run_bind, Sem.run_pure, Result.andThen_ok, List.map_toArray, List.map_cons, List.map_nil, hs, hx, hr]
  exact h v' w' h2 h3 h4
theorem wpList_append_ints (w0 w : World) (hgd : o.guard = none) (s x : Operand) (t : TypeId)
    (ho : o.op = .call { callee := .builtin .append, args := #[s, x], argTypes := #[t, t] }) (ht : Tryz.prog.underlying t = some (.slice 3))
    (v u : Value) (os zs : List Int) (hs : a.eval s = v) (hown : Own w0 w v os) (hx : a.eval x = u) (hz : IsInts w u zs) (hl : os.length + zs.length ≤ 1000000000000) (hg : Grow w0 w)
    (h : ∀ v' w', Own w0 w' v' (os ++ zs) → Grow w0 w' → w.grownBy w' v.ownBlock → wpList Tryz.prog ops Q rest (a.put o.dst v') w') : wpList Tryz.prog ops Q (o :: rest) a w :=
  wpList_plain hgd fun _ hK => wp_append_ints w0 w s x t ho ht v u os zs hs hown hx hz hl hg fun v' w' h1 h2 h3 => hK _ _ (h v' w' h1 h2 h3)
theorem step_append_ints {K : Act → World → Prop} {E : Prop} (w0 w : World) (hgd : o.guard = none) (s x : Operand) (t : TypeId)
    (ho : o.op = .call { callee := .builtin .append, args := #[s, x], argTypes := #[t, t] }) (ht : Tryz.prog.underlying t = some (.slice 3))
    (v u : Value) (os zs : List Int) (hs : a.eval s = v) (hown : Own w0 w v os) (hx : a.eval x = u) (hz : IsInts w u zs) (hl : os.length + zs.length ≤ 1000000000000) (hg : Grow w0 w)
    (h : ∀ v' w', Own w0 w' v' (os ++ zs) → Grow w0 w' → w.grownBy w' v.ownBlock → K (a.put o.dst v') w') :
    if Region.wanted o (yielded ops a.tmps) = true then Oper.wp Tryz.prog o a w K Q else E := by
  have hw : Region.wanted o (yielded ops a.tmps) = true := by simp [Region.wanted, hgd]
  rw [if_pos hw]
  exact wp_append_ints w0 w s x t ho ht v u os zs hs hown hx hz hl hg h
end

def OddsOfRes (g : Nat) (w : World) (e : Ending) (w' : World) : Prop :=
  ∃ v a b, e = .returned v ∧ IsOdds w' v a b ∧ 0 ≤ a ∧ a ≤ b ∧ 0 < b ∧ b < radix 2 ∧ Src w' g ∧ But g w w'

theorem own_one (w0 w : World) (n : Int) (h : Grow w0 w) : Own w0 (w.alloc (.cells #[.int .i64 n] 3)) (.slice (some ⟨w.heap.size, 0, none⟩) 1 1) [n] :=
  World.ownsRow_lit (base := w0.heap.size) (e := 3) (size := 1) w #[.int .i64 n] 1 h.size (by simp [maxLen]) (by simp)

theorem Blk.new_at {w : World} {e : TypeId} {xs : List Value} {k : Nat} (h : w.heap.size = k) : Blk (w.alloc (.cells xs.toArray e)) k e xs := by
  subst h
  exact heap_alloc_new w _

theorem But.setNew {g : Nat} {w w' : World} (h : But g w w') {p : Addr} (hp : w.heap.size ≤ p.block) (u : Value) : But g w (w'.setCell p u) :=
  ⟨h.os, h.tape, h.output, by simpa using h.size, fun k hk hn => (Below.heap_setCell _ _ _ _ (fun e => by omega)).trans (h.block k hk hn)⟩
theorem Src.setFar {g : Nat} {w : World} (h : Src w g) {p : Addr} (hp : g ≠ p.block) (u : Value) : Src (w.setCell p u) g := by
  obtain ⟨x, h0, h1, hb⟩ := h
  exact ⟨x, h0, h1, hb.far hp u⟩
theorem IsIntsF.setFar {w : World} {v : Value} {zs : List Int} {p : Addr} {e : TypeId} {cs : List Value} (h : IsIntsF w v zs) (hx : Blk w p.block e cs) (hne : 3 ≠ e) (u : Value) : IsIntsF (w.setCell p u) v zs := by
  obtain ⟨⟨A, c, rfl, h1, h2, h3⟩, ht⟩ := h
  have hb : But p.block w (w.setCell p u) := ⟨rfl, rfl, rfl, by simp, fun k _ hk => Below.heap_setCell _ _ _ _ (fun e => hk (by simp [e]))⟩
  exact ⟨⟨A, c, rfl, h1, h2, hb.rdG hx h3 ht hne⟩, hb.tagG hx ht hne⟩
theorem natF_ints {w : World} {v : Value} {zs : List Int} (h : IsIntsF w v zs) (hc : Canon zs) : IsNatF w v (val zs) := ⟨⟨zs, hc, rfl, h.1⟩, h.2⟩
theorem Own.F {w0 w : World} {v : Value} {os : List Int} (h : Own w0 w v os) : IsIntsF w v os := ⟨h.is, h.tag⟩
theorem Blk.F {w : World} {g : Nat} {zs : List Int} (h : Blk w g 3 (ints zs)) (hl : zs.length ≤ maxLen) : IsIntsF w (.slice (some ⟨g, 0, none⟩) zs.length zs.length) zs := ⟨h.is hl, h.tag⟩

/-- How the last step ends. -/
theorem oddsOf_fin {g : Nat} {w w' : World} {v1 v2 : Value} {ks ns : List Int} (h1 : IsIntsF w' v1 ks) (h2 : IsIntsF w' v2 ns) (c1 : Canon ks) (c2 : Canon ns) (hle : val ks ≤ val ns) (h0 : 0 < val ns) (hr : val ns < radix 2) (hs : Src w' g) (hb : But g w w') :
    OddsOfRes g w (.returned (.agg #[v1, v2])) w' :=
  ⟨_, val ks, val ns, rfl, ⟨_, _, rfl, natF_ints h1 c1, natF_ints h2 c2⟩, val_nonneg c1.1, hle, h0, hr, hs, hb⟩

theorem own_two {w0 w : World} {v : Value} {x n : Int} (h : Own w0 w v ([x] ++ [n])) : ∃ g cap, v = .slice (some ⟨g, 0, none⟩) 2 cap ∧ w0.heap.size ≤ g := by
  obtain ⟨g, cap, e, hb, _, _⟩ := h.form (by simp)
  exact ⟨g, cap, e, hb⟩
theorem radix_one : radix 1 = 1000000000 := by decide
theorem canon_two {x n : Int} (x0 : 0 ≤ x) (x1 : x < 1000000000) (h0 : 1 ≤ n) (h1 : n < 1000000000) : Canon [x, n] := ⟨fun d hd => by simp at hd; omega, by simp; omega⟩
theorem canon_nil : Canon [] := ⟨fun d hd => by simp at hd, by simp⟩
theorem isIntsF_nil {w : World} : IsIntsF w (.slice none 0 0) [] := ⟨IsInts.nil, Tag.nil⟩
theorem radix_two : radix 2 = 1000000000000000000 := by decide
theorem oddsOf_end {g : Nat} {w w' : World} {v1 v2 : Value} {ks ns : List Int} {os : List Value} (h1 : IsIntsF w' v1 ks) (h2 : IsIntsF w' v2 ns) (c1 : Canon ks) (c2 : Canon ns) (hle : val ks ≤ val ns) (h0 : 0 < val ns) (hr : val ns < radix 2) (hs : Src w' g) (hb : But g w w') (bR : Blk w' w.heap.size 43 os) (gl : g < w.heap.size) :
    OddsOfRes g w (.returned (.agg #[v1, v2])) ((w'.setCell ⟨w.heap.size, 0, none⟩ v1).setCell ⟨w.heap.size, 1, none⟩ v2) := by
  have hg : g ≠ w.heap.size := by omega
  have b2 : Blk (w'.setCell ⟨w.heap.size, 0, none⟩ v1) w.heap.size 43 (os.set 0 v1) := bR.set 0 v1
  exact oddsOf_fin ((h1.setFar (p := ⟨w.heap.size, 0, none⟩) bR (by decide) v1).setFar (p := ⟨w.heap.size, 1, none⟩) b2 (by decide) v2) ((h2.setFar (p := ⟨w.heap.size, 0, none⟩) bR (by decide) v1).setFar (p := ⟨w.heap.size, 1, none⟩) b2 (by decide) v2) c1 c2 hle h0 hr
    ((hs.setFar (p := ⟨w.heap.size, 0, none⟩) hg v1).setFar (p := ⟨w.heap.size, 1, none⟩) hg v2) ((hb.setNew (p := ⟨w.heap.size, 0, none⟩) (Nat.le_refl _) v1).setNew (p := ⟨w.heap.size, 1, none⟩) (Nat.le_refl _) v2)

end Go.Proofs.YtomgilkchlediaaGreatDoor
