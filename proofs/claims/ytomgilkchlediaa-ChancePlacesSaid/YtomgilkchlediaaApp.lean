/-
  Appending a list of integers to a slice of the call's own; as laws for the walk.
-/
import Derived.Test.YtomgilkchlediaaOwn
namespace Go.Proofs.Ytomgilkchlediaa
open Go.RowKit

theorem ints_one {zs : List Int} : ∀ u ∈ ints zs, u.oneCell' = true := fun u hu => by
  obtain ⟨z, _, rfl⟩ := List.mem_map.1 hu
  simp [Value.oneCell']

theorem run_append_ints (w0 w : World) (t ty : TypeId) (ht : Try.prog.underlying t = some (.slice 3)) (v x : Value) (os zs : List Int) (hown : Own w0 w v os) (hx : IsInts w x zs) (hl : os.length + zs.length ≤ 1000000000000) (hg : Grow w0 w) :
    ∃ v' w', (Builtin.append_ #[t, t] ty #[v, x]).run Try.prog w = .ok v' w' ∧ Own w0 w' v' (os ++ zs) ∧ Grow w0 w' ∧ w.grownBy w' v.ownBlock := by
  obtain ⟨i0, hi0, hz0, hz1, hz2⟩ := info_parts infoInt
  obtain ⟨A, c, rfl, hc, hm, hr⟩ := hx
  cases A with
  | none =>
    have hz : zs = [] := by
      cases zs with
      | nil => rfl
      | cons z zs => obtain ⟨ad, h, _⟩ := hr.int (k := 0) (by simp); cases h
    subst hz
    refine ⟨v, w, ?_, by simpa using hown, hg, World.grownBy.refl w _⟩
    rcases hown.2 with ⟨rfl, hn⟩ | ⟨g, cap, cur, rfl, _, _, hnc, _⟩
    · simp [Builtin.append_, run_underlying ht, sizeOf, typeInfo, hi0, Builtin.lenOf, Builtin.firstCells]
    · simp [Builtin.append_, run_underlying ht, sizeOf, typeInfo, hi0, Builtin.lenOf, Builtin.firstCells, hnc, storeCells]
  | some ad =>
    have hcells : ∀ (j : Nat) (u : Value), (ints zs)[j]? = some u → w.cell? (ad.add j) = some u := fun j u hu => by
      obtain ⟨ad', h1, _, h2⟩ := hr j u hu
      obtain rfl := Option.some.inj h1
      exact h2
    obtain ⟨v', w', hrun, h1, h2, _⟩ := run_append_own (P := Try.prog) w w0.heap.size t ty 3 i0 (.int .i64 0) 1 8 ht hi0 hz0 hz1 hz2 rfl (by decide) v os.length (ints os) hown ad zs.length c (ints zs) (by simp) hcells ints_one (by unfold maxLen at *; omega) (by omega) hg.size
    refine ⟨v', w', hrun, ?_, hg.own h2 hown.block, h2⟩
    unfold Own
    rw [ints, List.map_append, List.length_append]
    exact h1

section
variable {ops : Array Oper} {rest : List Oper} {o : Oper} {a : Act} {Q : Exit → Act → World → Prop}
theorem wpList_append_ints (w0 w : World) (hgd : o.guard = none) (s x : Operand) (t : TypeId)
    (ho : o.op = .call { callee := .builtin .append, args := #[s, x], argTypes := #[t, t] }) (ht : Try.prog.underlying t = some (.slice 3))
    (v xv : Value) (os zs : List Int) (hs : a.eval s = v) (hown : Own w0 w v os) (hxe : a.eval x = xv) (hx : IsInts w xv zs) (hl : os.length + zs.length ≤ 1000000000000) (hg : Grow w0 w)
    (h : ∀ v' w', Own w0 w' v' (os ++ zs) → Grow w0 w' → w.grownBy w' v.ownBlock → wpList Try.prog ops Q rest (a.put o.dst v') w') :
    wpList Try.prog ops Q (o :: rest) a w := by
  refine wpList_plain hgd fun K hK => ?_
  obtain ⟨v', w', hr, h2, h3, h4⟩ := run_append_ints w0 w t o.type ht v xv os zs hown hx hl hg
  unfold Oper.wp execOp
  simp only [ho, resolve, invoke, builtin, Sem.run_bind, Sem.run_pure, Result.andThen_ok, List.map_toArray, List.map_cons, List.map_nil, hs, hxe, hr]
  exact hK _ _ (h v' w' h2 h3 h4)
end
/-- The empty slice literal. -/
theorem Own.lit0 {w0 w : World} (hg : Grow w0 w) : Own w0 (w.alloc (.cells #[] 3)) (.slice (some ⟨w.heap.size, 0, none⟩) 0 0) [] :=
  ⟨rfl, .inr ⟨w.heap.size, 0, #[], rfl, hg.size, heap_alloc_new w _, Nat.le_refl _, Nat.zero_le _, rfl, rfl⟩⟩
end Go.Proofs.Ytomgilkchlediaa
