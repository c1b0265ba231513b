/-
  What the call owns: a slice of integers that it makes, appends to, stores into; as laws for the walk.
-/
import Derived.Test.YtomgilkchlediaaGreatDoorProg
import Derived.Test.YtomgilkchlediaaGreatDoorMem
namespace Go.Proofs.YtomgilkchlediaaGreatDoor
open Go.RowKit

theorem infoInt : (Tryz.prog.info? 3).map (fun i => (i.zero, i.size, i.bytes)) = some (some (.int .i64 0), 1, 8) := by kernel_rfl

/-- The call began in w0; it owns the slice v, that holds the integers os. -/
def Own (w0 w : World) (v : Value) (os : List Int) : Prop := w.ownsRow w0.heap.size 3 1 v os.length (ints os)

theorem Own.nil (w0 w : World) : Own w0 w (.slice none 0 0) [] := World.ownsRow_nil _ _ _ _
theorem Own.is {w0 w : World} {v : Value} {os : List Int} (h : Own w0 w v os) : IsInts w v os := IsInts.of_own h
theorem Own.kept {w0 w w' : World} {v : Value} {os : List Int} (h : Own w0 w v os) (g : Grow w w') : Own w0 w' v os := by
  refine ⟨h.1, ?_⟩
  rcases h.2 with hn | ⟨g', cap, cur, e, hb, hh, r⟩
  · exact .inl hn
  · exact .inr ⟨g', cap, cur, e, hb, g.blk_some hh, r⟩
theorem Own.tag {w0 w : World} {v : Value} {os : List Int} (h : Own w0 w v os) : Tag w 3 v := Tag.of_own h
theorem Own.block {w0 w : World} {v : Value} {os : List Int} (h : Own w0 w v os) : ∀ k, v.ownBlock = some k → w0.heap.size ≤ k := fun k hk => (World.ownsRow.lt h k hk).1

/-- Block g is just these cells; it may be written. -/
def Blk (w : World) (g : Nat) (e : TypeId) (xs : List Value) : Prop := w.heap[g]? = some (.cells xs.toArray e (0, 0))
section
variable {w w' : World} {g : Nat} {e : TypeId} {xs : List Value}
theorem Blk.lt (h : Blk w g e xs) : g < w.heap.size := lt_of_block h
theorem Blk.cell (h : Blk w g e xs) (i : Nat) : w.cell? ⟨g, i, none⟩ = xs[i]? := by rw [cell_of_row w g i xs.toArray e (0, 0) h]; simp
theorem Blk.cell_int {k : IntKind} {zs : List Int} (h : Blk w g e (zs.map (Value.int k))) {i : Nat} (hi : i < zs.length) : w.cell? ⟨g, i, none⟩ = some (.int k zs[i]) := by rw [h.cell]; simp [hi]
theorem Blk.free (h : Blk w g e xs) (i : Nat) : w.frozen? ⟨g, i, none⟩ = false := frozen_of_row w g i xs.toArray e h
theorem Blk.grow (h : Blk w g e xs) (k : Grow w w') : Blk w' g e xs := k.blk_some h
theorem Blk.drewN (h : Blk w g e xs) (n : Nat) : Blk (w.drewN n) g e xs := h
theorem Blk.set (h : Blk w g e xs) (i : Nat) (u : Value) : Blk (w.setCell ⟨g, i, none⟩ u) g e (xs.set i u) := by
  unfold Blk at h ⊢
  rw [heap_setCell_same w g i xs.toArray e u h]
  simp
theorem Blk.set_int {k : IntKind} {zs : List Int} (h : Blk w g e (zs.map (Value.int k))) (i : Nat) (z : Int) : Blk (w.setCell ⟨g, i, none⟩ (.int k z)) g e ((zs.set i z).map (Value.int k)) := by
  rw [List.map_set]; exact h.set i _
theorem Blk.far (h : Blk w g e xs) {p : Addr} (hp : g ≠ p.block) (u : Value) : Blk (w.setCell p u) g e xs := (Below.heap_setCell w p u g hp).trans h
theorem Blk.is {zs : List Int} (h : Blk w g e (ints zs)) (hl : zs.length ≤ maxLen) : IsInts w (.slice (some ⟨g, 0, none⟩) zs.length zs.length) zs :=
  ⟨_, _, rfl, Nat.le_refl _, hl, fun i u hu => ⟨_, rfl, h.lt, by rw [show (⟨g, 0, none⟩ : Addr).add i = ⟨g, i, none⟩ from by unfold Addr.add; split <;> simp_all]; rw [h.cell]; exact hu⟩⟩
end
theorem Blk.tag {w : World} {g : Nat} {e : TypeId} {xs : List Value} (h : Blk w g e xs) {n c : Nat} : Tag w e (.slice (some ⟨g, 0, none⟩) n c) := fun ad m d hv => by
  have : some (⟨g, 0, none⟩ : Addr) = some ad := by injection hv
  injection this with this
  subst this
  exact ⟨_, h⟩
theorem Grow.setBlk {w0 w : World} (h : Grow w0 w) {g : Nat} (hg : w0.heap.size ≤ g) (i : Nat) (u : Value) : Grow w0 (w.setCell ⟨g, i, none⟩ u) := h.set hg u

section
variable {ops : Array Oper} {rest : List Oper} {o : Oper} {a : Act} {Q : Exit → Act → World → Prop}

/-- 'make([]T, n)', elements of one cell: a new block of n zeros. -/
theorem wpList_make_blk {P : Program} (w0 w : World) (hg : o.guard = none) (l c : Operand) (t : TypeId) (hop : o.op = Op.makeSlice t l c)
    (e : TypeId) (z : Value) (bytes : Nat) (ht : P.underlying t = some (.slice e)) (hi : (P.info? e).map (fun i => (i.zero, i.size, i.bytes)) = some (some z, 1, bytes)) (hz : z.cells = #[z])
    (kl kc : IntKind) (L C : Int) (n : Nat) (hl : a.eval l = .int kl L) (hc : a.eval c = .int kc C) (hL : L = (n : Int)) (hC : C = (n : Int)) (hb : bytes ≤ 64) (hn : n ≤ 1000000000000) (hgw : Grow w0 w)
    (h : ∀ g w', Blk w' g e (List.replicate n z) → w0.heap.size ≤ g → w.heap.size ≤ g → Grow w0 w' → Grow w w' → wpList P ops Q rest (a.put o.dst (.slice (some ⟨g, 0, none⟩) n n)) w') :
    wpList P ops Q (o :: rest) a w := by
  obtain ⟨i, h2, h3, h4, h5⟩ := info_parts hi
  refine wpList_plain hg fun K hK' => ?_
  have h63 : n ≤ maxLen := by unfold maxLen; omega
  have b2 : (i.bytes : Int) * (n : Int) ≤ 281474976710656 := by
    rw [h5]
    have : (bytes : Int) * (n : Int) ≤ 64 * 1000000000000 := Int.mul_le_mul (by omega) (by omega) (by omega) (by omega)
    omega
  have hr := run_make (P := P) w t e i z ht h2 h3 kl kc n n (by omega) (Int.le_refl _) b2 (by unfold maxLen at h63; omega)
  simp only [Int.toNat_natCast] at hr
  subst hL
  subst hC
  unfold Oper.wp
  simp [execOp, hop, hl, hc, hr, Result.andThen]
  refine hK' _ _ (h w.heap.size _ ?_ hgw.size (Nat.le_refl _) (hgw.alloc _) ((Grow.refl _).alloc _))
  unfold Blk
  rw [heap_alloc_new, h4, Nat.mul_one, hz]
  congr 1
  have := toList_madeCells_one z n
  rw [← this]
end

section
variable {ops : Array Oper} {rest : List Oper} {o : Oper} {a : Act} {Q : Exit → Act → World → Prop}

/-- 'append(out, z)': one integer, that a block of the call's own holds. -/
theorem wpList_append_int (w0 w : World) (z : Int) (hgd : o.guard = none) (s x : Operand) (t : TypeId)
    (ho : o.op = .call { callee := .builtin .append, args := #[s, x], argTypes := #[t, t] }) (ht : Tryz.prog.underlying t = some (.slice 3))
    (v : Value) (os : List Int) (hs : a.eval s = v) (hown : Own w0 w v os) (hx : a.eval x = .slice (some ⟨w.heap.size, 0, none⟩) 1 1)
    (hl : os.length ≤ 1000000000000) (hg : Grow w0 w)
    (h : ∀ v' w', Own w0 w' v' (os ++ [z]) → Grow w0 w' → wpList Tryz.prog ops Q rest (a.put o.dst v') w') :
    wpList Tryz.prog ops Q (o :: rest) a (w.alloc (.cells #[.int .i64 z] 3)) := by
  obtain ⟨i0, hi0, hz0, hz1, hz2⟩ := info_parts infoInt
  refine wpList_append_own _ hgd s x t ho w0.heap.size 3 i0 _ 1 8 ht hi0 hz0 hz1 hz2 rfl (by decide) v os.length (ints os) hs (World.ownsRow.alloc hown _) ⟨w.heap.size, 0, none⟩ 1 1 [.int .i64 z] hx rfl
    (World.news_of_block (cs := #[.int .i64 z]) (t := 3) (fr := (0, 0)) (heap_alloc_new w _)) (by simp [Value.oneCell']) (by unfold maxLen; omega) (by omega) (by have := hg.size; simp; omega) ?_
  intro v' w' h1 h2 _
  refine h v' w' ?_ ((hg.alloc _).own h2 hown.block)
  have e : (os ++ [z]).length = os.length + 1 := by simp
  unfold Own
  rw [e]
  simpa [ints] using h1

/-- 'append(out, u)': one element of one cell, that a block of the call's own holds. -/
theorem run_append_val (w0 w : World) (e t ty : TypeId) (z u : Value) (bytes : Nat) (hi : (Tryz.prog.info? e).map (fun i => (i.zero, i.size, i.bytes)) = some (some z, 1, bytes)) (hz : z.cells = #[z]) (hb : bytes ≤ 64) (hu : u.oneCell' = true)
    (ht : Tryz.prog.underlying t = some (.slice e)) (v : Value) (vs : List Value) (hown : OwnV w0 w e v vs) (hl : vs.length ≤ 1000000000000) (hg : Grow w0 w) :
    ∃ v' w', (Builtin.append_ #[t, t] ty #[v, .slice (some ⟨w.heap.size, 0, none⟩) 1 1]).run Tryz.prog (w.alloc (.cells #[u] e)) = .ok v' w' ∧ OwnV w0 w' e v' (vs ++ [u]) ∧ Grow w0 w' ∧ (w.alloc (.cells #[u] e)).grownBy w' v.ownBlock := by
  obtain ⟨i0, hi0, hz0, hz1, hz2⟩ := info_parts hi
  have hbb : (vs.length + 1) * bytes ≤ 1000000000001 * 64 := Nat.mul_le_mul (by omega) hb
  obtain ⟨v', w', hrun, h1, h2, _⟩ := run_append_own (P := Tryz.prog) (w.alloc (.cells #[u] e)) w0.heap.size t ty e i0 z 1 bytes ht hi0 hz0 hz1 hz2 (by rw [hz]; rfl) (by decide) v vs.length vs (World.ownsRow.alloc hown _) ⟨w.heap.size, 0, none⟩ 1 1 [u] rfl
    (World.news_of_block (cs := #[u]) (t := e) (fr := (0, 0)) (heap_alloc_new w _)) (by simp [hu]) (by unfold maxLen; omega) (by omega) (by have := hg.size; simp; omega)
  refine ⟨v', w', hrun, ?_, (hg.alloc _).own h2 hown.block, h2⟩
  have e1 : (vs ++ [u]).length = vs.length + 1 := by simp
  unfold OwnV
  rw [e1]
  exact h1
theorem wp_append_val {K : Act → World → Prop} (w0 w : World) (e : TypeId) (z u : Value) (bytes : Nat) (hi : (Tryz.prog.info? e).map (fun i => (i.zero, i.size, i.bytes)) = some (some z, 1, bytes)) (hz : z.cells = #[z]) (hb : bytes ≤ 64) (hu : u.oneCell' = true) (s x : Operand) (t : TypeId)
    (ho : o.op = .call { callee := .builtin .append, args := #[s, x], argTypes := #[t, t] }) (ht : Tryz.prog.underlying t = some (.slice e))
    (v : Value) (vs : List Value) (hs : a.eval s = v) (hown : OwnV w0 w e v vs) (hx : a.eval x = .slice (some ⟨w.heap.size, 0, none⟩) 1 1) (hl : vs.length ≤ 1000000000000) (hg : Grow w0 w)
    (h : ∀ v' w', OwnV w0 w' e v' (vs ++ [u]) → Grow w0 w' → (w.alloc (.cells #[u] e)).grownBy w' v.ownBlock → K (a.put o.dst v') w') : o.wp Tryz.prog a (w.alloc (.cells #[u] e)) K Q := by
  obtain ⟨v', w', hr, h2, h3, h4⟩ := run_append_val w0 w e t o.type z u bytes hi hz hb hu ht v vs hown hl hg
  unfold Oper.wp execOp
  simp only [ho, resolve, invoke, builtin, Sem.run_bind, Sem.run_pure, Result.andThen_ok, List.map_toArray, List.map_cons, List.map_nil, hs, hx, hr]
  exact h v' w' h2 h3 h4
theorem wpList_append_val (w0 w : World) (e : TypeId) (z u : Value) (bytes : Nat) (hi : (Tryz.prog.info? e).map (fun i => (i.zero, i.size, i.bytes)) = some (some z, 1, bytes)) (hz : z.cells = #[z]) (hb : bytes ≤ 64) (hu : u.oneCell' = true) (hgd : o.guard = none) (s x : Operand) (t : TypeId)
    (ho : o.op = .call { callee := .builtin .append, args := #[s, x], argTypes := #[t, t] }) (ht : Tryz.prog.underlying t = some (.slice e))
    (v : Value) (vs : List Value) (hs : a.eval s = v) (hown : OwnV w0 w e v vs) (hx : a.eval x = .slice (some ⟨w.heap.size, 0, none⟩) 1 1) (hl : vs.length ≤ 1000000000000) (hg : Grow w0 w)
    (h : ∀ v' w', OwnV w0 w' e v' (vs ++ [u]) → Grow w0 w' → (w.alloc (.cells #[u] e)).grownBy w' v.ownBlock → wpList Tryz.prog ops Q rest (a.put o.dst v') w') :
    wpList Tryz.prog ops Q (o :: rest) a (w.alloc (.cells #[u] e)) :=
  wpList_plain hgd fun _ hK => wp_append_val w0 w e z u bytes hi hz hb hu s x t ho ht v vs hs hown hx hl hg fun v' w' h1 h2 h3 => hK _ _ (h v' w' h1 h2 h3)
theorem step_append_val {K : Act → World → Prop} {E : Prop} (w0 w : World) (e : TypeId) (z u : Value) (bytes : Nat) (hi : (Tryz.prog.info? e).map (fun i => (i.zero, i.size, i.bytes)) = some (some z, 1, bytes)) (hz : z.cells = #[z]) (hb : bytes ≤ 64) (hu : u.oneCell' = true) (hgd : o.guard = none) (s x : Operand) (t : TypeId)
    (ho : o.op = .call { callee := .builtin .append, args := #[s, x], argTypes := #[t, t] }) (ht : Tryz.prog.underlying t = some (.slice e))
    (v : Value) (vs : List Value) (hs : a.eval s = v) (hown : OwnV w0 w e v vs) (hx : a.eval x = .slice (some ⟨w.heap.size, 0, none⟩) 1 1) (hl : vs.length ≤ 1000000000000) (hg : Grow w0 w)
    (h : ∀ v' w', OwnV w0 w' e v' (vs ++ [u]) → Grow w0 w' → (w.alloc (.cells #[u] e)).grownBy w' v.ownBlock → K (a.put o.dst v') w') :
    if Region.wanted o (yielded ops a.tmps) = true then Oper.wp Tryz.prog o a (w.alloc (.cells #[u] e)) K Q else E := by
  have hw : Region.wanted o (yielded ops a.tmps) = true := by simp [Region.wanted, hgd]
  rw [if_pos hw]
  exact wp_append_val w0 w e z u bytes hi hz hb hu s x t ho ht v vs hs hown hx hl hg h
end
/-- What is appended to an owned row leaves all blocks but that one as they were. -/
theorem keep_grown {w w' : World} {v : Value} {k : Nat} (h : w.grownBy w' v.ownBlock) (hk : k < w.heap.size) (hne : v.ownBlock ≠ some k) : w'.heap[k]? = w.heap[k]? := h.block k hk (fun e => hne e.symm)
theorem infoNat : (Tryz.prog.info? 24).map (fun i => (i.zero, i.size, i.bytes)) = some (some (.slice none 0 0), 1, 24) := by kernel_rfl
theorem infoNats : (Tryz.prog.info? 35).map (fun i => (i.zero, i.size, i.bytes)) = some (some (.slice none 0 0), 1, 24) := by kernel_rfl
end Go.Proofs.YtomgilkchlediaaGreatDoor
