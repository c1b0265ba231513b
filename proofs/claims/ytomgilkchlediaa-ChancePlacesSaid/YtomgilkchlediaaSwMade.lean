/-
  The walk of SwingsOf: swings made of numbers.
-/
import Derived.Test.YtomgilkchlediaaSw
import Derived.Test.YtomgilkchlediaaNatOf
import Derived.Test.YtomgilkchlediaaLast
import Derived.Test.YtomgilkchlediaaKeep
import Derived.Deep.Cut
namespace Go.Proofs.Ytomgilkchlediaa
open Go.RowKit

def swCells : List (Int × Value) → List Value
  | [] => []
  | s :: l => .int .i64 s.1 :: s.2 :: swCells l
theorem swCells_length (ss : List (Int × Value)) : (swCells ss).length = ss.length * 2 := by
  induction ss with
  | nil => rfl
  | cons s l ih => simp [swCells, ih]; omega
theorem swCells_append (a b : List (Int × Value)) : swCells (a ++ b) = swCells a ++ swCells b := by
  induction a with
  | nil => rfl
  | cons s l ih => simp [swCells, ih]
theorem swCells_w {ss : List (Int × Value)} {k : Nat} (h : k < ss.length) : (swCells ss)[k * 2]? = some (.int .i64 ss[k].1) := by
  induction ss generalizing k with
  | nil => simp at h
  | cons s l ih =>
    cases k with
    | zero => rfl
    | succ k =>
      rw [show (k + 1) * 2 = k * 2 + 1 + 1 by omega]
      simp only [swCells, List.getElem?_cons_succ, List.getElem_cons_succ]
      exact ih (by simpa using h)
theorem swCells_p {ss : List (Int × Value)} {k : Nat} (h : k < ss.length) : (swCells ss)[k * 2 + 1]? = some ss[k].2 := by
  induction ss generalizing k with
  | nil => simp at h
  | cons s l ih =>
    cases k with
    | zero => rfl
    | succ k =>
      rw [show (k + 1) * 2 + 1 = k * 2 + 1 + 1 + 1 by omega]
      simp only [swCells, List.getElem?_cons_succ, List.getElem_cons_succ]
      exact ih (by simpa using h)
/-- The points are lists of the call's own making. -/
def PtsF (w : World) (ss : List (Int × Value)) (l : List Sw) : Prop := ss.length = l.length ∧ ∀ (i : Nat) (s : Int × Value) (x : Sw), ss[i]? = some s → l[i]? = some x → s.1 = x.w ∧ IsIntsF w s.2 x.p
theorem PtsF.nil {w : World} : PtsF w [] [] := ⟨rfl, fun i s x hs _ => by simp at hs⟩
theorem PtsF.grow {w w' : World} {ss : List (Int × Value)} {l : List Sw} (h : PtsF w ss l) (g : Grow w w') : PtsF w' ss l := ⟨h.1, fun i s x hs hx => ⟨(h.2 i s x hs hx).1, (h.2 i s x hs hx).2.grow g⟩⟩
theorem PtsF.but {g : Nat} {w w' : World} {ss : List (Int × Value)} {l : List Sw} (h : PtsF w ss l) (k : But g w w') (hs : Src w g) : PtsF w' ss l := ⟨h.1, fun i s x hs' hx => ⟨(h.2 i s x hs' hx).1, (h.2 i s x hs' hx).2.but k hs⟩⟩
theorem PtsF.far {w : World} {ss : List (Int × Value)} {l : List Sw} {T : Nat} {xs : List Value} (h : PtsF w ss l) (hb : Blk w T 26 xs) (i : Nat) (u : Value) : PtsF (w.setCell ⟨T, i, none⟩ u) ss l := ⟨h.1, fun j s x hs hx => ⟨(h.2 j s x hs hx).1, (h.2 j s x hs hx).2.setFar (p := ⟨T, i, none⟩) hb (by decide) u⟩⟩
theorem PtsF.snoc {w : World} {ss : List (Int × Value)} {l : List Sw} (h : PtsF w ss l) {z : Int} {v : Value} {p : List Int} (hv : IsIntsF w v p) : PtsF w (ss ++ [(z, v)]) (l ++ [⟨z, p⟩]) := by
  refine ⟨by simp [h.1], fun i s x hs hx => ?_⟩
  by_cases hi : i < ss.length
  · rw [List.getElem?_append_left hi] at hs
    rw [List.getElem?_append_left (by rw [← h.1]; exact hi)] at hx
    exact h.2 i s x hs hx
  · rw [List.getElem?_append_right (by omega)] at hs
    rw [List.getElem?_append_right (by rw [← h.1]; omega), ← h.1] at hx
    cases hk : i - ss.length with
    | zero =>
      rw [hk] at hs hx
      simp at hs hx
      subst hs hx
      exact ⟨rfl, hv⟩
    | succ k => rw [hk] at hs; simp at hs
/-- The row of swings that the call owns. -/
def OwnS (w0 w : World) (v : Value) (ss : List (Int × Value)) : Prop := w.ownsRow w0.heap.size 26 2 v ss.length (swCells ss)
theorem infoSwing : (Try.prog.info? 26).map (fun i => (i.zero, i.size, i.bytes)) = some (some (.agg #[.int .i64 0, .slice none 0 0]), 2, 32) := by kernel_rfl
theorem OwnS.nil {w0 w : World} : OwnS w0 w (.slice none 0 0) [] := World.ownsRow_nil _ _ _ _
theorem OwnS.keep {w0 w w' : World} {v : Value} {ss : List (Int × Value)} (h : OwnS w0 w v ss) (hk : ∀ g cur, w.heap[g]? = some (.cells cur 26 (0, 0)) → w0.heap.size ≤ g → v.ownBlock = some g → w'.heap[g]? = w.heap[g]?) : OwnS w0 w' v ss := by
  refine ⟨h.1, ?_⟩
  rcases h.2 with hn | ⟨g', cap, cur, e, hb, hh, r⟩
  · exact .inl hn
  · exact .inr ⟨g', cap, cur, e, hb, (hk g' cur hh hb (by rw [e]; rfl)).trans hh, r⟩
theorem OwnS.but {g : Nat} {w0 w w' : World} {v : Value} {ss : List (Int × Value)} (h : OwnS w0 w v ss) (k : But g w w') (hg : g < w0.heap.size) : OwnS w0 w' v ss :=
  h.keep fun g' cur hh hb _ => k.block g' (lt_of_block hh) (fun e => by have : g' = g := (by injection e); omega)
theorem OwnS.grow {w0 w w' : World} {v : Value} {ss : List (Int × Value)} (h : OwnS w0 w v ss) (k : Grow w w') : OwnS w0 w' v ss := h.keep fun _ _ hh _ _ => k.blk (lt_of_block hh)
theorem OwnS.far {w0 w : World} {v : Value} {ss : List (Int × Value)} (h : OwnS w0 w v ss) {T : Nat} (hT : v.ownBlock ≠ some T) (i : Nat) (u : Value) : OwnS w0 (w.setCell ⟨T, i, none⟩ u) v ss :=
  h.keep fun g' cur hh hb hv => Below.heap_setCell _ _ _ _ (fun e => hT (by rw [hv, e]))
theorem OwnS.lt {w0 w : World} {v : Value} {ss : List (Int × Value)} (h : OwnS w0 w v ss) : ∀ k, v.ownBlock = some k → w0.heap.size ≤ k ∧ k < w.heap.size := fun k hk => World.ownsRow.lt h k hk
theorem run_append_sw (w0 w : World) (t ty : TypeId) (ht : Try.prog.underlying t = some (.slice 26)) (z : Int) (p : Value) (hp : p.oneCell' = true) (v : Value) (ss : List (Int × Value)) (hown : OwnS w0 w v ss) (hl : ss.length ≤ 1000000000) (hg : w0.heap.size ≤ w.heap.size) :
    ∃ v' w', (Builtin.append_ #[t, t] ty #[v, .slice (some ⟨w.heap.size, 0, none⟩) 1 1]).run Try.prog (w.alloc (.cells #[.int .i64 z, p] 26)) = .ok v' w' ∧ OwnS w0 w' v' (ss ++ [(z, p)]) ∧ (w.alloc (.cells #[.int .i64 z, p] 26)).grownBy w' v.ownBlock := by
  obtain ⟨i0, hi0, hz0, hz1, hz2⟩ := info_parts infoSwing
  obtain ⟨v', w', hrun, h1, h2, _⟩ := run_append_own (P := Try.prog) (w.alloc (.cells #[.int .i64 z, p] 26)) w0.heap.size t ty 26 i0 _ 2 32 ht hi0 hz0 hz1 hz2 rfl (by decide) v ss.length (swCells ss) (World.ownsRow.alloc hown _) ⟨w.heap.size, 0, none⟩ 1 1 [.int .i64 z, p] rfl
    (World.news_of_block (cs := #[.int .i64 z, p]) (t := 26) (fr := (0, 0)) (heap_alloc_new w _)) (by intro u hu; simp at hu; rcases hu with rfl | rfl; rfl; exact hp) (by unfold maxLen; omega) (by omega) (by simp; omega)
  refine ⟨v', w', hrun, ?_, h2⟩
  have e1 : (ss ++ [(z, p)]).length = ss.length + 1 := by simp
  unfold OwnS
  rw [e1, swCells_append]
  exact h1
theorem run_append_intS (w0 w : World) (t ty : TypeId) (ht : Try.prog.underlying t = some (.slice 3)) (z : Int) (v : Value) (os : List Int) (hown : Own w0 w v os) (hl : os.length ≤ 1000000000) (hg : w0.heap.size ≤ w.heap.size) :
    ∃ v' w', (Builtin.append_ #[t, t] ty #[v, .slice (some ⟨w.heap.size, 0, none⟩) 1 1]).run Try.prog (w.alloc (.cells #[.int .i64 z] 3)) = .ok v' w' ∧ Own w0 w' v' (os ++ [z]) ∧ (w.alloc (.cells #[.int .i64 z] 3)).grownBy w' v.ownBlock := by
  obtain ⟨i0, hi0, hz0, hz1, hz2⟩ := info_parts infoInt
  obtain ⟨v', w', hrun, h1, h2, _⟩ := run_append_own (P := Try.prog) (w.alloc (.cells #[.int .i64 z] 3)) w0.heap.size t ty 3 i0 _ 1 8 ht hi0 hz0 hz1 hz2 rfl (by decide) v os.length (ints os) (World.ownsRow.alloc hown _) ⟨w.heap.size, 0, none⟩ 1 1 [.int .i64 z] rfl
    (World.news_of_block (cs := #[.int .i64 z]) (t := 3) (fr := (0, 0)) (heap_alloc_new w _)) (by simp [Value.oneCell']) (by unfold maxLen; omega) (by omega) (by simp; omega)
  refine ⟨v', w', hrun, ?_, h2⟩
  have e : (os ++ [z]).length = os.length + 1 := by simp
  unfold Own
  rw [e]
  simpa [ints] using h1
theorem Own.slice_ {w0 w : World} {v : Value} {l : List Int} (h : Own w0 w v l) : ∃ A m c, v = .slice A m c := by
  obtain ⟨A, c, e, _⟩ := h.is
  exact ⟨A, _, c, e⟩
/-- Swings that were made of numbers. -/
structure SwMade (n : Nat) (l : List Sw) : Prop where
  len : 1 ≤ l.length ∧ l.length ≤ 4
  each : ∀ s ∈ l, (1 ≤ s.w ∧ s.w ≤ 9) ∧ s.p.length = n ∧ ∀ z ∈ s.p, -4 ≤ z ∧ z ≤ 4
theorem swErr_made {n : Nat} {l : List Sw} (h : SwMade n l) : swErr n l = 0 := by
  unfold swErr
  rw [if_neg (by have := h.len; omega), if_neg (by have := h.len; omega)]
  have key : ∀ m : List Sw, (∀ s ∈ m, (1 ≤ s.w ∧ s.w ≤ 9) ∧ s.p.length = n ∧ ∀ z ∈ s.p, -4 ≤ z ∧ z ≤ 4) → swScan n m = 0 := by
    intro m
    induction m with
    | nil => intro _; rfl
    | cons s m ih =>
      intro hm
      obtain ⟨h1, h2, h3⟩ := hm s (List.mem_cons_self ..)
      have h0 : swOne n s = 0 := by
        unfold swOne
        rw [if_neg (by omega), if_neg (by omega), if_neg]
        rw [Bool.not_eq_true, List.any_eq_false]
        intro z hz
        have := h3 z hz
        simp [farB]
        omega
      rw [swScan, if_pos h0]
      exact ih fun x hx => hm x (List.mem_cons_of_mem _ hx)
  exact key l h.each
/-- What SwingsOf hands back. -/
def IsSwF (w : World) (v : Value) (l : List Sw) : Prop := ∃ A c ss, v = .slice A l.length c ∧ l.length ≤ c ∧ c ≤ maxLen ∧ Rd w A (swCells ss) ∧ Tag w 26 v ∧ PtsF w ss l
theorem addr_two' (a : Addr) (k : Nat) : (⟨(a.add k).block, (a.add k).off + 1, none⟩ : Addr) = a.add (k + 1) := by
  unfold Addr.add
  by_cases h : k = 0
  · subst h; simp
  · rw [if_neg h, if_neg (by omega)]
    simp; omega
theorem IsSwF.is {w : World} {v : Value} {l : List Sw} (h : IsSwF w v l) : IsSw w v l := by
  obtain ⟨A, c, ss, rfl, h1, h2, h3, h4, h5⟩ := h
  refine ⟨A, c, rfl, h1, h2, fun i hi => ?_⟩
  have hs : i < ss.length := by rw [h5.1]; exact hi
  obtain ⟨ad, rfl, hb, x0⟩ := h3 (i * 2) _ (swCells_w hs)
  obtain ⟨ad', e, _, x1⟩ := h3 (i * 2 + 1) _ (swCells_p hs)
  obtain rfl := Option.some.inj e
  obtain ⟨hw, hp⟩ := h5.2 i ss[i] l[i] (List.getElem?_eq_getElem hs) (List.getElem?_eq_getElem hi)
  obtain ⟨B, d, e, _⟩ := id hp.1
  rw [hw] at x0
  rw [e] at x1 hp
  exact ⟨ad, B, _, d, rfl, hb, x0, by rw [addr_two']; exact x1, hp.1, rfl⟩
theorem IsSwF.but {g : Nat} {w w' : World} {v : Value} {l : List Sw} (h : IsSwF w v l) (k : But g w w') (hs : Src w g) : IsSwF w' v l := by
  obtain ⟨A, c, ss, rfl, h1, h2, h3, h4, h5⟩ := h
  exact ⟨A, c, ss, rfl, h1, h2, k.rd hs h3 h4 (by decide), k.tag hs h4 (by decide), h5.but k hs⟩
theorem OwnS.isF {w0 w : World} {v : Value} {ss : List (Int × Value)} {l : List Sw} (h : OwnS w0 w v ss) (hp : PtsF w ss l) : IsSwF w v l := by
  rcases h.2 with ⟨rfl, hn⟩ | ⟨g, cap, cur, rfl, _, hh, hn, hm, _⟩
  · have hz : ss = [] := List.eq_nil_of_length_eq_zero hn
    subst hz
    have hl : l = [] := List.eq_nil_of_length_eq_zero hp.1.symm
    subst hl
    exact ⟨none, 0, [], rfl, Nat.le_refl _, Nat.zero_le _, Rd.nil, Tag.nil, hp⟩
  · rw [hp.1] at hn
    exact ⟨_, cap, ss, by rw [hp.1], hn, hm, Rd.of_own h, fun ad m d hv => by injection hv with hv; injection hv with hv; subst hv; exact ⟨cur, hh⟩, hp⟩
theorem Kept2.but {g h : Nat} {w W W' : World} (k : Kept2 g h w W) (hb : But g W W') : Kept2 g h w W' := ⟨Nat.le_trans k.1 hb.size, fun i h0 h1 h2 => (hb.block i (Nat.lt_of_lt_of_le h0 k.1) (fun e => h1 (by injection e))).trans (k.2 i h0 h1 h2)⟩
theorem Kept2.own {g h : Nat} {w W W' : World} {row : Option Nat} (k : Kept2 g h w W) (hb : W.grownBy W' row) (hr : ∀ i, row = some i → w.heap.size ≤ i) : Kept2 g h w W' := ⟨Nat.le_trans k.1 hb.size, fun i h0 h1 h2 => (hb.block i (Nat.lt_of_lt_of_le h0 k.1) (fun e => by have := hr i e.symm; omega)).trans (k.2 i h0 h1 h2)⟩
theorem Src.blk {g : Nat} {w : World} (h : Src w g) : ∃ xs, Blk w g 56 xs := by
  obtain ⟨x, h0, h1, hb⟩ := h
  exact ⟨_, hb⟩
theorem PtsF.kept2 {g T : Nat} {w W : World} {ss : List (Int × Value)} {l : List Sw} {xs : List Value} (h : PtsF w ss l) (k : Kept2 g T w W) (hs : Src w g) (hb : Blk w T 26 xs) : PtsF W ss l := by
  have hint : ∀ (j : Nat) cur, w.heap[j]? = some (Obj.cells cur 3 (0, 0)) → W.heap[j]? = w.heap[j]? := fun j cur hj => by
    obtain ⟨ys, hg⟩ := hs.blk
    refine k.2 j (lt_of_block hj) (fun e => ?_) (fun e => ?_)
    · subst e
      rw [show w.heap[j]? = _ from hg] at hj
      injection hj with hj
      injection hj with _ hj
      exact absurd hj (by decide)
    · subst e
      rw [show w.heap[j]? = _ from hb] at hj
      injection hj with hj
      injection hj with _ hj
      exact absurd hj (by decide)
  refine ⟨h.1, fun i s x hs' hx => ?_⟩
  obtain ⟨h1, ⟨A, c, e, h2, h3, h4⟩, ht⟩ := h.2 i s x hs' hx
  refine ⟨h1, ⟨A, c, e, h2, h3, rd_keep h4 k.1 fun ad hA _ => ?_⟩, fun ad m d hv => ?_⟩
  · subst hA
    obtain ⟨cur, hc⟩ := ht ad _ _ e
    exact hint _ cur hc
  · obtain ⟨cur, hc⟩ := ht ad m d hv
    exact ⟨cur, (hint _ cur hc).trans hc⟩
theorem step_append_at {ops : Array Oper} {o : Oper} {a : Act} {Q : Exit → Act → World → Prop} {K : Act → World → Prop} {E : Prop} {w w' : World} {t : TypeId} {v xv v' : Value} (hgd : o.guard = none) (s x : Operand)
    (ho : o.op = .call { callee := .builtin .append, args := #[s, x], argTypes := #[t, t] }) (hs : a.eval s = v) (hx : a.eval x = xv) (hr : (Builtin.append_ #[t, t] o.type #[v, xv]).run Try.prog w = .ok v' w') (h : K (a.put o.dst v') w') :
    if Region.wanted o (yielded ops a.tmps) = true then Oper.wp Try.prog o a w K Q else E := by
  have hw : Region.wanted o (yielded ops a.tmps) = true := by simp [Region.wanted, hgd]
  rw [if_pos hw]
  unfold Oper.wp execOp
  simp only [ho, resolve, invoke, builtin, Sem.run_bind, Sem.run_pure, Result.andThen_ok, List.map_toArray, List.map_cons, List.map_nil, hs, hx, hr]
  exact h
theorem wpList_append_at {ops : Array Oper} {rest : List Oper} {o : Oper} {a : Act} {Q : Exit → Act → World → Prop} {w w' : World} {t : TypeId} {v xv v' : Value} (hgd : o.guard = none) (s x : Operand)
    (ho : o.op = .call { callee := .builtin .append, args := #[s, x], argTypes := #[t, t] }) (hs : a.eval s = v) (hx : a.eval x = xv) (hr : (Builtin.append_ #[t, t] o.type #[v, xv]).run Try.prog w = .ok v' w') (h : wpList Try.prog ops Q rest (a.put o.dst v') w') : wpList Try.prog ops Q (o :: rest) a w := by
  refine wpList_plain hgd fun K hK => ?_
  unfold Oper.wp execOp
  simp only [ho, resolve, invoke, builtin, Sem.run_bind, Sem.run_pure, Result.andThen_ok, List.map_toArray, List.map_cons, List.map_nil, hs, hx, hr]
  exact hK _ _ h
theorem ints_far2 {w w' : World} {e' : TypeId} {v r : Value} {zs : List Int} {base size m : Nat} {xs : List Value} (h : IsIntsF w v zs) (ho : w.ownsRow base e' size r m xs) (hne : 3 ≠ e') (hg : w.grownBy w' r.ownBlock) : IsIntsF w' v zs := by
  obtain ⟨⟨A, c, rfl, h1, h2, h3⟩, ht⟩ := h
  exact ⟨⟨A, c, rfl, h1, h2, h3.far ht ho hne hg⟩, ht.far ho hne hg⟩
theorem PtsF.own {w w' : World} {base size m : Nat} {r : Value} {xs : List Value} {ss : List (Int × Value)} {l : List Sw} (h : PtsF w ss l) (ho : w.ownsRow base 26 size r m xs) (hg : w.grownBy w' r.ownBlock) : PtsF w' ss l :=
  ⟨h.1, fun i s x hs hx => ⟨(h.2 i s x hs hx).1, ints_far2 (h.2 i s x hs hx).2 ho (by decide) hg⟩⟩
def SwingsRes (g n : Nat) (w : World) (e : Ending) (w' : World) : Prop := ∃ v l, e = .returned v ∧ IsSwF w' v l ∧ SwMade n l ∧ Src w' g ∧ But g w w'

set_option maxRecDepth 100000 in
set_option maxHeartbeats 8000000 in
theorem SwingsOf_any (g n : Nat) (w : World) (hs : Src w g) (hn : n ≤ 1000) : Calls Try.prog 9 #[.pointer (some ⟨g, 0, none⟩), .int .i64 (n : Int)] w (SwingsRes g n w) := by
  have hgl := hs.lt
  go_enter Try.func9, Try.ntmps9
  go_wp2_with fail
  refine (Range_any g 1 4 _ hs (by omega) (by omega) (by omega)).mono ?_
  rintro e w1 ⟨M, rfl, m0, m1, hs1, hb1⟩
  obtain ⟨M, rfl⟩ := Int.eq_ofNat_of_zero_le (show 0 ≤ M by omega)
  have HM := hid (And.intro m0 m1)
  clear m0 m1 hs
  go_wp2_with fail
  go_loopw [5, 6] (fun ov i wr => ∃ (m : Nat) (ss : List (Int × Value)) (l : List Sw), i = .int .i64 (m : Int) ∧ m + l.length = M ∧ OwnS w wr ov ss ∧ PtsF wr ss l ∧ (∀ s ∈ l, (1 ≤ s.w ∧ s.w ≤ 9) ∧ s.p.length = n ∧ ∀ z ∈ s.p, -4 ≤ z ∧ z ≤ 4) ∧ Src wr g ∧ But g w wr) (fun _ i _ => (intOf i).toNat)
  case atStart => exact ⟨M, [], [], rfl, by simp, OwnS.nil, PtsF.nil, by simp, hs1, hb1⟩
  case round =>
    clear hs1 hb1
    obtain ⟨m, ss, l, rfl, hml, ho, hp, hall, hs2, hb2⟩ := hrel
    have HML := hid hml
    have HALL := hid hall
    clear hall hml
    by_cases hm : 0 < m
    · have i0 : (0 : Int) < (m : Int) := by omega
      have i1 : IntKind.i64.wrap ((m : Int) - 1) = ((m - 1 : Nat) : Int) := by rw [IntWalk.i64_in _ (by have := HM.out; have := HML.out; omega)]; omega
      go_wp2_with fail
      refine (Range_any g 1 9 _ hs2 (by omega) (by omega) (by omega)).mono ?_
      rintro e w2 ⟨r, rfl, r0, r1, hs3, hb3⟩
      have ho := ho.but hb3 hgl
      have hp := hp.but hb3 hs2
      have hb2 := hb2.trans hb3
      clear hs2 hb3
      go_wp2_with fail
      have b3 : Blk (w2.alloc (.cells #[.int .i64 r, .slice none 0 0] 26)) w2.heap.size 26 [.int .i64 r, .slice none 0 0] := Blk.new_at rfl
      have g3 : Grow w2 (w2.alloc (.cells #[.int .i64 r, .slice none 0 0] 26)) := (Grow.refl _).alloc _
      have hU := ho.lt
      have ho := ho.grow g3
      have hp := hp.grow g3
      have hTg : w2.heap.size ≠ g := by have := hs3.lt; omega
      have hTw : w.heap.size ≤ w2.heap.size := hb2.size
      have hs3 := hs3.grow g3
      have hb2 := hb2.trans (But.of_grow g3)
      have hT3 := b3.lt
      clear g3
      generalize w2.heap.size = T at *
      generalize w2.alloc (.cells #[.int .i64 r, .slice none 0 0] 26) = w3 at *
      have HO3 := hid ho
      have HP3 := hid hp
      have HS3 := hid hs3
      have HB3 := hid b3
      have HU := hid hU
      have HR := hid (And.intro r0 r1)
      go_loopw [8] (fun i wr => ∃ (k : Nat) (zs : List Int) (A : Option Addr) (q c : Nat), k ≤ n ∧ i = .int .i64 (k : Int) ∧ Blk wr T 26 [.int .i64 r, .slice A q c] ∧ Own w3 wr (.slice A q c) zs ∧ zs.length = k ∧ (∀ z ∈ zs, -4 ≤ z ∧ z ≤ 4) ∧ Kept2 g T w3 wr ∧ Src wr g ∧ But g w wr) (fun i _ => n - (intOf i).toNat)
      case atStart => exact ⟨0, [], none, 0, 0, Nat.zero_le _, rfl, b3, Own.nil _ _, rfl, by simp, Kept2.refl _ _ _, hs3, hb2⟩
      case round =>
        clear b3 hs3 hb2
        obtain ⟨k, zs, A, q, c, hk, rfl, bT, hz, hzl, hzb, hk2, hs4, hb4⟩ := hrel
        have HZL := hid hzl
        have HZB := hid hzb
        clear hzl hzb
        by_cases hlt : k < n
        · have k0 : (k : Int) < (n : Int) := by omega
          have cT := bT.cell 1
          simp only [List.getElem?_cons_zero, List.getElem?_cons_succ] at cT
          have HB4 := hid bT
          clear bT
          go_wp2_with fail
          refine anyBut_region 8 (S := fun W => W.cell? ⟨T, 1, none⟩ = some (.slice A q c)) (by kernel_rfl) cT (fun hQ hHeld => ?_)
          refine AnyBut.take 0 (v := ?_) (by rfl) (by kernel_rfl) (by kernel_rfl) (by kernel_rfl) (by kernel_rfl) hQ (by rfl) (fun w hS => ?_) hHeld ?_
          rotate_left
          · (try dsimp only at hS); go_simp; (try with_reducible rfl)
          (try simp only [Act.put])
          refine AnyBut.take 1 (v := ?_) (by rfl) (by kernel_rfl) (by kernel_rfl) (by kernel_rfl) (by kernel_rfl) hQ (by rfl) (fun w hS => ?_) hHeld ?_
          rotate_left
          · (try dsimp only at hS); go_simp; (try with_reducible rfl)
          (try simp only [Act.put])
          refine AnyBut.take 2 (v := ?_) (by rfl) (by kernel_rfl) (by kernel_rfl) (by kernel_rfl) (by kernel_rfl) hQ (by rfl) (fun w hS => ?_) hHeld ?_
          rotate_left
          · (try dsimp only at hS); go_simp; (try with_reducible rfl)
          (try simp only [Act.put])
          refine AnyBut.one 3 (by kernel_rfl) (by rfl) (fun K hK => ?_)
          go_simp
          refine (Below_any g 9 _ (hs4.grow (Grow.refl wr).drew) (by omega)).mono ?_
          rintro e wB ⟨x, rfl, x0, x1, _, hsB, hbB0⟩
          have x1 := x1 (by omega)
          have hbB : But g wr wB := (But.of_grow (Grow.refl wr).drew).trans hbB0
          have bB := hbB.blk HB4.out hTg
          have hzB := hz.but hbB (by have := HS3.out.lt; omega)
          have hkB := hk2.but hbB
          have hb5 := hb4.trans hbB
          have wx : IntKind.i64.wrap (x - 4) = x - 4 := IntWalk.i64_in _ (by omega)
          have cB := bB.cell 1
          simp only [List.getElem?_cons_zero, List.getElem?_cons_succ] at cB
          refine hK.out _ _ cB (fun hHeld => ?_)
          (try simp only [Act.put])
          refine AnyBut.take 4 (v := ?_) (by rfl) (by kernel_rfl) (by kernel_rfl) (by kernel_rfl) (by kernel_rfl) hQ (by rfl) (fun w hS => ?_) hHeld ?_
          rotate_left
          · (try dsimp only at hS); go_simp; (try with_reducible rfl)
          (try simp only [Act.put])
          have gA : Grow wB (wB.alloc (.cells #[.int .i64 (x - 4)] 3)) := (Grow.refl _).alloc _
          have hl5 : zs.length ≤ 1000000000 := by have := HZL.out; omega
          obtain ⟨v', w5, hrun, hz5, gr5⟩ := run_append_intS w3 wB 22 22 Try.underlying22 (x - 4) _ zs hzB hl5 hkB.1
          obtain ⟨A5, q5, c5, rfl⟩ := hz5.slice_
          have hown : ∀ i, (Value.slice A q c).ownBlock = some i → w3.heap.size ≤ i := fun i hi => (World.ownsRow.lt hzB i hi).1
          have bT5 : Blk w5 T 26 [.int .i64 r, .slice A q c] := (gr5.block T (by have := (bB.grow gA).lt; exact this) (fun e => by have := hown T e.symm; omega)).trans (bB.grow gA)
          have c5' := bT5.cell 1
          have f5 := bT5.free 1
          simp only [List.getElem?_cons_zero, List.getElem?_cons_succ] at c5'
          refine AnyBut.one 5 (by kernel_rfl) (by rfl) (fun K hK => ?_)
          go_simp
          refine hK.out _ _ (gA.cell_some cB) (fun hHeld => ?_)
          (try simp only [Act.put])
          refine AnyBut.one 6 (by kernel_rfl) (by rfl) (fun K hK => ?_)
          refine step_append_at rfl (.tmp 24) (.tmp 28) (by rfl) (by rfl) (by rfl) hrun ?_
          refine hK.out _ _ c5' (fun hHeld => ?_)
          (try simp only [Act.put])
          refine AnyBut.take 7 (v := ?_) (by rfl) (by kernel_rfl) (by kernel_rfl) (by kernel_rfl) (by kernel_rfl) hQ (by rfl) (fun w hS => ?_) hHeld ?_
          rotate_left
          · (try dsimp only at hS); go_simp; (try with_reducible rfl)
          (try simp only [Act.put])
          refine AnyBut.last (by kernel_rfl) (by rfl) (by kernel_rfl) (fun K hK => ?_)
          go_simp
          refine hK.out _ _ ?_
          refine NoPanic.normal ?_
          have bT6 := bT5.set 1 (.slice A5 q5 c5)
          simp only [List.set_cons_zero, List.set_cons_succ] at bT6
          have HNEW := hid (And.intro bT6 (And.intro (show Own w3 (w5.setCell ⟨T, 1, none⟩ (.slice A5 q5 c5)) (.slice A5 q5 c5) (zs ++ [x - 4]) from ownsRow_setCell_below hz5 hT3 _) (And.intro (((hkB.grow gA).own gr5 hown).set2 1 (.slice A5 q5 c5)) (And.intro (((hsB.grow gA).own gr5 (fun e => by have := hown g e; have := HS3.out.lt; omega)).setFar (p := ⟨T, 1, none⟩) (fun e => hTg e.symm) (.slice A5 q5 c5)) (((hb5.alloc (.cells #[.int .i64 (x - 4)] 3)).own gr5 (fun i hi => by have := hown i hi; omega)).setNew (p := ⟨T, 1, none⟩) hTw (.slice A5 q5 c5))))))
          have HZN := hid (show ∀ z ∈ zs ++ [x - 4], -4 ≤ z ∧ z ≤ 4 from fun z hz => by
            rcases List.mem_append.1 hz with h | h
            · exact HZB.out z h
            · rw [List.mem_singleton] at h; omega)
          clear bT6 c5' f5 hrun
          go_wp2
          exact ⟨⟨k + 1, zs ++ [x - 4], A5, q5, c5, by omega, by go_num, HNEW.out.1, HNEW.out.2.1, by rw [List.length_append, HZL.out]; rfl, HZN.out, HNEW.out.2.2⟩, by simp only [intOf]; omega⟩
        · obtain rfl : k = n := by omega
          have hO4 : OwnS w wr _ ss := HO3.out.keep fun g' cur hh hb hv => hk2.2 g' (lt_of_block hh) (fun e => by have := hgl; omega) (fun e => by have := (HU.out g' hv).2; omega)
          have hP4 := (HP3.out.kept2 hk2 HS3.out HB3.out).snoc (z := r) hz.F
          have c0 := bT.cell 0
          have c1 := bT.cell 1
          simp only [List.getElem?_cons_zero, List.getElem?_cons_succ] at c0 c1
          obtain ⟨v', w5, hrun, ho5, gr5⟩ := run_append_sw w wr 23 23 Try.underlying23 r (.slice A q c) rfl _ ss hO4 (by have := HP3.out.1; have := HML.out; have := HM.out; omega) hb4.size
          have hown : ∀ i, _ = some i → w.heap.size ≤ i := fun i hi => (hO4.lt i hi).1
          have hP5 := (hP4.grow ((Grow.refl wr).alloc (.cells #[.int .i64 r, .slice A q c] 26))).own (World.ownsRow.alloc hO4 _) gr5
          have HNEW := hid (And.intro ho5 (And.intro hP5 (And.intro ((hs4.grow ((Grow.refl wr).alloc (.cells #[.int .i64 r, .slice A q c] 26))).own gr5 (fun e => by have := hown g e; omega)) ((hb4.alloc (.cells #[.int .i64 r, .slice A q c] 26)).own gr5 hown))))
          have HEACH := hid (show ∀ s ∈ l ++ [⟨r, zs⟩], (1 ≤ s.w ∧ s.w ≤ 9) ∧ s.p.length = k ∧ ∀ z ∈ s.p, -4 ≤ z ∧ z ≤ 4 from fun s hs => by
            rcases List.mem_append.1 hs with h | h
            · exact HALL.out s h
            · rw [List.mem_singleton] at h
              subst h
              exact ⟨HR.out, HZL.out, HZB.out⟩)
          have HRUN := hid hrun
          clear hrun hO4 hP4 hP5 ho5 gr5 bT
          go_wp2_with (at_builtin; refine wpList_append_at rfl (.tmp 31) (.tmp 33) (by rfl) (by rfl) (by rfl) HRUN.out ?_)
          exact ⟨⟨m - 1, ss ++ [(r, .slice A q c)], l ++ [⟨r, zs⟩], rfl, by rw [List.length_append]; have := HML.out; simp; omega, HNEW.out.1, HNEW.out.2.1, HEACH.out, HNEW.out.2.2⟩, by simp only [intOf]; omega⟩
    · obtain rfl : m = 0 := by omega
      have FIN := hid (show SwingsRes g n w (.returned _) _ from ⟨_, l, rfl, ho.isF hp, ⟨by have := HML.out; have := HM.out; omega, HALL.out⟩, hs2, hb2⟩)
      go_wp2
      go_ret
      exact FIN.out
end Go.Proofs.Ytomgilkchlediaa
