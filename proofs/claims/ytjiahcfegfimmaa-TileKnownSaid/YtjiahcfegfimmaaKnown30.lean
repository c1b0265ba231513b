/-
  The walk of Orphans.
-/
import Derived.Test.YtjiahcfegfimmaaKnown26
import Derived.Test.YtjiahcfegfimmaaKnown27
import Derived.Test.YtjiahcfegfimmaaKnown29
import Derived.Sort.QuietIn
import Derived.Sort.CutIn
import Derived.OwnWalkIn
import Derived.Outline
namespace Go.Proofs.Ytjiahcfegfimmaa
open Go.RowKit Go.Shelf

attribute [local go_sem] Oper.semAt_some

theorem wpListIn_append_run {F : Fence} {n : Nat} {P : Program} {w : World} {ops : Array Oper} {rest : List Oper} {o : Oper} {a : Act} {Q : Exit → Act → World → Prop}
    (hg : o.guard = none) (s x : Operand) (t : TypeId) (hop : o.op = Op.call { callee := Callee.builtin Builtin.append, args := #[s, x], argTypes := #[t, t] })
    {u y v' : Value} {w' : World} (hs : a.eval s = u) (hx : a.eval x = y) (hrun : (Builtin.append_ #[t, t] o.type #[u, y]).run P w = .ok v' w')
    (hK : wpListIn F n P ops Q rest (a.put o.dst v') w') : wpListIn F n P ops Q (o :: rest) a w := by
  refine wpListIn_plain hg fun K hK' => ?_
  unfold Oper.wpIn
  refine ⟨?_, ?_⟩
  · simp [Oper.about, hop, resolve, Target.leads, Sem.run_pure]
  · rw [Oper.semAt_plain F _ _ (by rw [hop]; intro c hc'; cases hc')]
    simp [execOp, hop, resolve, invoke, builtin, hs, hx, hrun, Result.andThen]
    exact hK' _ _ hK

section
variable {F : Fence} {n : Nat} {P : Program} {ops : Array Oper} {md : Region.Mode} {C : World → Prop} {Q : Exit → Act → World → Prop} {l0 : Nat}
theorem wpIn_toRound {o : Oper} {a : Act} {w : World} {K : Act → World → Prop} (_hro : F.round = none) (ho : ∀ c, o.op ≠ .defer c) (h : o.wpIn F n P a w K Q) : o.wpIn (F.inRound l0) n P a w K Q := by
  unfold Oper.wpIn at *
  refine ⟨h.1, ?_⟩
  have h2 := h.2
  rw [Oper.semAt_eq _ _ _ ho] at h2 ⊢
  exact h2
theorem wpOpIn_toRound {i : Nat} {a : Act} {w : World} {K : Act → World → Prop} (hro : F.round = none) (nd : ∀ (i : Nat) (o : Oper), ops[i]? = some o → ∀ c, o.op ≠ .defer c) (h : wpOpIn F n P ops Q i K a w) : wpOpIn (F.inRound l0) n P ops Q i K a w := by
  unfold wpOpIn at *
  split
  · rename_i ho; simpa [ho] using h
  · rename_i o ho
    simp only [ho] at h
    split
    · rename_i hw; simp only [hw, if_true] at h; exact wpIn_toRound hro (nd i o ho) h
    · rename_i hw; simp only [hw] at h; exact h
theorem wpAnyIn_toRound (hro : F.round = none) (nd : ∀ (i : Nat) (o : Oper), ops[i]? = some o → ∀ c, o.op ≠ .defer c) : ∀ (fuel : Nat) (listed : Array Bool) (a : Act) (w : World), wpAnyIn F n P md ops Q fuel listed a w → wpAnyIn (F.inRound l0) n P md ops Q fuel listed a w
  | 0, _, _, _, h => h
  | fuel + 1, _, _, _, h => ⟨h.1, fun i hi => wpOpIn_toRound hro nd (wpOpIn_mono (fun a w => wpAnyIn_toRound hro nd fuel _ a w) (h.2 i hi))⟩
/-- No operation lays a deferred call. -/
def noDefer (o : Oper) : Bool := match o.op with
  | .defer _ => false
  | _ => true
theorem noDefer_spec {l : List Oper} (h : l.all noDefer = true) : ∀ (i : Nat) (o : Oper), l.toArray[i]? = some o → ∀ c, o.op ≠ .defer c := fun i o ho c e => by
  have h1 := List.all_eq_true.1 h o (by
    rw [List.getElem?_toArray] at ho
    exact List.mem_of_getElem? ho)
  unfold noDefer at h1
  rw [e] at h1
  cases h1
theorem region_quiet_round {id : Nat} {a : Act} {w : World} {l : List Oper} (hro : F.round = none) (hm : P.follows .mixedOrders = true) (hB : Region.lexB .any l.toArray = true) (hd : l.all noDefer = true)
    (h : wpQuietIn F n P l.toArray (fun w' => ∃ n, w' = w.drewN n) (fun a' => ∀ w', (∃ n, w' = w.drewN n) → Q .normal a' w') l a) : (Code.region id l.toArray true).wpIn (F.inRound l0) n P Q a w := by
  simp only [Region.lexB, Bool.and_eq_true] at hB
  refine wpIn_region_any hm (wpAnyIn_toRound hro (noDefer_spec hd) _ _ _ _ (wpAnyIn_of_quiet (C := fun w' => ∃ n, w' = w.drewN n) (Q := fun a' => ∀ w', (∃ n, w' = w.drewN n) → Q .normal a' w') hro (fun _ w' hw' h => h w' hw') _ _ _ _ ⟨1, rfl⟩ ?_))
  have := wpAnyQIn_lex (F := F) (n := n) (C := fun w' => ∃ n, w' = w.drewN n) (md := .any) hB.1 l 0 (Array.replicate l.length false) a (by simp) (by simpa using hB.2) h
  simpa using this
end

theorem keeps_drewN (W : World) (n : Nat) : KeepsOthers W (W.drewN n) := ⟨Nat.le_refl _, fun _ _ h _ => h⟩
theorem Own.turns {wb W W' : World} {v : Value} {l : List Int} {C A : Nat} (h : Own wb W v l) (t : Turns C A W W') (hA : A < wb.heap.size) : Own wb W' v l :=
  h.keep fun k hk => by
    obtain ⟨h1, h2, cur, h3⟩ := h.blk hk
    exact t.blk k h2 (by omega) (.inr ⟨_, _, _, h3⟩)
def orphP (s : TSet) (pre : List KPlace) : List Int := (pre.filter (orphB s)).map (·.1)
theorem orphP_yes {s : TSet} {pre : List KPlace} {x : KPlace} (h : orphB s x = true) : orphP s (pre ++ [x]) = orphP s pre ++ [x.1] := by unfold orphP; simp [List.filter_append, h]
theorem orphP_no {s : TSet} {pre : List KPlace} {x : KPlace} (h : orphB s x = false) : orphP s (pre ++ [x]) = orphP s pre := by unfold orphP; simp [List.filter_append, h]
/-- Between two rounds. -/
structure OrphI (w : World) (s : TSet) (a b : Value) (A : Nat) (pre : List KPlace) (W : World) : Prop where
  own : ∃ wb v, A < wb.heap.size ∧ wb.heap.size ≤ W.heap.size ∧ Own wb W v (orphP s pre) ∧ Blk W (w.heap.size + 1) 22 [v]
  b1 : Blk W w.heap.size 24 (setVals s a b)
  bZ : Blk W (w.heap.size + 1 + 1) 24 (setVals s a b)
  g : Grow w W
  lt : w.heap.size + 3 ≤ A
  len : (orphP s pre).length ≤ 1000
section
variable {w : World} {s : TSet} {a b : Value} {A C : Nat} {pre : List KPlace} {W W' : World}
theorem OrphI.turns (h : OrphI w s a b A pre W) (hC : w.heap.size ≤ C) (t : Turns C A W W') : OrphI w s a b A pre W' := by
  have hl := h.lt
  obtain ⟨wb, v, h1, h2, h3, h4⟩ := h.own
  exact ⟨⟨wb, v, h1, Nat.le_trans h2 t.size, h3.turns t h1, t.cells h4 (by omega)⟩, t.cells h.b1 (by omega), t.cells h.bZ (by omega), t.grow h.g (by omega) hC, hl, h.len⟩
theorem OrphI.grow (h : OrphI w s a b A pre W) (g : Grow W W') : OrphI w s a b A pre W' := h.turns (Nat.le_refl w.heap.size) (Turns.of_grow g)
theorem OrphI.no (h : OrphI w s a b A pre W) {x : KPlace} (hx : orphB s x = false) : OrphI w s a b A (pre ++ [x]) W := by
  obtain ⟨h1, h2, h3, h4, h5, h6⟩ := h
  exact ⟨by rw [orphP_no hx]; exact h1, h2, h3, h4, h5, by rw [orphP_no hx]; exact h6⟩
theorem OrphI.yes (h : OrphI w s a b A pre W) {x : KPlace} (hx : orphB s x = true) (_hA : A < W.heap.size) (hlen : (orphP s (pre ++ [x])).length ≤ 1000) (t ty : TypeId) (ht : Try.prog.underlying t = some (.slice 3)) :
    ∃ v A9 m9 c9 w', W.cell? ⟨w.heap.size + 1, 0, none⟩ = some v ∧ (Builtin.append_ #[t, t] ty #[v, .slice (some ⟨W.heap.size, 0, none⟩) 1 1]).run Try.prog (W.alloc (.cells #[.int .i64 x.1] 3)) = .ok (.slice A9 m9 c9) w' ∧
      w'.cell? ⟨w.heap.size + 1, 0, none⟩ = some v ∧ w'.frozen? ⟨w.heap.size + 1, 0, none⟩ = false ∧ KeepsOthers W (w'.setCell ⟨w.heap.size + 1, 0, none⟩ (.slice A9 m9 c9)) ∧
      (∀ k, w.heap.size + 2 ≤ k → k ≤ A → (w'.setCell ⟨w.heap.size + 1, 0, none⟩ (.slice A9 m9 c9)).heap[k]? = W.heap[k]?) ∧ OrphI w s a b A (pre ++ [x]) (w'.setCell ⟨w.heap.size + 1, 0, none⟩ (.slice A9 m9 c9)) := by
  obtain ⟨⟨wb, v, h1, h2, h3, h4⟩, hb1, hbZ, hg, hlt, hl⟩ := h
  obtain ⟨v', w', hrun, ho, hgb, -⟩ := run_append_one wb W t ty ht v (orphP s pre) x.1 h3 (by omega) h2
  obtain ⟨A9, c9, rfl⟩ := ho.slice
  have hsz := hgb.size
  simp only [World.size_alloc] at hsz
  have hown : ∀ k, v.ownBlock = some k → wb.heap.size ≤ k := fun k hk => (h3.blk hk).1
  have far : ∀ k, k ≤ A → w'.heap[k]? = W.heap[k]? := fun k hk => (hgb.block k (by simp; omega) (fun e => by have := hown k e.symm; omega)).trans (Below.heap_alloc _ _ _ (by omega))
  have bk : ∀ {k : Nat} {e : TypeId} {xs : List Value}, k ≤ A → Blk W k e xs → Blk w' k e xs := fun hk hb => (far _ hk).trans hb
  have bR := bk (by omega) h4
  refine ⟨v, A9, _, c9, w', h4.cell 0, hrun, bR.cell 0, bR.free 0, ?_, fun k h5 h6 => (Below.heap_setCell _ _ _ _ (by simp; omega)).trans (far k h6), ?_⟩
  · refine ((KeepsOthers.alloc W _).trans (KeepsOthers.of_grownBy hgb fun j o hj hjo => ?_)).trans (KeepsOthers.setCell _ _ _)
    obtain ⟨_, hj2, cur, hcur⟩ := h3.blk hj
    rw [Below.heap_alloc _ _ _ (by omega), hcur] at hjo
    cases hjo
    rfl
  · refine ⟨⟨wb, _, h1, by simp; omega, ?_, bR.set 0 _⟩, (bk (by omega) hb1).far (by simp) _, (bk (by omega) hbZ).far (by simp) _, ?_, hlt, hlen⟩
    · rw [orphP_yes hx]
      exact ho.far (by simp; omega) _
    · exact ((hg.alloc _).own hgb (fun k hk => by have := hown k hk; omega)).set (p := ⟨w.heap.size + 1, 0, none⟩) (by simp) _
end
theorem orph_len {s : TSet} {pre : List KPlace} (h : pre <+: allP s) : (orphP s pre).length ≤ 1000 := by
  have h1 : (orphP s pre).length ≤ pre.length := by unfold orphP; rw [List.length_map]; exact List.length_filter_le _ _
  have h2 := h.length_le
  have h3 := allP_length s
  by_cases e : chkErr s = 0
  · rw [if_pos e] at h3
    have V := valid_of e
    have := V.plain
    have := V.fl
    omega
  · rw [if_neg e] at h3; omega

set_option maxRecDepth 100000 in
set_option maxHeartbeats 40000000 in
theorem Orphans_any (v : Value) (s : TSet) (w : World) (h : IsSet w v s) : Calls Try.prog 52 #[v] w (OrphRes w s) := by
  have HI := hid h
  obtain ⟨A, c, B, d, rfl, h1, h2⟩ := h.open_
  obtain ⟨_, _, e1, c1, m1, r1⟩ := h1
  obtain ⟨_, _, e2, d1, m2, r2⟩ := h2
  injection e1 with e1 _ e1'
  injection e2 with e2 _ e2'
  subst e1 e1' e2 e2'
  unfold maxLen at m1 m2
  have HG0 := hid (show Grow w (w.alloc (.cells #[.int .i64 s.pl, .slice A s.su.length c, .int .i64 s.wi, .int .i64 s.dr, .int .i64 s.fl, .int .i64 s.co, .int .i64 s.me, .int .i64 s.de, .slice B s.re.length d] 24)) from (Grow.refl w).alloc _)
  have HB0 := hid (show Blk (w.alloc (.cells #[.int .i64 s.pl, .slice A s.su.length c, .int .i64 s.wi, .int .i64 s.dr, .int .i64 s.fl, .int .i64 s.co, .int .i64 s.me, .int .i64 s.de, .slice B s.re.length d] 24)) w.heap.size 24 (setVals s (.slice A s.su.length c) (.slice B s.re.length d)) from heap_alloc_new w _)
  clear h
  have H1 := hid (And.intro (show IsInts w (.slice A s.su.length c) s.su from ⟨A, c, rfl, c1, by unfold maxLen; omega, r1⟩) (show IsInts w (.slice B s.re.length d) s.re from ⟨B, d, rfl, d1, by unfold maxLen; omega, r2⟩))
  have KI := hid (fun W => (callsIn_wide.2 (kinds_any _ s (.slice A s.su.length c) (.slice B s.re.length d) W rfl) : CallsIn Fence.wide 9 _ _ _ _ _))
  have HR := hid r1
  clear r1 r2
  refine (callsIn_wide (n := 10)).1 ?_
  refine callsIn_of_wp_marks Try.func52 rfl trivial ?_ rfl
  simp only [Try.ntmps52, List.size_toArray, List.length_cons, List.length_nil, Nat.reduceAdd, Nat.reduceSub, Array.replicate_succ, Array.replicate_zero, List.push_toArray, List.append_toArray, List.nil_append, List.cons_append]
  gi_wp2_with (refine ⟨trivial, ?_⟩; gi_at_call 90; refine (KI.out _).mono ?_; rintro e w' ⟨rfl, rfl⟩)
  have G3 : Grow w (((w.alloc (.cells #[.int .i64 s.pl, .slice A s.su.length c, .int .i64 s.wi, .int .i64 s.dr, .int .i64 s.fl, .int .i64 s.co, .int .i64 s.me, .int .i64 s.de, .slice B s.re.length d] 24)).alloc (.cells #[.slice none 0 0] 22)).alloc (.cells #[.int .i64 s.pl, .slice A s.su.length c, .int .i64 s.wi, .int .i64 s.dr, .int .i64 s.fl, .int .i64 s.co, .int .i64 s.me, .int .i64 s.de, .slice B s.re.length d] 24)) := (((Grow.refl w).alloc _).alloc _).alloc _
  have bB : Blk (((w.alloc (.cells #[.int .i64 s.pl, .slice A s.su.length c, .int .i64 s.wi, .int .i64 s.dr, .int .i64 s.fl, .int .i64 s.co, .int .i64 s.me, .int .i64 s.de, .slice B s.re.length d] 24)).alloc (.cells #[.slice none 0 0] 22)).alloc (.cells #[.int .i64 s.pl, .slice A s.su.length c, .int .i64 s.wi, .int .i64 s.dr, .int .i64 s.fl, .int .i64 s.co, .int .i64 s.me, .int .i64 s.de, .slice B s.re.length d] 24)) w.heap.size 24 (setVals s (.slice A s.su.length c) (.slice B s.re.length d)) := HB0.out.grow (((Grow.refl _).alloc _).alloc _)
  have bR : Blk (((w.alloc (.cells #[.int .i64 s.pl, .slice A s.su.length c, .int .i64 s.wi, .int .i64 s.dr, .int .i64 s.fl, .int .i64 s.co, .int .i64 s.me, .int .i64 s.de, .slice B s.re.length d] 24)).alloc (.cells #[.slice none 0 0] 22)).alloc (.cells #[.int .i64 s.pl, .slice A s.su.length c, .int .i64 s.wi, .int .i64 s.dr, .int .i64 s.fl, .int .i64 s.co, .int .i64 s.me, .int .i64 s.de, .slice B s.re.length d] 24)) (w.heap.size + 1) 22 [.slice none 0 0] := Blk.grow (Blk.new_at (xs := [.slice none 0 0]) (by simp)) ((Grow.refl _).alloc _)
  have bZ : Blk (((w.alloc (.cells #[.int .i64 s.pl, .slice A s.su.length c, .int .i64 s.wi, .int .i64 s.dr, .int .i64 s.fl, .int .i64 s.co, .int .i64 s.me, .int .i64 s.de, .slice B s.re.length d] 24)).alloc (.cells #[.slice none 0 0] 22)).alloc (.cells #[.int .i64 s.pl, .slice A s.su.length c, .int .i64 s.wi, .int .i64 s.dr, .int .i64 s.fl, .int .i64 s.co, .int .i64 s.me, .int .i64 s.de, .slice B s.re.length d] 24)) (w.heap.size + 1 + 1) 24 (setVals s (.slice A s.su.length c) (.slice B s.re.length d)) := Blk.new_at (by simp)
  have hsz : (((w.alloc (.cells #[.int .i64 s.pl, .slice A s.su.length c, .int .i64 s.wi, .int .i64 s.dr, .int .i64 s.fl, .int .i64 s.co, .int .i64 s.me, .int .i64 s.de, .slice B s.re.length d] 24)).alloc (.cells #[.slice none 0 0] 22)).alloc (.cells #[.int .i64 s.pl, .slice A s.su.length c, .int .i64 s.wi, .int .i64 s.dr, .int .i64 s.fl, .int .i64 s.co, .int .i64 s.me, .int .i64 s.de, .slice B s.re.length d] 24)).heap.size = w.heap.size + 3 := by simp
  have BB := hid (And.intro G3 (And.intro bB (And.intro bR bZ)))
  clear G3 bB bR bZ
  generalize (((w.alloc (.cells #[.int .i64 s.pl, .slice A s.su.length c, .int .i64 s.wi, .int .i64 s.dr, .int .i64 s.fl, .int .i64 s.co, .int .i64 s.me, .int .i64 s.de, .slice B s.re.length d] 24)).alloc (.cells #[.slice none 0 0] 22)).alloc (.cells #[.int .i64 s.pl, .slice A s.su.length c, .int .i64 s.wi, .int .i64 s.dr, .int .i64 s.fl, .int .i64 s.co, .int .i64 s.me, .int .i64 s.de, .slice B s.re.length d] 24)) = W0 at *
  refine range_law (S := allP s) (encs := encP) (Ok := SetAt (w.heap.size + 1 + 1) s (.slice A s.su.length c) (.slice B s.re.length d)) (gf := 106) (lb := #[.pointer (some ⟨w.heap.size + 1 + 1, 0, none⟩)]) rfl (enters_of Try.func106 (by kernel_rfl) rfl) (kinds_iterates _ s _ _) (fun _ => rfl)
    (fun W hg => ⟨BB.out.2.2.2.grow hg, H1.out.1.grow (BB.out.1.trans hg), H1.out.2.grow (BB.out.1.trans hg)⟩)
    (OrphI w s (.slice A s.su.length c) (.slice B s.re.length d)) (fun _ _ _ => False) (fun A' pre W W' h t => h.turns (by omega) t) (fun A' pre W W' h t => h) (fun A' pre W h => ⟨h.bZ, H1.out.1.grow h.g, H1.out.2.grow h.g⟩)
    (fun A' W hg hA hAW => ⟨⟨W, _, hAW, Nat.le_refl _, Own.nil _ _, BB.out.2.2.1.grow hg⟩, BB.out.2.1.grow hg, BB.out.2.2.2.grow hg, BB.out.1.trans hg, by omega, by simp [orphP]⟩)
    (fun A' pre x a' W => OrphI w s (.slice A s.su.length c) (.slice B s.re.length d) A' pre W ∧ ∃ P, A' < P ∧ Blk W P 100 [.int .i64 x.2.1, .int .i64 x.2.2] ∧ a' = { tmps := #[.agg #[.int .i64 s.pl, .slice A s.su.length c, .int .i64 s.wi, .int .i64 s.dr, .int .i64 s.fl, .int .i64 s.co, .int .i64 s.me, .int .i64 s.de, .slice B s.re.length d], .pointer (some ⟨w.heap.size, 0, none⟩), .slice none 0 0, .pointer (some ⟨w.heap.size + 1, 0, none⟩), .int .i64 x.1, .pointer (some ⟨P, 0, none⟩), .agg #[.int .i64 s.pl, .slice A s.su.length c, .int .i64 s.wi, .int .i64 s.dr, .int .i64 s.fl, .int .i64 s.co, .int .i64 s.me, .int .i64 s.de, .slice B s.re.length d], .func (.func 106) #[] #[.pointer (some ⟨w.heap.size + 1 + 1, 0, none⟩)], .int .i64 x.1, .agg #[.int .i64 x.2.1, .int .i64 x.2.2], undef, undef, undef, undef, undef, undef, undef, undef, undef, undef, undef, undef, undef, undef, undef, undef, undef, undef, undef, undef, undef, undef, undef, undef, undef, undef, undef, undef, undef, undef], defers := [] })
    (fun A' pre x a' W W' h t => ⟨h.1.turns (by omega) t, h.2.imp fun P hP => ⟨hP.1, t.cells hP.2.1 (by omega), hP.2.2⟩⟩) ?assign ?body ?done ?stop
  case assign =>
    intro l m A' pre x W K hA hAW hi hpre hK
    simp only [encP]
    gi_wp2
    refine hK _ _ (KeepsOthers.alloc _ _) (fun k h1 h2 => Below.heap_alloc _ _ _ (by omega)) ⟨hi.grow ((Grow.refl _).alloc _), _, hAW, heap_alloc_new W _, ?_⟩
    rfl
  case body =>
    rintro l m A' pre x a' W hA hAW ⟨hi, P, hP, bP, rfl⟩ hpre
    have p0 := bP.cell 0
    have p1 := bP.cell 1
    simp only [List.getElem?_cons_zero, List.getElem?_cons_succ] at p0 p1
    obtain ⟨c0, c1, c2, c3, c4, c5, c6, c7, c8⟩ := set_cells hi.b1
    have HLEN := hid (orph_len hpre)
    have HI2 := hid hi
    have HRW := hid (HR.out.grow hi.g)
    have hm : x ∈ allP s := hpre.subset (by simp)
    have e : chkErr s = 0 := by
      by_cases e : chkErr s = 0
      · exact e
      · have h3 := allP_length s
        rw [if_neg e] at h3
        rw [show allP s = [] from List.eq_nil_of_length_eq_zero (by omega)] at hm
        simp at hm
    have V := valid_of e
    obtain ⟨xk, su, rr⟩ := x
    have hlt := hi.lt
    clear bP hi hpre
    rcases place_cases e hm with ⟨j, q, ⟨hj, hq, hk⟩, h2⟩ | ⟨q, hq, hk, h2⟩ | ⟨q, hq, hk, h2⟩ | ⟨q, hq, hk, h2⟩
    · simp only at h2 hq
      injection h2 with h2 h3
      subst h2 h3
      have HB := hid (show orphB s (xk, (j : Int), (q : Int)) = !(decide (0 < (q : Int)) && decide ((q : Int) < s.su[j] - 1)) by
        unfold orphB
        simp only
        rw [decide_eq_false (show ¬ (j : Int) = -3 by omega), decide_eq_true (show (0 : Int) ≤ (j : Int) by omega), lenI_suit hj]
        simp)
      have hz := V.su s.su[j] (List.getElem_mem hj)
      obtain ⟨ad, rfl, _, hx⟩ := HRW.out.int hj
      have i1 : (j : Int) < (s.su.length : Int) := by omega
      have i0 : (0 : Int) ≤ (j : Int) := by omega
      have q3 : ((j : Int) == -3) = false := beq_eq_false_iff_ne.2 (by omega)
      generalize s.su[j] = z at *
      have hq0 : (0 : Int) ≤ (q : Int) := by omega
      generalize (q : Int) = r at *
      clear hk hm e V
      by_cases b1 : 0 < r
      · have d1 : decide (0 < r) = true := decide_eq_true b1
        by_cases b2 : r < z - 1
        · have d2 : decide (r < z - 1) = true := decide_eq_true b2
          clear b1 b2
          have NEW := hid (HI2.out.no (x := (xk, (j : Int), r)) (by rw [HB.out, d1, d2]; rfl))
          gi_wp2
          refine region_quiet_round rfl (by kernel_rfl) (by kernel_rfl) (by kernel_rfl) ?_
          repeat (gi_big_quiet_step (fail))
          refine wpQuietIn_nil ?_
          intro _ hw'
          obtain ⟨nq, hw''⟩ := hw'
          subst hw''
          gi_wp2
          exact ⟨keeps_drewN _ _, fun _ _ _ => rfl, NEW.out.grow ((Grow.refl _).drewN _)⟩
        · have d2 : decide (r < z - 1) = false := decide_eq_false b2
          clear b1 b2
          have HB9 := hid (by rw [HB.out, d2]; simp : orphB s (xk, (j : Int), r) = true)
          gi_wp2
          refine region_quiet_round rfl (by kernel_rfl) (by kernel_rfl) (by kernel_rfl) ?_
          repeat (gi_big_quiet_step (fail))
          refine wpQuietIn_nil ?_
          intro _ hw'
          obtain ⟨nq, hw''⟩ := hw'
          subst hw''
          obtain ⟨u, A9, m9, c9, w', y1, y2, y3, y4, y5, y6, y7⟩ := (HI2.out.grow ((Grow.refl _).drewN nq)).yes (x := (xk, (j : Int), r)) HB9.out (by simpa using hAW) HLEN.out 22 22 Try.underlying22
          have Y2 := hid y2
          have Y5 := hid (And.intro y5 (And.intro y6 y7))
          clear y2 y5 y6 y7
          gi_wp2_with (gi_at_builtin; refine wpListIn_append_run rfl (.tmp 35) (.tmp 37) _ (by rfl) (by rfl) (by rfl) Y2.out ?_)
          exact ⟨(keeps_drewN _ _).trans Y5.out.1, fun k h1 h2 => Y5.out.2.1 k (by omega) h2, Y5.out.2.2⟩
      · have d1 : decide (0 < r) = false := decide_eq_false b1
        clear b1
        have HB9 := hid (by rw [HB.out, d1]; rfl : orphB s (xk, (j : Int), r) = true)
        gi_wp2
        refine region_quiet_round rfl (by kernel_rfl) (by kernel_rfl) (by kernel_rfl) ?_
        repeat (gi_big_quiet_step (fail))
        refine wpQuietIn_nil ?_
        intro _ hw'
        obtain ⟨nq, hw''⟩ := hw'
        subst hw''
        obtain ⟨u, A9, m9, c9, w', y1, y2, y3, y4, y5, y6, y7⟩ := (HI2.out.grow ((Grow.refl _).drewN nq)).yes (x := (xk, (j : Int), r)) HB9.out (by simpa using hAW) HLEN.out 22 22 Try.underlying22
        have Y2 := hid y2
        have Y5 := hid (And.intro y5 (And.intro y6 y7))
        clear y2 y5 y6 y7
        gi_wp2_with (gi_at_builtin; refine wpListIn_append_run rfl (.tmp 35) (.tmp 37) _ (by rfl) (by rfl) (by rfl) Y2.out ?_)
        exact ⟨(keeps_drewN _ _).trans Y5.out.1, fun k h1 h2 => Y5.out.2.1 k (by omega) h2, Y5.out.2.2⟩
    · simp only at h2 hk
      injection h2 with h2 h3
      subst h2 h3
      have hq0 : (0 : Int) ≤ (q : Int) := by omega
      generalize (q : Int) = r at *
      clear hm e V hq hk
      have HB9 := hid (by unfold orphB; simp : orphB s (xk, -1, r) = true)
      gi_wp2
      refine region_quiet_round rfl (by kernel_rfl) (by kernel_rfl) (by kernel_rfl) ?_
      repeat (gi_big_quiet_step (fail))
      refine wpQuietIn_nil ?_
      intro _ hw'
      obtain ⟨nq, hw''⟩ := hw'
      subst hw''
      obtain ⟨u, A9, m9, c9, w', y1, y2, y3, y4, y5, y6, y7⟩ := (HI2.out.grow ((Grow.refl _).drewN nq)).yes (x := (xk, -1, r)) HB9.out (by simpa using hAW) HLEN.out 22 22 Try.underlying22
      have Y2 := hid y2
      have Y5 := hid (And.intro y5 (And.intro y6 y7))
      clear y2 y5 y6 y7
      gi_wp2_with (gi_at_builtin; refine wpListIn_append_run rfl (.tmp 35) (.tmp 37) _ (by rfl) (by rfl) (by rfl) Y2.out ?_)
      exact ⟨(keeps_drewN _ _).trans Y5.out.1, fun k h1 h2 => Y5.out.2.1 k (by omega) h2, Y5.out.2.2⟩
    · simp only at h2 hk
      injection h2 with h2 h3
      subst h2 h3
      have hq0 : (0 : Int) ≤ (q : Int) := by omega
      generalize (q : Int) = r at *
      clear hm e V hq hk
      have HB9 := hid (by unfold orphB; simp : orphB s (xk, -2, r) = true)
      gi_wp2
      refine region_quiet_round rfl (by kernel_rfl) (by kernel_rfl) (by kernel_rfl) ?_
      repeat (gi_big_quiet_step (fail))
      refine wpQuietIn_nil ?_
      intro _ hw'
      obtain ⟨nq, hw''⟩ := hw'
      subst hw''
      obtain ⟨u, A9, m9, c9, w', y1, y2, y3, y4, y5, y6, y7⟩ := (HI2.out.grow ((Grow.refl _).drewN nq)).yes (x := (xk, -2, r)) HB9.out (by simpa using hAW) HLEN.out 22 22 Try.underlying22
      have Y2 := hid y2
      have Y5 := hid (And.intro y5 (And.intro y6 y7))
      clear y2 y5 y6 y7
      gi_wp2_with (gi_at_builtin; refine wpListIn_append_run rfl (.tmp 35) (.tmp 37) _ (by rfl) (by rfl) (by rfl) Y2.out ?_)
      exact ⟨(keeps_drewN _ _).trans Y5.out.1, fun k h1 h2 => Y5.out.2.1 k (by omega) h2, Y5.out.2.2⟩
    · simp only at h2 hk
      injection h2 with h2 h3
      subst h2 h3
      have hq0 : (0 : Int) ≤ (q : Int) := by omega
      generalize (q : Int) = r at *
      clear hm e V hq hk
      have NEW := hid (HI2.out.no (x := (xk, -3, r)) (by unfold orphB; simp))
      gi_wp2
      refine region_quiet_round rfl (by kernel_rfl) (by kernel_rfl) (by kernel_rfl) ?_
      repeat (gi_big_quiet_step (fail))
      refine wpQuietIn_nil ?_
      intro _ hw'
      obtain ⟨nq, hw''⟩ := hw'
      subst hw''
      gi_wp2
      exact ⟨keeps_drewN _ _, fun _ _ _ => rfl, NEW.out.grow ((Grow.refl _).drewN _)⟩
  case done =>
    intro D A' W hD hA hi hDh
    obtain ⟨wb, u, h1, h2, h3, h4⟩ := hi.own
    have t : Turns w.heap.size D W (W.putObj D (.deferred none)) := Turns.putObj _ hDh rfl (by omega)
    have cR := h4.cell 0
    have fR := h4.free 0
    simp only [List.getElem?_cons_zero] at cR
    have hRD : w.heap.size + 1 ≠ D := by omega
    have hDu : ∀ k, u.ownBlock = some k → k ≠ D := fun k hk e => by
      obtain ⟨_, _, cur, hcur⟩ := h3.blk hk
      rw [e, hDh] at hcur
      cases hcur
    have FIN := hid (And.intro (show IsInts (W.putObj D (.deferred none)) u (orphansI s) from (h3.keep (fun k hk => World.putObj_heap_other (by have := hDu k hk; omega))).is) (t.grow hi.g (by omega) (Nat.le_refl _)))
    have HD2 := hid hDh
    clear hi hDh h1 h2 h3 h4 t hDu
    gi_wp2
    refine ⟨by simp, .inl ⟨_, _, rfl, run_takeDeferred HD2.out, ?_⟩⟩
    refine ⟨u, ?_, ⟨_, rfl, FIN.out.1, FIN.out.2⟩⟩
    simp [results, Try.results52, go_sem]
  case stop =>
    intro D A' pre W hD hA hpre hx hDh
    exact hx.elim
end Go.Proofs.Ytjiahcfegfimmaa
