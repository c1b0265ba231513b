/-
  A set that is being made: what is known of it between the steps. Walks of Total and Plain.
-/
import Derived.Test.YtjiahcfegfimmaaKnown13
import Derived.Test.YtjiahcfegfimmaaKnown28
import Derived.Test.YtjiahcfegfimmaaKnown04
import Derived.Test.YtjiahcfegfimmaaKnown24
namespace Go.Proofs.Ytjiahcfegfimmaa
open Go.RowKit

theorem Own.but {g : Nat} {w0 w w' : World} {v : Value} {os : List Int} (h : Own w0 w v os) (k : But g w w') (hg : g < w0.heap.size) : Own w0 w' v os := by
  refine ⟨h.1, ?_⟩
  rcases h.2 with hn | ⟨g', cap, cur, e, hb, hh, r⟩
  · exact .inl hn
  · exact .inr ⟨g', cap, cur, e, hb, (k.block g' (lt_of_block hh) (fun e => by have : g' = g := (by injection e); omega)).trans hh, r⟩
theorem But.own {g : Nat} {w0 w w' : World} {row : Option Nat} (h : But g w0 w) (k : w.grownBy w' row) (hr : ∀ b, row = some b → w0.heap.size ≤ b) : But g w0 w' :=
  ⟨k.os.trans h.os, k.tape.trans h.tape, k.output.trans h.output, Nat.le_trans h.size k.size, fun i hi hn => (k.block i (Nat.lt_of_lt_of_le hi h.size) (fun e => by have := hr i e.symm; omega)).trans (h.block i hi hn)⟩
theorem Src.own {g : Nat} {w w' : World} {row : Option Nat} (h : Src w g) (k : w.grownBy w' row) (hr : row ≠ some g) : Src w' g := by
  obtain ⟨x, h0, h1, hb⟩ := h
  exact ⟨x, h0, h1, (k.block g hb.lt (fun e => hr e.symm)).trans hb⟩
theorem But.setFar {g : Nat} {w w' : World} (h : But g w w') {p : Addr} (hp : w.heap.size ≤ p.block) (u : Value) : But g w (w'.setCell p u) :=
  ⟨h.os, h.tape, h.output, by simpa [World.setCell] using h.size, fun i hi hn => (Below.heap_setCell _ _ _ _ (by omega)).trans (h.block i hi hn)⟩
theorem But.row {g : Nat} {w w' : World} (h : But g w w') {X : Nat} (hX : w.heap.size ≤ X) (cs : Array Value) : But g w (w'.setRow X cs) :=
  ⟨h.os, h.tape, h.output, by simpa [World.setRow] using h.size, fun k hk hn => (setRow_other _ _ _ _ (by omega)).trans (h.block k hk hn)⟩
theorem Src.setFar {g : Nat} {w : World} (h : Src w g) {p : Addr} (hp : p.block ≠ g) (u : Value) : Src (w.setCell p u) g := by
  obtain ⟨x, h0, h1, hb⟩ := h
  exact ⟨x, h0, h1, hb.far (fun e => hp e.symm) u⟩
theorem Src.row {g : Nat} {w : World} (h : Src w g) {X : Nat} (hp : g ≠ X) (cs : Array Value) : Src (w.setRow X cs) g := by
  obtain ⟨x, h0, h1, hb⟩ := h
  exact ⟨x, h0, h1, (setRow_other _ _ _ _ hp).trans hb⟩

theorem run_append_one (w0 w : World) (t ty : TypeId) (ht : Try.prog.underlying t = some (.slice 3)) (v : Value) (os : List Int) (z : Int) (hown : Own w0 w v os) (hl : os.length ≤ 1000000000) (hg : w0.heap.size ≤ w.heap.size) :
    ∃ v' w', (Builtin.append_ #[t, t] ty #[v, .slice (some ⟨w.heap.size, 0, none⟩) 1 1]).run Try.prog (w.alloc (.cells #[.int .i64 z] 3)) = .ok v' w' ∧ Own w0 w' v' (os ++ [z]) ∧ (w.alloc (.cells #[.int .i64 z] 3)).grownBy w' v.ownBlock ∧ (v'.ownBlock = v.ownBlock ∨ v'.ownBlock = some (w.heap.size + 1)) := by
  obtain ⟨i0, hi0, hz0, hz1, hz2⟩ := info_parts infoInt
  obtain ⟨v', w', hrun, h1, h2, _, h3⟩ := run_append_own_at (P := Try.prog) (w.alloc (.cells #[.int .i64 z] 3)) w0.heap.size t ty 3 i0 (.int .i64 0) 1 8 ht hi0 hz0 hz1 hz2 rfl (by decide) v os.length (ints os) (World.ownsRow.alloc hown _) ⟨w.heap.size, 0, none⟩ 1 1 [.int .i64 z] rfl
    (World.news_of_block (cs := #[.int .i64 z]) (t := 3) (fr := (0, 0)) (heap_alloc_new w _)) (by simp [Value.oneCell']) (by unfold maxLen; omega) (by omega) (by simp; omega)
  refine ⟨v', w', hrun, ?_, h2, by simpa using h3⟩
  have e : (os ++ [z]).length = os.length + 1 := by simp
  unfold Own
  rw [e]
  simpa [ints] using h1

structure Lit (w wz W : World) (g X : Nat) (s : TSet) (vA vB : Value) : Prop where
  bX : Blk W X 24 (setVals s vA vB)
  oA : Own wz W vA s.su
  oB : Own wz W vB s.re
  src : Src W g
  b : But g w W
  ne : ∀ k, vA.ownBlock = some k → vB.ownBlock ≠ some k
  n1 : X < wz.heap.size
  n2 : w.heap.size ≤ X
  n3 : g < w.heap.size
  n4 : wz.heap.size ≤ W.heap.size
section
variable {w wz W W' : World} {g X : Nat} {s : TSet} {vA vB : Value}
theorem Lit.but (h : Lit w wz W g X s vA vB) (k : But g W W') (hs : Src W' g) : Lit w wz W' g X s vA vB := by
  have h1 := h.n1
  have h2 := h.n2
  have h3 := h.n3
  exact ⟨k.blk h.bX (by omega), h.oA.but k (by omega), h.oB.but k (by omega), hs, h.b.trans k, h.ne, h1, h2, h3, Nat.le_trans h.n4 k.size⟩
theorem Lit.grow (h : Lit w wz W g X s vA vB) (k : Grow W W') : Lit w wz W' g X s vA vB := h.but (But.of_grow k) (h.src.grow k)
theorem Lit.num (h : Lit w wz W g X s vA vB) (i : Nat) (u : Value) (s' : TSet) (hs : (setVals s vA vB).set i u = setVals s' vA vB) (h1 : s'.su = s.su) (h2 : s'.re = s.re) : Lit w wz (W.setCell ⟨X, i, none⟩ u) g X s' vA vB := by
  have k1 := h.n1
  have k2 := h.n2
  have k3 := h.n3
  refine ⟨hs ▸ h.bX.set i u, ?_, ?_, h.src.setFar (by simp; omega) u, h.b.setFar (by simpa using k2) u, h.ne, k1, k2, k3, by simpa [World.setCell] using h.n4⟩
  · rw [h1]; exact h.oA.far (by simpa using k1) u
  · rw [h2]; exact h.oB.far (by simpa using k1) u
theorem Own.slice {w0 w : World} {v : Value} {l : List Int} (h : Own w0 w v l) : ∃ A c, v = .slice A l.length c := by
  obtain ⟨A, c, e, _⟩ := h.is
  exact ⟨A, c, e⟩
/-- A number more in the first list. -/
theorem Lit.appA (h : Lit w wz W g X s vA (.slice none 0 0)) (t ty : TypeId) (ht : Try.prog.underlying t = some (.slice 3)) (z : Int) (hl : s.su.length ≤ 1000) :
    ∃ A m c w', (Builtin.append_ #[t, t] ty #[vA, .slice (some ⟨W.heap.size, 0, none⟩) 1 1]).run Try.prog (W.alloc (.cells #[.int .i64 z] 3)) = .ok (.slice A m c) w' ∧ w'.cell? ⟨X, 1, none⟩ = some vA ∧ w'.frozen? ⟨X, 1, none⟩ = false ∧
      Lit w wz (w'.setCell ⟨X, 1, none⟩ (.slice A m c)) g X { s with su := s.su ++ [z] } (.slice A m c) (.slice none 0 0) := by
  have k1 := h.n1
  have k2 := h.n2
  have k3 := h.n3
  obtain ⟨v', w', hrun, ho, hg, _⟩ := run_append_one wz W t ty ht vA s.su z h.oA (by omega) h.n4
  obtain ⟨A, c, rfl⟩ := ho.slice
  have hne : ∀ k, vA.ownBlock = some k → wz.heap.size ≤ k := fun k hk => (h.oA.blk hk).1
  have hb : Blk w' X 24 (setVals s vA (.slice none 0 0)) := (hg.block X (by have := h.bX.lt; simp; omega) (fun e => by have := hne X e.symm; omega)).trans (h.bX.grow ((Grow.refl _).alloc _))
  have hB : But g w w' := (h.b.alloc _).own hg (fun b hb => by have := hne b hb; omega)
  have hS : Src w' g := (h.src.grow ((Grow.refl _).alloc _)).own hg (fun e => by have := hne g e; omega)
  refine ⟨A, _, c, w', hrun, hb.cell 1, hb.free 1, hb.set 1 _, ho.far (by simpa using k1) _, ?_, hS.setFar (by simp; omega) _, hB.setFar (by simpa using k2) _, (fun _ _ e => by cases e), k1, k2, k3, ?_⟩
  · have hr : s.re = [] := by
      obtain ⟨A', c', e⟩ := h.oB.slice
      simp only [Value.slice.injEq] at e
      exact List.eq_nil_of_length_eq_zero e.2.1.symm
    show Own _ _ _ s.re
    rw [hr]; exact Own.nil _ _
  · have h1 := hg.size
    have h2 := h.n4
    simp [World.setCell] at h1 ⊢
    omega
/-- A number more in the second list. -/
theorem Lit.appB (h : Lit w wz W g X s vA vB) (t ty : TypeId) (ht : Try.prog.underlying t = some (.slice 3)) (z : Int) (hl : s.re.length ≤ 1000) :
    ∃ A m c w', (Builtin.append_ #[t, t] ty #[vB, .slice (some ⟨W.heap.size, 0, none⟩) 1 1]).run Try.prog (W.alloc (.cells #[.int .i64 z] 3)) = .ok (.slice A m c) w' ∧ w'.cell? ⟨X, 8, none⟩ = some vB ∧ w'.frozen? ⟨X, 8, none⟩ = false ∧
      Lit w wz (w'.setCell ⟨X, 8, none⟩ (.slice A m c)) g X { s with re := s.re ++ [z] } vA (.slice A m c) := by
  have k1 := h.n1
  have k2 := h.n2
  have k3 := h.n3
  obtain ⟨v', w', hrun, ho, hg, hw⟩ := run_append_one wz W t ty ht vB s.re z h.oB (by omega) h.n4
  obtain ⟨A, c, rfl⟩ := ho.slice
  have hne : ∀ k, vB.ownBlock = some k → wz.heap.size ≤ k := fun k hk => (h.oB.blk hk).1
  have hb : Blk w' X 24 (setVals s vA vB) := (hg.block X (by have := h.bX.lt; simp; omega) (fun e => by have := hne X e.symm; omega)).trans (h.bX.grow ((Grow.refl _).alloc _))
  have hB : But g w w' := (h.b.alloc _).own hg (fun b hb => by have := hne b hb; omega)
  have hS : Src w' g := (h.src.grow ((Grow.refl _).alloc _)).own hg (fun e => by have := hne g e; omega)
  have hA : Own wz w' vA s.su := (h.oA.kept ((Grow.refl _).alloc _)).keep fun k hk => hg.block k (by have := (h.oA.blk hk).2.1; simp; omega) (fun e => h.ne k hk e.symm)
  refine ⟨A, _, c, w', hrun, hb.cell 8, hb.free 8, hb.set 8 _, hA.far (by simpa using k1) _, ho.far (by simpa using k1) _, hS.setFar (by simp; omega) _, hB.setFar (by simpa using k2) _, fun k hk e => ?_, k1, k2, k3, ?_⟩
  · rcases hw with hw | hw
    · rw [hw] at e; exact h.ne k hk e
    · rw [hw] at e
      have := (h.oA.blk hk).2.1
      injection e with e
      omega
  · have h1 := hg.size
    have h2 := h.n4
    simp [World.setCell] at h1 ⊢
    omega
end

theorem Total_any (v : Value) (zs : List Int) (w : World) (h : IsInts w v zs) (hz : ∀ z ∈ zs, 0 ≤ z ∧ z ≤ 9) (hl : zs.length ≤ 1000) : Calls Try.prog 89 #[v] w (Same w (.int .i64 (sumI zs))) := by
  obtain ⟨A, c, rfl, hc, hm, hr⟩ := h
  unfold maxLen at hm
  have HZ := hid hz
  clear hz
  have HB := hid (fun (k : Nat) => (show 0 ≤ sumI (zs.take k) ∧ sumI (zs.take k) ≤ 9 * (zs.take k).length by
    have hz : ∀ z ∈ zs.take k, 0 ≤ z ∧ z ≤ 9 := fun z h => HZ.out z (List.mem_of_mem_take h)
    generalize zs.take k = l at *
    induction l with
    | nil => simp [sumI]
    | cons x l ih => have := ih fun z h => hz z (by simp [h]); have := hz x (by simp); rw [sumI_cons, List.length_cons]; omega))
  go_enter Try.func89, Try.ntmps89
  go_wp2
  go_loop [3, 4] (fun z i => ∃ k : Nat, k ≤ zs.length ∧ i = .int .i64 (k : Int) ∧ z = .int .i64 (sumI (zs.take k))) (fun _ i => zs.length - (intOf i).toNat)
  case atStart => exact ⟨0, Nat.zero_le _, rfl, by simp [sumI]⟩
  case round =>
    obtain ⟨k, hk, rfl, rfl⟩ := hrel
    have hb := HB.out k
    rw [List.length_take] at hb
    by_cases hlt : k < zs.length
    · obtain ⟨ad, rfl, _, hx⟩ := hr.int hlt
      have i0 : (0 : Int) ≤ (k : Int) := by omega
      have i1 : (k : Int) < (zs.length : Int) := by omega
      have h1 := HZ.out zs[k] (List.getElem_mem hlt)
      have HT := hid (sumI_take zs hlt)
      have s0 : 0 ≤ sumI (zs.take k) := hb.1
      have s1 : sumI (zs.take k) ≤ 9000 := by omega
      clear hb
      generalize sumI (zs.take k) = S at *
      generalize zs[k] = z at *
      go_wp2
      exact ⟨⟨k + 1, by omega, by go_num, by rw [HT.out]⟩, by simp only [intOf]; omega⟩
    · obtain rfl : k = zs.length := by omega
      rw [List.take_length]
      go_wp2
      go_ret
      exact ⟨rfl, rfl⟩
theorem Plain_any (v : Value) (s : TSet) (w : World) (h : IsSet w v s) (hz : ∀ z ∈ s.su, 0 ≤ z ∧ z ≤ 9) (hl : s.su.length ≤ 20) (hw : 0 ≤ s.wi ∧ s.wi ≤ 9) (hd : 0 ≤ s.dr ∧ s.dr ≤ 9) : Calls Try.prog 34 #[v] w (Gives w (.int .i64 (plainI s))) := by
  have hb : 0 ≤ sumI s.su ∧ sumI s.su ≤ 9 * s.su.length := by
    generalize s.su = l at *
    induction l with
    | nil => simp [sumI]
    | cons x l ih =>
      have := ih (fun z h => hz z (by simp [h])) (by simp at hl; omega)
      have := hz x (by simp)
      rw [sumI_cons, List.length_cons]; omega
  have HI := hid h
  obtain ⟨A, c, B, d, rfl, h1, h2⟩ := h.open_
  obtain ⟨_, _, e1, c1, m1, r1⟩ := h1
  obtain ⟨_, _, e2, d1, m2, r2⟩ := h2
  injection e1 with e1 _ e1'
  injection e2 with e2 _ e2'
  subst e1 e1' e2 e2'
  unfold maxLen at m1 m2
  have HG0 := hid (show Grow w (w.alloc (.cells #[.int .i64 s.pl, .slice A s.su.length c, .int .i64 s.wi, .int .i64 s.dr, .int .i64 s.fl, .int .i64 s.co, .int .i64 s.me, .int .i64 s.de, .slice B s.re.length d] 24)) from (Grow.refl w).alloc _)
  have HB0 := hid (show Blk (w.alloc (.cells #[.int .i64 s.pl, .slice A s.su.length c, .int .i64 s.wi, .int .i64 s.dr, .int .i64 s.fl, .int .i64 s.co, .int .i64 s.me, .int .i64 s.de, .slice B s.re.length d] 24)) w.heap.size 24 (setVals s (.slice A s.su.length c) (.slice B s.re.length d)) from heap_alloc_new w _)
  clear h
  have TT := hid (fun W (hg : Grow w W) => Total_any (.slice A s.su.length c) s.su W ⟨A, c, rfl, c1, by unfold maxLen; omega, r1.grow hg⟩ hz (by omega))
  have f1 : IntKind.i64.wrap (sumI s.su + s.wi) = sumI s.su + s.wi := IntWalk.i64_in _ (by omega)
  have f2 : IntKind.i64.wrap (sumI s.su + s.wi + s.dr) = sumI s.su + s.wi + s.dr := IntWalk.i64_in _ (by omega)
  have HE := hid (show sumI s.su + s.wi + s.dr = plainI s by unfold plainI; omega)
  clear hz hb
  go_enter Try.func34, Try.ntmps34
  go_wp2
  generalize w.alloc (.cells #[.int .i64 s.pl, .slice A s.su.length c, .int .i64 s.wi, .int .i64 s.dr, .int .i64 s.fl, .int .i64 s.co, .int .i64 s.me, .int .i64 s.de, .slice B s.re.length d] 24) = wz at *
  obtain ⟨k0, k1, k2, k3, k4, k5, k6, k7, k8⟩ := set_cells HB0.out
  go_quiet ((go_at_call 89; exact q_same (TT.out _ (HG0.out.drewN _))))
  go_wp2
  go_ret
  exact ⟨by rw [← HE.out]; rfl, HG0.out.drewN _⟩
end Go.Proofs.Ytjiahcfegfimmaa
