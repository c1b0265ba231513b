/-
  Parts of the proof: Below, App, Clone.
-/
import Derived.Test.YtjiahcfegfimmaaKnown04
import Derived.Test.YtjiahcfegfimmaaKnown07
import Derived.Test.YtjiahcfegfimmaaKnown02
/-
  Walks of below, Word and Draw.
-/
namespace Go.Proofs.Ytjiahcfegfimmaa
open Go.RowKit

theorem Word_any (x : Int) (w : World) : Calls Try.prog 103 #[.int .u64 x] w (Same w (.tuple #[.int .i64 (wordZ (stepZ x)), .int .u64 (stepZ x)])) := by
  go_enter Try.func103, Try.ntmps103
  go_wp2
  go_ret2
  exact ⟨rfl, rfl⟩

/-- A source of words: the block of its state. -/
def Lcg (w : World) (X : Nat) (x : Int) : Prop := Blk w X 83 [.int .u64 x]
def cellZ (w : World) (X : Nat) : Int := match w.cell? ⟨X, 0, none⟩ with
  | some (.int _ z) => z
  | _ => 0
theorem cellZ_of {w : World} {X : Nat} {x : Int} (h : Lcg w X x) : cellZ w X = x := by
  unfold cellZ
  rw [Blk.cell h 0]
  rfl
def DrawRes (X : Nat) (n x : Int) (w : World) (e : Ending) (w' : World) : Prop := e = .returned (.int .i64 (drawV n x)) ∧ Lcg w' X (drawX n x) ∧ But X w w'
theorem tmod_nonneg {a b : Int} (h : 0 ≤ a) : a.tmod b = a % b := Int.tmod_eq_emod_of_nonneg h

set_option maxRecDepth 100000 in
theorem below_any (X : Nat) (n x : Int) (w : World) (h : Lcg w X x) (n0 : 2 ≤ n) (n1 : n ≤ 1000) : Calls Try.prog 78 #[.pointer (some ⟨X, 0, none⟩), .int .i64 n] w (DrawRes X n x w) := by
  go_enter Try.func78, Try.ntmps78
  go_wp2
  go_loopw [6] (fun _ wr => ∃ y, Lcg wr X y ∧ But X w wr ∧ drawV n y = drawV n x ∧ drawX n y = drawX n x) (fun _ wr => drawK n (cellZ wr X))
  case atStart => exact ⟨x, h, But.refl _ _, rfl, rfl⟩
  case round =>
    clear h
    obtain ⟨y, hl, hb, hv, hx⟩ := hrel
    have c0 := Blk.cell hl 0
    have f0 := Blk.free hl 0
    simp only [List.getElem?_cons_zero] at c0
    have hz := hid (cellZ_of hl)
    have hl2 : Lcg (wr.setCell ⟨X, 0, none⟩ (.int .u64 (stepZ y))) X (stepZ y) := Blk.set hl 0 (.int .u64 (stepZ y))
    have hb2 : But X w (wr.setCell ⟨X, 0, none⟩ (.int .u64 (stepZ y))) := hb.set 0 _
    have hz2 := hid (cellZ_of hl2)
    have HL := hid (And.intro hl2 hb2)
    clear hl hb hl2 hb2
    by_cases hok : okZ n y
    · have hd := draw_ok hok
      have hlt : wrap64 (IntKind.u64.wrap (IntKind.u64.wrap (y * 6364136223846793005) + 1442695040888963407) / 8589934592) < wrap64 (2147483648 - 2147483648 % n) := hok
      have hw := (wordZ_eq (step_u64 y)).2.1
      have FIN := hid (show ∀ z, z = (wordZ (stepZ y)).tmod n → DrawRes X n x w (.returned (.int .i64 z)) (wr.setCell ⟨X, 0, none⟩ (.int .u64 (stepZ y))) from fun z hz => by
        subst hz
        refine ⟨by rw [tmod_nonneg hw, ← hv, hd.2], ?_, HL.out.2⟩
        rw [← hx, hd.1]
        exact HL.out.1)
      clear hok hd hw hv hx
      go_wp2
      go_ret
      exact FIN.out _ rfl
    · have hd := hid (draw_no n0 n1 hok)
      have hlt : ¬ wrap64 (IntKind.u64.wrap (IntKind.u64.wrap (y * 6364136223846793005) + 1442695040888963407) / 8589934592) < wrap64 (2147483648 - 2147483648 % n) := hok
      have HV := hid (And.intro hv hx)
      clear hok hv hx
      go_wp2
      refine ⟨⟨stepZ y, HL.out.1, HL.out.2, by rw [hd.out.2.1, HV.out.1], by rw [hd.out.1, HV.out.2]⟩, ?_⟩
      have e1 := hz.out
      have e2 := hz2.out
      have e3 := hd.out.2.2
      show drawK n (cellZ (wr.setCell ⟨X, 0, none⟩ (.int .u64 (stepZ y))) X) < drawK n (cellZ wr X)
      rw [e1, e2]
      exact e3

theorem lim_quo {n : Int} (h0 : 2 ≤ n) (h1 : n ≤ 1000) : 2147483648 / n * n = limZ n := by
  have h := (limZ_eq h0 h1).1
  have := Int.mul_ediv_add_emod 2147483648 n
  rw [h, Int.mul_comm]
  omega
set_option maxRecDepth 100000 in
theorem Draw_any (n x : Int) (w : World) (n0 : 2 ≤ n) (n1 : n ≤ 1000) : Calls Try.prog 80 #[.int .u64 x, .int .i64 n] w (Same w (.tuple #[.int .i64 (drawV n x), .int .u64 (drawX n x)])) := by
  have hq := lim_quo n0 n1
  have hl := limZ_eq n0 n1
  have q0 : 0 ≤ 2147483648 / n * n ∧ 2147483648 / n * n ≤ 2147483648 := by rw [hq]; omega
  have q1 := Int.ediv_nonneg (show (0 : Int) ≤ 2147483648 by omega) (show 0 ≤ n by omega)
  have q2 : 2147483648 / n ≤ 2147483648 := Int.ediv_le_self _ (by omega)
  have HQ := hid hq
  clear hq hl
  go_enter Try.func80, Try.ntmps80
  go_wp2
  go_loop [0, 7, 8, 13] (fun z _ _ _ => ∃ y, z = .int .u64 y ∧ drawV n y = drawV n x ∧ drawX n y = drawX n x) (fun z _ _ _ => drawK n (intOf z))
  case atStart => exact ⟨x, rfl, rfl, rfl⟩
  case round =>
    obtain ⟨y, rfl, hv, hx⟩ := hrel
    have hw := (wordZ_eq (step_u64 y)).2.1
    by_cases hok : okZ n y
    · have hd := draw_ok hok
      have hlt : wordZ (stepZ y) < 2147483648 / n * n := by rw [HQ.out]; exact hok
      have hdz := hid hd
      have HV := hid (And.intro hv hx)
      have FIN := hid (show ∀ z y', z = wordZ (stepZ y) % n → y' = stepZ y → Same w (.tuple #[.int .i64 (drawV n x), .int .u64 (drawX n x)]) (.returned (.tuple #[.int .i64 z, .int .u64 y'])) w from fun z y' hz hy => by
        subst hz hy
        refine ⟨?_, rfl⟩
        rw [← hv, ← hx, hd.1, hd.2])
      clear hd hok hv hx
      go_wp2_with (go_at_call 103; refine (Word_any y _).mono ?_; rintro e w1 ⟨rfl, rfl⟩)
      go_ret2
      exact FIN.out _ _ rfl rfl
    · have hd := hid (draw_no n0 n1 hok)
      have hlt : ¬ wordZ (stepZ y) < 2147483648 / n * n := by rw [HQ.out]; exact hok
      have HV := hid (And.intro hv hx)
      clear hok hv hx
      go_wp2_with (go_at_call 103; refine (Word_any y _).mono ?_; rintro e w1 ⟨rfl, rfl⟩)
      refine ⟨⟨stepZ y, rfl, by rw [hd.out.2.1, HV.out.1], by rw [hd.out.1, HV.out.2]⟩, ?_⟩
      exact hd.out.2.2
end Go.Proofs.Ytjiahcfegfimmaa

/-
  Appending a list of integers to a slice of the call's own; as laws for the walk.
-/
namespace Go.Proofs.Ytjiahcfegfimmaa
open Go.RowKit

theorem ints_one {zs : List Int} : ∀ u ∈ ints zs, u.oneCell' = true := fun u hu => by
  obtain ⟨z, _, rfl⟩ := List.mem_map.1 hu
  simp [Value.oneCell']

theorem run_append_ints (w0 w : World) (t ty : TypeId) (ht : Try.prog.underlying t = some (.slice 3)) (v x : Value) (os zs : List Int) (hown : Own w0 w v os) (hx : IsInts w x zs) (hl : os.length + zs.length ≤ 1000000000000) (hg : Grow w0 w) :
    ∃ v' w', (Builtin.append_ #[t, t] ty #[v, x]).run Try.prog w = .ok v' w' ∧ Own w0 w' v' (os ++ zs) ∧ Grow w0 w' ∧ w.grownBy w' v.ownBlock := by
  obtain ⟨i0, hi0, hz0, hz1, hz2⟩ := info_parts infoInt
  obtain ⟨A, c, rfl, hc, hm, hr⟩ := hx
  cases A with
  | none =>
    have hz : zs = [] := by
      cases zs with
      | nil => rfl
      | cons z zs => obtain ⟨ad, h, _⟩ := hr.int (k := 0) (by simp); cases h
    subst hz
    refine ⟨v, w, ?_, by simpa using hown, hg, World.grownBy.refl w _⟩
    rcases hown.2 with ⟨rfl, hn⟩ | ⟨g, cap, cur, rfl, _, _, hnc, _⟩
    · simp [Builtin.append_, run_underlying ht, sizeOf, typeInfo, hi0, Builtin.lenOf, Builtin.firstCells]
    · simp [Builtin.append_, run_underlying ht, sizeOf, typeInfo, hi0, Builtin.lenOf, Builtin.firstCells, hnc, storeCells]
  | some ad =>
    have hcells : ∀ (j : Nat) (u : Value), (ints zs)[j]? = some u → w.cell? (ad.add j) = some u := fun j u hu => by
      obtain ⟨ad', h1, _, h2⟩ := hr j u hu
      obtain rfl := Option.some.inj h1
      exact h2
    obtain ⟨v', w', hrun, h1, h2, _⟩ := run_append_own (P := Try.prog) w w0.heap.size t ty 3 i0 (.int .i64 0) 1 8 ht hi0 hz0 hz1 hz2 rfl (by decide) v os.length (ints os) hown ad zs.length c (ints zs) (by simp) hcells ints_one (by unfold maxLen at *; omega) (by omega) hg.size
    refine ⟨v', w', hrun, ?_, hg.own h2 hown.block, h2⟩
    unfold Own
    rw [ints, List.map_append, List.length_append]
    exact h1

section
variable {ops : Array Oper} {rest : List Oper} {o : Oper} {a : Act} {Q : Exit → Act → World → Prop}
theorem wpList_append_ints (w0 w : World) (hgd : o.guard = none) (s x : Operand) (t : TypeId)
    (ho : o.op = .call { callee := .builtin .append, args := #[s, x], argTypes := #[t, t] }) (ht : Try.prog.underlying t = some (.slice 3))
    (v xv : Value) (os zs : List Int) (hs : a.eval s = v) (hown : Own w0 w v os) (hxe : a.eval x = xv) (hx : IsInts w xv zs) (hl : os.length + zs.length ≤ 1000000000000) (hg : Grow w0 w)
    (h : ∀ v' w', Own w0 w' v' (os ++ zs) → Grow w0 w' → w.grownBy w' v.ownBlock → wpList Try.prog ops Q rest (a.put o.dst v') w') :
    wpList Try.prog ops Q (o :: rest) a w := by
  refine wpList_plain hgd fun K hK => ?_
  obtain ⟨v', w', hr, h2, h3, h4⟩ := run_append_ints w0 w t o.type ht v xv os zs hown hx hl hg
  unfold Oper.wp execOp
  simp only [ho, resolve, invoke, builtin, Sem.run_bind, Sem.run_pure, Result.andThen_ok, List.map_toArray, List.map_cons, List.map_nil, hs, hxe, hr]
  exact hK _ _ (h v' w' h2 h3 h4)
end
/-- The empty slice literal. -/
theorem Own.lit0 {w0 w : World} (hg : Grow w0 w) : Own w0 (w.alloc (.cells #[] 3)) (.slice (some ⟨w.heap.size, 0, none⟩) 0 0) [] :=
  ⟨rfl, .inr ⟨w.heap.size, 0, #[], rfl, hg.size, heap_alloc_new w _, Nat.le_refl _, Nat.zero_le _, rfl, rfl⟩⟩
end Go.Proofs.Ytjiahcfegfimmaa

/-
  The walk of slices.Clone at integers; what a slice of the call's own bears.
-/
namespace Go.Proofs.Ytjiahcfegfimmaa
open Go.RowKit

def CloneRes (w : World) (zs : List Int) (e : Ending) (w' : World) : Prop := ∃ v, e = .returned v ∧ Own w w' v zs ∧ Grow w w'
theorem clone_any (v : Value) (zs : List Int) (w : World) (h : IsInts w v zs) (hl : zs.length ≤ 1000000) : Calls Try.prog 79 #[v] w (CloneRes w zs) := by
  have HI := hid h
  obtain ⟨A, c, rfl, hc, hm, hr⟩ := h
  unfold maxLen at hm
  cases A with
  | none =>
    have hz : zs = [] := by
      cases zs with
      | nil => rfl
      | cons z zs => obtain ⟨ad, h, _⟩ := hr.int (k := 0) (by simp); cases h
    subst hz
    have hq := fun W => Lib.run_eql_slice_nil (P := Try.prog) W 22 3 none 0 c 0 0 Try.underlying22
    go_enter Try.func79, Try.ntmps79
    go_wp2
    go_ret
    exact ⟨_, rfl, Own.nil _ _, Grow.refl _⟩
  | some ad =>
    have hq := fun W => Lib.run_eql_slice_nil (P := Try.prog) W 22 3 (some ad) zs.length c 0 0 Try.underlying22
    have hg0 : Grow w (w.alloc (.cells #[] 3)) := (Grow.refl _).alloc _
    have HO := hid (Own.lit0 (Grow.refl w))
    go_enter Try.func79, Try.ntmps79
    go_wp2_with (at_builtin; refine wpList_append_ints w _ rfl (.tmp 5) (.tmp 6) _ rfl Try.underlying22 _ _ [] zs rfl HO.out rfl (HI.out.grow hg0) (by simp; omega) hg0 ?_; intro v' w' ho hg' _)
    go_ret
    exact ⟨v', rfl, by simpa using ho, hg'⟩
theorem Own.form {w0 w : World} {v : Value} {os : List Int} (h : Own w0 w v os) (hl : 0 < os.length) : ∃ g cap, v = .slice (some ⟨g, 0, none⟩) os.length cap ∧ w0.heap.size ≤ g ∧ os.length ≤ cap ∧ cap ≤ maxLen := by
  rcases h.2 with ⟨_, hn⟩ | ⟨g, cap, cur, e, hb, hh, h1, h2, _⟩
  · omega
  · exact ⟨g, cap, e, hb, h1, h2⟩
theorem Own.cell {w0 w : World} {g cap : Nat} {os : List Int} (h : Own w0 w (.slice (some ⟨g, 0, none⟩) os.length cap) os) {i : Nat} (hi : i < os.length) : w.cell? ⟨g, i, none⟩ = some (.int .i64 os[i]) := by
  rw [World.ownsRow.cellAt h i (by omega)]; simp [hi]
theorem Own.free {w0 w : World} {g n cap : Nat} {os : List Int} (h : w.ownsRow w0.heap.size 3 1 (.slice (some ⟨g, 0, none⟩) n cap) n (ints os)) (i : Nat) : w.frozen? ⟨g, i, none⟩ = false := World.ownsRow.frozenAt h i
theorem Own.set {w0 w : World} {g cap : Nat} {os : List Int} (h : Own w0 w (.slice (some ⟨g, 0, none⟩) os.length cap) os) (i : Nat) (z : Int) : Own w0 (w.setCell ⟨g, i, none⟩ (.int .i64 z)) (.slice (some ⟨g, 0, none⟩) os.length cap) (os.set i z) := by
  have h1 := (World.ownsRow.stored h i (.int .i64 z)).1
  unfold Own
  rw [ints, List.map_set, List.length_set]
  exact h1
/-- A part of a list of integers. -/
theorem ints_take {w : World} {A : Option Addr} {c : Nat} {zs : List Int} {n : Nat} (h : IsInts w (.slice A zs.length c) zs) (hn : n ≤ zs.length) : IsInts w (.slice A n c) (zs.take n) := by
  obtain ⟨A', c', e, h1, h2, h3⟩ := h
  injection e with e1 _ e3
  subst e1 e3
  refine ⟨A, c, by rw [List.length_take, Nat.min_eq_left hn], by rw [List.length_take]; omega, h2, ?_⟩
  rw [ints, List.map_take]
  exact h3.take n
end Go.Proofs.Ytjiahcfegfimmaa
