/-
  The walk of Rising: a list in ascending order.
-/
import Derived.Test.YtjiahcfegfimmaaKnown08
import Derived.Test.YtjiahcfegfimmaaKnown13
import Derived.BigQuiet
import Derived.Deep.RegionLaw
import Derived.Deep.RegionHeld3
import Derived.Outline
namespace Go.Proofs.Ytjiahcfegfimmaa
open Go.RowKit

theorem ints_rd {w : World} {A : Option Addr} {n c : Nat} {zs : List Int} (h : IsInts w (.slice A n c) zs) : Rd w A (ints zs) := by
  obtain ⟨_, _, e, _, _, r⟩ := h
  injection e with e1 _ e2
  subst e1 e2
  exact r
/-- A list of one number, in a block. -/
theorem ints_cell {w : World} {b : Nat} {x : Int} (h : w.heap[b]? = some (.cells #[.int .i64 x] 3 (0, 0))) : IsInts w (.slice (some ⟨b, 0, none⟩) 1 1) [x] :=
  Blk.is (zs := [x]) (e := 3) (by unfold Blk; simpa using h) (by unfold maxLen; simp)
/-- Three lists behind one another, the middle one of one number: the literals laid in whatever order. -/
def Cat3 (w : World) (t ty1 ty2 ty3 : TypeId) (x y : Value) (zs : List Int) (n : Nat) (w0 : World) (b0 : Nat) (lay : World → World) (b1 : World → Nat) : Prop :=
  ∃ v1 w1 v2 w2 A c w3, (Builtin.append_ #[t, t] ty1 #[.slice (some ⟨b0, 0, none⟩) 0 0, x]).run Try.prog w0 = .ok v1 w1 ∧
    (Builtin.append_ #[t, t] ty2 #[v1, .slice (some ⟨b1 w1, 0, none⟩) 1 1]).run Try.prog (lay w1) = .ok v2 w2 ∧
    (Builtin.append_ #[t, t] ty3 #[v2, y]).run Try.prog w2 = .ok (.slice A n c) w3 ∧ IsInts w3 (.slice A n c) zs ∧ Grow w w3 ∧ Grow w w1 ∧ Grow w w2
section
variable {t ty1 ty2 ty3 : TypeId} {x y : Value} {xs ys : List Int} {e : Int} {w : World} {n : Nat}
theorem cat_end {w2 : World} {v2 : Value} (ht : Try.prog.underlying t = some (.slice 3)) (hy : IsInts w y ys) (hl : xs.length + ys.length ≤ 1000000) (o2 : Own w w2 v2 (xs ++ [e])) (g2 : Grow w w2) (hn : xs.length + ys.length + 1 = n) :
    ∃ A c w3, (Builtin.append_ #[t, t] ty3 #[v2, y]).run Try.prog w2 = .ok (.slice A n c) w3 ∧ IsInts w3 (.slice A n c) (xs ++ [e] ++ ys) ∧ Grow w w3 := by
  obtain ⟨v3, w3, r3, o3, g3, b3⟩ := run_append_ints w w2 t ty3 ht v2 y _ ys o2 (hy.grow g2) (by simp; omega) g2
  obtain ⟨A, c, rfl, _⟩ := id o3.is
  have hL : (xs ++ [e] ++ ys).length = n := by simp; omega
  have i3 := o3.is
  rw [hL] at r3 i3
  exact ⟨A, c, w3, r3, i3, g3⟩
/-- The number laid behind the first append. -/
theorem cat_a (ht : Try.prog.underlying t = some (.slice 3)) (hx : IsInts w x xs) (hy : IsInts w y ys) (hl : xs.length + ys.length ≤ 1000000) (hn : xs.length + ys.length + 1 = n) :
    Cat3 w t ty1 ty2 ty3 x y (xs ++ [e] ++ ys) n (w.alloc (.cells #[] 3)).drew w.heap.size (fun w1 => w1.alloc (.cells #[.int .i64 e] 3)) (fun w1 => w1.heap.size) := by
  have g0 : Grow w (w.alloc (.cells #[] 3)).drew := ((Grow.refl w).alloc _).drew
  have o0 : Own w (w.alloc (.cells #[] 3)).drew (.slice (some ⟨w.heap.size, 0, none⟩) 0 0) [] := (Own.lit0 (Grow.refl w)).keep fun _ _ => rfl
  obtain ⟨v1, w1, r1, o1, g1, b1⟩ := run_append_ints w _ t ty1 ht _ x [] xs o0 (hx.grow g0) (by simp; omega) g0
  rw [List.nil_append] at o1
  have i1 : IsInts (w1.alloc (.cells #[.int .i64 e] 3)) (.slice (some ⟨w1.heap.size, 0, none⟩) 1 1) [e] := ints_cell (heap_alloc_new w1 _)
  obtain ⟨v2, w2, r2, o2, g2, b2⟩ := run_append_ints w (w1.alloc (.cells #[.int .i64 e] 3)) t ty2 ht v1 _ xs [e] (o1.kept ((Grow.refl w1).alloc _)) i1 (by simp; omega) (g1.alloc _)
  obtain ⟨A, c, w3, r3, i3, g3⟩ := cat_end (ty3 := ty3) ht hy hl o2 g2 hn
  exact ⟨v1, w1, v2, w2, A, c, w3, r1, r2, r3, i3, g3, g1, g2⟩
/-- The empty literal laid first, then the number, then the first append. -/
theorem cat_b (ht : Try.prog.underlying t = some (.slice 3)) (hx : IsInts w x xs) (hy : IsInts w y ys) (hl : xs.length + ys.length ≤ 1000000) (hn : xs.length + ys.length + 1 = n) :
    Cat3 w t ty1 ty2 ty3 x y (xs ++ [e] ++ ys) n ((w.alloc (.cells #[] 3)).alloc (.cells #[.int .i64 e] 3)).drew w.heap.size (fun w1 => w1) (fun _ => w.heap.size + 1) := by
  have g0 : Grow w ((w.alloc (.cells #[] 3)).alloc (.cells #[.int .i64 e] 3)).drew := (((Grow.refl w).alloc _).alloc _).drew
  have o0 : Own w ((w.alloc (.cells #[] 3)).alloc (.cells #[.int .i64 e] 3)).drew (.slice (some ⟨w.heap.size, 0, none⟩) 0 0) [] := ((Own.lit0 (Grow.refl w)).kept ((Grow.refl _).alloc _)).keep fun _ _ => rfl
  obtain ⟨v1, w1, r1, o1, g1, b1⟩ := run_append_ints w _ t ty1 ht _ x [] xs o0 (hx.grow g0) (by simp; omega) g0
  rw [List.nil_append] at o1
  have hb : ((w.alloc (.cells #[] 3)).alloc (.cells #[.int .i64 e] 3)).drew.heap[w.heap.size + 1]? = some (.cells #[.int .i64 e] 3 (0, 0)) := by
    have := heap_alloc_new (w.alloc (.cells #[] 3)) (.cells #[.int .i64 e] 3)
    rw [show (w.alloc (.cells #[] 3)).heap.size = w.heap.size + 1 by simp] at this
    exact this
  have i1 : IsInts w1 (.slice (some ⟨w.heap.size + 1, 0, none⟩) 1 1) [e] := ints_cell ((b1.block _ (lt_of_block hb) (fun h => by simp [Value.ownBlock] at h)).trans hb)
  obtain ⟨v2, w2, r2, o2, g2, b2⟩ := run_append_ints w w1 t ty2 ht v1 _ xs [e] o1 i1 (by simp; omega) g1
  obtain ⟨A, c, w3, r3, i3, g3⟩ := cat_end (ty3 := ty3) ht hy hl o2 g2 hn
  exact ⟨v1, w1, v2, w2, A, c, w3, r1, r2, r3, i3, g3, g1, g2⟩
/-- The number laid first. -/
theorem cat_c (ht : Try.prog.underlying t = some (.slice 3)) (hx : IsInts w x xs) (hy : IsInts w y ys) (hl : xs.length + ys.length ≤ 1000000) (hn : xs.length + ys.length + 1 = n) :
    Cat3 w t ty1 ty2 ty3 x y (xs ++ [e] ++ ys) n ((w.alloc (.cells #[.int .i64 e] 3)).alloc (.cells #[] 3)).drew (w.heap.size + 1) (fun w1 => w1) (fun _ => w.heap.size) := by
  have g0 : Grow w ((w.alloc (.cells #[.int .i64 e] 3)).alloc (.cells #[] 3)).drew := (((Grow.refl w).alloc _).alloc _).drew
  have hs : (w.alloc (.cells #[.int .i64 e] 3)).heap.size = w.heap.size + 1 := by simp
  have o0 : Own w ((w.alloc (.cells #[.int .i64 e] 3)).alloc (.cells #[] 3)).drew (.slice (some ⟨w.heap.size + 1, 0, none⟩) 0 0) [] := by
    have := Own.lit0 (w := w.alloc (.cells #[.int .i64 e] 3)) ((Grow.refl w).alloc _)
    rw [hs] at this
    exact this.keep fun _ _ => rfl
  obtain ⟨v1, w1, r1, o1, g1, b1⟩ := run_append_ints w _ t ty1 ht _ x [] xs o0 (hx.grow g0) (by simp; omega) g0
  rw [List.nil_append] at o1
  have hb : ((w.alloc (.cells #[.int .i64 e] 3)).alloc (.cells #[] 3)).drew.heap[w.heap.size]? = some (.cells #[.int .i64 e] 3 (0, 0)) :=
    ((Grow.refl (w.alloc (.cells #[.int .i64 e] 3))).alloc (.cells #[] 3)).blk_some (heap_alloc_new w _)
  have i1 : IsInts w1 (.slice (some ⟨w.heap.size, 0, none⟩) 1 1) [e] := ints_cell ((b1.block _ (lt_of_block hb) (fun h => by simp [Value.ownBlock] at h)).trans hb)
  obtain ⟨v2, w2, r2, o2, g2, b2⟩ := run_append_ints w w1 t ty2 ht v1 _ xs [e] o1 i1 (by simp; omega) g1
  obtain ⟨A, c, w3, r3, i3, g3⟩ := cat_end (ty3 := ty3) ht hy hl o2 g2 hn
  exact ⟨v1, w1, v2, w2, A, c, w3, r1, r2, r3, i3, g3, g1, g2⟩
end

/-- An append whose run is known; what it asks of the place is said apart. -/
theorem step_append_eq {P : Program} {ops : Array Oper} {o : Oper} {a : Act} {w w0 : World} {K : Act → World → Prop} {Q : Exit → Act → World → Prop} {E : Prop} {t ty : TypeId} {u y v' : Value} {w' : World}
    (hrun : (Builtin.append_ #[t, t] ty #[u, y]).run P w0 = .ok v' w') (s x : Operand)
    (hg : o.guard = none) (hop : o.op = Op.call { callee := Callee.builtin Builtin.append, args := #[s, x], argTypes := #[t, t] }) (hty : o.type = ty) (hs : a.eval s = u) (hx : a.eval x = y) (hw : w = w0)
    (hK : K (a.put o.dst v') w') : if Region.wanted o (yielded ops a.tmps) = true then Oper.wp P o a w K Q else E := by
  subst hw hty
  exact step_append_run hg s x t hop hs hx hrun hK
/-- One number put into an ascending list. -/
theorem ins_sorted {l : List Int} {x : Int} {k : Nat} (hs : l.Pairwise (· ≤ ·)) (hk : k ≤ l.length) (h1 : ∀ j (h : j < l.length), k ≤ j → x < l[j]) (h2 : ∀ h : k - 1 < l.length, 0 < k → l[k - 1] ≤ x) : (l.take k ++ [x] ++ l.drop k).Pairwise (· ≤ ·) := by
  have hP := List.pairwise_iff_getElem.1 hs
  have hlo : ∀ a ∈ l.take k, a ≤ x := fun a ha => by
    obtain ⟨i, hi, rfl⟩ := List.getElem_of_mem ha
    rw [List.length_take] at hi
    rw [List.getElem_take]
    have hx := h2 (by omega) (by omega)
    by_cases he : i = k - 1
    · subst he; exact hx
    · exact Int.le_trans (hP i (k - 1) (by omega) (by omega) (by omega)) hx
  have hhi : ∀ b ∈ l.drop k, x ≤ b := fun b hb => by
    obtain ⟨i, hi, rfl⟩ := List.getElem_of_mem hb
    rw [List.length_drop] at hi
    rw [List.getElem_drop]
    exact Int.le_of_lt (h1 _ (by omega) (by omega))
  rw [List.pairwise_append, List.pairwise_append]
  refine ⟨⟨hs.sublist (List.take_sublist _ _), List.pairwise_singleton _ _, fun a ha b hb => by rw [List.mem_singleton] at hb; subst hb; exact hlo a ha⟩, hs.sublist (List.drop_sublist _ _), fun a ha b hb => ?_⟩
  rcases List.mem_append.1 ha with ha | ha
  · exact Int.le_trans (hlo a ha) (hhi b hb)
  · rw [List.mem_singleton] at ha; subst ha; exact hhi b hb
theorem ins_perm (l : List Int) (x : Int) (k : Nat) : (l.take k ++ [x] ++ l.drop k).Perm (l ++ [x]) := by
  rw [List.append_assoc]
  refine (List.Perm.append_left _ List.perm_append_comm).trans ?_
  rw [← List.append_assoc, List.take_append_drop]
/-- The list in ascending order. -/
def RisIs (w : World) (l : List Int) (e : Ending) (w' : World) : Prop := ∃ v r, e = .returned v ∧ IsInts w' v r ∧ r.Pairwise (· ≤ ·) ∧ r.Perm l ∧ Grow w w'
def RisSt (w wr : World) (l : List Int) (k : Nat) (v : Value) (r : List Int) : Prop := IsInts wr v r ∧ r.Pairwise (· ≤ ·) ∧ r.Perm (l.take k) ∧ Grow w wr
theorem RisSt.len {w wr : World} {l : List Int} {k : Nat} {v : Value} {r : List Int} (h : RisSt w wr l k v r) (hk : k ≤ l.length) : r.length = k := by
  rw [h.2.2.1.length_eq, List.length_take]; omega

set_option maxRecDepth 100000 in
set_option maxHeartbeats 40000000 in
theorem Rising_any (v : Value) (l : List Int) (w : World) (h : IsInts w v l) (hl : l.length ≤ 100000) : Calls Try.prog 31 #[v] w (RisIs w l) := by
  have H := hid h
  obtain ⟨A, c, rfl, hcc, hm, _⟩ := h
  unfold maxLen at hm
  go_enter Try.func31, Try.ntmps31
  go_wp2
  go_loopw [3, 4, 5] (fun o i _ wr => ∃ (k : Nat) (r : List Int), k ≤ l.length ∧ i = .int .i64 (k : Int) ∧ RisSt w wr l k o r) (fun _ i _ _ => l.length - (intOf i).toNat)
  case atStart => exact ⟨0, [], Nat.zero_le _, rfl, IsInts.nil, List.Pairwise.nil, by simp, Grow.refl _⟩
  case round =>
    obtain ⟨k, r, hk, rfl, hst⟩ := hrel
    have HST := hid hst
    have hrl := hst.len hk
    obtain ⟨hi, hsr, hpr, hgr⟩ := hst
    have HI := hid hi
    obtain ⟨B, d, rfl, hd, hmd, _⟩ := hi
    unfold maxLen at hmd
    rw [hrl] at HI HST hd
    rw [hrl]
    have HRL := hid hrl
    clear hrl hsr hpr
    by_cases hlt : k < l.length
    · have j1 : (k : Int) < (l.length : Int) := by omega
      have j2 : (k : Int) ≤ 100000 := by omega
      go_wp2
      obtain ⟨x, hx⟩ : ∃ x, x = l[k] := ⟨_, rfl⟩
      have HX := hid hx
      clear hx
      go_loopw [5] (fun a w2 => ∃ m : Nat, m ≤ k ∧ a = .int .i64 (m : Int) ∧ (∀ j (h : j < r.length), m ≤ j → x < r[j]) ∧ Grow wr w2) (fun a _ => (intOf a).toNat)
      case atStart => exact ⟨k, Nat.le_refl _, rfl, fun j h hj => by have := HRL.out; omega, Grow.refl _⟩
      case round =>
        obtain ⟨m, hm2, rfl, hgt, hg2⟩ := hrel
        have HGT := hid hgt
        clear hgt
        have hLI := H.out.grow (hgr.trans hg2)
        have hRI := HI.out.grow hg2
        have r1 := ints_rd hLI
        have r2 := ints_rd hRI
        obtain ⟨ad1, rfl, -, t1⟩ := r1.int (k := k) hlt
        rw [← HX.out] at t1
        have q0 : (0 : Int) ≤ (k : Int) := by omega
        by_cases hgo : 0 < m ∧ ∀ h : m - 1 < r.length, x < r[m - 1]
        · obtain ⟨M, rfl⟩ : ∃ M, m = M + 1 := ⟨m - 1, by omega⟩
          have hMl : M < r.length := by have := HRL.out; omega
          have hxm : x < r[M] := hgo.2 hMl
          obtain ⟨ad2, rfl, -, t2⟩ := r2.int (k := M) hMl
          have NEW := hid (show ∀ j (h : j < r.length), M ≤ j → x < r[j] from fun j h hj => by
            by_cases he : j = M
            · subst he; exact hxm
            · exact HGT.out j h (by omega))
          have q1 : (0 : Int) < ((M + 1 : Nat) : Int) := by omega
          have q2 : (M : Int) < (k : Int) := by omega
          have q3 : (0 : Int) ≤ (M : Int) := by omega
          generalize r[M] = y at *
          clear hgo r1 r2
          go_wp2
          go_quiet (fail)
          go_wp2
          exact ⟨⟨M, by omega, by go_num, NEW.out, hg2.drewN _⟩, by simp only [intOf]; omega⟩
        · have hst2 : ∀ h : m - 1 < r.length, 0 < m → r[m - 1] ≤ x := fun h h0 => by
            by_cases hx : x < r[m - 1]
            · exact absurd ⟨h0, fun _ => hx⟩ hgo
            · omega
          obtain ⟨s1, i1⟩ := first_opt 22 Try.underlying22 (kz := (m : Int)) hRI hm2 rfl
          obtain ⟨BD, s2, i2⟩ := behind_opt 22 Try.underlying22 (kz := (m : Int)) hRI hm2 rfl
          have NEW := hid (fun W v (hi : IsInts W v (r.take m ++ [x] ++ r.drop m)) (hg : Grow w W) => (show RisSt w W l (k + 1) v (r.take m ++ [x] ++ r.drop m) from ⟨hi, ins_sorted HST.out.2.1 (by have := HRL.out; omega) HGT.out hst2, by
            refine (ins_perm r x m).trans ?_
            rw [List.take_succ_eq_append_getElem hlt, ← HX.out]
            exact HST.out.2.2.1.append_right _, hg⟩))
          have lt1 : (r.take m).length = m := by rw [List.length_take]; have := HRL.out; omega
          have lt2 : (r.drop m).length = k - m := by rw [List.length_drop]; have := HRL.out; omega
          have LT := hid (And.intro lt1 lt2)
          have I12 := hid (And.intro i1 i2)
          have QC := hid (And.intro hgr hg2)
          have HST2 := hid hst2
          clear lt1 lt2 i1 i2 hst2 r1
          have q5 : (m : Int) ≤ (k : Int) := by omega
          by_cases h0 : 0 < m
          · obtain ⟨M, hM⟩ : ∃ M, m - 1 = M := ⟨m - 1, rfl⟩
            have hMl : M < r.length := by have := HRL.out; omega
            have hxm : r[M] ≤ x := by have h := HST2.out (by omega) h0; simpa only [hM] using h
            obtain ⟨ad2, rfl, -, t2⟩ := r2.int (k := M) hMl
            have q1 : (0 : Int) < (m : Int) := by omega
            have q6 : (m : Int) - 1 = (M : Int) := by omega
            have q2 : (M : Int) < (k : Int) := by omega
            have q3 : (0 : Int) ≤ (M : Int) := by omega
            generalize r[M] = y at *
            clear hgo r2 hM
            go_wp2
            go_quiet (fail)
            go_wp2
            have hg4 := hg2.drewN nq
            have t3 : (wr.drewN nq).cell? (ad1.add k) = some (.int .i64 x) := t1
            have J1 := I12.out.1.drewN nq
            have J2 := I12.out.2.drewN nq
            clear t1 hLI hRI hg2
            generalize wr.drewN nq = w4 at *
            have hlen := LT.out
            obtain ⟨va1, wa1, va2, wa2, Aa, ca, wa3, ra1, ra2, ra3, ia, ga, ha, ma⟩ := cat_a (e := x) (ty1 := 22) (ty2 := 22) (ty3 := 22) Try.underlying22 J1 J2 (by rw [LT.out.1, LT.out.2]; omega) (n := k + 1) (by rw [LT.out.1, LT.out.2]; omega)
            obtain ⟨vb1, wb1, vb2, wb2, Ab, cb, wb3, rb1, rb2, rb3, ib, gb, hb, mb⟩ := cat_b (e := x) (ty1 := 22) (ty2 := 22) (ty3 := 22) Try.underlying22 J1 J2 (by rw [LT.out.1, LT.out.2]; omega) (n := k + 1) (by rw [LT.out.1, LT.out.2]; omega)
            obtain ⟨vc1, wc1, vc2, wc2, Ac, cc, wc3, rc1, rc2, rc3, ic, gc, hc, mc⟩ := cat_c (e := x) (ty1 := 22) (ty2 := 22) (ty3 := 22) Try.underlying22 J1 J2 (by rw [LT.out.1, LT.out.2]; omega) (n := k + 1) (by rw [LT.out.1, LT.out.2]; omega)
            dsimp only at ra2 rb2 rc2
            have KR := hid (fun W (hg : Grow w4 W) => (And.intro hg (hg.cell_some t3)))
            have RA := hid (And.intro ra1 (And.intro ra2 ra3))
            have RB := hid (And.intro rb1 (And.intro rb2 rb3))
            have RC := hid (And.intro rc1 (And.intro rc2 rc3))
            have FA := hid (NEW.out _ _ ia (QC.out.1.trans (hg4.trans ga)))
            have FB := hid (NEW.out _ _ ib (QC.out.1.trans (hg4.trans gb)))
            have FC := hid (NEW.out _ _ ic (QC.out.1.trans (hg4.trans gc)))
            clear ra1 ra2 ra3 rb1 rb2 rb3 rc1 rc2 rc3 ia ib ic J1 J2 hlen
            go_region_held3 (fun W => Grow w4 W ∧ W.cell? (ad1.add k) = some (.int .i64 x))
              (exact KR.out _ (by first | assumption | exact (Grow.refl _).drew | exact ((Grow.refl _).alloc _).drew | exact (((Grow.refl _).alloc _).alloc _).drew | exact ha.alloc _))
              (first
                | (refine step_append_eq RA.out.1 (.tmp 30) (.tmp 33) ?_ ?_ ?_ ?_ ?_ ?_ ?_; exact rfl; exact rfl; exact rfl; exact rfl; exact rfl; (with_reducible exact rfl))
                | (refine step_append_eq RB.out.1 (.tmp 30) (.tmp 33) ?_ ?_ ?_ ?_ ?_ ?_ ?_; exact rfl; exact rfl; exact rfl; exact rfl; exact rfl; (with_reducible exact rfl))
                | (refine step_append_eq RC.out.1 (.tmp 30) (.tmp 33) ?_ ?_ ?_ ?_ ?_ ?_ ?_; exact rfl; exact rfl; exact rfl; exact rfl; exact rfl; (with_reducible exact rfl))
                | (refine step_append_eq RA.out.2.1 (.tmp 34) (.tmp 39) ?_ ?_ ?_ ?_ ?_ ?_ ?_; exact rfl; exact rfl; exact rfl; exact rfl; exact rfl; (with_reducible exact rfl))
                | (refine step_append_eq RB.out.2.1 (.tmp 34) (.tmp 39) ?_ ?_ ?_ ?_ ?_ ?_ ?_; exact rfl; exact rfl; exact rfl; exact rfl; exact rfl; (with_reducible exact rfl))
                | (refine step_append_eq RC.out.2.1 (.tmp 34) (.tmp 39) ?_ ?_ ?_ ?_ ?_ ?_ ?_; exact rfl; exact rfl; exact rfl; exact rfl; exact rfl; (with_reducible exact rfl))
                | (refine step_append_eq RA.out.2.2 (.tmp 40) (.tmp 43) ?_ ?_ ?_ ?_ ?_ ?_ ?_; exact rfl; exact rfl; exact rfl; exact rfl; exact rfl; (with_reducible exact rfl))
                | (refine step_append_eq RB.out.2.2 (.tmp 40) (.tmp 43) ?_ ?_ ?_ ?_ ?_ ?_ ?_; exact rfl; exact rfl; exact rfl; exact rfl; exact rfl; (with_reducible exact rfl))
                | (refine step_append_eq RC.out.2.2 (.tmp 40) (.tmp 43) ?_ ?_ ?_ ?_ ?_ ?_ ?_; exact rfl; exact rfl; exact rfl; exact rfl; exact rfl; (with_reducible exact rfl)))
            all_goals
              go_wp2
              first
                | exact ⟨⟨k + 1, _, by omega, by go_num, FA.out⟩, by simp only [intOf]; omega⟩
                | exact ⟨⟨k + 1, _, by omega, by go_num, FB.out⟩, by simp only [intOf]; omega⟩
                | exact ⟨⟨k + 1, _, by omega, by go_num, FC.out⟩, by simp only [intOf]; omega⟩
          · have q1 : decide ((0 : Int) < (m : Int)) = false := decide_eq_false (by omega)
            clear hgo r2
            go_wp2
            go_quiet (fail)
            go_wp2
            have hg4 := hg2.drewN nq
            have t3 : (wr.drewN nq).cell? (ad1.add k) = some (.int .i64 x) := t1
            have J1 := I12.out.1.drewN nq
            have J2 := I12.out.2.drewN nq
            clear t1 hLI hRI hg2
            generalize wr.drewN nq = w4 at *
            have hlen := LT.out
            obtain ⟨va1, wa1, va2, wa2, Aa, ca, wa3, ra1, ra2, ra3, ia, ga, ha, ma⟩ := cat_a (e := x) (ty1 := 22) (ty2 := 22) (ty3 := 22) Try.underlying22 J1 J2 (by rw [LT.out.1, LT.out.2]; omega) (n := k + 1) (by rw [LT.out.1, LT.out.2]; omega)
            obtain ⟨vb1, wb1, vb2, wb2, Ab, cb, wb3, rb1, rb2, rb3, ib, gb, hb, mb⟩ := cat_b (e := x) (ty1 := 22) (ty2 := 22) (ty3 := 22) Try.underlying22 J1 J2 (by rw [LT.out.1, LT.out.2]; omega) (n := k + 1) (by rw [LT.out.1, LT.out.2]; omega)
            obtain ⟨vc1, wc1, vc2, wc2, Ac, cc, wc3, rc1, rc2, rc3, ic, gc, hc, mc⟩ := cat_c (e := x) (ty1 := 22) (ty2 := 22) (ty3 := 22) Try.underlying22 J1 J2 (by rw [LT.out.1, LT.out.2]; omega) (n := k + 1) (by rw [LT.out.1, LT.out.2]; omega)
            dsimp only at ra2 rb2 rc2
            have KR := hid (fun W (hg : Grow w4 W) => (And.intro hg (hg.cell_some t3)))
            have RA := hid (And.intro ra1 (And.intro ra2 ra3))
            have RB := hid (And.intro rb1 (And.intro rb2 rb3))
            have RC := hid (And.intro rc1 (And.intro rc2 rc3))
            have FA := hid (NEW.out _ _ ia (QC.out.1.trans (hg4.trans ga)))
            have FB := hid (NEW.out _ _ ib (QC.out.1.trans (hg4.trans gb)))
            have FC := hid (NEW.out _ _ ic (QC.out.1.trans (hg4.trans gc)))
            clear ra1 ra2 ra3 rb1 rb2 rb3 rc1 rc2 rc3 ia ib ic J1 J2 hlen
            go_region_held3 (fun W => Grow w4 W ∧ W.cell? (ad1.add k) = some (.int .i64 x))
              (exact KR.out _ (by first | assumption | exact (Grow.refl _).drew | exact ((Grow.refl _).alloc _).drew | exact (((Grow.refl _).alloc _).alloc _).drew | exact ha.alloc _))
              (first
                | (refine step_append_eq RA.out.1 (.tmp 30) (.tmp 33) ?_ ?_ ?_ ?_ ?_ ?_ ?_; exact rfl; exact rfl; exact rfl; exact rfl; exact rfl; (with_reducible exact rfl))
                | (refine step_append_eq RB.out.1 (.tmp 30) (.tmp 33) ?_ ?_ ?_ ?_ ?_ ?_ ?_; exact rfl; exact rfl; exact rfl; exact rfl; exact rfl; (with_reducible exact rfl))
                | (refine step_append_eq RC.out.1 (.tmp 30) (.tmp 33) ?_ ?_ ?_ ?_ ?_ ?_ ?_; exact rfl; exact rfl; exact rfl; exact rfl; exact rfl; (with_reducible exact rfl))
                | (refine step_append_eq RA.out.2.1 (.tmp 34) (.tmp 39) ?_ ?_ ?_ ?_ ?_ ?_ ?_; exact rfl; exact rfl; exact rfl; exact rfl; exact rfl; (with_reducible exact rfl))
                | (refine step_append_eq RB.out.2.1 (.tmp 34) (.tmp 39) ?_ ?_ ?_ ?_ ?_ ?_ ?_; exact rfl; exact rfl; exact rfl; exact rfl; exact rfl; (with_reducible exact rfl))
                | (refine step_append_eq RC.out.2.1 (.tmp 34) (.tmp 39) ?_ ?_ ?_ ?_ ?_ ?_ ?_; exact rfl; exact rfl; exact rfl; exact rfl; exact rfl; (with_reducible exact rfl))
                | (refine step_append_eq RA.out.2.2 (.tmp 40) (.tmp 43) ?_ ?_ ?_ ?_ ?_ ?_ ?_; exact rfl; exact rfl; exact rfl; exact rfl; exact rfl; (with_reducible exact rfl))
                | (refine step_append_eq RB.out.2.2 (.tmp 40) (.tmp 43) ?_ ?_ ?_ ?_ ?_ ?_ ?_; exact rfl; exact rfl; exact rfl; exact rfl; exact rfl; (with_reducible exact rfl))
                | (refine step_append_eq RC.out.2.2 (.tmp 40) (.tmp 43) ?_ ?_ ?_ ?_ ?_ ?_ ?_; exact rfl; exact rfl; exact rfl; exact rfl; exact rfl; (with_reducible exact rfl)))
            all_goals
              go_wp2
              first
                | exact ⟨⟨k + 1, _, by omega, by go_num, FA.out⟩, by simp only [intOf]; omega⟩
                | exact ⟨⟨k + 1, _, by omega, by go_num, FB.out⟩, by simp only [intOf]; omega⟩
                | exact ⟨⟨k + 1, _, by omega, by go_num, FC.out⟩, by simp only [intOf]; omega⟩
    · obtain rfl : k = l.length := by omega
      have j1 : ¬ (l.length : Int) < (l.length : Int) := by omega
      go_wp2
      go_ret
      obtain ⟨h1, h2, h3, h4⟩ := HST.out
      exact ⟨_, _, rfl, h1, h2, by rwa [List.take_length] at h3, h4⟩
end Go.Proofs.Ytjiahcfegfimmaa
