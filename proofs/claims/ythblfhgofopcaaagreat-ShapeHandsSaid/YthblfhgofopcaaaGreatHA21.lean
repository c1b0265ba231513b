/-
  Parts of the proof: Iter.
-/
import Derived.Test.YthblfhgofopcaaaGreatHA20
import Derived.Shelf.Abstract
import Derived.Shelf.RegionOpen
import Derived.OwnWalkIn
import Derived.TacticsInMore
import Derived.LoopNIn
import Derived.LoopIn
import Derived.Outline
set_option linter.all false
namespace Go.Proofs.YthblfhgofopcaaaGreat
open Go.RowKit Go.Shelf
attribute [local go_sem] Oper.semAt_some
abbrev KPlace := Int × Int × Int
def encP (x : KPlace) : Array Value := #[.int .i64 x.1, .agg #[.int .i64 x.2.1, .int .i64 x.2.2]]
def rowP (at_ suit : Int) : Nat → List KPlace
 | 0 => []
 | n + 1 => rowP at_ suit n ++ [(at_ + n, suit, (n : Int))]
theorem rowP_length (a s : Int) (n : Nat) : (rowP a s n).length = n := by
 induction n with
 | zero => rfl
 | succ n ih => rw [rowP, List.length_append, ih]; rfl
def RowSt (J : Nat → List KPlace → World → Prop) (B Y A l : Nat) (pre : List KPlace) (a : Int) (W W' : World) : Prop :=
 J A pre W' ∧ Blk W' A 3 [.int .i64 a] ∧ Blk W' Y 165 [.func (.yield l) #[] #[]] ∧ B ≤ Y ∧ Y < A ∧ W.heap.size ≤ W'.heap.size ∧ A < W.heap.size
def RowRes (J Jx : Nat → List KPlace → World → Prop) (S : List KPlace) (B Y A l : Nat) (pre : List KPlace) (a : Int) (W : World) (e : Ending) (W' : World) : Prop :=
 (e = .returned (.bool true) ∧ RowSt J B Y A l pre a W W') ∨ (e = .returned (.bool false) ∧ ∃ pre, pre <+: S ∧ Jx A pre W')
set_option maxHeartbeats 1000000 in
theorem row_in {J Jx : Nat → List KPlace → World → Prop} {S : List KPlace} {B Y A l : Nat} (suit a : Int) (n : Nat) (pre : List KPlace) (W : World)
  (hJ : ∀ A s W1 W2, J A s W1 → Turns B A W1 W2 → J A s W2)
  (hY : ∀ A pre x W1, B ≤ A → A < W1.heap.size → J A pre W1 → pre ++ [x] <+: S → ∀ m, YieldAt Fence.wide m Tryz.prog l (encP x) W1 fun e W' =>
   (e = .returned (.bool true) ∧ J A (pre ++ [x]) W' ∧ W1.heap.size ≤ W'.heap.size ∧ ∀ k, B ≤ k → k ≤ A → W'.heap[k]? = W1.heap[k]?) ∨ (e = .returned (.bool false) ∧ Jx A (pre ++ [x]) W'))
  (hpre : pre ++ rowP a suit n <+: S) (h : RowSt J B Y A l pre a W W) (ha : 0 ≤ a ∧ a ≤ 1000) (hn : n ≤ 1000) :
  CallsIn Fence.wide 10 Tryz.prog 167 #[.int .i64 suit, .int .i64 (n : Int), .pointer (some ⟨Y, 0, none⟩), .pointer (some ⟨A, 0, none⟩)] W (RowRes J Jx S B Y A l (pre ++ rowP a suit n) (a + n) W) := by
 have h10 : 1 ≤ 10 := by omega
 have HJ := hid hJ
 have HY := hid hY
 have HP := hid hpre
 clear hJ hY hpre
 refine callsIn_of_wp Tryz.func167 rfl trivial ?_ rfl
 simp only [Tryz.ntmps167, List.size_toArray, List.length_cons, List.length_nil, Nat.reduceAdd, Nat.reduceSub, Array.replicate_succ, Array.replicate_zero, List.push_toArray, List.append_toArray, List.nil_append, List.cons_append]
 gi_wp2
 gi_loopw [9] (fun i wr => ∃ k : Nat, k ≤ n ∧ i = .int .i64 (k : Int) ∧ RowSt J B Y A l (pre ++ rowP a suit k) (a + k) W wr) (fun i _ => n - (intOf i).toNat)
 case atStart => exact ⟨0, Nat.zero_le _, rfl, by simpa [rowP] using h⟩
 case round =>
  obtain ⟨k, hk, rfl, hj, bA, bY, y0, y1, sz, sA⟩ := hrel
  by_cases hlt : k < n
  ·have i1 : (k : Int) < (n : Int) := by omega
   have hp : (pre ++ rowP a suit k) ++ [(a + k, suit, (k : Int))] <+: S := by
    refine List.IsPrefix.trans ?_ HP.out
    rw [List.append_assoc]
    refine (List.prefix_append_right_inj _).2 ?_
    have hx : ∀ m, k < m → rowP a suit k ++ [(a + k, suit, (k : Int))] <+: rowP a suit m := fun m hm => by
     induction m with
     | zero => omega
     | succ m ih =>
      rw [rowP]
      by_cases e : k = m
      ·subst e; exact List.prefix_refl _
      ·exact (ih (by omega)).trans (List.prefix_append _ _)
    exact hx n hlt
   obtain ⟨fn, tmps, assign, body, hy, hR⟩ := HY.out A _ _ wr (by omega) (by omega) hj hp 9
   simp only [encP] at hy
   have cA := bA.cell 0
   have cY := bY.cell 0
   simp only [List.getElem?_cons_zero] at cA cY
   have HB := hid (And.intro bA (And.intro bY sz))
   clear hj
   gi_wp2
   refine hR.mono ?_
   rintro e W3 (⟨rfl, hJ3, hs3, hk3⟩ | ⟨rfl, hJx3⟩)
   ·have bA3 : Blk W3 A 3 [.int .i64 (a + k)] := (hk3 A (by omega) (Nat.le_refl _)).trans HB.out.1
    have bY3 : Blk W3 Y 165 [.func (.yield l) #[] #[]] := (hk3 Y y0 (by omega)).trans HB.out.2.1
    have cA3 := bA3.cell 0
    have fA3 := bA3.free 0
    simp only [List.getElem?_cons_zero] at cA3
    have bA4 := bA3.set 0 (.int .i64 (a + k + 1))
    have bY4 := bY3.far (p := ⟨A, 0, none⟩) (by simp; omega) (.int .i64 (a + k + 1))
    have hJ4 := HJ.out _ _ _ _ hJ3 (Turns.setA (A := A) W3 0 (.int .i64 (a + k + 1)))
    have RES := hid (And.intro bA4 (And.intro bY4 hJ4))
    clear bA4 bY4 hJ4 hk3 cA cY hy hR
    gi_wp2
    exact ⟨⟨k + 1, by omega, by go_num, by rw [rowP, ← List.append_assoc]; exact RES.out.2.2, by rw [show a + ((k + 1 : Nat) : Int) = a + k + 1 by omega]; exact RES.out.1, RES.out.2.1, y0, y1, by have := HB.out.2.2; simp; omega, sA⟩, by simp only [intOf]; omega⟩
   ·have RES := hid (show RowRes J Jx S B Y A l (pre ++ rowP a suit n) (a + n) W (.returned (.bool false)) W3 from .inr ⟨rfl, _, hp, hJx3⟩)
    clear cA cY hy hR hJx3
    gi_wp2
    go_ret
    exact RES.out
  ·obtain rfl : k = n := by omega
   have RES := hid (show RowRes J Jx S B Y A l (pre ++ rowP a suit k) (a + k) W (.returned (.bool true)) wr from .inl ⟨rfl, hj, bA, bY, y0, y1, sz, sA⟩)
   clear hj
   gi_wp2
   go_ret
   exact RES.out
def suitsP (l : List Int) : Nat → List KPlace
 | 0 => []
 | k + 1 => suitsP l k ++ rowP (sumI (l.take k)) (k : Int) (l.getD k 0).toNat
def placesTo (s : TSet) : Nat → List KPlace
 | 0 => suitsP s.su s.su.length
 | 1 => suitsP s.su s.su.length ++ rowP (sumI s.su) (-1) s.wi.toNat
 | 2 => suitsP s.su s.su.length ++ rowP (sumI s.su) (-1) s.wi.toNat ++ rowP (sumI s.su + s.wi) (-2) s.dr.toNat
 | _ => suitsP s.su s.su.length ++ rowP (sumI s.su) (-1) s.wi.toNat ++ rowP (sumI s.su + s.wi) (-2) s.dr.toNat ++ rowP (sumI s.su + s.wi + s.dr) (-3) s.fl.toNat
def startTo (s : TSet) : Nat → Int
 | 0 => sumI s.su
 | 1 => sumI s.su + s.wi
 | 2 => sumI s.su + s.wi + s.dr
 | _ => sumI s.su + s.wi + s.dr + s.fl
def allP (s : TSet) : List KPlace := if chkErr s = 0 then placesTo s 3 else []
theorem allP_ok {s : TSet} (h : chkErr s = 0) : allP s = placesTo s 3 := if_pos h
theorem allP_bad {s : TSet} (h : chkErr s ≠ 0) : allP s = [] := if_neg h
theorem suitsP_prefix (l : List Int) {k : Nat} (h : k ≤ l.length) : suitsP l k <+: suitsP l l.length := by
 have key : ∀ m, suitsP l k <+: suitsP l (k + m) := fun m => by
  induction m with
  | zero => exact List.prefix_refl _
  | succ m ih => exact ih.trans (List.prefix_append _ _)
 have := key (l.length - k)
 rwa [show k + (l.length - k) = l.length by omega] at this
theorem placesTo_prefix (s : TSet) {k : Nat} (h : k ≤ 3) : placesTo s k <+: placesTo s 3 := by
 have p0 : placesTo s 0 <+: placesTo s 1 := List.prefix_append _ _
 have p1 : placesTo s 1 <+: placesTo s 2 := List.prefix_append _ _
 have p2 : placesTo s 2 <+: placesTo s 3 := List.prefix_append _ _
 rcases (show k = 0 ∨ k = 1 ∨ k = 2 ∨ k = 3 by omega) with rfl | rfl | rfl | rfl
 ·exact p0.trans (p1.trans p2)
 ·exact p1.trans p2
 ·exact p2
 ·exact List.prefix_refl _
def SetAt (T : Nat) (s : TSet) (a b : Value) (W : World) : Prop := Blk W T 24 (setVals s a b) ∧ IsInts W a s.su ∧ IsInts W b s.re
theorem SetAt.grow {T : Nat} {s : TSet} {a b : Value} {W W' : World} (h : SetAt T s a b W) (g : Grow W W') : SetAt T s a b W' := ⟨h.1.grow g, h.2.1.grow g, h.2.2.grow g⟩
theorem SetAt.is {T : Nat} {s : TSet} {a b : Value} {W : World} (h : SetAt T s a b W) : IsSet W (.agg #[.int .i64 s.pl, a, .int .i64 s.wi, .int .i64 s.dr, .int .i64 s.fl, .int .i64 s.co, .int .i64 s.me, .int .i64 s.de, b]) s := ⟨a, b, rfl, h.2.1, h.2.2⟩
def IterRes (J Jx : Nat → List KPlace → World → Prop) (S : List KPlace) (W : World) (e : Ending) (W' : World) : Prop := (∃ v, e = .returned v) ∧ ∃ A, W.heap.size ≤ A ∧ (J A S W' ∨ ∃ pre, pre <+: S ∧ Jx A pre W')
set_option maxRecDepth 100000 in
set_option maxHeartbeats 4000000 in
theorem kinds_iterates (T : Nat) (s : TSet) (a b : Value) : Iterates Tryz.prog 166 #[.pointer (some ⟨T, 0, none⟩)] encP (allP s) (SetAt T s a b) := by
 intro m l J Jx W hok hJ hJx hR hY h0
 suffices hs : CallsIn Fence.wide 12 Tryz.prog 166 (#[.func (.yield l) #[] #[]] ++ #[.pointer (some ⟨T, 0, none⟩)]) W (IterRes J Jx (allP s) W) from callsIn_wide.2 (callsIn_wide.1 hs)
 have h12 : 1 ≤ 12 := by omega
 obtain ⟨A0, c, rfl, hc, hm, r1⟩ := id hok.2.1
 unfold maxLen at hm
 have HO := hid hok
 have CH := hid (fun W' (hg : Grow W W') => (callsIn_wide.2 (Check_any _ s W' (hok.grow hg).is) : CallsIn Fence.wide 11 _ _ _ _ _))
 have H0 := hid h0
 have HJ := hid hJ
 have HR := hid hR
 have ROW := hid (fun (Y A : Nat) (suit a : Int) (n : Nat) (pre : List KPlace) (W' : World) (hpre : pre ++ rowP a suit n <+: allP s) (h : RowSt J W.heap.size Y A l pre a W' W') (ha : 0 ≤ a ∧ a ≤ 1000) (hn : n ≤ 1000) => (callsIn_wide.2 (callsIn_wide.1 (row_in (Jx := Jx) (S := allP s) suit a n pre W' hJ hY hpre h ha hn)) : CallsIn Fence.wide 11 _ _ _ _ _))
 clear hok h0 hJ hJx hR hY
 by_cases e : chkErr s = 0
 ·have V := valid_of e
  have hne : (chkErr s != 0) = false := by simp [e]
  have HE := hid (allP_ok e)
  have HP := hid (fun k => sumI_bound (l := s.su.take k) fun z hz => V.su z (List.mem_of_mem_take hz))
  have HS := hid V.su
  have v1 := V.wi
  have v2 := V.dr
  have v3 := V.su3
  have v4 := V.fl
  clear e V
  generalize chkErr s = n at *
  refine callsIn_of_wp Tryz.func166 rfl trivial ?_ rfl
  simp only [Tryz.ntmps166, List.size_toArray, List.length_cons, List.length_nil, Nat.reduceAdd, Nat.reduceSub, Array.replicate_succ, Array.replicate_zero, List.push_toArray, List.append_toArray, List.nil_append, List.cons_append]
  obtain ⟨q0, q1, q2, q3, q4, q5, q6, q7, q8⟩ := set_cells ((HO.out.grow ((Grow.refl _).alloc (.cells #[.func (.yield l) #[] #[]] 165))).1)
  gi_wp2_with (refine ⟨trivial, ?_⟩; gi_at_call 76; refine (CH.out _ ((Grow.refl _).alloc _)).mono ?_; rintro e w1 ⟨rfl, hg1⟩; have hg := ((Grow.refl W).alloc (.cells #[.func (.yield l) #[] #[]] 165)).trans hg1; have hY1 := (show Blk (W.alloc (.cells #[.func (.yield l) #[] #[]] 165)) W.heap.size 165 [.func (.yield l) #[] #[]] from heap_alloc_new W _).grow hg1; have hg3 := hg.alloc (.cells #[.int .i64 0] 3); clear q0 q1 q2 q3 q4 q5 q6 q7 q8; obtain ⟨q0, q1, q2, q3, q4, q5, q6, q7, q8⟩ := set_cells (HO.out.grow hg3).1)
  have hsz1 : W.heap.size < w1.heap.size := by have := hg1.size; simp at this; omega
  have st0 : RowSt J W.heap.size W.heap.size w1.heap.size l (suitsP s.su 0) (sumI (s.su.take 0)) (w1.alloc (.cells #[.int .i64 0] 3)) (w1.alloc (.cells #[.int .i64 0] 3)) :=
   ⟨H0.out _ _ hg3 (by omega) (by simp), heap_alloc_new w1 _, hY1.grow ((Grow.refl _).alloc _), Nat.le_refl _, hsz1, Nat.le_refl _, by simp⟩
  have HG3 := hid hg3
  clear hg hg1 hY1 q0 q1 q2 q3 q4 q5 q6 q7 q8
  generalize w1.alloc (.cells #[.int .i64 0] 3) = w2 at *
  generalize w1.heap.size = A at *
  have HST := hid st0
  have hAW : W.heap.size < A := hsz1
  clear st0 hg3 hsz1
  gi_loopw [16] (fun i wr => ∃ k : Nat, k ≤ s.su.length ∧ i = .int .i64 (k : Int) ∧ RowSt J W.heap.size W.heap.size A l (suitsP s.su k) (sumI (s.su.take k)) w2 wr) (fun i _ => s.su.length - (intOf i).toNat)
  case atStart => exact ⟨0, Nat.zero_le _, rfl, HST.out⟩
  case round =>
   obtain ⟨k, hk, rfl, hst⟩ := hrel
   have hst' := hid hst
   have hsa := HR.out _ _ _ hst.1
   have hb := HP.out k
   rw [List.length_take, Nat.min_eq_left hk] at hb
   clear hst
   by_cases hlt : k < s.su.length
   ·obtain ⟨ad, rfl, _, hx⟩ : ∃ ad, A0 = some ad ∧ ad.block < wr.heap.size ∧ wr.cell? (ad.add k) = some (.int .i64 s.su[k]) := by
     obtain ⟨_, _, e, _, _, rr⟩ := hsa.2.1
     injection e with e1 _ _
     subst e1
     exact rr.int hlt
    have hz := HS.out s.su[k] (List.getElem_mem hlt)
    obtain ⟨n1, hn1⟩ := Int.eq_ofNat_of_zero_le (show 0 ≤ s.su[k] by omega)
    rw [hn1] at hx hz
    have HE1 := hid (show suitsP s.su (k + 1) = suitsP s.su k ++ rowP (sumI (s.su.take k)) (k : Int) n1 by
     rw [suitsP, show s.su.getD k 0 = (n1 : Int) by simp [List.getD, hlt, hn1], Int.toNat_natCast])
    have HE2 := hid (show sumI (s.su.take (k + 1)) = sumI (s.su.take k) + (n1 : Int) by rw [sumI_take s.su hlt, hn1])
    have RR := hid (ROW.out W.heap.size A (k : Int) (sumI (s.su.take k)) n1 (suitsP s.su k) wr (by
     rw [← HE1.out, HE.out]
     exact (suitsP_prefix s.su (by omega)).trans (placesTo_prefix s (k := 0) (by omega))) ⟨hst'.out.1, hst'.out.2.1, hst'.out.2.2.1, hst'.out.2.2.2.1, hst'.out.2.2.2.2.1, Nat.le_refl _, by have := hst'.out.2.2.2.2.2; omega⟩ (by omega) (by omega))
    have i0 : (0 : Int) ≤ (k : Int) := by omega
    have i1 : (k : Int) < (s.su.length : Int) := by omega
    clear hn1 hsa hz hb
    gi_wp2_with (refine ⟨trivial, ?_⟩; gi_at_call 167; refine RR.out.mono ?_; rintro e w4 (⟨rfl, hs4⟩ | ⟨rfl, hx4⟩))
    ·have NEW := hid (show RowSt J W.heap.size W.heap.size A l (suitsP s.su (k + 1)) (sumI (s.su.take (k + 1))) w2 w4 by
      have h := hs4
      rw [← HE1.out, ← HE2.out] at h
      exact ⟨h.1, h.2.1, h.2.2.1, h.2.2.2.1, h.2.2.2.2.1, Nat.le_trans hst'.out.2.2.2.2.2.1 h.2.2.2.2.2.1, hst'.out.2.2.2.2.2.2⟩)
     clear hs4
     gi_wp2
     exact ⟨⟨k + 1, by omega, by go_num, NEW.out⟩, by simp only [intOf]; omega⟩
    ·have RES := hid (show IterRes J Jx (allP s) W (.returned (.tuple #[])) w4 from ⟨⟨_, rfl⟩, A, Nat.le_of_lt hAW, .inr hx4⟩)
     clear hx4
     gi_wp2
     refine bodyPost_ret (results_none rfl _ _ _) rfl ?_
     exact RES.out
   ·obtain rfl : k = s.su.length := by omega
    have hst2 := hst'.out
    rw [List.take_length] at hst2 hb
    have HS0 := hid (show RowSt J W.heap.size W.heap.size A l (placesTo s 0) (startTo s 0) w2 wr from hst2)
    obtain ⟨q0, q1, q2, q3, q4, q5, q6, q7, q8⟩ := set_cells hsa.1
    clear hst2 hsa hst'
    obtain ⟨wo, rfl⟩ : ∃ wo : World, wo = wr := ⟨_, rfl⟩
    gi_wp2
    clear q0 q1 q2 q3 q4 q5 q6 q7 q8
    gi_loopw [34] (fun i wr => ∃ k : Nat, k ≤ 3 ∧ i = .int .i64 (k : Int) ∧ RowSt J W.heap.size W.heap.size A l (placesTo s k) (startTo s k) w2 wr) (fun i _ => 3 - (intOf i).toNat)
    case atStart => exact ⟨0, by omega, rfl, HS0.out⟩
    case round =>
     obtain ⟨k, hk, rfl, hst⟩ := hrel
     have hst' := hid hst
     clear hst
     rcases (show k = 0 ∨ k = 1 ∨ k = 2 ∨ k = 3 by omega) with rfl | rfl | rfl | rfl
     ·have ix : ∀ w, (Instr.index 167 (.agg #[.int .i64 s.wi, .int .i64 s.dr, .int .i64 s.fl]) (.int .i64 0)).run Tryz.prog w = .ok (.int .i64 s.wi) w := fun _ => by kernel_rfl
      obtain ⟨n1, hn1⟩ := Int.eq_ofNat_of_zero_le (show 0 ≤ s.wi by omega)
      have RR := hid (ROW.out W.heap.size A (-1) (sumI s.su) n1 (placesTo s 0) wr (by
       rw [show placesTo s 0 ++ rowP (sumI s.su) (-1) n1 = placesTo s 1 by rw [← Int.toNat_natCast n1, ← hn1]; rfl, HE.out]
       exact placesTo_prefix s (by omega)) ⟨hst'.out.1, hst'.out.2.1, hst'.out.2.2.1, hst'.out.2.2.2.1, hst'.out.2.2.2.2.1, Nat.le_refl _, by have := hst'.out.2.2.2.2.2; omega⟩ (by omega) (by omega))
      have HE1 := hid (show placesTo s 0 ++ rowP (sumI s.su) (-1) n1 = placesTo s 1 by rw [← Int.toNat_natCast n1, ← hn1]; rfl)
      have HE2 := hid (show (sumI s.su) + (n1 : Int) = startTo s 1 by rw [← hn1]; rfl)
      rw [hn1] at ix
      have HN := hid hn1
      rw [← hn1] at ix
      have RR' := RR.out
      rw [← hn1] at RR'
      have RR2 := hid RR'
      clear hn1 RR RR'
      gi_wp2_with (refine ⟨trivial, ?_⟩; gi_at_call 167; refine RR2.out.mono ?_; rintro e w4 (⟨rfl, hs4⟩ | ⟨rfl, hx4⟩))
      ·have NEW := hid (show RowSt J W.heap.size W.heap.size A l (placesTo s 1) (startTo s 1) w2 w4 by
        have h := hs4
        rw [HN.out, HE1.out, HE2.out] at h
        exact ⟨h.1, h.2.1, h.2.2.1, h.2.2.2.1, h.2.2.2.2.1, Nat.le_trans hst'.out.2.2.2.2.2.1 h.2.2.2.2.2.1, hst'.out.2.2.2.2.2.2⟩)
       clear hs4
       gi_wp2
       exact ⟨⟨1, by omega, by go_num, NEW.out⟩, by simp only [intOf]; omega⟩
      ·have RES := hid (show IterRes J Jx (allP s) W (.returned (.tuple #[])) w4 from ⟨⟨_, rfl⟩, A, Nat.le_of_lt hAW, .inr hx4⟩)
       clear hx4
       gi_wp2
       refine bodyPost_ret (results_none rfl _ _ _) rfl ?_
       exact RES.out
     ·have ix : ∀ w, (Instr.index 167 (.agg #[.int .i64 s.wi, .int .i64 s.dr, .int .i64 s.fl]) (.int .i64 1)).run Tryz.prog w = .ok (.int .i64 s.dr) w := fun _ => by kernel_rfl
      obtain ⟨n1, hn1⟩ := Int.eq_ofNat_of_zero_le (show 0 ≤ s.dr by omega)
      have RR := hid (ROW.out W.heap.size A (-2) (sumI s.su + s.wi) n1 (placesTo s 1) wr (by
       rw [show placesTo s 1 ++ rowP (sumI s.su + s.wi) (-2) n1 = placesTo s 2 by rw [← Int.toNat_natCast n1, ← hn1]; rfl, HE.out]
       exact placesTo_prefix s (by omega)) ⟨hst'.out.1, hst'.out.2.1, hst'.out.2.2.1, hst'.out.2.2.2.1, hst'.out.2.2.2.2.1, Nat.le_refl _, by have := hst'.out.2.2.2.2.2; omega⟩ (by omega) (by omega))
      have HE1 := hid (show placesTo s 1 ++ rowP (sumI s.su + s.wi) (-2) n1 = placesTo s 2 by rw [← Int.toNat_natCast n1, ← hn1]; rfl)
      have HE2 := hid (show (sumI s.su + s.wi) + (n1 : Int) = startTo s 2 by rw [← hn1]; rfl)
      rw [hn1] at ix
      have HN := hid hn1
      rw [← hn1] at ix
      have RR' := RR.out
      rw [← hn1] at RR'
      have RR2 := hid RR'
      clear hn1 RR RR'
      gi_wp2_with (refine ⟨trivial, ?_⟩; gi_at_call 167; refine RR2.out.mono ?_; rintro e w4 (⟨rfl, hs4⟩ | ⟨rfl, hx4⟩))
      ·have NEW := hid (show RowSt J W.heap.size W.heap.size A l (placesTo s 2) (startTo s 2) w2 w4 by
        have h := hs4
        rw [HN.out, HE1.out, HE2.out] at h
        exact ⟨h.1, h.2.1, h.2.2.1, h.2.2.2.1, h.2.2.2.2.1, Nat.le_trans hst'.out.2.2.2.2.2.1 h.2.2.2.2.2.1, hst'.out.2.2.2.2.2.2⟩)
       clear hs4
       gi_wp2
       exact ⟨⟨2, by omega, by go_num, NEW.out⟩, by simp only [intOf]; omega⟩
      ·have RES := hid (show IterRes J Jx (allP s) W (.returned (.tuple #[])) w4 from ⟨⟨_, rfl⟩, A, Nat.le_of_lt hAW, .inr hx4⟩)
       clear hx4
       gi_wp2
       refine bodyPost_ret (results_none rfl _ _ _) rfl ?_
       exact RES.out
     ·have ix : ∀ w, (Instr.index 167 (.agg #[.int .i64 s.wi, .int .i64 s.dr, .int .i64 s.fl]) (.int .i64 2)).run Tryz.prog w = .ok (.int .i64 s.fl) w := fun _ => by kernel_rfl
      obtain ⟨n1, hn1⟩ := Int.eq_ofNat_of_zero_le (show 0 ≤ s.fl by omega)
      have RR := hid (ROW.out W.heap.size A (-3) (sumI s.su + s.wi + s.dr) n1 (placesTo s 2) wr (by
       rw [show placesTo s 2 ++ rowP (sumI s.su + s.wi + s.dr) (-3) n1 = placesTo s 3 by rw [← Int.toNat_natCast n1, ← hn1]; rfl, HE.out]
       exact placesTo_prefix s (by omega)) ⟨hst'.out.1, hst'.out.2.1, hst'.out.2.2.1, hst'.out.2.2.2.1, hst'.out.2.2.2.2.1, Nat.le_refl _, by have := hst'.out.2.2.2.2.2; omega⟩ (by omega) (by omega))
      have HE1 := hid (show placesTo s 2 ++ rowP (sumI s.su + s.wi + s.dr) (-3) n1 = placesTo s 3 by rw [← Int.toNat_natCast n1, ← hn1]; rfl)
      have HE2 := hid (show (sumI s.su + s.wi + s.dr) + (n1 : Int) = startTo s 3 by rw [← hn1]; rfl)
      rw [hn1] at ix
      have HN := hid hn1
      rw [← hn1] at ix
      have RR' := RR.out
      rw [← hn1] at RR'
      have RR2 := hid RR'
      clear hn1 RR RR'
      gi_wp2_with (refine ⟨trivial, ?_⟩; gi_at_call 167; refine RR2.out.mono ?_; rintro e w4 (⟨rfl, hs4⟩ | ⟨rfl, hx4⟩))
      ·have NEW := hid (show RowSt J W.heap.size W.heap.size A l (placesTo s 3) (startTo s 3) w2 w4 by
        have h := hs4
        rw [HN.out, HE1.out, HE2.out] at h
        exact ⟨h.1, h.2.1, h.2.2.1, h.2.2.2.1, h.2.2.2.2.1, Nat.le_trans hst'.out.2.2.2.2.2.1 h.2.2.2.2.2.1, hst'.out.2.2.2.2.2.2⟩)
       clear hs4
       gi_wp2
       exact ⟨⟨3, by omega, by go_num, NEW.out⟩, by simp only [intOf]; omega⟩
      ·have RES := hid (show IterRes J Jx (allP s) W (.returned (.tuple #[])) w4 from ⟨⟨_, rfl⟩, A, Nat.le_of_lt hAW, .inr hx4⟩)
       clear hx4
       gi_wp2
       refine bodyPost_ret (results_none rfl _ _ _) rfl ?_
       exact RES.out
     ·have RES := hid (show IterRes J Jx (allP s) W (.returned (.tuple #[])) wr from ⟨⟨_, rfl⟩, A, Nat.le_of_lt hAW, .inl (by rw [HE.out]; exact hst'.out.1)⟩)
      gi_wp2
      first | (refine bodyPost_ret (results_none rfl _ _ _) rfl ?_) | go_end0
      exact RES.out
 ·have hne : (chkErr s != 0) = true := by simp [e]
  have HE := hid (allP_bad e)
  clear e
  generalize chkErr s = n at *
  refine callsIn_of_wp Tryz.func166 rfl trivial ?_ rfl
  simp only [Tryz.ntmps166, List.size_toArray, List.length_cons, List.length_nil, Nat.reduceAdd, Nat.reduceSub, Array.replicate_succ, Array.replicate_zero, List.push_toArray, List.append_toArray, List.nil_append, List.cons_append]
  obtain ⟨q0, q1, q2, q3, q4, q5, q6, q7, q8⟩ := set_cells ((HO.out.grow ((Grow.refl _).alloc (.cells #[.func (.yield l) #[] #[]] 165))).1)
  gi_wp2_with (refine ⟨trivial, ?_⟩; gi_at_call 76; refine (CH.out _ ((Grow.refl _).alloc _)).mono ?_; rintro e w1 ⟨rfl, hg1⟩; have hg := ((Grow.refl W).alloc (.cells #[.func (.yield l) #[] #[]] 165)).trans hg1)
  have RES := hid (show IterRes J Jx (allP s) W (.returned (.tuple #[])) w1 from ⟨⟨_, rfl⟩, W.heap.size, Nat.le_refl _, .inl (by rw [HE.out]; exact H0.out _ _ hg (Nat.le_refl _) (by have := hg1.size; simp at this; omega))⟩)
  first | (refine bodyPost_ret (results_none rfl _ _ _) rfl ?_) | go_end0
  exact RES.out
end Go.Proofs.YthblfhgofopcaaaGreat
