/-
  Parts of the proof: Own, Set, Check.
-/
import Derived.Test.YthblfhgofopcaaaGreatProg
import Derived.Test.YthblfhgofopcaaaGreatHA01
import Derived.Deep.WholeRow
import Derived.Outline
set_option linter.all false
namespace Go.Proofs.YthblfhgofopcaaaGreat
open Go.RowKit
def Blk (w : World) (g : Nat) (e : TypeId) (xs : List Value) : Prop := w.heap[g]? = some (.cells xs.toArray e (0, 0))
section
variable {w w' : World} {g : Nat} {e : TypeId} {xs : List Value}
theorem Blk.cell (h : Blk w g e xs) (i : Nat) : w.cell? ⟨g, i, none⟩ = xs[i]? := by rw [cell_of_row w g i xs.toArray e (0, 0) h]; simp
theorem Blk.free (h : Blk w g e xs) (i : Nat) : w.frozen? ⟨g, i, none⟩ = false := frozen_of_row w g i xs.toArray e h
theorem Blk.grow (h : Blk w g e xs) (k : Grow w w') : Blk w' g e xs := k.blk_some h
theorem Blk.set (h : Blk w g e xs) (i : Nat) (u : Value) : Blk (w.setCell ⟨g, i, none⟩ u) g e (xs.set i u) := by
 unfold Blk at h ⊢
 rw [heap_setCell_same w g i xs.toArray e u h]
 simp
theorem Blk.far (h : Blk w g e xs) {p : Addr} (hp : g ≠ p.block) (u : Value) : Blk (w.setCell p u) g e xs := (Below.heap_setCell w p u g hp).trans h
end
end Go.Proofs.YthblfhgofopcaaaGreat

namespace Go.Proofs.YthblfhgofopcaaaGreat
open Go.RowKit
structure TSet where
 pl : Int
 su : List Int
 wi : Int
 dr : Int
 fl : Int
 co : Int
 me : Int
 de : Int
 re : List Int
abbrev setVals (s : TSet) (a b : Value) : List Value := [.int .i64 s.pl, a, .int .i64 s.wi, .int .i64 s.dr, .int .i64 s.fl, .int .i64 s.co, .int .i64 s.me, .int .i64 s.de, b]
def IsSet (w : World) (v : Value) (s : TSet) : Prop := ∃ a b, v = .agg #[.int .i64 s.pl, a, .int .i64 s.wi, .int .i64 s.dr, .int .i64 s.fl, .int .i64 s.co, .int .i64 s.me, .int .i64 s.de, b] ∧ IsInts w a s.su ∧ IsInts w b s.re
theorem IsSet.grow {w w' : World} {v : Value} {s : TSet} (h : IsSet w v s) (g : Grow w w') : IsSet w' v s := by
 obtain ⟨a, b, e, h1, h2⟩ := h
 exact ⟨a, b, e, h1.grow g, h2.grow g⟩
theorem IsSet.open_ {w : World} {v : Value} {s : TSet} (h : IsSet w v s) : ∃ A c B d, v = .agg #[.int .i64 s.pl, .slice A s.su.length c, .int .i64 s.wi, .int .i64 s.dr, .int .i64 s.fl, .int .i64 s.co, .int .i64 s.me, .int .i64 s.de, .slice B s.re.length d] ∧ IsInts w (.slice A s.su.length c) s.su ∧ IsInts w (.slice B s.re.length d) s.re := by
 obtain ⟨a, b, e, h1, h2⟩ := h
 obtain ⟨A, c, rfl, _⟩ := id h1
 obtain ⟨B, d, rfl, _⟩ := id h2
 exact ⟨A, c, B, d, e, h1, h2⟩
def risErr (many : Int) : Int → List Int → Int
 | _, [] => 0
 | p, k :: l => if k < 0 ∨ many ≤ k then 2 else if k ≤ p then 11 else risErr many k l
def sumI : List Int → Int
 | [] => 0
 | x :: l => x + sumI l
def sutB (n : Int) : Bool := decide (n < 1) || decide (9 < n)
def plainI (s : TSet) : Int := s.wi + s.dr + sumI s.su
def rowsB (s : TSet) : Bool := (decide (s.wi < 0) || decide (4 < s.wi)) || (decide (s.dr < 0) || decide (3 < s.dr)) || (decide (s.fl < 0) || decide (8 < s.fl)) || (decide (s.co < 1) || decide (4 < s.co)) || (decide (s.me < 1) || decide (4 < s.me)) || (decide (s.de < 0) || decide (20 < s.de))
def chkErr (s : TSet) : Int :=
 if s.pl < 3 ∨ 4 < s.pl then 2
 else if 3 < s.su.length then 8
 else if s.su.any sutB = true then 2
 else if rowsB s = true then 2
 else if plainI s = 0 then 6
 else if risErr (plainI s) (-1) s.re ≠ 0 then risErr (plainI s) (-1) s.re
 else if plainI s * s.co + s.fl ≤ s.pl * (3 * s.me + 1) + s.de then 6
 else 0
def Gives (w : World) (v : Value) (e : Ending) (w' : World) : Prop := e = .returned v ∧ Grow w w'
theorem sumI_cons (x : Int) (l : List Int) : sumI (x :: l) = x + sumI l := rfl
theorem sumI_append (l m : List Int) : sumI (l ++ m) = sumI l + sumI m := by
 induction l with
 | nil => simp [sumI]
 | cons x l ih => rw [List.cons_append, sumI_cons, sumI_cons, ih]; omega
theorem sumI_take (l : List Int) {k : Nat} (h : k < l.length) : sumI (l.take (k + 1)) = sumI (l.take k) + l[k] := by
 rw [List.take_succ_eq_append_getElem h, sumI_append]; simp [sumI]
theorem sumI_bound {l : List Int} (h : ∀ z ∈ l, 1 ≤ z ∧ z ≤ 9) : (l.length : Int) ≤ sumI l ∧ sumI l ≤ 9 * (l.length : Int) := by
 induction l with
 | nil => simp [sumI]
 | cons x l ih =>
  have h1 := ih fun z hz => h z (by simp [hz])
  have h2 := h x (by simp)
  rw [sumI_cons, List.length_cons]
  omega
theorem risErr_drop {many p : Int} {l : List Int} {k : Nat} (h : k < l.length) : risErr many p (l.drop k) = if l[k] < 0 ∨ many ≤ l[k] then 2 else if l[k] ≤ p then 11 else risErr many l[k] (l.drop (k + 1)) := by
 rw [List.drop_eq_getElem_cons h]; rfl
theorem sutB_false {n : Int} (h : sutB n = false) : 1 ≤ n ∧ n ≤ 9 := by
 unfold sutB at h
 simp at h
 omega
theorem sut_within {l : List Int} (h : l.any sutB = false) : ∀ z ∈ l, 1 ≤ z ∧ z ≤ 9 := fun z hz => sutB_false (by
 have := List.any_eq_false.1 h z hz
 simpa using this)
theorem wrap_in {n : Int} (h0 : -9223372036854775808 ≤ n) (h1 : n ≤ 9223372036854775807) : wrap64 n = n := by
 unfold wrap64; omega
def KeptSum (s : TSet) (k : Nat) (z : Int) : Prop := 0 ≤ s.wi ∧ s.wi ≤ 4 ∧ 0 ≤ s.dr ∧ s.dr ≤ 3 → z = s.wi + s.dr + sumI (s.su.take k)
theorem KeptSum.start (s : TSet) : KeptSum s 0 (wrap64 (s.wi + s.dr)) := fun h => by
 rw [wrap_in (by omega) (by omega)]; simp [sumI]
theorem KeptSum.step {s : TSet} {k : Nat} {z : Int} (h : KeptSum s k z) (hk : k < s.su.length) (h3 : s.su.length ≤ 3) (hs : ∀ j (hj : j < s.su.length), j < k + 1 → 1 ≤ s.su[j] ∧ s.su[j] ≤ 9) : KeptSum s (k + 1) (wrap64 (z + s.su[k])) := fun hw => by
 have h1 := h hw
 have h2 := sumI_bound (l := s.su.take k) fun z hz => by
  obtain ⟨j, hj, rfl⟩ := List.getElem_of_mem hz
  rw [List.length_take] at hj
  rw [List.getElem_take]
  exact hs j (by omega) (by omega)
 rw [List.length_take] at h2
 have h4 := hs k hk (by omega)
 rw [sumI_take _ hk, wrap_in (by omega) (by omega)]
 omega
def RowsTo (s : TSet) (k : Nat) : Prop := (0 < k → 0 ≤ s.wi ∧ s.wi ≤ 4) ∧ (1 < k → 0 ≤ s.dr ∧ s.dr ≤ 3) ∧ (2 < k → 0 ≤ s.fl ∧ s.fl ≤ 8) ∧ (3 < k → 1 ≤ s.co ∧ s.co ≤ 4) ∧ (4 < k → 1 ≤ s.me ∧ s.me ≤ 4) ∧ (5 < k → 0 ≤ s.de ∧ s.de ≤ 20)
theorem rowsB_false {s : TSet} (h : RowsTo s 6) : rowsB s = false := by
 obtain ⟨h1, h2, h3, h4, h5, h6⟩ := h
 unfold rowsB
 simp
 omega
theorem rowsB_rows {s : TSet} (h : rowsB s = false) : RowsTo s 6 := by
 unfold rowsB at h
 simp at h
 unfold RowsTo
 omega
theorem rowsB_true {s : TSet} (h : s.wi < 0 ∨ 4 < s.wi ∨ s.dr < 0 ∨ 3 < s.dr ∨ s.fl < 0 ∨ 8 < s.fl ∨ s.co < 1 ∨ 4 < s.co ∨ s.me < 1 ∨ 4 < s.me ∨ s.de < 0 ∨ 20 < s.de) : rowsB s = true := by
 unfold rowsB
 simp
 omega
structure Valid (s : TSet) : Prop where
 pl : 3 ≤ s.pl ∧ s.pl ≤ 4
 su3 : s.su.length ≤ 3
 su : ∀ z ∈ s.su, 1 ≤ z ∧ z ≤ 9
 wi : 0 ≤ s.wi ∧ s.wi ≤ 4
 dr : 0 ≤ s.dr ∧ s.dr ≤ 3
 fl : 0 ≤ s.fl ∧ s.fl ≤ 8
 co : 1 ≤ s.co ∧ s.co ≤ 4
 me : 1 ≤ s.me ∧ s.me ≤ 4
 de : 0 ≤ s.de ∧ s.de ≤ 20
 plain : 1 ≤ plainI s ∧ plainI s ≤ 34
 re : risErr (plainI s) (-1) s.re = 0
 full : s.pl * (3 * s.me + 1) + s.de < plainI s * s.co + s.fl
theorem plain_bound {s : TSet} (h3 : s.su.length ≤ 3) (hs : ∀ z ∈ s.su, 1 ≤ z ∧ z ≤ 9) (hw : 0 ≤ s.wi ∧ s.wi ≤ 4) (hd : 0 ≤ s.dr ∧ s.dr ≤ 3) : 0 ≤ plainI s ∧ plainI s ≤ 34 := by
 have h := sumI_bound hs
 unfold plainI
 omega
theorem valid_of {s : TSet} (h : chkErr s = 0) : Valid s := by
 unfold chkErr at h
 by_cases b1 : s.pl < 3 ∨ 4 < s.pl
 ·rw [if_pos b1] at h; omega
 rw [if_neg b1] at h
 by_cases b2 : 3 < s.su.length
 ·rw [if_pos b2] at h; omega
 rw [if_neg b2] at h
 by_cases b3 : s.su.any sutB = true
 ·rw [if_pos b3] at h; omega
 rw [if_neg b3] at h
 by_cases b4 : rowsB s = true
 ·rw [if_pos b4] at h; omega
 rw [if_neg b4] at h
 by_cases b5 : plainI s = 0
 ·rw [if_pos b5] at h; omega
 rw [if_neg b5] at h
 by_cases b6 : risErr (plainI s) (-1) s.re ≠ 0
 ·rw [if_pos b6] at h; exact absurd h b6
 rw [if_neg b6] at h
 by_cases b7 : plainI s * s.co + s.fl ≤ s.pl * (3 * s.me + 1) + s.de
 ·rw [if_pos b7] at h; omega
 obtain ⟨h1, h2, h3, h4, h5, h6⟩ := rowsB_rows (by simpa using b4)
 have hs := sut_within (by simpa using b3)
 have hp := plain_bound (by omega) hs (h1 (by omega)) (h2 (by omega))
 exact ⟨by omega, by omega, hs, h1 (by omega), h2 (by omega), h3 (by omega), h4 (by omega), h5 (by omega), h6 (by omega), by omega, by omega, by omega⟩
end Go.Proofs.YthblfhgofopcaaaGreat

namespace Go.Proofs.YthblfhgofopcaaaGreat
open Go.RowKit
theorem mul_136 {p c : Int} (hp : 0 ≤ p ∧ p ≤ 34) (hc : 1 ≤ c ∧ c ≤ 4) : 0 ≤ p * c ∧ p * c ≤ 136 :=
 ⟨Int.mul_nonneg hp.1 (by omega), by have := Int.mul_le_mul hp.2 hc.2 (by omega) (by omega); omega⟩
theorem mul_52 {p m : Int} (hp : 3 ≤ p ∧ p ≤ 4) (hm : 1 ≤ m ∧ m ≤ 4) : 0 ≤ p * (3 * m + 1) ∧ p * (3 * m + 1) ≤ 52 :=
 ⟨Int.mul_nonneg (by omega) (by omega), by have := Int.mul_le_mul hp.2 (show 3 * m + 1 ≤ 13 by omega) (by omega) (by omega); omega⟩
theorem grow_row {w : World} {o : Obj} {g : Nat} {old cs : Array Value} {t : TypeId} (hg : g = w.heap.size) (_ho : (w.alloc o).heap[g]? = some (.cells old t (0, 0))) (_hs : old.size = cs.size) : Grow w ((w.alloc o).setRow g cs) := by
 subst hg
 exact ⟨rfl, rfl, rfl, by simp, fun k hk => (setRow_other _ _ _ _ (by omega)).trans (Below.heap_alloc w o k hk)⟩
set_option maxRecDepth 100000 in
set_option maxHeartbeats 4000000 in
theorem Check_any (v : Value) (s : TSet) (w : World) (h : IsSet w v s) : Calls Tryz.prog 76 #[v] w (Gives w (.int .i64 (chkErr s))) := by
 have hfin : ∀ r wf, chkErr s = r → Grow w wf → Gives w (.int .i64 (chkErr s)) (.returned (.int .i64 r)) wf := fun r wf h hg => ⟨by rw [h], hg⟩
 have HF := hid hfin
 obtain ⟨A, c, B, d, rfl, h1, h2⟩ := h.open_
 obtain ⟨_, _, e1, c1, m1, r1⟩ := h1
 obtain ⟨_, _, e2, d1, m2, r2⟩ := h2
 injection e1 with e1 _ e1'
 injection e2 with e2 _ e2'
 subst e1 e1' e2 e2'
 unfold maxLen at m1 m2
 have g0 : Grow w (w.alloc (.cells #[.int .i64 s.pl, .slice A s.su.length c, .int .i64 s.wi, .int .i64 s.dr, .int .i64 s.fl, .int .i64 s.co, .int .i64 s.me, .int .i64 s.de, .slice B s.re.length d] 24)) := (Grow.refl w).alloc _
 clear hfin h
 by_cases b1 : s.pl < 3 ∨ 4 < s.pl
 ·have HE := hid (show chkErr s = 2 by unfold chkErr; rw [if_pos b1])
  rcases b1 with b1 | b1
  ·go_enter Tryz.func76, Tryz.ntmps76
   go_wp2
   go_ret
   exact HF.out _ _ HE.out g0
  ·have b0 : ¬ s.pl < 3 := by omega
   go_enter Tryz.func76, Tryz.ntmps76
   go_wp2
   go_ret
   exact HF.out _ _ HE.out g0
 have p0 : ¬ s.pl < 3 := by omega
 have p1 : ¬ 4 < s.pl := by omega
 by_cases b2 : 3 < s.su.length
 ·have HE := hid (show chkErr s = 8 by unfold chkErr; rw [if_neg b1, if_pos b2])
  have b3 : (3 : Int) < (s.su.length : Int) := by omega
  clear b1
  go_enter Tryz.func76, Tryz.ntmps76
  go_wp2
  go_ret
  exact HF.out _ _ HE.out g0
 have b3 : ¬ (3 : Int) < (s.su.length : Int) := by omega
 have HE1 := hid (fun (k : Nat) (hk : k < s.su.length) (hb : sutB s.su[k] = true) => (show chkErr s = 2 by
  unfold chkErr
  rw [if_neg b1, if_neg b2, if_pos (List.any_eq_true.2 ⟨s.su[k], List.getElem_mem hk, hb⟩)]))
 have HE2 := hid (fun (hs : ∀ z ∈ s.su, 1 ≤ z ∧ z ≤ 9) => (show chkErr s = if rowsB s = true then 2 else if plainI s = 0 then 6 else if risErr (plainI s) (-1) s.re ≠ 0 then risErr (plainI s) (-1) s.re
   else if plainI s * s.co + s.fl ≤ s.pl * (3 * s.me + 1) + s.de then 6 else 0 by
  unfold chkErr
  rw [if_neg b1, if_neg b2, if_neg]
  intro hb
  obtain ⟨z, hz, hb⟩ := List.any_eq_true.1 hb
  have := hs z hz
  unfold sutB at hb
  simp at hb
  omega))
 clear b1
 go_enter Tryz.func76, Tryz.ntmps76
 go_wp2
 go_loop [3, 32] (fun z i => ∃ (k : Nat) (x : Int), k ≤ s.su.length ∧ i = .int .i64 (k : Int) ∧ z = .int .i64 x ∧ KeptSum s k x ∧ ∀ j (hj : j < s.su.length), j < k → 1 ≤ s.su[j] ∧ s.su[j] ≤ 9) (fun _ i => s.su.length - (intOf i).toNat)
 case atStart => exact ⟨0, _, Nat.zero_le _, rfl, rfl, KeptSum.start s, by simp⟩
 case round =>
  obtain ⟨k, x, hk, rfl, rfl, hsum, hall⟩ := hrel
  have HS := hid hsum
  have HA := hid hall
  clear hsum hall
  by_cases hlt : k < s.su.length
  ·obtain ⟨ad, rfl, _, hx⟩ := (r1.grow g0).int hlt
   have i0 : (0 : Int) ≤ (k : Int) := by omega
   have i1 : (k : Int) < (s.su.length : Int) := by omega
   by_cases hlo : s.su[k] < 1
   ·have HE := hid (HE1.out k hlt (by unfold sutB; simp; omega))
    go_wp2
    go_ret
    exact HF.out _ _ HE.out g0
   ·by_cases hhi : 9 < s.su[k]
    ·have HE := hid (HE1.out k hlt (by unfold sutB; simp; omega))
     go_wp2
     go_ret
     exact HF.out _ _ HE.out g0
    ·have hall' : ∀ j (hj : j < s.su.length), j < k + 1 → 1 ≤ s.su[j] ∧ s.su[j] ≤ 9 := fun j hj hjk => by
      by_cases e : j = k
      ·subst e; omega
      ·exact HA.out j hj (by omega)
     have HA2 := hid hall'
     have HS2 := hid (HS.out.step hlt (by omega) hall')
     clear hall'
     go_wp2
     exact ⟨⟨k + 1, _, by omega, by go_num, rfl, HS2.out, HA2.out⟩, by simp only [intOf]; omega⟩
  ·obtain rfl : k = s.su.length := by omega
   have hw : ∀ z ∈ s.su, 1 ≤ z ∧ z ≤ 9 := fun z hz => by
    obtain ⟨j, hj, rfl⟩ := List.getElem_of_mem hz
    exact HA.out j hj hj
   have HE3 := hid (HE2.out hw)
   have HP := hid (fun (h : RowsTo s 6) => plain_bound (s := s) (by omega) hw (h.1 (by omega)) (h.2.1 (by omega)))
   have HX := hid (fun (h : RowsTo s 6) => (show x = plainI s by
    have h1 := h.1 (by omega)
    have h2 := h.2.1 (by omega)
    have := HS.out ⟨h1.1, h1.2, h2.1, h2.2⟩
    rwa [List.take_length] at this))
   clear hw
   have b0 : Blk (w.alloc (.cells #[.int .i64 s.pl, .slice A s.su.length c, .int .i64 s.wi, .int .i64 s.dr, .int .i64 s.fl, .int .i64 s.co, .int .i64 s.me, .int .i64 s.de, .slice B s.re.length d] 24)) w.heap.size 24 (setVals s (.slice A s.su.length c) (.slice B s.re.length d)) := heap_alloc_new w _
   have HG0 := hid g0
   have HB0 := hid b0
   clear b0 g0
   go_wp2_with (first
    | (refine wpList_store_row (by rfl) 139 (.tmp 6) (.tmp 64) (by rfl) (w.heap.size + 1) #[.int .i64 s.wi, .int .i64 0, .int .i64 4, .int .i64 s.dr, .int .i64 0, .int .i64 3, .int .i64 s.fl, .int .i64 0, .int .i64 8, .int .i64 s.co, .int .i64 1, .int .i64 4, .int .i64 s.me, .int .i64 1, .int .i64 4, .int .i64 s.de, .int .i64 0, .int .i64 20] (by rfl) (by rfl) 139 _ (heap_alloc2_new _ _ _) (by kernel_rfl) (by rfl) (by simp [Value.oneCell']) ?_
       generalize hW2 : World.setRow _ _ _ = W2 at *
       have hgr : Grow (w.alloc (.cells #[.int .i64 s.pl, .slice A s.su.length c, .int .i64 s.wi, .int .i64 s.dr, .int .i64 s.fl, .int .i64 s.co, .int .i64 s.me, .int .i64 s.de, .slice B s.re.length d] 24)) W2 := by
        rw [← hW2]
        exact grow_row (by simp) (heap_alloc2_new _ _ _) (by rfl)
       have HT1 := hid (show W2.heap[w.heap.size + 1]? = some (.cells #[.int .i64 s.wi, .int .i64 0, .int .i64 4, .int .i64 s.dr, .int .i64 0, .int .i64 3, .int .i64 s.fl, .int .i64 0, .int .i64 8, .int .i64 s.co, .int .i64 1, .int .i64 4, .int .i64 s.me, .int .i64 1, .int .i64 4, .int .i64 s.de, .int .i64 0, .int .i64 20] 139 (0, 0)) by
        rw [← hW2]
        exact setRow_heap _ _ _ _ _ _ (heap_alloc2_new _ _ _))
       have HG1 := hid (HG0.out.trans hgr)
       have HB1 := hid (HB0.out.grow hgr)
       clear hW2 hgr)
    | (refine wpList_load_row (by rfl) 139 (.tmp 6) (by rfl) (w.heap.size + 1) (by rfl) 139 #[.int .i64 s.wi, .int .i64 0, .int .i64 4, .int .i64 s.dr, .int .i64 0, .int .i64 3, .int .i64 s.fl, .int .i64 0, .int .i64 8, .int .i64 s.co, .int .i64 1, .int .i64 4, .int .i64 s.me, .int .i64 1, .int .i64 4, .int .i64 s.de, .int .i64 0, .int .i64 20] (0, 0) (.array 6 138) HT1.out Tryz.underlying139 rfl (by kernel_rfl) ?_))
   go_loopw [66] (fun i wr => ∃ k : Nat, k ≤ 6 ∧ i = .int .i64 (k : Int) ∧ RowsTo s k ∧ Blk wr w.heap.size 24 (setVals s (.slice A s.su.length c) (.slice B s.re.length d)) ∧ Grow w wr) (fun i _ => 6 - (intOf i).toNat)
   case atStart => exact ⟨0, by omega, rfl, by unfold RowsTo; omega, HB1.out, HG1.out⟩
   case round =>
    obtain ⟨k, hk, rfl, hrows, hb, hg⟩ := hrel
    have HR := hid hrows
    have GA := hid (fun o => hg.alloc o)
    have BA := hid (fun o => hb.grow ((Grow.refl wr).alloc o))
    rcases (show k = 0 ∨ k = 1 ∨ k = 2 ∨ k = 3 ∨ k = 4 ∨ k = 5 ∨ k = 6 by omega) with rfl | rfl | rfl | rfl | rfl | rfl | rfl
    ·as_aux_lemma =>
      have ix : ∀ w, (Instr.index 139 (.agg #[.int .i64 s.wi, .int .i64 0, .int .i64 4, .int .i64 s.dr, .int .i64 0, .int .i64 3, .int .i64 s.fl, .int .i64 0, .int .i64 8, .int .i64 s.co, .int .i64 1, .int .i64 4, .int .i64 s.me, .int .i64 1, .int .i64 4, .int .i64 s.de, .int .i64 0, .int .i64 20]) (.int .i64 0)).run Tryz.prog w = .ok (.agg #[.int .i64 s.wi, .int .i64 0, .int .i64 4]) w := fun _ => by kernel_rfl
      by_cases q1 : s.wi < 0
      ·have HE := hid (HE3.out.trans (if_pos (rowsB_true (by omega))))
       clear hrows
       go_wp2
       go_ret
       exact HF.out _ _ HE.out (GA.out _)
      ·by_cases q2 : 4 < s.wi
       ·have HE := hid (HE3.out.trans (if_pos (rowsB_true (by omega))))
        clear hrows
        go_wp2
        go_ret
        exact HF.out _ _ HE.out (GA.out _)
       ·have HR2 := hid (show RowsTo s 1 by unfold RowsTo at hrows ⊢; omega)
        clear hrows
        go_wp2
        exact ⟨⟨1, by omega, by go_num, HR2.out, BA.out _, GA.out _⟩, by simp only [intOf]; omega⟩
    ·as_aux_lemma =>
      have ix : ∀ w, (Instr.index 139 (.agg #[.int .i64 s.wi, .int .i64 0, .int .i64 4, .int .i64 s.dr, .int .i64 0, .int .i64 3, .int .i64 s.fl, .int .i64 0, .int .i64 8, .int .i64 s.co, .int .i64 1, .int .i64 4, .int .i64 s.me, .int .i64 1, .int .i64 4, .int .i64 s.de, .int .i64 0, .int .i64 20]) (.int .i64 1)).run Tryz.prog w = .ok (.agg #[.int .i64 s.dr, .int .i64 0, .int .i64 3]) w := fun _ => by kernel_rfl
      by_cases q1 : s.dr < 0
      ·have HE := hid (HE3.out.trans (if_pos (rowsB_true (by omega))))
       clear hrows
       go_wp2
       go_ret
       exact HF.out _ _ HE.out (GA.out _)
      ·by_cases q2 : 3 < s.dr
       ·have HE := hid (HE3.out.trans (if_pos (rowsB_true (by omega))))
        clear hrows
        go_wp2
        go_ret
        exact HF.out _ _ HE.out (GA.out _)
       ·have HR2 := hid (show RowsTo s 2 by unfold RowsTo at hrows ⊢; omega)
        clear hrows
        go_wp2
        exact ⟨⟨2, by omega, by go_num, HR2.out, BA.out _, GA.out _⟩, by simp only [intOf]; omega⟩
    ·as_aux_lemma =>
      have ix : ∀ w, (Instr.index 139 (.agg #[.int .i64 s.wi, .int .i64 0, .int .i64 4, .int .i64 s.dr, .int .i64 0, .int .i64 3, .int .i64 s.fl, .int .i64 0, .int .i64 8, .int .i64 s.co, .int .i64 1, .int .i64 4, .int .i64 s.me, .int .i64 1, .int .i64 4, .int .i64 s.de, .int .i64 0, .int .i64 20]) (.int .i64 2)).run Tryz.prog w = .ok (.agg #[.int .i64 s.fl, .int .i64 0, .int .i64 8]) w := fun _ => by kernel_rfl
      by_cases q1 : s.fl < 0
      ·have HE := hid (HE3.out.trans (if_pos (rowsB_true (by omega))))
       clear hrows
       go_wp2
       go_ret
       exact HF.out _ _ HE.out (GA.out _)
      ·by_cases q2 : 8 < s.fl
       ·have HE := hid (HE3.out.trans (if_pos (rowsB_true (by omega))))
        clear hrows
        go_wp2
        go_ret
        exact HF.out _ _ HE.out (GA.out _)
       ·have HR2 := hid (show RowsTo s 3 by unfold RowsTo at hrows ⊢; omega)
        clear hrows
        go_wp2
        exact ⟨⟨3, by omega, by go_num, HR2.out, BA.out _, GA.out _⟩, by simp only [intOf]; omega⟩
    ·as_aux_lemma =>
      have ix : ∀ w, (Instr.index 139 (.agg #[.int .i64 s.wi, .int .i64 0, .int .i64 4, .int .i64 s.dr, .int .i64 0, .int .i64 3, .int .i64 s.fl, .int .i64 0, .int .i64 8, .int .i64 s.co, .int .i64 1, .int .i64 4, .int .i64 s.me, .int .i64 1, .int .i64 4, .int .i64 s.de, .int .i64 0, .int .i64 20]) (.int .i64 3)).run Tryz.prog w = .ok (.agg #[.int .i64 s.co, .int .i64 1, .int .i64 4]) w := fun _ => by kernel_rfl
      by_cases q1 : s.co < 1
      ·have HE := hid (HE3.out.trans (if_pos (rowsB_true (by omega))))
       clear hrows
       go_wp2
       go_ret
       exact HF.out _ _ HE.out (GA.out _)
      ·by_cases q2 : 4 < s.co
       ·have HE := hid (HE3.out.trans (if_pos (rowsB_true (by omega))))
        clear hrows
        go_wp2
        go_ret
        exact HF.out _ _ HE.out (GA.out _)
       ·have HR2 := hid (show RowsTo s 4 by unfold RowsTo at hrows ⊢; omega)
        clear hrows
        go_wp2
        exact ⟨⟨4, by omega, by go_num, HR2.out, BA.out _, GA.out _⟩, by simp only [intOf]; omega⟩
    ·as_aux_lemma =>
      have ix : ∀ w, (Instr.index 139 (.agg #[.int .i64 s.wi, .int .i64 0, .int .i64 4, .int .i64 s.dr, .int .i64 0, .int .i64 3, .int .i64 s.fl, .int .i64 0, .int .i64 8, .int .i64 s.co, .int .i64 1, .int .i64 4, .int .i64 s.me, .int .i64 1, .int .i64 4, .int .i64 s.de, .int .i64 0, .int .i64 20]) (.int .i64 4)).run Tryz.prog w = .ok (.agg #[.int .i64 s.me, .int .i64 1, .int .i64 4]) w := fun _ => by kernel_rfl
      by_cases q1 : s.me < 1
      ·have HE := hid (HE3.out.trans (if_pos (rowsB_true (by omega))))
       clear hrows
       go_wp2
       go_ret
       exact HF.out _ _ HE.out (GA.out _)
      ·by_cases q2 : 4 < s.me
       ·have HE := hid (HE3.out.trans (if_pos (rowsB_true (by omega))))
        clear hrows
        go_wp2
        go_ret
        exact HF.out _ _ HE.out (GA.out _)
       ·have HR2 := hid (show RowsTo s 5 by unfold RowsTo at hrows ⊢; omega)
        clear hrows
        go_wp2
        exact ⟨⟨5, by omega, by go_num, HR2.out, BA.out _, GA.out _⟩, by simp only [intOf]; omega⟩
    ·as_aux_lemma =>
      have ix : ∀ w, (Instr.index 139 (.agg #[.int .i64 s.wi, .int .i64 0, .int .i64 4, .int .i64 s.dr, .int .i64 0, .int .i64 3, .int .i64 s.fl, .int .i64 0, .int .i64 8, .int .i64 s.co, .int .i64 1, .int .i64 4, .int .i64 s.me, .int .i64 1, .int .i64 4, .int .i64 s.de, .int .i64 0, .int .i64 20]) (.int .i64 5)).run Tryz.prog w = .ok (.agg #[.int .i64 s.de, .int .i64 0, .int .i64 20]) w := fun _ => by kernel_rfl
      by_cases q1 : s.de < 0
      ·have HE := hid (HE3.out.trans (if_pos (rowsB_true (by omega))))
       clear hrows
       go_wp2
       go_ret
       exact HF.out _ _ HE.out (GA.out _)
      ·by_cases q2 : 20 < s.de
       ·have HE := hid (HE3.out.trans (if_pos (rowsB_true (by omega))))
        clear hrows
        go_wp2
        go_ret
        exact HF.out _ _ HE.out (GA.out _)
       ·have HR2 := hid (show RowsTo s 6 by unfold RowsTo at hrows ⊢; omega)
        clear hrows
        go_wp2
        exact ⟨⟨6, by omega, by go_num, HR2.out, BA.out _, GA.out _⟩, by simp only [intOf]; omega⟩
    ·as_aux_lemma =>
      have HE4 := hid (HE3.out.trans (if_neg (by rw [rowsB_false hrows]; simp)))
      obtain rfl := HX.out hrows
      have hpl := HP.out hrows
      have HR6 := hid hrows
      clear hrows
      by_cases q1 : plainI s = 0
      ·have HE := hid (HE4.out.trans (if_pos q1))
       have q2 : (plainI s == 0) = true := by simp [q1]
       clear q1
       go_wp2
       go_ret
       exact HF.out _ _ HE.out hg
      ·have HE := hid (HE4.out.trans (if_neg q1))
       have q2 : (plainI s == 0) = false := by simpa using q1
       clear q1
       have c8 := hb.cell 8
       have c0 := hb.cell 0
       have c4 := hb.cell 4
       have c5 := hb.cell 5
       have c6 := hb.cell 6
       have c7 := hb.cell 7
       simp only [setVals, List.getElem?_cons_zero, List.getElem?_cons_succ] at c8 c0 c4 c5 c6 c7
       have r3 := r2.grow hg
       obtain ⟨w1, w2, w3, w4, w5, w6⟩ := HR6.out
       have bco := mul_136 hpl (w4 (by omega))
       have bpl := mul_52 (p := s.pl) ⟨by omega, by omega⟩ (w5 (by omega))
       have bfl := w3 (by omega)
       have bme := w5 (by omega)
       have bde := w6 (by omega)
       have bcc := w4 (by omega)
       clear w1 w2 w3 w4 w5 w6
       go_wp2
       go_loop [9, 87] (fun q i => ∃ (k : Nat) (p : Int), k ≤ s.re.length ∧ i = .int .i64 (k : Int) ∧ q = .int .i64 p ∧ risErr (plainI s) (-1) s.re = risErr (plainI s) p (s.re.drop k)) (fun _ i => s.re.length - (intOf i).toNat)
       case atStart => exact ⟨0, -1, Nat.zero_le _, rfl, rfl, rfl⟩
       case round =>
        obtain ⟨k, p, hk, rfl, rfl, hz⟩ := hrel
        have HZ := hid hz
        clear hz
        by_cases hlt : k < s.re.length
        ·obtain ⟨ad, rfl, _, hx⟩ := r3.int hlt
         have hst := HZ.out
         rw [risErr_drop hlt] at hst
         have i0 : (0 : Int) ≤ (k : Int) := by omega
         have i1 : (k : Int) < (s.re.length : Int) := by omega
         by_cases q3 : s.re[k] < 0
         ·rw [if_pos (.inl q3)] at hst
          have HE5 := hid (HE.out.trans ((if_pos (by omega)).trans hst))
          clear hst
          go_wp2
          go_ret
          exact HF.out _ _ HE5.out hg
         ·by_cases q4 : plainI s ≤ s.re[k]
          ·rw [if_pos (.inr q4)] at hst
           have HE5 := hid (HE.out.trans ((if_pos (by omega)).trans hst))
           clear hst
           go_wp2
           go_ret
           exact HF.out _ _ HE5.out hg
          ·rw [if_neg (by omega)] at hst
           by_cases q5 : s.re[k] ≤ p
           ·rw [if_pos q5] at hst
            have HE5 := hid (HE.out.trans ((if_pos (by omega)).trans hst))
            clear hst
            go_wp2
            go_ret
            exact HF.out _ _ HE5.out hg
           ·rw [if_neg q5] at hst
            have HST := hid hst
            clear hst
            go_wp2
            exact ⟨⟨k + 1, _, by omega, by go_num, rfl, HST.out⟩, by simp only [intOf]; omega⟩
        ·have hz0 : risErr (plainI s) (-1) s.re = 0 := by rw [HZ.out, List.drop_eq_nil_of_le (by omega)]; rfl
         have HE5 := hid (HE.out.trans (if_neg (by rw [hz0]; simp)))
         clear hz0
         by_cases q3 : plainI s * s.co + s.fl ≤ s.pl * (3 * s.me + 1) + s.de
         ·have HE6 := hid (HE5.out.trans (if_pos q3))
          go_wp2
          go_ret
          exact HF.out _ _ HE6.out hg
         ·have HE6 := hid (HE5.out.trans (if_neg q3))
          go_wp2
          go_ret
          exact HF.out _ _ HE6.out hg
end Go.Proofs.YthblfhgofopcaaaGreat
