/-
  Parts of the proof: Runs, Shelf, Gp.
-/
import Derived.Test.YthblfhgofopcaaaGreatHA22
import Derived.Shelf.Small.Bits
import Derived.Shelf.Small.Wraps
import Derived.Shelf.Strconv.Itoa0
import Derived.Shelf.Bits.Mul64
import Derived.Shelf.Slices.Turned
import Derived.Shelf.Slices.Equal
import Derived.Ground.Names2Prog
import Derived.Shelf.Slices.Clone
import Derived.Shelf.Slices.SearchI
import Derived.Shelf.Slices.Empties
import Derived.Shelf.Slices.Empties2
import Derived.Test.YthblfhgofopcaaaGreatProg
set_option linter.all false
namespace Go.Proofs.YthblfhgofopcaaaGreat
open Go.RowKit
def lenI (s : TSet) (su : Int) : Int := if su = -1 then s.wi else if su = -2 then s.dr else if su = -3 then s.fl else s.su.getD su.toNat 0
theorem lenI_suit {s : TSet} {j : Nat} (h : j < s.su.length) : lenI s (j : Int) = s.su[j] := by
 unfold lenI
 rw [if_neg (by omega), if_neg (by omega), if_neg (by omega)]
 simp [List.getD, h]
def runsB (s : TSet) (k : Int) : Bool := decide (0 ≤ (placeP s k).1) && decide ((placeP s k).2 + 2 < lenI s (placeP s k).1)
inductive PlaceIs (s : TSet) (k : Int) : Prop
 | none (h : placeP s k = (-4, 0))
 | suit (e : chkErr s = 0) (j r : Nat) (h : placeP s k = ((j : Int), (r : Int))) (hj : j < s.su.length) (hr : (r : Int) < s.su[j]) (hk : k = sumI (s.su.take j) + r)
 | other (e : chkErr s = 0) (su : Int) (r : Nat) (h : placeP s k = (su, (r : Int))) (hs : su = -1 ∨ su = -2 ∨ su = -3) (hr : (r : Int) < lenI s su) (hl : lenI s su ≤ 8) (hk : 0 ≤ k ∧ k ≤ 50)
theorem place_is (s : TSet) (k : Int) : PlaceIs s k := by
 by_cases e : chkErr s = 0
 ·have V := valid_of e
  by_cases hk : k < 0 ∨ ((allP s).length : Int) ≤ k
  ·exact .none (place_out hk)
  ·have hm := place_in (s := s) (k := k) (by omega) (by omega)
   have hl := allP_length s
   rw [if_pos e] at hl
   have v1 := V.wi
   have v2 := V.dr
   have v3 := V.fl
   have v4 := V.plain
   rcases place_cases e hm with ⟨j, r, ⟨hj, hr, hk'⟩, h2⟩ | ⟨r, hr, _, h2⟩ | ⟨r, hr, _, h2⟩ | ⟨r, hr, _, h2⟩
   ·exact .suit e j r h2 hj hr hk'
   ·exact .other e (-1) r h2 (.inl rfl) hr (by show s.wi ≤ 8; omega) (by omega)
   ·exact .other e (-2) r h2 (.inr (.inl rfl)) hr (by show s.dr ≤ 8; omega) (by omega)
   ·exact .other e (-3) r h2 (.inr (.inr rfl)) hr (by show s.fl ≤ 8; omega) (by omega)
 ·exact .none (place_bad k e)
theorem Runs_any (v : Value) (s : TSet) (k : Int) (w : World) (h : IsSet w v s) : Calls Tryz.prog 153 #[v, .int .i64 k] w (Gives w (.bool (runsB s k))) := by
 have hfin : ∀ r wf, runsB s k = r → Grow w wf → Gives w (.bool (runsB s k)) (.returned (.bool r)) wf := fun r wf h hg => ⟨by rw [h], hg⟩
 have HF := hid hfin
 have PL := fun W (hg : Grow w W) => Place_any v s k W (h.grow hg)
 clear hfin
 have HI := hid h
 obtain ⟨A, c, B, d, rfl, h1, h2⟩ := h.open_
 obtain ⟨_, _, e1, c1, m1, r1⟩ := h1
 obtain ⟨_, _, e2, d1, m2, r2⟩ := h2
 injection e1 with e1 _ e1'
 injection e2 with e2 _ e2'
 subst e1 e1' e2 e2'
 unfold maxLen at m1 m2
 have HG0 := hid (show Grow w (w.alloc (.cells #[.int .i64 s.pl, .slice A s.su.length c, .int .i64 s.wi, .int .i64 s.dr, .int .i64 s.fl, .int .i64 s.co, .int .i64 s.me, .int .i64 s.de, .slice B s.re.length d] 24)) from (Grow.refl w).alloc _)
 have HB0 := hid (show Blk (w.alloc (.cells #[.int .i64 s.pl, .slice A s.su.length c, .int .i64 s.wi, .int .i64 s.dr, .int .i64 s.fl, .int .i64 s.co, .int .i64 s.me, .int .i64 s.de, .slice B s.re.length d] 24)) w.heap.size 24 (setVals s (.slice A s.su.length c) (.slice B s.re.length d)) from heap_alloc_new w _)
 clear h
 rcases place_is s k with hp | ⟨e, j, r, hp, hj, hr, hk⟩ | ⟨e, su, r, hp, hs, hr, hl, hk⟩
 ·rw [hp] at PL
  have PL := hid PL
  have HE := hid (show runsB s k = false by unfold runsB; rw [hp]; rfl)
  clear hp
  go_enter Tryz.func153, Tryz.ntmps153
  go_wp2_with (go_at_call 126; refine (PL.out _ HG0.out).mono ?_; rintro e w1 ⟨rfl, hg1⟩; have hg := HG0.out.trans hg1; obtain ⟨c0, c1, c2, c3, c4, c5, c6, c7, c8⟩ := set_cells (HB0.out.grow hg1))
  go_ret
  exact HF.out _ _ HE.out hg
 ·rw [hp] at PL
  have PL := hid PL
  have V := valid_of e
  have HE0 := show runsB s k = decide ((r : Int) + 2 < s.su[j]) by unfold runsB; rw [hp]; simp only; rw [lenI_suit hj, decide_eq_true (show 0 ≤ (j : Int) by omega), Bool.true_and]
  have hz := V.su s.su[j] (List.getElem_mem hj)
  have j0 : (0 : Int) ≤ (j : Int) := by omega
  have j1 : (j : Int) < (s.su.length : Int) := by omega
  have HR := hid (fun W (hg : Grow w W) => (r1.grow hg).int hj)
  have HE := hid HE0
  clear hp hk e V HE0
  go_enter Tryz.func153, Tryz.ntmps153
  go_wp2_with (go_at_call 126; refine (PL.out _ HG0.out).mono ?_; rintro e w1 ⟨rfl, hg1⟩; have hg := HG0.out.trans hg1; obtain ⟨c0, c1, c2, c3, c4, c5, c6, c7, c8⟩ := set_cells (HB0.out.grow hg1); obtain ⟨ad, rfl, _, hx⟩ := HR.out _ hg)
  go_ret
  exact HF.out _ _ HE.out hg
 ·rw [hp] at PL
  have PL := hid PL
  have HE := hid (show runsB s k = false by unfold runsB; rw [hp]; simp only; rw [decide_eq_false (show ¬ 0 ≤ su by omega)]; rfl)
  have q3 : ¬ 0 ≤ su := by omega
  clear hp hs e
  go_enter Tryz.func153, Tryz.ntmps153
  go_wp2_with (go_at_call 126; refine (PL.out _ HG0.out).mono ?_; rintro e w1 ⟨rfl, hg1⟩; have hg := HG0.out.trans hg1; obtain ⟨c0, c1, c2, c3, c4, c5, c6, c7, c8⟩ := set_cells (HB0.out.grow hg1))
  go_ret
  exact HF.out _ _ HE.out hg
theorem rRuns_any (v : Value) (s : TSet) (k : Int) (w : World) (h : IsSet w v s) : Calls Tryz.prog 156 #[v, .int .i64 k] w (Gives w (.bool (runsB s k))) := by
 have hfin : ∀ b wf, runsB s k = b → Grow w wf → Gives w (.bool (runsB s k)) (.returned (.bool b)) wf := fun r wf h hg => ⟨by rw [h], hg⟩
 have HF := hid hfin
 have PL := fun W (hg : Grow w W) => rPlace_any v s k W (h.grow hg)
 clear hfin
 have HI := hid h
 obtain ⟨A, c, B, d, rfl, h1, h2⟩ := h.open_
 obtain ⟨_, _, e1, c1, m1, r1⟩ := h1
 obtain ⟨_, _, e2, d1, m2, r2⟩ := h2
 injection e1 with e1 _ e1'
 injection e2 with e2 _ e2'
 subst e1 e1' e2 e2'
 unfold maxLen at m1 m2
 have HG0 := hid (show Grow w (w.alloc (.cells #[.int .i64 s.pl, .slice A s.su.length c, .int .i64 s.wi, .int .i64 s.dr, .int .i64 s.fl, .int .i64 s.co, .int .i64 s.me, .int .i64 s.de, .slice B s.re.length d] 24)) from (Grow.refl w).alloc _)
 have HB0 := hid (show Blk (w.alloc (.cells #[.int .i64 s.pl, .slice A s.su.length c, .int .i64 s.wi, .int .i64 s.dr, .int .i64 s.fl, .int .i64 s.co, .int .i64 s.me, .int .i64 s.de, .slice B s.re.length d] 24)) w.heap.size 24 (setVals s (.slice A s.su.length c) (.slice B s.re.length d)) from heap_alloc_new w _)
 clear h
 rcases place_is s k with hp | ⟨e, j, r, hp, hj, hr, hk⟩ | ⟨e, su, r, hp, hs, hr, hl, hk⟩
 ·rw [hp] at PL
  have PL := hid PL
  have HE := hid (show runsB s k = false by unfold runsB; rw [hp]; rfl)
  clear hp
  go_enter Tryz.func156, Tryz.ntmps156
  go_wp2_with (go_at_call 174; refine (PL.out _ HG0.out).mono ?_; rintro e w1 ⟨rfl, hg1⟩; have hg := HG0.out.trans hg1)
  go_ret
  exact HF.out _ _ HE.out hg
 ·rw [hp] at PL
  have PL := hid PL
  have V := valid_of e
  have hz := V.su s.su[j] (List.getElem_mem hj)
  have j0 : (0 : Int) ≤ (j : Int) := by omega
  have j1 : (j : Int) < (s.su.length : Int) := by omega
  have HR := hid (fun W (hg : Grow w W) => (r1.grow hg).int hj)
  have HE := hid (show runsB s k = decide ((r : Int) + 2 < s.su[j]) by unfold runsB; rw [hp]; simp only; rw [decide_eq_true j0, lenI_suit hj, Bool.true_and])
  clear hp hk e V
  go_enter Tryz.func156, Tryz.ntmps156
  go_wp2_with (go_at_call 174; refine (PL.out _ HG0.out).mono ?_; rintro e w1 ⟨rfl, hg1⟩; have hg := HG0.out.trans hg1; obtain ⟨c0, c1, c2, c3, c4, c5, c6, c7, c8⟩ := set_cells (HB0.out.grow hg1); obtain ⟨ad, rfl, _, hx⟩ := HR.out _ hg)
  go_ret
  exact HF.out _ _ HE.out hg
 ·rw [hp] at PL
  have PL := hid PL
  have HE := hid (show runsB s k = false by unfold runsB; rw [hp]; simp only; rw [decide_eq_false (show ¬ 0 ≤ su by omega)]; rfl)
  have q3 : ¬ 0 ≤ su := by omega
  clear hp hs e
  go_enter Tryz.func156, Tryz.ntmps156
  go_wp2_with (go_at_call 174; refine (PL.out _ HG0.out).mono ?_; rintro e w1 ⟨rfl, hg1⟩; have hg := HG0.out.trans hg1)
  go_ret
  exact HF.out _ _ HE.out hg
end Go.Proofs.YthblfhgofopcaaaGreat

namespace Go.Proofs
open Go.Shelf
def Tryz.lays212_ren : Go.Shelf.Ren := ⟨fun | 212 => 154 | 263 => 175 | 264 => 176 | n => n, fun | 46 => 116 | 51 => 176 | 146 => 177 | 53 => 113 | 148 => 179 | n => n, fun | n => n⟩
theorem Tryz.lays212 : Go.Proofs.Lays.n212 Tryz.prog Tryz.lays212_ren := {
 mixed := by kernel_rfl
 f212 := Tryz.func154.trans (congrArg some (by kernel_rfl))
 f263 := Tryz.func175.trans (congrArg some (by kernel_rfl))
 f264 := Tryz.func176.trans (congrArg some (by kernel_rfl))
 t46 := Tryz.underlying116
 a46 := Tryz.isAgg116
 z46 := Tryz.sizeOf116
 v46 := Tryz.zeroValue116
 t51 := Tryz.underlying176
 a51 := Tryz.isAgg176
 z51 := Tryz.sizeOf176
 v51 := Tryz.zeroValue176
 t53 := Tryz.underlying113
 a53 := Tryz.isAgg113
 z53 := Tryz.sizeOf113
 v53 := Tryz.zeroValue113
 t146 := Tryz.underlying177
 a146 := Tryz.isAgg177
 z146 := Tryz.sizeOf177
 v146 := Tryz.zeroValue177
 t148 := Tryz.underlying179
 a148 := Tryz.isAgg179
 z148 := Tryz.sizeOf179
 v148 := Tryz.zeroValue179 }
open Go.RowKit Go.Lib in
theorem Tryz.bits_Mul (x y : Nat) (hx : x < 18446744073709551616) (hy : y < 18446744073709551616) (w : World) :
  Calls Tryz.prog 154 #[.int .u64 x, .int .u64 y] w fun e w' => e = .returned (.tuple #[.int .u64 ((x * y / 18446744073709551616 : Nat) : Int), .int .u64 ((x * y % 18446744073709551616 : Nat) : Int)]) ∧ w' = w := Any.bits_Mul Tryz.lays212 x y hx hy w
end Go.Proofs

namespace Go.Proofs.YthblfhgofopcaaaGreat
open Go.RowKit
structure Gp where
 wh : Int
 kd : Int
 op : Bool
def grpErr (s : TSet) (a k : Int) : Int := if a < 1 ∨ 5 < a then 4 else if k < 0 ∨ kindsI s ≤ k then 2 else if a = 1 ∧ runsB s k = false then 3 else 0
def tilesL (a k : Int) : List Int := if a = 1 then [k, k + 1, k + 2] else if a = 2 then [k, k, k] else if a = 3 then [k, k, k, k] else if a = 4 then [k, k] else [k]
def tilesI (s : TSet) (a k : Int) : List Int := if chkErr s = 0 ∧ grpErr s a k = 0 then tilesL a k else []
theorem rplain_any (v : Value) (s : TSet) (k : Int) (w : World) (h : IsSet w v s) : Calls Tryz.prog 92 #[v, .int .i64 k] w (Gives w (.bool (decide (0 ≤ k) && decide (k < kindsI s)))) := by
 have KN := hid (fun W (hg : Grow w W) => rKinds_any v s W (h.grow hg))
 have HI := hid h
 obtain ⟨A, c, B, d, rfl, h1, h2⟩ := h.open_
 obtain ⟨_, _, e1, c1, m1, r1⟩ := h1
 obtain ⟨_, _, e2, d1, m2, r2⟩ := h2
 injection e1 with e1 _ e1'
 injection e2 with e2 _ e2'
 subst e1 e1' e2 e2'
 unfold maxLen at m1 m2
 have HG0 := hid (show Grow w (w.alloc (.cells #[.int .i64 s.pl, .slice A s.su.length c, .int .i64 s.wi, .int .i64 s.dr, .int .i64 s.fl, .int .i64 s.co, .int .i64 s.me, .int .i64 s.de, .slice B s.re.length d] 24)) from (Grow.refl w).alloc _)
 have HB0 := hid (show Blk (w.alloc (.cells #[.int .i64 s.pl, .slice A s.su.length c, .int .i64 s.wi, .int .i64 s.dr, .int .i64 s.fl, .int .i64 s.co, .int .i64 s.me, .int .i64 s.de, .slice B s.re.length d] 24)) w.heap.size 24 (setVals s (.slice A s.su.length c) (.slice B s.re.length d)) from heap_alloc_new w _)
 clear h
 generalize kindsI s = m at *
 by_cases h0 : 0 ≤ k
 ·rw [decide_eq_true h0, Bool.true_and]
  go_enter Tryz.func92, Tryz.ntmps92
  go_wp2_with (go_at_call 141; refine (KN.out _ HG0.out).mono ?_; rintro e w1 ⟨rfl, hg1⟩; have hg := HG0.out.trans hg1)
  go_ret
  exact ⟨rfl, hg⟩
 ·rw [decide_eq_false h0, Bool.false_and]
  go_enter Tryz.func92, Tryz.ntmps92
  go_wp2
  go_ret
  exact ⟨rfl, HG0.out⟩
theorem rcheckGroup_any (v : Value) (s : TSet) (a k : Int) (o : Bool) (w : World) (h : IsSet w v s) : Calls Tryz.prog 122 #[v, .agg #[.int .i64 a, .int .i64 k, .bool o]] w (Gives w (.int .i64 (grpErr s a k))) := by
 have hfin : ∀ r wf, grpErr s a k = r → Grow w wf → Gives w (.int .i64 (grpErr s a k)) (.returned (.int .i64 r)) wf := fun r wf h hg => ⟨by rw [h], hg⟩
 have HF := hid hfin
 clear hfin
 have PL := fun W (hg : Grow w W) => rplain_any v s k W (h.grow hg)
 have RN := fun W (hg : Grow w W) => rRuns_any v s k W (h.grow hg)
 have HI := hid h
 obtain ⟨A, c, B, d, rfl, h1, h2⟩ := h.open_
 obtain ⟨_, _, e1, c1, m1, r1⟩ := h1
 obtain ⟨_, _, e2, d1, m2, r2⟩ := h2
 injection e1 with e1 _ e1'
 injection e2 with e2 _ e2'
 subst e1 e1' e2 e2'
 unfold maxLen at m1 m2
 have HG0 := hid (show Grow w (w.alloc (.cells #[.int .i64 s.pl, .slice A s.su.length c, .int .i64 s.wi, .int .i64 s.dr, .int .i64 s.fl, .int .i64 s.co, .int .i64 s.me, .int .i64 s.de, .slice B s.re.length d] 24)) from (Grow.refl w).alloc _)
 have HB0 := hid (show Blk (w.alloc (.cells #[.int .i64 s.pl, .slice A s.su.length c, .int .i64 s.wi, .int .i64 s.dr, .int .i64 s.fl, .int .i64 s.co, .int .i64 s.me, .int .i64 s.de, .slice B s.re.length d] 24)) w.heap.size 24 (setVals s (.slice A s.su.length c) (.slice B s.re.length d)) from heap_alloc_new w _)
 clear h
 have HG1 := hid (HG0.out.alloc (.cells #[.int .i64 a, .int .i64 k, .bool o] 72))
 have HB1 := hid (HB0.out.grow ((Grow.refl _).alloc (.cells #[.int .i64 a, .int .i64 k, .bool o] 72)))
 have HC := hid (show Blk ((w.alloc (.cells #[.int .i64 s.pl, .slice A s.su.length c, .int .i64 s.wi, .int .i64 s.dr, .int .i64 s.fl, .int .i64 s.co, .int .i64 s.me, .int .i64 s.de, .slice B s.re.length d] 24)).alloc (.cells #[.int .i64 a, .int .i64 k, .bool o] 72)) (w.heap.size + 1) 72 [.int .i64 a, .int .i64 k, .bool o] from Blk.new_at (w := w.alloc (.cells #[.int .i64 s.pl, .slice A s.su.length c, .int .i64 s.wi, .int .i64 s.dr, .int .i64 s.fl, .int .i64 s.co, .int .i64 s.me, .int .i64 s.de, .slice B s.re.length d] 24)) (xs := [.int .i64 a, .int .i64 k, .bool o]) (by simp))
 by_cases a0 : a < 1 ∨ 5 < a
 ·have HE := hid (show grpErr s a k = 4 by unfold grpErr; rw [if_pos a0])
  clear PL RN
  rcases a0 with a1 | a1
  ·go_enter Tryz.func122, Tryz.ntmps122
   go_wp2
   go_ret
   exact HF.out _ _ HE.out HG1.out
  ·have a2 : ¬ a < 1 := by omega
   go_enter Tryz.func122, Tryz.ntmps122
   go_wp2
   go_ret
   exact HF.out _ _ HE.out HG1.out
 ·have a1 : ¬ a < 1 := by omega
  have a2 : ¬ 5 < a := by omega
  by_cases k0 : k < 0 ∨ kindsI s ≤ k
  ·have HE := hid (show grpErr s a k = 2 by unfold grpErr; rw [if_neg a0, if_pos k0])
   have e : (decide (0 ≤ k) && decide (k < kindsI s)) = false := by
    rcases k0 with h | h
    ·rw [decide_eq_false (by omega)]; rfl
    ·rw [decide_eq_false (show ¬ k < kindsI s by omega), Bool.and_false]
   rw [e] at PL
   have PL := hid PL
   clear RN e k0 a0
   go_enter Tryz.func122, Tryz.ntmps122
   go_wp2_with (go_at_call 92; refine (PL.out _ HG1.out).mono ?_; rintro e w1 ⟨rfl, hg1⟩; have hg := HG1.out.trans hg1)
   go_ret
   exact HF.out _ _ HE.out hg
  ·have e : (decide (0 ≤ k) && decide (k < kindsI s)) = true := by
    rw [decide_eq_true (show 0 ≤ k by omega), decide_eq_true (show k < kindsI s by omega)]; rfl
   rw [e] at PL
   have PL := hid PL
   by_cases ha : a = 1
   ·subst ha
    have HE := hid (show ∀ b, runsB s k = b → grpErr s 1 k = if b then 0 else 3 from fun b hb => by
     unfold grpErr; rw [if_neg a0, if_neg k0, hb]; cases b <;> simp)
    cases hb : runsB s k
    all_goals
     rw [hb] at RN
     have HE := hid (HE.out _ hb)
     have RN := hid RN
     clear e k0 a0 hb
     go_enter Tryz.func122, Tryz.ntmps122
     go_wp2_with (first
      | (go_at_call 92; refine (PL.out _ HG1.out).mono ?_; rintro e w1 ⟨rfl, hg1⟩; have hg := HG1.out.trans hg1; have hb1 := HB1.out.grow hg1; obtain ⟨c0, c1, c2, c3, c4, c5, c6, c7, c8⟩ := set_cells hb1; have hc1 := HC.out.grow hg1; have d0 := hc1.cell 0; have d1 := hc1.cell 1)
      | (go_at_call 156; refine (RN.out _ hg).mono ?_; rintro e w2 ⟨rfl, hg2⟩; have hgg := hg.trans hg2))
     go_ret
     exact HF.out _ _ HE.out hgg
   ·have HE := hid (show grpErr s a k = 0 by unfold grpErr; rw [if_neg a0, if_neg k0, if_neg (fun h => ha h.1)])
    have ne : (a == 1) = false := by simp [ha]
    clear RN e k0 a0
    go_enter Tryz.func122, Tryz.ntmps122
    go_wp2_with (go_at_call 92; refine (PL.out _ HG1.out).mono ?_; rintro e w1 ⟨rfl, hg1⟩; have hg := HG1.out.trans hg1; have hc1 := HC.out.grow hg1; have d0 := hc1.cell 0; have d1 := hc1.cell 1)
    go_ret
    exact HF.out _ _ HE.out hg
theorem checkGroup_any (v : Value) (s : TSet) (a k : Int) (o : Bool) (w : World) (h : IsSet w v s) : Calls Tryz.prog 112 #[v, .agg #[.int .i64 a, .int .i64 k, .bool o]] w (Gives w (.int .i64 (grpErr s a k))) := by
 have hfin : ∀ r wf, grpErr s a k = r → Grow w wf → Gives w (.int .i64 (grpErr s a k)) (.returned (.int .i64 r)) wf := fun r wf h hg => ⟨by rw [h], hg⟩
 have HF := hid hfin
 clear hfin
 have KN := fun W (hg : Grow w W) => Kinds_any v s W (h.grow hg)
 have RN := fun W (hg : Grow w W) => Runs_any v s k W (h.grow hg)
 have HI := hid h
 obtain ⟨A, c, B, d, rfl, h1, h2⟩ := h.open_
 obtain ⟨_, _, e1, c1, m1, r1⟩ := h1
 obtain ⟨_, _, e2, d1, m2, r2⟩ := h2
 injection e1 with e1 _ e1'
 injection e2 with e2 _ e2'
 subst e1 e1' e2 e2'
 unfold maxLen at m1 m2
 have HG0 := hid (show Grow w (w.alloc (.cells #[.int .i64 s.pl, .slice A s.su.length c, .int .i64 s.wi, .int .i64 s.dr, .int .i64 s.fl, .int .i64 s.co, .int .i64 s.me, .int .i64 s.de, .slice B s.re.length d] 24)) from (Grow.refl w).alloc _)
 have HB0 := hid (show Blk (w.alloc (.cells #[.int .i64 s.pl, .slice A s.su.length c, .int .i64 s.wi, .int .i64 s.dr, .int .i64 s.fl, .int .i64 s.co, .int .i64 s.me, .int .i64 s.de, .slice B s.re.length d] 24)) w.heap.size 24 (setVals s (.slice A s.su.length c) (.slice B s.re.length d)) from heap_alloc_new w _)
 clear h
 have HG1 := hid (HG0.out.alloc (.cells #[.int .i64 a, .int .i64 k, .bool o] 72))
 have HB1 := hid (HB0.out.grow ((Grow.refl _).alloc (.cells #[.int .i64 a, .int .i64 k, .bool o] 72)))
 have HC := hid (show Blk ((w.alloc (.cells #[.int .i64 s.pl, .slice A s.su.length c, .int .i64 s.wi, .int .i64 s.dr, .int .i64 s.fl, .int .i64 s.co, .int .i64 s.me, .int .i64 s.de, .slice B s.re.length d] 24)).alloc (.cells #[.int .i64 a, .int .i64 k, .bool o] 72)) (w.heap.size + 1) 72 [.int .i64 a, .int .i64 k, .bool o] from Blk.new_at (w := w.alloc (.cells #[.int .i64 s.pl, .slice A s.su.length c, .int .i64 s.wi, .int .i64 s.dr, .int .i64 s.fl, .int .i64 s.co, .int .i64 s.me, .int .i64 s.de, .slice B s.re.length d] 24)) (xs := [.int .i64 a, .int .i64 k, .bool o]) (by simp))
 have KS := hid (fun W (hg : Grow ((w.alloc (.cells #[.int .i64 s.pl, .slice A s.su.length c, .int .i64 s.wi, .int .i64 s.dr, .int .i64 s.fl, .int .i64 s.co, .int .i64 s.me, .int .i64 s.de, .slice B s.re.length d] 24)).alloc (.cells #[.int .i64 a, .int .i64 k, .bool o] 72)) W) => And.intro hg (And.intro (set_cells (HB1.out.grow hg)) (And.intro ((HC.out.grow hg).cell 0) ((HC.out.grow hg).cell 1))))
 by_cases a0 : a < 1 ∨ 5 < a
 ·have HE := hid (show grpErr s a k = 4 by unfold grpErr; rw [if_pos a0])
  clear KN RN
  rcases a0 with a1 | a1
  ·go_enter Tryz.func112, Tryz.ntmps112
   go_wp2
   go_ret
   exact HF.out _ _ HE.out HG1.out
  ·have a2 : ¬ a < 1 := by omega
   go_enter Tryz.func112, Tryz.ntmps112
   go_wp2
   go_ret
   exact HF.out _ _ HE.out HG1.out
 ·have a1 : ¬ a < 1 := by omega
  have a2 : ¬ 5 < a := by omega
  by_cases k1 : k < 0
  ·have HE := hid (show grpErr s a k = 2 by unfold grpErr; rw [if_neg a0, if_pos (.inl k1)])
   clear RN KN a0
   go_enter Tryz.func112, Tryz.ntmps112
   go_wp2
   generalize hW : (w.alloc (.cells #[.int .i64 s.pl, .slice A s.su.length c, .int .i64 s.wi, .int .i64 s.dr, .int .i64 s.fl, .int .i64 s.co, .int .i64 s.me, .int .i64 s.de, .slice B s.re.length d] 24)).alloc (.cells #[.int .i64 a, .int .i64 k, .bool o] 72) = W1 at *
   clear hW
   obtain ⟨_, ⟨c0, c1, c2, c3, c4, c5, c6, c7, c8⟩, d0, d1⟩ := KS.out _ (Grow.refl _)
   go_quiet (fail)
   go_wp2
   go_ret
   exact HF.out _ _ HE.out (HG1.out.drewN _)
  ·have HK := hid (decide_eq_false k1)
   by_cases k2 : kindsI s ≤ k
   ·have HE := hid (show grpErr s a k = 2 by unfold grpErr; rw [if_neg a0, if_pos (.inr k2)])
    have KN := hid KN
    generalize kindsI s = m at *
    clear RN a0
    go_wp2
    generalize hW : (w.alloc (.cells #[.int .i64 s.pl, .slice A s.su.length c, .int .i64 s.wi, .int .i64 s.dr, .int .i64 s.fl, .int .i64 s.co, .int .i64 s.me, .int .i64 s.de, .slice B s.re.length d] 24)).alloc (.cells #[.int .i64 a, .int .i64 k, .bool o] 72) = W1 at *
    clear hW
    have kd := HK.out
    go_region_held3 (fun W => Grow W1 W ∧ (W.cell? ⟨w.heap.size, 0, none⟩ = some (.int .i64 s.pl) ∧ W.cell? ⟨w.heap.size, 1, none⟩ = some (.slice A s.su.length c) ∧ W.cell? ⟨w.heap.size, 2, none⟩ = some (.int .i64 s.wi) ∧ W.cell? ⟨w.heap.size, 3, none⟩ = some (.int .i64 s.dr) ∧ W.cell? ⟨w.heap.size, 4, none⟩ = some (.int .i64 s.fl) ∧ W.cell? ⟨w.heap.size, 5, none⟩ = some (.int .i64 s.co) ∧ W.cell? ⟨w.heap.size, 6, none⟩ = some (.int .i64 s.me) ∧ W.cell? ⟨w.heap.size, 7, none⟩ = some (.int .i64 s.de) ∧ W.cell? ⟨w.heap.size, 8, none⟩ = some (.slice B s.re.length d)) ∧ W.cell? ⟨w.heap.size + 1, 0, none⟩ = some (.int .i64 a) ∧ W.cell? ⟨w.heap.size + 1, 1, none⟩ = some (.int .i64 k))
     (exact KS.out _ (by first | assumption | exact (Grow.refl _).drew | exact (Grow.refl _).drewN _ | exact Grow.drewN (by assumption) _))
     ((go_at_call 101; have hS := (‹Grow W1 _ ∧ _›).1; refine (KN.out _ (HG1.out.trans hS)).mono ?_; rintro e w5 ⟨rfl, g5⟩; have hk5 := hS.trans g5))
    all_goals
     go_wp2
     go_ret
     exact HF.out _ _ HE.out (HG1.out.trans (by first | assumption | exact hk5.drewN _))
   ·by_cases ha : a = 1
    ·subst ha
     have HE := hid (show ∀ b, runsB s k = b → grpErr s 1 k = if b then 0 else 3 from fun b hb => by
      unfold grpErr; rw [if_neg a0, if_neg (by omega), hb]; cases b <;> simp)
     have KN := hid KN
     cases hb : runsB s k
     all_goals
      rw [hb] at RN
      have HE := hid (HE.out _ hb)
      have RN := hid RN
      generalize kindsI s = m at *
      clear a0 hb
      go_wp2
      generalize hW : (w.alloc (.cells #[.int .i64 s.pl, .slice A s.su.length c, .int .i64 s.wi, .int .i64 s.dr, .int .i64 s.fl, .int .i64 s.co, .int .i64 s.me, .int .i64 s.de, .slice B s.re.length d] 24)).alloc (.cells #[.int .i64 1, .int .i64 k, .bool o] 72) = W1 at *
      clear hW
      have kd := HK.out
      go_region_held3 (fun W => Grow W1 W ∧ (W.cell? ⟨w.heap.size, 0, none⟩ = some (.int .i64 s.pl) ∧ W.cell? ⟨w.heap.size, 1, none⟩ = some (.slice A s.su.length c) ∧ W.cell? ⟨w.heap.size, 2, none⟩ = some (.int .i64 s.wi) ∧ W.cell? ⟨w.heap.size, 3, none⟩ = some (.int .i64 s.dr) ∧ W.cell? ⟨w.heap.size, 4, none⟩ = some (.int .i64 s.fl) ∧ W.cell? ⟨w.heap.size, 5, none⟩ = some (.int .i64 s.co) ∧ W.cell? ⟨w.heap.size, 6, none⟩ = some (.int .i64 s.me) ∧ W.cell? ⟨w.heap.size, 7, none⟩ = some (.int .i64 s.de) ∧ W.cell? ⟨w.heap.size, 8, none⟩ = some (.slice B s.re.length d)) ∧ W.cell? ⟨w.heap.size + 1, 0, none⟩ = some (.int .i64 1) ∧ W.cell? ⟨w.heap.size + 1, 1, none⟩ = some (.int .i64 k))
       (exact KS.out _ (by first | assumption | exact (Grow.refl _).drew | exact (Grow.refl _).drewN _ | exact Grow.drewN (by assumption) _))
       ((go_at_call 101; have hS := (‹Grow W1 _ ∧ _›).1; refine (KN.out _ (HG1.out.trans hS)).mono ?_; rintro e w5 ⟨rfl, g5⟩; have hk5 := hS.trans g5))
      all_goals
       obtain ⟨_, ⟨c0, c1, c2, c3, c4, c5, c6, c7, c8⟩, d0, d1⟩ := KS.out _ hk5
       go_wp2_with (go_at_call 153; refine (RN.out _ (HG1.out.trans hk5)).mono ?_; rintro e w6 ⟨rfl, g6⟩)
       go_ret
       exact HF.out _ _ HE.out (HG1.out.trans (hk5.trans g6))
    ·have HE := hid (show grpErr s a k = 0 by unfold grpErr; rw [if_neg a0, if_neg (by omega), if_neg (fun h => ha h.1)])
     have ne : (a == 1) = false := by simp [ha]
     have KN := hid KN
     generalize kindsI s = m at *
     clear a0 RN
     go_wp2
     generalize hW : (w.alloc (.cells #[.int .i64 s.pl, .slice A s.su.length c, .int .i64 s.wi, .int .i64 s.dr, .int .i64 s.fl, .int .i64 s.co, .int .i64 s.me, .int .i64 s.de, .slice B s.re.length d] 24)).alloc (.cells #[.int .i64 a, .int .i64 k, .bool o] 72) = W1 at *
     clear hW
     have kd := HK.out
     go_region_held3 (fun W => Grow W1 W ∧ (W.cell? ⟨w.heap.size, 0, none⟩ = some (.int .i64 s.pl) ∧ W.cell? ⟨w.heap.size, 1, none⟩ = some (.slice A s.su.length c) ∧ W.cell? ⟨w.heap.size, 2, none⟩ = some (.int .i64 s.wi) ∧ W.cell? ⟨w.heap.size, 3, none⟩ = some (.int .i64 s.dr) ∧ W.cell? ⟨w.heap.size, 4, none⟩ = some (.int .i64 s.fl) ∧ W.cell? ⟨w.heap.size, 5, none⟩ = some (.int .i64 s.co) ∧ W.cell? ⟨w.heap.size, 6, none⟩ = some (.int .i64 s.me) ∧ W.cell? ⟨w.heap.size, 7, none⟩ = some (.int .i64 s.de) ∧ W.cell? ⟨w.heap.size, 8, none⟩ = some (.slice B s.re.length d)) ∧ W.cell? ⟨w.heap.size + 1, 0, none⟩ = some (.int .i64 a) ∧ W.cell? ⟨w.heap.size + 1, 1, none⟩ = some (.int .i64 k))
      (exact KS.out _ (by first | assumption | exact (Grow.refl _).drew | exact (Grow.refl _).drewN _ | exact Grow.drewN (by assumption) _))
      ((go_at_call 101; have hS := (‹Grow W1 _ ∧ _›).1; refine (KN.out _ (HG1.out.trans hS)).mono ?_; rintro e w5 ⟨rfl, g5⟩; have hk5 := hS.trans g5))
     all_goals
      obtain ⟨_, ⟨c0, c1, c2, c3, c4, c5, c6, c7, c8⟩, d0, d1⟩ := KS.out _ hk5
      go_wp2
      go_ret
      exact HF.out _ _ HE.out (HG1.out.trans hk5)
end Go.Proofs.YthblfhgofopcaaaGreat
