/-
  Parts of the proof: CheckR, App, Sizes, Clone, Concat, Range.
-/
import Derived.Test.YthblfhgofopcaaaGreatHA19
import Derived.Deep.QuietTactic
import Derived.BigQuiet
import Derived.Lib.AppendZerosOnto
import Derived.Lib.SliceRun
import Derived.Lib.Walk
import Derived.RangeFuncNested
import Derived.RangeFuncBound
import Derived.RangeFuncCalls
import Derived.RangeFuncLeaves
import Derived.Test.YthblfhgofopcaaaGreatHA01
set_option linter.all false
namespace Go.Proofs.YthblfhgofopcaaaGreat
open Go.RowKit
def btwB (n lo hi : Int) : Bool := decide (lo ≤ n) && decide (n ≤ hi)
theorem btw_yes {n lo hi : Int} (h : lo ≤ n ∧ n ≤ hi) : btwB n lo hi = true := by unfold btwB; simp; omega
theorem btw_no {n lo hi : Int} (h : n < lo ∨ hi < n) : btwB n lo hi = false := by unfold btwB; simp; omega
theorem between_any (n lo hi : Int) (w : World) : Calls Tryz.prog 129 #[.int .i64 n, .int .i64 lo, .int .i64 hi] w (Same w (.bool (btwB n lo hi))) := by
 have hfin : ∀ b, btwB n lo hi = b → Same w (.bool (btwB n lo hi)) (.returned (.bool b)) w := fun b h => ⟨by rw [h], rfl⟩
 have HF := hid hfin
 clear hfin
 by_cases h1 : lo ≤ n
 ·by_cases h2 : n ≤ hi
  ·have HE := hid (btw_yes ⟨h1, h2⟩)
   go_enter Tryz.func129, Tryz.ntmps129
   go_wp2
   go_ret
   exact HF.out _ HE.out
  ·have HE := hid (btw_no (lo := lo) (.inr (show hi < n by omega)))
   go_enter Tryz.func129, Tryz.ntmps129
   go_wp2
   go_ret
   exact HF.out _ HE.out
 ·have HE := hid (btw_no (hi := hi) (.inl (show n < lo by omega)))
  go_enter Tryz.func129, Tryz.ntmps129
  go_wp2
  go_ret
  exact HF.out _ HE.out
theorem plain_any (v : Value) (s : TSet) (w : World) (h : IsSet w v s) (h3 : s.su.length ≤ 3) (hs : ∀ z ∈ s.su, 1 ≤ z ∧ z ≤ 9) (hw : 0 ≤ s.wi ∧ s.wi ≤ 4) (hd : 0 ≤ s.dr ∧ s.dr ≤ 3) : Calls Tryz.prog 130 #[v] w (Gives w (.int .i64 (plainI s))) := by
 have hfin : ∀ r wf, plainI s = r → Grow w wf → Gives w (.int .i64 (plainI s)) (.returned (.int .i64 r)) wf := fun r wf h hg => ⟨by rw [h], hg⟩
 have HF := hid hfin
 obtain ⟨A, c, B, d, rfl, h1, h2⟩ := h.open_
 obtain ⟨_, _, e1, c1, m1, r1⟩ := h1
 injection e1 with e1 _ e1'
 subst e1 e1'
 unfold maxLen at m1
 have g0 : Grow w (w.alloc (.cells #[.int .i64 s.pl, .slice A s.su.length c, .int .i64 s.wi, .int .i64 s.dr, .int .i64 s.fl, .int .i64 s.co, .int .i64 s.me, .int .i64 s.de, .slice B s.re.length d] 24)) := (Grow.refl w).alloc _
 have HS := hid hs
 clear hfin h h2 hs
 have HP := hid (fun k => sumI_bound (l := s.su.take k) fun z hz => HS.out z (List.mem_of_mem_take hz))
 go_enter Tryz.func130, Tryz.ntmps130
 go_wp2
 go_loop [3, 4] (fun z i => ∃ k : Nat, k ≤ s.su.length ∧ i = .int .i64 (k : Int) ∧ z = .int .i64 (s.wi + s.dr + sumI (s.su.take k))) (fun _ i => s.su.length - (intOf i).toNat)
 case atStart => exact ⟨0, Nat.zero_le _, rfl, by simp [sumI]⟩
 case round =>
  obtain ⟨k, hk, rfl, rfl⟩ := hrel
  have hb := HP.out k
  rw [List.length_take, Nat.min_eq_left hk] at hb
  by_cases hlt : k < s.su.length
  ·obtain ⟨ad, rfl, _, hx⟩ := (r1.grow g0).int hlt
   have i0 : (0 : Int) ≤ (k : Int) := by omega
   have i1 : (k : Int) < (s.su.length : Int) := by omega
   have hz := HS.out s.su[k] (List.getElem_mem hlt)
   have HT := hid (sumI_take s.su hlt)
   go_wp2
   exact ⟨⟨k + 1, by omega, by go_num, by rw [HT.out, Int.add_assoc (s.wi + s.dr)]⟩, by simp only [intOf]; omega⟩
  ·obtain rfl : k = s.su.length := by omega
   have HE := hid (show plainI s = s.wi + s.dr + sumI s.su from rfl)
   go_wp2
   go_ret
   exact HF.out _ _ HE.out g0
def prevI (zs : List Int) (k : Nat) : Int := if h : 0 < k ∧ k - 1 < zs.length then zs[k - 1]'h.2 else -1
theorem prevI_zero (zs : List Int) : prevI zs 0 = -1 := by unfold prevI; rw [dif_neg (by omega)]
theorem prevI_succ {zs : List Int} {k : Nat} (h : k < zs.length) : prevI zs (k + 1) = zs[k] := by
 unfold prevI
 rw [dif_pos ⟨by omega, by simpa using h⟩]
 simp
set_option maxRecDepth 100000 in
set_option maxHeartbeats 4000000 in
theorem rCheck_any (v : Value) (s : TSet) (w : World) (h : IsSet w v s) : Calls Tryz.prog 79 #[v] w (Gives w (.int .i64 (chkErr s))) := by
 have hfin : ∀ r wf, chkErr s = r → Grow w wf → Gives w (.int .i64 (chkErr s)) (.returned (.int .i64 r)) wf := fun r wf h hg => ⟨by rw [h], hg⟩
 have HF := hid hfin
 have HI := hid h
 obtain ⟨A, c, B, d, rfl, h1, h2⟩ := h.open_
 obtain ⟨_, _, e1, c1, m1, r1⟩ := h1
 obtain ⟨_, _, e2, d1, m2, r2⟩ := h2
 injection e1 with e1 _ e1'
 injection e2 with e2 _ e2'
 subst e1 e1' e2 e2'
 unfold maxLen at m1 m2
 have g0 : Grow w (w.alloc (.cells #[.int .i64 s.pl, .slice A s.su.length c, .int .i64 s.wi, .int .i64 s.dr, .int .i64 s.fl, .int .i64 s.co, .int .i64 s.me, .int .i64 s.de, .slice B s.re.length d] 24)) := (Grow.refl w).alloc _
 clear hfin h
 by_cases b1 : s.pl < 3 ∨ 4 < s.pl
 ·have HE := hid (show chkErr s = 2 by unfold chkErr; rw [if_pos b1])
  have t1 := btw_no b1
  clear b1
  go_enter Tryz.func79, Tryz.ntmps79
  go_wp2_with (go_at_call 129; refine (between_any _ _ _ _).mono ?_; rintro e wb ⟨rfl, rfl⟩)
  go_ret
  exact HF.out _ _ HE.out g0
 have t1 := btw_yes (show 3 ≤ s.pl ∧ s.pl ≤ 4 by omega)
 by_cases b2 : 3 < s.su.length
 ·have HE := hid (show chkErr s = 8 by unfold chkErr; rw [if_neg b1, if_pos b2])
  have b3 : (3 : Int) < (s.su.length : Int) := by omega
  clear b1
  go_enter Tryz.func79, Tryz.ntmps79
  go_wp2_with (go_at_call 129; refine (between_any _ _ _ _).mono ?_; rintro e wb ⟨rfl, rfl⟩)
  go_ret
  exact HF.out _ _ HE.out g0
 have b3 : ¬ (3 : Int) < (s.su.length : Int) := by omega
 have p0 : 3 ≤ s.pl ∧ s.pl ≤ 4 := by omega
 have HE1 := hid (fun (k : Nat) (hk : k < s.su.length) (hb : sutB s.su[k] = true) => (show chkErr s = 2 by
  unfold chkErr
  rw [if_neg b1, if_neg b2, if_pos (List.any_eq_true.2 ⟨s.su[k], List.getElem_mem hk, hb⟩)]))
 have HE2 := hid (fun (hs : ∀ z ∈ s.su, 1 ≤ z ∧ z ≤ 9) => (show chkErr s = if rowsB s = true then 2 else if plainI s = 0 then 6 else if risErr (plainI s) (-1) s.re ≠ 0 then risErr (plainI s) (-1) s.re
   else if plainI s * s.co + s.fl ≤ s.pl * (3 * s.me + 1) + s.de then 6 else 0 by
  unfold chkErr
  rw [if_neg b1, if_neg b2, if_neg]
  intro hb
  obtain ⟨z, hz, hb⟩ := List.any_eq_true.1 hb
  have := hs z hz
  unfold sutB at hb
  simp at hb
  omega))
 clear b1
 go_enter Tryz.func79, Tryz.ntmps79
 go_wp2_with (go_at_call 129; refine (between_any _ _ _ _).mono ?_; rintro e wb ⟨rfl, rfl⟩)
 go_loop [3] (fun i => ∃ k : Nat, k ≤ s.su.length ∧ i = .int .i64 (k : Int) ∧ ∀ j (hj : j < s.su.length), j < k → 1 ≤ s.su[j] ∧ s.su[j] ≤ 9) (fun i => s.su.length - (intOf i).toNat)
 case atStart => exact ⟨0, Nat.zero_le _, rfl, by simp⟩
 case round =>
  obtain ⟨k, hk, rfl, hall⟩ := hrel
  have HA := hid hall
  clear hall
  by_cases hlt : k < s.su.length
  ·obtain ⟨ad, rfl, _, hx⟩ := (r1.grow g0).int hlt
   have i0 : (0 : Int) ≤ (k : Int) := by omega
   have i1 : (k : Int) < (s.su.length : Int) := by omega
   by_cases hlo : s.su[k] < 1 ∨ 9 < s.su[k]
   ·have HE := hid (HE1.out k hlt (by unfold sutB; simp; omega))
    have t2 := btw_no hlo
    clear hlo
    go_wp2_with (go_at_call 129; refine (between_any _ _ _ _).mono ?_; rintro e wb ⟨rfl, rfl⟩)
    go_ret
    exact HF.out _ _ HE.out g0
   ·have t2 := btw_yes (show 1 ≤ s.su[k] ∧ s.su[k] ≤ 9 by omega)
    have HA2 := hid (show ∀ j (hj : j < s.su.length), j < k + 1 → 1 ≤ s.su[j] ∧ s.su[j] ≤ 9 from fun j hj hjk => by
      by_cases e : j = k
      ·subst e; omega
      ·exact HA.out j hj (by omega))
    clear hlo
    go_wp2_with (go_at_call 129; refine (between_any _ _ _ _).mono ?_; rintro e wb ⟨rfl, rfl⟩)
    exact ⟨⟨k + 1, by omega, by go_num, HA2.out⟩, by simp only [intOf]; omega⟩
  ·obtain rfl : k = s.su.length := by omega
   have hw : ∀ z ∈ s.su, 1 ≤ z ∧ z ≤ 9 := fun z hz => by
    obtain ⟨j, hj, rfl⟩ := List.getElem_of_mem hz
    exact HA.out j hj hj
   have HE3 := hid (HE2.out hw)
   have HWI := hid hw
   clear hw
   by_cases q0 : s.wi < 0 ∨ 4 < s.wi
   ·have HE := hid (HE3.out.trans (if_pos (rowsB_true (by omega))))
    have u0 := btw_no q0
    clear q0
    go_wp2_with (go_at_call 129; refine (between_any _ _ _ _).mono ?_; rintro e wb ⟨rfl, rfl⟩)
    go_ret
    exact HF.out _ _ HE.out g0
   have u0 := btw_yes (show 0 ≤ s.wi ∧ s.wi ≤ 4 by omega)
   have v0 : 0 ≤ s.wi ∧ s.wi ≤ 4 := by omega
   clear q0
   by_cases q1 : s.dr < 0 ∨ 3 < s.dr
   ·have HE := hid (HE3.out.trans (if_pos (rowsB_true (by omega))))
    have u1 := btw_no q1
    clear q1
    go_wp2_with (go_at_call 129; refine (between_any _ _ _ _).mono ?_; rintro e wb ⟨rfl, rfl⟩)
    go_ret
    exact HF.out _ _ HE.out g0
   have u1 := btw_yes (show 0 ≤ s.dr ∧ s.dr ≤ 3 by omega)
   have v1 : 0 ≤ s.dr ∧ s.dr ≤ 3 := by omega
   clear q1
   by_cases q2 : s.fl < 0 ∨ 8 < s.fl
   ·have HE := hid (HE3.out.trans (if_pos (rowsB_true (by omega))))
    have u2 := btw_no q2
    clear q2
    go_wp2_with (go_at_call 129; refine (between_any _ _ _ _).mono ?_; rintro e wb ⟨rfl, rfl⟩)
    go_ret
    exact HF.out _ _ HE.out g0
   have u2 := btw_yes (show 0 ≤ s.fl ∧ s.fl ≤ 8 by omega)
   have v2 : 0 ≤ s.fl ∧ s.fl ≤ 8 := by omega
   clear q2
   by_cases q3 : s.co < 1 ∨ 4 < s.co
   ·have HE := hid (HE3.out.trans (if_pos (rowsB_true (by omega))))
    have u3 := btw_no q3
    clear q3
    go_wp2_with (go_at_call 129; refine (between_any _ _ _ _).mono ?_; rintro e wb ⟨rfl, rfl⟩)
    go_ret
    exact HF.out _ _ HE.out g0
   have u3 := btw_yes (show 1 ≤ s.co ∧ s.co ≤ 4 by omega)
   have v3 : 1 ≤ s.co ∧ s.co ≤ 4 := by omega
   clear q3
   by_cases q4 : s.me < 1 ∨ 4 < s.me
   ·have HE := hid (HE3.out.trans (if_pos (rowsB_true (by omega))))
    have u4 := btw_no q4
    clear q4
    go_wp2_with (go_at_call 129; refine (between_any _ _ _ _).mono ?_; rintro e wb ⟨rfl, rfl⟩)
    go_ret
    exact HF.out _ _ HE.out g0
   have u4 := btw_yes (show 1 ≤ s.me ∧ s.me ≤ 4 by omega)
   have v4 : 1 ≤ s.me ∧ s.me ≤ 4 := by omega
   clear q4
   by_cases q5 : s.de < 0 ∨ 20 < s.de
   ·have HE := hid (HE3.out.trans (if_pos (rowsB_true (by omega))))
    have u5 := btw_no q5
    clear q5
    go_wp2_with (go_at_call 129; refine (between_any _ _ _ _).mono ?_; rintro e wb ⟨rfl, rfl⟩)
    go_ret
    exact HF.out _ _ HE.out g0
   have u5 := btw_yes (show 0 ≤ s.de ∧ s.de ≤ 20 by omega)
   have v5 : 0 ≤ s.de ∧ s.de ≤ 20 := by omega
   clear q5
   have hrows : RowsTo s 6 := by unfold RowsTo; omega
   have HE4 := hid (HE3.out.trans (if_neg (by rw [rowsB_false hrows]; simp)))
   have hpl := plain_bound (s := s) (by omega) HWI.out v0 v1
   have bco := mul_136 hpl v3
   have bpl := mul_52 (p := s.pl) p0 v4
   have PL := hid (fun W (hg : Grow w W) => plain_any _ s W (HI.out.grow hg) (by omega) HWI.out v0 v1)
   have HG0 := hid g0
   have HB0 := hid (show Blk (w.alloc (.cells #[.int .i64 s.pl, .slice A s.su.length c, .int .i64 s.wi, .int .i64 s.dr, .int .i64 s.fl, .int .i64 s.co, .int .i64 s.me, .int .i64 s.de, .slice B s.re.length d] 24)) w.heap.size 24 (setVals s (.slice A s.su.length c) (.slice B s.re.length d)) from heap_alloc_new w _)
   clear hrows
   go_wp2_with (first
    | (go_at_call 129; refine (between_any _ _ _ _).mono ?_; rintro e wb ⟨rfl, rfl⟩)
    | (go_at_call 130; refine (PL.out _ HG0.out).mono ?_; rintro e w2 ⟨rfl, hg2⟩; have hb2 := HB0.out.grow hg2; have hg := HG0.out.trans hg2; have c8 := hb2.cell 8; have c0 := hb2.cell 0; have c4 := hb2.cell 4; have c5 := hb2.cell 5; have c6 := hb2.cell 6; have c7 := hb2.cell 7; simp only [setVals, List.getElem?_cons_zero, List.getElem?_cons_succ] at c8 c0 c4 c5 c6 c7))
   ·have HE := hid (HE4.out.trans (if_pos (show plainI s = 0 by omega)))
    go_wp2
    go_ret
    exact HF.out _ _ HE.out hg
   ·have HE := hid (HE4.out.trans (if_neg (show ¬ plainI s = 0 by omega)))
    have r3 := r2.grow hg
    have p1 : 1 ≤ plainI s := by omega
    clear hg2
    go_wp2
    go_loopw [5] (fun i wr => ∃ (k n : Nat), k ≤ s.re.length ∧ i = .int .i64 (k : Int) ∧ wr = w2.drewN n ∧ risErr (plainI s) (-1) s.re = risErr (plainI s) (prevI s.re k) (s.re.drop k)) (fun i _ => s.re.length - (intOf i).toNat)
    case atStart => exact ⟨0, 0, Nat.zero_le _, rfl, rfl, by rw [prevI_zero]; rfl⟩
    case round =>
     obtain ⟨k, n, hk, rfl, rfl, hz⟩ := hrel
     have HZ := hid hz
     clear hz
     by_cases hlt : k < s.re.length
     ·obtain ⟨ad, rfl, _, hx⟩ := r3.int hlt
      have hst := HZ.out
      rw [risErr_drop hlt] at hst
      have i0 : (0 : Int) ≤ (k : Int) := by omega
      have i1 : (k : Int) < (s.re.length : Int) := by omega
      by_cases q3 : s.re[k] < 0 ∨ plainI s ≤ s.re[k]
      ·rw [if_pos q3] at hst
       have HE5 := hid (HE.out.trans ((if_pos (by omega)).trans hst))
       have t3 := btw_no (show s.re[k] < 0 ∨ plainI s - 1 < s.re[k] by omega)
       clear hst q3
       go_wp2_with (go_at_call 129; refine (between_any _ _ _ _).mono ?_; rintro e wb ⟨rfl, rfl⟩)
       go_ret
       exact HF.out _ _ HE5.out (hg.drewN _)
      ·rw [if_neg q3] at hst
       have t3 := btw_yes (show 0 ≤ s.re[k] ∧ s.re[k] ≤ plainI s - 1 by omega)
       by_cases h0 : 0 < k
       ·have hpl2 : k - 1 < s.re.length := by omega
        have hp : prevI s.re k = s.re[k - 1] := by unfold prevI; rw [dif_pos ⟨h0, hpl2⟩]
        obtain ⟨ad', hh, _, hx'⟩ := r3.int hpl2
        obtain rfl := Option.some.inj hh
        have i2 : (0 : Int) < (k : Int) := by omega
        have f1 : IntKind.i64.wrap ((k : Int) - 1) = (k : Int) - 1 := IntWalk.i64_in _ (by omega)
        have f2 : ((k : Int) - 1).toNat = k - 1 := by omega
        have i3 : (0 : Int) ≤ (k : Int) - 1 := by omega
        have i4 : (k : Int) - 1 < (s.re.length : Int) := by omega
        by_cases e3 : s.re[k] ≤ s.re[k - 1]
        ·rw [hp, if_pos e3] at hst
         have HE5 := hid (HE.out.trans ((if_pos (by omega)).trans hst))
         clear hst hp hh q3
         go_wp2_with (go_at_call 129; refine (between_any _ _ _ _).mono ?_; rintro e wb ⟨rfl, rfl⟩)
         go_quiet (fail)
         go_wp2
         go_ret
         exact HF.out _ _ HE5.out ((hg.drewN _).drewN _)
        ·rw [hp, if_neg e3] at hst
         have HST := hid hst
         clear hst hp hh q3
         go_wp2_with (go_at_call 129; refine (between_any _ _ _ _).mono ?_; rintro e wb ⟨rfl, rfl⟩)
         go_quiet (fail)
         go_wp2
         exact ⟨⟨k + 1, _, by omega, by go_num, rfl, by rw [prevI_succ hlt]; exact HST.out⟩, by simp only [intOf]; omega⟩
       ·obtain rfl : k = 0 := by omega
        rw [prevI_zero, if_neg (by omega)] at hst
        have HST := hid hst
        have hx0 : w2.cell? ad = some (.int .i64 s.re[0]) := by have h := hx; unfold Addr.add at h; simpa using h
        clear hst q3
        go_wp2_with (go_at_call 129; refine (between_any _ _ _ _).mono ?_; rintro e wb ⟨rfl, rfl⟩)
        go_quiet (fail)
        go_wp2
        exact ⟨⟨1, _, by omega, by go_num, rfl, by rw [prevI_succ hlt]; exact HST.out⟩, by simp only [intOf]; omega⟩
     ·have hz0 : risErr (plainI s) (-1) s.re = 0 := by rw [HZ.out, List.drop_eq_nil_of_le (by omega)]; rfl
      have HE5 := hid (HE.out.trans (if_neg (by rw [hz0]; simp)))
      clear hz0
      by_cases q3 : plainI s * s.co + s.fl ≤ s.pl * (3 * s.me + 1) + s.de
      ·have HE6 := hid (HE5.out.trans (if_pos q3))
       go_wp2
       go_ret
       exact HF.out _ _ HE6.out (hg.drewN _)
      ·have HE6 := hid (HE5.out.trans (if_neg q3))
       go_wp2
       go_ret
       exact HF.out _ _ HE6.out (hg.drewN _)
end Go.Proofs.YthblfhgofopcaaaGreat

namespace Go.Proofs.YthblfhgofopcaaaGreat
open Go.RowKit
end Go.Proofs.YthblfhgofopcaaaGreat

namespace Go.Proofs.YthblfhgofopcaaaGreat
open Go.RowKit
theorem set_cells {w : World} {T : Nat} {s : TSet} {a b : Value} (h : Blk w T 24 (setVals s a b)) : w.cell? ⟨T, 0, none⟩ = some (.int .i64 s.pl) ∧ w.cell? ⟨T, 1, none⟩ = some a ∧ w.cell? ⟨T, 2, none⟩ = some (.int .i64 s.wi) ∧ w.cell? ⟨T, 3, none⟩ = some (.int .i64 s.dr) ∧ w.cell? ⟨T, 4, none⟩ = some (.int .i64 s.fl) ∧ w.cell? ⟨T, 5, none⟩ = some (.int .i64 s.co) ∧ w.cell? ⟨T, 6, none⟩ = some (.int .i64 s.me) ∧ w.cell? ⟨T, 7, none⟩ = some (.int .i64 s.de) ∧ w.cell? ⟨T, 8, none⟩ = some b :=
 ⟨h.cell 0, h.cell 1, h.cell 2, h.cell 3, h.cell 4, h.cell 5, h.cell 6, h.cell 7, h.cell 8⟩
def kindsI (s : TSet) : Int := if chkErr s = 0 then plainI s else 0
theorem kinds_ok {s : TSet} (h : chkErr s = 0) : kindsI s = plainI s := if_pos h
theorem kinds_bad {s : TSet} (h : chkErr s ≠ 0) : kindsI s = 0 := if_neg h
theorem count_any (v : Value) (s : TSet) (w : World) (h : IsSet w v s) : Calls Tryz.prog 151 #[v] w (Gives w (.int .i64 (kindsI s))) := by
 have hfin : ∀ r wf, kindsI s = r → Grow w wf → Gives w (.int .i64 (kindsI s)) (.returned (.int .i64 r)) wf := fun r wf h hg => ⟨by rw [h], hg⟩
 have HF := hid hfin
 have CH := hid (fun W (hg : Grow w W) => Check_any v s W (h.grow hg))
 clear hfin
 have HI := hid h
 obtain ⟨A, c, B, d, rfl, h1, h2⟩ := h.open_
 obtain ⟨_, _, e1, c1, m1, r1⟩ := h1
 obtain ⟨_, _, e2, d1, m2, r2⟩ := h2
 injection e1 with e1 _ e1'
 injection e2 with e2 _ e2'
 subst e1 e1' e2 e2'
 unfold maxLen at m1 m2
 have HG0 := hid (show Grow w (w.alloc (.cells #[.int .i64 s.pl, .slice A s.su.length c, .int .i64 s.wi, .int .i64 s.dr, .int .i64 s.fl, .int .i64 s.co, .int .i64 s.me, .int .i64 s.de, .slice B s.re.length d] 24)) from (Grow.refl w).alloc _)
 have HB0 := hid (show Blk (w.alloc (.cells #[.int .i64 s.pl, .slice A s.su.length c, .int .i64 s.wi, .int .i64 s.dr, .int .i64 s.fl, .int .i64 s.co, .int .i64 s.me, .int .i64 s.de, .slice B s.re.length d] 24)) w.heap.size 24 (setVals s (.slice A s.su.length c) (.slice B s.re.length d)) from heap_alloc_new w _)
 clear h
 by_cases e : chkErr s = 0
 ·have V := valid_of e
  have HE := hid (kinds_ok e)
  have ne : (chkErr s != 0) = false := by simp [e]
  have HP := hid (fun k => sumI_bound (l := s.su.take k) fun z hz => V.su z (List.mem_of_mem_take hz))
  have HS := hid V.su
  have v1 := V.wi
  have v2 := V.dr
  have v3 := V.su3
  clear e V
  generalize chkErr s = n at *
  go_enter Tryz.func151, Tryz.ntmps151
  go_wp2_with (go_at_call 76; refine (CH.out _ HG0.out).mono ?_; rintro e w1 ⟨rfl, hg1⟩; have hg := HG0.out.trans hg1; obtain ⟨c0, c1, c2, c3, c4, c5, c6, c7, c8⟩ := set_cells (HB0.out.grow hg1))
  go_loop [3, 17] (fun z i => ∃ k : Nat, k ≤ s.su.length ∧ i = .int .i64 (k : Int) ∧ z = .int .i64 (s.wi + s.dr + sumI (s.su.take k))) (fun _ i => s.su.length - (intOf i).toNat)
  case atStart => exact ⟨0, Nat.zero_le _, rfl, by simp [sumI]⟩
  case round =>
   obtain ⟨k, hk, rfl, rfl⟩ := hrel
   have hb := HP.out k
   rw [List.length_take, Nat.min_eq_left hk] at hb
   by_cases hlt : k < s.su.length
   ·obtain ⟨ad, rfl, _, hx⟩ := (r1.grow hg).int hlt
    have i0 : (0 : Int) ≤ (k : Int) := by omega
    have i1 : (k : Int) < (s.su.length : Int) := by omega
    have hz := HS.out s.su[k] (List.getElem_mem hlt)
    have HT := hid (sumI_take s.su hlt)
    go_wp2
    exact ⟨⟨k + 1, by omega, by go_num, by rw [HT.out, Int.add_assoc (s.wi + s.dr)]⟩, by simp only [intOf]; omega⟩
   ·obtain rfl : k = s.su.length := by omega
    have HE2 := hid (show kindsI s = s.wi + s.dr + sumI s.su from HE.out)
    go_wp2
    go_ret
    exact HF.out _ _ HE2.out hg
 ·have HE := hid (kinds_bad e)
  have ne : (chkErr s != 0) = true := by simp [e]
  clear e
  generalize chkErr s = n at *
  go_enter Tryz.func151, Tryz.ntmps151
  go_wp2_with (go_at_call 76; refine (CH.out _ HG0.out).mono ?_; rintro e w1 ⟨rfl, hg1⟩; have hg := HG0.out.trans hg1)
  go_ret
  exact HF.out _ _ HE.out hg
theorem Kinds_any (v : Value) (s : TSet) (w : World) (h : IsSet w v s) : Calls Tryz.prog 101 #[v] w (Gives w (.int .i64 (kindsI s))) := by
 have CO := hid (fun W (hg : Grow w W) => count_any v s W (h.grow hg))
 have HI := hid h
 obtain ⟨A, c, B, d, rfl, h1, h2⟩ := h.open_
 obtain ⟨_, _, e1, c1, m1, r1⟩ := h1
 obtain ⟨_, _, e2, d1, m2, r2⟩ := h2
 injection e1 with e1 _ e1'
 injection e2 with e2 _ e2'
 subst e1 e1' e2 e2'
 unfold maxLen at m1 m2
 have HG0 := hid (show Grow w (w.alloc (.cells #[.int .i64 s.pl, .slice A s.su.length c, .int .i64 s.wi, .int .i64 s.dr, .int .i64 s.fl, .int .i64 s.co, .int .i64 s.me, .int .i64 s.de, .slice B s.re.length d] 24)) from (Grow.refl w).alloc _)
 have HB0 := hid (show Blk (w.alloc (.cells #[.int .i64 s.pl, .slice A s.su.length c, .int .i64 s.wi, .int .i64 s.dr, .int .i64 s.fl, .int .i64 s.co, .int .i64 s.me, .int .i64 s.de, .slice B s.re.length d] 24)) w.heap.size 24 (setVals s (.slice A s.su.length c) (.slice B s.re.length d)) from heap_alloc_new w _)
 clear h
 generalize kindsI s = n at *
 go_enter Tryz.func101, Tryz.ntmps101
 go_wp2_with (go_at_call 151; refine (CO.out _ HG0.out).mono ?_; rintro e w1 ⟨rfl, hg1⟩; have hg := HG0.out.trans hg1)
 go_ret
 exact ⟨rfl, hg⟩
theorem plain_ok (v : Value) (s : TSet) (w : World) (h : IsSet w v s) (V : Valid s) : Calls Tryz.prog 130 #[v] w (Gives w (.int .i64 (plainI s))) := plain_any v s w h V.su3 V.su V.wi V.dr
theorem rKinds_any (v : Value) (s : TSet) (w : World) (h : IsSet w v s) : Calls Tryz.prog 141 #[v] w (Gives w (.int .i64 (kindsI s))) := by
 have hfin : ∀ r wf, kindsI s = r → Grow w wf → Gives w (.int .i64 (kindsI s)) (.returned (.int .i64 r)) wf := fun r wf h hg => ⟨by rw [h], hg⟩
 have HF := hid hfin
 have CH := hid (fun W (hg : Grow w W) => rCheck_any v s W (h.grow hg))
 have PL := hid (fun W (hg : Grow w W) (V : Valid s) => plain_ok v s W (h.grow hg) V)
 clear hfin
 have HI := hid h
 obtain ⟨A, c, B, d, rfl, h1, h2⟩ := h.open_
 obtain ⟨_, _, e1, c1, m1, r1⟩ := h1
 obtain ⟨_, _, e2, d1, m2, r2⟩ := h2
 injection e1 with e1 _ e1'
 injection e2 with e2 _ e2'
 subst e1 e1' e2 e2'
 unfold maxLen at m1 m2
 have HG0 := hid (show Grow w (w.alloc (.cells #[.int .i64 s.pl, .slice A s.su.length c, .int .i64 s.wi, .int .i64 s.dr, .int .i64 s.fl, .int .i64 s.co, .int .i64 s.me, .int .i64 s.de, .slice B s.re.length d] 24)) from (Grow.refl w).alloc _)
 have HB0 := hid (show Blk (w.alloc (.cells #[.int .i64 s.pl, .slice A s.su.length c, .int .i64 s.wi, .int .i64 s.dr, .int .i64 s.fl, .int .i64 s.co, .int .i64 s.me, .int .i64 s.de, .slice B s.re.length d] 24)) w.heap.size 24 (setVals s (.slice A s.su.length c) (.slice B s.re.length d)) from heap_alloc_new w _)
 clear h
 by_cases e : chkErr s = 0
 ·have V := hid (valid_of e)
  have HE := hid (kinds_ok e)
  have ne : (chkErr s != 0) = false := by simp [e]
  clear e
  generalize chkErr s = n at *
  go_enter Tryz.func141, Tryz.ntmps141
  go_wp2_with (first
   | (go_at_call 79; refine (CH.out _ HG0.out).mono ?_; rintro e w1 ⟨rfl, hg1⟩; have hg := HG0.out.trans hg1; obtain ⟨c0, c1, c2, c3, c4, c5, c6, c7, c8⟩ := set_cells (HB0.out.grow hg1))
   | (go_at_call 130; refine (PL.out _ hg V.out).mono ?_; rintro e w2 ⟨rfl, hg2⟩; have hgg := hg.trans hg2))
  go_ret
  exact HF.out _ _ HE.out hgg
 ·have HE := hid (kinds_bad e)
  have ne : (chkErr s != 0) = true := by simp [e]
  clear e
  generalize chkErr s = n at *
  go_enter Tryz.func141, Tryz.ntmps141
  go_wp2_with (go_at_call 79; refine (CH.out _ HG0.out).mono ?_; rintro e w1 ⟨rfl, hg1⟩; have hg := HG0.out.trans hg1)
  go_ret
  exact HF.out _ _ HE.out hg
end Go.Proofs.YthblfhgofopcaaaGreat

namespace Go.Proofs.YthblfhgofopcaaaGreat
open Go.RowKit
end Go.Proofs.YthblfhgofopcaaaGreat

namespace Go.Proofs.YthblfhgofopcaaaGreat
open Go.RowKit
end Go.Proofs.YthblfhgofopcaaaGreat

namespace Go.Proofs.YthblfhgofopcaaaGreat
open Go.RowKit
structure Turns (B A : Nat) (W W' : World) : Prop where
 os : W'.os = W.os
 tape : W'.tape = W.tape
 output : W'.output = W.output
 size : W.heap.size ≤ W'.heap.size
 blk : ∀ k, k < W.heap.size → k ≠ A → (k < B ∨ ∃ cs t fr, W.heap[k]? = some (.cells cs t fr)) → W'.heap[k]? = W.heap[k]?
section
variable {B A : Nat} {W W' : World}
theorem Turns.of_grow (h : Grow W W') : Turns B A W W' := ⟨h.os, h.tape, h.output, h.size, fun _ hk _ _ => h.blk hk⟩
theorem Turns.setA (W : World) (i : Nat) (u : Value) : Turns B A W (W.setCell ⟨A, i, none⟩ u) :=
 ⟨rfl, rfl, rfl, by simp, fun k _ hne _ => Below.heap_setCell _ _ _ _ hne⟩
theorem Turns.putObj {l : Nat} {o : Obj} (o' : Obj) (h : W.heap[l]? = some o) (ho : o.isCells = false) (hl : B ≤ l) : Turns B A W (W.putObj l o') :=
 ⟨rfl, rfl, rfl, by simp, fun k _ _ hk => World.putObj_heap_other (by
  rintro rfl
  rcases hk with hk | ⟨cs, t, fr, hk⟩
  ·omega
  ·rw [h] at hk
   cases hk
   cases ho)⟩
theorem Turns.cells {k : Nat} {cs : Array Value} {t : TypeId} {fr : Nat × Nat} (h : Turns B A W W') (hk : W.heap[k]? = some (.cells cs t fr)) (hne : k ≠ A) : W'.heap[k]? = some (.cells cs t fr) :=
 (h.blk k (lt_of_block hk) hne (.inr ⟨cs, t, fr, hk⟩)).trans hk
theorem Turns.old {k : Nat} {o : Obj} (h : Turns B A W W') (hk : W.heap[k]? = some o) (hne : k ≠ A) (hB : k < B) : W'.heap[k]? = some o :=
 (h.blk k (lt_of_block hk) hne (.inl hB)).trans hk
theorem Turns.grow {w : World} (h : Turns B A W W') (hg : Grow w W) (hA : w.heap.size ≤ A) (hB : w.heap.size ≤ B) : Grow w W' :=
 ⟨h.os.trans hg.os, h.tape.trans hg.tape, h.output.trans hg.output, Nat.le_trans hg.size h.size, fun k hk => (h.blk k (Nat.lt_of_lt_of_le hk hg.size) (by omega) (.inl (by omega))).trans (hg.block k hk)⟩
end
def Iterates {α : Type} (P : Program) (g : Nat) (lb : Array Value) (encs : α → Array Value) (S : List α) (Ok : World → Prop) : Prop :=
 ∀ (m l : Nat) (J Jx : Nat → List α → World → Prop) (W : World), Ok W →
  (∀ A s W1 W2, J A s W1 → Turns W.heap.size A W1 W2 → J A s W2) → (∀ A s W1 W2, Jx A s W1 → Turns W.heap.size A W1 W2 → Jx A s W2) →
  (∀ A s W1, J A s W1 → Ok W1) →
  (∀ A pre x W1, W.heap.size ≤ A → A < W1.heap.size → J A pre W1 → pre ++ [x] <+: S → ∀ m, YieldAt Fence.wide m P l (encs x) W1 fun e W' =>
   (e = .returned (.bool true) ∧ J A (pre ++ [x]) W' ∧ W1.heap.size ≤ W'.heap.size ∧ ∀ k, W.heap.size ≤ k → k ≤ A → W'.heap[k]? = W1.heap[k]?) ∨ (e = .returned (.bool false) ∧ Jx A (pre ++ [x]) W')) →
  (∀ A W1, Grow W W1 → W.heap.size ≤ A → A < W1.heap.size → J A [] W1) →
  CallsIn Fence.wide m P g (#[.func (.yield l) #[] #[]] ++ lb) W fun e W' => (∃ v, e = .returned v) ∧ ∃ A, W.heap.size ≤ A ∧ (J A S W' ∨ ∃ pre, pre <+: S ∧ Jx A pre W')
def roundEnd {α : Type} (B A : Nat) (I Ix : Nat → List α → World → Prop) (xs : List α) (W : World) : Exit → Act → World → Prop
 | .normal, _, W' => KeepsOthers W W' ∧ (∀ k, B ≤ k → k ≤ A → W'.heap[k]? = W.heap[k]?) ∧ I A xs W'
 | .ret, _, W' => KeepsOthers W W' ∧ Ix A xs W'
 | _, _, _ => False
theorem range_law {α : Type} {P : Program} {g : Operand} {ps : Array Tmp} {assign body : Code} {Q : Exit → Act → World → Prop} {a : Act} {w : World} {n gf : Nat} {lb : Array Value}
  (hg : a.eval g = .func (.func gf) #[] lb) (eg : ∀ args w, (callFunc gf args).run P w = .ok (.enter gf args) w)
  {encs : α → Array Value} {S : List α} {Ok : World → Prop} (hit : Iterates P gf lb encs S Ok) (hps : ∀ x, (encs x).size = ps.size) (hok0 : ∀ W, Grow w W → Ok W)
  (I Ix : Nat → List α → World → Prop) (hI : ∀ A s W W', I A s W → Turns w.heap.size A W W' → I A s W') (hIx : ∀ A s W W', Ix A s W → Turns w.heap.size A W W' → Ix A s W') (hok : ∀ A s W, I A s W → Ok W)
  (h0 : ∀ A W, Grow w W → w.heap.size + 2 ≤ A → A < W.heap.size → I A [] W)
  (Ax : Nat → List α → α → Act → World → Prop) (hAx : ∀ A s x a' W W', Ax A s x a' W → Turns w.heap.size A W W' → Ax A s x a' W')
  (hassign : ∀ (l m A : Nat) (pre : List α) (x : α) (W : World) (K : Act → World → Prop), w.heap.size + 2 ≤ A → A < W.heap.size → I A pre W → pre ++ [x] <+: S →
   (∀ a' W', KeepsOthers W W' → (∀ k, w.heap.size + 2 ≤ k → k ≤ A → W'.heap[k]? = W.heap[k]?) → Ax A pre x a' W' → K a' W') →
   assign.wpIn (Fence.wide.inRound l) m P (Exit.then K (fun _ _ _ => False)) { tmps := (ps.zip (encs x)).foldl (fun t (p, v) => t.setIfInBounds p v) a.tmps, defers := [] } W)
  (hbody : ∀ (l m A : Nat) (pre : List α) (x : α) (a' : Act) (W : World), w.heap.size + 2 ≤ A → A < W.heap.size → Ax A pre x a' W → pre ++ [x] <+: S →
   body.wpIn (Fence.wide.inRound l) m P (roundEnd (w.heap.size + 2) A I Ix (pre ++ [x]) W) a' W)
  (hdone : ∀ (D A : Nat) (W : World), w.heap.size ≤ D → w.heap.size + 2 ≤ A → I A S W → W.heap[D]? = some (.deferred (some [])) → Q .normal { a with defers := { target := .collected D, args := #[] } :: a.defers } W)
  (hstop : ∀ (D A : Nat) (pre : List α) (W : World), w.heap.size ≤ D → w.heap.size + 2 ≤ A → pre <+: S → Ix A pre W → W.heap[D]? = some (.deferred (some [])) → Code.ret.wpIn Fence.wide n P Q { a with defers := { target := .collected D, args := #[] } :: a.defers } W) :
  (Code.rangeFunc g ps assign body).wpIn Fence.wide n P Q a w := by
 refine wpIn_rangeFunc fun fn hfn => ?_
 let rec_ : LoopState → Option Code → Loop := fun st pe => { state := st, pending := pe, fn, tmps := a.tmps, params := ps, assign, body, defers := w.heap.size }
 let V : World := (w.alloc (.deferred (some []))).alloc (.loop (rec_ .ready none))
 have hsz : V.heap.size = w.heap.size + 2 := by simp [V]
 have gV : Grow w V := ((Grow.refl w).alloc _).alloc _
 have hL : V.heap[w.heap.size + 1]? = some (.loop (rec_ .ready none)) := by
  have h := World.alloc_heap_new (w.alloc (.deferred (some []))) (.loop (rec_ .ready none))
  rwa [World.size_alloc] at h
 have hD : V.heap[w.heap.size]? = some (.deferred (some [])) := (Below.heap_alloc _ _ _ (by simp)).trans (World.alloc_heap_new w _)
 refine ⟨w.heap.size + 1, [{ target := .collected w.heap.size, args := #[] }], V, { target := .fn (.func gf) lb, args := #[.func (.yield (w.heap.size + 1)) #[] #[]] }, V, gf,
  #[.func (.yield (w.heap.size + 1)) #[] #[]] ++ lb, V, run_enterLoop_outer _ _ _ _ _, ?_, fun _ _ => trivial, ?_, fun h => by simp [Fence.wide] at h, ?_⟩
 ·simp only [resolve, hg]
  simp [go_sem]
 ·simp [invoke, go_sem, eg]
 ·let Recs : Loop → World → Prop := fun r W => W.heap[w.heap.size + 1]? = some (.loop r) ∧ W.heap[w.heap.size]? = some (.deferred (some []))
  have hrecs : ∀ {A : Nat} {r : Loop} {W W' : World}, w.heap.size + 2 ≤ A → Recs r W → Turns (w.heap.size + 2) A W W' → Recs r W' := fun hA h t => ⟨t.old h.1 (by omega) (by omega), t.old h.2 (by omega) (by omega)⟩
  have weak : ∀ {A : Nat} {W W' : World}, Turns (w.heap.size + 2) A W W' → Turns w.heap.size A W W' := fun t => ⟨t.os, t.tape, t.output, t.size, fun k hk hne h => t.blk k hk hne (h.imp (fun h => by omega) id)⟩
  refine (hit (n - 1) (w.heap.size + 1) (fun A s W => w.heap.size + 2 ≤ A ∧ I A s W ∧ Recs (rec_ .ready none) W) (fun A s W => w.heap.size + 2 ≤ A ∧ Ix A s W ∧ Recs (rec_ .done (some .ret)) W) V (hok0 _ gV)
   (fun A s W W' h t => by rw [hsz] at t; exact ⟨h.1, hI _ _ _ _ h.2.1 (weak t), hrecs h.1 h.2.2 t⟩) (fun A s W W' h t => by rw [hsz] at t; exact ⟨h.1, hIx _ _ _ _ h.2.1 (weak t), hrecs h.1 h.2.2 t⟩)
   (fun A s W h => hok _ _ _ h.2.1) ?_ (fun A W1 hg1 hA hA' => ?_)).mono ?_
  ·rintro A pre x W _ hAW ⟨hA, hi, hl, hd⟩ hpre m
   have hlt : w.heap.size + 1 < W.heap.size := (Array.getElem?_eq_some_iff.1 hl).1
   refine ⟨fn, _, assign, body, run_yield (P := P) (args := encs x) hl (hps x), roundIn_of_wpIn hfn (hassign _ _ A pre x W _ hA hAW hi hpre fun a' W2 hk2 hp2 hax => ?_)⟩
   have hl2 := hk2.same _ _ hl rfl
   have hd2 := hk2.same _ _ hd rfl
   refine ⟨_, run_beginRound hl2 rfl, ?_⟩
   have t3 : Turns w.heap.size A W2 (W2.putObj (w.heap.size + 1) (.loop { rec_ .ready none with state := .busy })) := Turns.putObj _ hl2 rfl (by omega)
   have hl3 : (W2.putObj (w.heap.size + 1) (.loop { rec_ .ready none with state := .busy })).heap[w.heap.size + 1]? = some (.loop { rec_ .ready none with state := .busy }) := World.putObj_heap_same (Array.getElem?_eq_some_iff.1 hl2).1
   have hd3 : (W2.putObj (w.heap.size + 1) (.loop { rec_ .ready none with state := .busy })).heap[w.heap.size]? = some (.deferred (some [])) := (World.putObj_heap_other (by omega)).trans hd2
   have hp3 : ∀ k, w.heap.size + 2 ≤ k → k ≤ A → (W2.putObj (w.heap.size + 1) (.loop { rec_ .ready none with state := .busy })).heap[k]? = W.heap[k]? := fun k h1 h2 => (World.putObj_heap_other (by omega)).trans (hp2 k h1 h2)
   have hs3 : A < (W2.putObj (w.heap.size + 1) (.loop { rec_ .ready none with state := .busy })).heap.size := by have := hk2.size; simp; omega
   refine wpIn_mono (hbody _ _ A pre x a' _ hA hs3 (hAx _ _ _ _ _ _ hax t3) hpre) ?_
   have hgs := hk2.size
   generalize hW3 : W2.putObj (w.heap.size + 1) (.loop { rec_ .ready none with state := .busy }) = W3 at *
   have hs32 : W3.heap.size = W2.heap.size := by rw [← hW3]; simp
   rintro e a4 W4 hp
   cases e with
   | normal =>
    obtain ⟨hk4, hp4, hi4⟩ := hp
    have hl4 := hk4.same _ _ hl3 rfl
    have hd4 := hk4.same _ _ hd3 rfl
    have h4s := hk4.size
    refine ⟨_, _, run_endRound (P := P) none hl4, .inl ⟨rfl, ⟨hA, hI _ _ _ _ hi4 (Turns.putObj _ hl4 rfl (by omega)), World.putObj_heap_same (Array.getElem?_eq_some_iff.1 hl4).1, (World.putObj_heap_other (by omega)).trans hd4⟩, by simp; omega, fun k h1 h2 => ?_⟩⟩
    rw [hsz] at h1
    exact ((World.putObj_heap_other (by omega)).trans (hp4 k h1 h2)).trans (hp3 k h1 h2)
   | ret =>
    obtain ⟨hk4, hi4⟩ := hp
    have hl4 := hk4.same _ _ hl3 rfl
    have hd4 := hk4.same _ _ hd3 rfl
    exact ⟨_, _, run_endRound (P := P) (some .ret) hl4, .inr ⟨rfl, hA, hIx _ _ _ _ hi4 (Turns.putObj _ hl4 rfl (by omega)), World.putObj_heap_same (Array.getElem?_eq_some_iff.1 hl4).1, (World.putObj_heap_other (by omega)).trans hd4⟩⟩
   | exit id => exact hp.elim
   | goto t => exact hp.elim
   | panic ch => exact hp.elim
   | outgrown => exact hp.elim
  ·rw [hsz] at hA
   exact ⟨hA, h0 A W1 (gV.trans hg1) hA hA', hg1.blk_some hL, hg1.blk_some hD⟩
  ·rintro e W2 ⟨⟨v, rfl⟩, A, _, (⟨hA, hi, hl, hd⟩ | ⟨pre, hpre, hA, hi, hl, hd⟩)⟩
   ·exact ⟨none, _, run_endLoop (P := P) hl (by simp [rec_]), hdone _ A _ (Nat.le_refl _) hA (hI _ _ _ _ hi (Turns.putObj _ hl rfl (by omega))) ((World.putObj_heap_other (by omega)).trans hd)⟩
   ·exact ⟨some .ret, _, run_endLoop (P := P) hl (by simp [rec_]), hstop _ A pre _ (Nat.le_refl _) hA hpre (hIx _ _ _ _ hi (Turns.putObj _ hl rfl (by omega))) ((World.putObj_heap_other (by omega)).trans hd)⟩
end Go.Proofs.YthblfhgofopcaaaGreat
