/-
  Parts of the proof: Check, CheckR.
-/
import Derived.Test.YthblfhgofopcaaaGreatSP17
import Derived.Deep.WholeRow
import Derived.Outline
import Derived.Deep.QuietTactic
import Derived.BigQuiet
set_option linter.all false
namespace Go.Proofs.YthblfhgofopcaaaGreat
open Go.RowKit
theorem mul_136 {p c : Int} (hp : 0 ≤ p ∧ p ≤ 34) (hc : 1 ≤ c ∧ c ≤ 4) : 0 ≤ p * c ∧ p * c ≤ 136 :=
 ⟨Int.mul_nonneg hp.1 (by omega), by have := Int.mul_le_mul hp.2 hc.2 (by omega) (by omega); omega⟩
theorem mul_52 {p m : Int} (hp : 3 ≤ p ∧ p ≤ 4) (hm : 1 ≤ m ∧ m ≤ 4) : 0 ≤ p * (3 * m + 1) ∧ p * (3 * m + 1) ≤ 52 :=
 ⟨Int.mul_nonneg (by omega) (by omega), by have := Int.mul_le_mul hp.2 (show 3 * m + 1 ≤ 13 by omega) (by omega) (by omega); omega⟩
theorem grow_row {w : World} {o : Obj} {g : Nat} {old cs : Array Value} {t : TypeId} (hg : g = w.heap.size) (_ho : (w.alloc o).heap[g]? = some (.cells old t (0, 0))) (_hs : old.size = cs.size) : Grow w ((w.alloc o).setRow g cs) := by
 subst hg
 exact ⟨rfl, rfl, rfl, by simp, fun k hk => (setRow_other _ _ _ _ (by omega)).trans (Below.heap_alloc w o k hk)⟩
set_option maxRecDepth 100000 in
set_option maxHeartbeats 4000000 in
theorem Check_any (v : Value) (s : TSet) (w : World) (h : IsSet w v s) : Calls Tryz.prog 76 #[v] w (Gives w (.int .i64 (chkErr s))) := by
 have hfin : ∀ r wf, chkErr s = r → Grow w wf → Gives w (.int .i64 (chkErr s)) (.returned (.int .i64 r)) wf := fun r wf h hg => ⟨by rw [h], hg⟩
 have HF := hid hfin
 obtain ⟨A, c, B, d, rfl, h1, h2⟩ := h.open_
 obtain ⟨_, _, e1, c1, m1, r1⟩ := h1
 obtain ⟨_, _, e2, d1, m2, r2⟩ := h2
 injection e1 with e1 _ e1'
 injection e2 with e2 _ e2'
 subst e1 e1' e2 e2'
 unfold maxLen at m1 m2
 have g0 : Grow w (w.alloc (.cells #[.int .i64 s.pl, .slice A s.su.length c, .int .i64 s.wi, .int .i64 s.dr, .int .i64 s.fl, .int .i64 s.co, .int .i64 s.me, .int .i64 s.de, .slice B s.re.length d] 24)) := (Grow.refl w).alloc _
 clear hfin h
 by_cases b1 : s.pl < 3 ∨ 4 < s.pl
 ·have HE := hid (show chkErr s = 2 by unfold chkErr; rw [if_pos b1])
  rcases b1 with b1 | b1
  ·go_enter Tryz.func76, Tryz.ntmps76
   go_wp2
   go_ret
   exact HF.out _ _ HE.out g0
  ·have b0 : ¬ s.pl < 3 := by omega
   go_enter Tryz.func76, Tryz.ntmps76
   go_wp2
   go_ret
   exact HF.out _ _ HE.out g0
 have p0 : ¬ s.pl < 3 := by omega
 have p1 : ¬ 4 < s.pl := by omega
 by_cases b2 : 3 < s.su.length
 ·have HE := hid (show chkErr s = 8 by unfold chkErr; rw [if_neg b1, if_pos b2])
  have b3 : (3 : Int) < (s.su.length : Int) := by omega
  clear b1
  go_enter Tryz.func76, Tryz.ntmps76
  go_wp2
  go_ret
  exact HF.out _ _ HE.out g0
 have b3 : ¬ (3 : Int) < (s.su.length : Int) := by omega
 have HE1 := hid (fun (k : Nat) (hk : k < s.su.length) (hb : sutB s.su[k] = true) => (show chkErr s = 2 by
  unfold chkErr
  rw [if_neg b1, if_neg b2, if_pos (List.any_eq_true.2 ⟨s.su[k], List.getElem_mem hk, hb⟩)]))
 have HE2 := hid (fun (hs : ∀ z ∈ s.su, 1 ≤ z ∧ z ≤ 9) => (show chkErr s = if rowsB s = true then 2 else if plainI s = 0 then 6 else if risErr (plainI s) (-1) s.re ≠ 0 then risErr (plainI s) (-1) s.re
   else if plainI s * s.co + s.fl ≤ s.pl * (3 * s.me + 1) + s.de then 6 else 0 by
  unfold chkErr
  rw [if_neg b1, if_neg b2, if_neg]
  intro hb
  obtain ⟨z, hz, hb⟩ := List.any_eq_true.1 hb
  have := hs z hz
  unfold sutB at hb
  simp at hb
  omega))
 clear b1
 go_enter Tryz.func76, Tryz.ntmps76
 go_wp2
 go_loop [3, 32] (fun z i => ∃ (k : Nat) (x : Int), k ≤ s.su.length ∧ i = .int .i64 (k : Int) ∧ z = .int .i64 x ∧ KeptSum s k x ∧ ∀ j (hj : j < s.su.length), j < k → 1 ≤ s.su[j] ∧ s.su[j] ≤ 9) (fun _ i => s.su.length - (intOf i).toNat)
 case atStart => exact ⟨0, _, Nat.zero_le _, rfl, rfl, KeptSum.start s, by simp⟩
 case round =>
  obtain ⟨k, x, hk, rfl, rfl, hsum, hall⟩ := hrel
  have HS := hid hsum
  have HA := hid hall
  clear hsum hall
  by_cases hlt : k < s.su.length
  ·obtain ⟨ad, rfl, _, hx⟩ := (r1.grow g0).int hlt
   have i0 : (0 : Int) ≤ (k : Int) := by omega
   have i1 : (k : Int) < (s.su.length : Int) := by omega
   by_cases hlo : s.su[k] < 1
   ·have HE := hid (HE1.out k hlt (by unfold sutB; simp; omega))
    go_wp2
    go_ret
    exact HF.out _ _ HE.out g0
   ·by_cases hhi : 9 < s.su[k]
    ·have HE := hid (HE1.out k hlt (by unfold sutB; simp; omega))
     go_wp2
     go_ret
     exact HF.out _ _ HE.out g0
    ·have hall' : ∀ j (hj : j < s.su.length), j < k + 1 → 1 ≤ s.su[j] ∧ s.su[j] ≤ 9 := fun j hj hjk => by
      by_cases e : j = k
      ·subst e; omega
      ·exact HA.out j hj (by omega)
     have HA2 := hid hall'
     have HS2 := hid (HS.out.step hlt (by omega) hall')
     clear hall'
     go_wp2
     exact ⟨⟨k + 1, _, by omega, by go_num, rfl, HS2.out, HA2.out⟩, by simp only [intOf]; omega⟩
  ·obtain rfl : k = s.su.length := by omega
   have hw : ∀ z ∈ s.su, 1 ≤ z ∧ z ≤ 9 := fun z hz => by
    obtain ⟨j, hj, rfl⟩ := List.getElem_of_mem hz
    exact HA.out j hj hj
   have HE3 := hid (HE2.out hw)
   have HP := hid (fun (h : RowsTo s 6) => plain_bound (s := s) (by omega) hw (h.1 (by omega)) (h.2.1 (by omega)))
   have HX := hid (fun (h : RowsTo s 6) => (show x = plainI s by
    have h1 := h.1 (by omega)
    have h2 := h.2.1 (by omega)
    have := HS.out ⟨h1.1, h1.2, h2.1, h2.2⟩
    rwa [List.take_length] at this))
   clear hw
   have b0 : Blk (w.alloc (.cells #[.int .i64 s.pl, .slice A s.su.length c, .int .i64 s.wi, .int .i64 s.dr, .int .i64 s.fl, .int .i64 s.co, .int .i64 s.me, .int .i64 s.de, .slice B s.re.length d] 24)) w.heap.size 24 (setVals s (.slice A s.su.length c) (.slice B s.re.length d)) := heap_alloc_new w _
   have HG0 := hid g0
   have HB0 := hid b0
   clear b0 g0
   go_wp2_with (first
    | (refine wpList_store_row (by rfl) 139 (.tmp 6) (.tmp 64) (by rfl) (w.heap.size + 1) #[.int .i64 s.wi, .int .i64 0, .int .i64 4, .int .i64 s.dr, .int .i64 0, .int .i64 3, .int .i64 s.fl, .int .i64 0, .int .i64 8, .int .i64 s.co, .int .i64 1, .int .i64 4, .int .i64 s.me, .int .i64 1, .int .i64 4, .int .i64 s.de, .int .i64 0, .int .i64 20] (by rfl) (by rfl) 139 _ (heap_alloc2_new _ _ _) (by kernel_rfl) (by rfl) (by simp [Value.oneCell']) ?_
       generalize hW2 : World.setRow _ _ _ = W2 at *
       have hgr : Grow (w.alloc (.cells #[.int .i64 s.pl, .slice A s.su.length c, .int .i64 s.wi, .int .i64 s.dr, .int .i64 s.fl, .int .i64 s.co, .int .i64 s.me, .int .i64 s.de, .slice B s.re.length d] 24)) W2 := by
        rw [← hW2]
        exact grow_row (by simp) (heap_alloc2_new _ _ _) (by rfl)
       have HT1 := hid (show W2.heap[w.heap.size + 1]? = some (.cells #[.int .i64 s.wi, .int .i64 0, .int .i64 4, .int .i64 s.dr, .int .i64 0, .int .i64 3, .int .i64 s.fl, .int .i64 0, .int .i64 8, .int .i64 s.co, .int .i64 1, .int .i64 4, .int .i64 s.me, .int .i64 1, .int .i64 4, .int .i64 s.de, .int .i64 0, .int .i64 20] 139 (0, 0)) by
        rw [← hW2]
        exact setRow_heap _ _ _ _ _ _ (heap_alloc2_new _ _ _))
       have HG1 := hid (HG0.out.trans hgr)
       have HB1 := hid (HB0.out.grow hgr)
       clear hW2 hgr)
    | (refine wpList_load_row (by rfl) 139 (.tmp 6) (by rfl) (w.heap.size + 1) (by rfl) 139 #[.int .i64 s.wi, .int .i64 0, .int .i64 4, .int .i64 s.dr, .int .i64 0, .int .i64 3, .int .i64 s.fl, .int .i64 0, .int .i64 8, .int .i64 s.co, .int .i64 1, .int .i64 4, .int .i64 s.me, .int .i64 1, .int .i64 4, .int .i64 s.de, .int .i64 0, .int .i64 20] (0, 0) (.array 6 138) HT1.out Tryz.underlying139 rfl (by kernel_rfl) ?_))
   go_loopw [66] (fun i wr => ∃ k : Nat, k ≤ 6 ∧ i = .int .i64 (k : Int) ∧ RowsTo s k ∧ Blk wr w.heap.size 24 (setVals s (.slice A s.su.length c) (.slice B s.re.length d)) ∧ Grow w wr) (fun i _ => 6 - (intOf i).toNat)
   case atStart => exact ⟨0, by omega, rfl, by unfold RowsTo; omega, HB1.out, HG1.out⟩
   case round =>
    obtain ⟨k, hk, rfl, hrows, hb, hg⟩ := hrel
    have HR := hid hrows
    have GA := hid (fun o => hg.alloc o)
    have BA := hid (fun o => hb.grow ((Grow.refl wr).alloc o))
    rcases (show k = 0 ∨ k = 1 ∨ k = 2 ∨ k = 3 ∨ k = 4 ∨ k = 5 ∨ k = 6 by omega) with rfl | rfl | rfl | rfl | rfl | rfl | rfl
    ·as_aux_lemma =>
      have ix : ∀ w, (Instr.index 139 (.agg #[.int .i64 s.wi, .int .i64 0, .int .i64 4, .int .i64 s.dr, .int .i64 0, .int .i64 3, .int .i64 s.fl, .int .i64 0, .int .i64 8, .int .i64 s.co, .int .i64 1, .int .i64 4, .int .i64 s.me, .int .i64 1, .int .i64 4, .int .i64 s.de, .int .i64 0, .int .i64 20]) (.int .i64 0)).run Tryz.prog w = .ok (.agg #[.int .i64 s.wi, .int .i64 0, .int .i64 4]) w := fun _ => by kernel_rfl
      by_cases q1 : s.wi < 0
      ·have HE := hid (HE3.out.trans (if_pos (rowsB_true (by omega))))
       clear hrows
       go_wp2
       go_ret
       exact HF.out _ _ HE.out (GA.out _)
      ·by_cases q2 : 4 < s.wi
       ·have HE := hid (HE3.out.trans (if_pos (rowsB_true (by omega))))
        clear hrows
        go_wp2
        go_ret
        exact HF.out _ _ HE.out (GA.out _)
       ·have HR2 := hid (show RowsTo s 1 by unfold RowsTo at hrows ⊢; omega)
        clear hrows
        go_wp2
        exact ⟨⟨1, by omega, by go_num, HR2.out, BA.out _, GA.out _⟩, by simp only [intOf]; omega⟩
    ·as_aux_lemma =>
      have ix : ∀ w, (Instr.index 139 (.agg #[.int .i64 s.wi, .int .i64 0, .int .i64 4, .int .i64 s.dr, .int .i64 0, .int .i64 3, .int .i64 s.fl, .int .i64 0, .int .i64 8, .int .i64 s.co, .int .i64 1, .int .i64 4, .int .i64 s.me, .int .i64 1, .int .i64 4, .int .i64 s.de, .int .i64 0, .int .i64 20]) (.int .i64 1)).run Tryz.prog w = .ok (.agg #[.int .i64 s.dr, .int .i64 0, .int .i64 3]) w := fun _ => by kernel_rfl
      by_cases q1 : s.dr < 0
      ·have HE := hid (HE3.out.trans (if_pos (rowsB_true (by omega))))
       clear hrows
       go_wp2
       go_ret
       exact HF.out _ _ HE.out (GA.out _)
      ·by_cases q2 : 3 < s.dr
       ·have HE := hid (HE3.out.trans (if_pos (rowsB_true (by omega))))
        clear hrows
        go_wp2
        go_ret
        exact HF.out _ _ HE.out (GA.out _)
       ·have HR2 := hid (show RowsTo s 2 by unfold RowsTo at hrows ⊢; omega)
        clear hrows
        go_wp2
        exact ⟨⟨2, by omega, by go_num, HR2.out, BA.out _, GA.out _⟩, by simp only [intOf]; omega⟩
    ·as_aux_lemma =>
      have ix : ∀ w, (Instr.index 139 (.agg #[.int .i64 s.wi, .int .i64 0, .int .i64 4, .int .i64 s.dr, .int .i64 0, .int .i64 3, .int .i64 s.fl, .int .i64 0, .int .i64 8, .int .i64 s.co, .int .i64 1, .int .i64 4, .int .i64 s.me, .int .i64 1, .int .i64 4, .int .i64 s.de, .int .i64 0, .int .i64 20]) (.int .i64 2)).run Tryz.prog w = .ok (.agg #[.int .i64 s.fl, .int .i64 0, .int .i64 8]) w := fun _ => by kernel_rfl
      by_cases q1 : s.fl < 0
      ·have HE := hid (HE3.out.trans (if_pos (rowsB_true (by omega))))
       clear hrows
       go_wp2
       go_ret
       exact HF.out _ _ HE.out (GA.out _)
      ·by_cases q2 : 8 < s.fl
       ·have HE := hid (HE3.out.trans (if_pos (rowsB_true (by omega))))
        clear hrows
        go_wp2
        go_ret
        exact HF.out _ _ HE.out (GA.out _)
       ·have HR2 := hid (show RowsTo s 3 by unfold RowsTo at hrows ⊢; omega)
        clear hrows
        go_wp2
        exact ⟨⟨3, by omega, by go_num, HR2.out, BA.out _, GA.out _⟩, by simp only [intOf]; omega⟩
    ·as_aux_lemma =>
      have ix : ∀ w, (Instr.index 139 (.agg #[.int .i64 s.wi, .int .i64 0, .int .i64 4, .int .i64 s.dr, .int .i64 0, .int .i64 3, .int .i64 s.fl, .int .i64 0, .int .i64 8, .int .i64 s.co, .int .i64 1, .int .i64 4, .int .i64 s.me, .int .i64 1, .int .i64 4, .int .i64 s.de, .int .i64 0, .int .i64 20]) (.int .i64 3)).run Tryz.prog w = .ok (.agg #[.int .i64 s.co, .int .i64 1, .int .i64 4]) w := fun _ => by kernel_rfl
      by_cases q1 : s.co < 1
      ·have HE := hid (HE3.out.trans (if_pos (rowsB_true (by omega))))
       clear hrows
       go_wp2
       go_ret
       exact HF.out _ _ HE.out (GA.out _)
      ·by_cases q2 : 4 < s.co
       ·have HE := hid (HE3.out.trans (if_pos (rowsB_true (by omega))))
        clear hrows
        go_wp2
        go_ret
        exact HF.out _ _ HE.out (GA.out _)
       ·have HR2 := hid (show RowsTo s 4 by unfold RowsTo at hrows ⊢; omega)
        clear hrows
        go_wp2
        exact ⟨⟨4, by omega, by go_num, HR2.out, BA.out _, GA.out _⟩, by simp only [intOf]; omega⟩
    ·as_aux_lemma =>
      have ix : ∀ w, (Instr.index 139 (.agg #[.int .i64 s.wi, .int .i64 0, .int .i64 4, .int .i64 s.dr, .int .i64 0, .int .i64 3, .int .i64 s.fl, .int .i64 0, .int .i64 8, .int .i64 s.co, .int .i64 1, .int .i64 4, .int .i64 s.me, .int .i64 1, .int .i64 4, .int .i64 s.de, .int .i64 0, .int .i64 20]) (.int .i64 4)).run Tryz.prog w = .ok (.agg #[.int .i64 s.me, .int .i64 1, .int .i64 4]) w := fun _ => by kernel_rfl
      by_cases q1 : s.me < 1
      ·have HE := hid (HE3.out.trans (if_pos (rowsB_true (by omega))))
       clear hrows
       go_wp2
       go_ret
       exact HF.out _ _ HE.out (GA.out _)
      ·by_cases q2 : 4 < s.me
       ·have HE := hid (HE3.out.trans (if_pos (rowsB_true (by omega))))
        clear hrows
        go_wp2
        go_ret
        exact HF.out _ _ HE.out (GA.out _)
       ·have HR2 := hid (show RowsTo s 5 by unfold RowsTo at hrows ⊢; omega)
        clear hrows
        go_wp2
        exact ⟨⟨5, by omega, by go_num, HR2.out, BA.out _, GA.out _⟩, by simp only [intOf]; omega⟩
    ·as_aux_lemma =>
      have ix : ∀ w, (Instr.index 139 (.agg #[.int .i64 s.wi, .int .i64 0, .int .i64 4, .int .i64 s.dr, .int .i64 0, .int .i64 3, .int .i64 s.fl, .int .i64 0, .int .i64 8, .int .i64 s.co, .int .i64 1, .int .i64 4, .int .i64 s.me, .int .i64 1, .int .i64 4, .int .i64 s.de, .int .i64 0, .int .i64 20]) (.int .i64 5)).run Tryz.prog w = .ok (.agg #[.int .i64 s.de, .int .i64 0, .int .i64 20]) w := fun _ => by kernel_rfl
      by_cases q1 : s.de < 0
      ·have HE := hid (HE3.out.trans (if_pos (rowsB_true (by omega))))
       clear hrows
       go_wp2
       go_ret
       exact HF.out _ _ HE.out (GA.out _)
      ·by_cases q2 : 20 < s.de
       ·have HE := hid (HE3.out.trans (if_pos (rowsB_true (by omega))))
        clear hrows
        go_wp2
        go_ret
        exact HF.out _ _ HE.out (GA.out _)
       ·have HR2 := hid (show RowsTo s 6 by unfold RowsTo at hrows ⊢; omega)
        clear hrows
        go_wp2
        exact ⟨⟨6, by omega, by go_num, HR2.out, BA.out _, GA.out _⟩, by simp only [intOf]; omega⟩
    ·as_aux_lemma =>
      have HE4 := hid (HE3.out.trans (if_neg (by rw [rowsB_false hrows]; simp)))
      obtain rfl := HX.out hrows
      have hpl := HP.out hrows
      have HR6 := hid hrows
      clear hrows
      by_cases q1 : plainI s = 0
      ·have HE := hid (HE4.out.trans (if_pos q1))
       have q2 : (plainI s == 0) = true := by simp [q1]
       clear q1
       go_wp2
       go_ret
       exact HF.out _ _ HE.out hg
      ·have HE := hid (HE4.out.trans (if_neg q1))
       have q2 : (plainI s == 0) = false := by simpa using q1
       clear q1
       have c8 := hb.cell 8
       have c0 := hb.cell 0
       have c4 := hb.cell 4
       have c5 := hb.cell 5
       have c6 := hb.cell 6
       have c7 := hb.cell 7
       simp only [setVals, List.getElem?_cons_zero, List.getElem?_cons_succ] at c8 c0 c4 c5 c6 c7
       have r3 := r2.grow hg
       obtain ⟨w1, w2, w3, w4, w5, w6⟩ := HR6.out
       have bco := mul_136 hpl (w4 (by omega))
       have bpl := mul_52 (p := s.pl) ⟨by omega, by omega⟩ (w5 (by omega))
       have bfl := w3 (by omega)
       have bme := w5 (by omega)
       have bde := w6 (by omega)
       have bcc := w4 (by omega)
       clear w1 w2 w3 w4 w5 w6
       go_wp2
       go_loop [9, 87] (fun q i => ∃ (k : Nat) (p : Int), k ≤ s.re.length ∧ i = .int .i64 (k : Int) ∧ q = .int .i64 p ∧ risErr (plainI s) (-1) s.re = risErr (plainI s) p (s.re.drop k)) (fun _ i => s.re.length - (intOf i).toNat)
       case atStart => exact ⟨0, -1, Nat.zero_le _, rfl, rfl, rfl⟩
       case round =>
        obtain ⟨k, p, hk, rfl, rfl, hz⟩ := hrel
        have HZ := hid hz
        clear hz
        by_cases hlt : k < s.re.length
        ·obtain ⟨ad, rfl, _, hx⟩ := r3.int hlt
         have hst := HZ.out
         rw [risErr_drop hlt] at hst
         have i0 : (0 : Int) ≤ (k : Int) := by omega
         have i1 : (k : Int) < (s.re.length : Int) := by omega
         by_cases q3 : s.re[k] < 0
         ·rw [if_pos (.inl q3)] at hst
          have HE5 := hid (HE.out.trans ((if_pos (by omega)).trans hst))
          clear hst
          go_wp2
          go_ret
          exact HF.out _ _ HE5.out hg
         ·by_cases q4 : plainI s ≤ s.re[k]
          ·rw [if_pos (.inr q4)] at hst
           have HE5 := hid (HE.out.trans ((if_pos (by omega)).trans hst))
           clear hst
           go_wp2
           go_ret
           exact HF.out _ _ HE5.out hg
          ·rw [if_neg (by omega)] at hst
           by_cases q5 : s.re[k] ≤ p
           ·rw [if_pos q5] at hst
            have HE5 := hid (HE.out.trans ((if_pos (by omega)).trans hst))
            clear hst
            go_wp2
            go_ret
            exact HF.out _ _ HE5.out hg
           ·rw [if_neg q5] at hst
            have HST := hid hst
            clear hst
            go_wp2
            exact ⟨⟨k + 1, _, by omega, by go_num, rfl, HST.out⟩, by simp only [intOf]; omega⟩
        ·have hz0 : risErr (plainI s) (-1) s.re = 0 := by rw [HZ.out, List.drop_eq_nil_of_le (by omega)]; rfl
         have HE5 := hid (HE.out.trans (if_neg (by rw [hz0]; simp)))
         clear hz0
         by_cases q3 : plainI s * s.co + s.fl ≤ s.pl * (3 * s.me + 1) + s.de
         ·have HE6 := hid (HE5.out.trans (if_pos q3))
          go_wp2
          go_ret
          exact HF.out _ _ HE6.out hg
         ·have HE6 := hid (HE5.out.trans (if_neg q3))
          go_wp2
          go_ret
          exact HF.out _ _ HE6.out hg
end Go.Proofs.YthblfhgofopcaaaGreat

namespace Go.Proofs.YthblfhgofopcaaaGreat
open Go.RowKit
def btwB (n lo hi : Int) : Bool := decide (lo ≤ n) && decide (n ≤ hi)
theorem btw_yes {n lo hi : Int} (h : lo ≤ n ∧ n ≤ hi) : btwB n lo hi = true := by unfold btwB; simp; omega
theorem btw_no {n lo hi : Int} (h : n < lo ∨ hi < n) : btwB n lo hi = false := by unfold btwB; simp; omega
theorem between_any (n lo hi : Int) (w : World) : Calls Tryz.prog 129 #[.int .i64 n, .int .i64 lo, .int .i64 hi] w (Same w (.bool (btwB n lo hi))) := by
 have hfin : ∀ b, btwB n lo hi = b → Same w (.bool (btwB n lo hi)) (.returned (.bool b)) w := fun b h => ⟨by rw [h], rfl⟩
 have HF := hid hfin
 clear hfin
 by_cases h1 : lo ≤ n
 ·by_cases h2 : n ≤ hi
  ·have HE := hid (btw_yes ⟨h1, h2⟩)
   go_enter Tryz.func129, Tryz.ntmps129
   go_wp2
   go_ret
   exact HF.out _ HE.out
  ·have HE := hid (btw_no (lo := lo) (.inr (show hi < n by omega)))
   go_enter Tryz.func129, Tryz.ntmps129
   go_wp2
   go_ret
   exact HF.out _ HE.out
 ·have HE := hid (btw_no (hi := hi) (.inl (show n < lo by omega)))
  go_enter Tryz.func129, Tryz.ntmps129
  go_wp2
  go_ret
  exact HF.out _ HE.out
theorem plain_any (v : Value) (s : TSet) (w : World) (h : IsSet w v s) (h3 : s.su.length ≤ 3) (hs : ∀ z ∈ s.su, 1 ≤ z ∧ z ≤ 9) (hw : 0 ≤ s.wi ∧ s.wi ≤ 4) (hd : 0 ≤ s.dr ∧ s.dr ≤ 3) : Calls Tryz.prog 130 #[v] w (Gives w (.int .i64 (plainI s))) := by
 have hfin : ∀ r wf, plainI s = r → Grow w wf → Gives w (.int .i64 (plainI s)) (.returned (.int .i64 r)) wf := fun r wf h hg => ⟨by rw [h], hg⟩
 have HF := hid hfin
 obtain ⟨A, c, B, d, rfl, h1, h2⟩ := h.open_
 obtain ⟨_, _, e1, c1, m1, r1⟩ := h1
 injection e1 with e1 _ e1'
 subst e1 e1'
 unfold maxLen at m1
 have g0 : Grow w (w.alloc (.cells #[.int .i64 s.pl, .slice A s.su.length c, .int .i64 s.wi, .int .i64 s.dr, .int .i64 s.fl, .int .i64 s.co, .int .i64 s.me, .int .i64 s.de, .slice B s.re.length d] 24)) := (Grow.refl w).alloc _
 have HS := hid hs
 clear hfin h h2 hs
 have HP := hid (fun k => sumI_bound (l := s.su.take k) fun z hz => HS.out z (List.mem_of_mem_take hz))
 go_enter Tryz.func130, Tryz.ntmps130
 go_wp2
 go_loop [3, 4] (fun z i => ∃ k : Nat, k ≤ s.su.length ∧ i = .int .i64 (k : Int) ∧ z = .int .i64 (s.wi + s.dr + sumI (s.su.take k))) (fun _ i => s.su.length - (intOf i).toNat)
 case atStart => exact ⟨0, Nat.zero_le _, rfl, by simp [sumI]⟩
 case round =>
  obtain ⟨k, hk, rfl, rfl⟩ := hrel
  have hb := HP.out k
  rw [List.length_take, Nat.min_eq_left hk] at hb
  by_cases hlt : k < s.su.length
  ·obtain ⟨ad, rfl, _, hx⟩ := (r1.grow g0).int hlt
   have i0 : (0 : Int) ≤ (k : Int) := by omega
   have i1 : (k : Int) < (s.su.length : Int) := by omega
   have hz := HS.out s.su[k] (List.getElem_mem hlt)
   have HT := hid (sumI_take s.su hlt)
   go_wp2
   exact ⟨⟨k + 1, by omega, by go_num, by rw [HT.out, Int.add_assoc (s.wi + s.dr)]⟩, by simp only [intOf]; omega⟩
  ·obtain rfl : k = s.su.length := by omega
   have HE := hid (show plainI s = s.wi + s.dr + sumI s.su from rfl)
   go_wp2
   go_ret
   exact HF.out _ _ HE.out g0
def prevI (zs : List Int) (k : Nat) : Int := if h : 0 < k ∧ k - 1 < zs.length then zs[k - 1]'h.2 else -1
theorem prevI_zero (zs : List Int) : prevI zs 0 = -1 := by unfold prevI; rw [dif_neg (by omega)]
theorem prevI_succ {zs : List Int} {k : Nat} (h : k < zs.length) : prevI zs (k + 1) = zs[k] := by
 unfold prevI
 rw [dif_pos ⟨by omega, by simpa using h⟩]
 simp
set_option maxRecDepth 100000 in
set_option maxHeartbeats 4000000 in
theorem rCheck_any (v : Value) (s : TSet) (w : World) (h : IsSet w v s) : Calls Tryz.prog 79 #[v] w (Gives w (.int .i64 (chkErr s))) := by
 have hfin : ∀ r wf, chkErr s = r → Grow w wf → Gives w (.int .i64 (chkErr s)) (.returned (.int .i64 r)) wf := fun r wf h hg => ⟨by rw [h], hg⟩
 have HF := hid hfin
 have HI := hid h
 obtain ⟨A, c, B, d, rfl, h1, h2⟩ := h.open_
 obtain ⟨_, _, e1, c1, m1, r1⟩ := h1
 obtain ⟨_, _, e2, d1, m2, r2⟩ := h2
 injection e1 with e1 _ e1'
 injection e2 with e2 _ e2'
 subst e1 e1' e2 e2'
 unfold maxLen at m1 m2
 have g0 : Grow w (w.alloc (.cells #[.int .i64 s.pl, .slice A s.su.length c, .int .i64 s.wi, .int .i64 s.dr, .int .i64 s.fl, .int .i64 s.co, .int .i64 s.me, .int .i64 s.de, .slice B s.re.length d] 24)) := (Grow.refl w).alloc _
 clear hfin h
 by_cases b1 : s.pl < 3 ∨ 4 < s.pl
 ·have HE := hid (show chkErr s = 2 by unfold chkErr; rw [if_pos b1])
  have t1 := btw_no b1
  clear b1
  go_enter Tryz.func79, Tryz.ntmps79
  go_wp2_with (go_at_call 129; refine (between_any _ _ _ _).mono ?_; rintro e wb ⟨rfl, rfl⟩)
  go_ret
  exact HF.out _ _ HE.out g0
 have t1 := btw_yes (show 3 ≤ s.pl ∧ s.pl ≤ 4 by omega)
 by_cases b2 : 3 < s.su.length
 ·have HE := hid (show chkErr s = 8 by unfold chkErr; rw [if_neg b1, if_pos b2])
  have b3 : (3 : Int) < (s.su.length : Int) := by omega
  clear b1
  go_enter Tryz.func79, Tryz.ntmps79
  go_wp2_with (go_at_call 129; refine (between_any _ _ _ _).mono ?_; rintro e wb ⟨rfl, rfl⟩)
  go_ret
  exact HF.out _ _ HE.out g0
 have b3 : ¬ (3 : Int) < (s.su.length : Int) := by omega
 have p0 : 3 ≤ s.pl ∧ s.pl ≤ 4 := by omega
 have HE1 := hid (fun (k : Nat) (hk : k < s.su.length) (hb : sutB s.su[k] = true) => (show chkErr s = 2 by
  unfold chkErr
  rw [if_neg b1, if_neg b2, if_pos (List.any_eq_true.2 ⟨s.su[k], List.getElem_mem hk, hb⟩)]))
 have HE2 := hid (fun (hs : ∀ z ∈ s.su, 1 ≤ z ∧ z ≤ 9) => (show chkErr s = if rowsB s = true then 2 else if plainI s = 0 then 6 else if risErr (plainI s) (-1) s.re ≠ 0 then risErr (plainI s) (-1) s.re
   else if plainI s * s.co + s.fl ≤ s.pl * (3 * s.me + 1) + s.de then 6 else 0 by
  unfold chkErr
  rw [if_neg b1, if_neg b2, if_neg]
  intro hb
  obtain ⟨z, hz, hb⟩ := List.any_eq_true.1 hb
  have := hs z hz
  unfold sutB at hb
  simp at hb
  omega))
 clear b1
 go_enter Tryz.func79, Tryz.ntmps79
 go_wp2_with (go_at_call 129; refine (between_any _ _ _ _).mono ?_; rintro e wb ⟨rfl, rfl⟩)
 go_loop [3] (fun i => ∃ k : Nat, k ≤ s.su.length ∧ i = .int .i64 (k : Int) ∧ ∀ j (hj : j < s.su.length), j < k → 1 ≤ s.su[j] ∧ s.su[j] ≤ 9) (fun i => s.su.length - (intOf i).toNat)
 case atStart => exact ⟨0, Nat.zero_le _, rfl, by simp⟩
 case round =>
  obtain ⟨k, hk, rfl, hall⟩ := hrel
  have HA := hid hall
  clear hall
  by_cases hlt : k < s.su.length
  ·obtain ⟨ad, rfl, _, hx⟩ := (r1.grow g0).int hlt
   have i0 : (0 : Int) ≤ (k : Int) := by omega
   have i1 : (k : Int) < (s.su.length : Int) := by omega
   by_cases hlo : s.su[k] < 1 ∨ 9 < s.su[k]
   ·have HE := hid (HE1.out k hlt (by unfold sutB; simp; omega))
    have t2 := btw_no hlo
    clear hlo
    go_wp2_with (go_at_call 129; refine (between_any _ _ _ _).mono ?_; rintro e wb ⟨rfl, rfl⟩)
    go_ret
    exact HF.out _ _ HE.out g0
   ·have t2 := btw_yes (show 1 ≤ s.su[k] ∧ s.su[k] ≤ 9 by omega)
    have HA2 := hid (show ∀ j (hj : j < s.su.length), j < k + 1 → 1 ≤ s.su[j] ∧ s.su[j] ≤ 9 from fun j hj hjk => by
      by_cases e : j = k
      ·subst e; omega
      ·exact HA.out j hj (by omega))
    clear hlo
    go_wp2_with (go_at_call 129; refine (between_any _ _ _ _).mono ?_; rintro e wb ⟨rfl, rfl⟩)
    exact ⟨⟨k + 1, by omega, by go_num, HA2.out⟩, by simp only [intOf]; omega⟩
  ·obtain rfl : k = s.su.length := by omega
   have hw : ∀ z ∈ s.su, 1 ≤ z ∧ z ≤ 9 := fun z hz => by
    obtain ⟨j, hj, rfl⟩ := List.getElem_of_mem hz
    exact HA.out j hj hj
   have HE3 := hid (HE2.out hw)
   have HWI := hid hw
   clear hw
   by_cases q0 : s.wi < 0 ∨ 4 < s.wi
   ·have HE := hid (HE3.out.trans (if_pos (rowsB_true (by omega))))
    have u0 := btw_no q0
    clear q0
    go_wp2_with (go_at_call 129; refine (between_any _ _ _ _).mono ?_; rintro e wb ⟨rfl, rfl⟩)
    go_ret
    exact HF.out _ _ HE.out g0
   have u0 := btw_yes (show 0 ≤ s.wi ∧ s.wi ≤ 4 by omega)
   have v0 : 0 ≤ s.wi ∧ s.wi ≤ 4 := by omega
   clear q0
   by_cases q1 : s.dr < 0 ∨ 3 < s.dr
   ·have HE := hid (HE3.out.trans (if_pos (rowsB_true (by omega))))
    have u1 := btw_no q1
    clear q1
    go_wp2_with (go_at_call 129; refine (between_any _ _ _ _).mono ?_; rintro e wb ⟨rfl, rfl⟩)
    go_ret
    exact HF.out _ _ HE.out g0
   have u1 := btw_yes (show 0 ≤ s.dr ∧ s.dr ≤ 3 by omega)
   have v1 : 0 ≤ s.dr ∧ s.dr ≤ 3 := by omega
   clear q1
   by_cases q2 : s.fl < 0 ∨ 8 < s.fl
   ·have HE := hid (HE3.out.trans (if_pos (rowsB_true (by omega))))
    have u2 := btw_no q2
    clear q2
    go_wp2_with (go_at_call 129; refine (between_any _ _ _ _).mono ?_; rintro e wb ⟨rfl, rfl⟩)
    go_ret
    exact HF.out _ _ HE.out g0
   have u2 := btw_yes (show 0 ≤ s.fl ∧ s.fl ≤ 8 by omega)
   have v2 : 0 ≤ s.fl ∧ s.fl ≤ 8 := by omega
   clear q2
   by_cases q3 : s.co < 1 ∨ 4 < s.co
   ·have HE := hid (HE3.out.trans (if_pos (rowsB_true (by omega))))
    have u3 := btw_no q3
    clear q3
    go_wp2_with (go_at_call 129; refine (between_any _ _ _ _).mono ?_; rintro e wb ⟨rfl, rfl⟩)
    go_ret
    exact HF.out _ _ HE.out g0
   have u3 := btw_yes (show 1 ≤ s.co ∧ s.co ≤ 4 by omega)
   have v3 : 1 ≤ s.co ∧ s.co ≤ 4 := by omega
   clear q3
   by_cases q4 : s.me < 1 ∨ 4 < s.me
   ·have HE := hid (HE3.out.trans (if_pos (rowsB_true (by omega))))
    have u4 := btw_no q4
    clear q4
    go_wp2_with (go_at_call 129; refine (between_any _ _ _ _).mono ?_; rintro e wb ⟨rfl, rfl⟩)
    go_ret
    exact HF.out _ _ HE.out g0
   have u4 := btw_yes (show 1 ≤ s.me ∧ s.me ≤ 4 by omega)
   have v4 : 1 ≤ s.me ∧ s.me ≤ 4 := by omega
   clear q4
   by_cases q5 : s.de < 0 ∨ 20 < s.de
   ·have HE := hid (HE3.out.trans (if_pos (rowsB_true (by omega))))
    have u5 := btw_no q5
    clear q5
    go_wp2_with (go_at_call 129; refine (between_any _ _ _ _).mono ?_; rintro e wb ⟨rfl, rfl⟩)
    go_ret
    exact HF.out _ _ HE.out g0
   have u5 := btw_yes (show 0 ≤ s.de ∧ s.de ≤ 20 by omega)
   have v5 : 0 ≤ s.de ∧ s.de ≤ 20 := by omega
   clear q5
   have hrows : RowsTo s 6 := by unfold RowsTo; omega
   have HE4 := hid (HE3.out.trans (if_neg (by rw [rowsB_false hrows]; simp)))
   have hpl := plain_bound (s := s) (by omega) HWI.out v0 v1
   have bco := mul_136 hpl v3
   have bpl := mul_52 (p := s.pl) p0 v4
   have PL := hid (fun W (hg : Grow w W) => plain_any _ s W (HI.out.grow hg) (by omega) HWI.out v0 v1)
   have HG0 := hid g0
   have HB0 := hid (show Blk (w.alloc (.cells #[.int .i64 s.pl, .slice A s.su.length c, .int .i64 s.wi, .int .i64 s.dr, .int .i64 s.fl, .int .i64 s.co, .int .i64 s.me, .int .i64 s.de, .slice B s.re.length d] 24)) w.heap.size 24 (setVals s (.slice A s.su.length c) (.slice B s.re.length d)) from heap_alloc_new w _)
   clear hrows
   go_wp2_with (first
    | (go_at_call 129; refine (between_any _ _ _ _).mono ?_; rintro e wb ⟨rfl, rfl⟩)
    | (go_at_call 130; refine (PL.out _ HG0.out).mono ?_; rintro e w2 ⟨rfl, hg2⟩; have hb2 := HB0.out.grow hg2; have hg := HG0.out.trans hg2; have c8 := hb2.cell 8; have c0 := hb2.cell 0; have c4 := hb2.cell 4; have c5 := hb2.cell 5; have c6 := hb2.cell 6; have c7 := hb2.cell 7; simp only [setVals, List.getElem?_cons_zero, List.getElem?_cons_succ] at c8 c0 c4 c5 c6 c7))
   ·have HE := hid (HE4.out.trans (if_pos (show plainI s = 0 by omega)))
    go_wp2
    go_ret
    exact HF.out _ _ HE.out hg
   ·have HE := hid (HE4.out.trans (if_neg (show ¬ plainI s = 0 by omega)))
    have r3 := r2.grow hg
    have p1 : 1 ≤ plainI s := by omega
    clear hg2
    go_wp2
    go_loopw [5] (fun i wr => ∃ (k n : Nat), k ≤ s.re.length ∧ i = .int .i64 (k : Int) ∧ wr = w2.drewN n ∧ risErr (plainI s) (-1) s.re = risErr (plainI s) (prevI s.re k) (s.re.drop k)) (fun i _ => s.re.length - (intOf i).toNat)
    case atStart => exact ⟨0, 0, Nat.zero_le _, rfl, rfl, by rw [prevI_zero]; rfl⟩
    case round =>
     obtain ⟨k, n, hk, rfl, rfl, hz⟩ := hrel
     have HZ := hid hz
     clear hz
     by_cases hlt : k < s.re.length
     ·obtain ⟨ad, rfl, _, hx⟩ := r3.int hlt
      have hst := HZ.out
      rw [risErr_drop hlt] at hst
      have i0 : (0 : Int) ≤ (k : Int) := by omega
      have i1 : (k : Int) < (s.re.length : Int) := by omega
      by_cases q3 : s.re[k] < 0 ∨ plainI s ≤ s.re[k]
      ·rw [if_pos q3] at hst
       have HE5 := hid (HE.out.trans ((if_pos (by omega)).trans hst))
       have t3 := btw_no (show s.re[k] < 0 ∨ plainI s - 1 < s.re[k] by omega)
       clear hst q3
       go_wp2_with (go_at_call 129; refine (between_any _ _ _ _).mono ?_; rintro e wb ⟨rfl, rfl⟩)
       go_ret
       exact HF.out _ _ HE5.out (hg.drewN _)
      ·rw [if_neg q3] at hst
       have t3 := btw_yes (show 0 ≤ s.re[k] ∧ s.re[k] ≤ plainI s - 1 by omega)
       by_cases h0 : 0 < k
       ·have hpl2 : k - 1 < s.re.length := by omega
        have hp : prevI s.re k = s.re[k - 1] := by unfold prevI; rw [dif_pos ⟨h0, hpl2⟩]
        obtain ⟨ad', hh, _, hx'⟩ := r3.int hpl2
        obtain rfl := Option.some.inj hh
        have i2 : (0 : Int) < (k : Int) := by omega
        have f1 : IntKind.i64.wrap ((k : Int) - 1) = (k : Int) - 1 := IntWalk.i64_in _ (by omega)
        have f2 : ((k : Int) - 1).toNat = k - 1 := by omega
        have i3 : (0 : Int) ≤ (k : Int) - 1 := by omega
        have i4 : (k : Int) - 1 < (s.re.length : Int) := by omega
        by_cases e3 : s.re[k] ≤ s.re[k - 1]
        ·rw [hp, if_pos e3] at hst
         have HE5 := hid (HE.out.trans ((if_pos (by omega)).trans hst))
         clear hst hp hh q3
         go_wp2_with (go_at_call 129; refine (between_any _ _ _ _).mono ?_; rintro e wb ⟨rfl, rfl⟩)
         go_quiet (fail)
         go_wp2
         go_ret
         exact HF.out _ _ HE5.out ((hg.drewN _).drewN _)
        ·rw [hp, if_neg e3] at hst
         have HST := hid hst
         clear hst hp hh q3
         go_wp2_with (go_at_call 129; refine (between_any _ _ _ _).mono ?_; rintro e wb ⟨rfl, rfl⟩)
         go_quiet (fail)
         go_wp2
         exact ⟨⟨k + 1, _, by omega, by go_num, rfl, by rw [prevI_succ hlt]; exact HST.out⟩, by simp only [intOf]; omega⟩
       ·obtain rfl : k = 0 := by omega
        rw [prevI_zero, if_neg (by omega)] at hst
        have HST := hid hst
        have hx0 : w2.cell? ad = some (.int .i64 s.re[0]) := by have h := hx; unfold Addr.add at h; simpa using h
        clear hst q3
        go_wp2_with (go_at_call 129; refine (between_any _ _ _ _).mono ?_; rintro e wb ⟨rfl, rfl⟩)
        go_quiet (fail)
        go_wp2
        exact ⟨⟨1, _, by omega, by go_num, rfl, by rw [prevI_succ hlt]; exact HST.out⟩, by simp only [intOf]; omega⟩
     ·have hz0 : risErr (plainI s) (-1) s.re = 0 := by rw [HZ.out, List.drop_eq_nil_of_le (by omega)]; rfl
      have HE5 := hid (HE.out.trans (if_neg (by rw [hz0]; simp)))
      clear hz0
      by_cases q3 : plainI s * s.co + s.fl ≤ s.pl * (3 * s.me + 1) + s.de
      ·have HE6 := hid (HE5.out.trans (if_pos q3))
       go_wp2
       go_ret
       exact HF.out _ _ HE6.out (hg.drewN _)
      ·have HE6 := hid (HE5.out.trans (if_neg q3))
       go_wp2
       go_ret
       exact HF.out _ _ HE6.out (hg.drewN _)
end Go.Proofs.YthblfhgofopcaaaGreat
