/-
  The walk of the reference's Place.
-/
import Derived.Test.YtjiahcfegfimmaaKnown18
import Derived.Test.YtjiahcfegfimmaaKnown07
import Derived.Deep.RegionHeld3
import Derived.Deep.RegionLaw
import Derived.Deep.QuietTactic
import Derived.BigQuiet
import Derived.Outline
namespace Go.Proofs.Ytjiahcfegfimmaa
open Go.RowKit

set_option maxRecDepth 100000 in
set_option maxHeartbeats 4000000 in
theorem rPlace_any (v : Value) (s : TSet) (k : Int) (w : World) (h : IsSet w v s) : Calls Try.prog 54 #[v, .int .i64 k] w (Gives w (.tuple #[.int .i64 (placeP s k).1, .int .i64 (placeP s k).2])) := by
  have hfin : ∀ (p : Int × Int) (a b : Int) wf, placeP s k = p → p = (a, b) → Grow w wf → Gives w (.tuple #[.int .i64 (placeP s k).1, .int .i64 (placeP s k).2]) (.returned (.tuple #[.int .i64 a, .int .i64 b])) wf := fun p a b wf h hp hg => ⟨by rw [h, hp], hg⟩
  have HF := hid hfin
  have KD := fun W (hg : Grow w W) => rKinds_any v s W (h.grow hg)
  have CH := fun W (hg : Grow w W) => rCheck_any v s W (h.grow hg)
  clear hfin
  have HI := hid h
  obtain ⟨A, c, B, d, rfl, h1, h2⟩ := h.open_
  obtain ⟨_, _, e1, c1, m1, r1⟩ := h1
  obtain ⟨_, _, e2, d1, m2, r2⟩ := h2
  injection e1 with e1 _ e1'
  injection e2 with e2 _ e2'
  subst e1 e1' e2 e2'
  unfold maxLen at m1 m2
  have HG0 := hid (show Grow w (w.alloc (.cells #[.int .i64 s.pl, .slice A s.su.length c, .int .i64 s.wi, .int .i64 s.dr, .int .i64 s.fl, .int .i64 s.co, .int .i64 s.me, .int .i64 s.de, .slice B s.re.length d] 24)) from (Grow.refl w).alloc _)
  have HB0 := hid (show Blk (w.alloc (.cells #[.int .i64 s.pl, .slice A s.su.length c, .int .i64 s.wi, .int .i64 s.dr, .int .i64 s.fl, .int .i64 s.co, .int .i64 s.me, .int .i64 s.de, .slice B s.re.length d] 24)) w.heap.size 24 (setVals s (.slice A s.su.length c) (.slice B s.re.length d)) from heap_alloc_new w _)
  clear h
  have KS := hid (fun W (hg : Grow (w.alloc (.cells #[.int .i64 s.pl, .slice A s.su.length c, .int .i64 s.wi, .int .i64 s.dr, .int .i64 s.fl, .int .i64 s.co, .int .i64 s.me, .int .i64 s.de, .slice B s.re.length d] 24)) W) => And.intro hg (set_cells (HB0.out.grow hg)))
  have HG := hid (fun W (hg : Grow (w.alloc (.cells #[.int .i64 s.pl, .slice A s.su.length c, .int .i64 s.wi, .int .i64 s.dr, .int .i64 s.fl, .int .i64 s.co, .int .i64 s.me, .int .i64 s.de, .slice B s.re.length d] 24)) W) => HG0.out.trans hg)
  by_cases hA : k < 0
  · have HE := hid (place_out (s := s) (.inl hA))
    go_enter Try.func54, Try.ntmps54
    go_wp2
    go_quiet (fail)
    go_wp2
    go_ret2
    exact HF.out _ _ _ _ HE.out rfl (HG0.out.drewN _)
  · have hA' : decide (k < 0) = false := decide_eq_false hA
    obtain ⟨z, hz⟩ : ∃ z, z = kindsI s := ⟨_, rfl⟩
    rw [← hz] at KD
    by_cases hB : IntKind.i64.wrap (z + s.fl) ≤ k
    · have HE := hid (show placeP s k = (-4, 0) by
        by_cases e : chkErr s = 0
        · have V := valid_of e
          have v1 := V.plain
          have v2 := V.fl
          have hl := allP_length s
          rw [if_pos e] at hl
          rw [hz, kinds_ok e, IntWalk.i64_in _ (by omega)] at hB
          exact place_out (.inr (by omega))
        · exact place_bad k e)
      have hB' : decide (IntKind.i64.wrap (z + s.fl) ≤ k) = true := decide_eq_true hB
      have KD := hid KD
      clear CH hz
      go_enter Try.func54, Try.ntmps54
      go_wp2
      generalize w.alloc (.cells #[.int .i64 s.pl, .slice A s.su.length c, .int .i64 s.wi, .int .i64 s.dr, .int .i64 s.fl, .int .i64 s.co, .int .i64 s.me, .int .i64 s.de, .slice B s.re.length d] 24) = wz at *
      obtain ⟨-, c0, c1, c2, c3, c4, c5, c6, c7, c8⟩ := KS.out _ (Grow.refl wz)
      go_region_law (first | (go_simp; go_at_call 41; refine (KD.out _ (HG.out _ (by first | exact Grow.refl _ | exact (Grow.refl _).drew))).mono ?_; rintro e w2 ⟨rfl, hg2⟩; have hgg := ((Grow.refl wz).drew).trans hg2; clear c0 c1 c2 c3 c4 c5 c6 c7 c8; obtain ⟨-, c0, c1, c2, c3, c4, c5, c6, c7, c8⟩ := KS.out _ hgg))
      all_goals
        go_wp2
        go_ret2
        exact HF.out _ _ _ _ HE.out rfl (HG.out _ hgg)
    · have hB' : decide (IntKind.i64.wrap (z + s.fl) ≤ k) = false := decide_eq_false hB
      by_cases e : chkErr s = 0
      · have V := valid_of e
        have v1 := V.plain
        have v2 := V.fl
        have v3 := V.wi
        have v4 := V.dr
        have v5 := V.su3
        rw [hz, kinds_ok e] at hB hB'
        rw [hz, kinds_ok e] at KD
        rw [e] at CH
        have KD := hid KD
        have CH := hid CH
        have f1 : IntKind.i64.wrap (plainI s + s.fl) = plainI s + s.fl := IntWalk.i64_in _ (by omega)
        rw [f1] at hB hB'
        have HE0 := hid e
        have HSU := hid V.su
        have HSM := hid V.sum
        have HMEM := hid (fun j r (hm : InSuit s k j r) => place_mem (mem_suit e hm))
        have HPL := hid (show plainI s = s.wi + s.dr + sumI s.su from rfl)
        clear hz e V
        go_enter Try.func54, Try.ntmps54
        go_wp2
        generalize w.alloc (.cells #[.int .i64 s.pl, .slice A s.su.length c, .int .i64 s.wi, .int .i64 s.dr, .int .i64 s.fl, .int .i64 s.co, .int .i64 s.me, .int .i64 s.de, .slice B s.re.length d] 24) = wz at *
        go_region_held3 (fun W => Grow wz W ∧ W.cell? ⟨w.heap.size, 0, none⟩ = some (.int .i64 s.pl) ∧ W.cell? ⟨w.heap.size, 1, none⟩ = some (.slice A s.su.length c) ∧ W.cell? ⟨w.heap.size, 2, none⟩ = some (.int .i64 s.wi) ∧ W.cell? ⟨w.heap.size, 3, none⟩ = some (.int .i64 s.dr) ∧ W.cell? ⟨w.heap.size, 4, none⟩ = some (.int .i64 s.fl) ∧ W.cell? ⟨w.heap.size, 5, none⟩ = some (.int .i64 s.co) ∧ W.cell? ⟨w.heap.size, 6, none⟩ = some (.int .i64 s.me) ∧ W.cell? ⟨w.heap.size, 7, none⟩ = some (.int .i64 s.de) ∧ W.cell? ⟨w.heap.size, 8, none⟩ = some (.slice B s.re.length d))
          (exact KS.out _ (by first | assumption | exact (Grow.refl _).drew))
          (first
            | (go_at_call 41; refine (KD.out _ (HG.out _ (‹Grow wz _ ∧ _›).1)).mono ?_; rintro e w2 ⟨rfl, hg2⟩; have hgg := (‹Grow wz _ ∧ _›).1.trans hg2)
            | (go_at_call 39; refine (CH.out _ (HG.out _ (‹Grow wz _ ∧ _›).1)).mono ?_; rintro e w3 ⟨rfl, hg3⟩; have hg4 := (‹Grow wz _ ∧ _›).1.trans hg3))
        all_goals
          clear f1 hB'
          have HGF := hid (HG.out _ hg4)
          obtain ⟨-, c0, c1, c2, c3, c4, c5, c6, c7, c8⟩ := KS.out _ hg4
          have HR1 := hid (r1.grow HGF.out)
          go_wp2
          go_loop [6, 7] (fun a i => ∃ j : Nat, j ≤ s.su.length ∧ i = .int .i64 (j : Int) ∧ a = .int .i64 (k - sumI (s.su.take j)) ∧ sumI (s.su.take j) ≤ k) (fun _ i => s.su.length - (intOf i).toNat)
          case atStart => exact ⟨0, Nat.zero_le _, rfl, by simp [sumI], by simp [sumI]; omega⟩
          case round =>
            obtain ⟨j, hj, rfl, rfl, hle⟩ := hrel
            have hsb := sumI_bound (l := s.su.take j) fun z hz => HSU.out z (List.mem_of_mem_take hz)
            rw [List.length_take] at hsb
            by_cases hlt : j < s.su.length
            · obtain ⟨ad, rfl, _, hx⟩ := HR1.out.int hlt
              have i0 : (0 : Int) ≤ (j : Int) := by omega
              have i1 : (j : Int) < (s.su.length : Int) := by omega
              have hz := HSU.out s.su[j] (List.getElem_mem hlt)
              have HT := hid (sumI_take s.su hlt)
              by_cases hin : k - sumI (s.su.take j) < s.su[j]
              · have HE := hid (HMEM.out j (k - sumI (s.su.take j)).toNat ⟨hlt, by omega, by omega⟩)
                have hc : (((k - sumI (s.su.take j)).toNat : Nat) : Int) = k - sumI (s.su.take j) := by omega
                rw [hc] at HE
                clear hc
                generalize sumI (s.su.take j) = S at *
                generalize s.su[j] = z at *
                go_wp2
                go_ret2
                exact HF.out _ _ _ _ HE.out rfl HGF.out
              · generalize s.su[j] = z at *
                have hS : 0 ≤ sumI (s.su.take j) ∧ sumI (s.su.take j) ≤ 27 := by omega
                have hk : k ≤ 50 := by omega
                clear hsb
                go_wp2
                exact ⟨⟨j + 1, by omega, by go_num, by rw [HT.out]; congr 1; omega, by rw [HT.out]; omega⟩, by simp only [intOf]; omega⟩
            · obtain rfl : j = s.su.length := by omega
              rw [List.take_length] at *
              have ge : ¬ (s.su.length : Int) < (s.su.length : Int) := by omega
              have hk : k ≤ 50 := by omega
              by_cases b1 : k - sumI s.su < s.wi
              · have HE := hid (place_mem (mem_wind HE0.out (s := s) (r := (k - sumI s.su).toNat) (by omega)))
                have hc : (((k - sumI s.su).toNat : Nat) : Int) = k - sumI s.su := by omega
                rw [hc, show sumI s.su + (k - sumI s.su) = k by omega] at HE
                clear hc
                generalize sumI s.su = S at *
                go_wp2
                go_ret2
                exact HF.out _ _ _ _ HE.out rfl HGF.out
              · by_cases b2 : k - sumI s.su - s.wi < s.dr
                · have HE := hid (place_mem (mem_dragon HE0.out (s := s) (r := (k - sumI s.su - s.wi).toNat) (by omega)))
                  have hc : (((k - sumI s.su - s.wi).toNat : Nat) : Int) = k - sumI s.su - s.wi := by omega
                  rw [hc, show sumI s.su + s.wi + (k - sumI s.su - s.wi) = k by omega] at HE
                  clear hc
                  generalize sumI s.su = S at *
                  go_wp2
                  go_ret2
                  exact HF.out _ _ _ _ HE.out rfl HGF.out
                · have HE := hid (place_mem (mem_flower HE0.out (s := s) (r := (k - sumI s.su - s.wi - s.dr).toNat) (by have := HPL.out; omega)))
                  have hc : (((k - sumI s.su - s.wi - s.dr).toNat : Nat) : Int) = k - sumI s.su - s.wi - s.dr := by omega
                  rw [hc, show sumI s.su + s.wi + s.dr + (k - sumI s.su - s.wi - s.dr) = k by omega] at HE
                  have HF3 : IntKind.i64.wrap (k - sumI s.su - s.wi - s.dr) = k - sumI s.su - s.wi - s.dr := IntWalk.i64_in _ (by omega)
                  clear hc
                  generalize sumI s.su = S at *
                  go_wp2
                  go_quiet (fail)
                  go_wp2
                  go_ret2
                  exact HF.out _ _ _ _ HE.out rfl (HGF.out.drewN _)
      · have HE := hid (place_bad k e)
        have ne : (chkErr s != 0) = true := by simp [e]
        have KD := hid KD
        have CH := hid CH
        clear hz e
        generalize chkErr s = n at *
        go_enter Try.func54, Try.ntmps54
        go_wp2
        generalize w.alloc (.cells #[.int .i64 s.pl, .slice A s.su.length c, .int .i64 s.wi, .int .i64 s.dr, .int .i64 s.fl, .int .i64 s.co, .int .i64 s.me, .int .i64 s.de, .slice B s.re.length d] 24) = wz at *
        go_region_held3 (fun W => Grow wz W ∧ W.cell? ⟨w.heap.size, 0, none⟩ = some (.int .i64 s.pl) ∧ W.cell? ⟨w.heap.size, 1, none⟩ = some (.slice A s.su.length c) ∧ W.cell? ⟨w.heap.size, 2, none⟩ = some (.int .i64 s.wi) ∧ W.cell? ⟨w.heap.size, 3, none⟩ = some (.int .i64 s.dr) ∧ W.cell? ⟨w.heap.size, 4, none⟩ = some (.int .i64 s.fl) ∧ W.cell? ⟨w.heap.size, 5, none⟩ = some (.int .i64 s.co) ∧ W.cell? ⟨w.heap.size, 6, none⟩ = some (.int .i64 s.me) ∧ W.cell? ⟨w.heap.size, 7, none⟩ = some (.int .i64 s.de) ∧ W.cell? ⟨w.heap.size, 8, none⟩ = some (.slice B s.re.length d))
          (exact KS.out _ (by first | assumption | exact (Grow.refl _).drew))
          (first
            | (go_at_call 41; refine (KD.out _ (HG.out _ (‹Grow wz _ ∧ _›).1)).mono ?_; rintro e w2 ⟨rfl, hg2⟩; have hgg := (‹Grow wz _ ∧ _›).1.trans hg2)
            | (go_at_call 39; refine (CH.out _ (HG.out _ (‹Grow wz _ ∧ _›).1)).mono ?_; rintro e w3 ⟨rfl, hg3⟩; have hg4 := (‹Grow wz _ ∧ _›).1.trans hg3))
        all_goals
          go_wp2
          go_ret2
          exact HF.out _ _ _ _ HE.out rfl (HG.out _ hg4)
end Go.Proofs.Ytjiahcfegfimmaa
