/-
  Walks of the reference's checkSwings and place.
-/
import Derived.Test.YtomgilkchlediaaSw
namespace Go.Proofs.Ytomgilkchlediaa
open Go.RowKit

set_option maxRecDepth 100000 in
set_option maxHeartbeats 4000000 in
theorem rSwings_any (v : Value) (l : List Sw) (n : Nat) (w : World) (h : IsSw w v l) (hn : n ≤ 1000) : Calls Try.prog 30 #[v, .int .i64 (n : Int)] w (Gives w (.int .i64 (swErr n l))) := by
  have hfin : ∀ r wf, swErr n l = r → Grow w wf → Gives w (.int .i64 (swErr n l)) (.returned (.int .i64 r)) wf := fun r wf h hg => ⟨by rw [h], hg⟩
  have HF := hid hfin
  clear hfin
  obtain ⟨A, c, rfl, h1, h2, h3⟩ := h
  unfold maxLen at h2
  have H3 := hid h3
  clear h3
  by_cases l0 : l.length = 0
  · have HE := hid (show swErr n l = 6 by unfold swErr; rw [if_pos l0])
    rw [l0]
    go_enter Try.func30, Try.ntmps30
    go_wp2
    go_ret
    exact HF.out _ _ HE.out (Grow.refl _)
  · by_cases l8 : 8 < l.length
    · have HE := hid (show swErr n l = 8 by unfold swErr; rw [if_neg l0, if_pos l8])
      have e0 : ((l.length : Int) == 0) = false := by simp; exact fun h => l0 (by rw [h]; rfl)
      have e8 : (8 : Int) < (l.length : Int) := by omega
      clear l0 l8
      go_enter Try.func30, Try.ntmps30
      go_wp2
      go_ret
      exact HF.out _ _ HE.out (Grow.refl _)
    · have HE := hid (show swErr n l = swScan n l by unfold swErr; rw [if_neg l0, if_neg l8])
      have e0 : ((l.length : Int) == 0) = false := by simp; exact fun h => l0 (by rw [h]; rfl)
      have e8 : ¬ (8 : Int) < (l.length : Int) := by omega
      clear l0 l8
      go_enter Try.func30, Try.ntmps30
      go_wp2
      go_loopw [5] (fun i wr => ∃ k : Nat, k ≤ l.length ∧ i = .int .i64 (k : Int) ∧ swErr n l = swScan n (l.drop k) ∧ Grow w wr) (fun i _ => l.length - (intOf i).toNat)
      case atStart => exact ⟨0, Nat.zero_le _, rfl, HE.out, Grow.refl _⟩
      case round =>
        obtain ⟨k, hk, rfl, her, hgr⟩ := hrel
        have HER := hid her
        clear her
        by_cases hlt : k < l.length
        · obtain ⟨ad, B, m, d, rfl, hb, x0, x1, hI, hm⟩ := H3.out k hlt
          have x0 := hgr.cell_some x0
          have x1 := hgr.cell_some x1
          have i0 : (0 : Int) ≤ (k : Int) := by omega
          have i1 : (k : Int) < (l.length : Int) := by omega
          have HE1 := hid (HER.out.trans (swScan_drop hlt))
          have hI := hI.grow hgr
          have SO : swOne n l[k] = if l[k].w < 1 ∨ 1000 < l[k].w then 2 else if (l[k].p.length : Int) ≠ n then 3 else if l[k].p.any (farB 1000000) then 2 else 0 := rfl
          rw [← hm] at SO
          have SO := hid SO
          have HM := hid hm
          have HG := hid hgr
          generalize l[k].w = ww at *
          generalize l[k].p = pp at *
          by_cases c1 : ww < 1
          · have HR := hid (show swOne n l[k] = 2 by rw [SO.out, if_pos (.inl c1)])
            clear hm hI
            go_wp2
            go_ret
            exact HF.out _ _ (by rw [HE1.out, HR.out, if_neg (by decide)]) hgr
          · by_cases c2 : 1000 < ww
            · have HR := hid (show swOne n l[k] = 2 by rw [SO.out, if_pos (.inr c2)])
              clear hm hI
              go_wp2
              go_ret
              exact HF.out _ _ (by rw [HE1.out, HR.out, if_neg (by decide)]) hgr
            · by_cases c3 : m = n
              · have c3' : ((m : Int) != (n : Int)) = false := by simp [c3]
                have c4 : ¬ ((m : Int) ≠ (n : Int)) := by simp [c3]
                have SO2 := hid (show swOne n l[k] = if pp.any (farB 1000000) then 2 else 0 by rw [SO.out, if_neg (by omega), if_neg c4])
                have HMN := hid (c3.symm.trans hm)
                obtain ⟨_, _, e, hd, hmx, hrd⟩ := hI
                injection e with e1 _ e2
                subst e1 e2
                have HRD := hid (And.intro hrd (And.intro hd hmx))
                have HC3 := hid c3
                clear c3 c4 hm hrd hd hmx
                go_wp2
                go_loopw [6] (fun i wr' => ∃ j : Nat, j ≤ n ∧ i = .int .i64 (j : Int) ∧ (∀ (q : Nat) (h : q < pp.length), q < j → farB 1000000 pp[q] = false) ∧ Grow wr wr') (fun i _ => n - (intOf i).toNat)
                case atStart => exact ⟨0, Nat.zero_le _, rfl, fun q h hq => by omega, Grow.refl _⟩
                case round =>
                  obtain ⟨j, hj, rfl, hall, hgj⟩ := hrel
                  have HA := hid hall
                  clear hall
                  have x0 := hgj.cell_some x0
                  have x1 := hgj.cell_some x1
                  by_cases hjn : j < n
                  · have hjp : j < pp.length := by rw [← HMN.out]; exact hjn
                    obtain ⟨ad2, rfl, hb2, y⟩ := HRD.out.1.int hjp
                    have y := hgj.cell_some y
                    have j0 : (0 : Int) ≤ (j : Int) := by omega
                    have j1 : (j : Int) < (m : Int) := by have := HC3.out; omega
                    have FB := hid (show farB 1000000 pp[j] = (decide (pp[j] < -1000000) || decide (1000000 < pp[j])) from rfl)
                    have MEM := hid (List.getElem_mem hjp)
                    have HPJ := hid (fun (q : Nat) (h : q < pp.length) (hq : q < j + 1) (hf : farB 1000000 pp[j] = false) => (show farB 1000000 pp[q] = false from by
                      by_cases e : q = j
                      · subst e; exact hf
                      · exact HA.out q h (by omega)))
                    have BAD := hid (fun (hf : farB 1000000 pp[j] = true) => (show swOne n l[k] = 2 by rw [SO2.out, if_pos (List.any_eq_true.2 ⟨_, MEM.out, hf⟩)]))
                    generalize pp[j] = z at *
                    by_cases d1 : z < -1000000
                    · have HR := hid (BAD.out (by rw [FB.out]; simp [d1]))
                      go_wp2
                      go_ret
                      exact HF.out _ _ (by rw [HE1.out, HR.out, if_neg (by decide)]) (hgr.trans hgj)
                    · by_cases d2 : 1000000 < z
                      · have HR := hid (BAD.out (by rw [FB.out]; simp [d2]))
                        go_wp2
                        go_ret
                        exact HF.out _ _ (by rw [HE1.out, HR.out, if_neg (by decide)]) (hgr.trans hgj)
                      · have HOK := hid (show farB 1000000 z = false by rw [FB.out]; simp [d1, d2])
                        go_wp2
                        exact ⟨⟨j + 1, by omega, by go_num, fun q h hq => HPJ.out q h hq HOK.out, hgj⟩, by simp only [intOf]; omega⟩
                  · obtain rfl : j = n := by omega
                    have HR := hid (show swOne j l[k] = 0 by
                      rw [SO2.out, if_neg]
                      rw [Bool.not_eq_true, List.any_eq_false]
                      intro z hz
                      obtain ⟨q, hq, rfl⟩ := List.getElem_of_mem hz
                      rw [HA.out q hq (by rw [HMN.out]; exact hq)]
                      decide)
                    go_wp2
                    exact ⟨⟨k + 1, by omega, by go_num, by rw [HE1.out, HR.out, if_pos rfl], hgr.trans hgj⟩, by simp only [intOf]; omega⟩
              · have c3' : ((m : Int) != (n : Int)) = true := by simp; omega
                have c4 : ((m : Int) ≠ (n : Int)) := by omega
                have HR := hid (show swOne n l[k] = 3 by rw [SO.out, if_neg (by omega), if_pos c4])
                clear c3 c4 hm hI
                go_wp2
                go_ret
                exact HF.out _ _ (by rw [HE1.out, HR.out, if_neg (by decide)]) hgr
        · obtain rfl : k = l.length := by omega
          go_wp2
          go_ret
          exact HF.out _ _ (by rw [HER.out, List.drop_length, swScan]) hgr

/-- Whether a seat is before another one. -/
def aheadB (pts : List Int) (seat k : Nat) : Bool := decide (dg pts seat < dg pts k) || (decide (dg pts k = dg pts seat) && decide (k < seat))
def placeTo (pts : List Int) (seat k : Nat) : Nat := ((List.range k).filter (aheadB pts seat)).length
theorem placeTo_succ (pts : List Int) (seat k : Nat) : placeTo pts seat (k + 1) = placeTo pts seat k + if aheadB pts seat k then 1 else 0 := by
  unfold placeTo
  rw [List.range_succ, List.filter_append, List.length_append]
  by_cases h : aheadB pts seat k = true
  · simp [h]
  · simp [h]
theorem placeTo_le (pts : List Int) (seat k : Nat) : placeTo pts seat k ≤ k := by
  induction k with
  | zero => simp [placeTo]
  | succ k ih => rw [placeTo_succ]; split <;> omega
/-- The place of a seat. -/
def placeN (pts : List Int) (seat : Nat) : Nat := placeTo pts seat pts.length
set_option maxRecDepth 100000 in
set_option maxHeartbeats 4000000 in
theorem place_any (v : Value) (pts : List Int) (seat : Nat) (w : World) (h : IsInts w v pts) (hs : seat < pts.length) (hl : pts.length ≤ 1000) : Calls Try.prog 48 #[v, .int .i64 (seat : Int)] w (Says w (.int .i64 (placeN pts seat : Int))) := by
  obtain ⟨A, c, rfl, h1, h2, h3⟩ := h
  unfold maxLen at h2
  obtain ⟨ad, rfl, hb, y⟩ := h3.int hs
  have s0 : (0 : Int) ≤ (seat : Int) := by omega
  have s1 : (seat : Int) < (pts.length : Int) := by omega
  have HDS := hid (show dg pts seat = pts[seat] by unfold dg; rw [dif_pos hs])
  have HR := hid h3
  clear h3
  go_enter Try.func48, Try.ntmps48
  go_wp2
  go_loopw [5, 6] (fun n i wr => ∃ k : Nat, k ≤ pts.length ∧ i = .int .i64 (k : Int) ∧ n = .int .i64 (placeTo pts seat k : Int) ∧ ∃ q, wr = w.drewN q) (fun _ i _ => pts.length - (intOf i).toNat)
  case atStart => exact ⟨0, Nat.zero_le _, rfl, rfl, 0, rfl⟩
  case round =>
    obtain ⟨k, hk, rfl, rfl, q, rfl⟩ := hrel
    by_cases hlt : k < pts.length
    · obtain ⟨ad', e, hb', y'⟩ := HR.out.int hlt
      obtain rfl := Option.some.inj e
      have i0 : (0 : Int) ≤ (k : Int) := by omega
      have i1 : (k : Int) < (pts.length : Int) := by omega
      have HDK := hid (show dg pts k = pts[k] by unfold dg; rw [dif_pos hlt])
      have PS := hid (placeTo_succ pts seat k)
      have PL := placeTo_le pts seat k
      have HB := hid (show aheadB pts seat k = (decide (dg pts seat < dg pts k) || (decide (dg pts k = dg pts seat) && decide (k < seat))) from rfl)
      generalize hpt : placeTo pts seat k = pt at *
      have w1 : IntKind.i64.wrap ((pt : Int) + 1) = (pt : Int) + 1 := IntWalk.i64_in _ (by omega)
      have HPT := hid hpt
      clear hpt
      generalize hxs : pts[seat] = xs at *
      generalize hxk : pts[k] = xk at *
      have HX := hid (And.intro hxs hxk)
      clear hxs hxk
      by_cases c1 : xs < xk
      · have HT := hid (show aheadB pts seat k = true by rw [HB.out, HDS.out, HDK.out]; simp [c1])
        go_wp2
        go_quiet (fail)
        go_wp2
        exact ⟨⟨k + 1, by omega, by go_num, by rw [PS.out, HT.out]; simp, _, rfl⟩, by simp only [intOf]; omega⟩
      · by_cases c2 : xk = xs
        · by_cases c3 : k < seat
          · have HT := hid (show aheadB pts seat k = true by rw [HB.out, HDS.out, HDK.out]; simp [c2, c3])
            have c2' : (xk == xs) = true := by simp [c2]
            have c3' : (k : Int) < (seat : Int) := by omega
            clear c2
            go_wp2
            go_quiet (fail)
            go_wp2
            exact ⟨⟨k + 1, by omega, by go_num, by rw [PS.out, HT.out]; simp, _, rfl⟩, by simp only [intOf]; omega⟩
          · have HT := hid (show aheadB pts seat k = false by rw [HB.out, HDS.out, HDK.out]; simp [c2]; omega)
            have c2' : (xk == xs) = true := by simp [c2]
            have c3' : ¬ (k : Int) < (seat : Int) := by omega
            clear c2
            go_wp2
            go_quiet (fail)
            go_wp2
            exact ⟨⟨k + 1, by omega, by go_num, by rw [PS.out, HT.out]; simp, _, rfl⟩, by simp only [intOf]; omega⟩
        · have HT := hid (show aheadB pts seat k = false by rw [HB.out, HDS.out, HDK.out]; simp [c2]; omega)
          have c2' : (xk == xs) = false := by simp [c2]
          clear c2
          go_wp2
          go_quiet (fail)
          go_wp2
          exact ⟨⟨k + 1, by omega, by go_num, by rw [PS.out, HT.out]; simp, _, rfl⟩, by simp only [intOf]; omega⟩
    · obtain rfl : k = pts.length := by omega
      go_wp2
      go_ret
      exact ⟨rfl, q, rfl⟩
end Go.Proofs.Ytomgilkchlediaa
