/-
  Swings in memory; the errors of swings, the program's and the reference's; the place of a seat.
-/
import Derived.Test.YtomgilkchlediaaIdxS
import Derived.Test.YtomgilkchlediaaNatG
import Derived.Test.YtomgilkchlediaaSrc
import Derived.Deep.QuietTactic
import Derived.BigQuiet
namespace Go.Proofs.Ytomgilkchlediaa
open Go.RowKit

/-- A swing: its weight and its points. -/
structure Sw where
  w : Int
  p : List Int

/-- The slice reads as these swings. -/
def IsSw (w : World) (v : Value) (l : List Sw) : Prop :=
  ∃ A c, v = .slice A l.length c ∧ l.length ≤ c ∧ c ≤ maxLen ∧ ∀ i, (h : i < l.length) → ∃ ad B n d, A = some ad ∧ ad.block < w.heap.size ∧ w.cell? (ad.add (i * 2)) = some (.int .i64 l[i].w) ∧ w.cell? ⟨(ad.add (i * 2)).block, (ad.add (i * 2)).off + 1, none⟩ = some (.slice B n d) ∧ IsInts w (.slice B n d) l[i].p ∧ n = l[i].p.length
theorem IsSw.grow {w w' : World} {v : Value} {l : List Sw} (h : IsSw w v l) (g : Grow w w') : IsSw w' v l := by
  obtain ⟨A, c, rfl, h1, h2, h3⟩ := h
  refine ⟨A, c, rfl, h1, h2, fun i hi => ?_⟩
  obtain ⟨ad, B, n, d, e, hb, x0, x1, hI, hn⟩ := h3 i hi
  exact ⟨ad, B, n, d, e, Nat.lt_of_lt_of_le hb g.size, g.cell_some x0, g.cell_some x1, hI.grow g, hn⟩
def farB (m z : Int) : Bool := decide (z < -m) || decide (m < z)
/-- The error of one swing. -/
def swOne (seats : Int) (s : Sw) : Int := if s.w < 1 ∨ 1000 < s.w then 2 else if (s.p.length : Int) ≠ seats then 3 else if s.p.any (farB 1000000) then 2 else 0
def swScan (seats : Int) : List Sw → Int
  | [] => 0
  | s :: l => if swOne seats s = 0 then swScan seats l else swOne seats s
def swErr (seats : Int) (l : List Sw) : Int := if l.length = 0 then 6 else if 8 < l.length then 8 else swScan seats l
theorem swScan_drop {seats : Int} {l : List Sw} {k : Nat} (h : k < l.length) : swScan seats (l.drop k) = if swOne seats l[k] = 0 then swScan seats (l.drop (k + 1)) else swOne seats l[k] := by
  rw [List.drop_eq_getElem_cons h, swScan]

theorem swings1_any (z : Int) (w : World) : Calls Try.prog 44 #[.int .i64 z] w (Same w (.bool (farB 1000000 z))) := by
  by_cases h : z < -1000000
  · rw [show farB 1000000 z = true from by simp [farB, h]]
    go_enter Try.func44, Try.ntmps44
    go_wp2
    go_ret
    exact ⟨rfl, rfl⟩
  · rw [show farB 1000000 z = decide (1000000 < z) from by simp [farB, h]]
    go_enter Try.func44, Try.ntmps44
    go_wp2
    go_ret
    exact ⟨rfl, rfl⟩
theorem ranks1_any (z : Int) (w : World) : Calls Try.prog 23 #[.int .i64 z] w (Same w (.bool (farB 1099511627776 z))) := by
  by_cases h : z < -1099511627776
  · rw [show farB 1099511627776 z = true from by simp [farB, h]]
    go_enter Try.func23, Try.ntmps23
    go_wp2
    go_ret
    exact ⟨rfl, rfl⟩
  · rw [show farB 1099511627776 z = decide (1099511627776 < z) from by simp [farB, h]]
    go_enter Try.func23, Try.ntmps23
    go_wp2
    go_ret
    exact ⟨rfl, rfl⟩
theorem anyFar_any (v : Value) (zs : List Int) (w : World) (h : IsInts w v zs) : Calls Try.prog 22 #[v, .func (.func 44) #[] #[]] w (Same w (.bool (zs.any (farB 1000000)))) := by
  obtain ⟨A, c, rfl, hc, hm, hr⟩ := h
  exact contains_swings A c zs (farB 1000000) w hc hm hr (fun z _ => swings1_any z w)
theorem anyOut_any (v : Value) (zs : List Int) (w : World) (h : IsInts w v zs) : Calls Try.prog 22 #[v, .func (.func 23) #[] #[]] w (Same w (.bool (zs.any (farB 1099511627776)))) := by
  obtain ⟨A, c, rfl, hc, hm, hr⟩ := h
  exact contains_ranks A c zs (farB 1099511627776) w hc hm hr (fun z _ => ranks1_any z w)

set_option maxRecDepth 100000 in
set_option maxHeartbeats 4000000 in
theorem swings_any (v : Value) (l : List Sw) (n : Nat) (w : World) (h : IsSw w v l) : Calls Try.prog 24 #[v, .int .i64 (n : Int)] w (Gives w (.int .i64 (swErr n l))) := by
  have hfin : ∀ r wf, swErr n l = r → Grow w wf → Gives w (.int .i64 (swErr n l)) (.returned (.int .i64 r)) wf := fun r wf h hg => ⟨by rw [h], hg⟩
  have HF := hid hfin
  clear hfin
  obtain ⟨A, c, rfl, h1, h2, h3⟩ := h
  unfold maxLen at h2
  have H3 := hid h3
  clear h3
  by_cases l0 : l.length = 0
  · have HE := hid (show swErr n l = 6 by unfold swErr; rw [if_pos l0])
    rw [l0]
    go_enter Try.func24, Try.ntmps24
    go_wp2
    go_ret
    exact HF.out _ _ HE.out (Grow.refl _)
  · by_cases l8 : 8 < l.length
    · have HE := hid (show swErr n l = 8 by unfold swErr; rw [if_neg l0, if_pos l8])
      have e0 : ((l.length : Int) == 0) = false := by simp; exact fun h => l0 (by rw [h]; rfl)
      have e8 : (8 : Int) < (l.length : Int) := by omega
      clear l0 l8
      go_enter Try.func24, Try.ntmps24
      go_wp2
      go_ret
      exact HF.out _ _ HE.out (Grow.refl _)
    · have HE := hid (show swErr n l = swScan n l by unfold swErr; rw [if_neg l0, if_neg l8])
      have e0 : ((l.length : Int) == 0) = false := by simp; exact fun h => l0 (by rw [h]; rfl)
      have e8 : ¬ (8 : Int) < (l.length : Int) := by omega
      clear l0 l8
      go_enter Try.func24, Try.ntmps24
      go_wp2
      go_loopw [17] (fun i wr => ∃ k : Nat, k ≤ l.length ∧ i = .int .i64 (k : Int) ∧ swErr n l = swScan n (l.drop k) ∧ Grow w wr) (fun i _ => l.length - (intOf i).toNat)
      case atStart => exact ⟨0, Nat.zero_le _, rfl, HE.out, Grow.refl _⟩
      case round =>
        obtain ⟨k, hk, rfl, her, hgr⟩ := hrel
        have HER := hid her
        clear her
        by_cases hlt : k < l.length
        · obtain ⟨ad, B, m, d, rfl, hb, x0, x1, hI, hm⟩ := H3.out k hlt
          have x0 := hgr.cell_some x0
          have x1 := hgr.cell_some x1
          have i0 : (0 : Int) ≤ (k : Int) := by omega
          have i1 : (k : Int) < (l.length : Int) := by omega
          have HE1 := hid (HER.out.trans (swScan_drop hlt))
          have hI := hI.grow hgr
          have hg2 : Grow w (wr.alloc (.cells #[.int .i64 l[k].w, .slice B m d] 26)) := hgr.alloc _
          have AF := hid (anyFar_any _ _ (wr.alloc (.cells #[.int .i64 l[k].w, .slice B m d] 26)) (hI.grow ((Grow.refl _).alloc _)))
          have HM := hid hm
          have SO : swOne n l[k] = if l[k].w < 1 ∨ 1000 < l[k].w then 2 else if (l[k].p.length : Int) ≠ n then 3 else if l[k].p.any (farB 1000000) then 2 else 0 := rfl
          rw [← hm] at SO
          have SO := hid SO
          clear hm hI
          generalize l[k].w = ww at *
          generalize l[k].p = pp at *
          generalize pp.any (farB 1000000) = bb at *
          by_cases c1 : ww < 1
          · have HR := hid (show swOne n l[k] = 2 by rw [SO.out, if_pos (.inl c1)])
            go_wp2
            go_ret
            exact HF.out _ _ (by rw [HE1.out, HR.out, if_neg (by decide)]) hg2
          · by_cases c2 : 1000 < ww
            · have HR := hid (show swOne n l[k] = 2 by rw [SO.out, if_pos (.inr c2)])
              go_wp2
              go_ret
              exact HF.out _ _ (by rw [HE1.out, HR.out, if_neg (by decide)]) hg2
            · by_cases c3 : m = n
              · have c3' : ((m : Int) != (n : Int)) = false := by simp [c3]
                have c4 : ¬ ((m : Int) ≠ (n : Int)) := by simp [c3]
                cases bb
                · have HR := hid (show swOne n l[k] = 0 by rw [SO.out, if_neg (by omega), if_neg c4, if_neg (by decide)])
                  clear c3 c4
                  go_wp2_with (go_at_call 22; refine AF.out.mono ?_; rintro e w' ⟨rfl, rfl⟩)
                  exact ⟨⟨k + 1, by omega, by go_num, by rw [HE1.out, HR.out, if_pos rfl], hg2⟩, by simp only [intOf]; omega⟩
                · have HR := hid (show swOne n l[k] = 2 by rw [SO.out, if_neg (by omega), if_neg c4, if_pos rfl])
                  clear c3 c4
                  go_wp2_with (go_at_call 22; refine AF.out.mono ?_; rintro e w' ⟨rfl, rfl⟩)
                  go_ret
                  exact HF.out _ _ (by rw [HE1.out, HR.out, if_neg (by decide)]) hg2
              · have c3' : ((m : Int) != (n : Int)) = true := by simp; omega
                have c4 : ((m : Int) ≠ (n : Int)) := by omega
                have HR := hid (show swOne n l[k] = 3 by rw [SO.out, if_neg (by omega), if_pos c4])
                clear c3 c4
                go_wp2
                go_ret
                exact HF.out _ _ (by rw [HE1.out, HR.out, if_neg (by decide)]) hg2
        · obtain rfl : k = l.length := by omega
          go_wp2
          go_ret
          exact HF.out _ _ (by rw [HER.out, List.drop_length, swScan]) hgr
end Go.Proofs.Ytomgilkchlediaa
