/-
  The walk of the reference's Ranks.
-/
import Derived.Test.YtomgilkchlediaaTabM
namespace Go.Proofs.Ytomgilkchlediaa
open Go.RowKit

theorem cap_start {d : Nat} (h : d ≤ 4) : (1 : Int) * capW d ≤ cap50 := by
  rcases (show d = 0 ∨ d = 1 ∨ d = 2 ∨ d = 3 ∨ d = 4 by omega) with rfl | rfl | rfl | rfl | rfl <;> decide +kernel
theorem CIn.start {w0 w : World} {n d : Nat} {pts : List Int} {P : Nat} {Q : Nat → Nat} (hg : Grow w0 w) (hl : pts.length = n) (hp : pts.any (farB 1099511627776) = false) (hd : d ≤ 4) (ht : TabAt w P n Q (fun _ _ => 0)) : CIn w0 w n d pts 1 P Q (fun _ _ => 0) := by
  have hc := cap_start hd
  refine ⟨hg, hl, fun z hz => ?_, ⟨by decide, hc⟩, fun i j _ _ => ⟨Int.le_refl _, by simpa using hc⟩, ht⟩
  have := far_false hp z hz
  omega

set_option maxRecDepth 100000 in
set_option maxHeartbeats 8000000 in
theorem rRanks_any (v vl : Value) (pts : List Int) (l : List Sw) (d : Int) (w : World) (h : IsInts w v pts) (hl : IsSw w vl l) : Calls Try.prog 11 #[v, vl, .int .i64 d] w (RankRes w pts l d) := by
  have hfin : ∀ r wf, rankErr pts l d = r → r ≠ 0 → Grow w wf → RankRes w pts l d (.returned (.tuple #[.slice none 0 0, .slice none 0 0, .int .i64 r])) wf := fun r wf h hne hg => .inl ⟨by rw [h]; exact hne, by rw [h], hg⟩
  have HF := hid hfin
  clear hfin
  have HSW := hid (fun W (hg : Grow w W) (hn : pts.length ≤ 1000) => rSwings_any vl l pts.length W (hl.grow hg) hn)
  have HV := hid h
  have HLS := hid hl
  obtain ⟨A, c, rfl, h1, h2, h3⟩ := h
  obtain ⟨AL, cL, rfl, hl1, hl2, hl3⟩ := hl
  unfold maxLen at h2 hl2
  have HR := hid h3
  clear h3 hl3
  by_cases l0 : pts.length = 0
  · have HE := hid (show rankErr pts l d = 6 by unfold rankErr; rw [if_pos l0])
    rw [l0]
    go_enter Try.func11, Try.ntmps11
    go_wp2
    refine bodyPost_ret (results_tmp3 rfl _ _ _) rfl ?_
    exact HF.out _ _ HE.out (by decide) (Grow.refl _)
  · by_cases l4 : 4 < pts.length
    · have HE := hid (show rankErr pts l d = 8 by unfold rankErr; rw [if_neg l0, if_pos l4])
      have e0 : ((pts.length : Int) == 0) = false := by simp; exact fun h => l0 (by rw [h]; rfl)
      have e4 : (4 : Int) < (pts.length : Int) := by omega
      clear l0 l4
      go_enter Try.func11, Try.ntmps11
      go_wp2
      refine bodyPost_ret (results_tmp3 rfl _ _ _) rfl ?_
      exact HF.out _ _ HE.out (by decide) (Grow.refl _)
    · have e0 : ((pts.length : Int) == 0) = false := by simp; exact fun h => l0 (by rw [h]; rfl)
      have e4 : ¬ (4 : Int) < (pts.length : Int) := by omega
      have HE := hid (show rankErr pts l d = if pts.any (farB 1099511627776) then 2 else if swErr pts.length l ≠ 0 then swErr pts.length l else if d < 0 ∨ 4 < d then 2 else 0 by unfold rankErr; rw [if_neg l0, if_neg l4])
      have HL0 := hid (And.intro l0 l4)
      clear l0 l4
      go_enter Try.func11, Try.ntmps11
      go_wp2
      go_loopw [9] (fun i wr => ∃ k : Nat, k ≤ pts.length ∧ i = .int .i64 (k : Int) ∧ (∀ (q : Nat) (h : q < pts.length), q < k → farB 1099511627776 pts[q] = false) ∧ wr = w) (fun i _ => pts.length - (intOf i).toNat)
      case atStart => exact ⟨0, Nat.zero_le _, rfl, fun q h hq => by omega, rfl⟩
      case round =>
        obtain ⟨k, hk, rfl, hall, rfl⟩ := hrel
        have HA := hid hall
        clear hall
        by_cases hlt : k < pts.length
        · obtain ⟨ad, rfl, hb, y⟩ := HR.out.int hlt
          have i0 : (0 : Int) ≤ (k : Int) := by omega
          have i1 : (k : Int) < (pts.length : Int) := by omega
          have FB := hid (show farB 1099511627776 pts[k] = (decide (pts[k] < -1099511627776) || decide (1099511627776 < pts[k])) from rfl)
          have BAD := hid (fun (hf : farB 1099511627776 pts[k] = true) => (show rankErr pts l d = 2 by rw [HE.out, if_pos (List.any_eq_true.2 ⟨_, List.getElem_mem hlt, hf⟩)]))
          have GOOD := hid (fun (q : Nat) (h : q < pts.length) (hq : q < k + 1) (hf : farB 1099511627776 pts[k] = false) => (show farB 1099511627776 pts[q] = false from by
            by_cases e : q = k
            · subst e; exact hf
            · exact HA.out q h (by omega)))
          generalize pts[k] = z at *
          by_cases d1 : z < -1099511627776
          · have HX := hid (BAD.out (by rw [FB.out]; simp [d1]))
            go_wp2
            refine bodyPost_ret (results_tmp3 rfl _ _ _) rfl ?_
            exact HF.out _ _ HX.out (by decide) (Grow.refl _)
          · by_cases d2 : 1099511627776 < z
            · have HX := hid (BAD.out (by rw [FB.out]; simp [d2]))
              go_wp2
              refine bodyPost_ret (results_tmp3 rfl _ _ _) rfl ?_
              exact HF.out _ _ HX.out (by decide) (Grow.refl _)
            · have HOK := hid (show farB 1099511627776 z = false by rw [FB.out]; simp [d1, d2])
              go_wp2
              exact ⟨⟨k + 1, by omega, by go_num, fun q h hq => GOOD.out q h hq HOK.out, trivial⟩, by simp only [intOf]; omega⟩
        · obtain rfl : k = pts.length := by omega
          have HANY := hid (show pts.any (farB 1099511627776) = false by
            rw [List.any_eq_false]
            intro z hz
            obtain ⟨q, hq, rfl⟩ := List.getElem_of_mem hz
            rw [HA.out q hq hq]
            decide)
          have HE2 := hid (show rankErr pts l d = if swErr pts.length l ≠ 0 then swErr pts.length l else if d < 0 ∨ 4 < d then 2 else 0 by rw [HE.out, HANY.out]; rfl)
          have SWC := HSW.out wr (Grow.refl _) (by have := HL0.out; omega)
          by_cases hsw : swErr pts.length l = 0
          · have HSO := hid (sw_ok hsw)
            have HE3 := hid (show rankErr pts l d = if d < 0 ∨ 4 < d then 2 else 0 by rw [HE2.out, if_neg (by simpa using hsw)])
            rw [hsw] at SWC
            have SWC := hid SWC
            clear hsw
            by_cases hd1 : d < 0
            · have HX := hid (show rankErr pts l d = 2 by rw [HE3.out, if_pos (.inl hd1)])
              go_wp2_with (go_at_call 30; refine SWC.out.mono ?_; rintro e w1 ⟨rfl, hg1⟩)
              refine bodyPost_ret (results_tmp3 rfl _ _ _) rfl ?_
              exact HF.out _ _ HX.out (by decide) hg1
            · by_cases hd2 : 4 < d
              · have HX := hid (show rankErr pts l d = 2 by rw [HE3.out, if_pos (.inr hd2)])
                go_wp2_with (go_at_call 30; refine SWC.out.mono ?_; rintro e w1 ⟨rfl, hg1⟩)
                refine bodyPost_ret (results_tmp3 rfl _ _ _) rfl ?_
                exact HF.out _ _ HX.out (by decide) hg1
              · have HX := hid (show rankErr pts l d = 0 by rw [HE3.out, if_neg (by omega)])
                obtain ⟨D, rfl⟩ := Int.eq_ofNat_of_zero_le (show 0 ≤ d by omega)
                have hD4 : D ≤ 4 := by omega
                have hn4 : pts.length ≤ 4 := by have := HL0.out; omega
                have hn0 : 0 < pts.length := by have := HL0.out; omega
                go_wp2_with (first
                  | (go_at_call 30; refine SWC.out.mono ?_; rintro e w1 ⟨rfl, hg1⟩)
                  | (at_make; refine wpList_make_blk wr _ rfl (.tmp 52) (.tmp 52) _ rfl 43 (.slice none 0 0) 24 Try.underlying34 infoNats rfl _ _ _ _ pts.length rfl rfl (by omega) (by omega) (by omega) (by omega) hg1 ?_; intro P w4 bP hPw hPw1 hg4 hg4'))
                have T0 := hid (TabTo.start (b := wr.heap.size) bP)
                have G4 := hid hg4
                obtain ⟨wo, rfl⟩ : ∃ x, x = wr := ⟨_, rfl⟩
                clear bP hg4 hg4' hPw1 hg1
                go_loopw [12] (fun i wr => ∃ (k : Nat) (Q : Nat → Nat), k ≤ pts.length ∧ i = .int .i64 (k : Int) ∧ TabTo wo.heap.size wr P pts.length k Q ∧ Grow wo wr) (fun i _ => pts.length - (intOf i).toNat)
                case atStart => exact ⟨0, _, Nat.zero_le _, rfl, T0.out, G4.out⟩
                case round =>
                  obtain ⟨k, Q, hk, rfl, htk, hgk⟩ := hrel
                  have HTK := hid htk
                  have HGK := hid hgk
                  by_cases hlt : k < pts.length
                  · have i0 : (0 : Int) ≤ (k : Int) := by omega
                    have i1 : (k : Int) < (pts.length : Int) := by omega
                    have hrow : wr.cell? ⟨P, k, none⟩ = some (.slice none 0 0) := by rw [htk.rows.cell]; simp [rowsQ, hlt]
                    have hfr : wr.frozen? ⟨P, k, none⟩ = false := htk.rows.free k
                    have HPL := hid htk.rows.lt
                    have HF0 := hid hfr
                    clear htk hgk hfr
                    go_wp2_with (at_make; refine wpList_make_blk wo _ rfl (.tmp 63) (.tmp 63) _ rfl 35 (.slice none 0 0) 24 Try.underlying43 infoNat rfl _ _ _ _ pts.length rfl rfl (by omega) (by omega) (by omega) (by omega) HGK.out ?_; intro g w5 bg hgw hgw1 hg5 hg5'; have hrow5 := hg5'.cell_some hrow; have hf5 : w5.frozen? ⟨P, k, none⟩ = false := (hg5'.frozen (p := ⟨P, k, none⟩) HPL.out).trans HF0.out)
                    exact ⟨⟨k + 1, _, by omega, by go_num, HTK.out.step hlt hg5' bg hgw1 hgw, hg5.set (p := ⟨P, k, none⟩) hPw _⟩, by simp only [intOf]; omega⟩
                  · obtain rfl : k = pts.length := by omega
                    have HT := hid htk.done
                    have HO := hid (fun i hi => htk.old i hi)
                    have CT := hid (fun W ww (hg : Grow wr W) (hw : IsNatF W ww 1) => count_any pts.length l HSO.out wo _ HLS.out P Q hn0 (by omega) HO.out D (by omega) _ ww pts 1 (fun _ _ => 0) W (Seen.of_old HV.out) hw (CIn.start (HGK.out.trans hg) rfl HANY.out hD4 (HT.out.grow hg)))
                    clear htk hgk
                    go_wp2_with (first
                      | (go_at_call 32; refine (nat_any 1 _ (by decide) (by decide)).mono ?_; rintro e w6 ⟨v6, rfl, k6, g6⟩; obtain ⟨A6, m6, c6, rfl⟩ := k6.open_)
                      | (go_at_call 31; refine (CT.out _ _ g6 k6).mono ?_; rintro e w7 ⟨A7, m7, c7, rfl, k7, g7, nk7, t7⟩))
                    refine bodyPost_ret (results_tmp3 rfl _ _ _) rfl ?_
                    exact .inr ⟨HX.out, P, Q, A7, m7, c7, rfl, by rw [Int.one_mul] at k7; exact k7, t7.congr fun i j => by rw [Int.one_mul, Int.zero_add]; rfl, g7⟩
          · have HX := hid (show rankErr pts l d = swErr pts.length l by rw [HE2.out, if_pos hsw])
            have hswb : (swErr pts.length l != 0) = true := by simp [hsw]
            have HSN := hid hsw
            generalize swErr pts.length l = er at *
            have SWC := hid SWC
            clear hsw
            go_wp2_with (go_at_call 30; refine SWC.out.mono ?_; rintro e w1 ⟨rfl, hg1⟩)
            refine bodyPost_ret (results_tmp3 rfl _ _ _) rfl ?_
            exact HF.out _ _ HX.out HSN.out hg1
end Go.Proofs.Ytomgilkchlediaa
