/-
  The walk of Ranks.
-/
import Derived.Test.YtomgilkchlediaaRanksT
import Derived.Test.YtomgilkchlediaaLast
import Derived.Test.YtomgilkchlediaaRRanks
namespace Go.Proofs.Ytomgilkchlediaa
open Go.RowKit Go.Maps Go.ChangeMaps

theorem wpList_copy_at {ops : Array Oper} {rest : List Oper} {o : Oper} {a : Act} {Q : Exit → Act → World → Prop} {w w' : World} {t t' : TypeId} {v xv v' : Value} {ty : TypeId} (hr : (Builtin.copy_ #[t, t'] ty #[v, xv]).run Try.prog w = .ok v' w') (s x : Operand) (hgd : o.guard = none) (hty : o.type = ty)
    (ho : o.op = .call { callee := .builtin .copy, args := #[s, x], argTypes := #[t, t'] }) (hsx : a.eval s = v ∧ a.eval x = xv) (h : wpList Try.prog ops Q rest (a.put o.dst v') w') : wpList Try.prog ops Q (o :: rest) a w := by
  subst hty
  obtain ⟨hs, hx⟩ := hsx
  refine wpList_plain hgd fun K hK => ?_
  unfold Oper.wp execOp
  simp only [ho, resolve, invoke, builtin, Sem.run_bind, Sem.run_pure, Result.andThen_ok, List.map_toArray, List.map_cons, List.map_nil, hs, hx, hr]
  exact hK _ _ h

set_option maxRecDepth 100000 in
set_option maxHeartbeats 16000000 in
theorem Ranks_any (v vl : Value) (pts : List Int) (l : List Sw) (d : Int) (w : World) (h : IsInts w v pts) (hl : IsSw w vl l) : Calls Try.prog 10 #[v, vl, .int .i64 d] w (RankRes w pts l d) := by
  have hfin : ∀ r wf, rankErr pts l d = r → r ≠ 0 → Grow w wf → RankRes w pts l d (.returned (.tuple #[.slice none 0 0, .slice none 0 0, .int .i64 r])) wf := fun r wf h hne hg => .inl ⟨by rw [h]; exact hne, by rw [h], hg⟩
  have HF := hid hfin
  clear hfin
  have HSW := hid (fun W (hg : Grow w W) => swings_any vl l pts.length W (hl.grow hg))
  have HAO := hid (anyOut_any v pts w h)
  have HV := hid h
  have HLS := hid hl
  obtain ⟨A, c, rfl, h1, h2, h3⟩ := h
  obtain ⟨AL, cL, rfl, hl1, hl2, hl3⟩ := hl
  unfold maxLen at h2 hl2
  have HR := hid h3
  have HL := hid hl3
  clear h3 hl3
  by_cases l0 : pts.length = 0
  · have HE := hid (show rankErr pts l d = 6 by unfold rankErr; rw [if_pos l0])
    rw [l0]
    go_enter Try.func10, Try.ntmps10
    go_wp2
    refine bodyPost_ret (results_tmp3 rfl _ _ _) rfl ?_
    exact HF.out _ _ HE.out (by decide) (Grow.refl _)
  · by_cases l4 : 4 < pts.length
    · have HE := hid (show rankErr pts l d = 8 by unfold rankErr; rw [if_neg l0, if_pos l4])
      have e0 : ((pts.length : Int) == 0) = false := by simp; exact fun h => l0 (by rw [h]; rfl)
      have e4 : (4 : Int) < (pts.length : Int) := by omega
      clear l0 l4
      go_enter Try.func10, Try.ntmps10
      go_wp2
      refine bodyPost_ret (results_tmp3 rfl _ _ _) rfl ?_
      exact HF.out _ _ HE.out (by decide) (Grow.refl _)
    · have e0 : ((pts.length : Int) == 0) = false := by simp; exact fun h => l0 (by rw [h]; rfl)
      have e4 : ¬ (4 : Int) < (pts.length : Int) := by omega
      have HE := hid (show rankErr pts l d = if pts.any (farB 1099511627776) then 2 else if swErr pts.length l ≠ 0 then swErr pts.length l else if d < 0 ∨ 4 < d then 2 else 0 by unfold rankErr; rw [if_neg l0, if_neg l4])
      have HL0 := hid (And.intro l0 l4)
      clear l0 l4
      have HAO2 := HAO.out
      cases hany : pts.any (farB 1099511627776)
      · have HANY := hid hany
        have HE2 := hid (show rankErr pts l d = if swErr pts.length l ≠ 0 then swErr pts.length l else if d < 0 ∨ 4 < d then 2 else 0 by rw [HE.out, hany]; rfl)
        rw [hany] at HAO2
        have HAO3 := hid HAO2
        clear hany HAO2
        have SWC := HSW.out w (Grow.refl _)
        by_cases hsw : swErr pts.length l = 0
        · have HSO := hid (sw_ok hsw)
          have HE3 := hid (show rankErr pts l d = if d < 0 ∨ 4 < d then 2 else 0 by rw [HE2.out, if_neg (by simpa using hsw)])
          rw [hsw] at SWC
          have SWC := hid SWC
          clear hsw
          by_cases hd : d < 0 ∨ 4 < d
          · have HX := hid (show rankErr pts l d = 2 by rw [HE3.out, if_pos hd])
            have hd' : d < 0 ∨ ¬ d < 0 ∧ 4 < d := by omega
            clear hd
            go_enter Try.func10, Try.ntmps10
            rcases hd' with hd1 | ⟨hd1, hd2⟩
            all_goals
              go_wp2_with (first
                | (go_at_call 22; refine HAO3.out.mono ?_; rintro e w0 ⟨rfl, rfl⟩)
                | (go_at_call 24; refine SWC.out.mono ?_; rintro e w1 ⟨rfl, hg1⟩))
              refine bodyPost_ret (results_tmp3 rfl _ _ _) rfl ?_
              exact HF.out _ _ HX.out (by decide) hg1
          · have HX := hid (show rankErr pts l d = 0 by rw [HE3.out, if_neg hd])
            obtain ⟨D, rfl⟩ := Int.eq_ofNat_of_zero_le (show 0 ≤ d by omega)
            have hD4 : D ≤ 4 := by omega
            have d1 : ¬ (D : Int) < 0 := by omega
            have d2 : ¬ (4 : Int) < (D : Int) := by omega
            clear hd
            go_enter Try.func10, Try.ntmps10
            go_upto_region 14 with (first
              | (go_at_call 22; refine HAO3.out.mono ?_; rintro e w0 ⟨rfl, rfl⟩)
              | (go_at_call 24; refine SWC.out.mono ?_; rintro e w1 ⟨rfl, hg1⟩))
            obtain ⟨ad, rfl, -, -⟩ := HR.out.int (k := 0) (by have := HL0.out; omega)
            obtain ⟨wC, hcp, bC, gC, hsC⟩ := copy_four 22 22 3 Try.underlying22 (c := c) (HR.out.grow hg1) (by omega)
            have HC := hid (And.intro bC (hg1.trans gC))
            have HSZ := hid hsC
            have c0 := bC.cell 0
            have c1 := bC.cell 1
            have c2 := bC.cell 2
            have c3 := bC.cell 3
            simp only [List.getElem?_cons_zero, List.getElem?_cons_succ] at c0 c1 c2 c3
            clear bC gC hsC
            go_upto_region 15 with (at_builtin; refine wpList_copy_at hcp (.tmp 51) (.tmp 52) (by rfl) (by rfl) (by rfl) (by exact ⟨rfl, rfl⟩) ?_)
            have hP := HR.out.grow hg1
            have M0 := MapE.made wC
            have F0 : Fit4 (padP pts) := pad_fit HANY.out
            obtain ⟨wM, hmu, M1, hmt⟩ := M0.first 62 Try.underlying62 F0 (n := 1) (by decide)
            have HM := hid (And.intro M1 hmt)
            have gM : Grow wC (wC.alloc (.map #[] 0)) := (Grow.refl _).alloc _
            have c0 := gM.cell_some c0
            have c1 := gM.cell_some c1
            have c2 := gM.cell_some c2
            have c3 := gM.cell_some c3
            have hmm := @run_makeMap Try.prog
            clear M0 M1 hmt hP gM F0
            go_upto_region 16 with fail
            clear hmu c0 c1 c2 c3
            have hgM : Grow w wM := (HC.out.2.alloc (.map #[] 0)).own HM.out.2.grown (fun k hk => by injection hk with hk; have := HC.out.2.size; omega)
            have hbM : w.heap.size ≤ wC.heap.size := HC.out.2.size
            have HM1 := hid HM.out.1
            generalize wC.heap.size = b0 at *
            go_wp2_with fail
            go_loopw [12, 58] (fun mv i wr => ∃ (k b : Nat) (qs : List (P4 × Int)), k ≤ D ∧ i = .int .i64 (k : Int) ∧ mv = .map (some b) ∧ MapE wr b qs ∧ EntOk pts.length k l pts qs ∧ Grow w wr ∧ w.heap.size ≤ b) (fun _ i _ => D - (intOf i).toNat)
            case atStart => exact ⟨0, b0, _, Nat.zero_le _, rfl, rfl, HM1.out, EntOk.start rfl (by omega) HANY.out, hgM, hbM⟩
            case round =>
              clear hgM hbM
              obtain ⟨k, b, qs, hk, rfl, rfl, hE, hok, hgr, hbr⟩ := hrel
              have HE1 := hid hE
              have HOK := hid hok
              have HGR := hid hgr
              clear hE hok hgr
              by_cases hlt : k < D
              · have k1 : (k : Int) < (D : Int) := by omega
                obtain ⟨DD, hown, hsz, hh1, hh2⟩ := HE1.out
                have hown1 := hown.alloc (.map #[] 0)
                have HH := hid (And.intro hh1 hh2)
                have MN := hid (MapE.made wr)
                have GA := hid (HGR.out.alloc (.map #[] 0))
                have hbn : w.heap.size ≤ wr.heap.size := HGR.out.size
                have hbl : b < wr.heap.size := hown.lt
                clear hown hsz hh1 hh2
                obtain ⟨wo, rfl⟩ : ∃ x, x = wr := ⟨_, rfl⟩
                have hso : (wo.alloc (.map #[] 0)).heap.size = wo.heap.size + 1 := by simp
                have HSO2 := hid hso
                have ALT := hid (fun (h : (wo.alloc (.map #[] 0)).ranges Try.prog 61 (plainElem (H := Unit) Try.prog 3) b 0 0 DD (fun _ => false) 0) => h)
                clear hso ALT
                go_wp2_with (at_range; refine wpList_range_own _ rfl (.tmp 61) 62 rfl 61 3 four_law Try.underlying62 _ b qs.length DD rfl hown1 ?_; intro w0 hrg0 hg0 hs0)
                go_frame
                have G0 := hid (GA.out.own hg0 (fun k hk => by cases hk))
                have M0 := hid (MN.out.at (hg0.block wo.heap.size (by rw [HSO2.out]; omega) (fun e => by cases e)))
                rw [HSO2.out] at hrg0 ⊢
                have HRG := hid hrg0
                clear hrg0 hg0 hs0 hown1
                go_loopw [15] (fun _ wr => ∃ (left : Lit → Bool) (cnt : Nat) (qn : List (P4 × Int)), wr.ranges Try.prog 61 (plainElem (H := Unit) Try.prog 3) b (wo.heap.size + 1) qs.length DD left cnt ∧ MapE wr wo.heap.size qn ∧ PartOk pts.length (k + 1) qn ∧ (∀ f : List Int → Int, msum qn (fun p => f (listP pts.length p)) = dsum qs left (fun p => dealT l f (listP pts.length p))) ∧ Grow w wr) (fun _ wr => wr.rangeLeft b (wo.heap.size + 1))
                case atStart => exact ⟨_, _, [], HRG.out, M0.out, PartOk.nil, fun f => by
                  rw [dsum_start fun x hx => by rw [HH.out.1 _ (HOK.out.part.fit (by omega) x hx)]; exact decide_eq_true ⟨x, hx, rfl⟩]
                  rfl, G0.out⟩
                case round =>
                  obtain ⟨left, cnt, qn, hrg, hEn, hpn, hsn, hgn⟩ := hrel
                  have HRN := hid hrg
                  have HEN := hid hEn
                  have HPN := hid hpn
                  have HSN := hid hsn
                  have HGN := hid hgn
                  clear hEn hpn hsn hgn hrg
                  go_wp2_with (at_next; refine wpList_next_ranges _ rfl (.tmp 62) rfl 61 four_law _ fourV (Value.int .i64) (fun key kl hkey => by obtain ⟨x, rfl, _⟩ := four_inv hkey; exact ⟨x, rfl⟩) (fun v y hv => by obtain ⟨c, rfl, _⟩ := plainElem_int_inv Try.underlying3 hv; exact ⟨c, rfl⟩) b (wo.heap.size + 1) qs.length DD left cnt rfl HRN.out ?_ ?_)
                  · intro _ hl0
                    have HNEXT := hid (show EntOk pts.length (k + 1) l pts qn from ⟨HPN.out.once, HPN.out.pos, HPN.out.at_, fun f => by rw [HSN.out f, dsum_end hl0, HOK.out.sum (dealT l f), wsum_last]⟩)
                    clear hl0
                    go_wp2
                    exact ⟨⟨k + 1, wo.heap.size, qn, by omega, by go_num, rfl, HEN.out, HNEXT.out, HGN.out, hbn⟩, by simp only [intOf]; omega⟩
                  · intro x0 x1 x2 x3 n0 kl y yp w2 cnt2 hkey hleft hR hat hrg2 hcl hgr2 hsz2 hen
                    obtain ⟨hf0, rfl, X, hX, hX1, hX2⟩ := entry_is HH.out.1 HH.out.2 hkey hat
                    obtain ⟨q, hql, hqp, hqb⟩ := HOK.out.at_ X hX
                    have hn0 : n0 = X.2 := by
                      obtain ⟨c', e1, e2, _⟩ := plainElem_int_inv Try.underlying3 hR
                      cases e1
                      rw [hX2] at e2
                      injection e2 with e2 _
                      injection e2 with e2
                      injection e2 with _ e2
                      exact e2.symm
                    obtain ⟨e0', e1', e2', e3'⟩ : x0 = dg q 0 ∧ x1 = dg q 1 ∧ x2 = dg q 2 ∧ x3 = dg q 3 := by
                      have := hX1.symm.trans hqp
                      unfold padP at this
                      simp at this
                      exact this
                    have HX := hid (And.intro hX (And.intro hX1 (And.intro hqp (And.intro hqb hn0))))
                    have HQ := hid (And.intro e0' (And.intro e1' (And.intro e2' e3')))
                    have HQL := hid hql
                    have HRG2 := hid hrg2
                    have HMEAS := hid (show cnt2 < wr.rangeLeft b (wo.heap.size + 1) by rw [HRN.out.left_eq]; exact hcl)
                    have HEN2 := hid (HEN.out.at (hgr2.block wo.heap.size HEN.out.lt (fun e => by injection e with e; omega)))
                    have HGN2 := hid (HGN.out.own hgr2 (fun i hi => by injection hi with hi; omega))
                    have HLF := hid hleft
                    clear hX hX1 hX2 hqp hqb hn0 e0' e1' e2' e3' hql hrg2 hcl hgr2 hsz2 hleft hkey hat hR hf0
                    go_wp2_with fail
                    have b4 : Blk (w2.alloc (.cells #[.int .i64 x0, .int .i64 x1, .int .i64 x2, .int .i64 x3] 61)) w2.heap.size 61 [.int .i64 x0, .int .i64 x1, .int .i64 x2, .int .i64 x3] := Blk.new_at rfl
                    have g4 : Grow w2 (w2.alloc (.cells #[.int .i64 x0, .int .i64 x1, .int .i64 x2, .int .i64 x3] 61)) := (Grow.refl _).alloc _
                    have R4 := hid (HRG2.out.alloc (.cells #[.int .i64 x0, .int .i64 x1, .int .i64 x2, .int .i64 x3] 61))
                    have E4 := hid (HEN2.out.at (w' := w2.alloc (.cells #[.int .i64 x0, .int .i64 x1, .int .i64 x2, .int .i64 x3] 61)) (g4.blk HEN2.out.lt))
                    have GG4 := hid (HGN2.out.trans g4)
                    have B4 := hid b4
                    have HTl : wo.heap.size < w2.heap.size := HEN2.out.lt
                    clear b4 g4 hen
                    generalize w2.alloc (.cells #[.int .i64 x0, .int .i64 x1, .int .i64 x2, .int .i64 x3] 61) = w4 at *
                    generalize w2.heap.size = T at *
                    go_loopw [70] (fun i wr => ∃ (j : Nat) (qm : List (P4 × Int)), j ≤ l.length ∧ i = .int .i64 (j : Int) ∧ (∃ cn, cn ≤ cnt2 ∧ wr.ranges Try.prog 61 (plainElem (H := Unit) Try.prog 3) b (wo.heap.size + 1) qs.length DD (fun z => left z && !z.sameKey (key4 (x0, x1, x2, x3))) cn) ∧ MapE wr wo.heap.size qm ∧ PartOk pts.length (k + 1) qm ∧ (∀ f : List Int → Int, msum qm (fun p => f (listP pts.length p)) = msum qn (fun p => f (listP pts.length p)) + n0 * sumI ((l.take j).map fun s => s.w * f (addP q s.p))) ∧ Blk wr T 61 [.int .i64 x0, .int .i64 x1, .int .i64 x2, .int .i64 x3] ∧ Grow w wr) (fun i _ => l.length - (intOf i).toNat)
                    case atStart => exact ⟨0, qn, Nat.zero_le _, rfl, ⟨cnt2, Nat.le_refl _, R4.out⟩, E4.out, HPN.out, fun f => by simp [sumI], B4.out, GG4.out⟩
                    case round =>
                      obtain ⟨j, qm, hj, rfl, ⟨cn, hcn, hrm⟩, hEm, hPm, hSm, hBm, hGm⟩ := hrel
                      have HRM := hid hrm
                      have HEM := hid hEm
                      have HPM := hid hPm
                      have HSM := hid hSm
                      have HBM := hid hBm
                      have HGM := hid hGm
                      clear hrm hEm hPm hSm hBm hGm
                      by_cases hjl : j < l.length
                      · obtain ⟨adS, B, mm, dd, rfl, hbS, y0, y1, hI, hm⟩ := HL.out j hjl
                        have y0 := HGM.out.cell_some y0
                        have y1 := HGM.out.cell_some y1
                        have hp := HSO.out.p l[j] (List.getElem_mem _)
                        have hww := HSO.out.w l[j] (List.getElem_mem _)
                        rw [hp.1] at hm
                        subst hm
                        have HI := hid (hI.grow HGM.out)
                        have HPW := hid (And.intro hp hww)
                        have j0 : (0 : Int) ≤ (j : Int) := by omega
                        have j1 : (j : Int) < (l.length : Int) := by omega
                        have q0 := HBM.out.cell 0
                        have q1 := HBM.out.cell 1
                        have q2 := HBM.out.cell 2
                        have q3 := HBM.out.cell 3
                        simp only [List.getElem?_cons_zero, List.getElem?_cons_succ] at q0 q1 q2 q3
                        have hTw : T < wr.heap.size := HBM.out.lt
                        have WS := hid (fun f => take_sum hjl q f)
                        have BND := hid (entry_bound HSO.out (by omega) HOK.out HX.out.1 HX.out.2.2.2.2 HSN.out (fun f => by rw [HX.out.2.2.1, list_pad HQL.out (by omega)]; exact HSM.out f) hjl HPM.out hww (padP (addP q l[j].p)))
                        clear hp hww hI
                        generalize l[j].w = sw at *
                        generalize l[j].p = sp at *
                        have hn0' : 0 < pts.length := by have := HL0.out; omega
                        obtain ⟨adB, rfl, _, _⟩ := (ints_rd HI.out).2.2.2.int (k := 0) (by rw [HPW.out.1.1]; exact hn0')
                        have HRD := hid (ints_rd HI.out).2.2.2
                        have hx : ([.int .i64 x0, .int .i64 x1, .int .i64 x2, .int .i64 x3] : List Value) = fourC (padP (mixP q sp 0)) := by rw [mixP_zero, HQ.out.1, HQ.out.2.1, HQ.out.2.2.1, HQ.out.2.2.2]; rfl
                        have gS : Grow wr ((wr.alloc (.cells #[.int .i64 sw, .slice (some adB) pts.length dd] 26)).alloc (.cells #[.int .i64 x0, .int .i64 x1, .int .i64 x2, .int .i64 x3] 61)) := ((Grow.refl _).alloc _).alloc _
                        have bS : Blk ((wr.alloc (.cells #[.int .i64 sw, .slice (some adB) pts.length dd] 26)).alloc (.cells #[.int .i64 x0, .int .i64 x1, .int .i64 x2, .int .i64 x3] 61)) wr.heap.size 26 [.int .i64 sw, .slice (some adB) pts.length dd] := Blk.grow (Blk.new_at (w := wr) (xs := [.int .i64 sw, .slice (some adB) pts.length dd]) rfl) ((Grow.refl _).alloc _)
                        have bQ : Blk ((wr.alloc (.cells #[.int .i64 sw, .slice (some adB) pts.length dd] 26)).alloc (.cells #[.int .i64 x0, .int .i64 x1, .int .i64 x2, .int .i64 x3] 61)) (wr.heap.size + 1) 61 (fourC (padP (mixP q sp 0))) := by rw [← hx]; exact Blk.new_at (by simp)
                        have HS0 := hid (And.intro gS (And.intro bS bQ))
                        clear hx gS bS bQ
                        go_wp2_with fail
                        obtain ⟨gS, bS, bQ⟩ := HS0.out
                        obtain ⟨wp, rfl⟩ : ∃ x, x = wr := ⟨_, rfl⟩
                        generalize (wp.alloc (.cells #[.int .i64 sw, .slice (some adB) pts.length dd] 26)).alloc (.cells #[.int .i64 x0, .int .i64 x1, .int .i64 x2, .int .i64 x3] 61) = w8 at *
                        go_loopw [78] (fun i wr => ∃ e : Nat, e ≤ pts.length ∧ i = .int .i64 (e : Int) ∧ Blk wr (wp.heap.size + 1) 61 (fourC (padP (mixP q sp e))) ∧ Blk wr wp.heap.size 26 [.int .i64 sw, .slice (some adB) pts.length dd] ∧ Grow wp wr) (fun i _ => pts.length - (intOf i).toNat)
                        case atStart => exact ⟨0, Nat.zero_le _, rfl, bQ, bS, gS⟩
                        case round =>
                          clear bQ bS gS
                          obtain ⟨e, he, rfl, hbq, hbs, hgp⟩ := hrel
                          have HBQ := hid hbq
                          have HBS := hid hbs
                          have HGP := hid hgp
                          by_cases hel : e < pts.length
                          · have hlm := mixP_len HQL.out HPW.out.1.1 he
                            have he1 : e < q.length := by rw [HQL.out]; exact hel
                            have he2 : e < sp.length := by rw [HPW.out.1.1]; exact hel
                            obtain ⟨ad9, ee, _, y⟩ := HRD.out.int he2
                            obtain rfl := Option.some.inj ee
                            have y := hgp.cell_some y
                            have hm1 : e < (mixP q sp e).length := by rw [hlm]; exact hel
                            have hm2 : (mixP q sp e)[e] = q[e] := by
                              have := mixP_at HQL.out HPW.out.1.1 hel
                              rw [List.getElem?_eq_getElem hm1] at this
                              exact Option.some.inj this
                            have cq := hbq.cell e
                            rw [fourC_at (by rw [hlm]; have := HL0.out; omega) hm1, hm2] at cq
                            have fq := hbq.free e
                            have hz1 := HX.out.2.2.2.1 _ (List.getElem_mem he1)
                            have hz2 := HPW.out.1.2 _ (List.getElem_mem he2)
                            have wz : IntKind.i64.wrap (q[e] + sp[e]) = q[e] + sp[e] := IntWalk.i64_in _ (by omega)
                            have e0' : (0 : Int) ≤ (e : Int) := by omega
                            have e1' : (e : Int) < (pts.length : Int) := by omega
                            have e4' : (e : Int) < 4 := by have := HL0.out; omega
                            have NEWQ := hid (show Blk (wr.setCell ⟨wp.heap.size + 1, e, none⟩ (.int .i64 (q[e] + sp[e]))) (wp.heap.size + 1) 61 (fourC (padP (mixP q sp (e + 1)))) by
                              have := hbq.set e (.int .i64 (q[e] + sp[e]))
                              rw [fourC_set (by rw [hlm]; have := HL0.out; omega) hm1, mixP_set HQL.out HPW.out.1.1 hel] at this
                              exact this)
                            have NEWS := hid (show Blk (wr.setCell ⟨wp.heap.size + 1, e, none⟩ (.int .i64 (q[e] + sp[e]))) wp.heap.size 26 [.int .i64 sw, .slice (some adB) pts.length dd] from hbs.far (p := ⟨wp.heap.size + 1, e, none⟩) (by simp) _)
                            have NEWG := hid (hgp.set (p := ⟨wp.heap.size + 1, e, none⟩) (by simp) (.int .i64 (q[e] + sp[e])))
                            clear hz1 hz2 hm2 hm1 hlm hbq hbs hgp
                            generalize q[e] = za at *
                            generalize sp[e] = zb at *
                            go_wp2
                            exact ⟨⟨e + 1, by omega, by go_num, NEWQ.out, NEWS.out, NEWG.out⟩, by simp only [intOf]; omega⟩
                          · obtain rfl : e = pts.length := by omega
                            rw [mixP_all HQL.out HPW.out.1.1] at hbq
                            have c0' := hbq.cell 0
                            have c1' := hbq.cell 1
                            have c2' := hbq.cell 2
                            have c3' := hbq.cell 3
                            have s0' := hbs.cell 0
                            simp only [List.getElem?_cons_zero, List.getElem?_cons_succ] at c0' c1' c2' c3' s0'
                            have hadd := addP_bound HQL.out HPW.out.1.1 HX.out.2.2.2.1 HPW.out.1.2
                            have hFit : Fit4 (padP (addP q sp)) := fit_pad (by omega) hadd
                            have EM := HEM.out.at (hgp.blk HEM.out.lt)
                            have LK := EM.look HPM.out.once 62 Try.underlying62 hFit
                            have LKD := hid LK
                            have KEEP := hid (show wr.cell? ⟨wp.heap.size + 1, 0, none⟩ = some (.int .i64 (padP (addP q sp)).1) ∧ wr.cell? ⟨wp.heap.size + 1, 1, none⟩ = some (.int .i64 (padP (addP q sp)).2.1) ∧ wr.cell? ⟨wp.heap.size + 1, 2, none⟩ = some (.int .i64 (padP (addP q sp)).2.2.1) ∧ wr.cell? ⟨wp.heap.size + 1, 3, none⟩ = some (.int .i64 (padP (addP q sp)).2.2.2) ∧ wr.cell? ⟨wp.heap.size, 0, none⟩ = some (.int .i64 sw) from ⟨c0', c1', c2', c3', s0'⟩)
                            clear hbq hbs hgp c0' c1' c2' c3' s0' LK EM
                            go_wp2_with fail
                            have HBQ' := HBQ.out
                            have HGP2 := HGP.out
                            have EM := HEM.out.at (w' := wr.drew) (HGP2.blk HEM.out.lt)
                            have BD := BND.out
                            obtain ⟨v0, st, es1, ck1, hrunE, hlkE, hstE⟩ := EM.plus HPM.out.once 62 Try.underlying62 hFit (HPM.out.fit (by omega)) (n := n0 * sw) (WalkArith.wf_i64 (by omega)) (by unfold maxLen; omega)
                            have LK2 := EM.look HPM.out.once 62 Try.underlying62 hFit
                            have SAT := hid (fun (W : World) (h1 : Blk W (wp.heap.size + 1) 61 (fourC (padP (addP q sp)))) (h2 : W.cell? ⟨wp.heap.size, 0, none⟩ = some (.int .i64 sw)) (h3 : (Instr.lookup 62 (Value.map (some wo.heap.size)) (fourV (padP (addP q sp))) false).run Try.prog W = .ok (.int .i64 (atE qm (padP (addP q sp)))) W) => (⟨h1.cell 0, h1.cell 1, h1.cell 2, h1.cell 3, h2, h3⟩ : W.cell? ⟨wp.heap.size + 1, 0, none⟩ = some (.int .i64 (padP (addP q sp)).1) ∧ W.cell? ⟨wp.heap.size + 1, 1, none⟩ = some (.int .i64 (padP (addP q sp)).2.1) ∧ W.cell? ⟨wp.heap.size + 1, 2, none⟩ = some (.int .i64 (padP (addP q sp)).2.2.1) ∧ W.cell? ⟨wp.heap.size + 1, 3, none⟩ = some (.int .i64 (padP (addP q sp)).2.2.2) ∧ W.cell? ⟨wp.heap.size, 0, none⟩ = some (.int .i64 sw) ∧ (Instr.lookup 62 (Value.map (some wo.heap.size)) (fourV (padP (addP q sp))) false).run Try.prog W = .ok (.int .i64 (atE qm (padP (addP q sp)))) W))
                            rw [mixP_all HQL.out HPW.out.1.1] at HBQ'
                            have hBS' := HBS.out
                            have Sdrew := SAT.out wr.drew HBQ' (by rw [show wr.drew.cell? ⟨wp.heap.size, 0, none⟩ = wr.cell? ⟨wp.heap.size, 0, none⟩ from rfl, hBS'.cell]; rfl) LK2
                            have hMl : wo.heap.size < wp.heap.size := HEM.out.lt
                            obtain ⟨D9, ⟨es9, ck9, hb9, _, _, _⟩, _, _, _⟩ := id EM
                            have Sput := SAT.out (setBlock wr.drew wo.heap.size (.map es1 ck1)) ((heap_setBlock_other hb9 _ (by omega)).trans HBQ') (by rw [Blk.cell (w := setBlock wr.drew wo.heap.size (.map es1 ck1)) ((heap_setBlock_other hb9 _ (by omega)).trans hBS')]; rfl) hlkE
                            obtain ⟨es2, ck2, hst2, hE2⟩ := hstE (setBlock wr.drew wo.heap.size (.map es1 ck1)) (heap_setBlock_same hb9 _)
                            rw [show goInt (st : Int) = Value.int .i64 (st : Int) from rfl] at hst2 hrunE
                            have wz1 : IntKind.i64.wrap (n0 * sw) = n0 * sw := IntWalk.i64_in _ (by omega)
                            have wz2 : IntKind.i64.wrap (atE qm (padP (addP q sp)) + n0 * sw) = atE qm (padP (addP q sp)) + n0 * sw := IntWalk.i64_in _ (by omega)
                            have HB9 := hid hb9
                            have HE2 := hid hE2
                            clear hlkE LK2 hb9 hstE hE2 EM HBQ' hBS' HGP2 BD hFit hadd
                            generalize atE qm (padP (addP q sp)) = cur at *
                            refine anyBut_region 10 (S := fun W => W.cell? ⟨wp.heap.size + 1, 0, none⟩ = some (.int .i64 (padP (addP q sp)).1) ∧ W.cell? ⟨wp.heap.size + 1, 1, none⟩ = some (.int .i64 (padP (addP q sp)).2.1) ∧ W.cell? ⟨wp.heap.size + 1, 2, none⟩ = some (.int .i64 (padP (addP q sp)).2.2.1) ∧ W.cell? ⟨wp.heap.size + 1, 3, none⟩ = some (.int .i64 (padP (addP q sp)).2.2.2) ∧ W.cell? ⟨wp.heap.size, 0, none⟩ = some (.int .i64 sw) ∧ (Instr.lookup 62 (Value.map (some wo.heap.size)) (fourV (padP (addP q sp))) false).run Try.prog W = .ok (.int .i64 cur) W) (by kernel_rfl) Sdrew (fun hQ hHeld => ?_)
                            refine AnyBut.take 0 (v := ?_) (by rfl) (by kernel_rfl) (by kernel_rfl) (by kernel_rfl) (by kernel_rfl) hQ (by rfl) (fun w hS => ?_) hHeld ?_
                            rotate_left
                            · (try dsimp only at hS); go_simp; (try with_reducible rfl)
                            (try simp only [Act.put])
                            refine AnyBut.take 1 (v := ?_) (by rfl) (by kernel_rfl) (by kernel_rfl) (by kernel_rfl) (by kernel_rfl) hQ (by rfl) (fun w hS => ?_) hHeld ?_
                            rotate_left
                            · (try dsimp only at hS); go_simp; (try with_reducible rfl)
                            (try simp only [Act.put])
                            refine AnyBut.take 2 (v := ?_) (by rfl) (by kernel_rfl) (by kernel_rfl) (by kernel_rfl) (by kernel_rfl) hQ (by rfl) (fun w hS => ?_) hHeld ?_
                            rotate_left
                            · (try dsimp only at hS); go_simp; (try with_reducible rfl)
                            (try simp only [Act.put])
                            refine AnyBut.take 3 (v := ?_) (by rfl) (by kernel_rfl) (by kernel_rfl) (by kernel_rfl) (by kernel_rfl) hQ (by rfl) (fun w hS => ?_) hHeld ?_
                            rotate_left
                            · (try dsimp only at hS); go_simp; (try with_reducible rfl)
                            (try simp only [Act.put])
                            refine AnyBut.take 4 (v := ?_) (by rfl) (by kernel_rfl) (by kernel_rfl) (by kernel_rfl) (by kernel_rfl) hQ (by rfl) (fun w hS => ?_) hHeld ?_
                            rotate_left
                            · (try dsimp only at hS); go_simp; (try with_reducible rfl)
                            (try simp only [Act.put])
                            refine AnyBut.take 5 (v := ?_) (by rfl) (by kernel_rfl) (by kernel_rfl) (by kernel_rfl) (by kernel_rfl) hQ (by rfl) (fun w hS => ?_) hHeld ?_
                            rotate_left
                            · (try dsimp only at hS); go_simp; (try with_reducible rfl)
                            (try simp only [Act.put])
                            refine AnyBut.take 6 (v := ?_) (by rfl) (by kernel_rfl) (by kernel_rfl) (by kernel_rfl) (by kernel_rfl) hQ (by rfl) (fun w hS => ?_) hHeld ?_
                            rotate_left
                            · (try dsimp only at hS); go_simp; (try with_reducible rfl)
                            (try simp only [Act.put])
                            refine AnyBut.take 7 (v := ?_) (by rfl) (by kernel_rfl) (by kernel_rfl) (by kernel_rfl) (by kernel_rfl) hQ (by rfl) (fun w hS => ?_) hHeld ?_
                            rotate_left
                            · (try dsimp only at hS); go_simp; (try with_reducible rfl)
                            (try simp only [Act.put])
                            refine AnyBut.one 8 (by kernel_rfl) (by rfl) (fun K hK => ?_)
                            go_simp
                            refine hK.out _ _ Sput (fun hHeld => ?_)
                            (try simp only [Act.put])
                            refine AnyBut.take 9 (v := ?_) (by rfl) (by kernel_rfl) (by kernel_rfl) (by kernel_rfl) (by kernel_rfl) hQ (by rfl) (fun w hS => ?_) hHeld ?_
                            rotate_left
                            · (try dsimp only at hS); go_simp; (try with_reducible rfl)
                            (try simp only [Act.put])
                            refine AnyBut.last (by kernel_rfl) (by rfl) (by kernel_rfl) (fun K hK => ?_)
                            go_simp
                            refine hK.out _ _ ?_
                            refine NoPanic.normal ?_
                            have hgb : wp.grownBy (setBlock (setBlock wr.drew wo.heap.size (.map es1 ck1)) wo.heap.size (.map es2 ck2)) (some wo.heap.size) := ⟨HGP.out.os, HGP.out.tape, HGP.out.output, by simpa [setBlock] using HGP.out.size, fun i hi hne => by
                              have e : i ≠ wo.heap.size := fun e => hne (by rw [e])
                              rw [heap_setBlock_other (es := es1) (clock := ck1) (heap_setBlock_same HB9.out _) _ e, heap_setBlock_other HB9.out _ e]
                              exact HGP.out.blk hi⟩
                            have HRM9 := hid (HRM.out.kept hgb (by intro e; injection e with e; omega) (by intro e; injection e with e; omega))
                            have HGM9 := hid (HGM.out.own hgb (fun i hi => by injection hi with hi; omega))
                            have HBM9 := hid ((hgb.block T hTw (by intro e; injection e with e; omega)).trans HBM.out)
                            have HPM9 := hid (HPM.out.add (p := addP q sp) (by rw [addP_len HQL.out HPW.out.1.1]) (addP_bound HQL.out HPW.out.1.1 HX.out.2.2.2.1 HPW.out.1.2) (c := n0 * sw) BND.out.2.2.2.1)
                            have HSM9 := hid (show ∀ f : List Int → Int, msum (addE qm (padP (addP q sp)) (n0 * sw)) (fun p => f (listP pts.length p)) = msum qn (fun p => f (listP pts.length p)) + n0 * sumI ((l.take (j + 1)).map fun s => s.w * f (addP q s.p)) from fun f => (sum_add HPM.out (p := addP q sp) (by rw [addP_len HQL.out HPW.out.1.1]) (by omega) (n0 * sw) f).trans (by rw [HSM.out f, WS.out f, Int.mul_add, Int.mul_assoc]; omega))
                            clear hgb
                            go_wp2
                            exact ⟨⟨j + 1, addE qm (padP (addP q sp)) (n0 * sw), by omega, by go_num, ⟨cn, hcn, HRM9.out⟩, HE2.out, HPM9.out, HSM9.out, HBM9.out, HGM9.out⟩, by simp only [intOf]; omega⟩
                      · obtain rfl : j = l.length := by omega
                        have HSUM := hid (show ∀ f : List Int → Int, msum qm (fun p => f (listP pts.length p)) = dsum qs (fun z => left z && !z.sameKey (key4 (x0, x1, x2, x3))) (fun p => dealT l f (listP pts.length p)) from fun f => by
                          obtain ⟨hX, hX1, hqp, _, hn0⟩ := HX.out
                          have hl' := HLF.out
                          rw [← hX1] at hl' ⊢
                          rw [HSM.out f, HSN.out f, dsum_struck HOK.out.part (by omega) hX hl', hn0, hqp, list_pad HQL.out (by omega), List.take_length]
                          rfl)
                        have HM9 := hid (show wr.rangeLeft b (wo.heap.size + 1) ≤ cnt2 by rw [HRM.out.left_eq]; exact hcn)
                        go_wp2
                        exact ⟨⟨_, cn, qm, HRM.out, HEM.out, HPM.out, HSUM.out, HGM.out⟩, Nat.lt_of_le_of_lt HM9.out HMEAS.out⟩
              · obtain rfl : k = D := by omega
                have hn4 : pts.length ≤ 4 := by have := HL0.out; omega
                have hn0 : 0 < pts.length := by have := HL0.out; omega
                go_wp2_with (at_make; refine wpList_make_blk wr _ rfl (.tmp 103) (.tmp 103) _ rfl 43 (.slice none 0 0) 24 Try.underlying34 infoNats rfl _ _ _ _ pts.length rfl rfl (by omega) (by omega) (by omega) (by omega) (Grow.refl _) ?_; intro P w4 bP hPw hPw1 hg4 hg4')
                have T0 := hid (TabTo.start (b := wr.heap.size) bP)
                have G4 := hid hg4
                obtain ⟨wo, rfl⟩ : ∃ x, x = wr := ⟨_, rfl⟩
                clear bP hg4 hg4' hPw1
                go_loopw [107] (fun i wr => ∃ (k : Nat) (Q : Nat → Nat), k ≤ pts.length ∧ i = .int .i64 (k : Int) ∧ TabTo wo.heap.size wr P pts.length k Q ∧ Grow wo wr) (fun i _ => pts.length - (intOf i).toNat)
                case atStart => exact ⟨0, _, Nat.zero_le _, rfl, T0.out, G4.out⟩
                case round =>
                  obtain ⟨m, Q, hm, rfl, htk, hgk⟩ := hrel
                  have HTK := hid htk
                  have HGK := hid hgk
                  by_cases hlt : m < pts.length
                  · have i0 : (0 : Int) ≤ (m : Int) := by omega
                    have i1 : (m : Int) < (pts.length : Int) := by omega
                    have hrow : wr.cell? ⟨P, m, none⟩ = some (.slice none 0 0) := by rw [htk.rows.cell]; simp [rowsQ, hlt]
                    have hfr : wr.frozen? ⟨P, m, none⟩ = false := htk.rows.free m
                    have HPL := hid htk.rows.lt
                    have HF0 := hid hfr
                    clear htk hgk hfr
                    go_wp2_with (at_make; refine wpList_make_blk wo _ rfl (.tmp 112) (.tmp 112) _ rfl 35 (.slice none 0 0) 24 Try.underlying43 infoNat rfl _ _ _ _ pts.length rfl rfl (by omega) (by omega) (by omega) (by omega) HGK.out ?_; intro g w5 bg hgw hgw1 hg5 hg5'; have hrow5 := hg5'.cell_some hrow; have hf5 : w5.frozen? ⟨P, m, none⟩ = false := (hg5'.frozen (p := ⟨P, m, none⟩) HPL.out).trans HF0.out)
                    exact ⟨⟨m + 1, _, by omega, by go_num, HTK.out.step hlt hg5' bg hgw1 hgw, hg5.set (p := ⟨P, m, none⟩) hPw _⟩, by simp only [intOf]; omega⟩
                  · obtain rfl : m = pts.length := by omega
                    have HT := hid htk.done
                    have HO := hid (fun i hi => htk.old i hi)
                    obtain ⟨DD, hown, hsz, hh1, hh2⟩ := HE1.out.at (hgk.blk HE1.out.lt)
                    have HH := hid (And.intro hh1 hh2)
                    have hbl : b < wr.heap.size := hown.lt
                    obtain ⟨wm, rfl⟩ : ∃ x, x = wr := ⟨_, rfl⟩
                    clear htk hgk hsz hh1 hh2
                    go_wp2_with (at_range; refine wpList_range_own _ rfl (.tmp 116) 62 rfl 61 3 four_law Try.underlying62 _ b qs.length DD rfl hown ?_; intro w0 hrg0 hg0 hs0)
                    go_frame
                    have HT0 := hid (HT.out.grow ((Grow.refl wm).own hg0 (fun k hk => by cases hk)))
                    have HG0 := hid (HGK.out.own hg0 (fun k hk => by cases hk))
                    have HRG := hid hrg0
                    clear hrg0 hg0 hs0 hown
                    go_loopw [7] (fun wv wr => ∃ (left : Lit → Bool) (cnt : Nat), wr.ranges Try.prog 61 (plainElem (H := Unit) Try.prog 3) b wm.heap.size qs.length DD left cnt ∧ TabAt wr P pts.length Q (fun i j => dsum qs left (fun p => indP i j (listP pts.length p))) ∧ IsNatF wr wv (dsum qs left (fun p => oneP (listP pts.length p))) ∧ Grow wo wr) (fun _ wr => wr.rangeLeft b wm.heap.size)
                    case atStart =>
                      have hz : ∀ f : P4 → Int, dsum qs (Maps.has DD) f = 0 := fun f => dsum_start (fun x hx => by rw [HH.out.1 _ (HOK.out.part.fit (by omega) x hx)]; exact decide_eq_true ⟨x, hx, rfl⟩) f
                      exact ⟨_, _, HRG.out, tab_congr HT0.out fun i j _ _ => hz _, by rw [hz]; exact IsNatF.nil, HG0.out⟩
                    case round =>
                      obtain ⟨left, cnt, hrg, hta, hna, hgn⟩ := hrel
                      have HRGN := hid hrg
                      have HTA := hid hta
                      have HGN := hid hgn
                      have hwk : wr.heap.size > wm.heap.size := hrg.lt
                      clear hta hgn hrg
                      obtain ⟨AW, mW, cW, rfl⟩ := hna.open_
                      have HNA := hid hna
                      clear hna
                      go_wp2_with (at_next; refine wpList_next_ranges _ rfl (.tmp 117) rfl 61 four_law _ fourV (Value.int .i64) (fun key kl hkey => by obtain ⟨x, rfl, _⟩ := four_inv hkey; exact ⟨x, rfl⟩) (fun v y hv => by obtain ⟨c, rfl, _⟩ := plainElem_int_inv Try.underlying3 hv; exact ⟨c, rfl⟩) b wm.heap.size qs.length DD left cnt rfl HRGN.out ?_ ?_)
                      · intro _ hl0
                        have HTF := hid (tab_congr (f' := fun i j => wsum l (indP i j) k pts) HTA.out fun i j _ _ => by
                          rw [dsum_end hl0]
                          exact (HOK.out.sum (indP i j)).symm)
                        have HNF := hid (show IsNatF wr (.slice AW mW cW) (wsum l oneP k pts) by
                          have := HNA.out
                          rw [dsum_end hl0, HOK.out.sum oneP] at this
                          exact this)
                        clear hl0
                        go_wp2
                        refine bodyPost_ret (results_tmp3 rfl _ _ _) rfl ?_
                        exact rankRes_ok HX.out HNF.out HTF.out (HGR.out.trans HGN.out)
                      · intro x0 x1 x2 x3 n0 kl y yp w2 cnt2 hkey hleft hR hat hrg2 hcl hgr2 hsz2 hen
                        obtain ⟨hf0, rfl, X, hX, hX1, hX2⟩ := entry_is HH.out.1 HH.out.2 hkey hat
                        obtain ⟨q, hql, hqp, hqb⟩ := HOK.out.at_ X hX
                        have hn0' : n0 = X.2 := by
                          obtain ⟨c', e1, e2, _⟩ := plainElem_int_inv Try.underlying3 hR
                          cases e1
                          rw [hX2] at e2
                          injection e2 with e2 _
                          injection e2 with e2
                          injection e2 with _ e2
                          exact e2.symm
                        obtain ⟨e0', e1', e2', e3'⟩ : x0 = dg q 0 ∧ x1 = dg q 1 ∧ x2 = dg q 2 ∧ x3 = dg q 3 := by
                          have := hX1.symm.trans hqp
                          unfold padP at this
                          simp at this
                          exact this
                        have ST := hid (fun F => dsum_struck HOK.out.part (by omega) hX (by rw [hX1]; exact hleft) F)
                        rw [hX1] at ST
                        have HXL := hid (show ∀ f : List Int → Int, X.2 * f (listP pts.length (x0, x1, x2, x3)) = n0 * f q from fun f => by rw [← hX1, hqp, list_pad hql (by omega), hn0'])
                        have EC := hid (ent_cap HSO.out hD4 HOK.out hX)
                        rw [← hn0'] at EC
                        have HQL := hid hql
                        have HQ := hid (show ([.int .i64 x0, .int .i64 x1, .int .i64 x2, .int .i64 x3] : List Value) = fourC (padP q) by rw [e0', e1', e2', e3']; rfl)
                        have HRG2 := hid hrg2
                        have HMEAS := hid (show cnt2 < wr.rangeLeft b wm.heap.size by rw [HRGN.out.left_eq]; exact hcl)
                        have hwm : wo.heap.size ≤ wm.heap.size := HGK.out.size
                        have CK := ranges_cells HRGN.out hgr2
                        have HTA2 := hid (CK.tab HTA.out)
                        have HNA2 := hid (CK.natF HNA.out)
                        have HGN2 := hid (HGN.out.own hgr2 (fun i hi => by injection hi with hi; omega))
                        obtain ⟨wq, rfl⟩ : ∃ x, x = wr := ⟨_, rfl⟩
                        have hw2 : wm.heap.size < w2.heap.size := HRG2.out.lt
                        have HPB := hid (show Blk (w2.alloc (.cells #[.int .i64 x0, .int .i64 x1, .int .i64 x2, .int .i64 x3] 61)) w2.heap.size 61 (fourC (padP q)) by rw [← HQ.out]; exact Blk.new_at rfl)
                        have G4 := hid ((Grow.refl w2).alloc (.cells #[.int .i64 x0, .int .i64 x1, .int .i64 x2, .int .i64 x3] 61))
                        clear hX hX1 hX2 hqp hqb hn0' e0' e1' e2' e3' hql hrg2 hcl hgr2 hsz2 hleft hkey hat hR hf0 CK
                        go_wp2_with (at_make; refine wpList_make_blk w2 _ rfl (.tmp 123) (.tmp 123) _ rfl 3 (.int .i64 0) 8 Try.underlying22 infoInt rfl _ _ _ _ pts.length rfl rfl (by omega) (by omega) (by omega) (by omega) G4.out ?_; intro g w5 bg hgw hgw1 hg5 hg5')
                        rw [← seatRow_zero] at bg
                        have HBG := hid bg
                        have HG5 := hid hg5'
                        have hgg : w2.heap.size < g := by simp at hgw1; omega
                        clear bg hg5 hg5' hgw1 hen
                        generalize w2.alloc (.cells #[.int .i64 x0, .int .i64 x1, .int .i64 x2, .int .i64 x3] 61) = w4 at *
                        go_loopw [127] (fun i wr => ∃ j : Nat, j ≤ pts.length ∧ i = .int .i64 (j : Int) ∧ Blk wr g 3 (seatRow pts.length j) ∧ Blk wr w2.heap.size 61 (fourC (padP q)) ∧ Grow w2 wr) (fun i _ => pts.length - (intOf i).toNat)
                        case atStart => exact ⟨0, Nat.zero_le _, rfl, HBG.out, HPB.out.grow HG5.out, G4.out.trans HG5.out⟩
                        case round =>
                          obtain ⟨j, hj, rfl, hbj, hpj, hgj⟩ := hrel
                          by_cases hjl : j < pts.length
                          · have j0 : (0 : Int) ≤ (j : Int) := by omega
                            have j1 : (j : Int) < (pts.length : Int) := by omega
                            have cj : wr.cell? ⟨g, j, none⟩ = some (.int .i64 0) := by rw [hbj.cell]; simp [seatRow, hjl]
                            have fj := hbj.free j
                            have NB := hid (hbj.set j (.int .i64 (j : Int)))
                            rw [seatRow_set _ _ hjl] at NB
                            have NP := hid (hpj.far (p := ⟨g, j, none⟩) (show w2.heap.size ≠ g by omega) (.int .i64 (j : Int)))
                            have NG := hid (hgj.set (p := ⟨g, j, none⟩) (show w2.heap.size ≤ g by omega) (.int .i64 (j : Int)))
                            clear hbj hpj hgj
                            go_wp2
                            exact ⟨⟨j + 1, by omega, by go_num, NB.out, NP.out, NG.out⟩, by simp only [intOf]; omega⟩
                          · obtain rfl : j = pts.length := by omega
                            rw [seatRow_all] at hbj
                            have SS := hid (sortSeats_any wr w2.heap.size g q pts.length HQL.out hn0 hn4 hpj hbj)
                            have HGJ := hid hgj
                            clear hbj hpj hgj
                            go_wp2_with (go_at_call 25; refine SS.out.mono ?_; rintro e w6 ⟨rfl, sl, hsl, hbl, hgb⟩)
                            have G26 := HGJ.out.own hgb (fun i hi => by injection hi with hi; omega)
                            have NK26 := hid (NatKeep.of_grow G26)
                            have HT6 := hid (HTA2.out.grow G26)
                            have HG6 := hid (HGN2.out.trans G26)
                            have HBL := hid hbl
                            have HSL := hid hsl
                            have hlen := hsl.len
                            clear hbl hgb hsl G26
                            go_loopw [140] (fun i wr => ∃ j : Nat, j ≤ pts.length ∧ i = .int .i64 (j : Int) ∧ NatKeep w6 wr ∧ TabAt wr P pts.length Q (seatF (fun a c => dsum qs left (fun p => indP a c (listP pts.length p))) q n0 pts.length j) ∧ Grow wo wr) (fun i _ => pts.length - (intOf i).toNat)
                            case atStart => exact ⟨0, Nat.zero_le _, rfl, NatKeep.refl _, tab_congr HT6.out fun a c _ _ => seatF_zero _ _ _ _ a c, HG6.out⟩
                            case round =>
                              obtain ⟨j, hj, rfl, hkj, htj, hgj⟩ := hrel
                              have HKJ := hid hkj
                              have HTJ := hid htj
                              have HGJ2 := hid hgj
                              have n00 : 0 ≤ n0 := by have := EC.out.1; omega
                              have n01 : n0 ≤ 9223372036854775807 := by have := EC.out.2; omega
                              clear hkj htj hgj
                              by_cases hjl : j < pts.length
                              · have j0 : (0 : Int) ≤ (j : Int) := by omega
                                have j1 : (j : Int) < (pts.length : Int) := by omega
                                have hjs : j < sl.length := by omega
                                have cj : wr.cell? ⟨g, j, none⟩ = some (seatV sl[j]) := by rw [(HKJ.out.blk HBL.out).cell]; simp [hjs]
                                have hps := HSL.out.at_ j hjs
                                have HPS := hid (And.intro hps.2 (HSL.out.only hjs))
                                have hs := hps.1
                                unfold seatV at cj
                                clear hps
                                generalize (sl[j]).val = s at *
                                have s0 : (0 : Int) ≤ (s : Int) := by omega
                                have s1 : (s : Int) < (pts.length : Int) := by omega
                                have hrow := HTJ.out.row hs
                                obtain ⟨A3, m3, c3, hc3, ht3, hf3, hql3⟩ := (HTJ.out.wins s hs).at_ hjl
                                rw [(seatF_here hs HPS.out.1).1] at ht3
                                have HB := hid (dsum_cap HSO.out hD4 HOK.out left (indP_bound s j))
                                have KEEP := hid (fun W (hg : Grow wr W) => (⟨hg, hg.cell_some hrow, hg.cell_some hc3⟩ : Grow wr W ∧ W.cell? ⟨P, s, none⟩ = some (.slice (some ⟨Q s, 0, none⟩) pts.length pts.length) ∧ W.cell? ⟨Q s, j, none⟩ = some (.slice A3 m3 c3)))
                                have SU := hid (fun W vb (hg : Grow wr W) (hv : IsNat W vb n0) => sum_any _ vb _ n0 W (ht3.grow hg).1 hv (small_4096 (by have := HB.out; omega)) (small_4096 (by have := EC.out; omega)))
                                have HF3 := hid hf3
                                clear hrow hc3 ht3 hf3
                                go_wp2_with fail
                                refine anyBut_region 16 (S := fun W => Grow wr W ∧ W.cell? ⟨P, s, none⟩ = some (.slice (some ⟨Q s, 0, none⟩) pts.length pts.length) ∧ W.cell? ⟨Q s, j, none⟩ = some (.slice A3 m3 c3)) (by kernel_rfl) (KEEP.out _ (Grow.refl wr).drew) (fun hQ hHeld => ?_)
                                refine AnyBut.take 0 (v := ?_) (by rfl) (by kernel_rfl) (by kernel_rfl) (by kernel_rfl) (by kernel_rfl) hQ (by rfl) (fun w hS => ?_) hHeld ?_
                                rotate_left
                                · (try dsimp only at hS); go_simp; (try with_reducible rfl)
                                (try simp only [Act.put])
                                refine AnyBut.take 1 (v := ?_) (by rfl) (by kernel_rfl) (by kernel_rfl) (by kernel_rfl) (by kernel_rfl) hQ (by rfl) (fun w hS => ?_) hHeld ?_
                                rotate_left
                                · (try dsimp only at hS); go_simp; (try with_reducible rfl)
                                (try simp only [Act.put])
                                refine AnyBut.take 2 (v := ?_) (by rfl) (by kernel_rfl) (by kernel_rfl) (by kernel_rfl) (by kernel_rfl) hQ (by rfl) (fun w hS => ?_) hHeld ?_
                                rotate_left
                                · (try dsimp only at hS); go_simp; (try with_reducible rfl)
                                (try simp only [Act.put])
                                refine AnyBut.take 3 (v := ?_) (by rfl) (by kernel_rfl) (by kernel_rfl) (by kernel_rfl) (by kernel_rfl) hQ (by rfl) (fun w hS => ?_) hHeld ?_
                                rotate_left
                                · (try dsimp only at hS); go_simp; (try with_reducible rfl)
                                (try simp only [Act.put])
                                refine AnyBut.take 4 (v := ?_) (by rfl) (by kernel_rfl) (by kernel_rfl) (by kernel_rfl) (by kernel_rfl) hQ (by rfl) (fun w hS => ?_) hHeld ?_
                                rotate_left
                                · (try dsimp only at hS); go_simp; (try with_reducible rfl)
                                (try simp only [Act.put])
                                refine AnyBut.take 5 (v := ?_) (by rfl) (by kernel_rfl) (by kernel_rfl) (by kernel_rfl) (by kernel_rfl) hQ (by rfl) (fun w hS => ?_) hHeld ?_
                                rotate_left
                                · (try dsimp only at hS); go_simp; (try with_reducible rfl)
                                (try simp only [Act.put])
                                refine AnyBut.take 6 (v := ?_) (by rfl) (by kernel_rfl) (by kernel_rfl) (by kernel_rfl) (by kernel_rfl) hQ (by rfl) (fun w hS => ?_) hHeld ?_
                                rotate_left
                                · (try dsimp only at hS); go_simp; (try with_reducible rfl)
                                (try simp only [Act.put])
                                refine AnyBut.take 7 (v := ?_) (by rfl) (by kernel_rfl) (by kernel_rfl) (by kernel_rfl) (by kernel_rfl) hQ (by rfl) (fun w hS => ?_) hHeld ?_
                                rotate_left
                                · (try dsimp only at hS); go_simp; (try with_reducible rfl)
                                (try simp only [Act.put])
                                refine AnyBut.take 8 (v := ?_) (by rfl) (by kernel_rfl) (by kernel_rfl) (by kernel_rfl) (by kernel_rfl) hQ (by rfl) (fun w hS => ?_) hHeld ?_
                                rotate_left
                                · (try dsimp only at hS); go_simp; (try with_reducible rfl)
                                (try simp only [Act.put])
                                refine AnyBut.take 9 (v := ?_) (by rfl) (by kernel_rfl) (by kernel_rfl) (by kernel_rfl) (by kernel_rfl) hQ (by rfl) (fun w hS => ?_) hHeld ?_
                                rotate_left
                                · (try dsimp only at hS); go_simp; (try with_reducible rfl)
                                (try simp only [Act.put])
                                refine AnyBut.take 10 (v := ?_) (by rfl) (by kernel_rfl) (by kernel_rfl) (by kernel_rfl) (by kernel_rfl) hQ (by rfl) (fun w hS => ?_) hHeld ?_
                                rotate_left
                                · (try dsimp only at hS); go_simp; (try with_reducible rfl)
                                (try simp only [Act.put])
                                refine AnyBut.take 11 (v := ?_) (by rfl) (by kernel_rfl) (by kernel_rfl) (by kernel_rfl) (by kernel_rfl) hQ (by rfl) (fun w hS => ?_) hHeld ?_
                                rotate_left
                                · (try dsimp only at hS); go_simp; (try with_reducible rfl)
                                (try simp only [Act.put])
                                refine AnyBut.take 12 (v := ?_) (by rfl) (by kernel_rfl) (by kernel_rfl) (by kernel_rfl) (by kernel_rfl) hQ (by rfl) (fun w hS => ?_) hHeld ?_
                                rotate_left
                                · (try dsimp only at hS); go_simp; (try with_reducible rfl)
                                (try simp only [Act.put])
                                refine AnyBut.one 13 (by kernel_rfl) (by rfl) (fun K hK => ?_)
                                go_simp
                                refine (natural_any n0 _ n00 n01).mono ?_
                                rintro e wA ⟨vA, rfl, kA, gA0⟩
                                have gA := (Grow.refl wr).drew.trans gA0
                                obtain ⟨A9, m9, c9, rfl⟩ := kA.open_
                                refine hK.out _ _ (KEEP.out _ gA) (fun hHeld => ?_)
                                (try simp only [Act.put])
                                refine AnyBut.one 14 (by kernel_rfl) (by rfl) (fun K hK => ?_)
                                go_simp
                                refine (SU.out _ _ gA kA.1).mono ?_
                                rintro e wC ⟨vC, rfl, kC, gC0⟩
                                have gC := gA.trans gC0
                                obtain ⟨A10, m10, c10, rfl⟩ := kC.open_
                                refine hK.out _ _ (KEEP.out _ gC) (fun hHeld => ?_)
                                (try simp only [Act.put])
                                refine AnyBut.take 15 (v := ?_) (by rfl) (by kernel_rfl) (by kernel_rfl) (by kernel_rfl) (by kernel_rfl) hQ (by rfl) (fun w hS => ?_) hHeld ?_
                                rotate_left
                                · (try dsimp only at hS); go_simp; (try with_reducible rfl)
                                (try simp only [Act.put])
                                have hcZ := hHeld.2.2
                                have hfZ := (gC.frozen (p := ⟨Q s, j, none⟩) hql3).trans HF3.out
                                refine AnyBut.last (by kernel_rfl) (by rfl) (by kernel_rfl) (fun K hK => ?_)
                                go_simp
                                refine hK.out _ _ ?_
                                refine NoPanic.normal ?_
                                obtain ⟨us, hus⟩ := ((HTJ.out.grow gC).wins s hs).blk
                                have HNEW := hid (And.intro ((HKJ.out.grow gC).set hus j (.slice A10 m10 c10)) (And.intro ((HTJ.out.grow gC).set (f' := seatF (fun a c => dsum qs left (fun p => indP a c (listP pts.length p))) q n0 pts.length (j + 1)) (i := s) (j := j) hs (u := .slice A10 m10 c10) (by rw [(seatF_here hs HPS.out.1).2]; exact kC) (fun a c hac => seatF_other HPS.out.1 HPS.out.2 hac)) ((HGJ2.out.trans gC).set (p := ⟨Q s, j, none⟩) (HO.out s hs) (.slice A10 m10 c10))))
                                clear hcZ hfZ
                                go_wp2
                                exact ⟨⟨j + 1, by omega, by go_num, HNEW.out.1, HNEW.out.2.1, HNEW.out.2.2⟩, by simp only [intOf]; omega⟩
                              · obtain rfl : j = pts.length := by omega
                                have HRG9 := hid (ranges_keep HRG2.out (NK26.out.trans HKJ.out))
                                have HNW := hid ((NK26.out.trans HKJ.out).natF HNA2.out)
                                have HTW := hid (tab_congr (f' := fun i j => dsum qs (fun z => left z && !z.sameKey (key4 (x0, x1, x2, x3))) (fun p => indP i j (listP pts.length p))) HTJ.out fun a c ha hc => by
                                  rw [seatF_all HQL.out ha, ST.out, HXL.out (indP a c)])
                                have HB := hid (dsum_cap HSO.out hD4 HOK.out left oneP_bound)
                                have SW := hid (fun W vb (hg : Grow wr W) (hv : IsNat W vb n0) => sum_any _ vb _ n0 W (HNW.out.grow hg).1 hv (small_4096 (by have := HB.out; omega)) (small_4096 (by have := EC.out; omega)))
                                go_wp2_with (first
                                  | (go_at_call 29; refine (natural_any n0 _ n00 n01).mono ?_; rintro e w8 ⟨v8, rfl, k8, g8⟩; obtain ⟨A8, m8, c8, rfl⟩ := k8.open_)
                                  | (go_at_call 28; refine (SW.out _ _ g8 k8.1).mono ?_; rintro e w9 ⟨v9, rfl, k9, g9⟩; obtain ⟨A9, m9, c9, rfl⟩ := k9.open_))
                                have hX9 : dsum qs (fun z => left z && !z.sameKey (key4 (x0, x1, x2, x3))) (fun p => oneP (listP pts.length p)) = dsum qs left (fun p => oneP (listP pts.length p)) + n0 := by
                                  rw [ST.out, HXL.out oneP]
                                  unfold oneP
                                  omega
                                have HR9 := (ranges_keep HRG9.out (NatKeep.of_grow (g8.trans g9)))
                                exact ⟨⟨_, cnt2, HR9, HTW.out.grow (g8.trans g9), by rw [hX9]; exact k9, HGJ2.out.trans (g8.trans g9)⟩, by rw [HR9.left_eq]; exact HMEAS.out⟩
        · have HX := hid (show rankErr pts l d = swErr pts.length l by rw [HE2.out, if_pos hsw])
          have hswb : (swErr pts.length l != 0) = true := by simp [hsw]
          have HSN := hid hsw
          generalize swErr pts.length l = er at *
          have SWC := hid SWC
          clear hsw
          go_enter Try.func10, Try.ntmps10
          go_wp2_with (first
            | (go_at_call 22; refine HAO3.out.mono ?_; rintro e w0 ⟨rfl, rfl⟩)
            | (go_at_call 24; refine SWC.out.mono ?_; rintro e w1 ⟨rfl, hg1⟩))
          refine bodyPost_ret (results_tmp3 rfl _ _ _) rfl ?_
          exact HF.out _ _ HX.out HSN.out hg1
      · have HX := hid (show rankErr pts l d = 2 by rw [HE.out, hany]; rfl)
        rw [hany] at HAO2
        have HAO3 := hid HAO2
        clear hany HAO2
        go_enter Try.func10, Try.ntmps10
        go_wp2_with (go_at_call 22; refine HAO3.out.mono ?_; rintro e w0 ⟨rfl, rfl⟩)
        refine bodyPost_ret (results_tmp3 rfl _ _ _) rfl ?_
        exact HF.out _ _ HX.out (by decide) (Grow.refl _)
end Go.Proofs.Ytomgilkchlediaa
