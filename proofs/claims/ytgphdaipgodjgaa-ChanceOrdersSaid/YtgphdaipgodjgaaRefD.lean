/-
  The walk of the reference's draws.
-/
import Derived.Test.YtgphdaipgodjgaaRefK
import Derived.Test.YtgphdaipgodjgaaRefC
namespace Go.Proofs.Ytgphdaipgodjgaa
open Go.RowKit

theorem part2_end' {W : Nat → Int} {m x c : Int} {I s : Nat} (h : m < c ∨ (s : Int) < I + c) : part2 W m x I c s = partW W m x (I + 1) s := by
  rcases h with h | h
  · exact part2_end h
  · unfold part2
    rw [partW, if_pos (by omega)]

set_option maxRecDepth 100000 in
set_option maxHeartbeats 4000000 in
theorem rdraws_any (v1 v2 : Value) (u x : List Int) (N : Nat) (w : World) (h1 : IsInts w v1 u) (h2 : IsInts w v2 x) (ok : DrawOk u x) (hn : N ≤ 200) :
    Calls Try.prog 69 #[v1, v2, .int .i64 (N : Int)] w (NatRes w (wayW u x u.length N)) := by
  obtain ⟨A, c, rfl, hc1, hm1, r1⟩ := h1
  obtain ⟨B, d, rfl, hc2, hm2, r2⟩ := h2
  unfold maxLen at hm1 hm2
  have HL := hid ok.hl
  have OK := hid ok
  have hl1 : x.length ≤ u.length := by have := ok.hl; omega
  have hl2 : u.length ≤ x.length := by have := ok.hl; omega
  have h34 := ok.h34
  have f0 : IntKind.i64.wrap ((N : Int) + 1) = (N : Int) + 1 := IntWalk.i64_in _ (by omega)
  clear ok
  go_enter Try.func69, Try.ntmps69
  go_wp2_with (at_make; refine wpList_make_blk w _ rfl (.tmp 13) (.tmp 13) _ rfl 23 (.slice none 0 0) 24 Try.underlying58 infoNat rfl _ _ _ _ (N + 1) rfl rfl (by omega) (by omega) (by omega) (by omega) (Grow.refl _) ?_; intro G w1 hb1 hG _ hg1 _)
  go_wp2_with fail
  refine (nat_any 1 _ (by omega) (by omega)).mono ?_
  rintro e w4 ⟨vN, rfl, kN, hg4⟩
  obtain ⟨A4, m4, c4, rfl⟩ := kN.open_
  have bG := hb1.grow hg4
  have n0 : NatsAt w4 (List.replicate (N + 1) (.slice none 0 0)) (fun _ => 0) := NatsAt.zeros fun _ => rfl
  have nG : NatsAt (w4.setCell ⟨G, 0, none⟩ (.slice A4 m4 c4)) ((List.replicate (N + 1) (.slice none 0 0)).set 0 (.slice A4 m4 c4)) (wayW u x 0) := NatsAt.set (i := 0) n0 bG kN (fun j hj => if_neg hj)
  have bG2 := bG.set 0 (.slice A4 m4 c4)
  have hgG : Grow w (w4.setCell ⟨G, 0, none⟩ (.slice A4 m4 c4)) := (hg1.trans hg4).set hG _
  have q0 : w4.cell? ⟨G, 0, none⟩ = some (.slice none 0 0) := by rw [bG.cell]; simp
  have fz := bG.free 0
  have i0 : (0 : Int) < (N : Int) + 1 := by omega
  clear hb1 hg1 hg4 n0 bG kN
  go_wp2
  go_loopw [7, 8] (fun v i wr => ∃ (k G : Nat) (vs : List Value), k ≤ u.length ∧ i = .int .i64 (k : Int) ∧ v = .slice (some ⟨G, 0, none⟩) (N + 1) (N + 1) ∧ vs.length = N + 1 ∧ w.heap.size ≤ G ∧ Blk wr G 23 vs ∧ NatsAt wr vs (wayW u x k) ∧ Grow w wr) (fun _ i _ => u.length - (intOf i).toNat)
  case atStart => exact ⟨0, G, _, Nat.zero_le _, rfl, rfl, by simp, hG, bG2, nG, hgG⟩
  case round =>
    clear bG2 nG hgG q0 fz
    obtain ⟨k, G, vs, hk, rfl, rfl, hvl, hG, hb, hnat, hg⟩ := hrel
    have HVL := hid hvl
    by_cases hlt : k < u.length
    · obtain ⟨ad, rfl, hba, hx⟩ := (r1.grow hg).int hlt
      have i1 : (k : Int) < (u.length : Int) := by omega
      have i2 : (k : Int) < (x.length : Int) := by omega
      have hm0 := OK.out.hu.at_ hlt
      obtain ⟨M, hM⟩ := Int.eq_ofNat_of_zero_le hm0.1
      have hM4 : M ≤ 4 := by omega
      have HMM := hid hM
      have hX0 := OK.out.hx.at_ (show k < x.length by omega)
      obtain ⟨X, hX⟩ := Int.eq_ofNat_of_zero_le hX0.1
      have hX4 : X ≤ 4 := by omega
      have HXX := hid hX
      clear hM hvl hm0 hX0 hX hx
      go_wp2_with (at_make; refine wpList_make_blk w _ rfl (.tmp 25) (.tmp 25) _ rfl 23 (.slice none 0 0) 24 Try.underlying58 infoNat rfl _ _ _ _ (N + 1) rfl rfl (by omega) (by omega) (by omega) (by omega) hg ?_; intro G2 w5 hb2 hG2 hG2' hg5 hg5')
      have hb5 := hb.grow hg5'
      have hn5 := hnat.grow hg5'
      have hG2G : G2 ≠ G := by have := hb.lt; omega
      have hz2 : NatsAt w5 (List.replicate (N + 1) (.slice none 0 0)) (partW (wayW u x k) M X 0) := NatsAt.zeros fun i => rfl
      clear hb hnat hg hba
      go_loopw [10] (fun i wr => ∃ (I : Nat) (ns : List Value), I ≤ N + 1 ∧ i = .int .i64 (I : Int) ∧ ns.length = N + 1 ∧ Blk wr G 23 vs ∧ NatsAt wr vs (wayW u x k) ∧ Blk wr G2 23 ns ∧ NatsAt wr ns (partW (wayW u x k) M X I) ∧ Grow w wr) (fun i _ => N + 1 - (intOf i).toNat)
      case atStart => exact ⟨0, List.replicate (N + 1) (.slice none 0 0), Nat.zero_le _, rfl, by simp, hb5, hn5, hb2, hz2, hg5⟩
      case round =>
        clear hb5 hn5 hb2 hz2 hg5' hg5
        obtain ⟨I, ns, hI, rfl, hnl, hb, hnat, hb2, hn2, hg⟩ := hrel
        have HNL := hid hnl
        by_cases hIL : I ≤ N
        · have j1 : (I : Int) ≤ (N : Int) := by omega
          obtain ⟨ad2, rfl, _, hx2⟩ := (r2.grow hg).int (show k < x.length by omega)
          rw [HXX.out] at hx2
          have hIv : I < vs.length := by have := HVL.out; omega
          have hvI : vs[I]? = some vs[I] := List.getElem?_eq_getElem hIv
          have kI := hnat I _ hvI
          obtain ⟨A6, m6, c6, e6⟩ := kI.open_
          have hcI : wr.cell? ⟨G, I, none⟩ = some (.slice A6 m6 c6) := by rw [hb.cell, hvI, e6]
          rw [e6] at kI
          clear hvI e6 hnl
          go_wp2
          go_loopw [11] (fun i wr => ∃ (C : Nat) (ns : List Value), i = .int .i64 (C : Int) ∧ X ≤ C ∧ (C ≤ M + 1 ∨ C = X) ∧ ns.length = N + 1 ∧ Blk wr G 23 vs ∧ NatsAt wr vs (wayW u x k) ∧ Blk wr G2 23 ns ∧ NatsAt wr ns (part2 (wayW u x k) M X I C) ∧ Grow w wr ∧ IsNatF wr (.slice A6 m6 c6) (wayW u x k I) ∧ wr.cell? ⟨G, I, none⟩ = some (.slice A6 m6 c6)) (fun i _ => M + 1 - (intOf i).toNat)
          case atStart => exact ⟨X, ns, rfl, Nat.le_refl _, .inr rfl, HNL.out, hb, hnat, hb2, fun i v hv => by rw [part2_start]; exact hn2 i v hv, hg, kI, hcI⟩
          case round =>
            clear hb hnat hb2 hn2 hg kI HNL hcI hx2
            obtain ⟨C, ns, rfl, hXC, hCM, hnl, hb, hnat, hb2, hn2, hg, kI, hcI⟩ := hrel
            obtain ⟨ad, e1, hba, hx⟩ := (r1.grow hg).int hlt
            obtain rfl := Option.some.inj e1
            rw [HMM.out] at hx
            have HNL := hid hnl
            have f2 : IntKind.i64.wrap ((I : Int) + (C : Int)) = (I : Int) + (C : Int) := IntWalk.i64_in _ (by omega)
            by_cases hC : C ≤ M
            · have j2 : (C : Int) ≤ (M : Int) := by omega
              by_cases hIC : I + C ≤ N
              · have f3 : ((I : Int) + (C : Int)).toNat = I + C := by omega
                have j3 : (0 : Int) ≤ (I : Int) + (C : Int) := by omega
                have j4 : (I : Int) + (C : Int) ≤ (N : Int) := by omega
                have j5 : (I : Int) + (C : Int) < (N : Int) + 1 := by omega
                have j6 : (I : Int) < (N : Int) + 1 := by omega
                have j7 : (0 : Int) ≤ (I : Int) := by omega
                have hv0 : ns[I + C]? = some ns[I + C] := List.getElem?_eq_getElem (by omega)
                have k0 := hn2 (I + C) _ hv0
                obtain ⟨A7, m7, c7, e7⟩ := k0.open_
                have hc0 : wr.cell? ⟨G2, I + C, none⟩ = some (.slice A7 m7 c7) := by rw [hb2.cell, hv0, e7]
                rw [e7] at k0
                have hWW : ∀ i, 0 ≤ wayW u x k i ∧ wayW u x k i ≤ thirty k := wayW_small OK.out.hu OK.out.hx k
                have hch := choose_small (m := (M : Int)) (d := (C : Int)) (by omega)
                have hp2 := part2_small (m := (M : Int)) (x := (X : Int)) (c := (C : Int)) (by omega) (by omega) (Int.le_of_lt (thirty_pos k)) hWW I (I + C)
                have hmul : wayW u x k I * chooseI M C ≤ thirty k * 6 := Int.le_trans (Int.mul_le_mul_of_nonneg_left hch.2 (hWW I).1) (Int.mul_le_mul_of_nonneg_right (hWW I).2 (by omega))
                have hth := thirty_pos k
                have sm1 : Small (wayW u x k I) := small_thirty (k := k) (by omega) (by have := (hWW I).2; omega)
                have sm2 : Small (chooseI M C) := small_lit6 hch.2
                have sm3 : Small (part2 (wayW u x k) M X I C (I + C)) := small_thirty (k := k) (by omega) hp2.2
                have sm4 : Small (wayW u x k I * chooseI M C) := small_thirty (k := k) (by omega) (by omega)
                have eP := part2_at (W := wayW u x k) (m := (M : Int)) (x := (X : Int)) (c := (C : Int)) (I := I) (s := I + C) (by omega) (by omega) (by omega)
                have hoth : ∀ j : Nat, j ≠ I + C → part2 (wayW u x k) M X I (((C + 1 : Nat)) : Int) j = part2 (wayW u x k) M X I C j := fun j hj => by
                  rw [show (((C + 1 : Nat)) : Int) = (C : Int) + 1 by omega]
                  exact part2_other (by omega)
                have HOTH := hid hoth
                have ch := fun W => rBinomial_any (M : Int) (C : Int) W
                rw [if_neg (by omega)] at ch
                have CH := hid ch
                have PR := hid fun va vb W h1 h2 => times_any va vb (wayW u x k I) (chooseI M C) W h1 h2 sm1 sm2
                have SU := hid fun va vb W h1 h2 => add_any va vb (part2 (wayW u x k) M X I C (I + C)) (wayW u x k I * chooseI M C) W h1 h2 sm3 sm4
                rw [← eP] at SU
                have KI := hid kI
                have K0 := hid k0
                have HN2 := hid hn2
                have HN := hid hnat
                have gd : Grow wr wr.drew := (Grow.refl wr).drew
                have hf0 := hb2.free (I + C)
                clear hoth ch hv0 e7 hnl hWW hch hp2 hmul hth sm1 sm2 sm3 sm4 eP kI k0 hn2 hnat
                go_wp2
                go_region_law (first
                  | (go_simp; go_at_call 22; refine (CH.out _).mono ?_; rintro e wA ⟨vA, rfl, kA, gA0⟩; have gA := gd.trans gA0; obtain ⟨A8, m8, c8, rfl⟩ := kA.open_; have y1 := gA.cell_some hc0; have y1' := gA.cell_some hcI)
                  | (go_simp; go_at_call 55; refine (PR.out _ _ _ (KI.out.grow gA).1 kA.1).mono ?_; rintro e wB ⟨vB, rfl, kB, gB0⟩; have gB := gA.trans gB0; obtain ⟨A9, m9, c9, rfl⟩ := kB.open_; have y2 := gB.cell_some hc0)
                  | (go_simp; go_at_call 77; refine (SU.out _ _ _ (K0.out.grow gB).1 kB.1).mono ?_; rintro e wC ⟨vC, rfl, kC, gC0⟩; have gC := gB.trans gC0; obtain ⟨A10, m10, c10, rfl⟩ := kC.open_; have y3 := gC.cell_some hc0; have y4 := (gC.frozen (p := ⟨G2, I + C, none⟩) hb2.lt).trans hf0))
                all_goals
                  go_wp2
                  refine ⟨⟨C + 1, ns.set (I + C) (.slice A10 m10 c10), by go_num, by omega, by omega, by rw [List.length_set]; exact HNL.out, (hb.grow gC).far (by simpa using hG2G.symm) _, (HN.out.grow gC).setFar (hb2.grow gC) (by decide) _, (hb2.grow gC).set (I + C) _, NatsAt.set (i := I + C) (HN2.out.grow gC) (hb2.grow gC) kC HOTH.out, (hg.trans gC).set (by simp; omega) _, (KI.out.grow gC).setFar (hb2.grow gC) (by decide) _, ?_⟩, by simp only [intOf]; omega⟩
                  rw [World.cell?_setCell_other _ _ _ _ (by intro h; simp only [Addr.mk.injEq] at h; omega)]
                  exact gC.cell_some hcI
              · have j4 : ¬ (I : Int) + (C : Int) ≤ (N : Int) := by omega
                have hnn : NatsAt wr ns (partW (wayW u x k) M X (I + 1)) := fun i v hv => by
                  have hi := (List.getElem?_eq_some_iff.1 hv).1
                  have := hn2 i v hv
                  rwa [part2_end' (.inr (by omega))] at this
                clear hnl hCM
                go_wp2
                exact ⟨⟨I + 1, ns, by omega, by go_num, HNL.out, hb, hnat, hb2, hnn, hg⟩, by simp only [intOf]; omega⟩
            · have hnn : NatsAt wr ns (partW (wayW u x k) M X (I + 1)) := fun i v hv => by
                have := hn2 i v hv
                rwa [part2_end' (.inl (by omega))] at this
              clear hnl hCM
              go_wp2
              exact ⟨⟨I + 1, ns, by omega, by go_num, HNL.out, hb, hnat, hb2, hnn, hg⟩, by simp only [intOf]; omega⟩
        · obtain rfl : I = N + 1 := by omega
          have hnn : NatsAt wr ns (wayW u x (k + 1)) := fun i v hv => by
            have hi := (List.getElem?_eq_some_iff.1 hv).1
            have h0 := hn2 i v hv
            rw [show N + 1 = i + 1 + (N - i) by omega, partW_more (by omega)] at h0
            have e1 : u.getD k 0 = (M : Int) := by rw [← HMM.out]; simp [List.getD, hlt]
            have e2 : x.getD k 0 = (X : Int) := by rw [← HXX.out]; simp [List.getD, show k < x.length by omega]
            show IsNatF wr v (stepW (wayW u x k) (u.getD k 0) (x.getD k 0) i)
            rw [e1, e2]
            exact h0
          have hGG : w.heap.size ≤ G2 := hG2
          clear hnl
          go_wp2
          exact ⟨⟨k + 1, G2, ns, by omega, by go_num, by simp, HNL.out, hGG, hb2, hnn, hg⟩, by simp only [intOf]; omega⟩
    · obtain rfl : k = u.length := by omega
      have hNv : N < vs.length := by omega
      have hvN : vs[N]? = some vs[N] := List.getElem?_eq_getElem hNv
      have kN := hnat N _ hvN
      obtain ⟨A7, m7, c7, e7⟩ := kN.open_
      have hcN : wr.cell? ⟨G, N, none⟩ = some (.slice A7 m7 c7) := by rw [hb.cell, hvN, e7]
      rw [e7] at kN
      have KN := hid kN
      have j5 : (N : Int) < (N : Int) + 1 := by omega
      have j7 : (0 : Int) ≤ (N : Int) := by omega
      clear hvN e7 kN hvl hnat
      go_wp2
      go_ret
      exact ⟨_, rfl, KN.out, hg⟩
end Go.Proofs.Ytgphdaipgodjgaa
